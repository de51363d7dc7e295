/- The table, in parts. Conditions: none. -/
import Derived.Test.YtbglklaocjifhaaGreatGT1
import Derived.Test.YtbglklaocjifhaaGreatGT2
set_option linter.unusedSimpArgs false
set_option linter.unusedVariables false
set_option maxHeartbeats 0
set_option maxRecDepth 100000
namespace Go.Proofs.Tryz.Run
open Go Go.Vf
noncomputable section
def j2t:Qx [0xff052210040f010b02b30e09820d0c0984050001260a05ff08220105030008000904030708cd21060005c880068a0006ff2303c88004ff210400011302050401,0xb00f8c18004ff211208ffc908c092000b1104]:=⟨_,by cbv⟩
def f3f:x7:=j2t.1
def j0f:Qx [0x128a0424000b1104108e0f0e020d02b30405010dff2503010503060005c88005ff210a04ff090800010199088a078102008307ff25008f02ff21003102030401,0x8117fe1dff061a8117fe1bff090617fe1eff0702008317fe1cff051918018417fe040617fe030417fe021601c815d000060f00020303060205031406ffc913c1,0xc829cd0622032806ffc927c10693c826018bfc25240184060424030502080023040ec322178c0d211bcb17fe0cc920c117fe0b1f8117fe0a1e1d018417fe081c,0xc05ffc90bc00cff050bff932f30018bfc2c2b0184c92ec02d812c2b0184060497000b2a04]:=⟨_,by cbv⟩
def f3d:x7:=j0f.1
def j3y:Qx [0x200]:=⟨_,by cbv⟩
def f9k:x7:=j3y.1
def j0k:Qx [0xfe040315fe0314021312cf0101000911000203030602051109ff0811ff220105030008000e040d0ccd020823030600050b08ffc90ac0010aff230035020e0401,0x40e00008e1f1a021602b315fe0d1e028215fe0819028215fe1aff0c1d1b028415fe0bc91cc115fe0a0915fe090015fe1bff071817028415fe060915fe050015,0x5000200000084c928c10200000083090200000082000109000025ff120002030503020800220410c321158c0fc820cd15fe010a0b090c060507010002030d08,0x1029270284000b0a0c0d080706050100090e0c00008f2e33028bfc0e262502840d310282092d02822eff0c302f02840b090a002fff082c2a028407c92bc10609,0x1008ffc90fc010ff080fff932409ffc923c124ff0923ff93010e0c0b0a090807060504030201000f0d10110000913234028bfc]:=⟨_,by cbv⟩
def f6p:x7:=j0k.1
def j1n:Qx [0xff052210040f010b02b30e02820d0c0284050001260a05ff08220105030008000904030708cd21060005c880068a0006ff2303c88004ff210400011302050401,0xb00f8c18004ff211208ffc908c092000b1104]:=⟨_,by cbv⟩
def f9v:x7:=j1n.1
def j2b:Qx [0xb0c04ff0bc4088c0a09cf08fd028108fd0008fd070605cd01810029c38004ff210400010d00]:=⟨_,by cbv⟩
def g2p:x7:=j2b.1
def j3c:Qx [0xb0502ff048e0301b88501028224c380008f220200010600010101]:=⟨_,by cbv⟩
def f6g:x7:=j3c.1
def j0d:Qx [0xb0502ff0403cc000024c38002ff210200010600]:=⟨_,by cbv⟩
def f8i:x7:=j0d.1
def j2f:Qx [0xb0502ff0403cc000024c38002ff210200010600]:=⟨_,by cbv⟩
def f6o:x7:=j2f.1
def j3r:Qx [0xb0703ff068e05010402b3020282018125c380008f02ff220300010802020101]:=⟨_,by cbv⟩
def f6q:x7:=j3r.1
def j3p:Qx [0xb0703ff068e05010402b300018125c38003ff210300010802020101]:=⟨_,by cbv⟩
def f8m:x7:=j3p.1
def j0t:Qx [0x902820aff0200000082028108ff020000008001078206ff050300830bff0301008309ff02000000810007ff0a000203c38005ff210500010f00080100070102,0xb090e05ff010503060407020100080000880d08070604e8850005030604040000870c0a020109fa85060b8104]:=⟨_,by cbv⟩
def f5r:x7:=j0t.1
def j2i:Qx [0xb0804ff070602010ffa8501058102018325c88004ff008f02ff220400010900030101]:=⟨_,by cbv⟩
def f4y:x7:=j2i.1
def j0y:Qx [0xb0803ff0704cb0681c805018401810026c38003ff210300010900]:=⟨_,by cbv⟩
def f7b:x7:=j0y.1
def j4p:Qx [0xc092000b1104ff052210040f0bcb0e810d0c0184050001260a05ff08220105030008000904030708cd21060005c880068a0006ff2303c88004ff210400011300,0xb00f8c18004ff211208ffc908]:=⟨_,by cbv⟩
def g2m:x7:=j4p.1
def Zy:XT:=(.node (nat_lit 156) g0u (.node (nat_lit 109) g0e (.node (nat_lit 65) M' (.node (nat_lit 37) Z5 (.node (nat_lit 30) Z0 (.node (nat_lit 25) ZY (.node (nat_lit 20) ZX (.node (nat_lit 19) ZW .leaf .leaf) .leaf) (.node (nat_lit 28) ZZ .leaf .leaf)) (.node (nat_lit 35) Z3 (.node (nat_lit 33) Z2 (.node (nat_lit 31) Z1 .leaf .leaf) .leaf) (.node (nat_lit 36) Z4 .leaf .leaf))) (.node (nat_lit 58) q' (.node (nat_lit 45) Z8 (.node (nat_lit 40) Z7 (.node (nat_lit 38) Z6 .leaf .leaf) .leaf) (.node (nat_lit 47) Z9 .leaf .leaf)) (.node (nat_lit 63) I' (.node (nat_lit 62) E' .leaf .leaf) (.node (nat_lit 64) J' .leaf .leaf)))) (.node (nat_lit 82) a_ (.node (nat_lit 74) V' (.node (nat_lit 70) Q' (.node (nat_lit 67) P' (.node (nat_lit 66) O' .leaf .leaf) .leaf) (.node (nat_lit 73) U' .leaf .leaf)) (.node (nat_lit 80) Y' (.node (nat_lit 75) X' .leaf .leaf) (.node (nat_lit 81) Z' .leaf .leaf))) (.node (nat_lit 97) YO (.node (nat_lit 88) d_ (.node (nat_lit 84) c_ (.node (nat_lit 83) b_ .leaf .leaf) .leaf) (.node (nat_lit 89) e_ .leaf .leaf)) (.node (nat_lit 99) f_ (.node (nat_lit 98) ZC .leaf .leaf) (.node (nat_lit 108) f9p .leaf .leaf))))) (.node (nat_lit 133) f3e (.node (nat_lit 119) f4d (.node (nat_lit 114) f3s (.node (nat_lit 112) f8p (.node (nat_lit 111) f8s (.node (nat_lit 110) N1 .leaf .leaf) .leaf) (.node (nat_lit 113) f6y .leaf .leaf)) (.node (nat_lit 117) f3b (.node (nat_lit 116) f6h (.node (nat_lit 115) f6a .leaf .leaf) .leaf) (.node (nat_lit 118) f8x .leaf .leaf))) (.node (nat_lit 124) g2i (.node (nat_lit 122) f9i (.node (nat_lit 121) f8o (.node (nat_lit 120) f6k .leaf .leaf) .leaf) (.node (nat_lit 123) g1d .leaf .leaf)) (.node (nat_lit 131) f5h (.node (nat_lit 130) f8j .leaf .leaf) (.node (nat_lit 132) f6u .leaf .leaf)))) (.node (nat_lit 147) g2u (.node (nat_lit 138) g2s (.node (nat_lit 136) f4q (.node (nat_lit 135) g1m (.node (nat_lit 134) f8u .leaf .leaf) .leaf) (.node (nat_lit 137) g2h .leaf .leaf)) (.node (nat_lit 145) f9y (.node (nat_lit 142) g2c .leaf .leaf) (.node (nat_lit 146) f7v .leaf .leaf))) (.node (nat_lit 152) f5g (.node (nat_lit 150) f6j (.node (nat_lit 149) g2x (.node (nat_lit 148) g2q .leaf .leaf) .leaf) (.node (nat_lit 151) f6c .leaf .leaf)) (.node (nat_lit 154) f5f (.node (nat_lit 153) f8q .leaf .leaf) (.node (nat_lit 155) f4v .leaf .leaf)))))) (.node (nat_lit 211) f9n (.node (nat_lit 187) f6w (.node (nat_lit 171) f4w (.node (nat_lit 162) f6s (.node (nat_lit 160) f6d (.node (nat_lit 158) g2t (.node (nat_lit 157) g0v .leaf .leaf) .leaf) (.node (nat_lit 161) f2x .leaf .leaf)) (.node (nat_lit 169) g2k (.node (nat_lit 168) f2z (.node (nat_lit 163) g1g .leaf .leaf) .leaf) (.node (nat_lit 170) g0b .leaf .leaf))) (.node (nat_lit 176) f4g (.node (nat_lit 174) f5v (.node (nat_lit 173) g1h (.node (nat_lit 172) g0i .leaf .leaf) .leaf) (.node (nat_lit 175) f3t .leaf .leaf)) (.node (nat_lit 185) f5x (.node (nat_lit 184) g2g .leaf .leaf) (.node (nat_lit 186) g0o .leaf .leaf)))) (.node (nat_lit 199) f7w (.node (nat_lit 193) f7c (.node (nat_lit 190) f3n (.node (nat_lit 189) f6i (.node (nat_lit 188) g1b .leaf .leaf) .leaf) (.node (nat_lit 191) g0r .leaf .leaf)) (.node (nat_lit 197) f7j (.node (nat_lit 196) g1l .leaf .leaf) (.node (nat_lit 198) f5i .leaf .leaf))) (.node (nat_lit 204) f7y (.node (nat_lit 202) f5e (.node (nat_lit 201) f9j (.node (nat_lit 200) f4j .leaf .leaf) .leaf) (.node (nat_lit 203) N4 .leaf .leaf)) (.node (nat_lit 208) f8n (.node (nat_lit 205) g1a .leaf .leaf) (.node (nat_lit 210) f3m .leaf .leaf))))) (.node (nat_lit 237) f3r (.node (nat_lit 228) f7d (.node (nat_lit 216) g1x (.node (nat_lit 214) g2f (.node (nat_lit 213) f7h (.node (nat_lit 212) f7q .leaf .leaf) .leaf) (.node (nat_lit 215) g2r .leaf .leaf)) (.node (nat_lit 226) f7z (.node (nat_lit 225) f4c (.node (nat_lit 222) f8a .leaf .leaf) .leaf) (.node (nat_lit 227) f5j .leaf .leaf))) (.node (nat_lit 233) f4a (.node (nat_lit 231) g1t (.node (nat_lit 230) g0k (.node (nat_lit 229) f5s .leaf .leaf) .leaf) (.node (nat_lit 232) f2w .leaf .leaf)) (.node (nat_lit 235) f5y (.node (nat_lit 234) f3o .leaf .leaf) (.node (nat_lit 236) f6l .leaf .leaf)))) (.node (nat_lit 253) f6g (.node (nat_lit 242) f9k (.node (nat_lit 240) f3f (.node (nat_lit 239) f8t (.node (nat_lit 238) g1v .leaf .leaf) .leaf) (.node (nat_lit 241) f3d .leaf .leaf)) (.node (nat_lit 251) f9v (.node (nat_lit 243) f6p .leaf .leaf) (.node (nat_lit 252) g2p .leaf .leaf))) (.node (nat_lit 264) f5r (.node (nat_lit 262) f6q (.node (nat_lit 255) f6o (.node (nat_lit 254) f8i .leaf .leaf) .leaf) (.node (nat_lit 263) f8m .leaf .leaf)) (.node (nat_lit 266) f7b (.node (nat_lit 265) f4y .leaf .leaf) (.node (nat_lit 271) g2m .leaf .leaf)))))))
end
end Go.Proofs.Tryz.Run
