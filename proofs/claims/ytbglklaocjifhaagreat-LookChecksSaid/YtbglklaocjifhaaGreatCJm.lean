/- The program's Split. The program's search of the best plan. The program's search, for all numbers of looks left; the reference's, for all depths. The program's Best, and with copies. The program's Decided; Decided, Split and Check with copies. LookChecks answers true: the walks. LookBest answers true. LookBest answers true. LookChecks answers true. Conditions: none. -/
import Derived.Test.YtbglklaocjifhaaGreatCXg
import Derived.Test.YtbglklaocjifhaaGreatCXj
import Derived.Test.YtbglklaocjifhaaGreatCXo
open Go.Proofs.Tryz renaming prog->AA
open BEq renaming rfl->AB
open Go.Vf.a0x renaming refl->AC
open Int renaming ofNat->AD,ofNat_eq_natCast->AH
open Bool renaming false->AE,true->AG
open Go.Proofs.YtbglklaocjifhaaGreat.Tryz renaming mixed->AF
open List renaming cons_append->AI,nil_append->AJ,length_pos_iff->AL
open Nat renaming zero_le->AK,not_lt_zero->AM,le_trans->AN,le_refl->AO
set_option linter.unusedSimpArgs false
set_option linter.unusedVariables false
set_option maxHeartbeats 0
set_option maxRecDepth 100000
namespace Go.Proofs.Tryz.Run
open Go Go.Vf Go.Proofs
open Go.Proofs.YtbglklaocjifhaaGreat
def i97:a0c×a0c:=match c97 with
 | .seq _ (.seq _ (.seq _ (.seq _ (.seq _ (.seq (.seq _ (.block _ (.range _ _ a b))) _)))))=>(a,b)
 |_=>(.ret,.ret)
def k6h (s:LSt):a0f:= .loop s (b5r [(17,.ptr 2 0),(18,.ptr 3 0)] 69) [56,57] (fun ca cb=>comp AA x97.A ca=some i97.1/\comp AA x97.A cb=some i97.2)
def k6f (A B:List DV)(i:Int)(sn:Nat)(se:Nat->List DV)(lp:a0f)(p:Nat)(ce pe:Nat->List DV):List a0f:=
 [.var (A.map .d),.var (B.map .d),.var [.msl 7 2 none p AE],.var [.msl 8 1 none p AE],.var [.d (.sl 9 sn se)],.var [int i],lp,.arr 2 p ce,.arr 1 p pe]
theorem k6d (a0 a1 a2 a3 a4 b0 b1 b2 b3 b4:DV)(i:Int)(sn:Nat)(se:Nat->List DV)(p:Nat)(ce pe ce' pe':Nat->List DV)(n:Nat)(e9:Nat->List DV)(vf vn:Int)
 (hp:p<=1000000) (hce: ∀j,j<p->RL (ce j) (ce' j)) (hce2:ce' p=[.int .u8 (.v vf),.int .i64 (.v vn)]) (hpe: ∀j,j<p->RL (pe j) (pe' j)) (hpe2:pe' p=[.int .i64 (.v n)]):
 b5d AA 6 [.agg [u8 vf,int vn],.msl 9 9 none n AE] (a2u (k6f [a0,a1,a2,a3,a4] [b0,b1,b2,b3,b4] i sn se (k6h .ready) p ce pe) [.arr 9 n e9])
  (fun pg v h'=>(∀x,x∈pg->x∈[7,8])/\v= .d (.bool AG)/\ ∃o,h'=a2u (k6f [a0,a1,a2,a3,a4] [b0,b1,b2,b3,b4] i sn se (k6h .ready) (p+1) ce' pe') [o]):=by
 refine b5d.cut (b9t AF okP (A:=x97.A) rfl (fun _ _ h=>h) rfl fun ro E Sg hS=> ?_);have e:=b2k hS;cbv;refine⟨fun h=>(nomatch h),_,_,_,rfl,?_⟩;cbv;refine a1g hS trivial (a1g hS (f1i hS (by omega)) (a1g hS (c3d hS) (a1g hS trivial (a1g hS (f1i hS (by omega)) ?_))));refine⟨fun h=>(by rcases h with _|⟨_,h⟩<;>rcases h with _|⟨_,h⟩<;>cases h),_,_,_,rfl,[8,7],fun m _ h=>h,?_⟩;refine⟨a2u (k6f [a0,a1,a2,a3,a4] [b0,b1,b2,b3,b4] i sn se (k6h .ready) (p+1) ce' pe') [.arr 9 n e9],.d (.bool AG),?_,AC _,by simp[k6f,a2u],.inl ⟨rfl,rfl⟩,fun x h=> ?_,rfl,_,rfl⟩
 ·exact .cons (.refl _) (.cons (.refl _) (.cons (.var (.cons (d8n hS) .nil)) (.cons (.var (.cons (d8n hS) .nil)) (.cons (.refl _) (.cons (.refl _) (.cons (.refl _)
   (.cons (d7h hS hce (by rw[hce2];exact .refl _)) (.cons (d7h hS hpe (by rw[hpe2];exact .one (DL.int (e.ofNat n)))) (.cons (.refl _) (.nil _))))))))))
 ·simp only[List.mem_cons,List.not_mem_nil,or_false] at h⊢;omega
theorem k6a (A B:DiR){ns no nl:Nat}{sz od:Nat->Int}{lk:Nat->DiR}{er x:Int}(h131:a0j AA AE 131 [isl ns sz,isl no od,dsl nl lk,A.av,B.av] (.tuple [.d (.raw (.pointer none)),int er]))(h0:er≠0):
 a0j AA AE 97 [isl ns sz,isl no od,dsl nl lk,A.av,B.av,int x] (.tuple [.d .nil,.d .nil,int er]):=by
 obtain⟨ins,isz,ino,iod,ine,ien,inn,ivar,ink,ikid,iroot⟩:=A;obtain⟨gns,gsz,gno,god,gne,gen,gnn,gvar,gnk,gkid,groot⟩:=B;refine a0k AF okP g6b _ rfl fun E Sg hbs hS=> ?_;have e:=b2k hS;cbv;refine a0v hS _ h131 ?_;cbv;have hb0:(er==AD 0)=AE:=beq_false_of_ne h0;simp only[e.ieq,e.bnot,hb0];cbv;exact AC _
theorem k5x (A B:DiR){ns no nl n:Nat}{sz od:Nat->Int}{lk:Nat->DiR}{x0 x1 x2 x3:DV}{e4:Nat->List DV}{x:Int}(hx:x<0\/(nl:Int)<=x)
 (h131:a0j AA AE 131 [isl ns sz,isl no od,dsl nl lk,A.av,B.av] (.tuple [.dptr [x0,x1,x2,x3,.sl 9 n e4] 0,int 0])):
 a0j AA AE 97 [isl ns sz,isl no od,dsl nl lk,A.av,B.av,int x] (.tuple [.d .nil,.d .nil,int 3]):=by
 obtain⟨ins,isz,ino,iod,ine,ien,inn,ivar,ink,ikid,iroot⟩:=A;obtain⟨gns,gsz,gno,god,gne,gen,gnn,gvar,gnk,gkid,groot⟩:=B;refine a0k AF okP g6b _ rfl fun E Sg hbs hS=> ?_;have e:=b2k hS;cbv;refine a0v hS _ h131 ?_;cbv;simp only[e.ieq,e.bnot];cbv;by_cases h:x<0
 ·have h1:Sg.ilt x (AD 0)=AG:=by rw[e.ilt];exact decide_eq_true h
  simp only[h1];cbv;exact a3x.tuple (.cons (AC _) (.cons (AC _) (.cons (a6c rfl) .nil)))
 ·have h1:Sg.ilt x (AD 0)=AE:=by rw[e.ilt];exact decide_eq_false h
  have h2:Sg.ile (Sg.ofNat nl) x=AG:=by rw[e.ile,e.ofNat];exact decide_eq_true (hx.resolve_left h)
  simp only[h1];cbv;simp only[h2];cbv;exact a3x.tuple (.cons (AC _) (.cons (AC _) (.cons (a6c rfl) .nil)))
theorem k6c (A B:DiR){ns no nl:Nat}{sz od:Nat->Int}{lk:Nat->DiR}{x0 x1 x2 x3:DV}{e4:Nat->List DV}{x:Nat}(hx:x<nl)
 (h131:a0j AA AE 131 [isl ns sz,isl no od,dsl nl lk,A.av,B.av] (.tuple [.dptr [x0,x1,x2,x3,.sl 9 0 e4] 0,int 0])):
 a0j AA AE 97 [isl ns sz,isl no od,dsl nl lk,A.av,B.av,int x] (.tuple [.d .nil,.d .nil,int 12]):=by
 obtain⟨ins,isz,ino,iod,ine,ien,inn,ivar,ink,ikid,iroot⟩:=A;obtain⟨gns,gsz,gno,god,gne,gen,gnn,gvar,gnk,gkid,groot⟩:=B;refine a0k AF okP g6b _ rfl fun E Sg hbs hS=> ?_;have e:=b2k hS;cbv;refine a0v hS _ h131 ?_;cbv;simp only[e.ieq,e.bnot];cbv;have h1:Sg.ilt (AD x) (AD 0)=AE:=by rw[e.ilt];exact decide_eq_false (by simp only[AH];omega)
 have h2:Sg.ile (Sg.ofNat nl) (AD x)=AE:=by rw[e.ile,e.ofNat];exact decide_eq_false (by simp only[AH];omega)
 have h3:Sg.ieq (Sg.ofNat 0) (AD 0)=AG:=by rw[e.ieq,e.ofNat];rfl
 simp only[h1];cbv;simp only[h2];cbv;simp only[h3];cbv;exact a3x.tuple (.cons (AC _) (.cons (AC _) (.cons (a6c rfl) .nil)))
theorem k6e (A B:DiR){ns no nl:Nat}{sz od:Nat->Int}{lk:Nat->DiR}{x0 x1 x2 x3:DV}{l:List Nat}(hl0:l≠[])(hll:l.length<=1000000)(F:Nat->Nat->VaR)(g:Nat->Bool){i:Nat}(hi:i<nl)(hi4:i<4)
 (hok: ∀q,q∈l->a1i (F q i)/\0<=(F q i).fault)
 (h131:a0j AA AE 131 [isl ns sz,isl no od,dsl nl lk,A.av,B.av] (.tuple [.dptr [x0,x1,x2,x3,.sl 9 l.length fun j=>spR F g (l.getD j 0)] 0,int 0]))
 (X:Nat->VaR) (hX: ∀q,F q i=X q):
 a0j AA AE 97 [isl ns sz,isl no od,dsl nl lk,A.av,B.av,int i] (.tuple [vsl (cellsOf X l).length fun j=>(cellsOf X l).getD j ⟨0,0⟩,isl (cellsOf X l).length fun j=>((j7u X ((cellsOf X l).getD j ⟨0,0⟩) l).length:Int),int 0]):=by
 obtain⟨ins,isz,ino,iod,ine,ien,inn,ivar,ink,ikid,iroot⟩:=A;obtain⟨gns,gsz,gno,god,gne,gen,gnn,gvar,gnk,gkid,groot⟩:=B;have hpos:0<l.length:=AL.2 hl0;obtain⟨n,hn⟩: ∃n,l.length=n:=⟨_,rfl⟩;obtain⟨se,hse⟩: ∃f:Nat->List DV,(fun j=>spR F g (l.getD j 0))=f:=⟨_,rfl⟩;have hsl:DV.sl 9 l.length (fun j=>spR F g (l.getD j 0))= .sl 9 n se:=by rw[hn,hse]
 rw[hsl] at h131;obtain⟨NN,hNN⟩: ∃z,(cellsOf X l).length=z:=⟨_,rfl⟩;obtain⟨SS,hSS⟩: ∃f:Nat->VaR,∀p,(cellsOf X l).getD p ⟨0,0⟩=f p:=⟨_,fun _=>rfl⟩;obtain⟨MM,hMM⟩: ∃f:Nat->Nat,∀p,(j7u X (SS p) l).length=f p:=⟨_,fun _=>rfl⟩;have hNl:NN<=1000000:=by rw[<-hNN];exact AN (j9v _ _) hll
 simp only[hNN,hSS,hMM];refine a0k AF okP g6b _ rfl fun E Sg hbs hS=> ?_;have e:=b2k hS;cbv;refine a0v hS _ h131 ?_;cbv;simp only[e.ieq,e.bnot];cbv;have h1:Sg.ilt (AD i) (AD 0)=AE:=by rw[e.ilt];exact decide_eq_false (by simp only[AH];omega)
 have h2:Sg.ile (Sg.ofNat nl) (AD i)=AE:=by rw[e.ile,e.ofNat];exact decide_eq_false (by simp only[AH];omega)
 have h3:Sg.ieq (Sg.ofNat n) (AD 0)=AE:=by rw[e.ieq,e.ofNat];exact beq_false_of_ne (by simp only[AH];omega)
 simp only[h1];cbv;simp only[h2];cbv;simp only[h3];cbv;refine h3v hS (a1h.frame (k2q (.sl 9 n se) .nil i ⟨n,se,rfl⟩) [] rfl rfl trivial) ?_;rintro pg v H' ⟨pg0,v0,h0,⟨rfl,rfl,rfl⟩,rfl,rfl,rfl⟩;cbv;refine i0x hS rfl ?_;have hg:=k3v (k:=9) (y:=6) (a:=4) (b:=5) (by decide) (by decide) (by decide)
  (fun p=>k6f [.sl 1 ins fun i=>[.int .i64 (.v (isz i))],.sl 1 ino fun i=>[.int .i64 (.v (iod i))],.sl 2 ine fun i=>(ien i).row,.sl 2 inn fun i=>[.int .i64 (.v (ivar i)),.sl 1 (ink i) fun j=>[.int .i64 (.v (ikid i j))]],.int .i64 (.v iroot)]
    [.sl 1 gns fun i=>[.int .i64 (.v (gsz i))],.sl 1 gno fun i=>[.int .i64 (.v (god i))],.sl 2 gne fun i=>(gen i).row,.sl 2 gnn fun i=>[.int .i64 (.v (gvar i)),.sl 1 (gnk i) fun j=>[.int .i64 (.v (gkid i j))]],.int .i64 (.v groot)] i n se (k6h .ready) p (fun t=>(SS t).row) (fun t=>[.int .i64 (.v (MM t))]))
  (fun p=>k6f [.sl 1 ins fun i=>[.int .i64 (.v (isz i))],.sl 1 ino fun i=>[.int .i64 (.v (iod i))],.sl 2 ine fun i=>(ien i).row,.sl 2 inn fun i=>[.int .i64 (.v (ivar i)),.sl 1 (ink i) fun j=>[.int .i64 (.v (ikid i j))]],.int .i64 (.v iroot)]
    [.sl 1 gns fun i=>[.int .i64 (.v (gsz i))],.sl 1 gno fun i=>[.int .i64 (.v (god i))],.sl 2 gne fun i=>(gen i).row,.sl 2 gnn fun i=>[.int .i64 (.v (gvar i)),.sl 1 (gnk i) fun j=>[.int .i64 (.v (gkid i j))]],.int .i64 (.v groot)] i n se (k6h .ready) p (fun t=>(SS t).row) (fun t=>[.int .i64 (.v (MM t))]))
  (fun _=>rfl) (fun _=>rfl) (fun _=>rfl) (fun _=>rfl) l hl0 hll i hi4 F g hok (by rw[hsl];rfl) rfl X hX SS hSS NN hNN (fun _=>AG) [7,8] (by simp) ?_
 ·refine a1h.nilH 2 (fun _=>[]) ?_ (b1c _ _ _) (c2f (m:=2) (i:=0) rfl rfl);refine a1h.nilH 1 (fun _=>[]) ?_ (b1c _ _ _) (c2f (m:=3) (i:=0) rfl rfl);refine a1h.heap (a1h.mono ?_ hg) (.cons (.refl _) (.cons (.refl _) (.cons (.refl _) (.cons (.refl _) (.cons (.refl _) (.cons (.refl _) (.cons (a9v.loop (d2w rfl ⟨AC _,AC _,trivial⟩) fun a b h=>h) (.cons (.arr fun i hi=>absurd hi (AM i)) (.cons (.arr fun i hi=>absurd hi (AM i)) (.nil _)))))))))) rfl;rintro pg v H' ⟨rfl,rfl,hcase⟩;refine⟨show (6:Nat)∉[7,8] by decide,?_⟩;rcases hcase with⟨_,rfl⟩|⟨p,_,_,hz,_⟩
  ·refine⟨_,_,_,_,rfl,?_⟩;cbv;refine a1g hS (e8l hS (AO _)) (a1g hS (e8l hS (AO _)) ?_);exact a3x.tuple (.cons (AC _) (.cons (AC _) (.cons (a6c rfl) .nil)))
  ·cases hz
 ·intro p m pe hp _ hlen hpe;exact k6d _ _ _ _ _ _ _ _ _ _ _ _ _ p _ _ _ _ m pe (SS p).fault (SS p).n (by omega) (fun j _=> .refl _) rfl (fun j _=> .refl _) (by rw[<-hMM,hlen])
theorem k5q (A B:DiR){ns no nl:Nat}{sz od:Nat->Int}{lk:Nat->DiR}{er:Int}(h108:a0j AA AE 108 [isl ns sz,isl no od,dsl nl lk,A.av,B.av] (.tuple [.d (.raw (.pointer none)),int er]))(h0:er≠0):
 a0j AA AG 96 [isl ns sz,isl no od,dsl nl lk,A.av,B.av] (.tuple [bool AE,int er]):=by
 obtain⟨ins,isz,ino,iod,ine,ien,inn,ivar,ink,ikid,iroot⟩:=A;obtain⟨gns,gsz,gno,god,gne,gen,gnn,gvar,gnk,gkid,groot⟩:=B;refine b4i (by intro z hz;simp at hz;rcases hz with rfl|rfl<;>trivial) (a0k AF okP g7p _ rfl fun E Sg hbs hS=> ?_);have e:=b2k hS;cbv;refine a0v hS _ h108 ?_;cbv;have hb0:(er==AD 0)=AE:=beq_false_of_ne h0;simp only[e.ieq,e.bnot,hb0];cbv;exact AC _
theorem k5y (A B:DiR){ns no nl n:Nat}{sz od:Nat->Int}{lk:Nat->DiR}{x0 x1 x2 x3:DV}{e4:Nat->List DV}{b:Bool}(h108:a0j AA AE 108 [isl ns sz,isl no od,dsl nl lk,A.av,B.av] (.tuple [.dptr [x0,x1,x2,x3,.sl 9 n e4] 0,int 0]))(h130:a0j AA AG 130 [.d (.sl 9 n e4)] (bool b)):
 a0j AA AG 96 [isl ns sz,isl no od,dsl nl lk,A.av,B.av] (.tuple [bool b,int 0]):=by
 obtain⟨ins,isz,ino,iod,ine,ien,inn,ivar,ink,ikid,iroot⟩:=A;obtain⟨gns,gsz,gno,god,gne,gen,gnn,gvar,gnk,gkid,groot⟩:=B;refine b4i (by intro z hz;simp at hz;rcases hz with rfl|rfl<;>trivial) (a0k AF okP g7p _ rfl fun E Sg hbs hS=> ?_);have e:=b2k hS;cbv;refine a0v hS _ h108 ?_;cbv;simp only[e.ieq,e.bnot];cbv;refine a0v hS _ h130 ?_;cbv;exact a3x.tuple (.cons (AC _) (.cons (a6c rfl) .nil))
theorem k5o (c:CaR)(hns:c.ns<=8)(hno:c.no<=8)(hnl:c.nl<=6)(hl: ∀i,i<c.nl->(c.lk i).fit)(hi:c.inn.fit)(hg:c.goal.fit){b:Bool}{er:Int}(h96:a0j AA AG 96 [isl c.ns c.sz,isl c.no c.od,dsl c.nl c.lk,c.inn.av,c.goal.av] (.tuple [bool b,int er])):
 a0j AA AG 57 [c.av] (.tuple [bool b,int er]):=by
 have q1:=h7c (n:=c.ns) (by omega) c.sz;have q2:=h7c (n:=c.no) (by omega) c.od;have q3:=h9z c.nl (by omega) c.lk hl;have q4:=h8i c.inn hi;have q5:=h8i c.goal hg;obtain⟨ns,sz,no,od,nl,lk,⟨ins,isz,ino,iod,ine,ien,inn,ivar,ink,ikid,iroot⟩,⟨gns,gsz,gno,god,gne,gen,gnn,gvar,gnk,gkid,groot⟩⟩:=c;simp only[CaR.av,DiR.cs,AI,AJ] at*
 refine b4i (by intro z hz;simp at hz;rcases hz with rfl|rfl<;>trivial) (a0k AF okP g4n _ rfl fun E Sg hbs hS=> ?_);have e:=b2k hS;cbv
 repeat' (first|(refine a0v hS _ q1 ?_;cbv)|(refine a0v hS _ q2 ?_;cbv)|(refine a0v hS _ q3 ?_;cbv)|(refine a0v hS _ q4 ?_;cbv)|(refine a0v hS _ q5 ?_;cbv)|(refine a0v hS _ h96 ?_;cbv)|refine a1g hS (c3d hS) ?_)
 exact AC _
theorem k5p (c:CaR)(hns:c.ns<=8)(hno:c.no<=8)(hnl:c.nl<=6)(hl: ∀i,i<c.nl->(c.lk i).fit)(hi:c.inn.fit)(hg:c.goal.fit){x:Int}{u v:DV}{er:Int}(h97:a0j AA AE 97 [isl c.ns c.sz,isl c.no c.od,dsl c.nl c.lk,c.inn.av,c.goal.av,int x] (.tuple [.d u,.d v,int er])):
 a0j AA AE 58 [c.av,int x] (.tuple [.d u,.d v,int er]):=by
 have q1:=h7c (n:=c.ns) (by omega) c.sz;have q2:=h7c (n:=c.no) (by omega) c.od;have q3:=h9z c.nl (by omega) c.lk hl;have q4:=h8i c.inn hi;have q5:=h8i c.goal hg;obtain⟨ns,sz,no,od,nl,lk,⟨ins,isz,ino,iod,ine,ien,inn,ivar,ink,ikid,iroot⟩,⟨gns,gsz,gno,god,gne,gen,gnn,gvar,gnk,gkid,groot⟩⟩:=c;simp only[CaR.av,DiR.cs,AI,AJ] at*
 refine a0k AF okP g8o _ rfl fun E Sg hbs hS=> ?_;have e:=b2k hS;cbv
 repeat' (first|(refine a0v hS _ q1 ?_;cbv)|(refine a0v hS _ q2 ?_;cbv)|(refine a0v hS _ q3 ?_;cbv)|(refine a0v hS _ q4 ?_;cbv)|(refine a0v hS _ q5 ?_;cbv)|(refine a0v hS _ h97 ?_;cbv)|refine a1g hS (c3d hS) ?_)
 exact AC _
theorem k5z (c:CaR)(hns:c.ns<=8)(hno:c.no<=8)(hnl:c.nl<=6)(hl: ∀i,i<c.nl->(c.lk i).fit)(hi:c.inn.fit)(hg:c.goal.fit){er:Int}(h98:a0j AA AG 98 [isl c.ns c.sz,isl c.no c.od,dsl c.nl c.lk,c.inn.av,c.goal.av] (int er)):
 a0j AA AG 59 [c.av] (int er):=by
 have q1:=h7c (n:=c.ns) (by omega) c.sz;have q2:=h7c (n:=c.no) (by omega) c.od;have q3:=h9z c.nl (by omega) c.lk hl;have q4:=h8i c.inn hi;have q5:=h8i c.goal hg;obtain⟨ns,sz,no,od,nl,lk,⟨ins,isz,ino,iod,ine,ien,inn,ivar,ink,ikid,iroot⟩,⟨gns,gsz,gno,god,gne,gen,gnn,gvar,gnk,gkid,groot⟩⟩:=c;simp only[CaR.av,DiR.cs,AI,AJ] at*
 refine a4e (a0k AF okP g5o _ rfl fun E Sg hbs hS=> ?_);have e:=b2k hS;cbv
 repeat' (first|(refine a0v hS _ q1 ?_;cbv)|(refine a0v hS _ q2 ?_;cbv)|(refine a0v hS _ q3 ?_;cbv)|(refine a0v hS _ q4 ?_;cbv)|(refine a0v hS _ q5 ?_;cbv)|(refine a0v hS _ h98 ?_;cbv)|refine a1g hS (c3d hS) ?_)
 exact AC _
theorem k5t (c:CaR)(x:Int)(h18:a0j AA AG 18 [c.av] (bool AE)):a0j AA AG 14 [c.av,int x] (bool AG):=by
 have haw:=c4a;obtain⟨ns,sz,no,od,nl,lk,⟨ins,isz,ino,iod,ine,ien,inn,ivar,ink,ikid,iroot⟩,⟨gns,gsz,gno,god,gne,gen,gnn,gvar,gnk,gkid,groot⟩⟩:=c;simp only[CaR.av,DiR.cs,AI,AJ] at*
 refine a1e (a0k AF okP k6i _ rfl fun E Sg hbs hS=> ?_);have e:=b2k hS;cbv;refine a0v hS _ h18 ?_;cbv;refine a0v hS _ haw ?_;cbv;exact AC _
theorem k5u (c:CaR)(x:Int){er:Int}(h0:er≠0)(h18:a0j AA AG 18 [c.av] (bool AG))(h57:a0j AA AG 57 [c.av] (.tuple [bool AE,int er]))(h58:a0j AA AE 58 [c.av,int x] (.tuple [.d .nil,.d .nil,int er]))(h59:a0j AA AG 59 [c.av] (int er))(h42:a0j AA AG 42 [c.av] (int er))
 {k1 k2:DV} (h21:a0j AA AE 21 [c.av] (.tuple [.d .nil,.agg [.d k1,.d k2],int er])):a0j AA AG 14 [c.av,int x] (bool AG):=by
 have haw:=c4a;obtain⟨ns,sz,no,od,nl,lk,⟨ins,isz,ino,iod,ine,ien,inn,ivar,ink,ikid,iroot⟩,⟨gns,gsz,gno,god,gne,gen,gnn,gvar,gnk,gkid,groot⟩⟩:=c;simp only[CaR.av,DiR.cs,AI,AJ] at*
 refine a1e (a0k AF okP k6i _ rfl fun E Sg hbs hS=> ?_);have e:=b2k hS;cbv;refine a0v hS _ h18 ?_;cbv;refine a0v hS _ h57 ?_;cbv;refine a0v hS _ h58 ?_;cbv;refine a0v hS _ h59 ?_;cbv;refine a1g hS (c3d hS) (a0v hS _ h42 ?_);cbv;simp only[e.ieq,e.bnot,AB];cbv;refine a0v hS _ h21 ?_;cbv;have hb0:(er==AD 0)=AE:=beq_false_of_ne h0;simp only[e.ieq,e.bnot,hb0,AB];cbv;simp only[e.ieq,e.bnot,hb0,AB];cbv;refine a0v hS _ h42 ?_;cbv;simp only[e.ieq,e.bnot,hb0,AB];cbv;simp only[e.ieq,e.bnot,hb0,AB];cbv;simp only[e.ieq,e.bnot,hb0,AB];cbv;refine a1g hS (by subst hS;exact b6g (by decide) (by decide)) ?_;refine a0v hS _ haw ?_;cbv;exact AC _
theorem k5n (c:CaR)(x:Int){f:Int}(hf3:x<0\/(c.nl:Int)<=x->f=3)(hf12: ¬x<0-> ¬(c.nl:Int)<=x->f=12)(h18:a0j AA AG 18 [c.av] (bool AG))(h57:a0j AA AG 57 [c.av] (.tuple [bool AE,int 12]))(h58:a0j AA AE 58 [c.av,int x] (.tuple [.d .nil,.d .nil,int f]))(h59:a0j AA AG 59 [c.av] (int 0))(h42:a0j AA AG 42 [c.av] (int 0))
 {k1 k2:DV} (h21:a0j AA AE 21 [c.av] (.tuple [.d .nil,.agg [.d k1,.d k2],int 12])):a0j AA AG 14 [c.av,int x] (bool AG):=by
 have haw:=c4a;obtain⟨ns,sz,no,od,nl,lk,⟨ins,isz,ino,iod,ine,ien,inn,ivar,ink,ikid,iroot⟩,⟨gns,gsz,gno,god,gne,gen,gnn,gvar,gnk,gkid,groot⟩⟩:=c;simp only[CaR.av,DiR.cs,AI,AJ] at*
 refine a1e (a0k AF okP k6i _ rfl fun E Sg hbs hS=> ?_);have e:=b2k hS;cbv;refine a0v hS _ h18 ?_;cbv;refine a0v hS _ h57 ?_;cbv;refine a0v hS _ h58 ?_;cbv;refine a0v hS _ h59 ?_;cbv;refine a1g hS (c3d hS) (a0v hS _ h42 ?_);cbv;simp only[e.ieq,e.bnot,AB];cbv;refine a0v hS _ h21 ?_;cbv;simp only[e.ieq,e.bnot,e.beq,AB];cbv;simp only[e.ieq,e.bnot,e.beq,AB];cbv;refine a0v hS _ h42 ?_;cbv;simp only[e.ieq,e.bnot,e.beq,AB];cbv;by_cases hx0:x<0
 ·have g1:Sg.ilt x (AD 0)=AG:=by rw[e.ilt];exact decide_eq_true hx0
  have hf:f=3:=hf3 (.inl hx0);subst hf;simp only[g1];cbv;simp only[e.ieq,e.bnot,e.beq,AB];cbv;simp only[e.ieq,e.bnot,e.beq,AB];cbv;refine a1g hS (by subst hS;exact b6g (by decide) (by decide)) ?_;refine a0v hS _ haw ?_;cbv;exact AC _
 ·have g1:Sg.ilt x (AD 0)=AE:=by rw[e.ilt];exact decide_eq_false hx0
  simp only[g1];cbv;by_cases hx1:(nl:Int)<=x
  ·have g2:Sg.ile (Sg.ofNat nl) x=AG:=by rw[e.ile,e.ofNat];exact decide_eq_true hx1
   have hf:f=3:=hf3 (.inr hx1);subst hf;simp only[g2];cbv;simp only[e.ieq,e.bnot,e.beq,AB];cbv;simp only[e.ieq,e.bnot,e.beq,AB];cbv;refine a1g hS (by subst hS;exact b6g (by decide) (by decide)) ?_;refine a0v hS _ haw ?_;cbv;exact AC _
  ·have g2:Sg.ile (Sg.ofNat nl) x=AE:=by rw[e.ile,e.ofNat];exact decide_eq_false hx1
   have hf:f=12:=hf12 hx0 hx1;subst hf;simp only[g2];cbv;simp only[e.ieq,e.bnot,e.beq,AB];cbv;simp only[e.ieq,e.bnot,e.beq,AB];cbv;refine a1g hS (by subst hS;exact b6g (by decide) (by decide)) ?_;refine a0v hS _ haw ?_;cbv;exact AC _
theorem k5v (c:CaR)(x:Int)(hx:x<0\/(c.nl:Int)<=x){nl n T:Nat}{W:Nat->Int}{X:Nat->Nat->VaR}{G:Nat->Bool}{b:Bool}(h18:a0j AA AG 18 [c.av] (bool AG))(h57:a0j AA AG 57 [c.av] (.tuple [bool b,int 0]))(h59:a0j AA AG 59 [c.av] (int 0))(h42:a0j AA AG 42 [c.av] (int 0))
 (h21:a0j AA AE 21 [c.av] (.tuple [isl n W,.agg (knC nl T X G),int 0])) (h60:a0j AA AG 60 [.agg (knC nl T X G),isl n W] (bool b)) (h58:a0j AA AE 58 [c.av,int x] (.tuple [.d .nil,.d .nil,int 3])):a0j AA AG 14 [c.av,int x] (bool AG):=by
 have haw:=c4a;obtain⟨ns,sz,no,od,nl',lk,⟨ins,isz,ino,iod,ine,ien,inn,ivar,ink,ikid,iroot⟩,⟨gns,gsz,gno,god,gne,gen,gnn,gvar,gnk,gkid,groot⟩⟩:=c;simp only[CaR.av,DiR.cs,AI,AJ,knC] at*
 refine a1e (a0k AF okP k6i _ rfl fun E Sg hbs hS=> ?_);have e:=b2k hS;cbv;refine a0v hS _ h18 ?_;cbv;refine a0v hS _ h57 ?_;cbv;refine a0v hS _ h58 ?_;cbv;refine a0v hS _ h59 ?_;cbv;refine a1g hS (c3d hS) (a0v hS _ h42 ?_);cbv;simp only[e.ieq,e.bnot,AB];cbv;refine a0v hS _ h21 ?_;cbv;simp only[e.ieq,e.bnot,e.beq,AB];cbv;simp only[e.ieq,e.bnot,e.beq,AB];cbv;refine a0v hS _ h60 ?_;cases b
 ·cbv;simp only[e.ieq,e.bnot,e.beq,AB];cbv;refine a0v hS _ h42 ?_;cbv;simp only[e.ieq,e.bnot,e.beq,AB];cbv;by_cases hx0:x<0
  ·have g1:Sg.ilt x (AD 0)=AG:=by rw[e.ilt];exact decide_eq_true hx0
   simp only[g1];cbv;simp only[e.ieq,e.bnot,e.beq,AB];cbv;simp only[e.ieq,e.bnot,e.beq,AB];cbv;refine a1g hS (by subst hS;exact b6g (by decide) (by decide)) ?_;refine a0v hS _ haw ?_;cbv;exact AC _
  ·have g1:Sg.ilt x (AD 0)=AE:=by rw[e.ilt];exact decide_eq_false hx0
   simp only[g1];cbv;have g2:Sg.ile (Sg.ofNat nl') x=AG:=by rw[e.ile,e.ofNat];exact decide_eq_true (hx.resolve_left hx0)
   simp only[g2];cbv;simp only[e.ieq,e.bnot,e.beq,AB];cbv;simp only[e.ieq,e.bnot,e.beq,AB];cbv;refine a1g hS (by subst hS;exact b6g (by decide) (by decide)) ?_;refine a0v hS _ haw ?_;cbv;exact AC _
 ·cbv;simp only[e.ieq,e.bnot,e.beq,AB];cbv;refine a0v hS _ h42 ?_;cbv;simp only[e.ieq,e.bnot,e.beq,AB];cbv;by_cases hx0:x<0
  ·have g1:Sg.ilt x (AD 0)=AG:=by rw[e.ilt];exact decide_eq_true hx0
   simp only[g1];cbv;simp only[e.ieq,e.bnot,e.beq,AB];cbv;simp only[e.ieq,e.bnot,e.beq,AB];cbv;refine a1g hS (by subst hS;exact b6g (by decide) (by decide)) ?_;refine a0v hS _ haw ?_;cbv;exact AC _
  ·have g1:Sg.ilt x (AD 0)=AE:=by rw[e.ilt];exact decide_eq_false hx0
   simp only[g1];cbv;have g2:Sg.ile (Sg.ofNat nl') x=AG:=by rw[e.ile,e.ofNat];exact decide_eq_true (hx.resolve_left hx0)
   simp only[g2];cbv;simp only[e.ieq,e.bnot,e.beq,AB];cbv;simp only[e.ieq,e.bnot,e.beq,AB];cbv;refine a1g hS (by subst hS;exact b6g (by decide) (by decide)) ?_;refine a0v hS _ haw ?_;cbv;exact AC _
theorem k5s (c:CaR)(hnl:c.nl<=6)(x:Nat)(hx:x<c.nl){nl n T:Nat}{W:Nat->Int}{X:Nat->Nat->VaR}{G:Nat->Bool}{b:Bool}(h18:a0j AA AG 18 [c.av] (bool AG))(h57:a0j AA AG 57 [c.av] (.tuple [bool b,int 0]))(h59:a0j AA AG 59 [c.av] (int 0))(h42:a0j AA AG 42 [c.av] (int 0))
 (h21:a0j AA AE 21 [c.av] (.tuple [isl n W,.agg (knC nl T X G),int 0])) (h60:a0j AA AG 60 [.agg (knC nl T X G),isl n W] (bool b)) {NN:Nat} (hNN:NN<=1000000) {S1:Nat->VaR} {MM:Nat->Nat} {PP:Nat->List DV} (hMM: ∀j,j<NN-> ∃e,PP j=[.sl 1 (MM j) e])
 (h58:a0j AA AE 58 [c.av,int x] (.tuple [vsl NN S1,isl NN fun j=>(MM j:Int),int 0])) (h61:a0j AA AE 61 [.agg (knC nl T X G),isl n W,int x] (.tuple [vsl NN S1,.d (.sl 1 NN PP)])) (h62:a0j AA AG 62 [vsl NN S1,vsl NN S1] (bool AG)):a0j AA AG 14 [c.av,int x] (bool AG):=by
 have haw:=c4a;obtain⟨ns,sz,no,od,nl',lk,⟨ins,isz,ino,iod,ine,ien,inn,ivar,ink,ikid,iroot⟩,⟨gns,gsz,gno,god,gne,gen,gnn,gvar,gnk,gkid,groot⟩⟩:=c;simp only[CaR.av,DiR.cs,AI,AJ,knC] at*
 refine a1e (a0k AF okP k6i _ rfl fun E Sg hbs hS=> ?_);have e:=b2k hS;cbv;refine a0v hS _ h18 ?_;cbv;refine a0v hS _ h57 ?_;cbv;refine a0v hS _ h58 ?_;cbv;refine a0v hS _ h59 ?_;cbv;refine a1g hS (c3d hS) (a0v hS _ h42 ?_);cbv;simp only[e.ieq,e.bnot,AB];cbv;refine a0v hS _ h21 ?_;cbv;simp only[e.ieq,e.bnot,e.beq,AB];cbv;simp only[e.ieq,e.bnot,e.beq,AB];cbv;refine a0v hS _ h60 ?_;have g1:Sg.ilt (AD x) (AD 0)=AE:=by rw[e.ilt];exact decide_eq_false (by simp only[AH];omega)
 have g2:Sg.ile (Sg.ofNat nl') (AD x)=AE:=by rw[e.ile,e.ofNat];exact decide_eq_false (by simp only[AH];omega)
 cases b
 ·cbv;simp only[e.ieq,e.bnot,e.beq,AB];cbv;refine a0v hS _ h42 ?_;cbv;simp only[e.ieq,e.bnot,e.beq,AB];cbv;simp only[g1];cbv;simp only[g2];cbv;simp only[e.ieq,e.bnot,e.beq,AB];cbv;refine a0v hS _ h61 ?_;cbv;simp only[e.ieq,e.bnot,e.beq,AB];cbv;refine a0v hS _ h62 ?_;cbv;simp only[e.ieq,e.bnot,e.beq,AB];cbv;refine e4p AF okP hS (σ:=Nat×List Nat) (fun s=>s.1<=NN) (fun s=>NN-s.1)
   (fun s=>⟨b5r [(8,isl NN fun j=>(MM j:Int)),(14,.d (.sl 1 NN PP)),(15,int s.1)] 129,[],s.2⟩) (0,[]) (AK _) ?_ ?_
  ·exact b4w.le (a4c rfl ⟨AC _,AC _,a6c rfl,trivial⟩ (.nil _) (by rw[hbs];exact AK _) (.inl ⟨rfl,rfl⟩) (j7y _))
  rintro⟨i,mv⟩ hi N hN;simp only at hi;cbv;split
  rotate_left
  ·cbv;refine a0v hS _ haw ?_;cbv;exact AC _
  rename_i h;have hil:i<NN:=d3r hS h;have en:nat Sg (IX.v (AD i))=i:=by show Sg.toNat (AD i)=i;rw[e.toNat];rfl
  obtain⟨ee,he⟩:=hMM i hil;have hw2:Sg.bnot (Sg.ieq (AD (MM i)) (Sg.ofNat (MM i)))=AE:=by rw[e.ieq,e.bnot,e.ofNat];exact congrArg (!·) (beq_self_eq_true _)
  cbv;refine a1g hS (a5p hS hil) (a1g hS (a5p hS hil) ?_);simp only[en,he];cbv;simp only[hw2];cbv;refine a1g hS (e1n hS (by omega)) ?_;exact hN (i+1,mv) _ hil (by simp only;omega) (b4w.le (a4c rfl ⟨AC _,AC _,b2s hS,trivial⟩ (.nil _) (by rw[hbs];exact AK _) (.inl ⟨rfl,rfl⟩) (j7y _)))
 ·cbv;simp only[e.ieq,e.bnot,e.beq,AB];cbv;refine a0v hS _ h42 ?_;cbv;simp only[e.ieq,e.bnot,e.beq,AB];cbv;simp only[g1];cbv;simp only[g2];cbv;simp only[e.ieq,e.bnot,e.beq,AB];cbv;refine a0v hS _ h61 ?_;cbv;simp only[e.ieq,e.bnot,e.beq,AB];cbv;refine a0v hS _ h62 ?_;cbv;simp only[e.ieq,e.bnot,e.beq,AB];cbv;refine e4p AF okP hS (σ:=Nat×List Nat) (fun s=>s.1<=NN) (fun s=>NN-s.1)
   (fun s=>⟨b5r [(8,isl NN fun j=>(MM j:Int)),(14,.d (.sl 1 NN PP)),(15,int s.1)] 129,[],s.2⟩) (0,[]) (AK _) ?_ ?_
  ·exact b4w.le (a4c rfl ⟨AC _,AC _,a6c rfl,trivial⟩ (.nil _) (by rw[hbs];exact AK _) (.inl ⟨rfl,rfl⟩) (j7y _))
  rintro⟨i,mv⟩ hi N hN;simp only at hi;cbv;split
  rotate_left
  ·cbv;refine a0v hS _ haw ?_;cbv;exact AC _
  rename_i h;have hil:i<NN:=d3r hS h;have en:nat Sg (IX.v (AD i))=i:=by show Sg.toNat (AD i)=i;rw[e.toNat];rfl
  obtain⟨ee,he⟩:=hMM i hil;have hw2:Sg.bnot (Sg.ieq (AD (MM i)) (Sg.ofNat (MM i)))=AE:=by rw[e.ieq,e.bnot,e.ofNat];exact congrArg (!·) (beq_self_eq_true _)
  cbv;refine a1g hS (a5p hS hil) (a1g hS (a5p hS hil) ?_);simp only[en,he];cbv;simp only[hw2];cbv;refine a1g hS (e1n hS (by omega)) ?_;exact hN (i+1,mv) _ hil (by simp only;omega) (b4w.le (a4c rfl ⟨AC _,AC _,b2s hS,trivial⟩ (.nil _) (by rw[hbs];exact AK _) (.inl ⟨rfl,rfl⟩) (j7y _)))
theorem i6l.cellAt {d:DiR}(hd:i6l d)(hf:d.fit){T:Nat}(hT:(T:Int)=h4d d.sz d.ns){p:Nat}(hp:p<T): ∃i,i<d.ne/\d.cell p=d.en i:=by obtain⟨_,h2,_⟩:=h4s hd.fr;have hpl:=(h5s (n:=d.ns) (fun j hj=>(h2 j hj).1) p (by rw[<-hT];exact Int.ofNat_lt.2 hp)).1;have hw:=(i6j d hd.loose hf (h5j d.sz d.ns p) fun j hj=>hpl j hj).1;exact⟨(-1-h5d d (h5j d.sz d.ns p) d.root).toNat,by have:=hw.1;have:=hw.2 (by omega);omega,rfl⟩
theorem CaR.ok.cell {c:CaR}{T:Nat}(h:c.ok T){i:Nat}(hi:i<c.nl+2){p:Nat}(hp:p<T):a1i (c.X i p)/\0<=(c.X i p).fault:=by obtain⟨j,hj,e⟩:=(h.di i hi).cellAt (h.fit.dg i hi) (h.Td i hi) hp;unfold CaR.X;rw[e];exact⟨(h.di i hi).loose.1 j hj,h.fit.flt i hi j hj⟩
def CaR.F (c:CaR)(q k:Nat):VaR:=cel c.nl c.X k q
theorem k5w (c:CaR)(hw:c.wf)(x:Int):a0j AA AG 14 [c.av,int x] (bool AG):=by
 classical
 by_cases ht:h6v c
 rotate_left
 ·exact k5t c x (i3u c AE (by simp[ht]))
 have h18:=i3u c AG (by simp[ht]);have hf:=ht.fit hw;have hl: ∀i,i<c.nl->(c.lk i).fit:=fun i hi=>by have:=hf.dg i (by omega);rwa [c.dg_lk hi] at this
 have hi:c.inn.fit:=by have:=hf.dg c.nl (by omega);rwa [c.dg_in] at this
 have hg:c.goal.fit:=by have:=hf.dg (c.nl+1) (by omega);rwa [c.dg_goal] at this
 obtain⟨er,hE⟩:=i3o c;by_cases h0:er=0
 rotate_left
 ·have h98:=i0p c hf er hE;have h42:=i2f c hf er hE;have h131:=i2x c.inn c.goal h98 h0;exact k5u c x h0 h18 (k5o c hf.ns hf.no hf.nl hl hi hg (k5q _ _ (i2r _ _ h131 h0) h0)) (k5p c hf.ns hf.no hf.nl hl hi hg (k6a _ _ h131 h0)) (k5z c hf.ns hf.no hf.nl hl hi hg h98) h42 (i3r c h42 h0)
 subst h0;obtain⟨T,h⟩:=CaR.ok_of hf hE;have hT:=h.T36 ht;have h42:=h.c42 hE;have h131:=h.read hE hT;have h59:=k5z c hf.ns hf.no hf.nl hl hi hg (h.c98 hE);obtain⟨a1,a2⟩:=i3p c h42 (h.places hT);obtain⟨o1,o2⟩:=i3a c.inn c.goal h131;have hin: ¬(x<0\/(c.nl:Int)<=x)-> ∃i:Nat,i<c.nl/\x=i:=fun hx=>⟨x.toNat,by omega,by omega⟩;rcases Nat.eq_zero_or_pos (c.P T).length with h1|h1
 ·have h57:=k5o c hf.ns hf.no hf.nl hl hi hg (k5q _ _ (o1 h1) (by decide));by_cases hx:x<0\/(c.nl:Int)<=x
  ·exact k5n c x (fun _=>rfl) (fun p q=>absurd hx (by rintro (r|r);exact p r;exact q r)) h18 h57 (k5p c hf.ns hf.no hf.nl hl hi hg (k5x _ _ hx h131)) h59 h42 (a1 h1)
  ·obtain⟨i,hi2,rfl⟩:=hin hx;have h131':=h131;rw[h1] at h131';exact k5n c i (fun p=>absurd p hx) (fun _ _=>rfl) h18 h57 (k5p c hf.ns hf.no hf.nl hl hi hg (k6c _ _ hi2 h131')) h59 h42 (a1 h1)
 have h21:=a2 h1;have h108:=o2 h1;have hne:c.P T≠[]:=AL.1 h1;have hlen:(c.P T).length<=T:=h8g _ T;have hmem: ∀p,p∈c.P T->p<T:=fun p hp=>((i0h _ T _).1 hp).1;obtain⟨dd,hdd⟩: ∃dd:Bool,dd=AG↔ ∃i,i<(c.P T).length/\c.G ((c.P T).getD i 0)≠c.G ((c.P T).getD 0 0):=⟨decide _,decide_eq_true_iff⟩;have hdec:(!dd)=AG↔k1e c.G (c.P T):=by
  rw[k1q];constructor
  ·intro h j hj;cases he:(c.G ((c.P T).getD j 0)==c.G ((c.P T).getD 0 0)) with
   |true=>simpa using he
   |false=>have:=hdd.2 ⟨j,hj,by simpa using he⟩;rw[this] at h;cases h
  ·intro h;cases hd:dd with
   |false=>rfl
   |true=>obtain⟨i,h1,h2⟩:=hdd.1 hd;exact absurd (h i h1) h2
 have h130:=a1e (k2h h1 (by omega) (fun j=>spR c.F c.G ((c.P T).getD j 0)) (fun i k=>(c.F ((c.P T).getD i 0) k).fault) (fun i k=>(c.F ((c.P T).getD i 0) k).n) (fun i=>c.G ((c.P T).getD i 0)) (fun i=>rfl) dd hdd);have h57:=k5o c hf.ns hf.no hf.nl hl hi hg (k5y _ _ h108 h130);have h60:=k2k (nl:=c.nl) (T:=T) (show T<=1000000 by omega) (X:=c.X) (G:=c.G) (l:=c.P T) (by omega) hmem hdec;by_cases hx:x<0\/(c.nl:Int)<=x
 ·exact k5v c x hx h18 h57 h59 h42 h21 h60 (k5p c hf.ns hf.no hf.nl hl hi hg (k5x _ _ hx h131))
 obtain⟨i,hi2,rfl⟩:=hin hx;have hi4:i<4:=by have:=h.nl;omega
 have hX: ∀q,c.F q i=c.X i q:=fun q=>by show cel c.nl c.X i q=_;unfold cel;rw[if_pos hi2]
 have h97:=k6e c.inn c.goal (ns:=c.ns) (no:=c.no) (nl:=c.nl) (sz:=c.sz) (od:=c.od) (lk:=c.lk) hne (by omega) c.F c.G hi2 hi4 (fun q hq=>by rw[hX];exact h.cell (by omega) (hmem q hq)) h131 (c.X i) hX;have hNN:(cellsOf (c.X i) (c.P T)).length<=1000000:=AN (j9v _ _) (by omega);exact k5s c hf.nl i hi2 h18 h57 h59 h42 h21 h60 hNN (fun j _=>⟨_,rfl⟩) (k5p c hf.ns hf.no hf.nl hl hi hg h97) (k3w h.nl (by omega) hne (by omega) hmem hi2) (k3z (by omega) _ _ ⟨fun _=>⟨rfl,fun _ _=>rfl⟩,fun _=>rfl⟩)
end Go.Proofs.Tryz.Run
