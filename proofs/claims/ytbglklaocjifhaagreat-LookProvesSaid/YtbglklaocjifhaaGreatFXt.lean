/- LookBest answers true. Conditions: none. -/
import Derived.Test.YtbglklaocjifhaaGreatFXo
set_option linter.unusedSimpArgs false
set_option linter.unusedVariables false
namespace Go.Proofs.Tryz.Run
open Go Go.Vf Go.Proofs
open Go.Proofs.YtbglklaocjifhaaGreat
theorem i6l.cellAt {d:DiR}(hd:i6l d)(hf:d.fit){T:Nat}(hT:(T:Int)=h4d d.sz d.ns){p:Nat}(hp:p<T): ∃i,i<d.ne/\d.cell p=d.en i:=by obtain⟨_,h2,_⟩:=h4s hd.fr;have hpl:=(h5s (n:=d.ns) (fun j hj=>(h2 j hj).1) p (by rw[<-hT];exact Int.ofNat_lt.2 hp)).1;have hw:=(i6j d hd.loose hf (h5j d.sz d.ns p) fun j hj=>hpl j hj).1;exact⟨(-1-h5d d (h5j d.sz d.ns p) d.root).toNat,by have:=hw.1;have:=hw.2 (by omega);omega,rfl⟩
theorem CaR.ok.cell {c:CaR}{T:Nat}(h:c.ok T){i:Nat}(hi:i<c.nl+2){p:Nat}(hp:p<T):a1i (c.X i p)/\0<=(c.X i p).fault:=by obtain⟨j,hj,e⟩:=(h.di i hi).cellAt (h.fit.dg i hi) (h.Td i hi) hp;unfold CaR.X;rw[e];exact⟨(h.di i hi).loose.1 j hj,h.fit.flt i hi j hj⟩
noncomputable def CaR.K (c:CaR):PbR:=⟨c.nl,fun _=>true,c.X,c.G⟩
def CaR.F (c:CaR)(q k:Nat):VaR:=cel c.nl c.X k q
noncomputable def CaR.Kp (c:CaR)(a:Nat->Bool):PbR:=⟨c.nl,fun j=>!(a j),fun i q=>c.F q i,c.G⟩
theorem CaR.K_same (c:CaR)(l:List Nat):c.K.same (c.Kp fun _=>false) l:=
 ⟨rfl,fun _ _=>rfl,fun i hi p _=>by show c.X i p=cel c.nl c.X i p;unfold cel;rw[if_pos (show i<c.nl from hi)],fun _ _ _ _=>Iff.rfl⟩
end Go.Proofs.Tryz.Run
