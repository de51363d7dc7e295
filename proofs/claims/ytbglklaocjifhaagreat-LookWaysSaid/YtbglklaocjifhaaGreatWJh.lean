/- LookApart answers true. LookWays: for every case, plan and place the statement answers true. Conditions: none. -/
import Derived.Test.YtbglklaocjifhaaGreatWLr
import Derived.Test.YtbglklaocjifhaaGreatWNb
import Derived.Test.YtbglklaocjifhaaGreatWNe
import Derived.Test.YtbglklaocjifhaaGreatWOa
import Derived.Test.YtbglklaocjifhaaGreatWPm0
import Derived.Test.YtbglklaocjifhaaGreatWQd
import Derived.Test.YtbglklaocjifhaaGreatWQf
import Derived.Test.YtbglklaocjifhaaGreatWQi
import Derived.Test.YtbglklaocjifhaaGreatWSd
import Derived.Test.YtbglklaocjifhaaGreatWSp
import Derived.Test.YtbglklaocjifhaaGreatWSv
import Derived.Test.YtbglklaocjifhaaGreatWSx
import Derived.Test.YtbglklaocjifhaaGreatWHe
import Derived.Test.YtbglklaocjifhaaGreatWHh
import Derived.Test.YtbglklaocjifhaaGreatWHl
import Derived.Test.YtbglklaocjifhaaGreatWHr
import Derived.Test.YtbglklaocjifhaaGreatWHt
import Derived.Test.YtbglklaocjifhaaGreatWHy
import Derived.Test.YtbglklaocjifhaaGreatWJa
import Derived.Test.YtbglklaocjifhaaGreatWJd
import Derived.Test.YtbglklaocjifhaaGreatWJf
import Derived.Test.YtbglklaocjifhaaGreatWJg
set_option linter.unusedSimpArgs false
set_option linter.unusedVariables false
set_option maxHeartbeats 0
set_option maxRecDepth 100000
namespace Go.Proofs.Tryz.Run
open Go Go.Vf Go.Proofs
open Go.Proofs.YtbglklaocjifhaaGreat
theorem h6k {g h:Nat->Int}: ∀{n:Nat},(∀j,j<n->g j=h j)->h4d g n=h4d h n
 |0,_=>rfl
 |n+1,e=>by rw[h4d,h4d,h6k fun j hj=>e j (by omega),e n (by omega)]
def CaR.wf (c:CaR):Prop:= ∀i,i<c.nl+2->(c.dg i).wf
theorem h6v.dg {c:CaR}(h:h6v c): ∀i,i<c.nl+2->h6e (c.dg i):=fun i hi=>by
 unfold CaR.dg
 by_cases h1:i<c.nl
 ·rw[if_pos h1];exact h.2.2.2.1 i h1
 ·rw[if_neg h1]
  by_cases h2:i=c.nl
  ·rw[if_pos h2];exact h.2.1
  ·rw[if_neg h2];exact h.2.2.1
theorem h6v.fit {c:CaR}(h:h6v c)(hw:c.wf):c.fit:=
 ⟨h.1.1,h.1.2.1,h.1.2.2,fun i hi=>(h.dg i hi).fit (hw i hi),fun i hi j hj=>(hw i hi).2.2 j hj,fun i hi=>(h.dg i hi).1.2.1⟩
structure CaR.ok (c:CaR)(T:Nat):Prop where
 fit:c.fit
 nl:c.nl<=4
 fr:h4e c.ns c.no c.sz c.od=0
 hT:(T:Int)=h4d c.sz c.ns
 di: ∀i,i<c.nl+2->i6l (c.dg i)
 Td: ∀i,i<c.nl+2->(T:Int)=h4d (c.dg i).sz (c.dg i).ns
 err: ∀i,i<c.nl+2->h5o (c.dg i)=0
theorem CaR.ok_of {c:CaR}(hf:c.fit)(h:h6t c 0): ∃T:Nat,c.ok T:=by
 rcases h with⟨h1,h2⟩|⟨h1,⟨_,h2⟩|⟨h2,h3⟩⟩
 ·exact absurd h2.symm h1
 ·cases h2
 ·obtain⟨k1,k2,k3,k4,_⟩:=h4s h1
  have hp:=h4r (g:=c.sz) (n:=c.ns) fun i hi=>(k2 i hi).1
  obtain⟨T,hT⟩: ∃T:Nat,(T:Int)=h4d c.sz c.ns:=⟨(h4d c.sz c.ns).toNat,by omega⟩
  rcases h3 with⟨i,a,b,d,e⟩|⟨a,⟨b,_⟩|⟨_,b⟩⟩
  ·exact absurd e.symm d
  ·refine⟨T,hf,h2,h1,hT,fun i hi=>i0u (a i hi),fun i hi=> ?_,a⟩
   obtain⟨e1,e2⟩:=h7a.1 (b i hi).1
   rw[hT,e1]
   exact h6k fun j hj=>(e2 j (by omega)).symm
  ·cases b
def CaR.X (c:CaR)(i:Nat):Nat->VaR:=(c.dg i).cell
def CaR.P (c:CaR)(T:Nat):List Nat:=plc (c.X c.nl) T
def CaR.W (c:CaR)(T:Nat)(j:Nat):Nat:=(c.P T).getD j 0
noncomputable def CaR.G (c:CaR)(p:Nat):Bool:=by classical exact decide (c.X (c.nl+1) p=⟨0,1⟩)
section
variable {c:CaR} {T:Nat}
theorem CaR.ok.list (h:c.ok T)(i:Nat)(hi:i<c.nl+2):a0j Tryz.prog false 54 [(c.dg i).av] (vsl T (c.X i)):=i6a (c.dg i) (h.di i hi) (h.fit.dg i hi) (h.Td i hi)
theorem CaR.ok.lk54 (h:c.ok T)(i:Nat)(hi:i<c.nl):a0j Tryz.prog false 54 [(c.lk i).av] (vsl T (c.X i)):=by have:=h.list i (by omega);rwa [c.dg_lk hi] at this
theorem CaR.ok.in54 (h:c.ok T):a0j Tryz.prog false 54 [c.inn.av] (vsl T (c.X c.nl)):=by have:=h.list c.nl (by omega);rwa [c.dg_in] at this
theorem CaR.ok.go54 (h:c.ok T):a0j Tryz.prog false 54 [c.goal.av] (vsl T (c.X (c.nl+1))):=by have:=h.list (c.nl+1) (by omega);rwa [c.dg_goal] at this
theorem CaR.G_iff (c:CaR)(p:Nat):c.G p=true↔c.X (c.nl+1) p=⟨0,1⟩:=by unfold CaR.G;exact decide_eq_true_iff
theorem CaR.ok.places (h:c.ok T)(hT:T<=36):a0j Tryz.prog false 29 [c.av] (.tuple [isl (c.P T).length fun j=>(c.W T j:Int),.agg (knC c.nl T c.X c.G)]):=
 i3f c T (by omega) (by have:=h.nl;omega) c.X (c.X c.nl) (c.X (c.nl+1)) (h.lk54) h.in54 h.go54 c.G c.G_iff
end
theorem j4w {sz g h:Nat->Int}: ∀{n:Nat},i2j sz g n->i2j sz h n->h4w sz g n=h4w sz h n-> ∀j,j<n->g j=h j
 |0,_,_,_,j,hj=>absurd hj (Nat.not_lt_zero j)
 |n+1,hg,hh,e,j,hj=>by
  have g1:=hg n (by omega)
  have h1:=hh n (by omega)
  rw[h4w,h4w] at e
  have key:h4w sz g n=h4w sz h n:=by
   rcases Int.lt_trichotomy (h4w sz g n) (h4w sz h n) with hlt|heq|hlt
   ·have:=Int.mul_le_mul_of_nonneg_right (show h4w sz g n+1<=h4w sz h n by omega) (show 0<=sz n by omega)
    rw[Int.add_mul] at this;omega
   ·exact heq
   ·have:=Int.mul_le_mul_of_nonneg_right (show h4w sz h n+1<=h4w sz g n by omega) (show 0<=sz n by omega)
    rw[Int.add_mul] at this;omega
  by_cases ej:j=n
  ·subst ej;rw[key] at e;omega
  ·exact j4w (fun i hi=>hg i (by omega)) (fun i hi=>hh i (by omega)) key j (by omega)
theorem j4v {sz sz' pl:Nat->Int}: ∀{k:Nat},(∀j,j<k->sz j=sz' j)->h4w sz pl k=h4w sz' pl k
 |0,_=>rfl
 |k+1,h=>by rw[h4w,h4w,j4v fun j hj=>h j (by omega),h k (by omega)]
theorem j4y (sz g:Nat->Int): ∀n,j5f sz g n=h4w sz g n
 |0=>rfl
 |n+1=>by rw[j5f,h4w,j4y sz g n]
theorem j6m (c:CaR)(hns:c.ns<=8)(hno:c.no<=8)(hnl:c.nl<=6)(hl: ∀i,i<c.nl->(c.lk i).fit)(p q:PlR){np N:Nat}(hnp:np<=8){pc W:Nat->Int}{er:Int}(h36:a0j Tryz.prog false 36 [p.av] q.av)
 (h84:a0j Tryz.prog false 84 [q.av,isl c.ns c.sz,isl c.no c.od,dsl c.nl c.lk,isl np pc] (.tuple [isl N W,int er])):
 a0j Tryz.prog false 38 [c.av,p.av,isl np pc] (.tuple [isl N W,int er]):=by
 have q1:=h7c (n:=c.ns) (by omega) c.sz
 have q2:=h7c (n:=c.no) (by omega) c.od
 have q3:=h9z c.nl (by omega) c.lk hl
 have q4:=h7c (n:=np) (by omega) pc
 obtain⟨l1,n1,C1,m1,E1,hp1⟩: ∃(l:Int) (nc:Nat) (C:Nat->List DV) (nn:Nat) (E:Nat->List DV),p.av= .agg [int l,.d (.sl 2 nc C),.d (.sl 3 nn E)]:=⟨_,_,_,_,_,PlR.avE p⟩
 obtain⟨l2,n2,C2,m2,E2,hp2⟩: ∃(l:Int) (nc:Nat) (C:Nat->List DV) (nn:Nat) (E:Nat->List DV),q.av= .agg [int l,.d (.sl 2 nc C),.d (.sl 3 nn E)]:=⟨_,_,_,_,_,PlR.avE q⟩
 rw[hp1] at h36⊢
 rw[hp2] at h36 h84
 obtain⟨ns,sz,no,od,nl,lk,⟨ins,isz,ino,iod,ine,ien,inn,ivar,ink,ikid,iroot⟩,⟨gns,gsz,gno,god,gne,gen,gnn,gvar,gnk,gkid,groot⟩⟩:=c
 simp only[CaR.av,DiR.cs,List.cons_append,List.nil_append] at*
 refine a0k Tryz.mixed okP g3b _ rfl fun E Sg hbs hS=> ?_
 have e:=b2k hS
 cbv
 repeat' (first|(refine a0v hS _ h36 ?_;cbv)|(refine a0v hS _ q1 ?_;cbv)|(refine a0v hS _ q2 ?_;cbv)|(refine a0v hS _ q3 ?_;cbv)|(refine a0v hS _ q4 ?_;cbv)|(refine a0v hS _ h84 ?_;cbv)|refine a1g hS (c3d hS) ?_)
 exact a0x.refl _
section
variable (c:CaR) (p:PlR) {np:Nat} {pc:Nat->Int}
theorem j6b (z18 z23:Bool)(h18:a0j Tryz.prog true 18 [c.av] (bool z18))(h23:a0j Tryz.prog true 23 [p.av] (bool z23))(h:z18=false\/z23=false\/8<np):a0j Tryz.prog true 7 [c.av,p.av,isl np pc] (bool true):=by
 have haw:=c4a
 obtain⟨l1,n1,C1,m1,E1,hp1⟩: ∃(l:Int) (nc:Nat) (C:Nat->List DV) (nn:Nat) (E:Nat->List DV),p.av= .agg [int l,.d (.sl 2 nc C),.d (.sl 3 nn E)]:=⟨_,_,_,_,_,PlR.avE p⟩
 rw[hp1] at h23⊢
 obtain⟨ns,sz,no,od,nl,lk,⟨ins,isz,ino,iod,ine,ien,inn,ivar,ink,ikid,iroot⟩,⟨gns,gsz,gno,god,gne,gen,gnn,gvar,gnk,gkid,groot⟩⟩:=c
 simp only[CaR.av,DiR.cs,List.cons_append,List.nil_append] at*
 refine a1e (a0k Tryz.mixed okP ok7 _ rfl fun E Sg hbs hS=> ?_)
 have e:=b2k hS
 cbv
 refine a0v hS _ h18 ?_
 cases z18 with
 |false=>cbv;refine a0v hS _ haw ?_;cbv;exact a0x.refl _
 |true=>
  cbv
  refine a0v hS _ h23 ?_
  cases z23 with
  |false=>cbv;refine a0v hS _ haw ?_;cbv;exact a0x.refl _
  |true=>
   have h8:8<np:=by simpa using h
   cbv
   have hb0:Sg.ilt (Int.ofNat 8) (Sg.ofNat np)=true:=by simp only[e.ilt,e.ofNat];exact decide_eq_true (Int.ofNat_lt.2 h8)
   simp only[hb0]
   cbv
   refine a0v hS _ haw ?_
   cbv
   exact a0x.refl _
theorem j6a (hnp:np<=8)(h18:a0j Tryz.prog true 18 [c.av] (bool true))(h23:a0j Tryz.prog true 23 [p.av] (bool true)){N M T nT num:Nat}{W w PL:Nat->Int}{er fe ce:Int}{z24 z43 zw:Bool}{X:Nat->Nat->VaR}{G:Nat->Bool}
 (h38:a0j Tryz.prog false 38 [c.av,p.av,isl np pc] (.tuple [isl N W,int er])) (h24:a0j Tryz.prog true 24 [p.av,int 4] (bool z24)) (h39:a0j Tryz.prog true 39 [isl c.ns c.sz,isl c.no c.od] (int fe))
 (h41:fe=0->a0j Tryz.prog false 41 [c.av] (vsl T fun _=>⟨0,1⟩)) (h40:fe=0->a0j Tryz.prog false 40 [isl c.ns c.sz,isl c.no c.od,vsl T fun _=>⟨0,1⟩] (.agg [isl c.ns c.sz,isl c.no c.od,vsl 1 fun _=>⟨0,1⟩,bsl 0 (fun _=>0) (fun _=>0) (fun _ _=>0),int (-1)]))
 (h42:fe=0->a0j Tryz.prog true 42 [CaR.av ⟨c.ns,c.sz,c.no,c.od,c.nl,c.lk,j4r c.ns c.no c.sz c.od,j4r c.ns c.no c.sz c.od⟩] (int ce)) (h43:ce=0->a0j Tryz.prog true 43 [isl c.ns c.sz,isl np pc] (bool z43))
 (h29:ce=0->a0j Tryz.prog false 29 [CaR.av ⟨c.ns,c.sz,c.no,c.od,c.nl,c.lk,j4r c.ns c.no c.sz c.od,j4r c.ns c.no c.sz c.od⟩] (.tuple [isl nT PL,.agg (knC c.nl T X G)]))
 (h45:ce=0->z43=true->a0j Tryz.prog true 45 [isl c.ns c.sz,isl np pc] (int num)) (h44:ce=0->z24=true->z43=true->a0j Tryz.prog false 44 [.agg (knC c.nl T X G),int num,p.av] (.tuple [isl M w,bool zw])) (h33:ce=0->z24=true->z43=true->zw=true->a0j Tryz.prog true 33 [isl N W,isl M w] (bool true))
 (c1:z24=false->N=0/\er=4) (c2:z24=true->fe≠0->N=0/\er=fe) (c3:z24=true->fe=0->ce≠0->N=0/\er=ce) (c4:z24=true->fe=0->ce=0->z43=false->N=0/\er=3)
 (c5:z24=true->fe=0->ce=0->z43=true->zw=false->N=0/\er=7) (c6:z24=true->fe=0->ce=0->z43=true->zw=true->er=0):a0j Tryz.prog true 7 [c.av,p.av,isl np pc] (bool true):=by
 have haw:=c4a
 obtain⟨l1,n1,C1,m1,E1,hp1⟩: ∃(l:Int) (nc:Nat) (C:Nat->List DV) (nn:Nat) (E:Nat->List DV),p.av= .agg [int l,.d (.sl 2 nc C),.d (.sl 3 nn E)]:=⟨_,_,_,_,_,PlR.avE p⟩
 rw[hp1] at h23 h38 h24 h44⊢
 obtain⟨ns,sz,no,od,nl,lk,⟨ins,isz,ino,iod,ine,ien,inn,ivar,ink,ikid,iroot⟩,⟨gns,gsz,gno,god,gne,gen,gnn,gvar,gnk,gkid,groot⟩⟩:=c
 simp only[CaR.av,DiR.cs,List.cons_append,List.nil_append,knC,j4r] at*
 refine a1e (a0k Tryz.mixed okP ok7 _ rfl fun E Sg hbs hS=> ?_)
 have e:=b2k hS
 cbv
 refine a0v hS _ h18 ?_
 cbv
 refine a0v hS _ h23 ?_
 cbv
 have hb8:Sg.ilt (Int.ofNat 8) (Sg.ofNat np)=false:=by simp only[e.ilt,e.ofNat];exact decide_eq_false (fun h=>absurd (Int.ofNat_lt.1 h) (by omega))
 simp only[hb8]
 cbv
 refine a0v hS _ h38 ?_
 cbv
 have z0:Sg.ieq (Sg.ofNat 0) (Int.ofNat 0)=true:=by simp only[e.ieq,e.ofNat];rfl
 have hee: ∀z:Int,Sg.ieq z z=true:=fun z=>by simp only[e.ieq];exact beq_self_eq_true z
 have hne: ∀z:Int,z≠0->Sg.ieq z (Int.ofNat 0)=false:=fun z h=>by simp only[e.ieq];exact beq_false_of_ne h
 cases z24 with
 |false=>
  obtain⟨r1,r2⟩:=c1 rfl
  subst r1 r2
  refine a0v hS _ h24 ?_
  cbv
  have h44:Sg.ieq 4 (Int.ofNat 4)=true:=hee 4
  simp only[h44]
  cbv
  simp only[z0]
  cbv
  refine a0v hS _ haw ?_
  cbv
  exact a0x.refl _
 |true=>
  refine a0v hS _ h24 ?_
  cbv
  refine a0v hS _ h39 ?_
  cbv
  by_cases hfe:fe=0
  rotate_left
  ·obtain⟨r1,r2⟩:=c2 rfl hfe
   subst r1 r2
   have hb0:=hne er hfe
   simp only[hb0]
   cbv
   simp only[hb0]
   cbv
   simp only[hb0]
   cbv
   simp only[hee]
   cbv
   simp only[z0]
   cbv
   refine a0v hS _ haw ?_
   cbv
   exact a0x.refl _
  subst hfe
  have h00:Sg.ieq 0 (Int.ofNat 0)=true:=hee 0
  simp only[h00]
  cbv
  refine a0v hS _ (h41 rfl) ?_
  cbv
  repeat refine a1g hS (c3d hS) ?_
  refine a0v hS _ (h40 rfl) ?_
  cbv
  repeat refine a1g hS (c3d hS) ?_
  by_cases hce:ce=0
  rotate_left
  ·obtain⟨r1,r2⟩:=c3 rfl rfl hce
   subst r1 r2
   have hb0:=hne er hce
   refine a0v hS _ (h42 rfl) ?_
   cbv
   simp only[hb0]
   cbv
   simp only[hb0]
   cbv
   simp only[hee]
   cbv
   simp only[z0]
   cbv
   refine a0v hS _ haw ?_
   cbv
   exact a0x.refl _
  subst hce
  refine a0v hS _ (h42 rfl) ?_
  cbv
  simp only[h00]
  cbv
  cases z43 with
  |false=>
   obtain⟨r1,r2⟩:=c4 rfl rfl rfl rfl
   subst r1 r2
   refine a0v hS _ (h43 rfl) ?_
   cbv
   have h33':Sg.ieq 3 (Int.ofNat 3)=true:=hee 3
   simp only[h33']
   cbv
   simp only[z0]
   cbv
   refine a0v hS _ haw ?_
   cbv
   exact a0x.refl _
  |true=>
   refine a0v hS _ (h43 rfl) ?_
   cbv
   simp only[h00]
   cbv
   refine a0v hS _ (h29 rfl) ?_
   cbv
   refine a0v hS _ (h45 rfl rfl) ?_
   cbv
   repeat refine a1g hS (c3d hS) ?_
   cases zw with
   |false=>
    obtain⟨r1,r2⟩:=c5 rfl rfl rfl rfl rfl
    subst r1 r2
    refine a0v hS _ (h44 rfl rfl rfl) ?_
    cbv
    have h77:Sg.ieq 7 (Int.ofNat 7)=true:=hee 7
    simp only[h77]
    cbv
    simp only[z0]
    cbv
    refine a0v hS _ haw ?_
    cbv
    exact a0x.refl _
   |true=>
    have r1:=c6 rfl rfl rfl rfl rfl
    subst r1
    refine a0v hS _ (h44 rfl rfl rfl) ?_
    cbv
    simp only[h00]
    cbv
    refine a0v hS _ (h33 rfl rfl rfl rfl) ?_
    cbv
    refine a0v hS _ haw ?_
    cbv
    exact a0x.refl _
end
def CaR.one (c:CaR):CaR:=⟨c.ns,c.sz,c.no,c.od,c.nl,c.lk,j4r c.ns c.no c.sz c.od,j4r c.ns c.no c.sz c.od⟩
theorem CaR.one_lk {c:CaR}{i:Nat}(h:i<c.nl):c.one.dg i=c.lk i:=c.one.dg_lk h
theorem CaR.one_fit {c:CaR}(h:c.fit):c.one.fit:=by
 have hn:=h.ns
 have ho:=h.no
 have hd: ∀i,i<c.nl+2->c.one.dg i=c.dg i\/c.one.dg i=j4r c.ns c.no c.sz c.od:=fun i hi=>by
  by_cases h1:i<c.nl
  ·exact .inl (by rw[CaR.one_lk h1,c.dg_lk h1])
  ·right
   unfold CaR.dg
   rw[if_neg (show¬i<c.one.nl from h1)]
   split<;>rfl
 refine⟨h.ns,h.no,h.nl,fun i hi=> ?_,fun i hi=> ?_,fun i hi=> ?_⟩<;>rcases hd i hi with e|e<;>rw[e]
 ·exact h.dg i hi
 ·exact j5d (by omega) (by omega)
 ·exact h.flt i hi
 ·intro j _;simp[j4r]
 ·exact h.od i hi
 ·exact ho
theorem PlR.wayO_congr {nl:Nat}{V V':Nat->VaR}(h: ∀l,l<nl->V l=V' l): ∀(d:Nat) (p:PlR),-1<=p.look->(∀i,p.isP d->i<p.nc->True)->p.isP d->p.wayO nl V d=p.wayO nl V' d
 |0,_,_,_,_=>rfl
 |d+1,p,h0,_,hp=>by
  rw[PlR.wayO,PlR.wayO]
  by_cases h1:p.look= -1
  ·rw[if_pos h1,if_pos h1]
  rw[if_neg h1,if_neg h1]
  by_cases h2:(nl:Int)<=p.look
  ·rw[if_pos h2,if_pos h2]
  rw[if_neg h2,if_neg h2,h p.look.toNat (by omega)]
  obtain⟨_,_,g3,_,g5⟩:=hp
  cases hf:fnd p.c (V' p.look.toNat) p.nc with
  |none=>rfl
  |some i=>
   have hk:=((g5 h1).2.2 i (j5m hf).1).2.2
   have h5: -1<=(p.nx i).look:=by cases d<;>exact hk.1
   simp only[PlR.wayO_congr h d (p.nx i) h5 (fun _ _ _=>trivial) hk]
theorem PlR.wayO_cut {nl:Nat}{V:Nat->VaR}: ∀(d k:Nat) (p:PlR),d<=k->(PlR.cut k p).wayO nl V d=p.wayO nl V d
 |0,_,_,_=>rfl
 |d+1,k+1,p,h=>by
  rw[PlR.wayO,PlR.wayO]
  show (if p.look= -1 then _ else if (nl:Int)<=p.look then _ else match fnd p.c (V p.look.toNat) p.nc with
   | .none=>_
   | .some i=>_)=_
  by_cases h1:p.look= -1
  ·rw[if_pos h1,if_pos h1]
  rw[if_neg h1,if_neg h1]
  by_cases h2:(nl:Int)<=p.look
  ·rw[if_pos h2,if_pos h2]
  rw[if_neg h2,if_neg h2]
  have:=fun i=>PlR.wayO_cut (nl:=nl) (V:=V) d k (p.nx i) (by omega)
  cases fnd p.c (V p.look.toNat) p.nc with
  |none=>rfl
  |some i=>exact congrArg (fun z:List Int×Bool=>(p.look::z.1,z.2)) (this i)
theorem j5q {a b d:Bool}{P:Prop}(fe ce:Int)(w:List Int×Bool)[Decidable P]: ∃(N:Nat) (er:Int),(a=false->N=0/\er=4)/\(a=true->fe≠0->N=0/\er=fe)/\(a=true->fe=0->ce≠0->N=0/\er=ce)/\(a=true->fe=0->ce=0-> ¬P->N=0/\er=3)/\
 (a=true->fe=0->ce=0->P->w.2=false->N=0/\er=7)/\(a=true->fe=0->ce=0->P->w.2=true->N=w.1.length/\er=0):=by
 cases a
 ·exact⟨0,4,by simp⟩
 by_cases h1:fe=0
 rotate_left
 ·exact⟨0,fe,by simp[h1]⟩
 by_cases h2:ce=0
 rotate_left
 ·exact⟨0,ce,by simp[h1,h2]⟩
 by_cases h3:P
 rotate_left
 ·exact⟨0,3,by simp[h1,h2,h3]⟩
 cases hw:w.2
 ·exact⟨0,7,by simp[h1,h2,h3]⟩
 ·exact⟨w.1.length,0,by simp[h1,h2,h3]⟩
theorem j5i (c:CaR)(hw:c.wf)(p:PlR)(hp:p.ok)(np:Nat)(pc:Nat->Int):a0j Tryz.prog true 7 [c.av,p.av,isl np pc] (bool true):=by
 classical
 have h18:=i3u c (decide (h6v c)) (by simp)
 have h23:=e4c p hp (decide (PlR.cnt 6 p<300)) (by simp)
 by_cases hall:h6v c/\PlR.cnt 6 p<300/\np<=8
 rotate_left
 ·refine j6b c p _ _ h18 h23 ?_
  by_cases h1:h6v c
  ·by_cases h2:PlR.cnt 6 p<300
   ·exact .inr (.inr (Nat.lt_of_not_le fun h=>hall ⟨h1,h2,h⟩))
   ·exact .inr (.inl (by simp[h2]))
  ·exact .inl (by simp[h1])
 obtain⟨ht,hcnt,hnp⟩:=hall
 rw[decide_eq_true ht] at h18
 rw[decide_eq_true hcnt] at h23
 have hf:=ht.fit hw
 have hns:=hf.ns
 have hno:=hf.no
 have hnl:=hf.nl
 have hl: ∀i,i<c.nl->(c.lk i).fit:=fun i hi=>by have:=hf.dg i (by omega);rwa [c.dg_lk hi] at this
 obtain⟨z24,hz24⟩: ∃z:Bool,z=true↔p.isP 4:=⟨decide _,decide_eq_true_iff⟩
 have h24:=d1b 4 (by omega) p hp z24 hz24
 have hq:=PlR.slim_cut 6 p hcnt 4
 have h35:=e0r p hp hcnt z24 hz24
 obtain⟨fe,hfe⟩: ∃fe,h4e c.ns c.no c.sz c.od=fe:=⟨_,rfl⟩
 have h39:=h4p (by omega) (by omega) c.sz c.od fe hfe
 have h119:=h5l (by omega) (by omega) c.sz c.od fe hfe
 obtain⟨ce,hce⟩:=i3o c.one
 have hf1:=CaR.one_fit hf
 have h42:=i2f c.one hf1 ce hce
 have h98:=i0p c.one hf1 ce hce
 have h36:=d1z p hcnt
 have hl':=hl
 have hflt: ∀i,i<c.nl-> ∀j,j<(c.lk i).ne->0<=((c.lk i).en j).fault:=fun i hi=>by have:=hf.flt i (by omega);rwa [c.dg_lk hi] at this
 have hod: ∀i,i<c.nl->(c.lk i).no<=12:=fun i hi=>by have:=hf.od i (by omega);rw[c.dg_lk hi] at this;omega
 obtain⟨V,hV⟩: ∃V:Nat->VaR,∀l,(c.lk l).en (-1-h5d (c.lk l) pc (c.lk l).root).toNat=V l:=⟨_,fun _=>rfl⟩
 obtain⟨z43,hz43⟩: ∃z:Bool,z=true↔j4u c.ns c.sz np pc:=⟨decide _,decide_eq_true_iff⟩
 obtain⟨N,er,c1,c2,c3,c4,c5,c6⟩:=j5q (a:=z24) (b:=false) (d:=false) (P:=z43=true) fe ce (p.wayO c.nl V 4)
 have hone:ce=0->fe=0/\c.nl<=4/\ ∀l,l<c.nl->h5o (c.lk l)=0/\(c.lk l).ns=c.ns/\ ∀j,j<c.ns->(c.lk l).sz j=c.sz j:=fun h0=>by
  subst h0
  rcases hce with⟨h1,h2⟩|⟨h1,⟨_,h2⟩|⟨h2,h3⟩⟩
  ·exact absurd h2.symm h1
  ·cases h2
  ·rcases h3 with⟨i,_,_,d,e⟩|⟨a,⟨b,_⟩|⟨_,b⟩⟩
   ·exact absurd e.symm d
   ·refine⟨hfe.symm.trans h1,h2,fun l hl=> ?_⟩
    have ha:h5o (c.one.dg l)=0:=a l (show l<c.one.nl+2 from Nat.lt_succ_of_lt (Nat.lt_succ_of_lt hl))
    have hb:L (c.one.dg l).ns (c.one.dg l).sz=L c.ns c.sz:=(b l (show l<c.one.nl+2 from Nat.lt_succ_of_lt (Nat.lt_succ_of_lt hl))).1
    rw[CaR.one_lk hl] at ha hb
    obtain⟨e1,e2⟩:=h7a.1 hb
    exact⟨ha,e1,fun j hj=>e2 j (by omega)⟩
   ·cases b
 have hpl:ce=0->z43=true->np=c.ns/\ ∀l,l<c.nl->i3i (c.lk l) pc:=fun h0 h1=>by
  obtain⟨g1,g2⟩:=hz43.1 h1
  refine⟨g1,fun l hl j hj=> ?_⟩
  obtain⟨_,e1,e2⟩:=(hone h0).2.2 l hl
  rw[e2 j (by omega)]
  exact g2 j (by omega)
 have h84:a0j Tryz.prog false 84 [(PlR.cut 6 p).av,isl c.ns c.sz,isl c.no c.od,dsl c.nl c.lk,isl np pc] (.tuple [isl N fun j=>(p.wayO c.nl V 4).1.getD j 0,int er]):=by
  refine j6l (PlR.cut 6 p) hq (by omega) (by omega) hnl V h35 (fun h=> ?_) h119 (fun h=> ?_) (fun h=>h98) (fun h hp l hl=> ?_) N _ er (fun h=> ?_) (fun h=> ?_) (fun h=> ?_) (fun h=> ?_) (fun h=> ?_)
  ·by_cases hz:z24=true
   ·exact (PlR.isP_cut 4 6 p (by omega)).2 (hz24.1 hz)
   ·rw[if_neg hz] at h;cases h
  ·subst h;exact j5o (by omega) (by omega) hfe h119
  ·have h1:=hz43.2 hp
   obtain⟨g1,g2⟩:=hpl h h1
   obtain⟨d1,d2,_⟩:=(hone h).2.2 l hl
   have:=j6k (c.lk l) (hl' l hl) (hflt l hl) (hod l hl) d1 pc (g2 l hl) (V l) (hV l)
   rw[d2,<-g1] at this
   exact this
  ·have hz:z24=false:=by cases z24<;>simp_all
   obtain⟨k1,k2⟩:=c1 hz
   exact⟨k1,by rw[k2,hz];rfl⟩
  ·exact c2 (by cases z24<;>simp_all)
  ·exact c3 (by cases z24<;>simp_all)
  ·exact fun h1 h2 h3=>c4 (by cases z24<;>simp_all) h1 h2 fun h4=>h3 (hz43.1 h4)
  ·intro h1 h2 h3
   rw[PlR.wayO_cut 4 6 p (by omega)]
   exact⟨fun h4=>by obtain⟨k1,k2⟩:=c6 (by cases z24<;>simp_all) h1 h2 (hz43.2 h3) h4;exact⟨k1,fun _ _=>rfl,k2⟩,fun h4=>c5 (by cases z24<;>simp_all) h1 h2 (hz43.2 h3) h4⟩
 have h38:=j6m c hns hno hnl hl p (PlR.cut 6 p) hnp h36 h84
 have hfr:=fun h:fe=0=>h4s (hfe.trans h)
 have hp36:fe=0->h4d c.sz c.ns<=36:=fun h=>by
  rcases ht.2.2.2.2 with h1|h1
  ·exact absurd (hfe.trans h) h1
  ·exact h1
 obtain⟨T,hT⟩: ∃T:Nat,fe=0->(T:Int)=h4d c.sz c.ns:=⟨(h4d c.sz c.ns).toNat,fun h=>by
  have:=h4r (g:=c.sz) (n:=c.ns) fun i hi=>((hfr h).2.1 i hi).1
  omega⟩
 have h72:fe=0->a0j Tryz.prog true 72 [isl c.ns c.sz] (int T):=fun h=>i4b (by omega) c.sz (hfr h).2.1 _ (by have:=hp36 h;have:=hT h;omega)
 have hplc:fe=0->z43=true->i2j c.sz pc c.ns:=fun h h1 j hj=>by
  obtain⟨g1,g2⟩:=hz43.1 h1
  exact g2 j (by omega)
 obtain⟨num,hnum⟩: ∃num:Nat,fe=0->z43=true->(num:Int)=h4w c.sz pc c.ns/\num<T:=⟨(h4w c.sz pc c.ns).toNat,fun h h1=>by
  have:=h5c (hplc h h1)
  have:=hT h
  omega⟩
 have hok:ce=0->c.one.ok T:=fun h=>by
  obtain⟨T',h'⟩:=CaR.ok_of hf1 (h▸hce)
  have e1:(T':Int)=h4d c.sz c.ns:=h'.hT
  have e2:=hT (hone h).1
  have:T'=T:=by omega
  rwa [this] at h'
 have hT36:ce=0->T<=36:=fun h=>by have:=hp36 (hone h).1;have:=hT (hone h).1;omega
 have hwl:ce=0->z43=true->z24=true->p.wayO c.nl (fun l=>c.one.X l num) 4=p.wayO c.nl V 4:=fun h h1 h2=>by
  have h3:=hz24.1 h2
  refine PlR.wayO_congr (fun l hl=> ?_) 4 p h3.1 (fun _ _ _=>trivial) h3
  obtain⟨d1,d2,d3⟩:=(hone h).2.2 l hl
  have hdi:=i0u d1
  obtain⟨k1,k2⟩:=hnum (hone h).1 h1
  have hs:=fun j hj=>((hfr (hone h).1).2.1 j hj).1
  have hsq:=h5s hs num (by rw[<-hT (hone h).1];exact Int.ofNat_lt.2 k2)
  have hpc:=(hpl h h1).2 l hl
  have heq:=j4w hsq.1 (hplc (hone h).1 h1) (hsq.2.trans k1)
  show (c.one.dg l).cell num=V l
  rw[CaR.one_lk hl,<-hV]
  unfold DiR.cell
  have hsz: ∀j,j<c.ns->h5j (c.lk l).sz (c.lk l).ns num j=pc j:=by
   rw[d2]
   have q:=h5s (sz:=(c.lk l).sz) (n:=c.ns) (fun j hj=>by rw[d3 j hj];exact hs j hj) num (by rw[h6k d3,<-hT (hone h).1];exact Int.ofNat_lt.2 k2)
   exact j4w (sz:=c.sz) (fun j hj=>by rw[<-d3 j hj];exact q.1 j hj) (hplc (hone h).1 h1) ((j4v d3).symm.trans (q.2.trans k1))
  rw[i0e hdi.loose (u:=pc) (fun j hj=>hsz j (by omega)) (fun j hj=>by rw[hsz j (by omega)];exact hpc j hj) hpc _ (h4g hdi.loose.2.2)]
 refine j6a c p hnp h18 h23 (N:=N) (W:=fun j=>(p.wayO c.nl V 4).1.getD j 0) (er:=er) (fe:=fe) (ce:=ce) (z24:=z24) (z43:=z43) (T:=T) (num:=num) (X:=c.one.X) (G:=c.one.G) h38 h24 h39 (fun h=>j5y c (by have:=hp36 h;have:=hT h;omega) (h72 h)) (fun h=> ?_) (fun _=>h42) (fun h=> ?_) (fun h=>(hok h).places (hT36 h)) (fun h h1=> ?_)
  (fun h h1 h2=>j6c ?_ ?_ ?_ 4 (by omega) p hp (hz24.1 h1)) (fun h h1 h2 h3=>h7o _ _ _ _ ?_ true ?_) c1 c2 c3 (fun h1 h2 h3 h4=>c4 h1 h2 h3 (by simp[h4])) (fun h1 h2 h3 h4 h5=>c5 h1 h2 h3 h4 ?_) (fun h1 h2 h3 h4 h5=>(c6 h1 h2 h3 h4 ?_).2)
 ·obtain⟨f1,f2,f3,f4,f5⟩:=hfr h
  refine j6o (by omega) (by omega) (j6p (by omega) (by omega) f2 f3 (hT h) (fun i hi=> ?_) c.no 0 (fun _=>0) (by omega) (fun i hi=>⟨by omega,by have:=(f2 i hi).1;omega⟩) 0 (by omega))
  have:=(f5 i hi).1
  omega
 ·exact j5n (by omega) (fun i hi=>by have:=(hfr (hone h).1).2.1 i hi;omega) z43 hz43
 ·obtain⟨f1,f2,f3,_⟩:=hfr (hone h).1
  have:=j4x (by omega) c.sz pc f2 f3 (hplc (hone h).1 h1) num (by rw[j4y];exact (hnum (hone h).1 h1).1.symm)
  rw[<-(hpl h h1).1] at this⊢
  exact this
 ·exact (hnum (hone h).1 h2).2
 ·have:=hT36 h;omega
 ·have:=(hone h).2.1;show c.nl<=6;omega
 ·have:=PlR.wayO_len c.nl V 4 p
  rw[hwl h h2 h1] at h3
  have:=(c6 h1 (hone h).1 h h2 h3).1
  omega
 ·rw[hwl h h2 h1] at h3⊢
  have:=(c6 h1 (hone h).1 h h2 h3).1
  rw[this];simp
 ·rw[<-hwl h3 h4 h1];exact h5
 ·rw[<-hwl h3 h4 h1];exact h5
end Go.Proofs.Tryz.Run
