/- LookApart answers true. Reading of cases: what reads as a case is one of the executor's. Conditions: none. -/
import Derived.Test.YtbglklaocjifhaaGreatALr
import Derived.Test.YtbglklaocjifhaaGreatANa
import Derived.Test.YtbglklaocjifhaaGreatANb
import Derived.Test.YtbglklaocjifhaaGreatANc
import Derived.Test.YtbglklaocjifhaaGreatAOa
import Derived.Test.YtbglklaocjifhaaGreatAPm0
import Derived.Test.YtbglklaocjifhaaGreatAQd
import Derived.Test.YtbglklaocjifhaaGreatAQf
import Derived.Test.YtbglklaocjifhaaGreatAQh
import Derived.Test.YtbglklaocjifhaaGreatAQi
import Derived.Test.YtbglklaocjifhaaGreatASd
import Derived.Test.YtbglklaocjifhaaGreatASp
import Derived.Test.YtbglklaocjifhaaGreatASv
import Derived.Test.YtbglklaocjifhaaGreatASx
import Derived.Test.YtbglklaocjifhaaGreatAHr
import Derived.Test.YtbglklaocjifhaaGreatAHt
import Derived.Test.YtbglklaocjifhaaGreatAHu
import Derived.Test.YtbglklaocjifhaaGreatAHv
import Derived.Test.YtbglklaocjifhaaGreatAHw
import Derived.Test.YtbglklaocjifhaaGreatAHy
import Derived.Test.YtbglklaocjifhaaGreatANe
set_option linter.unusedSimpArgs false
set_option linter.unusedVariables false
set_option maxHeartbeats 0
set_option maxRecDepth 100000
namespace Go.Proofs.Tryz.Run
open Go Go.Vf Go.Proofs
open Go.Proofs.YtbglklaocjifhaaGreat
theorem i3h (A B:DiR){ns no nl:Nat}{sz od:Nat->Int}{lk:Nat->DiR}{er:Int}(h108:a0j Tryz.prog false 108 [isl ns sz,isl no od,dsl nl lk,A.av,B.av] (.tuple [.d (.raw (.pointer none)),int er]))(h0:er≠0):
 a0j Tryz.prog false 81 [isl ns sz,isl no od,dsl nl lk,A.av,B.av] (.tuple [.d .nil,.d .nil,int er]):=by
 obtain⟨ins,isz,ino,iod,ine,ien,inn,ivar,ink,ikid,iroot⟩:=A
 obtain⟨gns,gsz,gno,god,gne,gen,gnn,gvar,gnk,gkid,groot⟩:=B
 refine a0k Tryz.mixed okP h2h _ rfl fun E Sg hbs hS=> ?_
 have e:=b2k hS
 cbv
 refine a0v hS _ h108 ?_
 cbv
 have hb0:(er==Int.ofNat 0)=false:=beq_false_of_ne h0
 simp only[e.ieq,e.bnot,hb0]
 cbv
 exact a0x.refl _
theorem h8l (c:CaR)(hns:c.ns<=8)(hno:c.no<=8)(hnl:c.nl<=6)(hl: ∀i,i<c.nl->(c.lk i).fit)(hi:c.inn.fit)(hg:c.goal.fit){x y:DV}{er:Int}(h81:a0j Tryz.prog false 81 [isl c.ns c.sz,isl c.no c.od,dsl c.nl c.lk,c.inn.av,c.goal.av] (.tuple [.d x,.d y,int er])):
 a0j Tryz.prog false 31 [c.av] (.tuple [.d x,.d y,int er]):=by
 have q1:=h7c (n:=c.ns) (by omega) c.sz
 have q2:=h7c (n:=c.no) (by omega) c.od
 have q3:=h9z c.nl (by omega) c.lk hl
 have q4:=h8i c.inn hi
 have q5:=h8i c.goal hg
 obtain⟨ns,sz,no,od,nl,lk,⟨ins,isz,ino,iod,ine,ien,inn,ivar,ink,ikid,iroot⟩,⟨gns,gsz,gno,god,gne,gen,gnn,gvar,gnk,gkid,groot⟩⟩:=c
 simp only[CaR.av,DiR.cs,List.cons_append,List.nil_append] at*
 refine a0k Tryz.mixed okP h3e _ rfl fun E Sg hbs hS=> ?_
 have e:=b2k hS
 cbv
 repeat' (first|(refine a0v hS _ q1 ?_;cbv)|(refine a0v hS _ q2 ?_;cbv)|(refine a0v hS _ q3 ?_;cbv)|(refine a0v hS _ q4 ?_;cbv)|(refine a0v hS _ q5 ?_;cbv)|(refine a0v hS _ h81 ?_;cbv)|refine a1g hS (c3d hS) ?_)
 exact a0x.refl _
theorem h8f (c:CaR)(h18:a0j Tryz.prog true 18 [c.av] (bool false)):a0j Tryz.prog true 5 [c.av] (bool true):=by
 have haw:=c4a
 obtain⟨ns,sz,no,od,nl,lk,⟨ins,isz,ino,iod,ine,ien,inn,ivar,ink,ikid,iroot⟩,⟨gns,gsz,gno,god,gne,gen,gnn,gvar,gnk,gkid,groot⟩⟩:=c
 simp only[CaR.av,DiR.cs,List.cons_append,List.nil_append] at*
 refine a1e (a0k Tryz.mixed okP ok5 _ rfl fun E Sg hbs hS=> ?_)
 cbv
 refine a0v hS _ h18 ?_
 cbv
 refine a0v hS _ haw ?_
 cbv
 exact a0x.refl _
theorem h8n (c:CaR)(h18:a0j Tryz.prog true 18 [c.av] (bool true)){er:Int}(h0:er≠0)(h31:a0j Tryz.prog false 31 [c.av] (.tuple [.d .nil,.d .nil,int er])){k1 k2:DV}(h21:a0j Tryz.prog false 21 [c.av] (.tuple [.d .nil,.agg [.d k1,.d k2],int er])):
 a0j Tryz.prog true 5 [c.av] (bool true):=by
 have haw:=c4a
 obtain⟨ns,sz,no,od,nl,lk,⟨ins,isz,ino,iod,ine,ien,inn,ivar,ink,ikid,iroot⟩,⟨gns,gsz,gno,god,gne,gen,gnn,gvar,gnk,gkid,groot⟩⟩:=c
 simp only[CaR.av,DiR.cs,List.cons_append,List.nil_append] at*
 refine a1e (a0k Tryz.mixed okP ok5 _ rfl fun E Sg hbs hS=> ?_)
 have e:=b2k hS
 cbv
 refine a0v hS _ h18 ?_
 cbv
 refine a0v hS _ h31 ?_
 cbv
 refine a0v hS _ h21 ?_
 cbv
 have hb0:(er==Int.ofNat 0)=false:=beq_false_of_ne h0
 simp only[e.ieq,hb0]
 cbv
 simp only[e.ieq,BEq.rfl]
 cbv
 refine a1g hS (e7p hS (by decide)) ?_
 refine a0v hS _ haw ?_
 cbv
 exact a0x.refl _
theorem h8k (c:CaR){nl n T:Nat}{W:Nat->Int}{X:Nat->Nat->VaR}{G:Nat->Bool}(h18:a0j Tryz.prog true 18 [c.av] (bool true))(h31:a0j Tryz.prog false 31 [c.av] (.tuple [.d .nil,.d .nil,int 7]))(h21:a0j Tryz.prog false 21 [c.av] (.tuple [isl n W,.agg (knC nl T X G),int 0]))(h32:a0j Tryz.prog true 32 [.agg (knC nl T X G),isl n W] (.tuple [int 0,int 0,bool false])):
 a0j Tryz.prog true 5 [c.av] (bool true):=by
 have haw:=c4a
 obtain⟨ns,sz,no,od,nl,lk,⟨ins,isz,ino,iod,ine,ien,inn,ivar,ink,ikid,iroot⟩,⟨gns,gsz,gno,god,gne,gen,gnn,gvar,gnk,gkid,groot⟩⟩:=c
 simp only[CaR.av,DiR.cs,List.cons_append,List.nil_append,knC] at*
 refine a1e (a0k Tryz.mixed okP ok5 _ rfl fun E Sg hbs hS=> ?_)
 have e:=b2k hS
 cbv
 refine a0v hS _ h18 ?_
 cbv
 refine a0v hS _ h31 ?_
 cbv
 refine a0v hS _ h21 ?_
 cbv
 simp only[e.ieq]
 cbv
 refine a0v hS _ h32 ?_
 cbv
 simp only[e.ieq]
 cbv
 refine a1g hS (e7p hS (by decide)) ?_
 refine a0v hS _ haw ?_
 cbv
 exact a0x.refl _
theorem h8p (c:CaR){nl n T:Nat}{W:Nat->Int}{X:Nat->Nat->VaR}{G:Nat->Bool}{x y:Int}{g h:Nat->Int}(h18:a0j Tryz.prog true 18 [c.av] (bool true))(h31:a0j Tryz.prog false 31 [c.av] (.tuple [isl c.ns g,isl c.ns h,int 0]))(h21:a0j Tryz.prog false 21 [c.av] (.tuple [isl n W,.agg (knC nl T X G),int 0]))(h32:a0j Tryz.prog true 32 [.agg (knC nl T X G),isl n W] (.tuple [int x,int y,bool true]))
 (hx:a0j Tryz.prog false 34 [isl c.ns c.sz,int x] (isl c.ns g)) (hy:a0j Tryz.prog false 34 [isl c.ns c.sz,int y] (isl c.ns h)) (sx:a0j Tryz.prog true 33 [isl c.ns g,isl c.ns g] (bool true)) (sy:a0j Tryz.prog true 33 [isl c.ns h,isl c.ns h] (bool true)):
 a0j Tryz.prog true 5 [c.av] (bool true):=by
 have haw:=c4a
 obtain⟨ns,sz,no,od,nl,lk,⟨ins,isz,ino,iod,ine,ien,inn,ivar,ink,ikid,iroot⟩,⟨gns,gsz,gno,god,gne,gen,gnn,gvar,gnk,gkid,groot⟩⟩:=c
 simp only[CaR.av,DiR.cs,List.cons_append,List.nil_append,knC] at*
 refine a1e (a0k Tryz.mixed okP ok5 _ rfl fun E Sg hbs hS=> ?_)
 have e:=b2k hS
 cbv
 refine a0v hS _ h18 ?_
 cbv
 refine a0v hS _ h31 ?_
 cbv
 refine a0v hS _ h21 ?_
 cbv
 simp only[e.ieq]
 cbv
 refine a0v hS _ h32 ?_
 cbv
 simp only[e.ieq]
 cbv
 refine a0v hS _ hx ?_
 cbv
 refine a0v hS _ sx ?_
 cbv
 refine a0v hS _ hy ?_
 cbv
 refine a0v hS _ sy ?_
 cbv
 refine a0v hS _ haw ?_
 cbv
 exact a0x.refl _
theorem h6k {g h:Nat->Int}: ∀{n:Nat},(∀j,j<n->g j=h j)->h4d g n=h4d h n
 |0,_=>rfl
 |n+1,e=>by rw[h4d,h4d,h6k fun j hj=>e j (by omega),e n (by omega)]
def CaR.wf (c:CaR):Prop:= ∀i,i<c.nl+2->(c.dg i).wf
theorem h6v.dg {c:CaR}(h:h6v c): ∀i,i<c.nl+2->h6e (c.dg i):=fun i hi=>by
 unfold CaR.dg
 by_cases h1:i<c.nl
 ·rw[if_pos h1];exact h.2.2.2.1 i h1
 ·rw[if_neg h1]
  by_cases h2:i=c.nl
  ·rw[if_pos h2];exact h.2.1
  ·rw[if_neg h2];exact h.2.2.1
theorem h6v.fit {c:CaR}(h:h6v c)(hw:c.wf):c.fit:=
 ⟨h.1.1,h.1.2.1,h.1.2.2,fun i hi=>(h.dg i hi).fit (hw i hi),fun i hi j hj=>(hw i hi).2.2 j hj,fun i hi=>(h.dg i hi).1.2.1⟩
structure CaR.ok (c:CaR)(T:Nat):Prop where
 fit:c.fit
 nl:c.nl<=4
 fr:h4e c.ns c.no c.sz c.od=0
 hT:(T:Int)=h4d c.sz c.ns
 di: ∀i,i<c.nl+2->i6l (c.dg i)
 Td: ∀i,i<c.nl+2->(T:Int)=h4d (c.dg i).sz (c.dg i).ns
 err: ∀i,i<c.nl+2->h5o (c.dg i)=0
theorem CaR.ok_of {c:CaR}(hf:c.fit)(h:h6t c 0): ∃T:Nat,c.ok T:=by
 rcases h with⟨h1,h2⟩|⟨h1,⟨_,h2⟩|⟨h2,h3⟩⟩
 ·exact absurd h2.symm h1
 ·cases h2
 ·obtain⟨k1,k2,k3,k4,_⟩:=h4s h1
  have hp:=h4r (g:=c.sz) (n:=c.ns) fun i hi=>(k2 i hi).1
  obtain⟨T,hT⟩: ∃T:Nat,(T:Int)=h4d c.sz c.ns:=⟨(h4d c.sz c.ns).toNat,by omega⟩
  rcases h3 with⟨i,a,b,d,e⟩|⟨a,⟨b,_⟩|⟨_,b⟩⟩
  ·exact absurd e.symm d
  ·refine⟨T,hf,h2,h1,hT,fun i hi=>i0u (a i hi),fun i hi=> ?_,a⟩
   obtain⟨e1,e2⟩:=h7a.1 (b i hi).1
   rw[hT,e1]
   exact h6k fun j hj=>(e2 j (by omega)).symm
  ·cases b
theorem CaR.ok.T36 {c:CaR}{T:Nat}(h:c.ok T)(ht:h6v c):T<=36:=by
 rcases ht.2.2.2.2 with h1|h1
 ·exact absurd h.fr h1
 ·have:=h.hT;omega
def CaR.X (c:CaR)(i:Nat):Nat->VaR:=(c.dg i).cell
def CaR.P (c:CaR)(T:Nat):List Nat:=plc (c.X c.nl) T
def CaR.W (c:CaR)(T:Nat)(j:Nat):Nat:=(c.P T).getD j 0
noncomputable def CaR.G (c:CaR)(p:Nat):Bool:=by classical exact decide (c.X (c.nl+1) p=⟨0,1⟩)
theorem CaR.W_lt {c:CaR}{T j:Nat}(h:j<(c.P T).length):c.W T j<T:=by
 unfold CaR.W
 rw[List.getD_eq_getElem?_getD,List.getElem?_eq_getElem h]
 exact ((i0h _ T _).1 (List.getElem_mem h)).1
section
variable {c:CaR} {T:Nat}
theorem CaR.ok.c42 (h:c.ok T)(hE:h6t c 0):a0j Tryz.prog true 42 [c.av] (int 0):=i2f c h.fit 0 hE
theorem CaR.ok.c98 (h:c.ok T)(hE:h6t c 0):a0j Tryz.prog true 98 [isl c.ns c.sz,isl c.no c.od,dsl c.nl c.lk,c.inn.av,c.goal.av] (int 0):=i0p c h.fit 0 hE
theorem CaR.ok.list (h:c.ok T)(i:Nat)(hi:i<c.nl+2):a0j Tryz.prog false 54 [(c.dg i).av] (vsl T (c.X i)):=i6a (c.dg i) (h.di i hi) (h.fit.dg i hi) (h.Td i hi)
theorem CaR.ok.list2 (h:c.ok T)(i:Nat)(hi:i<c.nl+2):a0j Tryz.prog false 170 [(c.dg i).av] (.tuple [vsl T (c.X i),int 0]):=
 i5u (c.dg i) (h.fit.dg i hi) (h.fit.flt i hi) (by have:=h.fit.od i hi;omega) 0 (h.err i hi) _ (.inr ⟨rfl,T,h.Td i hi,rfl⟩)
theorem CaR.ok.lk54 (h:c.ok T)(i:Nat)(hi:i<c.nl):a0j Tryz.prog false 54 [(c.lk i).av] (vsl T (c.X i)):=by have:=h.list i (by omega);rwa [c.dg_lk hi] at this
theorem CaR.ok.in54 (h:c.ok T):a0j Tryz.prog false 54 [c.inn.av] (vsl T (c.X c.nl)):=by have:=h.list c.nl (by omega);rwa [c.dg_in] at this
theorem CaR.ok.go54 (h:c.ok T):a0j Tryz.prog false 54 [c.goal.av] (vsl T (c.X (c.nl+1))):=by have:=h.list (c.nl+1) (by omega);rwa [c.dg_goal] at this
theorem CaR.ok.lk170 (h:c.ok T)(i:Nat)(hi:i<c.nl):a0j Tryz.prog false 170 [(c.lk i).av] (.tuple [vsl T (c.X i),int 0]):=by have:=h.list2 i (by omega);rwa [c.dg_lk hi] at this
theorem CaR.ok.in170 (h:c.ok T):a0j Tryz.prog false 170 [c.inn.av] (.tuple [vsl T (c.X c.nl),int 0]):=by have:=h.list2 c.nl (by omega);rwa [c.dg_in] at this
theorem CaR.ok.go170 (h:c.ok T):a0j Tryz.prog false 170 [c.goal.av] (.tuple [vsl T (c.X (c.nl+1)),int 0]):=by have:=h.list2 (c.nl+1) (by omega);rwa [c.dg_goal] at this
theorem CaR.G_iff (c:CaR)(p:Nat):c.G p=true↔c.X (c.nl+1) p=⟨0,1⟩:=by unfold CaR.G;exact decide_eq_true_iff
theorem CaR.ok.places (h:c.ok T)(hT:T<=36):a0j Tryz.prog false 29 [c.av] (.tuple [isl (c.P T).length fun j=>(c.W T j:Int),.agg (knC c.nl T c.X c.G)]):=
 i3f c T (by omega) (by have:=h.nl;omega) c.X (c.X c.nl) (c.X (c.nl+1)) (h.lk54) h.in54 h.go54 c.G c.G_iff
theorem CaR.ok.read (h:c.ok T)(hE:h6t c 0)(hT:T<=36):a0j Tryz.prog false 131 [isl c.ns c.sz,isl c.no c.od,dsl c.nl c.lk,c.inn.av,c.goal.av] (.tuple [.dptr (i0q c.ns c.sz c.no c.od c.nl (c.P T).length (fun j=>(c.W T j:Int)) c.X c.G) 0,int 0]):=
 i4v c.inn c.goal (by omega) h.nl (h.c98 hE) c.X (c.X c.nl) (c.X (c.nl+1)) h.lk170 h.in170 h.go170 c.G c.G_iff
theorem i1x (c:CaR)(ht:h6v c)(hw:c.wf):(∃er:Int,er≠0/\(∃k1 k2:DV,a0j Tryz.prog false 21 [c.av] (.tuple [.d .nil,.agg [.d k1,.d k2],int er]))/\a0j Tryz.prog false 108 [isl c.ns c.sz,isl c.no c.od,dsl c.nl c.lk,c.inn.av,c.goal.av] (.tuple [.d (.raw (.pointer none)),int er]))\/
 ∃T:Nat,c.ok T/\T<=36/\0<(c.P T).length/\a0j Tryz.prog false 21 [c.av] (.tuple [isl (c.P T).length fun j=>(c.W T j:Int),.agg (knC c.nl T c.X c.G),int 0])/\
  a0j Tryz.prog false 108 [isl c.ns c.sz,isl c.no c.od,dsl c.nl c.lk,c.inn.av,c.goal.av] (.tuple [.dptr (i0q c.ns c.sz c.no c.od c.nl (c.P T).length (fun j=>(c.W T j:Int)) c.X c.G) 0,int 0]):=by
 have hf:=ht.fit hw
 obtain⟨er,hE⟩:=i3o c
 by_cases h0:er=0
 ·subst h0
  obtain⟨T,h⟩:=CaR.ok_of hf hE
  have hT:=h.T36 ht
  have h29:=h.places hT
  have h131:=h.read hE hT
  obtain⟨a1,a2⟩:=i3p c (h.c42 hE) h29
  obtain⟨o1,o2⟩:=i3a c.inn c.goal h131
  rcases Nat.eq_zero_or_pos (c.P T).length with h1|h1
  ·exact .inl ⟨12,by decide,⟨_,_,a1 h1⟩,o1 h1⟩
  ·exact .inr ⟨T,h,hT,h1,a2 h1,o2 h1⟩
 ·exact .inl ⟨er,h0,⟨_,_,i3r c (i2f c hf er hE) h0⟩,i2r _ _ (i2x _ _ (i0p c hf er hE) h0) h0⟩
end
theorem h9w (c:CaR)(hw:c.wf):a0j Tryz.prog true 5 [c.av] (bool true):=by
 classical
 by_cases ht:h6v c
 rotate_left
 ·exact h8f c (i3u c false (by simp[ht]))
 have h18:=i3u c true (by simp[ht])
 have hf:=ht.fit hw
 have hl: ∀i,i<c.nl->(c.lk i).fit:=fun i hi=>by have:=hf.dg i (by omega);rwa [c.dg_lk hi] at this
 have hi:c.inn.fit:=by have:=hf.dg c.nl (by omega);rwa [c.dg_in] at this
 have hg:c.goal.fit:=by have:=hf.dg (c.nl+1) (by omega);rwa [c.dg_goal] at this
 rcases i1x c ht hw with⟨er,h0,⟨k1,k2,h21⟩,h108⟩|⟨T,h,hT,hpos,h21,h108⟩
 ·exact h8n c h18 h0 (h8l c hf.ns hf.no hf.nl hl hi hg (i3h _ _ h108 h0)) h21
 obtain⟨k1,k2,k3,k4,_⟩:=h4s h.fr
 have hlen:(c.P T).length<=T:=h8g _ T
 have hpl: ∀p,p<T->i2j c.sz (h5j c.sz c.ns p) c.ns/\h4w c.sz (h5j c.sz c.ns p) c.ns=p:=fun p hp=>h5s (fun j hj=>(k2 j hj).1) p (by rw[<-h.hT];exact Int.ofNat_lt.2 hp)
 obtain⟨a,ha⟩: ∃a:Nat->Nat->Bool,∀i j,a i j=true↔(∀k,k<c.nl->c.X k (c.W T i)=c.X k (c.W T j))/\c.G (c.W T i)≠c.G (c.W T j):=⟨fun i j=>decide _,fun i j=>decide_eq_true_iff⟩
 have ha4: ∀i j,a i j=true↔(∀k,k<4->cel c.nl c.X k (c.W T i)=cel c.nl c.X k (c.W T j))/\c.G (c.W T i)≠c.G (c.W T j):=fun i j=>by
  rw[ha]
  refine and_congr_left fun _=>⟨fun h1 k hk=> ?_,fun h1 k hk=> ?_⟩
  ·unfold cel
   by_cases h2:k<c.nl
   ·rw[if_pos h2,if_pos h2];exact h1 k h2
   ·rw[if_neg h2,if_neg h2]
  ·have:=h1 k (by have:=h.nl;omega)
   unfold cel at this
   rwa [if_pos hk,if_pos hk] at this
 have h112: ∀j,j<(c.P T).length->a0j Tryz.prog false 112 [.agg [isl c.ns c.sz,isl c.no c.od],int (c.W T j)] (isl c.ns (h5j c.sz c.ns (c.W T j))):=fun j hj=>
  i2t (by omega) c.sz c.od _ k2 k3 (hpl _ (CaR.W_lt hj)).1 _ (hpl _ (CaR.W_lt hj)).2
 rcases i4u (c.P T).length a with hno|⟨x,y,hxy⟩
 ·have h81:=i0g c.inn c.goal (by omega) h108 (fun p=>h5j c.sz c.ns p) h112 a ha4 _ (.inl ⟨hno,rfl⟩)
  have h32:=i0l (n:=(c.P T).length) (nl:=c.nl) (T:=T) (by omega) (by have:=h.nl;omega) (W:=c.W T) (fun j hj=>CaR.W_lt hj) (X:=c.X) (G:=c.G) a ha _ (.inl ⟨hno,rfl⟩)
  exact h8k c h18 (h8l c hf.ns hf.no hf.nl hl hi hg h81) h21 (b4i (by intro z hz;simp at hz;rcases hz with rfl|rfl|rfl<;>trivial) h32)
 ·have h81:=i0g c.inn c.goal (by omega) h108 (fun p=>h5j c.sz c.ns p) h112 a ha4 _ (.inr ⟨x,y,hxy,rfl⟩)
  have h32:=i0l (n:=(c.P T).length) (nl:=c.nl) (T:=T) (by omega) (by have:=h.nl;omega) (W:=c.W T) (fun j hj=>CaR.W_lt hj) (X:=c.X) (G:=c.G) a ha _ (.inr ⟨x,y,hxy,rfl⟩)
  have hx:x<(c.P T).length:=by have:=hxy.1;omega
  have hy:y<(c.P T).length:=hxy.1.2.1
  exact h8p c h18 (h8l c hf.ns hf.no hf.nl hl hi hg h81) h21 (b4i (by intro z hz;simp at hz;rcases hz with rfl|rfl|rfl<;>trivial) h32)
   (i2g (by omega) c.sz _ k2 k3 (hpl _ (CaR.W_lt hx)).1 _ (hpl _ (CaR.W_lt hx)).2) (i2g (by omega) c.sz _ k2 k3 (hpl _ (CaR.W_lt hy)).1 _ (hpl _ (CaR.W_lt hy)).2)
   (h7o _ _ _ _ (by omega) true (by simp)) (h7o _ _ _ _ (by omega) true (by simp))
end Go.Proofs.Tryz.Run
namespace Go.Proofs.YtbglklaocjifhaaGreat
namespace Cs
open Go.ChangeShapes Go.WideShapes Go.ChangeAt Go.RowKit Go.Vf Go.Proofs.Tryz.Run
noncomputable def fieldsOf (t:TypeId):Option (List (TypeId×Nat)):=
 match Tryz.prog.underlying t with
 |some (.struct fs)=>some (fs.toList.map fun f=>(f.type,f.offset))
 |_=>none
theorem u22:Tryz.prog.underlying 22=some (.slice 3):=by kernel_rfl
theorem u23:Tryz.prog.underlying 23=some (.slice 27):=by kernel_rfl
theorem u24:Tryz.prog.underlying 24=some (.slice 77):=by kernel_rfl
theorem u25:Tryz.prog.underlying 25=some (.slice 131):=by kernel_rfl
theorem u3:Tryz.prog.underlying 3=some (.int .i64):=by kernel_rfl
theorem u5:Tryz.prog.underlying 5=some (.int .u8):=by kernel_rfl
theorem f29:fieldsOf 29=some [(22,0),(22,1),(23,2),(27,3),(27,8)]:=by kernel_rfl
theorem f27:fieldsOf 27=some [(22,0),(22,1),(24,2),(25,3),(3,4)]:=by kernel_rfl
theorem f77:fieldsOf 77=some [(5,0),(3,1)]:=by kernel_rfl
theorem i8r:fieldsOf 131=some [(3,0),(22,1)]:=by kernel_rfl
theorem k29:Tryz.prog.cellsOf 29=13:=by kernel_rfl
theorem k27:Tryz.prog.cellsOf 27=5:=by kernel_rfl
theorem k77:Tryz.prog.cellsOf 77=2:=by kernel_rfl
theorem i9k:Tryz.prog.cellsOf 131=2:=by kernel_rfl
theorem k3:Tryz.prog.cellsOf 3=1:=by kernel_rfl
theorem k5:Tryz.prog.cellsOf 5=1:=by kernel_rfl
theorem k22:Tryz.prog.cellsOf 22=1:=by kernel_rfl
theorem k23:Tryz.prog.cellsOf 23=1:=by kernel_rfl
theorem k24:Tryz.prog.cellsOf 24=1:=by kernel_rfl
theorem k25:Tryz.prog.cellsOf 25=1:=by kernel_rfl
instance:Inhabited VaR:=⟨⟨0,0⟩⟩
instance:Inhabited DiR:=⟨⟨0,fun _=>0,0,fun _=>0,0,fun _=>default,0,fun _=>0,fun _=>0,fun _ _=>0,0⟩⟩
theorem list2 {α:Type}{l:List α}(h:l.length=2): ∃a b,l=[a,b]:=by
 match l,h with
 |[a,b],_=>exact⟨a,b,rfl⟩
theorem i6v {α:Type}{l:List α}(h:l.length=5): ∃a b c d e,l=[a,b,c,d,e]:=by
 match l,h with
 |[a,b,c,d,e],_=>exact⟨a,b,c,d,e,rfl⟩
theorem i5v {α:Type}{l:List α}(h:l.length=13): ∃a b c d e f g h i j k m n,l=[a,b,c,d,e,f,g,h,i,j,k,m,n]:=by
 match l,h with
 |[a,b,c,d,e,f,g,h,i,j,k,m,n],_=>exact⟨a,b,c,d,e,f,g,h,i,j,k,m,n,rfl⟩
section
variable {H:Type} {enc:TypeId×Value->H} {w:World} {spare:Nat->Bool} {held:Bool}
theorem h4o {t:TypeId}{l:List (TypeId×Nat)}(hf:fieldsOf t=some l){fuel:Nat}{cs:List Value}{x:DataW H×List MemPlace}(h:DataW.trod enc Tryz.prog w 0 spare held fuel t cs=some x):
 cs.length=Tryz.prog.cellsOf t/\ ∀(i:Nat) (ty:TypeId) (off:Nat),l[i]? =some (ty,off)-> ∃n y,DataW.trod enc Tryz.prog w 0 spare held n ty ((cs.drop off).take (Tryz.prog.cellsOf ty))=some y:=by
 unfold fieldsOf at hf
 split at hf
 ·rename_i fs hu
  cases hf
  obtain⟨xs,n,_,_,h1,h2,h3⟩:=DataW.trod_struct hu h
  refine⟨h1,fun i ty off hi=> ?_⟩
  rw[List.getElem?_map] at hi
  cases hfi:fs.toList[i]? with
  |none=>simp[hfi] at hi
  |some f=>
   simp[hfi] at hi
   obtain⟨rfl,rfl⟩:=hi
   have hfi':fs[i]? =some f:=by simpa using hfi
   have hlt:i<fs.size:=(Array.getElem?_eq_some_iff.1 hfi').1
   have:=h3 i f hfi'
   rw[show xs[i]? =some (xs[i]'(by omega)) from List.getElem?_eq_getElem _] at this
   exact⟨n,_,this⟩
 ·cases hf
theorem h4y {fuel:Nat}{cs:List Value}{x:DataW H×List MemPlace}(h:DataW.trod enc Tryz.prog w 0 spare held fuel 22 cs=some x):
 ∃(v:Value) (n:Nat) (g:Nat->Int),cs=[v]/\DVR w (d6a w) (.sl 1 n fun i=>[.int .i64 (.v (g i))]) v/\ ∀i,i<n->c5t (g i):=by
 obtain⟨v,n,f,h1,h2,h3⟩:=h5b u22 h (α:=Int) (fun z=>[.int .i64 (.v z)]) c5t k3 (by omega) fun n cs y hl hy=>by
  obtain⟨z,hz,rfl⟩:=b5t u3 hy
  exact⟨z,hz,d0e (.int _ _)⟩
 exact⟨v,n,f,h1,h2,h3⟩
theorem i1w {fuel:Nat}{cs:List Value}{x:DataW H×List MemPlace}(h:DataW.trod enc Tryz.prog w 0 spare held fuel 24 cs=some x):
 ∃(v:Value) (n:Nat) (f:Nat->VaR),cs=[v]/\DVR w (d6a w) (.sl 2 n fun i=>(f i).row) v/\ ∀i,i<n->0<=(f i).fault:=by
 obtain⟨v,n,f,h1,h2,h3⟩:=h5b u24 h (α:=VaR) VaR.row (fun v=>0<=v.fault) k77 (by omega) fun n cs y hl hy=>by
  obtain⟨_,hf⟩:=h4o f77 hy
  obtain⟨c0,c1,rfl⟩:=list2 hl
  obtain⟨_,_,q0⟩:=hf 0 5 0 rfl
  obtain⟨_,_,q1⟩:=hf 1 3 1 rfl
  rw[k5] at q0
  rw[k3] at q1
  simp at q0 q1
  obtain⟨z0,hz,e0⟩:=b5t u5 q0
  obtain⟨z1,_,e1⟩:=b5t u3 q1
  simp at e0 e1
  subst e0 e1
  exact⟨⟨z0,z1⟩,hz.1,b5g (.int _ _) (d0e (.int _ _))⟩
 exact⟨v,n,f,h1,h2,h3⟩
theorem h6u {fuel:Nat}{cs:List Value}{x:DataW H×List MemPlace}(h:DataW.trod enc Tryz.prog w 0 spare held fuel 25 cs=some x):
 ∃(v:Value) (n:Nat) (var:Nat->Int) (nk:Nat->Nat) (kid:Nat->Nat->Int),cs=[v]/\DVR w (d6a w) (.sl 2 n fun i=>[.int .i64 (.v (var i)),.sl 1 (nk i) fun j=>[.int .i64 (.v (kid i j))]]) v/\ ∀i,i<n-> ∀j,j<nk i->c5t (kid i j):=by
 obtain⟨v,n,f,h1,h2,h3⟩:=h5b u25 h (α:=Int×Nat×(Nat->Int)) (fun b=>[.int .i64 (.v b.1),.sl 1 b.2.1 fun j=>[.int .i64 (.v (b.2.2 j))]]) (fun b=> ∀j,j<b.2.1->c5t (b.2.2 j)) i9k (by omega) fun n cs y hl hy=>by
  obtain⟨_,hf⟩:=h4o i8r hy
  obtain⟨c0,c1,rfl⟩:=list2 hl
  obtain⟨_,_,q0⟩:=hf 0 3 0 rfl
  obtain⟨_,_,q1⟩:=hf 1 22 1 rfl
  rw[k3] at q0
  rw[k22] at q1
  simp at q0 q1
  obtain⟨z0,_,e0⟩:=b5t u3 q0
  obtain⟨v1,n1,g1,e1,r1,b1⟩:=h4y q1
  simp at e0 e1
  subst e0 e1
  exact⟨⟨z0,n1,g1⟩,b1,b5g (.int _ _) (d0e r1)⟩
 exact⟨v,n,fun i=>(f i).1,fun i=>(f i).2.1,fun i=>(f i).2.2,h1,h2,h3⟩
theorem h6b {fuel:Nat}{cs:List Value}{x:DataW H×List MemPlace}(h:DataW.trod enc Tryz.prog w 0 spare held fuel 27 cs=some x): ∃d:DiR,d.wf/\Row w d.row cs:=by
 obtain⟨hl,hf⟩:=h4o f27 h
 rw[k27] at hl
 obtain⟨c0,c1,c2,c3,c4,rfl⟩:=i6v hl
 obtain⟨_,_,q0⟩:=hf 0 22 0 rfl
 obtain⟨_,_,q1⟩:=hf 1 22 1 rfl
 obtain⟨_,_,q2⟩:=hf 2 24 2 rfl
 obtain⟨_,_,q3⟩:=hf 3 25 3 rfl
 obtain⟨_,_,q4⟩:=hf 4 3 4 rfl
 rw[k22] at q0 q1
 rw[k24] at q2
 rw[k25] at q3
 rw[k3] at q4
 simp at q0 q1 q2 q3 q4
 obtain⟨v0,ns,sz,e0,r0,_⟩:=h4y q0
 obtain⟨v1,no,od,e1,r1,_⟩:=h4y q1
 obtain⟨v2,ne,en,e2,r2,b2⟩:=i1w q2
 obtain⟨v3,nn,var,nk,kid,e3,r3,b3⟩:=h6u q3
 obtain⟨root,b4,e4⟩:=b5t u3 q4
 simp at e0 e1 e2 e3 e4
 subst e0 e1 e2 e3 e4
 exact⟨⟨ns,sz,no,od,ne,en,nn,var,nk,kid,root⟩,⟨b3,b4,b2⟩,b5g r0 (b5g r1 (b5g r2 (b5g r3 (d0e (.int _ _)))))⟩
theorem i0w {xs ys:List DV}{cs ds:List Value}(h:Row w xs cs)(k:Row w ys ds):Row w (xs++ys) (cs++ds):=by
 refine⟨by simp[h.1,k.1],fun j x v hx hv=> ?_⟩
 by_cases hj:j<xs.length
 ·rw[List.getElem?_append_left hj] at hx
  rw[List.getElem?_append_left (by have:=h.1;omega)] at hv
  exact h.2 j x v hx hv
 ·rw[List.getElem?_append_right (by omega)] at hx
  rw[List.getElem?_append_right (by have:=h.1;omega),<-h.1] at hv
  exact k.2 _ x v hx hv
def i7i (c:CaR):List DV:=[.sl 1 c.ns fun i=>[.int .i64 (.v (c.sz i))],.sl 1 c.no fun i=>[.int .i64 (.v (c.od i))],.sl 5 c.nl fun i=>(c.lk i).row]++c.inn.row++c.goal.row
theorem i4o (c:CaR):c.av= .agg ((i7i c).map .d):=rfl
theorem i6c {xs:List DV}{v:Value}(h:Row w xs v.cells.toList)(hl:xs.length≠1):VR w (d6a w) a2j (.agg (xs.map .d)) v:=by
 have: ∃cs,v= .agg cs:=by
  cases v with
  |agg cs=>exact⟨cs,rfl⟩
  |_=>exact absurd (by simpa [Value.cells] using h.1) hl
 obtain⟨cs,rfl⟩:=this
 have h:Row w xs cs.toList:=h
 refine .agg _ _ (by simpa using h.1) fun i x u hx hu=> ?_
 rw[List.getElem?_map] at hx
 cases hc:xs[i]? with
 |none=>simp[hc] at hx
 |some y=>simp[hc] at hx;subst hx;exact .d (h.2 i y u hc (by simpa using hu))
theorem case_read {v:Value}{d:DataW H}{ps:List MemPlace}(h:DataW.Trod enc Tryz.prog w 0 spare held 29 v d ps): ∃c:CaR,c.wf/\VR w (d6a w) a2j c.av v:=by
 obtain⟨fuel,h⟩:=h
 obtain⟨hl,hf⟩:=h4o f29 h
 rw[k29] at hl
 obtain⟨c0,c1,c2,c3,c4,c5,c6,c7,c8,c9,c10,c11,c12,hc⟩:=i5v hl
 rw[hc] at hf
 obtain⟨_,_,q0⟩:=hf 0 22 0 rfl
 obtain⟨_,_,q1⟩:=hf 1 22 1 rfl
 obtain⟨_,_,q2⟩:=hf 2 23 2 rfl
 obtain⟨_,_,q3⟩:=hf 3 27 3 rfl
 obtain⟨_,_,q4⟩:=hf 4 27 8 rfl
 rw[k22] at q0 q1
 rw[k23] at q2
 rw[k27] at q3 q4
 simp at q0 q1 q2 q3 q4
 obtain⟨v0,ns,sz,e0,r0,_⟩:=h4y q0
 obtain⟨v1,no,od,e1,r1,_⟩:=h4y q1
 obtain⟨v2,nl,lk,e2,r2,b2⟩:=h5b u23 q2 (α:=DiR) DiR.row DiR.wf k27 (by omega) fun n cs y hl hy=>h6b hy
 obtain⟨inn,b3,r3⟩:=h6b q3
 obtain⟨goal,b4,r4⟩:=h6b q4
 simp at e0 e1 e2
 subst e0 e1 e2
 refine⟨⟨ns,sz,no,od,nl,lk,inn,goal⟩,fun i hi=> ?_,?_⟩
 ·unfold CaR.dg
  by_cases h1:i<nl
  ·rw[if_pos h1];exact b2 i h1
  ·rw[if_neg h1]
   by_cases h2:i=nl
   ·rw[if_pos h2];exact b3
   ·rw[if_neg h2];exact b4
 ·rw[i4o]
  refine i6c ?_ (by simp[i7i,DiR.row])
  rw[hc]
  exact i0w (i0w (b5g r0 (b5g r1 (d0e r2))) r3) r4
theorem one_calls {f:FuncId}{a:AV}(h:a0j Tryz.prog true f [a] (bool true))(W:World)(v:Value)(hv:VR W (d6a W) a2j a v):
 Calls Tryz.prog f #[v] W fun e w'=>e= .returned (.bool true)/\Below W.heap.size W w':=by
 refine (h.2 W (d6a W) #[v] (fun _ h=>h) ⟨rfl,fun i x u hx hu=> ?_⟩).mono fun e w' hR=> ?_
 ·cases i with
  |zero=>simp at hx hu;subst hx;subst hu;exact hv
  |succ i=>simp at hx
 ·obtain⟨v,S',h1,h2,_,h3⟩:=hR
  cases h2 with
  |d h2=>cases h2;exact⟨h1,h3.os,h3.tape,h3.output,h3.size,h3.frame⟩
end
end Cs
end Go.Proofs.YtbglklaocjifhaaGreat
