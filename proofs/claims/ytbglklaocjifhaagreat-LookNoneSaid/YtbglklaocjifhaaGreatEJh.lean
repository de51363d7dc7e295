/- Parts of the proof: Hy, Hz, Ja, Jb, Jc, Jd, Je, Jf, Jg, Jh. Conditions: none. -/
import Derived.Test.YtbglklaocjifhaaGreatEHx
open Go.Proofs.Tryz renaming prog->AA
open Bool renaming false->AB,true->AC
set_option linter.unusedSimpArgs false
set_option linter.unusedVariables false
set_option maxHeartbeats 0
set_option maxRecDepth 100000
namespace Go.Proofs.Tryz.Run
open Go Go.Vf Go.Proofs
open Go.Proofs.YtbglklaocjifhaaGreat
theorem h8l (c:CaR)(hns:c.ns<=8)(hno:c.no<=8)(hnl:c.nl<=6)(hl: ∀i,i<c.nl->(c.lk i).fit)(hi:c.inn.fit)(hg:c.goal.fit){x y:DV}{er:Int}(h81:a0j AA AB 81 [isl c.ns c.sz,isl c.no c.od,dsl c.nl c.lk,c.inn.av,c.goal.av] (.tuple [.d x,.d y,int er])):
 a0j AA AB 31 [c.av] (.tuple [.d x,.d y,int er]):=by
 have q1:=h7c (n:=c.ns) (by omega) c.sz;have q2:=h7c (n:=c.no) (by omega) c.od;have q3:=h9z c.nl (by omega) c.lk hl;have q4:=h8i c.inn hi;have q5:=h8i c.goal hg;obtain⟨ns,sz,no,od,nl,lk,⟨ins,isz,ino,iod,ine,ien,inn,ivar,ink,ikid,iroot⟩,⟨gns,gsz,gno,god,gne,gen,gnn,gvar,gnk,gkid,groot⟩⟩:=c;simp only[CaR.av,DiR.cs,List.cons_append,List.nil_append] at*
 refine a0k Tryz.mixed okP h3e _ rfl fun E Sg hbs hS=> ?_;have e:=b2k hS;cbv
 repeat' (first|(refine a0v hS _ q1 ?_;cbv)|(refine a0v hS _ q2 ?_;cbv)|(refine a0v hS _ q3 ?_;cbv)|(refine a0v hS _ q4 ?_;cbv)|(refine a0v hS _ q5 ?_;cbv)|(refine a0v hS _ h81 ?_;cbv)|refine a1g hS (c3d hS) ?_)
 exact a0x.refl _
theorem h6k {g h:Nat->Int}: ∀{n:Nat},(∀j,j<n->g j=h j)->h4d g n=h4d h n
 |0,_=>rfl
 |n+1,e=>by rw[h4d,h4d,h6k fun j hj=>e j (by omega),e n (by omega)]
def CaR.wf (c:CaR):Prop:= ∀i,i<c.nl+2->(c.dg i).wf
theorem h6v.dg {c:CaR}(h:h6v c): ∀i,i<c.nl+2->h6e (c.dg i):=fun i hi=>by
 unfold CaR.dg;by_cases h1:i<c.nl
 ·rw[if_pos h1];exact h.2.2.2.1 i h1
 ·rw[if_neg h1];by_cases h2:i=c.nl
  ·rw[if_pos h2];exact h.2.1
  ·rw[if_neg h2];exact h.2.2.1
theorem h6v.fit {c:CaR}(h:h6v c)(hw:c.wf):c.fit:=
 ⟨h.1.1,h.1.2.1,h.1.2.2,fun i hi=>(h.dg i hi).fit (hw i hi),fun i hi j hj=>(hw i hi).2.2 j hj,fun i hi=>(h.dg i hi).1.2.1⟩
structure CaR.ok (c:CaR)(T:Nat):Prop where
 fit:c.fit
 nl:c.nl<=4
 fr:h4e c.ns c.no c.sz c.od=0
 hT:(T:Int)=h4d c.sz c.ns
 di: ∀i,i<c.nl+2->i6l (c.dg i)
 Td: ∀i,i<c.nl+2->(T:Int)=h4d (c.dg i).sz (c.dg i).ns
 err: ∀i,i<c.nl+2->h5o (c.dg i)=0
theorem CaR.ok_of {c:CaR}(hf:c.fit)(h:h6t c 0): ∃T:Nat,c.ok T:=by
 rcases h with⟨h1,h2⟩|⟨h1,⟨_,h2⟩|⟨h2,h3⟩⟩
 ·exact absurd h2.symm h1
 ·cases h2
 ·obtain⟨k1,k2,k3,k4,_⟩:=h4s h1;have hp:=h4r (g:=c.sz) (n:=c.ns) fun i hi=>(k2 i hi).1;obtain⟨T,hT⟩: ∃T:Nat,(T:Int)=h4d c.sz c.ns:=⟨(h4d c.sz c.ns).toNat,by omega⟩;rcases h3 with⟨i,a,b,d,e⟩|⟨a,⟨b,_⟩|⟨_,b⟩⟩
  ·exact absurd e.symm d
  ·refine⟨T,hf,h2,h1,hT,fun i hi=>i0u (a i hi),fun i hi=> ?_,a⟩;obtain⟨e1,e2⟩:=h7a.1 (b i hi).1;rw[hT,e1];exact h6k fun j hj=>(e2 j (by omega)).symm
  ·cases b
theorem CaR.ok.T36 {c:CaR}{T:Nat}(h:c.ok T)(ht:h6v c):T<=36:=by
 rcases ht.2.2.2.2 with h1|h1
 ·exact absurd h.fr h1
 ·have:=h.hT;omega
def CaR.X (c:CaR)(i:Nat):Nat->VaR:=(c.dg i).cell
def CaR.P (c:CaR)(T:Nat):List Nat:=plc (c.X c.nl) T
def CaR.W (c:CaR)(T:Nat)(j:Nat):Nat:=(c.P T).getD j 0
noncomputable def CaR.G (c:CaR)(p:Nat):Bool:=by classical exact decide (c.X (c.nl+1) p=⟨0,1⟩)
theorem CaR.W_lt {c:CaR}{T j:Nat}(h:j<(c.P T).length):c.W T j<T:=by unfold CaR.W;rw[List.getD_eq_getElem?_getD,List.getElem?_eq_getElem h];exact ((i0h _ T _).1 (List.getElem_mem h)).1
section
variable {c:CaR} {T:Nat}
theorem CaR.ok.c42 (h:c.ok T)(hE:h6t c 0):a0j AA AC 42 [c.av] (int 0):=i2f c h.fit 0 hE
theorem CaR.ok.c98 (h:c.ok T)(hE:h6t c 0):a0j AA AC 98 [isl c.ns c.sz,isl c.no c.od,dsl c.nl c.lk,c.inn.av,c.goal.av] (int 0):=i0p c h.fit 0 hE
theorem CaR.ok.list (h:c.ok T)(i:Nat)(hi:i<c.nl+2):a0j AA AB 54 [(c.dg i).av] (vsl T (c.X i)):=i6a (c.dg i) (h.di i hi) (h.fit.dg i hi) (h.Td i hi)
theorem CaR.ok.list2 (h:c.ok T)(i:Nat)(hi:i<c.nl+2):a0j AA AB 170 [(c.dg i).av] (.tuple [vsl T (c.X i),int 0]):=
 i5u (c.dg i) (h.fit.dg i hi) (h.fit.flt i hi) (by have:=h.fit.od i hi;omega) 0 (h.err i hi) _ (.inr ⟨rfl,T,h.Td i hi,rfl⟩)
theorem CaR.ok.lk54 (h:c.ok T)(i:Nat)(hi:i<c.nl):a0j AA AB 54 [(c.lk i).av] (vsl T (c.X i)):=by have:=h.list i (by omega);rwa [c.dg_lk hi] at this
theorem CaR.ok.in54 (h:c.ok T):a0j AA AB 54 [c.inn.av] (vsl T (c.X c.nl)):=by have:=h.list c.nl (by omega);rwa [c.dg_in] at this
theorem CaR.ok.go54 (h:c.ok T):a0j AA AB 54 [c.goal.av] (vsl T (c.X (c.nl+1))):=by have:=h.list (c.nl+1) (by omega);rwa [c.dg_goal] at this
theorem CaR.ok.lk170 (h:c.ok T)(i:Nat)(hi:i<c.nl):a0j AA AB 170 [(c.lk i).av] (.tuple [vsl T (c.X i),int 0]):=by have:=h.list2 i (by omega);rwa [c.dg_lk hi] at this
theorem CaR.ok.in170 (h:c.ok T):a0j AA AB 170 [c.inn.av] (.tuple [vsl T (c.X c.nl),int 0]):=by have:=h.list2 c.nl (by omega);rwa [c.dg_in] at this
theorem CaR.ok.go170 (h:c.ok T):a0j AA AB 170 [c.goal.av] (.tuple [vsl T (c.X (c.nl+1)),int 0]):=by have:=h.list2 (c.nl+1) (by omega);rwa [c.dg_goal] at this
theorem CaR.G_iff (c:CaR)(p:Nat):c.G p=AC↔c.X (c.nl+1) p=⟨0,1⟩:=by unfold CaR.G;exact decide_eq_true_iff
theorem CaR.ok.places (h:c.ok T)(hT:T<=36):a0j AA AB 29 [c.av] (.tuple [isl (c.P T).length fun j=>(c.W T j:Int),.agg (knC c.nl T c.X c.G)]):=
 i3f c T (by omega) (by have:=h.nl;omega) c.X (c.X c.nl) (c.X (c.nl+1)) (h.lk54) h.in54 h.go54 c.G c.G_iff
theorem CaR.ok.read (h:c.ok T)(hE:h6t c 0)(hT:T<=36):a0j AA AB 131 [isl c.ns c.sz,isl c.no c.od,dsl c.nl c.lk,c.inn.av,c.goal.av] (.tuple [.dptr (i0q c.ns c.sz c.no c.od c.nl (c.P T).length (fun j=>(c.W T j:Int)) c.X c.G) 0,int 0]):=
 i4v c.inn c.goal (by omega) h.nl (h.c98 hE) c.X (c.X c.nl) (c.X (c.nl+1)) h.lk170 h.in170 h.go170 c.G c.G_iff
theorem i1x (c:CaR)(ht:h6v c)(hw:c.wf):(∃er:Int,er≠0/\(∃k1 k2:DV,a0j AA AB 21 [c.av] (.tuple [.d .nil,.agg [.d k1,.d k2],int er]))/\a0j AA AB 108 [isl c.ns c.sz,isl c.no c.od,dsl c.nl c.lk,c.inn.av,c.goal.av] (.tuple [.d (.raw (.pointer none)),int er]))\/
 ∃T:Nat,c.ok T/\T<=36/\0<(c.P T).length/\a0j AA AB 21 [c.av] (.tuple [isl (c.P T).length fun j=>(c.W T j:Int),.agg (knC c.nl T c.X c.G),int 0])/\
  a0j AA AB 108 [isl c.ns c.sz,isl c.no c.od,dsl c.nl c.lk,c.inn.av,c.goal.av] (.tuple [.dptr (i0q c.ns c.sz c.no c.od c.nl (c.P T).length (fun j=>(c.W T j:Int)) c.X c.G) 0,int 0]):=by
 have hf:=ht.fit hw;obtain⟨er,hE⟩:=i3o c;by_cases h0:er=0
 ·subst h0;obtain⟨T,h⟩:=CaR.ok_of hf hE;have hT:=h.T36 ht;have h29:=h.places hT;have h131:=h.read hE hT;obtain⟨a1,a2⟩:=i3p c (h.c42 hE) h29;obtain⟨o1,o2⟩:=i3a c.inn c.goal h131;rcases Nat.eq_zero_or_pos (c.P T).length with h1|h1
  ·exact .inl ⟨12,by decide,⟨_,_,a1 h1⟩,o1 h1⟩
  ·exact .inr ⟨T,h,hT,h1,a2 h1,o2 h1⟩
 ·exact .inl ⟨er,h0,⟨_,_,i3r c (i2f c hf er hE) h0⟩,i2r _ _ (i2x _ _ (i0p c hf er hE) h0) h0⟩
end
def j4u (ns:Nat)(sz:Nat->Int)(np:Nat)(pc:Nat->Int):Prop:=np=ns/\ ∀i,i<np->0<=pc i/\pc i<sz i
theorem j5n {ns np:Nat}{sz pc:Nat->Int}(hns:ns<=1000000)(hs: ∀i,i<ns->1<=sz i/\sz i<=1000000)(r:Bool)(hr:r=AC↔j4u ns sz np pc):a0j AA AC 43 [isl ns sz,isl np pc] (bool r):=by
 refine a1e (a0k Tryz.mixed okP j7c _ rfl fun E Sg hb hS=> ?_);have e:=b2k hS;have hF: ¬j4u ns sz np pc->a0x (.d (.bool AB)) (.d (.bool r)):=fun h=>by rw[<-hr] at h;exact a0s (by cases r<;>simp_all)
 cbv;split
 ·rename_i h;have h5:np≠ns:=fun h'=>e8q hS h (by rw[h']);cbv;exact hF fun h=>h5 h.1
 rename_i h;have h5:np=ns:=by have:=e8o hS h;simp only[e.ofNat] at this;omega
 subst h5;cbv;refine a7r Tryz.mixed okP hS (fun i=>i<=np/\ ∀j,j<i->0<=pc j/\pc j<sz j) (fun i=>np-i)
  (fun i=>⟨b5r [(0,isl np sz),(1,isl np pc),(5,int i)] 28,[],[]⟩) 0 ⟨by omega,by omega⟩ ?_ ?_
 ·exact a4c rfl ⟨a0x.refl _,a0x.refl _,a6c rfl,trivial⟩ (.same _) (by simp;omega) (.inr rfl) rfl
 rintro i ⟨hi,hz⟩ K hK;cbv;split
 ·rename_i h;have hlt:i<np:=d3r hS h;cbv;simp only[nat,e.toNat,Int.ofNat_eq_natCast,Int.toNat_natCast];have hsi:=hs i hlt;obtain⟨z,hz2⟩: ∃z:Bool,z=AC↔0<=pc i/\pc i<=sz i-1:=⟨decide _,decide_eq_true_iff⟩;have h85:a0j AA AC 85 [int (pc i),int 0,int (Sg.isub (sz i) 1)] (bool z):=by rw[e.isub];exact i5t (pc i) 0 (sz i-1) z hz2
  refine a1g hS (a5p hS hlt) (a1g hS (a5p hS hlt) (a1g hS (a9o hS (by omega)) ?_));refine a0v hS (bool z) h85 ?_;cases z with
  |false=>
   cbv;exact hF fun h=>by have:=h.2 i hlt;have:=hz2.2 (by omega);cases this
  |true=>
   cbv;refine a1g hS (e1n hS (by omega)) ?_;have h6:=hz2.1 rfl;refine hK (i+1) _ ⟨by omega,fun j hj=> ?_⟩ (by omega) (a4c rfl ⟨a0x.refl _,a0x.refl _,b2s hS,trivial⟩ (.same _) (by simp;omega) (.inr rfl) rfl);by_cases ej:j=i
   ·rw[ej];omega
   ·exact hz j (by omega)
 ·rename_i h;have hin:np<=i:=d3c hS h;cbv;exact a0s (hr.2 ⟨rfl,fun j hj=>hz j (by omega)⟩).symm
def onD (ns no:Nat)(sz od:Nat->Int)(q:Nat):AV:= .agg [isl ns sz,isl no od,.msl 0 2 none q AB,.msl 1 2 none 0 AB,int 0]
theorem j4y (sz g:Nat->Int): ∀n,j5f sz g n=h4w sz g n
 |0=>rfl
 |n+1=>by rw[j5f,h4w,j4y sz g n]
section
variable (c:CaR) (p:PlR) {np:Nat} {pc:Nat->Int}
end
end Go.Proofs.Tryz.Run
