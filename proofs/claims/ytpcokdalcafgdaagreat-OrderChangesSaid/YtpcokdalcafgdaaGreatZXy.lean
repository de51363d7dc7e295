/- OrderChanges answers true: the walk. Conditions: none. -/
import Derived.Test.YtpcokdalcafgdaaGreatZXw
import Derived.Test.YtpcokdalcafgdaaGreatZXc
import Derived.Test.YtpcokdalcafgdaaGreatZPf
set_option linter.unusedSimpArgs false
set_option linter.unusedVariables false
namespace Go.Proofs.Tryz.Run
open Go Go.Vf Go.Proofs
open Go.Proofs.YtpcokdalcafgdaaGreat
theorem ints41c' {n:Nat}(hn:n≤1000000)(g:Nat→Int)(res:AV)(hres:res=isl n g):PureF Tryz.prog false 41 [isl n g] res:=by
 refine pureF_of_fn Tryz.mixed okP ok41 _ rfl fun E Sg hb hS=> ?_
 cases n with
 |zero=>
  cbv
  subst hres
  exact Like.nil0
 |succ n=>
  cbv
  repeat' ((first|(with_reducible apply req_i hS))<;>cbv)
  all_goals try (subst hS;simp[std,nat,IX.val,big] at* <;>omega)
  subst hres
  exact Like.refl _
theorem ints41c {n:Nat}(hn:n≤1000000)(g:Nat→Int):PureF Tryz.prog false 41 [isl n g] (isl n g):=ints41c' hn g _ rfl
section
variable {n:Nat} {e0:Nat→List DV} {v:AV} {r:Int}
theorem swap36e (hv: ∃a b c d:DV,v= .agg [.d a,.d b,.d c,.d d])(h54:PureF Tryz.prog false 54 [.d (.sl 5 n e0)] (.tuple [v,int r]))(hr:r≠0)(a:Int):
 PureF Tryz.prog false 36 [.d (.sl 5 n e0),int a] (.tuple [.d .nil,int r]):=by
 obtain⟨a,b,c,d,rfl⟩:=hv
 refine pureF_of_fn Tryz.mixed okP ok36 _ rfl fun E Sg hb hS=> ?_
 cbv
 refine callb_i hS _ h54 ?_
 cbv
 split
 ·cbv
  exact Likes.tuple (.cons (Like.refl _) (.cons (Like.refl _) .nil))
 ·rename_i h;exact absurd (f_ne hS h) hr
theorem move37e (hv: ∃a b c d:DV,v= .agg [.d a,.d b,.d c,.d d])(h54:PureF Tryz.prog false 54 [.d (.sl 5 n e0)] (.tuple [v,int r]))(hr:r≠0)(a b:Int):
 PureF Tryz.prog false 37 [.d (.sl 5 n e0),int a,int b] (.tuple [.d .nil,int r]):=by
 obtain⟨a,b,c,d,rfl⟩:=hv
 refine pureF_of_fn Tryz.mixed okP ok37 _ rfl fun E Sg hb hS=> ?_
 cbv
 refine callb_i hS _ h54 ?_
 cbv
 split
 ·cbv
  exact Likes.tuple (.cons (Like.refl _) (.cons (Like.refl _) .nil))
 ·rename_i h;exact absurd (f_ne hS h) hr
end
set_option maxHeartbeats 16000000 in
set_option maxRecDepth 100000 in
theorem orderChanges12 (n:Nat)(l:Nat→DiR)(hw: ∀i,i<n→(l i).wf)(m:Nat)(od:Nat→Int)(a0 a1:Int):PureF Tryz.prog true 12 [dsl n l,isl m od,.agg [int a0,int a1]] (bool true):=by
 have haw:=awake_true
 by_cases ht:thins n l
 rotate_left
 ·have h16:=thin16 n l hw false (by simp[ht])
  refine pure_bool (pureF_of_fn Tryz.mixed okP ok12 _ rfl fun E Sg hb hS=> ?_)
  cbv
  refine callb_i hS _ h16 ?_
  cbv
  refine callb_i hS _ haw ?_
  cbv
  exact Like.refl _
 have h16:=thin16 n l hw true (by simp[ht])
 by_cases hm:8<m
 ·clear ht hw
  have hm8:(8:Int)<(m:Int):=by omega
  refine pure_bool (pureF_of_fn Tryz.mixed okP ok12 _ rfl fun E Sg hb hS=> ?_)
  have e:=stdE hS
  cbv
  refine callb_i hS _ h16 ?_
  cbv
  split
  rotate_left
  ·rename_i h;have h:=f_lt hS h;simp only[e.ofNat] at h;exact absurd hm8 (Int.not_lt.2 h)
  cbv
  refine callb_i hS _ haw ?_
  cbv
  exact Like.refl _
 have hn4:=ht.1
 have hfit: ∀i,i<n→(l i).fit:=fun i hi=>(ht.2 i hi).1.fit (hw i hi)
 have hflt: ∀i,i<n→ ∀j,j<(l i).ne→0≤((l i).en j).fault:=fun i hi=>(hw i hi).2.2
 have h19:=copy19 n (by omega) l hfit
 have h41:=ints41c (n:=m) (by omega) od
 obtain⟨r,hr⟩:=famErr_ex n l
 have h21:=check21 n (by omega) l hfit r hr
 have hm8: ¬(8:Int)<(m:Int):=by omega
 by_cases h0:r≠0
 ·obtain⟨v,hv,_,hp⟩:=open_any (n:=n) (by omega) hfit hflt (fun i hi=>by have:=(ht.2 i hi).1.1.2.1;omega) r hr
  have h40:=change40e hv hp h0 m od
  have h36:=swap36e hv hp h0 a0
  have h37:=move37e hv hp h0 a0 a1
  clear ht hw hfit hflt hr hp hv
  refine pure_bool (pureF_of_fn Tryz.mixed okP ok12 _ rfl fun E Sg hb hS=> ?_)
  have e:=stdE hS
  have hb0:(r==Int.ofNat 0)=false:=beq_false_of_ne h0
  cbv
  refine callb_i hS _ h16 ?_
  cbv
  split
  ·rename_i h;have h:=t_lt hS h;simp only[e.ofNat] at h;exact absurd h hm8
  cbv
  refine callb_i hS _ h19 ?_
  cbv
  refine callb_i hS _ h41 ?_
  cbv
  refine callb_i hS _ h40 ?_
  cbv
  refine callb_i hS _ h19 ?_
  cbv
  refine req_i hS (i_same hS) (callb_i hS _ h36 ?_)
  cbv
  refine callb_i hS _ h19 ?_
  cbv
  refine req_i hS (i_same hS) (req_i hS (i_same hS) (callb_i hS _ h37 ?_))
  cbv
  refine callb_i hS _ h21 ?_
  cbv
  simp only[e.ieq,e.bnot,hb0]
  cbv
  simp only[e.ieq,BEq.rfl]
  cbv
  simp only[e.ieq,BEq.rfl]
  cbv
  simp only[e.ieq,BEq.rfl]
  cbv
  refine req_i hS (i_inr hS (by decide)) (req_i hS (i_inr hS (by decide)) (callb_i hS _ haw ?_))
  cbv
  exact Like.refl _
 obtain rfl:r=0:=by omega
 have hF:=FamOk.mk' (by omega) hfit hflt hr
 clear hfit hflt hr ht hw h0
 obtain⟨k0,e0,h40,c0⟩:=change40u hF (m:=m) (by omega) od
 obtain⟨k1,e1,h36,c1⟩:=swap36u hF a0
 obtain⟨k2,e2,p2,h37,c2,hp2⟩:=move37u hF a0 a1
 have ho:=hF.ons
 have hno:=hF.no 0 hF.pos.1
 have h38:=fun z hz=>isOrder38 (n:=(l 0).ns) (m:=m) (by omega) (by omega) (l 0).sz od z hz
 have h42:=fun h=>change42 hF (no:=m) (od:=od) h
 have h27:=fun h=>chg_same hF (no:=m) (od:=od) h
 have h44:=fun p q hp hq=>hF.moved44 (p:=p) (q:=q) hp hq
 have h42m:=fun p q hp hq=>change42 hF (hF.frMv (p:=p) (q:=q) hp hq)
 have h27m:=fun p q hp hq=>chg_same hF (hF.frMv (p:=p) (q:=q) hp hq)
 simp only[hF.frOf] at h42 h27
 have hn0:0<n:=hF.pos.1
 have h43:=fun c z hz=>in43 a0 0 c z hz
 have h43b:=fun c z hz=>in43 a1 0 c z hz
 obtain⟨ns,hns⟩: ∃ns,(l 0).ns=ns:=⟨_,rfl⟩
 obtain⟨no,hno'⟩: ∃no,(l 0).no=no:=⟨_,rfl⟩
 obtain⟨sz,hsz⟩: ∃sz,(l 0).sz=sz:=⟨_,rfl⟩
 obtain⟨o1,ho1⟩: ∃o1,(l 0).od=o1:=⟨_,rfl⟩
 obtain⟨C,hC⟩: ∃C,chg l m od=C:=⟨_,rfl⟩
 obtain⟨M,hM⟩: ∃M:Nat→Nat→Nat→DiR,∀p q,mvF l p q=M p q:=⟨fun p q=>mvF l p q,fun _ _=>rfl⟩
 have hM': ∀p q,chg l (l 0).no (mvd (l 0).no (l 0).od p q)=M p q:=hM
 obtain⟨B,hB⟩: ∃B:Nat→Nat→Nat→Int,∀p q,mvd (l 0).no (l 0).od p q=B p q:=⟨fun p q=>mvd (l 0).no (l 0).od p q,fun _ _=>rfl⟩
 simp only[hM'] at h42m h27m
 simp only[hB] at h44 h42m
 simp only[hM,hC,hns,hno',hsz,ho1] at h40 h36 h37 c0 c1 c2 hp2 ho hno h38 h42 h27 h44 h42m h27m
 clear hF hM hM' hB hC
 obtain⟨z2,hz2⟩: ∃z:Int,z=(ns:Int)-2:=⟨_,rfl⟩
 obtain⟨z1,hz1⟩: ∃z:Int,z=(ns:Int)-1:=⟨_,rfl⟩
 obtain⟨y,hy⟩: ∃y:Int,((a0.toNat+1:Nat):Int)=y:=⟨_,rfl⟩
 have f2: -9223372036854775808≤z2∧z2≤9223372036854775807:=by omega
 have f1: -9223372036854775808≤z1∧z1≤9223372036854775807:=by omega
 rw[show (no:Int)-2=z2 by omega] at c1
 rw[show (no:Int)-1=z1 by omega] at c2 hp2
 have hpos:0≤a0∧a0≤z2→a0.toNat<no∧a0.toNat+1<no∧a0+1=y∧(0≤a0∧a0<(no:Int))∧(-9223372036854775808≤a0+1∧a0+1≤9223372036854775807):=fun h=>by omega
 have hpos2:0≤a1∧a1≤z1→a1.toNat<no∧((a1.toNat:Nat):Int)=a1:=fun h=>by omega
 obtain⟨t0,ht0⟩: ∃t,a0.toNat=t:=⟨_,rfl⟩
 obtain⟨t1,ht1⟩: ∃t,a1.toNat=t:=⟨_,rfl⟩
 simp only[ht0,ht1] at h36 h37 hpos hpos2 hy
 refine pure_bool (pureF_of_fn Tryz.mixed okP ok12 _ rfl fun E Sg hb hS=> ?_)
 have e:=stdE hS
 cbv
 refine callb_i hS _ h16 ?_
 cbv
 split
 ·rename_i h;have h:=t_lt hS h;simp only[e.ofNat] at h;exact absurd h hm8
 cbv
 refine callb_i hS _ h19 ?_
 cbv
 refine callb_i hS _ h41 ?_
 cbv
 refine callb_i hS _ h40 ?_
 cbv
 refine callb_i hS _ h19 ?_
 cbv
 refine req_i hS (i_same hS) (callb_i hS _ h36 ?_)
 cbv
 refine callb_i hS _ h19 ?_
 cbv
 refine req_i hS (i_same hS) (req_i hS (i_same hS) (callb_i hS _ h37 ?_))
 cbv
 refine callb_i hS _ h21 ?_
 cbv
 simp only[e.ieq,e.bnot]
 cbv
 refine req_i hS (i_inbN hS hn0) (req_i hS (i_inbN hS hn0) ?_)
 simp only[show nat Sg (IX.l (Int.ofNat 0))=0 from by subst hS;rfl,hns,hsz,hno',ho1]
 have g2:Sg.isub (Sg.ofNat ns) (Int.ofNat 2)=z2:=by rw[e.isub,e.ofNat];exact hz2.symm
 have g2':Sg.isub (Int.ofNat ns) (Int.ofNat 2)=z2:=by rw[e.isub];exact hz2.symm
 have g1:Sg.isub (Sg.ofNat ns) (Int.ofNat 1)=z1:=by rw[e.isub,e.ofNat];exact hz1.symm
 have g1':Sg.isub (Int.ofNat ns) (Int.ofNat 1)=z1:=by rw[e.isub];exact hz1.symm
 by_cases d0:isOrd ns m od
 case' pos=>
  obtain⟨rfl,rfl⟩:n=k0∧e0=0:=by
   rcases c0 with⟨_,h1,h2⟩|⟨h,_⟩
   ·exact⟨h1.symm,h2⟩
   ·exact absurd d0 h
  refine callb_i hS _ (h38 true (by simp[d0])) ?_
  cbv
  simp only[e.ieq,e.bnot]
  cbv
  refine callb_i hS _ (h42 d0) ?_
  cbv
  refine callb_i hS _ (h27 d0) ?_
  cbv
 case' neg=>
  obtain⟨rfl,rfl⟩:k0=0∧e0=4:=by
   rcases c0 with⟨h,_⟩|⟨_,h⟩
   ·exact absurd h d0
   ·exact h
  refine callb_i hS _ (h38 false (by simp[d0])) ?_
  cbv
  simp only[e.ieq,e.bnot]
  cbv
  simp only[e.ieq,e.bnot,e.ofNat]
  cbv
 all_goals
  simp only[g2,g2']
  refine req_i hS (i_inr hS f2) ?_
  by_cases d1:0≤a0∧a0≤z2
  case' pos=>
   obtain⟨q1,q2⟩:n=k1∧e1=0:=by
    rcases c1 with⟨_,h1,h2⟩|⟨h,_⟩
    ·exact⟨h1.symm,h2⟩
    ·exact absurd d1 h
   subst q1 q2
   obtain⟨p1,p2',p3,p4,p5⟩:=hpos d1
   have r44:=h44 t0 (t0+1) p1 p2'
   have r42:=h42m t0 (t0+1) p1 p2'
   have r27:=h27m t0 (t0+1) p1 p2'
   rw[hy] at r44
   refine callb_i hS _ (h43 z2 true (by simp[d1])) ?_
   cbv
   simp only[e.ieq,e.bnot]
   cbv
   refine req_i hS (i_inb hS p4) (req_i hS (i_inrA hS p5) ?_)
   simp only[show Sg.iadd a0 (Int.ofNat 1)=y from by rw[e.iadd];exact p3,nat,e.toNat,IX.val,ht0]
   refine callb_i hS _ r44 ?_
   cbv
   refine callb_i hS _ r42 ?_
   cbv
   refine callb_i hS _ r27 ?_
   cbv
  case' neg=>
   obtain⟨q1,q2⟩:k1=0∧e1=3:=by
    rcases c1 with⟨h,_⟩|⟨_,h⟩
    ·exact absurd h d1
    ·exact h
   subst q1 q2
   refine callb_i hS _ (h43 z2 false (by simp[d1])) ?_
   cbv
   simp only[e.ieq,e.bnot]
   cbv
   simp only[e.ieq,e.bnot,e.ofNat]
   cbv
 all_goals
  simp only[g1,g1']
  refine req_i hS (i_inr hS f1) ?_
  by_cases d2:0≤a0∧a0≤z1
  case' neg=>
   obtain⟨q1,q2⟩:k2=0∧e2=3:=by
    rcases c2 with⟨h,_⟩|⟨_,h⟩
    ·exact absurd h.1 d2
    ·exact h
   subst q1 q2
   refine callb_i hS _ (h43 z1 false (by simp[d2])) ?_
   cbv
  case' pos=>
   by_cases d3:0≤a1∧a1≤z1
   case' neg=>
    obtain⟨q1,q2⟩:k2=0∧e2=3:=by
     rcases c2 with⟨h,_⟩|⟨_,h⟩
     ·exact absurd h.2 d3
     ·exact h
    subst q1 q2
    refine callb_i hS _ (h43 z1 true (by simp[d2])) ?_
    cbv
    simp only[g1,g1']
    refine req_i hS (i_inr hS f1) ?_
    refine callb_i hS _ (h43b z1 false (by simp[d3])) ?_
    cbv
   case' pos=>
    obtain⟨q1,q2⟩:n=k2∧e2=0:=by
     rcases c2 with⟨_,h1,h2⟩|⟨h,_⟩
     ·exact⟨h1.symm,h2⟩
     ·exact absurd ⟨d2,d3⟩ h
    subst q1 q2
    obtain⟨p1,p2'⟩:=hp2 d2
    obtain⟨p3,p4⟩:=hpos2 d3
    have r44:=h44 p2 t1 p1 p3
    have r42:=h42m p2 t1 p1 p3
    have r27:=h27m p2 t1 p1 p3
    rw[p2',p4] at r44
    refine callb_i hS _ (h43 z1 true (by simp[d2])) ?_
    cbv
    simp only[g1,g1']
    refine req_i hS (i_inr hS f1) ?_
    refine callb_i hS _ (h43b z1 true (by simp[d3])) ?_
    cbv
    simp only[e.ieq,e.bnot]
    cbv
    refine callb_i hS _ r44 ?_
    cbv
    refine callb_i hS _ r42 ?_
    cbv
    refine callb_i hS _ r27 ?_
    cbv
    refine callb_i hS _ haw ?_
    cbv
    exact Like.refl _
 all_goals
  simp only[e.ieq,e.bnot]
  cbv
  simp only[e.ieq,e.ofNat]
  cbv
  refine callb_i hS _ haw ?_
  cbv
  exact Like.refl _
end Go.Proofs.Tryz.Run
