/- A number of a list taken out, and put in. The reference's Moved. A family is equal to itself. Conditions: none. -/
import Derived.Test.YtpcokdalcafgdaaGreatZXq
import Derived.Test.YtpcokdalcafgdaaGreatZSg
import Derived.Test.YtpcokdalcafgdaaGreatZOg
import Derived.Test.YtpcokdalcafgdaaGreatZPm0
import Derived.Test.YtpcokdalcafgdaaGreatZUk
set_option linter.unusedSimpArgs false
set_option linter.unusedVariables false
namespace Go.Proofs.Tryz.Run
open Go Go.Vf Go.Proofs
open Go.Proofs.YtpcokdalcafgdaaGreat
def subK (n m:Nat)(u:Nat→Int)(pg:List Nat)(v:AV)(h':List AObj):Prop:=pg=[]∧v= .msl 0 1 none n false∧h'=[arrI m u]
def outF (p n:Nat)(g:Nat→Int)(j:Nat):Int:=if j<p then g j else if j+1<n then g (j+1) else 0
set_option maxHeartbeats 4000000 in
theorem delete97 {k n p:Nat}(hk:n=k+1)(hn:n≤1000000)(hp:p<n)(g:Nat→Int)(u:Nat→Int)(hu: ∀j,j<n→u j=outF p n g j):ACall Tryz.prog 97 [.msl 0 1 none n false,int p,int ((p:Int)+1)] [arrI n g] (subK k n u):=by
 obtain⟨q,hq,hq1⟩: ∃q:Int,q=(p:Int)+1∧q.toNat=p+1:=⟨_,rfl,by omega⟩
 obtain⟨z,hz,hz1⟩: ∃z:Int,z=(p:Int)∧z.toNat=p:=⟨_,rfl,by omega⟩
 have h1: ¬(z=q):=by omega
 have h2:q≤n:=by omega
 have h3:(0:Int)≤z:=by omega
 have h4:z≤q:=by omega
 have h5:z≤n:=by omega
 have h6:p+(n-(p+1))=k:=by omega
 have h7:n-k=1:=by omega
 have h8:((k:Nat):Int)≤n:=by omega
 rw[←hq,←hz]
 refine acall_c Tryz.mixed okP ok97 rfl fun E Sg hb hS F hF=> ?_
 have e:=stdE hS
 cbv
 refine req_i hS (i_ile hS h3) (req_i hS (i_ile hS h4) (req_i hS (i_ile hS (by subst hS;exact h2)) (req_i hS (i_ile hS (Int.le_refl _)) ?_)))
 split
 ·rename_i h;exact absurd (t_eq hS h) h1
 cbv
 repeat' ((first|(refine req_i hS (by clear hF;subst hS;simp[std,nat,IX.val];try omega) ?_))<;>cbv)
 simp only[e.toNat,e.ofNat,e.nadd,e.nsub,hz1,hq1,Int.toNat_natCast,Nat.sub_zero,h6,h7]
 refine⟨[],by simp,hF (h1:=[arrI n u]) (.cons (LikeO.arrr rfl fun j hj=> ?_) (.nil _)) (v0:= .msl 0 1 none k false) (Like.refl _) (by simp) (.inr rfl) ⟨rfl,rfl,rfl⟩⟩
 simp only[e.put,e.shift,e.rep]
 rw[hu j hj]
 unfold outF
 clear hF hu
 split
 ·rename_i h
  rw[if_pos (by omega),if_neg (by omega),if_neg (by omega)]
  exact .one (.int rfl)
 ·rename_i h
  split
  ·rename_i h'
   rw[if_neg (by omega),if_pos (by omega),show p+1+(j-p)=j+1 by omega]
   exact .one (.int rfl)
  ·rw[if_pos (by omega)]
   exact .refl _
def inF (q:Nat)(v:Int)(g:Nat→Int)(j:Nat):Int:=if j<q then g j else if j=q then v else g (j-1)
def insK (n:Nat)(u:Nat→Int)(v:Int)(pg:List Nat)(r:AV)(h':List AObj):Prop:=pg=[]∧r= .msl 0 1 none n false∧h'=[arrI n u,.arr 1 1 (Vf.rowAt [[.int .i64 (.v v)]])]
set_option maxRecDepth 100000 in
set_option maxHeartbeats 4000000 in
theorem insert99 {k n q:Nat}(hk:n=k+1)(hn:k≤1000000)(hq:q≤k)(g:Nat→Int)(v:Int)(u:Nat→Int)(hu: ∀j,j<n→u j=inF q v g j):
 ACall Tryz.prog 99 [.msl 0 1 none k false,int q,.msl 1 1 none 1 false] [arrI n g,.arr 1 1 (Vf.rowAt [[.int .i64 (.v v)]])] (insK n u v):=by
 obtain⟨z,hz,hz1⟩: ∃z:Int,z=(q:Int)∧z.toNat=q:=⟨_,rfl,by omega⟩
 have h3:(0:Int)≤z:=by omega
 have h5:z≤k:=by omega
 rw[←hz]
 refine acall_c Tryz.mixed okP ok99 rfl fun E Sg hb hS F hF=> ?_
 have e:=stdE hS
 cbv
 refine req_i hS (i_ile hS h3) (req_i hS (by subst hS;exact h5) (req_i hS (i_ile hS (Int.le_refl _)) ?_))
 split
 ·rename_i h;exact absurd (t_eq hS h) (by subst hS;simp[std])
 cbv
 split
 ·rename_i h
  have hqk:q=k:=by have h:=t_eq hS h;simp only[e.ofNat] at h;omega
  cbv
  refine req_i hS (i_le hS (by omega)) (req_i hS (i_leA hS (by omega)) ?_)
  refine⟨[],by simp,hF (h1:=[arrI n u,.arr 1 1 (Vf.rowAt [[.int .i64 (.v v)]])]) (.cons (LikeO.arrr rfl fun j hj=> ?_) (.cons (.refl _) (.nil _))) (v0:= .msl 0 1 none n false) ?_ (by simp) (.inr rfl) ⟨rfl,rfl,rfl⟩⟩
  ·simp only[e.put]
   rw[hu j hj]
   unfold inF
   clear hF hu
   by_cases hjq:j<q
   ·rw[if_pos hjq,if_neg (by omega)]
    exact .refl _
   ·rw[if_neg hjq,if_pos (by omega),if_pos (by omega),show j-k=0 by omega]
    exact .refl _
  ·rw[hk]
   exact lk_msl1 hS
 ·rename_i h
  have hqk:q≠k:=by have h:=f_eq hS h;simp only[e.ofNat] at h;omega
  obtain⟨y,hy,hy1⟩: ∃y:Int,z+1=y∧y.toNat=q+1:=⟨_,rfl,by omega⟩
  have e1:(k:Int)+1=n:=by omega
  cbv
  simp only[e.iadd,e.ofNat,e.toNat,e.nsub,e.nadd,e1,hz1,Int.toNat_natCast,Nat.sub_zero,Int.natCast_one,hy,hy1,e.nmin]
  have e9: -9223372036854775808≤(n:Int)∧(n:Int)≤9223372036854775807:=by omega
  repeat' (first|refine req_i hS (i_inr hS e9) ?_|refine req_i hS (i_inr hS (by omega)) ?_|refine req_i hS (by clear hF;subst hS;simp[std,nat,IX.val];try omega) ?_)
  refine⟨[],by simp,hF (h1:=[arrI n u,.arr 1 1 (Vf.rowAt [[.int .i64 (.v v)]])]) (.cons (LikeO.arrr rfl fun j hj=> ?_) (.cons (.refl _) (.nil _))) (v0:= .msl 0 1 none n false) (Like.refl _) (by simp) (.inr rfl) ⟨rfl,rfl,rfl⟩⟩
  rw[show min 1 (n-q)=1 by omega,show min (n-q) (n-(q+1))=n-(q+1) by omega]
  simp only[e.put,e.shift]
  rw[hu j hj]
  unfold inF
  clear hF hu
  by_cases hjq:j<q
  ·rw[if_pos hjq,if_neg (by omega),if_neg (by omega)]
   exact .refl _
  ·rw[if_neg hjq]
   by_cases hjq2:j=q
   ·rw[if_pos hjq2,if_pos (by omega),show j-q=0 by omega]
    exact .refl _
   ·rw[if_neg hjq2,if_neg (by omega),if_pos (by omega),show q+(j-(q+1))=j-1 by omega]
    exact .refl _
theorem moved65 {ns n p q:Nat}(hn:n≤1000000)(sz g:Nat→Int)(v:Int)(hp:p<n)(hg: ∀j,j<n→(g j=v↔j=p))(hq:q<n)(u:Nat→Int)(hu: ∀j,j<n→u j=inF q v (outF p n g) j):
 PureF Tryz.prog false 65 [.agg [isl ns sz,isl n g],int v,int q] (isl n u):=by
 have h96:=index96 hn g v p ⟨fun h=>absurd ((hg p hp).2 rfl).symm (by simpa using h p hp),fun i hi h hj=>by rw[(hg i hi).1 (by simpa using (of_decide_eq_true h).symm)]⟩
 have h98:=clone98r hn g
 obtain⟨w,hw,hw0⟩: ∃w:Int,(p:Int)+1=w∧w=(p:Int)+1:=⟨_,rfl,rfl⟩
 have h99:=fun k hk=>insert99 (k:=k) (n:=n) (q:=q) hk (by omega) (by omega) (fun j=>outF p n g j) v u hu
 obtain⟨k,hk⟩: ∃k,n=k+1:=⟨n-1,by omega⟩
 have h97:=delete97 hk hn hp g (fun j=>outF p n g j) fun _ _=>rfl
 refine pureF_of_fn Tryz.mixed okP ok65 _ rfl fun E Sg hb hS=> ?_
 have e:=stdE hS
 cbv
 refine callb_i hS _ h96 ?_
 cbv
 refine call_c hS (ACall.frame h98 [] rfl rfl trivial) ?_
 rintro pg v H' ⟨pg0,v0,h0',⟨rfl,rfl,rfl⟩,rfl,rfl,rfl⟩
 cbv
 have h99:=h99 k hk
 rw[hw] at h97
 refine req_i hS (i_inc hS (by omega)) ?_
 simp only[show Sg.iadd (Int.ofNat p) (Int.ofNat 1)=w from by rw[e.iadd];exact hw]
 refine call_c hS (ACall.frame h97 [1] rfl rfl ⟨LikeO.refl _,trivial⟩) ?_
 rintro pg v' H' ⟨pg0,v0,h0',⟨rfl,rfl,rfl⟩,rfl,rfl,rfl⟩
 cbv
 refine call_c hS (ACall.frame h99 [1,2] rfl rfl ⟨LikeO.refl _,LikeO.refl _,trivial⟩) ?_
 rintro pg v' H' ⟨pg0,v0,h0',⟨rfl,rfl,rfl⟩,rfl,rfl,rfl⟩
 cbv
 exact req_i hS (i_le hS (Nat.le_refl _)) fun _ _ _ _ h=>h
end Go.Proofs.Tryz.Run
set_option linter.unusedSimpArgs false
set_option linter.unusedVariables false
namespace Go.Proofs.Tryz.Run
open Go Go.Vf Go.Proofs
open Go.Proofs.YtpcokdalcafgdaaGreat
def mvN (p q i:Nat):Nat:=if i≤p then (if q<i then i+1 else i) else (if q<i-1 then i else i-1)
set_option maxHeartbeats 4000000 in
theorem moved44 {n p q:Nat}(hn:n≤1000000)(g:Nat→Int)(v:Int)(hp:p<n)(hg: ∀j,j<n→(g j=v↔j=p))(hq:q<n)(w:Nat→Int)(hw: ∀j,j<n→w j=inF q v (outF p n g) j):
 PureF Tryz.prog false 44 [isl n g,int v,int q] (isl n w):=by
 obtain⟨M,hM⟩: ∃M:Nat→Nat,∀i,mvN p q i=M i:=⟨_,fun _=>rfl⟩
 have hM0:M 0=0:=by rw[←hM];simp[mvN]
 have hMe: ∀i,i<n→i=p→M (i+1)=M i:=fun i hi e=>by
  rw[←hM,←hM];unfold mvN
  (repeat' split)<;>omega
 have hMv: ∀i,i<n→i≠p→M i=q→M (i+1)=M i+1+1∧w (M i)=v∧w (M i+1)=g i:=fun i hi e=>by
  rw[←hM,←hM];unfold mvN
  (repeat' split)<;>intro h
  all_goals first|omega|skip
  all_goals refine⟨by omega,?_,?_⟩<;>rw[hw _ (by omega)]<;>unfold inF outF<;>(repeat' split)<;>first|omega|rfl|(congr 1<;>omega)
 have hMn: ∀i,i<n→i≠p→M i≠q→M (i+1)=M i+1∧w (M i)=g i:=fun i hi e=>by
  rw[←hM,←hM];unfold mvN
  (repeat' split)<;>intro h
  all_goals first|omega|skip
  all_goals refine⟨by omega,?_⟩<;>rw[hw _ (by omega)]<;>unfold inF outF<;>(repeat' split)<;>first|omega|rfl|(congr 1<;>omega)
 have hMl:M n=q∧w (M n)=v∧n=M n+1∨M n≠q∧M n=n:=by
  rw[←hM];unfold mvN
  (repeat' split)
  all_goals first|(exfalso;omega)|(right;omega)|skip
  all_goals
   left
   refine⟨by omega,?_,by omega⟩
   rw[hw _ (by omega)];unfold inF
   (repeat' split)<;>first|omega|rfl
 have hMb: ∀i,i≤n→M i≤1000001:=fun i hi=>by rw[←hM];unfold mvN;(repeat' split)<;>omega
 clear hM hw
 refine pureF_of_fn Tryz.mixed okP ok44 _ rfl fun E Sg hb hS=> ?_
 have e:=stdE hS
 cbv
 refine loop_t Tryz.mixed okP hS (fun i=>i≤n) (fun i=>n-i)
  (fun i=>⟨mkTs [(0,isl n g),(1,int v),(2,int q),(7,.msl 0 1 none (M i) false),(8,int i)] 45,[arrI (M i) w],[0]⟩) 0 (by omega) ?_ ?_
 ·exact (Tame.gt 7 1 (fun _=>[]) rfl).trans (Tame.le (le_mk rfl ⟨Like.refl _,Like.refl _,Like.refl _,by rw[hM0];exact Like.refl _,lk_l rfl,trivial⟩ (.cons (LikeO.arrr hM0.symm fun j hj=>by omega) (.nil _)) (by simp;omega) (.inr rfl) rfl))
 ·intro i hi N hN
  cbv
  split
  ·rename_i h
   have hlt:i<n:=t_ltN hS h
   cbv
   refine req_i hS (i_inbN hS hlt) ?_
   simp only[nat,e.toNat,Int.ofNat_eq_natCast,Int.toNat_natCast]
   split
   ·rename_i h
    have h:=(hg i hlt).1 (t_eq hS h)
    have:=hMe i hlt h
    cbv
    refine req_i hS (i_inc hS (by omega)) ?_
    exact hN (i+1) _ hlt (by omega) (Tame.le (le_mk rfl ⟨Like.refl _,Like.refl _,Like.refl _,by rw[this];exact Like.refl _,v_inc hS,trivial⟩ (.cons (by rw[this];exact .refl _) (.nil _)) (by simp;omega) (.inr rfl) rfl))
   ·rename_i h
    have hip:i≠p:=fun hh=>f_eq hS h ((hg i hlt).2 hh)
    cbv
    split
    ·rename_i h
     have hiq:M i=q:=by have h:=t_eq hS h;simp only[e.ofNat] at h;exact Int.ofNat.inj h
     obtain⟨m1,m2,m3⟩:=hMv i hlt hip hiq
     have:=hMb i hi
     cbv
     simp only[nat,e.toNat,e.nadd,Int.ofNat_eq_natCast,Int.toNat_natCast]
     refine req_i hS trivial (req_i hS (i_le hS (by omega)) (req_i hS (i_inbN hS hlt) (req_i hS trivial (req_i hS (i_le hS (by omega)) (req_i hS (i_inc hS (by omega)) ?_)))))
     refine hN (i+1) _ hlt (by omega) (Tame.le (le_mk rfl ⟨Like.refl _,Like.refl _,Like.refl _,by rw[m1];exact Like.refl _,v_inc hS,trivial⟩ (.cons (LikeO.arrr m1.symm fun j hj=> ?_) (.nil _)) (by simp;omega) (.inr rfl) rfl))
     simp only[e.app]
     by_cases h1:j<M i+1
     ·rw[if_pos h1]
      by_cases h2:j<M i
      ·rw[if_pos h2];exact .refl _
      ·obtain rfl:j=M i:=by omega
       rw[if_neg h2,m2,Nat.sub_self];exact .refl _
     ·obtain rfl:j=M i+1:=by omega
      rw[if_neg h1,m3,Nat.sub_self];exact .refl _
    ·rename_i h
     have hiq:M i≠q:=fun hh=>f_eq hS h (by simp only[e.ofNat];rw[hh];rfl)
     obtain⟨m1,m2⟩:=hMn i hlt hip hiq
     have:=hMb i hi
     cbv
     simp only[nat,e.toNat,e.nadd,Int.ofNat_eq_natCast,Int.toNat_natCast]
     refine req_i hS (i_inbN hS hlt) (req_i hS trivial (req_i hS (i_le hS (by omega)) (req_i hS (i_inc hS (by omega)) ?_)))
     refine hN (i+1) _ hlt (by omega) (Tame.le (le_mk rfl ⟨Like.refl _,Like.refl _,Like.refl _,by rw[m1];exact Like.refl _,v_inc hS,trivial⟩ (.cons (LikeO.arrr m1.symm fun j hj=> ?_) (.nil _)) (by simp;omega) (.inr rfl) rfl))
     simp only[e.app]
     by_cases h2:j<M i
     ·rw[if_pos h2];exact .refl _
     ·obtain rfl:j=M i:=by omega
      rw[if_neg h2,m2,Nat.sub_self];exact .refl _
  ·rename_i h
   have hin:i=n:=by have:=f_ltN hS h;omega
   subst hin
   cbv
   have hb:=hMb i (Nat.le_refl _)
   split
   ·rename_i h
    have hiq:M i=q:=by have h:=t_eq hS h;simp only[e.ofNat] at h;exact Int.ofNat.inj h
    rcases hMl with⟨_,m2,m3⟩|⟨m1,_⟩
    rotate_left
    ·exact absurd hiq m1
    cbv
    simp only[e.nadd]
    refine req_i hS trivial (req_i hS (i_le hS (by omega)) (req_i hS (i_le hS (Nat.le_refl _)) (Like.slr m3.symm fun j hj=> ?_)))
    simp only[e.app]
    by_cases h2:j<M i
    ·rw[if_pos h2];exact .refl _
    ·obtain rfl:j=M i:=by omega
     rw[if_neg h2,m2,Nat.sub_self];exact .refl _
   ·rename_i h
    have hiq:M i≠q:=fun hh=>f_eq hS h (by simp only[e.ofNat];rw[hh];rfl)
    rcases hMl with⟨m1,_⟩|⟨_,m2⟩
    ·exact absurd m1 hiq
    cbv
    refine req_i hS (i_le hS (Nat.le_refl _)) ?_
    rw[m2]
    exact Like.refl _
end Go.Proofs.Tryz.Run
set_option linter.unusedSimpArgs false
set_option linter.unusedVariables false
namespace Go.Proofs.Tryz.Run
open Go Go.Vf Go.Proofs
open Go.Proofs.YtpcokdalcafgdaaGreat
set_option maxHeartbeats 4000000 in
theorem equal82r {n:Nat}(hn:n≤1000000)(f:Nat→VaR):PureF Tryz.prog true 82 [vsl n f,vsl n f] (bool true):=by
 obtain⟨ef,en,hf⟩: ∃ef en,f=fun i=>VaR.mk (ef i) (en i):=⟨fun i=>(f i).fault,fun i=>(f i).n,rfl⟩
 subst hf
 refine pure_bool (pureF_of_fn Tryz.mixed okP ok82 _ rfl fun E Sg hb hS=> ?_)
 have e:=stdE hS
 cbv
 split
 ·rename_i h;exact absurd rfl (t_ne hS h)
 cbv
 refine loop_i Tryz.mixed okP hS (fun i=>i≤n) (fun i=>n-i)
  (fun i=>⟨mkTs [(0,vsl n (fun i=>⟨ef i,en i⟩)),(1,vsl n (fun i=>⟨ef i,en i⟩)),(5,int i)] 26,[],[]⟩) 0 (by omega) ?_ ?_
 ·exact le_mk rfl ⟨Like.refl _,Like.refl _,lk_l rfl,trivial⟩ (.nil _) (by omega) (.inr rfl) rfl
 ·intro i hi N hN
  cbv
  split
  ·rename_i h
   have hlt:i<n:=t_ltN hS h
   cbv
   refine req_i hS (i_inbN hS hlt) (req_i hS (i_inbN hS hlt) ?_)
   simp only[nat,e.toNat,Int.ofNat_eq_natCast,Int.toNat_natCast]
   split
   ·rename_i h;exfalso;clear hN;subst hS;simp[std] at h
   cbv
   refine req_i hS (i_inc hS (by omega)) ?_
   exact hN (i+1) _ hlt (by omega) (le_mk rfl ⟨Like.refl _,Like.refl _,v_inc hS,trivial⟩ (.nil _) (by omega) (.inr rfl) rfl)
  ·cbv
   exact lk_bool rfl
theorem b_neF {P:Program}{A:Ann}{ro:Option Nat}{E:Ent}{Sg:Sig}(hS:Sg=std P A ro E)(a:Int):Sg.bnot (Sg.ieq a a)=false:=by subst hS;simp[std]
set_option maxRecDepth 100000 in
set_option maxHeartbeats 8000000 in
theorem equal47r (a:DiR)(ha:a.ns≤1000000∧a.no≤1000000∧a.ne≤1000000∧a.nn≤1000000)(hk: ∀i,i<a.nn→a.nk i≤1000000):PureF Tryz.prog true 47 [a.av,a.av] (bool true):=by
 have h1:=same23 a.ns a.ns a.sz a.sz ha.1 true (by simp)
 have h2:=same23 a.no a.no a.od a.od ha.2.1 true (by simp)
 have h3:=equal82r ha.2.2.1 a.en
 have h4:=fun i hi=>same23 (a.nk i) (a.nk i) (a.kid i) (a.kid i) (hk i hi) true (by simp)
 have hnn:=ha.2.2.2
 obtain⟨ns,sz,no,od,ne,en,nn,var,nk,kid,root⟩:=a
 obtain⟨ef,em,hf⟩: ∃ef em,en=fun i=>VaR.mk (ef i) (em i):=⟨fun i=>(en i).fault,fun i=>(en i).n,rfl⟩
 subst hf
 simp only at h1 h2 h3 h4 hnn⊢
 clear ha hk
 refine pure_bool (pureF_of_fn Tryz.mixed okP ok47 _ rfl fun E Sg hb hS=> ?_)
 have e:=stdE hS
 cbv
 refine callb_i hS _ h1 ?_
 cbv
 refine callb_i hS _ h2 ?_
 cbv
 refine callb_i hS _ h3 ?_
 cbv
 simp only[b_neF hS]
 cbv
 simp only[b_neF hS]
 cbv
 refine loop_i Tryz.mixed okP hS (fun i=>i≤nn) (fun i=>nn-i)
  (fun i=>⟨mkTs [(2,.ptr 0 0),(3,.ptr 1 0),(5,int i)] 80,[.var [.any,.any,.any,bsl nn var nk kid,.any],.var [.any,.any,.any,bsl nn var nk kid,.any]],[]⟩) 0 (by omega) ?_ ?_
 ·exact le_mk rfl ⟨Like.refl _,Like.refl _,lk_l rfl,trivial⟩ (.cons (LikeO.var (.cons (.any _) (.cons (.any _) (.cons (.any _) (.cons (Like.refl _) (.cons (.any _) .nil)))))) (.cons (LikeO.var (.cons (.any _) (.cons (.any _) (.cons (.any _) (.cons (Like.refl _) (.cons (.any _) .nil)))))) (.nil _))) (by simp;omega) (.inr rfl) rfl
 ·intro i hi N hN
  cbv
  split
  ·rename_i h
   have hlt:i<nn:=t_ltN hS h
   cbv
   refine req_i hS (i_inbN hS hlt) (req_i hS (i_inbN hS hlt) ?_)
   simp only[nat,e.toNat,Int.ofNat_eq_natCast,Int.toNat_natCast,b_neF hS]
   cbv
   refine req_i hS (i_inbN hS hlt) (req_i hS (i_inbN hS hlt) ?_)
   simp only[nat,e.toNat,Int.ofNat_eq_natCast,Int.toNat_natCast]
   refine callb_i hS _ (h4 i hlt) ?_
   cbv
   refine req_i hS (i_inc hS (by omega)) ?_
   exact hN (i+1) _ hlt (by omega) (le_mk rfl ⟨Like.refl _,Like.refl _,v_inc hS,trivial⟩ (.cons (.refl _) (.cons (.refl _) (.nil _))) (by simp;omega) (.inr rfl) rfl)
  ·cbv
   exact lk_bool rfl
set_option maxRecDepth 100000 in
set_option maxHeartbeats 8000000 in
theorem equal27r {n:Nat}(hn:n≤1000000)(l:Nat→DiR)(ha: ∀i,i<n→((l i).ns≤1000000∧(l i).no≤1000000∧(l i).ne≤1000000∧(l i).nn≤1000000)∧ ∀j,j<(l i).nn→(l i).nk j≤1000000):PureF Tryz.prog true 27 [dsl n l,dsl n l] (bool true):=by
 have h1:=fun i hi=>equal47r (l i) (ha i hi).1 (ha i hi).2
 clear ha
 refine pure_bool (pureF_of_fn Tryz.mixed okP ok27 _ rfl fun E Sg hb hS=> ?_)
 have e:=stdE hS
 cbv
 split
 ·rename_i h;exact absurd rfl (t_ne hS h)
 cbv
 refine loop_i Tryz.mixed okP hS (fun i=>i≤n) (fun i=>n-i)
  (fun i=>⟨mkTs [(0,dsl n l),(1,dsl n l),(5,int i)] 27,[],[]⟩) 0 (by omega) ?_ ?_
 ·exact le_mk rfl ⟨Like.refl _,Like.refl _,lk_l rfl,trivial⟩ (.nil _) (by omega) (.inr rfl) rfl
 ·intro i hi N hN
  cbv
  split
  ·rename_i h
   have hlt:i<n:=t_ltN hS h
   cbv
   refine req_i hS (i_inbN hS hlt) (req_i hS (i_inbN hS hlt) ?_)
   simp only[nat,e.toNat,Int.ofNat_eq_natCast,Int.toNat_natCast]
   refine callb_i hS _ (h1 i hlt) ?_
   cbv
   refine req_i hS (i_inc hS (by omega)) ?_
   exact hN (i+1) _ hlt (by omega) (le_mk rfl ⟨Like.refl _,Like.refl _,v_inc hS,trivial⟩ (.nil _) (by omega) (.inr rfl) rfl)
  ·cbv
   exact lk_bool rfl
end Go.Proofs.Tryz.Run
