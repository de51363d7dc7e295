/- The program's open of a diagram: the error is the reference's. Conditions: none. -/
import Derived.Test.YtbglklaocjifhaaGreatWLr
import Derived.Test.YtbglklaocjifhaaGreatWNb
import Derived.Test.YtbglklaocjifhaaGreatWNe
import Derived.Test.YtbglklaocjifhaaGreatWPm0
import Derived.Test.YtbglklaocjifhaaGreatWQd
import Derived.Test.YtbglklaocjifhaaGreatWQf
import Derived.Test.YtbglklaocjifhaaGreatWQi
import Derived.Test.YtbglklaocjifhaaGreatWSd
import Derived.Test.YtbglklaocjifhaaGreatWSg
import Derived.Test.YtbglklaocjifhaaGreatWSn
import Derived.Test.YtbglklaocjifhaaGreatWSp
set_option linter.unusedSimpArgs false
set_option linter.unusedVariables false
set_option maxHeartbeats 0
namespace Go.Proofs.Tryz.Run
open Go Go.Vf Go.Proofs
open Go.Proofs.YtbglklaocjifhaaGreat
theorem i0t {α:Type}(l:List α)(x:α):(L l.length fun i=>l.getD i x)=l:=by
 unfold L
 refine List.ext_getElem (by simp) fun i h1 h2=> ?_
 simp[List.getD,List.getElem?_eq_getElem h2]
theorem i6b (d:DiR)(s:Law.Mk)(t:Int):(i2k d s t).E=s.oe:=i0t _ _
theorem i5p (d:DiR)(s:Law.Mk)(t:Int):(i2k d s t).N=s.on:=by
 have:(i2k d s t).nd=fun i=>s.on.getD i ⟨0,[]⟩:=by
  funext i
  simp only[DiR.nd,i2k]
  rw[i0t]
 rw[DiR.N,this]
 exact i0t _ _
theorem h9s {d:DiR}(h:h3x d)(hf:h4e d.ns d.no d.sz d.od=0):h7l (i2k d (h3y d).1 (h3y d).2) d↔h5e d:=by
 have hro:=h4g h.2.2
 have hNl:d.N.length=d.nn:=h3u _ _
 rw[<-i0k fun i hi=>(h.kpos hf i hi).1,<-Law.clean_iff h.kids.loose hro.ok']
 unfold h7l Law.isClean
 rw[i6b,i5p,hNl]
 constructor
 ·rintro⟨_,_,a,b,c⟩;exact⟨a,b,c⟩
 ·rintro⟨a,b,c⟩;exact⟨rfl,rfl,a,b,c⟩
theorem h8r {d:DiR}(hd:d.tame (i3w d))(hr:h4k d.ne d.root d.nn):(h3y d).1.oe.length<=d.ne/\(h3y d).1.on.length<=d.nn/\ ∀b,b∈(h3y d).1.on->b.kids.length<=12:=by
 have hg:=(Law.frm_good (E:=d.E) (N:=d.N) (nn:=d.nn) (h3u _ _) (shp:=i3w d) hd.kids.loose (fun j b hb=>by
  rw[DiR.N,h9t] at hb
  split at hb
  ·rename_i hj
   cases hb
   refine⟨by simp only[DiR.nd,h3u];exact (hd.nk j hj).1,fun l hl=>hd.shape j hj l (by simpa only[DiR.nd,h3u] using hl)⟩
  ·cases hb) (d.nn+1) d.root s0 (by
   rcases Int.lt_or_le d.root 0 with h|h
   ·omega
   ·have:=hr.1 h;omega) hr.ok ⟨by simp[s0],by simp[s0],by simp[s0],by simp[s0],by simp[s0]⟩).1
 have h1:=hg.oeLen
 rw[show d.E.length=d.ne from h3u _ _] at h1
 exact⟨h1,hg.onLen,fun b hb=>(hg.sh b hb).2⟩
theorem i1u (d:DiR)(hf:d.fit)(h0: ∀i,i<d.ne->0<=(d.en i).fault)(hno:d.no<=12)(r:Int)(hr:h5o d=r):
 ∃v,(v=d.lav\/h4e d.ns d.no d.sz d.od≠0/\v=i2o)/\a0j Tryz.prog false 160 [d.av] (.tuple [v,int r]):=by
 obtain⟨e,he⟩: ∃e,h3z d=e:=⟨_,rfl⟩
 obtain⟨v,hv,ho⟩:=h7g d hf h0 hno e he
 refine⟨v,hv,?_⟩
 unfold h5o at hr
 rw[he] at hr
 by_cases hz:e=0
 ·subst hz
  rw[if_neg (fun h=>h rfl)] at hr
  obtain⟨a1,a2,a3⟩:=h4q he
  have hv:v=d.lav:=hv.resolve_right fun h=>h.1 a1
  subst hv
  clear hv
  have htame:=a3.tame a1 hf h0
  have hcl:=i3c d htame (h4g a3.2.2)
  have hgd:=h8r htame (h4g a3.2.2)
  have hiff:=h9s a3 a1
  obtain⟨z,hz⟩: ∃z:Bool,z=true↔h7l (i2k d (h3y d).1 (h3y d).2) d:=by classical exact⟨decide _,decide_eq_true_iff⟩
  have hne:=hf.ne
  have hnn:=hf.nn
  have heq:=i2u (i2k d (h3y d).1 (h3y d).2) d ⟨hf.ns,hf.no,Nat.le_trans hgd.1 hne,Nat.le_trans hgd.2.1 hnn⟩ (fun i hi=>by
   have hi:i<(h3y d).1.on.length:=hi
   have hm:(h3y d).1.on.getD i ⟨0,[]⟩∈(h3y d).1.on:=by
    simp[List.getD,List.getElem?_eq_getElem hi]
   have:=hgd.2.2 _ hm
   show ((h3y d).1.on.getD i ⟨0,[]⟩).kids.length<=1000000
   omega) z hz
  rw[hiff] at hz
  have r0:z=true->0=r:=fun h=>by rw[<-hr,if_pos (hz.1 h)]
  have r4:z=false->4=r:=fun h=>by rw[<-hr,if_neg (fun k=>by rw[hz.2 k] at h;cases h)]
  generalize i2k d (h3y d).1 (h3y d).2=o at hcl heq
  clear hr hz hiff hgd htame a1 a2 a3 he hf h0 hne hnn
  obtain⟨ns,sz,no,od,ne,en,nn,var,nk,kid,root⟩:=d
  obtain⟨ns',sz',no',od',ne',en',nn',var',nk',kid',root'⟩:=o
  obtain⟨res,hres⟩: ∃res,res=DiR.lav ⟨ns,sz,no,od,ne,en,nn,var,nk,kid,root⟩:=⟨_,rfl⟩
  refine a0k Tryz.mixed okP f0k _ rfl fun E Sg hb hS=> ?_
  rw[<-hres]
  cbv
  refine a0v hS _ (by subst hS;exact ho) ?_
  cbv
  split
  rotate_left
  ·rename_i h;exfalso;clear ho hcl heq;subst hS;simp[std] at h
  cbv
  refine a0v hS _ (by subst hS;exact hcl) ?_
  cbv
  repeat' (with_reducible apply a1g hS)
  all_goals try (clear ho hcl heq;subst hS;simp[std];done)
  refine a0v hS (bool z) (by subst hS;exact heq) ?_
  cases z
  ·cbv
   subst hres
   exact a3x.tuple (.cons (a0x.refl _) (.cons (a6c (r4 rfl)) .nil))
  ·cbv
   subst hres
   exact a3x.tuple (.cons (a0x.refl _) (.cons (b0a (r0 rfl)) .nil))
 ·rw[if_pos hz] at hr
  subst hr
  clear he hf h0
  obtain⟨ns,sz,no,od,ne,en,nn,var,nk,kid,root⟩:=d
  obtain⟨res,hres⟩: ∃res,res=v:=⟨_,rfl⟩
  rw[<-hres]
  rcases hv with rfl|⟨_,rfl⟩
  ·refine a0k Tryz.mixed okP f0k _ rfl fun E Sg hb hS=> ?_
   cbv
   refine a0v hS _ (by subst hS;exact ho) ?_
   cbv
   split
   ·rename_i h;exfalso;clear ho;subst hS;simp[std] at h;exact hz h
   cbv
   subst hres
   exact a3x.tuple (.cons (a0x.refl _) (.cons (a0x.refl _) .nil))
  ·refine a0k Tryz.mixed okP f0k _ rfl fun E Sg hb hS=> ?_
   cbv
   refine a0v hS _ (by subst hS;exact ho) ?_
   cbv
   split
   ·rename_i h;exfalso;clear ho;subst hS;simp[std] at h;exact hz h
   cbv
   subst hres
   exact a3x.tuple (.cons (a0x.refl _) (.cons (a0x.refl _) .nil))
end Go.Proofs.Tryz.Run
