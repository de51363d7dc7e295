/- The program's maker: new, and ends. The program's maker: nodes. Conditions: none. -/
import Derived.Test.YtbglklaocjifhaaGreatESg
open Go.Vf.a0x renaming refl->AA
open Go.Proofs.Tryz renaming prog->AB
open Go.Proofs.YtbglklaocjifhaaGreat.Tryz renaming mixed->AC
open List renaming length_nil->AD,length_cons->AE
open Bool renaming noConfusion->AF,false->AH,true->AK
open Go.IntKind renaming signed->AG,wrap->AI,bits->AJ
open Int renaming ofNat_eq_natCast->AL,toNat_natCast->AM
set_option linter.unusedSimpArgs false
set_option linter.unusedVariables false
set_option maxHeartbeats 0
namespace Go.Proofs.Tryz.Run
open Go Go.Vf Go.Proofs
open Go.Proofs.YtbglklaocjifhaaGreat
def mkK (ns no:Nat)(sz od:Nat->Int)(pg:List Nat)(v:AV)(h':List a0f):Prop:=
 pg=[]/\v= .ptr 3 0/\h'=[.var [.any,.any],.map AK [.u8,.i64] 0 (fun _=>none),.map AK [.i64,.i64,.i64,.i64,.i64,.i64,.i64,.i64,.i64,.i64,.i64,.i64,.i64] 0 (fun _=>none),
  .var [isl ns sz,isl no od,isl ns sz,isl no od,.d .nil,.d .nil,int 0,.map 1,.map 2]]
theorem h8o {ns no:Nat}(hs:ns<=1000000)(ho:no<=1000000)(sz od:Nat->Int):a1h AB 236 [.agg [isl ns sz,isl no od]] [] (mkK ns no sz od):=by have h1:=i2c hs sz;have h2:=i2c ho od;refine h3w AC okP e8n rfl fun E Sg hb hS F hF=> ?_;simp only[AD] at hb;cbv;refine a0v hS (isl ns sz) (by subst hS;exact h1) ?_;cbv;refine a0v hS (isl no od) (by subst hS;exact h2) ?_;cbv;exact⟨[],by simp,hF (.cons (a9v.var (.cons (.any _) (.cons (.any _) .nil))) (.cons (.refl _) (.cons (.refl _) (.cons (a9v.var (.cons (AA _) (.cons (AA _) (.cons (AA _) (.cons (AA _) (.cons (AA _) (.cons (AA _) (.cons (a6c rfl) (.cons (AA _) (.cons (AA _) .nil)))))))))) (.nil _))))) (AA _) (by simp) (.inr rfl) ⟨rfl,rfl,rfl⟩⟩
abbrev i4j:List IntKind:=[.i64,.i64,.i64,.i64,.i64,.i64,.i64,.i64,.i64,.i64,.i64,.i64,.i64]
def mkH (ns no:Nat)(sz od:Nat->Int)(q1 q2:Nat)(f1 f2:List KC->Option Int)(e1 e2:Nat->List DV):List a0f:=
 [.var [isl ns sz,isl no od,isl ns sz,isl no od,.msl 3 2 none q1 AH,.msl 4 2 none q2 AH,int 0,.map 1,.map 2],.map AK [.u8,.i64] q1 f1,.map AK i4j q2 f2,.arr 2 q1 e1,.arr 2 q2 e2]
def i9g (ns no:Nat)(sz od:Nat->Int)(q1 q2:Nat)(f1 f2:List KC->Option Int)(e1 e2:Nat->List DV)(c:VaR)(pg:List Nat)(v:AV)(h':List a0f):Prop:=
 pg=[3]/\((∃z,f1 [.i c.fault,.i c.n]=some z/\v=int (-1-z)/\h'=mkH ns no sz od q1 q2 f1 f2 e1 e2)\/
  (f1 [.i c.fault,.i c.n]=none/\v=int (-1-(q1:Int))/\h'=mkH ns no sz od (q1+1) q2 (fun k=>if k=[.i c.fault,.i c.n] then some (q1:Int) else f1 k) f2 (fun i=>if i<q1 then e1 i else c.row) e2))
theorem i6d {ns no:Nat}(sz od:Nat->Int){q1 q2:Nat}(hq:q1<=1000000)(f1 f2:List KC->Option Int)(e1 e2:Nat->List DV)(c:VaR)
 (hf: ∀z,f1 [.i c.fault,.i c.n]=some z->0<=z/\z<=1000000) (hc:(0<=c.fault/\c.fault<=4)/\ -9999<=c.n/\c.n<=9999):a1h AB 238 [.ptr 0 0,c.av] (mkH ns no sz od q1 q2 f1 f2 e1 e2) (i9g ns no sz od q1 q2 f1 f2 e1 e2 c):=by
 obtain⟨cf,cn⟩:=c;simp only at hf hc;refine h3w AC okP e8i rfl fun E Sg hb hS F hF=> ?_;simp only[mkH,AE,AD] at hb;cases hk:f1 [.i cf,.i cn] with
 |some z=>
  have hz:=hf z hk;have hh:Sg.mhas f1 [.i cf,.i cn]=AK:=by subst hS;simp[std,hk]
  have hg:Sg.mget f1 [.i cf,.i cn]=z:=by subst hS;simp[std,hk]
  have he:=h9k z (by omega) (by omega);cbv;simp only[hh,hg];cbv;refine a1g hS (by clear he;subst hS;simp[std,AI,AJ,AG];omega) ?_;refine a1g hS (by clear he;subst hS;exact b6g (by omega) (by omega)) ?_;refine a0v hS (int (-1-z)) (by subst hS;exact he) ?_;cbv;refine⟨[3],by simp,hF (h1:=mkH ns no sz od q1 q2 f1 f2 e1 e2) (.cons (.refl _) (.cons (.refl _) (.cons (.refl _) (.cons (.refl _) (.cons (.refl _) (.nil _)))))) (v0:=int (-1-z)) (AA _) (by simp[mkH]) (.inl ⟨rfl,rfl⟩) ⟨rfl,.inl ⟨z,hk,rfl,rfl⟩⟩⟩
 |none=>
  have hh:Sg.mhas f1 [.i cf,.i cn]=AH:=by subst hS;simp[std,hk]
  have he:=h9k (q1:Int) (by omega) (by omega);cbv;simp only[hh];cbv;refine a1g hS (by clear he;subst hS;simp[std,AI,AJ,AG];omega) ?_;refine a1g hS (by clear he;subst hS;exact b6g (by omega) (by omega)) ?_;refine a1g hS (by clear he;subst hS;simp[std,AI,AJ,AG];omega) ?_;refine a1g hS (by clear he;subst hS;exact b6g (by omega) (by omega)) ?_;refine a1g hS (by clear he;subst hS;simp[std]) ?_;refine a1g hS trivial ?_;refine a1g hS (by clear he;subst hS;simp[std];omega) ?_;refine a0v hS (int (-1-(q1:Int))) (by subst hS;exact he) ?_;cbv;refine⟨[3],by simp,hF (h1:=mkH ns no sz od (q1+1) q2 (fun k=>if k=[.i cf,.i cn] then some (q1:Int) else f1 k) f2 (fun i=>if i<q1 then e1 i else VaR.row ⟨cf,cn⟩) e2)
   (.cons (a9v.var (.cons (AA _) (.cons (AA _) (.cons (AA _) (.cons (AA _) (.cons (by clear he;subst hS;exact AA _) (.cons (AA _) (.cons (AA _) (.cons (AA _) (.cons (AA _) .nil))))))))))
     (.cons (a9v.map (by clear he;subst hS;simp[std,hk]) (fun k=>by clear he;subst hS;simp[std])) (.cons (.refl _) (.cons (a9v.arr' (by clear he;subst hS;rfl) (fun i hi=> ?_)) (.cons (.refl _) (.nil _)))))) (v0:=int (-1-(q1:Int))) (AA _) (by simp[mkH]) (.inl ⟨rfl,rfl⟩) ⟨rfl,.inr ⟨hk,rfl,rfl⟩⟩⟩
  clear he;subst hS;simp only[std] at hi⊢;split
  ·rfl
  ·have:i-q1=0:=by omega
   rw[this];rfl
def kH (n:Nat)(u:Nat->Int):List a0f:=[arrI n u,.var [.msl 0 1 none n AH]]
theorem i4x {n:Nat}(hn:1<=n)(u:Nat->Int)(x:Int)(r:Bool)(hr:r=AK↔x=u 0):a1h AB 266 [int x,.ptr 1 0] (kH n u) (ro (kH n u) (bool r)):=by
 refine a2y AC okP e7v _ rfl fun E Sg hb hS=> ?_;have ett: ∀z,Sg.toNat z=z.toNat:=by subst hS;exact fun _=>rfl
 cbv
 repeat' (with_reducible apply a1g hS)
 all_goals try (subst hS;simp[std]<;>omega;done)
 simp only[nat,ett,AL,AM]
 repeat' (with_reducible apply a1g hS)
 all_goals try (subst hS;simp[std]<;>omega;done)
 refine a2s (a0s ?_) (.same _) (.inr rfl);subst hS;simp only[std];cases r
 ·exact decide_eq_false fun h=>AF (hr.2 h)
 ·exact decide_eq_true (hr.1 rfl)
def kH2 (n:Nat)(u:Nat->Int):List a0f:=[arrI n u,.var [.msl 0 1 none n AH],.var [.fn 266 [] [.ptr 1 0]]]
theorem i5r {n:Nat}(hn:1<=n)(u:Nat->Int)(x:Int)(r:Bool)(hr:r=AK↔ ¬x=u 0):a1h AB 263 [int x,.ptr 2 0] (kH2 n u) (ro (kH2 n u) (bool r)):=by
 have h1:=i4x hn u x (!r) (by
  cases r
  ·exact⟨fun _=>Classical.byContradiction fun h=>AF (hr.2 h),fun _=>rfl⟩
  ·exact⟨fun h=>AF h,fun h=>absurd h (hr.1 rfl)⟩)
 clear hr;refine a2y AC okP e9f _ rfl fun E Sg hb hS=> ?_;cbv;refine h3v hS (a1h.frame h1 [0,1] rfl rfl ⟨a9v.refl _,a9v.refl _,trivial⟩) ?_;rintro pg v H' ⟨pg0,v0,h0,⟨rfl,rfl,rfl⟩,rfl,rfl,rfl⟩;cases r<;>cbv<;>exact a2s (a0s rfl) (.same _) (.inr rfl)
theorem i1c {n:Nat}(hn:n<=1000000)(u:Nat->Int)(o1 o2:a0f)(gid:FuncId)(a:Nat)(p:Nat->Bool)
 (hp: ∀i,i<n->a1h AB gid [int (u i),.ptr a 0] [arrI n u,o1,o2] (ro [arrI n u,o1,o2] (bool (p i)))) (r:Int) (hr:a6z n p r):
 a1h AB 215 [.msl 0 1 none n AH,.fn gid [] [.ptr a 0]] [arrI n u,o1,o2] (ro [arrI n u,o1,o2] (int r)):=by
 refine a2y AC okP e2z _ rfl fun E Sg hb hS=> ?_;have ett: ∀z,Sg.toNat z=z.toNat:=by subst hS;exact fun _=>rfl
 simp only[AE,AD] at hb;cbv;refine a7r AC okP hS (fun i=>i<=n/\ ∀j,j<i->p j=AH) (fun i=>n-i)
  (fun i=>⟨b5r [(0,.msl 0 1 none n AH),(1,.fn gid [] [.ptr a 0]),(7,int n),(8,int i)] 19,[arrI n u,o1,o2],[]⟩) 0 ⟨by omega,by omega⟩ ?_ ?_
 ·exact a4c rfl ⟨AA _,AA _,b0a (by subst hS;rfl),a6c rfl,trivial⟩ (.same _) (by simp;omega) (.inr rfl) rfl
 ·intro i hi N hN;have hin:=hp i;clear hp;cbv;split
  ·cbv;have hlt:i<n:=by clear hin hN hr;subst hS;simp[std] at*;omega
   have hin:=hin hlt;generalize hz:p i=z at hin;refine a1g hS (by clear hin hN hr;subst hS;simp[std];omega) ?_;simp only[nat,ett,AL,AM];refine a1g hS (by clear hin hN hr;subst hS;simp[std];omega) ?_;refine a3v hS (r:=bool z) (by subst hS;exact hin) ?_;cases z
   ·cbv;refine a1g hS (by clear hin hN hr;subst hS;exact b6g (by simp[std];omega) (by simp[std];omega)) ?_;refine hN (i+1) _ ⟨by omega,fun j hj=> ?_⟩ (by omega) (a4c rfl ⟨AA _,AA _,AA _,b0a ?_,trivial⟩ (.same _) (by simp;omega) (.inr rfl) rfl)
    ·by_cases e:j=i
     ·subst e;exact hz
     ·exact hi.2 j (by omega)
    ·clear hin hN hr;subst hS;simp[std]
   ·cbv;exact a2s (b0a (hr.2 i hlt hz hi.2).symm) (.same _) (.inr rfl)
  ·have hni:n<=i:=by clear hin hN hr;subst hS;simp[std] at*;omega
   cbv;exact a2s (a6c (hr.1 fun j hj=>hi.2 j (by omega)).symm) (.same _) (.inr rfl)
theorem h7k {n:Nat}(hn:n<=1000000)(u:Nat->Int)(o1 o2:a0f)(gid:FuncId)(a:Nat)(p:Nat->Bool)
 (hp: ∀i,i<n->a1h AB gid [int (u i),.ptr a 0] [arrI n u,o1,o2] (ro [arrI n u,o1,o2] (bool (p i)))) (r:Bool) (hr:r=AK↔ ∃i,i<n/\p i=AK):
 a1h AB 188 [.msl 0 1 none n AH,.fn gid [] [.ptr a 0]] [arrI n u,o1,o2] (ro [arrI n u,o1,o2] (bool r)):=by
 obtain⟨z,hz,hz1,hz2⟩: ∃z,a6z n p z/\(0<=z-> ∃i,i<n/\p i=AK)/\((∃i,i<n/\p i=AK)->0<=z):=a9i n p;have hin:=i1c hn u o1 o2 gid a p hp z hz;have hzr:0<=z↔r=AK:=⟨fun h=>hr.2 (hz1 h),fun h=>hz2 (hr.1 h)⟩;clear hp hz hz1 hz2 hr;refine a2y AC okP e3u _ rfl fun E Sg hb hS=> ?_;cbv;refine a3v hS hin ?_;cbv;refine a2s (a0s ?_) (.same _) (.inr rfl);clear hin;subst hS;simp[std];cases r
 ·simp at hzr⊢;omega
 ·simpa using hzr
theorem h4f {n:Nat}(hn:1<=n)(hn2:n<=1000000)(u:Nat->Int)(r:Bool)(hr:r=AK↔ ∀i,i<n->u i=u 0):
 a1h AB 230 [.msl 0 1 none n AH,.fn 266 [] [.ptr 1 0]] (kH n u) (ro (kH n u) (bool r)):=by
 obtain⟨p,hp⟩: ∃p:Nat->Bool,∀j,p j=AK↔ ¬u j=u 0:=by classical exact⟨fun j=>decide (¬u j=u 0),fun j=>decide_eq_true_iff⟩
 have hin:=h7k hn2 u (.var [.msl 0 1 none n AH]) (.var [.fn 266 [] [.ptr 1 0]]) 263 2 p (fun j hj=>i5r hn u (u j) (p j) (hp j)) (!r) (d2b hp hr);clear hr hp;refine a2y AC okP e8u _ rfl fun E Sg hb hS=> ?_;simp only[kH,AE,AD] at hb;cbv;refine a3v hS hin ?_;cases r<;>cbv<;>exact a2s (a0s rfl) (.cons (.refl _) (.cons (.refl _) (.nil _))) (.inl ⟨rfl,rfl⟩)
end Go.Proofs.Tryz.Run
