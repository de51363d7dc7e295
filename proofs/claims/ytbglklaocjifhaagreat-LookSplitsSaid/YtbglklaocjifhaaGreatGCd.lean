/- The rounds of the program's ends, and the tally of cells. Conditions: none. -/
import Derived.Test.YtbglklaocjifhaaGreatGJh
open Go.Vf.ab renaming refl->AA
open Int renaming toNat_natCast->AB,ofNat_eq_natCast->AG,natCast_nonneg->AI,ofNat_lt->AM,toNat_of_nonneg->AN,ofNat_le->AX,ofNat->AZ,mul_comm->Ak,lt_or_le->Al
open List renaming map_cons->AC,getElem?_eq_some_iff->AD,mem_cons_of_mem->AF,nodup_cons->AH,mem_cons->AK,length_map->AR,mem_map->AT,getElem?_map->AU,length_cons->Ae,cons_append->Af,map_set->Ah
open Go.Proofs.YtbglklaocjifhaaGreat.Tryz renaming mixed->AE
open Go.Proofs.Tryz renaming prog->AJ
open Nat renaming le_refl->AL,ble->AO,mul_le_mul_left->AS,lt_or_ge->AW,lt_succ_iff_lt_or_eq->Ac,zero_add->Ai,add_zero->Aj,zero_le->Am,one_pos->An,mul_one->Ao,mul_add->Ap
open Bool renaming true->AP,noConfusion->AY,false->Ad
open Option renaming some->AQ,none->Ag
open Go.Proofs.Tryz.Run renaming g8->Aa,g7->Ab,Wg->Aq
set_option linter.unusedSectionVars false
set_option linter.unusedSimpArgs false
set_option linter.unusedVariables false
set_option maxHeartbeats 0
set_option maxRecDepth 100000
namespace Go.Proofs.Tryz.Run
open Go Go.Vf Go.Proofs
def sm:Nat->(Nat->Nat)->Nat
 |0,_=>0
 |n+1,f=>sm n f+f n
theorem u4 {f g:Nat->Nat}: ∀{n:Nat},(∀i,i<n->f i=g i)->sm n f=sm n g
 |0,_=>rfl
 |n+1,h=>by rw[sm,sm,u4 fun i hi=>h i (by omega),h n (by omega)]
theorem m0c (f g:Nat->Nat): ∀n,sm n (fun i=>f i+g i)=sm n f+sm n g
 |0=>rfl
 |n+1=>by rw[sm,sm,sm,m0c f g n];omega
theorem l7l: ∀n,sm n (fun _=>0)=0
 |0=>rfl
 |n+1=>by rw[sm,l7l n]
theorem Me (c:Nat): ∀n,sm n (fun _=>c)=n*c
 |0=>by simp[sm]
 |n+1=>by rw[sm,Me c n,Nat.succ_mul]
theorem l9k (f:Nat->Nat->Nat)(m:Nat): ∀n,sm n (fun i=>sm m fun j=>f i j)=sm m fun j=>sm n fun i=>f i j
 |0=>(l7l m).symm
 |n+1=>by simp only[sm];rw[l9k f m n,<-m0c]
theorem m0l {f g:Nat->Nat}: ∀{n:Nat},(∀i,i<n->f i<=g i)->sm n f<=sm n g
 |0,_=>AL _
 |n+1,h=>by have:=m0l (n:=n) fun i hi=>h i (by omega);have:=h n (by omega);simp only[sm];omega
theorem m0z {f:Nat->Nat}: ∀{n i:Nat},i<n->f i<=sm n f
 |n+1,i,h=>by
  rw[sm];by_cases e:i=n
  ·subst e;omega
  ·have:=m0z (f:=f) (n:=n) (i:=i) (by omega);omega
theorem l7p (f:Nat->Nat)(a:Nat): ∀b,sm (a*b) f=sm b fun j=>sm a fun i=>f (a*j+i)
 |0=>by simp[sm]
 |b+1=>by rw[sm,<-l7p f a b,Ap,Ao];exact XY f (a*b) a
where
 XY (f:Nat->Nat) (k:Nat): ∀a,sm (k+a) f=sm k f+sm a fun i=>f (k+i)
  |0=>by simp[sm]
  |a+1=>by rw[show k+(a+1)=k+a+1 by omega,sm,sm,XY f k a];omega
def WS (seen:List Nat)(n:Nat)(f:Nat->Nat):Nat:=sm n fun j=>if j∈seen then 0 else f j
theorem l7k (n:Nat)(f:Nat->Nat):WS [] n f=sm n f:=u4 fun i _=>by simp
theorem Jt {seen:List Nat}{i:Nat}{f:Nat->Nat}(hs:i∉seen): ∀{n:Nat},(i<n->WS seen n f=f i+WS (i::seen) n f)/\(n<=i->WS seen n f=WS (i::seen) n f)
 |0=>⟨fun h=>by omega,fun _=>rfl⟩
 |n+1=>by
  obtain⟨h1,h2⟩:=Jt (f:=f) hs (n:=n);unfold WS at h1 h2⊢;constructor
  ·intro h;rw[sm,sm];by_cases e:n=i
   ·subst e;rw[h2 (AL _),if_neg hs,if_pos (by simp)];omega
   ·rw[h1 (by omega)];have:(n∈i::seen)↔n∈seen:=by simp[e]
    simp only[this];omega
  ·intro h;rw[sm,sm,h2 (by omega)];have:(n∈i::seen)↔n∈seen:=by simp;omega
   simp only[this]
theorem l6o {seen:List Nat}{n:Nat}(h: ∀i,i<n->i∈seen)(f:Nat->Nat):WS seen n f=0:=(u4 (g:=fun _=>0) fun i hi=>if_pos (h i hi)).trans (l7l n)
section
variable {α:Type}
def Ok:List (α×Nat)->(α->Nat)->Nat
 |[],_=>0
 |e::l,g=>e.2*g e.1+Ok l g
def tm (l:List (α×Nat))(g:α->Nat)(i:Nat):Nat:=match l[i]? with|some e=>e.2*g e.1|none=>0
theorem l7w (f:Nat->Nat): ∀n,sm (n+1) f=f 0+sm n fun i=>f (i+1)
 |0=>by simp[sm]
 |n+1=>by rw[sm,l7w f n,sm];omega
theorem l9b: ∀(l:List (α×Nat)) (g:α->Nat),Ok l g=sm l.length (tm l g)
 |[],_=>rfl
 |e::l,g=>by rw[Ae,l7w,Ok,l9b l g];rfl
theorem l8x {g:α->Nat}{e:α×Nat}: ∀{l:List (α×Nat)},e∈l->e.2*g e.1<=Ok l g
 |x::l,h=>by
  rw[Ok];rcases AK.1 h with h|h
  ·rw[h];omega
  ·have:=l8x (g:=g) h;omega
variable [DecidableEq α]
def kh (k:α)(n:Nat):List (α×Nat)->List (α×Nat)
 |[]=>[(k,n)]
 |e::l=>if e.1=k then (k,e.2+n)::l else e::kh k n l
theorem Ui (k:α)(n:Nat)(g:α->Nat): ∀l:List (α×Nat),Ok (kh k n l) g=Ok l g+n*g k
 |[]=>by simp[kh,Ok]
 |e::l=>by
  rw[kh];split
  ·rename_i h;subst h;simp only[Ok,Nat.add_mul];omega
  ·simp only[Ok,Ui k n g l];omega
theorem Tn {k:α}{n:Nat}{e:α×Nat}: ∀{l:List (α×Nat)},e∈kh k n l->e.1=k\/e∈l
 |[],h=>by simp[kh] at h;exact .inl (by rw[h])
 |x::l,h=>by
  rw[kh] at h;split at h
  ·rcases AK.1 h with h|h
   ·exact .inl (by rw[h])
   ·exact .inr (AF _ h)
  ·rcases AK.1 h with h|h
   ·exact .inr (by rw[h];simp)
   ·rcases Tn h with h|h
    ·exact .inl h
    ·exact .inr (AF _ h)
def VF (k:α):List (α×Nat)->Option Nat
 |[]=>Ag
 |e::l=>if e.1=k then AQ e.2 else VF k l
theorem l9h {k:α}{n:Nat}: ∀{l:List (α×Nat)},(l.map (·.1)).Nodup->((kh k n l).map (·.1)).Nodup
 |[],_=>by simp[kh]
 |e::l,h=>by
  rw[AC,AH] at h;rw[kh];split
  ·rename_i h1;rw[AC,AH];rw[h1] at h;exact h
  ·rename_i h1;rw[AC,AH];refine⟨fun hm=> ?_,l9h h.2⟩;obtain⟨x,hx,HE⟩:=AT.1 hm;rcases Tn hx with h3|h3
   ·exact h1 (HE.symm.trans h3)
   ·exact h.1 (AT.2 ⟨x,h3,HE⟩)
theorem Tp {k:α}{n:Nat}: ∀{l:List (α×Nat)},VF k l=AQ n->(k,n)∈l
 |[],h=>by simp[VF] at h
 |e::l,h=>by
  rw[VF] at h;split at h
  ·rename_i h1;cases h;rw[<-h1];simp
  ·exact AF _ (Tp h)
theorem l9i {k:α}{n:Nat}: ∀{l:List (α×Nat)},(l.map (·.1)).Nodup->(k,n)∈l->VF k l=AQ n
 |e::l,hn,h=>by
  rw[AC,AH] at hn;rw[VF];rcases AK.1 h with h|h
  ·subst h;simp
  ·rw[if_neg,l9i hn.2 h];intro e2;exact hn.1 (by rw[e2];exact AT.2 ⟨_,h,rfl⟩)
end
section
variable {σ:Type}
def we (A:Int->Nat->σ->σ)(sz:Int->Nat):List Int->(σ->Nat)->σ->Nat
 |[],g,s=>g s
 |c::cs,g,s=>sm (sz c) fun d=>we A sz cs g (A c d s)
theorem NE {A:Int->Nat->σ->σ}{sz:Int->Nat}: ∀{cs:List Int} {s:σ},(∀c,c∈cs->0<sz c)->0<we A sz cs (fun _=>1) s
 |[],_,_=>An
 |c::cs,s,h=>by rw[we];exact Nat.lt_of_lt_of_le (NE (s:=A c 0 s) fun x hx=>h x (AF _ hx)) (m0z (f:=fun d=>we A sz cs (fun _=>1) (A c d s)) (h c (by simp)))
def xm (A:Int->Nat->σ->σ):List Int->(Int->Nat)->σ->σ
 |[],_,s=>s
 |c::cs,p,s=>xm A cs p (A c (p c) s)
def WI (sz:Int->Nat):List Int->((Int->Nat)->Nat)->(Int->Nat)->Nat
 |[],f,p=>f p
 |c::cs,f,p=>sm (sz c) fun d=>WI sz cs f fun x=>if x=c then d else p x
theorem l9y {A:Int->Nat->σ->σ}{sz:Int->Nat}{g:σ->Nat}: ∀(cs:List Int) (s:σ) (p:Int->Nat),cs.Nodup->we A sz cs g s=WI sz cs (fun q=>g (xm A cs q s)) p:=by
 intro cs
 induction cs with
 |nil=>intro s p _;rfl
 |cons c cs ih=>
  intro s p hn;rw[AH] at hn;simp only[we,WI];refine u4 fun d _=> ?_;rw[ih (A c d s) (fun x=>if x=c then d else p x) hn.2];have key: ∀(cs:List Int) (q:Int->Nat),c∉cs-> ∀f f':(Int->Nat)->Nat,(∀r,r c=q c->f r=f' r)->WI sz cs f q=WI sz cs f' q:=by
   intro cs
   induction cs with
   |nil=>intro q _ f f' h;exact h q rfl
   |cons x cs LS=>intro q hx f f' h;simp only[WI];refine u4 fun e _=>LS _ (fun h'=>hx (AF _ h')) f f' fun r hr=>h r ?_;rw[hr,if_neg];intro e2;exact hx (by rw[e2];simp)
  refine key cs _ hn.1 _ _ fun r hr=> ?_;simp only[if_true] at hr;simp only[xm];rw[hr]
end
theorem l7b {sz:Int->Nat}{f g:(Int->Nat)->Nat}: ∀{cs:List Int} {p:Int->Nat},(∀q,f q=g q)->WI sz cs f p=WI sz cs g p
 |[],p,h=>h p
 |c::cs,p,h=>u4 fun d _=>l7b h
theorem l9z {sz:Int->Nat}{f:(Int->Nat)->Nat}{a b:Int}(h:a≠b)(cs:List Int)(p:Int->Nat):WI sz (a::b::cs) f p=WI sz (b::a::cs) f p:=by
 simp only[WI];rw[l9k];refine u4 fun d _=>u4 fun e _=> ?_;congr 1;funext x;by_cases h1:x=a
 ·subst h1;rw[if_pos rfl,if_neg h,if_pos rfl]
 ·rw[if_neg h1,if_neg h1]
theorem m0a {sz:Int->Nat}{f:(Int->Nat)->Nat}{us vs:List Int}(h:us.Perm vs)(hn:us.Nodup): ∀p,WI sz us f p=WI sz vs f p:=by
 induction h with
 |nil=>intro p;rfl
 |cons x _ ih=>intro p;rw[AH] at hn;exact u4 fun d _=>ih hn.2 _
 |swap x y l=>intro p;rw[AH] at hn;exact l9z (fun e=>hn.1 (by rw[e];simp)) l p
 |trans h1 _ uz LS=>intro p;exact (uz hn p).trans (LS (h1.nodup_iff.1 hn) p)
section
variable {α:Type} [DecidableEq α] {K:α->List KC}
def mK (K:α->List KC)(l:List (α×Nat)):List (List KC):=l.map fun e=>K e.1
def mV (l:List (α×Nat)):List AV:=l.map fun e=> .d (.int .i64 (.v (e.2:Int)))
theorem m0h (hK: ∀a b,K a=K b->a=b)(k:α)(n:Nat): ∀(l:List (α×Nat)) (s:Nat),(VF k l=Ag->pw (K k) (mK K l) s=Ag/\mf (K k) (mK K l) (mV l)=Ag/\kh k n l=l++[(k,n)])/\
 (∀m,VF k l=AQ m-> ∃i,pw (K k) (mK K l) s=AQ (s+i)/\mf (K k) (mK K l) (mV l)=AQ (.d (.int .i64 (.v (m:Int))))/\l[i]? =AQ (k,m)/\kh k n l=l.set i (k,m+n))
 |[],s=>⟨fun _=>⟨rfl,rfl,rfl⟩,fun m h=>by simp[VF] at h⟩
 |e::l,s=>by
  obtain⟨uz,LS⟩:=m0h hK k n l (s+1);by_cases h:e.1=k
  ·refine⟨fun h'=>by simp[VF,h] at h',fun m hm=>⟨0,?_⟩⟩;simp only[VF,if_pos h,Option.some.injEq] at hm;subst hm;obtain⟨a,b⟩:=e;simp only at h;subst h;simp[pw,mf,mK,mV,kh]
  ·have h2:K e.1≠K k:=fun e2=>h (hK _ _ e2);simp only[VF,if_neg h];refine⟨fun h'=> ?_,fun m hm=> ?_⟩
   ·obtain⟨g1,g2,g3⟩:=uz h';refine⟨?_,?_,?_⟩
    ·simp only[mK,AC,pw,if_neg h2];exact g1
    ·simp only[mK,mV,AC,mf,if_neg h2];exact g2
    ·rw[kh,if_neg h,g3];rfl
   ·obtain⟨i,g1,g2,g3,g4⟩:=LS m hm;refine⟨i+1,?_,?_,g3,?_⟩
    ·simp only[mK,AC,pw,if_neg h2];rw[show s+(i+1)=s+1+i by omega];exact g1
    ·simp only[mK,mV,AC,mf,if_neg h2];exact g2
    ·rw[kh,if_neg h,g4];rfl
theorem m0r (hK: ∀a b,K a=K b->a=b){k:α}{l:List (α×Nat)}(h:VF k l=Ag)(n:Nat):pw (K k) (mK K l) 0=Ag/\mf (K k) (mK K l) (mV l)=Ag/\ba (mK K l) [K k]=mK K (kh k n l)/\(∀z:AV,b8 (ba (mV l) [z]) (az (mK K l)) (.d (.int .i64 (.v (n:Int))))=mV (kh k n l))/\(∀z:AV,mf (K k) (mK K (kh k n l)) (ba (mV l) [z])=AQ z)/\az (mK K l)=az (mV l):=by
 obtain⟨h1,h2,h3⟩:=(m0h hK k n l 0).1 h;refine⟨h1,h2,?_,fun z=> ?_,fun z=> ?_,by rw[cv,cv,mK,mV,AR,AR]⟩
 ·rw[h3,fi];simp[mK]
 ·rw[h3,fg,fi,cv];have e:(mK K l).length=(mV l).length:=by simp[mK,mV]
  rw[e,List.set_append_right _ _ (AL _)];simp[mV]
 ·rw[h3];clear h1 h2 h3
  induction l with
  |nil=>simp[mK,mV,ba,mf]
  |cons e l ih=>
   simp only[VF] at h;split at h
   ·cases h
   ·rename_i h1;have h2:K e.1≠K k:=fun e2=>h1 (hK _ _ e2);have:=ih h;simp only[mK,mV] at this⊢;simp only[Af,AC,ba,mf,if_neg h2];exact this
theorem m0p (hK: ∀a b,K a=K b->a=b){k:α}{l:List (α×Nat)}{m:Nat}(h:VF k l=AQ m)(n:Nat): ∃i,pw (K k) (mK K l) 0=AQ i/\mf (K k) (mK K l) (mV l)=AQ (.d (.int .i64 (.v (m:Int))))/\ax (mV l) i=AQ (.d (.int .i64 (.v (m:Int))))/\i<az (mV l)/\
 mK K l=mK K (kh k n l)/\b8 (mV l) i (.d (.int .i64 (.v ((m+n:Nat):Int))))=mV (kh k n l):=by
 obtain⟨i,h1,h2,h3,h4⟩:=(m0h hK k n l 0).2 m h;rw[Ai] at h1;have hi:=(AD.1 h3).1;refine⟨i,h1,h2,?_,?_,?_,?_⟩
 ·rw[cy,mV,AU,h3];rfl
 ·rw[cv,mV,AR];exact hi
 ·rw[h4,mK,mK,Ah];refine (List.ext_getElem? fun j=> ?_);rw[List.getElem?_set];split
  ·rename_i e;subst e;simp[hi,(AD.1 h3).2]
  ·rfl
 ·rw[h4,fg,mV,mV,Ah]
theorem QO (n:Nat): ∀l:List (α×Nat),AV.z9 n (mV l)=AP
 |[]=>rfl
 |e::l=>by have:=QO n l;simp only[mV] at this⊢;simp only[AC,AV.z9,this];rfl
theorem Kt (π:Nat->Nat): ∀l:List (α×Nat),AV.ul π (mV l)=mV l
 |[]=>rfl
 |e::l=>by have:=Kt π l;simp only[mV] at this⊢;simp only[AC,AV.ul,AV.ml,this]
theorem Tm (k:Nat)(a:Bool): ∀l:List (α×Nat),AV.ip k a (mV l)=mV l
 |[]=>rfl
 |e::l=>by have:=Tm k a l;simp only[mV] at this⊢;simp only[AC,AV.ip,AV.forget,this]
theorem l8j (l:List (α×Nat)):az (mK K l)=l.length:=by rw[cv,mK,AR]
theorem l9a {l:List (α×Nat)}{i:Nat}{e:α×Nat}(h:l[i]? =AQ e):ax (mK K l) i=AQ (K e.1):=by rw[cy,mK,AU,h];rfl
theorem l9n {l:List (α×Nat)}{i:Nat}{e:α×Nat}(h:l[i]? =AQ e):ax (mV l) i=AQ (.d (.int .i64 (.v (e.2:Int)))):=by rw[cy,mV,AU,h];rfl
end
open Go.Proofs.YtbglklaocjifhaaGreat
def Ye (p:Int->Nat):Nat->Int:=fun j=>(p j:Int)
theorem l8c {sz:Nat->Int}{n:Nat}(hs: ∀j,j<n+1->1<=sz j){q i:Nat}(hq:(q:Int)<dv sz n)(hi:(i:Int)<sz n){P:Nat->Int}(hP: ∀j,j<n->P j=js sz n q j)(hPn:P n=i):
 ∀j,j<n+1->js sz (n+1) ((sz n).toNat*q+i) j=P j:=by
 obtain⟨h1,h2⟩:=HW (sz:=sz) (n:=n) (fun j hj=>hs j (by omega)) q hq;have hsn:=hs n (by omega);have Pw:(((sz n).toNat*q+i:Nat):Int)=sz n*q+i:=by push_cast;rw[AN (by omega)]
 have dp:HS sz P (n+1):=fun j hj=>by
  by_cases e:j=n
  ·subst e;rw[hPn];omega
  ·rw[hP j (by omega)];exact h1 j (by omega)
 have hv:jc sz P (n+1)=(((sz n).toNat*q+i:Nat):Int):=by rw[jc,hPn,Rn hP,h2,Pw,Ak]
 have hlt:(((sz n).toNat*q+i:Nat):Int)<dv sz (n+1):=by rw[<-hv];exact (Uc dp).2
 obtain⟨g1,g2⟩:=HW hs _ hlt;exact fun j hj=>j4w g1 dp (g2.trans hv.symm) j hj
def XJ (n:Nat):List Int:=L n fun i=>(i:Int)
theorem l7y {sz:Int->Nat}{f:(Int->Nat)->Nat}{c:Int}: ∀(cs:List Int) (p:Int->Nat),WI sz (cs++[c]) f p=WI sz cs (fun q=>sm (sz c) fun d=>f fun x=>if x=c then d else q x) p
 |[],_=>rfl
 |x::cs,p=>by simp only[Af,WI];exact u4 fun d _=>l7y cs _
theorem l9l {sz:Nat->Int}: ∀{n:Nat} (hs: ∀j,j<n->1<=sz j) {T:Nat} (hT:(T:Int)=dv sz n) {F:(Nat->Int)->Nat} (hF: ∀u v:Nat->Int,(∀j,j<n->u j=v j)->F u=F v),
 WI (fun c=>(sz c.toNat).toNat) (XJ n) (fun q=>F (Ye q)) (fun _=>0)=sm T fun p=>F (js sz n p)
 |0,hs,T,hT,F,hF=>by
  obtain rfl:T=1:=by simp only[dv] at hT;omega
  simp only[XJ,L,List.range_zero,List.map_nil,WI,sm,Ai];exact hF _ _ fun j hj=>absurd hj (Nat.not_lt_zero j)
 |n+1,hs,T,hT,F,hF=>by
  have hsn:=hs n (by omega);obtain⟨T',hT'⟩: ∃T':Nat,(T':Int)=dv sz n:=⟨(dv sz n).toNat,by have:=Ky (g:=sz) (n:=n) fun i hi=>hs i (by omega);omega⟩;have hTT:T=(sz n).toNat*T':=by
   have h1:(T:Int)=T'*sz n:=by rw[hT,dv,hT']
   have h2:((((sz n).toNat*T':Nat)):Int)=T'*sz n:=by push_cast;rw[AN (by omega),Ak]
   omega
  rw[show XJ (n+1)=XJ n++[(n:Int)] from Mw n _,l7y,hTT,l7p];have ih:=l9l (n:=n) (fun j hj=>hs j (by omega)) hT' (F:=fun u=>sm (sz n).toNat fun d=>F fun j=>if j=n then (d:Int) else u j) (fun u v h=>u4 fun d _=>hF _ _ fun j hj=>by
   by_cases e:j=n
   ·rw[if_pos e,if_pos e]
   ·rw[if_neg e,if_neg e];exact h j (by omega))
  rw[<-u4 (n:=T') (f:=fun p=>sm (sz n).toNat fun d=>F fun j=>if j=n then (d:Int) else js sz n p j)]
  ·rw[<-ih];refine l7b fun q=> ?_;show sm (sz (Int.toNat (n:Int))).toNat _=_;rw[AB];refine u4 fun d _=>hF _ _ fun j _=> ?_;simp only[Ye];by_cases e:j=n
   ·subst e;rw[if_pos rfl,if_pos rfl]
   ·rw[if_neg (by omega),if_neg e]
  ·intro p hp;refine u4 fun d hd=> ?_;refine (hF _ _ fun j hj=> ?_).symm;refine l8c hs (q:=p) (i:=d) (by rw[<-hT'];exact_mod_cast hp) (by have:=AN (show 0<=sz n by omega);omega) (P:=fun j=>if j=n then (d:Int) else js sz n p j) (fun j hj=>if_neg (by omega)) (by simp) j hj
def vw (d:Ab)(ch:Int)(dg:Nat)(k:Int):Int:=if 0<=k/\d.var k.toNat=ch then d.dq k.toNat dg else k
structure atR (d:Ab)(r:Nat)(k:Int):Prop where
 lo:k<0-> -1-k<d.ne
 hi:0<=k->k<d.nn/\r<=rv d k
theorem l8r {od:Nat->Int}{v:Int}: ∀{k i j:Nat},pos od v k i=j->j<i+k->od j=v
 |0,i,j,h,hj=>by rw[pos] at h;omega
 |k+1,i,j,h,hj=>by
  rw[pos] at h;split at h
  ·rename_i e;rw[<-h];exact e
  ·exact l8r h (by omega)
theorem l8u {d:Ab}(hl:mw d){r dg:Nat}(hr:r<d.no)(hd:(dg:Int)<d.sz (d.od r).toNat){k:Int}(h:atR d r k):atR d (r+1) (vw d (d.od r) dg k):=by
 unfold vw;split
 ·rename_i h1;obtain⟨h2,h3⟩:=h.hi h1.1;have hk:k.toNat<d.nn:=by omega
  obtain⟨⟨⟨a,b⟩,c⟩,e⟩:=hl.2.1 k.toNat hk;rw[h1.2] at c;obtain⟨g1,g2⟩:=e dg (by omega);have g3:=y6 g1;rw[AN h1.1] at g2;exact⟨fun h0=>g3.2 h0,fun h0=>⟨by have:=g3.1 h0;omega,by omega⟩⟩
 ·rename_i h1;refine⟨h.lo,fun h0=>⟨(h.hi h0).1,?_⟩⟩;have h3:=(h.hi h0).2;rcases AW r (rv d k) with h4|h4
  ·exact h4
  ·exfalso;apply h1;refine⟨h0,?_⟩;have h5:rv d k=r:=by omega
   unfold rv at h5;rw[if_pos h0] at h5;exact (l8r h5 (by omega)).symm
theorem m0b {d:Ab}(hl:mw d){pl:Nat->Int}(hp:GN d pl){r:Nat}{k:Int}(h:atR d r k){ch:Int}{dg:Nat}(hd:pl ch.toNat=dg):jj d pl (vw d ch dg k)=jj d pl k:=by
 unfold vw;split
 ·rename_i h1;have h2:=(h.hi h1.1).1;obtain⟨i,rfl⟩: ∃i:Nat,k=i:=⟨k.toNat,by omega⟩;have hi:i<d.nn:=by omega
  rw[AB] at h1⊢;rw[NZ hl hp hi,h1.2,hd,AB]
 ·rfl
theorem l8o {d:Ab}(hl:mw d)(ho:y5 d.ns d.no d.od){k:Int}(h:atR d d.no k):k<0:=by
 rcases Al k 0 with h0|h0
 ·exact h0
 ·exfalso;obtain⟨h1,h2⟩:=h.hi h0;obtain⟨⟨⟨a,b⟩,c⟩,e⟩:=hl.2.1 k.toNat (by omega);obtain⟨p,hp,he,_⟩:=NI ho (v:=d.var k.toNat) ⟨by omega,by omega⟩;unfold rv at h2;rw[if_pos h0,he] at h2;omega
def Wd (no:Nat)(od:Nat->Int)(r:Nat):List Int:=(L no od).drop r
theorem l6m {no:Nat}{od:Nat->Int}{r:Nat}(h:r<no):Wd no od r=od r::Wd no od (r+1):=by unfold Wd;rw[List.drop_eq_getElem_cons (by rw[jt];exact h)];simp[L]
theorem l9f {no:Nat}{od:Nat->Int}:Wd no od no=[]:=by unfold Wd;rw[List.drop_eq_nil_iff,jt];exact AL _
theorem l9c {d:Ab}(hl:mw d)(ho:y5 d.ns d.no d.od){p:Int->Nat}(hp:GN d (Ye p)): ∀(m r:Nat) (k:Int),r+m=d.no->atR d r k->xm (vw d) (Wd d.no d.od r) p k=jj d (Ye p) k/\xm (vw d) (Wd d.no d.od r) p k<0
 |0,r,k,hr,h=>by
  obtain rfl:r=d.no:=by omega
  have:=l8o hl ho h;rw[l9f,Gp this];exact⟨rfl,this⟩
 |m+1,r,k,hr,h=>by
  have hrn:r<d.no:=by omega
  have h1:=(ho.2 r hrn).1;have h2:=hp (d.od r).toNat (by omega);have e:Ye p (d.od r).toNat=(p (d.od r):Int):=by unfold Ye;rw[AN h1.1]
  rw[e] at h2;obtain⟨g1,g2⟩:=l9c hl ho hp m (r+1) _ (by omega) (l8u hl hrn h2.2 h);rw[l6m hrn,xm];exact⟨g1.trans (m0b hl hp h e),g2⟩
structure T3 where
 a:Int
 b:Int
 c:Int
 deriving DecidableEq
def ui (s:T3):List KC:=[.i s.a,.i s.b,.i s.c]
theorem l9s {s t:T3}(h:ui s=ui t):s=t:=by simp only[ui,List.cons.injEq,KC.i.injEq,and_true] at h;cases s;cases t;simp_all
def oh (m:Nat)(ds:Nat->Ab)(ch:Int)(dg:Nat)(s:T3):T3:=⟨if 0<m then vw (ds 0) ch dg s.a else s.a,if 1<m then vw (ds 1) ch dg s.b else s.b,if 2<m then vw (ds 2) ch dg s.c else s.c⟩
def KT (m:Nat)(ds:Nat->Ab)(ch:Int)(s:T3):Prop:=(0<m/\0<=s.a/\(ds 0).var s.a.toNat=ch)\/(1<m/\0<=s.b/\(ds 1).var s.b.toNat=ch)\/(2<m/\0<=s.c/\(ds 2).var s.c.toNat=ch)
theorem l8k {m:Nat}{ds:Nat->Ab}{ch:Int}{s:T3}(h: ¬KT m ds ch s)(dg:Nat):oh m ds ch dg s=s:=by
 unfold KT at h;unfold oh vw;cases s with|mk a b c=>
 simp only[T3.mk.injEq] at h⊢;refine⟨?_,?_,?_⟩
 ·split
  ·rw[if_neg fun h1=>h (.inl ⟨by assumption,h1⟩)]
  ·rfl
 ·split
  ·rw[if_neg fun h1=>h (.inr (.inl ⟨by assumption,h1⟩))]
  ·rfl
 ·split
  ·rw[if_neg fun h1=>h (.inr (.inr ⟨by assumption,h1⟩))]
  ·rfl
structure nh (m:Nat)(ds:Nat->Ab)(ns no:Nat)(sz od:Nat->Int):Prop where
 hm:1<=m/\m<=3
 fr:pr ns no sz od=0
 loose: ∀i,i<m->mw (ds i)
 fit: ∀i,i<m->(ds i).fit
 Yu: ∀i,i<m-> ∀j,j<(ds i).ne->0<=((ds i).en j).fault
 C_: ∀i,i<m->L (ds i).ns (ds i).sz=L ns sz
 ZN: ∀i,i<m->L (ds i).no (ds i).od=L no od
structure XG (m:Nat)(ds:Nat->Ab)(r:Nat)(s:T3):Prop where
 a:0<m->atR (ds 0) r s.a
 b:1<m->atR (ds 1) r s.b
 c:2<m->atR (ds 2) r s.c
 b0:m<=1->s.b=0
 c0:m<=2->s.c=0
def GS (m:Nat)(ds:Nat->Ab):T3:=⟨if 0<m then (ds 0).root else 0,if 1<m then (ds 1).root else 0,if 2<m then (ds 2).root else 0⟩
section
variable {m ns no:Nat} {ds:Nat->Ab} {sz od:Nat->Int}
theorem nh.di (h:nh m ds ns no sz od){i:Nat}(hi:i<m):(ds i).ns=ns/\(ds i).no=no/\(∀j,j<ns->(ds i).sz j=sz j)/\(∀j,j<no->(ds i).od j=od j)/\y5 (ds i).ns (ds i).no (ds i).od:=by obtain⟨a1,a2⟩:=Oj.1 (h.C_ i hi);obtain⟨b1,b2⟩:=Oj.1 (h.ZN i hi);obtain⟨c1,c2,c3,c4⟩:=IU h.fr;refine⟨a1,b1,fun j hj=>a2 j (by omega),fun j hj=>b2 j (by omega),⟨by rw[b1,a1];exact c4.1,fun j hj=> ?_⟩⟩;obtain⟨d1,d2⟩:=c4.2 j (by omega);rw[b2 j hj,a1];refine⟨d1,fun k hk=> ?_⟩;rw[b2 k (by omega)];exact d2 k hk
theorem nh.start (h:nh m ds ns no sz od):XG m ds 0 (GS m ds):=by
 have key: ∀i,i<m->atR (ds i) 0 (ds i).root:=fun i hi=>by have:=y6 (h.loose i hi).2.2;exact⟨this.2,fun h0=>⟨this.1 h0,Am _⟩⟩
 unfold GS;exact⟨fun h0=>by simp only[if_pos h0];exact key 0 h0,fun h0=>by simp only[if_pos h0];exact key 1 h0,fun h0=>by simp only[if_pos h0];exact key 2 h0,fun h0=>if_neg (by omega),fun h0=>if_neg (by omega)⟩
theorem nh.step (h:nh m ds ns no sz od){r dg:Nat}(hr:r<no)(hd:(dg:Int)<sz (od r).toNat){s:T3}(hs:XG m ds r s):XG m ds (r+1) (oh m ds (od r) dg s):=by
 have key: ∀i,i<m-> ∀k,atR (ds i) r k->atR (ds i) (r+1) (vw (ds i) (od r) dg k):=fun i hi k hk=>by
  obtain⟨a1,a2,a3,a4,a5⟩:=h.di hi;have h1:=(a5.2 r (by omega)).1;rw[a4 r hr,a1] at h1;have:=l8u (h.loose i hi) (r:=r) (dg:=dg) (by omega) (by rw[a4 r hr,a3 _ (by omega)];exact hd) hk
  rwa [a4 r hr] at this
 unfold oh;exact⟨fun h0=>by simp only[if_pos h0];exact key 0 h0 _ (hs.a h0),fun h0=>by simp only[if_pos h0];exact key 1 h0 _ (hs.b h0),fun h0=>by simp only[if_pos h0];exact key 2 h0 _ (hs.c h0),fun h0=>(if_neg (by omega)).trans (hs.b0 h0),fun h0=>(if_neg (by omega)).trans (hs.c0 h0)⟩
theorem nh.bd (h:nh m ds ns no sz od){r:Nat}{s:T3}(hs:XG m ds r s):(-1000001<=s.a/\s.a<=1000000)/\(-1000001<=s.b/\s.b<=1000000)/\ -1000001<=s.c/\s.c<=1000000:=by
 have key: ∀i,i<m-> ∀k,atR (ds i) r k-> -1000001<=k/\k<=1000000:=fun i hi k hk=>by
  have h1:=(h.fit i hi).ne;have h2:=(h.fit i hi).nn;rcases Al k 0 with h0|h0
  ·have:=hk.lo h0;omega
  ·have:=(hk.hi h0).1;omega
 refine⟨key 0 (by have:=h.hm;omega) _ (hs.a (by have:=h.hm;omega)),?_,?_⟩
 ·rcases AW 1 m with h1|h1
  ·exact key 1 h1 _ (hs.b h1)
  ·rw[hs.b0 h1];omega
 ·rcases AW 2 m with h1|h1
  ·exact key 2 h1 _ (hs.c h1)
  ·rw[hs.c0 h1];omega
theorem m1g: ∀(cs:List Int) (p:Int->Nat) (s:T3),xm (oh m ds) cs p s=⟨if 0<m then xm (vw (ds 0)) cs p s.a else s.a,if 1<m then xm (vw (ds 1)) cs p s.b else s.b,if 2<m then xm (vw (ds 2)) cs p s.c else s.c⟩
 |[],p,s=>by simp[xm]
 |c::cs,p,s=>by rw[xm,m1g cs p];unfold oh;simp only[xm,T3.mk.injEq];refine⟨?_,?_,?_⟩<;>split<;>rfl
def ve (m:Nat)(ds:Nat->Ab)(pl:Nat->Int):T3:=⟨if 0<m then jj (ds 0) pl (ds 0).root else 0,if 1<m then jj (ds 1) pl (ds 1).root else 0,if 2<m then jj (ds 2) pl (ds 2).root else 0⟩
theorem nh.YM (h:nh m ds ns no sz od):(∀j,j<ns->1<=sz j/\sz j<=12)/\dv sz ns<=2000/\ns<=6/\y5 ns no od:=by obtain⟨c1,c2,c3,c4⟩:=IU h.fr;exact⟨c2,by omega,by omega,c4⟩
theorem nh.Zj (h:nh m ds ns no sz od){p:Int->Nat}(hp: ∀j,j<ns->(p j:Int)<sz j):xm (oh m ds) (Wd no od 0) p (GS m ds)=ve m ds (Ye p):=by
 rw[m1g];have key: ∀i,i<m->xm (vw (ds i)) (Wd no od 0) p (ds i).root=jj (ds i) (Ye p) (ds i).root:=fun i hi=>by
  obtain⟨a1,a2,a3,a4,a5⟩:=h.di hi;have e:Wd no od 0=Wd (ds i).no (ds i).od 0:=by unfold Wd;rw[h.ZN i hi]
  rw[e];have:=y6 (h.loose i hi).2.2;refine (l9c (h.loose i hi) a5 (p:=p) (fun j hj=> ?_) (ds i).no 0 _ (by omega) ⟨this.2,fun h0=>⟨this.1 h0,Am _⟩⟩).1;rw[a3 j (by omega)];exact⟨AI _,hp j (by omega)⟩
 unfold GS ve;simp only[T3.mk.injEq];refine⟨?_,?_,?_⟩<;>split<;>first|rfl|exact key _ (by assumption)
def VP (sz:Nat->Int)(c:Int):Nat:=(sz c.toNat).toNat
theorem l8l {f g:(Int->Nat)->Nat}{sz:Int->Nat}: ∀(cs:List Int) (p:Int->Nat) (Q:(Int->Nat)->Prop),(∀q,Q q->f q=g q)->(∀q,(∀c,c∈cs->q c<sz c)->(∀c,c∉cs->q c=p c)->Q q)->WI sz cs f p=WI sz cs g p:=by
 intro cs
 induction cs with
 |nil=>intro p Q h1 h2;exact h1 _ (h2 p (fun c hc=>by simp at hc) fun c _=>rfl)
 |cons c cs ih=>
  intro p Q h1 h2;simp only[WI];refine u4 fun d hd=>ih _ Q h1 fun q q1 q2=>h2 q (fun x hx=> ?_) fun x hx=> ?_
  ·by_cases e:x∈cs
   ·exact q1 x e
   ·rcases AK.1 hx with rfl|hx
    ·rw[q2 x e,if_pos rfl];exact hd
    ·exact absurd hx e
  ·simp only[AK,not_or] at hx;rw[q2 x hx.2,if_neg hx.1]
theorem l9m (n:Nat):(XJ n).Nodup:=by unfold XJ;rw[NC];intro i hi k hk;omega
theorem l8n (h:y5 ns no od):(L no od).Perm (XJ ns):=by
 refine (List.perm_ext_iff_of_nodup ?_ (l9m ns)).2 fun x=> ?_
 ·rw[NC];exact fun i hi k hk=>(h.2 i hi).2 k hk
 ·unfold XJ;rw[yd,yd];constructor
  ·rintro⟨i,hi,rfl⟩;have:=(h.2 i hi).1;exact⟨(od i).toNat,by omega,by omega⟩
  ·rintro⟨j,hj,rfl⟩;obtain⟨p,hp,he,_⟩:=NI h (v:=(j:Int)) ⟨by omega,by omega⟩;exact⟨p,hp,l8r he (by omega)⟩
theorem nh.total (h:nh m ds ns no sz od){T:Nat}(hT:(T:Int)=dv sz ns)(g:T3->Nat):we (oh m ds) (VP sz) (Wd no od 0) g (GS m ds)=sm T fun q=>g (ve m ds (js sz ns q)):=by
 obtain⟨h1,h2,h3,h4⟩:=h.YM;have im:(Wd no od 0).Nodup:=by show (L no od).Nodup;rw[NC];exact fun i hi k hk=>(h4.2 i hi).2 k hk
 rw[l9y (Wd no od 0) _ (fun _=>0) im,m0a (show (Wd no od 0).Perm (XJ ns) from l8n h4) im];have hcg: ∀u v:Nat->Int,(∀j,j<ns->u j=v j)->(∀j,j<ns->0<=u j/\u j<sz j)->ve m ds u=ve m ds v:=fun u v SY hu=>by
  have key: ∀i,i<m->jj (ds i) u (ds i).root=jj (ds i) v (ds i).root:=fun i hi=>by obtain⟨a1,a2,a3,a4,a5⟩:=h.di hi;refine i0e (h.loose i hi) (fun j hj=>SY j (by omega)) (fun j hj=>by rw[a3 j (by omega)];exact hu j (by omega)) (fun j hj=>by rw[<-SY j (by omega),a3 j (by omega)];exact hu j (by omega)) _ (y6 (h.loose i hi).2.2)
  unfold ve;simp only[T3.mk.injEq];refine⟨?_,?_,?_⟩<;>split<;>first|rfl|exact key _ (by assumption)
 have hF: ∃F:(Nat->Int)->Nat,(∀u v:Nat->Int,(∀j,j<ns->u j=v j)->F u=F v)/\ ∀u,(∀j,j<ns->0<=u j/\u j<sz j)->F u=g (ve m ds u):=by
  refine⟨fun u=>g (ve m ds fun j=>if j<ns then u j else 0),fun u v SY=> ?_,fun u hu=> ?_⟩
  ·simp only;congr 2;funext j;split
   ·rename_i hj;exact SY j hj
   ·rfl
  ·simp only;rw[hcg u _ (fun j hj=>(if_pos hj).symm) hu]
 obtain⟨F,Hb,hF2⟩:=hF;rw[l8l (g:=fun q=>F (Ye q)) (XJ ns) (fun _=>0) (fun q=> ∀j,j<ns->(q j:Int)<sz j) (fun q hq=> ?_) fun q q1 _=> ?_]
 ·have:=l9l (n:=ns) (fun j hj=>(h1 j hj).1) hT Hb;rw[show VP sz=fun c=>(sz c.toNat).toNat from rfl,this];refine u4 fun p hp=>hF2 _ ?_;exact (HW (n:=ns) (fun j hj=>(h1 j hj).1) p (by omega)).1
 ·rw[h.Zj hq];exact (hF2 _ fun j hj=>⟨AI _,hq j hj⟩).symm
 ·intro j hj;have:=q1 (j:Int) (by unfold XJ;rw[yd];exact⟨j,hj,rfl⟩);simp only[VP,AB] at this;omega
end
theorem l8w {n:Nat}(hn:n<=1000000)(f:Nat->Aa)(H:List ae)(gid:FuncId)(a:Nat)(p:Nat->Bool)
 (hp: ∀i,i<n->ay AJ gid [(f i).av,.ptr a 0] H (ro H (bool (p i)))) (r:Int) (hr:uq n p r):
 ay AJ 251 [d7 n f,.fn gid [] [.ptr a 0]] H (ro H (int r)):=by
 obtain⟨ef,jf,wy⟩: ∃ef jf,f=fun i=>g8.mk (ef i) (jf i):=⟨fun i=>(f i).fault,fun i=>(f i).n,rfl⟩;subst wy;refine l7 AE ci TC _ rfl fun E Sg hb hS=> ?_;have e8: ∀z,Sg.toNat z=z.toNat:=by subst hS;exact fun _=>rfl
 cbv;refine gg AE ci hS (fun i=>i<=n/\ ∀j,j<i->p j=Ad) (fun i=>n-i)
  (fun i=>⟨dn [(0,d7 n (fun i=>⟨ef i,jf i⟩)),(1,.fn gid [] [.ptr a 0]),(7,int n),(8,int i)] 19,H,[]⟩) 0 ⟨by omega,by omega⟩ ?_ ?_
 ·exact bq rfl ⟨AA _,AA _,br (by subst hS;rfl),bg rfl,trivial⟩ (.same _) (by omega) (.inr rfl) rfl
 ·intro i hi N hN;have aq:=hp i;clear hp;cbv;split
  ·cbv;have hlt:i<n:=by clear aq hN hr;subst hS;simp[ms] at*;omega
   have aq:=aq hlt;generalize hz:p i=z at aq;refine ad hS (by clear aq hN hr;subst hS;simp[ms];omega) ?_;simp only[nat,e8,AG,AB];refine lu hS (r:=bool z) (by subst hS;exact aq) ?_;cases z
   ·cbv;refine ad hS (by clear aq hN hr;subst hS;exact e7 (by simp[ms];omega) (by simp[ms];omega)) ?_;refine hN (i+1) _ ⟨by omega,fun j hj=> ?_⟩ (by omega) (bq rfl ⟨AA _,AA _,AA _,br ?_,trivial⟩ (.same _) (by omega) (.inr rfl) rfl)
    ·by_cases e:j=i
     ·subst e;exact hz
     ·exact hi.2 j (by omega)
    ·clear aq hN hr;subst hS;simp[ms]
   ·cbv;exact j7 (br (hr.2 i hlt hz hi.2).symm) (.same _) (.inr rfl)
  ·have p0:n<=i:=by clear aq hN hr;subst hS;simp[ms] at*;omega
   cbv;exact j7 (bg (hr.1 fun j hj=>hi.2 j (by omega)).symm) (.same _) (.inr rfl)
theorem l7a {n:Nat}(hn:n<=1000000)(f:Nat->Aa)(H:List ae)(gid:FuncId)(a:Nat)(p:Nat->Bool)
 (hp: ∀i,i<n->ay AJ gid [(f i).av,.ptr a 0] H (ro H (bool (p i)))) (r:Bool) (hr:r=AP↔ ∃i,i<n/\p i=AP):
 ay AJ 208 [d7 n f,.fn gid [] [.ptr a 0]] H (ro H (bool r)):=by
 obtain⟨z,hz,jl,eb⟩: ∃z,uq n p z/\(0<=z-> ∃i,i<n/\p i=AP)/\((∃i,i<n/\p i=AP)->0<=z):=JS n p;have aq:=l8w hn f H gid a p hp z hz;have qv:0<=z↔r=AP:=⟨fun h=>hr.2 (jl h),fun h=>eb (hr.1 h)⟩;clear hp hz jl eb hr;refine l7 AE ci Ty _ rfl fun E Sg hb hS=> ?_;cbv;refine lu hS aq ?_;cbv;refine j7 (ga ?_) (.same _) (.inr rfl);clear aq;subst hS;simp[ms];cases r
 ·simp at qv⊢;omega
 ·simpa using qv
def Js (ns:Nat)(sz:Nat->Int)(no:Nat)(od:Nat->Int)(m:Nat)(ds:Nat->Ab)(ng:Nat)(gv:Nat->Int)(op:Value):AV:= .agg [ac ns sz,ac no od,Aq m ds,ac ng gv,.d (.raw op)]
def T3.av (s:T3):AV:= .agg [int s.a,int s.b,int s.c]
theorem m2p (v:Aa)(r:Bool)(hr:r=AP↔v=⟨0,1⟩):au AJ AP 183 [v.av] (bool r):=by
 obtain⟨a,b⟩:=v;simp only[g8.mk.injEq] at hr;refine j6 (cr AE ci m2k _ rfl fun E Sg hb hS=> ?_);have e:=fh hS;cbv;refine bf hS _ TE ?_;cbv;refine ad hS (mc hS) ?_;simp only[e.V4,e.md];refine ga ?_;cases r
 ·by_cases h:a=0
  ·subst h;have hb: ¬b=1:=fun h'=>AY (hr.2 ⟨rfl,h'⟩);simp[hb]
  ·simp[h]
 ·obtain⟨h1,h2⟩:=hr.1 rfl;subst h1 h2;rfl
def Zd:List ae:=[.var [.fn 183 [] []]]
theorem m2j (v:Aa)(r:Bool)(hr:r=AP↔v≠⟨0,1⟩):ay AJ 209 [v.av,.ptr 0 0] Zd (ro Zd (bool r)):=by
 have h1:=m2p v (!r) (by
  cases r
  ·exact⟨fun _=>Classical.byContradiction fun h=>AY (hr.2 h),fun _=>rfl⟩
  ·exact⟨fun h=>AY h,fun h=>absurd h (hr.1 rfl)⟩)
 clear hr;obtain⟨a,b⟩:=v;refine l7 AE ci m2a _ rfl fun E Sg hb hS=> ?_;simp only[Zd,Ae,List.length_nil] at hb;cbv;refine lu hS (ay.VC rfl h1) ?_;cases r<;>cbv<;>exact j7 (ga rfl) (.cons (.refl _) (.nil _)) (.inl ⟨rfl,rfl⟩)
theorem l9u {n:Nat}(hn:n<=1000000)(f:Nat->Aa)(r:Bool)(hr:r=AP↔ ∀i,i<n->f i=⟨0,1⟩):au AJ AP 182 [.fn 183 [] [],d7 n f] (bool r):=by have hp: ∀i,decide (f i≠⟨0,1⟩)=AP↔ ¬f i=⟨0,1⟩:=fun i=>decide_eq_true_iff;have aq:=l7a hn f Zd 209 0 (fun i=>decide (f i≠⟨0,1⟩)) (fun i hi=>m2j (f i) _ decide_eq_true_iff) (!r) (JJ hp hr);clear hr hp;refine j6 (cr AE ci m2e _ rfl fun E Sg hb hS=> ?_);cbv;refine lu hS aq ?_;cases r<;>cbv<;>exact ga rfl
theorem m0x {n:Nat}(hn:n<=1000000)(f:Nat->Aa)(r:Bool)(hr:r=AP↔ ∀i,i<n->f i=⟨0,1⟩):au AJ Ad 141 [d7 n f] (g8.av ⟨0,if r=AP then 1 else 0⟩):=by
 have aq:=l9u hn f r hr;clear hr;refine cr AE ci m1y _ rfl fun E Sg hb hS=> ?_;cbv;refine bf hS _ aq ?_;cases r
 ·cbv;exact fl.agg (.cons (bg rfl) (.cons (bg rfl) .nil))
 ·cbv;refine bf hS _ TE ?_;cbv;exact AA _
theorem upto (k:Nat)(x y:Int): ∃f:Nat->Int,(∀i,i<=k->f i=x)/\ ∀i,k<i->f i=y:=⟨fun i=>if i<=k then x else y,fun i h=>if_pos h,fun i h=>if_neg (by omega)⟩
theorem l9x {ns no m ng:Nat}{sz od gv:Nat->Int}{ds:Nat->Ab}{op:Value}(hm:1<=m/\m<=3):au AJ Ad 178 [Js ns sz no od m ds ng gv op] (GS m ds).av:=by
 obtain⟨R,hR⟩:=xB fun i:Nat=>(ds i).root;obtain⟨F0,a0,a1⟩:=upto 0 0 (R 0);obtain⟨F1,b0,b1⟩:=upto 1 0 (R 1);obtain⟨F2,c0,c1⟩:=upto 2 0 (R 2);have fj:GS m ds=⟨F0 m,F1 m,F2 m⟩:=by
  unfold GS;simp only[hR,T3.mk.injEq];refine⟨?_,?_,?_⟩<;>split<;>first|exact (a1 m (by assumption)).symm|exact (b1 m (by assumption)).symm|exact (c1 m (by assumption)).symm|exact (a0 m (by omega)).symm|exact (b0 m (by omega)).symm|exact (c0 m (by omega)).symm
 rw[fj];refine cr AE ci m2b _ rfl fun E Sg hb hS=> ?_;have e:=fh hS;cbv;refine gg AE ci hS (fun i=>i<=m) (fun i=>m-i)
  (fun i=>⟨dn [(2,.ptr 1 0),(6,Aq m ds),(7,int m),(8,int i)] 19,[.var [ac ns sz,ac no od,Aq m ds,ac ng gv,.d (.raw op)],.var [int (F0 i),int (F1 i),int (F2 i)]],[]⟩) 0 (by omega) ?_ ?_
 ·exact bq rfl ⟨AA _,AA _,br (e.ofNat _),bg rfl,trivial⟩ (.cons (.refl _) (.cons (.var (.cons (bg (a0 0 (by omega)).symm) (.cons (bg (b0 0 (by omega)).symm) (.cons (bg (c0 0 (by omega)).symm) .nil)))) (.nil _))) (by simp;omega) (.inr rfl) rfl
 ·intro i hi N hN;cbv;split
  ·rename_i h;have hlt:i<m:=AM.1 (ry hS h);cbv;refine ad hS (qw hS ⟨AI i,AM.2 hlt⟩) ?_;simp only[nat,e.toNat,AG,AB];refine ad hS (qw hS (by omega)) ?_;simp only[e.fd,e.wp];obtain rfl|rfl|rfl:i=0\/i=1\/i=2:=by omega
   ·cbv;refine ad hS (ji hS (by omega)) ?_;exact hN 1 _ hlt (by omega) (bq rfl ⟨AA _,AA _,AA _,je hS,trivial⟩ (.cons (.refl _) (.cons (.var (.cons (br ((hR 0).trans (a1 1 (by omega)).symm)) (.cons (br ((b0 0 (by omega)).trans (b0 1 (by omega)).symm)) (.cons (br ((c0 0 (by omega)).trans (c0 1 (by omega)).symm)) .nil)))) (.nil _))) (by simp;omega) (.inl ⟨rfl,rfl⟩) rfl)
   ·cbv;refine ad hS (ji hS (by omega)) ?_;exact hN 2 _ hlt (by omega) (bq rfl ⟨AA _,AA _,AA _,je hS,trivial⟩ (.cons (.refl _) (.cons (.var (.cons (br ((a1 1 (by omega)).trans (a1 2 (by omega)).symm)) (.cons (br ((hR 1).trans (b1 2 (by omega)).symm)) (.cons (br ((c0 1 (by omega)).trans (c0 2 (by omega)).symm)) .nil)))) (.nil _))) (by simp;omega) (.inl ⟨rfl,rfl⟩) rfl)
   ·cbv;refine ad hS (ji hS (by omega)) ?_;exact hN 3 _ hlt (by omega) (bq rfl ⟨AA _,AA _,AA _,je hS,trivial⟩ (.cons (.refl _) (.cons (.var (.cons (br ((a1 2 (by omega)).trans (a1 3 (by omega)).symm)) (.cons (br ((b1 2 (by omega)).trans (b1 3 (by omega)).symm)) (.cons (br ((hR 2).trans (c1 3 (by omega)).symm)) .nil)))) (.nil _))) (by simp;omega) (.inl ⟨rfl,rfl⟩) rfl)
  ·rename_i h;obtain rfl:i=m:=by have:=AX.1 (s9 hS h);omega
   cbv;exact AA _
def T3.get (s:T3):Nat->Int
 |0=>s.a
 |1=>s.b
 |_=>s.c
def RU (ds:Nat->Ab)(ch:Int)(s:T3)(i:Nat):Prop:=0<=s.get i/\(ds i).var (s.get i).toNat=ch
theorem l8i {m:Nat}{ds:Nat->Ab}{ch:Int}{s:T3}(hm:m<=3):KT m ds ch s↔ ∃i,i<m/\RU ds ch s i:=by
 constructor
 ·rintro (⟨h,h2⟩|⟨h,h2⟩|⟨h,h2⟩)
  ·exact⟨0,h,h2⟩
  ·exact⟨1,h,h2⟩
  ·exact⟨2,h,h2⟩
 ·rintro⟨i,h,h2⟩;obtain rfl|rfl|rfl:i=0\/i=1\/i=2:=by omega
  ·exact .inl ⟨h,h2⟩
  ·exact .inr (.inl ⟨h,h2⟩)
  ·exact .inr (.inr ⟨h,h2⟩)
theorem m0i {ns no m ng:Nat}{sz od gv:Nat->Int}{ds:Nat->Ab}{op:Value}(hm:m<=3)(s:T3)(ch:Int)(hs: ∀i,i<m->0<=s.get i->s.get i<(ds i).nn)
 (z:Bool) (hz:z=AP↔KT m ds ch s):au AJ AP 180 [Js ns sz no od m ds ng gv op,s.av,int ch] (bool z):=by
 rw[l8i hm] at hz;unfold RU at hz;obtain⟨S,ll⟩: ∃S:Nat->Int,s.get=S:=⟨_,rfl⟩;have qi:s.av= .agg [int (S 0),int (S 1),int (S 2)]:=by subst ll;rfl
 rw[qi];simp only[ll] at hz hs;refine j6 (cr AE ci m1o _ rfl fun E Sg hb hS=> ?_);have e:=fh hS;cbv;refine gg AE ci hS (fun i=>i<=m/\ ∀j,j<i-> ¬(0<=S j/\(ds j).var (S j).toNat=ch)) (fun i=>m-i)
  (fun i=>⟨dn [(2,int ch),(4,.ptr 1 0),(10,Aq m ds),(11,int m),(12,int i)] 34,[.var [ac ns sz,ac no od,Aq m ds,ac ng gv,.d (.raw op)],.var [int (S 0),int (S 1),int (S 2)]],[]⟩) 0 ⟨by omega,by omega⟩ ?_ ?_
 ·exact bq rfl ⟨AA _,AA _,AA _,br (e.ofNat _),bg rfl,trivial⟩ (.same _) (by simp;omega) (.inr rfl) rfl
 ·rintro i ⟨hi,jn⟩ N hN;cbv;split
  ·rename_i h;have hlt:i<m:=AM.1 (ry hS h);cbv;refine ad hS (qw hS ⟨AI i,AM.2 hlt⟩) ?_;simp only[nat,e.toNat,AG,AB];refine ad hS (qw hS (by omega)) ?_;simp only[e.fd,e.wp];have iz:=hs i hlt;have J3:=hN (i+1);clear hN hs;by_cases h0:0<=S i
   ·have g:Sg.WA (AZ 0) (S i)=AP:=by rw[e.WA];exact decide_eq_true h0
    have iz:=iz h0;obtain rfl|rfl|rfl:i=0\/i=1\/i=2:=by omega
    all_goals
     cbv;simp only[g];cbv;refine ad hS (gf hS (by omega)) ?_;simp only[e.fd,e.wp,e.toNat,AG,AB];cbv;refine ad hS (qw hS ⟨h0,iz⟩) ?_;split
     ·rename_i h1;simp only[e.toNat] at h1;cbv;exact Ir hz ⟨_,hlt,h0,e2h hS h1⟩
     ·rename_i h1;simp only[e.toNat] at h1;cbv;refine ad hS (ji hS (by omega)) ?_;refine J3 _ ⟨by omega,fun j hj=> ?_⟩ (by omega) (bq rfl ⟨AA _,AA _,AA _,AA _,je hS,trivial⟩ (.cons (.refl _) (.cons (.refl _) (.nil _))) (by simp;omega) (.inl ⟨rfl,rfl⟩) rfl);rcases Ac.1 hj with h|rfl
      ·exact jn j h
      ·exact fun h=>Ve hS h1 h.2
   ·have g:Sg.WA (AZ 0) (S i)=Ad:=by rw[e.WA];exact decide_eq_false h0
    obtain rfl|rfl|rfl:i=0\/i=1\/i=2:=by omega
    all_goals
     cbv;simp only[g];cbv;refine ad hS (ji hS (by omega)) ?_;refine J3 _ ⟨by omega,fun j hj=> ?_⟩ (by omega) (bq rfl ⟨AA _,AA _,AA _,AA _,je hS,trivial⟩ (.cons (.refl _) (.cons (.refl _) (.nil _))) (by simp;omega) (.inl ⟨rfl,rfl⟩) rfl);rcases Ac.1 hj with h|rfl
     ·exact jn j h
     ·exact fun h=>h0 h.1
  ·rename_i h;obtain rfl:i=m:=by have:=AX.1 (s9 hS h);omega
   cbv;refine jq hz fun⟨j,h1,h2⟩=> ?_;exact jn j h1 h2
theorem l9o {ns no m ng:Nat}{sz od gv:Nat->Int}{ds:Nat->Ab}{op:Value}(hm:m<=3)(s:T3)(ch:Int)(dg:Nat)(hs: ∀i,i<m->0<=s.get i->s.get i<(ds i).nn)(hk: ∀i,i<m->RU ds ch s i->dg<(ds i).nk (s.get i).toNat):
 au AJ Ad 179 [Js ns sz no od m ds ng gv op,s.av,int ch,int dg] (oh m ds ch dg s).av:=by
 unfold RU at hk;obtain⟨S,ll⟩: ∃S:Nat->Int,s.get=S:=⟨_,rfl⟩;obtain⟨B,hB⟩:=xB fun i:Nat=>vw (ds i) ch dg (S i);obtain⟨F,f0,f1⟩: ∃F:Nat->Nat->Int,(∀k i,i<=k->F k i=S k)/\ ∀k i,k<i->F k i=B k:=⟨fun k i=>if i<=k then S k else B k,fun k i h=>if_pos h,fun k i h=>if_neg (by omega)⟩;have qi:s.av= .agg [int (S 0),int (S 1),int (S 2)]:=by subst ll;rfl
 have fj:oh m ds ch dg s=⟨F 0 m,F 1 m,F 2 m⟩:=by
  have e0:s.a=S 0:=by subst ll;rfl
  have e1:s.b=S 1:=by subst ll;rfl
  have e2:s.c=S 2:=by subst ll;rfl
  unfold oh;simp only[e0,e1,e2,hB,T3.mk.injEq];refine⟨?_,?_,?_⟩<;>split<;>first|exact (f1 _ m (by assumption)).symm|exact (f0 _ m (by omega)).symm
 rw[qi,fj];simp only[ll] at hk hs;clear fj qi ll;refine cr AE ci m1m _ rfl fun E Sg hb hS=> ?_;have e:=fh hS;cbv;refine gg AE ci hS (fun i=>i<=m) (fun i=>m-i)
  (fun i=>⟨dn [(2,int ch),(3,int dg),(5,.ptr 1 0),(8,.ptr 2 0),(12,Aq m ds),(13,int m),(14,int i)] 50,[.var [ac ns sz,ac no od,Aq m ds,ac ng gv,.d (.raw op)],.var [int (F 0 i),int (F 1 i),int (F 2 i)],.var [.d (.int .i64 (.l (.ofNat 0))),.d (.int .i64 (.l (.ofNat 0))),.d (.int .i64 (.l (.ofNat 0)))]],[]⟩) 0 (by omega) ?_ ?_
 ·exact bq rfl ⟨AA _,AA _,AA _,AA _,AA _,br (e.ofNat _),bg rfl,trivial⟩ (.cons (.refl _) (.cons (.var (.cons (br (f0 _ 0 (by omega)).symm) (.cons (br (f0 _ 0 (by omega)).symm) (.cons (br (f0 _ 0 (by omega)).symm) .nil)))) (.cons (.refl _) (.nil _)))) (by simp;omega) (.inr rfl) rfl
 ·rintro i hi N hN;cbv;split
  ·rename_i h;have hlt:i<m:=AM.1 (ry hS h);cbv;refine ad hS (qw hS ⟨AI i,AM.2 hlt⟩) ?_;simp only[nat,e.toNat,AG,AB];refine ad hS (qw hS (by omega)) ?_;simp only[e.fd,e.wp];have iz:=hs i hlt;have uy:=hk i hlt;have J3:=hN (i+1);have Lk:=hB i;have Km:Sg.toNat (AZ i)=i:=e.toNat _;have Pz:F i i=S i:=f0 i i (AL _);have cm:F i (i+1)=B i:=f1 i (i+1) (Nat.lt_succ_self _);have ck: ∀k,k≠i->F k i=F k (i+1):=fun k hk=>by
    rcases AW k i with h|h
    ·rw[f1 k i h,f1 k (i+1) (by omega)]
    ·rw[f0 k i h,f0 k (i+1) (by omega)]
   clear hN hs hk hB f0 f1;unfold vw at Lk;by_cases h0:0<=S i
   ·have g:Sg.WA (AZ 0) (S i)=AP:=by rw[e.WA];exact decide_eq_true h0
    have iz:=iz h0;obtain rfl|rfl|rfl:i=0\/i=1\/i=2:=by omega
    all_goals
     cbv;simp only[Pz,g];cbv;refine ad hS (gf hS (by omega)) ?_;simp only[e.fd,e.wp,e.toNat,AG,AB];cbv;refine ad hS (qw hS ⟨h0,iz⟩) ?_;split
     ·rename_i h1;simp only[e.toNat] at h1;have h1:=e2h hS h1;have uy:=uy ⟨h0,h1⟩;rw[if_pos ⟨h0,h1⟩] at Lk;cbv;refine ad hS (gf hS (by omega)) ?_;simp only[Km,e.fd,e.wp];cbv;refine ad hS (qw hS ⟨h0,iz⟩) (ad hS (gf hS (by simp only[e.toNat];exact uy)) (ad hS (gf hS (by omega)) ?_));simp only[Km,e.fd,e.wp];cbv;refine ad hS (ji hS (by omega)) ?_;refine J3 _ (by omega) (by omega) (bq rfl ⟨AA _,AA _,AA _,AA _,AA _,AA _,je hS,trivial⟩ (.cons (.refl _) (.cons (.var (.cons ?_ (.cons ?_ (.cons ?_ .nil)))) (.cons (.refl _) (.nil _)))) (by simp;omega) (.inl ⟨rfl,rfl⟩) rfl)
      all_goals first|exact br (ck _ (by decide))|exact br (by simp only[e.toNat];exact Lk.trans cm.symm)
     ·rename_i h1;simp only[e.toNat] at h1;have h1:=Ve hS h1;rw[if_neg fun h=>h1 h.2] at Lk;cbv;refine ad hS (ji hS (by omega)) ?_;refine J3 _ (by omega) (by omega) (bq rfl ⟨AA _,AA _,AA _,AA _,AA _,AA _,je hS,trivial⟩ (.cons (.refl _) (.cons (.var (.cons ?_ (.cons ?_ (.cons ?_ .nil)))) (.cons (.refl _) (.nil _)))) (by simp;omega) (.inl ⟨rfl,rfl⟩) rfl)
      all_goals first|exact br (ck _ (by decide))|exact br (Lk.trans cm.symm)
   ·have g:Sg.WA (AZ 0) (S i)=Ad:=by rw[e.WA];exact decide_eq_false h0
    rw[if_neg fun h=>h0 h.1] at Lk;obtain rfl|rfl|rfl:i=0\/i=1\/i=2:=by omega
    all_goals
     cbv;simp only[Pz,g];cbv;refine ad hS (ji hS (by omega)) ?_;refine J3 _ (by omega) (by omega) (bq rfl ⟨AA _,AA _,AA _,AA _,AA _,AA _,je hS,trivial⟩ (.cons (.refl _) (.cons (.var (.cons ?_ (.cons ?_ (.cons ?_ .nil)))) (.cons (.refl _) (.nil _)))) (by simp;omega) (.inl ⟨rfl,rfl⟩) rfl)
     all_goals first|exact br (ck _ (by decide))|exact br (Lk.trans cm.symm)
  ·rename_i h;obtain rfl:i=m:=by have:=AX.1 (s9 hS h);omega
   cbv;exact AA _
theorem l9q {ns no m ng:Nat}{sz od gv:Nat->Int}{ds:Nat->Ab}{op:Value}(hm:1<=m/\m<=3)(s:T3)(hs: ∀i,i<m->s.get i<0/\ -1-s.get i<(ds i).ne/\(ds i).ne<=1000000):
 au AJ Ad 181 [Js ns sz no od m ds ng gv op,s.av] (d7 m fun i=>(ds i).en (-1-s.get i).toNat):=by
 obtain⟨S,ll⟩: ∃S:Nat->Int,s.get=S:=⟨_,rfl⟩;have qi:s.av= .agg [int (S 0),int (S 1),int (S 2)]:=by subst ll;rfl
 rw[qi,ll];simp only[ll] at hs;clear qi ll;obtain⟨V,hV⟩:=xB fun i:Nat=>(ds i).en (-1-S i).toNat;simp only[hV];refine cr AE ci m2i _ rfl fun E Sg hb hS=> ?_;have e:=fh hS;cbv;refine HO AE ci hS (fun i=>i<=m) (fun i=>m-i)
  (fun i=>⟨dn [(3,.ptr 1 0),(4,.bi 2 2 Ag i Ad),(8,Aq m ds),(9,int m),(10,int i)] 28,[.var [ac ns sz,ac no od,Aq m ds,ac ng gv,.d (.raw op)],.var [int (S 0),int (S 1),int (S 2)],.arr 2 i fun j=>(V j).row],[2]⟩) 0 (by omega) ?_ ?_
 ·exact (fp.gt 4 2 (fun _=>[]) rfl).trans (fp.le (bq rfl ⟨AA _,AA _,AA _,br (e.ofNat _),bg rfl,trivial⟩
   (.cons (.refl _) (.cons (.refl _) (.cons (bx.Xd rfl fun j hj=>by omega) (.nil _)))) (by simp;omega) (.inr rfl) rfl))
 ·rintro i hi N hN;cbv;split
  ·rename_i h;have hlt:i<m:=AM.1 (ry hS h);cbv;refine ad hS (qw hS ⟨AI i,AM.2 hlt⟩) ?_;simp only[nat,e.toNat,AG,AB];refine ad hS (qw hS (by omega)) ?_;simp only[e.fd,e.wp];obtain⟨s1,s2,s3⟩:=hs i hlt;obtain⟨ne,ck⟩: ∃n:Nat,(ds i).ne=n:=⟨_,rfl⟩;have s2: -1-S i<(ne:Int):=by rw[<-ck];exact s2
   rw[ck] at s3;have J3:=hN (i+1);have hVi:=hV i;have q1: -9223372036854775808<= -1-S i/\ -1-S i<=9223372036854775807:=by omega
   have q2:0<= -1-S i/\ -1-S i<(ds i).ne:=by rw[ck];omega
   have q3: ∀z,z= -1-S i->RL ((ds i).en (Sg.toNat z)).row (V i).row:=fun z hz=>by rw[hz,e.toNat,hVi];exact .refl _
   have q4:Sg.Vz (Int.negSucc 0) (S i)= -1-S i:=e.Vz _ _;clear hN hs hV hVi;obtain rfl|rfl|rfl:i=0\/i=1\/i=2:=by omega
   all_goals
    cbv;refine ad hS (a9o hS q1) (ad hS (d4s hS q2) (ad hS trivial (ad hS (uh hS (by omega)) (ad hS (ji hS (by omega)) ?_))));exact J3 _ (by omega) (by omega) (fp.le (bq rfl ⟨AA _,w7 hS,AA _,AA _,je hS,trivial⟩
     (.cons (.refl _) (.cons (.refl _) (.cons (yc hS (fun j hj=> .refl _) (q3 _ q4)) (.nil _)))) (by simp;omega) (.inl ⟨rfl,rfl⟩) rfl))
  ·rename_i h;obtain rfl:i=m:=by have:=AX.1 (s9 hS h);omega
   cbv;exact ad hS (tq hS (AL _)) (AA _)
theorem Uh {α:Type}{g g':α->Nat}(h: ∀a,g a<=g' a): ∀l:List (α×Nat),Ok l g<=Ok l g'
 |[]=>AL _
 |e::l=>by have h1:=Uh h l;have h2:=AS e.2 (h e.1);simp only[Ok];omega
theorem Ug {α:Type}{g:α->Nat}{l:List (α×Nat)}{i:Nat}{e:α×Nat}(h:l[i]? =AQ e):tm l g i=e.2*g e.1:=by unfold tm;rw[h]
theorem l7i {α:Type}[DecidableEq α]{k:α}{n:Nat}{l:List (α×Nat)}(h:VF k l=AQ n):n<=Ok l fun _=>1:=by have:=l8x (g:=fun _=>1) (Tp h);omega
section
variable {m ns no T:Nat} {ds:Nat->Ab} {sz od:Nat->Int}
structure Yj (m:Nat)(ds:Nat->Ab)(no:Nat)(sz od:Nat->Int)(r:Nat)(l:List (T3×Nat)):Prop where
 sum: ∀g,Ok l (we (oh m ds) (VP sz) (Wd no od r) g)=we (oh m ds) (VP sz) (Wd no od 0) g (GS m ds)
 ok: ∀e,e∈l->0<e.2/\XG m ds r e.1
theorem nh.Zp (h:nh m ds ns no sz od):Yj m ds no sz od 0 [(GS m ds,1)]:=
 ⟨fun g=>by simp[Ok],fun e he=>by
   simp only[List.mem_singleton] at he;subst he;exact⟨An,h.start⟩⟩
theorem nh.all (h:nh m ds ns no sz od)(hT:(T:Int)=dv sz ns):we (oh m ds) (VP sz) (Wd no od 0) (fun _=>1) (GS m ds)=T:=by rw[h.total hT,Me];omega
theorem nh.Xr (h:nh m ds ns no sz od){r:Nat}(hr:r<no):1<=VP sz (od r)/\VP sz (od r)<=12/\(VP sz (od r):Int)=sz (od r).toNat/\(0<=od r/\(od r).toNat<ns):=by obtain⟨h1,h2,h3,h4⟩:=h.YM;have h5:=(h4.2 r hr).1;have h6:=h1 (od r).toNat (by omega);unfold VP;omega
theorem nh.NE (h:nh m ds ns no sz od){r:Nat}(s:T3):1<=we (oh m ds) (VP sz) (Wd no od r) (fun _=>1) s:=by refine Run.NE fun c hc=> ?_;have:c∈L no od:=List.mem_of_mem_drop hc;obtain⟨i,hi,rfl⟩:=yd.1 this;exact (h.Xr hi).1
theorem Yj.le {r:Nat}{l:List (T3×Nat)}(hl:Yj m ds no sz od r l)(h:nh m ds ns no sz od)(hT:(T:Int)=dv sz ns):Ok l (fun _=>1)<=T:=by rw[<-h.all hT,<-hl.sum];exact Uh (fun a=>h.NE a) l
structure Xk (m:Nat)(ds:Nat->Ab)(sz od:Nat->Int)(r:Nat)(l:List (T3×Nat))(seen:List Nat)(l2:List (T3×Nat)):Prop where
 sum: ∀h:T3->Nat,Ok l2 h+WS seen l.length (tm l fun s=>sm (VP sz (od r)) fun d=>h (oh m ds (od r) d s))=Ok l fun s=>sm (VP sz (od r)) fun d=>h (oh m ds (od r) d s)
 ok: ∀e,e∈l2->0<e.2/\XG m ds (r+1) e.1
theorem m3w {r:Nat}{l:List (T3×Nat)}:Xk m ds sz od r l [] []:=⟨fun h=>by rw[l7k,l9b l];simp[Ok],fun e he=>by simp at he⟩
theorem Xk.done {r:Nat}{l l2:List (T3×Nat)}{seen:List Nat}(h2:Xk m ds sz od r l seen l2)(hl:Yj m ds no sz od r l)(hr:r<no)(hs: ∀i,i<l.length->i∈seen):Yj m ds no sz od (r+1) l2:=by refine⟨fun g=> ?_,h2.ok⟩;have h3:=h2.sum (we (oh m ds) (VP sz) (Wd no od (r+1)) g);rw[l6o hs,Aj] at h3;rw[h3,<-hl.sum g];rw[l6m hr];rfl
structure Dg (m:Nat)(ds:Nat->Ab)(sz od:Nat->Int)(r:Nat)(l2:List (T3×Nat))(s:T3)(n d:Nat)(l3:List (T3×Nat)):Prop where
 sum: ∀h:T3->Nat,Ok l3 h=Ok l2 h+n*sm d fun d=>h (oh m ds (od r) d s)
 ok: ∀e,e∈l3->0<e.2/\XG m ds (r+1) e.1
section
variable {r n d i:Nat} {l l2 l3:List (T3×Nat)} {s:T3} {seen:List Nat}
theorem Xk.s_ (h2:Xk m ds sz od r l seen l2):Dg m ds sz od r l2 s n 0 l2:=⟨fun h=>by simp[sm],h2.ok⟩
theorem To {α:Type}[DecidableEq α]{k:α}{n:Nat}(hn:0<n): ∀{l:List (α×Nat)},(∀e,e∈l->0<e.2)-> ∀e,e∈kh k n l->0<e.2
 |[],_,e,he=>by simp[kh] at he;rw[he];exact hn
 |x::l,h,e,he=>by
  rw[kh] at he;split at he
  ·rcases AK.1 he with rfl|he
   ·show 0<x.2+n;omega
   ·exact h e (AF _ he)
  ·rcases AK.1 he with rfl|he
   ·exact h _ (by simp)
   ·exact To hn (fun e he=>h e (AF _ he)) e he
theorem Dg.step (h3:Dg m ds sz od r l2 s n d l3)(h:nh m ds ns no sz od)(hr:r<no)(hn:0<n)(hs:XG m ds r s)(hd:d<VP sz (od r)):Dg m ds sz od r l2 s n (d+1) (kh (oh m ds (od r) d s) n l3):=by
 refine⟨fun g=> ?_,fun e he=> ?_⟩
 ·rw[Ui,h3.sum,sm,Ap];omega
 ·refine⟨To hn (fun e he=>(h3.ok e he).1) e he,?_⟩;rcases Tn he with e1|h1
  ·rw[e1];have:=(h.Xr hr).2.2.1;exact h.step hr (by omega) hs
  ·exact (h3.ok e h1).2
theorem Xk.ZI (h2:Xk m ds sz od r l seen l2)(hi:l[i]? =AQ (s,n))(nu:i∉seen)(h3:Dg m ds sz od r l2 s n (VP sz (od r)) l3):Xk m ds sz od r l (i::seen) l3:=by refine⟨fun g=> ?_,h3.ok⟩;have hil:=(AD.1 hi).1;have h4:=h2.sum g;rw[(Jt nu).1 hil,Ug hi] at h4;simp only at h4;rw[h3.sum];omega
theorem Xk.idle (h2:Xk m ds sz od r l seen l2)(h:nh m ds ns no sz od)(hr:r<no)(hi:l[i]? =AQ (s,n))(hn:0<n)(hs:XG m ds r s)(nu:i∉seen)(ha: ¬KT m ds (od r) s):Xk m ds sz od r l (i::seen) (kh s (n*VP sz (od r)) l2):=by
 have bl:=h.Xr hr;refine h2.ZI hi nu ⟨fun g=> ?_,fun e he=> ?_⟩
 ·rw[Ui,u4 (g:=fun _=>g s) (fun d _=>by rw[l8k ha]),Me,Nat.mul_assoc]
 ·refine⟨To (Nat.mul_pos hn (by omega)) (fun e he=>(h2.ok e he).1) e he,?_⟩;rcases Tn he with e1|h1
  ·rw[e1,<-l8k ha 0];exact h.step hr (by omega) hs
  ·exact (h2.ok e h1).2
theorem Xk.le (h2:Xk m ds sz od r l seen l2)(h:nh m ds ns no sz od)(hT:(T:Int)=dv sz ns)(hl:Yj m ds no sz od r l)(hr:r<no)(hi:l[i]? =AQ (s,n))(nu:i∉seen):(Ok l2 fun _=>1)+n*VP sz (od r)<=T:=by
 have hil:=(AD.1 hi).1;have h4:=h2.sum (we (oh m ds) (VP sz) (Wd no od (r+1)) fun _=>1);have h5:(Ok l fun s=>sm (VP sz (od r)) fun d=>we (oh m ds) (VP sz) (Wd no od (r+1)) (fun _=>1) (oh m ds (od r) d s))=T:=by rw[<-h.all hT,<-hl.sum,l6m hr];rfl
 rw[h5,(Jt nu).1 hil,Ug hi] at h4;have h6:Ok l2 (fun _=>1)<=Ok l2 (we (oh m ds) (VP sz) (Wd no od (r+1)) fun _=>1):=Uh (fun a=>h.NE (r:=r+1) a) l2;have h7:VP sz (od r)<=sm (VP sz (od r)) fun d=>we (oh m ds) (VP sz) (Wd no od (r+1)) (fun _=>1) (oh m ds (od r) d s):=by have:=m0l (n:=VP sz (od r)) (f:=fun _=>1) (g:=fun d=>we (oh m ds) (VP sz) (Wd no od (r+1)) (fun _=>1) (oh m ds (od r) d s)) fun d _=>h.NE _;rw[Me] at this;omega
 have h8:=AS n h7;simp only at h4 h6 h8⊢;omega
theorem Dg.le (h3:Dg m ds sz od r l2 s n d l3)(hb:(Ok l2 fun _=>1)+n*VP sz (od r)<=T)(hd:d<VP sz (od r)):(Ok l3 fun _=>1)+n<=T:=by
 rw[h3.sum,Me];have:n*(d*1)+n<=n*VP sz (od r):=by rw[Ao,<-Nat.mul_succ];exact AS _ hd
 omega
end
def zx (ds:Nat->Ab)(i:Nat)(s:T3):Aa:=(ds i).en (-1-(match i with|0=>s.a|1=>s.b|_=>s.c)).toNat
def GP (m:Nat)(ds:Nat->Ab)(s:T3):Bool:=(AO m 1||decide (zx ds 1 s=⟨0,1⟩))&&(AO m 2||decide (zx ds 2 s=⟨0,1⟩))
def Zz (m:Nat)(ds:Nat->Ab)(t:List (Aa×Nat))(s:T3)(n:Nat):List (Aa×Nat):=if GP m ds s=AP then kh (zx ds 0 s) n t else t
structure Ya (m:Nat)(ds:Nat->Ab)(l:List (T3×Nat))(seen:List Nat)(t:List (Aa×Nat)):Prop where
 sum: ∀h:Aa->Nat,Ok t h+WS seen l.length (tm l fun s=>if GP m ds s=AP then h (zx ds 0 s) else 0)=Ok l fun s=>if GP m ds s=AP then h (zx ds 0 s) else 0
 nd:(t.map (·.1)).Nodup
 pos: ∀e,e∈t->0<e.2
theorem m4c {l:List (T3×Nat)}:Ya m ds l [] []:=⟨fun h=>by rw[l7k,l9b l];simp[Ok],by simp,fun e he=>by simp at he⟩
theorem Ya.step {l:List (T3×Nat)}{seen:List Nat}{t:List (Aa×Nat)}{i n:Nat}{s:T3}(h:Ya m ds l seen t)(hi:l[i]? =AQ (s,n))(hn:0<n)(nu:i∉seen):Ya m ds l (i::seen) (Zz m ds t s n):=by
 have hil:=(AD.1 hi).1;unfold Zz;refine⟨fun g=> ?_,?_,?_⟩
 ·have h4:=h.sum g;rw[(Jt nu).1 hil,Ug hi] at h4;simp only at h4;by_cases hm:GP m ds s=AP
  ·rw[if_pos hm] at h4⊢;rw[Ui];omega
  ·rw[if_neg hm] at h4⊢;omega
 ·split
  ·exact l9h h.nd
  ·exact h.nd
 ·split
  ·exact To hn h.pos
  ·exact h.pos
theorem Ya.le {l:List (T3×Nat)}{seen:List Nat}{t:List (Aa×Nat)}{i n:Nat}{s:T3}(h:Ya m ds l seen t)(hi:l[i]? =AQ (s,n))(nu:i∉seen)(hl:Ok l (fun _=>1)<=T)(hm:GP m ds s=AP):(Ok t fun _=>1)+n<=T:=by
 have hil:=(AD.1 hi).1;have h4:=h.sum fun _=>1;rw[(Jt nu).1 hil,Ug hi] at h4;simp only[if_pos hm] at h4;have:=Uh (l:=l) (g:=fun s=>if GP m ds s=AP then 1 else 0) (g':=fun _=>1) fun a=>by split<;>omega
 omega
structure Gt (T:Nat)(M:Nat->Bool)(X:Nat->Aa)(t:List (Aa×Nat)):Prop where
 sum: ∀h:Aa->Nat,Ok t h=sm T fun q=>if M q=AP then h (X q) else 0
 nd:(t.map (·.1)).Nodup
 pos: ∀e,e∈t->0<e.2
def w9 (m:Nat)(ds:Nat->Ab)(q:Nat):Bool:=(AO m 1||decide ((ds 1).cell q=⟨0,1⟩))&&(AO m 2||decide ((ds 2).cell q=⟨0,1⟩))
theorem l7z {d:Ab}{sz:Nat->Int}{ns q:Nat}(hl:mw d)(hn:d.ns=ns)(hz: ∀j,j<ns->d.sz j=sz j)(hs: ∀j,j<ns->1<=sz j)(hq:(q:Int)<dv sz ns):d.cell q=d.en (-1-jj d (js sz ns q) d.root).toNat:=by
 subst hn;have hp:dv d.sz d.ns=dv sz d.ns:=by
  have: ∀k,k<=d.ns->dv d.sz k=dv sz k:=fun k=>by
   induction k with
   |zero=>intro _;rfl
   |succ k ih=>intro hk;rw[dv,dv,ih (by omega),hz k (by omega)]
  exact this _ (AL _)
 obtain⟨a1,a2⟩:=HW (n:=d.ns) hs q hq;obtain⟨b1,b2⟩:=HW (sz:=d.sz) (n:=d.ns) (fun j hj=>by rw[hz j hj];exact hs j hj) q (by rw[hp];exact hq);unfold g7.cell;have hv: ∀k,k<=d.ns->jc d.sz (js d.sz d.ns q) k=jc sz (js d.sz d.ns q) k:=fun k=>by
  induction k with
  |zero=>intro _;rfl
  |succ k ih=>intro hk;rw[jc,jc,ih (by omega),hz k (by omega)]
 have e:=j4w (sz:=sz) (g:=js d.sz d.ns q) (h:=js sz d.ns q) (n:=d.ns) (fun j hj=>by rw[<-hz j hj];exact b1 j hj) a1 (by rw[<-hv _ (AL _),b2,a2]);rw[i0e hl e b1 (fun j hj=>by rw[<-e j hj];exact b1 j hj) _ (y6 hl.2.2)]
theorem Ya.done {l:List (T3×Nat)}{seen:List Nat}{t:List (Aa×Nat)}(ht:Ya m ds l seen t)(h:nh m ds ns no sz od)(hT:(T:Int)=dv sz ns)(hl:Yj m ds no sz od no l)(hs: ∀i,i<l.length->i∈seen):Gt T (w9 m ds) (ds 0).cell t:=by
 refine⟨fun g=> ?_,ht.nd,ht.pos⟩;have h3:=ht.sum g;rw[l6o hs,Aj] at h3;have h4:=hl.sum fun s=>if GP m ds s=AP then g (zx ds 0 s) else 0;rw[l9f,h.total hT] at h4;rw[h3];refine h4.trans (u4 fun q hq=> ?_);obtain⟨z1,z2,z3,z4⟩:=h.YM;have key: ∀i,i<m->(ds i).cell q=(ds i).en (-1-jj (ds i) (js sz ns q) (ds i).root).toNat:=fun i hi=>by obtain⟨a1,a2,a3,a4,a5⟩:=h.di hi;exact l7z (h.loose i hi) a1 a3 (fun j hj=>(z1 j hj).1) (by omega)
 have e0:zx ds 0 (ve m ds (js sz ns q))=(ds 0).cell q:=by rw[key 0 (by have:=h.hm;omega)];show (ds 0).en (-1-(ve m ds (js sz ns q)).a).toNat=_;rw[ve,if_pos (show 0<m by have:=h.hm;omega)]
 have em:GP m ds (ve m ds (js sz ns q))=w9 m ds q:=by
  unfold GP w9;have h1:(AO m 1||decide (zx ds 1 (ve m ds (js sz ns q))=⟨0,1⟩))=(AO m 1||decide ((ds 1).cell q=⟨0,1⟩)):=by
   by_cases hm:m<=1
   ·rw[show AO m 1=AP from by simpa using hm];rfl
   ·rw[key 1 (by omega)];show (AO m 1||decide ((ds 1).en (-1-(ve m ds (js sz ns q)).b).toNat=_))=_;rw[ve,if_pos (show 1<m by omega)]
  have h2:(AO m 2||decide (zx ds 2 (ve m ds (js sz ns q))=⟨0,1⟩))=(AO m 2||decide ((ds 2).cell q=⟨0,1⟩)):=by
   by_cases hm:m<=2
   ·rw[show AO m 2=AP from by simpa using hm];rfl
   ·rw[key 2 (by omega)];show (AO m 2||decide ((ds 2).en (-1-(ve m ds (js sz ns q)).c).toNat=_))=_;rw[ve,if_pos (show 2<m by omega)]
  rw[h1,h2]
 rw[em,e0]
def wm (T:Nat)(M:Nat->Bool)(X:Nat->Aa)(v:Aa):Nat:=sm T fun q=>if M q=AP/\X q=v then 1 else 0
theorem m0m {t:List (Aa×Nat)}(hn:(t.map (·.1)).Nodup)(v:Aa):(Ok t fun u=>if u=v then 1 else 0)=(VF v t).getD 0:=by
 induction t with
 |nil=>rfl
 |cons e t ih=>
  rw[AC,AH] at hn;rw[Ok,VF,ih hn.2];by_cases h:e.1=v
  ·rw[if_pos h,if_pos h];have:VF v t=Ag:=by
    cases hm:VF v t with
    |none=>rfl
    |some n=>exact absurd (AT.2 ⟨_,Tp hm,rfl⟩) (by rw[<-h];exact hn.1)
   rw[this];simp
  ·rw[if_neg h,if_neg h];simp
theorem Gt.look {M:Nat->Bool}{X:Nat->Aa}{t:List (Aa×Nat)}(h:Gt T M X t)(v:Aa):(VF v t).getD 0=wm T M X v:=by
 rw[<-m0m h.nd,h.sum];unfold wm;refine u4 fun q _=> ?_;by_cases h1:M q=AP
 ·by_cases h2:X q=v
  ·simp[h1,h2]
  ·simp[h1,h2]
 ·simp[h1]
theorem Gt.mem {M:Nat->Bool}{X:Nat->Aa}{t:List (Aa×Nat)}(h:Gt T M X t){e:Aa×Nat}(he:e∈t):e.2=wm T M X e.1:=by rw[<-h.look,l9i h.nd he];rfl
theorem Gt.has {M:Nat->Bool}{X:Nat->Aa}{t:List (Aa×Nat)}(h:Gt T M X t){v:Aa}(hv:0<wm T M X v):(v,wm T M X v)∈t:=by
 have:=h.look v;cases hm:VF v t with
 |none=>rw[hm] at this;simp at this;omega
 |some n=>rw[hm] at this;simp at this;rw[<-this];exact Tp hm
end
end Go.Proofs.Tryz.Run
