/- The program's list of a diagram. Conditions: none. -/
import Derived.Test.YtbglklaocjifhaaGreatGSj
open Go.Vf.ab renaming refl->AA
open Int renaming toNat_natCast->AB,ofNat_eq_natCast->AF,ofNat_lt->AI,lt_or_le->AJ,ofNat->AO,natCast_nonneg->AS,ofNat_le->At,add_mul->Ax
open Go.Proofs.YtbglklaocjifhaaGreat.Tryz renaming mixed->AC
open Go.Proofs.Tryz.Run.Law renaming mkNode->AD,ol->AL,Xe->AR,Mk->AT,i9->AX,Vt->AY,Vr->Aj,WN->Ap,Xz->Aq,VT->Aw,Vq->A2
open Go.Vf.bx renaming refl->AE,Xd->Av,map->Az,loop->A4
open List renaming getElem?_eq_getElem->AG,length_nil->AQ,length_cons->AZ,range->Aa,getElem?_append_right->Af,getElem?_eq_some_iff->Ag,getElem?_append_left->Ah,getD->Ai,mem_of_getElem?->Ak,length_append->Am,filter_append->An,cons_append->Ao,length->As
open Go.Proofs.Tryz renaming prog->AH
open Go.Vf renaming ms->AK,nat->A3
open Option renaming none->AM,some->AU
open Bool renaming false->AN,true->AP,noConfusion->AW
open Go.Vf.ay renaming frame->Ab,VK->Ay
open Go.Proofs.Tryz.Run renaming g7->Ac,Xs->Al,WD->Au
open Go.Vf.fl renaming tuple->Ad
open Nat renaming le_refl->Ae,le_trans->Ar
set_option linter.unusedSimpArgs false
set_option linter.unusedVariables false
set_option maxHeartbeats 0
namespace Go.Proofs.Tryz.Run
open Go Go.Vf Go.Proofs
open Go.Proofs.YtbglklaocjifhaaGreat
namespace Law
theorem h7e {α:Type}[DecidableEq α]: ∀{l m:List α},l.Nodup->(∀x,x∈l->x∈m)->l.length<=m.length
 |[],m,_,_=>by simp
 |x::l,m,hn,h=>by
  obtain⟨h1,h2⟩:=List.nodup_cons.1 hn;have hx:=h x (by simp);have:=h7e (m:=m.erase x) h2 fun y hy=>by have ck:y≠x:=fun e=>h1 (e▸hy);exact (List.mem_erase_of_ne ck).2 (h y (by simp[hy]))
  rw[List.length_erase_of_mem hx] at this;have:0<m.length:=List.length_pos_of_mem hx;simp;omega
section
variable (E:List g8) (N:List Al)
def XR (ne nn:Nat)(t:Int):Prop:= -1-(ne:Int)<=t/\t<=nn
structure wi (nn:Nat)(shp:Al->Prop)(s:Mk):Prop where
 oe:s.oe.Nodup
 sub: ∀v,v∈s.oe->v∈E
 on:s.on.length<=((Aa nn).filter fun i=>(s.kn i).isSome).length
 sh: ∀b,b∈s.on->shp b
 kn: ∀i t,s.kn i=AU t->XR E.length nn t
variable {E N}
theorem wi.XP {nn:Nat}{shp:Al->Prop}{s:Mk}(h:wi E nn shp s):s.oe.length<=E.length:=h7e h.oe h.sub
theorem wi.XU {nn:Nat}{shp:Al->Prop}{s:Mk}(h:wi E nn shp s):s.on.length<=nn:=by have h1:=h.on;have h2:=List.length_filter_le (fun i=>(s.kn i).isSome) (Aa nn);simp at h2;omega
theorem wi.ol {nn:Nat}{shp:Al->Prop}{s:Mk}(h:wi E nn shp s){v:g8}(hv:v∈E):wi E nn shp (ol s v).1/\XR E.length nn (ol s v).2:=by
 refine⟨⟨h5i h.oe v,fun w hw=> ?_,h.on,h.sh,h.kn⟩,?_⟩
 ·simp only[AL,v5] at hw;split at hw
  ·exact h.sub w hw
  ·simp at hw;rcases hw with hw|rfl
   ·exact h.sub w hw
   ·exact hv
 ·have h1:=Wo s.oe v;have h2:=h.XP;simp only[XR,AL];omega
theorem h8w (u:Nat->Bool)(x:Nat)(hx:u x=AN): ∀nc,((Aa nc).filter fun k=>if k=x then AP else u k).length=((Aa nc).filter u).length+(if x<nc then 1 else 0):=by
 intro nc
 induction nc with
 |zero=>simp
 |succ n ih=>
  rw[List.range_succ,An,An,Am,Am,ih];by_cases e:n=x
  ·subst e;simp[hx]
  ·have:(x<n+1)=(x<n):=by simp;omega
   simp only[this];cases hu:u n<;>simp[e,hu]<;>omega
theorem h7f (kn:Nat->Option Int)(x:Nat)(z:Int)(hx:kn x=AM): ∀nn,((Aa nn).filter fun i=>(if i=x then AU z else kn i).isSome).length=((Aa nn).filter fun i=>(kn i).isSome).length+(if x<nn then 1 else 0):=by
 intro nn;have:=h8w (fun i=>(kn i).isSome) x (by simp[hx]) nn;rw[<-this];congr 1;apply List.filter_congr;intro i _;by_cases e:i=x
 ·simp[e]
 ·simp[e]
theorem Wv {nn:Nat}(hN:N.length=nn){shp:Al->Prop}(j4: ∀(i:Nat) (b:Al),N[i]? =AU b-> ∀k,k∈b.kids->t9 E k i)(Qk: ∀(i:Nat) (b:Al),N[i]? =AU b->1<=b.kids.length/\ ∀l:List Int,l.length=b.kids.length->shp ⟨b.var,l⟩):
 ∀(f:Nat) (ref:Int) (s:Mk),ref<f->t9 E ref nn->wi E nn shp s->wi E nn shp (Vt E N f ref s).1/\XR E.length nn (Vt E N f ref s).2/\ ∀j:Nat,ref<j->(Vt E N f ref s).1.kn j=s.kn j
 |0,ref,s,hf,hr,hs=>by
  have h0:ref<0:=by omega
  obtain⟨v,hv⟩: ∃v,E[(-1-ref).toNat]? =AU v:=⟨_,AG (hr.2 h0)⟩;rw[Vt,if_pos h0,hv];have h1:=hs.ol (Ak hv);exact⟨h1.1,h1.2,fun j _=>rfl⟩
 |f+1,ref,s,hf,hr,hs=>by
  by_cases h0:ref<0
  ·obtain⟨v,hv⟩: ∃v,E[(-1-ref).toNat]? =AU v:=⟨_,AG (hr.2 h0)⟩;rw[Vt,if_pos h0,hv];have h1:=hs.ol (Ak hv);exact⟨h1.1,h1.2,fun j _=>rfl⟩
  obtain⟨i,rfl⟩: ∃i:Nat,ref=i:=⟨ref.toNat,by omega⟩;have hi:i<nn:=by have:=hr.1 (by omega);omega
  obtain⟨b,hb⟩: ∃b,N[i]? =AU b:=⟨_,AG (by omega)⟩;rw[Vt,if_neg h0];simp only[AB,hb];cases hk:s.kn i with
  |some t=>exact⟨hs,hs.kn i t hk,fun j _=>rfl⟩
  |none=>
   simp only;have key: ∀(l:List Int),(∀k,k∈l->t9 E k i)-> ∀p:Mk×List Int,wi E nn shp p.1->(∀t,t∈p.2->XR E.length nn t)->
    wi E nn shp (i9 E N f l p).1/\(∀t,t∈(i9 E N f l p).2->XR E.length nn t)/\(i9 E N f l p).2.length=p.2.length+l.length/\ ∀j:Nat,i<=j->(i9 E N f l p).1.kn j=p.1.kn j:=by
    intro l
    induction l with
    |nil=>intro _ p h1 h2;exact⟨h1,h2,by simp[i9],fun j _=>rfl⟩
    |cons k l ih=>
     intro hl p h1 h2;have rp:=hl k (by simp);have hkf:k<f:=by
      rcases AJ k 0 with h|h
      ·omega
      ·have:=rp.1 h;omega
     have h3:=Wv hN j4 Qk f k p.1 hkf ⟨fun h=>by have:=rp.1 h;omega,rp.2⟩ h1;have h4:=ih (fun k hk=>hl k (by simp[hk])) ((Vt E N f k p.1).1,p.2++[(Vt E N f k p.1).2]) h3.1 (fun t ht=>by
      simp at ht;rcases ht with ht|rfl
      ·exact h2 t ht
      ·exact h3.2.1)
     refine⟨h4.1,h4.2.1,?_,fun j hj=> ?_⟩
     ·have:=h4.2.2.1;simp at this;show (i9 E N f l ((Vt E N f k p.1).1,p.2++[(Vt E N f k p.1).2])).2.length=_;rw[this];simp;omega
     ·have h5:=h4.2.2.2 j hj;have h6:=h3.2.2 j (by
       rcases AJ k 0 with h|h
       ·omega
       ·have:=rp.1 h;omega)
      exact h5.trans h6
   obtain⟨h1,h2,h3,h4⟩:=key b.kids (j4 i b hb) (s,[]) hs (by simp);simp only[AQ,Nat.zero_add] at h3;obtain⟨Jc,Pt⟩:=Qk i b hb;change wi E nn shp (Vr (AD (i9 E N f b.kids (s,[])).1 ⟨b.var,(i9 E N f b.kids (s,[])).2⟩).1 i (AD (i9 E N f b.kids (s,[])).1 ⟨b.var,(i9 E N f b.kids (s,[])).2⟩).2)/\XR E.length nn (AD (i9 E N f b.kids (s,[])).1 ⟨b.var,(i9 E N f b.kids (s,[])).2⟩).2/\ ∀j:Nat,(i:Int)<j->(Vr (AD (i9 E N f b.kids (s,[])).1 ⟨b.var,(i9 E N f b.kids (s,[])).2⟩).1 i (AD (i9 E N f b.kids (s,[])).1 ⟨b.var,(i9 E N f b.kids (s,[])).2⟩).2).kn j=s.kn j;generalize i9 E N f b.kids (s,[])=r at h1 h2 h3 h4;have sj:r.1.kn i=AM:=(h4 i (Ae i)).trans hk;have hT:XR E.length nn (AD r.1 ⟨b.var,r.2⟩).2:=by
    unfold AD;split
    ·cases mb:r.2 with
     |nil=>rw[mb] at h3;simp at h3;omega
     |cons x l=>exact h2 x (by rw[mb];simp)
    ·have:=Wo r.1.on ⟨b.var,r.2⟩;have:=h1.XU;simp only[XR];omega
   have mo:(AD r.1 ⟨b.var,r.2⟩).1.kn=r.1.kn/\(AD r.1 ⟨b.var,r.2⟩).1.oe=r.1.oe:=by unfold AD;split<;>exact⟨rfl,rfl⟩
   have hlen:(AD r.1 ⟨b.var,r.2⟩).1.on.length<=r.1.on.length+1:=by
    unfold AD v5;split
    ·simp
    ·simp only;split<;>simp
   have l5: ∀c,c∈(AD r.1 ⟨b.var,r.2⟩).1.on->shp c:=by
    intro c hc;unfold AD v5 at hc;split at hc
    ·exact h1.sh c hc
    ·simp only at hc;split at hc
     ·exact h1.sh c hc
     ·simp at hc;rcases hc with hc|rfl
      ·exact h1.sh c hc
      ·exact Pt r.2 h3
   generalize AD r.1 ⟨b.var,r.2⟩=m at hT mo hlen l5;refine⟨⟨by simp only[Vr];rw[mo.2];exact h1.oe,fun v hv=>h1.sub v (by simpa only[Vr,mo.2] using hv),?_,l5,fun j t hj=> ?_⟩,hT,fun j hj=> ?_⟩
   ·simp only[Vr];rw[mo.1,h7f r.1.kn i m.2 sj nn,if_pos hi];have:=h1.on;omega
   ·simp only[Vr] at hj;split at hj
    ·cases hj;exact hT
    ·rw[mo.1] at hj;exact h1.kn j t hj
   ·simp only[Vr];rw[if_neg (by omega),mo.1];exact h4 j (by omega)
end
end Law
structure WP (shp:Al->Prop)(s:AT)(q1 q2:Nat)(f1 f2:List KC->Option Int)(e1 e2:Nat->List DV)(fk:List KC->Option Int):Prop where
 q1:q1=s.oe.length
 q2:q2=s.on.length
 f1: ∀v:g8,f1 [.i v.fault,.i v.n]=if v∈s.oe then AU (AR s.oe v:Int) else AM
 f2: ∀(ch:Int) (n:Nat) (u:Nat->Int),shp ⟨ch,L n u⟩->f2 (xd ch n u)=if (⟨ch,L n u⟩:Al)∈s.on then AU (AR s.on ⟨ch,L n u⟩:Int) else AM
 e1: ∀i v,s.oe[i]? =AU v->e1 i=v.row
 e2: ∀i b,s.on[i]? =AU b-> ∃n u,b.kids=L n u/\e2 i=[.int .i64 (.v b.var),.sl 1 n fun j=>[.int .i64 (.v (u j))]]
 fk: ∀i:Nat,fk [.i (i:Int)]=s.kn i
theorem UN {α:Type}[DecidableEq α]: ∀{l:List α} {x y:α},y∈l->AR (l++[x]) y=AR l y
 |[],_,_,h=>by simp at h
 |z::l,x,y,h=>by
  simp only[Ao,AR];split
  ·rfl
  ·rename_i hz;simp at h;rcases h with h|h
   ·exact absurd h.symm hz
   ·rw[UN h]
theorem UP {α:Type}[DecidableEq α]: ∀{l:List α} {x:α},x∉l->AR (l++[x]) x=l.length
 |[],x,_=>by simp[AR]
 |z::l,x,h=>by simp at h;simp only[Ao,AR];rw[if_neg (fun e=>h.1 e.symm),UP h.2];rfl
theorem g8.key_inj {v w:g8}(h:[KC.i v.fault,KC.i v.n]=[KC.i w.fault,KC.i w.n]):v=w:=by obtain⟨a,b⟩:=v;obtain⟨c,d⟩:=w;simp at h;rw[h.1,h.2]
theorem WP.ol {shp:Al->Prop}{s:AT}{q1 q2:Nat}{f1 f2:List KC->Option Int}{e1 e2:Nat->List DV}{fk:List KC->Option Int}(h:WP shp s q1 q2 f1 f2 e1 e2 fk)(c:g8):
 (∀z,f1 [.i c.fault,.i c.n]=AU z->z=AR s.oe c/\WP shp (AL s c).1 q1 q2 f1 f2 e1 e2 fk)/\
 (f1 [.i c.fault,.i c.n]=AM->AR s.oe c=q1/\WP shp (AL s c).1 (q1+1) q2 (fun k=>if k=[.i c.fault,.i c.n] then AU (q1:Int) else f1 k) f2 (fun i=>if i<q1 then e1 i else c.row) e2 fk):=by
 have hf:=h.f1 c;constructor
 ·intro z hz;rw[hz] at hf;split at hf
  ·rename_i hm;cases hf;refine⟨rfl,?_⟩;have:(AL s c).1=s:=by simp only[AL,Aq hm]
   rw[this];exact h
  ·cases hf
 ·intro hz;rw[hz] at hf;split at hf
  ·cases hf
  ·rename_i hm;have hq:=h.q1;have e0:(AL s c).1={s with oe:=s.oe++[c]}:=by simp only[AL,Ap hm]
   rw[e0];refine⟨by rw[hq];exact Aw hm,⟨by simp[hq],h.q2,fun v=> ?_,h.f2,fun i v hi=> ?_,h.e2,h.fk⟩⟩
   ·simp only;by_cases e:v=c
    ·subst e;rw[if_pos rfl,if_pos (by simp),UP hm,hq]
    ·rw[if_neg (fun k=>e (g8.key_inj k)),h.f1 v];by_cases hv:v∈s.oe
     ·rw[if_pos hv,if_pos (by simp[hv]),UN hv]
     ·rw[if_neg hv,if_neg (by simp[hv,e])]
   ·simp only at hi⊢;by_cases hlt:i<q1
    ·rw[if_pos hlt];rw[Ah (by omega)] at hi;exact h.e1 i v hi
    ·rw[if_neg hlt];rw[Af (by omega)] at hi;have:i-s.oe.length=0:=by have:=(Ag.1 hi).1;simp at this;omega
     rw[this] at hi;simp at hi;rw[hi]
theorem i2m {ch U0:Int}{n m:Nat}{u w:Nat->Int}(hn:n<=12)(kp:ch=U0->n=m)(h:xd ch n u=xd U0 m w):ch=U0/\L n u=L m w:=by
 simp only[xd,List.cons.injEq,KC.i.injEq,and_true] at h;obtain⟨h0,a0,a1,a2,a3,a4,a5,a6,a7,a8,a9,k_,l_⟩:=h;have:=kp h0;subst this;refine⟨h0,JH fun j hj=> ?_⟩;have key: ∀j,j<12->(if j<n then u j else 0)=(if j<n then w j else 0):=fun j hj=>by
  match j,hj with
  |0,_=>exact a0
  |1,_=>exact a1
  |2,_=>exact a2
  |3,_=>exact a3
  |4,_=>exact a4
  |5,_=>exact a5
  |6,_=>exact a6
  |7,_=>exact a7
  |8,_=>exact a8
  |9,_=>exact a9
  |10,_=>exact k_
  |11,_=>exact l_
 have:=key j (by omega);rw[if_pos hj,if_pos hj] at this;exact this
def UF (shp:Al->Prop):Prop:=(∀b,shp b->b.kids.length<=12)/\ ∀b c,shp b->shp c->b.var=c.var->b.kids.length=c.kids.length
theorem WP.mkNode {shp:Al->Prop}(Nk:UF shp){s:AT}{q1 q2:Nat}{f1 f2:List KC->Option Int}{e1 e2:Nat->List DV}{fk:List KC->Option Int}(h:WP shp s q1 q2 f1 f2 e1 e2 fk)(ch:Int)(n:Nat)(u:Nat->Int)(hs:shp ⟨ch,L n u⟩)
 (tc: ¬A2 (L n u)):
 (∀z,f2 (xd ch n u)=AU z->z=(AD s ⟨ch,L n u⟩).2/\WP shp (AD s ⟨ch,L n u⟩).1 q1 q2 f1 f2 e1 e2 fk)/\
 (f2 (xd ch n u)=AM->(q2:Int)=(AD s ⟨ch,L n u⟩).2/\WP shp (AD s ⟨ch,L n u⟩).1 q1 (q2+1) f1 (fun k=>if k=xd ch n u then AU (q2:Int) else f2 k) e1 (fun i=>if i<q2 then e2 i else [.int .i64 (.v ch),.sl 1 n fun j=>[.int .i64 (.v (u j))]]) fk):=by
 have hf:=h.f2 ch n u hs;have sk:AD s ⟨ch,L n u⟩=({s with on:=Law.v5 s.on ⟨ch,L n u⟩},(AR s.on ⟨ch,L n u⟩:Int)):=by rw[AD,if_neg tc]
 rw[sk];constructor
 ·intro z hz;rw[hz] at hf;split at hf
  ·rename_i hm;cases hf;refine⟨rfl,?_⟩;simp only[Aq hm];exact h
  ·cases hf
 ·intro hz;rw[hz] at hf;split at hf
  ·cases hf
  ·rename_i hm;have hq:=h.q2;simp only[Ap hm];refine⟨by rw[hq,Aw hm],⟨h.q1,by simp[hq],h.f1,fun c m w hw=> ?_,h.e1,fun i b hi=> ?_,h.fk⟩⟩
   ·simp only;by_cases e:xd c m w=xd ch n u
    ·have hl:=Nk.2 ⟨c,L m w⟩ ⟨ch,L n u⟩ hw hs;simp only[jt] at hl;have PZ:=Nk.1 ⟨c,L m w⟩ hw;simp only[jt] at PZ;obtain⟨e1,e2⟩:=i2m PZ hl e;rw[if_pos e,e1,e2,if_pos (by simp),UP hm,hq]
    ·have ck:(⟨c,L m w⟩:Al)≠⟨ch,L n u⟩:=fun k=>by
      injection k with k1 k2
      apply e;have hl:m=n:=by simpa [jt] using congrArg As k2
      subst hl;subst k1;unfold xd;have: ∀j,(if j<m then w j else 0)=(if j<m then u j else 0):=fun j=>by
       by_cases hj:j<m
       ·have:=congrArg (fun l=>l[j]?) k2;rw[if_pos hj,if_pos hj];simpa [L,hj] using this
       ·rw[if_neg hj,if_neg hj]
      simp only[this]
     rw[if_neg e,h.f2 c m w hw];by_cases hv:(⟨c,L m w⟩:Al)∈s.on
     ·rw[if_pos hv,if_pos (by simp[hv]),UN hv]
     ·rw[if_neg hv,if_neg (by simp only[List.mem_append,hv,List.mem_singleton,ck,or_self,not_false_eq_true])]
   ·simp only at hi⊢;by_cases hlt:i<q2
    ·rw[if_pos hlt];rw[Ah (by omega)] at hi;exact h.e2 i b hi
    ·rw[if_neg hlt];rw[Af (by omega)] at hi;have:i-s.on.length=0:=by have:=(Ag.1 hi).1;simp at this;omega
     rw[this] at hi;simp at hi;rw[<-hi];exact⟨n,u,rfl,rfl⟩
def WE (d:Ac)(q1 q2:Nat)(f1 f2:List KC->Option Int)(e1 e2:Nat->List DV)(c:Nat)(fk:List KC->Option Int):List ae:=
 [.var [ac d.ns d.sz,ac d.no d.od,ac d.ns d.sz,ac d.no d.od,.bi 3 2 AM q1 AN,.bi 4 2 AM q2 AN,int 0,.map 1,.map 2],.map AP [.u8,.i64] q1 f1,.map AP LZ q2 f2,.arr 2 q1 e1,.arr 2 q2 e2,
   .var [.ptr 0 0],.var [ac d.ns d.sz,ac d.no d.od,ac d.ns d.sz,ac d.no d.od,d7 d.ne d.en,Au d.nn d.var d.nk d.dq,int d.root],.map AN [.i64] c fk,.var [.map 7],.var [.fn 237 [] [.ptr 5 0,.ptr 6 0,.ptr 8 0,.ptr 9 0]]]
def Zh (d:Ac)(shp:Al->Prop)(s:AT)(t:Int)(pg:List Nat)(v:AV)(h':List ae):Prop:=
 pg=[3,4]/\ ∃q1 q2 f1 f2 e1 e2 c fk,WP shp s q1 q2 f1 f2 e1 e2 fk/\v=int t/\h'=WE d q1 q2 f1 f2 e1 e2 c fk
structure g7.Xh (d:Ac)(shp:Al->Prop):Prop where
 fit:d.fit
 cell: ∀i,i<d.ne->(0<=(d.en i).fault/\(d.en i).fault<=4)/\ -9999<=(d.en i).n/\(d.en i).n<=9999
 kids:Nv d
 var: ∀i,i<d.nn->0<=d.var i/\d.var i<=1000000
 nk: ∀i,i<d.nn->1<=d.nk i/\d.nk i<=12
 shape: ∀i,i<d.nn-> ∀l:List Int,l.length=d.nk i->shp ⟨d.var i,l⟩
 ok:UF shp
theorem i5y: ∀l:Nat,l∈[3]->l∈[3,4]:=by simp
theorem h7s (d:Ac)(shp:Al->Prop)(hd:d.Xh shp)(dq:Int)(h0:dq<0)(hr: -1-dq<d.ne)(s:AT)(hg:Law.wi d.E d.nn shp s){q1 q2:Nat}{f1 f2:List KC->Option Int}{e1 e2:Nat->List DV}(c:Nat){fk:List KC->Option Int}(de:WP shp s q1 q2 f1 f2 e1 e2 fk):
 ay AH 237 [int dq,.ptr 5 0,.ptr 6 0,.ptr 8 0,.ptr 9 0] (WE d q1 q2 f1 f2 e1 e2 c fk) (Zh d shp (AL s (d.en (-1-dq).toNat)).1 (AL s (d.en (-1-dq).toNat)).2):=by
 obtain⟨j,hj⟩: ∃j:Nat,-1-dq=j:=⟨(-1-dq).toNat,by omega⟩;have xt:j<d.ne:=by omega
 have ck:=hd.fit.ne;have hqE:d.E.length=d.ne:=jt _ _;have hoe:=hg.XP;rw[hqE] at hoe;have he:=R8 dq (by omega) (by omega);rw[hj] at he⊢;simp only[AB];have Je:=hd.cell j xt;have Jn:=de.ol (d.en j);have hq1:=de.q1;have aq:=i6d (ns:=d.ns) (no:=d.no) d.sz d.od (q1:=q1) (q2:=q2) (by omega) f1 f2 e1 e2 (d.en j) (fun z hz=>by
  have h1:=(Jn.1 z hz).1;have h2:=Law.Wo s.oe (d.en j);omega) Je
 have Qq:(AL s (d.en j)).2= -1-(AR s.oe (d.en j):Int):=rfl;generalize hM:(AL s (d.en j)).1=M at Jn⊢;rw[Qq];clear Qq hM de hg Je hoe hqE;obtain⟨ns,sz,no,od,ne,en,nn,var,nk,kd,root⟩:=d;simp only at xt aq Jn;have GG:dq= -1-(j:Int):=by omega
 clear hr hd;refine mh AC ci TB rfl fun E Sg hb hS F hF=> ?_;simp only[WE,AZ,AQ] at hb;have e8: ∀z,Sg.toNat z=z.toNat:=by subst hS;exact fun _=>rfl
 cbv;split
 rotate_left
 ·rename_i h;exfalso;clear aq he Jn hF;subst hS;simp[AK] at h;omega
 cbv;refine bf hS (int (j:Int)) (by subst hS;exact he) ?_;cbv
 repeat' (with_reducible apply ad hS)
 all_goals try (clear aq he Jn hF;subst hS;first|(simp[AK];done)|exact⟨AS j,AI.2 xt⟩)
 simp only[A3,e8,AF,AB];refine lj hS (Ab aq [0,1,2,3,4] rfl rfl ⟨AE _,AE _,AE _,AE _,AE _,trivial⟩) ?_;rintro pg v H' ⟨pg0,v0,h0,⟨rfl,⟨z,k1,rfl,rfl⟩|⟨k1,rfl,rfl⟩⟩,rfl,rfl,rfl⟩
 ·obtain⟨w1,w2⟩:=Jn.1 z k1;cbv
  repeat' (with_reducible apply ad hS)
  all_goals try (clear aq he Jn hF;subst hS;simp[AK];done)
  refine⟨[3,4],fun l _ h=>i5y l h,hF (h1:=WE ⟨ns,sz,no,od,ne,en,nn,var,nk,kd,root⟩ q1 q2 f1 f2 e1 e2 c fk) (.same _) (v0:=int (-1-(AR s.oe (en j):Int))) (br (congrArg (fun y:Int=> -1-y) w1)) (by simp[WE]) (.inr rfl) ⟨rfl,_,_,_,_,_,_,_,_,w2,rfl,rfl⟩⟩
 ·obtain⟨w1,w2⟩:=Jn.2 k1;cbv
  repeat' (with_reducible apply ad hS)
  all_goals try (clear aq he Jn hF;subst hS;simp[AK];done)
  refine⟨[3,4],fun l _ h=>i5y l h,hF (h1:=WE ⟨ns,sz,no,od,ne,en,nn,var,nk,kd,root⟩ (q1+1) q2 (fun k=>if k=[.i (en j).fault,.i (en j).n] then AU (q1:Int) else f1 k) f2 (fun i=>if i<q1 then e1 i else (en j).row) e2 c fk) (.same _) (v0:=int (-1-(AR s.oe (en j):Int))) (br (congrArg (fun y:Nat=> -1-(y:Int)) w1.symm)) (by simp[WE]) (.inr rfl) ⟨rfl,_,_,_,_,_,_,_,_,w2,rfl,rfl⟩⟩
theorem WP.Vr {shp:Al->Prop}{s:AT}{q1 q2:Nat}{f1 f2:List KC->Option Int}{e1 e2:Nat->List DV}{fk:List KC->Option Int}(h:WP shp s q1 q2 f1 f2 e1 e2 fk)(i:Nat)(t:Int):
 WP shp (Aj s i t) q1 q2 f1 f2 e1 e2 (fun k=>if k=[.i (i:Int)] then AU t else fk k):=
 ⟨h.q1,h.q2,h.f1,h.f2,h.e1,h.e2,fun j=>by
   simp only[Aj];by_cases e:j=i
   ·subst e;simp
   ·have ck:(j:Int)≠(i:Int):=by omega
    have: ¬([KC.i (j:Int)]=[KC.i (i:Int)]):=fun k=>ck (by simpa using k);rw[if_neg this,if_neg e];exact h.fk j⟩
theorem i1t (d:Ac){f:Nat}{dq:Int}(h:dq<0)(hr: -1-dq<d.ne)(s:AT):AY d.E d.N f dq s=AL s (d.en (-1-dq).toNat):=by
 have he:d.E[(-1-dq).toNat]? =AU (d.en (-1-dq).toNat):=by rw[g7.E,Mv,if_pos (by omega)]
 cases f<;>rw[AY,if_pos h,he]
structure h_ where
 k:Nat
 u:Nat->Int
 s:AT
 q1:Nat
 q2:Nat
 f1:List KC->Option Int
 f2:List KC->Option Int
 e1:Nat->List DV
 e2:Nat->List DV
 c:Nat
 fk:List KC->Option Int
theorem i2v (d:Ac)(shp:Al->Prop)(hd:d.Xh shp): ∀(f:Nat) (dq:Int) (s:AT) (q1 q2:Nat) (f1 f2:List KC->Option Int) (e1 e2:Nat->List DV) (c:Nat) (fk:List KC->Option Int),dq<f->sv d.ne dq d.nn->
 Law.wi d.E d.nn shp s->WP shp s q1 q2 f1 f2 e1 e2 fk->
 ay AH 237 [int dq,.ptr 5 0,.ptr 6 0,.ptr 8 0,.ptr 9 0] (WE d q1 q2 f1 f2 e1 e2 c fk) (Zh d shp (AY d.E d.N f dq s).1 (AY d.E d.N f dq s).2):=by
 intro f
 induction f with
 |zero=>
  intro dq s q1 q2 f1 f2 e1 e2 c fk hf hr hg de;have h0:dq<0:=by omega
  rw[i1t d h0 (hr.2 h0)];exact h7s d shp hd dq h0 (hr.2 h0) s hg c de
 |succ f ih=>
  intro dq s q1 q2 f1 f2 e1 e2 c fk hf hr hg de;by_cases h0:dq<0
  ·rw[i1t d h0 (hr.2 h0)];exact h7s d shp hd dq h0 (hr.2 h0) s hg c de
  obtain⟨i,rfl⟩: ∃i:Nat,dq=i:=⟨dq.toNat,by omega⟩;have hi:i<d.nn:=by have:=hr.1 (by omega);omega
  have wz:=hd.fit.nn;have Ly:=de.fk i;have PJ:AY d.E d.N (f+1) i s=match s.kn i with
   |some t=>(s,t)
   |none=>(Aj (AD (AX d.E d.N f (L (d.nk i) (d.dq i)) (s,[])).1 ⟨d.var i,(AX d.E d.N f (L (d.nk i) (d.dq i)) (s,[])).2⟩).1 i (AD (AX d.E d.N f (L (d.nk i) (d.dq i)) (s,[])).1 ⟨d.var i,(AX d.E d.N f (L (d.nk i) (d.dq i)) (s,[])).2⟩).2,
     (AD (AX d.E d.N f (L (d.nk i) (d.dq i)) (s,[])).1 ⟨d.var i,(AX d.E d.N f (L (d.nk i) (d.dq i)) (s,[])).2⟩).2):=by
   have hb:d.N[(i:Int).toNat]? =AU (d.nd i):=by rw[AB,g7.N,Mv,if_pos hi]
   rw[AY,if_neg h0,hb];simp only[AB];rfl
  rw[PJ];clear PJ;cases hk:s.kn i with
  |some t=>
   simp only;rw[hk] at Ly;obtain⟨ns,sz,no,od,ne,en,nn,var,nk,kd,root⟩:=d;simp only at hi wz;clear ih hd hg;refine mh AC ci TB rfl fun E Sg hb hS F hF=> ?_;simp only[WE,AZ,AQ] at hb;have hh:Sg.WG fk [.i (AO i)]=AP:=by subst hS;show (fk [.i (i:Int)]).isSome=AP;rw[Ly];rfl
   have hgt:Sg.W6 fk [.i (AO i)]=t:=by subst hS;show (fk [.i (i:Int)]).getD 0=t;rw[Ly];rfl
   cbv;split
   ·rename_i h;exfalso;clear hF de;subst hS;simp[AK] at h<;>omega
   cbv;simp only[hh,hgt];cbv;refine ad hS (by clear hF de;subst hS;exact e7 (by simp<;>omega) (by simp<;>omega)) ?_;refine⟨[3,4],by simp,hF (h1:=WE ⟨ns,sz,no,od,ne,en,nn,var,nk,kd,root⟩ q1 q2 f1 f2 e1 e2 c fk) (.same _) (v0:=int t) (AA _) (by simp[WE]) (.inr rfl) ⟨rfl,_,_,_,_,_,_,_,_,de,rfl,rfl⟩⟩
  |none=>
   simp only;rw[hk] at Ly;have si:=Law.Wv (E:=d.E) (N:=d.N) (nn:=d.nn) (jt _ _) (shp:=shp) hd.kids.loose (fun j b hb=>by
    rw[g7.N,Mv] at hb;split at hb
    ·rename_i hj;cases hb;refine⟨by simp only[g7.nd,jt];exact (hd.nk j hj).1,fun l hl=>hd.shape j hj l (by simpa only[g7.nd,jt] using hl)⟩
    ·cases hb)
   have Lm:d.E.length=d.ne:=jt _ _;have ck:=hd.fit.ne;have rp:=hd.kids i hi;have p0:=hd.nk i hi;have No:=hd.var i hi;have Qj:=hd.shape i hi;have hsok:=hd.ok;have Kc: ∀j,j<d.nk i->d.dq i j<f/\sv d.ne (d.dq i j) d.nn:=fun j hj=>by
    have h1:=rp j hj;refine⟨?_,fun h2=> ?_,h1.2⟩
    ·rcases AJ (d.dq i j) 0 with h2|h2
     ·omega
     ·have:=h1.1 h2;omega
    ·have:=h1.1 h2;omega
   have dp: ∀j,j<d.nk i->Law.t9 d.E (d.dq i j) d.nn:=fun j hj=>(Kc j hj).2.ok;have bz:=fun j hj s' ug=>si f (d.dq i j) s' (Kc j hj).1 (dp j hj) ug;have cu:=fun q1 q2 (hq:q2<=1000000) f1 f2 e1 e2 u hu=>i4p (ns:=d.ns) (no:=d.no) d.sz d.od (q1:=q1) (q2:=q2) hq f1 f2 e1 e2 (d.var i) No p0 u hu;rw[Lm] at bz;obtain⟨EE,Su⟩: ∃EE,EE=d.E:=⟨_,rfl⟩;obtain⟨NN,ta⟩: ∃NN,NN=d.N:=⟨_,rfl⟩;rw[<-Su,<-ta] at bz ih;rw[<-Su] at hg;rw[<-Su,<-ta];clear si dp rp Lm Su ta hd;obtain⟨ns,sz,no,od,ne,en,nn,var,nk,kd,root⟩:=d;simp only at hi wz Kc bz ih p0 No Qj cu hg ck;refine mh AC ci TB rfl fun E Sg hb hS F hF=> ?_;simp only[WE,AZ,AQ] at hb;have e8: ∀z,Sg.toNat z=z.toNat:=by subst hS;exact fun _=>rfl
   have hh:Sg.WG fk [.i (AO i)]=AN:=by subst hS;show (fk [.i (i:Int)]).isSome=AN;rw[Ly];rfl
   cbv;split
   ·rename_i h;exfalso;clear hF de cu ih bz;subst hS;simp[AK] at h<;>omega
   cbv;simp only[hh];cbv;refine ad hS (by clear hF de cu ih bz;subst hS;exact e7 (by simp<;>omega) (by simp<;>omega)) ?_;refine ad hS (by clear hF de cu ih bz;subst hS;exact⟨AS i,AI.2 hi⟩) ?_;simp only[A3,e8,AF,AB];refine ad hS (by clear hF de cu ih bz;subst hS;simp[AK]) ?_;refine ad hS (by clear hF de cu ih bz;subst hS;simp[AK,VU];omega) ?_;refine gg AC ci hS (σ:=h_) (fun st=>st.k<=nk i/\AX EE NN f (L st.k (kd i)) (s,[])=(st.s,L st.k st.u)/\Law.wi EE nn shp st.s/\WP shp st.s st.q1 st.q2 st.f1 st.f2 st.e1 st.e2 st.fk/\(∀j,j<st.k->Law.XR ne nn (st.u j))) (fun st=>nk i-st.k)
    (fun st=>⟨dn [(0,int i),(1,.ptr 5 0),(2,.ptr 6 0),(3,.ptr 8 0),(4,.ptr 9 0),(9,.ptr 10 0),(10,.bi 11 1 AM (nk i) AN),(43,ac (nk i) (kd i)),(44,int (nk i)),(45,int st.k)] 67,
      WE ⟨ns,sz,no,od,ne,en,nn,var,nk,kd,root⟩ st.q1 st.q2 st.f1 st.f2 st.e1 st.e2 st.c st.fk++[.var [int (var i),ac (nk i) (kd i)],g9 (nk i) st.u],[3,4]⟩) ⟨0,fun _=>0,s,q1,q2,f1,f2,e1,e2,c,fk⟩ ⟨by simp,rfl,hg,de,fun j hj=>by simp at hj⟩ ?_ ?_
   ·refine bq rfl ⟨AA _,AA _,AA _,AA _,AA _,AA _,(by clear hF de cu ih bz;subst hS;exact AA _),AA _,br (by clear hF de cu ih bz;subst hS;rfl),bg rfl,trivial⟩ (.cons (.refl _) (.cons (.refl _) (.cons (.refl _) (.cons (.refl _) (.cons (.refl _) (.cons (.refl _) (.cons (.refl _) (.cons (.refl _) (.cons (.refl _) (.cons (.refl _) (.cons (.refl _) (.cons (Av ?_ ?_) (.nil _))))))))))))) (by simp[WE];omega) (.inr rfl) rfl
    ·clear hF de cu ih bz;subst hS;rfl
    ·intro j hj;clear hF de cu ih bz;subst hS;simp only[AK] at hj⊢;rw[if_pos hj];exact .one (.int rfl)
   ·rintro⟨k,u,s',p1,p2,g1,g2,d1,d2,c',gk⟩ ⟨ij,cp,GG,nj,hk5⟩ M hM;simp only at ij cp GG nj hk5 hM;cbv;split
    ·have hlt:k<nk i:=by clear hF de cu ih bz hM nj;subst hS;simp[AK] at*;omega
     have ke:=Kc k hlt;have SJ:=bz k hlt s' GG;have HA:AX EE NN f (L (k+1) (kd i)) (s,[])=((AY EE NN f (kd i k) s').1,L k u++[(AY EE NN f (kd i k) s').2]):=by unfold AX at cp⊢;rw[Mw,List.foldl_append,cp];rfl
     have fq:=ih (kd i k) s' p1 p2 g1 g2 d1 d2 c' gk ke.1 ke.2 GG nj;generalize AY EE NN f (kd i k) s'=fr at SJ HA fq;obtain⟨s2,t2⟩:=fr;simp only at SJ HA fq;cbv;refine ad hS (by clear hF de cu ih bz hM nj fq;subst hS;simp[AK];omega) ?_;simp only[A3,e8,AF,AB];refine lj hS (Ab fq [0,1,2,3,4,5,6,7,8,9] rfl rfl ⟨AE _,AE _,AE _,AE _,AE _,AE _,AE _,AE _,AE _,AE _,trivial⟩) ?_;rintro pg v H' ⟨pg0,v0,h0,⟨rfl,Q2,Q3,OK,OL,OG,OH,c2,fk2,w1,rfl,rfl⟩,rfl,rfl,rfl⟩;cbv;refine ad hS (by clear hF de cu ih bz hM nj fq w1;subst hS;simp[AK];omega) ?_;simp only[A3,e8,AF,AB];refine ad hS (by clear hF de cu ih bz hM nj fq w1;subst hS;simp[AK];omega) ?_;refine ad hS (by clear hF de cu ih bz hM nj fq w1;subst hS;exact e7 (by simp[AK];omega) (by simp[AK];omega)) ?_;have hLu:L (k+1) (fun j=>if j=k then t2 else u j)=L k u++[t2]:=by
      rw[Mw];congr 1
      ·exact JH fun j hj=>if_neg (by omega)
      ·simp
     refine hM ⟨k+1,fun j=>if j=k then t2 else u j,s2,Q2,Q3,OK,OL,OG,OH,c2,fk2⟩ _ ⟨by simp;omega,by rw[hLu];exact HA,SJ.1,w1,fun j hj=> ?_⟩ (by simp;omega)
      (bq rfl ⟨AA _,AA _,AA _,AA _,AA _,AA _,AA _,AA _,AA _,br (by clear hF de cu ih bz hM nj fq w1;subst hS;simp[AK]),trivial⟩ (.cons (.refl _) (.cons (.refl _) (.cons (.refl _) (.cons (.refl _) (.cons (.refl _) (.cons (.refl _) (.cons (.refl _) (.cons (.refl _) (.cons (.refl _) (.cons (.refl _) (.cons (.refl _) (.cons (bx.g9 rfl fun j hj=> ?_) (.nil _))))))))))))) (by simp[WE];omega) (.inr rfl) rfl)
     ·simp only at hj⊢;by_cases e:j=k
      ·rw[if_pos e];exact SJ.2.1
      ·rw[if_neg e];exact hk5 j (by omega)
     ·clear hF de cu ih bz hM nj fq w1;subst hS;simp only[AK];split<;>rfl
    ·have sj:k=nk i:=by clear hF de cu ih bz hM nj;subst hS;simp[AK] at*;omega
     subst sj;have qt:=GG.XU;have LK:=nj.q2;have ig:=cu p1 p2 (by omega) g1 g2 d1 d2 u (fun j hj=>by have:=hk5 j hj;simp only[Law.XR] at this;omega);rw[cp] at hF;have l5:=Qj (L (nk i) u) (jt _ _);have sk:=nj.mkNode hsok (var i) (nk i) u l5;have mm:A2 (L (nk i) u)↔ ∀j,j<nk i->u j=u 0:=Vi p0.1;have LC:(∀j,j<nk i->u j=u 0)->AD s' ⟨var i,L (nk i) u⟩=(s',u 0):=fun h=>by rw[AD,if_pos (mm.2 h)];obtain⟨m,hm⟩: ∃m,nk i=m+1:=⟨nk i-1,by omega⟩;rw[hm];simp[L,List.range_succ_eq_map]
     rw[<-mm] at LC;simp only at hF;generalize AD s' ⟨var i,L (nk i) u⟩=MN at sk LC hF;cbv;refine lj hS (Ab ig [0,1,2,3,4,11] rfl rfl ⟨AE _,AE _,AE _,AE _,AE _,AE _,trivial⟩) ?_;have fin: ∀(Q2 Q3:Nat) (OK OL:List KC->Option Int) (OG OH:Nat->List DV) (t:Int),t=MN.2->WP shp MN.1 Q2 Q3 OK OL OG OH gk->WP shp (Aj MN.1 i MN.2) Q2 Q3 OK OL OG OH (fun k=>if k=[.i (i:Int)] then AU t else gk k):=fun Q2 Q3 OK OL OG OH t ht k9=>by rw[ht];exact k9.Vr i MN.2
     rintro pg v H' ⟨pg0,v0,h0,⟨rfl,o,⟨y1,rfl,rfl⟩|⟨y1,⟨z,y2,rfl,rfl⟩|⟨y2,rfl,rfl⟩⟩⟩,rfl,rfl,rfl⟩
     ·have l8:=LC (mm.2 y1);cbv;refine ad hS (by clear hF de cu ih bz hM nj ig sk;subst hS;simp[AK]) ?_;refine ad hS (by clear hF de cu ih bz hM nj ig sk;subst hS;exact e7 (by simp<;>omega) (by simp<;>omega)) ?_;refine ad hS (by clear hF de cu ih bz hM nj ig sk;subst hS;exact e7 (by simp<;>omega) (by simp<;>omega)) ?_;refine⟨[3,4],(by intro l hl h;simp at h⊢;omega),hF (h1:=WE ⟨ns,sz,no,od,ne,en,nn,var,nk,kd,root⟩ p1 p2 g1 g2 d1 d2 (Sg.WF gk [.i (AO i)] c') (fun k=>if k=[.i (i:Int)] then AU (u 0) else gk k))
       (.cons (.refl _) (.cons (.refl _) (.cons (.refl _) (.cons (.refl _) (.cons (.refl _) (.cons (.refl _) (.cons (.refl _) (.cons (Az rfl fun k=> ?_) (.cons (.refl _) (.cons (.refl _) (.nil _))))))))))) (v0:=int (u 0)) (br ?_) (by simp[WE]) (.inl ⟨rfl,rfl⟩) ⟨rfl,_,_,_,_,_,_,_,_,fin _ _ _ _ _ _ (u 0) (by rw[l8]) (by rw[l8];exact nj),(by rw[l8]),rfl⟩⟩
      ·clear hF de cu ih bz hM nj ig sk;subst hS;rfl
      ·clear hF de cu ih bz hM nj ig sk;subst hS;simp[AK]
     ·obtain⟨w1,w2⟩:=(sk (fun h=>y1 (mm.1 h))).1 z y2;cbv;refine ad hS (by clear hF de cu ih bz hM nj ig sk;subst hS;simp[AK]) ?_;refine ad hS (by clear hF de cu ih bz hM nj ig sk;subst hS;exact e7 (by simp<;>omega) (by simp<;>omega)) ?_;refine ad hS (by clear hF de cu ih bz hM nj ig sk;subst hS;exact e7 (by simp<;>omega) (by simp<;>omega)) ?_;refine⟨[3,4],(by intro l hl h;simp at h⊢;omega),hF (h1:=WE ⟨ns,sz,no,od,ne,en,nn,var,nk,kd,root⟩ p1 p2 g1 g2 d1 d2 (Sg.WF gk [.i (AO i)] c') (fun k=>if k=[.i (i:Int)] then AU z else gk k))
       (.cons (.refl _) (.cons (.refl _) (.cons (.refl _) (.cons (.refl _) (.cons (.refl _) (.cons (.refl _) (.cons (.refl _) (.cons (Az rfl fun k=> ?_) (.cons (.refl _) (.cons (.refl _) (.nil _))))))))))) (v0:=int z) (br ?_) (by simp[WE]) (.inl ⟨rfl,rfl⟩) ⟨rfl,_,_,_,_,_,_,_,_,fin _ _ _ _ _ _ z w1 w2,(by rw[w1]),rfl⟩⟩
      ·clear hF de cu ih bz hM nj ig sk;subst hS;rfl
      ·clear hF de cu ih bz hM nj ig sk;subst hS;simp[AK]
     ·obtain⟨w1,w2⟩:=(sk (fun h=>y1 (mm.1 h))).2 y2;cbv;refine ad hS (by clear hF de cu ih bz hM nj ig sk;subst hS;simp[AK]) ?_;refine ad hS (by clear hF de cu ih bz hM nj ig sk;subst hS;exact e7 (by simp<;>omega) (by simp<;>omega)) ?_;refine ad hS (by clear hF de cu ih bz hM nj ig sk;subst hS;exact e7 (by simp<;>omega) (by simp<;>omega)) ?_;refine⟨[3,4],(by intro l hl h;simp at h⊢;omega),hF (h1:=WE ⟨ns,sz,no,od,ne,en,nn,var,nk,kd,root⟩ p1 (p2+1) g1 (fun k=>if k=xd (var i) (nk i) u then AU (p2:Int) else g2 k) d1 (fun j=>if j<p2 then d2 j else [.int .i64 (.v (var i)),.sl 1 (nk i) fun j=>[.int .i64 (.v (u j))]]) (Sg.WF gk [.i (AO i)] c') (fun k=>if k=[.i (i:Int)] then AU (p2:Int) else gk k))
       (.cons (.refl _) (.cons (.refl _) (.cons (.refl _) (.cons (.refl _) (.cons (.refl _) (.cons (.refl _) (.cons (.refl _) (.cons (Az rfl fun k=> ?_) (.cons (.refl _) (.cons (.refl _) (.nil _))))))))))) (v0:=int (p2:Int)) (br ?_) (by simp[WE]) (.inl ⟨rfl,rfl⟩) ⟨rfl,_,_,_,_,_,_,_,_,fin _ _ _ _ _ _ (p2:Int) w1 w2,congrArg int w1,rfl⟩⟩
      ·clear hF de cu ih bz hM nj ig sk;subst hS;rfl
      ·clear hF de cu ih bz hM nj ig sk;subst hS;simp[AK]
def KG (d:Ac)(b:Al):Prop:=(b.kids.length:Int)=d.sz b.var.toNat/\b.kids.length<=12
theorem i5j (d:Ac):UF (KG d):=⟨fun b h=>h.2,fun b c hb hc e=>by
 have h1:=hb.1;have h2:=hc.1;rw[e,<-h2] at h1;exact Int.ofNat.inj h1⟩
theorem mw.Xh {d:Ac}(h:mw d)(hf:pr d.ns d.no d.sz d.od=0)(PI:d.fit)(h0: ∀i,i<d.ne->0<=(d.en i).fault):d.Xh (KG d):=by
 have hk:=h.Yx hf;refine⟨PI,fun i hi=> ?_,h.kids,fun i hi=> ?_,hk,fun i hi l hl=> ?_,i5j d⟩
 ·have h1:=h.1 i hi;have h2:=h0 i hi;unfold gb at h1;split at h1<;>omega
 ·have h1:=(h.2.1 i hi).1.1;have:=PI.ns;omega
 ·have h1:=(h.2.1 i hi).1.2;have h2:=hk i hi;exact⟨by simp only[hl];exact h1,by simp only[hl];exact h2.2⟩
def Iu (d:Ac)(s:AT)(t:Int):Ac:=
 ⟨d.ns,d.sz,d.no,d.od,s.oe.length,fun i=>s.oe.getD i ⟨0,0⟩,s.on.length,fun i=>(s.on.getD i ⟨0,[]⟩).var,fun i=>(s.on.getD i ⟨0,[]⟩).kids.length,fun i j=>(s.on.getD i ⟨0,[]⟩).kids.getD j 0,t⟩
def s0:AT:=⟨[],[],fun _=>AM⟩
def r8 (d:Ac):AT×Int:=AY d.E d.N (d.nn+1) d.root s0
theorem i3b {shp:Al->Prop}{s:AT}{q1 q2:Nat}{f1 f2:List KC->Option Int}{e1 e2:Nat->List DV}{fk:List KC->Option Int}(h:WP shp s q1 q2 f1 f2 e1 e2 fk):ab (.d (.sl 2 q1 e1)) (d7 s.oe.length fun i=>s.oe.getD i ⟨0,0⟩):=
 ab.Yf h.q1 fun i hi=>by
  have fw:i<s.oe.length:=by rw[<-h.q1];exact hi
  have h1:s.oe[i]? =AU s.oe[i]:=AG fw;rw[h.e1 i _ h1];simp[Ai,h1]
theorem i2e {shp:Al->Prop}{s:AT}{q1 q2:Nat}{f1 f2:List KC->Option Int}{e1 e2:Nat->List DV}{fk:List KC->Option Int}(h:WP shp s q1 q2 f1 f2 e1 e2 fk):
 ab (.d (.sl 2 q2 e2)) (Au s.on.length (fun i=>(s.on.getD i ⟨0,[]⟩).var) (fun i=>(s.on.getD i ⟨0,[]⟩).kids.length) fun i j=>(s.on.getD i ⟨0,[]⟩).kids.getD j 0):=
 ab.Zx h.q2 fun i hi=>by
  have fw:i<s.on.length:=by rw[<-h.q2];exact hi
  have h1:s.on[i]? =AU s.on[i]:=AG fw;have h2:s.on.getD i ⟨0,[]⟩=s.on[i]:=by simp[Ai,h1]
  obtain⟨n,u,h3,h4⟩:=h.e2 i _ h1;rw[h4];simp only[h2];refine .cons (.int rfl) (.one (.sl (by rw[h3,jt]) fun j hj=> ?_));refine .one (.int ?_);rw[h3];simp[L,hj,IX.val]
theorem i3c (d:Ac)(hd:d.Xh (KG d))(hr:sv d.ne d.root d.nn):au AH AN 198 [d.Xa] (Iu d (r8 d).1 (r8 d).2).av:=by
 have pb:=i2v d (KG d) hd (d.nn+1) d.root s0 0 0 (fun _=>AM) (fun _=>AM) (fun _=>[]) (fun _=>[]) 0 (fun _=>AM) (by
  rcases AJ d.root 0 with h|h
  ·omega
  ·have:=hr.1 h;omega) hr ⟨by simp[s0],by simp[s0],by simp[s0],by simp[s0],by simp[s0]⟩ ⟨rfl,rfl,by simp[s0],by simp[s0],by simp[s0],by simp[s0],by simp[s0]⟩
 have sk:=h8o hd.fit.ns hd.fit.no d.sz d.od;obtain⟨res,cq⟩: ∃res,res=(Iu d (r8 d).1 (r8 d).2).av:=⟨_,rfl⟩;rw[<-cq];change ay _ _ _ _ (Zh d (KG d) (r8 d).1 (r8 d).2) at pb;generalize (r8 d).1=s at pb cq;generalize (r8 d).2=t at pb cq;generalize KG d=shp at pb;clear hd hr;obtain⟨ns,sz,no,od,ne,en,nn,var,nk,kd,root⟩:=d;refine cr AC ci e7r _ rfl fun E Sg hb hS=> ?_;cbv;refine lj hS (Ab sk [] rfl rfl trivial) ?_;rintro pg v H' ⟨pg0,v0,h0,⟨rfl,rfl,rfl⟩,rfl,rfl,rfl⟩;cbv;have vo:=Ab (args':=[int root,.ptr 6 0,.ptr 0 0,.ptr 8 0,.ptr 9 0]) pb (H:=[.var [ac ns sz,ac no od,ac ns sz,ac no od,d7 ne en,Au nn var nk kd,int root],.var [.d .nil,.d .nil,.d .nil,.d .nil,.d (.int .i64 (.l (AO 0)))],.var [.any,.any],.map AP [.u8,.i64] 0 (fun _=>AM),.map AP LZ 0 (fun _=>AM),.var [ac ns sz,ac no od,ac ns sz,ac no od,.bi 10 2 AM 0 AN,.bi 11 2 AM 0 AN,int 0,.map 3,.map 4],.var [.ptr 5 0],.map AN [.i64] 0 (fun _=>AM),.var [.map 7],.var [.fn 237 [] [.ptr 6 0,.ptr 0 0,.ptr 8 0,.ptr 9 0]],.arr 2 0 (fun _=>[]),.arr 2 0 (fun _=>[])]) [5,3,4,10,11,6,0,7,8,9] rfl rfl
  ⟨AE _,AE _,AE _,AE _,AE _,AE _,AE _,AE _,AE _,AE _,trivial⟩
 have sm:HR 10 2 [int root,.ptr 6 0,.ptr 0 0,.ptr 8 0,.ptr 9 0] [int root,.ptr 6 0,.ptr 0 0,.ptr 8 0,.ptr 9 0]:=⟨.inl rfl,.inl rfl,.inl rfl,.inl rfl,.inl rfl,trivial⟩;have sm2:HR 11 2 [int root,.ptr 6 0,.ptr 0 0,.ptr 8 0,.ptr 9 0] [int root,.ptr 6 0,.ptr 0 0,.ptr 8 0,.ptr 9 0]:=⟨.inl rfl,.inl rfl,.inl rfl,.inl rfl,.inl rfl,trivial⟩;have h2:=Ay (h:=[.var [ac ns sz,ac no od,ac ns sz,ac no od,d7 ne en,Au nn var nk kd,int root],.var [.d .nil,.d .nil,.d .nil,.d .nil,.d (.int .i64 (.l (AO 0)))],.var [.any,.any],.map AP [.u8,.i64] 0 (fun _=>AM),.map AP LZ 0 (fun _=>AM),.var [ac ns sz,ac no od,ac ns sz,ac no od,.bi 10 2 AM 0 AN,.d .nil,int 0,.map 3,.map 4],.var [.ptr 5 0],.map AN [.i64] 0 (fun _=>AM),.var [.map 7],.var [.fn 237 [] [.ptr 6 0,.ptr 0 0,.ptr 8 0,.ptr 9 0]],.arr 2 0 (fun _=>[])]) (h2:=[.var [ac ns sz,ac no od,ac ns sz,ac no od,d7 ne en,Au nn var nk kd,int root],.var [.d .nil,.d .nil,.d .nil,.d .nil,.d (.int .i64 (.l (AO 0)))],.var [.any,.any],.map AP [.u8,.i64] 0 (fun _=>AM),.map AP LZ 0 (fun _=>AM),.var [ac ns sz,ac no od,ac ns sz,ac no od,.bi 10 2 AM 0 AN,.bi 11 2 AM 0 AN,int 0,.map 3,.map 4],.var [.ptr 5 0],.map AN [.i64] 0 (fun _=>AM),.var [.map 7],.var [.fn 237 [] [.ptr 6 0,.ptr 0 0,.ptr 8 0,.ptr 9 0]],.arr 2 0 (fun _=>[])]) 2 (fun _=>[]) vo sm2
  ⟨.inl rfl,.inl rfl,.inl rfl,.inl rfl,.inl rfl,.inr ⟨_,_,rfl,rfl,.inl rfl,.inl rfl,.inl rfl,.inl rfl,.inl rfl,.inr ⟨rfl,rfl⟩,.inl rfl,.inl rfl,.inl rfl,trivial⟩,.inl rfl,.inl rfl,.inl rfl,.inl rfl,.inl rfl,trivial⟩
 have h1:=Ay (h:=[.var [ac ns sz,ac no od,ac ns sz,ac no od,d7 ne en,Au nn var nk kd,int root],.var [.d .nil,.d .nil,.d .nil,.d .nil,.d (.int .i64 (.l (AO 0)))],.var [.any,.any],.map AP [.u8,.i64] 0 (fun _=>AM),.map AP LZ 0 (fun _=>AM),.var [ac ns sz,ac no od,ac ns sz,ac no od,.d .nil,.d .nil,int 0,.map 3,.map 4],.var [.ptr 5 0],.map AN [.i64] 0 (fun _=>AM),.var [.map 7],.var [.fn 237 [] [.ptr 6 0,.ptr 0 0,.ptr 8 0,.ptr 9 0]]]) (h2:=[.var [ac ns sz,ac no od,ac ns sz,ac no od,d7 ne en,Au nn var nk kd,int root],.var [.d .nil,.d .nil,.d .nil,.d .nil,.d (.int .i64 (.l (AO 0)))],.var [.any,.any],.map AP [.u8,.i64] 0 (fun _=>AM),.map AP LZ 0 (fun _=>AM),.var [ac ns sz,ac no od,ac ns sz,ac no od,.bi 10 2 AM 0 AN,.d .nil,int 0,.map 3,.map 4],.var [.ptr 5 0],.map AN [.i64] 0 (fun _=>AM),.var [.map 7],.var [.fn 237 [] [.ptr 6 0,.ptr 0 0,.ptr 8 0,.ptr 9 0]]]) 2 (fun _=>[]) h2 sm
  ⟨.inl rfl,.inl rfl,.inl rfl,.inl rfl,.inl rfl,.inr ⟨_,_,rfl,rfl,.inl rfl,.inl rfl,.inl rfl,.inl rfl,.inr ⟨rfl,rfl⟩,.inl rfl,.inl rfl,.inl rfl,.inl rfl,trivial⟩,.inl rfl,.inl rfl,.inl rfl,.inl rfl,trivial⟩
 refine lj hS h1.ZP ?_;rintro pg v H' ⟨TI,⟨pg0,v0,h0,⟨rfl,q1,q2,f1,f2,e1,e2,c,fk,w1,rfl,rfl⟩,rfl,rfl,rfl⟩,y3⟩;have hpg0:pg=[]:=y3;subst hpg0;clear y3;cbv;clear pb h1 h2 vo sk;refine ad hS (by subst hS;simp[AK]) (ad hS (by subst hS;simp[AK]) (ad hS (by subst hS;simp[AK]) ?_));subst cq;exact fl.agg (.cons (AA _) (.cons (AA _) (.cons (i3b w1) (.cons (i2e w1) (.cons (AA _) .nil)))))
theorem Oj {α:Type}{n m:Nat}{g h:Nat->α}:L n g=L m h↔n=m/\ ∀i,i<n->g i=h i:=by
 constructor
 ·intro e;have el:n=m:=by simpa [jt] using congrArg As e
  subst el;refine⟨rfl,fun j hj=> ?_⟩;have:=congrArg (fun l=>l[j]?) e;simpa [L,hj] using this
 ·rintro⟨rfl,hh⟩;exact JH hh
theorem i3e {n m:Nat}(hn:n<=1000000)(f g:Nat->g8)(r:Bool)(hr:r=AP↔L n f=L m g):au AH AP 234 [d7 n f,d7 m g] (bool r):=by
 rw[Oj] at hr;obtain⟨ef,en,hf⟩: ∃ef en,f=fun i=>g8.mk (ef i) (en i):=⟨fun i=>(f i).fault,fun i=>(f i).n,rfl⟩;obtain⟨eg,eh,hg⟩: ∃ef en,g=fun i=>g8.mk (ef i) (en i):=⟨fun i=>(g i).fault,fun i=>(g i).n,rfl⟩;subst hf hg;simp only[g8.eq_iff] at hr;refine j6 (cr AC ci f0q _ rfl fun E Sg hb hS=> ?_);have e8: ∀z,Sg.toNat z=z.toNat:=by subst hS;exact fun _=>rfl
 cbv;split
 ·have ck:n≠m:=by clear hr;subst hS;simp[AK] at*;omega
  cbv;exact jq hr fun h=>ck h.1
 have kp:n=m:=by clear hr;subst hS;simp[AK] at*;omega
 subst kp;cbv;refine gg AC ci hS (fun i=>i<=n/\ ∀j,j<i->ef j=eg j/\en j=eh j) (fun i=>n-i)
  (fun i=>⟨dn [(0,d7 n (fun i=>⟨ef i,en i⟩)),(1,d7 n (fun i=>⟨eg i,eh i⟩)),(12,int n),(13,int i)] 26,[],[]⟩) 0 ⟨by omega,by omega⟩ ?_ ?_
 ·exact bq rfl ⟨AA _,AA _,br (by subst hS;rfl),bg rfl,trivial⟩ (.nil _) (by omega) (.inr rfl) rfl
 ·intro i hi N hN;cbv;split
  ·have hlt:i<n:=by clear hr hN;subst hS;simp[AK] at*;omega
   cbv;refine ad hS (by subst hS;simp[AK];omega) ?_;refine ad hS (by subst hS;simp[AK];omega) ?_;simp only[A3,e8,AF,AB];split
   ·have hx: ¬(ef i=eg i/\en i=eh i):=by clear hr hN;subst hS;simp[AK] at*;intro h;omega
    cbv;exact jq hr fun hh=>hx (hh.2 i hlt)
   ·have hx:ef i=eg i/\en i=eh i:=by clear hr hN;subst hS;simp[AK] at*;assumption
    cbv;refine ad hS (by subst hS;exact e7 (by simp[AK];omega) (by simp[AK];omega)) ?_;refine hN (i+1) _ ⟨by omega,fun j hj=> ?_⟩ (by omega) (bq rfl ⟨AA _,AA _,AA _,br (by subst hS;simp[AK]),trivial⟩ (.nil _) (by omega) (.inr rfl) rfl);by_cases e:j=i
    ·subst e;exact hx
    ·exact hi.2 j (by omega)
  ·have cd: ∀j,j<n->ef j=eg j/\en j=eh j:=by
    have:n<=i:=by clear hr hN;subst hS;simp[AK] at*;omega
    exact fun j hj=>hi.2 j (by omega)
   cbv;exact Ir hr ⟨rfl,cd⟩
theorem i4q (v w:Int){n m:Nat}(hn:n<=1000000)(g h:Nat->Int)(r:Bool)(hr:r=AP↔v=w/\L n g=L m h):au AH AP 233 [.agg [int v,ac n g],.agg [int w,ac m h]] (bool r):=by
 obtain⟨z,hz⟩: ∃z:Bool,z=AP↔L n g=L m h:=by classical exact⟨decide _,decide_eq_true_iff⟩
 have h1:=JR hn g h z hz;rw[<-hz] at hr;refine j6 (cr AC ci f0e _ rfl fun E Sg hb hS=> ?_);cbv;split
 ·have hv:v=w:=by clear hr h1;subst hS;simp[AK] at*;assumption
  cbv;refine bf hS (bool z) (by subst hS;exact h1) ?_;cbv;refine ga ?_;cases r
  ·cases z
   ·rfl
   ·exact absurd (hr.2 ⟨hv,rfl⟩) (by simp)
  ·exact (hr.1 rfl).2
 ·have hv:v≠w:=by clear hr h1;subst hS;simp[AK] at*;assumption
  cbv;exact jq hr fun h=>hv h.1
theorem i2z {n m:Nat}(hn:n<=1000000)(va vb:Nat->Int)(na nb:Nat->Nat)(ka kb:Nat->Nat->Int)(hk: ∀i,i<n->na i<=1000000)(r:Bool)
 (hr:r=AP↔n=m/\ ∀i,i<n->va i=vb i/\L (na i) (ka i)=L (nb i) (kb i)):ay AH 235 [Au n va na ka,Au m vb nb kb,.fn 233 [] []] [] (ro [] (bool r)):=by
 obtain⟨z,hz⟩: ∃z:Nat->Bool,∀i,z i=AP↔va i=vb i/\L (na i) (ka i)=L (nb i) (kb i):=by classical exact⟨fun i=>decide (va i=vb i/\L (na i) (ka i)=L (nb i) (kb i)),fun i=>decide_eq_true_iff⟩
 have h1:=fun i hi=>i4q (va i) (vb i) (m:=nb i) (hk i hi) (ka i) (kb i) (z i) (hz i);simp only[<-hz] at hr;clear hz hk;refine l7 AC ci e9a _ rfl fun E Sg hb hS=> ?_;simp only[AQ] at hb;have e8: ∀z,Sg.toNat z=z.toNat:=by subst hS;exact fun _=>rfl
 cbv;split
 ·have ck:n≠m:=by clear hr h1;subst hS;simp[AK] at*;omega
  cbv;exact j7 (jq hr fun h=>ck h.1) (.nil _) (.inr rfl)
 have kp:n=m:=by clear hr h1;subst hS;simp[AK] at*;omega
 subst kp;cbv;refine gg AC ci hS (fun i=>i<=n/\ ∀j,j<i->z j=AP) (fun i=>n-i)
  (fun i=>⟨dn [(0,Au n va na ka),(1,Au n vb nb kb),(2,.fn 233 [] []),(15,Au n va na ka),(16,int n),(17,int i)] 32,[],[]⟩) 0 ⟨by omega,by omega⟩ ?_ ?_
 ·exact bq rfl ⟨AA _,AA _,AA _,AA _,br (by subst hS;rfl),bg rfl,trivial⟩ (.nil _) (by simp;omega) (.inr rfl) rfl
 ·intro i hi N hN;cbv;split
  ·have hlt:i<n:=by clear hr hN h1;subst hS;simp[AK] at*;omega
   have aq:=h1 i hlt;generalize HG:z i=zi at aq;cbv;refine ad hS (by clear h1 aq;subst hS;simp[AK];omega) ?_;refine ad hS (by clear h1 aq;subst hS;simp[AK];omega) ?_;simp only[A3,e8,AF,AB];refine lu hS (ay.VC rfl aq) ?_;cases zi
   ·cbv;exact j7 (jq hr fun hh=>by rw[hh.2 i hlt] at HG;cases HG) (.nil _) (.inl ⟨rfl,rfl⟩)
   ·cbv;refine ad hS (by clear h1 aq;subst hS;exact e7 (by simp[AK];omega) (by simp[AK];omega)) ?_;refine hN (i+1) _ ⟨by omega,fun j hj=> ?_⟩ (by omega) (bq rfl ⟨AA _,AA _,AA _,AA _,AA _,br (by clear h1 aq;subst hS;simp[AK]),trivial⟩ (.nil _) (by simp;omega) (.inl ⟨rfl,rfl⟩) rfl);by_cases e:j=i
    ·subst e;exact HG
    ·exact hi.2 j (by omega)
  ·have cd: ∀j,j<n->z j=AP:=by
    have:n<=i:=by clear hr hN h1;subst hS;simp[AK] at*;omega
    exact fun j hj=>hi.2 j (by omega)
   cbv;exact j7 (Ir hr ⟨rfl,cd⟩) (.nil _) (.inr rfl)
def Rb (a b:Ac):Prop:=L a.ns a.sz=L b.ns b.sz/\L a.no a.od=L b.no b.od/\a.E=b.E/\a.N=b.N/\a.root=b.root
theorem h9n {a b:Ac}:a.N=b.N↔a.nn=b.nn/\ ∀i,i<a.nn->a.var i=b.var i/\L (a.nk i) (a.dq i)=L (b.nk i) (b.dq i):=by
 rw[g7.N,g7.N,Oj];constructor
 ·rintro⟨h1,h2⟩;refine⟨h1,fun i hi=> ?_⟩;have:=h2 i hi;simp only[g7.nd] at this;injection this with a b
  exact⟨a,b⟩
 ·rintro⟨h1,h2⟩;exact⟨h1,fun i hi=>by simp only[g7.nd];rw[(h2 i hi).1,(h2 i hi).2]⟩
theorem i2u (a b:Ac)(ha:a.ns<=1000000/\a.no<=1000000/\a.ne<=1000000/\a.nn<=1000000)(hk: ∀i,i<a.nn->a.nk i<=1000000)(r:Bool)(hr:r=AP↔Rb a b):au AH AP 197 [a.av,b.av] (bool r):=by
 obtain⟨z1,jl⟩: ∃z:Bool,z=AP↔L a.ns a.sz=L b.ns b.sz:=by classical exact⟨decide _,decide_eq_true_iff⟩
 obtain⟨z2,eb⟩: ∃z:Bool,z=AP↔L a.no a.od=L b.no b.od:=by classical exact⟨decide _,decide_eq_true_iff⟩
 obtain⟨z3,LR⟩: ∃z:Bool,z=AP↔a.E=b.E:=by classical exact⟨decide _,decide_eq_true_iff⟩
 obtain⟨z4,QA⟩: ∃z:Bool,z=AP↔a.N=b.N:=by classical exact⟨decide _,decide_eq_true_iff⟩
 have h1:=JR ha.1 a.sz b.sz z1 jl;have h2:=JR ha.2.1 a.od b.od z2 eb;have h3:=i3e ha.2.2.1 a.en b.en z3 LR;rw[h9n] at QA;have h4:=i2z (m:=b.nn) ha.2.2.2 a.var b.var a.nk b.nk a.dq b.dq hk z4 QA;rw[<-h9n] at QA;simp only[Rb,<-jl,<-eb,<-LR,<-QA] at hr;clear jl eb LR QA ha hk;obtain⟨ns,sz,no,od,ne,en,nn,var,nk,dq,root⟩:=a;obtain⟨ns',sz',QQ,QS,ne',jf,nn',var',nk',kid',Q7⟩:=b;simp only at hr;refine j6 (cr AC ci f2i _ rfl fun E Sg hb hS=> ?_);cbv;refine bf hS (bool z1) (by subst hS;exact h1) ?_;cases z1
 ·cbv;exact jq hr fun h=>AW h.1
 cbv;refine bf hS (bool z2) (by subst hS;exact h2) ?_;cases z2
 ·cbv;exact jq hr fun h=>AW h.2.1
 cbv;refine bf hS (bool z3) (by subst hS;exact h3) ?_;cases z3
 ·cbv;exact jq hr fun h=>AW h.2.2.1
 cbv;refine lj hS (Ab h4 [] rfl rfl trivial) ?_;rintro pg v H' ⟨pg0,v0,h0,⟨rfl,rfl,rfl⟩,rfl,rfl,rfl⟩;cases z4
 ·cbv;exact jq hr fun h=>AW h.2.2.2.1
 cbv;refine ga ?_;clear h1 h2 h3 h4;subst hS;simp only[AK];cases r
 ·exact decide_eq_false fun h=>AW (hr.2 ⟨rfl,rfl,rfl,rfl,h⟩)
 ·exact decide_eq_true (hr.1 rfl).2.2.2.2
theorem UE {α:Type}(l:List α)(x:α):(L l.length fun i=>l.getD i x)=l:=by unfold L;refine List.ext_getElem (by simp) fun i h1 h2=> ?_;simp[Ai,AG h2]
theorem i6b (d:Ac)(s:AT)(t:Int):(Iu d s t).E=s.oe:=UE _ _
theorem i5p (d:Ac)(s:AT)(t:Int):(Iu d s t).N=s.on:=by
 have:(Iu d s t).nd=fun i=>s.on.getD i ⟨0,[]⟩:=by funext i;simp only[g7.nd,Iu];rw[UE]
 rw[g7.N,this];exact UE _ _
theorem h9s {d:Ac}(h:mw d)(hf:pr d.ns d.no d.sz d.od=0):Rb (Iu d (r8 d).1 (r8 d).2) d↔Io d:=by
 have wa:=y6 h.2.2;have J4:d.N.length=d.nn:=jt _ _;rw[<-i0k fun i hi=>(h.Yx hf i hi).1,<-Law.Xu h.kids.loose wa.ZO];unfold Rb Law.Wm;rw[i6b,i5p,J4];constructor
 ·rintro⟨_,_,a,b,c⟩;exact⟨a,b,c⟩
 ·rintro⟨a,b,c⟩;exact⟨rfl,rfl,a,b,c⟩
theorem h8r {d:Ac}(hd:d.Xh (KG d))(hr:sv d.ne d.root d.nn):(r8 d).1.oe.length<=d.ne/\(r8 d).1.on.length<=d.nn/\ ∀b,b∈(r8 d).1.on->b.kids.length<=12:=by
 have hg:=(Law.Wv (E:=d.E) (N:=d.N) (nn:=d.nn) (jt _ _) (shp:=KG d) hd.kids.loose (fun j b hb=>by
  rw[g7.N,Mv] at hb;split at hb
  ·rename_i hj;cases hb;refine⟨by simp only[g7.nd,jt];exact (hd.nk j hj).1,fun l hl=>hd.shape j hj l (by simpa only[g7.nd,jt] using hl)⟩
  ·cases hb) (d.nn+1) d.root s0 (by
   rcases AJ d.root 0 with h|h
   ·omega
   ·have:=hr.1 h;omega) hr.ok ⟨by simp[s0],by simp[s0],by simp[s0],by simp[s0],by simp[s0]⟩).1
 have h1:=hg.XP;rw[show d.E.length=d.ne from jt _ _] at h1;exact⟨h1,hg.XU,fun b hb=>(hg.sh b hb).2⟩
theorem i1u (d:Ac)(hf:d.fit)(h0: ∀i,i<d.ne->0<=(d.en i).fault)(jn:d.no<=12)(r:Int)(hr:s8 d=r):
 ∃v,(v=d.Xa\/pr d.ns d.no d.sz d.od≠0/\v=Tu)/\au AH AN 160 [d.av] (.tuple [v,int r]):=by
 obtain⟨e,he⟩:=xA (Gi d);obtain⟨v,hv,ho⟩:=h7g d hf h0 jn e he;refine⟨v,hv,?_⟩;unfold s8 at hr;rw[he] at hr;by_cases hz:e=0
 ·subst hz;rw[if_neg (fun h=>h rfl)] at hr;obtain⟨a1,a2,a3⟩:=Tj he;have hv:v=d.Xa:=hv.resolve_right fun h=>h.1 a1;subst hv;clear hv;have HC:=a3.Xh a1 hf h0;have ig:=i3c d HC (y6 a3.2.2);have Hi:=h8r HC (y6 a3.2.2);have ku:=h9s a3 a1;obtain⟨z,hz⟩: ∃z:Bool,z=AP↔Rb (Iu d (r8 d).1 (r8 d).2) d:=by classical exact⟨decide _,decide_eq_true_iff⟩
  have ck:=hf.ne;have wz:=hf.nn;have heq:=i2u (Iu d (r8 d).1 (r8 d).2) d ⟨hf.ns,hf.no,Ar Hi.1 ck,Ar Hi.2.1 wz⟩ (fun i hi=>by
   have hi:i<(r8 d).1.on.length:=hi;have hm:(r8 d).1.on.getD i ⟨0,[]⟩∈(r8 d).1.on:=by simp[Ai,AG hi]
   have:=Hi.2.2 _ hm;show ((r8 d).1.on.getD i ⟨0,[]⟩).kids.length<=1000000;omega) z hz
  rw[ku] at hz;have r0:z=AP->0=r:=fun h=>by rw[<-hr,if_pos (hz.1 h)]
  have r4:z=AN->4=r:=fun h=>by rw[<-hr,if_neg (fun k=>by rw[hz.2 k] at h;cases h)]
  generalize Iu d (r8 d).1 (r8 d).2=o at ig heq;clear hr hz ku Hi HC a1 a2 a3 he hf h0 ck wz;obtain⟨ns,sz,no,od,ne,en,nn,var,nk,dq,root⟩:=d;obtain⟨ns',sz',QQ,QS,ne',jf,nn',var',nk',kid',Q7⟩:=o;obtain⟨res,cq⟩: ∃res,res=g7.Xa ⟨ns,sz,no,od,ne,en,nn,var,nk,dq,root⟩:=⟨_,rfl⟩;refine cr AC ci Tw _ rfl fun E Sg hb hS=> ?_;rw[<-cq];cbv;refine bf hS _ (by subst hS;exact ho) ?_;cbv;split
  rotate_left
  ·rename_i h;exfalso;clear ho ig heq;subst hS;simp[AK] at h
  cbv;refine bf hS _ (by subst hS;exact ig) ?_;cbv
  repeat' (with_reducible apply ad hS)
  all_goals try (clear ho ig heq;subst hS;simp[AK];done)
  refine bf hS (bool z) (by subst hS;exact heq) ?_;cases z
  ·cbv;subst cq;exact Ad (.cons (AA _) (.cons (bg (r4 rfl)) .nil))
  ·cbv;subst cq;exact Ad (.cons (AA _) (.cons (br (r0 rfl)) .nil))
 ·rw[if_pos hz] at hr;subst hr;clear he hf h0;obtain⟨ns,sz,no,od,ne,en,nn,var,nk,dq,root⟩:=d;obtain⟨res,cq⟩: ∃res,res=v:=⟨_,rfl⟩;rw[<-cq];rcases hv with rfl|⟨_,rfl⟩
  ·refine cr AC ci Tw _ rfl fun E Sg hb hS=> ?_;cbv;refine bf hS _ (by subst hS;exact ho) ?_;cbv;split
   ·rename_i h;exfalso;clear ho;subst hS;simp[AK] at h;exact hz h
   cbv;subst cq;exact Ad (.cons (AA _) (.cons (AA _) .nil))
  ·refine cr AC ci Tw _ rfl fun E Sg hb hS=> ?_;cbv;refine bf hS _ (by subst hS;exact ho) ?_;cbv;split
   ·rename_i h;exfalso;clear ho;subst hS;simp[AK] at h;exact hz h
   cbv;subst cq;exact Ad (.cons (AA _) (.cons (AA _) .nil))
def IA (d:Ac)(pl:Nat->Int):Nat->Int->Int
 |0,k=>k
 |f+1,k=>if k<0 then k else IA d pl f (d.dq k.toNat (pl (d.var k.toNat).toNat).toNat)
def jj (d:Ac)(pl:Nat->Int)(k:Int):Int:=IA d pl (k.toNat+1) k
def GN (d:Ac)(pl:Nat->Int):Prop:= ∀j,j<d.ns->0<=pl j/\pl j<d.sz j
theorem NB {d:Ac}(hl:mw d){pl:Nat->Int}(hp:GN d pl){k:Nat}(hk:k<d.nn):
 (0<=d.var k/\d.var k<d.ns)/\(0<=pl (d.var k).toNat/\pl (d.var k).toNat<(d.nk k:Int))/\sv d.ne (d.dq k (pl (d.var k).toNat).toNat) k:=by
 obtain⟨⟨⟨a,b⟩,c⟩,e⟩:=hl.2.1 k hk;have h1:=hp (d.var k).toNat (by omega);rw[<-c] at h1;exact⟨⟨a,by omega⟩,h1,y6 (e _ (by omega)).1⟩
theorem i2n {d:Ac}(hl:mw d){pl:Nat->Int}(hp:GN d pl): ∀(f:Nat) (k:Int),k<f->k<d.nn->IA d pl f k=jj d pl k:=by
 have key: ∀(m:Nat) (f f':Nat) (k:Int),k<m->k<f->k<f'->k<d.nn->IA d pl f k=IA d pl f' k:=by
  intro m
  induction m with
  |zero=>
   intro f f' k hm hf hf' hn;have:k<0:=by omega
   cases f<;>cases f'<;>simp[IA,this]
  |succ m ih=>
   intro f f' k hm hf hf' hn;by_cases h0:k<0
   ·cases f<;>cases f'<;>simp[IA,h0]
   ·obtain⟨i,rfl⟩: ∃i:Nat,k=i:=⟨k.toNat,by omega⟩;obtain⟨g,rfl⟩: ∃g,f=g+1:=⟨f-1,by omega⟩;obtain⟨g',rfl⟩: ∃g,f'=g+1:=⟨f'-1,by omega⟩;have hi:i<d.nn:=by omega
    have h1:=(NB hl hp hi).2.2;simp only[IA,if_neg h0,AB];have hlt:d.dq i (pl (d.var i).toNat).toNat<i:=by
     rcases AJ (d.dq i (pl (d.var i).toNat).toNat) 0 with h|h
     ·omega
     ·exact h1.1 h
    exact ih g g' _ (by omega) (by omega) (by omega) (by omega)
 intro f k hf hn;exact key (k.toNat+1) f (k.toNat+1) k (by omega) hf (by omega) hn
theorem NZ {d:Ac}(hl:mw d){pl:Nat->Int}(hp:GN d pl){i:Nat}(hi:i<d.nn):jj d pl i=jj d pl (d.dq i (pl (d.var i).toNat).toNat):=by
 have h1:=(NB hl hp hi).2.2;have hlt:d.dq i (pl (d.var i).toNat).toNat<i:=by
  rcases AJ (d.dq i (pl (d.var i).toNat).toNat) 0 with h|h
  ·omega
  ·exact h1.1 h
 rw[<-i2n hl hp i _ hlt (by omega)];unfold jj;rw[AB,IA,if_neg (by omega)];simp only[AB]
theorem Gp {d:Ac}{pl:Nat->Int}{k:Int}(h:k<0):jj d pl k=k:=by unfold jj;rw[IA,if_pos h]
theorem i5w (x:Int):ay AH 242 [int x] [] (fun pg v h'=>pg=[]/\h'=[]):=by refine mh AC ci f2s rfl fun E Sg hb hS F hF=> ?_;cbv;exact⟨[],by simp,hF (.nil _) (AA _) (by simp) (.inr rfl) ⟨rfl,rfl⟩⟩
theorem j5u (gid:FuncId)(hnop: ∀x:Int,ay AH gid [int x] [] (fun pg v h'=>pg=[]/\h'=[]))(d:Ac)(hl:mw d)(hf:d.fit)(pl:Nat->Int)(hp:GN d pl):sv d.ne (jj d pl d.root) 0/\au AH AP 162 [d.Xa,ac d.ns pl,.fn gid [] []] (int (-1-jj d pl d.root)):=by
 have wa:=y6 hl.2.2;have iz:=fun k hk=>NB hl hp (k:=k) hk;have fj:=fun i hi=>NZ hl hp (i:=i) hi;have SZ: ∀k:Int,sv d.ne k d.nn->jj d pl k<0/\ -1-jj d pl k<d.ne:=by
  have: ∀(m:Nat) (k:Int),k<m->sv d.ne k d.nn->jj d pl k<0/\ -1-jj d pl k<d.ne:=by
   intro m
   induction m with
   |zero=>intro k hm hr;rw[Gp (by omega)];exact⟨by omega,hr.2 (by omega)⟩
   |succ m ih=>
    intro k hm hr;by_cases h0:k<0
    ·rw[Gp h0];exact⟨h0,hr.2 h0⟩
    ·obtain⟨i,rfl⟩: ∃i:Nat,k=i:=⟨k.toNat,by omega⟩;have hi:i<d.nn:=by have:=hr.1 (by omega);omega
     rw[fj i hi];have h1:=(iz i hi).2.2;refine ih _ ?_ ⟨fun h=>by have:=h1.1 h;omega,h1.2⟩;rcases AJ (d.dq i (pl (d.var i).toNat).toNat) 0 with h|h
     ·omega
     ·have:=h1.1 h;omega
  intro k hr;exact this (k.toNat+1) k (by omega) hr
 have hw:=SZ d.root wa;refine⟨⟨fun h=>by omega,fun _=>hw.2⟩,?_⟩;have ck:=hf.ne;have wz:=hf.nn;have o8:=R8 (jj d pl d.root) (by omega) (by omega);obtain⟨W,hW⟩: ∃W,W=jj d pl d.root:=⟨_,rfl⟩;rw[<-hW] at hw o8⊢;have o9: ∀k:Int,k<0->jj d pl k=W->k=W:=fun k h e=>by rw[Gp h] at e;exact e
 obtain⟨Y,hY⟩:=xB fun k:Int=>jj d pl k;simp only[hY] at fj o9 hW;clear SZ hY hl hp hf;obtain⟨ns,sz,no,od,ne,en,nn,var,nk,dq,root⟩:=d;simp only at iz fj hW wa;refine su (cr AC ci f1o _ rfl fun E Sg hb hS=> ?_);have e8: ∀z,Sg.toNat z=z.toNat:=by subst hS;exact fun _=>rfl
 cbv;refine gg AC ci hS (σ:=Int) (fun k=>sv ne k nn/\Y k=W) (fun k=>(k+1).toNat)
  (fun k=>⟨dn [(1,ac ns pl),(2,.fn gid [] []),(3,.ptr 0 0),(7,int k)] 37,[.var [ac ns sz,ac no od,ac ns sz,ac no od,d7 ne en,Au nn var nk dq,int root]],[]⟩) root ⟨wa,hW.symm⟩ ?_ ?_
 ·exact bq rfl ⟨AA _,AA _,AA _,AA _,trivial⟩ (.cons (.refl _) (.nil _)) (by simp;omega) (.inr rfl) rfl
 ·rintro k ⟨ij,cp⟩ N hN;cbv;split
  ·have h0:0<=k:=by clear hN o8;subst hS;simp[AK] at*;assumption
   obtain⟨i,rfl⟩: ∃i:Nat,k=i:=⟨k.toNat,by omega⟩;have hi:i<nn:=AI.1 (ij.1 (AS i));obtain⟨n1,n2,n3⟩:=iz i hi;cbv;refine lj hS (Ab (hnop i) [] rfl rfl trivial) ?_;rintro pg v H' ⟨pg0,v0,OS,⟨rfl,rfl⟩,rfl,rfl,rfl⟩;cbv;refine ad hS (by clear hN o8;subst hS;exact⟨AS i,AI.2 hi⟩) ?_;refine ad hS (by clear hN o8;subst hS;exact⟨AS i,AI.2 hi⟩) ?_;simp only[A3,e8,AF,AB];refine ad hS (by clear hN o8;subst hS;exact n1) ?_;refine ad hS (by clear hN o8;subst hS;exact n2) ?_;refine hN (dq i (pl (var i).toNat).toNat) _ ⟨⟨fun h=>Int.lt_trans (n3.1 h) (AI.2 hi),n3.2⟩,by rw[<-fj i hi];exact cp⟩ ?_ (bq rfl ⟨AA _,AA _,AA _,AA _,trivial⟩ (.cons (.refl _) (.nil _)) (by simp;omega) (.inr rfl) rfl);rcases AJ (dq i (pl (var i).toNat).toNat) 0 with h|h
   ·omega
   ·have:=n3.1 h;omega
  ·have h0:k<0:=by clear hN o8;subst hS;simp[AK] at*;omega
   have hkW:=o9 k h0 cp;subst hkW;cbv;refine bf hS _ (by subst hS;exact o8) ?_;cbv;exact AA _
theorem i6j (d:Ac)(hl:mw d)(hf:d.fit)(pl:Nat->Int)(hp:GN d pl):sv d.ne (jj d pl d.root) 0/\au AH AP 162 [d.Xa,ac d.ns pl,.fn 242 [] []] (int (-1-jj d pl d.root)):=j5u 242 i5w d hl hf pl hp
def th (pl:Nat->Int)(k:Nat)(z:Int):Nat->Int:=fun j=>if j=k then z else pl j
def xk (sz:Nat->Int):Nat->(Nat->Int)->Option (Nat->Int)
 |0,_=>AM
 |k+1,pl=>if pl k=sz k-1 then xk sz k (th pl k 0) else AU (th pl k (pl k+1))
def jc (sz pl:Nat->Int):Nat->Int
 |0=>0
 |k+1=>jc sz pl k*sz k+pl k
def HS (sz pl:Nat->Int)(n:Nat):Prop:= ∀j,j<n->0<=pl j/\pl j<sz j
theorem Rn {sz pl Jy:Nat->Int}: ∀{k:Nat},(∀j,j<k->pl j=Jy j)->jc sz pl k=jc sz Jy k
 |0,_=>rfl
 |k+1,h=>by rw[jc,jc,Rn fun j hj=>h j (by omega),h k (by omega)]
theorem Uc {sz pl:Nat->Int}: ∀{n:Nat},HS sz pl n->0<=jc sz pl n/\jc sz pl n<dv sz n
 |0,_=>by simp[jc,dv]
 |n+1,h=>by have h1:=Uc (n:=n) fun j hj=>h j (by omega);have h2:=h n (by omega);rw[jc,dv];have a:0<=jc sz pl n*sz n:=Int.mul_nonneg h1.1 (by omega);have b:(jc sz pl n+1)*sz n<=dv sz n*sz n:=Int.mul_le_mul_of_nonneg_right (by omega) (by omega);rw[Ax] at b;omega
theorem UX {sz:Nat->Int}: ∀{k:Nat} {pl Jy:Nat->Int},HS sz pl k->xk sz k pl=AU Jy->jc sz Jy k=jc sz pl k+1/\HS sz Jy k/\ ∀j,k<=j->Jy j=pl j
 |0,_,_,_,h=>by simp[xk] at h
 |k+1,pl,Jy,hp,h=>by
  rw[xk] at h;have hk:=hp k (by omega);split at h
  ·rename_i he;have h1:=UX (k:=k) (pl:=th pl k 0) (fun j hj=>by simp only[th];rw[if_neg (by omega)];exact hp j (by omega)) h;have e0:Jy k=0:=by rw[h1.2.2 k (Ae k)];simp[th]
   have ev:jc sz (th pl k 0) k=jc sz pl k:=Rn fun j hj=>by simp only[th];rw[if_neg (by omega)]
   refine⟨?_,fun j hj=> ?_,fun j hj=> ?_⟩
   ·rw[jc,jc,h1.1,ev,e0,Ax];omega
   ·by_cases e:j=k
    ·subst e;rw[e0];omega
    ·exact h1.2.1 j (by omega)
   ·rw[h1.2.2 j (by omega)];simp only[th];rw[if_neg (by omega)]
  ·rename_i he;cases h;have ev:jc sz (th pl k (pl k+1)) k=jc sz pl k:=Rn fun j hj=>by simp only[th];rw[if_neg (by omega)]
   refine⟨?_,fun j hj=> ?_,fun j hj=> ?_⟩
   ·rw[jc,jc,ev];simp only[th,if_pos];omega
   ·simp only[th];by_cases e:j=k
    ·subst e;rw[if_pos rfl];omega
    ·rw[if_neg e];exact hp j (by omega)
   ·simp only[th];rw[if_neg (by omega)]
theorem UW {sz:Nat->Int}: ∀{k:Nat} {pl:Nat->Int},HS sz pl k->xk sz k pl=AM->jc sz pl k=dv sz k-1
 |0,_,_,_=>by simp[jc,dv]
 |k+1,pl,hp,h=>by
  rw[xk] at h;have hk:=hp k (by omega);split at h
  ·rename_i he;have h1:=UW (k:=k) (pl:=th pl k 0) (fun j hj=>by simp only[th];rw[if_neg (by omega)];exact hp j (by omega)) h;have ev:jc sz (th pl k 0) k=jc sz pl k:=Rn fun j hj=>by simp only[th];rw[if_neg (by omega)]
   rw[ev] at h1;rw[jc,dv,h1,he,Int.sub_mul];omega
  ·cases h
def js (sz:Nat->Int)(n:Nat):Nat->(Nat->Int)
 |0=>fun _=>0
 |p+1=>(xk sz n (js sz n p)).getD (js sz n p)
theorem h7i {sz:Nat->Int}: ∀n,jc sz (fun _=>0) n=0
 |0=>rfl
 |n+1=>by rw[jc,h7i n];simp
theorem HW {sz:Nat->Int}{n:Nat}(hs: ∀j,j<n->1<=sz j): ∀p:Nat,(p:Int)<dv sz n->HS sz (js sz n p) n/\jc sz (js sz n p) n=p
 |0,_=>⟨fun j hj=>by have:=hs j hj;simp only[js];omega,h7i n⟩
 |p+1,h=>by
  obtain⟨h1,h2⟩:=HW hs p (by omega);cases hc:xk sz n (js sz n p) with
  |none=>have:=UW h1 hc;omega
  |some q=>have h3:=UX h1 hc;rw[js,hc];exact⟨h3.2.1,by simp only[Option.getD];rw[h3.1,h2];omega⟩
theorem i1o {sz:Nat->Int}{n:Nat}(hs: ∀j,j<n->1<=sz j){p:Nat}(h:(p:Int)<dv sz n):
 (∀q,xk sz n (js sz n p)=AU q->js sz n (p+1)=q/\((p+1:Nat):Int)<dv sz n)/\(xk sz n (js sz n p)=AM->((p+1:Nat):Int)=dv sz n):=by
 obtain⟨h1,h2⟩:=HW hs p h;constructor
 ·intro q hc;have h3:=UX h1 hc;have h4:=Uc h3.2.1;refine⟨by rw[js,hc];rfl,?_⟩;rw[h3.1,h2] at h4;omega
 ·intro hc;have:=UW h1 hc;omega
def i4w:Nat->Int
 |0=> -1
 |k+1=>(k:Int)
theorem h9p (k:Nat):i4w k=(k:Int)-1:=by cases k<;>simp[i4w]
theorem i0o {ns no:Nat}(sz od:Nat->Int)(nu:ns<=1000000)(hs: ∀j,j<ns->1<=sz j/\sz j<=12)(hp:dv sz ns<=2000)(A B C D:Nat->ae)(VE: ∀p,u1 4 [A p,B p,C p,D p]=AP)
 (hy: ∀(p:Nat) (u:Nat->Int),(p:Int)<dv sz ns->(∀j,j<ns->u j=js sz ns p j)->
   lh AH 2 [int p,.bi 5 1 AM ns AN] [A p,B p,C p,D p,.var [ac ns sz,ac no od],g9 ns u]
    (fun pg v h'=>pg=[3]/\v= .d (.bool AP)/\h'=[A (p+1),B (p+1),C (p+1),D (p+1),.var [ac ns sz,ac no od],g9 ns u])):
 ay AH 241 [.agg [ac ns sz,ac no od],.yl 2] [A 0,B 0,C 0,D 0] (fun pg v h'=>pg=[3]/\ ∃q:Nat,(q:Int)=dv sz ns/\h'=[A q,B q,C q,D q]):=by
 have lq:=fun j hj=>(hs j hj).1;have lf:=fun p h=>HW (sz:=sz) (n:=ns) lq p h;have iz:=fun p h=>i1o (sz:=sz) (n:=ns) lq (p:=p) h;have fz:=Ky lq;obtain⟨T,hT⟩: ∃T:Nat,(T:Int)=dv sz ns:=⟨(dv sz ns).toNat,by omega⟩;rw[<-hT] at lf iz fz hy⊢;have hT2:T<=2000:=by omega
 have lf:=fun p (h:p<T)=>lf p (AI.2 h);have iz: ∀p,p<T->(∀q,xk sz ns (js sz ns p)=AU q->js sz ns (p+1)=q/\p+1<T)/\(xk sz ns (js sz ns p)=AM->p+1=T):=fun p h=>by obtain⟨a,b⟩:=iz p (AI.2 h);exact⟨fun q hq=>⟨(a q hq).1,AI.1 (a q hq).2⟩,fun hq=>Int.ofNat.inj (b hq)⟩
 have hy:=fun p u (h:p<T) hu=>hy p u (AI.2 h) hu;have fz:0<T:=by omega
 clear hT hp;refine mh AC ci e7j rfl fun E Sg hb hS F hF=> ?_;simp only[AZ,AQ] at hb;have e8: ∀z,Sg.toNat z=z.toNat:=by subst hS;exact fun _=>rfl
 cbv;refine ad hS (by clear hy hF lf iz;subst hS;simp[AK]) (ad hS (by clear hy hF lf iz;subst hS;simp[AK,VU];omega) ?_);refine gg AC ci hS (σ:=Nat×(Nat->Int)) (fun s=>s.1<T/\ ∀j,j<ns->s.2 j=js sz ns s.1 j) (fun s=>T-s.1)
  (fun s=>⟨dn [(1,.yl 2),(2,.ptr 4 0),(4,.bi 5 1 AM ns AN),(5,int s.1)] 49,[A s.1,B s.1,C s.1,D s.1,.var [ac ns sz,ac no od],g9 ns s.2],[3]⟩) (0,fun _=>0) ⟨fz,fun j hj=>rfl⟩ ?_ ?_
 ·refine bq rfl ⟨AA _,AA _,(by clear hy hF lf iz;subst hS;exact AA _),bg rfl,trivial⟩ (.cons (.refl _) (.cons (.refl _) (.cons (.refl _) (.cons (.refl _) (.cons (.refl _) (.cons (Av ?_ ?_) (.nil _))))))) (by simp;omega) (.inr rfl) rfl
  ·clear hy hF lf iz;subst hS;rfl
  ·intro j hj;clear hy hF lf iz;subst hS;simp only[AK] at hj⊢;rw[if_pos hj];exact .one (.int rfl)
 ·rintro⟨p,u⟩ ⟨Ik,hu⟩ N hN;simp only at Ik hu hN;have hyp:=hy p u Ik hu;obtain⟨g1,g2⟩:=lf p Ik;obtain⟨n1,n2⟩:=iz p Ik;cbv;refine UD hS hyp ?_;rintro pg v H' ⟨rfl,rfl,rfl⟩;cbv;refine ad hS (by clear hy hF lf iz hyp hN;subst hS;exact e7 (by simp[AK];omega) (by simp[AK];omega)) ?_;refine gg AC ci hS (σ:=Nat×(Nat->Int)) (fun s=>s.1<=ns/\xk sz ns (js sz ns p)=xk sz s.1 s.2/\HS sz s.2 ns) (fun s=>s.1)
   (fun s=>⟨dn [(1,.yl 2),(2,.ptr 4 0),(4,.bi 5 1 AM ns AN),(5,int p),(6,int (i4w s.1))] 49,[A (p+1),B (p+1),C (p+1),D (p+1),.var [ac ns sz,ac no od],g9 ns s.2],[3]⟩) (ns,js sz ns p) ⟨by simp,rfl,g1⟩ ?_ ?_
  ·refine bq rfl ⟨AA _,AA _,AA _,AA _,br ?_,trivial⟩ (.cons (.refl _) (.cons (.refl _) (.cons (.refl _) (.cons (.refl _) (.cons (.refl _) (.cons (bx.g9 rfl fun j hj=>by rw[hu j hj]) (.nil _))))))) (by simp;omega) (.inr rfl) rfl;rw[h9p];clear hy hF lf iz hyp hN;subst hS;rfl
  ·rintro⟨k,w⟩ ⟨hk,hc,hw⟩ M hM;simp only at hk hc hw hM;cases k with
   |zero=>
    have o8:=n2 hc;cbv;split
    ·rename_i h;exfalso;clear hy hF lf iz hyp hN hM;subst hS;simp[AK] at h
    cbv;split
    ·cbv;exact⟨[3],by simp,hF (h1:=[A (p+1),B (p+1),C (p+1),D (p+1)]) (.cons (.refl _) (.cons (.refl _) (.cons (.refl _) (.cons (.refl _) (.nil _))))) (AA _) (by simp) (.inl ⟨rfl,VE (p+1)⟩) ⟨rfl,p+1,by rw[o8],rfl⟩⟩
    ·rename_i h;exfalso;clear hy hF lf iz hyp hN hM;subst hS;simp[AK] at h
   |succ k=>
    rw[xk] at hc;have hszk:=hs k (by omega);have hwk:=hw k (by omega);cbv;split
    rotate_left
    ·rename_i h;exfalso;clear hy hF lf iz hyp hN hM;subst hS;simp[AK] at h<;>omega
    cbv;refine ad hS (by clear hy hF lf iz hyp hN hM;subst hS;simp[AK];omega) ?_;refine ad hS (by clear hy hF lf iz hyp hN hM;subst hS;simp[AK];omega) ?_;refine ad hS (by clear hy hF lf iz hyp hN hM;subst hS;simp[AK];omega) ?_;simp only[A3,e8,AF,AB];refine ad hS (by clear hy hF lf iz hyp hN hM;subst hS;exact e7 (by simp[AK];omega) (by simp[AK];omega)) ?_;split
    ·have he:w k=sz k-1:=by clear hy hF lf iz hyp hN hM;subst hS;simp[AK] at*;assumption
     rw[if_pos he] at hc;cbv;refine ad hS (by clear hy hF lf iz hyp hN hM;subst hS;simp[AK];omega) ?_;simp only[A3,e8,AF,AB];refine ad hS (by clear hy hF lf iz hyp hN hM;subst hS;simp[AK];omega) ?_;refine ad hS (by clear hy hF lf iz hyp hN hM;subst hS;exact e7 (by simp[AK];omega) (by simp[AK];omega)) ?_;refine hM (k,th w k 0) _ ⟨by simp;omega,hc,fun j hj=> ?_⟩ (by simp) (bq rfl ⟨AA _,AA _,AA _,AA _,br ?_,trivial⟩ (.cons (.refl _) (.cons (.refl _) (.cons (.refl _) (.cons (.refl _) (.cons (.refl _) (.cons (Av rfl fun j hj=> ?_) (.nil _))))))) (by simp;omega) (.inr rfl) rfl)
     ·simp only[th];split
      ·rename_i e;subst e;omega
      ·exact hw j hj
     ·rw[h9p];clear hy hF lf iz hyp hN hM;subst hS;simp[AK]
     ·clear hy hF lf iz hyp hN hM;subst hS;simp only[AK,th];split
      ·exact .one (.int rfl)
      ·exact .refl _
    ·have he:w k≠sz k-1:=by clear hy hF lf iz hyp hN hM;subst hS;simp[AK] at*;assumption
     rw[if_neg he] at hc;obtain⟨q1,q2⟩:=n1 _ hc;cbv;split
     ·rename_i h;exfalso;clear hy hF lf iz hyp hN hM;subst hS;simp[AK] at h<;>omega
     cbv;refine ad hS (by clear hy hF lf iz hyp hN hM;subst hS;simp[AK];omega) ?_;simp only[A3,e8,AF,AB];refine ad hS (by clear hy hF lf iz hyp hN hM;subst hS;simp[AK];omega) ?_;refine ad hS (by clear hy hF lf iz hyp hN hM;subst hS;exact e7 (by simp[AK];omega) (by simp[AK];omega)) ?_;refine ad hS (by clear hy hF lf iz hyp hN hM;subst hS;simp[AK];omega) ?_;refine ad hS (by clear hy hF lf iz hyp hN hM;subst hS;simp[AK];omega) ?_;refine ad hS (by clear hy hF lf iz hyp hN hM;subst hS;exact e7 (by simp[AK];omega) (by simp[AK];omega)) ?_;refine hN (p+1,th w k (w k+1)) _ ⟨q2,fun j hj=>by rw[q1]⟩ (by simp;omega) (bq rfl ⟨AA _,AA _,AA _,br ?_,trivial⟩ (.cons (.refl _) (.cons (.refl _) (.cons (.refl _) (.cons (.refl _) (.cons (.refl _) (.cons (bx.g9 rfl fun j hj=> ?_) (.nil _))))))) (by simp;omega) (.inr rfl) rfl)
     ·clear hy hF lf iz hyp hN hM;subst hS;simp[AK]
     ·clear hy hF lf iz hyp hN hM;subst hS;simp only[AK,th];split<;>rfl
def g7.cell (d:Ac)(i:Nat):g8:=d.en (-1-jj d (js d.sz d.ns i) d.root).toNat
def i7m:gy×gy:=match g9y with| .seq _ (.seq (.seq _ (.block _ (.range _ _ a b))) _)=>(a,b)|_=>(.ret,.ret)
def Tk:ae:= .loop .ready (dn [(1,.ptr 0 0),(2,.ptr 1 0)] 22) [8,9] (fun ca cb=>comp AH N4.A ca=AU i7m.1/\comp AH N4.A cb=AU i7m.2)
def g7.lcs (d:Ac):List AV:=[ac d.ns d.sz,ac d.no d.od,ac d.ns d.sz,ac d.no d.od,d7 d.ne d.en,Au d.nn d.var d.nk d.dq,int d.root]
theorem i0e {d:Ac}(hl:mw d){pl u:Nat->Int}(hpu: ∀j,j<d.ns->pl j=u j)(hp:GN d pl)(hu:GN d u)(k:Int)(hk:sv d.ne k d.nn):jj d pl k=jj d u k:=by
 have: ∀(m:Nat) (k:Int),k<m->k<d.nn->jj d pl k=jj d u k:=by
  intro m
  induction m with
  |zero=>intro k hm hn;rw[Gp (by omega),Gp (by omega)]
  |succ m ih=>
   intro k hm hn;by_cases h0:k<0
   ·rw[Gp h0,Gp h0]
   ·obtain⟨i,rfl⟩: ∃i:Nat,k=i:=⟨k.toNat,by omega⟩;have hi:i<d.nn:=by omega
    have h1:=(NB hl hp hi);rw[NZ hl hp hi,NZ hl hu hi,hpu _ (by have:=h1.1;omega)];have h2:=h1.2.2;rw[hpu _ (by have:=h1.1;omega)] at h2;have hlt:d.dq i (u (d.var i).toNat).toNat<i:=by
     rcases AJ (d.dq i (u (d.var i).toNat).toNat) 0 with h|h
     ·omega
     ·exact h2.1 h
    exact ih _ (by omega) (by omega)
 rcases AJ k 0 with h|h
 ·rw[Gp h,Gp h]
 ·exact this (k.toNat+1) k (by omega) (hk.1 h)
theorem i4f (d:Ac)(hl:mw d)(hf:d.fit)(hs: ∀j,j<d.ns->1<=d.sz j/\d.sz j<=12){T:Nat}(hT:(T:Int)=dv d.sz d.ns)(hp:T<=2000):
 au AH AN 203 [d.Xa] (d7 T d.cell):=by
 have Qv:=fun pl h=>i6j d hl hf pl h;have ck:=hf.ne;have nu:=hf.ns;refine cr AC ci e9k _ rfl fun E Sg hb hS=> ?_;have e8: ∀z,Sg.toNat z=z.toNat:=by subst hS;exact fun _=>rfl
 cbv;refine Q4 hS rfl ?_;have hc:=(Ay (args:=[.agg [ac d.ns d.sz,ac d.no d.od],.yl 2]) (args':=[.agg [ac d.ns d.sz,ac d.no d.od],.yl 2]) (h:=[.var d.lcs,.var [.d .nil],Tk]) (h2:=[.var d.lcs,.var [.bi 3 2 AM 0 AN],Tk]) 2 (fun i=>(d.cell i).row) (i0o d.sz d.od (no:=d.no) nu hs (by rw[<-hT];exact At.2 hp) (fun _=> .var d.lcs) (fun p=> .var [.bi 3 2 AM p AN]) (fun _=>Tk) (fun p=> .arr 2 p fun i=>(d.cell i).row) (fun p=>rfl) ?_) ⟨.inl rfl,.inl rfl,trivial⟩ ⟨.inl rfl,.inr ⟨_,_,rfl,rfl,.inr ⟨rfl,rfl⟩,trivial⟩,.inl rfl,trivial⟩).ZP
 ·refine (ay.mono ?_ (hc.heap (.cons (AE _) (.cons (AE _) (.cons (A4 ?_ fun a b h=>h) (.nil _)))) rfl))
  ·rintro pg v h' ⟨TI,⟨rfl,q,hq,rfl⟩,rfl⟩;obtain rfl:q=T:=Int.ofNat.inj (hq.trans hT.symm);clear hc;cbv;refine⟨fun h=>(nomatch h),_,_,_,_,rfl,?_⟩;cbv;exact ad hS (by subst hS;exact Ae _) (AA _)
  ·exact L1 rfl ⟨AA _,AA _,trivial⟩
 ·intro p u Ik hu;have qk:GN d u:=fun j hj=>by rw[hu j hj];exact (HW (n:=d.ns) (fun j hj=>(hs j hj).1) p Ik).1 j hj
  obtain⟨Qu,Np⟩:=Qv u qk;have SZ:jj d (js d.sz d.ns p) d.root=jj d u d.root:=i0e hl (fun j hj=>(hu j hj).symm) (fun j hj=>by rw[<-hu j hj];exact qk j hj) qk _ (y6 hl.2.2);refine lh.cut (Mr AC ci (A:=N4.A) rfl (fun _ _ h=>h) rfl fun ro E Sg hS=> ?_);have e8: ∀z,Sg.toNat z=z.toNat:=by subst hS;exact fun _=>rfl
  clear Qv;cbv;refine⟨fun h=>(nomatch h),_,_,_,rfl,?_⟩;cbv;refine ad hS (by subst hS;exact Ae _) ?_;have hix:0<= -1-jj d u d.root/\ -1-jj d u d.root<d.ne:=⟨by have:=Qu.1;omega,Qu.2 (by have:=Qu.1;omega)⟩;obtain⟨W,hW⟩:=xA (-1-jj d u d.root);have jk:d.cell p=d.en W.toNat:=by rw[<-hW];exact congrArg (fun z=>d.en (-1-z).toNat) SZ
  rw[hW] at Np hix;have hpT:p<T:=by have h:=Ik;rw[<-hT] at h;exact AI.1 h
  refine bf hS _ Np ?_;cbv;refine ad hS (by subst hS;rfl) (ad hS (by subst hS;rfl) (ad hS (by clear Np;subst hS;exact hix) (ad hS (by subst hS;rfl) (ad hS trivial (ad hS (by clear Np;subst hS;simp[AK];omega) ?_)))));refine⟨fun h=>(nomatch h),_,_,_,rfl,[3],?_,?_⟩
  ·exact fun m _ h=>h
  ·cbv;refine⟨[.var d.lcs,.var [.bi 3 2 AM (p+1) AN],Tk,.arr 2 (p+1) fun i=>(d.cell i).row,.var [ac d.ns d.sz,ac d.no d.od],g9 d.ns u],.d (.bool AP),?_,AA _,by simp,.inr ?_,rfl,rfl,rfl⟩
   ·refine .cons (AE _) (.cons (bx.var (.cons ?_ .nil)) (.cons (A4 (L1 rfl ⟨AA _,AA _,trivial⟩) fun a b h=>h) (.cons (bx.Yc ?_ ?_) (.cons (AE _) (.cons (AE _) (.nil _))))))
    ·subst hS;exact AA _
    ·subst hS;rfl
    ·intro i hi;subst hS;simp only[AK] at hi⊢;by_cases h:i<p
     ·rw[if_pos h]
     ·obtain rfl:i=p:=by omega
      rw[if_neg (by omega),Nat.sub_self,jk];rfl
   ·rfl
theorem i5u (d:Ac)(hf:d.fit)(h0: ∀i,i<d.ne->0<=(d.en i).fault)(jn:d.no<=12)(r:Int)(hr:s8 d=r)(v:AV)
 (hv:(r≠0/\v= .d .nil)\/(r=0/\ ∃T:Nat,(T:Int)=dv d.sz d.ns/\v=d7 T d.cell)):au AH AN 170 [d.av] (.tuple [v,int r]):=by
 obtain⟨w,hw,ho⟩:=i1u d hf h0 jn r hr;by_cases hz:r=0
 ·subst hz;obtain⟨⟨k1,k2,k3⟩,k4⟩:(pr d.ns d.no d.sz d.od=0/\d.nn<=6000/\mw d)/\Io d:=⟨Tj (U6 hr).1,(U6 hr).2⟩;obtain⟨f1,f2,f3,f4⟩:=IU k1;obtain⟨_,T,hT,rfl⟩:=hv.resolve_left fun h=>h.1 rfl;obtain rfl:=hw.resolve_right fun h=>h.1 k1;have hl:=i4f d k3 hf f2 hT (At.1 (by rw[<-hT] at f3;exact f3));clear hw hv hr k1 k2 k3 k4 f1 f2 f3 f4;refine cr AC ci e9e _ rfl fun E Sg hb hS=> ?_;cbv;refine bf hS _ ho ?_;cbv;split
  ·rename_i h;exfalso;clear ho hl;subst hS;simp[AK] at h
  cbv;refine bf hS _ hl ?_;cbv;exact Ad (.cons (AA _) (.cons (bg rfl) .nil))
 ·obtain⟨_,rfl⟩:=hv.resolve_right fun h=>hz h.1;clear hv hr;rcases hw with rfl|⟨_,rfl⟩<;>
  ·refine cr AC ci e9e _ rfl fun E Sg hb hS=> ?_;cbv;refine bf hS _ ho ?_;cbv;split
   rotate_left
   ·rename_i h;exfalso;clear ho;subst hS;simp[AK,hz] at h
   cbv;exact Ad (.cons (AA _) (.cons (br rfl) .nil))
end Go.Proofs.Tryz.Run
