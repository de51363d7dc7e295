/- The program's list of a diagram. Conditions: none. -/
import Derived.Test.YtbglklaocjifhaaGreatFSj
open Go.Vf.a0x renaming refl->AA
open Int renaming toNat_natCast->AB,ofNat_eq_natCast->AF,ofNat_lt->AI,lt_or_le->AJ,ofNat->AP,natCast_nonneg->AT,ofNat_le->Ax,add_mul->A3
open Go.Vf.a9v renaming refl->AC,arrr->Aq,map->Aw,loop->A5
open Go.Proofs.YtbglklaocjifhaaGreat.Tryz renaming mixed->AD
open Go.Proofs.Tryz.Run.Law renaming mkNode->AE,mkEnd->AM,at1->AS,Mk->AU,kidsF->AY,frm->AZ,learn->Ak,onceE_not->As,onceE_mem->At,at1_not->Az,flatL->A4
open List renaming getElem?_eq_getElem->AG,length_nil->AR,length_cons->Aa,range->Ac,getElem?_append_right->Ag,getElem?_eq_some_iff->Ah,getElem?_append_left->Ai,getD->Aj,mem_of_getElem?->Al,length_append->An,filter_append->Ao,cons_append->Ap,length->Av
open Go.Proofs.Tryz renaming prog->AH
open Go.Vf renaming std->AK,nat->A6
open Option renaming none->AN,some->AW
open Bool renaming false->AO,true->AQ,noConfusion->AX
open Go.Vf.a1h renaming frame->Ab,nilH->Ar
open Go.Vf.a3x renaming tuple->Ad
open Go.Proofs.Tryz.Run renaming DiR->Ae,NdR->Am,bsl->Ay
open Nat renaming le_refl->Af,le_trans->Au
set_option linter.unusedSimpArgs false
set_option linter.unusedVariables false
set_option maxHeartbeats 0
namespace Go.Proofs.Tryz.Run
open Go Go.Vf Go.Proofs
open Go.Proofs.YtbglklaocjifhaaGreat
namespace Law
theorem nodup_sub {α:Type}[DecidableEq α]: ∀{l m:List α},l.Nodup->(∀x,x∈l->x∈m)->l.length<=m.length
 |[],m,_,_=>by simp
 |x::l,m,hn,h=>by
  obtain⟨h1,h2⟩:=List.nodup_cons.1 hn;have hx:=h x (by simp);have:=nodup_sub (m:=m.erase x) h2 fun y hy=>by have hne:y≠x:=fun e=>h1 (e▸hy);exact (List.mem_erase_of_ne hne).2 (h y (by simp[hy]))
  rw[List.length_erase_of_mem hx] at this;have:0<m.length:=List.length_pos_of_mem hx;simp;omega
section
variable (E:List VaR) (N:List Am)
def okT (ne nn:Nat)(t:Int):Prop:= -1-(ne:Int)<=t/\t<=nn
structure GoodM (nn:Nat)(shp:Am->Prop)(s:Mk):Prop where
 oe:s.oe.Nodup
 sub: ∀v,v∈s.oe->v∈E
 on:s.on.length<=((Ac nn).filter fun i=>(s.kn i).isSome).length
 sh: ∀b,b∈s.on->shp b
 kn: ∀i t,s.kn i=AW t->okT E.length nn t
variable {E N}
theorem GoodM.oeLen {nn:Nat}{shp:Am->Prop}{s:Mk}(h:GoodM E nn shp s):s.oe.length<=E.length:=nodup_sub h.oe h.sub
theorem GoodM.onLen {nn:Nat}{shp:Am->Prop}{s:Mk}(h:GoodM E nn shp s):s.on.length<=nn:=by have h1:=h.on;have h2:=List.length_filter_le (fun i=>(s.kn i).isSome) (Ac nn);simp at h2;omega
theorem GoodM.mkEnd {nn:Nat}{shp:Am->Prop}{s:Mk}(h:GoodM E nn shp s){v:VaR}(hv:v∈E):GoodM E nn shp (mkEnd s v).1/\okT E.length nn (mkEnd s v).2:=by
 refine⟨⟨nodup_onceE h.oe v,fun w hw=> ?_,h.on,h.sh,h.kn⟩,?_⟩
 ·simp only[AM,onceE] at hw;split at hw
  ·exact h.sub w hw
  ·simp at hw;rcases hw with hw|rfl
   ·exact h.sub w hw
   ·exact hv
 ·have h1:=at1_le s.oe v;have h2:=h.oeLen;simp only[okT,AM];omega
theorem h8w (u:Nat->Bool)(x:Nat)(hx:u x=AO): ∀nc,((Ac nc).filter fun k=>if k=x then AQ else u k).length=((Ac nc).filter u).length+(if x<nc then 1 else 0):=by
 intro nc
 induction nc with
 |zero=>simp
 |succ n ih=>
  rw[List.range_succ,Ao,Ao,An,An,ih];by_cases e:n=x
  ·subst e;simp[hx]
  ·have:(x<n+1)=(x<n):=by simp;omega
   simp only[this];cases hu:u n<;>simp[e,hu]<;>omega
theorem h7f (kn:Nat->Option Int)(x:Nat)(z:Int)(hx:kn x=AN): ∀nn,((Ac nn).filter fun i=>(if i=x then AW z else kn i).isSome).length=((Ac nn).filter fun i=>(kn i).isSome).length+(if x<nn then 1 else 0):=by
 intro nn;have:=h8w (fun i=>(kn i).isSome) x (by simp[hx]) nn;rw[<-this];congr 1;apply List.filter_congr;intro i _;by_cases e:i=x
 ·simp[e]
 ·simp[e]
theorem frm_good {nn:Nat}(hN:N.length=nn){shp:Am->Prop}(hloose: ∀(i:Nat) (b:Am),N[i]? =AW b-> ∀k,k∈b.kids->okRef E k i)(hshp: ∀(i:Nat) (b:Am),N[i]? =AW b->1<=b.kids.length/\ ∀l:List Int,l.length=b.kids.length->shp ⟨b.var,l⟩):
 ∀(f:Nat) (ref:Int) (s:Mk),ref<f->okRef E ref nn->GoodM E nn shp s->GoodM E nn shp (frm E N f ref s).1/\okT E.length nn (frm E N f ref s).2/\ ∀j:Nat,ref<j->(frm E N f ref s).1.kn j=s.kn j
 |0,ref,s,hf,hr,hs=>by
  have h0:ref<0:=by omega
  obtain⟨v,hv⟩: ∃v,E[(-1-ref).toNat]? =AW v:=⟨_,AG (hr.2 h0)⟩;rw[frm,if_pos h0,hv];have h1:=hs.mkEnd (Al hv);exact⟨h1.1,h1.2,fun j _=>rfl⟩
 |f+1,ref,s,hf,hr,hs=>by
  by_cases h0:ref<0
  ·obtain⟨v,hv⟩: ∃v,E[(-1-ref).toNat]? =AW v:=⟨_,AG (hr.2 h0)⟩;rw[frm,if_pos h0,hv];have h1:=hs.mkEnd (Al hv);exact⟨h1.1,h1.2,fun j _=>rfl⟩
  obtain⟨i,rfl⟩: ∃i:Nat,ref=i:=⟨ref.toNat,by omega⟩;have hi:i<nn:=by have:=hr.1 (by omega);omega
  obtain⟨b,hb⟩: ∃b,N[i]? =AW b:=⟨_,AG (by omega)⟩;rw[frm,if_neg h0];simp only[AB,hb];cases hk:s.kn i with
  |some t=>exact⟨hs,hs.kn i t hk,fun j _=>rfl⟩
  |none=>
   simp only;have key: ∀(l:List Int),(∀k,k∈l->okRef E k i)-> ∀p:Mk×List Int,GoodM E nn shp p.1->(∀t,t∈p.2->okT E.length nn t)->
    GoodM E nn shp (kidsF E N f l p).1/\(∀t,t∈(kidsF E N f l p).2->okT E.length nn t)/\(kidsF E N f l p).2.length=p.2.length+l.length/\ ∀j:Nat,i<=j->(kidsF E N f l p).1.kn j=p.1.kn j:=by
    intro l
    induction l with
    |nil=>intro _ p h1 h2;exact⟨h1,h2,by simp[kidsF],fun j _=>rfl⟩
    |cons k l ih=>
     intro hl p h1 h2;have hki:=hl k (by simp);have hkf:k<f:=by
      rcases AJ k 0 with h|h
      ·omega
      ·have:=hki.1 h;omega
     have h3:=frm_good hN hloose hshp f k p.1 hkf ⟨fun h=>by have:=hki.1 h;omega,hki.2⟩ h1;have h4:=ih (fun k hk=>hl k (by simp[hk])) ((frm E N f k p.1).1,p.2++[(frm E N f k p.1).2]) h3.1 (fun t ht=>by
      simp at ht;rcases ht with ht|rfl
      ·exact h2 t ht
      ·exact h3.2.1)
     refine⟨h4.1,h4.2.1,?_,fun j hj=> ?_⟩
     ·have:=h4.2.2.1;simp at this;show (kidsF E N f l ((frm E N f k p.1).1,p.2++[(frm E N f k p.1).2])).2.length=_;rw[this];simp;omega
     ·have h5:=h4.2.2.2 j hj;have h6:=h3.2.2 j (by
       rcases AJ k 0 with h|h
       ·omega
       ·have:=hki.1 h;omega)
      exact h5.trans h6
   obtain⟨h1,h2,h3,h4⟩:=key b.kids (hloose i b hb) (s,[]) hs (by simp);simp only[AR,Nat.zero_add] at h3;obtain⟨hb1,hb2⟩:=hshp i b hb;change GoodM E nn shp (learn (AE (kidsF E N f b.kids (s,[])).1 ⟨b.var,(kidsF E N f b.kids (s,[])).2⟩).1 i (AE (kidsF E N f b.kids (s,[])).1 ⟨b.var,(kidsF E N f b.kids (s,[])).2⟩).2)/\okT E.length nn (AE (kidsF E N f b.kids (s,[])).1 ⟨b.var,(kidsF E N f b.kids (s,[])).2⟩).2/\ ∀j:Nat,(i:Int)<j->(learn (AE (kidsF E N f b.kids (s,[])).1 ⟨b.var,(kidsF E N f b.kids (s,[])).2⟩).1 i (AE (kidsF E N f b.kids (s,[])).1 ⟨b.var,(kidsF E N f b.kids (s,[])).2⟩).2).kn j=s.kn j;generalize kidsF E N f b.kids (s,[])=r at h1 h2 h3 h4;have hkn:r.1.kn i=AN:=(h4 i (Af i)).trans hk;have hT:okT E.length nn (AE r.1 ⟨b.var,r.2⟩).2:=by
    unfold AE;split
    ·cases hr2:r.2 with
     |nil=>rw[hr2] at h3;simp at h3;omega
     |cons x l=>exact h2 x (by rw[hr2];simp)
    ·have:=at1_le r.1.on ⟨b.var,r.2⟩;have:=h1.onLen;simp only[okT];omega
   have hkeep:(AE r.1 ⟨b.var,r.2⟩).1.kn=r.1.kn/\(AE r.1 ⟨b.var,r.2⟩).1.oe=r.1.oe:=by unfold AE;split<;>exact⟨rfl,rfl⟩
   have hlen:(AE r.1 ⟨b.var,r.2⟩).1.on.length<=r.1.on.length+1:=by
    unfold AE onceE;split
    ·simp
    ·simp only;split<;>simp
   have hsh: ∀c,c∈(AE r.1 ⟨b.var,r.2⟩).1.on->shp c:=by
    intro c hc;unfold AE onceE at hc;split at hc
    ·exact h1.sh c hc
    ·simp only at hc;split at hc
     ·exact h1.sh c hc
     ·simp at hc;rcases hc with hc|rfl
      ·exact h1.sh c hc
      ·exact hb2 r.2 h3
   generalize AE r.1 ⟨b.var,r.2⟩=m at hT hkeep hlen hsh;refine⟨⟨by simp only[learn];rw[hkeep.2];exact h1.oe,fun v hv=>h1.sub v (by simpa only[learn,hkeep.2] using hv),?_,hsh,fun j t hj=> ?_⟩,hT,fun j hj=> ?_⟩
   ·simp only[learn];rw[hkeep.1,h7f r.1.kn i m.2 hkn nn,if_pos hi];have:=h1.on;omega
   ·simp only[learn] at hj;split at hj
    ·cases hj;exact hT
    ·rw[hkeep.1] at hj;exact h1.kn j t hj
   ·simp only[learn];rw[if_neg (by omega),hkeep.1];exact h4 j (by omega)
end
end Law
structure Rep (shp:Am->Prop)(s:AU)(q1 q2:Nat)(f1 f2:List KC->Option Int)(e1 e2:Nat->List DV)(fk:List KC->Option Int):Prop where
 q1:q1=s.oe.length
 q2:q2=s.on.length
 f1: ∀v:VaR,f1 [.i v.fault,.i v.n]=if v∈s.oe then AW (AS s.oe v:Int) else AN
 f2: ∀(ch:Int) (n:Nat) (u:Nat->Int),shp ⟨ch,L n u⟩->f2 (h4j ch n u)=if (⟨ch,L n u⟩:Am)∈s.on then AW (AS s.on ⟨ch,L n u⟩:Int) else AN
 e1: ∀i v,s.oe[i]? =AW v->e1 i=v.row
 e2: ∀i b,s.on[i]? =AW b-> ∃n u,b.kids=L n u/\e2 i=[.int .i64 (.v b.var),.sl 1 n fun j=>[.int .i64 (.v (u j))]]
 fk: ∀i:Nat,fk [.i (i:Int)]=s.kn i
theorem h8h {α:Type}[DecidableEq α]: ∀{l:List α} {x y:α},y∈l->AS (l++[x]) y=AS l y
 |[],_,_,h=>by simp at h
 |z::l,x,y,h=>by
  simp only[Ap,AS];split
  ·rfl
  ·rename_i hz;simp at h;rcases h with h|h
   ·exact absurd h.symm hz
   ·rw[h8h h]
theorem h8v {α:Type}[DecidableEq α]: ∀{l:List α} {x:α},x∉l->AS (l++[x]) x=l.length
 |[],x,_=>by simp[AS]
 |z::l,x,h=>by simp at h;simp only[Ap,AS];rw[if_neg (fun e=>h.1 e.symm),h8v h.2];rfl
theorem VaR.key_inj {v w:VaR}(h:[KC.i v.fault,KC.i v.n]=[KC.i w.fault,KC.i w.n]):v=w:=by obtain⟨a,b⟩:=v;obtain⟨c,d⟩:=w;simp at h;rw[h.1,h.2]
theorem Rep.mkEnd {shp:Am->Prop}{s:AU}{q1 q2:Nat}{f1 f2:List KC->Option Int}{e1 e2:Nat->List DV}{fk:List KC->Option Int}(h:Rep shp s q1 q2 f1 f2 e1 e2 fk)(c:VaR):
 (∀z,f1 [.i c.fault,.i c.n]=AW z->z=AS s.oe c/\Rep shp (AM s c).1 q1 q2 f1 f2 e1 e2 fk)/\
 (f1 [.i c.fault,.i c.n]=AN->AS s.oe c=q1/\Rep shp (AM s c).1 (q1+1) q2 (fun k=>if k=[.i c.fault,.i c.n] then AW (q1:Int) else f1 k) f2 (fun i=>if i<q1 then e1 i else c.row) e2 fk):=by
 have hf:=h.f1 c;constructor
 ·intro z hz;rw[hz] at hf;split at hf
  ·rename_i hm;cases hf;refine⟨rfl,?_⟩;have:(AM s c).1=s:=by simp only[AM,At hm]
   rw[this];exact h
  ·cases hf
 ·intro hz;rw[hz] at hf;split at hf
  ·cases hf
  ·rename_i hm;have hq:=h.q1;have e0:(AM s c).1={s with oe:=s.oe++[c]}:=by simp only[AM,As hm]
   rw[e0];refine⟨by rw[hq];exact Az hm,⟨by simp[hq],h.q2,fun v=> ?_,h.f2,fun i v hi=> ?_,h.e2,h.fk⟩⟩
   ·simp only;by_cases e:v=c
    ·subst e;rw[if_pos rfl,if_pos (by simp),h8v hm,hq]
    ·rw[if_neg (fun k=>e (VaR.key_inj k)),h.f1 v];by_cases hv:v∈s.oe
     ·rw[if_pos hv,if_pos (by simp[hv]),h8h hv]
     ·rw[if_neg hv,if_neg (by simp[hv,e])]
   ·simp only at hi⊢;by_cases hlt:i<q1
    ·rw[if_pos hlt];rw[Ai (by omega)] at hi;exact h.e1 i v hi
    ·rw[if_neg hlt];rw[Ag (by omega)] at hi;have:i-s.oe.length=0:=by have:=(Ah.1 hi).1;simp at this;omega
     rw[this] at hi;simp at hi;rw[hi]
theorem i2m {ch ch':Int}{n m:Nat}{u w:Nat->Int}(hn:n<=12)(hnm:ch=ch'->n=m)(h:h4j ch n u=h4j ch' m w):ch=ch'/\L n u=L m w:=by
 simp only[h4j,List.cons.injEq,KC.i.injEq,and_true] at h;obtain⟨h0,a0,a1,a2,a3,a4,a5,a6,a7,a8,a9,a10,a11⟩:=h;have:=hnm h0;subst this;refine⟨h0,h4v fun j hj=> ?_⟩;have key: ∀j,j<12->(if j<n then u j else 0)=(if j<n then w j else 0):=fun j hj=>by
  match j,hj with
  |0,_=>exact a0
  |1,_=>exact a1
  |2,_=>exact a2
  |3,_=>exact a3
  |4,_=>exact a4
  |5,_=>exact a5
  |6,_=>exact a6
  |7,_=>exact a7
  |8,_=>exact a8
  |9,_=>exact a9
  |10,_=>exact a10
  |11,_=>exact a11
 have:=key j (by omega);rw[if_pos hj,if_pos hj] at this;exact this
def i5a (shp:Am->Prop):Prop:=(∀b,shp b->b.kids.length<=12)/\ ∀b c,shp b->shp c->b.var=c.var->b.kids.length=c.kids.length
theorem Rep.mkNode {shp:Am->Prop}(hsp:i5a shp){s:AU}{q1 q2:Nat}{f1 f2:List KC->Option Int}{e1 e2:Nat->List DV}{fk:List KC->Option Int}(h:Rep shp s q1 q2 f1 f2 e1 e2 fk)(ch:Int)(n:Nat)(u:Nat->Int)(hs:shp ⟨ch,L n u⟩)
 (hfl: ¬A4 (L n u)):
 (∀z,f2 (h4j ch n u)=AW z->z=(AE s ⟨ch,L n u⟩).2/\Rep shp (AE s ⟨ch,L n u⟩).1 q1 q2 f1 f2 e1 e2 fk)/\
 (f2 (h4j ch n u)=AN->(q2:Int)=(AE s ⟨ch,L n u⟩).2/\Rep shp (AE s ⟨ch,L n u⟩).1 q1 (q2+1) f1 (fun k=>if k=h4j ch n u then AW (q2:Int) else f2 k) e1 (fun i=>if i<q2 then e2 i else [.int .i64 (.v ch),.sl 1 n fun j=>[.int .i64 (.v (u j))]]) fk):=by
 have hf:=h.f2 ch n u hs;have hmk:AE s ⟨ch,L n u⟩=({s with on:=Law.onceE s.on ⟨ch,L n u⟩},(AS s.on ⟨ch,L n u⟩:Int)):=by rw[AE,if_neg hfl]
 rw[hmk];constructor
 ·intro z hz;rw[hz] at hf;split at hf
  ·rename_i hm;cases hf;refine⟨rfl,?_⟩;simp only[At hm];exact h
  ·cases hf
 ·intro hz;rw[hz] at hf;split at hf
  ·cases hf
  ·rename_i hm;have hq:=h.q2;simp only[As hm];refine⟨by rw[hq,Az hm],⟨h.q1,by simp[hq],h.f1,fun c m w hw=> ?_,h.e1,fun i b hi=> ?_,h.fk⟩⟩
   ·simp only;by_cases e:h4j c m w=h4j ch n u
    ·have hl:=hsp.2 ⟨c,L m w⟩ ⟨ch,L n u⟩ hw hs;simp only[h3u] at hl;have hm12:=hsp.1 ⟨c,L m w⟩ hw;simp only[h3u] at hm12;obtain⟨e1,e2⟩:=i2m hm12 hl e;rw[if_pos e,e1,e2,if_pos (by simp),h8v hm,hq]
    ·have hne:(⟨c,L m w⟩:Am)≠⟨ch,L n u⟩:=fun k=>by
      injection k with k1 k2
      apply e;have hl:m=n:=by simpa [h3u] using congrArg Av k2
      subst hl;subst k1;unfold h4j;have: ∀j,(if j<m then w j else 0)=(if j<m then u j else 0):=fun j=>by
       by_cases hj:j<m
       ·have:=congrArg (fun l=>l[j]?) k2;rw[if_pos hj,if_pos hj];simpa [L,hj] using this
       ·rw[if_neg hj,if_neg hj]
      simp only[this]
     rw[if_neg e,h.f2 c m w hw];by_cases hv:(⟨c,L m w⟩:Am)∈s.on
     ·rw[if_pos hv,if_pos (by simp[hv]),h8h hv]
     ·rw[if_neg hv,if_neg (by simp only[List.mem_append,hv,List.mem_singleton,hne,or_self,not_false_eq_true])]
   ·simp only at hi⊢;by_cases hlt:i<q2
    ·rw[if_pos hlt];rw[Ai (by omega)] at hi;exact h.e2 i b hi
    ·rw[if_neg hlt];rw[Ag (by omega)] at hi;have:i-s.on.length=0:=by have:=(Ah.1 hi).1;simp at this;omega
     rw[this] at hi;simp at hi;rw[<-hi];exact⟨n,u,rfl,rfl⟩
def clH (d:Ae)(q1 q2:Nat)(f1 f2:List KC->Option Int)(e1 e2:Nat->List DV)(c:Nat)(fk:List KC->Option Int):List a0f:=
 [.var [isl d.ns d.sz,isl d.no d.od,isl d.ns d.sz,isl d.no d.od,.msl 3 2 AN q1 AO,.msl 4 2 AN q2 AO,int 0,.map 1,.map 2],.map AQ [.u8,.i64] q1 f1,.map AQ i4j q2 f2,.arr 2 q1 e1,.arr 2 q2 e2,
   .var [.ptr 0 0],.var [isl d.ns d.sz,isl d.no d.od,isl d.ns d.sz,isl d.no d.od,vsl d.ne d.en,Ay d.nn d.var d.nk d.kid,int d.root],.map AO [.i64] c fk,.var [.map 7],.var [.fn 237 [] [.ptr 5 0,.ptr 6 0,.ptr 8 0,.ptr 9 0]]]
def clK (d:Ae)(shp:Am->Prop)(s:AU)(t:Int)(pg:List Nat)(v:AV)(h':List a0f):Prop:=
 pg=[3,4]/\ ∃q1 q2 f1 f2 e1 e2 c fk,Rep shp s q1 q2 f1 f2 e1 e2 fk/\v=int t/\h'=clH d q1 q2 f1 f2 e1 e2 c fk
structure DiR.tame (d:Ae)(shp:Am->Prop):Prop where
 fit:d.fit
 cell: ∀i,i<d.ne->(0<=(d.en i).fault/\(d.en i).fault<=4)/\ -9999<=(d.en i).n/\(d.en i).n<=9999
 kids:h6m d
 var: ∀i,i<d.nn->0<=d.var i/\d.var i<=1000000
 nk: ∀i,i<d.nn->1<=d.nk i/\d.nk i<=12
 shape: ∀i,i<d.nn-> ∀l:List Int,l.length=d.nk i->shp ⟨d.var i,l⟩
 ok:i5a shp
theorem i5y: ∀l:Nat,l∈[3]->l∈[3,4]:=by simp
theorem h7s (d:Ae)(shp:Am->Prop)(hd:d.tame shp)(kid:Int)(h0:kid<0)(hr: -1-kid<d.ne)(s:AU)(hg:Law.GoodM d.E d.nn shp s){q1 q2:Nat}{f1 f2:List KC->Option Int}{e1 e2:Nat->List DV}(c:Nat){fk:List KC->Option Int}(hrep:Rep shp s q1 q2 f1 f2 e1 e2 fk):
 a1h AH 237 [int kid,.ptr 5 0,.ptr 6 0,.ptr 8 0,.ptr 9 0] (clH d q1 q2 f1 f2 e1 e2 c fk) (clK d shp (AM s (d.en (-1-kid).toNat)).1 (AM s (d.en (-1-kid).toNat)).2):=by
 obtain⟨j,hj⟩: ∃j:Nat,-1-kid=j:=⟨(-1-kid).toNat,by omega⟩;have hjn:j<d.ne:=by omega
 have hne:=hd.fit.ne;have hqE:d.E.length=d.ne:=h3u _ _;have hoe:=hg.oeLen;rw[hqE] at hoe;have he:=h9k kid (by omega) (by omega);rw[hj] at he⊢;simp only[AB];have hce:=hd.cell j hjn;have hrp:=hrep.mkEnd (d.en j);have hq1:=hrep.q1;have hin:=i6d (ns:=d.ns) (no:=d.no) d.sz d.od (q1:=q1) (q2:=q2) (by omega) f1 f2 e1 e2 (d.en j) (fun z hz=>by
  have h1:=(hrp.1 z hz).1;have h2:=Law.at1_le s.oe (d.en j);omega) hce
 have hval:(AM s (d.en j)).2= -1-(AS s.oe (d.en j):Int):=rfl;generalize hM:(AM s (d.en j)).1=M at hrp⊢;rw[hval];clear hval hM hrep hg hce hoe hqE;obtain⟨ns,sz,no,od,ne,en,nn,var,nk,kd,root⟩:=d;simp only at hjn hin hrp;have hk3:kid= -1-(j:Int):=by omega
 clear hr hd;refine h3w AD okP e9z rfl fun E Sg hb hS F hF=> ?_;simp only[clH,Aa,AR] at hb;have ett: ∀z,Sg.toNat z=z.toNat:=by subst hS;exact fun _=>rfl
 cbv;split
 rotate_left
 ·rename_i h;exfalso;clear hin he hrp hF;subst hS;simp[AK] at h;omega
 cbv;refine a0v hS (int (j:Int)) (by subst hS;exact he) ?_;cbv
 repeat' (with_reducible apply a1g hS)
 all_goals try (clear hin he hrp hF;subst hS;first|(simp[AK];done)|exact⟨AT j,AI.2 hjn⟩)
 simp only[A6,ett,AF,AB];refine h3v hS (Ab hin [0,1,2,3,4] rfl rfl ⟨AC _,AC _,AC _,AC _,AC _,trivial⟩) ?_;rintro pg v H' ⟨pg0,v0,h0,⟨rfl,⟨z,k1,rfl,rfl⟩|⟨k1,rfl,rfl⟩⟩,rfl,rfl,rfl⟩
 ·obtain⟨w1,w2⟩:=hrp.1 z k1;cbv
  repeat' (with_reducible apply a1g hS)
  all_goals try (clear hin he hrp hF;subst hS;simp[AK];done)
  refine⟨[3,4],fun l _ h=>i5y l h,hF (h1:=clH ⟨ns,sz,no,od,ne,en,nn,var,nk,kd,root⟩ q1 q2 f1 f2 e1 e2 c fk) (.same _) (v0:=int (-1-(AS s.oe (en j):Int))) (b0a (congrArg (fun y:Int=> -1-y) w1)) (by simp[clH]) (.inr rfl) ⟨rfl,_,_,_,_,_,_,_,_,w2,rfl,rfl⟩⟩
 ·obtain⟨w1,w2⟩:=hrp.2 k1;cbv
  repeat' (with_reducible apply a1g hS)
  all_goals try (clear hin he hrp hF;subst hS;simp[AK];done)
  refine⟨[3,4],fun l _ h=>i5y l h,hF (h1:=clH ⟨ns,sz,no,od,ne,en,nn,var,nk,kd,root⟩ (q1+1) q2 (fun k=>if k=[.i (en j).fault,.i (en j).n] then AW (q1:Int) else f1 k) f2 (fun i=>if i<q1 then e1 i else (en j).row) e2 c fk) (.same _) (v0:=int (-1-(AS s.oe (en j):Int))) (b0a (congrArg (fun y:Nat=> -1-(y:Int)) w1.symm)) (by simp[clH]) (.inr rfl) ⟨rfl,_,_,_,_,_,_,_,_,w2,rfl,rfl⟩⟩
theorem Rep.learn {shp:Am->Prop}{s:AU}{q1 q2:Nat}{f1 f2:List KC->Option Int}{e1 e2:Nat->List DV}{fk:List KC->Option Int}(h:Rep shp s q1 q2 f1 f2 e1 e2 fk)(i:Nat)(t:Int):
 Rep shp (Ak s i t) q1 q2 f1 f2 e1 e2 (fun k=>if k=[.i (i:Int)] then AW t else fk k):=
 ⟨h.q1,h.q2,h.f1,h.f2,h.e1,h.e2,fun j=>by
   simp only[Ak];by_cases e:j=i
   ·subst e;simp
   ·have hne:(j:Int)≠(i:Int):=by omega
    have: ¬([KC.i (j:Int)]=[KC.i (i:Int)]):=fun k=>hne (by simpa using k);rw[if_neg this,if_neg e];exact h.fk j⟩
theorem i1t (d:Ae){f:Nat}{kid:Int}(h:kid<0)(hr: -1-kid<d.ne)(s:AU):AZ d.E d.N f kid s=AM s (d.en (-1-kid).toNat):=by
 have he:d.E[(-1-kid).toNat]? =AW (d.en (-1-kid).toNat):=by rw[DiR.E,h9t,if_pos (by omega)]
 cases f<;>rw[AZ,if_pos h,he]
structure CSt where
 k:Nat
 u:Nat->Int
 s:AU
 q1:Nat
 q2:Nat
 f1:List KC->Option Int
 f2:List KC->Option Int
 e1:Nat->List DV
 e2:Nat->List DV
 c:Nat
 fk:List KC->Option Int
theorem i2v (d:Ae)(shp:Am->Prop)(hd:d.tame shp): ∀(f:Nat) (kid:Int) (s:AU) (q1 q2:Nat) (f1 f2:List KC->Option Int) (e1 e2:Nat->List DV) (c:Nat) (fk:List KC->Option Int),kid<f->h4k d.ne kid d.nn->
 Law.GoodM d.E d.nn shp s->Rep shp s q1 q2 f1 f2 e1 e2 fk->
 a1h AH 237 [int kid,.ptr 5 0,.ptr 6 0,.ptr 8 0,.ptr 9 0] (clH d q1 q2 f1 f2 e1 e2 c fk) (clK d shp (AZ d.E d.N f kid s).1 (AZ d.E d.N f kid s).2):=by
 intro f
 induction f with
 |zero=>
  intro kid s q1 q2 f1 f2 e1 e2 c fk hf hr hg hrep;have h0:kid<0:=by omega
  rw[i1t d h0 (hr.2 h0)];exact h7s d shp hd kid h0 (hr.2 h0) s hg c hrep
 |succ f ih=>
  intro kid s q1 q2 f1 f2 e1 e2 c fk hf hr hg hrep;by_cases h0:kid<0
  ·rw[i1t d h0 (hr.2 h0)];exact h7s d shp hd kid h0 (hr.2 h0) s hg c hrep
  obtain⟨i,rfl⟩: ∃i:Nat,kid=i:=⟨kid.toNat,by omega⟩;have hi:i<d.nn:=by have:=hr.1 (by omega);omega
  have hnn:=hd.fit.nn;have hfk:=hrep.fk i;have hfrm:AZ d.E d.N (f+1) i s=match s.kn i with
   |some t=>(s,t)
   |none=>(Ak (AE (AY d.E d.N f (L (d.nk i) (d.kid i)) (s,[])).1 ⟨d.var i,(AY d.E d.N f (L (d.nk i) (d.kid i)) (s,[])).2⟩).1 i (AE (AY d.E d.N f (L (d.nk i) (d.kid i)) (s,[])).1 ⟨d.var i,(AY d.E d.N f (L (d.nk i) (d.kid i)) (s,[])).2⟩).2,
     (AE (AY d.E d.N f (L (d.nk i) (d.kid i)) (s,[])).1 ⟨d.var i,(AY d.E d.N f (L (d.nk i) (d.kid i)) (s,[])).2⟩).2):=by
   have hb:d.N[(i:Int).toNat]? =AW (d.nd i):=by rw[AB,DiR.N,h9t,if_pos hi]
   rw[AZ,if_neg h0,hb];simp only[AB];rfl
  rw[hfrm];clear hfrm;cases hk:s.kn i with
  |some t=>
   simp only;rw[hk] at hfk;obtain⟨ns,sz,no,od,ne,en,nn,var,nk,kd,root⟩:=d;simp only at hi hnn;clear ih hd hg;refine h3w AD okP e9z rfl fun E Sg hb hS F hF=> ?_;simp only[clH,Aa,AR] at hb;have hh:Sg.mhas fk [.i (AP i)]=AQ:=by subst hS;show (fk [.i (i:Int)]).isSome=AQ;rw[hfk];rfl
   have hgt:Sg.mget fk [.i (AP i)]=t:=by subst hS;show (fk [.i (i:Int)]).getD 0=t;rw[hfk];rfl
   cbv;split
   ·rename_i h;exfalso;clear hF hrep;subst hS;simp[AK] at h<;>omega
   cbv;simp only[hh,hgt];cbv;refine a1g hS (by clear hF hrep;subst hS;exact b6g (by simp<;>omega) (by simp<;>omega)) ?_;refine⟨[3,4],by simp,hF (h1:=clH ⟨ns,sz,no,od,ne,en,nn,var,nk,kd,root⟩ q1 q2 f1 f2 e1 e2 c fk) (.same _) (v0:=int t) (AA _) (by simp[clH]) (.inr rfl) ⟨rfl,_,_,_,_,_,_,_,_,hrep,rfl,rfl⟩⟩
  |none=>
   simp only;rw[hk] at hfk;have hgood:=Law.frm_good (E:=d.E) (N:=d.N) (nn:=d.nn) (h3u _ _) (shp:=shp) hd.kids.loose (fun j b hb=>by
    rw[DiR.N,h9t] at hb;split at hb
    ·rename_i hj;cases hb;refine⟨by simp only[DiR.nd,h3u];exact (hd.nk j hj).1,fun l hl=>hd.shape j hj l (by simpa only[DiR.nd,h3u] using hl)⟩
    ·cases hb)
   have hEl:d.E.length=d.ne:=h3u _ _;have hne:=hd.fit.ne;have hki:=hd.kids i hi;have hni:=hd.nk i hi;have hvi:=hd.var i hi;have hshi:=hd.shape i hi;have hsok:=hd.ok;have hkr: ∀j,j<d.nk i->d.kid i j<f/\h4k d.ne (d.kid i j) d.nn:=fun j hj=>by
    have h1:=hki j hj;refine⟨?_,fun h2=> ?_,h1.2⟩
    ·rcases AJ (d.kid i j) 0 with h2|h2
     ·omega
     ·have:=h1.1 h2;omega
    ·have:=h1.1 h2;omega
   have hok: ∀j,j<d.nk i->Law.okRef d.E (d.kid i j) d.nn:=fun j hj=>(hkr j hj).2.ok;have hgood':=fun j hj s' hs'=>hgood f (d.kid i j) s' (hkr j hj).1 (hok j hj) hs';have hnode:=fun q1 q2 (hq:q2<=1000000) f1 f2 e1 e2 u hu=>i4p (ns:=d.ns) (no:=d.no) d.sz d.od (q1:=q1) (q2:=q2) hq f1 f2 e1 e2 (d.var i) hvi hni u hu;rw[hEl] at hgood';obtain⟨EE,hEE⟩: ∃EE,EE=d.E:=⟨_,rfl⟩;obtain⟨NN,hNN⟩: ∃NN,NN=d.N:=⟨_,rfl⟩;rw[<-hEE,<-hNN] at hgood' ih;rw[<-hEE] at hg;rw[<-hEE,<-hNN];clear hgood hok hki hEl hEE hNN hd;obtain⟨ns,sz,no,od,ne,en,nn,var,nk,kd,root⟩:=d;simp only at hi hnn hkr hgood' ih hni hvi hshi hnode hg hne;refine h3w AD okP e9z rfl fun E Sg hb hS F hF=> ?_;simp only[clH,Aa,AR] at hb;have ett: ∀z,Sg.toNat z=z.toNat:=by subst hS;exact fun _=>rfl
   have hh:Sg.mhas fk [.i (AP i)]=AO:=by subst hS;show (fk [.i (i:Int)]).isSome=AO;rw[hfk];rfl
   cbv;split
   ·rename_i h;exfalso;clear hF hrep hnode ih hgood';subst hS;simp[AK] at h<;>omega
   cbv;simp only[hh];cbv;refine a1g hS (by clear hF hrep hnode ih hgood';subst hS;exact b6g (by simp<;>omega) (by simp<;>omega)) ?_;refine a1g hS (by clear hF hrep hnode ih hgood';subst hS;exact⟨AT i,AI.2 hi⟩) ?_;simp only[A6,ett,AF,AB];refine a1g hS (by clear hF hrep hnode ih hgood';subst hS;simp[AK]) ?_;refine a1g hS (by clear hF hrep hnode ih hgood';subst hS;simp[AK,big];omega) ?_;refine a7r AD okP hS (σ:=CSt) (fun st=>st.k<=nk i/\AY EE NN f (L st.k (kd i)) (s,[])=(st.s,L st.k st.u)/\Law.GoodM EE nn shp st.s/\Rep shp st.s st.q1 st.q2 st.f1 st.f2 st.e1 st.e2 st.fk/\(∀j,j<st.k->Law.okT ne nn (st.u j))) (fun st=>nk i-st.k)
    (fun st=>⟨b5r [(0,int i),(1,.ptr 5 0),(2,.ptr 6 0),(3,.ptr 8 0),(4,.ptr 9 0),(9,.ptr 10 0),(10,.msl 11 1 AN (nk i) AO),(43,isl (nk i) (kd i)),(44,int (nk i)),(45,int st.k)] 67,
      clH ⟨ns,sz,no,od,ne,en,nn,var,nk,kd,root⟩ st.q1 st.q2 st.f1 st.f2 st.e1 st.e2 st.c st.fk++[.var [int (var i),isl (nk i) (kd i)],arrI (nk i) st.u],[3,4]⟩) ⟨0,fun _=>0,s,q1,q2,f1,f2,e1,e2,c,fk⟩ ⟨by simp,rfl,hg,hrep,fun j hj=>by simp at hj⟩ ?_ ?_
   ·refine a4c rfl ⟨AA _,AA _,AA _,AA _,AA _,AA _,(by clear hF hrep hnode ih hgood';subst hS;exact AA _),AA _,b0a (by clear hF hrep hnode ih hgood';subst hS;rfl),a6c rfl,trivial⟩ (.cons (.refl _) (.cons (.refl _) (.cons (.refl _) (.cons (.refl _) (.cons (.refl _) (.cons (.refl _) (.cons (.refl _) (.cons (.refl _) (.cons (.refl _) (.cons (.refl _) (.cons (.refl _) (.cons (Aq ?_ ?_) (.nil _))))))))))))) (by simp[clH];omega) (.inr rfl) rfl
    ·clear hF hrep hnode ih hgood';subst hS;rfl
    ·intro j hj;clear hF hrep hnode ih hgood';subst hS;simp only[AK] at hj⊢;rw[if_pos hj];exact .one (.int rfl)
   ·rintro⟨k,u,s',p1,p2,g1,g2,d1,d2,c',gk⟩ ⟨hk1,hk2,hk3,hk4,hk5⟩ M hM;simp only at hk1 hk2 hk3 hk4 hk5 hM;cbv;split
    ·have hlt:k<nk i:=by clear hF hrep hnode ih hgood' hM hk4;subst hS;simp[AK] at*;omega
     have hkk:=hkr k hlt;have hgk:=hgood' k hlt s' hk3;have hstep:AY EE NN f (L (k+1) (kd i)) (s,[])=((AZ EE NN f (kd i k) s').1,L k u++[(AZ EE NN f (kd i k) s').2]):=by unfold AY at hk2⊢;rw[h7q,List.foldl_append,hk2];rfl
     have hcall:=ih (kd i k) s' p1 p2 g1 g2 d1 d2 c' gk hkk.1 hkk.2 hk3 hk4;generalize AZ EE NN f (kd i k) s'=fr at hgk hstep hcall;obtain⟨s2,t2⟩:=fr;simp only at hgk hstep hcall;cbv;refine a1g hS (by clear hF hrep hnode ih hgood' hM hk4 hcall;subst hS;simp[AK];omega) ?_;simp only[A6,ett,AF,AB];refine h3v hS (Ab hcall [0,1,2,3,4,5,6,7,8,9] rfl rfl ⟨AC _,AC _,AC _,AC _,AC _,AC _,AC _,AC _,AC _,AC _,trivial⟩) ?_;rintro pg v H' ⟨pg0,v0,h0,⟨rfl,q1',q2',f1',f2',e1',e2',c2,fk2,w1,rfl,rfl⟩,rfl,rfl,rfl⟩;cbv;refine a1g hS (by clear hF hrep hnode ih hgood' hM hk4 hcall w1;subst hS;simp[AK];omega) ?_;simp only[A6,ett,AF,AB];refine a1g hS (by clear hF hrep hnode ih hgood' hM hk4 hcall w1;subst hS;simp[AK];omega) ?_;refine a1g hS (by clear hF hrep hnode ih hgood' hM hk4 hcall w1;subst hS;exact b6g (by simp[AK];omega) (by simp[AK];omega)) ?_;have hLu:L (k+1) (fun j=>if j=k then t2 else u j)=L k u++[t2]:=by
      rw[h7q];congr 1
      ·exact h4v fun j hj=>if_neg (by omega)
      ·simp
     refine hM ⟨k+1,fun j=>if j=k then t2 else u j,s2,q1',q2',f1',f2',e1',e2',c2,fk2⟩ _ ⟨by simp;omega,by rw[hLu];exact hstep,hgk.1,w1,fun j hj=> ?_⟩ (by simp;omega)
      (a4c rfl ⟨AA _,AA _,AA _,AA _,AA _,AA _,AA _,AA _,AA _,b0a (by clear hF hrep hnode ih hgood' hM hk4 hcall w1;subst hS;simp[AK]),trivial⟩ (.cons (.refl _) (.cons (.refl _) (.cons (.refl _) (.cons (.refl _) (.cons (.refl _) (.cons (.refl _) (.cons (.refl _) (.cons (.refl _) (.cons (.refl _) (.cons (.refl _) (.cons (.refl _) (.cons (a9v.arrI rfl fun j hj=> ?_) (.nil _))))))))))))) (by simp[clH];omega) (.inr rfl) rfl)
     ·simp only at hj⊢;by_cases e:j=k
      ·rw[if_pos e];exact hgk.2.1
      ·rw[if_neg e];exact hk5 j (by omega)
     ·clear hF hrep hnode ih hgood' hM hk4 hcall w1;subst hS;simp only[AK];split<;>rfl
    ·have hkn:k=nk i:=by clear hF hrep hnode ih hgood' hM hk4;subst hS;simp[AK] at*;omega
     subst hkn;have hl2:=hk3.onLen;have hq2:=hk4.q2;have hcl:=hnode p1 p2 (by omega) g1 g2 d1 d2 u (fun j hj=>by have:=hk5 j hj;simp only[Law.okT] at this;omega);rw[hk2] at hF;have hsh:=hshi (L (nk i) u) (h3u _ _);have hmk:=hk4.mkNode hsok (var i) (nk i) u hsh;have hflat:A4 (L (nk i) u)↔ ∀j,j<nk i->u j=u 0:=i1r hni.1;have hmk0:(∀j,j<nk i->u j=u 0)->AE s' ⟨var i,L (nk i) u⟩=(s',u 0):=fun h=>by rw[AE,if_pos (hflat.2 h)];obtain⟨m,hm⟩: ∃m,nk i=m+1:=⟨nk i-1,by omega⟩;rw[hm];simp[L,List.range_succ_eq_map]
     rw[<-hflat] at hmk0;simp only at hF;generalize AE s' ⟨var i,L (nk i) u⟩=MN at hmk hmk0 hF;cbv;refine h3v hS (Ab hcl [0,1,2,3,4,11] rfl rfl ⟨AC _,AC _,AC _,AC _,AC _,AC _,trivial⟩) ?_;have fin: ∀(q1' q2':Nat) (f1' f2':List KC->Option Int) (e1' e2':Nat->List DV) (t:Int),t=MN.2->Rep shp MN.1 q1' q2' f1' f2' e1' e2' gk->Rep shp (Ak MN.1 i MN.2) q1' q2' f1' f2' e1' e2' (fun k=>if k=[.i (i:Int)] then AW t else gk k):=fun q1' q2' f1' f2' e1' e2' t ht hr'=>by rw[ht];exact hr'.learn i MN.2
     rintro pg v H' ⟨pg0,v0,h0,⟨rfl,o,⟨y1,rfl,rfl⟩|⟨y1,⟨z,y2,rfl,rfl⟩|⟨y2,rfl,rfl⟩⟩⟩,rfl,rfl,rfl⟩
     ·have hMN:=hmk0 (hflat.2 y1);cbv;refine a1g hS (by clear hF hrep hnode ih hgood' hM hk4 hcl hmk;subst hS;simp[AK]) ?_;refine a1g hS (by clear hF hrep hnode ih hgood' hM hk4 hcl hmk;subst hS;exact b6g (by simp<;>omega) (by simp<;>omega)) ?_;refine a1g hS (by clear hF hrep hnode ih hgood' hM hk4 hcl hmk;subst hS;exact b6g (by simp<;>omega) (by simp<;>omega)) ?_;refine⟨[3,4],(by intro l hl h;simp at h⊢;omega),hF (h1:=clH ⟨ns,sz,no,od,ne,en,nn,var,nk,kd,root⟩ p1 p2 g1 g2 d1 d2 (Sg.mcnt gk [.i (AP i)] c') (fun k=>if k=[.i (i:Int)] then AW (u 0) else gk k))
       (.cons (.refl _) (.cons (.refl _) (.cons (.refl _) (.cons (.refl _) (.cons (.refl _) (.cons (.refl _) (.cons (.refl _) (.cons (Aw rfl fun k=> ?_) (.cons (.refl _) (.cons (.refl _) (.nil _))))))))))) (v0:=int (u 0)) (b0a ?_) (by simp[clH]) (.inl ⟨rfl,rfl⟩) ⟨rfl,_,_,_,_,_,_,_,_,fin _ _ _ _ _ _ (u 0) (by rw[hMN]) (by rw[hMN];exact hk4),(by rw[hMN]),rfl⟩⟩
      ·clear hF hrep hnode ih hgood' hM hk4 hcl hmk;subst hS;rfl
      ·clear hF hrep hnode ih hgood' hM hk4 hcl hmk;subst hS;simp[AK]
     ·obtain⟨w1,w2⟩:=(hmk (fun h=>y1 (hflat.1 h))).1 z y2;cbv;refine a1g hS (by clear hF hrep hnode ih hgood' hM hk4 hcl hmk;subst hS;simp[AK]) ?_;refine a1g hS (by clear hF hrep hnode ih hgood' hM hk4 hcl hmk;subst hS;exact b6g (by simp<;>omega) (by simp<;>omega)) ?_;refine a1g hS (by clear hF hrep hnode ih hgood' hM hk4 hcl hmk;subst hS;exact b6g (by simp<;>omega) (by simp<;>omega)) ?_;refine⟨[3,4],(by intro l hl h;simp at h⊢;omega),hF (h1:=clH ⟨ns,sz,no,od,ne,en,nn,var,nk,kd,root⟩ p1 p2 g1 g2 d1 d2 (Sg.mcnt gk [.i (AP i)] c') (fun k=>if k=[.i (i:Int)] then AW z else gk k))
       (.cons (.refl _) (.cons (.refl _) (.cons (.refl _) (.cons (.refl _) (.cons (.refl _) (.cons (.refl _) (.cons (.refl _) (.cons (Aw rfl fun k=> ?_) (.cons (.refl _) (.cons (.refl _) (.nil _))))))))))) (v0:=int z) (b0a ?_) (by simp[clH]) (.inl ⟨rfl,rfl⟩) ⟨rfl,_,_,_,_,_,_,_,_,fin _ _ _ _ _ _ z w1 w2,(by rw[w1]),rfl⟩⟩
      ·clear hF hrep hnode ih hgood' hM hk4 hcl hmk;subst hS;rfl
      ·clear hF hrep hnode ih hgood' hM hk4 hcl hmk;subst hS;simp[AK]
     ·obtain⟨w1,w2⟩:=(hmk (fun h=>y1 (hflat.1 h))).2 y2;cbv;refine a1g hS (by clear hF hrep hnode ih hgood' hM hk4 hcl hmk;subst hS;simp[AK]) ?_;refine a1g hS (by clear hF hrep hnode ih hgood' hM hk4 hcl hmk;subst hS;exact b6g (by simp<;>omega) (by simp<;>omega)) ?_;refine a1g hS (by clear hF hrep hnode ih hgood' hM hk4 hcl hmk;subst hS;exact b6g (by simp<;>omega) (by simp<;>omega)) ?_;refine⟨[3,4],(by intro l hl h;simp at h⊢;omega),hF (h1:=clH ⟨ns,sz,no,od,ne,en,nn,var,nk,kd,root⟩ p1 (p2+1) g1 (fun k=>if k=h4j (var i) (nk i) u then AW (p2:Int) else g2 k) d1 (fun j=>if j<p2 then d2 j else [.int .i64 (.v (var i)),.sl 1 (nk i) fun j=>[.int .i64 (.v (u j))]]) (Sg.mcnt gk [.i (AP i)] c') (fun k=>if k=[.i (i:Int)] then AW (p2:Int) else gk k))
       (.cons (.refl _) (.cons (.refl _) (.cons (.refl _) (.cons (.refl _) (.cons (.refl _) (.cons (.refl _) (.cons (.refl _) (.cons (Aw rfl fun k=> ?_) (.cons (.refl _) (.cons (.refl _) (.nil _))))))))))) (v0:=int (p2:Int)) (b0a ?_) (by simp[clH]) (.inl ⟨rfl,rfl⟩) ⟨rfl,_,_,_,_,_,_,_,_,fin _ _ _ _ _ _ (p2:Int) w1 w2,congrArg int w1,rfl⟩⟩
      ·clear hF hrep hnode ih hgood' hM hk4 hcl hmk;subst hS;rfl
      ·clear hF hrep hnode ih hgood' hM hk4 hcl hmk;subst hS;simp[AK]
def i3w (d:Ae)(b:Am):Prop:=(b.kids.length:Int)=d.sz b.var.toNat/\b.kids.length<=12
theorem i5j (d:Ae):i5a (i3w d):=⟨fun b h=>h.2,fun b c hb hc e=>by
 have h1:=hb.1;have h2:=hc.1;rw[e,<-h2] at h1;exact Int.ofNat.inj h1⟩
theorem h3x.tame {d:Ae}(h:h3x d)(hf:h4e d.ns d.no d.sz d.od=0)(hfit:d.fit)(h0: ∀i,i<d.ne->0<=(d.en i).fault):d.tame (i3w d):=by
 have hk:=h.kpos hf;refine⟨hfit,fun i hi=> ?_,h.kids,fun i hi=> ?_,hk,fun i hi l hl=> ?_,i5j d⟩
 ·have h1:=h.1 i hi;have h2:=h0 i hi;unfold a1i at h1;split at h1<;>omega
 ·have h1:=(h.2.1 i hi).1.1;have:=hfit.ns;omega
 ·have h1:=(h.2.1 i hi).1.2;have h2:=hk i hi;exact⟨by simp only[hl];exact h1,by simp only[hl];exact h2.2⟩
def i2k (d:Ae)(s:AU)(t:Int):Ae:=
 ⟨d.ns,d.sz,d.no,d.od,s.oe.length,fun i=>s.oe.getD i ⟨0,0⟩,s.on.length,fun i=>(s.on.getD i ⟨0,[]⟩).var,fun i=>(s.on.getD i ⟨0,[]⟩).kids.length,fun i j=>(s.on.getD i ⟨0,[]⟩).kids.getD j 0,t⟩
def s0:AU:=⟨[],[],fun _=>AN⟩
def h3y (d:Ae):AU×Int:=AZ d.E d.N (d.nn+1) d.root s0
theorem i3b {shp:Am->Prop}{s:AU}{q1 q2:Nat}{f1 f2:List KC->Option Int}{e1 e2:Nat->List DV}{fk:List KC->Option Int}(h:Rep shp s q1 q2 f1 f2 e1 e2 fk):a0x (.d (.sl 2 q1 e1)) (vsl s.oe.length fun i=>s.oe.getD i ⟨0,0⟩):=
 a0x.sl' h.q1 fun i hi=>by
  have hi':i<s.oe.length:=by rw[<-h.q1];exact hi
  have h1:s.oe[i]? =AW s.oe[i]:=AG hi';rw[h.e1 i _ h1];simp[Aj,h1]
theorem i2e {shp:Am->Prop}{s:AU}{q1 q2:Nat}{f1 f2:List KC->Option Int}{e1 e2:Nat->List DV}{fk:List KC->Option Int}(h:Rep shp s q1 q2 f1 f2 e1 e2 fk):
 a0x (.d (.sl 2 q2 e2)) (Ay s.on.length (fun i=>(s.on.getD i ⟨0,[]⟩).var) (fun i=>(s.on.getD i ⟨0,[]⟩).kids.length) fun i j=>(s.on.getD i ⟨0,[]⟩).kids.getD j 0):=
 a0x.slr h.q2 fun i hi=>by
  have hi':i<s.on.length:=by rw[<-h.q2];exact hi
  have h1:s.on[i]? =AW s.on[i]:=AG hi';have h2:s.on.getD i ⟨0,[]⟩=s.on[i]:=by simp[Aj,h1]
  obtain⟨n,u,h3,h4⟩:=h.e2 i _ h1;rw[h4];simp only[h2];refine .cons (.int rfl) (.one (.sl (by rw[h3,h3u]) fun j hj=> ?_));refine .one (.int ?_);rw[h3];simp[L,hj,IX.val]
theorem i3c (d:Ae)(hd:d.tame (i3w d))(hr:h4k d.ne d.root d.nn):a0j AH AO 198 [d.lav] (i2k d (h3y d).1 (h3y d).2).av:=by
 have hrec:=i2v d (i3w d) hd (d.nn+1) d.root s0 0 0 (fun _=>AN) (fun _=>AN) (fun _=>[]) (fun _=>[]) 0 (fun _=>AN) (by
  rcases AJ d.root 0 with h|h
  ·omega
  ·have:=hr.1 h;omega) hr ⟨by simp[s0],by simp[s0],by simp[s0],by simp[s0],by simp[s0]⟩ ⟨rfl,rfl,by simp[s0],by simp[s0],by simp[s0],by simp[s0],by simp[s0]⟩
 have hmk:=h8o hd.fit.ns hd.fit.no d.sz d.od;obtain⟨res,hres⟩: ∃res,res=(i2k d (h3y d).1 (h3y d).2).av:=⟨_,rfl⟩;rw[<-hres];change a1h _ _ _ _ (clK d (i3w d) (h3y d).1 (h3y d).2) at hrec;generalize (h3y d).1=s at hrec hres;generalize (h3y d).2=t at hrec hres;generalize i3w d=shp at hrec;clear hd hr;obtain⟨ns,sz,no,od,ne,en,nn,var,nk,kd,root⟩:=d;refine a0k AD okP e7r _ rfl fun E Sg hb hS=> ?_;cbv;refine h3v hS (Ab hmk [] rfl rfl trivial) ?_;rintro pg v H' ⟨pg0,v0,h0,⟨rfl,rfl,rfl⟩,rfl,rfl,rfl⟩;cbv;have hfr:=Ab (args':=[int root,.ptr 6 0,.ptr 0 0,.ptr 8 0,.ptr 9 0]) hrec (H:=[.var [isl ns sz,isl no od,isl ns sz,isl no od,vsl ne en,Ay nn var nk kd,int root],.var [.d .nil,.d .nil,.d .nil,.d .nil,.d (.int .i64 (.l (AP 0)))],.var [.any,.any],.map AQ [.u8,.i64] 0 (fun _=>AN),.map AQ i4j 0 (fun _=>AN),.var [isl ns sz,isl no od,isl ns sz,isl no od,.msl 10 2 AN 0 AO,.msl 11 2 AN 0 AO,int 0,.map 3,.map 4],.var [.ptr 5 0],.map AO [.i64] 0 (fun _=>AN),.var [.map 7],.var [.fn 237 [] [.ptr 6 0,.ptr 0 0,.ptr 8 0,.ptr 9 0]],.arr 2 0 (fun _=>[]),.arr 2 0 (fun _=>[])]) [5,3,4,10,11,6,0,7,8,9] rfl rfl
  ⟨AC _,AC _,AC _,AC _,AC _,AC _,AC _,AC _,AC _,AC _,trivial⟩
 have sm:d6k 10 2 [int root,.ptr 6 0,.ptr 0 0,.ptr 8 0,.ptr 9 0] [int root,.ptr 6 0,.ptr 0 0,.ptr 8 0,.ptr 9 0]:=⟨.inl rfl,.inl rfl,.inl rfl,.inl rfl,.inl rfl,trivial⟩;have sm2:d6k 11 2 [int root,.ptr 6 0,.ptr 0 0,.ptr 8 0,.ptr 9 0] [int root,.ptr 6 0,.ptr 0 0,.ptr 8 0,.ptr 9 0]:=⟨.inl rfl,.inl rfl,.inl rfl,.inl rfl,.inl rfl,trivial⟩;have h2:=Ar (h:=[.var [isl ns sz,isl no od,isl ns sz,isl no od,vsl ne en,Ay nn var nk kd,int root],.var [.d .nil,.d .nil,.d .nil,.d .nil,.d (.int .i64 (.l (AP 0)))],.var [.any,.any],.map AQ [.u8,.i64] 0 (fun _=>AN),.map AQ i4j 0 (fun _=>AN),.var [isl ns sz,isl no od,isl ns sz,isl no od,.msl 10 2 AN 0 AO,.d .nil,int 0,.map 3,.map 4],.var [.ptr 5 0],.map AO [.i64] 0 (fun _=>AN),.var [.map 7],.var [.fn 237 [] [.ptr 6 0,.ptr 0 0,.ptr 8 0,.ptr 9 0]],.arr 2 0 (fun _=>[])]) (h2:=[.var [isl ns sz,isl no od,isl ns sz,isl no od,vsl ne en,Ay nn var nk kd,int root],.var [.d .nil,.d .nil,.d .nil,.d .nil,.d (.int .i64 (.l (AP 0)))],.var [.any,.any],.map AQ [.u8,.i64] 0 (fun _=>AN),.map AQ i4j 0 (fun _=>AN),.var [isl ns sz,isl no od,isl ns sz,isl no od,.msl 10 2 AN 0 AO,.msl 11 2 AN 0 AO,int 0,.map 3,.map 4],.var [.ptr 5 0],.map AO [.i64] 0 (fun _=>AN),.var [.map 7],.var [.fn 237 [] [.ptr 6 0,.ptr 0 0,.ptr 8 0,.ptr 9 0]],.arr 2 0 (fun _=>[])]) 2 (fun _=>[]) hfr sm2
  ⟨.inl rfl,.inl rfl,.inl rfl,.inl rfl,.inl rfl,.inr ⟨_,_,rfl,rfl,.inl rfl,.inl rfl,.inl rfl,.inl rfl,.inl rfl,.inr ⟨rfl,rfl⟩,.inl rfl,.inl rfl,.inl rfl,trivial⟩,.inl rfl,.inl rfl,.inl rfl,.inl rfl,.inl rfl,trivial⟩
 have h1:=Ar (h:=[.var [isl ns sz,isl no od,isl ns sz,isl no od,vsl ne en,Ay nn var nk kd,int root],.var [.d .nil,.d .nil,.d .nil,.d .nil,.d (.int .i64 (.l (AP 0)))],.var [.any,.any],.map AQ [.u8,.i64] 0 (fun _=>AN),.map AQ i4j 0 (fun _=>AN),.var [isl ns sz,isl no od,isl ns sz,isl no od,.d .nil,.d .nil,int 0,.map 3,.map 4],.var [.ptr 5 0],.map AO [.i64] 0 (fun _=>AN),.var [.map 7],.var [.fn 237 [] [.ptr 6 0,.ptr 0 0,.ptr 8 0,.ptr 9 0]]]) (h2:=[.var [isl ns sz,isl no od,isl ns sz,isl no od,vsl ne en,Ay nn var nk kd,int root],.var [.d .nil,.d .nil,.d .nil,.d .nil,.d (.int .i64 (.l (AP 0)))],.var [.any,.any],.map AQ [.u8,.i64] 0 (fun _=>AN),.map AQ i4j 0 (fun _=>AN),.var [isl ns sz,isl no od,isl ns sz,isl no od,.msl 10 2 AN 0 AO,.d .nil,int 0,.map 3,.map 4],.var [.ptr 5 0],.map AO [.i64] 0 (fun _=>AN),.var [.map 7],.var [.fn 237 [] [.ptr 6 0,.ptr 0 0,.ptr 8 0,.ptr 9 0]]]) 2 (fun _=>[]) h2 sm
  ⟨.inl rfl,.inl rfl,.inl rfl,.inl rfl,.inl rfl,.inr ⟨_,_,rfl,rfl,.inl rfl,.inl rfl,.inl rfl,.inl rfl,.inr ⟨rfl,rfl⟩,.inl rfl,.inl rfl,.inl rfl,.inl rfl,trivial⟩,.inl rfl,.inl rfl,.inl rfl,.inl rfl,trivial⟩
 refine h3v hS h1.pgs ?_;rintro pg v H' ⟨pg1,⟨pg0,v0,h0,⟨rfl,q1,q2,f1,f2,e1,e2,c,fk,w1,rfl,rfl⟩,rfl,rfl,rfl⟩,hpg⟩;have hpg0:pg=[]:=hpg;subst hpg0;clear hpg;cbv;clear hrec h1 h2 hfr hmk;refine a1g hS (by subst hS;simp[AK]) (a1g hS (by subst hS;simp[AK]) (a1g hS (by subst hS;simp[AK]) ?_));subst hres;exact a3x.agg (.cons (AA _) (.cons (AA _) (.cons (i3b w1) (.cons (i2e w1) (.cons (AA _) .nil)))))
theorem h7a {α:Type}{n m:Nat}{g h:Nat->α}:L n g=L m h↔n=m/\ ∀i,i<n->g i=h i:=by
 constructor
 ·intro e;have el:n=m:=by simpa [h3u] using congrArg Av e
  subst el;refine⟨rfl,fun j hj=> ?_⟩;have:=congrArg (fun l=>l[j]?) e;simpa [L,hj] using this
 ·rintro⟨rfl,hh⟩;exact h4v hh
theorem i3e {n m:Nat}(hn:n<=1000000)(f g:Nat->VaR)(r:Bool)(hr:r=AQ↔L n f=L m g):a0j AH AQ 234 [vsl n f,vsl m g] (bool r):=by
 rw[h7a] at hr;obtain⟨ef,en,hf⟩: ∃ef en,f=fun i=>VaR.mk (ef i) (en i):=⟨fun i=>(f i).fault,fun i=>(f i).n,rfl⟩;obtain⟨eg,eh,hg⟩: ∃ef en,g=fun i=>VaR.mk (ef i) (en i):=⟨fun i=>(g i).fault,fun i=>(g i).n,rfl⟩;subst hf hg;simp only[VaR.eq_iff] at hr;refine a1e (a0k AD okP f0q _ rfl fun E Sg hb hS=> ?_);have ett: ∀z,Sg.toNat z=z.toNat:=by subst hS;exact fun _=>rfl
 cbv;split
 ·have hne:n≠m:=by clear hr;subst hS;simp[AK] at*;omega
  cbv;exact e8z hr fun h=>hne h.1
 have hnm:n=m:=by clear hr;subst hS;simp[AK] at*;omega
 subst hnm;cbv;refine a7r AD okP hS (fun i=>i<=n/\ ∀j,j<i->ef j=eg j/\en j=eh j) (fun i=>n-i)
  (fun i=>⟨b5r [(0,vsl n (fun i=>⟨ef i,en i⟩)),(1,vsl n (fun i=>⟨eg i,eh i⟩)),(12,int n),(13,int i)] 26,[],[]⟩) 0 ⟨by omega,by omega⟩ ?_ ?_
 ·exact a4c rfl ⟨AA _,AA _,b0a (by subst hS;rfl),a6c rfl,trivial⟩ (.nil _) (by omega) (.inr rfl) rfl
 ·intro i hi N hN;cbv;split
  ·have hlt:i<n:=by clear hr hN;subst hS;simp[AK] at*;omega
   cbv;refine a1g hS (by subst hS;simp[AK];omega) ?_;refine a1g hS (by subst hS;simp[AK];omega) ?_;simp only[A6,ett,AF,AB];split
   ·have hx: ¬(ef i=eg i/\en i=eh i):=by clear hr hN;subst hS;simp[AK] at*;intro h;omega
    cbv;exact e8z hr fun hh=>hx (hh.2 i hlt)
   ·have hx:ef i=eg i/\en i=eh i:=by clear hr hN;subst hS;simp[AK] at*;assumption
    cbv;refine a1g hS (by subst hS;exact b6g (by simp[AK];omega) (by simp[AK];omega)) ?_;refine hN (i+1) _ ⟨by omega,fun j hj=> ?_⟩ (by omega) (a4c rfl ⟨AA _,AA _,AA _,b0a (by subst hS;simp[AK]),trivial⟩ (.nil _) (by omega) (.inr rfl) rfl);by_cases e:j=i
    ·subst e;exact hx
    ·exact hi.2 j (by omega)
  ·have hall: ∀j,j<n->ef j=eg j/\en j=eh j:=by
    have:n<=i:=by clear hr hN;subst hS;simp[AK] at*;omega
    exact fun j hj=>hi.2 j (by omega)
   cbv;exact h8e hr ⟨rfl,hall⟩
theorem i4q (v w:Int){n m:Nat}(hn:n<=1000000)(g h:Nat->Int)(r:Bool)(hr:r=AQ↔v=w/\L n g=L m h):a0j AH AQ 233 [.agg [int v,isl n g],.agg [int w,isl m h]] (bool r):=by
 obtain⟨z,hz⟩: ∃z:Bool,z=AQ↔L n g=L m h:=by classical exact⟨decide _,decide_eq_true_iff⟩
 have h1:=h4z hn g h z hz;rw[<-hz] at hr;refine a1e (a0k AD okP f0e _ rfl fun E Sg hb hS=> ?_);cbv;split
 ·have hv:v=w:=by clear hr h1;subst hS;simp[AK] at*;assumption
  cbv;refine a0v hS (bool z) (by subst hS;exact h1) ?_;cbv;refine a0s ?_;cases r
  ·cases z
   ·rfl
   ·exact absurd (hr.2 ⟨hv,rfl⟩) (by simp)
  ·exact (hr.1 rfl).2
 ·have hv:v≠w:=by clear hr h1;subst hS;simp[AK] at*;assumption
  cbv;exact e8z hr fun h=>hv h.1
theorem i2z {n m:Nat}(hn:n<=1000000)(va vb:Nat->Int)(na nb:Nat->Nat)(ka kb:Nat->Nat->Int)(hk: ∀i,i<n->na i<=1000000)(r:Bool)
 (hr:r=AQ↔n=m/\ ∀i,i<n->va i=vb i/\L (na i) (ka i)=L (nb i) (kb i)):a1h AH 235 [Ay n va na ka,Ay m vb nb kb,.fn 233 [] []] [] (ro [] (bool r)):=by
 obtain⟨z,hz⟩: ∃z:Nat->Bool,∀i,z i=AQ↔va i=vb i/\L (na i) (ka i)=L (nb i) (kb i):=by classical exact⟨fun i=>decide (va i=vb i/\L (na i) (ka i)=L (nb i) (kb i)),fun i=>decide_eq_true_iff⟩
 have h1:=fun i hi=>i4q (va i) (vb i) (m:=nb i) (hk i hi) (ka i) (kb i) (z i) (hz i);simp only[<-hz] at hr;clear hz hk;refine a2y AD okP e9a _ rfl fun E Sg hb hS=> ?_;simp only[AR] at hb;have ett: ∀z,Sg.toNat z=z.toNat:=by subst hS;exact fun _=>rfl
 cbv;split
 ·have hne:n≠m:=by clear hr h1;subst hS;simp[AK] at*;omega
  cbv;exact a2s (e8z hr fun h=>hne h.1) (.nil _) (.inr rfl)
 have hnm:n=m:=by clear hr h1;subst hS;simp[AK] at*;omega
 subst hnm;cbv;refine a7r AD okP hS (fun i=>i<=n/\ ∀j,j<i->z j=AQ) (fun i=>n-i)
  (fun i=>⟨b5r [(0,Ay n va na ka),(1,Ay n vb nb kb),(2,.fn 233 [] []),(15,Ay n va na ka),(16,int n),(17,int i)] 32,[],[]⟩) 0 ⟨by omega,by omega⟩ ?_ ?_
 ·exact a4c rfl ⟨AA _,AA _,AA _,AA _,b0a (by subst hS;rfl),a6c rfl,trivial⟩ (.nil _) (by simp;omega) (.inr rfl) rfl
 ·intro i hi N hN;cbv;split
  ·have hlt:i<n:=by clear hr hN h1;subst hS;simp[AK] at*;omega
   have hin:=h1 i hlt;generalize hzi:z i=zi at hin;cbv;refine a1g hS (by clear h1 hin;subst hS;simp[AK];omega) ?_;refine a1g hS (by clear h1 hin;subst hS;simp[AK];omega) ?_;simp only[A6,ett,AF,AB];refine a3v hS (a1h.of_pure rfl hin) ?_;cases zi
   ·cbv;exact a2s (e8z hr fun hh=>by rw[hh.2 i hlt] at hzi;cases hzi) (.nil _) (.inl ⟨rfl,rfl⟩)
   ·cbv;refine a1g hS (by clear h1 hin;subst hS;exact b6g (by simp[AK];omega) (by simp[AK];omega)) ?_;refine hN (i+1) _ ⟨by omega,fun j hj=> ?_⟩ (by omega) (a4c rfl ⟨AA _,AA _,AA _,AA _,AA _,b0a (by clear h1 hin;subst hS;simp[AK]),trivial⟩ (.nil _) (by simp;omega) (.inl ⟨rfl,rfl⟩) rfl);by_cases e:j=i
    ·subst e;exact hzi
    ·exact hi.2 j (by omega)
  ·have hall: ∀j,j<n->z j=AQ:=by
    have:n<=i:=by clear hr hN h1;subst hS;simp[AK] at*;omega
    exact fun j hj=>hi.2 j (by omega)
   cbv;exact a2s (h8e hr ⟨rfl,hall⟩) (.nil _) (.inr rfl)
def h7l (a b:Ae):Prop:=L a.ns a.sz=L b.ns b.sz/\L a.no a.od=L b.no b.od/\a.E=b.E/\a.N=b.N/\a.root=b.root
theorem h9n {a b:Ae}:a.N=b.N↔a.nn=b.nn/\ ∀i,i<a.nn->a.var i=b.var i/\L (a.nk i) (a.kid i)=L (b.nk i) (b.kid i):=by
 rw[DiR.N,DiR.N,h7a];constructor
 ·rintro⟨h1,h2⟩;refine⟨h1,fun i hi=> ?_⟩;have:=h2 i hi;simp only[DiR.nd] at this;injection this with a b
  exact⟨a,b⟩
 ·rintro⟨h1,h2⟩;exact⟨h1,fun i hi=>by simp only[DiR.nd];rw[(h2 i hi).1,(h2 i hi).2]⟩
theorem i2u (a b:Ae)(ha:a.ns<=1000000/\a.no<=1000000/\a.ne<=1000000/\a.nn<=1000000)(hk: ∀i,i<a.nn->a.nk i<=1000000)(r:Bool)(hr:r=AQ↔h7l a b):a0j AH AQ 197 [a.av,b.av] (bool r):=by
 obtain⟨z1,hz1⟩: ∃z:Bool,z=AQ↔L a.ns a.sz=L b.ns b.sz:=by classical exact⟨decide _,decide_eq_true_iff⟩
 obtain⟨z2,hz2⟩: ∃z:Bool,z=AQ↔L a.no a.od=L b.no b.od:=by classical exact⟨decide _,decide_eq_true_iff⟩
 obtain⟨z3,hz3⟩: ∃z:Bool,z=AQ↔a.E=b.E:=by classical exact⟨decide _,decide_eq_true_iff⟩
 obtain⟨z4,hz4⟩: ∃z:Bool,z=AQ↔a.N=b.N:=by classical exact⟨decide _,decide_eq_true_iff⟩
 have h1:=h4z ha.1 a.sz b.sz z1 hz1;have h2:=h4z ha.2.1 a.od b.od z2 hz2;have h3:=i3e ha.2.2.1 a.en b.en z3 hz3;rw[h9n] at hz4;have h4:=i2z (m:=b.nn) ha.2.2.2 a.var b.var a.nk b.nk a.kid b.kid hk z4 hz4;rw[<-h9n] at hz4;simp only[h7l,<-hz1,<-hz2,<-hz3,<-hz4] at hr;clear hz1 hz2 hz3 hz4 ha hk;obtain⟨ns,sz,no,od,ne,en,nn,var,nk,kid,root⟩:=a;obtain⟨ns',sz',no',od',ne',en',nn',var',nk',kid',root'⟩:=b;simp only at hr;refine a1e (a0k AD okP f2i _ rfl fun E Sg hb hS=> ?_);cbv;refine a0v hS (bool z1) (by subst hS;exact h1) ?_;cases z1
 ·cbv;exact e8z hr fun h=>AX h.1
 cbv;refine a0v hS (bool z2) (by subst hS;exact h2) ?_;cases z2
 ·cbv;exact e8z hr fun h=>AX h.2.1
 cbv;refine a0v hS (bool z3) (by subst hS;exact h3) ?_;cases z3
 ·cbv;exact e8z hr fun h=>AX h.2.2.1
 cbv;refine h3v hS (Ab h4 [] rfl rfl trivial) ?_;rintro pg v H' ⟨pg0,v0,h0,⟨rfl,rfl,rfl⟩,rfl,rfl,rfl⟩;cases z4
 ·cbv;exact e8z hr fun h=>AX h.2.2.2.1
 cbv;refine a0s ?_;clear h1 h2 h3 h4;subst hS;simp only[AK];cases r
 ·exact decide_eq_false fun h=>AX (hr.2 ⟨rfl,rfl,rfl,rfl,h⟩)
 ·exact decide_eq_true (hr.1 rfl).2.2.2.2
theorem i0t {α:Type}(l:List α)(x:α):(L l.length fun i=>l.getD i x)=l:=by unfold L;refine List.ext_getElem (by simp) fun i h1 h2=> ?_;simp[Aj,AG h2]
theorem i6b (d:Ae)(s:AU)(t:Int):(i2k d s t).E=s.oe:=i0t _ _
theorem i5p (d:Ae)(s:AU)(t:Int):(i2k d s t).N=s.on:=by
 have:(i2k d s t).nd=fun i=>s.on.getD i ⟨0,[]⟩:=by funext i;simp only[DiR.nd,i2k];rw[i0t]
 rw[DiR.N,this];exact i0t _ _
theorem h9s {d:Ae}(h:h3x d)(hf:h4e d.ns d.no d.sz d.od=0):h7l (i2k d (h3y d).1 (h3y d).2) d↔h5e d:=by
 have hro:=h4g h.2.2;have hNl:d.N.length=d.nn:=h3u _ _;rw[<-i0k fun i hi=>(h.kpos hf i hi).1,<-Law.clean_iff h.kids.loose hro.ok'];unfold h7l Law.isClean;rw[i6b,i5p,hNl];constructor
 ·rintro⟨_,_,a,b,c⟩;exact⟨a,b,c⟩
 ·rintro⟨a,b,c⟩;exact⟨rfl,rfl,a,b,c⟩
theorem h8r {d:Ae}(hd:d.tame (i3w d))(hr:h4k d.ne d.root d.nn):(h3y d).1.oe.length<=d.ne/\(h3y d).1.on.length<=d.nn/\ ∀b,b∈(h3y d).1.on->b.kids.length<=12:=by
 have hg:=(Law.frm_good (E:=d.E) (N:=d.N) (nn:=d.nn) (h3u _ _) (shp:=i3w d) hd.kids.loose (fun j b hb=>by
  rw[DiR.N,h9t] at hb;split at hb
  ·rename_i hj;cases hb;refine⟨by simp only[DiR.nd,h3u];exact (hd.nk j hj).1,fun l hl=>hd.shape j hj l (by simpa only[DiR.nd,h3u] using hl)⟩
  ·cases hb) (d.nn+1) d.root s0 (by
   rcases AJ d.root 0 with h|h
   ·omega
   ·have:=hr.1 h;omega) hr.ok ⟨by simp[s0],by simp[s0],by simp[s0],by simp[s0],by simp[s0]⟩).1
 have h1:=hg.oeLen;rw[show d.E.length=d.ne from h3u _ _] at h1;exact⟨h1,hg.onLen,fun b hb=>(hg.sh b hb).2⟩
theorem i1u (d:Ae)(hf:d.fit)(h0: ∀i,i<d.ne->0<=(d.en i).fault)(hno:d.no<=12)(r:Int)(hr:h5o d=r):
 ∃v,(v=d.lav\/h4e d.ns d.no d.sz d.od≠0/\v=i2o)/\a0j AH AO 160 [d.av] (.tuple [v,int r]):=by
 obtain⟨e,he⟩: ∃e,h3z d=e:=⟨_,rfl⟩;obtain⟨v,hv,ho⟩:=h7g d hf h0 hno e he;refine⟨v,hv,?_⟩;unfold h5o at hr;rw[he] at hr;by_cases hz:e=0
 ·subst hz;rw[if_neg (fun h=>h rfl)] at hr;obtain⟨a1,a2,a3⟩:=h4q he;have hv:v=d.lav:=hv.resolve_right fun h=>h.1 a1;subst hv;clear hv;have htame:=a3.tame a1 hf h0;have hcl:=i3c d htame (h4g a3.2.2);have hgd:=h8r htame (h4g a3.2.2);have hiff:=h9s a3 a1;obtain⟨z,hz⟩: ∃z:Bool,z=AQ↔h7l (i2k d (h3y d).1 (h3y d).2) d:=by classical exact⟨decide _,decide_eq_true_iff⟩
  have hne:=hf.ne;have hnn:=hf.nn;have heq:=i2u (i2k d (h3y d).1 (h3y d).2) d ⟨hf.ns,hf.no,Au hgd.1 hne,Au hgd.2.1 hnn⟩ (fun i hi=>by
   have hi:i<(h3y d).1.on.length:=hi;have hm:(h3y d).1.on.getD i ⟨0,[]⟩∈(h3y d).1.on:=by simp[Aj,AG hi]
   have:=hgd.2.2 _ hm;show ((h3y d).1.on.getD i ⟨0,[]⟩).kids.length<=1000000;omega) z hz
  rw[hiff] at hz;have r0:z=AQ->0=r:=fun h=>by rw[<-hr,if_pos (hz.1 h)]
  have r4:z=AO->4=r:=fun h=>by rw[<-hr,if_neg (fun k=>by rw[hz.2 k] at h;cases h)]
  generalize i2k d (h3y d).1 (h3y d).2=o at hcl heq;clear hr hz hiff hgd htame a1 a2 a3 he hf h0 hne hnn;obtain⟨ns,sz,no,od,ne,en,nn,var,nk,kid,root⟩:=d;obtain⟨ns',sz',no',od',ne',en',nn',var',nk',kid',root'⟩:=o;obtain⟨res,hres⟩: ∃res,res=DiR.lav ⟨ns,sz,no,od,ne,en,nn,var,nk,kid,root⟩:=⟨_,rfl⟩;refine a0k AD okP f0k _ rfl fun E Sg hb hS=> ?_;rw[<-hres];cbv;refine a0v hS _ (by subst hS;exact ho) ?_;cbv;split
  rotate_left
  ·rename_i h;exfalso;clear ho hcl heq;subst hS;simp[AK] at h
  cbv;refine a0v hS _ (by subst hS;exact hcl) ?_;cbv
  repeat' (with_reducible apply a1g hS)
  all_goals try (clear ho hcl heq;subst hS;simp[AK];done)
  refine a0v hS (bool z) (by subst hS;exact heq) ?_;cases z
  ·cbv;subst hres;exact Ad (.cons (AA _) (.cons (a6c (r4 rfl)) .nil))
  ·cbv;subst hres;exact Ad (.cons (AA _) (.cons (b0a (r0 rfl)) .nil))
 ·rw[if_pos hz] at hr;subst hr;clear he hf h0;obtain⟨ns,sz,no,od,ne,en,nn,var,nk,kid,root⟩:=d;obtain⟨res,hres⟩: ∃res,res=v:=⟨_,rfl⟩;rw[<-hres];rcases hv with rfl|⟨_,rfl⟩
  ·refine a0k AD okP f0k _ rfl fun E Sg hb hS=> ?_;cbv;refine a0v hS _ (by subst hS;exact ho) ?_;cbv;split
   ·rename_i h;exfalso;clear ho;subst hS;simp[AK] at h;exact hz h
   cbv;subst hres;exact Ad (.cons (AA _) (.cons (AA _) .nil))
  ·refine a0k AD okP f0k _ rfl fun E Sg hb hS=> ?_;cbv;refine a0v hS _ (by subst hS;exact ho) ?_;cbv;split
   ·rename_i h;exfalso;clear ho;subst hS;simp[AK] at h;exact hz h
   cbv;subst hres;exact Ad (.cons (AA _) (.cons (AA _) .nil))
def i2i (d:Ae)(pl:Nat->Int):Nat->Int->Int
 |0,k=>k
 |f+1,k=>if k<0 then k else i2i d pl f (d.kid k.toNat (pl (d.var k.toNat).toNat).toNat)
def wayE (d:Ae)(pl:Nat->Int)(k:Int):Int:=i2i d pl (k.toNat+1) k
def i3i (d:Ae)(pl:Nat->Int):Prop:= ∀j,j<d.ns->0<=pl j/\pl j<d.sz j
theorem h5q {d:Ae}(hl:h3x d){pl:Nat->Int}(hp:i3i d pl){k:Nat}(hk:k<d.nn):
 (0<=d.var k/\d.var k<d.ns)/\(0<=pl (d.var k).toNat/\pl (d.var k).toNat<(d.nk k:Int))/\h4k d.ne (d.kid k (pl (d.var k).toNat).toNat) k:=by
 obtain⟨⟨⟨a,b⟩,c⟩,e⟩:=hl.2.1 k hk;have h1:=hp (d.var k).toNat (by omega);rw[<-c] at h1;exact⟨⟨a,by omega⟩,h1,h4g (e _ (by omega)).1⟩
theorem i2n {d:Ae}(hl:h3x d){pl:Nat->Int}(hp:i3i d pl): ∀(f:Nat) (k:Int),k<f->k<d.nn->i2i d pl f k=wayE d pl k:=by
 have key: ∀(m:Nat) (f f':Nat) (k:Int),k<m->k<f->k<f'->k<d.nn->i2i d pl f k=i2i d pl f' k:=by
  intro m
  induction m with
  |zero=>
   intro f f' k hm hf hf' hn;have:k<0:=by omega
   cases f<;>cases f'<;>simp[i2i,this]
  |succ m ih=>
   intro f f' k hm hf hf' hn;by_cases h0:k<0
   ·cases f<;>cases f'<;>simp[i2i,h0]
   ·obtain⟨i,rfl⟩: ∃i:Nat,k=i:=⟨k.toNat,by omega⟩;obtain⟨g,rfl⟩: ∃g,f=g+1:=⟨f-1,by omega⟩;obtain⟨g',rfl⟩: ∃g,f'=g+1:=⟨f'-1,by omega⟩;have hi:i<d.nn:=by omega
    have h1:=(h5q hl hp hi).2.2;simp only[i2i,if_neg h0,AB];have hlt:d.kid i (pl (d.var i).toNat).toNat<i:=by
     rcases AJ (d.kid i (pl (d.var i).toNat).toNat) 0 with h|h
     ·omega
     ·exact h1.1 h
    exact ih g g' _ (by omega) (by omega) (by omega) (by omega)
 intro f k hf hn;exact key (k.toNat+1) f (k.toNat+1) k (by omega) hf (by omega) hn
theorem h4x {d:Ae}(hl:h3x d){pl:Nat->Int}(hp:i3i d pl){i:Nat}(hi:i<d.nn):wayE d pl i=wayE d pl (d.kid i (pl (d.var i).toNat).toNat):=by
 have h1:=(h5q hl hp hi).2.2;have hlt:d.kid i (pl (d.var i).toNat).toNat<i:=by
  rcases AJ (d.kid i (pl (d.var i).toNat).toNat) 0 with h|h
  ·omega
  ·exact h1.1 h
 rw[<-i2n hl hp i _ hlt (by omega)];unfold wayE;rw[AB,i2i,if_neg (by omega)];simp only[AB]
theorem h4c {d:Ae}{pl:Nat->Int}{k:Int}(h:k<0):wayE d pl k=k:=by unfold wayE;rw[i2i,if_pos h]
theorem i5w (x:Int):a1h AH 242 [int x] [] (fun pg v h'=>pg=[]/\h'=[]):=by refine h3w AD okP f2s rfl fun E Sg hb hS F hF=> ?_;cbv;exact⟨[],by simp,hF (.nil _) (AA _) (by simp) (.inr rfl) ⟨rfl,rfl⟩⟩
theorem j5u (gid:FuncId)(hnop: ∀x:Int,a1h AH gid [int x] [] (fun pg v h'=>pg=[]/\h'=[]))(d:Ae)(hl:h3x d)(hf:d.fit)(pl:Nat->Int)(hp:i3i d pl):h4k d.ne (wayE d pl d.root) 0/\a0j AH AQ 162 [d.lav,isl d.ns pl,.fn gid [] []] (int (-1-wayE d pl d.root)):=by
 have hro:=h4g hl.2.2;have hnx:=fun k hk=>h5q hl hp (k:=k) hk;have hst:=fun i hi=>h4x hl hp (i:=i) hi;have hwe: ∀k:Int,h4k d.ne k d.nn->wayE d pl k<0/\ -1-wayE d pl k<d.ne:=by
  have: ∀(m:Nat) (k:Int),k<m->h4k d.ne k d.nn->wayE d pl k<0/\ -1-wayE d pl k<d.ne:=by
   intro m
   induction m with
   |zero=>intro k hm hr;rw[h4c (by omega)];exact⟨by omega,hr.2 (by omega)⟩
   |succ m ih=>
    intro k hm hr;by_cases h0:k<0
    ·rw[h4c h0];exact⟨h0,hr.2 h0⟩
    ·obtain⟨i,rfl⟩: ∃i:Nat,k=i:=⟨k.toNat,by omega⟩;have hi:i<d.nn:=by have:=hr.1 (by omega);omega
     rw[hst i hi];have h1:=(hnx i hi).2.2;refine ih _ ?_ ⟨fun h=>by have:=h1.1 h;omega,h1.2⟩;rcases AJ (d.kid i (pl (d.var i).toNat).toNat) 0 with h|h
     ·omega
     ·have:=h1.1 h;omega
  intro k hr;exact this (k.toNat+1) k (by omega) hr
 have hw:=hwe d.root hro;refine⟨⟨fun h=>by omega,fun _=>hw.2⟩,?_⟩;have hne:=hf.ne;have hnn:=hf.nn;have hend:=h9k (wayE d pl d.root) (by omega) (by omega);obtain⟨W,hW⟩: ∃W,W=wayE d pl d.root:=⟨_,rfl⟩;rw[<-hW] at hw hend⊢;have hlast: ∀k:Int,k<0->wayE d pl k=W->k=W:=fun k h e=>by rw[h4c h] at e;exact e
 obtain⟨Y,hY⟩: ∃Y:Int->Int,∀k,wayE d pl k=Y k:=⟨_,fun _=>rfl⟩;simp only[hY] at hst hlast hW;clear hwe hY hl hp hf;obtain⟨ns,sz,no,od,ne,en,nn,var,nk,kid,root⟩:=d;simp only at hnx hst hW hro;refine a4e (a0k AD okP f1o _ rfl fun E Sg hb hS=> ?_);have ett: ∀z,Sg.toNat z=z.toNat:=by subst hS;exact fun _=>rfl
 cbv;refine a7r AD okP hS (σ:=Int) (fun k=>h4k ne k nn/\Y k=W) (fun k=>(k+1).toNat)
  (fun k=>⟨b5r [(1,isl ns pl),(2,.fn gid [] []),(3,.ptr 0 0),(7,int k)] 37,[.var [isl ns sz,isl no od,isl ns sz,isl no od,vsl ne en,Ay nn var nk kid,int root]],[]⟩) root ⟨hro,hW.symm⟩ ?_ ?_
 ·exact a4c rfl ⟨AA _,AA _,AA _,AA _,trivial⟩ (.cons (.refl _) (.nil _)) (by simp;omega) (.inr rfl) rfl
 ·rintro k ⟨hk1,hk2⟩ N hN;cbv;split
  ·have h0:0<=k:=by clear hN hend;subst hS;simp[AK] at*;assumption
   obtain⟨i,rfl⟩: ∃i:Nat,k=i:=⟨k.toNat,by omega⟩;have hi:i<nn:=AI.1 (hk1.1 (AT i));obtain⟨n1,n2,n3⟩:=hnx i hi;cbv;refine h3v hS (Ab (hnop i) [] rfl rfl trivial) ?_;rintro pg v H' ⟨pg0,v0,h0',⟨rfl,rfl⟩,rfl,rfl,rfl⟩;cbv;refine a1g hS (by clear hN hend;subst hS;exact⟨AT i,AI.2 hi⟩) ?_;refine a1g hS (by clear hN hend;subst hS;exact⟨AT i,AI.2 hi⟩) ?_;simp only[A6,ett,AF,AB];refine a1g hS (by clear hN hend;subst hS;exact n1) ?_;refine a1g hS (by clear hN hend;subst hS;exact n2) ?_;refine hN (kid i (pl (var i).toNat).toNat) _ ⟨⟨fun h=>Int.lt_trans (n3.1 h) (AI.2 hi),n3.2⟩,by rw[<-hst i hi];exact hk2⟩ ?_ (a4c rfl ⟨AA _,AA _,AA _,AA _,trivial⟩ (.cons (.refl _) (.nil _)) (by simp;omega) (.inr rfl) rfl);rcases AJ (kid i (pl (var i).toNat).toNat) 0 with h|h
   ·omega
   ·have:=n3.1 h;omega
  ·have h0:k<0:=by clear hN hend;subst hS;simp[AK] at*;omega
   have hkW:=hlast k h0 hk2;subst hkW;cbv;refine a0v hS _ (by subst hS;exact hend) ?_;cbv;exact AA _
theorem i6j (d:Ae)(hl:h3x d)(hf:d.fit)(pl:Nat->Int)(hp:i3i d pl):h4k d.ne (wayE d pl d.root) 0/\a0j AH AQ 162 [d.lav,isl d.ns pl,.fn 242 [] []] (int (-1-wayE d pl d.root)):=j5u 242 i5w d hl hf pl hp
def h4l (pl:Nat->Int)(k:Nat)(z:Int):Nat->Int:=fun j=>if j=k then z else pl j
def h5h (sz:Nat->Int):Nat->(Nat->Int)->Option (Nat->Int)
 |0,_=>AN
 |k+1,pl=>if pl k=sz k-1 then h5h sz k (h4l pl k 0) else AW (h4l pl k (pl k+1))
def h4w (sz pl:Nat->Int):Nat->Int
 |0=>0
 |k+1=>h4w sz pl k*sz k+pl k
def i2j (sz pl:Nat->Int)(n:Nat):Prop:= ∀j,j<n->0<=pl j/\pl j<sz j
theorem h5a {sz pl pl':Nat->Int}: ∀{k:Nat},(∀j,j<k->pl j=pl' j)->h4w sz pl k=h4w sz pl' k
 |0,_=>rfl
 |k+1,h=>by rw[h4w,h4w,h5a fun j hj=>h j (by omega),h k (by omega)]
theorem h5c {sz pl:Nat->Int}: ∀{n:Nat},i2j sz pl n->0<=h4w sz pl n/\h4w sz pl n<prod sz n
 |0,_=>by simp[h4w,prod]
 |n+1,h=>by have h1:=h5c (n:=n) fun j hj=>h j (by omega);have h2:=h n (by omega);rw[h4w,prod];have a:0<=h4w sz pl n*sz n:=Int.mul_nonneg h1.1 (by omega);have b:(h4w sz pl n+1)*sz n<=prod sz n*sz n:=Int.mul_le_mul_of_nonneg_right (by omega) (by omega);rw[A3] at b;omega
theorem h5t {sz:Nat->Int}: ∀{k:Nat} {pl pl':Nat->Int},i2j sz pl k->h5h sz k pl=AW pl'->h4w sz pl' k=h4w sz pl k+1/\i2j sz pl' k/\ ∀j,k<=j->pl' j=pl j
 |0,_,_,_,h=>by simp[h5h] at h
 |k+1,pl,pl',hp,h=>by
  rw[h5h] at h;have hk:=hp k (by omega);split at h
  ·rename_i he;have h1:=h5t (k:=k) (pl:=h4l pl k 0) (fun j hj=>by simp only[h4l];rw[if_neg (by omega)];exact hp j (by omega)) h;have e0:pl' k=0:=by rw[h1.2.2 k (Af k)];simp[h4l]
   have ev:h4w sz (h4l pl k 0) k=h4w sz pl k:=h5a fun j hj=>by simp only[h4l];rw[if_neg (by omega)]
   refine⟨?_,fun j hj=> ?_,fun j hj=> ?_⟩
   ·rw[h4w,h4w,h1.1,ev,e0,A3];omega
   ·by_cases e:j=k
    ·subst e;rw[e0];omega
    ·exact h1.2.1 j (by omega)
   ·rw[h1.2.2 j (by omega)];simp only[h4l];rw[if_neg (by omega)]
  ·rename_i he;cases h;have ev:h4w sz (h4l pl k (pl k+1)) k=h4w sz pl k:=h5a fun j hj=>by simp only[h4l];rw[if_neg (by omega)]
   refine⟨?_,fun j hj=> ?_,fun j hj=> ?_⟩
   ·rw[h4w,h4w,ev];simp only[h4l,if_pos];omega
   ·simp only[h4l];by_cases e:j=k
    ·subst e;rw[if_pos rfl];omega
    ·rw[if_neg e];exact hp j (by omega)
   ·simp only[h4l];rw[if_neg (by omega)]
theorem h5r {sz:Nat->Int}: ∀{k:Nat} {pl:Nat->Int},i2j sz pl k->h5h sz k pl=AN->h4w sz pl k=prod sz k-1
 |0,_,_,_=>by simp[h4w,prod]
 |k+1,pl,hp,h=>by
  rw[h5h] at h;have hk:=hp k (by omega);split at h
  ·rename_i he;have h1:=h5r (k:=k) (pl:=h4l pl k 0) (fun j hj=>by simp only[h4l];rw[if_neg (by omega)];exact hp j (by omega)) h;have ev:h4w sz (h4l pl k 0) k=h4w sz pl k:=h5a fun j hj=>by simp only[h4l];rw[if_neg (by omega)]
   rw[ev] at h1;rw[h4w,prod,h1,he,Int.sub_mul];omega
  ·cases h
def h5j (sz:Nat->Int)(n:Nat):Nat->(Nat->Int)
 |0=>fun _=>0
 |p+1=>(h5h sz n (h5j sz n p)).getD (h5j sz n p)
theorem h7i {sz:Nat->Int}: ∀n,h4w sz (fun _=>0) n=0
 |0=>rfl
 |n+1=>by rw[h4w,h7i n];simp
theorem h5s {sz:Nat->Int}{n:Nat}(hs: ∀j,j<n->1<=sz j): ∀p:Nat,(p:Int)<prod sz n->i2j sz (h5j sz n p) n/\h4w sz (h5j sz n p) n=p
 |0,_=>⟨fun j hj=>by have:=hs j hj;simp only[h5j];omega,h7i n⟩
 |p+1,h=>by
  obtain⟨h1,h2⟩:=h5s hs p (by omega);cases hc:h5h sz n (h5j sz n p) with
  |none=>have:=h5r h1 hc;omega
  |some q=>have h3:=h5t h1 hc;rw[h5j,hc];exact⟨h3.2.1,by simp only[Option.getD];rw[h3.1,h2];omega⟩
theorem i1o {sz:Nat->Int}{n:Nat}(hs: ∀j,j<n->1<=sz j){p:Nat}(h:(p:Int)<prod sz n):
 (∀q,h5h sz n (h5j sz n p)=AW q->h5j sz n (p+1)=q/\((p+1:Nat):Int)<prod sz n)/\(h5h sz n (h5j sz n p)=AN->((p+1:Nat):Int)=prod sz n):=by
 obtain⟨h1,h2⟩:=h5s hs p h;constructor
 ·intro q hc;have h3:=h5t h1 hc;have h4:=h5c h3.2.1;refine⟨by rw[h5j,hc];rfl,?_⟩;rw[h3.1,h2] at h4;omega
 ·intro hc;have:=h5r h1 hc;omega
def i4w:Nat->Int
 |0=> -1
 |k+1=>(k:Int)
theorem h9p (k:Nat):i4w k=(k:Int)-1:=by cases k<;>simp[i4w]
theorem i0o {ns no:Nat}(sz od:Nat->Int)(hns:ns<=1000000)(hs: ∀j,j<ns->1<=sz j/\sz j<=12)(hp:prod sz ns<=2000)(A B C D:Nat->a0f)(hlow: ∀p,d5i 4 [A p,B p,C p,D p]=AQ)
 (hy: ∀(p:Nat) (u:Nat->Int),(p:Int)<prod sz ns->(∀j,j<ns->u j=h5j sz ns p j)->
   b5d AH 2 [int p,.msl 5 1 AN ns AO] [A p,B p,C p,D p,.var [isl ns sz,isl no od],arrI ns u]
    (fun pg v h'=>pg=[3]/\v= .d (.bool AQ)/\h'=[A (p+1),B (p+1),C (p+1),D (p+1),.var [isl ns sz,isl no od],arrI ns u])):
 a1h AH 241 [.agg [isl ns sz,isl no od],.yl 2] [A 0,B 0,C 0,D 0] (fun pg v h'=>pg=[3]/\ ∃q:Nat,(q:Int)=prod sz ns/\h'=[A q,B q,C q,D q]):=by
 have hs1:=fun j hj=>(hs j hj).1;have hsq:=fun p h=>h5s (sz:=sz) (n:=ns) hs1 p h;have hnx:=fun p h=>i1o (sz:=sz) (n:=ns) hs1 (p:=p) h;have hpos:=h4r hs1;obtain⟨T,hT⟩: ∃T:Nat,(T:Int)=prod sz ns:=⟨(prod sz ns).toNat,by omega⟩;rw[<-hT] at hsq hnx hpos hy⊢;have hT2:T<=2000:=by omega
 have hsq:=fun p (h:p<T)=>hsq p (AI.2 h);have hnx: ∀p,p<T->(∀q,h5h sz ns (h5j sz ns p)=AW q->h5j sz ns (p+1)=q/\p+1<T)/\(h5h sz ns (h5j sz ns p)=AN->p+1=T):=fun p h=>by obtain⟨a,b⟩:=hnx p (AI.2 h);exact⟨fun q hq=>⟨(a q hq).1,AI.1 (a q hq).2⟩,fun hq=>Int.ofNat.inj (b hq)⟩
 have hy:=fun p u (h:p<T) hu=>hy p u (AI.2 h) hu;have hpos:0<T:=by omega
 clear hT hp;refine h3w AD okP e7j rfl fun E Sg hb hS F hF=> ?_;simp only[Aa,AR] at hb;have ett: ∀z,Sg.toNat z=z.toNat:=by subst hS;exact fun _=>rfl
 cbv;refine a1g hS (by clear hy hF hsq hnx;subst hS;simp[AK]) (a1g hS (by clear hy hF hsq hnx;subst hS;simp[AK,big];omega) ?_);refine a7r AD okP hS (σ:=Nat×(Nat->Int)) (fun s=>s.1<T/\ ∀j,j<ns->s.2 j=h5j sz ns s.1 j) (fun s=>T-s.1)
  (fun s=>⟨b5r [(1,.yl 2),(2,.ptr 4 0),(4,.msl 5 1 AN ns AO),(5,int s.1)] 49,[A s.1,B s.1,C s.1,D s.1,.var [isl ns sz,isl no od],arrI ns s.2],[3]⟩) (0,fun _=>0) ⟨hpos,fun j hj=>rfl⟩ ?_ ?_
 ·refine a4c rfl ⟨AA _,AA _,(by clear hy hF hsq hnx;subst hS;exact AA _),a6c rfl,trivial⟩ (.cons (.refl _) (.cons (.refl _) (.cons (.refl _) (.cons (.refl _) (.cons (.refl _) (.cons (Aq ?_ ?_) (.nil _))))))) (by simp;omega) (.inr rfl) rfl
  ·clear hy hF hsq hnx;subst hS;rfl
  ·intro j hj;clear hy hF hsq hnx;subst hS;simp only[AK] at hj⊢;rw[if_pos hj];exact .one (.int rfl)
 ·rintro⟨p,u⟩ ⟨hp1,hu⟩ N hN;simp only at hp1 hu hN;have hyp:=hy p u hp1 hu;obtain⟨g1,g2⟩:=hsq p hp1;obtain⟨n1,n2⟩:=hnx p hp1;cbv;refine i5x hS hyp ?_;rintro pg v H' ⟨rfl,rfl,rfl⟩;cbv;refine a1g hS (by clear hy hF hsq hnx hyp hN;subst hS;exact b6g (by simp[AK];omega) (by simp[AK];omega)) ?_;refine a7r AD okP hS (σ:=Nat×(Nat->Int)) (fun s=>s.1<=ns/\h5h sz ns (h5j sz ns p)=h5h sz s.1 s.2/\i2j sz s.2 ns) (fun s=>s.1)
   (fun s=>⟨b5r [(1,.yl 2),(2,.ptr 4 0),(4,.msl 5 1 AN ns AO),(5,int p),(6,int (i4w s.1))] 49,[A (p+1),B (p+1),C (p+1),D (p+1),.var [isl ns sz,isl no od],arrI ns s.2],[3]⟩) (ns,h5j sz ns p) ⟨by simp,rfl,g1⟩ ?_ ?_
  ·refine a4c rfl ⟨AA _,AA _,AA _,AA _,b0a ?_,trivial⟩ (.cons (.refl _) (.cons (.refl _) (.cons (.refl _) (.cons (.refl _) (.cons (.refl _) (.cons (a9v.arrI rfl fun j hj=>by rw[hu j hj]) (.nil _))))))) (by simp;omega) (.inr rfl) rfl;rw[h9p];clear hy hF hsq hnx hyp hN;subst hS;rfl
  ·rintro⟨k,w⟩ ⟨hk,hc,hw⟩ M hM;simp only at hk hc hw hM;cases k with
   |zero=>
    have hend:=n2 hc;cbv;split
    ·rename_i h;exfalso;clear hy hF hsq hnx hyp hN hM;subst hS;simp[AK] at h
    cbv;split
    ·cbv;exact⟨[3],by simp,hF (h1:=[A (p+1),B (p+1),C (p+1),D (p+1)]) (.cons (.refl _) (.cons (.refl _) (.cons (.refl _) (.cons (.refl _) (.nil _))))) (AA _) (by simp) (.inl ⟨rfl,hlow (p+1)⟩) ⟨rfl,p+1,by rw[hend],rfl⟩⟩
    ·rename_i h;exfalso;clear hy hF hsq hnx hyp hN hM;subst hS;simp[AK] at h
   |succ k=>
    rw[h5h] at hc;have hszk:=hs k (by omega);have hwk:=hw k (by omega);cbv;split
    rotate_left
    ·rename_i h;exfalso;clear hy hF hsq hnx hyp hN hM;subst hS;simp[AK] at h<;>omega
    cbv;refine a1g hS (by clear hy hF hsq hnx hyp hN hM;subst hS;simp[AK];omega) ?_;refine a1g hS (by clear hy hF hsq hnx hyp hN hM;subst hS;simp[AK];omega) ?_;refine a1g hS (by clear hy hF hsq hnx hyp hN hM;subst hS;simp[AK];omega) ?_;simp only[A6,ett,AF,AB];refine a1g hS (by clear hy hF hsq hnx hyp hN hM;subst hS;exact b6g (by simp[AK];omega) (by simp[AK];omega)) ?_;split
    ·have he:w k=sz k-1:=by clear hy hF hsq hnx hyp hN hM;subst hS;simp[AK] at*;assumption
     rw[if_pos he] at hc;cbv;refine a1g hS (by clear hy hF hsq hnx hyp hN hM;subst hS;simp[AK];omega) ?_;simp only[A6,ett,AF,AB];refine a1g hS (by clear hy hF hsq hnx hyp hN hM;subst hS;simp[AK];omega) ?_;refine a1g hS (by clear hy hF hsq hnx hyp hN hM;subst hS;exact b6g (by simp[AK];omega) (by simp[AK];omega)) ?_;refine hM (k,h4l w k 0) _ ⟨by simp;omega,hc,fun j hj=> ?_⟩ (by simp) (a4c rfl ⟨AA _,AA _,AA _,AA _,b0a ?_,trivial⟩ (.cons (.refl _) (.cons (.refl _) (.cons (.refl _) (.cons (.refl _) (.cons (.refl _) (.cons (Aq rfl fun j hj=> ?_) (.nil _))))))) (by simp;omega) (.inr rfl) rfl)
     ·simp only[h4l];split
      ·rename_i e;subst e;omega
      ·exact hw j hj
     ·rw[h9p];clear hy hF hsq hnx hyp hN hM;subst hS;simp[AK]
     ·clear hy hF hsq hnx hyp hN hM;subst hS;simp only[AK,h4l];split
      ·exact .one (.int rfl)
      ·exact .refl _
    ·have he:w k≠sz k-1:=by clear hy hF hsq hnx hyp hN hM;subst hS;simp[AK] at*;assumption
     rw[if_neg he] at hc;obtain⟨q1,q2⟩:=n1 _ hc;cbv;split
     ·rename_i h;exfalso;clear hy hF hsq hnx hyp hN hM;subst hS;simp[AK] at h<;>omega
     cbv;refine a1g hS (by clear hy hF hsq hnx hyp hN hM;subst hS;simp[AK];omega) ?_;simp only[A6,ett,AF,AB];refine a1g hS (by clear hy hF hsq hnx hyp hN hM;subst hS;simp[AK];omega) ?_;refine a1g hS (by clear hy hF hsq hnx hyp hN hM;subst hS;exact b6g (by simp[AK];omega) (by simp[AK];omega)) ?_;refine a1g hS (by clear hy hF hsq hnx hyp hN hM;subst hS;simp[AK];omega) ?_;refine a1g hS (by clear hy hF hsq hnx hyp hN hM;subst hS;simp[AK];omega) ?_;refine a1g hS (by clear hy hF hsq hnx hyp hN hM;subst hS;exact b6g (by simp[AK];omega) (by simp[AK];omega)) ?_;refine hN (p+1,h4l w k (w k+1)) _ ⟨q2,fun j hj=>by rw[q1]⟩ (by simp;omega) (a4c rfl ⟨AA _,AA _,AA _,b0a ?_,trivial⟩ (.cons (.refl _) (.cons (.refl _) (.cons (.refl _) (.cons (.refl _) (.cons (.refl _) (.cons (a9v.arrI rfl fun j hj=> ?_) (.nil _))))))) (by simp;omega) (.inr rfl) rfl)
     ·clear hy hF hsq hnx hyp hN hM;subst hS;simp[AK]
     ·clear hy hF hsq hnx hyp hN hM;subst hS;simp only[AK,h4l];split<;>rfl
def DiR.cell (d:Ae)(i:Nat):VaR:=d.en (-1-wayE d (h5j d.sz d.ns i) d.root).toNat
def i7m:a0c×a0c:=match g9y with| .seq _ (.seq (.seq _ (.block _ (.range _ _ a b))) _)=>(a,b)|_=>(.ret,.ret)
def i3j:a0f:= .loop .ready (b5r [(1,.ptr 0 0),(2,.ptr 1 0)] 22) [8,9] (fun ca cb=>comp AH g1f.A ca=AW i7m.1/\comp AH g1f.A cb=AW i7m.2)
def DiR.lcs (d:Ae):List AV:=[isl d.ns d.sz,isl d.no d.od,isl d.ns d.sz,isl d.no d.od,vsl d.ne d.en,Ay d.nn d.var d.nk d.kid,int d.root]
theorem i0e {d:Ae}(hl:h3x d){pl u:Nat->Int}(hpu: ∀j,j<d.ns->pl j=u j)(hp:i3i d pl)(hu:i3i d u)(k:Int)(hk:h4k d.ne k d.nn):wayE d pl k=wayE d u k:=by
 have: ∀(m:Nat) (k:Int),k<m->k<d.nn->wayE d pl k=wayE d u k:=by
  intro m
  induction m with
  |zero=>intro k hm hn;rw[h4c (by omega),h4c (by omega)]
  |succ m ih=>
   intro k hm hn;by_cases h0:k<0
   ·rw[h4c h0,h4c h0]
   ·obtain⟨i,rfl⟩: ∃i:Nat,k=i:=⟨k.toNat,by omega⟩;have hi:i<d.nn:=by omega
    have h1:=(h5q hl hp hi);rw[h4x hl hp hi,h4x hl hu hi,hpu _ (by have:=h1.1;omega)];have h2:=h1.2.2;rw[hpu _ (by have:=h1.1;omega)] at h2;have hlt:d.kid i (u (d.var i).toNat).toNat<i:=by
     rcases AJ (d.kid i (u (d.var i).toNat).toNat) 0 with h|h
     ·omega
     ·exact h2.1 h
    exact ih _ (by omega) (by omega)
 rcases AJ k 0 with h|h
 ·rw[h4c h,h4c h]
 ·exact this (k.toNat+1) k (by omega) (hk.1 h)
theorem i4f (d:Ae)(hl:h3x d)(hf:d.fit)(hs: ∀j,j<d.ns->1<=d.sz j/\d.sz j<=12){T:Nat}(hT:(T:Int)=prod d.sz d.ns)(hp:T<=2000):
 a0j AH AO 203 [d.lav] (vsl T d.cell):=by
 have hway:=fun pl h=>i6j d hl hf pl h;have hne:=hf.ne;have hns:=hf.ns;refine a0k AD okP e9k _ rfl fun E Sg hb hS=> ?_;have ett: ∀z,Sg.toNat z=z.toNat:=by subst hS;exact fun _=>rfl
 cbv;refine i0x hS rfl ?_;have hc:=(Ar (args:=[.agg [isl d.ns d.sz,isl d.no d.od],.yl 2]) (args':=[.agg [isl d.ns d.sz,isl d.no d.od],.yl 2]) (h:=[.var d.lcs,.var [.d .nil],i3j]) (h2:=[.var d.lcs,.var [.msl 3 2 AN 0 AO],i3j]) 2 (fun i=>(d.cell i).row) (i0o d.sz d.od (no:=d.no) hns hs (by rw[<-hT];exact Ax.2 hp) (fun _=> .var d.lcs) (fun p=> .var [.msl 3 2 AN p AO]) (fun _=>i3j) (fun p=> .arr 2 p fun i=>(d.cell i).row) (fun p=>rfl) ?_) ⟨.inl rfl,.inl rfl,trivial⟩ ⟨.inl rfl,.inr ⟨_,_,rfl,rfl,.inr ⟨rfl,rfl⟩,trivial⟩,.inl rfl,trivial⟩).pgs
 ·refine (a1h.mono ?_ (hc.heap (.cons (AC _) (.cons (AC _) (.cons (A5 ?_ fun a b h=>h) (.nil _)))) rfl))
  ·rintro pg v h' ⟨pg1,⟨rfl,q,hq,rfl⟩,rfl⟩;obtain rfl:q=T:=Int.ofNat.inj (hq.trans hT.symm);clear hc;cbv;refine⟨fun h=>(nomatch h),_,_,_,_,rfl,?_⟩;cbv;exact a1g hS (by subst hS;exact Af _) (AA _)
  ·exact d2w rfl ⟨AA _,AA _,trivial⟩
 ·intro p u hp1 hu;have hpl:i3i d u:=fun j hj=>by rw[hu j hj];exact (h5s (n:=d.ns) (fun j hj=>(hs j hj).1) p hp1).1 j hj
  obtain⟨hw1,hw2⟩:=hway u hpl;have hwe:wayE d (h5j d.sz d.ns p) d.root=wayE d u d.root:=i0e hl (fun j hj=>(hu j hj).symm) (fun j hj=>by rw[<-hu j hj];exact hpl j hj) hpl _ (h4g hl.2.2);refine b5d.cut (b9t AD okP (A:=g1f.A) rfl (fun _ _ h=>h) rfl fun ro E Sg hS=> ?_);have ett: ∀z,Sg.toNat z=z.toNat:=by subst hS;exact fun _=>rfl
  clear hway;cbv;refine⟨fun h=>(nomatch h),_,_,_,rfl,?_⟩;cbv;refine a1g hS (by subst hS;exact Af _) ?_;have hix:0<= -1-wayE d u d.root/\ -1-wayE d u d.root<d.ne:=⟨by have:=hw1.1;omega,hw1.2 (by have:=hw1.1;omega)⟩;obtain⟨W,hW⟩: ∃W,-1-wayE d u d.root=W:=⟨_,rfl⟩;have hcell:d.cell p=d.en W.toNat:=by rw[<-hW];exact congrArg (fun z=>d.en (-1-z).toNat) hwe
  rw[hW] at hw2 hix;have hpT:p<T:=by have h:=hp1;rw[<-hT] at h;exact AI.1 h
  refine a0v hS _ hw2 ?_;cbv;refine a1g hS (by subst hS;rfl) (a1g hS (by subst hS;rfl) (a1g hS (by clear hw2;subst hS;exact hix) (a1g hS (by subst hS;rfl) (a1g hS trivial (a1g hS (by clear hw2;subst hS;simp[AK];omega) ?_)))));refine⟨fun h=>(nomatch h),_,_,_,rfl,[3],?_,?_⟩
  ·exact fun m _ h=>h
  ·cbv;refine⟨[.var d.lcs,.var [.msl 3 2 AN (p+1) AO],i3j,.arr 2 (p+1) fun i=>(d.cell i).row,.var [isl d.ns d.sz,isl d.no d.od],arrI d.ns u],.d (.bool AQ),?_,AA _,by simp,.inr ?_,rfl,rfl,rfl⟩
   ·refine .cons (AC _) (.cons (a9v.var (.cons ?_ .nil)) (.cons (A5 (d2w rfl ⟨AA _,AA _,trivial⟩) fun a b h=>h) (.cons (a9v.arr' ?_ ?_) (.cons (AC _) (.cons (AC _) (.nil _))))))
    ·subst hS;exact AA _
    ·subst hS;rfl
    ·intro i hi;subst hS;simp only[AK] at hi⊢;by_cases h:i<p
     ·rw[if_pos h]
     ·obtain rfl:i=p:=by omega
      rw[if_neg (by omega),Nat.sub_self,hcell];rfl
   ·rfl
theorem i5u (d:Ae)(hf:d.fit)(h0: ∀i,i<d.ne->0<=(d.en i).fault)(hno:d.no<=12)(r:Int)(hr:h5o d=r)(v:AV)
 (hv:(r≠0/\v= .d .nil)\/(r=0/\ ∃T:Nat,(T:Int)=prod d.sz d.ns/\v=vsl T d.cell)):a0j AH AO 170 [d.av] (.tuple [v,int r]):=by
 obtain⟨w,hw,ho⟩:=i1u d hf h0 hno r hr;by_cases hz:r=0
 ·subst hz;obtain⟨⟨k1,k2,k3⟩,k4⟩:(h4e d.ns d.no d.sz d.od=0/\d.nn<=6000/\h3x d)/\h5e d:=⟨h4q (h6x hr).1,(h6x hr).2⟩;obtain⟨f1,f2,f3,f4⟩:=h4s k1;obtain⟨_,T,hT,rfl⟩:=hv.resolve_left fun h=>h.1 rfl;obtain rfl:=hw.resolve_right fun h=>h.1 k1;have hl:=i4f d k3 hf f2 hT (Ax.1 (by rw[<-hT] at f3;exact f3));clear hw hv hr k1 k2 k3 k4 f1 f2 f3 f4;refine a0k AD okP e9e _ rfl fun E Sg hb hS=> ?_;cbv;refine a0v hS _ ho ?_;cbv;split
  ·rename_i h;exfalso;clear ho hl;subst hS;simp[AK] at h
  cbv;refine a0v hS _ hl ?_;cbv;exact Ad (.cons (AA _) (.cons (a6c rfl) .nil))
 ·obtain⟨_,rfl⟩:=hv.resolve_right fun h=>hz h.1;clear hv hr;rcases hw with rfl|⟨_,rfl⟩<;>
  ·refine a0k AD okP e9e _ rfl fun E Sg hb hS=> ?_;cbv;refine a0v hS _ ho ?_;cbv;split
   rotate_left
   ·rename_i h;exfalso;clear ho;subst hS;simp[AK,hz] at h
   cbv;exact Ad (.cons (AA _) (.cons (b0a rfl) .nil))
end Go.Proofs.Tryz.Run
