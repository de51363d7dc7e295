/- The plain law: what the maker has stays within its bounds. The program's clean: what its recursion does. The program's clean: the recursion. The program's clean: the recursion, for nodes. Conditions: none. -/
import Derived.Test.YtbglklaocjifhaaGreatESj
open Go.Proofs.Tryz.Run.Law renaming mkNode->AA,mkEnd->AE,at1->AF,kidsF->AH,frm->AM,Mk->AO,learn->AT,onceE_not->Ac,onceE_mem->Ad,at1_not->Ag,flatL->Ah
open Go.Vf.a9v renaming refl->AB,map->Ae
open Int renaming toNat_natCast->AC,ofNat_eq_natCast->AG,ofNat->AN,lt_or_le->AU,natCast_nonneg->AZ,ofNat_lt->Af
open Go.Vf.a0x renaming refl->AD
open List renaming getElem?_eq_getElem->AI,range->AK,length_nil->AL,length_cons->AP,getElem?_append_right->AQ,getElem?_eq_some_iff->AR,getElem?_append_left->AS,mem_of_getElem?->AW,length_append->AX,filter_append->AY,cons_append->Aa
open Option renaming some->AJ,none->Ab
set_option linter.unusedSimpArgs false
set_option linter.unusedVariables false
set_option maxHeartbeats 0
namespace Go.Proofs.Tryz.Run
open Go Go.Vf Go.Proofs
open Go.Proofs.YtbglklaocjifhaaGreat
namespace Law
theorem h7e {α:Type}[DecidableEq α]: ∀{l m:List α},l.Nodup->(∀x,x∈l->x∈m)->l.length<=m.length
 |[],m,_,_=>by simp
 |x::l,m,hn,h=>by
  obtain⟨h1,h2⟩:=List.nodup_cons.1 hn;have hx:=h x (by simp);have:=h7e (m:=m.erase x) h2 fun y hy=>by have hne:y≠x:=fun e=>h1 (e▸hy);exact (List.mem_erase_of_ne hne).2 (h y (by simp[hy]))
  rw[List.length_erase_of_mem hx] at this;have:0<m.length:=List.length_pos_of_mem hx;simp;omega
section
variable (E:List VaR) (N:List NdR)
def okT (ne nn:Nat)(t:Int):Prop:= -1-(ne:Int)<=t/\t<=nn
structure GoodM (nn:Nat)(shp:NdR->Prop)(s:Mk):Prop where
 oe:s.oe.Nodup
 sub: ∀v,v∈s.oe->v∈E
 on:s.on.length<=((AK nn).filter fun i=>(s.kn i).isSome).length
 sh: ∀b,b∈s.on->shp b
 kn: ∀i t,s.kn i=AJ t->okT E.length nn t
variable {E N}
theorem GoodM.oeLen {nn:Nat}{shp:NdR->Prop}{s:Mk}(h:GoodM E nn shp s):s.oe.length<=E.length:=h7e h.oe h.sub
theorem GoodM.onLen {nn:Nat}{shp:NdR->Prop}{s:Mk}(h:GoodM E nn shp s):s.on.length<=nn:=by have h1:=h.on;have h2:=List.length_filter_le (fun i=>(s.kn i).isSome) (AK nn);simp at h2;omega
theorem GoodM.mkEnd {nn:Nat}{shp:NdR->Prop}{s:Mk}(h:GoodM E nn shp s){v:VaR}(hv:v∈E):GoodM E nn shp (mkEnd s v).1/\okT E.length nn (mkEnd s v).2:=by
 refine⟨⟨h5i h.oe v,fun w hw=> ?_,h.on,h.sh,h.kn⟩,?_⟩
 ·simp only[AE,onceE] at hw;split at hw
  ·exact h.sub w hw
  ·simp at hw;rcases hw with hw|rfl
   ·exact h.sub w hw
   ·exact hv
 ·have h1:=at1_le s.oe v;have h2:=h.oeLen;simp only[okT,AE];omega
theorem h8w (u:Nat->Bool)(x:Nat)(hx:u x=false): ∀nc,((AK nc).filter fun k=>if k=x then true else u k).length=((AK nc).filter u).length+(if x<nc then 1 else 0):=by
 intro nc
 induction nc with
 |zero=>simp
 |succ n ih=>
  rw[List.range_succ,AY,AY,AX,AX,ih];by_cases e:n=x
  ·subst e;simp[hx]
  ·have:(x<n+1)=(x<n):=by simp;omega
   simp only[this];cases hu:u n<;>simp[e,hu]<;>omega
theorem h7f (kn:Nat->Option Int)(x:Nat)(z:Int)(hx:kn x=Ab): ∀nn,((AK nn).filter fun i=>(if i=x then AJ z else kn i).isSome).length=((AK nn).filter fun i=>(kn i).isSome).length+(if x<nn then 1 else 0):=by
 intro nn;have:=h8w (fun i=>(kn i).isSome) x (by simp[hx]) nn;rw[<-this];congr 1;apply List.filter_congr;intro i _;by_cases e:i=x
 ·simp[e]
 ·simp[e]
theorem frm_good {nn:Nat}(hN:N.length=nn){shp:NdR->Prop}(hloose: ∀(i:Nat) (b:NdR),N[i]? =AJ b-> ∀k,k∈b.kids->okRef E k i)(hshp: ∀(i:Nat) (b:NdR),N[i]? =AJ b->1<=b.kids.length/\ ∀l:List Int,l.length=b.kids.length->shp ⟨b.var,l⟩):
 ∀(f:Nat) (ref:Int) (s:Mk),ref<f->okRef E ref nn->GoodM E nn shp s->GoodM E nn shp (frm E N f ref s).1/\okT E.length nn (frm E N f ref s).2/\ ∀j:Nat,ref<j->(frm E N f ref s).1.kn j=s.kn j
 |0,ref,s,hf,hr,hs=>by
  have h0:ref<0:=by omega
  obtain⟨v,hv⟩: ∃v,E[(-1-ref).toNat]? =AJ v:=⟨_,AI (hr.2 h0)⟩;rw[frm,if_pos h0,hv];have h1:=hs.mkEnd (AW hv);exact⟨h1.1,h1.2,fun j _=>rfl⟩
 |f+1,ref,s,hf,hr,hs=>by
  by_cases h0:ref<0
  ·obtain⟨v,hv⟩: ∃v,E[(-1-ref).toNat]? =AJ v:=⟨_,AI (hr.2 h0)⟩;rw[frm,if_pos h0,hv];have h1:=hs.mkEnd (AW hv);exact⟨h1.1,h1.2,fun j _=>rfl⟩
  obtain⟨i,rfl⟩: ∃i:Nat,ref=i:=⟨ref.toNat,by omega⟩;have hi:i<nn:=by have:=hr.1 (by omega);omega
  obtain⟨b,hb⟩: ∃b,N[i]? =AJ b:=⟨_,AI (by omega)⟩;rw[frm,if_neg h0];simp only[AC,hb];cases hk:s.kn i with
  |some t=>exact⟨hs,hs.kn i t hk,fun j _=>rfl⟩
  |none=>
   simp only;have key: ∀(l:List Int),(∀k,k∈l->okRef E k i)-> ∀p:Mk×List Int,GoodM E nn shp p.1->(∀t,t∈p.2->okT E.length nn t)->
    GoodM E nn shp (kidsF E N f l p).1/\(∀t,t∈(kidsF E N f l p).2->okT E.length nn t)/\(kidsF E N f l p).2.length=p.2.length+l.length/\ ∀j:Nat,i<=j->(kidsF E N f l p).1.kn j=p.1.kn j:=by
    intro l
    induction l with
    |nil=>intro _ p h1 h2;exact⟨h1,h2,by simp[kidsF],fun j _=>rfl⟩
    |cons k l ih=>
     intro hl p h1 h2;have hki:=hl k (by simp);have hkf:k<f:=by
      rcases AU k 0 with h|h
      ·omega
      ·have:=hki.1 h;omega
     have h3:=frm_good hN hloose hshp f k p.1 hkf ⟨fun h=>by have:=hki.1 h;omega,hki.2⟩ h1;have h4:=ih (fun k hk=>hl k (by simp[hk])) ((frm E N f k p.1).1,p.2++[(frm E N f k p.1).2]) h3.1 (fun t ht=>by
      simp at ht;rcases ht with ht|rfl
      ·exact h2 t ht
      ·exact h3.2.1)
     refine⟨h4.1,h4.2.1,?_,fun j hj=> ?_⟩
     ·have:=h4.2.2.1;simp at this;show (kidsF E N f l ((frm E N f k p.1).1,p.2++[(frm E N f k p.1).2])).2.length=_;rw[this];simp;omega
     ·have h5:=h4.2.2.2 j hj;have h6:=h3.2.2 j (by
       rcases AU k 0 with h|h
       ·omega
       ·have:=hki.1 h;omega)
      exact h5.trans h6
   obtain⟨h1,h2,h3,h4⟩:=key b.kids (hloose i b hb) (s,[]) hs (by simp);simp only[AL,Nat.zero_add] at h3;obtain⟨hb1,hb2⟩:=hshp i b hb;change GoodM E nn shp (learn (AA (kidsF E N f b.kids (s,[])).1 ⟨b.var,(kidsF E N f b.kids (s,[])).2⟩).1 i (AA (kidsF E N f b.kids (s,[])).1 ⟨b.var,(kidsF E N f b.kids (s,[])).2⟩).2)/\okT E.length nn (AA (kidsF E N f b.kids (s,[])).1 ⟨b.var,(kidsF E N f b.kids (s,[])).2⟩).2/\ ∀j:Nat,(i:Int)<j->(learn (AA (kidsF E N f b.kids (s,[])).1 ⟨b.var,(kidsF E N f b.kids (s,[])).2⟩).1 i (AA (kidsF E N f b.kids (s,[])).1 ⟨b.var,(kidsF E N f b.kids (s,[])).2⟩).2).kn j=s.kn j;generalize kidsF E N f b.kids (s,[])=r at h1 h2 h3 h4;have hkn:r.1.kn i=Ab:=(h4 i (Nat.le_refl i)).trans hk;have hT:okT E.length nn (AA r.1 ⟨b.var,r.2⟩).2:=by
    unfold AA;split
    ·cases hr2:r.2 with
     |nil=>rw[hr2] at h3;simp at h3;omega
     |cons x l=>exact h2 x (by rw[hr2];simp)
    ·have:=at1_le r.1.on ⟨b.var,r.2⟩;have:=h1.onLen;simp only[okT];omega
   have hkeep:(AA r.1 ⟨b.var,r.2⟩).1.kn=r.1.kn/\(AA r.1 ⟨b.var,r.2⟩).1.oe=r.1.oe:=by unfold AA;split<;>exact⟨rfl,rfl⟩
   have hlen:(AA r.1 ⟨b.var,r.2⟩).1.on.length<=r.1.on.length+1:=by
    unfold AA onceE;split
    ·simp
    ·simp only;split<;>simp
   have hsh: ∀c,c∈(AA r.1 ⟨b.var,r.2⟩).1.on->shp c:=by
    intro c hc;unfold AA onceE at hc;split at hc
    ·exact h1.sh c hc
    ·simp only at hc;split at hc
     ·exact h1.sh c hc
     ·simp at hc;rcases hc with hc|rfl
      ·exact h1.sh c hc
      ·exact hb2 r.2 h3
   generalize AA r.1 ⟨b.var,r.2⟩=m at hT hkeep hlen hsh;refine⟨⟨by simp only[learn];rw[hkeep.2];exact h1.oe,fun v hv=>h1.sub v (by simpa only[learn,hkeep.2] using hv),?_,hsh,fun j t hj=> ?_⟩,hT,fun j hj=> ?_⟩
   ·simp only[learn];rw[hkeep.1,h7f r.1.kn i m.2 hkn nn,if_pos hi];have:=h1.on;omega
   ·simp only[learn] at hj;split at hj
    ·cases hj;exact hT
    ·rw[hkeep.1] at hj;exact h1.kn j t hj
   ·simp only[learn];rw[if_neg (by omega),hkeep.1];exact h4 j (by omega)
end
end Law
structure Rep (shp:NdR->Prop)(s:AO)(q1 q2:Nat)(f1 f2:List KC->Option Int)(e1 e2:Nat->List DV)(fk:List KC->Option Int):Prop where
 q1:q1=s.oe.length
 q2:q2=s.on.length
 f1: ∀v:VaR,f1 [.i v.fault,.i v.n]=if v∈s.oe then AJ (AF s.oe v:Int) else Ab
 f2: ∀(ch:Int) (n:Nat) (u:Nat->Int),shp ⟨ch,L n u⟩->f2 (h4j ch n u)=if (⟨ch,L n u⟩:NdR)∈s.on then AJ (AF s.on ⟨ch,L n u⟩:Int) else Ab
 e1: ∀i v,s.oe[i]? =AJ v->e1 i=v.row
 e2: ∀i b,s.on[i]? =AJ b-> ∃n u,b.kids=L n u/\e2 i=[.int .i64 (.v b.var),.sl 1 n fun j=>[.int .i64 (.v (u j))]]
 fk: ∀i:Nat,fk [.i (i:Int)]=s.kn i
theorem h8h {α:Type}[DecidableEq α]: ∀{l:List α} {x y:α},y∈l->AF (l++[x]) y=AF l y
 |[],_,_,h=>by simp at h
 |z::l,x,y,h=>by
  simp only[Aa,AF];split
  ·rfl
  ·rename_i hz;simp at h;rcases h with h|h
   ·exact absurd h.symm hz
   ·rw[h8h h]
theorem h8v {α:Type}[DecidableEq α]: ∀{l:List α} {x:α},x∉l->AF (l++[x]) x=l.length
 |[],x,_=>by simp[AF]
 |z::l,x,h=>by simp at h;simp only[Aa,AF];rw[if_neg (fun e=>h.1 e.symm),h8v h.2];rfl
theorem VaR.key_inj {v w:VaR}(h:[KC.i v.fault,KC.i v.n]=[KC.i w.fault,KC.i w.n]):v=w:=by obtain⟨a,b⟩:=v;obtain⟨c,d⟩:=w;simp at h;rw[h.1,h.2]
theorem Rep.mkEnd {shp:NdR->Prop}{s:AO}{q1 q2:Nat}{f1 f2:List KC->Option Int}{e1 e2:Nat->List DV}{fk:List KC->Option Int}(h:Rep shp s q1 q2 f1 f2 e1 e2 fk)(c:VaR):
 (∀z,f1 [.i c.fault,.i c.n]=AJ z->z=AF s.oe c/\Rep shp (AE s c).1 q1 q2 f1 f2 e1 e2 fk)/\
 (f1 [.i c.fault,.i c.n]=Ab->AF s.oe c=q1/\Rep shp (AE s c).1 (q1+1) q2 (fun k=>if k=[.i c.fault,.i c.n] then AJ (q1:Int) else f1 k) f2 (fun i=>if i<q1 then e1 i else c.row) e2 fk):=by
 have hf:=h.f1 c;constructor
 ·intro z hz;rw[hz] at hf;split at hf
  ·rename_i hm;cases hf;refine⟨rfl,?_⟩;have:(AE s c).1=s:=by simp only[AE,Ad hm]
   rw[this];exact h
  ·cases hf
 ·intro hz;rw[hz] at hf;split at hf
  ·cases hf
  ·rename_i hm;have hq:=h.q1;have e0:(AE s c).1={s with oe:=s.oe++[c]}:=by simp only[AE,Ac hm]
   rw[e0];refine⟨by rw[hq];exact Ag hm,⟨by simp[hq],h.q2,fun v=> ?_,h.f2,fun i v hi=> ?_,h.e2,h.fk⟩⟩
   ·simp only;by_cases e:v=c
    ·subst e;rw[if_pos rfl,if_pos (by simp),h8v hm,hq]
    ·rw[if_neg (fun k=>e (VaR.key_inj k)),h.f1 v];by_cases hv:v∈s.oe
     ·rw[if_pos hv,if_pos (by simp[hv]),h8h hv]
     ·rw[if_neg hv,if_neg (by simp[hv,e])]
   ·simp only at hi⊢;by_cases hlt:i<q1
    ·rw[if_pos hlt];rw[AS (by omega)] at hi;exact h.e1 i v hi
    ·rw[if_neg hlt];rw[AQ (by omega)] at hi;have:i-s.oe.length=0:=by have:=(AR.1 hi).1;simp at this;omega
     rw[this] at hi;simp at hi;rw[hi]
theorem i2m {ch ch':Int}{n m:Nat}{u w:Nat->Int}(hn:n<=12)(hnm:ch=ch'->n=m)(h:h4j ch n u=h4j ch' m w):ch=ch'/\L n u=L m w:=by
 simp only[h4j,List.cons.injEq,KC.i.injEq,and_true] at h;obtain⟨h0,a0,a1,a2,a3,a4,a5,a6,a7,a8,a9,a10,a11⟩:=h;have:=hnm h0;subst this;refine⟨h0,h4v fun j hj=> ?_⟩;have key: ∀j,j<12->(if j<n then u j else 0)=(if j<n then w j else 0):=fun j hj=>by
  match j,hj with
  |0,_=>exact a0
  |1,_=>exact a1
  |2,_=>exact a2
  |3,_=>exact a3
  |4,_=>exact a4
  |5,_=>exact a5
  |6,_=>exact a6
  |7,_=>exact a7
  |8,_=>exact a8
  |9,_=>exact a9
  |10,_=>exact a10
  |11,_=>exact a11
 have:=key j (by omega);rw[if_pos hj,if_pos hj] at this;exact this
def i5a (shp:NdR->Prop):Prop:=(∀b,shp b->b.kids.length<=12)/\ ∀b c,shp b->shp c->b.var=c.var->b.kids.length=c.kids.length
theorem Rep.mkNode {shp:NdR->Prop}(hsp:i5a shp){s:AO}{q1 q2:Nat}{f1 f2:List KC->Option Int}{e1 e2:Nat->List DV}{fk:List KC->Option Int}(h:Rep shp s q1 q2 f1 f2 e1 e2 fk)(ch:Int)(n:Nat)(u:Nat->Int)(hs:shp ⟨ch,L n u⟩)
 (hfl: ¬Ah (L n u)):
 (∀z,f2 (h4j ch n u)=AJ z->z=(AA s ⟨ch,L n u⟩).2/\Rep shp (AA s ⟨ch,L n u⟩).1 q1 q2 f1 f2 e1 e2 fk)/\
 (f2 (h4j ch n u)=Ab->(q2:Int)=(AA s ⟨ch,L n u⟩).2/\Rep shp (AA s ⟨ch,L n u⟩).1 q1 (q2+1) f1 (fun k=>if k=h4j ch n u then AJ (q2:Int) else f2 k) e1 (fun i=>if i<q2 then e2 i else [.int .i64 (.v ch),.sl 1 n fun j=>[.int .i64 (.v (u j))]]) fk):=by
 have hf:=h.f2 ch n u hs;have hmk:AA s ⟨ch,L n u⟩=({s with on:=Law.onceE s.on ⟨ch,L n u⟩},(AF s.on ⟨ch,L n u⟩:Int)):=by rw[AA,if_neg hfl]
 rw[hmk];constructor
 ·intro z hz;rw[hz] at hf;split at hf
  ·rename_i hm;cases hf;refine⟨rfl,?_⟩;simp only[Ad hm];exact h
  ·cases hf
 ·intro hz;rw[hz] at hf;split at hf
  ·cases hf
  ·rename_i hm;have hq:=h.q2;simp only[Ac hm];refine⟨by rw[hq,Ag hm],⟨h.q1,by simp[hq],h.f1,fun c m w hw=> ?_,h.e1,fun i b hi=> ?_,h.fk⟩⟩
   ·simp only;by_cases e:h4j c m w=h4j ch n u
    ·have hl:=hsp.2 ⟨c,L m w⟩ ⟨ch,L n u⟩ hw hs;simp only[h3u] at hl;have hm12:=hsp.1 ⟨c,L m w⟩ hw;simp only[h3u] at hm12;obtain⟨e1,e2⟩:=i2m hm12 hl e;rw[if_pos e,e1,e2,if_pos (by simp),h8v hm,hq]
    ·have hne:(⟨c,L m w⟩:NdR)≠⟨ch,L n u⟩:=fun k=>by
      injection k with k1 k2
      apply e;have hl:m=n:=by simpa [h3u] using congrArg List.length k2
      subst hl;subst k1;unfold h4j;have: ∀j,(if j<m then w j else 0)=(if j<m then u j else 0):=fun j=>by
       by_cases hj:j<m
       ·have:=congrArg (fun l=>l[j]?) k2;rw[if_pos hj,if_pos hj];simpa [L,hj] using this
       ·rw[if_neg hj,if_neg hj]
      simp only[this]
     rw[if_neg e,h.f2 c m w hw];by_cases hv:(⟨c,L m w⟩:NdR)∈s.on
     ·rw[if_pos hv,if_pos (by simp[hv]),h8h hv]
     ·rw[if_neg hv,if_neg (by simp only[List.mem_append,hv,List.mem_singleton,hne,or_self,not_false_eq_true])]
   ·simp only at hi⊢;by_cases hlt:i<q2
    ·rw[if_pos hlt];rw[AS (by omega)] at hi;exact h.e2 i b hi
    ·rw[if_neg hlt];rw[AQ (by omega)] at hi;have:i-s.on.length=0:=by have:=(AR.1 hi).1;simp at this;omega
     rw[this] at hi;simp at hi;rw[<-hi];exact⟨n,u,rfl,rfl⟩
def clH (d:DiR)(q1 q2:Nat)(f1 f2:List KC->Option Int)(e1 e2:Nat->List DV)(c:Nat)(fk:List KC->Option Int):List a0f:=
 [.var [isl d.ns d.sz,isl d.no d.od,isl d.ns d.sz,isl d.no d.od,.msl 3 2 Ab q1 false,.msl 4 2 Ab q2 false,int 0,.map 1,.map 2],.map true [.u8,.i64] q1 f1,.map true i4j q2 f2,.arr 2 q1 e1,.arr 2 q2 e2,
   .var [.ptr 0 0],.var [isl d.ns d.sz,isl d.no d.od,isl d.ns d.sz,isl d.no d.od,vsl d.ne d.en,bsl d.nn d.var d.nk d.kid,int d.root],.map false [.i64] c fk,.var [.map 7],.var [.fn 237 [] [.ptr 5 0,.ptr 6 0,.ptr 8 0,.ptr 9 0]]]
def clK (d:DiR)(shp:NdR->Prop)(s:AO)(t:Int)(pg:List Nat)(v:AV)(h':List a0f):Prop:=
 pg=[3,4]/\ ∃q1 q2 f1 f2 e1 e2 c fk,Rep shp s q1 q2 f1 f2 e1 e2 fk/\v=int t/\h'=clH d q1 q2 f1 f2 e1 e2 c fk
structure DiR.tame (d:DiR)(shp:NdR->Prop):Prop where
 fit:d.fit
 cell: ∀i,i<d.ne->(0<=(d.en i).fault/\(d.en i).fault<=4)/\ -9999<=(d.en i).n/\(d.en i).n<=9999
 kids:h6m d
 var: ∀i,i<d.nn->0<=d.var i/\d.var i<=1000000
 nk: ∀i,i<d.nn->1<=d.nk i/\d.nk i<=12
 shape: ∀i,i<d.nn-> ∀l:List Int,l.length=d.nk i->shp ⟨d.var i,l⟩
 ok:i5a shp
theorem i5y: ∀l:Nat,l∈[3]->l∈[3,4]:=by simp
theorem h7s (d:DiR)(shp:NdR->Prop)(hd:d.tame shp)(kid:Int)(h0:kid<0)(hr: -1-kid<d.ne)(s:AO)(hg:Law.GoodM d.E d.nn shp s){q1 q2:Nat}{f1 f2:List KC->Option Int}{e1 e2:Nat->List DV}(c:Nat){fk:List KC->Option Int}(hrep:Rep shp s q1 q2 f1 f2 e1 e2 fk):
 a1h Tryz.prog 237 [int kid,.ptr 5 0,.ptr 6 0,.ptr 8 0,.ptr 9 0] (clH d q1 q2 f1 f2 e1 e2 c fk) (clK d shp (AE s (d.en (-1-kid).toNat)).1 (AE s (d.en (-1-kid).toNat)).2):=by
 obtain⟨j,hj⟩: ∃j:Nat,-1-kid=j:=⟨(-1-kid).toNat,by omega⟩;have hjn:j<d.ne:=by omega
 have hne:=hd.fit.ne;have hqE:d.E.length=d.ne:=h3u _ _;have hoe:=hg.oeLen;rw[hqE] at hoe;have he:=h9k kid (by omega) (by omega);rw[hj] at he⊢;simp only[AC];have hce:=hd.cell j hjn;have hrp:=hrep.mkEnd (d.en j);have hq1:=hrep.q1;have hin:=i6d (ns:=d.ns) (no:=d.no) d.sz d.od (q1:=q1) (q2:=q2) (by omega) f1 f2 e1 e2 (d.en j) (fun z hz=>by
  have h1:=(hrp.1 z hz).1;have h2:=Law.at1_le s.oe (d.en j);omega) hce
 have hval:(AE s (d.en j)).2= -1-(AF s.oe (d.en j):Int):=rfl;generalize hM:(AE s (d.en j)).1=M at hrp⊢;rw[hval];clear hval hM hrep hg hce hoe hqE;obtain⟨ns,sz,no,od,ne,en,nn,var,nk,kd,root⟩:=d;simp only at hjn hin hrp;have hk3:kid= -1-(j:Int):=by omega
 clear hr hd;refine h3w Tryz.mixed okP e9z rfl fun E Sg hb hS F hF=> ?_;simp only[clH,AP,AL] at hb;have ett: ∀z,Sg.toNat z=z.toNat:=by subst hS;exact fun _=>rfl
 cbv;split
 rotate_left
 ·rename_i h;exfalso;clear hin he hrp hF;subst hS;simp[std] at h;omega
 cbv;refine a0v hS (int (j:Int)) (by subst hS;exact he) ?_;cbv
 repeat' (with_reducible apply a1g hS)
 all_goals try (clear hin he hrp hF;subst hS;first|(simp[std];done)|exact⟨AZ j,Af.2 hjn⟩)
 simp only[nat,ett,AG,AC];refine h3v hS (a1h.frame hin [0,1,2,3,4] rfl rfl ⟨AB _,AB _,AB _,AB _,AB _,trivial⟩) ?_;rintro pg v H' ⟨pg0,v0,h0,⟨rfl,⟨z,k1,rfl,rfl⟩|⟨k1,rfl,rfl⟩⟩,rfl,rfl,rfl⟩
 ·obtain⟨w1,w2⟩:=hrp.1 z k1;cbv
  repeat' (with_reducible apply a1g hS)
  all_goals try (clear hin he hrp hF;subst hS;simp[std];done)
  refine⟨[3,4],fun l _ h=>i5y l h,hF (h1:=clH ⟨ns,sz,no,od,ne,en,nn,var,nk,kd,root⟩ q1 q2 f1 f2 e1 e2 c fk) (.same _) (v0:=int (-1-(AF s.oe (en j):Int))) (b0a (congrArg (fun y:Int=> -1-y) w1)) (by simp[clH]) (.inr rfl) ⟨rfl,_,_,_,_,_,_,_,_,w2,rfl,rfl⟩⟩
 ·obtain⟨w1,w2⟩:=hrp.2 k1;cbv
  repeat' (with_reducible apply a1g hS)
  all_goals try (clear hin he hrp hF;subst hS;simp[std];done)
  refine⟨[3,4],fun l _ h=>i5y l h,hF (h1:=clH ⟨ns,sz,no,od,ne,en,nn,var,nk,kd,root⟩ (q1+1) q2 (fun k=>if k=[.i (en j).fault,.i (en j).n] then AJ (q1:Int) else f1 k) f2 (fun i=>if i<q1 then e1 i else (en j).row) e2 c fk) (.same _) (v0:=int (-1-(AF s.oe (en j):Int))) (b0a (congrArg (fun y:Nat=> -1-(y:Int)) w1.symm)) (by simp[clH]) (.inr rfl) ⟨rfl,_,_,_,_,_,_,_,_,w2,rfl,rfl⟩⟩
theorem Rep.learn {shp:NdR->Prop}{s:AO}{q1 q2:Nat}{f1 f2:List KC->Option Int}{e1 e2:Nat->List DV}{fk:List KC->Option Int}(h:Rep shp s q1 q2 f1 f2 e1 e2 fk)(i:Nat)(t:Int):
 Rep shp (AT s i t) q1 q2 f1 f2 e1 e2 (fun k=>if k=[.i (i:Int)] then AJ t else fk k):=
 ⟨h.q1,h.q2,h.f1,h.f2,h.e1,h.e2,fun j=>by
   simp only[AT];by_cases e:j=i
   ·subst e;simp
   ·have hne:(j:Int)≠(i:Int):=by omega
    have: ¬([KC.i (j:Int)]=[KC.i (i:Int)]):=fun k=>hne (by simpa using k);rw[if_neg this,if_neg e];exact h.fk j⟩
theorem i1t (d:DiR){f:Nat}{kid:Int}(h:kid<0)(hr: -1-kid<d.ne)(s:AO):AM d.E d.N f kid s=AE s (d.en (-1-kid).toNat):=by
 have he:d.E[(-1-kid).toNat]? =AJ (d.en (-1-kid).toNat):=by rw[DiR.E,h9t,if_pos (by omega)]
 cases f<;>rw[AM,if_pos h,he]
structure CSt where
 k:Nat
 u:Nat->Int
 s:AO
 q1:Nat
 q2:Nat
 f1:List KC->Option Int
 f2:List KC->Option Int
 e1:Nat->List DV
 e2:Nat->List DV
 c:Nat
 fk:List KC->Option Int
theorem i2v (d:DiR)(shp:NdR->Prop)(hd:d.tame shp): ∀(f:Nat) (kid:Int) (s:AO) (q1 q2:Nat) (f1 f2:List KC->Option Int) (e1 e2:Nat->List DV) (c:Nat) (fk:List KC->Option Int),kid<f->h4k d.ne kid d.nn->
 Law.GoodM d.E d.nn shp s->Rep shp s q1 q2 f1 f2 e1 e2 fk->
 a1h Tryz.prog 237 [int kid,.ptr 5 0,.ptr 6 0,.ptr 8 0,.ptr 9 0] (clH d q1 q2 f1 f2 e1 e2 c fk) (clK d shp (AM d.E d.N f kid s).1 (AM d.E d.N f kid s).2):=by
 intro f
 induction f with
 |zero=>
  intro kid s q1 q2 f1 f2 e1 e2 c fk hf hr hg hrep;have h0:kid<0:=by omega
  rw[i1t d h0 (hr.2 h0)];exact h7s d shp hd kid h0 (hr.2 h0) s hg c hrep
 |succ f ih=>
  intro kid s q1 q2 f1 f2 e1 e2 c fk hf hr hg hrep;by_cases h0:kid<0
  ·rw[i1t d h0 (hr.2 h0)];exact h7s d shp hd kid h0 (hr.2 h0) s hg c hrep
  obtain⟨i,rfl⟩: ∃i:Nat,kid=i:=⟨kid.toNat,by omega⟩;have hi:i<d.nn:=by have:=hr.1 (by omega);omega
  have hnn:=hd.fit.nn;have hfk:=hrep.fk i;have hfrm:AM d.E d.N (f+1) i s=match s.kn i with
   |some t=>(s,t)
   |none=>(AT (AA (AH d.E d.N f (L (d.nk i) (d.kid i)) (s,[])).1 ⟨d.var i,(AH d.E d.N f (L (d.nk i) (d.kid i)) (s,[])).2⟩).1 i (AA (AH d.E d.N f (L (d.nk i) (d.kid i)) (s,[])).1 ⟨d.var i,(AH d.E d.N f (L (d.nk i) (d.kid i)) (s,[])).2⟩).2,
     (AA (AH d.E d.N f (L (d.nk i) (d.kid i)) (s,[])).1 ⟨d.var i,(AH d.E d.N f (L (d.nk i) (d.kid i)) (s,[])).2⟩).2):=by
   have hb:d.N[(i:Int).toNat]? =AJ (d.nd i):=by rw[AC,DiR.N,h9t,if_pos hi]
   rw[AM,if_neg h0,hb];simp only[AC];rfl
  rw[hfrm];clear hfrm;cases hk:s.kn i with
  |some t=>
   simp only;rw[hk] at hfk;obtain⟨ns,sz,no,od,ne,en,nn,var,nk,kd,root⟩:=d;simp only at hi hnn;clear ih hd hg;refine h3w Tryz.mixed okP e9z rfl fun E Sg hb hS F hF=> ?_;simp only[clH,AP,AL] at hb;have hh:Sg.mhas fk [.i (AN i)]=true:=by subst hS;show (fk [.i (i:Int)]).isSome=true;rw[hfk];rfl
   have hgt:Sg.mget fk [.i (AN i)]=t:=by subst hS;show (fk [.i (i:Int)]).getD 0=t;rw[hfk];rfl
   cbv;split
   ·rename_i h;exfalso;clear hF hrep;subst hS;simp[std] at h<;>omega
   cbv;simp only[hh,hgt];cbv;refine a1g hS (by clear hF hrep;subst hS;exact b6g (by simp<;>omega) (by simp<;>omega)) ?_;refine⟨[3,4],by simp,hF (h1:=clH ⟨ns,sz,no,od,ne,en,nn,var,nk,kd,root⟩ q1 q2 f1 f2 e1 e2 c fk) (.same _) (v0:=int t) (AD _) (by simp[clH]) (.inr rfl) ⟨rfl,_,_,_,_,_,_,_,_,hrep,rfl,rfl⟩⟩
  |none=>
   simp only;rw[hk] at hfk;have hgood:=Law.frm_good (E:=d.E) (N:=d.N) (nn:=d.nn) (h3u _ _) (shp:=shp) hd.kids.loose (fun j b hb=>by
    rw[DiR.N,h9t] at hb;split at hb
    ·rename_i hj;cases hb;refine⟨by simp only[DiR.nd,h3u];exact (hd.nk j hj).1,fun l hl=>hd.shape j hj l (by simpa only[DiR.nd,h3u] using hl)⟩
    ·cases hb)
   have hEl:d.E.length=d.ne:=h3u _ _;have hne:=hd.fit.ne;have hki:=hd.kids i hi;have hni:=hd.nk i hi;have hvi:=hd.var i hi;have hshi:=hd.shape i hi;have hsok:=hd.ok;have hkr: ∀j,j<d.nk i->d.kid i j<f/\h4k d.ne (d.kid i j) d.nn:=fun j hj=>by
    have h1:=hki j hj;refine⟨?_,fun h2=> ?_,h1.2⟩
    ·rcases AU (d.kid i j) 0 with h2|h2
     ·omega
     ·have:=h1.1 h2;omega
    ·have:=h1.1 h2;omega
   have hok: ∀j,j<d.nk i->Law.okRef d.E (d.kid i j) d.nn:=fun j hj=>(hkr j hj).2.ok;have hgood':=fun j hj s' hs'=>hgood f (d.kid i j) s' (hkr j hj).1 (hok j hj) hs';have hnode:=fun q1 q2 (hq:q2<=1000000) f1 f2 e1 e2 u hu=>i4p (ns:=d.ns) (no:=d.no) d.sz d.od (q1:=q1) (q2:=q2) hq f1 f2 e1 e2 (d.var i) hvi hni u hu;rw[hEl] at hgood';obtain⟨EE,hEE⟩: ∃EE,EE=d.E:=⟨_,rfl⟩;obtain⟨NN,hNN⟩: ∃NN,NN=d.N:=⟨_,rfl⟩;rw[<-hEE,<-hNN] at hgood' ih;rw[<-hEE] at hg;rw[<-hEE,<-hNN];clear hgood hok hki hEl hEE hNN hd;obtain⟨ns,sz,no,od,ne,en,nn,var,nk,kd,root⟩:=d;simp only at hi hnn hkr hgood' ih hni hvi hshi hnode hg hne;refine h3w Tryz.mixed okP e9z rfl fun E Sg hb hS F hF=> ?_;simp only[clH,AP,AL] at hb;have ett: ∀z,Sg.toNat z=z.toNat:=by subst hS;exact fun _=>rfl
   have hh:Sg.mhas fk [.i (AN i)]=false:=by subst hS;show (fk [.i (i:Int)]).isSome=false;rw[hfk];rfl
   cbv;split
   ·rename_i h;exfalso;clear hF hrep hnode ih hgood';subst hS;simp[std] at h<;>omega
   cbv;simp only[hh];cbv;refine a1g hS (by clear hF hrep hnode ih hgood';subst hS;exact b6g (by simp<;>omega) (by simp<;>omega)) ?_;refine a1g hS (by clear hF hrep hnode ih hgood';subst hS;exact⟨AZ i,Af.2 hi⟩) ?_;simp only[nat,ett,AG,AC];refine a1g hS (by clear hF hrep hnode ih hgood';subst hS;simp[std]) ?_;refine a1g hS (by clear hF hrep hnode ih hgood';subst hS;simp[std,big];omega) ?_;refine a7r Tryz.mixed okP hS (σ:=CSt) (fun st=>st.k<=nk i/\AH EE NN f (L st.k (kd i)) (s,[])=(st.s,L st.k st.u)/\Law.GoodM EE nn shp st.s/\Rep shp st.s st.q1 st.q2 st.f1 st.f2 st.e1 st.e2 st.fk/\(∀j,j<st.k->Law.okT ne nn (st.u j))) (fun st=>nk i-st.k)
    (fun st=>⟨b5r [(0,int i),(1,.ptr 5 0),(2,.ptr 6 0),(3,.ptr 8 0),(4,.ptr 9 0),(9,.ptr 10 0),(10,.msl 11 1 Ab (nk i) false),(43,isl (nk i) (kd i)),(44,int (nk i)),(45,int st.k)] 67,
      clH ⟨ns,sz,no,od,ne,en,nn,var,nk,kd,root⟩ st.q1 st.q2 st.f1 st.f2 st.e1 st.e2 st.c st.fk++[.var [int (var i),isl (nk i) (kd i)],arrI (nk i) st.u],[3,4]⟩) ⟨0,fun _=>0,s,q1,q2,f1,f2,e1,e2,c,fk⟩ ⟨by simp,rfl,hg,hrep,fun j hj=>by simp at hj⟩ ?_ ?_
   ·refine a4c rfl ⟨AD _,AD _,AD _,AD _,AD _,AD _,(by clear hF hrep hnode ih hgood';subst hS;exact AD _),AD _,b0a (by clear hF hrep hnode ih hgood';subst hS;rfl),a6c rfl,trivial⟩ (.cons (.refl _) (.cons (.refl _) (.cons (.refl _) (.cons (.refl _) (.cons (.refl _) (.cons (.refl _) (.cons (.refl _) (.cons (.refl _) (.cons (.refl _) (.cons (.refl _) (.cons (.refl _) (.cons (a9v.arrr ?_ ?_) (.nil _))))))))))))) (by simp[clH];omega) (.inr rfl) rfl
    ·clear hF hrep hnode ih hgood';subst hS;rfl
    ·intro j hj;clear hF hrep hnode ih hgood';subst hS;simp only[std] at hj⊢;rw[if_pos hj];exact .one (.int rfl)
   ·rintro⟨k,u,s',p1,p2,g1,g2,d1,d2,c',gk⟩ ⟨hk1,hk2,hk3,hk4,hk5⟩ M hM;simp only at hk1 hk2 hk3 hk4 hk5 hM;cbv;split
    ·have hlt:k<nk i:=by clear hF hrep hnode ih hgood' hM hk4;subst hS;simp[std] at*;omega
     have hkk:=hkr k hlt;have hgk:=hgood' k hlt s' hk3;have hstep:AH EE NN f (L (k+1) (kd i)) (s,[])=((AM EE NN f (kd i k) s').1,L k u++[(AM EE NN f (kd i k) s').2]):=by unfold AH at hk2⊢;rw[h7q,List.foldl_append,hk2];rfl
     have hcall:=ih (kd i k) s' p1 p2 g1 g2 d1 d2 c' gk hkk.1 hkk.2 hk3 hk4;generalize AM EE NN f (kd i k) s'=fr at hgk hstep hcall;obtain⟨s2,t2⟩:=fr;simp only at hgk hstep hcall;cbv;refine a1g hS (by clear hF hrep hnode ih hgood' hM hk4 hcall;subst hS;simp[std];omega) ?_;simp only[nat,ett,AG,AC];refine h3v hS (a1h.frame hcall [0,1,2,3,4,5,6,7,8,9] rfl rfl ⟨AB _,AB _,AB _,AB _,AB _,AB _,AB _,AB _,AB _,AB _,trivial⟩) ?_;rintro pg v H' ⟨pg0,v0,h0,⟨rfl,q1',q2',f1',f2',e1',e2',c2,fk2,w1,rfl,rfl⟩,rfl,rfl,rfl⟩;cbv;refine a1g hS (by clear hF hrep hnode ih hgood' hM hk4 hcall w1;subst hS;simp[std];omega) ?_;simp only[nat,ett,AG,AC];refine a1g hS (by clear hF hrep hnode ih hgood' hM hk4 hcall w1;subst hS;simp[std];omega) ?_;refine a1g hS (by clear hF hrep hnode ih hgood' hM hk4 hcall w1;subst hS;exact b6g (by simp[std];omega) (by simp[std];omega)) ?_;have hLu:L (k+1) (fun j=>if j=k then t2 else u j)=L k u++[t2]:=by
      rw[h7q];congr 1
      ·exact h4v fun j hj=>if_neg (by omega)
      ·simp
     refine hM ⟨k+1,fun j=>if j=k then t2 else u j,s2,q1',q2',f1',f2',e1',e2',c2,fk2⟩ _ ⟨by simp;omega,by rw[hLu];exact hstep,hgk.1,w1,fun j hj=> ?_⟩ (by simp;omega)
      (a4c rfl ⟨AD _,AD _,AD _,AD _,AD _,AD _,AD _,AD _,AD _,b0a (by clear hF hrep hnode ih hgood' hM hk4 hcall w1;subst hS;simp[std]),trivial⟩ (.cons (.refl _) (.cons (.refl _) (.cons (.refl _) (.cons (.refl _) (.cons (.refl _) (.cons (.refl _) (.cons (.refl _) (.cons (.refl _) (.cons (.refl _) (.cons (.refl _) (.cons (.refl _) (.cons (a9v.arrI rfl fun j hj=> ?_) (.nil _))))))))))))) (by simp[clH];omega) (.inr rfl) rfl)
     ·simp only at hj⊢;by_cases e:j=k
      ·rw[if_pos e];exact hgk.2.1
      ·rw[if_neg e];exact hk5 j (by omega)
     ·clear hF hrep hnode ih hgood' hM hk4 hcall w1;subst hS;simp only[std];split<;>rfl
    ·have hkn:k=nk i:=by clear hF hrep hnode ih hgood' hM hk4;subst hS;simp[std] at*;omega
     subst hkn;have hl2:=hk3.onLen;have hq2:=hk4.q2;have hcl:=hnode p1 p2 (by omega) g1 g2 d1 d2 u (fun j hj=>by have:=hk5 j hj;simp only[Law.okT] at this;omega);rw[hk2] at hF;have hsh:=hshi (L (nk i) u) (h3u _ _);have hmk:=hk4.mkNode hsok (var i) (nk i) u hsh;have hflat:Ah (L (nk i) u)↔ ∀j,j<nk i->u j=u 0:=i1r hni.1;have hmk0:(∀j,j<nk i->u j=u 0)->AA s' ⟨var i,L (nk i) u⟩=(s',u 0):=fun h=>by rw[AA,if_pos (hflat.2 h)];obtain⟨m,hm⟩: ∃m,nk i=m+1:=⟨nk i-1,by omega⟩;rw[hm];simp[L,List.range_succ_eq_map]
     rw[<-hflat] at hmk0;simp only at hF;generalize AA s' ⟨var i,L (nk i) u⟩=MN at hmk hmk0 hF;cbv;refine h3v hS (a1h.frame hcl [0,1,2,3,4,11] rfl rfl ⟨AB _,AB _,AB _,AB _,AB _,AB _,trivial⟩) ?_;have fin: ∀(q1' q2':Nat) (f1' f2':List KC->Option Int) (e1' e2':Nat->List DV) (t:Int),t=MN.2->Rep shp MN.1 q1' q2' f1' f2' e1' e2' gk->Rep shp (AT MN.1 i MN.2) q1' q2' f1' f2' e1' e2' (fun k=>if k=[.i (i:Int)] then AJ t else gk k):=fun q1' q2' f1' f2' e1' e2' t ht hr'=>by rw[ht];exact hr'.learn i MN.2
     rintro pg v H' ⟨pg0,v0,h0,⟨rfl,o,⟨y1,rfl,rfl⟩|⟨y1,⟨z,y2,rfl,rfl⟩|⟨y2,rfl,rfl⟩⟩⟩,rfl,rfl,rfl⟩
     ·have hMN:=hmk0 (hflat.2 y1);cbv;refine a1g hS (by clear hF hrep hnode ih hgood' hM hk4 hcl hmk;subst hS;simp[std]) ?_;refine a1g hS (by clear hF hrep hnode ih hgood' hM hk4 hcl hmk;subst hS;exact b6g (by simp<;>omega) (by simp<;>omega)) ?_;refine a1g hS (by clear hF hrep hnode ih hgood' hM hk4 hcl hmk;subst hS;exact b6g (by simp<;>omega) (by simp<;>omega)) ?_;refine⟨[3,4],(by intro l hl h;simp at h⊢;omega),hF (h1:=clH ⟨ns,sz,no,od,ne,en,nn,var,nk,kd,root⟩ p1 p2 g1 g2 d1 d2 (Sg.mcnt gk [.i (AN i)] c') (fun k=>if k=[.i (i:Int)] then AJ (u 0) else gk k))
       (.cons (.refl _) (.cons (.refl _) (.cons (.refl _) (.cons (.refl _) (.cons (.refl _) (.cons (.refl _) (.cons (.refl _) (.cons (Ae rfl fun k=> ?_) (.cons (.refl _) (.cons (.refl _) (.nil _))))))))))) (v0:=int (u 0)) (b0a ?_) (by simp[clH]) (.inl ⟨rfl,rfl⟩) ⟨rfl,_,_,_,_,_,_,_,_,fin _ _ _ _ _ _ (u 0) (by rw[hMN]) (by rw[hMN];exact hk4),(by rw[hMN]),rfl⟩⟩
      ·clear hF hrep hnode ih hgood' hM hk4 hcl hmk;subst hS;rfl
      ·clear hF hrep hnode ih hgood' hM hk4 hcl hmk;subst hS;simp[std]
     ·obtain⟨w1,w2⟩:=(hmk (fun h=>y1 (hflat.1 h))).1 z y2;cbv;refine a1g hS (by clear hF hrep hnode ih hgood' hM hk4 hcl hmk;subst hS;simp[std]) ?_;refine a1g hS (by clear hF hrep hnode ih hgood' hM hk4 hcl hmk;subst hS;exact b6g (by simp<;>omega) (by simp<;>omega)) ?_;refine a1g hS (by clear hF hrep hnode ih hgood' hM hk4 hcl hmk;subst hS;exact b6g (by simp<;>omega) (by simp<;>omega)) ?_;refine⟨[3,4],(by intro l hl h;simp at h⊢;omega),hF (h1:=clH ⟨ns,sz,no,od,ne,en,nn,var,nk,kd,root⟩ p1 p2 g1 g2 d1 d2 (Sg.mcnt gk [.i (AN i)] c') (fun k=>if k=[.i (i:Int)] then AJ z else gk k))
       (.cons (.refl _) (.cons (.refl _) (.cons (.refl _) (.cons (.refl _) (.cons (.refl _) (.cons (.refl _) (.cons (.refl _) (.cons (Ae rfl fun k=> ?_) (.cons (.refl _) (.cons (.refl _) (.nil _))))))))))) (v0:=int z) (b0a ?_) (by simp[clH]) (.inl ⟨rfl,rfl⟩) ⟨rfl,_,_,_,_,_,_,_,_,fin _ _ _ _ _ _ z w1 w2,(by rw[w1]),rfl⟩⟩
      ·clear hF hrep hnode ih hgood' hM hk4 hcl hmk;subst hS;rfl
      ·clear hF hrep hnode ih hgood' hM hk4 hcl hmk;subst hS;simp[std]
     ·obtain⟨w1,w2⟩:=(hmk (fun h=>y1 (hflat.1 h))).2 y2;cbv;refine a1g hS (by clear hF hrep hnode ih hgood' hM hk4 hcl hmk;subst hS;simp[std]) ?_;refine a1g hS (by clear hF hrep hnode ih hgood' hM hk4 hcl hmk;subst hS;exact b6g (by simp<;>omega) (by simp<;>omega)) ?_;refine a1g hS (by clear hF hrep hnode ih hgood' hM hk4 hcl hmk;subst hS;exact b6g (by simp<;>omega) (by simp<;>omega)) ?_;refine⟨[3,4],(by intro l hl h;simp at h⊢;omega),hF (h1:=clH ⟨ns,sz,no,od,ne,en,nn,var,nk,kd,root⟩ p1 (p2+1) g1 (fun k=>if k=h4j (var i) (nk i) u then AJ (p2:Int) else g2 k) d1 (fun j=>if j<p2 then d2 j else [.int .i64 (.v (var i)),.sl 1 (nk i) fun j=>[.int .i64 (.v (u j))]]) (Sg.mcnt gk [.i (AN i)] c') (fun k=>if k=[.i (i:Int)] then AJ (p2:Int) else gk k))
       (.cons (.refl _) (.cons (.refl _) (.cons (.refl _) (.cons (.refl _) (.cons (.refl _) (.cons (.refl _) (.cons (.refl _) (.cons (Ae rfl fun k=> ?_) (.cons (.refl _) (.cons (.refl _) (.nil _))))))))))) (v0:=int (p2:Int)) (b0a ?_) (by simp[clH]) (.inl ⟨rfl,rfl⟩) ⟨rfl,_,_,_,_,_,_,_,_,fin _ _ _ _ _ _ (p2:Int) w1 w2,congrArg int w1,rfl⟩⟩
      ·clear hF hrep hnode ih hgood' hM hk4 hcl hmk;subst hS;rfl
      ·clear hF hrep hnode ih hgood' hM hk4 hcl hmk;subst hS;simp[std]
end Go.Proofs.Tryz.Run
