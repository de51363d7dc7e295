/- The plain law: a loose diagram comes out of the maker as it is just if the reference calls it a diagram. The reference's Search. Conditions: none. -/
import Derived.Test.YtbglklaocjifhaaGreatEPm0
import Derived.Test.YtbglklaocjifhaaGreatEQd
open List renaming prefix_refl->AA,getElem?_eq_some_iff->AB,prefix_append->AE,pairwise_iff_getElem->AF,getElem?_eq_getElem->AG,mem_of_getElem?->AH,nodup_append->AJ,getElem?_append_right->AN,getElem?_take->AP,append_assoc->AQ,length_cons->AR,length_nil->AT,length->AU
open Go.Vf.a0x renaming refl->AC
open Int renaming toNat_natCast->AD,lt_or_le->AL,ofNat_eq_natCast->AO
open Option renaming some->AI,none->AK
open Bool renaming false->AM,noConfusion->AS
set_option linter.unusedSimpArgs false
set_option linter.unusedVariables false
set_option maxHeartbeats 0
namespace Go.Proofs.Tryz.Run
open Go Go.Vf Go.Proofs
open Go.Proofs.YtbglklaocjifhaaGreat
instance:DecidableEq VaR:=fun a b=>match a,b with
 |⟨x,y⟩,⟨u,v⟩=>if h:x=u/\y=v then isTrue (by rw[h.1,h.2]) else isFalse fun e=>h (by cases e;exact⟨rfl,rfl⟩)
structure NdR where
 var:Int
 kids:List Int
instance:DecidableEq NdR:=fun a b=>match a,b with
 |⟨x,y⟩,⟨u,v⟩=>if h:x=u/\y=v then isTrue (by rw[h.1,h.2]) else isFalse fun e=>h (by cases e;exact⟨rfl,rfl⟩)
namespace Law
section
variable (E:List VaR) (N:List NdR)
def srch:Nat->Int->List Int×List Int->List Int×List Int
 |0,ref,s=>if ref<0 then (s.1,h5k s.2 (-1-ref)) else s
 |f+1,ref,s=>if ref<0 then (s.1,h5k s.2 (-1-ref)) else if ref∈s.1 then s else
  match N[ref.toNat]? with
  |none=>s
  |some b=>let t:=b.kids.foldl (fun s k=>srch f k s) s;(t.1++[ref],t.2)
structure Mk where
 oe:List VaR
 on:List NdR
 kn:Nat->Option Int
def onceE {α:Type}[DecidableEq α](l:List α)(x:α):List α:=if x∈l then l else l++[x]
def at1 {α:Type}[DecidableEq α]:List α->α->Nat
 |[],_=>0
 |y::l,x=>if y=x then 0 else at1 l x+1
def flatL (l:List Int):Prop:= ∀k,k∈l->k=l.headD 0
instance (l:List Int):Decidable (flatL l):=by unfold flatL;infer_instance
def mkEnd (s:Mk)(v:VaR):Mk×Int:=({s with oe:=onceE s.oe v},-1-(at1 s.oe v:Int))
def mkNode (s:Mk)(b:NdR):Mk×Int:=
 if flatL b.kids then (s,b.kids.headD 0) else ({s with on:=onceE s.on b},at1 s.on b)
def learn (s:Mk)(i:Nat)(z:Int):Mk:={s with kn:=fun j=>if j=i then AI z else s.kn j}
def frm:Nat->Int->Mk->Mk×Int
 |0,ref,s=>if ref<0 then match E[(-1-ref).toNat]? with|some v=>mkEnd s v|none=>(s,0) else (s,0)
 |f+1,ref,s=>if ref<0 then match E[(-1-ref).toNat]? with|some v=>mkEnd s v|none=>(s,0) else
  match s.kn ref.toNat with
  |some t=>(s,t)
  |none=>match N[ref.toNat]? with
   |none=>(s,0)
   |some b=>
    let r:=b.kids.foldl (fun (p:Mk×List Int) k=>let q:=frm f k p.1;(q.1,p.2++[q.2])) (s,[])
    let q:=mkNode r.1 ⟨b.var,r.2⟩
    (learn q.1 ref.toNat q.2,q.2)
def rng (n:Nat):List Int:=L n fun k=>(k:Int)
def stt (n e:Nat):Mk:=⟨E.take e,N.take n,fun i=>if i<n then AI (i:Int) else AK⟩
def okRef (ref:Int)(below:Nat):Prop:=(0<=ref->ref<below)/\(ref<0->(-1-ref).toNat<E.length)
theorem h6f {n:Nat}{x:Int}:x∈rng n↔0<=x/\x<n:=by
 unfold rng;rw[h6d];constructor
 ·rintro⟨i,hi,rfl⟩;omega
 ·intro h;exact⟨x.toNat,by omega,by omega⟩
theorem h9c (n:Nat):rng (n+1)=rng n++[(n:Int)]:=h7q _ _
theorem i1y {α:Type}[DecidableEq α]: ∀{l:List α} {x:α} {i:Nat},l.Nodup->l[i]? =AI x->at1 l x=i
 |[],x,i,_,h=>by simp at h
 |y::l,x,0,_,h=>by simp at h;simp[at1,h]
 |y::l,x,i+1,hn,h=>by simp at h;have h1:=List.nodup_cons.1 hn;have:y≠x:=fun e=>h1.1 (e▸AH h);simp[at1,this,i1y h1.2 h]
theorem at1_not {α:Type}[DecidableEq α]: ∀{l:List α} {x:α},x∉l->at1 l x=l.length
 |[],_,_=>rfl
 |y::l,x,h=>by have h1:y≠x:=fun e=>h (by simp[e]);simp[at1,h1,at1_not (fun h2=>h (by simp[h2]):x∉l)]
theorem at1_le {α:Type}[DecidableEq α]: ∀(l:List α) (x:α),at1 l x<=l.length
 |[],_=>Nat.le_refl _
 |y::l,x=>by rw[at1];split<;>simp;exact at1_le l x
theorem onceE_mem {α:Type}[DecidableEq α]{l:List α}{x:α}(h:x∈l):onceE l x=l:=if_pos h
theorem onceE_not {α:Type}[DecidableEq α]{l:List α}{x:α}(h:x∉l):onceE l x=l++[x]:=if_neg h
theorem i3g {α:Type}{l:List α}{e j:Nat}{v:α}(h:l[j]? =AI v)(hj:j<e):(l.take e)[j]? =AI v:=by rw[AP];simp[hj,h]
theorem h9x {α:Type}{l:List α}(h:l.Nodup)(e:Nat):(l.take e).Nodup:=h.sublist (List.take_sublist _ _)
theorem h9b {α:Type}{l:List α}(hn:l.Nodup){e j:Nat}{v:α}(h:l[j]? =AI v)(hj:e<=j):v∉l.take e:=by
 intro hm;obtain⟨i,hi⟩:=List.getElem?_of_mem hm;rw[AP] at hi;split at hi
 ·have hl:i<l.length:=(AB.1 hi).1;have hl2:j<l.length:=(AB.1 h).1;have e1:=(AB.1 hi).2;have e2:=(AB.1 h).2;have:=(AF.1 hn) i j hl hl2 (by omega);exact this (e1.trans e2.symm)
 ·cases hi
theorem h7r {α:Type}{l:List α}{e:Nat}{v:α}(h:l[e]? =AI v):l.take (e+1)=l.take e++[v]:=by rw[List.take_add_one,h];rfl
def Bad (l:List Int×List Int)(s:Mk)(nn ne:Nat):Prop:= ¬(l.1<+:rng nn/\l.2<+:rng ne)/\ ¬(s.oe<+:E/\s.on<+:N)
theorem Bad.mono {l l':List Int×List Int}{s s':Mk}{nn ne:Nat}(h:Bad E N l s nn ne)(h1:l.1<+:l'.1)(h2:l.2<+:l'.2)(h3:s.oe<+:s'.oe)(h4:s.on<+:s'.on):Bad E N l' s' nn ne:=
 ⟨fun h5=>h.1 ⟨h1.trans h5.1,h2.trans h5.2⟩,fun h5=>h.2 ⟨h3.trans h5.1,h4.trans h5.2⟩⟩
theorem h7n (l:List Int)(x:Int):l<+:h5k l x:=by unfold h5k;split;exact AA _;exact AE _ _
theorem h7x {α:Type}[DecidableEq α](l:List α)(x:α):l<+:onceE l x:=by unfold onceE;split;exact AA _;exact AE _ _
theorem h9g: ∀(f:Nat) (ref:Int) (s:List Int×List Int),s.1<+:(srch N f ref s).1/\s.2<+:(srch N f ref s).2
 |0,ref,s=>by
  unfold srch;split
  ·exact⟨AA _,h7n _ _⟩
  ·exact⟨AA _,AA _⟩
 |f+1,ref,s=>by
  unfold srch;split
  ·exact⟨AA _,h7n _ _⟩
  ·split
   ·exact⟨AA _,AA _⟩
   ·split
    ·exact⟨AA _,AA _⟩
    ·rename_i b _;have: ∀(l:List Int) (s:List Int×List Int),s.1<+:(l.foldl (fun s k=>srch N f k s) s).1/\s.2<+:(l.foldl (fun s k=>srch N f k s) s).2:=by
      intro l
      induction l with
      |nil=>intro s;exact⟨AA _,AA _⟩
      |cons k l ih=>intro s;have h1:=h9g f k s;have h2:=ih (srch N f k s);exact⟨h1.1.trans h2.1,h1.2.trans h2.2⟩
     have h:=this b.kids s;exact⟨h.1.trans (AE _ _),h.2⟩
theorem h7u (s:Mk)(v:VaR):s.oe<+:(mkEnd s v).1.oe/\s.on<+:(mkEnd s v).1.on:=⟨h7x _ _,AA _⟩
theorem h6r (s:Mk)(b:NdR):s.oe<+:(mkNode s b).1.oe/\s.on<+:(mkNode s b).1.on:=by
 unfold mkNode;split
 ·exact⟨AA _,AA _⟩
 ·exact⟨AA _,h7x _ _⟩
def kidsF (f:Nat)(l:List Int)(p:Mk×List Int):Mk×List Int:=l.foldl (fun (p:Mk×List Int) k=>let q:=frm E N f k p.1;(q.1,p.2++[q.2])) p
theorem h7p {f:Nat}(h: ∀ref s,s.oe<+:(frm E N f ref s).1.oe/\s.on<+:(frm E N f ref s).1.on): ∀(l:List Int) (p:Mk×List Int),p.1.oe<+:(kidsF E N f l p).1.oe/\p.1.on<+:(kidsF E N f l p).1.on:=by
 intro l
 induction l with
 |nil=>intro p;exact⟨AA _,AA _⟩
 |cons k l ih=>intro p;have h1:=h k p.1;have h2:=ih ((frm E N f k p.1).1,p.2++[(frm E N f k p.1).2]);exact⟨h1.1.trans h2.1,h1.2.trans h2.2⟩
theorem i1e: ∀(f:Nat) (ref:Int) (s:Mk),s.oe<+:(frm E N f ref s).1.oe/\s.on<+:(frm E N f ref s).1.on
 |0,ref,s=>by
  unfold frm
  (repeat' split)<;>first|exact h7u _ _|exact⟨AA _,AA _⟩
 |f+1,ref,s=>by
  unfold frm
  (repeat' split)<;>first|exact h7u _ _|exact⟨AA _,AA _⟩|skip
  rename_i b _;have h1:=h7p E N (i1e f) b.kids (s,[]);have h2:=h6r (kidsF E N f b.kids (s,[])).1 ⟨b.var,(kidsF E N f b.kids (s,[])).2⟩;exact⟨h1.1.trans h2.1,h1.2.trans h2.2⟩
def i7l (n e:Nat)(ref:Int)(l:List Int×List Int)(q:Mk×Int):Prop:=
 (∃n' e',n<=n'/\e<=e'/\n'<=N.length/\e'<=E.length/\(n':Int)<=max (n:Int) (ref+1)/\l=(rng n',rng e')/\q=(stt E N n' e',ref))\/Bad E N l q.1 N.length E.length
theorem i1z {n m:Nat}{x:Int}(h:rng n++[x]<+:rng m):x=n:=by
 obtain⟨t,ht⟩:=h;have h1:(rng n++[x]++t)[n]? =(rng m)[n]? :=by rw[ht]
 have hl:(rng n).length=n:=h3u _ _;rw[AQ,AN (by omega),hl] at h1;simp at h1;have hm:n<m:=by
  rcases Nat.lt_or_ge n m with h2|h2
  ·exact h2
  ·rw[List.getElem?_eq_none (by simpa [rng,h3u] using h2)] at h1;cases h1
 simp[rng,L,hm] at h1;exact h1
theorem h9q {α:Type}{l:List α}(hn:l.Nodup){n i:Nat}{v:α}(hi:l[i]? =AI v)(hlen:n<=l.length)(h:l.take n++[v]<+:l):i=n:=by
 obtain⟨t,ht⟩:=h;have h1:(l.take n++[v]++t)[n]? =l[n]? :=by rw[ht]
 have hl:(l.take n).length=n:=by simp;omega
 rw[AQ,AN (by omega),hl] at h1;simp at h1;have h2:=h1.symm;obtain⟨a1,b1⟩:=AB.1 h2;obtain⟨a2,b2⟩:=AB.1 hi;rcases Nat.lt_trichotomy i n with h3|h3|h3
 ·exact absurd (b2.trans b1.symm) ((AF.1 hn) i n a2 a1 h3)
 ·exact h3
 ·exact absurd (b1.trans b2.symm) ((AF.1 hn) n i a1 a2 h3)
variable {E N}
theorem h9l (hE:E.Nodup){n e:Nat}(hn:n<=N.length)(he:e<=E.length){ref:Int}(h0:ref<0){v:VaR}(hv:E[(-1-ref).toNat]? =AI v):
 i7l E N n e ref (rng n,h5k (rng e) (-1-ref)) (mkEnd (stt E N n e) v):=by
 obtain⟨j,hj⟩: ∃j:Nat,-1-ref=j:=⟨(-1-ref).toNat,by omega⟩;rw[hj] at hv⊢;simp only[AD] at hv;have hjl:j<E.length:=(AB.1 hv).1;have hrj:ref= -1-(j:Int):=by omega
 subst hrj;rcases Nat.lt_or_ge j e with h1|h1
 ·left;refine⟨n,e,by omega,by omega,hn,he,by omega,?_,?_⟩
  ·rw[h5k,if_pos (h6f.2 (by omega))]
  ·have hm:(E.take e)[j]? =AI v:=i3g hv h1;unfold mkEnd onceE stt;simp only;rw[if_pos (AH hm),i1y (h9x hE e) hm]
 ·have hnm:v∉E.take e:=h9b hE hv h1;have hlen:(E.take e).length=e:=by simp;omega
  by_cases h2:j=e
  ·left;subst h2;refine⟨n,j+1,by omega,by omega,hn,by omega,by omega,?_,?_⟩
   ·rw[h5k,if_neg (fun h=>by have:=h6f.1 h;omega),h9c]
   ·unfold mkEnd onceE stt;simp only;rw[if_neg hnm,at1_not hnm,hlen,h7r hv]
  ·right;constructor
   ·rintro⟨_,h3⟩;rw[h5k,if_neg (fun h=>by have:=h6f.1 h;omega)] at h3;have:=i1z h3;omega
   ·rintro⟨h3,_⟩;unfold mkEnd onceE stt at h3;simp only at h3;rw[if_neg hnm] at h3;exact h2 (h9q hE hv he h3)
theorem h9o (hE:E.Nodup)(hN:N.Nodup)(hflat: ∀b,b∈N-> ¬flatL b.kids)(hloose: ∀i b,N[i]? =AI b-> ∀k,k∈b.kids->okRef E k i):
 ∀(f:Nat) (ref:Int) (n e:Nat),n<=N.length->e<=E.length->ref<f->okRef E ref N.length->i7l E N n e ref (srch N f ref (rng n,rng e)) (frm E N f ref (stt E N n e))
 |0,ref,n,e,hn,he,hf,hr=>by
  have h0:ref<0:=by omega
  obtain⟨v,hv⟩: ∃v,E[(-1-ref).toNat]? =AI v:=⟨_,AG (hr.2 h0)⟩;rw[srch,frm,if_pos h0,if_pos h0,hv];exact h9l hE hn he h0 hv
 |f+1,ref,n,e,hn,he,hf,hr=>by
  by_cases h0:ref<0
  ·obtain⟨v,hv⟩: ∃v,E[(-1-ref).toNat]? =AI v:=⟨_,AG (hr.2 h0)⟩;rw[srch,frm,if_pos h0,if_pos h0,hv];exact h9l hE hn he h0 hv
  obtain⟨i,rfl⟩: ∃i:Nat,ref=i:=⟨ref.toNat,by omega⟩;have hi:i<N.length:=by have:=hr.1 (by omega);omega
  obtain⟨b,hb⟩: ∃b,N[i]? =AI b:=⟨_,AG hi⟩;rw[srch,frm,if_neg h0,if_neg h0];simp only[AD,hb];by_cases hin:i<n
  ·left;refine⟨n,e,by omega,by omega,hn,he,by omega,?_,?_⟩
   ·rw[if_pos (h6f.2 (by omega))]
   ·simp[stt,hin]
  rw[if_neg (fun h=>by have:=h6f.1 h;omega)];have hk:(stt E N n e).kn i=AK:=by simp[stt,hin]
  rw[hk];simp only;have key: ∀(l:List Int),(∀k,k∈l->okRef E k i)-> ∀(n e:Nat) (ks:List Int),n<=i->e<=E.length->
   (∃n' e',n<=n'/\e<=e'/\n'<=i/\e'<=E.length/\l.foldl (fun s k=>srch N f k s) (rng n,rng e)=(rng n',rng e')/\kidsF E N f l (stt E N n e,ks)=(stt E N n' e',ks++l))\/
   Bad E N (l.foldl (fun s k=>srch N f k s) (rng n,rng e)) (kidsF E N f l (stt E N n e,ks)).1 N.length E.length:=by
   intro l
   induction l with
   |nil=>intro _ n e ks hn he;exact .inl ⟨n,e,by omega,by omega,hn,he,rfl,by simp[kidsF]⟩
   |cons k l ih=>
    intro hl n e ks hn he;have hk:=hl k (by simp);have hkl:k<f:=by
     rcases AL k 0 with h1|h1
     ·omega
     ·have:=hk.1 h1;omega
    have hkn:okRef E k N.length:=⟨fun h1=>by have:=hk.1 h1;omega,hk.2⟩;rcases h9o hE hN hflat hloose f k n e (by omega) he hkl hkn with⟨n1,e1,a1,a2,a3,a4,a5,a6,a7⟩|hbad
    ·have hn1:n1<=i:=by
      rcases AL k 0 with h1|h1
      ·omega
      ·have:=hk.1 h1;omega
     have:=ih (fun k hk=>hl k (by simp[hk])) n1 e1 (ks++[k]) hn1 a4;simp only[List.foldl_cons,a6];rw[show kidsF E N f (k::l) (stt E N n e,ks)=kidsF E N f l (stt E N n1 e1,ks++[k]) from by simp[kidsF,a7]];rcases this with⟨n2,e2,b1,b2,b3,b4,b5,b6⟩|hbad
     ·exact .inl ⟨n2,e2,by omega,by omega,b3,b4,b5,by rw[b6];simp⟩
     ·exact .inr hbad
    ·right;have h1: ∀(l:List Int) (s:List Int×List Int),s.1<+:(l.foldl (fun s k=>srch N f k s) s).1/\s.2<+:(l.foldl (fun s k=>srch N f k s) s).2:=by
      intro l
      induction l with
      |nil=>intro s;exact⟨AA _,AA _⟩
      |cons k l ih=>intro s;have h1:=h9g N f k s;have h2:=ih (srch N f k s);exact⟨h1.1.trans h2.1,h1.2.trans h2.2⟩
     have h2:=h7p E N (i1e E N f) l ((frm E N f k (stt E N n e)).1,ks++[(frm E N f k (stt E N n e)).2]);exact hbad.mono E N (h1 l _).1 (h1 l _).2 h2.1 h2.2
  rcases key b.kids (hloose i b hb) n e [] (by omega) he with⟨n1,e1,a1,a2,a3,a4,a5,a6⟩|hbad
  ·have hfl: ¬flatL b.kids:=hflat b (AH hb);have hnm:b∉N.take n1:=h9b hN hb a3;have hlen:(N.take n1).length=n1:=by simp;omega
   have e6:(b.kids.foldl (fun (p:Mk×List Int) k=>let q:=frm E N f k p.1;(q.1,p.2++[q.2])) (stt E N n e,[]))=(stt E N n1 e1,b.kids):=by rw[<-kidsF,a6];simp
   rw[a5,e6];simp only[mkNode,if_neg hfl];obtain⟨bv,bk⟩:=b;simp only[learn,stt,onceE_not hnm,at1_not hnm,hlen];by_cases h2:i=n1
   ·left;subst h2;refine⟨i+1,e1,by omega,by omega,by omega,a4,by omega,?_,?_⟩
    ·rw[h9c]
    ·simp only[stt];rw[h7r hb];congr 1;congr 1;funext j;by_cases e1:j=i
     ·subst e1;simp
     ·have:(j<i+1)=(j<i):=by simp;omega
      simp[e1,this]
   ·right;constructor
    ·rintro⟨h3,_⟩;have:=i1z h3;omega
    ·rintro⟨_,h3⟩;exact h2 (h9q hN hb (by omega) h3)
  ·right;have h2:=h6r (kidsF E N f b.kids (stt E N n e,[])).1 ⟨b.var,(kidsF E N f b.kids (stt E N n e,[])).2⟩;exact hbad.mono E N (AE _ _) (AA _) h2.1 h2.2
def h7b (s:Mk):Prop:=s.oe.Nodup/\s.on.Nodup/\ ∀b,b∈s.on-> ¬flatL b.kids
theorem h5i {α:Type}[DecidableEq α]{l:List α}(h:l.Nodup)(x:α):(onceE l x).Nodup:=by
 unfold onceE;split
 ·exact h
 ·rename_i hx;rw[AJ];exact⟨h,by simp,fun a ha b hb=>by simp at hb;subst hb;rintro rfl;exact hx ha⟩
theorem h7b.mkEnd {s:Mk}(h:h7b s)(v:VaR):h7b (mkEnd s v).1:=⟨h5i h.1 v,h.2⟩
theorem h7b.mkNode {s:Mk}(h:h7b s)(b:NdR):h7b (mkNode s b).1:=by
 unfold Law.mkNode;split
 ·exact h
 ·rename_i hb;refine⟨h.1,h5i h.2.1 b,fun c hc=> ?_⟩;simp only[onceE] at hc;split at hc
  ·exact h.2.2 c hc
  ·simp at hc;rcases hc with hc|rfl
   ·exact h.2.2 c hc
   ·exact hb
theorem h7b.kidsF {f:Nat}(hf: ∀ref s,h7b s->h7b (frm E N f ref s).1): ∀(l:List Int) (p:Mk×List Int),h7b p.1->h7b (kidsF E N f l p).1:=by
 intro l
 induction l with
 |nil=>intro p h;exact h
 |cons k l ih=>intro p h;exact ih _ (hf k p.1 h)
theorem h7b.frm: ∀(f:Nat) (ref:Int) (s:Mk),h7b s->h7b (frm E N f ref s).1
 |0,ref,s,h=>by
  unfold Law.frm
  (repeat' split)<;>first|exact h.mkEnd _|exact h
 |f+1,ref,s,h=>by
  unfold Law.frm
  (repeat' split)<;>first|exact h.mkEnd _|exact h|skip
  rename_i b _;exact (h7b.kidsF (h7b.frm f) b.kids (s,[]) h).mkNode _
def isClean (E:List VaR)(N:List NdR)(root:Int):Prop:=
 let r:=frm E N (N.length+1) root ⟨[],[],fun _=>AK⟩
 r.1.oe=E/\r.1.on=N/\r.2=root
def isDia (E:List VaR)(N:List NdR)(root:Int):Prop:=
 E.Nodup/\(∀b,b∈N-> ¬flatL b.kids)/\N.Nodup/\srch N (N.length+1) root ([],[])=(rng N.length,rng E.length)
theorem clean_iff (hloose: ∀i b,N[i]? =AI b-> ∀k,k∈b.kids->okRef E k i){root:Int}(hroot:okRef E root N.length):isClean E N root↔isDia E N root:=by
 have main:E.Nodup->N.Nodup->(∀b,b∈N-> ¬flatL b.kids)->(isClean E N root↔srch N (N.length+1) root ([],[])=(rng N.length,rng E.length)):=by
  intro hE hN hflat;have hs:=h9o hE hN hflat hloose (N.length+1) root 0 0 (by omega) (by omega) (by rcases AL root 0 with h|h;omega;have:=hroot.1 h;omega) hroot;have e0:stt E N 0 0=⟨[],[],fun _=>AK⟩:=by simp[stt]
  rw[e0] at hs;have e1:(rng 0,rng 0)=(([],[]):List Int×List Int):=rfl;rw[e1] at hs;rcases hs with⟨n',e',_,_,h1,h2,_,h3,h4⟩|⟨h1,h2⟩
  ·unfold isClean;rw[h3,h4];simp only[stt];constructor
   ·rintro⟨a1,a2,_⟩;have b1:e'=E.length:=by have:=congrArg AU a1;simp at this;omega
    have b2:n'=N.length:=by have:=congrArg AU a2;simp at this;omega
    rw[b1,b2]
   ·intro h;have b1:n'=N.length:=by have:=congrArg (fun p=>p.1.length) h;simpa [rng,h3u] using this
    have b2:e'=E.length:=by have:=congrArg (fun p=>p.2.length) h;simpa [rng,h3u] using this
    rw[b1,b2];simp
  ·constructor
   ·intro h;exact absurd ⟨by rw[h.1];exact AA _,by rw[h.2.1];exact AA _⟩ h2
   ·intro h;exact absurd (by rw[h];exact⟨AA _,AA _⟩) h1
 constructor
 ·intro h;have hg:h7b (frm E N (N.length+1) root ⟨[],[],fun _=>AK⟩).1:=h7b.frm _ _ _ ⟨by simp,by simp,by simp⟩;obtain⟨a1,a2,a3⟩:=hg;rw[h.1] at a1;rw[h.2.1] at a2 a3;exact⟨a1,a3,a2,(main a1 a2 a3).1 h⟩
 ·rintro⟨a1,a3,a2,h⟩;exact (main a1 a2 a3).2 h
end
end Law
theorem h4u: ∀(m:Nat) (l:List Int),l.Nodup->(∀x,x∈l->0<=x/\x<m)->l.length<=m
 |0,l,_,h=>by
  cases l with
  |nil=>simp
  |cons x l=>have:=h x (by simp);omega
 |m+1,l,hn,h=>by
  by_cases hm:(m:Int)∈l
  ·have h1:=h4u m (l.erase (m:Int)) (hn.erase _) fun x hx=>by have h2:=(hn.mem_erase_iff).1 hx;have h3:=h x h2.2;have h4:=h2.1;omega
   rw[List.length_erase_of_mem hm] at h1;omega
  ·have h1:=h4u m l hn fun x hx=>by have h2:=h x hx;have h3:x≠m:=fun e=>hm (e▸hx);omega
   omega
namespace Law
def GoodS (nn ne:Nat)(s:List Int×List Int):Prop:=(s.1.Nodup/\ ∀x,x∈s.1->0<=x/\x<nn)/\s.2.Nodup/\ ∀x,x∈s.2->0<=x/\x<ne
theorem GoodS.len {nn ne:Nat}{s:List Int×List Int}(h:GoodS nn ne s):s.1.length<=nn/\s.2.length<=ne:=⟨h4u _ _ h.1.1 h.1.2,h4u _ _ h.2.1 h.2.2⟩
theorem GoodS.end {nn ne:Nat}{s:List Int×List Int}(h:GoodS nn ne s){x:Int}(hx:0<=x/\x<ne):GoodS nn ne (s.1,h5k s.2 x):=by
 refine⟨h.1,?_⟩;simp only[h5k];split
 ·exact h.2
 ·rename_i hm;refine⟨?_,fun y hy=> ?_⟩
  ·rw[AJ];exact⟨h.2.1,by simp,fun a ha b hb=>by simp at hb;subst hb;rintro rfl;exact hm ha⟩
  ·simp at hy;rcases hy with hy|rfl
   ·exact h.2.2 y hy
   ·exact hx
theorem srch_good {E:List VaR}{N:List NdR}(hloose: ∀i b,N[i]? =AI b-> ∀k,k∈b.kids->okRef E k i):
 ∀(f:Nat) (ref:Int) (s:List Int×List Int),okRef E ref N.length->GoodS N.length E.length s->
  GoodS N.length E.length (srch N f ref s)/\ ∀x,x∈(srch N f ref s).1->x∈s.1\/(0<=ref/\x<=ref)
 |0,ref,s,hr,hs=>by
  unfold srch;split
  ·rename_i h0;have:=hr.2 h0;exact⟨hs.end (by omega),fun x hx=> .inl hx⟩
  ·exact⟨hs,fun x hx=> .inl hx⟩
 |f+1,ref,s,hr,hs=>by
  unfold srch;split
  ·rename_i h0;have:=hr.2 h0;exact⟨hs.end (by omega),fun x hx=> .inl hx⟩
  ·rename_i h0;split
   ·exact⟨hs,fun x hx=> .inl hx⟩
   ·rename_i hnm;split
    ·exact⟨hs,fun x hx=> .inl hx⟩
    ·rename_i b hb;have hi:=(AB.1 hb).1;have key: ∀(l:List Int),(∀k,k∈l->okRef E k ref.toNat)-> ∀(s:List Int×List Int),GoodS N.length E.length s->
      GoodS N.length E.length (l.foldl (fun s k=>srch N f k s) s)/\ ∀x,x∈(l.foldl (fun s k=>srch N f k s) s).1->x∈s.1\/x<ref:=by
      intro l
      induction l with
      |nil=>intro _ s hs;exact⟨hs,fun x hx=> .inl hx⟩
      |cons k l ih=>
       intro hl s hs;have hk:=hl k (by simp);have h1:=srch_good hloose f k s ⟨fun h=>by have:=hk.1 h;omega,hk.2⟩ hs;have h2:=ih (fun k hk=>hl k (by simp[hk])) _ h1.1;refine⟨h2.1,fun x hx=> ?_⟩;rcases h2.2 x hx with h3|h3
       ·rcases h1.2 x h3 with h4|⟨h4,h5⟩
        ·exact .inl h4
        ·have:=hk.1 h4;exact .inr (by omega)
       ·exact .inr h3
     have hk:=key b.kids (hloose _ b hb) s hs;refine⟨⟨⟨?_,fun x hx=> ?_⟩,hk.1.2⟩,fun x hx=> ?_⟩
     ·rw[AJ];refine⟨hk.1.1.1,by simp,fun a ha c hc=> ?_⟩;simp at hc;subst hc;rintro rfl;rcases hk.2 a ha with h3|h3
      ·exact hnm h3
      ·omega
     ·simp at hx;rcases hx with hx|rfl
      ·exact hk.1.1.2 x hx
      ·omega
     ·simp at hx;rcases hx with hx|rfl
      ·rcases hk.2 x hx with h3|h3
       ·exact .inl h3
       ·exact .inr ⟨by omega,by omega⟩
      ·exact .inr ⟨by omega,by omega⟩
end Law
def DiR.nd (d:DiR)(i:Nat):NdR:=⟨d.var i,L (d.nk i) (d.kid i)⟩
def DiR.E (d:DiR):List VaR:=L d.ne d.en
def DiR.N (d:DiR):List NdR:=L d.nn d.nd
def h4k (ne:Nat)(ref below:Int):Prop:=(0<=ref->ref<below)/\(ref<0-> -1-ref<ne)
def h6m (d:DiR):Prop:= ∀i,i<d.nn-> ∀j,j<d.nk i->h4k d.ne (d.kid i j) i
theorem h9t {α:Type}{n:Nat}{g:Nat->α}{i:Nat}:(L n g)[i]? =if i<n then AI (g i) else AK:=by
 unfold L;by_cases h:i<n
 ·simp[h]
 ·simp[h]
theorem h6m.loose {d:DiR}(h:h6m d): ∀i b,(d.N)[i]? =AI b-> ∀k,k∈b.kids->Law.okRef d.E k i:=fun i b hb k hk=>by
 rw[DiR.N,h9t] at hb;split at hb
 ·rename_i hi;cases hb;obtain⟨j,hj,rfl⟩:=h6d.1 hk;have h1:=h i hi j hj;refine⟨h1.1,fun h0=> ?_⟩;have h2:=h1.2 h0;simp only[DiR.E,h3u];omega
 ·cases hb
theorem h4k.ok {d:DiR}{ref:Int}{n:Nat}(h:h4k d.ne ref n):Law.okRef d.E ref n:=⟨h.1,fun h0=>by
 have:=h.2 h0;simp only[DiR.E,h3u];omega⟩
theorem h4k.ok' {d:DiR}{ref:Int}(h:h4k d.ne ref d.nn):Law.okRef d.E ref d.N.length:=by rw[show d.N.length=d.nn from h3u _ _];exact h.ok
theorem h9e {N:List NdR}{f:Nat}{ref:Int}(h:ref<0)(s:List Int×List Int):Law.srch N f ref s=(s.1,h5k s.2 (-1-ref)):=by cases f<;>rw[Law.srch,if_pos h]
theorem h6z: ∀l:Nat,l<2->l∈[0,1]
 |0,_=>by simp
 |1,_=>by simp
 |n+2,h=>by omega
def i5q (l:List Int×List Int)(pg:List Nat)(v:AV)(h':List a0f):Prop:=
 pg=[0,1]/\ ∃n' gn' e' ge',l=(L n' gn',L e' ge')/\v= .tuple [.msl 0 1 AK n' AM,.msl 1 1 AK e' AM]/\h'=[arrI n' gn',arrI e' ge']
theorem i3x {n:Nat}{g:Nat->Int}{x:Int}:L (n+1) (fun j=>if j<n then g j else x)=L n g++[x]:=by
 rw[h7q];congr 1
 ·exact h4v fun j hj=>if_pos hj
 ·simp
theorem h6q (d:DiR)(hne:d.ne<=1000000)(ref:Int)(h0:ref<0)(hr: -1-ref<d.ne){n e:Nat}(gn ge:Nat->Int)(he:e<=1000000):
 a1h Tryz.prog 126 [d.av,int ref,.msl 0 1 AK n AM,.msl 1 1 AK e AM] [arrI n gn,arrI e ge] (i5q (L n gn,h5k (L e ge) (-1-ref))):=by
 obtain⟨z,hz⟩: ∃z:Bool,z=true↔ ∃i,i<e/\ge i= -1-ref:=by classical exact⟨decide _,decide_eq_true_iff⟩
 have hh:=i3v he ge (-1-ref) z hz;have hlo: -1000001<=ref:=by omega
 clear hr;obtain⟨ns,sz,no,od,ne,en,nn,var,nk,kid,root⟩:=d;simp only at hne;refine h3w Tryz.mixed okP i6g rfl fun E Sg hb hS F hF=> ?_;simp only[AR,AT] at hb;cbv;split
 rotate_left
 ·rename_i h;exfalso;subst hS;simp[std] at h;omega
 cbv;refine a1g hS (by subst hS;exact b6g (by simp[std];omega) (by simp[std];omega)) ?_;refine a1g hS (by subst hS;simp[std]) ?_;refine a0v hS (bool z) (by subst hS;exact hh) ?_;cases z
 ·have hnm: ¬(-1-ref)∈L e ge:=fun h=>AS (hz.2 (h6d.1 h));cbv;refine a1g hS (by subst hS;exact b6g (by simp[std];omega) (by simp[std];omega)) ?_;refine a1g hS trivial ?_;refine a1g hS (by subst hS;simp[std];omega) ?_;refine⟨[0,1],fun l h1 _=>h6z l h1,hF (h1:=[arrI n gn,arrI (e+1) (fun j=>if j<e then ge j else-1-ref)]) (.cons (.refl _) (.cons (a9v.arrI (by subst hS;rfl) fun j hj=> ?_) (.nil _))) (v0:= .tuple [.msl 0 1 AK n AM,.msl 1 1 AK (e+1) AM]) (by subst hS;exact AC _) (by simp) (.inl ⟨rfl,rfl⟩) ⟨rfl,n,gn,e+1,_,?_,rfl,rfl⟩⟩
  ·subst hS;simp only[std] at hj⊢;split
   ·rfl
   ·have:j-e=0:=by omega
    rw[this];rfl
  ·rw[i3x,h5k,if_neg hnm]
 ·have hnm:(-1-ref)∈L e ge:=h6d.2 (hz.1 rfl);cbv;refine⟨[0,1],fun l h1 _=>h6z l h1,hF (h1:=[arrI n gn,arrI e ge]) (.cons (.refl _) (.cons (.refl _) (.nil _))) (AC _) (by simp) (.inl ⟨rfl,rfl⟩) ⟨rfl,n,gn,e,ge,?_,rfl,rfl⟩⟩;rw[h5k,if_pos hnm]
theorem i1g (d:DiR)(hnn:d.nn<=1000000)(hne:d.ne<=1000000)(hnk: ∀i,i<d.nn->d.nk i<=1000000)(hko:h6m d): ∀(f:Nat) (ref:Int) (n e:Nat) (gn ge:Nat->Int),ref<f->h4k d.ne ref d.nn->
 Law.GoodS d.nn d.ne (L n gn,L e ge)->a1h Tryz.prog 126 [d.av,int ref,.msl 0 1 AK n AM,.msl 1 1 AK e AM] [arrI n gn,arrI e ge] (i5q (Law.srch d.N f ref (L n gn,L e ge))):=by
 intro f
 induction f with
 |zero=>
  intro ref n e gn ge hf hr hg;have h0:ref<0:=by omega
  have he:=hg.len.2;rw[h3u] at he;rw[h9e h0];exact h6q d hne ref h0 (hr.2 h0) gn ge (by omega)
 |succ f ih=>
  intro ref n e gn ge hf hr hg;by_cases h0:ref<0
  ·have he:=hg.len.2;rw[h3u] at he;rw[h9e h0];exact h6q d hne ref h0 (hr.2 h0) gn ge (by omega)
  obtain⟨i,rfl⟩: ∃i:Nat,ref=i:=⟨ref.toNat,by omega⟩;have hi:i<d.nn:=by have:=hr.1 (by omega);omega
  have hlen:=hg.len;rw[h3u,h3u] at hlen;obtain⟨z,hz⟩: ∃z:Bool,z=true↔ ∃j,j<n/\gn j=(i:Int):=by classical exact⟨decide _,decide_eq_true_iff⟩
  have hh:=i3v (n:=n) (by omega) gn i z hz;have hgood:=Law.srch_good (E:=d.E) (N:=d.N) hko.loose;have hEl:d.E.length=d.ne:=h3u _ _;have hNl:d.N.length=d.nn:=h3u _ _;rw[hEl,hNl] at hgood;have hki:=hko i hi;have hnki:=hnk i hi;have hsr:Law.srch d.N (f+1) i (L n gn,L e ge)=if (i:Int)∈L n gn then (L n gn,L e ge) else
   (((L (d.nk i) (d.kid i)).foldl (fun s k=>Law.srch d.N f k s) (L n gn,L e ge)).1++[(i:Int)],((L (d.nk i) (d.kid i)).foldl (fun s k=>Law.srch d.N f k s) (L n gn,L e ge)).2):=by
   rw[Law.srch,if_neg h0];have hb:d.N[(i:Int).toNat]? =AI (d.nd i):=by rw[AD,DiR.N,h9t,if_pos hi]
   rw[hb];rfl
  rw[hsr];obtain⟨N,hN⟩: ∃N,N=d.N:=⟨_,rfl⟩;rw[<-hN] at ih hgood⊢;clear hsr hN hEl hNl;have hkr: ∀j,j<d.nk i->d.kid i j<f/\h4k d.ne (d.kid i j) d.nn:=fun j hj=>by
   have h1:=hki j hj;refine⟨?_,fun h2=> ?_,h1.2⟩
   ·rcases AL (d.kid i j) 0 with h2|h2
    ·omega
    ·have:=h1.1 h2;omega
   ·have:=h1.1 h2;omega
  have hok: ∀j,j<d.nk i->Law.okRef d.E (d.kid i j) d.nn:=fun j hj=>(hkr j hj).2.ok;have hnn':n+1<=2000000:=by omega
  obtain⟨ns,sz,no,od,ne,en,nn,var,nk,kid,root⟩:=d;simp only at hi hnki hkr hok ih hgood hg hnn hne hlen;refine h3w Tryz.mixed okP i6g rfl fun E Sg hb hS F hF=> ?_;simp only[AR,AT] at hb;have ett: ∀z,Sg.toNat z=z.toNat:=by subst hS;exact fun _=>rfl
  cbv;split
  ·rename_i h;exfalso;subst hS;simp[std] at h;omega
  cbv;refine a1g hS (by subst hS;simp[std]) ?_;refine a0v hS (bool z) (by subst hS;exact hh) ?_;cases z
  rotate_left
  ·have hnm:(i:Int)∈L n gn:=h6d.2 (hz.1 rfl);cbv;refine⟨[0,1],fun l h1 _=>h6z l h1,hF (h1:=[arrI n gn,arrI e ge]) (.cons (.refl _) (.cons (.refl _) (.nil _))) (AC _) (by simp) (.inl ⟨rfl,rfl⟩) ⟨rfl,n,gn,e,ge,?_,rfl,rfl⟩⟩;rw[if_pos hnm]
  have hnm: ¬(i:Int)∈L n gn:=fun h=>AS (hz.2 (h6d.1 h));cbv;refine a1g hS (by subst hS;exact⟨Int.natCast_nonneg i,Int.ofNat_lt.2 hi⟩) ?_;simp only[nat,ett,AO,AD];refine a7r Tryz.mixed okP hS (σ:=Nat×Nat×(Nat->Int)×Nat×(Nat->Int)) (fun s=>s.1<=nk i/\(L s.2.1 s.2.2.1,L s.2.2.2.1 s.2.2.2.2)=(L s.1 (kid i)).foldl (fun s k=>Law.srch N f k s) (L n gn,L e ge)/\Law.GoodS nn ne (L s.2.1 s.2.2.1,L s.2.2.2.1 s.2.2.2.2)) (fun s=>nk i-s.1)
   (fun s=>⟨b5r [(1,int i),(2,.msl 0 1 AK s.2.1 AM),(3,.msl 1 1 AK s.2.2.2.1 AM),(4,.ptr 2 0),(10,.ptr 3 0),(11,int s.1)] 60,[arrI s.2.1 s.2.2.1,arrI s.2.2.2.1 s.2.2.2.2,.var [isl ns sz,isl no od,vsl ne en,bsl nn var nk kid,int root],.var [int (var i),isl (nk i) (kid i)]],[0,1]⟩) (0,n,gn,e,ge) ⟨by simp,rfl,hg⟩ ?_ ?_
  ·exact a4c rfl ⟨AC _,AC _,AC _,AC _,AC _,a6c rfl,trivial⟩ (.cons (.refl _) (.cons (.refl _) (.cons (.refl _) (.cons (.refl _) (.nil _))))) (by simp;omega) (.inr rfl) rfl
  ·rintro⟨k,n1,g1,e1,h1⟩ ⟨hk1,hk2,hk3⟩ M hM;simp only at hk1 hk2 hk3 hM;cbv;split
   ·have hlt:k<nk i:=by subst hS;simp[std] at*;omega
    have hkk:=hkr k hlt;have hg':=(hgood f (kid i k) (L n1 g1,L e1 h1) (hok k hlt) hk3).1;have ihk:=ih (kid i k) n1 e1 g1 h1 hkk.1 hkk.2 hk3;cbv;refine a1g hS (by subst hS;simp[std];omega) ?_;simp only[nat,ett,AO,AD];refine h3v hS (a1h.frame ihk [0,1] rfl rfl ⟨a9v.refl _,a9v.refl _,trivial⟩) ?_;rintro pg v H' ⟨pg0,v0,h0,⟨rfl,n2,g2,e2,h2,q1,rfl,rfl⟩,rfl,rfl,rfl⟩;rw[q1] at hg';cbv;refine a1g hS (by subst hS;exact b6g (by simp[std];omega) (by simp[std];omega)) ?_;refine hM (k+1,n2,g2,e2,h2) _ ⟨by simp;omega,?_,hg'⟩ (by simp;omega) (a4c rfl ⟨AC _,AC _,AC _,AC _,AC _,b0a (by subst hS;simp[std]),trivial⟩ (.cons (.refl _) (.cons (.refl _) (.cons (.refl _) (.cons (.refl _) (.nil _))))) (by simp;omega) (.inr rfl) rfl);rw[h7q,List.foldl_append,<-hk2];exact q1.symm
   ·have hkn:k=nk i:=by subst hS;simp[std] at*;omega
    subst hkn;have hl3:=hk3.len;rw[h3u,h3u] at hl3;cbv;refine a1g hS trivial ?_;refine a1g hS (by subst hS;simp[std];omega) ?_;refine⟨[0,1],fun l h1 _=>h6z l h1,hF (h1:=[arrI (n1+1) (fun j=>if j<n1 then g1 j else (i:Int)),arrI e1 h1]) (.cons (a9v.arrI (by subst hS;rfl) fun j hj=> ?_) (.cons (.refl _) (.nil _))) (v0:= .tuple [.msl 0 1 AK (n1+1) AM,.msl 1 1 AK e1 AM]) (by subst hS;exact AC _) (by simp) (.inl ⟨rfl,rfl⟩) ⟨rfl,n1+1,_,e1,h1,?_,rfl,rfl⟩⟩
    ·subst hS;simp only[std] at hj⊢;split
     ·rfl
     ·have:j-n1=0:=by omega
      rw[this];rfl
    ·rw[if_neg hnm,<-hk2,i3x]
end Go.Proofs.Tryz.Run
