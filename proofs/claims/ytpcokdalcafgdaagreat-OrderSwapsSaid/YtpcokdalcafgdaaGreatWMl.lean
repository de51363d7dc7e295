/- The runner's third text: what its values stand for; what its base functions compute. The runner's fourth text: operands, objects, views. The runner's fifth text: peeking, freezing, reading, writing, arithmetic. The runner's sixth text: arithmetic, keys, rows, addresses. The runner's seventh text: forgetting, slices. Conditions: none. -/
import Derived.Test.YtpcokdalcafgdaaGreatWMk
import Derived.Test.YtpcokdalcafgdaaGreatWMg
namespace Go.Vf
open Go
mutual
def CD.to:CD->DV
 | .int k n=> .int k n
 | .bool b=> .bool b
 | .str l=> .str l
 | .nil=> .nil
 | .sl sz n rows=> .sl sz n (rowAt (CD.toR rows))
 | .raw v=> .raw v
def CD.toL:List CD->List DV
 |[]=>[]
 |x::l=>x.to::CD.toL l
def CD.toR:List (List CD)->List (List DV)
 |[]=>[]
 |r::rs=>CD.toL r::CD.toR rs
end
theorem CD.toL_eq (l:List CD):CD.toL l=l.map CD.to:=by
 induction l with
 |nil=>rfl
 |cons x l ih=>simp[CD.toL,ih]
theorem CD.toR_eq (l:List (List CD)):CD.toR l=l.map CD.toL:=by
 induction l with
 |nil=>rfl
 |cons x l ih=>simp[CD.toR,ih]
mutual
def CA.to:CA->AV
 | .d x=> .d x.to
 | .any=> .any
 | .und=> .und
 | .agg cs=> .agg (CA.toL cs)
 | .tuple cs=> .tuple (CA.toL cs)
 | .ptr l o=> .ptr l o
 | .aptr l sz i o=> .aptr l sz i o
 | .dptr row o=> .dptr (CD.toL row) o
 | .dfs sz n rows=> .dfs sz n (rowAt (CD.toR rows))
 | .msl l sz s n f=> .msl l sz s n f
 | .vsl l o n=> .vsl l o n
 | .map l=> .map l
 | .fn f us cs=> .fn f (CA.toL us) (CA.toL cs)
 | .ge m=> .ge m
 | .yl l=> .yl l
def CA.toL:List CA->List AV
 |[]=>[]
 |x::l=>x.to::CA.toL l
end
theorem CA.toL_eq (l:List CA):CA.toL l=l.map CA.to:=by
 induction l with
 |nil=>rfl
 |cons x l ih=>simp[CA.toL,ih]
def c1n:List (List KC×Int)->List KC->Option Int
 |[],_=>none
 |e::es,k=>if k=e.1 then some e.2 else c1n es k
def BT.get? {α:Type}:BT α->Nat->Option α
 | .leaf,_=>none
 | .node v _ _,0=>some v
 | .node _ l r,j+1=>if j % 2=0 then l.get? (j/2) else r.get? (j/2)
def RT (t:TS)(ts:List AV):Prop:= ∀i v,t.get? i=some v->ts[i]? =some v.to
section
variable (P:Program)
def b6d.R (o:b6d)(ao:a0i):Prop:=
 match o with
 | .var cs=>ao= .var (CA.toL cs)
 | .arr sz n rows=>ao= .arr sz n (rowAt (CD.toR rows))
 | .frz sz n rows=>ao= .frz sz n (rowAt (CD.toR rows))
 | .map wide ks n es=>ao= .map wide ks n (c1n es)
 | .loop s ts ps A a b=> ∃tsl,RT ts tsl/\ao= .loop s tsl ps (fun ca cb=>comp P A ca=some a/\comp P A cb=some b)
structure RH (h:CH)(hl:List a0i):Prop where
 len:h.n=hl.length
 get: ∀i o,h.t.get? i=some o-> ∃ao,hl[i]? =some ao/\o.R P ao
end
section
variable {α β:Type}
theorem d4u {t:BT α}: ∀{i:Nat} {k:α->Bool},d7y t i k=true-> ∃x,t.get? i=some x/\k x=true:=by
 induction t with
 |leaf=>intro i k h;exact absurd h Bool.false_ne_true
 |node v l r il ir=>
  intro i k h
  cases i with
  |zero=>exact⟨v,rfl,h⟩
  |succ j=>
   have h': @Nat.rec (fun _=>Bool) (d7y l (Nat.div j 2) k) (fun _ _=>d7y r (Nat.div j 2) k) (Nat.mod j 2)=true:=h
   have e1:Nat.mod j 2=j % 2:=rfl
   rw[e1] at h'
   simp only[BT.get?]
   cases e:j % 2 with
   |zero=>rw[e] at h';rw[if_pos rfl];exact il h'
   |succ m=>rw[e] at h';rw[if_neg (by omega)];exact ir h'
theorem c6u {t:BT α}{y:α}: ∀{i:Nat} {k:BT α->Bool},e4o t i y k=true-> ∃t',(∃x,t.get? i=some x)/\(∀j,t'.get? j=if j=i then some y else t.get? j)/\k t'=true:=by
 induction t with
 |leaf=>intro i k h;exact absurd h Bool.false_ne_true
 |node v l r il ir=>
  intro i k h
  cases i with
  |zero=>exact⟨.node y l r,⟨v,rfl⟩,fun j=>by cases j<;>simp[BT.get?],h⟩
  |succ j=>
   have h': @Nat.rec (fun _=>Bool) (e4o l (Nat.div j 2) y fun l'=>k (.node v l' r)) (fun _ _=>e4o r (Nat.div j 2) y fun r'=>k (.node v l r')) (Nat.mod j 2)=true:=h
   have e1:Nat.mod j 2=j % 2:=rfl
   have e2:Nat.div j 2=j/2:=rfl
   rw[e1] at h'
   simp only[BT.get?]
   cases e:j % 2 with
   |zero=>
    rw[e] at h'
    rw[if_pos rfl]
    obtain⟨l',h1,h2,h3⟩:=il h'
    refine⟨_,h1,fun j'=> ?_,h3⟩
    cases j' with
    |zero=>simp[BT.get?]
    |succ j'=>
     simp only[BT.get?,h2,e2]
     by_cases c:j' % 2=0
     ·rw[if_pos c,if_pos c]
      by_cases d:j'=j
      ·subst d;simp
      ·rw[if_neg (by omega),if_neg (by omega)]
     ·rw[if_neg c,if_neg c,if_neg (fun d=>c (by have:j'=j:=by omega
                                                rw[this];exact e))]
   |succ m=>
    rw[e] at h'
    rw[if_neg (by omega)]
    obtain⟨r',h1,h2,h3⟩:=ir h'
    refine⟨_,h1,fun j'=> ?_,h3⟩
    cases j' with
    |zero=>simp[BT.get?]
    |succ j'=>
     simp only[BT.get?,h2,e2]
     by_cases c:j' % 2=0
     ·rw[if_pos c,if_pos c,if_neg (by omega)]
     ·rw[if_neg c,if_neg c]
      by_cases d:j'=j
      ·subst d;simp
      ·rw[if_neg (by omega),if_neg (by omega)]
theorem e2g {t:BT α}{y:α}: ∀{i:Nat} {k:BT α->Bool},d9t t i y k=true-> ∃t',(∀j,t'.get? j=if j=i then some y else t.get? j)/\k t'=true:=by
 induction t with
 |leaf=>
  intro i k h
  cases i with
  |zero=>exact⟨_,fun j=>by cases j<;>simp[BT.get?],h⟩
  |succ i=>exact absurd h Bool.false_ne_true
 |node v l r il ir=>
  intro i k h
  cases i with
  |zero=>exact absurd h Bool.false_ne_true
  |succ j=>
   have h': @Nat.rec (fun _=>Bool) (d9t l (Nat.div j 2) y fun l'=>k (.node v l' r)) (fun _ _=>d9t r (Nat.div j 2) y fun r'=>k (.node v l r')) (Nat.mod j 2)=true:=h
   have e1:Nat.mod j 2=j % 2:=rfl
   have e2:Nat.div j 2=j/2:=rfl
   rw[e1] at h'
   cases e:j % 2 with
   |zero=>
    rw[e] at h'
    obtain⟨l',h2,h3⟩:=il h'
    refine⟨_,fun j'=> ?_,h3⟩
    cases j' with
    |zero=>simp[BT.get?]
    |succ j'=>
     simp only[BT.get?,h2,e2]
     by_cases c:j' % 2=0
     ·rw[if_pos c,if_pos c]
      by_cases d:j'=j
      ·subst d;simp
      ·rw[if_neg (by omega),if_neg (by omega)]
     ·rw[if_neg c,if_neg c,if_neg (by omega)]
   |succ m=>
    rw[e] at h'
    obtain⟨r',h2,h3⟩:=ir h'
    refine⟨_,fun j'=> ?_,h3⟩
    cases j' with
    |zero=>simp[BT.get?]
    |succ j'=>
     simp only[BT.get?,h2,e2]
     by_cases c:j' % 2=0
     ·rw[if_pos c,if_pos c,if_neg (by omega)]
     ·rw[if_neg c,if_neg c]
      by_cases d:j'=j
      ·subst d;simp
      ·rw[if_neg (by omega),if_neg (by omega)]
theorem e7w {x:α}: ∀{d n i:Nat} {v:α},(mkT x d n).get? i=some v->i<n/\v=x:=by
 intro d
 induction d with
 |zero=>intro n i v h;simp[mkT,BT.get?] at h
 |succ d ih=>
  intro n i v h
  cases n with
  |zero=>simp[mkT,BT.get?] at h
  |succ j=>
   have e:mkT x (d+1) (j+1)= .node x (mkT x d ((j+1)/2)) (mkT x d (j/2)):=rfl
   rw[e] at h
   cases i with
   |zero=>simp[BT.get?] at h;exact⟨by omega,h.symm⟩
   |succ i=>
    simp only[BT.get?] at h
    split at h
    ·obtain⟨h1,h2⟩:=ih h;exact⟨by omega,h2⟩
    ·obtain⟨h1,h2⟩:=ih h;exact⟨by omega,h2⟩
theorem b1t {l:List α}: ∀{i:Nat} {k:α->Bool},e4y k l i=true-> ∃x,l[i]? =some x/\k x=true:=by
 induction l with
 |nil=>intro i k h;exact absurd h Bool.false_ne_true
 |cons x l ih=>
  intro i k h
  cases i with
  |zero=>exact⟨x,rfl,h⟩
  |succ i=>obtain⟨y,h1,h2⟩:=ih h;exact⟨y,by simpa using h1,h2⟩
theorem d3g {l:List α}{y:α}: ∀{i:Nat} {k:List α->Bool},f6w l i y k=true->i<l.length/\k (l.set i y)=true:=by
 induction l with
 |nil=>intro i k h;exact absurd h Bool.false_ne_true
 |cons x l ih=>
  intro i k h
  cases i with
  |zero=>exact⟨by simp,h⟩
  |succ i=>obtain⟨h1,h2⟩:=ih h;exact⟨by simpa using h1,by simpa using h2⟩
theorem c1c (f:α->β){l:List α}: ∀{i n:Nat} {k:List α->Bool},f3t l i n k=true-> ∃c,b5r (l.map f) i n=some (c.map f)/\k c=true:=by
 induction l with
 |nil=>
  intro i n k h
  cases i with
  |zero=>
   cases n with
   |zero=>exact⟨[],rfl,h⟩
   |succ n=>exact absurd h Bool.false_ne_true
  |succ i=>exact absurd h Bool.false_ne_true
 |cons x l ih=>
  intro i n k h
  cases i with
  |zero=>
   cases n with
   |zero=>exact⟨[],rfl,h⟩
   |succ n=>
    obtain⟨c,h1,h2⟩:=ih (i:=0) (n:=n) h
    exact⟨x::c,by simp[b5r,h1],h2⟩
  |succ i=>
   obtain⟨c,h1,h2⟩:=ih (i:=i) (n:=n) h
   exact⟨c,by simpa [b5r] using h1,h2⟩
theorem b9n (f:α->β){l:List α}: ∀{i:Nat} {new:List α} {k:List α->Bool},e9y l i new k=true-> ∃c,c3g (l.map f) i (new.map f)=some (c.map f)/\k c=true:=by
 induction l with
 |nil=>
  intro i new k h
  cases i with
  |zero=>
   cases new with
   |nil=>exact⟨[],rfl,h⟩
   |cons y new=>exact absurd h Bool.false_ne_true
  |succ i=>exact absurd h Bool.false_ne_true
 |cons x l ih=>
  intro i new k h
  cases i with
  |zero=>
   cases new with
   |nil=>exact⟨x::l,rfl,h⟩
   |cons y new=>
    obtain⟨c,h1,h2⟩:=ih (i:=0) (new:=new) h
    exact⟨y::c,by simp[c3g,h1],h2⟩
  |succ i=>
   obtain⟨c,h1,h2⟩:=ih (i:=i) (new:=new) h
   exact⟨x::c,by cases new<;>simp only[List.map_cons,List.map_nil,c3g] at h1⊢ <;>rw[h1],h2⟩
theorem c0n {l m:List α}: ∀{k:List α->Bool},f1h l m k=true->k (l++m)=true:=by
 induction l with
 |nil=>intro k h;exact h
 |cons x l ih=>intro k h;exact ih (k:=fun r=>k (x::r)) h
theorem b9h {l:List α}: ∀{n:Nat} {k:Nat->Bool},f2n l n k=true->k (n+l.length)=true:=by
 induction l with
 |nil=>intro n k h;exact h
 |cons x l ih=>intro n k h;have:=ih (n:=n+1) h;simpa [Nat.add_assoc,Nat.add_comm 1] using this
theorem a9x {l:List α}: ∀{n:Nat} {m:List α} {k:List α->Bool},b3w l n m k=true->n<=l.length/\k (l.take n++m)=true:=by
 induction l with
 |nil=>
  intro n m k h
  cases n with
  |zero=>exact⟨by simp,h⟩
  |succ n=>exact absurd h Bool.false_ne_true
 |cons x l ih=>
  intro n m k h
  cases n with
  |zero=>exact⟨by simp,h⟩
  |succ n=>
   obtain⟨h1,h2⟩:=ih (n:=n) h
   exact⟨by simpa using h1,by simpa using h2⟩
theorem c9q {n:Nat}: ∀{l:List α} {k:List α->Bool},c6f l n k=true->k (l.drop n)=true:=by
 induction n with
 |zero=>intro l k h;simpa [c6f] using h
 |succ n ih=>
  intro l k h
  cases l with
  |nil=>simpa [c6f] using h
  |cons x l=>simp only[c6f] at h;simpa using ih h
theorem b9e {x:α}{n:Nat}: ∀{k:List α->Bool},f3v x n k=true->k (List.replicate n x)=true:=by
 induction n with
 |zero=>intro k h;exact h
 |succ n ih=>intro k h;exact ih (k:=fun r=>k (x::r)) h
theorem c5o {l:List α}: ∀{i m:Nat} {new:List α} {k:List α->Bool},d1x l i m new k=true->i+m<=l.length/\m<=new.length/\k (l.take i++new.take m++l.drop (i+m))=true:=by
 induction l with
 |nil=>
  intro i m new k h
  cases i with
  |zero=>
   cases m with
   |zero=>simp[d1x] at h;simpa using h
   |succ m=>simp[d1x,xf] at h
  |succ i=>simp[d1x,xf] at h
 |cons x l ih=>
  intro i m new k h
  cases i with
  |zero=>
   cases m with
   |zero=>simp only[d1x] at h;simpa using h
   |succ m=>
    cases new with
    |nil=>simp[d1x,xf] at h
    |cons y new=>
     simp only[d1x] at h
     obtain⟨h1,h2,h3⟩:=ih h
     refine⟨by simp at h1⊢;omega,by simp at h2⊢;omega,?_⟩
     simpa using h3
  |succ i=>
   simp only[d1x] at h
   obtain⟨h1,h2,h3⟩:=ih h
   refine⟨by simp at h1⊢;omega,h2,?_⟩
   have e:i+1+m=(i+m)+1:=by omega
   rw[e]
   simpa using h3
end
theorem a5o (n:Nat)(k:Nat->Bool):fN n k=k n:=by cases n<;>rfl
theorem c5j (n:Int)(k:Int->Bool):fI n k=k n:=by cases n<;>simp[fI,a5o]
theorem d1y (b:Bool)(k:Bool->Bool):fB b k=k b:=by cases b<;>rfl
theorem a0l {c k:Bool}(h:a1n c k=true):c=true/\k=true:=by
 cases c with
 |false=>exact absurd h Bool.false_ne_true
 |true=>exact⟨rfl,h⟩
theorem c3c (a b:Int):xlt a b=decide (a<b):=by
 have hb: ∀m n:Nat,Nat.blt m n=decide (m<n):=fun m n=>by rw[Bool.eq_iff_iff,decide_eq_true_eq];exact Iff.of_eq Nat.ble_eq
 cases a with
 |ofNat a=>
  cases b with
  |ofNat b=>simp only[xlt,hb];exact decide_eq_decide.2 (by simp only[Int.ofNat_eq_natCast];omega)
  |negSucc b=>simp only[xlt];exact (decide_eq_false (by simp only[Int.ofNat_eq_natCast];omega)).symm
 |negSucc a=>
  cases b with
  |ofNat b=>simp only[xlt];exact (decide_eq_true (by simp only[Int.ofNat_eq_natCast];omega)).symm
  |negSucc b=>simp only[xlt,hb];exact decide_eq_decide.2 (by omega)
theorem d7n (a b:Int):xle a b=decide (a<=b):=by
 rw[xle,c3c]
 by_cases h:b<a
 ·rw[decide_eq_true h,decide_eq_false (by omega)];rfl
 ·rw[decide_eq_false h,decide_eq_true (by omega)];rfl
theorem b1j (a b:Int):xeq a b=decide (a=b):=by
 have hb: ∀m n:Nat,Nat.beq m n=decide (m=n):=fun m n=>by rw[Bool.eq_iff_iff,decide_eq_true_eq];exact Iff.of_eq Nat.beq_eq
 cases a with
 |ofNat a=>
  cases b with
  |ofNat b=>simp only[xeq,hb];exact decide_eq_decide.2 (by simp only[Int.ofNat_eq_natCast];omega)
  |negSucc b=>simp only[xeq];exact (decide_eq_false (by simp only[Int.ofNat_eq_natCast];omega)).symm
 |negSucc a=>
  cases b with
  |ofNat b=>simp only[xeq];exact (decide_eq_false (by simp only[Int.ofNat_eq_natCast];omega)).symm
  |negSucc b=>simp only[xeq,hb];exact decide_eq_decide.2 (by omega)
theorem a9k {a b:IntKind}(h:kEq a b=true):a=b:=by
 cases a<;>cases b<;>first|rfl|(exact absurd h (by decide))
def Sd (P:Program)(S:Sig):Prop:= ∃A ro E,S=std P A ro E
theorem d4f {x:DV}{k:CD->Bool}(h:cdK x k=true): ∃c,x=c.to/\k c=true:=by
 cases x<;>simp only[cdK] at h
 ·exact⟨_,rfl,h⟩
 ·exact⟨_,rfl,h⟩
 ·exact⟨_,rfl,h⟩
 ·exact⟨_,rfl,h⟩
 ·exact absurd h Bool.false_ne_true
 ·exact⟨_,rfl,h⟩
theorem b0d {l:List DV}: ∀{k:List CD->Bool},d5y l k=true-> ∃cs,l=CD.toL cs/\k cs=true:=by
 induction l with
 |nil=>intro k h;simp only[d5y] at h;exact⟨[],rfl,h⟩
 |cons x l ih=>
  intro k h
  simp only[d5y] at h
  obtain⟨c,h1,h2⟩:=d4f h
  obtain⟨cs,h3,h4⟩:=ih h2
  exact⟨c::cs,by rw[h1,h3];rfl,h4⟩
theorem e5q {l:List AV}: ∀{k:List CA->Bool},f2d l k=true-> ∃cs,l=CA.toL cs/\k cs=true:=by
 induction l with
 |nil=>intro k h;simp only[f2d] at h;exact⟨[],rfl,h⟩
 |cons x l ih=>
  intro k h
  simp only[f2d] at h
  cases x with
  |d x=>
   simp only at h
   obtain⟨c,h1,h2⟩:=d4f h
   obtain⟨cs,h3,h4⟩:=ih h2
   exact⟨.d c::cs,by rw[h1,h3];rfl,h4⟩
  |_=>exact absurd h Bool.false_ne_true
theorem f3q {x:AV}{k:CA->Bool}(h:caK x k=true): ∃c,x=c.to/\k c=true:=by
 unfold caK at h
 split at h
 ·obtain⟨c,h1,h2⟩:=d4f h;exact⟨.d c,by rw[h1];rfl,h2⟩
 ·obtain⟨c,h1,h2⟩:=e5q h;exact⟨.agg c,by rw[h1];rfl,h2⟩
 ·exact⟨.fn _ [] [],rfl,h⟩
 ·exact absurd h Bool.false_ne_true
section
variable {P:Program} {t:TS} {ts:List AV} {h:CH} {hl:List a0i}
theorem RT.get (r:RT t ts){i:Nat}{k:CA->Bool}(h:d7y t i k=true): ∃v,a1x ts i=some v.to/\k v=true:=by
 obtain⟨v,h1,h2⟩:=d4u h
 exact⟨v,by rw[a0p];exact r i v h1,h2⟩
theorem RT.set (r:RT t ts){i:Nat}{y:CA}{k:TS->Bool}(h:e4o t i y k=true): ∃t',RT t' (a4x ts i y.to)/\k t'=true:=by
 obtain⟨t',⟨x,h1⟩,h2,h3⟩:=c6u h
 refine⟨t',fun j v hj=> ?_,h3⟩
 have hlt:=(List.getElem?_eq_some_iff.1 (r i x h1)).1
 rw[h2] at hj
 rw[a0t]
 split at hj
 ·rename_i e;subst e;cases hj;simp[hlt]
 ·rename_i e;rw[List.getElem?_set_ne (Ne.symm e)];exact r j v hj
theorem a0n (r:RT t ts){o:a0o}{k:CA->Bool}(h:a2z t o k=true): ∃v,opd ts o=v.to/\k v=true:=by
 cases o with
 |t i=>
  obtain⟨v,h1,h2⟩:=r.get (i:=i) h
  exact⟨v,by simp only[opd,h1],h2⟩
 |c v=>obtain⟨c,h1,h2⟩:=f3q (x:=v) h;exact⟨c,h1,h2⟩
theorem b3y (r:RT t ts){l:List a0o}: ∀{k:List CA->Bool},d0k t l k=true-> ∃vs,b6q ts l=CA.toL vs/\k vs=true:=by
 induction l with
 |nil=>intro k h;exact⟨[],rfl,h⟩
 |cons x l ih=>
  intro k h
  obtain⟨v,h1,h⟩:=a0n r (o:=x) (k:=fun x=>d0k t l fun l=>k (x::l)) h
  obtain⟨vs,h2,h⟩:=ih h
  exact⟨v::vs,by simp only[b6q,CA.toL,h1,h2],h⟩
theorem RH.gets (r:RH P h hl){l:Nat}{k:b6d->Bool}(hk:h.get l k=true): ∃o ao,a1x hl l=some ao/\o.R P ao/\k o=true:=by
 obtain⟨n,t⟩:=h
 obtain⟨o,h1,h2⟩:=d4u (t:=t) hk
 obtain⟨ao,h3,h4⟩:=r.get l o h1
 exact⟨o,ao,by rw[a0p];exact h3,h4,h2⟩
theorem RH.sets (r:RH P h hl){l:Nat}{o:b6d}{k:CH->Bool}(hk:h.set l o k=true): ∃h',k h'=true/\ ∀ao,o.R P ao->RH P h' (a4x hl l ao):=by
 obtain⟨n,t⟩:=h
 obtain⟨t',⟨x,h1⟩,h2,h3⟩:=c6u (t:=t) hk
 obtain⟨ao0,h4,_⟩:=r.get l x h1
 have hlt:=(List.getElem?_eq_some_iff.1 h4).1
 refine⟨⟨n,t'⟩,h3,fun ao hao=>⟨by rw[a0t,List.length_set];exact r.len,fun j o' hj=> ?_⟩⟩
 rw[h2] at hj
 rw[a0t]
 split at hj
 ·rename_i e;subst e;cases hj;exact⟨ao,by simp[hlt],hao⟩
 ·rename_i e;rw[List.getElem?_set_ne (Ne.symm e)];exact r.get j o' hj
theorem RH.adds (r:RH P h hl){o:b6d}{k:Nat->CH->Bool}(hk:h.add o k=true): ∃h',k (a4v hl) h'=true/\ ∀ao,o.R P ao->RH P h' (a4l hl [ao]):=by
 obtain⟨n,t⟩:=h
 have hn:n=hl.length:=r.len
 obtain⟨t',h2,h3⟩:=e2g (t:=t) (k:=fun t=>fN (Nat.succ n) fun m=>k n ⟨m,t⟩) hk
 rw[a5o] at h3
 refine⟨_,by rw[a1g,<-hn];exact h3,fun ao hao=>⟨by rw[a1e];simp[hn],fun j o' hj=> ?_⟩⟩
 simp only[h2] at hj
 rw[a1e]
 split at hj
 ·rename_i e;subst e;cases hj;exact⟨ao,by simp[hn],hao⟩
 ·obtain⟨ao',h4,h5⟩:=r.get j o' hj
  exact⟨ao',by rw[List.getElem?_append_left (List.getElem?_eq_some_iff.1 h4).1];exact h4,h5⟩
theorem RH.nums (r:RH P h hl){k:Nat->Bool}(hk:h.num k=true):k (a4v hl)=true:=by
 obtain⟨n,t⟩:=h
 have hn:n=hl.length:=r.len
 rw[a1g,<-hn];exact hk
theorem CA.cells_to (v:CA):v.to.cells=CA.toL v.cells:=by cases v<;>rfl
theorem CA.one_to (v:CA):v.to.one=v.one:=by cases v<;>rfl
theorem a8w {vs:List CA}{k:Unit->Bool}(h:c1w vs k=true):c1m (CA.toL vs)=true/\k ()=true:=by
 induction vs with
 |nil=>exact⟨rfl,h⟩
 |cons v l ih=>
  have h': @Bool.rec (fun _=>Bool) (xf 12) (c1w l k) v.one=true:=h
  cases e:v.one with
  |false=>rw[e] at h';exact absurd h' Bool.false_ne_true
  |true=>rw[e] at h';simp only[CA.toL,c1m,CA.one_to,e];exact ih h'
theorem CA.toL_len (l:List CA):(CA.toL l).length=l.length:=by rw[CA.toL_eq];simp
theorem c6d {l:List CA}: ∀{k:List CD->Bool},f2j l k=true-> ∃ds,dvs (CA.toL l)=some (CD.toL ds)/\k ds=true:=by
 induction l with
 |nil=>intro k h;exact⟨[],rfl,h⟩
 |cons x l ih=>
  intro k h
  have h':onD x (fun x=>f2j l fun l=>k (x::l))=true:=h
  cases x with
  |d x=>
   obtain⟨ds,h1,h2⟩:=ih (k:=fun l=>k (x::l)) h'
   exact⟨x::ds,by simp only[CA.toL,CA.to,dvs,h1,CD.toL],h2⟩
  |_=>exact absurd h' Bool.false_ne_true
theorem d3y {l:List CD}: ∀{k:List CA->Bool},dL l k=true-> ∃cs,c1i .d (CD.toL l)=CA.toL cs/\k cs=true:=by
 induction l with
 |nil=>intro k h;exact⟨[],rfl,h⟩
 |cons x l ih=>
  intro k h
  obtain⟨cs,h1,h2⟩:=ih (k:=fun l=>k (.d x::l)) h
  exact⟨.d x::cs,by simp only[CD.toL,c1i,CA.toL,CA.to,h1],h2⟩
theorem e2r {l:List CD}: ∀{k:List (List CD)->Bool},e0j l k=true-> ∃rs,c1i (fun x=>[x]) (CD.toL l)=CD.toR rs/\k rs=true:=by
 induction l with
 |nil=>intro k h;exact⟨[],rfl,h⟩
 |cons x l ih=>
  intro k h
  simp only[e0j] at h
  obtain⟨cs,h1,h2⟩:=ih h
  exact⟨[x]::cs,by simp only[CD.toL,c1i,CD.toR,h1],h2⟩
theorem b7y (rows:List (List DV))(s:Nat):rowAt (rows.drop s)=fun j=>rowAt rows (s+j):=by
 funext j;rw[a2h,a2h,List.getElem?_drop]
theorem d7f (e e2:List (List DV))(n:Nat)(hn:n<=e.length):rowAt (e.take n++e2)=fun j=>if j<n then rowAt e j else rowAt e2 (j-n):=by
 funext j
 have hl:(e.take n).length=n:=by simp[hn]
 by_cases c:j<n
 ·rw[if_pos c,a2h,a2h,List.getElem?_append_left (by omega),List.getElem?_take_of_lt c]
 ·rw[if_neg c,a2h,a2h,List.getElem?_append_right (by omega),hl]
theorem d8q (e new:List (List DV))(i m:Nat)(h1:i+m<=e.length)(h2:m<=new.length):
 rowAt (e.take i++new.take m++e.drop (i+m))=fun j=>if i<=j/\j<i+m then rowAt new (j-i) else rowAt e j:=by
 funext j
 have hl1:(e.take i).length=i:=by simp;omega
 have hl2:(new.take m).length=m:=by simp[h2]
 rw[a2h,a2h,a2h]
 by_cases c1:j<i
 ·rw[if_neg (by omega),List.append_assoc,List.getElem?_append_left (by omega),List.getElem?_take_of_lt c1]
 ·by_cases c2:j<i+m
  ·rw[if_pos ⟨by omega,c2⟩,List.append_assoc,List.getElem?_append_right (by omega),hl1,List.getElem?_append_left (by omega),List.getElem?_take_of_lt (by omega)]
  ·rw[if_neg (by omega),List.getElem?_append_right (by simp;omega),List.getElem?_drop]
   congr 2
   simp
   omega
theorem d8j (x:List DV)(n:Nat):rowAt (List.replicate n x)=fun i=>if i<n then x else []:=by
 funext j
 rw[a2h,List.getElem?_replicate]
 split<;>rfl
theorem d5v (e:List (List DV))(i:Nat)(r:List DV)(h:i<e.length):rowAt (e.set i r)=fun j=>if j=i then r else rowAt e j:=by
 funext j
 rw[a2h,a2h]
 by_cases c:j=i
 ·subst c;simp[h]
 ·rw[if_neg c,List.getElem?_set_ne (Ne.symm c)]
theorem a9q {A:Ann}{ro:Option Nat}{E:Ent}{s:Option Nat}{n:Nat}{k:Nat->Bool}(h:e1x s n k=true):k (d4s (std P A ro E) s n)=true:=by
 cases s with
 |none=>exact h
 |some s=>simp only[e1x,a5o] at h;exact h
theorem c8q {A:Ann}{ro:Option Nat}{E:Ent}{rows:List (List CD)}{s:Option Nat}{k:List (List CD)->Bool}(h:e6z rows s k=true):
 ∃rs,k rs=true/\rowAt (CD.toR rs)=c1o (std P A ro E) (rowAt (CD.toR rows)) s:=by
 cases s with
 |none=>exact⟨rows,h,rfl⟩
 |some s=>
  have h1:=c9q (n:=s) h
  refine⟨_,h1,?_⟩
  rw[CD.toR_eq,List.map_drop,b7y,<-CD.toR_eq]
  rfl
theorem b3q (r:RH P h hl){v:CA}{k:Nat->Nat->List (List CD)->Bool}(hk:d1n h v k=true):
 ∃sz n rows,k sz n rows=true/\ ∀S,Sd P S-> ∀K:Nat->Nat->(Nat->List DV)->Prop,K sz n (rowAt (CD.toR rows))->b8o S hl v.to K:=by
 unfold d1n at hk
 split at hk
 ·exact⟨_,_,_,hk,fun S _ K hK=>hK⟩
 ·exact⟨_,_,_,hk,fun S _ K hK=>hK⟩
 ·rename_i l sz s n f
  obtain⟨o,ao,h1,h2,hk⟩:=r.gets hk
  cases o with
  |arr sz' m e=>
   cases h2
   obtain⟨hb,hk⟩:=a0l hk
   have hk:=a9q (P:=P) (A:={}) (ro:=none) (E:=⟨default,fun _=>False,a3h,0,[]⟩) hk
   obtain⟨hc,hk⟩:=a0l hk
   obtain⟨rs,hk,he⟩:=c8q (P:=P) (A:={}) (ro:=none) (E:=⟨default,fun _=>False,a3h,0,[]⟩) hk
   refine⟨_,_,_,hk,?_⟩
   rintro S ⟨A,ro,E,rfl⟩ K hK
   simp only[CA.to,b8o,h1,hb,if_true]
   exact And.intro (Nat.le_of_ble_eq_true hc) (by rw[he] at hK;exact hK)
  |frz sz' m e=>
   cases h2
   obtain⟨hb,hk⟩:=a0l hk
   have hk:=a9q (P:=P) (A:={}) (ro:=none) (E:=⟨default,fun _=>False,a3h,0,[]⟩) hk
   obtain⟨hc,hk⟩:=a0l hk
   obtain⟨rs,hk,he⟩:=c8q (P:=P) (A:={}) (ro:=none) (E:=⟨default,fun _=>False,a3h,0,[]⟩) hk
   refine⟨_,_,_,hk,?_⟩
   rintro S ⟨A,ro,E,rfl⟩ K hK
   simp only[CA.to,b8o,h1,hb,if_true]
   exact And.intro (Nat.le_of_ble_eq_true hc) (by rw[he] at hK;exact hK)
  |_=>exact absurd hk Bool.false_ne_true
 ·exact absurd hk Bool.false_ne_true
end
section
variable {P:Program} {t:TS} {ts:List AV} {h:CH} {hl:List a0i}
theorem c8a (r:RH P h hl){v:CA}{k:CA->Bool}(hk:e2n h v k=true): ∃v',k v'=true/\ ∀S,Sd P S-> ∀K:AV->Prop,K v'.to->d7p S hl v.to K:=by
 unfold e2n at hk
 split at hk
 ·rename_i l off n
  obtain⟨o,ao,h1,h2,hk⟩:=r.gets hk
  cases o with
  |var cs=>
   cases h2
   obtain⟨c,h3,hk⟩:=c1c CA.to hk
   obtain⟨ds,h4,hk⟩:=c6d hk
   obtain⟨rs,h5,hk⟩:=e2r hk
   refine⟨_,hk,fun S _ K hK=> ?_⟩
   simp only[CA.to,d7p,h1]
   rw[CA.toL_eq,h3,<-CA.toL_eq]
   simp only[h4,h5]
   exact hK
  |_=>exact absurd hk Bool.false_ne_true
 ·obtain⟨sz,n,rows,hk,hv⟩:=b3q r hk
  exact⟨_,hk,fun S hS K hK=>hv S hS (fun sz n e=>K (.d (.sl sz n e))) hK⟩
 ·exact⟨_,hk,fun S _ K hK=>hK⟩
 ·rename_i h1 h2 h3
  refine⟨_,hk,fun S _ K hK=> ?_⟩
  cases v<;>first|exact hK|exact absurd rfl (h1 _ _ _)|exact absurd rfl (h2 _ _ _ _ _)|exact absurd rfl (h3 _ _ _)
theorem d4t (r:RH P h hl){vs:List CA}: ∀{k:List CA->Bool},c2n h vs k=true-> ∃vs',k vs'=true/\ ∀S,Sd P S-> ∀K:List AV->Prop,K (CA.toL vs')->d1w S hl (CA.toL vs) K:=by
 induction vs with
 |nil=>intro k hk;simp only[c2n] at hk;exact⟨[],hk,fun S _ K hK=>hK⟩
 |cons v vs ih=>
  intro k hk
  simp only[c2n] at hk
  obtain⟨v',hk,h1⟩:=c8a r hk
  obtain⟨vs',hk,h2⟩:=ih hk
  exact⟨v'::vs',hk,fun S hS K hK=>h1 S hS _ (h2 S hS _ hK)⟩
theorem d1d {S:Sig}{v:AV}{vs:List AV}{K:List AV->Prop}(hv: ∀cs,v≠ .agg cs)(h:d7p S hl v fun v'=>b5p S hl vs fun r'=>K (v'::r')):b5p S hl (v::vs) K:=by
 cases v<;>first|exact h|exact absurd rfl (hv _)
theorem d4n (r:RH P h hl){vs:List CA}: ∀{k:List CA->Bool},b7w h vs k=true-> ∃vs',k vs'=true/\ ∀S,Sd P S-> ∀K:List AV->Prop,K (CA.toL vs')->b5p S hl (CA.toL vs) K:=by
 induction vs with
 |nil=>intro k hk;simp only[b7w] at hk;exact⟨[],hk,fun S _ K hK=>hK⟩
 |cons v vs ih=>
  intro k hk
  simp only[b7w] at hk
  split at hk
  ·obtain⟨cs',hk,h1⟩:=d4t r hk
   obtain⟨vs',hk,h2⟩:=ih hk
   exact⟨.agg cs'::vs',hk,fun S hS K hK=>h1 S hS _ (h2 S hS _ hK)⟩
  ·rename_i hne
   obtain⟨v',hk,h1⟩:=c8a r hk
   obtain⟨vs',hk,h2⟩:=ih hk
   refine⟨v'::vs',hk,fun S hS K hK=>d1d (fun cs e=> ?_) (h1 S hS _ (h2 S hS _ hK))⟩
   cases v<;>first|exact (hne _ rfl).elim|cases e
theorem b7o (r:RH P h hl){v:CA}{k:CA->CH->Bool}(hk:b8v h v k=true):
 ∃v' h' hl',k v' h'=true/\RH P h' hl'/\ ∀S,Sd P S-> ∀K:AV->List a0i->Prop,K v'.to hl'->a4w S hl v.to K:=by
 unfold b8v at hk
 split at hk
 ·rename_i l sz s n f
  obtain⟨sz',n',rows,hk,hv⟩:=b3q r hk
  obtain⟨o,ao,h1,h2,hk⟩:=r.gets hk
  cases o with
  |arr sz'' m e=>
   cases h2
   obtain⟨h',hk,hr⟩:=r.sets hk
   refine⟨_,_,_,hk,hr (.frz sz'' m (rowAt (CD.toR e))) rfl,fun S hS K hK=> ?_⟩
   simp only[CA.to,a4w]
   refine hv S hS _ ?_
   simp only[h1]
   exact hK
  |var cs=>
   cases h2
   refine⟨_,_,_,hk,r,fun S hS K hK=> ?_⟩
   simp only[CA.to,a4w]
   refine hv S hS _ ?_
   simp only[h1]
   exact hK
  |frz a b c=>
   cases h2
   refine⟨_,_,_,hk,r,fun S hS K hK=> ?_⟩
   simp only[CA.to,a4w]
   refine hv S hS _ ?_
   simp only[h1]
   exact hK
  |map a b c d=>
   cases h2
   refine⟨_,_,_,hk,r,fun S hS K hK=> ?_⟩
   simp only[CA.to,a4w]
   refine hv S hS _ ?_
   simp only[h1]
   exact hK
  |loop a b c d e f=>
   obtain⟨_,_,rfl⟩:=h2
   refine⟨_,_,_,hk,r,fun S hS K hK=> ?_⟩
   simp only[CA.to,a4w]
   refine hv S hS _ ?_
   simp only[h1]
   exact hK
 ·exact⟨_,_,_,hk,r,fun S _ K hK=>hK⟩
 ·rename_i h2 h3
  refine⟨_,_,_,hk,r,fun S _ K hK=> ?_⟩
  cases v<;>first|exact hK|exact absurd rfl (h2 _ _ _ _ _)|exact absurd rfl (h3 _ _ _)
theorem a9t {vs:List CA}: ∀{h:CH} {hl:List a0i} (_:RH P h hl) {k:List CA->CH->Bool},a7k h vs k=true->
 ∃vs' h' hl',k vs' h'=true/\RH P h' hl'/\ ∀S,Sd P S-> ∀K:List AV->List a0i->Prop,K (CA.toL vs') hl'->a7u S hl (CA.toL vs) K:=by
 induction vs with
 |nil=>intro h hl r k hk;simp only[a7k] at hk;exact⟨[],_,_,hk,r,fun S _ K hK=>hK⟩
 |cons v vs ih=>
  intro h hl r k hk
  simp only[a7k] at hk
  obtain⟨v',h',hl',hk,r',h1⟩:=b7o r hk
  obtain⟨vs',h'',hl'',hk,r'',h2⟩:=ih r' hk
  exact⟨v'::vs',_,_,hk,r'',fun S hS K hK=>h1 S hS _ (h2 S hS _ hK)⟩
theorem c4g {S:Sig}{v:AV}{vs:List AV}{K:List AV->List a0i->Prop}(hv: ∀cs,v≠ .agg cs)(h:a4w S hl v fun v' h'=>a3k S h' vs fun r' h''=>K (v'::r') h''):a3k S hl (v::vs) K:=by
 cases v<;>first|exact h|exact absurd rfl (hv _)
theorem b4t {vs:List CA}: ∀{h:CH} {hl:List a0i} (_:RH P h hl) {k:List CA->CH->Bool},a6a h vs k=true->
 ∃vs' h' hl',k vs' h'=true/\RH P h' hl'/\ ∀S,Sd P S-> ∀K:List AV->List a0i->Prop,K (CA.toL vs') hl'->a3k S hl (CA.toL vs) K:=by
 induction vs with
 |nil=>intro h hl r k hk;simp only[a6a] at hk;exact⟨[],_,_,hk,r,fun S _ K hK=>hK⟩
 |cons v vs ih=>
  intro h hl r k hk
  simp only[a6a] at hk
  split at hk
  ·obtain⟨cs',h',hl',hk,r',h1⟩:=a9t r hk
   obtain⟨vs',h'',hl'',hk,r'',h2⟩:=ih r' hk
   exact⟨.agg cs'::vs',_,_,hk,r'',fun S hS K hK=>h1 S hS _ (h2 S hS _ hK)⟩
  ·rename_i hne
   obtain⟨v',h',hl',hk,r',h1⟩:=b7o r hk
   obtain⟨vs',h'',hl'',hk,r'',h2⟩:=ih r' hk
   refine⟨v'::vs',_,_,hk,r'',fun S hS K hK=>c4g (fun cs e=> ?_) (h1 S hS _ (h2 S hS _ hK))⟩
   cases v<;>first|exact (hne _ rfl).elim|cases e
theorem d1v (r:RH P h hl){v:CA}{k:List CD->CH->Bool}(hk:c5m h v k=true):
 ∃ds h' hl',k ds h'=true/\RH P h' hl'/\ ∀S,Sd P S-> ∀K:List DV->List a0i->Prop,K (CD.toL ds) hl'->b6m S hl v.to K:=by
 unfold c5m at hk
 obtain⟨vs',h',hl',hk,r',h1⟩:=a9t r hk
 obtain⟨ds,h2,hk⟩:=c6d hk
 refine⟨ds,h',hl',hk,r',fun S hS K hK=> ?_⟩
 unfold b6m
 rw[CA.cells_to]
 refine h1 S hS _ ?_
 simp only[h2]
 exact hK
theorem c5r {rs:List (List CA)}: ∀{h:CH} {hl:List a0i} (_:RH P h hl) {k:List (List CD)->CH->Bool},b0y h rs k=true->
 ∃ds h' hl',k ds h'=true/\RH P h' hl'/\ ∀S,Sd P S-> ∀K:List (List DV)->List a0i->Prop,K (CD.toR ds) hl'->a8a S hl (rs.map CA.toL) K:=by
 induction rs with
 |nil=>intro h hl r k hk;simp only[b0y] at hk;exact⟨[],_,_,hk,r,fun S _ K hK=>hK⟩
 |cons v vs ih=>
  intro h hl r k hk
  simp only[b0y] at hk
  obtain⟨v',h',hl',hk,r',h1⟩:=a9t r hk
  obtain⟨ds,h2,hk⟩:=c6d hk
  obtain⟨vs',h'',hl'',hk,r'',h3⟩:=ih r' hk
  refine⟨ds::vs',_,_,hk,r'',fun S hS K hK=>h1 S hS _ ?_⟩
  simp only[h2]
  exact h3 S hS _ hK
theorem b2r {k:IntKind}{x:Int}(h:e2u k x=true):k.wrap x=x:=by
 have gen: ∀k:IntKind,xeq (k.wrap x) x=true->k.wrap x=x:=fun k h=>by rw[b1j] at h;exact of_decide_eq_true h
 cases k with
 |i64=>
  have hx: -9223372036854775808<=x/\x<9223372036854775808:=by
   cases x with
   |ofNat n=>
    have h1:n<9223372036854775808:=Nat.le_of_ble_eq_true h
    simp only[Int.ofNat_eq_natCast];omega
   |negSucc n=>
    have h1:n<9223372036854775808:=Nat.le_of_ble_eq_true h
    omega
  have e1:(2:Int)^64=18446744073709551616:=by decide
  have e2:(2:Int)^(64-1)=9223372036854775808:=by decide
  simp only[IntKind.wrap,IntKind.bits,IntKind.signed,e1,e2,Bool.true_and,decide_eq_true_eq]
  split<;>omega
 |_=>exact gen _ h
end
theorem c6p (a b:Int):Int.beq' a b=decide (a=b):=by
 rw[Int.beq'_eq_beq];rfl
section
variable {P:Program} {t:TS} {ts:List AV} {h:CH} {hl:List a0i}
theorem e2p {op:BinOp}{kd:IntKind}{x y:IX}{k:CD->Bool}(hk:b2f op kd x y k=true):
 ∃c,k c=true/\ ∀S,Sd P S-> ∀K:DV->Prop,K c.to->d8w S op kd x y K:=by
 cases op
 case add=>
  cases x<;>cases y<;>
  ·simp only[b2f,c5j] at hk
   obtain⟨h1,hk⟩:=a0l hk
   refine⟨_,hk,?_⟩
   rintro S ⟨A,ro,E,rfl⟩ K hK
   exact And.intro (b2r h1) hK
 case sub=>
  cases x<;>cases y<;>
  ·simp only[b2f,c5j] at hk
   obtain⟨h1,hk⟩:=a0l hk
   refine⟨_,hk,?_⟩
   rintro S ⟨A,ro,E,rfl⟩ K hK
   exact And.intro (b2r h1) hK
 case mul=>
  simp only[b2f,c5j] at hk
  obtain⟨h1,hk⟩:=a0l hk
  refine⟨_,hk,?_⟩
  rintro S ⟨A,ro,E,rfl⟩ K hK
  exact And.intro (b2r h1) hK
 case quo=>
  simp only[b2f,c5j] at hk
  obtain⟨h0,hk⟩:=a0l hk
  obtain⟨h1,hk⟩:=a0l hk
  refine⟨_,hk,?_⟩
  rintro S ⟨A,ro,E,rfl⟩ K hK
  rw[b1j] at h0
  exact And.intro (show y.val≠0 from by simpa using h0) (And.intro (b2r h1) hK)
 case rem=>
  simp only[b2f,c5j] at hk
  obtain⟨h0,hk⟩:=a0l hk
  refine⟨_,hk,?_⟩
  rintro S ⟨A,ro,E,rfl⟩ K hK
  rw[b1j] at h0
  exact And.intro (show y.val≠0 from by simpa using h0) hK
 case eql=>
  simp only[b2f,d1y] at hk
  refine⟨_,hk,?_⟩
  rintro S ⟨A,ro,E,rfl⟩ K hK
  rw[b1j] at hK
  cases x<;>cases y<;>first
   |(simp only[d8w,c6p];exact hK)
   |(simp only[d8w];exact hK)
 case neq=>
  simp only[b2f,d1y] at hk
  refine⟨.bool (!(decide (x.val=y.val))),?_,?_⟩
  ·rw[<-b1j];split at hk<;>(rename_i e;rw[e];exact hk)
  rintro S ⟨A,ro,E,rfl⟩ K hK
  cases x<;>cases y<;>first
   |(simp only[d8w,c6p];exact hK)
   |(simp only[d8w];exact hK)
 case lss=>
  simp only[b2f,d1y,c3c] at hk
  refine⟨_,hk,?_⟩
  rintro S ⟨A,ro,E,rfl⟩ K hK
  exact hK
 case gtr=>
  simp only[b2f,d1y,c3c] at hk
  refine⟨_,hk,?_⟩
  rintro S ⟨A,ro,E,rfl⟩ K hK
  exact hK
 case leq=>
  simp only[b2f,d1y,d7n] at hk
  refine⟨_,hk,?_⟩
  rintro S ⟨A,ro,E,rfl⟩ K hK
  exact hK
 case geq=>
  simp only[b2f,d1y,d7n] at hk
  refine⟨_,hk,?_⟩
  rintro S ⟨A,ro,E,rfl⟩ K hK
  exact hK
 all_goals exact absurd hk Bool.false_ne_true
theorem e4u {ks:List IntKind}: ∀{xs ys:List CA} {k:Bool->Bool},f2z ks xs ys k=true-> ∃b,k b=true/\ ∀S,Sd P S->e8b S ks (CA.toL xs) (CA.toL ys)=some b:=by
 induction ks with
 |nil=>
  intro xs ys k hk
  unfold f2z at hk
  cases xs with
  |cons=>exact absurd hk Bool.false_ne_true
  |nil=>
   cases ys with
   |cons=>exact absurd hk Bool.false_ne_true
   |nil=>exact⟨true,hk,fun S _=>rfl⟩
 |cons kd ks ih=>
  intro xs ys k hk
  unfold f2z at hk
  simp only at hk
  split at hk
  ·rename_i k1 x xs
   split at hk
   ·rename_i k2 y ys
    obtain⟨h1,hk⟩:=a0l hk
    obtain⟨h2,hk⟩:=a0l hk
    obtain⟨b,hk,h3⟩:=ih hk
    refine⟨decide (x.val=y.val)&&b,?_,?_⟩
    ·rw[b1j] at hk
     cases e:decide (x.val=y.val)<;>rw[e] at hk<;>simpa using hk
    ·rintro S ⟨A,ro,E,rfl⟩
     have e3:=h3 (std P A ro E) ⟨A,ro,E,rfl⟩
     simp only[CA.toL,CA.to,CD.to,e8b,a9k h1] at e3⊢
     have ek:k1=k2:=(a9k h1).symm.trans (a9k h2)
     subst ek
     simp only[if_true,e3]
     rfl
   ·exact absurd hk Bool.false_ne_true
  ·exact absurd hk Bool.false_ne_true
theorem b7t {ks:List IntKind}: ∀{xs:List CA} {k:List KC->Bool},b2g ks xs k=true-> ∃kc,k kc=true/\ ∀S,Sd P S-> ∀K:List KC->Prop,K kc->a6c S ks (CA.toL xs) K:=by
 induction ks with
 |nil=>
  intro xs k hk
  unfold b2g at hk
  cases xs with
  |cons=>exact absurd hk Bool.false_ne_true
  |nil=>exact⟨[],hk,fun S _ K hK=>hK⟩
 |cons kd ks ih=>
  intro xs k hk
  unfold b2g at hk
  split at hk
  ·rename_i k1 x xs
   obtain⟨h1,hk⟩:=a0l hk
   obtain⟨h2,hk⟩:=a0l hk
   obtain⟨kc,hk,h3⟩:=ih hk
   refine⟨_,hk,?_⟩
   rintro S ⟨A,ro,E,rfl⟩ K hK
   simp only[CA.toL,CA.to,CD.to,a6c,a9k h1,if_true]
   have ek:=a9k h1
   subst ek
   exact And.intro (b2r h2) (h3 _ ⟨A,ro,E,rfl⟩ _ hK)
  ·exact absurd hk Bool.false_ne_true
theorem b7u {wide:Bool}{ks:List IntKind}{v:CA}{k:List KC->Bool}(hk:c1a wide ks v k=true): ∃kc,k kc=true/\ ∀S,Sd P S-> ∀K:List KC->Prop,K kc->a6b S wide ks v.to K:=by
 unfold c1a at hk
 split at hk
 ·cases wide with
  |false=>exact absurd hk Bool.false_ne_true
  |true=>obtain⟨kc,hk,h1⟩:=b7t (P:=P) hk;exact⟨kc,hk,fun S hS K hK=>h1 S hS K hK⟩
 ·rename_i hne
  cases wide with
  |true=>exact absurd hk Bool.false_ne_true
  |false=>
   obtain⟨kc,hk,h1⟩:=b7t (P:=P) hk
   refine⟨kc,hk,fun S hS K hK=> ?_⟩
   have:=h1 S hS K hK
   cases v<;>first|exact this|exact (hne _ rfl).elim
theorem d2z {a:List IntKind}: ∀{b:List IntKind},f2t a b=true->a=b:=by
 induction a with
 |nil=>intro b h;cases b with
  |nil=>rfl
  |cons=>exact absurd h Bool.false_ne_true
 |cons x a ih=>
  intro b h
  cases b with
  |nil=>exact absurd h Bool.false_ne_true
  |cons y b=>
   simp only[f2t] at h
   split at h
   ·rename_i e;rw[a9k e,ih h]
   ·exact absurd h Bool.false_ne_true
theorem c9v {a:List UInt8}: ∀{b:List UInt8},c2r a b=decide (a=b):=by
 induction a with
 |nil=>intro b;cases b<;>simp[c2r]
 |cons x a ih=>
  intro b
  cases b with
  |nil=>simp[c2r]
  |cons y b=>
   simp only[c2r]
   by_cases e:x=y
   ·subst e
    rw[show Nat.beq x.toNat x.toNat=true from Nat.beq_refl _]
    simp only[ih]
    simp
   ·have:Nat.beq x.toNat y.toNat=false:=by
     rw[Bool.eq_false_iff];intro c;exact e (UInt8.toNat_inj.1 (Nat.eq_of_beq_eq_true c))
    rw[this]
    simp[e]
theorem e3x (a b:Bool):bEq a b=decide (a=b):=by cases a<;>cases b<;>rfl
theorem d9a (a b:KC):e8u a b=decide (a=b):=by
 cases a<;>cases b<;>simp[e8u,b1j,e3x,c9v]
theorem e4t {a:List KC}: ∀{b:List KC},e9b a b=decide (a=b):=by
 induction a with
 |nil=>intro b;cases b<;>simp[e9b]
 |cons x a ih=>
  intro b
  cases b with
  |nil=>simp[e9b]
  |cons y b=>
   simp only[e9b,d9a]
   by_cases e:x=y
   ·simp[e,ih]
   ·simp[e]
theorem c7i {es:List (List KC×Int)}{kc:List KC}{k:Option Int->Bool}(hk:d4l es kc k=true):k (c1n es kc)=true:=by
 induction es with
 |nil=>exact hk
 |cons e es ih=>
  obtain⟨k',v⟩:=e
  simp only[d4l,e4t] at hk
  simp only[c1n]
  by_cases c:kc=k'
  ·rw[if_pos c];simpa [c] using hk
  ·rw[if_neg c];exact ih (by simpa [c] using hk)
theorem CA.toL_get {l:List CA}{i:Nat}{v:CA}(h:l[i]? =some v):a1x (CA.toL l) i=some v.to:=by
 rw[a0p,CA.toL_eq,List.getElem?_map,h];rfl
theorem d6n (r:RT t ts){ps:List (Nat×Nat×a0o)}: ∀{cs:List CA} {k:List CA->Bool},c8k t cs ps k=true-> ∃cs',b6v ts (CA.toL cs) ps=some (CA.toL cs')/\k cs'=true:=by
 induction ps with
 |nil=>intro cs k hk;exact⟨cs,rfl,hk⟩
 |cons p ps ih=>
  obtain⟨off,sz,x⟩:=p
  intro cs k hk
  simp only[c8k] at hk
  obtain⟨v,h1,hk⟩:=a0n r hk
  have hk:=b9h hk
  obtain⟨h2,hk⟩:=a0l hk
  obtain⟨h3,hk⟩:=a8w hk
  obtain⟨c,h4,hk⟩:=b9n CA.to hk
  obtain⟨cs',h5,hk⟩:=ih hk
  refine⟨cs',?_,hk⟩
  have h2':Nat.beq (a4v (CA.toL v.cells)) sz=true:=by rw[a1g,CA.toL_len];simpa using h2
  simp only[b6v,h1,CA.cells_to,h2',h3,Bool.and_self,if_true]
  rw[CA.toL_eq,CA.toL_eq,h4]
  rw[<-CA.toL_eq]
  exact h5
theorem d8l (r:RT t ts){sz:Nat}{ps:List (Nat×a0o)}: ∀{rs:List (List CA)} {k:List (List CA)->Bool},c9o t sz rs ps k=true-> ∃rs',b5x ts sz (rs.map CA.toL) ps=some (rs'.map CA.toL)/\k rs'=true:=by
 induction ps with
 |nil=>intro cs k hk;exact⟨cs,rfl,hk⟩
 |cons p ps ih=>
  obtain⟨i,x⟩:=p
  intro rs k hk
  simp only[c9o] at hk
  obtain⟨v,h1,hk⟩:=a0n r hk
  have hk:=b9h hk
  obtain⟨h2,hk⟩:=a0l hk
  obtain⟨h3,hk⟩:=a8w hk
  obtain⟨h4,hk⟩:=d3g hk
  obtain⟨rs',h5,hk⟩:=ih hk
  refine⟨rs',?_,hk⟩
  have h2':Nat.beq (a4v (CA.toL v.cells)) sz=true:=by rw[a1g,CA.toL_len];simpa using h2
  have h6:a1x (rs.map CA.toL) i=some (CA.toL rs[i]):=by rw[a0p];simp[h4]
  simp only[b5x,h1,CA.cells_to,h2',h3,Bool.and_self,if_true,h6]
  rw[a0t,<-List.map_set]
  exact h5
theorem b4r {row:List CD}{off:Nat}{agg:Option Nat}{k:CA->Bool}(hk:c7b row off agg k=true): ∃v,k v=true/\ ∀K:AV->Prop,K v.to->b1p (CD.toL row) off agg K:=by
 cases agg with
 |none=>
  obtain⟨x,h1,hk⟩:=b1t hk
  refine⟨_,hk,fun K hK=> ?_⟩
  have:a1x (CD.toL row) off=some x.to:=by rw[a0p,CD.toL_eq,List.getElem?_map,h1];rfl
  simp only[b1p,this]
  exact hK
 |some m=>
  obtain⟨c,h1,hk⟩:=c1c CD.to hk
  obtain⟨cs,h2,hk⟩:=d3y hk
  refine⟨_,hk,fun K hK=> ?_⟩
  simp only[b1p]
  rw[CD.toL_eq,h1,<-CD.toL_eq]
  simp only[h2]
  exact hK
theorem b6l {rows:List (List CD)}{i:Nat}{k:List CD->Bool}(hk:e8w rows i k=true): ∃row,i<rows.length/\rowAt (CD.toR rows) i=CD.toL row/\k row=true:=by
 obtain⟨row,h1,hk⟩:=b1t hk
 refine⟨row,(List.getElem?_eq_some_iff.1 h1).1,?_,hk⟩
 rw[a2h,CD.toR_eq,List.getElem?_map,h1];rfl
theorem c4b (r:RH P h hl){p:CA}{agg:Option Nat}{k:CA->Bool}(hk:c8z h p agg k=true): ∃v,k v=true/\ ∀S,Sd P S-> ∀K:AV->Prop,K v.to->b1n S hl p.to agg K:=by
 unfold c8z at hk
 split at hk
 ·rename_i l off
  obtain⟨o,ao,h1,h2,hk⟩:=r.gets hk
  cases o with
  |var cs=>
   cases h2
   cases agg with
   |none=>
    obtain⟨v,h3,hk⟩:=b1t hk
    refine⟨v,hk,fun S _ K hK=> ?_⟩
    simp only[CA.to,b1n,h1,CA.toL_get h3]
    exact hK
   |some n=>
    obtain⟨c,h3,hk⟩:=c1c CA.to hk
    refine⟨_,hk,fun S _ K hK=> ?_⟩
    simp only[CA.to,b1n,h1]
    rw[CA.toL_eq,h3,<-CA.toL_eq]
    exact hK
  |_=>exact absurd hk Bool.false_ne_true
 ·rename_i l sz i off
  obtain⟨o,ao,h1,h2,hk⟩:=r.gets hk
  cases o with
  |arr sz' n e=>
   cases h2
   obtain⟨h3,hk⟩:=a0l hk
   obtain⟨h4,hk⟩:=a0l hk
   obtain⟨row,h5,h6,hk⟩:=b6l hk
   obtain⟨v,hk,h7⟩:=b4r hk
   refine⟨v,hk,?_⟩
   rintro S ⟨A,ro,E,rfl⟩ K hK
   simp only[CA.to,b1n,h1,h3,if_true,h6]
   exact And.intro (Nat.le_of_ble_eq_true h4) (h7 K hK)
  |frz sz' n e=>
   cases h2
   obtain⟨h3,hk⟩:=a0l hk
   obtain⟨h4,hk⟩:=a0l hk
   obtain⟨row,h5,h6,hk⟩:=b6l hk
   obtain⟨v,hk,h7⟩:=b4r hk
   refine⟨v,hk,?_⟩
   rintro S ⟨A,ro,E,rfl⟩ K hK
   simp only[CA.to,b1n,h1,h3,if_true,h6]
   exact And.intro (Nat.le_of_ble_eq_true h4) (h7 K hK)
  |_=>exact absurd hk Bool.false_ne_true
 ·obtain⟨v,hk,h7⟩:=b4r hk
  exact⟨v,hk,fun S _ K hK=>h7 K hK⟩
 ·exact absurd hk Bool.false_ne_true
theorem c2z {v:CA}{sz:Nat}(h:Nat.beq (0+v.cells.length) sz=true)(h2:c1m (CA.toL v.cells)=true):(Nat.beq (a4v v.to.cells) sz&&c1m v.to.cells)=true:=by
 rw[CA.cells_to,a1g,CA.toL_len,h2];simpa using h
theorem d1z (r:RH P h hl){p v:CA}{sz:Nat}{k:CH->Bool}(hk:c6x h p v sz k=true): ∃h' hl',k h'=true/\RH P h' hl'/\ ∀S,Sd P S-> ∀K:List a0i->Prop,K hl'->a9f S hl p.to v.to sz K:=by
 unfold c6x at hk
 split at hk
 ·rename_i l off
  have hk:=b9h hk
  obtain⟨h2,hk⟩:=a0l hk
  obtain⟨h3,hk⟩:=a8w hk
  obtain⟨o,ao,h1,h4,hk⟩:=r.gets hk
  cases o with
  |var cs=>
   cases h4
   obtain⟨c,h5,hk⟩:=b9n CA.to hk
   obtain⟨h',hk,hr⟩:=r.sets hk
   refine⟨h',_,hk,hr (.var (CA.toL c)) rfl,fun S _ K hK=> ?_⟩
   simp only[CA.to,a9f,c2z h2 h3,if_true,h1]
   rw[CA.cells_to,CA.toL_eq,CA.toL_eq,h5,<-CA.toL_eq]
   exact hK
  |_=>exact absurd hk Bool.false_ne_true
 ·rename_i l sz' i off
  have hk:=b9h hk
  obtain⟨h2,hk⟩:=a0l hk
  obtain⟨h3,hk⟩:=a8w hk
  obtain⟨new,h',hl',hk,r',hd⟩:=d1v r hk
  obtain⟨o,ao,h1,h4,hk⟩:=r'.gets hk
  cases o with
  |arr sz'' n e=>
   cases h4
   obtain⟨h5,hk⟩:=a0l hk
   obtain⟨h6,hk⟩:=a0l hk
   obtain⟨row,h7,h8,hk⟩:=b6l hk
   obtain⟨c,h9,hk⟩:=b9n CD.to hk
   obtain⟨h10,hk⟩:=d3g hk
   obtain⟨h'',hk,hr⟩:=r'.sets hk
   refine⟨h'',_,hk,hr (.arr sz'' n (rowAt (CD.toR (e.set i c)))) rfl,?_⟩
   rintro S ⟨A,ro,E,rfl⟩ K hK
   simp only[CA.to,a9f,c2z h2 h3,if_true]
   refine hd _ ⟨A,ro,E,rfl⟩ _ ?_
   simp only[h1,h5,if_true,h8]
   refine And.intro (Nat.le_of_ble_eq_true h6) ?_
   rw[CD.toL_eq,CD.toL_eq,h9,<-CD.toL_eq]
   rw[CD.toR_eq,List.map_set,d5v _ _ _ (by simpa using h7),<-CD.toR_eq] at hK
   exact hK
  |_=>exact absurd hk Bool.false_ne_true
 ·exact absurd hk Bool.false_ne_true
end
theorem CA.free_to (v:CA):v.to.free=v.free:=by
 cases v with
 |fn f us cs=>cases us<;>cases cs<;>rfl
 |_=>rfl
theorem d4p {vs:List CA}{k:Unit->Bool}(h:d0e vs k=true):a5m.frees1 (CA.toL vs)=true/\k ()=true:=by
 induction vs with
 |nil=>exact⟨rfl,h⟩
 |cons v l ih=>
  simp only[d0e] at h
  split at h
  ·rename_i e;simp only[CA.toL,a5m.frees1,CA.free_to,e];exact ih h
  ·exact absurd h Bool.false_ne_true
theorem b0t {vs:List CA}{k:Unit->Bool}(h:b1a vs k=true):a5m (CA.toL vs)=true/\k ()=true:=by
 induction vs with
 |nil=>exact⟨rfl,h⟩
 |cons v l ih=>
  unfold b1a at h
  simp only at h
  split at h
  ·rename_i cs
   obtain⟨h1,h⟩:=d4p h
   obtain⟨h2,h⟩:=ih h
   exact⟨by simp only[CA.toL,CA.to,a5m,h1,h2,if_true],h⟩
  ·rename_i hne
   split at h
   ·rename_i e
    obtain⟨h2,h⟩:=ih h
    refine⟨?_,h⟩
    have e':=CA.free_to v
    rw[e] at e'
    cases v<;>first|exact (hne _ rfl).elim|(simp only[CA.toL,CA.to] at e'⊢;simp only[a5m,e',h2,if_true])
   ·exact absurd h Bool.false_ne_true
theorem CA.isPtr_to (v:CA):v.to.isPtr=v.isPtr:=by cases v<;>rfl
mutual
theorem d9g:(v:CA)-> ∀{k:CA->Bool},f7t v k=true-> ∃v',k v'=true/\v'.to=v.to.norm
 | .d (.int kd n),k,h=>⟨.d (.int kd (.v n.val)),h,rfl⟩
 | .d (.bool b),k,h=>⟨_,h,rfl⟩
 | .d (.str l),k,h=>⟨_,h,rfl⟩
 | .d .nil,k,h=>⟨_,h,rfl⟩
 | .d (.sl a b c),k,h=>⟨_,h,rfl⟩
 | .d (.raw v),k,h=>⟨_,h,rfl⟩
 | .any,k,h=>⟨_,h,rfl⟩
 | .und,k,h=>⟨_,h,rfl⟩
 | .agg cs,k,h=>by obtain⟨v',h1,h2⟩:=a2r cs (k:=fun cs=>k (.agg cs)) h;exact⟨_,h1,by simp only[CA.to,AV.norm,h2]⟩
 | .tuple cs,k,h=>by obtain⟨v',h1,h2⟩:=a2r cs (k:=fun cs=>k (.tuple cs)) h;exact⟨_,h1,by simp only[CA.to,AV.norm,h2]⟩
 | .ptr ..,k,h=>⟨_,h,rfl⟩
 | .aptr ..,k,h=>⟨_,h,rfl⟩
 | .dptr ..,k,h=>⟨_,h,rfl⟩
 | .dfs ..,k,h=>⟨_,h,rfl⟩
 | .msl ..,k,h=>⟨_,h,rfl⟩
 | .vsl ..,k,h=>⟨_,h,rfl⟩
 | .map _,k,h=>⟨_,h,rfl⟩
 | .fn f us cs,k,h=>by
   obtain⟨u',h1,h2⟩:=a2r us (k:=fun us=>b0x cs fun cs=>k (.fn f us cs)) h
   obtain⟨c',h3,h4⟩:=a2r cs (k:=fun cs=>k (.fn f u' cs)) h1
   exact⟨_,h3,by simp only[CA.to,AV.norm,h2,h4]⟩
 | .ge _,k,h=>⟨_,h,rfl⟩
 | .yl _,k,h=>⟨_,h,rfl⟩
theorem a2r:(vs:List CA)-> ∀{k:List CA->Bool},b0x vs k=true-> ∃vs',k vs'=true/\CA.toL vs'=AV.normL (CA.toL vs)
 |[],k,h=>⟨[],h,rfl⟩
 |v::vs,k,h=>by
  obtain⟨v',h1,h2⟩:=d9g v (k:=fun v=>b0x vs fun r=>k (v::r)) h
  obtain⟨vs',h3,h4⟩:=a2r vs (k:=fun r=>k (v'::r)) h1
  exact⟨_,h3,by simp only[CA.toL,AV.normL,h2,h4]⟩
end
theorem b2d {l m:Nat}{v:CA}{k:CA->Bool}(h:c7u l m v k=true): ∃v',k v'=true/\v'.to=if (if false=true then Nat.ble l m else Nat.beq l m)=true then .any else v.to:=by
 unfold c7u at h
 cases e:Nat.beq l m with
 |false=>rw[e] at h;exact⟨v,h,by simp⟩
 |true=>rw[e] at h;exact⟨.any,h,by simp[CA.to]⟩
mutual
theorem b8d (l:Nat):(v:CA)-> ∀{k:CA->Bool},d7v l v k=true-> ∃v',k v'=true/\v'.to=v.to.forget l false
 | .d _,k,h=>⟨_,h,rfl⟩
 | .any,k,h=>⟨_,h,rfl⟩
 | .und,k,h=>⟨_,h,rfl⟩
 | .agg cs,k,h=>by obtain⟨v',h1,h2⟩:=a3x l cs (k:=fun cs=>k (.agg cs)) h;exact⟨_,h1,by simp only[CA.to,AV.forget,h2]⟩
 | .tuple cs,k,h=>by obtain⟨v',h1,h2⟩:=a3x l cs (k:=fun cs=>k (.tuple cs)) h;exact⟨_,h1,by simp only[CA.to,AV.forget,h2]⟩
 | .ptr m off,k,h=>by obtain⟨v',h1,h2⟩:=b2d (v:= .ptr m off) h;exact⟨v',h1,h2⟩
 | .aptr m sz i off,k,h=>by obtain⟨v',h1,h2⟩:=b2d (v:= .aptr m sz i off) h;exact⟨v',h1,h2⟩
 | .dptr ..,k,h=>⟨_,h,rfl⟩
 | .dfs ..,k,h=>⟨_,h,rfl⟩
 | .msl m sz s n f,k,h=>by obtain⟨v',h1,h2⟩:=b2d (v:= .msl m sz s n f) h;exact⟨v',h1,h2⟩
 | .vsl m off n,k,h=>by obtain⟨v',h1,h2⟩:=b2d (v:= .vsl m off n) h;exact⟨v',h1,h2⟩
 | .map m,k,h=>by obtain⟨v',h1,h2⟩:=b2d (v:= .map m) h;exact⟨v',h1,h2⟩
 | .fn f us cs,k,h=>by
   obtain⟨u',h1,h2⟩:=a3x l us (k:=fun us=>b3p l cs fun cs=>k (.fn f us cs)) h
   obtain⟨c',h3,h4⟩:=a3x l cs (k:=fun cs=>k (.fn f u' cs)) h1
   exact⟨_,h3,by simp only[CA.to,AV.forget,h2,h4]⟩
 | .ge _,k,h=>⟨_,h,rfl⟩
 | .yl m,k,h=>by obtain⟨v',h1,h2⟩:=b2d (v:= .yl m) h;exact⟨v',h1,h2⟩
theorem a3x (l:Nat):(vs:List CA)-> ∀{k:List CA->Bool},b3p l vs k=true-> ∃vs',k vs'=true/\CA.toL vs'=AV.forgetL l false (CA.toL vs)
 |[],k,h=>⟨[],h,rfl⟩
 |v::vs,k,h=>by
  obtain⟨v',h1,h2⟩:=b8d l v (k:=fun v=>b3p l vs fun r=>k (v::r)) h
  obtain⟨vs',h3,h4⟩:=a3x l vs (k:=fun r=>k (v'::r)) h1
  exact⟨_,h3,by simp only[CA.toL,AV.forgetL,h2,h4]⟩
end
section
variable {P:Program} {t:TS} {ts:List AV} {h:CH} {hl:List a0i}
theorem b3j (l:Nat){t:TS}: ∀{k:TS->Bool},a6y l t k=true-> ∃t',k t'=true/\ ∀i v',t'.get? i=some v'-> ∃v,t.get? i=some v/\v'.to=v.to.forget l false:=by
 induction t with
 |leaf=>intro k h;exact⟨.leaf,h,fun i v' h=>by simp[BT.get?] at h⟩
 |node v a b ia ib=>
  intro k h
  obtain⟨v',h1,h2⟩:=b8d l v (k:=fun v=>a6y l a fun tl=>a6y l b fun tr=>k (.node v tl tr)) h
  obtain⟨a',h3,h4⟩:=ia (k:=fun tl=>a6y l b fun tr=>k (.node v' tl tr)) h1
  obtain⟨b',h5,h6⟩:=ib h3
  refine⟨_,h5,fun i u hi=> ?_⟩
  cases i with
  |zero=>simp only[BT.get?,Option.some.injEq] at hi⊢;subst hi;exact⟨v,rfl,h2⟩
  |succ j=>
   simp only[BT.get?] at hi⊢
   split at hi
   ·rename_i e;rw[if_pos e];exact h4 _ _ hi
   ·rename_i e;rw[if_neg e];exact h6 _ _ hi
theorem c5p (r:RT t ts){l:Nat}{k:TS->Bool}(hk:a6y l t k=true): ∃t',k t'=true/\RT t' (AV.forgetL l false ts):=by
 obtain⟨t',h1,h2⟩:=b3j l hk
 refine⟨t',h1,fun i v' hv=> ?_⟩
 obtain⟨v,h3,h4⟩:=h2 i v' hv
 rw[AV.forgetL_eq,List.getElem?_map,r i v h3,h4];rfl
theorem d6w {pg:List Nat}: ∀{t:TS} {ts:List AV} (_:RT t ts) {k:TS->Bool},a9l pg t k=true-> ∃t',k t'=true/\RT t' (ts.map (a5b pg)):=by
 induction pg with
 |nil=>intro t ts r k hk;refine⟨t,hk,?_⟩;simpa [a5b] using r
 |cons l pg ih=>
  intro t ts r k hk
  simp only[a9l] at hk
  obtain⟨t',hk,r'⟩:=c5p r hk
  obtain⟨t'',hk,r''⟩:=ih r' hk
  refine⟨t'',hk,?_⟩
  rw[AV.forgetL_eq,List.map_map] at r''
  exact r''
theorem b9s (l:Nat){t:BT b6d}: ∀{k:BT b6d->Bool},a2p l t k=true->
 ∃t',k t'=true/\ ∀i v',t'.get? i=some v'-> ∃v,t.get? i=some v/\ ∀ao,v.R P ao->v'.R P (ao.forget l false):=by
 induction t with
 |leaf=>intro k h;exact⟨.leaf,h,fun i v' h=>by simp[BT.get?] at h⟩
 |node v a b ia ib=>
  intro k h
  have hv: ∃v',(∀ao,v.R P ao->v'.R P (ao.forget l false))/\(a2p l a fun tl=>a2p l b fun tr=>k (.node v' tl tr))=true:=by
   have h':c9s l v (fun v=>a2p l a fun tl=>a2p l b fun tr=>k (.node v tl tr))=true:=h
   cases v with
   |var cs=>
    obtain⟨c',h1,h2⟩:=a3x l cs (k:=fun cs=>a2p l a fun tl=>a2p l b fun tr=>k (.node (.var cs) tl tr)) h'
    exact⟨_,fun ao hR=>by cases hR;simp only[b6d.R,a0i.forget,h2],h1⟩
   |arr=>exact⟨_,fun ao hR=>by cases hR;rfl,h'⟩
   |frz=>exact⟨_,fun ao hR=>by cases hR;rfl,h'⟩
   |map=>exact⟨_,fun ao hR=>by cases hR;rfl,h'⟩
   |loop s ts ps A x y=>
    obtain⟨t',h1,h2⟩:=b3j l (k:=fun ts=>a2p l a fun tl=>a2p l b fun tr=>k (.node (.loop s ts ps A x y) tl tr)) h'
    refine⟨_,fun ao hR=> ?_,h1⟩
    obtain⟨tsl,h3,rfl⟩:=hR
    refine⟨AV.forgetL l false tsl,fun i v' hv=> ?_,rfl⟩
    obtain⟨v,h5,h6⟩:=h2 i v' hv
    rw[AV.forgetL_eq,List.getElem?_map,h3 i v h5,h6];rfl
  obtain⟨v',h2,h1⟩:=hv
  obtain⟨a',h3,h4⟩:=ia (k:=fun tl=>a2p l b fun tr=>k (.node v' tl tr)) h1
  obtain⟨b',h5,h6⟩:=ib h3
  refine⟨_,h5,fun i u hi=> ?_⟩
  cases i with
  |zero=>simp only[BT.get?,Option.some.injEq] at hi⊢;subst hi;exact⟨v,rfl,h2⟩
  |succ j=>
   simp only[BT.get?] at hi⊢
   split at hi
   ·rename_i e;rw[if_pos e];exact h4 _ _ hi
   ·rename_i e;rw[if_neg e];exact h6 _ _ hi
theorem c5w (r:RH P h hl){l:Nat}{k:CH->Bool}(hk:c8p l h k=true): ∃h',k h'=true/\RH P h' (a3j l false hl):=by
 obtain⟨n,t⟩:=h
 obtain⟨t',h1,h2⟩:=b9s (P:=P) l (k:=fun t=>k ⟨n,t⟩) hk
 refine⟨_,h1,⟨by rw[a5g,List.length_map];exact r.len,fun i o' ho=> ?_⟩⟩
 obtain⟨o,h3,h4⟩:=h2 i o' ho
 obtain⟨ao,h5,h6⟩:=r.get i o h3
 exact⟨_,by rw[a4a,h5];rfl,h4 ao h6⟩
theorem b0r {l:Nat}{mv:List Nat}:c3e l mv=true↔l∈mv:=by
 induction mv with
 |nil=>simp[c3e]
 |cons m r ih=>
  simp only[c3e]
  split
  ·rename_i e;simp[Nat.eq_of_beq_eq_true e]
  ·rename_i e
   rw[ih,List.mem_cons]
   refine⟨.inr,fun h=>h.resolve_left fun c=> ?_⟩
   subst c
   rw[Nat.beq_refl] at e
   cases e
theorem e2l {base:Nat}{pg:List Nat}: ∀{mv:List Nat} {k:List Nat->Bool},b3o base pg mv k=true-> ∃mv',k mv'=true/\(∀m,m∈mv->m∈mv')/\ ∀m,m∈pg->m<base->m∈mv':=by
 induction pg with
 |nil=>intro mv k hk;exact⟨mv,hk,fun _ h=>h,by simp⟩
 |cons l pg ih=>
  intro mv k hk
  simp only[b3o] at hk
  split at hk
  ·split at hk
   ·rename_i e
    obtain⟨mv',h1,h2,h3⟩:=ih hk
    refine⟨mv',h1,h2,fun m hm hb=> ?_⟩
    rcases List.mem_cons.1 hm with rfl|hm
    ·exact h2 _ (b0r.1 e)
    ·exact h3 m hm hb
   ·obtain⟨mv',h1,h2,h3⟩:=ih hk
    refine⟨mv',h1,fun m hm=>h2 m (by simp[hm]),fun m hm hb=> ?_⟩
    rcases List.mem_cons.1 hm with rfl|hm
    ·exact h2 _ (by simp)
    ·exact h3 m hm hb
  ·rename_i e
   obtain⟨mv',h1,h2,h3⟩:=ih hk
   refine⟨mv',h1,h2,fun m hm hb=> ?_⟩
   rcases List.mem_cons.1 hm with rfl|hm
   ·have:Nat.blt m base=true:=Nat.ble_eq▸hb
    rw[this] at e;cases e
   ·exact h3 m hm hb
theorem a4z {v:CA}{k:IX->Bool}(hk:b4y v k=true): ∃n,v= .d (.int .i64 n)/\k n=true:=by
 unfold b4y at hk
 split at hk
 ·exact⟨_,rfl,hk⟩
 ·exact absurd hk Bool.false_ne_true
theorem b0m {v:CA}{k:Bool->Bool}(hk:c4y v k=true): ∃n,v= .d (.bool n)/\k n=true:=by
 unfold c4y at hk
 split at hk
 ·exact⟨_,rfl,hk⟩
 ·exact absurd hk Bool.false_ne_true
theorem a4r {n:IX}{k:Nat->Bool}(hk:c8f n k=true):k n.val.toNat=true:=by
 unfold c8f at hk
 split at hk
 ·rename_i e;rw[e];exact hk
 ·rename_i e;rw[e];exact hk
theorem a4d (r:RT t ts){x:Option a0o}{d:IX}{k:IX->Bool}(hk:c8m t x d k=true): ∃n,k n=true/\ ∀K:IX->Prop,K n->b5z ts x d K:=by
 cases x with
 |none=>exact⟨d,hk,fun K hK=>hK⟩
 |some o=>
  obtain⟨v,h1,hk⟩:=a0n r hk
  obtain⟨n,rfl,hk⟩:=a4z hk
  exact⟨n,hk,fun K hK=>by simp only[b5z,h1];exact hK⟩
theorem a8j {s:Option Nat}{lo:IX}{k:Option Nat->Bool}(hk:b0b s lo k=true): ∃s',k s'=true/\ ∀S,Sd P S->a9j S s lo=s':=by
 cases lo with
 |l n=>
  cases n with
  |ofNat m=>
   cases m with
   |zero=>exact⟨s,hk,fun S _=>rfl⟩
   |succ m=>
    cases s with
    |none=>refine⟨_,hk,?_⟩;rintro S ⟨A,ro,E,rfl⟩;rfl
    |some u=>simp only[b0b,a5o] at hk;refine⟨_,hk,?_⟩;rintro S ⟨A,ro,E,rfl⟩;rfl
  |negSucc m=>exact absurd hk Bool.false_ne_true
 |v n=>
  simp only[b0b] at hk
  have hk:=a4r hk
  cases s with
  |none=>refine⟨_,hk,?_⟩;rintro S ⟨A,ro,E,rfl⟩;rfl
  |some u=>simp only[a5o] at hk;refine⟨_,hk,?_⟩;rintro S ⟨A,ro,E,rfl⟩;rfl
theorem b6j {A:Ann}{ro:Option Nat}{E:Ent}(rows:List (List CD))(lo:IX):shiftL (std P A ro E) (rowAt (CD.toR rows)) lo=rowAt (CD.toR (rows.drop lo.val.toNat)):=by
 have gen:rowAt (CD.toR (rows.drop lo.val.toNat))=(std P A ro E).shift (rowAt (CD.toR rows)) (nat (std P A ro E) lo):=by
  rw[CD.toR_eq,List.map_drop,b7y,<-CD.toR_eq,a0z];rfl
 unfold shiftL
 split
 ·rename_i h;rfl
 ·exact gen.symm
theorem a3d {a b:Int}{k:Bool}(h:a1n (xle a b) k=true):a<=b/\k=true:=by
 obtain⟨h1,h2⟩:=a0l h
 rw[d7n] at h1
 exact⟨of_decide_eq_true h1,h2⟩
theorem b7s {a b:Int}{k:Bool}(h:a1n (xeq a b) k=true):a=b/\k=true:=by
 obtain⟨h1,h2⟩:=a0l h
 rw[b1j] at h1
 exact⟨of_decide_eq_true h1,h2⟩
theorem b9k (r:RT t ts){sz:Nat}{x:CA}{lo hi mx:Option a0o}{k:CA->Bool}(hk:b1v t sz x lo hi mx k=true):
 ∃v,k v=true/\ ∀S,Sd P S-> ∀K:AV->Prop,K v.to->a1w S ts sz x.to lo hi mx K:=by
 unfold b1v at hk
 split at hk
 ·rename_i l sz' s n f
  obtain⟨h1,hk⟩:=a0l hk
  obtain⟨lo',hk,hlo⟩:=a4d r hk
  obtain⟨hi',hk,hhi⟩:=a4d r hk
  obtain⟨h2,hk⟩:=a3d hk
  obtain⟨h3,hk⟩:=a3d hk
  obtain⟨h4,hk⟩:=a3d hk
  have hk:=a4r hk
  have hk:=a4r hk
  simp only[a5o] at hk
  split at hk
  ·split at hk
   ·obtain⟨h5,hk⟩:=b7s hk
    obtain⟨s',hk,h6⟩:=a8j (P:=P) hk
    refine⟨_,hk,?_⟩
    rintro S ⟨A,ro,E,rfl⟩ K hK
    simp only[CA.to,a1w,h1,if_true]
    refine hlo _ (hhi _ (And.intro h2 (And.intro h3 (And.intro h4 (And.intro h5 ?_)))))
    rw[h6 _ ⟨A,ro,E,rfl⟩,a0z,a0z];exact hK
   ·obtain⟨s',hk,h6⟩:=a8j (P:=P) hk
    refine⟨_,hk,?_⟩
    rintro S ⟨A,ro,E,rfl⟩ K hK
    simp only[CA.to,a1w,h1,if_true]
    refine hlo _ (hhi _ (And.intro h2 (And.intro h3 (And.intro h4 ?_))))
    rw[h6 _ ⟨A,ro,E,rfl⟩,a0z,a0z];exact hK
  ·obtain⟨v,h7,hk⟩:=a0n r hk
   obtain⟨m',rfl,hk⟩:=a4z hk
   obtain⟨h5,hk⟩:=b7s hk
   obtain⟨s',hk,h6⟩:=a8j (P:=P) hk
   refine⟨_,hk,?_⟩
   rintro S ⟨A,ro,E,rfl⟩ K hK
   simp only[CA.to,a1w,h1,if_true,h7]
   refine hlo _ (hhi _ (And.intro h2 (And.intro h3 (And.intro h4 (And.intro h5 ?_)))))
   rw[h6 _ ⟨A,ro,E,rfl⟩,a0z,a0z];exact hK
 ·rename_i sz' n e
  obtain⟨h1,hk⟩:=a0l hk
  obtain⟨lo',hk,hlo⟩:=a4d r hk
  obtain⟨hi',hk,hhi⟩:=a4d r hk
  obtain⟨h2,hk⟩:=a3d hk
  obtain⟨h3,hk⟩:=a3d hk
  obtain⟨h4,hk⟩:=a3d hk
  have hk:=a4r hk
  have hk:=a4r hk
  simp only[a5o] at hk
  have hk:=c9q hk
  split at hk
  ·refine⟨_,hk,?_⟩
   rintro S ⟨A,ro,E,rfl⟩ K hK
   simp only[CA.to,CD.to,a1w,h1,if_true]
   refine hlo _ (hhi _ (And.intro h2 (And.intro h3 (And.intro h4 ?_))))
   rw[b6j,a0z,a0z];exact hK
  ·obtain⟨v,h7,hk⟩:=a0n r hk
   obtain⟨m',rfl,hk⟩:=a4z hk
   obtain⟨h5,hk⟩:=b7s hk
   refine⟨_,hk,?_⟩
   rintro S ⟨A,ro,E,rfl⟩ K hK
   simp only[CA.to,CD.to,a1w,h1,if_true,h7]
   refine hlo _ (hhi _ (And.intro h2 (And.intro h3 (And.intro h4 (And.intro h5 ?_)))))
   rw[b6j,a0z,a0z];exact hK
 ·obtain⟨lo',hk,hlo⟩:=a4d r hk
  obtain⟨hi',hk,hhi⟩:=a4d r hk
  obtain⟨h2,hk⟩:=b7s hk
  obtain⟨h3,hk⟩:=b7s hk
  split at hk
  ·refine⟨_,hk,?_⟩
   rintro S ⟨A,ro,E,rfl⟩ K hK
   simp only[CA.to,CD.to,a1w]
   exact hlo _ (hhi _ (And.intro h2 (And.intro h3 hK)))
  ·obtain⟨v,h7,hk⟩:=a0n r hk
   obtain⟨m',rfl,hk⟩:=a4z hk
   obtain⟨h5,hk⟩:=b7s hk
   refine⟨_,hk,?_⟩
   rintro S ⟨A,ro,E,rfl⟩ K hK
   simp only[CA.to,CD.to,a1w,h7]
   exact hlo _ (hhi _ (And.intro h2 (And.intro h3 (And.intro h5 hK))))
 ·exact absurd hk Bool.false_ne_true
end
end Go.Vf
