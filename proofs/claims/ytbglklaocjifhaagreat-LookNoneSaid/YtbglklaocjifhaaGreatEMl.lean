/- The runner's third text: what its values stand for; what its base functions compute. The runner's fourth text: operands, objects, views. The runner's fifth text: peeking, freezing, reading, writing, arithmetic. The runner's sixth text: arithmetic, keys, rows, addresses. The runner's seventh text: forgetting, slices. Conditions: none. -/
import Derived.Test.YtbglklaocjifhaaGreatEMk
import Derived.Test.YtbglklaocjifhaaGreatEMg
open Bool renaming false_ne_true->AA,true->AB,false->AP,eq_iff_iff->AY,and_self->Ac
open Nat renaming le_of_ble_eq_true->AC,beq->AK,div->AN,mod->AQ,eq_of_beq_eq_true->AT,rec->Ae,beq_refl->Af,ble_eq->Ah,blt->Ai
open Int renaming ofNat_eq_natCast->AD
open List renaming getElem?_eq_some_iff->AE,getElem?_append_left->AF,getElem?_map->AH,getElem?_append_right->AI,getElem?_take_of_lt->AJ,getElem?_set_ne->AL,mem_cons->AO,getElem?_drop->AU,append_assoc->AX,replicate->AZ,map_drop->Ab,map_set->Ad
open Option renaming some->AG,none->AW
open Go renaming IntKind->AM
open Go.Vf.AV renaming forgetL->AR,forgetL_eq->AS,forget->Aa,norm->Ag,normL->Aj
set_option linter.unusedSimpArgs false
set_option linter.unusedVariables false
namespace Go.Vf
open Go
mutual
def CD.to:CD->DV
 | .int k n=> .int k n
 | .bool b=> .bool b
 | .str l=> .str l
 | .nil=> .nil
 | .sl sz n rows=> .sl sz n (rowAt (CD.toR rows))
 | .raw v=> .raw v
def CD.toL:List CD->List DV
 |[]=>[]
 |x::l=>x.to::CD.toL l
def CD.toR:List (List CD)->List (List DV)
 |[]=>[]
 |r::rs=>CD.toL r::CD.toR rs
end
theorem CD.toL_eq (l:List CD):CD.toL l=l.map CD.to:=by
 induction l with
 |nil=>rfl
 |cons x l ih=>simp[CD.toL,ih]
theorem CD.toR_eq (l:List (List CD)):CD.toR l=l.map CD.toL:=by
 induction l with
 |nil=>rfl
 |cons x l ih=>simp[CD.toR,ih]
mutual
def CA.to:CA->AV
 | .d x=> .d x.to
 | .any=> .any
 | .und=> .und
 | .agg cs=> .agg (CA.toL cs)
 | .tuple cs=> .tuple (CA.toL cs)
 | .ptr l o=> .ptr l o
 | .aptr l sz i o=> .aptr l sz i o
 | .dptr row o=> .dptr (CD.toL row) o
 | .dfs sz n rows=> .dfs sz n (rowAt (CD.toR rows))
 | .msl l sz s n f=> .msl l sz s n f
 | .vsl l o n=> .vsl l o n
 | .map l=> .map l
 | .fn f us cs=> .fn f (CA.toL us) (CA.toL cs)
 | .ge m=> .ge m
 | .yl l=> .yl l
def CA.toL:List CA->List AV
 |[]=>[]
 |x::l=>x.to::CA.toL l
end
theorem CA.toL_eq (l:List CA):CA.toL l=l.map CA.to:=by
 induction l with
 |nil=>rfl
 |cons x l ih=>simp[CA.toL,ih]
def b6n:List (List KC×Int)->List KC->Option Int
 |[],_=>AW
 |e::es,k=>if k=e.1 then AG e.2 else b6n es k
def BT.get? {α:Type}:BT α->Nat->Option α
 | .leaf,_=>AW
 | .node v _ _,0=>AG v
 | .node _ l r,j+1=>if j % 2=0 then l.get? (j/2) else r.get? (j/2)
def RT (t:TS)(ts:List AV):Prop:= ∀i v,t.get? i=AG v->ts[i]? =AG v.to
section
variable (P:Program)
def b0h.R (o:b0h)(ao:a0f):Prop:=
 match o with
 | .var cs=>ao= .var (CA.toL cs)
 | .arr sz n rows=>ao= .arr sz n (rowAt (CD.toR rows))
 | .frz sz n rows=>ao= .frz sz n (rowAt (CD.toR rows))
 | .map wide ks n es=>ao= .map wide ks n (b6n es)
 | .mapv wide ks keys vals=>ao= .mapv wide ks keys (CA.toL vals)
 | .gone=>ao= .gone
 | .loop s ts ps A a b=> ∃tsl,RT ts tsl/\ao= .loop s tsl ps (fun ca cb=>comp P A ca=AG a/\comp P A cb=AG b)
structure RH (h:CH)(hl:List a0f):Prop where
 len:h.n=hl.length
 get: ∀i o,h.t.get? i=AG o-> ∃ao,hl[i]? =AG ao/\o.R P ao
end
section
variable {α β:Type}
theorem c9d {t:BT α}: ∀{i:Nat} {k:α->Bool},c8b t i k=AB-> ∃x,t.get? i=AG x/\k x=AB:=by
 induction t with
 |leaf=>intro i k h;exact absurd h AA
 |node v l r il ir=>
  intro i k h;cases i with
  |zero=>exact⟨v,rfl,h⟩
  |succ j=>
   have h': @Ae (fun _=>Bool) (c8b l (AN j 2) k) (fun _ _=>c8b r (AN j 2) k) (AQ j 2)=AB:=h;have e1:AQ j 2=j % 2:=rfl;rw[e1] at h';simp only[BT.get?];cases e:j % 2 with
   |zero=>rw[e] at h';rw[if_pos rfl];exact il h'
   |succ m=>rw[e] at h';rw[if_neg (by omega)];exact ir h'
theorem b9h {t:BT α}{y:α}: ∀{i:Nat} {k:BT α->Bool},d4t t i y k=AB-> ∃t',(∃x,t.get? i=AG x)/\(∀j,t'.get? j=if j=i then AG y else t.get? j)/\k t'=AB:=by
 induction t with
 |leaf=>intro i k h;exact absurd h AA
 |node v l r il ir=>
  intro i k h;cases i with
  |zero=>exact⟨.node y l r,⟨v,rfl⟩,fun j=>by cases j<;>simp[BT.get?],h⟩
  |succ j=>
   have h': @Ae (fun _=>Bool) (d4t l (AN j 2) y fun l'=>k (.node v l' r)) (fun _ _=>d4t r (AN j 2) y fun r'=>k (.node v l r')) (AQ j 2)=AB:=h;have e1:AQ j 2=j % 2:=rfl;have e2:AN j 2=j/2:=rfl;rw[e1] at h';simp only[BT.get?];cases e:j % 2 with
   |zero=>
    rw[e] at h';rw[if_pos rfl];obtain⟨l',h1,h2,h3⟩:=il h';refine⟨_,h1,fun j'=> ?_,h3⟩;cases j' with
    |zero=>simp[BT.get?]
    |succ j'=>
     simp only[BT.get?,h2,e2];by_cases c:j' % 2=0
     ·rw[if_pos c,if_pos c];by_cases d:j'=j
      ·subst d;simp
      ·rw[if_neg (by omega),if_neg (by omega)]
     ·rw[if_neg c,if_neg c,if_neg (fun d=>c (by have:j'=j:=by omega
                                                rw[this];exact e))]
   |succ m=>
    rw[e] at h';rw[if_neg (by omega)];obtain⟨r',h1,h2,h3⟩:=ir h';refine⟨_,h1,fun j'=> ?_,h3⟩;cases j' with
    |zero=>simp[BT.get?]
    |succ j'=>
     simp only[BT.get?,h2,e2];by_cases c:j' % 2=0
     ·rw[if_pos c,if_pos c,if_neg (by omega)]
     ·rw[if_neg c,if_neg c];by_cases d:j'=j
      ·subst d;simp
      ·rw[if_neg (by omega),if_neg (by omega)]
theorem d3k {t:BT α}{y:α}: ∀{i:Nat} {k:BT α->Bool},d1i t i y k=AB-> ∃t',(∀j,t'.get? j=if j=i then AG y else t.get? j)/\k t'=AB:=by
 induction t with
 |leaf=>
  intro i k h;cases i with
  |zero=>exact⟨_,fun j=>by cases j<;>simp[BT.get?],h⟩
  |succ i=>exact absurd h AA
 |node v l r il ir=>
  intro i k h;cases i with
  |zero=>exact absurd h AA
  |succ j=>
   have h': @Ae (fun _=>Bool) (d1i l (AN j 2) y fun l'=>k (.node v l' r)) (fun _ _=>d1i r (AN j 2) y fun r'=>k (.node v l r')) (AQ j 2)=AB:=h;have e1:AQ j 2=j % 2:=rfl;have e2:AN j 2=j/2:=rfl;rw[e1] at h';cases e:j % 2 with
   |zero=>
    rw[e] at h';obtain⟨l',h2,h3⟩:=il h';refine⟨_,fun j'=> ?_,h3⟩;cases j' with
    |zero=>simp[BT.get?]
    |succ j'=>
     simp only[BT.get?,h2,e2];by_cases c:j' % 2=0
     ·rw[if_pos c,if_pos c];by_cases d:j'=j
      ·subst d;simp
      ·rw[if_neg (by omega),if_neg (by omega)]
     ·rw[if_neg c,if_neg c,if_neg (by omega)]
   |succ m=>
    rw[e] at h';obtain⟨r',h2,h3⟩:=ir h';refine⟨_,fun j'=> ?_,h3⟩;cases j' with
    |zero=>simp[BT.get?]
    |succ j'=>
     simp only[BT.get?,h2,e2];by_cases c:j' % 2=0
     ·rw[if_pos c,if_pos c,if_neg (by omega)]
     ·rw[if_neg c,if_neg c];by_cases d:j'=j
      ·subst d;simp
      ·rw[if_neg (by omega),if_neg (by omega)]
theorem d7r {x:α}: ∀{d n i:Nat} {v:α},(mkT x d n).get? i=AG v->i<n/\v=x:=by
 intro d
 induction d with
 |zero=>intro n i v h;simp[mkT,BT.get?] at h
 |succ d ih=>
  intro n i v h;cases n with
  |zero=>simp[mkT,BT.get?] at h
  |succ j=>
   have e:mkT x (d+1) (j+1)= .node x (mkT x d ((j+1)/2)) (mkT x d (j/2)):=rfl;rw[e] at h;cases i with
   |zero=>simp[BT.get?] at h;exact⟨by omega,h.symm⟩
   |succ i=>
    simp only[BT.get?] at h;split at h
    ·obtain⟨h1,h2⟩:=ih h;exact⟨by omega,h2⟩
    ·obtain⟨h1,h2⟩:=ih h;exact⟨by omega,h2⟩
theorem a5k {l:List α}: ∀{i:Nat} {k:α->Bool},d2f k l i=AB-> ∃x,l[i]? =AG x/\k x=AB:=by
 induction l with
 |nil=>intro i k h;exact absurd h AA
 |cons x l ih=>
  intro i k h;cases i with
  |zero=>exact⟨x,rfl,h⟩
  |succ i=>obtain⟨y,h1,h2⟩:=ih h;exact⟨y,by simpa using h1,h2⟩
theorem c0d {l:List α}{y:α}: ∀{i:Nat} {k:List α->Bool},e6b l i y k=AB->i<l.length/\k (l.set i y)=AB:=by
 induction l with
 |nil=>intro i k h;exact absurd h AA
 |cons x l ih=>
  intro i k h;cases i with
  |zero=>exact⟨by simp,h⟩
  |succ i=>obtain⟨h1,h2⟩:=ih h;exact⟨by simpa using h1,by simpa using h2⟩
theorem b4l (f:α->β){l:List α}: ∀{i n:Nat} {k:List α->Bool},e1y l i n k=AB-> ∃c,b0o (l.map f) i n=AG (c.map f)/\k c=AB:=by
 induction l with
 |nil=>
  intro i n k h;cases i with
  |zero=>
   cases n with
   |zero=>exact⟨[],rfl,h⟩
   |succ n=>exact absurd h AA
  |succ i=>exact absurd h AA
 |cons x l ih=>
  intro i n k h;cases i with
  |zero=>
   cases n with
   |zero=>exact⟨[],rfl,h⟩
   |succ n=>obtain⟨c,h1,h2⟩:=ih (i:=0) (n:=n) h;exact⟨x::c,by simp[b0o,h1],h2⟩
  |succ i=>obtain⟨c,h1,h2⟩:=ih (i:=i) (n:=n) h;exact⟨c,by simpa [b0o] using h1,h2⟩
theorem b5j (f:α->β){l:List α}: ∀{i:Nat} {new:List α} {k:List α->Bool},e0w l i new k=AB-> ∃c,b7y (l.map f) i (new.map f)=AG (c.map f)/\k c=AB:=by
 induction l with
 |nil=>
  intro i new k h;cases i with
  |zero=>
   cases new with
   |nil=>exact⟨[],rfl,h⟩
   |cons y new=>exact absurd h AA
  |succ i=>exact absurd h AA
 |cons x l ih=>
  intro i new k h;cases i with
  |zero=>
   cases new with
   |nil=>exact⟨x::l,rfl,h⟩
   |cons y new=>obtain⟨c,h1,h2⟩:=ih (i:=0) (new:=new) h;exact⟨y::c,by simp[b7y,h1],h2⟩
  |succ i=>obtain⟨c,h1,h2⟩:=ih (i:=i) (new:=new) h;exact⟨x::c,by cases new<;>simp only[List.map_cons,List.map_nil,b7y] at h1⊢ <;>rw[h1],h2⟩
theorem a5i {l m:List α}: ∀{k:List α->Bool},d1s l m k=AB->k (l++m)=AB:=by
 induction l with
 |nil=>intro k h;exact h
 |cons x l ih=>intro k h;exact ih (k:=fun r=>k (x::r)) h
theorem a8k {l:List α}: ∀{n:Nat} {k:Nat->Bool},d7i l n k=AB->k (n+l.length)=AB:=by
 induction l with
 |nil=>intro n k h;exact h
 |cons x l ih=>intro n k h;have:=ih (n:=n+1) h;simpa [Nat.add_assoc,Nat.add_comm 1] using this
theorem a7f {l:List α}: ∀{n:Nat} {m:List α} {k:List α->Bool},b0e l n m k=AB->n<=l.length/\k (l.take n++m)=AB:=by
 induction l with
 |nil=>
  intro n m k h;cases n with
  |zero=>exact⟨by simp,h⟩
  |succ n=>exact absurd h AA
 |cons x l ih=>
  intro n m k h;cases n with
  |zero=>exact⟨by simp,h⟩
  |succ n=>obtain⟨h1,h2⟩:=ih (n:=n) h;exact⟨by simpa using h1,by simpa using h2⟩
theorem c2z {n:Nat}: ∀{l:List α} {k:List α->Bool},c0s l n k=AB->k (l.drop n)=AB:=by
 induction n with
 |zero=>intro l k h;simpa [c0s] using h
 |succ n ih=>
  intro l k h;cases l with
  |nil=>simpa [c0s] using h
  |cons x l=>simp only[c0s] at h;simpa using ih h
theorem b1q {x:α}{n:Nat}: ∀{k:List α->Bool},d9p x n k=AB->k (AZ n x)=AB:=by
 induction n with
 |zero=>intro k h;exact h
 |succ n ih=>intro k h;exact ih (k:=fun r=>k (x::r)) h
theorem b9z {l:List α}: ∀{i m:Nat} {new:List α} {k:List α->Bool},c5x l i m new k=AB->i+m<=l.length/\m<=new.length/\k (l.take i++new.take m++l.drop (i+m))=AB:=by
 induction l with
 |nil=>
  intro i m new k h;cases i with
  |zero=>
   cases m with
   |zero=>simp[c5x] at h;simpa using h
   |succ m=>simp[c5x,xf] at h
  |succ i=>simp[c5x,xf] at h
 |cons x l ih=>
  intro i m new k h;cases i with
  |zero=>
   cases m with
   |zero=>simp only[c5x] at h;simpa using h
   |succ m=>
    cases new with
    |nil=>simp[c5x,xf] at h
    |cons y new=>simp only[c5x] at h;obtain⟨h1,h2,h3⟩:=ih h;refine⟨by simp at h1⊢;omega,by simp at h2⊢;omega,?_⟩;simpa using h3
  |succ i=>
   simp only[c5x] at h;obtain⟨h1,h2,h3⟩:=ih h;refine⟨by simp at h1⊢;omega,h2,?_⟩;have e:i+1+m=(i+m)+1:=by omega
   rw[e];simpa using h3
end
theorem a3j (n:Nat)(k:Nat->Bool):fN n k=k n:=by cases n<;>rfl
theorem b5a (n:Int)(k:Int->Bool):fI n k=k n:=by cases n<;>simp[fI,a3j]
theorem c4k (b:Bool)(k:Bool->Bool):fB b k=k b:=by cases b<;>rfl
theorem a0e {c k:Bool}(h:a0w c k=AB):c=AB/\k=AB:=by
 cases c with
 |false=>exact absurd h AA
 |true=>exact⟨rfl,h⟩
theorem b2c (a b:Int):xlt a b=decide (a<b):=by
 have hb: ∀m n:Nat,Ai m n=decide (m<n):=fun m n=>by rw[AY,decide_eq_true_eq];exact Iff.of_eq Ah
 cases a with
 |ofNat a=>
  cases b with
  |ofNat b=>simp only[xlt,hb];exact decide_eq_decide.2 (by simp only[AD];omega)
  |negSucc b=>simp only[xlt];exact (decide_eq_false (by simp only[AD];omega)).symm
 |negSucc a=>
  cases b with
  |ofNat b=>simp only[xlt];exact (decide_eq_true (by simp only[AD];omega)).symm
  |negSucc b=>simp only[xlt,hb];exact decide_eq_decide.2 (by omega)
theorem c6m (a b:Int):xle a b=decide (a<=b):=by
 rw[xle,b2c];by_cases h:b<a
 ·rw[decide_eq_true h,decide_eq_false (by omega)];rfl
 ·rw[decide_eq_false h,decide_eq_true (by omega)];rfl
theorem a6m (a b:Int):xeq a b=decide (a=b):=by
 have hb: ∀m n:Nat,AK m n=decide (m=n):=fun m n=>by rw[AY,decide_eq_true_eq];exact Iff.of_eq Nat.beq_eq
 cases a with
 |ofNat a=>
  cases b with
  |ofNat b=>simp only[xeq,hb];exact decide_eq_decide.2 (by simp only[AD];omega)
  |negSucc b=>simp only[xeq];exact (decide_eq_false (by simp only[AD];omega)).symm
 |negSucc a=>
  cases b with
  |ofNat b=>simp only[xeq];exact (decide_eq_false (by simp only[AD];omega)).symm
  |negSucc b=>simp only[xeq,hb];exact decide_eq_decide.2 (by omega)
theorem a3y {a b:AM}(h:kEq a b=AB):a=b:=by
 cases a<;>cases b<;>first|rfl|(exact absurd h (by decide))
def Sd (P:Program)(S:Sig):Prop:= ∃A ro E,S=std P A ro E
theorem c6c {x:DV}{k:CD->Bool}(h:cdK x k=AB): ∃c,x=c.to/\k c=AB:=by
 cases x<;>simp only[cdK] at h
 ·exact⟨_,rfl,h⟩
 ·exact⟨_,rfl,h⟩
 ·exact⟨_,rfl,h⟩
 ·exact⟨_,rfl,h⟩
 ·exact absurd h AA
 ·exact⟨_,rfl,h⟩
theorem a5s {l:List DV}: ∀{k:List CD->Bool},c5z l k=AB-> ∃cs,l=CD.toL cs/\k cs=AB:=by
 induction l with
 |nil=>intro k h;simp only[c5z] at h;exact⟨[],rfl,h⟩
 |cons x l ih=>intro k h;simp only[c5z] at h;obtain⟨c,h1,h2⟩:=c6c h;obtain⟨cs,h3,h4⟩:=ih h2;exact⟨c::cs,by rw[h1,h3];rfl,h4⟩
theorem d6h {l:List AV}: ∀{k:List CA->Bool},e1i l k=AB-> ∃cs,l=CA.toL cs/\k cs=AB:=by
 induction l with
 |nil=>intro k h;simp only[e1i] at h;exact⟨[],rfl,h⟩
 |cons x l ih=>
  intro k h;simp only[e1i] at h;cases x with
  |d x=>simp only at h;obtain⟨c,h1,h2⟩:=c6c h;obtain⟨cs,h3,h4⟩:=ih h2;exact⟨.d c::cs,by rw[h1,h3];rfl,h4⟩
  |_=>exact absurd h AA
theorem d0c {x:AV}{k:CA->Bool}(h:caK x k=AB): ∃c,x=c.to/\k c=AB:=by
 unfold caK at h;split at h
 ·obtain⟨c,h1,h2⟩:=c6c h;exact⟨.d c,by rw[h1];rfl,h2⟩
 ·obtain⟨c,h1,h2⟩:=d6h h;exact⟨.agg c,by rw[h1];rfl,h2⟩
 ·exact⟨.fn _ [] [],rfl,h⟩
 ·exact absurd h AA
section
variable {P:Program} {t:TS} {ts:List AV} {h:CH} {hl:List a0f}
theorem RT.get (r:RT t ts){i:Nat}{k:CA->Bool}(h:c8b t i k=AB): ∃v,a1a ts i=AG v.to/\k v=AB:=by obtain⟨v,h1,h2⟩:=c9d h;exact⟨v,by rw[a0i];exact r i v h1,h2⟩
theorem RT.set (r:RT t ts){i:Nat}{y:CA}{k:TS->Bool}(h:d4t t i y k=AB): ∃t',RT t' (a2x ts i y.to)/\k t'=AB:=by
 obtain⟨t',⟨x,h1⟩,h2,h3⟩:=b9h h;refine⟨t',fun j v hj=> ?_,h3⟩;have hlt:=(AE.1 (r i x h1)).1;rw[h2] at hj;rw[a0l];split at hj
 ·rename_i e;subst e;cases hj;simp[hlt]
 ·rename_i e;rw[AL (Ne.symm e)];exact r j v hj
theorem a0d (r:RT t ts){o:a0h}{k:CA->Bool}(h:a1j t o k=AB): ∃v,opd ts o=v.to/\k v=AB:=by
 cases o with
 |t i=>obtain⟨v,h1,h2⟩:=r.get (i:=i) h;exact⟨v,by simp only[opd,h1],h2⟩
 |c v=>obtain⟨c,h1,h2⟩:=d0c (x:=v) h;exact⟨c,h1,h2⟩
theorem b0d (r:RT t ts){l:List a0h}: ∀{k:List CA->Bool},c4f t l k=AB-> ∃vs,b2j ts l=CA.toL vs/\k vs=AB:=by
 induction l with
 |nil=>intro k h;exact⟨[],rfl,h⟩
 |cons x l ih=>intro k h;obtain⟨v,h1,h⟩:=a0d r (o:=x) (k:=fun x=>c4f t l fun l=>k (x::l)) h;obtain⟨vs,h2,h⟩:=ih h;exact⟨v::vs,by simp only[b2j,CA.toL,h1,h2],h⟩
theorem RH.gets (r:RH P h hl){l:Nat}{k:b0h->Bool}(hk:h.get l k=AB): ∃o ao,a1a hl l=AG ao/\o.R P ao/\k o=AB:=by obtain⟨n,t⟩:=h;obtain⟨o,h1,h2⟩:=c9d (t:=t) hk;obtain⟨ao,h3,h4⟩:=r.get l o h1;exact⟨o,ao,by rw[a0i];exact h3,h4,h2⟩
theorem RH.sets (r:RH P h hl){l:Nat}{o:b0h}{k:CH->Bool}(hk:h.set l o k=AB): ∃h',k h'=AB/\ ∀ao,o.R P ao->RH P h' (a2x hl l ao):=by
 obtain⟨n,t⟩:=h;obtain⟨t',⟨x,h1⟩,h2,h3⟩:=b9h (t:=t) hk;obtain⟨ao0,h4,_⟩:=r.get l x h1;have hlt:=(AE.1 h4).1;refine⟨⟨n,t'⟩,h3,fun ao hao=>⟨by rw[a0l,List.length_set];exact r.len,fun j o' hj=> ?_⟩⟩;rw[h2] at hj;rw[a0l];split at hj
 ·rename_i e;subst e;cases hj;exact⟨ao,by simp[hlt],hao⟩
 ·rename_i e;rw[AL (Ne.symm e)];exact r.get j o' hj
theorem RH.adds (r:RH P h hl){o:b0h}{k:Nat->CH->Bool}(hk:h.add o k=AB): ∃h',k (a3q hl) h'=AB/\ ∀ao,o.R P ao->RH P h' (a2u hl [ao]):=by
 obtain⟨n,t⟩:=h;have hn:n=hl.length:=r.len;obtain⟨t',h2,h3⟩:=d3k (t:=t) (k:=fun t=>fN (Nat.succ n) fun m=>k n ⟨m,t⟩) hk;rw[a3j] at h3;refine⟨_,by rw[a0u,<-hn];exact h3,fun ao hao=>⟨by rw[a0r];simp[hn],fun j o' hj=> ?_⟩⟩;simp only[h2] at hj;rw[a0r];split at hj
 ·rename_i e;subst e;cases hj;exact⟨ao,by simp[hn],hao⟩
 ·obtain⟨ao',h4,h5⟩:=r.get j o' hj;exact⟨ao',by rw[AF (AE.1 h4).1];exact h4,h5⟩
theorem RH.nums (r:RH P h hl){k:Nat->Bool}(hk:h.num k=AB):k (a3q hl)=AB:=by obtain⟨n,t⟩:=h;have hn:n=hl.length:=r.len;rw[a0u,<-hn];exact hk
theorem CA.cells_to (v:CA):v.to.cells=CA.toL v.cells:=by cases v<;>rfl
theorem CA.one_to (v:CA):v.to.one=v.one:=by cases v<;>rfl
theorem a5x {vs:List CA}{k:Unit->Bool}(h:b6d vs k=AB):b5z (CA.toL vs)=AB/\k ()=AB:=by
 induction vs with
 |nil=>exact⟨rfl,h⟩
 |cons v l ih=>
  have h': @Bool.rec (fun _=>Bool) (xf 12) (b6d l k) v.one=AB:=h;cases e:v.one with
  |false=>rw[e] at h';exact absurd h' AA
  |true=>rw[e] at h';simp only[CA.toL,b5z,CA.one_to,e];exact ih h'
theorem CA.toL_len (l:List CA):(CA.toL l).length=l.length:=by rw[CA.toL_eq];simp
theorem b1o {l:List CA}: ∀{k:List CD->Bool},d6i l k=AB-> ∃ds,dvs (CA.toL l)=AG (CD.toL ds)/\k ds=AB:=by
 induction l with
 |nil=>intro k h;exact⟨[],rfl,h⟩
 |cons x l ih=>
  intro k h;have h':onD x (fun x=>d6i l fun l=>k (x::l))=AB:=h;cases x with
  |d x=>obtain⟨ds,h1,h2⟩:=ih (k:=fun l=>k (x::l)) h';exact⟨x::ds,by simp only[CA.toL,CA.to,dvs,h1,CD.toL],h2⟩
  |fn f us cs=>
   cases us with
   |cons _ _=>exact absurd h' AA
   |nil=>
    cases cs with
    |cons _ _=>exact absurd h' AA
    |nil=>obtain⟨ds,h1,h2⟩:=ih (k:=fun l=>k (.raw (.func (.func f) #[] #[])::l)) h';exact⟨.raw (.func (.func f) #[] #[])::ds,by simp only[CA.toL,CA.to,dvs,h1,CD.toL,CD.to],h2⟩
  |_=>exact absurd h' AA
theorem c4e {l:List CD}: ∀{k:List CA->Bool},dL l k=AB-> ∃cs,b3y .d (CD.toL l)=CA.toL cs/\k cs=AB:=by
 induction l with
 |nil=>intro k h;exact⟨[],rfl,h⟩
 |cons x l ih=>intro k h;obtain⟨cs,h1,h2⟩:=ih (k:=fun l=>k (.d x::l)) h;exact⟨.d x::cs,by simp only[CD.toL,b3y,CA.toL,CA.to,h1],h2⟩
theorem d4d {l:List CD}: ∀{k:List (List CD)->Bool},d3q l k=AB-> ∃rs,b3y (fun x=>[x]) (CD.toL l)=CD.toR rs/\k rs=AB:=by
 induction l with
 |nil=>intro k h;exact⟨[],rfl,h⟩
 |cons x l ih=>intro k h;simp only[d3q] at h;obtain⟨cs,h1,h2⟩:=ih h;exact⟨[x]::cs,by simp only[CD.toL,b3y,CD.toR,h1],h2⟩
theorem b3q (rows:List (List DV))(s:Nat):rowAt (rows.drop s)=fun j=>rowAt rows (s+j):=by funext j;rw[a1k,a1k,AU]
theorem c9i (e e2:List (List DV))(n:Nat)(hn:n<=e.length):rowAt (e.take n++e2)=fun j=>if j<n then rowAt e j else rowAt e2 (j-n):=by
 funext j;have hl:(e.take n).length=n:=by simp[hn]
 by_cases c:j<n
 ·rw[if_pos c,a1k,a1k,AF (by omega),AJ c]
 ·rw[if_neg c,a1k,a1k,AI (by omega),hl]
theorem c8z (e new:List (List DV))(i m:Nat)(h1:i+m<=e.length)(h2:m<=new.length):
 rowAt (e.take i++new.take m++e.drop (i+m))=fun j=>if i<=j/\j<i+m then rowAt new (j-i) else rowAt e j:=by
 funext j;have hl1:(e.take i).length=i:=by simp;omega
 have hl2:(new.take m).length=m:=by simp[h2]
 rw[a1k,a1k,a1k];by_cases c1:j<i
 ·rw[if_neg (by omega),AX,AF (by omega),AJ c1]
 ·by_cases c2:j<i+m
  ·rw[if_pos ⟨by omega,c2⟩,AX,AI (by omega),hl1,AF (by omega),AJ (by omega)]
  ·rw[if_neg (by omega),AI (by simp;omega),AU];congr 2;simp;omega
theorem d0k (x:List DV)(n:Nat):rowAt (AZ n x)=fun i=>if i<n then x else []:=by funext j;rw[a1k,List.getElem?_replicate];split<;>rfl
theorem c6p (e:List (List DV))(i:Nat)(r:List DV)(h:i<e.length):rowAt (e.set i r)=fun j=>if j=i then r else rowAt e j:=by
 funext j;rw[a1k,a1k];by_cases c:j=i
 ·subst c;simp[h]
 ·rw[if_neg c,AL (Ne.symm c)]
theorem a6x {A:Ann}{ro:Option Nat}{E:Ent}{s:Option Nat}{n:Nat}{k:Nat->Bool}(h:d3i s n k=AB):k (c8f (std P A ro E) s n)=AB:=by
 cases s with
 |none=>exact h
 |some s=>simp only[d3i,a3j] at h;exact h
theorem c2i {A:Ann}{ro:Option Nat}{E:Ent}{rows:List (List CD)}{s:Option Nat}{k:List (List CD)->Bool}(h:d7x rows s k=AB):
 ∃rs,k rs=AB/\rowAt (CD.toR rs)=b8h (std P A ro E) (rowAt (CD.toR rows)) s:=by
 cases s with
 |none=>exact⟨rows,h,rfl⟩
 |some s=>have h1:=c2z (n:=s) h;refine⟨_,h1,?_⟩;rw[CD.toR_eq,Ab,b3q,<-CD.toR_eq];rfl
theorem b0k (r:RH P h hl){v:CA}{k:Nat->Nat->List (List CD)->Bool}(hk:c4l h v k=AB):
 ∃sz n rows,k sz n rows=AB/\ ∀S,Sd P S-> ∀K:Nat->Nat->(Nat->List DV)->Prop,K sz n (rowAt (CD.toR rows))->b3s S hl v.to K:=by
 unfold c4l at hk;split at hk
 ·exact⟨_,_,_,hk,fun S _ K hK=>hK⟩
 ·exact⟨_,_,_,hk,fun S _ K hK=>hK⟩
 ·rename_i l sz s n f;obtain⟨o,ao,h1,h2,hk⟩:=r.gets hk;cases o with
  |arr sz' m e=>cases h2;obtain⟨hb,hk⟩:=a0e hk;have hk:=a6x (P:=P) (A:={}) (ro:=AW) (E:=⟨default,fun _=>False,a2j,0,[]⟩) hk;obtain⟨hc,hk⟩:=a0e hk;obtain⟨rs,hk,he⟩:=c2i (P:=P) (A:={}) (ro:=AW) (E:=⟨default,fun _=>False,a2j,0,[]⟩) hk;refine⟨_,_,_,hk,?_⟩;rintro S ⟨A,ro,E,rfl⟩ K hK;simp only[CA.to,b3s,h1,hb,if_true];exact And.intro (AC hc) (by rw[he] at hK;exact hK)
  |frz sz' m e=>cases h2;obtain⟨hb,hk⟩:=a0e hk;have hk:=a6x (P:=P) (A:={}) (ro:=AW) (E:=⟨default,fun _=>False,a2j,0,[]⟩) hk;obtain⟨hc,hk⟩:=a0e hk;obtain⟨rs,hk,he⟩:=c2i (P:=P) (A:={}) (ro:=AW) (E:=⟨default,fun _=>False,a2j,0,[]⟩) hk;refine⟨_,_,_,hk,?_⟩;rintro S ⟨A,ro,E,rfl⟩ K hK;simp only[CA.to,b3s,h1,hb,if_true];exact And.intro (AC hc) (by rw[he] at hK;exact hK)
  |_=>exact absurd hk AA
 ·exact absurd hk AA
end
section
variable {P:Program} {t:TS} {ts:List AV} {h:CH} {hl:List a0f}
theorem c3c (r:RH P h hl){v:CA}{k:CA->Bool}(hk:d1c h v k=AB): ∃v',k v'=AB/\ ∀S,Sd P S-> ∀K:AV->Prop,K v'.to->c7s S hl v.to K:=by
 unfold d1c at hk;split at hk
 ·rename_i l off n;obtain⟨o,ao,h1,h2,hk⟩:=r.gets hk;cases o with
  |var cs=>cases h2;obtain⟨c,h3,hk⟩:=b4l CA.to hk;obtain⟨ds,h4,hk⟩:=b1o hk;obtain⟨rs,h5,hk⟩:=d4d hk;refine⟨_,hk,fun S _ K hK=> ?_⟩;simp only[CA.to,c7s,h1];rw[CA.toL_eq,h3,<-CA.toL_eq];simp only[h4,h5];exact hK
  |_=>exact absurd hk AA
 ·obtain⟨sz,n,rows,hk,hv⟩:=b0k r hk;exact⟨_,hk,fun S hS K hK=>hv S hS (fun sz n e=>K (.d (.sl sz n e))) hK⟩
 ·exact⟨_,hk,fun S _ K hK=>hK⟩
 ·rename_i h1 h2 h3;refine⟨_,hk,fun S _ K hK=> ?_⟩;cases v<;>first|exact hK|exact absurd rfl (h1 _ _ _)|exact absurd rfl (h2 _ _ _ _ _)|exact absurd rfl (h3 _ _ _)
theorem c6e (r:RH P h hl){vs:List CA}: ∀{k:List CA->Bool},b7o h vs k=AB-> ∃vs',k vs'=AB/\ ∀S,Sd P S-> ∀K:List AV->Prop,K (CA.toL vs')->c5a S hl (CA.toL vs) K:=by
 induction vs with
 |nil=>intro k hk;simp only[b7o] at hk;exact⟨[],hk,fun S _ K hK=>hK⟩
 |cons v vs ih=>intro k hk;simp only[b7o] at hk;obtain⟨v',hk,h1⟩:=c3c r hk;obtain⟨vs',hk,h2⟩:=ih hk;exact⟨v'::vs',hk,fun S hS K hK=>h1 S hS _ (h2 S hS _ hK)⟩
theorem c3x {S:Sig}{v:AV}{vs:List AV}{K:List AV->Prop}(hv: ∀cs,v≠ .agg cs)(h:c7s S hl v fun v'=>b0n S hl vs fun r'=>K (v'::r')):b0n S hl (v::vs) K:=by
 cases v<;>first|exact h|exact absurd rfl (hv _)
theorem d0b (r:RH P h hl){vs:List CA}: ∀{k:List CA->Bool},b3p h vs k=AB-> ∃vs',k vs'=AB/\ ∀S,Sd P S-> ∀K:List AV->Prop,K (CA.toL vs')->b0n S hl (CA.toL vs) K:=by
 induction vs with
 |nil=>intro k hk;simp only[b3p] at hk;exact⟨[],hk,fun S _ K hK=>hK⟩
 |cons v vs ih=>
  intro k hk;simp only[b3p] at hk;split at hk
  ·obtain⟨cs',hk,h1⟩:=c6e r hk;obtain⟨vs',hk,h2⟩:=ih hk;exact⟨.agg cs'::vs',hk,fun S hS K hK=>h1 S hS _ (h2 S hS _ hK)⟩
  ·rename_i hne;obtain⟨v',hk,h1⟩:=c3c r hk;obtain⟨vs',hk,h2⟩:=ih hk;refine⟨v'::vs',hk,fun S hS K hK=>c3x (fun cs e=> ?_) (h1 S hS _ (h2 S hS _ hK))⟩;cases v<;>first|exact (hne _ rfl).elim|cases e
theorem a9h (r:RH P h hl){v:CA}{k:CA->CH->Bool}(hk:b0r h v k=AB):
 ∃v' h' hl',k v' h'=AB/\RH P h' hl'/\ ∀S,Sd P S-> ∀K:AV->List a0f->Prop,K v'.to hl'->a2m S hl v.to K:=by
 unfold b0r at hk;split at hk
 ·rename_i l sz s n f;obtain⟨sz',n',rows,hk,hv⟩:=b0k r hk;obtain⟨o,ao,h1,h2,hk⟩:=r.gets hk;cases o with
  |arr sz'' m e=>cases h2;obtain⟨h',hk,hr⟩:=r.sets hk;refine⟨_,_,_,hk,hr (.frz sz'' m (rowAt (CD.toR e))) rfl,fun S hS K hK=> ?_⟩;simp only[CA.to,a2m];refine hv S hS _ ?_;simp only[h1];exact hK
  |var cs=>cases h2;refine⟨_,_,_,hk,r,fun S hS K hK=> ?_⟩;simp only[CA.to,a2m];refine hv S hS _ ?_;simp only[h1];exact hK
  |frz a b c=>cases h2;refine⟨_,_,_,hk,r,fun S hS K hK=> ?_⟩;simp only[CA.to,a2m];refine hv S hS _ ?_;simp only[h1];exact hK
  |map a b c d=>cases h2;refine⟨_,_,_,hk,r,fun S hS K hK=> ?_⟩;simp only[CA.to,a2m];refine hv S hS _ ?_;simp only[h1];exact hK
  |mapv a b c d=>cases h2;refine⟨_,_,_,hk,r,fun S hS K hK=> ?_⟩;simp only[CA.to,a2m];refine hv S hS _ ?_;simp only[h1];exact hK
  |loop a b c d e f=>obtain⟨_,_,rfl⟩:=h2;refine⟨_,_,_,hk,r,fun S hS K hK=> ?_⟩;simp only[CA.to,a2m];refine hv S hS _ ?_;simp only[h1];exact hK
  |gone=>cases h2;refine⟨_,_,_,hk,r,fun S hS K hK=> ?_⟩;simp only[CA.to,a2m];refine hv S hS _ ?_;simp only[h1];exact hK
 ·exact⟨_,_,_,hk,r,fun S _ K hK=>hK⟩
 ·rename_i h2 h3;refine⟨_,_,_,hk,r,fun S _ K hK=> ?_⟩;cases v<;>first|exact hK|exact absurd rfl (h2 _ _ _ _ _)|exact absurd rfl (h3 _ _ _)
theorem a3r {vs:List CA}: ∀{h:CH} {hl:List a0f} (_:RH P h hl) {k:List CA->CH->Bool},a3l h vs k=AB->
 ∃vs' h' hl',k vs' h'=AB/\RH P h' hl'/\ ∀S,Sd P S-> ∀K:List AV->List a0f->Prop,K (CA.toL vs') hl'->a3t S hl (CA.toL vs) K:=by
 induction vs with
 |nil=>intro h hl r k hk;simp only[a3l] at hk;exact⟨[],_,_,hk,r,fun S _ K hK=>hK⟩
 |cons v vs ih=>intro h hl r k hk;simp only[a3l] at hk;obtain⟨v',h',hl',hk,r',h1⟩:=a9h r hk;obtain⟨vs',h'',hl'',hk,r'',h2⟩:=ih r' hk;exact⟨v'::vs',_,_,hk,r'',fun S hS K hK=>h1 S hS _ (h2 S hS _ hK)⟩
theorem a7x (r:RH P h hl){l:Nat}{k:CA->CH->Bool}(hk:a6a h l k=AB):
 ∃v' h' hl',k v' h'=AB/\RH P h' hl'/\ ∀S,Sd P S-> ∀K:AV->List a0f->Prop,K v'.to hl'->a2p S hl l K:=by
 unfold a6a at hk;obtain⟨o,ao,h1,h2,hk⟩:=r.gets hk;cases o with
 |var cs=>cases h2;obtain⟨cs',h',hl',hk,r',h3⟩:=a3r r hk;obtain⟨ds,h4,hk⟩:=b1o hk;obtain⟨h'',hk,hr⟩:=r'.sets hk;refine⟨_,_,_,hk,hr .gone rfl,fun S hS K hK=> ?_⟩;simp only[a2p,h1];refine h3 S hS _ ?_;simp only[h4];exact hK
 |_=>exact absurd hk AA
theorem b6e {S:Sig}{v:AV}{vs:List AV}{K:List AV->List a0f->Prop}(hv: ∀cs,v≠ .agg cs)(hp: ∀l,v≠ .ptr l 0)(h:a2m S hl v fun v' h'=>a1w S h' vs fun r' h''=>K (v'::r') h''):a1w S hl (v::vs) K:=by
 cases v
 case ptr l off=>
  cases off with
  |zero=>exact absurd rfl (hp l)
  |succ off=>exact h
 all_goals first|exact h|exact absurd rfl (hv _)
theorem b2g {vs:List CA}: ∀{h:CH} {hl:List a0f} (_:RH P h hl) {k:List CA->CH->Bool},a3k h vs k=AB->
 ∃vs' h' hl',k vs' h'=AB/\RH P h' hl'/\ ∀S,Sd P S-> ∀K:List AV->List a0f->Prop,K (CA.toL vs') hl'->a1w S hl (CA.toL vs) K:=by
 induction vs with
 |nil=>intro h hl r k hk;simp only[a3k] at hk;exact⟨[],_,_,hk,r,fun S _ K hK=>hK⟩
 |cons v vs ih=>
  intro h hl r k hk;simp only[a3k] at hk;split at hk
  ·obtain⟨cs',h',hl',hk,r',h1⟩:=a3r r hk;obtain⟨vs',h'',hl'',hk,r'',h2⟩:=ih r' hk;exact⟨.agg cs'::vs',_,_,hk,r'',fun S hS K hK=>h1 S hS _ (h2 S hS _ hK)⟩
  ·obtain⟨v',h',hl',hk,r',h1⟩:=a7x r hk;obtain⟨vs',h'',hl'',hk,r'',h2⟩:=ih r' hk;exact⟨v'::vs',_,_,hk,r'',fun S hS K hK=>h1 S hS _ (h2 S hS _ hK)⟩
  ·rename_i hne hne2;obtain⟨v',h',hl',hk,r',h1⟩:=a9h r hk;obtain⟨vs',h'',hl'',hk,r'',h2⟩:=ih r' hk;refine⟨v'::vs',_,_,hk,r'',fun S hS K hK=>b6e (fun cs e=> ?_) (fun l e=> ?_) (h1 S hS _ (h2 S hS _ hK))⟩
   ·cases v<;>first|exact (hne _ rfl).elim|cases e
   ·cases v<;>first|(simp only[CA.to,AV.ptr.injEq] at e;obtain⟨rfl,rfl⟩:=e;exact (hne2 _ rfl).elim)|cases e
theorem c4s (r:RH P h hl){v:CA}{k:List CD->CH->Bool}(hk:b9i h v k=AB):
 ∃ds h' hl',k ds h'=AB/\RH P h' hl'/\ ∀S,Sd P S-> ∀K:List DV->List a0f->Prop,K (CD.toL ds) hl'->b0p S hl v.to K:=by
 unfold b9i at hk;obtain⟨vs',h',hl',hk,r',h1⟩:=a3r r hk;obtain⟨ds,h2,hk⟩:=b1o hk;refine⟨ds,h',hl',hk,r',fun S hS K hK=> ?_⟩;unfold b0p;rw[CA.cells_to];refine h1 S hS _ ?_;simp only[h2];exact hK
theorem b9a {rs:List (List CA)}: ∀{h:CH} {hl:List a0f} (_:RH P h hl) {k:List (List CD)->CH->Bool},a7s h rs k=AB->
 ∃ds h' hl',k ds h'=AB/\RH P h' hl'/\ ∀S,Sd P S-> ∀K:List (List DV)->List a0f->Prop,K (CD.toR ds) hl'->a4s S hl (rs.map CA.toL) K:=by
 induction rs with
 |nil=>intro h hl r k hk;simp only[a7s] at hk;exact⟨[],_,_,hk,r,fun S _ K hK=>hK⟩
 |cons v vs ih=>intro h hl r k hk;simp only[a7s] at hk;obtain⟨v',h',hl',hk,r',h1⟩:=a3r r hk;obtain⟨ds,h2,hk⟩:=b1o hk;obtain⟨vs',h'',hl'',hk,r'',h3⟩:=ih r' hk;refine⟨ds::vs',_,_,hk,r'',fun S hS K hK=>h1 S hS _ ?_⟩;simp only[h2];exact h3 S hS _ hK
theorem a9a {k:AM}{x:Int}(h:d3z k x=AB):k.wrap x=x:=by
 have gen: ∀k:AM,xeq (k.wrap x) x=AB->k.wrap x=x:=fun k h=>by rw[a6m] at h;exact of_decide_eq_true h
 cases k with
 |i64=>
  have hx: -9223372036854775808<=x/\x<9223372036854775808:=by
   cases x with
   |ofNat n=>have h1:n<9223372036854775808:=AC h;simp only[AD];omega
   |negSucc n=>have h1:n<9223372036854775808:=AC h;omega
  have e1:(2:Int)^64=18446744073709551616:=by decide
  have e2:(2:Int)^(64-1)=9223372036854775808:=by decide
  simp only[IntKind.wrap,IntKind.bits,IntKind.signed,e1,e2,Bool.true_and,decide_eq_true_eq];split<;>omega
 |_=>exact gen _ h
end
theorem b9m (a b:Int):Int.beq' a b=decide (a=b):=by rw[Int.beq'_eq_beq];rfl
section
variable {P:Program} {t:TS} {ts:List AV} {h:CH} {hl:List a0f}
theorem d1g {op:BinOp}{kd:AM}{x y:IX}{k:CD->Bool}(hk:a8y op kd x y k=AB):
 ∃c,k c=AB/\ ∀S,Sd P S-> ∀K:DV->Prop,K c.to->d0v S op kd x y K:=by
 cases op
 case add=>
  cases x<;>cases y<;>
  ·simp only[a8y,b5a] at hk;obtain⟨h1,hk⟩:=a0e hk;refine⟨_,hk,?_⟩;rintro S ⟨A,ro,E,rfl⟩ K hK;exact And.intro (a9a h1) hK
 case sub=>
  cases x<;>cases y<;>
  ·simp only[a8y,b5a] at hk;obtain⟨h1,hk⟩:=a0e hk;refine⟨_,hk,?_⟩;rintro S ⟨A,ro,E,rfl⟩ K hK;exact And.intro (a9a h1) hK
 case mul=>
  simp only[a8y,b5a] at hk;obtain⟨h1,hk⟩:=a0e hk;refine⟨_,hk,?_⟩;rintro S ⟨A,ro,E,rfl⟩ K hK;exact And.intro (a9a h1) hK
 case quo=>
  simp only[a8y,b5a] at hk;obtain⟨h0,hk⟩:=a0e hk;obtain⟨h1,hk⟩:=a0e hk;refine⟨_,hk,?_⟩;rintro S ⟨A,ro,E,rfl⟩ K hK;rw[a6m] at h0;exact And.intro (show y.val≠0 from by simpa using h0) (And.intro (a9a h1) hK)
 case rem=>
  simp only[a8y,b5a] at hk;obtain⟨h0,hk⟩:=a0e hk;refine⟨_,hk,?_⟩;rintro S ⟨A,ro,E,rfl⟩ K hK;rw[a6m] at h0;exact And.intro (show y.val≠0 from by simpa using h0) hK
 case eql=>
  simp only[a8y,c4k] at hk;refine⟨_,hk,?_⟩;rintro S ⟨A,ro,E,rfl⟩ K hK;rw[a6m] at hK;cases x<;>cases y<;>first
   |(simp only[d0v,b9m];exact hK)
   |(simp only[d0v];exact hK)
 case neq=>
  simp only[a8y,c4k] at hk;refine⟨.bool (!(decide (x.val=y.val))),?_,?_⟩
  ·rw[<-a6m];split at hk<;>(rename_i e;rw[e];exact hk)
  rintro S ⟨A,ro,E,rfl⟩ K hK;cases x<;>cases y<;>first
   |(simp only[d0v,b9m];exact hK)
   |(simp only[d0v];exact hK)
 case lss=>
  simp only[a8y,c4k,b2c] at hk;refine⟨_,hk,?_⟩;rintro S ⟨A,ro,E,rfl⟩ K hK;exact hK
 case gtr=>
  simp only[a8y,c4k,b2c] at hk;refine⟨_,hk,?_⟩;rintro S ⟨A,ro,E,rfl⟩ K hK;exact hK
 case leq=>
  simp only[a8y,c4k,c6m] at hk;refine⟨_,hk,?_⟩;rintro S ⟨A,ro,E,rfl⟩ K hK;exact hK
 case geq=>
  simp only[a8y,c4k,c6m] at hk;refine⟨_,hk,?_⟩;rintro S ⟨A,ro,E,rfl⟩ K hK;exact hK
 all_goals exact absurd hk AA
theorem d9l {ks:List AM}: ∀{xs ys:List CA} {k:Bool->Bool},e3k ks xs ys k=AB-> ∃b,k b=AB/\ ∀S,Sd P S->d9q S ks (CA.toL xs) (CA.toL ys)=AG b:=by
 induction ks with
 |nil=>
  intro xs ys k hk;unfold e3k at hk;cases xs with
  |cons=>exact absurd hk AA
  |nil=>
   cases ys with
   |cons=>exact absurd hk AA
   |nil=>exact⟨AB,hk,fun S _=>rfl⟩
 |cons kd ks ih=>
  intro xs ys k hk;unfold e3k at hk;simp only at hk;split at hk
  ·rename_i k1 x xs;split at hk
   ·rename_i k2 y ys;obtain⟨h1,hk⟩:=a0e hk;obtain⟨h2,hk⟩:=a0e hk;obtain⟨b,hk,h3⟩:=ih hk;refine⟨decide (x.val=y.val)&&b,?_,?_⟩
    ·rw[a6m] at hk;cases e:decide (x.val=y.val)<;>rw[e] at hk<;>simpa using hk
    ·rintro S ⟨A,ro,E,rfl⟩;have e3:=h3 (std P A ro E) ⟨A,ro,E,rfl⟩;simp only[CA.toL,CA.to,CD.to,d9q,a3y h1] at e3⊢;have ek:k1=k2:=(a3y h1).symm.trans (a3y h2);subst ek;simp only[if_true,e3];rfl
   ·exact absurd hk AA
  ·exact absurd hk AA
theorem d9a (a b:Bool):g2e a b=(a==b):=by cases a<;>cases b<;>rfl
theorem d3a {ks:List CK}: ∀{xs ys:List CA} {k:Bool->Bool},c3v ks xs ys k=AB-> ∃b,k b=AB/\ ∀S,Sd P S->c6a S ks (CA.toL xs) (CA.toL ys)=AG b:=by
 induction ks with
 |nil=>
  intro xs ys k hk;unfold c3v at hk;cases xs with
  |cons=>exact absurd hk AA
  |nil=>
   cases ys with
   |cons=>exact absurd hk AA
   |nil=>exact⟨AB,hk,fun S _=>rfl⟩
 |cons kd ks ih=>
  intro xs ys k hk;unfold c3v at hk;simp only at hk;split at hk
  ·rename_i x xs;split at hk
   ·rename_i y ys;split at hk
    ·rename_i kd;split at hk
     ·rename_i k1 x;split at hk
      ·rename_i k2 y;obtain⟨h1,hk⟩:=a0e hk;obtain⟨h2,hk⟩:=a0e hk;obtain⟨b,hk,h3⟩:=ih hk;refine⟨decide (x.val=y.val)&&b,?_,?_⟩
       ·rw[a6m] at hk;cases e:decide (x.val=y.val)<;>rw[e] at hk<;>simpa using hk
       ·rintro S ⟨A,ro,E,rfl⟩;have e3:=h3 (std P A ro E) ⟨A,ro,E,rfl⟩;simp only[CA.toL,CA.to,CD.to,c6a,a3y h1] at e3⊢;have ek:k1=k2:=(a3y h1).symm.trans (a3y h2);subst ek;simp only[if_true,e3];rfl
      ·exact absurd hk AA
     ·exact absurd hk AA
    ·split at hk
     ·rename_i x;split at hk
      ·rename_i y;obtain⟨b,hk,h3⟩:=ih hk;refine⟨(x==y)&&b,?_,?_⟩
       ·rw[d9a] at hk;cases e:(x==y)<;>rw[e] at hk<;>simpa using hk
       ·rintro S ⟨A,ro,E,rfl⟩;have e3:=h3 (std P A ro E) ⟨A,ro,E,rfl⟩;simp only[CA.toL,CA.to,CD.to,c6a] at e3⊢;simp only[e3];rfl
      ·exact absurd hk AA
     ·exact absurd hk AA
   ·exact absurd hk AA
  ·exact absurd hk AA
theorem b3u {ks:List AM}: ∀{xs:List CA} {k:List KC->Bool},a8w ks xs k=AB-> ∃kc,k kc=AB/\ ∀S,Sd P S-> ∀K:List KC->Prop,K kc->a4f S ks (CA.toL xs) K:=by
 induction ks with
 |nil=>
  intro xs k hk;unfold a8w at hk;cases xs with
  |cons=>exact absurd hk AA
  |nil=>exact⟨[],hk,fun S _ K hK=>hK⟩
 |cons kd ks ih=>
  intro xs k hk;unfold a8w at hk;split at hk
  ·rename_i k1 x xs;obtain⟨h1,hk⟩:=a0e hk;obtain⟨h2,hk⟩:=a0e hk;obtain⟨kc,hk,h3⟩:=ih hk;refine⟨_,hk,?_⟩;rintro S ⟨A,ro,E,rfl⟩ K hK;simp only[CA.toL,CA.to,CD.to,a4f,a3y h1,if_true];have ek:=a3y h1;subst ek;exact And.intro (a9a h2) (h3 _ ⟨A,ro,E,rfl⟩ _ hK)
  ·exact absurd hk AA
theorem a4j {wide:Bool}{ks:List AM}{v:CA}{k:List KC->Bool}(hk:a6w wide ks v k=AB): ∃kc,k kc=AB/\ ∀S,Sd P S-> ∀K:List KC->Prop,K kc->a2z S wide ks v.to K:=by
 unfold a6w at hk;split at hk
 ·cases wide with
  |false=>exact absurd hk AA
  |true=>obtain⟨kc,hk,h1⟩:=b3u (P:=P) hk;exact⟨kc,hk,fun S hS K hK=>h1 S hS K hK⟩
 ·rename_i hne;cases wide with
  |true=>exact absurd hk AA
  |false=>
   obtain⟨kc,hk,h1⟩:=b3u (P:=P) hk;refine⟨kc,hk,fun S hS K hK=> ?_⟩;have:=h1 S hS K hK;cases v<;>first|exact this|exact (hne _ rfl).elim
theorem b1i {a:List AM}: ∀{b:List AM},d4u a b=AB->a=b:=by
 induction a with
 |nil=>intro b h;cases b with
  |nil=>rfl
  |cons=>exact absurd h AA
 |cons x a ih=>
  intro b h;cases b with
  |nil=>exact absurd h AA
  |cons y b=>
   simp only[d4u] at h;split at h
   ·rename_i e;rw[a3y e,ih h]
   ·exact absurd h AA
theorem c2y {a:List UInt8}: ∀{b:List UInt8},b6r a b=decide (a=b):=by
 induction a with
 |nil=>intro b;cases b<;>simp[b6r]
 |cons x a ih=>
  intro b;cases b with
  |nil=>simp[b6r]
  |cons y b=>
   simp only[b6r];by_cases e:x=y
   ·subst e;rw[show AK x.toNat x.toNat=AB from Af _];simp only[ih];simp
   ·have:AK x.toNat y.toNat=AP:=by rw[Bool.eq_false_iff];intro c;exact e (UInt8.toNat_inj.1 (AT c))
    rw[this];simp[e]
theorem d5m (a b:Bool):bEq a b=decide (a=b):=by cases a<;>cases b<;>rfl
theorem d2g (a b:KC):d6u a b=decide (a=b):=by cases a<;>cases b<;>simp[d6u,a6m,d5m,c2y]
theorem b2e {a:List KC}: ∀{b:List KC},d0y a b=decide (a=b):=by
 induction a with
 |nil=>intro b;cases b<;>simp[d0y]
 |cons x a ih=>
  intro b;cases b with
  |nil=>simp[d0y]
  |cons y b=>
   simp only[d0y,d2g];by_cases e:x=y
   ·simp[e,ih]
   ·simp[e]
theorem c1g {es:List (List KC×Int)}{kc:List KC}{k:Option Int->Bool}(hk:c7a es kc k=AB):k (b6n es kc)=AB:=by
 induction es with
 |nil=>exact hk
 |cons e es ih=>
  obtain⟨k',v⟩:=e;simp only[c7a,b2e] at hk;simp only[b6n];by_cases c:kc=k'
  ·rw[if_pos c];simpa [c] using hk
  ·rw[if_neg c];exact ih (by simpa [c] using hk)
theorem c9f {kc:List KC}{ks:List (List KC)}: ∀{vs:List CA} {k:Option CA->Bool},c2u kc ks vs k=AB-> ∃r,k r=AB/\b1j kc ks (CA.toL vs)=r.map CA.to:=by
 induction ks with
 |nil=>intro vs k hk;exact⟨AW,hk,by simp[b1j]⟩
 |cons k' ks ih=>
  intro vs k hk;cases vs with
  |nil=>exact⟨AW,hk,by simp[b1j,CA.toL]⟩
  |cons v vs=>
   simp only[c2u,b2e] at hk;simp only[b1j,CA.toL];by_cases c:kc=k'
   ·rw[if_pos c.symm];exact⟨AG v,by simpa [c] using hk,rfl⟩
   ·rw[if_neg (Ne.symm c)];exact ih (by simpa [c] using hk)
theorem d3g {kc:List KC}{x:CA}{ks:List (List KC)}: ∀{vs:List CA} {k:Option (List CA)->Bool},d2k kc x ks vs k=AB-> ∃r,k r=AB/\c7m kc x.to ks (CA.toL vs)=r.map CA.toL:=by
 induction ks with
 |nil=>intro vs k hk;exact⟨AW,hk,by simp[c7m]⟩
 |cons k' ks ih=>
  intro vs k hk;cases vs with
  |nil=>exact⟨AW,hk,by simp[c7m,CA.toL]⟩
  |cons v vs=>
   simp only[d2k,b2e] at hk;simp only[c7m,CA.toL];by_cases c:kc=k'
   ·rw[if_pos c.symm];exact⟨AG (x::vs),by simpa [c] using hk,rfl⟩
   ·rw[if_neg (Ne.symm c)];have hd:decide (kc=k')=AP:=by simp[c]
    rw[hd] at hk;obtain⟨r,h1,h2⟩:=ih (vs:=vs) hk;rw[h2];cases r with
    |none=>exact⟨AW,h1,rfl⟩
    |some l=>exact⟨AG (v::l),h1,rfl⟩
theorem CA.toL_get {l:List CA}{i:Nat}{v:CA}(h:l[i]? =AG v):a1a (CA.toL l) i=AG v.to:=by rw[a0i,CA.toL_eq,AH,h];rfl
theorem c9r (r:RT t ts){ps:List (Nat×Nat×a0h)}: ∀{cs:List CA} {k:List CA->Bool},c3j t cs ps k=AB-> ∃cs',b2r ts (CA.toL cs) ps=AG (CA.toL cs')/\k cs'=AB:=by
 induction ps with
 |nil=>intro cs k hk;exact⟨cs,rfl,hk⟩
 |cons p ps ih=>
  obtain⟨off,sz,x⟩:=p;intro cs k hk;simp only[c3j] at hk;obtain⟨v,h1,hk⟩:=a0d r hk;have hk:=a8k hk;obtain⟨h2,hk⟩:=a0e hk;obtain⟨h3,hk⟩:=a5x hk;obtain⟨c,h4,hk⟩:=b5j CA.to hk;obtain⟨cs',h5,hk⟩:=ih hk;refine⟨cs',?_,hk⟩;have h2':AK (a3q (CA.toL v.cells)) sz=AB:=by rw[a0u,CA.toL_len];simpa using h2
  simp only[b2r,h1,CA.cells_to,h2',h3,Ac,if_true];rw[CA.toL_eq,CA.toL_eq,h4];rw[<-CA.toL_eq];exact h5
theorem b8b (r:RT t ts){sz:Nat}{ps:List (Nat×a0h)}: ∀{rs:List (List CA)} {k:List (List CA)->Bool},b6y t sz rs ps k=AB-> ∃rs',a8q ts sz (rs.map CA.toL) ps=AG (rs'.map CA.toL)/\k rs'=AB:=by
 induction ps with
 |nil=>intro cs k hk;exact⟨cs,rfl,hk⟩
 |cons p ps ih=>
  obtain⟨i,x⟩:=p;intro rs k hk;simp only[b6y] at hk;obtain⟨v,h1,hk⟩:=a0d r hk;have hk:=a8k hk;obtain⟨h2,hk⟩:=a0e hk;obtain⟨h3,hk⟩:=a5x hk;obtain⟨h4,hk⟩:=c0d hk;obtain⟨rs',h5,hk⟩:=ih hk;refine⟨rs',?_,hk⟩;have h2':AK (a3q (CA.toL v.cells)) sz=AB:=by rw[a0u,CA.toL_len];simpa using h2
  have h6:a1a (rs.map CA.toL) i=AG (CA.toL rs[i]):=by rw[a0i];simp[h4]
  simp only[a8q,h1,CA.cells_to,h2',h3,Ac,if_true,h6];rw[a0l,<-Ad];exact h5
theorem b0q {row:List CD}{off:Nat}{agg:Option Nat}{k:CA->Bool}(hk:c1i row off agg k=AB): ∃v,k v=AB/\ ∀K:AV->Prop,K v.to->a8i (CD.toL row) off agg K:=by
 cases agg with
 |none=>
  obtain⟨x,h1,hk⟩:=a5k hk;refine⟨_,hk,fun K hK=> ?_⟩;have:a1a (CD.toL row) off=AG x.to:=by rw[a0i,CD.toL_eq,AH,h1];rfl
  simp only[a8i,this];exact hK
 |some m=>obtain⟨c,h1,hk⟩:=b4l CD.to hk;obtain⟨cs,h2,hk⟩:=c4e hk;refine⟨_,hk,fun K hK=> ?_⟩;simp only[a8i];rw[CD.toL_eq,h1,<-CD.toL_eq];simp only[h2];exact hK
theorem b1k {rows:List (List CD)}{i:Nat}{k:List CD->Bool}(hk:d9x rows i k=AB): ∃row,i<rows.length/\rowAt (CD.toR rows) i=CD.toL row/\k row=AB:=by obtain⟨row,h1,hk⟩:=a5k hk;refine⟨row,(AE.1 h1).1,?_,hk⟩;rw[a1k,CD.toR_eq,AH,h1];rfl
theorem b8j (r:RH P h hl){p:CA}{agg:Option Nat}{k:CA->Bool}(hk:c3r h p agg k=AB): ∃v,k v=AB/\ ∀S,Sd P S-> ∀K:AV->Prop,K v.to->a8s S hl p.to agg K:=by
 unfold c3r at hk;split at hk
 ·rename_i l off;obtain⟨o,ao,h1,h2,hk⟩:=r.gets hk;cases o with
  |var cs=>
   cases h2;cases agg with
   |none=>obtain⟨v,h3,hk⟩:=a5k hk;refine⟨v,hk,fun S _ K hK=> ?_⟩;simp only[CA.to,a8s,h1,CA.toL_get h3];exact hK
   |some n=>obtain⟨c,h3,hk⟩:=b4l CA.to hk;refine⟨_,hk,fun S _ K hK=> ?_⟩;simp only[CA.to,a8s,h1];rw[CA.toL_eq,h3,<-CA.toL_eq];exact hK
  |_=>exact absurd hk AA
 ·rename_i l sz i off;obtain⟨o,ao,h1,h2,hk⟩:=r.gets hk;cases o with
  |arr sz' n e=>cases h2;obtain⟨h3,hk⟩:=a0e hk;obtain⟨h4,hk⟩:=a0e hk;obtain⟨row,h5,h6,hk⟩:=b1k hk;obtain⟨v,hk,h7⟩:=b0q hk;refine⟨v,hk,?_⟩;rintro S ⟨A,ro,E,rfl⟩ K hK;simp only[CA.to,a8s,h1,h3,if_true,h6];exact And.intro (AC h4) (h7 K hK)
  |frz sz' n e=>cases h2;obtain⟨h3,hk⟩:=a0e hk;obtain⟨h4,hk⟩:=a0e hk;obtain⟨row,h5,h6,hk⟩:=b1k hk;obtain⟨v,hk,h7⟩:=b0q hk;refine⟨v,hk,?_⟩;rintro S ⟨A,ro,E,rfl⟩ K hK;simp only[CA.to,a8s,h1,h3,if_true,h6];exact And.intro (AC h4) (h7 K hK)
  |_=>exact absurd hk AA
 ·obtain⟨v,hk,h7⟩:=b0q hk;exact⟨v,hk,fun S _ K hK=>h7 K hK⟩
 ·exact absurd hk AA
theorem b7v {v:CA}{sz:Nat}(h:AK (0+v.cells.length) sz=AB)(h2:b5z (CA.toL v.cells)=AB):(AK (a3q v.to.cells) sz&&b5z v.to.cells)=AB:=by rw[CA.cells_to,a0u,CA.toL_len,h2];simpa using h
theorem c4g (r:RH P h hl){p v:CA}{sz:Nat}{k:CH->Bool}(hk:b8w h p v sz k=AB): ∃h' hl',k h'=AB/\RH P h' hl'/\ ∀S,Sd P S-> ∀K:List a0f->Prop,K hl'->a6o S hl p.to v.to sz K:=by
 unfold b8w at hk;split at hk
 ·rename_i l off;have hk:=a8k hk;obtain⟨h2,hk⟩:=a0e hk;obtain⟨h3,hk⟩:=a5x hk;obtain⟨o,ao,h1,h4,hk⟩:=r.gets hk;cases o with
  |var cs=>cases h4;obtain⟨c,h5,hk⟩:=b5j CA.to hk;obtain⟨h',hk,hr⟩:=r.sets hk;refine⟨h',_,hk,hr (.var (CA.toL c)) rfl,fun S _ K hK=> ?_⟩;simp only[CA.to,a6o,b7v h2 h3,if_true,h1];rw[CA.cells_to,CA.toL_eq,CA.toL_eq,h5,<-CA.toL_eq];exact hK
  |_=>exact absurd hk AA
 ·rename_i l sz' i off;have hk:=a8k hk;obtain⟨h2,hk⟩:=a0e hk;obtain⟨h3,hk⟩:=a5x hk;obtain⟨o0,ao0,h01,h04,hk⟩:=r.gets hk;cases o0 with
  |arr _ _ _=>
   cases h04;obtain⟨new,h',hl',hk,r',hd⟩:=c4s r hk;obtain⟨o,ao,h1,h4,hk⟩:=r'.gets hk;cases o with
   |arr sz'' n e=>cases h4;obtain⟨h5,hk⟩:=a0e hk;obtain⟨h6,hk⟩:=a0e hk;obtain⟨row,h7,h8,hk⟩:=b1k hk;obtain⟨c,h9,hk⟩:=b5j CD.to hk;obtain⟨h10,hk⟩:=c0d hk;obtain⟨h'',hk,hr⟩:=r'.sets hk;refine⟨h'',_,hk,hr (.arr sz'' n (rowAt (CD.toR (e.set i c)))) rfl,?_⟩;rintro S ⟨A,ro,E,rfl⟩ K hK;simp only[CA.to,a6o,b7v h2 h3,if_true,h01,h9m];refine hd _ ⟨A,ro,E,rfl⟩ _ ?_;simp only[h1,h5,if_true,h8];refine And.intro (AC h6) ?_;rw[CD.toL_eq,CD.toL_eq,h9,<-CD.toL_eq];rw[CD.toR_eq,Ad,c6p _ _ _ (by simpa using h7),<-CD.toR_eq] at hK;exact hK
   |_=>exact absurd hk AA
  |_=>exact absurd hk AA
 ·exact absurd hk AA
end
theorem CA.free_to (v:CA):v.to.free=v.free:=by
 cases v with
 |fn f us cs=>cases us<;>cases cs<;>rfl
 |_=>rfl
theorem c8s {vs:List CA}{k:Unit->Bool}(h:c2w vs k=AB):a3z.frees1 (CA.toL vs)=AB/\k ()=AB:=by
 induction vs with
 |nil=>exact⟨rfl,h⟩
 |cons v l ih=>
  simp only[c2w] at h;split at h
  ·rename_i e;simp only[CA.toL,a3z.frees1,CA.free_to,e];exact ih h
  ·exact absurd h AA
theorem a7o {vs:List CA}{k:Unit->Bool}(h:a7k vs k=AB):a3z (CA.toL vs)=AB/\k ()=AB:=by
 induction vs with
 |nil=>exact⟨rfl,h⟩
 |cons v l ih=>
  unfold a7k at h;simp only at h;split at h
  ·rename_i cs;obtain⟨h1,h⟩:=c8s h;obtain⟨h2,h⟩:=ih h;exact⟨by simp only[CA.toL,CA.to,a3z,h1,h2,if_true],h⟩
  ·rename_i hne;split at h
   ·rename_i e;obtain⟨h2,h⟩:=ih h;refine⟨?_,h⟩;have e':=CA.free_to v;rw[e] at e';cases v<;>first|exact (hne _ rfl).elim|(simp only[CA.toL,CA.to] at e'⊢;simp only[a3z,e',h2,if_true])
   ·exact absurd h AA
theorem CA.isPtr_to (v:CA):v.to.isPtr=v.isPtr:=by cases v<;>rfl
mutual
theorem d1f:(v:CA)-> ∀{k:CA->Bool},e9q v k=AB-> ∃v',k v'=AB/\v'.to=v.to.norm
 | .d (.int kd n),k,h=>⟨.d (.int kd (.v n.val)),h,rfl⟩
 | .d (.bool b),k,h=>⟨_,h,rfl⟩
 | .d (.str l),k,h=>⟨_,h,rfl⟩
 | .d .nil,k,h=>⟨_,h,rfl⟩
 | .d (.sl a b c),k,h=>⟨_,h,rfl⟩
 | .d (.raw v),k,h=>⟨_,h,rfl⟩
 | .any,k,h=>⟨_,h,rfl⟩
 | .und,k,h=>⟨_,h,rfl⟩
 | .agg cs,k,h=>by obtain⟨v',h1,h2⟩:=a1p cs (k:=fun cs=>k (.agg cs)) h;exact⟨_,h1,by simp only[CA.to,Ag,h2]⟩
 | .tuple cs,k,h=>by obtain⟨v',h1,h2⟩:=a1p cs (k:=fun cs=>k (.tuple cs)) h;exact⟨_,h1,by simp only[CA.to,Ag,h2]⟩
 | .ptr ..,k,h=>⟨_,h,rfl⟩
 | .aptr ..,k,h=>⟨_,h,rfl⟩
 | .dptr ..,k,h=>⟨_,h,rfl⟩
 | .dfs ..,k,h=>⟨_,h,rfl⟩
 | .msl ..,k,h=>⟨_,h,rfl⟩
 | .vsl ..,k,h=>⟨_,h,rfl⟩
 | .map _,k,h=>⟨_,h,rfl⟩
 | .fn f us cs,k,h=>by obtain⟨u',h1,h2⟩:=a1p us (k:=fun us=>a8f cs fun cs=>k (.fn f us cs)) h;obtain⟨c',h3,h4⟩:=a1p cs (k:=fun cs=>k (.fn f u' cs)) h1;exact⟨_,h3,by simp only[CA.to,Ag,h2,h4]⟩
 | .ge _,k,h=>⟨_,h,rfl⟩
 | .yl _,k,h=>⟨_,h,rfl⟩
theorem a1p:(vs:List CA)-> ∀{k:List CA->Bool},a8f vs k=AB-> ∃vs',k vs'=AB/\CA.toL vs'=Aj (CA.toL vs)
 |[],k,h=>⟨[],h,rfl⟩
 |v::vs,k,h=>by obtain⟨v',h1,h2⟩:=d1f v (k:=fun v=>a8f vs fun r=>k (v::r)) h;obtain⟨vs',h3,h4⟩:=a1p vs (k:=fun r=>k (v'::r)) h1;exact⟨_,h3,by simp only[CA.toL,Aj,h2,h4]⟩
end
theorem a8n {l m:Nat}{v:CA}{k:CA->Bool}(h:c3e l m v k=AB): ∃v',k v'=AB/\v'.to=if (if AP=AB then Nat.ble l m else AK l m)=AB then .any else v.to:=by
 unfold c3e at h;cases e:AK l m with
 |false=>rw[e] at h;exact⟨v,h,by simp⟩
 |true=>rw[e] at h;exact⟨.any,h,by simp[CA.to]⟩
mutual
theorem b3g (l:Nat):(v:CA)-> ∀{k:CA->Bool},c7q l v k=AB-> ∃v',k v'=AB/\v'.to=v.to.forget l AP
 | .d _,k,h=>⟨_,h,rfl⟩
 | .any,k,h=>⟨_,h,rfl⟩
 | .und,k,h=>⟨_,h,rfl⟩
 | .agg cs,k,h=>by obtain⟨v',h1,h2⟩:=a2b l cs (k:=fun cs=>k (.agg cs)) h;exact⟨_,h1,by simp only[CA.to,Aa,h2]⟩
 | .tuple cs,k,h=>by obtain⟨v',h1,h2⟩:=a2b l cs (k:=fun cs=>k (.tuple cs)) h;exact⟨_,h1,by simp only[CA.to,Aa,h2]⟩
 | .ptr m off,k,h=>by obtain⟨v',h1,h2⟩:=a8n (v:= .ptr m off) h;exact⟨v',h1,h2⟩
 | .aptr m sz i off,k,h=>by obtain⟨v',h1,h2⟩:=a8n (v:= .aptr m sz i off) h;exact⟨v',h1,h2⟩
 | .dptr ..,k,h=>⟨_,h,rfl⟩
 | .dfs ..,k,h=>⟨_,h,rfl⟩
 | .msl m sz s n f,k,h=>by obtain⟨v',h1,h2⟩:=a8n (v:= .msl m sz s n f) h;exact⟨v',h1,h2⟩
 | .vsl m off n,k,h=>by obtain⟨v',h1,h2⟩:=a8n (v:= .vsl m off n) h;exact⟨v',h1,h2⟩
 | .map m,k,h=>by obtain⟨v',h1,h2⟩:=a8n (v:= .map m) h;exact⟨v',h1,h2⟩
 | .fn f us cs,k,h=>by obtain⟨u',h1,h2⟩:=a2b l us (k:=fun us=>a8d l cs fun cs=>k (.fn f us cs)) h;obtain⟨c',h3,h4⟩:=a2b l cs (k:=fun cs=>k (.fn f u' cs)) h1;exact⟨_,h3,by simp only[CA.to,Aa,h2,h4]⟩
 | .ge _,k,h=>⟨_,h,rfl⟩
 | .yl m,k,h=>by obtain⟨v',h1,h2⟩:=a8n (v:= .yl m) h;exact⟨v',h1,h2⟩
theorem a2b (l:Nat):(vs:List CA)-> ∀{k:List CA->Bool},a8d l vs k=AB-> ∃vs',k vs'=AB/\CA.toL vs'=AR l AP (CA.toL vs)
 |[],k,h=>⟨[],h,rfl⟩
 |v::vs,k,h=>by obtain⟨v',h1,h2⟩:=b3g l v (k:=fun v=>a8d l vs fun r=>k (v::r)) h;obtain⟨vs',h3,h4⟩:=a2b l vs (k:=fun r=>k (v'::r)) h1;exact⟨_,h3,by simp only[CA.toL,AR,h2,h4]⟩
end
section
variable {P:Program} {t:TS} {ts:List AV} {h:CH} {hl:List a0f}
theorem a9k (l:Nat){t:TS}: ∀{k:TS->Bool},a4w l t k=AB-> ∃t',k t'=AB/\ ∀i v',t'.get? i=AG v'-> ∃v,t.get? i=AG v/\v'.to=v.to.forget l AP:=by
 induction t with
 |leaf=>intro k h;exact⟨.leaf,h,fun i v' h=>by simp[BT.get?] at h⟩
 |node v a b ia ib=>
  intro k h;obtain⟨v',h1,h2⟩:=b3g l v (k:=fun v=>a4w l a fun tl=>a4w l b fun tr=>k (.node v tl tr)) h;obtain⟨a',h3,h4⟩:=ia (k:=fun tl=>a4w l b fun tr=>k (.node v' tl tr)) h1;obtain⟨b',h5,h6⟩:=ib h3;refine⟨_,h5,fun i u hi=> ?_⟩;cases i with
  |zero=>simp only[BT.get?,Option.some.injEq] at hi⊢;subst hi;exact⟨v,rfl,h2⟩
  |succ j=>
   simp only[BT.get?] at hi⊢;split at hi
   ·rename_i e;rw[if_pos e];exact h4 _ _ hi
   ·rename_i e;rw[if_neg e];exact h6 _ _ hi
theorem b9v (r:RT t ts){l:Nat}{k:TS->Bool}(hk:a4w l t k=AB): ∃t',k t'=AB/\RT t' (AR l AP ts):=by obtain⟨t',h1,h2⟩:=a9k l hk;refine⟨t',h1,fun i v' hv=> ?_⟩;obtain⟨v,h3,h4⟩:=h2 i v' hv;rw[AS,AH,r i v h3,h4];rfl
theorem c8l {pg:List Nat}: ∀{t:TS} {ts:List AV} (_:RT t ts) {k:TS->Bool},a6k pg t k=AB-> ∃t',k t'=AB/\RT t' (ts.map (a3g pg)):=by
 induction pg with
 |nil=>intro t ts r k hk;refine⟨t,hk,?_⟩;simpa [a3g] using r
 |cons l pg ih=>intro t ts r k hk;simp only[a6k] at hk;obtain⟨t',hk,r'⟩:=b9v r hk;obtain⟨t'',hk,r''⟩:=ih r' hk;refine⟨t'',hk,?_⟩;rw[AS,List.map_map] at r'';exact r''
theorem b4b (l:Nat){t:BT b0h}: ∀{k:BT b0h->Bool},a1l l t k=AB->
 ∃t',k t'=AB/\ ∀i v',t'.get? i=AG v'-> ∃v,t.get? i=AG v/\ ∀ao,v.R P ao->v'.R P (ao.forget l AP):=by
 induction t with
 |leaf=>intro k h;exact⟨.leaf,h,fun i v' h=>by simp[BT.get?] at h⟩
 |node v a b ia ib=>
  intro k h;have hv: ∃v',(∀ao,v.R P ao->v'.R P (ao.forget l AP))/\(a1l l a fun tl=>a1l l b fun tr=>k (.node v' tl tr))=AB:=by
   have h':c1f l v (fun v=>a1l l a fun tl=>a1l l b fun tr=>k (.node v tl tr))=AB:=h;cases v with
   |var cs=>obtain⟨c',h1,h2⟩:=a2b l cs (k:=fun cs=>a1l l a fun tl=>a1l l b fun tr=>k (.node (.var cs) tl tr)) h';exact⟨_,fun ao hR=>by cases hR;simp only[b0h.R,a0f.forget,h2],h1⟩
   |arr=>exact⟨_,fun ao hR=>by cases hR;rfl,h'⟩
   |frz=>exact⟨_,fun ao hR=>by cases hR;rfl,h'⟩
   |map=>exact⟨_,fun ao hR=>by cases hR;rfl,h'⟩
   |gone=>exact⟨_,fun ao hR=>by cases hR;rfl,h'⟩
   |mapv p q r s=>obtain⟨c',h1,h2⟩:=a2b l s (k:=fun cs=>a1l l a fun tl=>a1l l b fun tr=>k (.node (.mapv p q r cs) tl tr)) h';exact⟨_,fun ao hR=>by cases hR;simp only[b0h.R,a0f.forget,h2],h1⟩
   |loop s ts ps A x y=>obtain⟨t',h1,h2⟩:=a9k l (k:=fun ts=>a1l l a fun tl=>a1l l b fun tr=>k (.node (.loop s ts ps A x y) tl tr)) h';refine⟨_,fun ao hR=> ?_,h1⟩;obtain⟨tsl,h3,rfl⟩:=hR;refine⟨AR l AP tsl,fun i v' hv=> ?_,rfl⟩;obtain⟨v,h5,h6⟩:=h2 i v' hv;rw[AS,AH,h3 i v h5,h6];rfl
  obtain⟨v',h2,h1⟩:=hv;obtain⟨a',h3,h4⟩:=ia (k:=fun tl=>a1l l b fun tr=>k (.node v' tl tr)) h1;obtain⟨b',h5,h6⟩:=ib h3;refine⟨_,h5,fun i u hi=> ?_⟩;cases i with
  |zero=>simp only[BT.get?,Option.some.injEq] at hi⊢;subst hi;exact⟨v,rfl,h2⟩
  |succ j=>
   simp only[BT.get?] at hi⊢;split at hi
   ·rename_i e;rw[if_pos e];exact h4 _ _ hi
   ·rename_i e;rw[if_neg e];exact h6 _ _ hi
theorem b8t (r:RH P h hl){l:Nat}{k:CH->Bool}(hk:c1o l h k=AB): ∃h',k h'=AB/\RH P h' (a2n l AP hl):=by obtain⟨n,t⟩:=h;obtain⟨t',h1,h2⟩:=b4b (P:=P) l (k:=fun t=>k ⟨n,t⟩) hk;refine⟨_,h1,⟨by rw[a4i,List.length_map];exact r.len,fun i o' ho=> ?_⟩⟩;obtain⟨o,h3,h4⟩:=h2 i o' ho;obtain⟨ao,h5,h6⟩:=r.get i o h3;exact⟨_,by rw[a3s,h5];rfl,h4 ao h6⟩
theorem a7j {l:Nat}{mv:List Nat}:b6p l mv=AB↔l∈mv:=by
 induction mv with
 |nil=>simp[b6p]
 |cons m r ih=>
  simp only[b6p];split
  ·rename_i e;simp[AT e]
  ·rename_i e;rw[ih,AO];refine⟨.inr,fun h=>h.resolve_left fun c=> ?_⟩;subst c;rw[Af] at e;cases e
theorem d1k {base:Nat}{pg:List Nat}: ∀{mv:List Nat} {k:List Nat->Bool},a9x base pg mv k=AB-> ∃mv',k mv'=AB/\(∀m,m∈mv->m∈mv')/\ ∀m,m∈pg->m<base->m∈mv':=by
 induction pg with
 |nil=>intro mv k hk;exact⟨mv,hk,fun _ h=>h,by simp⟩
 |cons l pg ih=>
  intro mv k hk;simp only[a9x] at hk;split at hk
  ·split at hk
   ·rename_i e;obtain⟨mv',h1,h2,h3⟩:=ih hk;refine⟨mv',h1,h2,fun m hm hb=> ?_⟩;rcases AO.1 hm with rfl|hm
    ·exact h2 _ (a7j.1 e)
    ·exact h3 m hm hb
   ·obtain⟨mv',h1,h2,h3⟩:=ih hk;refine⟨mv',h1,fun m hm=>h2 m (by simp[hm]),fun m hm hb=> ?_⟩;rcases AO.1 hm with rfl|hm
    ·exact h2 _ (by simp)
    ·exact h3 m hm hb
  ·rename_i e;obtain⟨mv',h1,h2,h3⟩:=ih hk;refine⟨mv',h1,h2,fun m hm hb=> ?_⟩;rcases AO.1 hm with rfl|hm
   ·have:Ai m base=AB:=Ah▸hb;rw[this] at e;cases e
   ·exact h3 m hm hb
theorem a2w {v:CA}{k:IX->Bool}(hk:a9z v k=AB): ∃n,v= .d (.int .i64 n)/\k n=AB:=by
 unfold a9z at hk;split at hk
 ·exact⟨_,rfl,hk⟩
 ·exact absurd hk AA
theorem a8a {v:CA}{k:Bool->Bool}(hk:b9d v k=AB): ∃n,v= .d (.bool n)/\k n=AB:=by
 unfold b9d at hk;split at hk
 ·exact⟨_,rfl,hk⟩
 ·exact absurd hk AA
theorem a3e {n:IX}{k:Nat->Bool}(hk:c3s n k=AB):k n.val.toNat=AB:=by
 unfold c3s at hk;split at hk
 ·rename_i e;rw[e];exact hk
 ·rename_i e;rw[e];exact hk
theorem a2v (r:RT t ts){x:Option a0h}{d:IX}{k:IX->Bool}(hk:c2t t x d k=AB): ∃n,k n=AB/\ ∀K:IX->Prop,K n->b0u ts x d K:=by
 cases x with
 |none=>exact⟨d,hk,fun K hK=>hK⟩
 |some o=>obtain⟨v,h1,hk⟩:=a0d r hk;obtain⟨n,rfl,hk⟩:=a2w hk;exact⟨n,hk,fun K hK=>by simp only[b0u,h1];exact hK⟩
theorem a6b {s:Option Nat}{lo:IX}{k:Option Nat->Bool}(hk:a7g s lo k=AB): ∃s',k s'=AB/\ ∀S,Sd P S->a6q S s lo=s':=by
 cases lo with
 |l n=>
  cases n with
  |ofNat m=>
   cases m with
   |zero=>exact⟨s,hk,fun S _=>rfl⟩
   |succ m=>
    cases s with
    |none=>refine⟨_,hk,?_⟩;rintro S ⟨A,ro,E,rfl⟩;rfl
    |some u=>simp only[a7g,a3j] at hk;refine⟨_,hk,?_⟩;rintro S ⟨A,ro,E,rfl⟩;rfl
  |negSucc m=>exact absurd hk AA
 |v n=>
  simp only[a7g] at hk;have hk:=a3e hk;cases s with
  |none=>refine⟨_,hk,?_⟩;rintro S ⟨A,ro,E,rfl⟩;rfl
  |some u=>simp only[a3j] at hk;refine⟨_,hk,?_⟩;rintro S ⟨A,ro,E,rfl⟩;rfl
theorem b0v {A:Ann}{ro:Option Nat}{E:Ent}(rows:List (List CD))(lo:IX):shiftL (std P A ro E) (rowAt (CD.toR rows)) lo=rowAt (CD.toR (rows.drop lo.val.toNat)):=by
 have gen:rowAt (CD.toR (rows.drop lo.val.toNat))=(std P A ro E).shift (rowAt (CD.toR rows)) (nat (std P A ro E) lo):=by rw[CD.toR_eq,Ab,b3q,<-CD.toR_eq,a0o];rfl
 unfold shiftL;split
 ·rename_i h;rfl
 ·exact gen.symm
theorem a1v {a b:Int}{k:Bool}(h:a0w (xle a b) k=AB):a<=b/\k=AB:=by obtain⟨h1,h2⟩:=a0e h;rw[c6m] at h1;exact⟨of_decide_eq_true h1,h2⟩
theorem b3a {a b:Int}{k:Bool}(h:a0w (xeq a b) k=AB):a=b/\k=AB:=by obtain⟨h1,h2⟩:=a0e h;rw[a6m] at h1;exact⟨of_decide_eq_true h1,h2⟩
theorem b4n (r:RT t ts){sz:Nat}{x:CA}{lo hi mx:Option a0h}{k:CA->Bool}(hk:a8j t sz x lo hi mx k=AB):
 ∃v,k v=AB/\ ∀S,Sd P S-> ∀K:AV->Prop,K v.to->a1d S ts sz x.to lo hi mx K:=by
 unfold a8j at hk;split at hk
 ·rename_i l sz' s n f;obtain⟨h1,hk⟩:=a0e hk;obtain⟨lo',hk,hlo⟩:=a2v r hk;obtain⟨hi',hk,hhi⟩:=a2v r hk;obtain⟨h2,hk⟩:=a1v hk;obtain⟨h3,hk⟩:=a1v hk;obtain⟨h4,hk⟩:=a1v hk;have hk:=a3e hk;have hk:=a3e hk;simp only[a3j] at hk;split at hk
  ·split at hk
   ·obtain⟨h5,hk⟩:=b3a hk;obtain⟨s',hk,h6⟩:=a6b (P:=P) hk;refine⟨_,hk,?_⟩;rintro S ⟨A,ro,E,rfl⟩ K hK;simp only[CA.to,a1d,h1,if_true];refine hlo _ (hhi _ (And.intro h2 (And.intro h3 (And.intro h4 (And.intro h5 ?_)))));rw[h6 _ ⟨A,ro,E,rfl⟩,a0o,a0o];exact hK
   ·obtain⟨s',hk,h6⟩:=a6b (P:=P) hk;refine⟨_,hk,?_⟩;rintro S ⟨A,ro,E,rfl⟩ K hK;simp only[CA.to,a1d,h1,if_true];refine hlo _ (hhi _ (And.intro h2 (And.intro h3 (And.intro h4 ?_))));rw[h6 _ ⟨A,ro,E,rfl⟩,a0o,a0o];exact hK
  ·obtain⟨v,h7,hk⟩:=a0d r hk;obtain⟨m',rfl,hk⟩:=a2w hk;obtain⟨h5,hk⟩:=b3a hk;obtain⟨s',hk,h6⟩:=a6b (P:=P) hk;refine⟨_,hk,?_⟩;rintro S ⟨A,ro,E,rfl⟩ K hK;simp only[CA.to,a1d,h1,if_true,h7];refine hlo _ (hhi _ (And.intro h2 (And.intro h3 (And.intro h4 (And.intro h5 ?_)))));rw[h6 _ ⟨A,ro,E,rfl⟩,a0o,a0o];exact hK
 ·rename_i sz' n e;obtain⟨h1,hk⟩:=a0e hk;obtain⟨lo',hk,hlo⟩:=a2v r hk;obtain⟨hi',hk,hhi⟩:=a2v r hk;obtain⟨h2,hk⟩:=a1v hk;obtain⟨h3,hk⟩:=a1v hk;obtain⟨h4,hk⟩:=a1v hk;have hk:=a3e hk;have hk:=a3e hk;simp only[a3j] at hk;have hk:=c2z hk;split at hk
  ·refine⟨_,hk,?_⟩;rintro S ⟨A,ro,E,rfl⟩ K hK;simp only[CA.to,CD.to,a1d,h1,if_true];refine hlo _ (hhi _ (And.intro h2 (And.intro h3 (And.intro h4 ?_))));rw[b0v,a0o,a0o];exact hK
  ·obtain⟨v,h7,hk⟩:=a0d r hk;obtain⟨m',rfl,hk⟩:=a2w hk;obtain⟨h5,hk⟩:=b3a hk;refine⟨_,hk,?_⟩;rintro S ⟨A,ro,E,rfl⟩ K hK;simp only[CA.to,CD.to,a1d,h1,if_true,h7];refine hlo _ (hhi _ (And.intro h2 (And.intro h3 (And.intro h4 (And.intro h5 ?_)))));rw[b0v,a0o,a0o];exact hK
 ·obtain⟨lo',hk,hlo⟩:=a2v r hk;obtain⟨hi',hk,hhi⟩:=a2v r hk;obtain⟨h2,hk⟩:=b3a hk;obtain⟨h3,hk⟩:=b3a hk;split at hk
  ·refine⟨_,hk,?_⟩;rintro S ⟨A,ro,E,rfl⟩ K hK;simp only[CA.to,CD.to,a1d];exact hlo _ (hhi _ (And.intro h2 (And.intro h3 hK)))
  ·obtain⟨v,h7,hk⟩:=a0d r hk;obtain⟨m',rfl,hk⟩:=a2w hk;obtain⟨h5,hk⟩:=b3a hk;refine⟨_,hk,?_⟩;rintro S ⟨A,ro,E,rfl⟩ K hK;simp only[CA.to,CD.to,a1d,h7];exact hlo _ (hhi _ (And.intro h2 (And.intro h3 (And.intro h5 hK))))
 ·exact absurd hk AA
end
end Go.Vf
