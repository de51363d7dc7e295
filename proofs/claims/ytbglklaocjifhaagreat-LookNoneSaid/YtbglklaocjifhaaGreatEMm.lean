/- The runner's eighth text: elements, appends, copies. The runner's ninth text: operations. The runner's tenth text: the other operations. The runner's eleventh text: operations in a row, regions that draw their order. Conditions: none. -/
import Derived.Test.YtbglklaocjifhaaGreatEMl
open Bool renaming false_ne_true->AA,true->AD,false->AT
open Nat renaming eq_of_beq_eq_true->AB,le_of_ble_eq_true->AG,beq->AU,zero->Aa,zero_add->Ac
open Go.Vf.CA renaming to->AC,toL_eq->AF,toL->AH,toL_get->AR,cells_to->Ae
open Go.Vf.CD renaming to->AE,toR_eq->AJ,toR->AK,toL->Af
open List renaming map_append->AI,getElem?_eq_some_iff->AN,map_take->AO,map_cons->AP,getElem?_take_of_lt->AQ,getElem?_eq_none->AW,ext_getElem?->AY,length_take->AZ,map_nil->Ab
open Go renaming IntKind->AL,Program->Ag,FuncId->Ah
open Option renaming some->AM,none->Ad
open Int renaming ofNat->AS,ofNat_eq_natCast->AX
set_option linter.unusedSimpArgs false
set_option linter.unusedVariables false
namespace Go.Vf
open Go
section
variable {P:Ag} {t:TS} {ts:List AV} {h:CH} {hl:List a0f}
theorem b5x {i:IX}{n:Nat}{k:Nat->Bool}(hk:e0d i n k=AD):k i.val.toNat=AD/\ ∀S,Sd P S-> ∀K:Nat->Prop,K i.val.toNat->idx S i n K:=by
 unfold e0d at hk;split at hk
 ·rename_i m e;obtain⟨h1,hk⟩:=a0e hk;have h2:m<n:=AG h1;refine⟨by rw[e];exact hk,?_⟩;rintro S ⟨A,ro,E,rfl⟩ K hK;refine And.intro (show 0<=i.val/\i.val<n from ?_) (by rw[a0o];exact hK);rw[e];simp only[AX];omega
 ·exact absurd hk AA
def E0:Ent:=⟨default,fun _=>False,a2j,0,[]⟩
theorem b4s {sz:Nat}{x:CA}{i:IX}{k:CA->Bool}(hk:a9e sz x i k=AD): ∃v,k v=AD/\ ∀S,Sd P S-> ∀K:AV->Prop,K v.to->a2l S sz x.to i K:=by
 unfold a9e at hk;split at hk
 ·obtain⟨h1,hk⟩:=a0e hk;obtain⟨hk,h2⟩:=b5x (P:=P) hk;have hk:=a6x (P:=P) (A:={}) (ro:=Ad) (E:=E0) hk;refine⟨_,hk,?_⟩;rintro S ⟨A,ro,E,rfl⟩ K hK;simp only[AC,a2l,h1,if_true];exact h2 _ ⟨A,ro,E,rfl⟩ _ hK
 ·obtain⟨h1,hk⟩:=a0e hk;obtain⟨hk,h2⟩:=b5x (P:=P) hk;obtain⟨row,h3,h4,hk⟩:=b1k hk;refine⟨_,hk,?_⟩;rintro S ⟨A,ro,E,rfl⟩ K hK;simp only[AC,AE,a2l,h1,if_true];refine h2 _ ⟨A,ro,E,rfl⟩ _ ?_;rw[h4];exact hK
 ·obtain⟨h1,hk⟩:=a0e hk;obtain⟨hk,h2⟩:=b5x (P:=P) hk;obtain⟨row,h3,h4,hk⟩:=b1k hk;refine⟨_,hk,?_⟩;rintro S ⟨A,ro,E,rfl⟩ K hK;simp only[AC,a2l,h1,if_true];refine h2 _ ⟨A,ro,E,rfl⟩ _ ?_;rw[h4];exact hK
 ·exact absurd hk AA
theorem c6o {S:Sig}{sz:Nat}{v:AV}{K:Nat->Nat->(Nat->List DV)->Prop}(hv:v≠ .d .nil)(hk:b3s S hl v K):a8b S sz hl v K:=by
 unfold a8b;split
 ·exact (hv rfl).elim
 ·exact hk.elim
 ·exact hk
theorem CA.to_nil {v:CA}(h:v.to= .d .nil):v= .d .nil:=by
 cases v with
 |d x=>cases x<;>first|rfl|cases h
 |_=>cases h
theorem b2d (r:RH P h hl){sz:Nat}{v:CA}{k:Nat->Nat->List (List CD)->Bool}(hk:b6h sz h v k=AD):
 ∃sz' n rows,k sz' n rows=AD/\ ∀S,Sd P S-> ∀K:Nat->Nat->(Nat->List DV)->Prop,K sz' n (rowAt (AK rows))->a8b S sz hl v.to K:=by
 unfold b6h at hk;split at hk
 ·exact⟨_,_,_,hk,fun S _ K hK=>hK⟩
 ·rename_i hne;obtain⟨sz',n,rows,hk,hv⟩:=b0k r hk;exact⟨_,_,_,hk,fun S hS K hK=>c6o (fun e=>hne (CA.to_nil e)) (hv S hS K hK)⟩
theorem a7z {A:Ann}{ro:Option Nat}{E:Ent}{e e2:List (List CD)}{n:Nat}(hn:n<=e.length):
 rowAt (AK (e.take n++e2))=(std P A ro E).app n (rowAt (AK e)) (rowAt (AK e2)):=by
 rw[AJ,AI,AO,c9i _ _ _ (by simpa using hn),<-AJ,<-AJ];rfl
theorem b4x {A:Ann}{ro:Option Nat}{E:Ent}{e new:List (List CD)}{i m:Nat}(h1:i+m<=e.length)(h2:m<=new.length):
 rowAt (AK (e.take i++new.take m++e.drop (i+m)))=(std P A ro E).put i m (rowAt (AK e)) (rowAt (AK new)):=by
 rw[AJ,AI,AI,AO,AO,List.map_drop,c8z _ _ _ _ (by simpa using h1) (by simpa using h2),<-AJ,<-AJ];rfl
theorem a7t {a b:Nat}{k:Bool}(h:a0w (Nat.ble a b) k=AD):a<=b/\k=AD:=by obtain⟨h1,h2⟩:=a0e h;exact⟨AG h1,h2⟩
theorem a9m {a b:Nat}{k:Bool}(h:a0w (Nat.blt a b) k=AD):a<b/\k=AD:=by obtain⟨h1,h2⟩:=a0e h;exact⟨AG h1,h2⟩
theorem a6p (r:RH P h hl){sz:Nat}{x y:CA}{mu:Bool}{k:CA->CH->List Nat->Bool}(hk:a2c h sz x y mu k=AD):
 ∃v h' hl' pg,k v h' pg=AD/\RH P h' hl'/\ ∀S,Sd P S-> ∀K:AV->List a0f->List Nat->Prop,K v.to hl' pg->a2g S hl sz x.to y.to mu K:=by
 unfold a2c at hk;obtain⟨sz2,m,e2,hk,hv⟩:=b2d r hk;obtain⟨h1,hk⟩:=a0e hk;split at hk
 ·obtain⟨h2,hk⟩:=a7t hk;cases mu with
  |true=>obtain⟨h',hk,hr⟩:=r.adds hk;refine⟨_,_,_,_,hk,hr _ rfl,?_⟩;rintro S ⟨A,ro,E,rfl⟩ K hK;refine hv _ ⟨A,ro,E,rfl⟩ _ ?_;simp only[AC,AE,h1,if_true];exact And.intro h2 hK
  |false=>refine⟨_,_,_,_,hk,r,?_⟩;rintro S ⟨A,ro,E,rfl⟩ K hK;refine hv _ ⟨A,ro,E,rfl⟩ _ ?_;simp only[AC,AE,h1,if_true];exact And.intro h2 hK
 ·rename_i sz' n e;obtain⟨h2,hk⟩:=a0e hk;rw[a3j] at hk;obtain⟨h3,hk⟩:=a7t hk;obtain⟨h4,hk⟩:=a9m hk;obtain⟨h5,hk⟩:=a7f hk;cases mu with
  |true=>obtain⟨h',hk,hr⟩:=r.adds hk;refine⟨_,_,_,_,hk,hr _ rfl,?_⟩;rintro S ⟨A,ro,E,rfl⟩ K hK;refine hv _ ⟨A,ro,E,rfl⟩ _ ?_;simp only[AC,h1,h2,if_true];rw[a7z (P:=P) (A:=A) (ro:=ro) (E:=E) h5] at hK;exact And.intro h3 (And.intro h4 hK)
  |false=>refine⟨_,_,_,_,hk,r,?_⟩;rintro S ⟨A,ro,E,rfl⟩ K hK;refine hv _ ⟨A,ro,E,rfl⟩ _ ?_;simp only[AC,h1,h2,if_true];simp only[AC,AE] at hK;rw[a7z (P:=P) (A:=A) (ro:=ro) (E:=E) h5] at hK;exact And.intro h3 (And.intro h4 hK)
 ·rename_i l sz' n;obtain⟨h2,hk⟩:=a0e hk;obtain⟨o,ao,h3,hR,hk⟩:=r.gets hk;cases o with
  |arr sz'' n' e=>cases hR;obtain⟨h4,hk⟩:=a0e hk;obtain⟨h5,hk⟩:=a0e hk;rw[a3j] at hk;obtain⟨h6,hk⟩:=a7t hk;obtain⟨h7,hk⟩:=a7f hk;obtain⟨h',hk,hr⟩:=r.sets hk;obtain⟨h'',hk,hr'⟩:=b8t (hr _ rfl) hk;refine⟨_,_,_,_,hk,hr',?_⟩;rintro S ⟨A,ro,E,rfl⟩ K hK;refine hv _ ⟨A,ro,E,rfl⟩ _ ?_;simp only[AC,h1,h2,h3,h4,if_true];rw[a7z (P:=P) (A:=A) (ro:=ro) (E:=E) h7] at hK;exact And.intro (AB h5) (And.intro h6 hK)
  |_=>exact absurd hk AA
 ·rename_i l sz' s n;obtain⟨h2,hk⟩:=a0e hk;obtain⟨sz3,n3,e,hk,hv2⟩:=b0k r hk;rw[a3j] at hk;obtain⟨h3,hk⟩:=a7t hk;obtain⟨h4,hk⟩:=a9m hk;obtain⟨h5,hk⟩:=a7f hk;cases mu with
  |true=>obtain⟨h',hk,hr⟩:=r.adds hk;refine⟨_,_,_,_,hk,hr _ rfl,?_⟩;rintro S ⟨A,ro,E,rfl⟩ K hK;refine hv _ ⟨A,ro,E,rfl⟩ _ ?_;simp only[AC,h1,h2,if_true];refine hv2 _ ⟨A,ro,E,rfl⟩ _ ?_;rw[a7z (P:=P) (A:=A) (ro:=ro) (E:=E) h5] at hK;exact And.intro h3 (And.intro h4 hK)
  |false=>refine⟨_,_,_,_,hk,r,?_⟩;rintro S ⟨A,ro,E,rfl⟩ K hK;refine hv _ ⟨A,ro,E,rfl⟩ _ ?_;simp only[AC,h1,h2,if_true];refine hv2 _ ⟨A,ro,E,rfl⟩ _ ?_;simp only[AC,AE] at hK;rw[a7z (P:=P) (A:=A) (ro:=ro) (E:=E) h5] at hK;exact And.intro h3 (And.intro h4 hK)
 ·exact absurd hk AA
theorem b5i (r:RH P h hl){sz:Nat}{x y:CA}{k:CA->CH->Bool}(hk:a8m h sz x y k=AD):
 ∃v h' hl',k v h'=AD/\RH P h' hl'/\ ∀S,Sd P S-> ∀K:AV->List a0f->Prop,K v.to hl'->a4o S hl sz x.to y.to K:=by
 unfold a8m at hk;obtain⟨sz2,m,e2,hk,hv⟩:=b2d r hk;obtain⟨h1,hk⟩:=a0e hk;split at hk
 ·rename_i l sz' s n;obtain⟨h2,hk⟩:=a0e hk;obtain⟨o,ao,h3,hR,hk⟩:=r.gets hk;cases o with
  |arr sz'' n' e=>cases hR;obtain⟨h4,hk⟩:=a0e hk;have hk:=a6x (P:=P) (A:={}) (ro:=Ad) (E:=E0) hk;obtain⟨h6,hk⟩:=a7t hk;obtain⟨h7,h8,hk⟩:=b9z hk;obtain⟨h',hk,hr⟩:=r.sets hk;rw[a3j] at hk;refine⟨_,_,_,hk,hr _ rfl,?_⟩;rintro S ⟨A,ro,E,rfl⟩ K hK;refine hv _ ⟨A,ro,E,rfl⟩ _ ?_;simp only[AC,h1,h2,h3,h4,if_true];rw[b4x (P:=P) (A:=A) (ro:=ro) (E:=E) h7 h8] at hK;exact And.intro h6 hK
  |_=>exact absurd hk AA
 ·exact absurd hk AA
theorem b2z (s:Option Nat):c0o s=c2c s:=by cases s<;>rfl
theorem b5o (a b:Nat):e5l a b=min a b:=by
 unfold e5l;split
 ·rename_i e;have:=AG e;omega
 ·rename_i e;have: ¬a<=b:=fun c=>by rw[Nat.ble_eq_true_of_le c] at e;cases e
  omega
theorem c8a {n:Nat}: ∀{e:List (List CD)} {k:List CA->Bool},c3p e n k=AD-> ∃cs,cs.length=n/\(∀i,i<n-> ∃x,rowAt (AK e) i=[x]/\(AH cs)[i]? =AM (.d x))/\k cs=AD:=by
 induction n with
 |zero=>intro e k hk;simp only[c3p] at hk;exact⟨[],rfl,fun i hi=>by omega,hk⟩
 |succ n ih=>
  intro e k hk;cases e with
  |nil=>exact absurd hk AA
  |cons row e=>
   match row,hk with
   |[],hk=>exact absurd hk AA
   |[x],hk=>
    obtain⟨cs,h1,h2,hk⟩:=ih (e:=e) (k:=fun l=>k (.d x::l)) hk;refine⟨_,by simp[h1],fun i hi=> ?_,hk⟩;cases i with
    |zero=>exact⟨x.to,rfl,rfl⟩
    |succ i=>obtain⟨y,h3,h4⟩:=h2 i (by omega);exact⟨y,h3,by simpa [AH] using h4⟩
   |_::_::_,hk=>exact absurd hk AA
theorem d3n {n:Nat}: ∀{e:Nat->List DV} {l:List AV},l.length=n->(∀i,i<n-> ∃x,e i=[x]/\l[i]? =AM (.d x))->b2m e n=AM l:=by
 induction n with
 |zero=>intro e l h1 h2;simp[b2m];exact (List.length_eq_zero_iff.1 h1)
 |succ n ih=>
  intro e l h1 h2;obtain⟨x,h3,h4⟩:=h2 n (by omega);have h5:=ih (l:=l.take n) (e:=e) (by simp[h1]) (fun i hi=>by obtain⟨y,h6,h7⟩:=h2 i (by omega);exact⟨y,h6,by rw[AQ hi];exact h7⟩);simp only[b2m,h5,h3,a0r];congr 1;refine AY fun i=> ?_;by_cases c:i<n
  ·rw[List.getElem?_append_left (by simp[h1];omega),AQ c]
  ·by_cases d:i=n
   ·subst d;rw[List.getElem?_append_right (by rw[AZ];omega),AZ,h1,show i-min i (i+1)=0 by omega,h4];rfl
   ·rw[AW (by simp[h1];omega),AW (by omega)]
theorem b7m (r:RH P h hl){sz:Nat}{x y:CA}{k:CA->CH->Bool}(hk:b1r h sz x y k=AD):
 ∃v h' hl',k v h'=AD/\RH P h' hl'/\ ∀S,Sd P S-> ∀K:AV->List a0f->Prop,K v.to hl'->a5z S hl sz x.to y.to K:=by
 unfold b1r at hk;obtain⟨sz2,m,e2,hk,hv⟩:=b2d r hk;obtain⟨h1,hk⟩:=a0e hk;split at hk
 ·rename_i l sz' s n f;obtain⟨h2,hk⟩:=a0e hk;obtain⟨o,ao,h3,hR,hk⟩:=r.gets hk;cases o with
  |arr sz'' n' e=>cases hR;obtain⟨h4,hk⟩:=a0e hk;have hk:=a6x (P:=P) (A:={}) (ro:=Ad) (E:=E0) hk;obtain⟨h6,hk⟩:=a7t hk;rw[a3j] at hk;obtain⟨h7,h8,hk⟩:=b9z hk;obtain⟨h',hk,hr⟩:=r.sets hk;refine⟨_,_,_,hk,hr _ rfl,?_⟩;rintro S ⟨A,ro,E,rfl⟩ K hK;refine hv _ ⟨A,ro,E,rfl⟩ _ ?_;simp only[AC,h1,h2,h3,h4,if_true];rw[b4x (P:=P) (A:=A) (ro:=ro) (E:=E) h7 h8,b2z] at hK;simp only[AC,AE,b5o] at hK;exact And.intro h6 hK
  |_=>exact absurd hk AA
 ·obtain⟨h2,hk⟩:=a0e hk;obtain⟨o,ao,h3,hR,hk⟩:=r.gets hk;cases o with
  |var cs=>cases hR;simp only[a3j] at hk;obtain⟨new,h4,h5,hk⟩:=c8a hk;obtain⟨c,h6,hk⟩:=b5j AC hk;obtain⟨h',hk,hr⟩:=r.sets hk;refine⟨_,_,_,hk,hr _ rfl,?_⟩;rintro S ⟨A,ro,E,rfl⟩ K hK;refine hv _ ⟨A,ro,E,rfl⟩ _ ?_;have h7:b2m (rowAt (AK e2)) ((std P A ro E).nmin _ m)=AM (AH new):=d3n (by rw[CA.toL_len,h4,b5o];rfl) (fun i hi=>h5 i (by rw[b5o];exact hi));simp only[AC,h1,h2,h3,if_true,h7];rw[AF,AF,h6,<-AF];simp only[AC,AE,b5o] at hK;exact hK
  |_=>exact absurd hk AA
 ·exact absurd hk AA
end
def MV (base:Nat)(mvA mv:List Nat):Prop:= ∀m,m<base->m∈mvA->m∈mv
structure XOk (P:Ag)(X:XS):Prop where
 pcall: ∀{own:Bool} {f:Ah} {args:List CA} {k:CA->Bool},X.pcall own f args k=AD-> ∃r,k r=AD/\a0j P own f (AH args) r.to
 call: ∀{f:Ah} {args:List CA} {h:CH} {hl:List a0f} {k:List Nat->CA->CH->Bool},RH P h hl->X.call f args h k=AD->
  ∃pg v h' hl',k pg v h'=AD/\RH P h' hl'/\ ∀K:List Nat->AV->List a0f->Prop,K pg v.to hl'->a1h P f (AH args) hl K
 yld: ∀{l:Nat} {args:List CA} {h:CH} {hl:List a0f} {k:List Nat->CA->CH->Bool},RH P h hl->X.yld l args h k=AD->
  ∃pg v h' hl',k pg v h'=AD/\RH P h' hl'/\ ∀K:List Nat->AV->List a0f->Prop,K pg v.to hl'->b5d P l (AH args) hl K
 loop: ∀{A:Ann} {base:Nat} {top:Bool} {c:a0c} {k:Lv->TS->CH->List Nat->Bool} {t:TS} {ts:List AV} {h:CH} {hl:List a0f} {mv mvA:List Nat},
  RT t ts->RH P h hl->MV base mvA mv->X.loop A base top c k t h mv=AD->
  ∃lv t' ts' h' hl' mv' mvA',k lv t' h' mv'=AD/\RT t' ts'/\RH P h' hl'/\MV base mvA' mv'/\
   ∀(ro:Option Nat) (E:Ent) (Q:Lv->St->Prop),(top=AD->ro=Ad)->Q lv ⟨ts',hl',mvA'⟩-> ∃m,b4o (std P A ro E) m c Q ⟨ts,hl,mvA⟩
def a0p (P:Ag)(o:IOp)(ts:List AV)(hl:List a0f)(k:CA->CH->List Nat->Bool):Prop:=
 ∃v h' hl' pg,k v h' pg=AD/\RH P h' hl'/\ ∀S,Sd P S-> ∀(mv:List Nat) (K:AV->List a0f->List Nat->Prop),K v.to hl' pg->a0a S o ⟨ts,hl,mv⟩ K
section
variable {P:Ag} {X:XS} {t:TS} {ts:List AV} {h:CH} {hl:List a0f} {k:CA->CH->List Nat->Bool}
theorem f2b (r:RT t ts)(rh:RH P h hl){x:a0h}(hk:f3i x X t h k=AD):a0p P (.mv x) ts hl k:=by obtain⟨v,h1,hk⟩:=a0d r hk;exact⟨v,h,hl,[],hk,rh,fun S _ mv K hK=>by simp only[a0a,h1];exact hK⟩
theorem d0q (rh:RH P h hl){sz:Nat}(hk:c1m sz X t h k=AD):a0p P (.newnil sz) ts hl k:=by obtain⟨h',hk,hr⟩:=rh.adds hk;refine⟨_,_,_,_,hk,hr _ rfl,fun S _ mv K hK=> ?_⟩;exact hK
theorem d7y (rh:RH P h hl){sz:Nat}(hk:d5r sz X t h k=AD):a0p P (.bnew sz) ts hl k:=by obtain⟨h',hk,hr⟩:=rh.adds hk;refine⟨_,_,_,_,hk,hr _ rfl,fun S _ mv K hK=> ?_⟩;exact hK
theorem d7n (r:RT t ts)(rh:RH P h hl){c a b:a0h}(hk:d6c c a b X t h k=AD):a0p P (.pick c a b) ts hl k:=by
 obtain⟨v,h1,hk⟩:=a0d r hk;obtain⟨n,rfl,hk⟩:=a8a hk;cases n with
 |true=>obtain⟨v,h2,hk⟩:=a0d r hk;exact⟨v,h,hl,[],hk,rh,fun S _ mv K hK=>by simp only[a0a,h1,AC,AE,e0h,h2];exact hK⟩
 |false=>obtain⟨v,h2,hk⟩:=a0d r hk;exact⟨v,h,hl,[],hk,rh,fun S _ mv K hK=>by simp only[a0a,h1,AC,AE,e0h,h2];exact hK⟩
theorem d1m (rh:RH P h hl){zs:List DV}(hk:c7c zs X t h k=AD):a0p P (.alloc zs) ts hl k:=by obtain⟨cs,ez,hk2⟩:=a5s hk;clear hk;subst ez;obtain⟨ds,h1,hk⟩:=c4e hk2;obtain⟨h',hk,hr⟩:=rh.adds hk;refine⟨_,_,_,_,hk,hr _ rfl,fun S _ mv K hK=> ?_⟩;simp only[a0a,h1];exact hK
theorem e0v (r:RT t ts)(rh:RH P h hl){x:a0h}(hk:e4a x X t h k=AD):a0p P (.box x) ts hl k:=by obtain⟨v,h1,hk⟩:=a0d r hk;obtain⟨h2,hk⟩:=a5x hk;obtain⟨h',hk,hr⟩:=rh.adds hk;refine⟨_,_,_,_,hk,hr _ rfl,fun S _ mv K hK=> ?_⟩;simp only[a0a,h1,Ae,h2,if_true];exact hK
theorem d3d (r:RT t ts)(rh:RH P h hl){zs:List DV}{ps:List (Nat×Nat×a0h)}(hk:c6y zs ps X t h k=AD):a0p P (.build zs ps) ts hl k:=by obtain⟨cs,ez,hk2⟩:=a5s hk;clear hk;subst ez;obtain⟨ds,h1,hk⟩:=c4e hk2;obtain⟨cs',h2,hk⟩:=c9r r hk;refine⟨_,_,_,_,hk,rh,fun S _ mv K hK=> ?_⟩;simp only[a0a,h1,h2];exact hK
theorem c7k (r:RT t ts)(rh:RH P h hl){sz len:Nat}{zs:List DV}{ps:List (Nat×a0h)}{mu:Bool}(hk:c2k sz len zs ps mu X t h k=AD):a0p P (.bslice sz len zs ps mu) ts hl k:=by
 obtain⟨cs,ez,hk2⟩:=a5s hk;clear hk;subst ez;obtain⟨ds,h1,hk⟩:=c4e hk2;have hk:=b1q hk;obtain⟨rs,h2,hk⟩:=b8b r hk;obtain⟨rows,h',hl',hk,rh',h3⟩:=b9a rh hk;have h2':a8q ts sz (b8q (b3y .d (Af cs)) len) ps=AM (rs.map AH):=by rw[a7i,h1];simpa using h2
 cases mu with
 |true=>obtain⟨h'',hk,hr⟩:=rh'.adds hk;refine⟨_,_,_,_,hk,hr _ rfl,fun S hS mv K hK=> ?_⟩;simp only[a0a,h2',if_true];exact h3 S hS _ hK
 |false=>refine⟨_,_,_,_,hk,rh',fun S hS mv K hK=> ?_⟩;simp only[a0a,h2'];exact h3 S hS _ hK
theorem d4f {rs:List (List CA)}: ∀{k:List (List CD)->Bool},e1q rs k=AD-> ∃rows,d9t (rs.map AH)=AM (AK rows)/\k rows=AD:=by
 induction rs with
 |nil=>intro k hk;exact⟨[],rfl,hk⟩
 |cons r rs ih=>intro k hk;obtain⟨ds,h1,hk⟩:=b1o hk;obtain⟨rows,h2,hk⟩:=ih hk;refine⟨ds::rows,?_,hk⟩;simp only[AP,d9t,h1,h2];rfl
theorem c4z (r:RT t ts)(rh:RH P h hl){sz len:Nat}{zs:List DV}{ps:List (Nat×a0h)}(hk:b8p sz len zs ps X t h k=AD):a0p P (.bsliceP sz len zs ps) ts hl k:=by
 obtain⟨cs,ez,hk2⟩:=a5s hk;clear hk;subst ez;obtain⟨ds,h1,hk⟩:=c4e hk2;have hk:=b1q hk;obtain⟨rs,h2,hk⟩:=b8b r hk;obtain⟨rows,h3,hk⟩:=d4f hk;have h2':a8q ts sz (b8q (b3y .d (Af cs)) len) ps=AM (rs.map AH):=by rw[a7i,h1];simpa using h2
 refine⟨_,_,_,_,hk,rh,fun S hS mv K hK=> ?_⟩;simp only[a0a,h2',h3];exact hK
theorem d8o (r:RT t ts)(rh:RH P h hl){agg:Option Nat}{x:a0h}(hk:d4z agg x X t h k=AD):a0p P (.load agg x) ts hl k:=by obtain⟨v,h1,hk⟩:=a0d r hk;obtain⟨u,hk,h2⟩:=b8j rh hk;refine⟨_,_,_,_,hk,rh,fun S hS mv K hK=> ?_⟩;simp only[a0a,h1];exact h2 S hS _ hK
theorem d2y (r:RT t ts)(rh:RH P h hl){sz:Nat}{a x:a0h}(hk:c6r sz a x X t h k=AD):a0p P (.store sz a x) ts hl k:=by obtain⟨p,h1,hk⟩:=a0d r hk;obtain⟨v,h2,hk⟩:=a0d r hk;obtain⟨h',hl',hk,rh',h3⟩:=c4g rh hk;refine⟨_,_,_,_,hk,rh',fun S hS mv K hK=> ?_⟩;simp only[a0a,h1,h2];exact h3 S hS _ hK
theorem c7v (r:RT t ts)(rh:RH P h hl){x:a0h}(hk:c3k x X t h k=AD):a0p P (.nilchk x) ts hl k:=by obtain⟨v,h1,hk⟩:=a0d r hk;obtain⟨h2,hk⟩:=a0e hk;refine⟨_,_,_,_,hk,rh,fun S hS mv K hK=> ?_⟩;simp only[a0a,h1,CA.isPtr_to,h2,if_true];exact hK
theorem f1u (r:RT t ts)(rh:RH P h hl){op:BinOp}{x y:a0h}(hk:f2y op x y X t h k=AD):a0p P (.bw op x y) ts hl k:=by
 obtain⟨v,h1,hk⟩:=a0d r hk;obtain⟨u,h2,hk⟩:=a0d r hk;split at hk
 ·split at hk
  ·split at hk
   ·exact absurd hk AA
   ·rename_i n ecl;split at hk
    ·obtain⟨h3,hk⟩:=a1v hk;rw[b5a] at hk;refine⟨_,_,_,_,hk,rh,?_⟩;rintro S ⟨A,ro,E,rfl⟩ mv K hK;simp only[a0a,h1,h2,AC,AE,bwI,ecl];exact⟨h3,hK⟩
    ·split at hk
     ·obtain⟨h3,hk2⟩:=a0e hk;rw[b5a] at hk2;have e:=a3y h3;refine⟨_,_,_,_,hk2,rh,?_⟩;rintro S ⟨A,ro,E,rfl⟩ mv K hK;simp only[a0a,h1,h2,AC,AE,bwI,ecl,if_pos e];exact hK
     ·exact absurd hk AA
  ·exact absurd hk AA
 ·exact absurd hk AA
theorem e3q (r:RT t ts)(rh:RH P h hl){op:BinOp}{x y:a0h}(hk:e3f op x y X t h k=AD):a0p P (.bin op x y) ts hl k:=by
 obtain⟨v,h1,hk⟩:=a0d r hk;obtain⟨u,h2,hk⟩:=a0d r hk;split at hk
 ·split at hk
  ·obtain⟨h3,hk⟩:=a0e hk;obtain⟨c,hk,h4⟩:=d1g (P:=P) hk;refine⟨_,_,_,_,hk,rh,fun S hS mv K hK=> ?_⟩;have e:=a3y h3;subst e;simp only[a0a,h1,h2,AC,AE,if_true];exact h4 S hS _ hK
  ·split at hk
   ·obtain⟨h3,hk⟩:=a0e hk;obtain⟨h4,hk⟩:=a1v hk;refine⟨_,_,_,_,hk,rh,?_⟩;rintro S ⟨A,ro,E,rfl⟩ mv K hK;have e:=a3y h3;subst e;simp only[a0a,h1,h2,AC,AE];exact And.intro h4 hK
   ·exact absurd hk AA
  ·exact absurd hk AA
 ·exact absurd hk AA
theorem d7j (r:RT t ts)(rh:RH P h hl){op:BinOp}{x y:a0h}(hk:d5u op x y X t h k=AD):a0p P (.binb op x y) ts hl k:=by
 obtain⟨v,h1,hk⟩:=a0d r hk;obtain⟨a,rfl,hk⟩:=a8a hk;obtain⟨v,h2,hk⟩:=a0d r hk;obtain⟨b,rfl,hk⟩:=a8a hk;cases op
 case eql=>
  cases a<;>cases b<;>
  ·refine⟨_,_,_,_,hk,rh,?_⟩;rintro S ⟨A,ro,E,rfl⟩ mv K hK;simp only[a0a,h1,h2,AC,AE];exact hK
 case neq=>
  cases a<;>cases b<;>
  ·refine⟨_,_,_,_,hk,rh,?_⟩;rintro S ⟨A,ro,E,rfl⟩ mv K hK;simp only[a0a,h1,h2,AC,AE];exact hK
 all_goals exact absurd hk AA
theorem e2e (r:RT t ts)(rh:RH P h hl){neg:Bool}{ks:List AL}{x y:a0h}(hk:e2x neg ks x y X t h k=AD):a0p P (.aeq neg ks x y) ts hl k:=by
 obtain⟨v,h1,hk⟩:=a0d r hk;obtain⟨u,h2,hk⟩:=a0d r hk;split at hk
 ·split at hk
  ·obtain⟨b,hk,h3⟩:=d9l (P:=P) hk;cases neg<;>cases b<;>
   ·refine⟨_,_,_,_,hk,rh,?_⟩;rintro S ⟨A,ro,E,rfl⟩ mv K hK;simp only[a0a,h1,h2,AC,h3 _ ⟨A,ro,E,rfl⟩];exact hK
  ·exact absurd hk AA
 ·exact absurd hk AA
theorem d6p (r:RT t ts)(rh:RH P h hl){neg:Bool}{ks:List CK}{x y:a0h}(hk:d5b neg ks x y X t h k=AD):a0p P (.aeqw neg ks x y) ts hl k:=by
 obtain⟨v,h1,hk⟩:=a0d r hk;obtain⟨u,h2,hk⟩:=a0d r hk;split at hk
 ·split at hk
  ·obtain⟨b,hk,h3⟩:=d3a (P:=P) hk;cases neg<;>cases b<;>
   ·refine⟨_,_,_,_,hk,rh,?_⟩;rintro S ⟨A,ro,E,rfl⟩ mv K hK;simp only[a0a,h1,h2,AC,h3 _ ⟨A,ro,E,rfl⟩];exact hK
  ·exact absurd hk AA
 ·exact absurd hk AA
theorem f1n (r:RT t ts)(rh:RH P h hl){op:UnOp}{x:a0h}(hk:g1j op x X t h k=AD):a0p P (.un op x) ts hl k:=by
 obtain⟨v,h1,hk⟩:=a0d r hk;split at hk
 ·obtain⟨b,rfl,hk⟩:=a8a hk;cases b<;>
  ·refine⟨_,_,_,_,hk,rh,?_⟩;rintro S ⟨A,ro,E,rfl⟩ mv K hK;simp only[a0a,h1,AC,AE];exact hK
 ·split at hk
  ·rw[b5a] at hk;obtain⟨h3,hk⟩:=a0e hk;refine⟨_,_,_,_,hk,rh,?_⟩;rintro S ⟨A,ro,E,rfl⟩ mv K hK;simp only[a0a,h1,AC,AE];exact And.intro (a9a h3) hK
  ·exact absurd hk AA
 ·exact absurd hk AA
theorem d9m (r:RT t ts)(rh:RH P h hl){kd:AL}{x:a0h}(hk:d5v kd x X t h k=AD):a0p P (.conv kd x) ts hl k:=by
 obtain⟨v,h1,hk⟩:=a0d r hk;split at hk
 ·rw[b5a] at hk;refine⟨_,_,_,_,hk,rh,?_⟩;rintro S ⟨A,ro,E,rfl⟩ mv K hK;simp only[a0a,h1,AC,AE];exact hK
 ·exact absurd hk AA
theorem d8q (r:RT t ts)(rh:RH P h hl){f:Ah}{a b:List a0h}(hk:d5h f a b X t h k=AD):a0p P (.mkfn f a b) ts hl k:=by obtain⟨us,h1,hk⟩:=b0d r hk;obtain⟨cs,h2,hk⟩:=b0d r hk;refine⟨_,_,_,_,hk,rh,fun S _ mv K hK=> ?_⟩;simp only[a0a,h1,h2];exact hK
theorem d4g (rh:RH P h hl){wide:Bool}{ks:List AL}(hk:d0g wide ks X t h k=AD):a0p P (.mkmap wide ks) ts hl k:=by obtain⟨h',hk,hr⟩:=rh.adds hk;refine⟨_,_,_,_,hk,hr _ rfl,fun S _ mv K hK=> ?_⟩;exact hK
theorem c8c (rh:RH P h hl){wide:Bool}{ks:List AL}(hk:c2j wide ks X t h k=AD):a0p P (.mkmapv wide ks) ts hl k:=by obtain⟨h',hk,hr⟩:=rh.adds hk;refine⟨_,_,_,_,hk,hr _ rfl,fun S _ mv K hK=> ?_⟩;exact hK
theorem b5k {A:Ann}{ro:Option Nat}{E:Ent}(zs:List CD)(n:Nat):rowAt (AK (List.replicate n zs))=(std P A ro E).rep n (Af zs):=by rw[AJ,List.map_replicate,d0k];rfl
theorem c5q (r:RT t ts)(rh:RH P h hl){sz:Nat}{zs:List DV}{b:Nat}{n:a0h}(hk:b6o sz zs b n X t h k=AD):a0p P (.mkslice sz zs b n) ts hl k:=by obtain⟨cs,ez,hk2⟩:=a5s hk;clear hk;subst ez;obtain⟨v,h1,hk⟩:=a0d r hk2;obtain⟨n',rfl,hk⟩:=a2w hk;obtain⟨h2,hk⟩:=a1v hk;obtain⟨h3,hk⟩:=a1v hk;have hk:=a3e hk;have hk:=b1q hk;obtain⟨h',hk,hr⟩:=rh.adds hk;refine⟨_,_,_,_,hk,hr _ rfl,?_⟩;rintro S ⟨A,ro,E,rfl⟩ mv K hK;simp only[a0a,h1,AC,AE,a9r];refine And.intro h2 (And.intro h3 ?_);rw[a0o];rw[b5k (P:=P) (A:=A) (ro:=ro) (E:=E)] at hK;exact hK
theorem d3u (r:RT t ts)(rh:RH P h hl){sz:Nat}{x:a0h}{lo hi mx:Option a0h}(hk:c7r sz x lo hi mx X t h k=AD):a0p P (.slice sz x lo hi mx) ts hl k:=by obtain⟨v,h1,hk⟩:=a0d r hk;obtain⟨u,hk,h2⟩:=b4n (P:=P) r hk;refine⟨_,_,_,_,hk,rh,fun S hS mv K hK=> ?_⟩;simp only[a0a,h1];exact h2 S hS _ hK
theorem d2u (r:RT t ts)(rh:RH P h hl){n:Nat}{x:a0h}{lo hi:Option a0h}(hk:d0j n x lo hi X t h k=AD):a0p P (.slarr n x lo hi) ts hl k:=by
 obtain⟨v,h1,hk⟩:=a0d r hk;split at hk
 ·obtain⟨lo',hk,hlo⟩:=a2v r hk;obtain⟨hi',hk,hhi⟩:=a2v r hk;obtain⟨h2,hk⟩:=a1v hk;obtain⟨h3,hk⟩:=a1v hk;obtain⟨h4,hk⟩:=a1v hk;have hk:=a3e hk;have hk:=a3e hk;rw[a3j] at hk;split at hk
  ·rename_i e;refine⟨_,_,_,_,hk,rh,?_⟩;rintro S ⟨A,ro,E,rfl⟩ mv K hK;have e':(std P A ro E).nsub (nat (std P A ro E) hi') (nat (std P A ro E) lo')=0:=by rw[a0o,a0o];exact e
   simp only[a0a,h1,AC];refine hlo _ (hhi _ (And.intro h2 (And.intro h3 (And.intro h4 ?_))));rw[e'];exact hK
  ·rename_i m e;refine⟨_,_,_,_,hk,rh,?_⟩;rintro S ⟨A,ro,E,rfl⟩ mv K hK;have e':(std P A ro E).nsub (nat (std P A ro E) hi') (nat (std P A ro E) lo')=m+1:=by rw[a0o,a0o];exact e
   simp only[a0a,h1,AC];refine hlo _ (hhi _ (And.intro h2 (And.intro h3 (And.intro h4 ?_))));rw[e',a0o];exact hK
 ·exact absurd hk AA
theorem d2c (r:RT t ts)(rh:RH P h hl){off:Nat}{x:a0h}(hk:c6l off x X t h k=AD):a0p P (.faddr off x) ts hl k:=by
 obtain⟨v,h1,hk⟩:=a0d r hk;split at hk
 ·rw[a3j] at hk;exact⟨_,_,_,_,hk,rh,fun S _ mv K hK=>by simp only[a0a,h1,AC];exact hK⟩
 ·rw[a3j] at hk;exact⟨_,_,_,_,hk,rh,fun S _ mv K hK=>by simp only[a0a,h1,AC];exact hK⟩
 ·rw[a3j] at hk;exact⟨_,_,_,_,hk,rh,fun S _ mv K hK=>by simp only[a0a,h1,AC];exact hK⟩
 ·exact absurd hk AA
theorem d2h (r:RT t ts)(rh:RH P h hl){off:Nat}{agg:Option Nat}{x:a0h}(hk:c6v off agg x X t h k=AD):a0p P (.field off agg x) ts hl k:=by
 obtain⟨v,h1,hk⟩:=a0d r hk;split at hk
 ·cases agg with
  |none=>obtain⟨v,h2,hk⟩:=a5k hk;exact⟨_,_,_,_,hk,rh,fun S _ mv K hK=>by simp only[a0a,h1,AC,AR h2];exact hK⟩
  |some n=>obtain⟨c,h2,hk⟩:=b4l AC hk;refine⟨_,_,_,_,hk,rh,fun S _ mv K hK=> ?_⟩;simp only[a0a,h1,AC];rw[AF,h2,<-AF];exact hK
 ·exact absurd hk AA
theorem d3s (r:RT t ts)(rh:RH P h hl){sz:Nat}{x i:a0h}(hk:c9b sz x i X t h k=AD):a0p P (.iaddr sz x i) ts hl k:=by obtain⟨v,h1,hk⟩:=a0d r hk;obtain⟨n,rfl,hk⟩:=a2w hk;obtain⟨u,h2,hk⟩:=a0d r hk;obtain⟨w,hk,h3⟩:=b4s (P:=P) hk;refine⟨_,_,_,_,hk,rh,fun S hS mv K hK=> ?_⟩;simp only[a0a,h1,AC,AE,a9r,h2];exact h3 S hS _ hK
theorem c8r (r:RT t ts)(rh:RH P h hl){n sz:Nat}{x i:a0h}(hk:c2m n sz x i X t h k=AD):a0p P (.iaddrA n sz x i) ts hl k:=by
 obtain⟨v,h1,hk⟩:=a0d r hk;obtain⟨i',rfl,hk⟩:=a2w hk;obtain⟨u,h2,hk⟩:=a0d r hk;split at hk
 ·cases i' with
  |l i'=>
   cases i' with
   |ofNat m=>
    obtain⟨h3,hk⟩:=a0e hk;rw[a3j] at hk;refine⟨_,_,_,_,hk,rh,fun S _ mv K hK=> ?_⟩;have h4:Int.beq' (AS m) (AS m)=AD:=by rw[b9m];simp
    have e:(AS m).toNat=m:=rfl;simp only[a0a,h1,AC,AE,a9r,h2,e,h3,h4,Bool.and_self,if_true];exact hK
   |negSucc m=>exact absurd hk AA
  |v i'=>
   cases i' with
   |ofNat m=>obtain⟨h3,hk⟩:=a0e hk;rw[a3j] at hk;refine⟨_,_,_,_,hk,rh,?_⟩;rintro S ⟨A,ro,E,rfl⟩ mv K hK;have h4:m<n:=AG h3;simp only[a0a,h1,AC,AE,a9r,h2];exact⟨⟨Int.natCast_nonneg m,Int.ofNat_lt.2 h4⟩,hK⟩
   |negSucc m=>exact absurd hk AA
 ·exact absurd hk AA
theorem b1z {a b k:Bool}(h:a0w (match a with|true=>b|false=>Bool.not b) k=AD):a=b/\k=AD:=by obtain⟨h1,h2⟩:=a0e h;exact⟨(by cases a<;>cases b<;>first|rfl|cases h1),h2⟩
theorem c9q (r:RT t ts)(rh:RH P h hl){wide:Bool}{ks:List AL}{ok:Bool}{m kx:a0h}(hk:c2a wide ks ok m kx X t h k=AD):a0p P (.lookup wide ks ok m kx) ts hl k:=by
 obtain⟨v,h1,hk⟩:=a0d r hk;split at hk
 ·obtain⟨o,ao,h2,hR,hk⟩:=rh.gets hk;cases o with
  |map wide' ks' n es=>
   cases hR;obtain⟨h3,hk⟩:=b1z hk;obtain⟨h4,hk⟩:=a0e hk;have h4:=b1i h4;obtain⟨u,h5,hk⟩:=a0d r hk;obtain⟨kc,hk,h6⟩:=a4j (P:=P) hk;have hk:=c1g hk;split at hk
   ·rename_i e;cases ok with
    |true=>refine⟨_,_,_,_,hk,rh,?_⟩;rintro S ⟨A,ro,E,rfl⟩ mv K hK;simp only[a0a,h1,AC,h2,h3,h4,and_self,if_true,h5];subst h3 h4;refine h6 _ ⟨A,ro,E,rfl⟩ _ ?_;simp only[std,e];exact hK
    |false=>refine⟨_,_,_,_,hk,rh,?_⟩;rintro S ⟨A,ro,E,rfl⟩ mv K hK;simp only[a0a,h1,AC,h2,h3,h4,and_self,if_true,h5];subst h3 h4;refine h6 _ ⟨A,ro,E,rfl⟩ _ ?_;simp only[std,e];exact hK
   ·rename_i e;cases ok with
    |true=>refine⟨_,_,_,_,hk,rh,?_⟩;rintro S ⟨A,ro,E,rfl⟩ mv K hK;simp only[a0a,h1,AC,h2,h3,h4,and_self,if_true,h5];subst h3 h4;refine h6 _ ⟨A,ro,E,rfl⟩ _ ?_;simp only[std,e];exact hK
    |false=>refine⟨_,_,_,_,hk,rh,?_⟩;rintro S ⟨A,ro,E,rfl⟩ mv K hK;simp only[a0a,h1,AC,h2,h3,h4,and_self,if_true,h5];subst h3 h4;refine h6 _ ⟨A,ro,E,rfl⟩ _ ?_;simp only[std,e];exact hK
  |_=>exact absurd hk AA
 ·exact absurd hk AA
theorem c8m (r:RT t ts)(rh:RH P h hl){wide:Bool}{ks:List AL}{m kx x:a0h}(hk:c2h wide ks m kx x X t h k=AD):a0p P (.mapupd wide ks m kx x) ts hl k:=by
 obtain⟨v,h1,hk⟩:=a0d r hk;split at hk
 ·obtain⟨o,ao,h2,hR,hk⟩:=rh.gets hk;cases o with
  |map wide' ks' n es=>
   cases hR;obtain⟨h3,hk⟩:=b1z hk;obtain⟨h4,hk⟩:=a0e hk;have h4:=b1i h4;obtain⟨u,h5,hk⟩:=a0d r hk;obtain⟨kc,hk,h6⟩:=a4j (P:=P) hk;obtain⟨w,h7,hk⟩:=a0d r hk;obtain⟨x',rfl,hk⟩:=a2w hk;have hk:=c1g hk;have hm: ∀(A:Ann) (ro:Option Nat) (E:Ent),(std P A ro E).mset (b6n es) kc x'.val=b6n ((kc,x'.val)::es):=fun _ _ _=>rfl;split at hk
   ·rename_i e;obtain⟨h',hk,hr⟩:=rh.sets hk;refine⟨_,_,_,_,hk,hr _ rfl,?_⟩;rintro S ⟨A,ro,E,rfl⟩ mv K hK;have hc:(std P A ro E).mcnt (b6n es) kc n=n:=by simp only[std,e];rfl
    simp only[a0a,h1,AC,h2,h3,h4,and_self,if_true,h5,h7];subst h3 h4;refine h6 _ ⟨A,ro,E,rfl⟩ _ ?_;simp only[AE,a9r,hm,hc];exact hK
   ·rename_i e;rw[a3j] at hk;obtain⟨h',hk,hr⟩:=rh.sets hk;refine⟨_,_,_,_,hk,hr _ rfl,?_⟩;rintro S ⟨A,ro,E,rfl⟩ mv K hK;have hc:(std P A ro E).mcnt (b6n es) kc n=n+1:=by simp only[std,e];rfl
    simp only[a0a,h1,AC,h2,h3,h4,and_self,if_true,h5,h7];subst h3 h4;refine h6 _ ⟨A,ro,E,rfl⟩ _ ?_;simp only[AE,a9r,hm,hc];exact hK
  |_=>exact absurd hk AA
 ·exact absurd hk AA
theorem c4r (r:RT t ts)(rh:RH P h hl){wide:Bool}{ks:List AL}{ok:Bool}{z:AV}{m kx:a0h}(hk:b8n wide ks ok z m kx X t h k=AD):a0p P (.lookupv wide ks ok z m kx) ts hl k:=by
 obtain⟨z,ez,hk2⟩:=d0c hk;clear hk;subst ez;obtain⟨v,h1,hk⟩:=a0d r hk2;split at hk
 ·obtain⟨o,ao,h2,hR,hk⟩:=rh.gets hk;cases o with
  |mapv wide' ks' keys vals=>
   cases hR;obtain⟨h3,hk⟩:=b1z hk;obtain⟨h4,hk⟩:=a0e hk;have h4:=b1i h4;obtain⟨u,h5,hk⟩:=a0d r hk;obtain⟨kc,hk,h6⟩:=a4j (P:=P) hk;obtain⟨q,hk,e⟩:=c9f hk;cases q with
   |some q=>
    cases ok with
    |true=>refine⟨_,_,_,_,hk,rh,fun S hS mv K hK=> ?_⟩;simp only[a0a,h1,AC,h2,h3,h4,and_self,if_true,h5];subst h3 h4;refine h6 _ hS _ ?_;simp only[e];exact hK
    |false=>refine⟨_,_,_,_,hk,rh,fun S hS mv K hK=> ?_⟩;simp only[a0a,h1,AC,h2,h3,h4,and_self,if_true,h5];subst h3 h4;refine h6 _ hS _ ?_;simp only[e];exact hK
   |none=>
    cases ok with
    |true=>refine⟨_,_,_,_,hk,rh,fun S hS mv K hK=> ?_⟩;simp only[a0a,h1,AC,h2,h3,h4,and_self,if_true,h5];subst h3 h4;refine h6 _ hS _ ?_;simp only[e];exact hK
    |false=>refine⟨_,_,_,_,hk,rh,fun S hS mv K hK=> ?_⟩;simp only[a0a,h1,AC,h2,h3,h4,and_self,if_true,h5];subst h3 h4;refine h6 _ hS _ ?_;simp only[e];exact hK
  |_=>exact absurd hk AA
 ·exact absurd hk AA
theorem c5r (r:RT t ts)(rh:RH P h hl){wide:Bool}{ks:List AL}{m kx x:a0h}(hk:b6k wide ks m kx x X t h k=AD):a0p P (.mapupdv wide ks m kx x) ts hl k:=by
 obtain⟨v,h1,hk⟩:=a0d r hk;split at hk
 ·obtain⟨o,ao,h2,hR,hk⟩:=rh.gets hk;cases o with
  |mapv wide' ks' keys vals=>
   cases hR;obtain⟨h3,hk⟩:=b1z hk;obtain⟨h4,hk⟩:=a0e hk;have h4:=b1i h4;obtain⟨u,h5,hk⟩:=a0d r hk;obtain⟨kc,hk,h6⟩:=a4j (P:=P) hk;obtain⟨w,h7,hk⟩:=a0d r hk;obtain⟨q,hk,e⟩:=d3g hk;cases q with
   |some q=>obtain⟨h',hk,hr⟩:=rh.sets hk;refine⟨_,_,_,_,hk,hr _ rfl,fun S hS mv K hK=> ?_⟩;simp only[a0a,h1,AC,h2,h3,h4,and_self,if_true,h5,h7];subst h3 h4;refine h6 _ hS _ ?_;simp only[e];exact hK
   |none=>have hk:=a5i hk;have hk:=a5i hk;obtain⟨h',hk,hr⟩:=rh.sets hk;refine⟨_,_,_,_,hk,hr _ rfl,fun S hS mv K hK=> ?_⟩;simp only[a0a,h1,AC,h2,h3,h4,and_self,if_true,h5,h7];subst h3 h4;refine h6 _ hS _ ?_;simp only[e];simpa only[AC,e,Option.map_none,a0r,AF,AI,AP,Ab] using hK
  |_=>exact absurd hk AA
 ·exact absurd hk AA
theorem c4u (r:RT t ts)(rh:RH P h hl){x:a0h}{i:Nat}(hk:b6i x i X t h k=AD):a0p P (.extract x i) ts hl k:=by
 obtain⟨v,h1,hk⟩:=a0d r hk;split at hk
 ·obtain⟨v,h2,hk⟩:=a5k hk;exact⟨_,_,_,_,hk,rh,fun S _ mv K hK=>by simp only[a0a,h1,AC,AR h2];exact hK⟩
 ·exact absurd hk AA
theorem e2r {v:CA}{cs:List AV}(h:v.to= .agg cs): ∃ds,v= .agg ds:=by cases v<;>simp[AC] at h;exact⟨_,rfl⟩
theorem e3o {v:CA}{l o:Nat}(h:v.to= .ptr l o):v= .ptr l o:=by cases v<;>simp[AC] at h;obtain⟨rfl,rfl⟩:=h;rfl
theorem c0m (r:RT t ts)(rh:RH P h hl){x:a0h}{i:Nat}(hk:b2x x i X t h k=AD):a0p P (.extractF x i) ts hl k:=by
 obtain⟨v,h1,hk⟩:=a0d r hk;split at hk
 ·obtain⟨v,h2,hk⟩:=a5k hk;have h2:=AR h2;split at hk
  ·obtain⟨cs',h',hl',hk,rh',h3⟩:=a3r rh hk;refine⟨_,_,_,_,hk,rh',fun S hS mv K hK=> ?_⟩;simp only[a0a,h1,AC,h2];exact h3 S hS _ hK
  ·obtain⟨v',h',hl',hk,rh',h3⟩:=a7x rh hk;refine⟨_,_,_,_,hk,rh',fun S hS mv K hK=> ?_⟩;simp only[a0a,h1,AC,h2];exact h3 S hS _ hK
  ·rename_i v hne hne2;obtain⟨v',h',hl',hk,rh',h3⟩:=a9h rh hk;refine⟨_,_,_,_,hk,rh',fun S hS mv K hK=> ?_⟩;simp only[a0a,h1,AC,h2];split
   ·rename_i cs e;injection e with e
    obtain⟨ds,rfl⟩:=e2r e;exact absurd rfl (hne ds)
   ·rename_i l e;injection e with e
    have:=e3o e;exact absurd this (hne2 l)
   ·rename_i u _ _ e;injection e with e
    subst e;exact h3 S hS _ hK
   ·rename_i e;cases e
 ·exact absurd hk AA
theorem c4c (r:RT t ts)(rh:RH P h hl){sz b:Nat}{x y:a0h}(hk:b7u sz b x y X t h k=AD):a0p P (.appendP sz b x y) ts hl k:=by
 obtain⟨v,h1,hk⟩:=a0d r hk;obtain⟨u,h2,hk⟩:=a0d r hk;split at hk
 ·split at hk
  ·exact⟨_,_,_,_,hk,rh,fun S _ mv K hK=>by simp only[a0a,h1,h2,AC,AE];exact hK⟩
  ·obtain⟨h3,hk⟩:=a0e hk;obtain⟨h4,hk⟩:=a7t hk;refine⟨_,_,_,_,hk,rh,?_⟩;rintro S ⟨A,ro,E,rfl⟩ mv K hK;simp only[a0a,h1,h2,AC,AE,if_pos h3];exact⟨h4,hK⟩
  ·exact absurd hk AA
 ·exact absurd hk AA
theorem d2q {kc:List KC}{ks:List (List KC)}: ∀{n:Nat} {k:Option Nat->Bool},d1y kc ks n k=AD->k (c9t kc ks n)=AD:=by
 induction ks with
 |nil=>intro n k hk;exact hk
 |cons k' ks ih=>
  intro n k hk;unfold d1y at hk;cases e:d0y kc k' with
  |true=>
   rw[e] at hk;have:kc=k':=by rw[b2e] at e;exact of_decide_eq_true e
   rw[c9t,if_pos this.symm];exact hk
  |false=>
   rw[e] at hk;have: ¬kc=k':=by rw[b2e] at e;exact of_decide_eq_false e
   rw[c9t,if_neg (fun h=>this h.symm)];exact ih hk
theorem c6t (r:RT t ts)(rh:RH P h hl){wide:Bool}{ks:List AL}{z:AV}{m kx:a0h}(hk:c3h wide ks z m kx X t h k=AD):a0p P (.mapent wide ks z m kx) ts hl k:=by
 obtain⟨z,ez,hk2⟩:=d0c hk;clear hk;subst ez;obtain⟨v,h1,hk⟩:=a0d r hk2;split at hk
 ·obtain⟨o,ao,h2,hR,hk⟩:=rh.gets hk;cases o with
  |mapv wide' ks' keys vals=>
   cases hR;obtain⟨h3,hk⟩:=b1z hk;obtain⟨h4,hk⟩:=a0e hk;have h4:=b1i h4;obtain⟨u,h5,hk⟩:=a0d r hk;obtain⟨kc,hk,h6⟩:=a4j (P:=P) hk;have hk:=d2q hk;cases e:c9t kc keys 0 with
   |some i=>rw[e] at hk;obtain⟨y,h7,hk⟩:=a5k hk;have h7:=AR h7;refine⟨_,_,_,_,hk,rh,?_⟩;rintro S ⟨A,ro,E,rfl⟩ mv K hK;simp only[a0a,h1,AC,h2,h3,h4,and_self,if_true,h5];subst h3 h4;refine h6 _ ⟨A,ro,E,rfl⟩ _ ?_;simp only[e,h7];exact hK
   |none=>
    rw[e] at hk;have hk:=a8k hk;have hk:=a5i hk;have hk:=a5i hk;obtain⟨h',hk,hr⟩:=rh.sets hk;refine⟨_,_,_,_,hk,hr _ rfl,?_⟩;rintro S ⟨A,ro,E,rfl⟩ mv K hK;simp only[a0a,h1,AC,h2,h3,h4,and_self,if_true,h5];subst h3 h4;refine h6 _ ⟨A,ro,E,rfl⟩ _ ?_;simp only[e];have hn:(std P A ro E).ofNat (a3q keys)=AS (Aa+keys.length):=by rw[a0u,show Aa+keys.length=keys.length from Ac _];rfl
    rw[hn];simpa only[AC,AH,AE,a0r,AF,AI,AP,Ab] using hK
  |_=>exact absurd hk AA
 ·exact absurd hk AA
theorem d3t (r:RT t ts)(rh:RH P h hl){m s x:a0h}(hk:c8x m s x X t h k=AD):a0p P (.entst m s x) ts hl k:=by
 obtain⟨v,h1,hk⟩:=a0d r hk;split at hk
 ·obtain⟨o,ao,h2,hR,hk⟩:=rh.gets hk;cases o with
  |mapv wide ks keys vals=>
   cases hR;obtain⟨u,h5,hk⟩:=a0d r hk;obtain⟨n,rfl,hk⟩:=a2w hk;have hk:=a8k hk;obtain⟨hk,h6⟩:=b5x (P:=P) hk;obtain⟨y,h7,hk⟩:=a0d r hk;have hk:=c0d hk;obtain⟨h',hk,hr⟩:=rh.sets hk.2;refine⟨_,_,_,_,hk,hr _ rfl,fun S hS mv K hK=> ?_⟩;simp only[a0a,h1,AC,h2,h5,AE,a9r,h7];have hn:a3q (AH vals)=Aa+vals.length:=by rw[a0u,AF,List.length_map];exact (Ac _).symm
   rw[hn];refine h6 S hS _ ?_;simpa only[AC,a0l,AF,List.map_set] using hK
  |_=>exact absurd hk AA
 ·exact absurd hk AA
end
section
variable {P:Ag} {X:XS} {t:TS} {ts:List AV} {h:CH} {hl:List a0f} {k:CA->CH->List Nat->Bool}
theorem d1t (v:CA):d9s v.to=(c6k v).to:=by
 cases v with
 |d x=>
  cases x with
  |raw u=>
   cases u with
   |func c us vs=>
    cases c with
    |func f=>simp only[c6k,d9s,AC,AE];show (if (AU us.size 0&&AU vs.size 0)=AD then _ else _)=AC (match AU us.size 0 with|true=>_|false=>_);cases AU us.size 0<;>cases AU vs.size 0<;>rfl
    |_=>rfl
   |_=>rfl
  |_=>rfl
 |_=>rfl
theorem d9b (x:XOk P X)(r:RT t ts)(rh:RH P h hl){f:a0h}{args:List a0h}{m:Mode}(hk:d5y f args m X t h k=AD):a0p P (.call f args m) ts hl k:=by
 obtain⟨v,h1,hk⟩:=a0d r hk;have h1:d9s (opd ts f)=(c6k v).to:=by rw[h1,d1t]
 revert h1 hk;generalize c6k v=v;intro hk h1;split at hk
 ·rename_i g first cap
  obtain⟨as,h2,hk⟩:=b0d r hk;have hk:=a5i hk;have hk:=a5i hk;have e:a2u (AH first) (a2u (AH as) (AH cap))=AH (first++(as++cap)):=by rw[a0r,a0r,AF,AF,AF,AF];simp
  cases m with
  |borrow=>obtain⟨vs,hk,h3⟩:=d0b rh hk;obtain⟨h4,hk⟩:=a7o hk;obtain⟨ws,hk,h5⟩:=a1p _ hk;obtain⟨u,hk,h6⟩:=x.pcall hk;refine⟨_,_,_,_,hk,rh,?_⟩;rintro S ⟨A,ro,E,rfl⟩ mv K hK;simp only[a0a,h1,AC,h2,e];refine h3 _ ⟨A,ro,E,rfl⟩ _ ?_;simp only[h4,if_true];rw[<-h5];exact⟨_,h6,hK⟩
  |share=>obtain⟨vs,h',hl',hk,rh',h3⟩:=b2g rh hk;obtain⟨h4,hk⟩:=a7o hk;obtain⟨ws,hk,h5⟩:=a1p _ hk;obtain⟨u,hk,h6⟩:=x.pcall hk;refine⟨_,_,_,_,hk,rh',?_⟩;rintro S ⟨A,ro,E,rfl⟩ mv K hK;simp only[a0a,h1,AC,h2,e];refine h3 _ ⟨A,ro,E,rfl⟩ _ ?_;simp only[h4,if_true];rw[<-h5];exact⟨_,h6,hK⟩
  |data=>obtain⟨h4,hk⟩:=a7o hk;obtain⟨ws,hk,h5⟩:=a1p _ hk;obtain⟨u,hk,h6⟩:=x.pcall hk;refine⟨_,_,_,_,hk,rh,?_⟩;rintro S ⟨A,ro,E,rfl⟩ mv K hK;simp only[a0a,h1,AC,h2,e,h4,if_true];rw[<-h5];exact⟨_,h6,hK⟩
  |raw=>obtain⟨ws,hk,h5⟩:=a1p _ hk;obtain⟨pg,u,h',hl',hk,rh',h6⟩:=x.call rh hk;refine⟨_,_,_,_,hk,rh',?_⟩;rintro S ⟨A,ro,E,rfl⟩ mv K hK;simp only[a0a,h1,AC,h2,e];rw[<-h5];exact h6 (fun pg v h''=>K v h'' pg) hK
  |fresh=>exact absurd hk AA
 ·rename_i l;split at hk
  ·obtain⟨as,h2,hk⟩:=b0d r hk;obtain⟨ws,hk,h5⟩:=a1p _ hk;obtain⟨pg,u,h',hl',hk,rh',h6⟩:=x.yld rh hk;refine⟨_,_,_,_,hk,rh',?_⟩;rintro S ⟨A,ro,E,rfl⟩ mv K hK;simp only[a0a,h1,AC,h2,if_true];rw[<-h5];exact h6 (fun pg v h''=>K v h'' pg) hK
  ·exact absurd hk AA
 ·exact absurd hk AA
theorem e2d (r:RT t ts)(rh:RH P h hl){x:a0h}(hk:e2a x X t h k=AD):a0p P (.len x) ts hl k:=by
 obtain⟨v,h1,hk⟩:=a0d r hk;split at hk<;>first
  |exact absurd hk AA
  |(refine⟨_,_,_,_,hk,rh,?_⟩
    rintro S ⟨A,ro,E,rfl⟩ mv K hK;simp only[a0a,h1,AC,AE];exact hK)
theorem d8a (r:RT t ts)(rh:RH P h hl){x:a0h}(hk:d4x x X t h k=AD):a0p P (.lenm x) ts hl k:=by
 obtain⟨v,h1,hk⟩:=a0d r hk;split at hk
 ·obtain⟨o,ao,h2,hR,hk⟩:=rh.gets hk;cases o with
  |map wide' ks' n es=>cases hR;refine⟨_,_,_,_,hk,rh,?_⟩;rintro S ⟨A,ro,E,rfl⟩ mv K hK;simp only[a0a,h1,AC,h2];exact hK
  |_=>exact absurd hk AA
 ·exact absurd hk AA
theorem e1a (r:RT t ts)(rh:RH P h hl){x:a0h}(hk:e1w x X t h k=AD):a0p P (.cap x) ts hl k:=by
 obtain⟨v,h1,hk⟩:=a0d r hk;split at hk
 ·obtain⟨o,ao,h2,hR,hk⟩:=rh.gets hk;cases o with
  |arr sz' n' e=>
   cases hR;obtain⟨h3,hk⟩:=a0e hk;split at hk
   ·refine⟨_,_,_,_,hk,rh,?_⟩;rintro S ⟨A,ro,E,rfl⟩ mv K hK;simp only[a0a,h1,AC,h2,h3,if_true];exact hK
   ·split at hk
    ·refine⟨_,_,_,_,hk,rh,?_⟩;rintro S ⟨A,ro,E,rfl⟩ mv K hK;simp only[a0a,h1,AC,h2,h3,if_true];exact hK
    ·rw[a3j] at hk;refine⟨_,_,_,_,hk,rh,?_⟩;rintro S ⟨A,ro,E,rfl⟩ mv K hK;simp only[a0a,h1,AC,h2,h3,if_true];exact hK
  |_=>exact absurd hk AA
 ·exact absurd hk AA
theorem e2v (r:RT t ts)(rh:RH P h hl){x y:a0h}(hk:e3l x y X t h k=AD):a0p P (.min x y) ts hl k:=by
 obtain⟨v,h1,hk⟩:=a0d r hk;obtain⟨u,h2,hk⟩:=a0d r hk;split at hk
 ·split at hk
  ·obtain⟨h3,hk⟩:=a0e hk;have e:=a3y h3;split at hk
   ·rename_i c;rw[b2c] at c;refine⟨_,_,_,_,hk,rh,?_⟩;rintro S ⟨A,ro,E,rfl⟩ mv K hK;simp only[a0a,h1,h2,AC,AE,e,if_true];simp only[std,c,if_true];rw[e] at hK;exact hK
   ·rename_i c;rw[b2c] at c;refine⟨_,_,_,_,hk,rh,?_⟩;rintro S ⟨A,ro,E,rfl⟩ mv K hK;simp only[a0a,h1,h2,AC,AE,e,if_true];simp only[std,c];rw[e] at hK;exact hK
  ·exact absurd hk AA
 ·exact absurd hk AA
theorem e1v (r:RT t ts)(rh:RH P h hl){x y:a0h}(hk:e1f x y X t h k=AD):a0p P (.max x y) ts hl k:=by
 obtain⟨v,h1,hk⟩:=a0d r hk;obtain⟨u,h2,hk⟩:=a0d r hk;split at hk
 ·split at hk
  ·obtain⟨h3,hk⟩:=a0e hk;have e:=a3y h3;split at hk
   ·rename_i c;rw[b2c] at c;refine⟨_,_,_,_,hk,rh,?_⟩;rintro S ⟨A,ro,E,rfl⟩ mv K hK;simp only[a0a,h1,h2,AC,AE,e,if_true];simp only[std,c,if_true];rw[e] at hK;exact hK
   ·rename_i c;rw[b2c] at c;refine⟨_,_,_,_,hk,rh,?_⟩;rintro S ⟨A,ro,E,rfl⟩ mv K hK;simp only[a0a,h1,h2,AC,AE,e,if_true];simp only[std,c];rw[e] at hK;exact hK
  ·exact absurd hk AA
 ·exact absurd hk AA
theorem c8j (r:RT t ts)(rh:RH P h hl){sz b:Nat}{x y:a0h}{mu:Bool}(hk:c2g sz b x y mu X t h k=AD):a0p P (.append sz b x y mu) ts hl k:=by obtain⟨v,h1,hk⟩:=a0d r hk;obtain⟨u,h2,hk⟩:=a0d r hk;obtain⟨w,h',hl',pg,hk,rh',h3⟩:=a6p rh hk;refine⟨_,_,_,_,hk,rh',fun S hS mv K hK=> ?_⟩;simp only[a0a,h1,h2];exact h3 S hS _ hK
theorem d8d (r:RT t ts)(rh:RH P h hl){sz:Nat}{x y:a0h}(hk:d5o sz x y X t h k=AD):a0p P (.copy sz x y) ts hl k:=by obtain⟨v,h1,hk⟩:=a0d r hk;obtain⟨u,h2,hk⟩:=a0d r hk;obtain⟨w,h',hl',hk,rh',h3⟩:=b7m rh hk;refine⟨_,_,_,_,hk,rh',fun S hS mv K hK=> ?_⟩;simp only[a0a,h1,h2];exact h3 S hS _ hK
theorem b9k (r:RT t ts)(rh:RH P h hl){sz:Nat}{x y:a0h}(hk:b3i sz x y X t h k=AD):a0p P (.appendIn sz x y) ts hl k:=by obtain⟨v,h1,hk⟩:=a0d r hk;obtain⟨u,h2,hk⟩:=a0d r hk;obtain⟨w,h',hl',hk,rh',h3⟩:=b5i rh hk;refine⟨_,_,_,_,hk,rh',fun S hS mv K hK=> ?_⟩;simp only[a0a,h1,h2];exact h3 S hS _ hK
theorem d1q (r:RT t ts)(rh:RH P h hl){sz:Nat}{zs:List DV}{x:a0h}(hk:c6w sz zs x X t h k=AD):a0p P (.clear sz zs x) ts hl k:=by
 obtain⟨cs,ez,hk2⟩:=a5s hk;clear hk;subst ez;obtain⟨v,h1,hk⟩:=a0d r hk2;split at hk
 ·obtain⟨h2,hk⟩:=a0e hk;obtain⟨o,ao,h3,hR,hk⟩:=rh.gets hk;cases o with
  |arr sz'' n' e=>cases hR;obtain⟨h4,hk⟩:=a0e hk;have hk:=a6x (P:=P) (A:={}) (ro:=Ad) (E:=E0) hk;obtain⟨h6,hk⟩:=a7t hk;have hk:=b1q hk;obtain⟨h7,h8,hk⟩:=b9z hk;obtain⟨h',hk,hr⟩:=rh.sets hk;refine⟨_,_,_,_,hk,hr _ rfl,?_⟩;rintro S ⟨A,ro,E,rfl⟩ mv K hK;simp only[a0a,h1,AC,h2,h3,h4,if_true];rw[b4x (P:=P) (A:=A) (ro:=ro) (E:=E) h7 h8,b2z,b5k (P:=P) (A:=A) (ro:=ro) (E:=E)] at hK;exact And.intro h6 hK
  |_=>exact absurd hk AA
 ·exact absurd hk AA
theorem d3v (r:RT t ts)(rh:RH P h hl){neg:Bool}{x:a0h}(hk:c7u neg x X t h k=AD):a0p P (.isnil neg x) ts hl k:=by
 obtain⟨v,h1,hk⟩:=a0d r hk;split at hk
 ·cases neg<;>
  ·refine⟨_,_,_,_,hk,rh,?_⟩;rintro S ⟨A,ro,E,rfl⟩ mv K hK;simp only[a0a,h1,AC,AE];exact hK
 ·obtain⟨h2,hk⟩:=a9m hk;refine⟨_,_,_,_,hk,rh,?_⟩;rintro S ⟨A,ro,E,rfl⟩ mv K hK;simp only[a0a,h1,AC,AE];exact And.intro h2 hK
 ·obtain⟨h2,hk⟩:=a9m hk;refine⟨_,_,_,_,hk,rh,?_⟩;rintro S ⟨A,ro,E,rfl⟩ mv K hK;simp only[a0a,h1,AC];exact And.intro h2 hK
 ·obtain⟨h2,hk⟩:=a9m hk;refine⟨_,_,_,_,hk,rh,?_⟩;rintro S ⟨A,ro,E,rfl⟩ mv K hK;simp only[a0a,h1,AC];exact And.intro h2 hK
 ·exact absurd hk AA
theorem c9a (r:RT t ts)(rh:RH P h hl){sz:Nat}{x:a0h}{lo hi:Option a0h}(hk:c1r sz x lo hi X t h k=AD):a0p P (.slicex sz x lo hi) ts hl k:=by
 obtain⟨v,h1,hk⟩:=a0d r hk;split at hk
 ·obtain⟨h2,hk⟩:=a0e hk;obtain⟨o,ao,h3,hR,hk⟩:=rh.gets hk;cases o with
  |arr sz'' n' e=>cases hR;obtain⟨h4,hk⟩:=a0e hk;obtain⟨lo',hk,hlo⟩:=a2v r hk;obtain⟨hi',hk,hhi⟩:=a2v r hk;obtain⟨h5,hk⟩:=a1v hk;obtain⟨h6,hk⟩:=a1v hk;have hk:=a3e hk;have hk:=a6x (P:=P) (A:={}) (ro:=Ad) (E:=E0) hk;obtain⟨h7,hk⟩:=a7t hk;have hk:=a3e hk;rw[a3j] at hk;obtain⟨s',hk,h8⟩:=a6b (P:=P) hk;refine⟨_,_,_,_,hk,rh,?_⟩;rintro S ⟨A,ro,E,rfl⟩ mv K hK;simp only[a0a,h1,AC,h2,h3,h4,if_true];refine hlo _ (hhi _ (And.intro h5 (And.intro h6 ?_)));rw[h8 _ ⟨A,ro,E,rfl⟩,a0o,a0o];exact And.intro h7 hK
  |_=>exact absurd hk AA
 ·exact absurd hk AA
theorem d8y (r:RT t ts)(rh:RH P h hl){l:List UInt8}{x:a0h}(hk:d5k l x X t h k=AD):a0p P (.idxs l x) ts hl k:=by
 obtain⟨v,h1,hk⟩:=a0d r hk;split at hk
 ·rename_i i;have hk:=a3e hk;obtain⟨h2,hk⟩:=a1v hk;obtain⟨b,h3,hk⟩:=a5k hk;rw[a3j] at hk;refine⟨_,_,_,_,hk,rh,?_⟩;rintro S ⟨A,ro,E,rfl⟩ mv K hK;have hlt:=(AN.1 h3).1;simp only[a0a,h1,AC,AE];refine And.intro (show (0:Int)<=_/\_<((a3q l:Nat):Int) from⟨h2,by rw[a0u];simp only[AX] at h2;omega⟩) ?_;have e:(std P A ro E).sidx l (IX.val ‹IX›)=((b.toNat:Nat):Int):=by simp only[std,List.getD_eq_getElem?_getD,h3,Option.getD_some]
  rw[e];exact hK
 ·exact absurd hk AA
theorem b2f (r:RT t ts){sz sz' n:Nat}{lo hi mx:Option a0h}{k:Unit->Bool}(hk:b4a t sz sz' n lo hi mx k=AD):k ()=AD/\ ∀S,Sd P S-> ∀K:Prop,K->a4h S ts sz sz' n lo hi mx K:=by obtain⟨h1,hk⟩:=a0e hk;obtain⟨lo',hk,hlo⟩:=a2v r hk;obtain⟨hi',hk,hhi⟩:=a2v r hk;obtain⟨mx',hk,hmx⟩:=a2v r hk;obtain⟨h2,hk⟩:=a1v hk;obtain⟨h3,hk⟩:=a1v hk;obtain⟨h4,hk⟩:=a1v hk;obtain⟨h5,hk⟩:=a1v hk;refine⟨hk,?_⟩;rintro S ⟨A,ro,E,rfl⟩ K hK;simp only[a4h,h1,if_true];exact hlo _ (hhi _ (hmx _ (And.intro h2 (And.intro h3 (And.intro h4 (And.intro h5 hK))))))
theorem d2n (r:RT t ts)(rh:RH P h hl){sz:Nat}{x:a0h}{lo hi mx:Option a0h}(hk:c7e sz x lo hi mx X t h k=AD):a0p P (.slchk sz x lo hi mx) ts hl k:=by
 obtain⟨v,h1,hk⟩:=a0d r hk;split at hk
 ·obtain⟨hk,h2⟩:=b2f (P:=P) r hk;refine⟨_,_,_,_,hk,rh,fun S hS mv K hK=> ?_⟩;simp only[a0a,h1,AC];exact h2 S hS _ hK
 ·obtain⟨hk,h2⟩:=b2f (P:=P) r hk;refine⟨_,_,_,_,hk,rh,fun S hS mv K hK=> ?_⟩;simp only[a0a,h1,AC,AE];exact h2 S hS _ hK
 ·exact absurd hk AA
theorem e1e (r:RT t ts)(rh:RH P h hl){x y:a0h}(hk:e0z x y X t h k=AD):a0p P (.ovl x y) ts hl k:=by
 obtain⟨v,h1,hk⟩:=a0d r hk;obtain⟨u,h2,hk⟩:=a0d r hk;split at hk
 ·split at hk
  ·split at hk
   ·exact absurd hk AA
   ·rename_i hne;obtain⟨h3,hk⟩:=a9m hk;obtain⟨h4,hk⟩:=a9m hk;obtain⟨o,ao,h5,hR,hk⟩:=rh.gets hk;cases o with
    |arr sz n e=>
     cases hR;obtain⟨o',ao',h6,hR',hk⟩:=rh.gets hk;cases o' with
     |arr sz' n' e'=>cases hR';obtain⟨h7,hk⟩:=a0e hk;obtain⟨h8,hk⟩:=a0e hk;obtain⟨h9,hk⟩:=a9m hk;refine⟨_,_,_,_,hk,rh,?_⟩;rintro S ⟨A,ro,E,rfl⟩ mv K hK;have e1:=AB h7;have e2:=AB h8;subst e1 e2;simp only[a0a,h1,h2,AC,hne];refine And.intro h3 (And.intro h4 ?_);simp only[h5,h6];exact And.intro h9 hK
     |_=>exact absurd hk AA
    |_=>exact absurd hk AA
  ·exact absurd hk AA
 ·exact absurd hk AA
theorem b6a {v:CA}(h:a8t v=AD):a4d v.to=AD:=by
 unfold a8t at h;split at h
 ·rfl
 ·have:=AB h;subst this;rfl
 ·have:=AB h;subst this;rfl
 ·have:=AB h;subst this;rfl
 ·cases h
theorem b6x {v:CA}(h:a8t v=AT):a4d v.to=AT:=by
 unfold a8t at h;split at h
 ·cases h
 ·rename_i n _;cases n with
  |zero=>cases h
  |succ n=>rfl
 ·rename_i n _;cases n with
  |zero=>cases h
  |succ n=>rfl
 ·rename_i n _;cases n with
  |zero=>cases h
  |succ n=>rfl
 ·rename_i h1 h2 h3 h4;cases v with
  |d x=>cases x<;>first|rfl|exact (h1 rfl).elim|exact (h2 _ _ _ rfl).elim
  |dfs=>exact (h3 _ _ _ rfl).elim
  |msl=>exact (h4 _ _ _ _ _ rfl).elim
  |_=>rfl
theorem d1j {v:CA}(h:c6n v=AT):v.to≠ .d .nil:=by intro e;rw[CA.to_nil e] at h;cases h
theorem d6z {v:CA}{s:Nat}{e:Nat->List DV}(h:v.to= .dfs s 0 e):d1e v=AD:=by cases v<;>simp[AC] at h;obtain⟨_,rfl,_⟩:=h;rfl
theorem c5f (r:RT t ts)(rh:RH P h hl){sz b:Nat}{x y:a0h}{mu:Bool}(hk:b6u sz b x y mu X t h k=AD):a0p P (.appendN sz b x y mu) ts hl k:=by
 obtain⟨v,h1,hk⟩:=a0d r hk;obtain⟨u,h2,hk⟩:=a0d r hk;have gen: ¬((v.to= .d .nil\/d1e v=AD)/\a4d u.to=AD)->a2c h sz v u mu k=AD->a0p P (.appendN sz b x y mu) ts hl k:=by
  intro hne hk;obtain⟨w,h',hl',pg,hk,rh',h3⟩:=a6p rh hk;refine⟨_,_,_,_,hk,rh',fun S hS mv K hK=> ?_⟩;simp only[a0a,h1,h2];split
  ·rename_i e1 e2;exact (hne ⟨.inl e1,e2⟩).elim
  ·rename_i e1 e2;exact (hne ⟨.inr (d6z e1),e2⟩).elim
  ·exact h3 S hS _ hK
 split at hk
 ·rename_i e;split at hk
  ·rename_i e2;have hv:v.to= .d .nil:=by
    unfold c6n at e;split at e
    ·rfl
    ·cases e
   refine⟨_,_,_,_,hk,rh,fun S hS mv K hK=> ?_⟩;simp only[a0a,h1,h2,hv,b6a e2];exact hK
  ·rename_i e2;exact gen (fun c=>by rw[b6x e2] at c;cases c.2) hk
 ·rename_i e;split at hk
  ·rename_i e3;split at hk
   ·rename_i e2;obtain⟨s0,r0,rfl⟩: ∃s r,v= .dfs s 0 r:=by
     unfold d1e at e3;split at e3
     ·rename_i a b c;have:=AB e3;subst this;exact⟨_,_,rfl⟩
     ·cases e3
    refine⟨_,_,_,_,hk,rh,fun S hS mv K hK=> ?_⟩;simp only[a0a,h1,h2,AC,b6a e2];exact hK
   ·rename_i e2;exact gen (fun c=>by rw[b6x e2] at c;cases c.2) hk
  ·rename_i e3;exact gen (fun c=>by
    rcases c.1 with c|c
    ·exact d1j e c
    ·rw[e3] at c;cases c) hk
theorem c4m (rh:RH P h hl){sz:Nat}(hk:b8i sz X t h k=AD):a0p P (.bslice0 sz) ts hl k:=
 ⟨_,_,_,_,hk,rh,fun S _ mv K hK=>by simp only[a0a];exact hK⟩
theorem a5v (x:XOk P X)(r:RT t ts)(rh:RH P h hl){o:IOp}(hk:c0a X o t h k=AD):a0p P o ts hl k:=by
 cases o with
 |mv=>exact f2b (X:=X) r rh hk
 |newnil=>exact d0q (X:=X) (t:=t) rh hk
 |bnew=>exact d7y (X:=X) (t:=t) rh hk
 |pick=>exact d7n (X:=X) r rh hk
 |alloc=>exact d1m (X:=X) (t:=t) rh hk
 |box=>exact e0v (X:=X) r rh hk
 |build=>exact d3d (X:=X) r rh hk
 |bslice=>exact c7k (X:=X) r rh hk
 |load=>exact d8o (X:=X) r rh hk
 |store=>exact d2y (X:=X) r rh hk
 |nilchk=>exact c7v (X:=X) r rh hk
 |bin=>exact e3q (X:=X) r rh hk
 |binb=>exact d7j (X:=X) r rh hk
 |aeq=>exact e2e (X:=X) r rh hk
 |un=>exact f1n (X:=X) r rh hk
 |conv=>exact d9m (X:=X) r rh hk
 |mkfn=>exact d8q (X:=X) r rh hk
 |mkmap=>exact d4g (X:=X) (t:=t) rh hk
 |mkslice=>exact c5q (X:=X) r rh hk
 |slice=>exact d3u (X:=X) r rh hk
 |slarr=>exact d2u (X:=X) r rh hk
 |faddr=>exact d2c (X:=X) r rh hk
 |field=>exact d2h (X:=X) r rh hk
 |iaddr=>exact d3s (X:=X) r rh hk
 |iaddrA=>exact c8r (X:=X) r rh hk
 |lookup=>exact c9q (X:=X) r rh hk
 |mapupd=>exact c8m (X:=X) r rh hk
 |extract=>exact c4u (X:=X) r rh hk
 |call=>exact d9b x r rh hk
 |len=>exact e2d (X:=X) r rh hk
 |lenm=>exact d8a (X:=X) r rh hk
 |cap=>exact e1a (X:=X) r rh hk
 |min=>exact e2v (X:=X) r rh hk
 |append=>exact c8j (X:=X) r rh hk
 |copy=>exact d8d (X:=X) r rh hk
 |bad=>exact absurd hk AA
 |appendIn=>exact b9k (X:=X) r rh hk
 |clear=>exact d1q (X:=X) r rh hk
 |isnil=>exact d3v (X:=X) r rh hk
 |slicex=>exact c9a (X:=X) r rh hk
 |idxs=>exact d8y (X:=X) r rh hk
 |slchk=>exact d2n (X:=X) r rh hk
 |ovl=>exact e1e (X:=X) r rh hk
 |appendN=>exact c5f (X:=X) r rh hk
 |bw=>exact f1u (X:=X) r rh hk
 |max=>exact e1v (X:=X) r rh hk
 |aeqw=>exact d6p (X:=X) r rh hk
 |mkmapv=>exact c8c (X:=X) (t:=t) rh hk
 |lookupv=>exact c4r (X:=X) r rh hk
 |mapupdv=>exact c5r (X:=X) r rh hk
 |bsliceP=>exact c4z (X:=X) r rh hk
 |extractF=>exact c0m (X:=X) r rh hk
 |mapent=>exact c6t (X:=X) r rh hk
 |appendP=>exact c4c (X:=X) r rh hk
 |bslice0=>exact c4m (X:=X) (t:=t) rh hk
 |entst=>exact d3t (X:=X) r rh hk
 |bnewv=>exact absurd hk AA
 |appendV=>exact absurd hk AA
 |bnewm=>exact absurd hk AA
end
structure SR (P:Ag)(base:Nat)(t:TS)(h:CH)(mv:List Nat)(st:St):Prop where
 ts:RT t st.ts
 h:RH P h st.h
 mv:MV base st.mv mv
theorem d3l (pg:List Nat): ∀(st:St) (m:Nat),m∈(st.purge pg).mv->m∈pg\/m∈st.mv:=by
 induction pg with
 |nil=>intro st m h;exact .inr h
 |cons l pg ih=>
  intro st m h;rcases ih _ m h with h|h
  ·exact .inl (by simp[h])
  ·rcases List.mem_cons.1 h with h|h
   ·exact .inl (by simp[h])
   ·exact .inr h
def f7m (g:Option (Nat×Bool))(st:St):Prop:= ∃j want,g=AM (j,want)/\(a1a st.ts j=AM .und\/ ∃b,a1a st.ts j=AM (.d (.bool b))/\b≠want)
def GOn (g:Option (Nat×Bool))(st:St):Prop:=g=Ad\/ ∃j want,g=AM (j,want)/\a1a st.ts j=AM (.d (.bool want))
theorem a5q {st:St}{j:Nat}{b:Bool}(h:a1a st.ts j=AM (.d (.bool b))):st.setb j b=st:=by
 obtain⟨ts,hl,mv⟩:=st;simp only[St.setb,St.put,a0l];rw[a0i] at h;congr 1;refine AY fun i=> ?_;by_cases e:i=j
 ·subst e;have h':ts[i]? =AM (.d (.bool b)):=h;rw[List.getElem?_set,if_pos rfl,if_pos (AN.1 h').1];exact h'.symm
 ·rw[List.getElem?_set_ne (Ne.symm e)]
section
variable {P:Ag} {X:XS} {base:Nat} {t:TS} {h:CH} {mv:List Nat} {st:St}
theorem d3h (r:RT t st.ts){dst:Option Nat}{v:CA}{k:TS->Bool}(hk:a6h dst v t k=AD): ∃t',RT t' (st.put dst v.to).ts/\k t'=AD:=by
 cases dst with
 |none=>exact⟨t,r,hk⟩
 |some d=>exact r.set (i:=d) hk
theorem e4z (st:St)(dst:Option Nat)(v:AV):(st.put dst v).h=st.h:=by cases dst<;>rfl
theorem d6n (st:St)(dst:Option Nat)(v:AV):(st.put dst v).mv=st.mv:=by cases dst<;>rfl
theorem a2o (r:SR P base t h mv st){dst:Option Nat}{v:CA}{k:TS->Bool}(hk:a6h dst v t k=AD): ∃t',SR P base t' h mv (st.put dst v.to)/\k t'=AD:=by obtain⟨t',h1,h2⟩:=d3h r.ts hk;exact⟨t',⟨h1,by rw[e4z];exact r.h,by rw[d6n];exact r.mv⟩,h2⟩
theorem a3p (r:RT t st.ts)(hm:MV base st.mv mv){h':CH}{hl':List a0f}(rh:RH P h' hl'){pg:List Nat}{k:TS->List Nat->Bool}
 (hk:a6k pg t (fun ts=>a9x base pg mv fun mv=>k ts mv)=AD): ∃t' mv',SR P base t' h' mv' ((st.setH hl').purge pg)/\k t' mv'=AD:=by
 obtain⟨t',hk,r'⟩:=c8l r hk;obtain⟨mv',hk,h1,h2⟩:=d1k hk;have hp:=a1r pg (st.setH hl');refine⟨t',mv',⟨by rw[hp.1];exact r',by rw[hp.2];exact rh,fun m hb hin=> ?_⟩,hk⟩;rcases d3l pg _ m hin with h|h
 ·exact h2 m h hb
 ·exact h1 m (hm m hb h)
theorem c6g (r:RT t st.ts)(hm:MV base st.mv mv){h':CH}{hl':List a0f}(rh:RH P h' hl'){dst:Option Nat}{v:CA}{pg:List Nat}{k:TS->CH->List Nat->Bool}
 (hk:c9g base dst t mv k v h' pg=AD): ∃t' mv',SR P base t' h' mv' (((st.setH hl').purge pg).put dst v.to)/\k t' h' mv'=AD:=by
 unfold c9g at hk;split at hk
 ·obtain⟨t',h1,h2⟩:=a2o (P:=P) (base:=base) (st:=st.setH hl') ⟨r,rh,hm⟩ hk;exact⟨t',mv,h1,h2⟩
 ·obtain⟨t',mv',h1,hk⟩:=a3p r hm rh (k:=fun ts mv=>a6h dst v ts fun ts=>k ts h' mv) hk;obtain⟨t'',h2,hk⟩:=a2o h1 hk;exact⟨t'',mv',h2,hk⟩
theorem e1k (x:XOk P X)(r:SR P base t h mv st){o:a1c}{k:TS->CH->List Nat->Bool}(hk:xop X base o.op o.dst t h mv k=AD):
 ∃t' h' mv' st',k t' h' mv'=AD/\SR P base t' h' mv' st'/\ ∀S,Sd P S-> ∀K:St->Prop,K st'->e0g S o st K:=by
 obtain⟨v,h',hl',pg,hk,rh',h1⟩:=a5v x r.ts r.h hk;obtain⟨t',mv',h2,hk⟩:=c6g r.ts r.mv rh' hk;exact⟨t',h',mv',_,hk,h2,fun S hS K hK=>h1 S hS _ (fun v h pg=>K (((st.setH h).purge pg).put o.dst v)) hK⟩
theorem b0y (r:RT t st.ts){g:Option (Nat×Bool)}{off on:Unit->Bool}(hk:c2o g t off on=AD):(off ()=AD/\f7m g st)\/(on ()=AD/\GOn g st):=by
 cases g with
 |none=>exact .inr ⟨hk,.inl rfl⟩
 |some g=>
  obtain⟨j,want⟩:=g;obtain⟨v,h1,hk⟩:=r.get (i:=j) (k:=xgV want off on) hk;unfold xgV at hk;split at hk
  ·rename_i b;cases b<;>cases want
   ·exact .inr ⟨hk,.inr ⟨j,_,rfl,h1⟩⟩
   ·exact .inl ⟨hk,j,_,rfl,.inr ⟨_,h1,by simp⟩⟩
   ·exact .inl ⟨hk,j,_,rfl,.inr ⟨_,h1,by simp⟩⟩
   ·exact .inr ⟨hk,.inr ⟨j,_,rfl,h1⟩⟩
  ·exact .inl ⟨hk,j,want,rfl,.inl h1⟩
  ·exact absurd hk AA
theorem a7h {o:a1c}{st:St}{off on:St->Prop}(hg:f7m o.guard st)(h:off st):a2t o st off on:=by
 obtain⟨j,want,h1,h2|⟨b,h2,h3⟩⟩:=hg
 ·simp only[a2t,h1,h2];exact h
 ·simp only[a2t,h1,h2];cases b<;>cases want
  ·exact absurd rfl h3
  ·simp only[a5q h2,if_true];exact h
  ·simp only[a5q h2];exact h
  ·exact absurd rfl h3
theorem a5y {o:a1c}{st:St}{off on:St->Prop}(hg:GOn o.guard st)(h:on st):a2t o st off on:=by
 rcases hg with h1|⟨j,want,h1,h2⟩
 ·simp only[a2t,h1];exact h
 ·simp only[a2t,h1,h2];cases want
  ·simp only[a5q h2];exact h
  ·simp only[a5q h2,if_true];exact h
theorem a8h {S:Sig}{o:a1c}{st:St}{K:St->Prop}(h:a2t o st (fun st=>K (st.put o.dst .und)) fun st=>e0g S o st K):c4b S o st K:=by
 obtain⟨dst,g,op⟩:=o;cases g with
 |none=>exact h
 |some g=>
  obtain⟨j,want⟩:=g;simp only[a2t] at h;simp only[c4b];cases e:a1a st.ts j with
  |none=>rw[e] at h;exact h.elim
  |some v=>
   rw[e] at h;cases v with
   |d x=>
    cases x with
    |bool b=>cases b<;>cases want<;>exact h
    |_=>exact h.elim
   |und=>exact h
   |_=>exact h.elim
theorem d3m (x:XOk P X)(r:SR P base t h mv st){o:a1c}{k:TS->CH->List Nat->Bool}(hk:e1m X base o t h mv k=AD):
 ∃t' h' mv' st',k t' h' mv'=AD/\SR P base t' h' mv' st'/\ ∀S,Sd P S-> ∀K:St->Prop,K st'->c4b S o st K:=by
 obtain⟨dst,g,op⟩:=o;rcases b0y (g:=g) r.ts hk with⟨hk,hg⟩|⟨hk,hg⟩
 ·obtain⟨t',h1,hk⟩:=a2o r (v:= .und) hk;exact⟨t',h,mv,_,hk,h1,fun S hS K hK=>a8h (a7h (o:=⟨dst,g,op⟩) hg hK)⟩
 ·obtain⟨t',h',mv',st',hk,h1,h2⟩:=e1k x r (o:=⟨dst,g,op⟩) hk;exact⟨t',h',mv',st',hk,h1,fun S hS K hK=>a8h (a5y (o:=⟨dst,g,op⟩) hg (h2 S hS K hK))⟩
theorem d8v (x:XOk P X){l:List a1c}: ∀{t:TS} {h:CH} {mv:List Nat} {st:St} (_:SR P base t h mv st) {k:TS->CH->List Nat->Bool},f2q X base l t h mv k=AD->
 ∃t' h' mv' st',k t' h' mv'=AD/\SR P base t' h' mv' st'/\ ∀S,Sd P S-> ∀K:St->Prop,K st'->d2r S l st K:=by
 induction l with
 |nil=>intro t h mv st r k hk;exact⟨t,h,mv,st,hk,r,fun S hS K hK=>hK⟩
 |cons o l ih=>intro t h mv st r k hk;obtain⟨t1,h1,mv1,st1,hk,r1,g1⟩:=d3m x r (o:=o) (k:=fun t h mv=>f2q X base l t h mv k) hk;obtain⟨t2,h2,mv2,st2,hk,r2,g2⟩:=ih r1 hk;exact⟨t2,h2,mv2,st2,hk,r2,fun S hS K hK=>g1 S hS _ (g2 S hS K hK)⟩
theorem c7i (r:RT t st.ts){l:Nat}{o:IOp}{k:CA->b0h->Bool}(hk:c6j l o t k=AD):
 ∃v o' ao,k v o'=AD/\o'.R P ao/\ ∀S,Sd P S-> ∀K:AV->a0f->Prop,K v.to ao->a4a S l o st K:=by
 unfold c6j at hk;split at hk
 ·obtain⟨cs,ez,hk⟩:=a5s hk;obtain⟨ds,h1,hk⟩:=c4e hk;refine⟨_,_,_,hk,rfl,fun S _ K hK=> ?_⟩;simp only[a4a,ez,h1];exact hK
 ·obtain⟨v,h1,hk⟩:=a0d r hk;obtain⟨h2,hk⟩:=a5x hk;refine⟨_,_,_,hk,rfl,fun S _ K hK=> ?_⟩;simp only[a4a,h1,Ae,h2,if_true];exact hK
 ·exact⟨_,_,_,hk,rfl,fun S _ K hK=>hK⟩
 ·exact⟨_,_,_,hk,rfl,fun S _ K hK=>hK⟩
 ·exact⟨_,_,_,hk,rfl,fun S _ K hK=>hK⟩
 ·obtain⟨cs,ez,hk⟩:=a5s hk;obtain⟨v,h1,hk⟩:=a0d r hk;obtain⟨n',rfl,hk⟩:=a2w hk;obtain⟨h2,hk⟩:=a1v hk;obtain⟨h3,hk⟩:=a1v hk;have hk:=a3e hk;have hk:=b1q hk;refine⟨_,_,_,hk,rfl,?_⟩;rintro S ⟨A,ro,E,rfl⟩ K hK;simp only[a4a,h1,AC,AE,a9r];refine And.intro h2 (And.intro h3 ?_);rw[a0o];rw[b5k (P:=P) (A:=A) (ro:=ro) (E:=E),<-ez] at hK;exact hK
 ·exact absurd hk AA
theorem b5u {u v:Kl}(h:d8k u v=AD):u=v:=by cases u<;>cases v<;>first|rfl|cases h
theorem d7z {u v:Kl}(h:d8k u v=AT):u≠v:=by cases u<;>cases v<;>first|(intro e;cases e;done)|cases h
theorem b5n {ts:List AV}(r:RT t ts){b0:Nat}{d:a0m}{k:Unit->Bool}(hk:d0i b0 d t k=AD):c2n b0 d ts=AD/\k ()=AD:=by
 unfold d0i at hk;split at hk
 ·rename_i e;simp only[c2n,e];exact⟨trivial,hk⟩
 ·rename_i hne;split at hk
  ·rename_i x e;obtain⟨v,h1,hk⟩:=a0d r hk;have key: ∀b:Bool,(match opd ts x with
    | .ptr l _=>a5c b0 l d.av
    | .aptr l _ _ _=>if d.o.op.kl= .r then a5c b0 l d.av else AT
    | .map l=>if d.o.op.kl= .r then a5c b0 l d.av else AT
    | .dptr _ _=>if d.o.op.kl= .r then AD else AT
    |_=>AT)=b->c2n b0 d ts=b:=by
    intro b hb;unfold c2n;split
    ·rename_i e';exact (hne e').elim
    ·simp only[e];exact hb
   split at hk
   ·obtain⟨h2,hk⟩:=a0e hk;exact⟨key _ (by simp only[h1,AC,h2]),hk⟩
   ·obtain⟨h3,hk⟩:=a0e hk;obtain⟨h2,hk⟩:=a0e hk;exact⟨key _ (by simp only[h1,AC,h2,b5u h3,if_true]),hk⟩
   ·obtain⟨h3,hk⟩:=a0e hk;obtain⟨h2,hk⟩:=a0e hk;exact⟨key _ (by simp only[h1,AC,h2,b5u h3,if_true]),hk⟩
   ·obtain⟨h3,hk⟩:=a0e hk;exact⟨key _ (by simp only[h1,AC,b5u h3,if_true]),hk⟩
   ·exact absurd hk AA
  ·exact absurd hk AA
end
theorem e7k {a b:List UInt8}(h:b6r a b=AD):a=b:=by rw[c2y] at h;exact of_decide_eq_true h
theorem e1b {a b:Int}(h:xeq a b=AD):a=b:=by rw[a6m] at h;exact of_decide_eq_true h
theorem e4j {a b:Bool}(h:bEq a b=AD):a=b:=by rw[d5m] at h;exact of_decide_eq_true h
theorem d8u {a b:Option Nat}(h:g1y a b=AD):a=b:=by
 cases a<;>cases b<;>first|rfl|(cases h;done)|(exact congrArg AM (AB h))
theorem d7o {a b:IX}(h:f7x a b=AD):a=b:=by
 cases a<;>cases b<;>first|(exact congrArg _ (e1b h))|cases h
theorem a8x {a b:Bool}(h:(match a with|true=>b|false=>AT)=AD):a=AD/\b=AD:=by
 cases a<;>first|exact⟨rfl,h⟩|cases h
mutual
theorem c7p:(x y:CD)->c4v x y=AD->x=y
 | .int kd n,y,h=>by
   cases y<;>first|(simp only[c4v] at h;cases h;done)|(simp only[c4v] at h;obtain⟨h1,h2⟩:=a8x h;rw[a3y h1,d7o h2])
 | .bool b,y,h=>by
   cases y<;>first|(simp only[c4v] at h;cases h;done)|(simp only[c4v] at h;cases b<;>simp_all)
 | .str l,y,h=>by
   cases y<;>first|(simp only[c4v] at h;cases h;done)|(simp only[c4v] at h;rw[e7k h])
 | .nil,y,h=>by
   cases y<;>first|rfl|(simp only[c4v] at h;cases h;done)
 | .sl sz n rows,y,h=>by
   cases y with
   |sl sz' n' rows'=>simp only[c4v] at h;obtain⟨h1,h2⟩:=a8x h;obtain⟨h2,h3⟩:=a8x h2;rw[AB h1,AB h2,b6c rows rows' h3]
   |_=>simp only[c4v] at h;cases h
 | .raw v,y,h=>by simp only[c4v] at h;cases h
theorem c1n:(x y:List CD)->c3y x y=AD->x=y
 |[],y,h=>by cases y<;>first|rfl|(simp only[c3y] at h;cases h;done)
 |x::xs,y,h=>by
  cases y with
  |nil=>simp only[c3y] at h;cases h
  |cons y ys=>simp only[c3y] at h;obtain⟨h1,h2⟩:=a8x h;rw[c7p x y h1,c1n xs ys h2]
theorem b6c:(x y:List (List CD))->b3x x y=AD->x=y
 |[],y,h=>by cases y<;>first|rfl|(simp only[b3x] at h;cases h;done)
 |x::xs,y,h=>by
  cases y with
  |nil=>simp only[b3x] at h;cases h
  |cons y ys=>simp only[b3x] at h;obtain⟨h1,h2⟩:=a8x h;rw[c1n x y h1,b6c xs ys h2]
end
mutual
theorem c8u:(x y:CA)->a9w x y=AD->x=y
 | .d x,y,h=>by
   cases y with
   |d y=>simp only[a9w] at h;rw[c7p x y h]
   |_=>simp only[a9w] at h;cases h
 | .agg xs,y,h=>by
   cases y with
   |agg ys=>simp only[a9w] at h;rw[b0i xs ys h]
   |_=>simp only[a9w] at h;cases h
 | .ptr l o,y,h=>by
   cases y with
   |ptr l' o'=>simp only[a9w] at h;obtain⟨h1,h2⟩:=a8x h;rw[AB h1,AB h2]
   |_=>simp only[a9w] at h;cases h
 | .msl l sz s n f,y,h=>by
   cases y with
   |msl l' sz' s' n' f'=>simp only[a9w] at h;obtain⟨h1,h⟩:=a8x h;obtain⟨h2,h⟩:=a8x h;obtain⟨h3,h⟩:=a8x h;obtain⟨h4,h5⟩:=a8x h;rw[AB h1,AB h2,d8u h3,AB h4,e4j h5]
   |_=>simp only[a9w] at h;cases h
 | .map l,y,h=>by
   cases y with
   |map l'=>simp only[a9w] at h;rw[AB h]
   |_=>simp only[a9w] at h;cases h
 | .fn f us cs,y,h=>by
   cases y with
   |fn f' us' cs'=>simp only[a9w] at h;obtain⟨h1,h⟩:=a8x h;obtain⟨h2,h3⟩:=a8x h;rw[AB h1,b0i us us' h2,b0i cs cs' h3]
   |_=>simp only[a9w] at h;cases h
 | .yl l,y,h=>by
   cases y with
   |yl l'=>simp only[a9w] at h;rw[AB h]
   |_=>simp only[a9w] at h;cases h
 | .any,y,h=>by simp only[a9w] at h;cases h
 | .und,y,h=>by simp only[a9w] at h;cases h
 | .tuple _,y,h=>by simp only[a9w] at h;cases h
 | .aptr ..,y,h=>by simp only[a9w] at h;cases h
 | .dptr ..,y,h=>by simp only[a9w] at h;cases h
 | .dfs ..,y,h=>by simp only[a9w] at h;cases h
 | .vsl ..,y,h=>by simp only[a9w] at h;cases h
 | .ge _,y,h=>by simp only[a9w] at h;cases h
theorem b0i:(x y:List CA)->b6w x y=AD->x=y
 |[],y,h=>by cases y<;>first|rfl|(simp only[b6w] at h;cases h;done)
 |x::xs,y,h=>by
  cases y with
  |nil=>simp only[b6w] at h;cases h
  |cons y ys=>simp only[b6w] at h;obtain⟨h1,h2⟩:=a8x h;rw[c8u x y h1,b0i xs ys h2]
end
end Go.Vf
