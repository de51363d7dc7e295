/- The runner's eighth text: elements, appends, copies. The runner's ninth text: operations. The runner's tenth text: the other operations. The runner's eleventh text: operations in a row, regions that draw their order. Conditions: none. -/
import Derived.Test.YtpcokdalcafgdaaGreatWMl
namespace Go.Vf
open Go
section
variable {P:Program} {t:TS} {ts:List AV} {h:CH} {hl:List a0i}
theorem c4x {i:IX}{n:Nat}{k:Nat->Bool}(hk:f2s i n k=true):k i.val.toNat=true/\ ∀S,Sd P S-> ∀K:Nat->Prop,K i.val.toNat->idx S i n K:=by
 unfold f2s at hk
 split at hk
 ·rename_i m e
  obtain⟨h1,hk⟩:=a0l hk
  have h2:m<n:=Nat.le_of_ble_eq_true h1
  refine⟨by rw[e];exact hk,?_⟩
  rintro S ⟨A,ro,E,rfl⟩ K hK
  refine And.intro (show 0<=i.val/\i.val<n from ?_) (by rw[a0z];exact hK)
  rw[e];simp only[Int.ofNat_eq_natCast];omega
 ·exact absurd hk Bool.false_ne_true
def E0:Ent:=⟨default,fun _=>False,a3h,0,[]⟩
theorem c0x {sz:Nat}{x:CA}{i:IX}{k:CA->Bool}(hk:b1z sz x i k=true): ∃v,k v=true/\ ∀S,Sd P S-> ∀K:AV->Prop,K v.to->a3o S sz x.to i K:=by
 unfold b1z at hk
 split at hk
 ·obtain⟨h1,hk⟩:=a0l hk
  obtain⟨hk,h2⟩:=c4x (P:=P) hk
  have hk:=a9q (P:=P) (A:={}) (ro:=none) (E:=E0) hk
  refine⟨_,hk,?_⟩
  rintro S ⟨A,ro,E,rfl⟩ K hK
  simp only[CA.to,a3o,h1,if_true]
  exact h2 _ ⟨A,ro,E,rfl⟩ _ hK
 ·obtain⟨h1,hk⟩:=a0l hk
  obtain⟨hk,h2⟩:=c4x (P:=P) hk
  obtain⟨row,h3,h4,hk⟩:=b6l hk
  refine⟨_,hk,?_⟩
  rintro S ⟨A,ro,E,rfl⟩ K hK
  simp only[CA.to,CD.to,a3o,h1,if_true]
  refine h2 _ ⟨A,ro,E,rfl⟩ _ ?_
  rw[h4];exact hK
 ·obtain⟨h1,hk⟩:=a0l hk
  obtain⟨hk,h2⟩:=c4x (P:=P) hk
  obtain⟨row,h3,h4,hk⟩:=b6l hk
  refine⟨_,hk,?_⟩
  rintro S ⟨A,ro,E,rfl⟩ K hK
  simp only[CA.to,a3o,h1,if_true]
  refine h2 _ ⟨A,ro,E,rfl⟩ _ ?_
  rw[h4];exact hK
 ·exact absurd hk Bool.false_ne_true
theorem d5b {S:Sig}{sz:Nat}{v:AV}{K:Nat->Nat->(Nat->List DV)->Prop}(hv:v≠ .d .nil)(hk:b8o S hl v K):b1w S sz hl v K:=by
 unfold b1w
 split
 ·exact (hv rfl).elim
 ·exact hk.elim
 ·exact hk
theorem CA.to_nil {v:CA}(h:v.to= .d .nil):v= .d .nil:=by
 cases v with
 |d x=>cases x<;>first|rfl|cases h
 |_=>cases h
theorem b4o (r:RH P h hl){sz:Nat}{v:CA}{k:Nat->Nat->List (List CD)->Bool}(hk:c3p sz h v k=true):
 ∃sz' n rows,k sz' n rows=true/\ ∀S,Sd P S-> ∀K:Nat->Nat->(Nat->List DV)->Prop,K sz' n (rowAt (CD.toR rows))->b1w S sz hl v.to K:=by
 unfold c3p at hk
 split at hk
 ·exact⟨_,_,_,hk,fun S _ K hK=>hK⟩
 ·rename_i hne
  obtain⟨sz',n,rows,hk,hv⟩:=b3q r hk
  exact⟨_,_,_,hk,fun S hS K hK=>d5b (fun e=>hne (CA.to_nil e)) (hv S hS K hK)⟩
theorem b1l {A:Ann}{ro:Option Nat}{E:Ent}{e e2:List (List CD)}{n:Nat}(hn:n<=e.length):
 rowAt (CD.toR (e.take n++e2))=(std P A ro E).app n (rowAt (CD.toR e)) (rowAt (CD.toR e2)):=by
 rw[CD.toR_eq,List.map_append,List.map_take,d7f _ _ _ (by simpa using hn),<-CD.toR_eq,<-CD.toR_eq]
 rfl
theorem b9p {A:Ann}{ro:Option Nat}{E:Ent}{e new:List (List CD)}{i m:Nat}(h1:i+m<=e.length)(h2:m<=new.length):
 rowAt (CD.toR (e.take i++new.take m++e.drop (i+m)))=(std P A ro E).put i m (rowAt (CD.toR e)) (rowAt (CD.toR new)):=by
 rw[CD.toR_eq,List.map_append,List.map_append,List.map_take,List.map_take,List.map_drop,d8q _ _ _ _ (by simpa using h1) (by simpa using h2),<-CD.toR_eq,<-CD.toR_eq]
 rfl
theorem b2w {a b:Nat}{k:Bool}(h:a1n (Nat.ble a b) k=true):a<=b/\k=true:=by
 obtain⟨h1,h2⟩:=a0l h
 exact⟨Nat.le_of_ble_eq_true h1,h2⟩
theorem b2x {a b:Nat}{k:Bool}(h:a1n (Nat.blt a b) k=true):a<b/\k=true:=by
 obtain⟨h1,h2⟩:=a0l h
 exact⟨Nat.le_of_ble_eq_true h1,h2⟩
theorem a9e (r:RH P h hl){sz:Nat}{x y:CA}{mu:Bool}{k:CA->CH->List Nat->Bool}(hk:a4e h sz x y mu k=true):
 ∃v h' hl' pg,k v h' pg=true/\RH P h' hl'/\ ∀S,Sd P S-> ∀K:AV->List a0i->List Nat->Prop,K v.to hl' pg->a3y S hl sz x.to y.to mu K:=by
 unfold a4e at hk
 obtain⟨sz2,m,e2,hk,hv⟩:=b4o r hk
 obtain⟨h1,hk⟩:=a0l hk
 split at hk
 ·obtain⟨h2,hk⟩:=b2w hk
  cases mu with
  |true=>
   obtain⟨h',hk,hr⟩:=r.adds hk
   refine⟨_,_,_,_,hk,hr _ rfl,?_⟩
   rintro S ⟨A,ro,E,rfl⟩ K hK
   refine hv _ ⟨A,ro,E,rfl⟩ _ ?_
   simp only[CA.to,CD.to,h1,if_true]
   exact And.intro h2 hK
  |false=>
   refine⟨_,_,_,_,hk,r,?_⟩
   rintro S ⟨A,ro,E,rfl⟩ K hK
   refine hv _ ⟨A,ro,E,rfl⟩ _ ?_
   simp only[CA.to,CD.to,h1,if_true]
   exact And.intro h2 hK
 ·rename_i sz' n e
  obtain⟨h2,hk⟩:=a0l hk
  rw[a5o] at hk
  obtain⟨h3,hk⟩:=b2w hk
  obtain⟨h4,hk⟩:=b2x hk
  obtain⟨h5,hk⟩:=a9x hk
  cases mu with
  |true=>
   obtain⟨h',hk,hr⟩:=r.adds hk
   refine⟨_,_,_,_,hk,hr _ rfl,?_⟩
   rintro S ⟨A,ro,E,rfl⟩ K hK
   refine hv _ ⟨A,ro,E,rfl⟩ _ ?_
   simp only[CA.to,h1,h2,if_true]
   rw[b1l (P:=P) (A:=A) (ro:=ro) (E:=E) h5] at hK
   exact And.intro h3 (And.intro h4 hK)
  |false=>
   refine⟨_,_,_,_,hk,r,?_⟩
   rintro S ⟨A,ro,E,rfl⟩ K hK
   refine hv _ ⟨A,ro,E,rfl⟩ _ ?_
   simp only[CA.to,h1,h2,if_true]
   simp only[CA.to,CD.to] at hK
   rw[b1l (P:=P) (A:=A) (ro:=ro) (E:=E) h5] at hK
   exact And.intro h3 (And.intro h4 hK)
 ·rename_i l sz' n
  obtain⟨h2,hk⟩:=a0l hk
  obtain⟨o,ao,h3,hR,hk⟩:=r.gets hk
  cases o with
  |arr sz'' n' e=>
   cases hR
   obtain⟨h4,hk⟩:=a0l hk
   obtain⟨h5,hk⟩:=a0l hk
   rw[a5o] at hk
   obtain⟨h6,hk⟩:=b2w hk
   obtain⟨h7,hk⟩:=a9x hk
   obtain⟨h',hk,hr⟩:=r.sets hk
   obtain⟨h'',hk,hr'⟩:=c5w (hr _ rfl) hk
   refine⟨_,_,_,_,hk,hr',?_⟩
   rintro S ⟨A,ro,E,rfl⟩ K hK
   refine hv _ ⟨A,ro,E,rfl⟩ _ ?_
   simp only[CA.to,h1,h2,h3,h4,if_true]
   rw[b1l (P:=P) (A:=A) (ro:=ro) (E:=E) h7] at hK
   exact And.intro (Nat.eq_of_beq_eq_true h5) (And.intro h6 hK)
  |_=>exact absurd hk Bool.false_ne_true
 ·rename_i l sz' s n
  obtain⟨h2,hk⟩:=a0l hk
  obtain⟨sz3,n3,e,hk,hv2⟩:=b3q r hk
  rw[a5o] at hk
  obtain⟨h3,hk⟩:=b2w hk
  obtain⟨h4,hk⟩:=b2x hk
  obtain⟨h5,hk⟩:=a9x hk
  cases mu with
  |true=>
   obtain⟨h',hk,hr⟩:=r.adds hk
   refine⟨_,_,_,_,hk,hr _ rfl,?_⟩
   rintro S ⟨A,ro,E,rfl⟩ K hK
   refine hv _ ⟨A,ro,E,rfl⟩ _ ?_
   simp only[CA.to,h1,h2,if_true]
   refine hv2 _ ⟨A,ro,E,rfl⟩ _ ?_
   rw[b1l (P:=P) (A:=A) (ro:=ro) (E:=E) h5] at hK
   exact And.intro h3 (And.intro h4 hK)
  |false=>
   refine⟨_,_,_,_,hk,r,?_⟩
   rintro S ⟨A,ro,E,rfl⟩ K hK
   refine hv _ ⟨A,ro,E,rfl⟩ _ ?_
   simp only[CA.to,h1,h2,if_true]
   refine hv2 _ ⟨A,ro,E,rfl⟩ _ ?_
   simp only[CA.to,CD.to] at hK
   rw[b1l (P:=P) (A:=A) (ro:=ro) (E:=E) h5] at hK
   exact And.intro h3 (And.intro h4 hK)
 ·exact absurd hk Bool.false_ne_true
theorem c0f (r:RH P h hl){sz:Nat}{x y:CA}{k:CA->CH->Bool}(hk:b2o h sz x y k=true):
 ∃v h' hl',k v h'=true/\RH P h' hl'/\ ∀S,Sd P S-> ∀K:AV->List a0i->Prop,K v.to hl'->a6j S hl sz x.to y.to K:=by
 unfold b2o at hk
 obtain⟨sz2,m,e2,hk,hv⟩:=b4o r hk
 obtain⟨h1,hk⟩:=a0l hk
 split at hk
 ·rename_i l sz' s n
  obtain⟨h2,hk⟩:=a0l hk
  obtain⟨o,ao,h3,hR,hk⟩:=r.gets hk
  cases o with
  |arr sz'' n' e=>
   cases hR
   obtain⟨h4,hk⟩:=a0l hk
   have hk:=a9q (P:=P) (A:={}) (ro:=none) (E:=E0) hk
   obtain⟨h6,hk⟩:=b2w hk
   obtain⟨h7,h8,hk⟩:=c5o hk
   obtain⟨h',hk,hr⟩:=r.sets hk
   rw[a5o] at hk
   refine⟨_,_,_,hk,hr _ rfl,?_⟩
   rintro S ⟨A,ro,E,rfl⟩ K hK
   refine hv _ ⟨A,ro,E,rfl⟩ _ ?_
   simp only[CA.to,h1,h2,h3,h4,if_true]
   rw[b9p (P:=P) (A:=A) (ro:=ro) (E:=E) h7 h8] at hK
   exact And.intro h6 hK
  |_=>exact absurd hk Bool.false_ne_true
 ·exact absurd hk Bool.false_ne_true
theorem b8e (s:Option Nat):c6b s=c7o s:=by cases s<;>rfl
theorem c0m (a b:Nat):f5c a b=min a b:=by
 unfold f5c
 split
 ·rename_i e;have:=Nat.le_of_ble_eq_true e;omega
 ·rename_i e;have: ¬a<=b:=fun c=>by rw[Nat.ble_eq_true_of_le c] at e;cases e
  omega
theorem d2g {n:Nat}: ∀{e:List (List CD)} {k:List CA->Bool},c9a e n k=true-> ∃cs,cs.length=n/\(∀i,i<n-> ∃x,rowAt (CD.toR e) i=[x]/\(CA.toL cs)[i]? =some (.d x))/\k cs=true:=by
 induction n with
 |zero=>intro e k hk;simp only[c9a] at hk;exact⟨[],rfl,fun i hi=>by omega,hk⟩
 |succ n ih=>
  intro e k hk
  cases e with
  |nil=>exact absurd hk Bool.false_ne_true
  |cons row e=>
   match row,hk with
   |[],hk=>exact absurd hk Bool.false_ne_true
   |[x],hk=>
    obtain⟨cs,h1,h2,hk⟩:=ih (e:=e) (k:=fun l=>k (.d x::l)) hk
    refine⟨_,by simp[h1],fun i hi=> ?_,hk⟩
    cases i with
    |zero=>exact⟨x.to,rfl,rfl⟩
    |succ i=>obtain⟨y,h3,h4⟩:=h2 i (by omega);exact⟨y,h3,by simpa [CA.toL] using h4⟩
   |_::_::_,hk=>exact absurd hk Bool.false_ne_true
theorem e0i {n:Nat}: ∀{e:Nat->List DV} {l:List AV},l.length=n->(∀i,i<n-> ∃x,e i=[x]/\l[i]? =some (.d x))->b7b e n=some l:=by
 induction n with
 |zero=>intro e l h1 h2;simp[b7b];exact (List.length_eq_zero_iff.1 h1)
 |succ n ih=>
  intro e l h1 h2
  obtain⟨x,h3,h4⟩:=h2 n (by omega)
  have h5:=ih (l:=l.take n) (e:=e) (by simp[h1]) (fun i hi=>by obtain⟨y,h6,h7⟩:=h2 i (by omega);exact⟨y,h6,by rw[List.getElem?_take_of_lt hi];exact h7⟩)
  simp only[b7b,h5,h3,a1e]
  congr 1
  refine List.ext_getElem? fun i=> ?_
  by_cases c:i<n
  ·rw[List.getElem?_append_left (by simp[h1];omega),List.getElem?_take_of_lt c]
  ·by_cases d:i=n
   ·subst d;rw[List.getElem?_append_right (by rw[List.length_take];omega),List.length_take,h1,show i-min i (i+1)=0 by omega,h4];rfl
   ·rw[List.getElem?_eq_none (by simp[h1];omega),List.getElem?_eq_none (by omega)]
theorem c3i (r:RH P h hl){sz:Nat}{x y:CA}{k:CA->CH->Bool}(hk:b4u h sz x y k=true):
 ∃v h' hl',k v h'=true/\RH P h' hl'/\ ∀S,Sd P S-> ∀K:AV->List a0i->Prop,K v.to hl'->a8n S hl sz x.to y.to K:=by
 unfold b4u at hk
 obtain⟨sz2,m,e2,hk,hv⟩:=b4o r hk
 obtain⟨h1,hk⟩:=a0l hk
 split at hk
 ·rename_i l sz' s n f
  obtain⟨h2,hk⟩:=a0l hk
  obtain⟨o,ao,h3,hR,hk⟩:=r.gets hk
  cases o with
  |arr sz'' n' e=>
   cases hR
   obtain⟨h4,hk⟩:=a0l hk
   have hk:=a9q (P:=P) (A:={}) (ro:=none) (E:=E0) hk
   obtain⟨h6,hk⟩:=b2w hk
   rw[a5o] at hk
   obtain⟨h7,h8,hk⟩:=c5o hk
   obtain⟨h',hk,hr⟩:=r.sets hk
   refine⟨_,_,_,hk,hr _ rfl,?_⟩
   rintro S ⟨A,ro,E,rfl⟩ K hK
   refine hv _ ⟨A,ro,E,rfl⟩ _ ?_
   simp only[CA.to,h1,h2,h3,h4,if_true]
   rw[b9p (P:=P) (A:=A) (ro:=ro) (E:=E) h7 h8,b8e] at hK
   simp only[CA.to,CD.to,c0m] at hK
   exact And.intro h6 hK
  |_=>exact absurd hk Bool.false_ne_true
 ·obtain⟨h2,hk⟩:=a0l hk
  obtain⟨o,ao,h3,hR,hk⟩:=r.gets hk
  cases o with
  |var cs=>
   cases hR
   simp only[a5o] at hk
   obtain⟨new,h4,h5,hk⟩:=d2g hk
   obtain⟨c,h6,hk⟩:=b9n CA.to hk
   obtain⟨h',hk,hr⟩:=r.sets hk
   refine⟨_,_,_,hk,hr _ rfl,?_⟩
   rintro S ⟨A,ro,E,rfl⟩ K hK
   refine hv _ ⟨A,ro,E,rfl⟩ _ ?_
   have h7:b7b (rowAt (CD.toR e2)) ((std P A ro E).nmin _ m)=some (CA.toL new):=e0i (by rw[CA.toL_len,h4,c0m];rfl) (fun i hi=>h5 i (by rw[c0m];exact hi))
   simp only[CA.to,h1,h2,h3,if_true,h7]
   rw[CA.toL_eq,CA.toL_eq,h6,<-CA.toL_eq]
   simp only[CA.to,CD.to,c0m] at hK
   exact hK
  |_=>exact absurd hk Bool.false_ne_true
 ·exact absurd hk Bool.false_ne_true
end
def MV (base:Nat)(mvA mv:List Nat):Prop:= ∀m,m<base->m∈mvA->m∈mv
structure XOk (P:Program)(X:XS):Prop where
 pcall: ∀{own:Bool} {f:FuncId} {args:List CA} {k:CA->Bool},X.pcall own f args k=true-> ∃r,k r=true/\a0j P own f (CA.toL args) r.to
 call: ∀{f:FuncId} {args:List CA} {h:CH} {hl:List a0i} {k:List Nat->CA->CH->Bool},RH P h hl->X.call f args h k=true->
  ∃pg v h' hl',k pg v h'=true/\RH P h' hl'/\ ∀K:List Nat->AV->List a0i->Prop,K pg v.to hl'->a0g P f (CA.toL args) hl K
 yld: ∀{l:Nat} {args:List CA} {h:CH} {hl:List a0i} {k:List Nat->CA->CH->Bool},RH P h hl->X.yld l args h k=true->
  ∃pg v h' hl',k pg v h'=true/\RH P h' hl'/\ ∀K:List Nat->AV->List a0i->Prop,K pg v.to hl'->a5s P l (CA.toL args) hl K
 loop: ∀{A:Ann} {base:Nat} {top:Bool} {c:a2d} {k:Lv->TS->CH->List Nat->Bool} {t:TS} {ts:List AV} {h:CH} {hl:List a0i} {mv mvA:List Nat},
  RT t ts->RH P h hl->MV base mvA mv->X.loop A base top c k t h mv=true->
  ∃lv t' ts' h' hl' mv' mvA',k lv t' h' mv'=true/\RT t' ts'/\RH P h' hl'/\MV base mvA' mv'/\
   ∀(ro:Option Nat) (E:Ent) (Q:Lv->St->Prop),(top=true->ro=none)->Q lv ⟨ts',hl',mvA'⟩-> ∃m,b4a (std P A ro E) m c Q ⟨ts,hl,mvA⟩
def a1h (P:Program)(o:IOp)(ts:List AV)(hl:List a0i)(k:CA->CH->List Nat->Bool):Prop:=
 ∃v h' hl' pg,k v h' pg=true/\RH P h' hl'/\ ∀S,Sd P S-> ∀(mv:List Nat) (K:AV->List a0i->List Nat->Prop),K v.to hl' pg->a0c S o ⟨ts,hl,mv⟩ K
section
variable {P:Program} {X:XS} {t:TS} {ts:List AV} {h:CH} {hl:List a0i} {k:CA->CH->List Nat->Bool}
theorem f5w (r:RT t ts)(rh:RH P h hl){x:a0o}(hk:f9t x X t h k=true):a1h P (.mv x) ts hl k:=by
 obtain⟨v,h1,hk⟩:=a0n r hk
 exact⟨v,h,hl,[],hk,rh,fun S _ mv K hK=>by simp only[a0c,h1];exact hK⟩
theorem d2p (rh:RH P h hl){sz:Nat}(hk:c8n sz X t h k=true):a1h P (.newnil sz) ts hl k:=by
 obtain⟨h',hk,hr⟩:=rh.adds hk
 refine⟨_,_,_,_,hk,hr _ rfl,fun S _ mv K hK=> ?_⟩
 exact hK
theorem e8o (rh:RH P h hl){sz:Nat}(hk:e4j sz X t h k=true):a1h P (.bnew sz) ts hl k:=by
 obtain⟨h',hk,hr⟩:=rh.adds hk
 refine⟨_,_,_,_,hk,hr _ rfl,fun S _ mv K hK=> ?_⟩
 exact hK
theorem e7g (r:RT t ts)(rh:RH P h hl){c a b:a0o}(hk:e3y c a b X t h k=true):a1h P (.pick c a b) ts hl k:=by
 obtain⟨v,h1,hk⟩:=a0n r hk
 obtain⟨n,rfl,hk⟩:=b0m hk
 cases n with
 |true=>
  obtain⟨v,h2,hk⟩:=a0n r hk
  exact⟨v,h,hl,[],hk,rh,fun S _ mv K hK=>by simp only[a0c,h1,CA.to,CD.to,e9h,h2];exact hK⟩
 |false=>
  obtain⟨v,h2,hk⟩:=a0n r hk
  exact⟨v,h,hl,[],hk,rh,fun S _ mv K hK=>by simp only[a0c,h1,CA.to,CD.to,e9h,h2];exact hK⟩
theorem e1h (rh:RH P h hl){zs:List DV}(hk:d8k zs X t h k=true):a1h P (.alloc zs) ts hl k:=by
 obtain⟨cs,ez,hk2⟩:=b0d hk
 clear hk
 subst ez
 obtain⟨ds,h1,hk⟩:=d3y hk2
 obtain⟨h',hk,hr⟩:=rh.adds hk
 refine⟨_,_,_,_,hk,hr _ rfl,fun S _ mv K hK=> ?_⟩
 simp only[a0c,h1]
 exact hK
theorem f2o (r:RT t ts)(rh:RH P h hl){x:a0o}(hk:f4z x X t h k=true):a1h P (.box x) ts hl k:=by
 obtain⟨v,h1,hk⟩:=a0n r hk
 obtain⟨h2,hk⟩:=a8w hk
 obtain⟨h',hk,hr⟩:=rh.adds hk
 refine⟨_,_,_,_,hk,hr _ rfl,fun S _ mv K hK=> ?_⟩
 simp only[a0c,h1,CA.cells_to,h2,if_true]
 exact hK
theorem e2i (r:RT t ts)(rh:RH P h hl){zs:List DV}{ps:List (Nat×Nat×a0o)}(hk:d8a zs ps X t h k=true):a1h P (.build zs ps) ts hl k:=by
 obtain⟨cs,ez,hk2⟩:=b0d hk
 clear hk
 subst ez
 obtain⟨ds,h1,hk⟩:=d3y hk2
 obtain⟨cs',h2,hk⟩:=d6n r hk
 refine⟨_,_,_,_,hk,rh,fun S _ mv K hK=> ?_⟩
 simp only[a0c,h1,h2]
 exact hK
theorem d5h (r:RT t ts)(rh:RH P h hl){sz len:Nat}{zs:List DV}{ps:List (Nat×a0o)}{mu:Bool}(hk:c8s sz len zs ps mu X t h k=true):a1h P (.bslice sz len zs ps mu) ts hl k:=by
 obtain⟨cs,ez,hk2⟩:=b0d hk
 clear hk
 subst ez
 obtain⟨ds,h1,hk⟩:=d3y hk2
 have hk:=b9e hk
 obtain⟨rs,h2,hk⟩:=d8l r hk
 obtain⟨rows,h',hl',hk,rh',h3⟩:=c5r rh hk
 have h2':b5x ts sz (c8x (c1i .d (CD.toL cs)) len) ps=some (rs.map CA.toL):=by
  rw[b1y,h1];simpa using h2
 cases mu with
 |true=>
  obtain⟨h'',hk,hr⟩:=rh'.adds hk
  refine⟨_,_,_,_,hk,hr _ rfl,fun S hS mv K hK=> ?_⟩
  simp only[a0c,h2',if_true]
  exact h3 S hS _ hK
 |false=>
  refine⟨_,_,_,_,hk,rh',fun S hS mv K hK=> ?_⟩
  simp only[a0c,h2']
  exact h3 S hS _ hK
theorem e8f (r:RT t ts)(rh:RH P h hl){agg:Option Nat}{x:a0o}(hk:e4n agg x X t h k=true):a1h P (.load agg x) ts hl k:=by
 obtain⟨v,h1,hk⟩:=a0n r hk
 obtain⟨u,hk,h2⟩:=c4b rh hk
 refine⟨_,_,_,_,hk,rh,fun S hS mv K hK=> ?_⟩
 simp only[a0c,h1]
 exact h2 S hS _ hK
theorem d8y (r:RT t ts)(rh:RH P h hl){sz:Nat}{a x:a0o}(hk:d4v sz a x X t h k=true):a1h P (.store sz a x) ts hl k:=by
 obtain⟨p,h1,hk⟩:=a0n r hk
 obtain⟨v,h2,hk⟩:=a0n r hk
 obtain⟨h',hl',hk,rh',h3⟩:=d1z rh hk
 refine⟨_,_,_,_,hk,rh',fun S hS mv K hK=> ?_⟩
 simp only[a0c,h1,h2]
 exact h3 S hS _ hK
theorem d4x (r:RT t ts)(rh:RH P h hl){x:a0o}(hk:c8d x X t h k=true):a1h P (.nilchk x) ts hl k:=by
 obtain⟨v,h1,hk⟩:=a0n r hk
 obtain⟨h2,hk⟩:=a0l hk
 refine⟨_,_,_,_,hk,rh,fun S hS mv K hK=> ?_⟩
 simp only[a0c,h1,CA.isPtr_to,h2,if_true]
 exact hK
theorem f4c (r:RT t ts)(rh:RH P h hl){op:BinOp}{x y:a0o}(hk:f0c op x y X t h k=true):a1h P (.bin op x y) ts hl k:=by
 obtain⟨v,h1,hk⟩:=a0n r hk
 obtain⟨u,h2,hk⟩:=a0n r hk
 split at hk
 ·split at hk
  ·obtain⟨h3,hk⟩:=a0l hk
   obtain⟨c,hk,h4⟩:=e2p (P:=P) hk
   refine⟨_,_,_,_,hk,rh,fun S hS mv K hK=> ?_⟩
   have e:=a9k h3
   subst e
   simp only[a0c,h1,h2,CA.to,CD.to,if_true]
   exact h4 S hS _ hK
  ·split at hk
   ·obtain⟨h3,hk⟩:=a0l hk
    obtain⟨h4,hk⟩:=a3d hk
    refine⟨_,_,_,_,hk,rh,?_⟩
    rintro S ⟨A,ro,E,rfl⟩ mv K hK
    have e:=a9k h3
    subst e
    simp only[a0c,h1,h2,CA.to,CD.to]
    exact And.intro h4 hK
   ·exact absurd hk Bool.false_ne_true
  ·exact absurd hk Bool.false_ne_true
 ·exact absurd hk Bool.false_ne_true
theorem e8k (r:RT t ts)(rh:RH P h hl){op:BinOp}{x y:a0o}(hk:e2y op x y X t h k=true):a1h P (.binb op x y) ts hl k:=by
 obtain⟨v,h1,hk⟩:=a0n r hk
 obtain⟨a,rfl,hk⟩:=b0m hk
 obtain⟨v,h2,hk⟩:=a0n r hk
 obtain⟨b,rfl,hk⟩:=b0m hk
 cases op
 case eql=>
  cases a<;>cases b<;>
  ·refine⟨_,_,_,_,hk,rh,?_⟩
   rintro S ⟨A,ro,E,rfl⟩ mv K hK
   simp only[a0c,h1,h2,CA.to,CD.to]
   exact hK
 case neq=>
  cases a<;>cases b<;>
  ·refine⟨_,_,_,_,hk,rh,?_⟩
   rintro S ⟨A,ro,E,rfl⟩ mv K hK
   simp only[a0c,h1,h2,CA.to,CD.to]
   exact hK
 all_goals exact absurd hk Bool.false_ne_true
theorem f0q (r:RT t ts)(rh:RH P h hl){neg:Bool}{ks:List IntKind}{x y:a0o}(hk:f3i neg ks x y X t h k=true):a1h P (.aeq neg ks x y) ts hl k:=by
 obtain⟨v,h1,hk⟩:=a0n r hk
 obtain⟨u,h2,hk⟩:=a0n r hk
 split at hk
 ·split at hk
  ·obtain⟨b,hk,h3⟩:=e4u (P:=P) hk
   cases neg<;>cases b<;>
   ·refine⟨_,_,_,_,hk,rh,?_⟩
    rintro S ⟨A,ro,E,rfl⟩ mv K hK
    simp only[a0c,h1,h2,CA.to,h3 _ ⟨A,ro,E,rfl⟩]
    exact hK
  ·exact absurd hk Bool.false_ne_true
 ·exact absurd hk Bool.false_ne_true
theorem f5g (r:RT t ts)(rh:RH P h hl){op:UnOp}{x:a0o}(hk:g3u op x X t h k=true):a1h P (.un op x) ts hl k:=by
 obtain⟨v,h1,hk⟩:=a0n r hk
 split at hk
 ·obtain⟨b,rfl,hk⟩:=b0m hk
  cases b<;>
  ·refine⟨_,_,_,_,hk,rh,?_⟩
   rintro S ⟨A,ro,E,rfl⟩ mv K hK
   simp only[a0c,h1,CA.to,CD.to]
   exact hK
 ·split at hk
  ·rw[c5j] at hk
   obtain⟨h3,hk⟩:=a0l hk
   refine⟨_,_,_,_,hk,rh,?_⟩
   rintro S ⟨A,ro,E,rfl⟩ mv K hK
   simp only[a0c,h1,CA.to,CD.to]
   exact And.intro (b2r h3) hK
  ·exact absurd hk Bool.false_ne_true
 ·exact absurd hk Bool.false_ne_true
theorem e4x (r:RT t ts)(rh:RH P h hl){kd:IntKind}{x:a0o}(hk:e4m kd x X t h k=true):a1h P (.conv kd x) ts hl k:=by
 obtain⟨v,h1,hk⟩:=a0n r hk
 split at hk
 ·rw[c5j] at hk
  refine⟨_,_,_,_,hk,rh,?_⟩
  rintro S ⟨A,ro,E,rfl⟩ mv K hK
  simp only[a0c,h1,CA.to,CD.to]
  exact hK
 ·exact absurd hk Bool.false_ne_true
theorem e7h (r:RT t ts)(rh:RH P h hl){f:FuncId}{a b:List a0o}(hk:e3d f a b X t h k=true):a1h P (.mkfn f a b) ts hl k:=by
 obtain⟨us,h1,hk⟩:=b3y r hk
 obtain⟨cs,h2,hk⟩:=b3y r hk
 refine⟨_,_,_,_,hk,rh,fun S _ mv K hK=> ?_⟩
 simp only[a0c,h1,h2]
 exact hK
theorem d9k (rh:RH P h hl){wide:Bool}{ks:List IntKind}(hk:d5z wide ks X t h k=true):a1h P (.mkmap wide ks) ts hl k:=by
 obtain⟨h',hk,hr⟩:=rh.adds hk
 refine⟨_,_,_,_,hk,hr _ rfl,fun S _ mv K hK=> ?_⟩
 exact hK
theorem c0o {A:Ann}{ro:Option Nat}{E:Ent}(zs:List CD)(n:Nat):rowAt (CD.toR (List.replicate n zs))=(std P A ro E).rep n (CD.toL zs):=by
 rw[CD.toR_eq,List.map_replicate,d8j];rfl
theorem d0z (r:RT t ts)(rh:RH P h hl){sz:Nat}{zs:List DV}{b:Nat}{n:a0o}(hk:c1s sz zs b n X t h k=true):a1h P (.mkslice sz zs b n) ts hl k:=by
 obtain⟨cs,ez,hk2⟩:=b0d hk
 clear hk
 subst ez
 obtain⟨v,h1,hk⟩:=a0n r hk2
 obtain⟨n',rfl,hk⟩:=a4z hk
 obtain⟨h2,hk⟩:=a3d hk
 obtain⟨h3,hk⟩:=a3d hk
 have hk:=a4r hk
 have hk:=b9e hk
 obtain⟨h',hk,hr⟩:=rh.adds hk
 refine⟨_,_,_,_,hk,hr _ rfl,?_⟩
 rintro S ⟨A,ro,E,rfl⟩ mv K hK
 simp only[a0c,h1,CA.to,CD.to,b4q]
 refine And.intro h2 (And.intro h3 ?_)
 rw[a0z]
 rw[c0o (P:=P) (A:=A) (ro:=ro) (E:=E)] at hK
 exact hK
theorem e2c (r:RT t ts)(rh:RH P h hl){sz:Nat}{x:a0o}{lo hi mx:Option a0o}(hk:d8e sz x lo hi mx X t h k=true):a1h P (.slice sz x lo hi mx) ts hl k:=by
 obtain⟨v,h1,hk⟩:=a0n r hk
 obtain⟨u,hk,h2⟩:=b9k (P:=P) r hk
 refine⟨_,_,_,_,hk,rh,fun S hS mv K hK=> ?_⟩
 simp only[a0c,h1]
 exact h2 S hS _ hK
theorem e0p (r:RT t ts)(rh:RH P h hl){n:Nat}{x:a0o}{lo hi:Option a0o}(hk:d4b n x lo hi X t h k=true):a1h P (.slarr n x lo hi) ts hl k:=by
 obtain⟨v,h1,hk⟩:=a0n r hk
 split at hk
 ·obtain⟨lo',hk,hlo⟩:=a4d r hk
  obtain⟨hi',hk,hhi⟩:=a4d r hk
  obtain⟨h2,hk⟩:=a3d hk
  obtain⟨h3,hk⟩:=a3d hk
  obtain⟨h4,hk⟩:=a3d hk
  have hk:=a4r hk
  have hk:=a4r hk
  rw[a5o] at hk
  split at hk
  ·rename_i e
   refine⟨_,_,_,_,hk,rh,?_⟩
   rintro S ⟨A,ro,E,rfl⟩ mv K hK
   have e':(std P A ro E).nsub (nat (std P A ro E) hi') (nat (std P A ro E) lo')=0:=by rw[a0z,a0z];exact e
   simp only[a0c,h1,CA.to]
   refine hlo _ (hhi _ (And.intro h2 (And.intro h3 (And.intro h4 ?_))))
   rw[e']
   exact hK
  ·rename_i m e
   refine⟨_,_,_,_,hk,rh,?_⟩
   rintro S ⟨A,ro,E,rfl⟩ mv K hK
   have e':(std P A ro E).nsub (nat (std P A ro E) hi') (nat (std P A ro E) lo')=m+1:=by rw[a0z,a0z];exact e
   simp only[a0c,h1,CA.to]
   refine hlo _ (hhi _ (And.intro h2 (And.intro h3 (And.intro h4 ?_))))
   rw[e',a0z]
   exact hK
 ·exact absurd hk Bool.false_ne_true
theorem d9o (r:RT t ts)(rh:RH P h hl){off:Nat}{x:a0o}(hk:d8i off x X t h k=true):a1h P (.faddr off x) ts hl k:=by
 obtain⟨v,h1,hk⟩:=a0n r hk
 split at hk
 ·rw[a5o] at hk
  exact⟨_,_,_,_,hk,rh,fun S _ mv K hK=>by simp only[a0c,h1,CA.to];exact hK⟩
 ·rw[a5o] at hk
  exact⟨_,_,_,_,hk,rh,fun S _ mv K hK=>by simp only[a0c,h1,CA.to];exact hK⟩
 ·rw[a5o] at hk
  exact⟨_,_,_,_,hk,rh,fun S _ mv K hK=>by simp only[a0c,h1,CA.to];exact hK⟩
 ·exact absurd hk Bool.false_ne_true
theorem e1b (r:RT t ts)(rh:RH P h hl){off:Nat}{agg:Option Nat}{x:a0o}(hk:d7u off agg x X t h k=true):a1h P (.field off agg x) ts hl k:=by
 obtain⟨v,h1,hk⟩:=a0n r hk
 split at hk
 ·cases agg with
  |none=>
   obtain⟨v,h2,hk⟩:=b1t hk
   exact⟨_,_,_,_,hk,rh,fun S _ mv K hK=>by simp only[a0c,h1,CA.to,CA.toL_get h2];exact hK⟩
  |some n=>
   obtain⟨c,h2,hk⟩:=c1c CA.to hk
   refine⟨_,_,_,_,hk,rh,fun S _ mv K hK=> ?_⟩
   simp only[a0c,h1,CA.to]
   rw[CA.toL_eq,h2,<-CA.toL_eq]
   exact hK
 ·exact absurd hk Bool.false_ne_true
theorem e2d (r:RT t ts)(rh:RH P h hl){sz:Nat}{x i:a0o}(hk:d7s sz x i X t h k=true):a1h P (.iaddr sz x i) ts hl k:=by
 obtain⟨v,h1,hk⟩:=a0n r hk
 obtain⟨n,rfl,hk⟩:=a4z hk
 obtain⟨u,h2,hk⟩:=a0n r hk
 obtain⟨w,hk,h3⟩:=c0x (P:=P) hk
 refine⟨_,_,_,_,hk,rh,fun S hS mv K hK=> ?_⟩
 simp only[a0c,h1,CA.to,CD.to,b4q,h2]
 exact h3 S hS _ hK
theorem d2r (r:RT t ts)(rh:RH P h hl){n sz:Nat}{x i:a0o}(hk:c8l n sz x i X t h k=true):a1h P (.iaddrA n sz x i) ts hl k:=by
 obtain⟨v,h1,hk⟩:=a0n r hk
 obtain⟨i',rfl,hk⟩:=a4z hk
 obtain⟨u,h2,hk⟩:=a0n r hk
 split at hk
 ·cases i' with
  |l i'=>
   cases i' with
   |ofNat m=>
    obtain⟨h3,hk⟩:=a0l hk
    rw[a5o] at hk
    refine⟨_,_,_,_,hk,rh,fun S _ mv K hK=> ?_⟩
    have h4:Int.beq' (Int.ofNat m) (Int.ofNat m)=true:=by rw[c6p];simp
    have e:(Int.ofNat m).toNat=m:=rfl
    simp only[a0c,h1,CA.to,CD.to,b4q,h2,e,h3,h4,Bool.and_self,if_true]
    exact hK
   |negSucc m=>exact absurd hk Bool.false_ne_true
  |v i'=>exact absurd hk Bool.false_ne_true
 ·exact absurd hk Bool.false_ne_true
theorem d3r {a b k:Bool}(h:a1n (match a with|true=>b|false=>Bool.not b) k=true):a=b/\k=true:=by
 obtain⟨h1,h2⟩:=a0l h
 exact⟨(by cases a<;>cases b<;>first|rfl|cases h1),h2⟩
theorem d7h (r:RT t ts)(rh:RH P h hl){wide:Bool}{ks:List IntKind}{ok:Bool}{m kx:a0o}(hk:c8o wide ks ok m kx X t h k=true):a1h P (.lookup wide ks ok m kx) ts hl k:=by
 obtain⟨v,h1,hk⟩:=a0n r hk
 split at hk
 ·obtain⟨o,ao,h2,hR,hk⟩:=rh.gets hk
  cases o with
  |map wide' ks' n es=>
   cases hR
   obtain⟨h3,hk⟩:=d3r hk
   obtain⟨h4,hk⟩:=a0l hk
   have h4:=d2z h4
   obtain⟨u,h5,hk⟩:=a0n r hk
   obtain⟨kc,hk,h6⟩:=b7u (P:=P) hk
   have hk:=c7i hk
   split at hk
   ·rename_i e
    cases ok with
    |true=>
     refine⟨_,_,_,_,hk,rh,?_⟩
     rintro S ⟨A,ro,E,rfl⟩ mv K hK
     simp only[a0c,h1,CA.to,h2,h3,h4,and_self,if_true,h5]
     subst h3 h4
     refine h6 _ ⟨A,ro,E,rfl⟩ _ ?_
     simp only[std,e]
     exact hK
    |false=>
     refine⟨_,_,_,_,hk,rh,?_⟩
     rintro S ⟨A,ro,E,rfl⟩ mv K hK
     simp only[a0c,h1,CA.to,h2,h3,h4,and_self,if_true,h5]
     subst h3 h4
     refine h6 _ ⟨A,ro,E,rfl⟩ _ ?_
     simp only[std,e]
     exact hK
   ·rename_i e
    cases ok with
    |true=>
     refine⟨_,_,_,_,hk,rh,?_⟩
     rintro S ⟨A,ro,E,rfl⟩ mv K hK
     simp only[a0c,h1,CA.to,h2,h3,h4,and_self,if_true,h5]
     subst h3 h4
     refine h6 _ ⟨A,ro,E,rfl⟩ _ ?_
     simp only[std,e]
     exact hK
    |false=>
     refine⟨_,_,_,_,hk,rh,?_⟩
     rintro S ⟨A,ro,E,rfl⟩ mv K hK
     simp only[a0c,h1,CA.to,h2,h3,h4,and_self,if_true,h5]
     subst h3 h4
     refine h6 _ ⟨A,ro,E,rfl⟩ _ ?_
     simp only[std,e]
     exact hK
  |_=>exact absurd hk Bool.false_ne_true
 ·exact absurd hk Bool.false_ne_true
theorem d8h (r:RT t ts)(rh:RH P h hl){wide:Bool}{ks:List IntKind}{m kx x:a0o}(hk:c8c wide ks m kx x X t h k=true):a1h P (.mapupd wide ks m kx x) ts hl k:=by
 obtain⟨v,h1,hk⟩:=a0n r hk
 split at hk
 ·obtain⟨o,ao,h2,hR,hk⟩:=rh.gets hk
  cases o with
  |map wide' ks' n es=>
   cases hR
   obtain⟨h3,hk⟩:=d3r hk
   obtain⟨h4,hk⟩:=a0l hk
   have h4:=d2z h4
   obtain⟨u,h5,hk⟩:=a0n r hk
   obtain⟨kc,hk,h6⟩:=b7u (P:=P) hk
   obtain⟨w,h7,hk⟩:=a0n r hk
   obtain⟨x',rfl,hk⟩:=a4z hk
   have hk:=c7i hk
   have hm: ∀(A:Ann) (ro:Option Nat) (E:Ent),(std P A ro E).mset (c1n es) kc x'.val=c1n ((kc,x'.val)::es):=fun _ _ _=>rfl
   split at hk
   ·rename_i e
    obtain⟨h',hk,hr⟩:=rh.sets hk
    refine⟨_,_,_,_,hk,hr _ rfl,?_⟩
    rintro S ⟨A,ro,E,rfl⟩ mv K hK
    have hc:(std P A ro E).mcnt (c1n es) kc n=n:=by simp only[std,e];rfl
    simp only[a0c,h1,CA.to,h2,h3,h4,and_self,if_true,h5,h7]
    subst h3 h4
    refine h6 _ ⟨A,ro,E,rfl⟩ _ ?_
    simp only[CD.to,b4q,hm,hc]
    exact hK
   ·rename_i e
    rw[a5o] at hk
    obtain⟨h',hk,hr⟩:=rh.sets hk
    refine⟨_,_,_,_,hk,hr _ rfl,?_⟩
    rintro S ⟨A,ro,E,rfl⟩ mv K hK
    have hc:(std P A ro E).mcnt (c1n es) kc n=n+1:=by simp only[std,e];rfl
    simp only[a0c,h1,CA.to,h2,h3,h4,and_self,if_true,h5,h7]
    subst h3 h4
    refine h6 _ ⟨A,ro,E,rfl⟩ _ ?_
    simp only[CD.to,b4q,hm,hc]
    exact hK
  |_=>exact absurd hk Bool.false_ne_true
 ·exact absurd hk Bool.false_ne_true
theorem d1i (r:RT t ts)(rh:RH P h hl){x:a0o}{i:Nat}(hk:c2q x i X t h k=true):a1h P (.extract x i) ts hl k:=by
 obtain⟨v,h1,hk⟩:=a0n r hk
 split at hk
 ·obtain⟨v,h2,hk⟩:=b1t hk
  exact⟨_,_,_,_,hk,rh,fun S _ mv K hK=>by simp only[a0c,h1,CA.to,CA.toL_get h2];exact hK⟩
 ·exact absurd hk Bool.false_ne_true
end
section
variable {P:Program} {X:XS} {t:TS} {ts:List AV} {h:CH} {hl:List a0i} {k:CA->CH->List Nat->Bool}
theorem e5w (x:XOk P X)(r:RT t ts)(rh:RH P h hl){f:a0o}{args:List a0o}{m:Mode}(hk:e3p f args m X t h k=true):a1h P (.call f args m) ts hl k:=by
 obtain⟨v,h1,hk⟩:=a0n r hk
 split at hk
 ·rename_i g first cap
  obtain⟨as,h2,hk⟩:=b3y r hk
  have hk:=c0n hk
  have hk:=c0n hk
  have e:a4l (CA.toL first) (a4l (CA.toL as) (CA.toL cap))=CA.toL (first++(as++cap)):=by
   rw[a1e,a1e,CA.toL_eq,CA.toL_eq,CA.toL_eq,CA.toL_eq];simp
  cases m with
  |borrow=>
   obtain⟨vs,hk,h3⟩:=d4n rh hk
   obtain⟨h4,hk⟩:=b0t hk
   obtain⟨ws,hk,h5⟩:=a2r _ hk
   obtain⟨u,hk,h6⟩:=x.pcall hk
   refine⟨_,_,_,_,hk,rh,?_⟩
   rintro S ⟨A,ro,E,rfl⟩ mv K hK
   simp only[a0c,h1,CA.to,h2,e]
   refine h3 _ ⟨A,ro,E,rfl⟩ _ ?_
   simp only[h4,if_true]
   rw[<-h5]
   exact⟨_,h6,hK⟩
  |share=>
   obtain⟨vs,h',hl',hk,rh',h3⟩:=b4t rh hk
   obtain⟨h4,hk⟩:=b0t hk
   obtain⟨ws,hk,h5⟩:=a2r _ hk
   obtain⟨u,hk,h6⟩:=x.pcall hk
   refine⟨_,_,_,_,hk,rh',?_⟩
   rintro S ⟨A,ro,E,rfl⟩ mv K hK
   simp only[a0c,h1,CA.to,h2,e]
   refine h3 _ ⟨A,ro,E,rfl⟩ _ ?_
   simp only[h4,if_true]
   rw[<-h5]
   exact⟨_,h6,hK⟩
  |data=>
   obtain⟨h4,hk⟩:=b0t hk
   obtain⟨ws,hk,h5⟩:=a2r _ hk
   obtain⟨u,hk,h6⟩:=x.pcall hk
   refine⟨_,_,_,_,hk,rh,?_⟩
   rintro S ⟨A,ro,E,rfl⟩ mv K hK
   simp only[a0c,h1,CA.to,h2,e,h4,if_true]
   rw[<-h5]
   exact⟨_,h6,hK⟩
  |raw=>
   obtain⟨ws,hk,h5⟩:=a2r _ hk
   obtain⟨pg,u,h',hl',hk,rh',h6⟩:=x.call rh hk
   refine⟨_,_,_,_,hk,rh',?_⟩
   rintro S ⟨A,ro,E,rfl⟩ mv K hK
   simp only[a0c,h1,CA.to,h2,e]
   rw[<-h5]
   exact h6 (fun pg v h''=>K v h'' pg) hK
  |fresh=>exact absurd hk Bool.false_ne_true
 ·rename_i l
  split at hk
  ·obtain⟨as,h2,hk⟩:=b3y r hk
   obtain⟨ws,hk,h5⟩:=a2r _ hk
   obtain⟨pg,u,h',hl',hk,rh',h6⟩:=x.yld rh hk
   refine⟨_,_,_,_,hk,rh',?_⟩
   rintro S ⟨A,ro,E,rfl⟩ mv K hK
   simp only[a0c,h1,CA.to,h2,if_true]
   rw[<-h5]
   exact h6 (fun pg v h''=>K v h'' pg) hK
  ·exact absurd hk Bool.false_ne_true
 ·exact absurd hk Bool.false_ne_true
theorem f4i (r:RT t ts)(rh:RH P h hl){x:a0o}(hk:e9v x X t h k=true):a1h P (.len x) ts hl k:=by
 obtain⟨v,h1,hk⟩:=a0n r hk
 split at hk<;>first
  |exact absurd hk Bool.false_ne_true
  |(refine⟨_,_,_,_,hk,rh,?_⟩
    rintro S ⟨A,ro,E,rfl⟩ mv K hK
    simp only[a0c,h1,CA.to,CD.to]
    exact hK)
theorem e8i (r:RT t ts)(rh:RH P h hl){x:a0o}(hk:e4b x X t h k=true):a1h P (.lenm x) ts hl k:=by
 obtain⟨v,h1,hk⟩:=a0n r hk
 split at hk
 ·obtain⟨o,ao,h2,hR,hk⟩:=rh.gets hk
  cases o with
  |map wide' ks' n es=>
   cases hR
   refine⟨_,_,_,_,hk,rh,?_⟩
   rintro S ⟨A,ro,E,rfl⟩ mv K hK
   simp only[a0c,h1,CA.to,h2]
   exact hK
  |_=>exact absurd hk Bool.false_ne_true
 ·exact absurd hk Bool.false_ne_true
theorem f4r (r:RT t ts)(rh:RH P h hl){x:a0o}(hk:f4n x X t h k=true):a1h P (.cap x) ts hl k:=by
 obtain⟨v,h1,hk⟩:=a0n r hk
 split at hk
 ·obtain⟨o,ao,h2,hR,hk⟩:=rh.gets hk
  cases o with
  |arr sz' n' e=>
   cases hR
   obtain⟨h3,hk⟩:=a0l hk
   split at hk
   ·refine⟨_,_,_,_,hk,rh,?_⟩
    rintro S ⟨A,ro,E,rfl⟩ mv K hK
    simp only[a0c,h1,CA.to,h2,h3,if_true]
    exact hK
   ·split at hk
    ·refine⟨_,_,_,_,hk,rh,?_⟩
     rintro S ⟨A,ro,E,rfl⟩ mv K hK
     simp only[a0c,h1,CA.to,h2,h3,if_true]
     exact hK
    ·rw[a5o] at hk
     refine⟨_,_,_,_,hk,rh,?_⟩
     rintro S ⟨A,ro,E,rfl⟩ mv K hK
     simp only[a0c,h1,CA.to,h2,h3,if_true]
     exact hK
  |_=>exact absurd hk Bool.false_ne_true
 ·exact absurd hk Bool.false_ne_true
theorem f3j (r:RT t ts)(rh:RH P h hl){x y:a0o}(hk:e9i x y X t h k=true):a1h P (.min x y) ts hl k:=by
 obtain⟨v,h1,hk⟩:=a0n r hk
 obtain⟨u,h2,hk⟩:=a0n r hk
 split at hk
 ·split at hk
  ·obtain⟨h3,hk⟩:=a0l hk
   have e:=a9k h3
   split at hk
   ·rename_i c
    rw[c3c] at c
    refine⟨_,_,_,_,hk,rh,?_⟩
    rintro S ⟨A,ro,E,rfl⟩ mv K hK
    simp only[a0c,h1,h2,CA.to,CD.to,e,if_true]
    simp only[std,c,if_true]
    rw[e] at hK
    exact hK
   ·rename_i c
    rw[c3c] at c
    refine⟨_,_,_,_,hk,rh,?_⟩
    rintro S ⟨A,ro,E,rfl⟩ mv K hK
    simp only[a0c,h1,h2,CA.to,CD.to,e,if_true]
    simp only[std,c]
    rw[e] at hK
    exact hK
  ·exact absurd hk Bool.false_ne_true
 ·exact absurd hk Bool.false_ne_true
theorem d5n (r:RT t ts)(rh:RH P h hl){sz b:Nat}{x y:a0o}{mu:Bool}(hk:c7j sz b x y mu X t h k=true):a1h P (.append sz b x y mu) ts hl k:=by
 obtain⟨v,h1,hk⟩:=a0n r hk
 obtain⟨u,h2,hk⟩:=a0n r hk
 obtain⟨w,h',hl',pg,hk,rh',h3⟩:=a9e rh hk
 refine⟨_,_,_,_,hk,rh',fun S hS mv K hK=> ?_⟩
 simp only[a0c,h1,h2]
 exact h3 S hS _ hK
theorem e6x (r:RT t ts)(rh:RH P h hl){sz:Nat}{x y:a0o}(hk:e3q sz x y X t h k=true):a1h P (.copy sz x y) ts hl k:=by
 obtain⟨v,h1,hk⟩:=a0n r hk
 obtain⟨u,h2,hk⟩:=a0n r hk
 obtain⟨w,h',hl',hk,rh',h3⟩:=c3i rh hk
 refine⟨_,_,_,_,hk,rh',fun S hS mv K hK=> ?_⟩
 simp only[a0c,h1,h2]
 exact h3 S hS _ hK
theorem c5a (r:RT t ts)(rh:RH P h hl){sz:Nat}{x y:a0o}(hk:b7j sz x y X t h k=true):a1h P (.appendIn sz x y) ts hl k:=by
 obtain⟨v,h1,hk⟩:=a0n r hk
 obtain⟨u,h2,hk⟩:=a0n r hk
 obtain⟨w,h',hl',hk,rh',h3⟩:=c0f rh hk
 refine⟨_,_,_,_,hk,rh',fun S hS mv K hK=> ?_⟩
 simp only[a0c,h1,h2]
 exact h3 S hS _ hK
theorem e1r (r:RT t ts)(rh:RH P h hl){sz:Nat}{zs:List DV}{x:a0o}(hk:d8m sz zs x X t h k=true):a1h P (.clear sz zs x) ts hl k:=by
 obtain⟨cs,ez,hk2⟩:=b0d hk
 clear hk
 subst ez
 obtain⟨v,h1,hk⟩:=a0n r hk2
 split at hk
 ·obtain⟨h2,hk⟩:=a0l hk
  obtain⟨o,ao,h3,hR,hk⟩:=rh.gets hk
  cases o with
  |arr sz'' n' e=>
   cases hR
   obtain⟨h4,hk⟩:=a0l hk
   have hk:=a9q (P:=P) (A:={}) (ro:=none) (E:=E0) hk
   obtain⟨h6,hk⟩:=b2w hk
   have hk:=b9e hk
   obtain⟨h7,h8,hk⟩:=c5o hk
   obtain⟨h',hk,hr⟩:=rh.sets hk
   refine⟨_,_,_,_,hk,hr _ rfl,?_⟩
   rintro S ⟨A,ro,E,rfl⟩ mv K hK
   simp only[a0c,h1,CA.to,h2,h3,h4,if_true]
   rw[b9p (P:=P) (A:=A) (ro:=ro) (E:=E) h7 h8,b8e,c0o (P:=P) (A:=A) (ro:=ro) (E:=E)] at hK
   exact And.intro h6 hK
  |_=>exact absurd hk Bool.false_ne_true
 ·exact absurd hk Bool.false_ne_true
theorem e0n (r:RT t ts)(rh:RH P h hl){neg:Bool}{x:a0o}(hk:d8o neg x X t h k=true):a1h P (.isnil neg x) ts hl k:=by
 obtain⟨v,h1,hk⟩:=a0n r hk
 split at hk
 ·cases neg<;>
  ·refine⟨_,_,_,_,hk,rh,?_⟩
   rintro S ⟨A,ro,E,rfl⟩ mv K hK
   simp only[a0c,h1,CA.to,CD.to]
   exact hK
 ·obtain⟨h2,hk⟩:=b2x hk
  refine⟨_,_,_,_,hk,rh,?_⟩
  rintro S ⟨A,ro,E,rfl⟩ mv K hK
  simp only[a0c,h1,CA.to,CD.to]
  exact And.intro h2 hK
 ·obtain⟨h2,hk⟩:=b2x hk
  refine⟨_,_,_,_,hk,rh,?_⟩
  rintro S ⟨A,ro,E,rfl⟩ mv K hK
  simp only[a0c,h1,CA.to]
  exact And.intro h2 hK
 ·obtain⟨h2,hk⟩:=b2x hk
  refine⟨_,_,_,_,hk,rh,?_⟩
  rintro S ⟨A,ro,E,rfl⟩ mv K hK
  simp only[a0c,h1,CA.to]
  exact And.intro h2 hK
 ·exact absurd hk Bool.false_ne_true
theorem d7k (r:RT t ts)(rh:RH P h hl){sz:Nat}{x:a0o}{lo hi:Option a0o}(hk:c9r sz x lo hi X t h k=true):a1h P (.slicex sz x lo hi) ts hl k:=by
 obtain⟨v,h1,hk⟩:=a0n r hk
 split at hk
 ·obtain⟨h2,hk⟩:=a0l hk
  obtain⟨o,ao,h3,hR,hk⟩:=rh.gets hk
  cases o with
  |arr sz'' n' e=>
   cases hR
   obtain⟨h4,hk⟩:=a0l hk
   obtain⟨lo',hk,hlo⟩:=a4d r hk
   obtain⟨hi',hk,hhi⟩:=a4d r hk
   obtain⟨h5,hk⟩:=a3d hk
   obtain⟨h6,hk⟩:=a3d hk
   have hk:=a4r hk
   have hk:=a9q (P:=P) (A:={}) (ro:=none) (E:=E0) hk
   obtain⟨h7,hk⟩:=b2w hk
   have hk:=a4r hk
   rw[a5o] at hk
   obtain⟨s',hk,h8⟩:=a8j (P:=P) hk
   refine⟨_,_,_,_,hk,rh,?_⟩
   rintro S ⟨A,ro,E,rfl⟩ mv K hK
   simp only[a0c,h1,CA.to,h2,h3,h4,if_true]
   refine hlo _ (hhi _ (And.intro h5 (And.intro h6 ?_)))
   rw[h8 _ ⟨A,ro,E,rfl⟩,a0z,a0z]
   exact And.intro h7 hK
  |_=>exact absurd hk Bool.false_ne_true
 ·exact absurd hk Bool.false_ne_true
theorem e6c (r:RT t ts)(rh:RH P h hl){l:List UInt8}{x:a0o}(hk:e3i l x X t h k=true):a1h P (.idxs l x) ts hl k:=by
 obtain⟨v,h1,hk⟩:=a0n r hk
 split at hk
 ·rename_i i
  have hk:=a4r hk
  obtain⟨h2,hk⟩:=a3d hk
  obtain⟨b,h3,hk⟩:=b1t hk
  rw[a5o] at hk
  refine⟨_,_,_,_,hk,rh,?_⟩
  rintro S ⟨A,ro,E,rfl⟩ mv K hK
  have hlt:=(List.getElem?_eq_some_iff.1 h3).1
  simp only[a0c,h1,CA.to,CD.to]
  refine And.intro (show (0:Int)<=_/\_<((a4v l:Nat):Int) from⟨h2,by rw[a1g];simp only[Int.ofNat_eq_natCast] at h2;omega⟩) ?_
  have e:(std P A ro E).sidx l (IX.val ‹IX›)=((b.toNat:Nat):Int):=by
   simp only[std,List.getD_eq_getElem?_getD,h3,Option.getD_some]
  rw[e]
  exact hK
 ·exact absurd hk Bool.false_ne_true
theorem b5m (r:RT t ts){sz sz' n:Nat}{lo hi mx:Option a0o}{k:Unit->Bool}(hk:c0i t sz sz' n lo hi mx k=true):k ()=true/\ ∀S,Sd P S-> ∀K:Prop,K->a6g S ts sz sz' n lo hi mx K:=by
 obtain⟨h1,hk⟩:=a0l hk
 obtain⟨lo',hk,hlo⟩:=a4d r hk
 obtain⟨hi',hk,hhi⟩:=a4d r hk
 obtain⟨mx',hk,hmx⟩:=a4d r hk
 obtain⟨h2,hk⟩:=a3d hk
 obtain⟨h3,hk⟩:=a3d hk
 obtain⟨h4,hk⟩:=a3d hk
 obtain⟨h5,hk⟩:=a3d hk
 refine⟨hk,?_⟩
 rintro S ⟨A,ro,E,rfl⟩ K hK
 simp only[a6g,h1,if_true]
 exact hlo _ (hhi _ (hmx _ (And.intro h2 (And.intro h3 (And.intro h4 (And.intro h5 hK))))))
theorem e1p (r:RT t ts)(rh:RH P h hl){sz:Nat}{x:a0o}{lo hi mx:Option a0o}(hk:d2n sz x lo hi mx X t h k=true):a1h P (.slchk sz x lo hi mx) ts hl k:=by
 obtain⟨v,h1,hk⟩:=a0n r hk
 split at hk
 ·obtain⟨hk,h2⟩:=b5m (P:=P) r hk
  refine⟨_,_,_,_,hk,rh,fun S hS mv K hK=> ?_⟩
  simp only[a0c,h1,CA.to]
  exact h2 S hS _ hK
 ·obtain⟨hk,h2⟩:=b5m (P:=P) r hk
  refine⟨_,_,_,_,hk,rh,fun S hS mv K hK=> ?_⟩
  simp only[a0c,h1,CA.to,CD.to]
  exact h2 S hS _ hK
 ·exact absurd hk Bool.false_ne_true
theorem e9s (r:RT t ts)(rh:RH P h hl){x y:a0o}(hk:f1g x y X t h k=true):a1h P (.ovl x y) ts hl k:=by
 obtain⟨v,h1,hk⟩:=a0n r hk
 obtain⟨u,h2,hk⟩:=a0n r hk
 split at hk
 ·split at hk
  ·split at hk
   ·exact absurd hk Bool.false_ne_true
   ·rename_i hne
    obtain⟨h3,hk⟩:=b2x hk
    obtain⟨h4,hk⟩:=b2x hk
    obtain⟨o,ao,h5,hR,hk⟩:=rh.gets hk
    cases o with
    |arr sz n e=>
     cases hR
     obtain⟨o',ao',h6,hR',hk⟩:=rh.gets hk
     cases o' with
     |arr sz' n' e'=>
      cases hR'
      obtain⟨h7,hk⟩:=a0l hk
      obtain⟨h8,hk⟩:=a0l hk
      obtain⟨h9,hk⟩:=b2x hk
      refine⟨_,_,_,_,hk,rh,?_⟩
      rintro S ⟨A,ro,E,rfl⟩ mv K hK
      have e1:=Nat.eq_of_beq_eq_true h7
      have e2:=Nat.eq_of_beq_eq_true h8
      subst e1 e2
      simp only[a0c,h1,h2,CA.to,hne]
      refine And.intro h3 (And.intro h4 ?_)
      simp only[h5,h6]
      exact And.intro h9 hK
     |_=>exact absurd hk Bool.false_ne_true
    |_=>exact absurd hk Bool.false_ne_true
  ·exact absurd hk Bool.false_ne_true
 ·exact absurd hk Bool.false_ne_true
theorem d8g {v:CA}(h:b5l v=true):b0o v.to=true:=by
 unfold b5l at h
 split at h
 ·rfl
 ·have:=Nat.eq_of_beq_eq_true h;subst this;rfl
 ·have:=Nat.eq_of_beq_eq_true h;subst this;rfl
 ·have:=Nat.eq_of_beq_eq_true h;subst this;rfl
 ·cases h
theorem d7r {v:CA}(h:b5l v=false):b0o v.to=false:=by
 unfold b5l at h
 split at h
 ·cases h
 ·rename_i n _;cases n with
  |zero=>cases h
  |succ n=>rfl
 ·rename_i n _;cases n with
  |zero=>cases h
  |succ n=>rfl
 ·rename_i n _;cases n with
  |zero=>cases h
  |succ n=>rfl
 ·rename_i h1 h2 h3 h4
  cases v with
  |d x=>cases x<;>first|rfl|exact (h1 rfl).elim|exact (h2 _ _ _ rfl).elim
  |dfs=>exact (h3 _ _ _ rfl).elim
  |msl=>exact (h4 _ _ _ _ _ rfl).elim
  |_=>rfl
theorem e2b {v:CA}(h:d8d v=false):v.to≠ .d .nil:=by
 intro e
 rw[CA.to_nil e] at h
 cases h
theorem d0w (r:RT t ts)(rh:RH P h hl){sz b:Nat}{x y:a0o}{mu:Bool}(hk:c1u sz b x y mu X t h k=true):a1h P (.appendN sz b x y mu) ts hl k:=by
 obtain⟨v,h1,hk⟩:=a0n r hk
 obtain⟨u,h2,hk⟩:=a0n r hk
 have gen: ¬(v.to= .d .nil/\b0o u.to=true)->a4e h sz v u mu k=true->a1h P (.appendN sz b x y mu) ts hl k:=by
  intro hne hk
  obtain⟨w,h',hl',pg,hk,rh',h3⟩:=a9e rh hk
  refine⟨_,_,_,_,hk,rh',fun S hS mv K hK=> ?_⟩
  simp only[a0c,h1,h2]
  split
  ·rename_i e1 e2;exact (hne ⟨e1,e2⟩).elim
  ·exact h3 S hS _ hK
 split at hk
 ·rename_i e
  split at hk
  ·rename_i e2
   have hv:v.to= .d .nil:=by
    unfold d8d at e
    split at e
    ·rfl
    ·cases e
   refine⟨_,_,_,_,hk,rh,fun S hS mv K hK=> ?_⟩
   simp only[a0c,h1,h2,hv,d8g e2]
   exact hK
  ·rename_i e2
   exact gen (fun c=>by rw[d7r e2] at c;cases c.2) hk
 ·rename_i e
  exact gen (fun c=>e2b e c.1) hk
theorem a8m (x:XOk P X)(r:RT t ts)(rh:RH P h hl){o:IOp}(hk:c5v X o t h k=true):a1h P o ts hl k:=by
 cases o with
 |mv=>exact f5w (X:=X) r rh hk
 |newnil=>exact d2p (X:=X) (t:=t) rh hk
 |bnew=>exact e8o (X:=X) (t:=t) rh hk
 |pick=>exact e7g (X:=X) r rh hk
 |alloc=>exact e1h (X:=X) (t:=t) rh hk
 |box=>exact f2o (X:=X) r rh hk
 |build=>exact e2i (X:=X) r rh hk
 |bslice=>exact d5h (X:=X) r rh hk
 |load=>exact e8f (X:=X) r rh hk
 |store=>exact d8y (X:=X) r rh hk
 |nilchk=>exact d4x (X:=X) r rh hk
 |bin=>exact f4c (X:=X) r rh hk
 |binb=>exact e8k (X:=X) r rh hk
 |aeq=>exact f0q (X:=X) r rh hk
 |un=>exact f5g (X:=X) r rh hk
 |conv=>exact e4x (X:=X) r rh hk
 |mkfn=>exact e7h (X:=X) r rh hk
 |mkmap=>exact d9k (X:=X) (t:=t) rh hk
 |mkslice=>exact d0z (X:=X) r rh hk
 |slice=>exact e2c (X:=X) r rh hk
 |slarr=>exact e0p (X:=X) r rh hk
 |faddr=>exact d9o (X:=X) r rh hk
 |field=>exact e1b (X:=X) r rh hk
 |iaddr=>exact e2d (X:=X) r rh hk
 |iaddrA=>exact d2r (X:=X) r rh hk
 |lookup=>exact d7h (X:=X) r rh hk
 |mapupd=>exact d8h (X:=X) r rh hk
 |extract=>exact d1i (X:=X) r rh hk
 |call=>exact e5w x r rh hk
 |len=>exact f4i (X:=X) r rh hk
 |lenm=>exact e8i (X:=X) r rh hk
 |cap=>exact f4r (X:=X) r rh hk
 |min=>exact f3j (X:=X) r rh hk
 |append=>exact d5n (X:=X) r rh hk
 |copy=>exact e6x (X:=X) r rh hk
 |bad=>exact absurd hk Bool.false_ne_true
 |appendIn=>exact c5a (X:=X) r rh hk
 |clear=>exact e1r (X:=X) r rh hk
 |isnil=>exact e0n (X:=X) r rh hk
 |slicex=>exact d7k (X:=X) r rh hk
 |idxs=>exact e6c (X:=X) r rh hk
 |slchk=>exact e1p (X:=X) r rh hk
 |ovl=>exact e9s (X:=X) r rh hk
 |appendN=>exact d0w (X:=X) r rh hk
end
structure SR (P:Program)(base:Nat)(t:TS)(h:CH)(mv:List Nat)(st:St):Prop where
 ts:RT t st.ts
 h:RH P h st.h
 mv:MV base st.mv mv
theorem d9q (pg:List Nat): ∀(st:St) (m:Nat),m∈(st.purge pg).mv->m∈pg\/m∈st.mv:=by
 induction pg with
 |nil=>intro st m h;exact .inr h
 |cons l pg ih=>
  intro st m h
  rcases ih _ m h with h|h
  ·exact .inl (by simp[h])
  ·rcases List.mem_cons.1 h with h|h
   ·exact .inl (by simp[h])
   ·exact .inr h
def g0v (g:Option (Nat×Bool))(st:St):Prop:= ∃j want,g=some (j,want)/\(a1x st.ts j=some .und\/ ∃b,a1x st.ts j=some (.d (.bool b))/\b≠want)
def GOn (g:Option (Nat×Bool))(st:St):Prop:=g=none\/ ∃j want,g=some (j,want)/\a1x st.ts j=some (.d (.bool want))
theorem a7r {st:St}{j:Nat}{b:Bool}(h:a1x st.ts j=some (.d (.bool b))):st.setb j b=st:=by
 obtain⟨ts,hl,mv⟩:=st
 simp only[St.setb,St.put,a0t]
 rw[a0p] at h
 congr 1
 refine List.ext_getElem? fun i=> ?_
 by_cases e:i=j
 ·subst e
  have h':ts[i]? =some (.d (.bool b)):=h
  rw[List.getElem?_set,if_pos rfl,if_pos (List.getElem?_eq_some_iff.1 h').1];exact h'.symm
 ·rw[List.getElem?_set_ne (Ne.symm e)]
section
variable {P:Program} {X:XS} {base:Nat} {t:TS} {h:CH} {mv:List Nat} {st:St}
theorem e0z (r:RT t st.ts){dst:Option Nat}{v:CA}{k:TS->Bool}(hk:a9c dst v t k=true): ∃t',RT t' (st.put dst v.to).ts/\k t'=true:=by
 cases dst with
 |none=>exact⟨t,r,hk⟩
 |some d=>exact r.set (i:=d) hk
theorem e9r (st:St)(dst:Option Nat)(v:AV):(st.put dst v).h=st.h:=by cases dst<;>rfl
theorem e5v (st:St)(dst:Option Nat)(v:AV):(st.put dst v).mv=st.mv:=by cases dst<;>rfl
theorem a3q (r:SR P base t h mv st){dst:Option Nat}{v:CA}{k:TS->Bool}(hk:a9c dst v t k=true): ∃t',SR P base t' h mv (st.put dst v.to)/\k t'=true:=by
 obtain⟨t',h1,h2⟩:=e0z r.ts hk
 exact⟨t',⟨h1,by rw[e9r];exact r.h,by rw[e5v];exact r.mv⟩,h2⟩
theorem a5j (r:RT t st.ts)(hm:MV base st.mv mv){h':CH}{hl':List a0i}(rh:RH P h' hl'){pg:List Nat}{k:TS->List Nat->Bool}
 (hk:a9l pg t (fun ts=>b3o base pg mv fun mv=>k ts mv)=true): ∃t' mv',SR P base t' h' mv' ((st.setH hl').purge pg)/\k t' mv'=true:=by
 obtain⟨t',hk,r'⟩:=d6w r hk
 obtain⟨mv',hk,h1,h2⟩:=e2l hk
 have hp:=a2t pg (st.setH hl')
 refine⟨t',mv',⟨by rw[hp.1];exact r',by rw[hp.2];exact rh,fun m hb hin=> ?_⟩,hk⟩
 rcases d9q pg _ m hin with h|h
 ·exact h2 m h hb
 ·exact h1 m (hm m hb h)
theorem d8n (r:RT t st.ts)(hm:MV base st.mv mv){h':CH}{hl':List a0i}(rh:RH P h' hl'){dst:Option Nat}{v:CA}{pg:List Nat}{k:TS->CH->List Nat->Bool}
 (hk:d4d base dst t mv k v h' pg=true): ∃t' mv',SR P base t' h' mv' (((st.setH hl').purge pg).put dst v.to)/\k t' h' mv'=true:=by
 unfold d4d at hk
 split at hk
 ·obtain⟨t',h1,h2⟩:=a3q (P:=P) (base:=base) (st:=st.setH hl') ⟨r,rh,hm⟩ hk
  exact⟨t',mv,h1,h2⟩
 ·obtain⟨t',mv',h1,hk⟩:=a5j r hm rh (k:=fun ts mv=>a9c dst v ts fun ts=>k ts h' mv) hk
  obtain⟨t'',h2,hk⟩:=a3q h1 hk
  exact⟨t'',mv',h2,hk⟩
theorem f4w (x:XOk P X)(r:SR P base t h mv st){o:a2b}{k:TS->CH->List Nat->Bool}(hk:xop X base o.op o.dst t h mv k=true):
 ∃t' h' mv' st',k t' h' mv'=true/\SR P base t' h' mv' st'/\ ∀S,Sd P S-> ∀K:St->Prop,K st'->e9f S o st K:=by
 obtain⟨v,h',hl',pg,hk,rh',h1⟩:=a8m x r.ts r.h hk
 obtain⟨t',mv',h2,hk⟩:=d8n r.ts r.mv rh' hk
 exact⟨t',h',mv',_,hk,h2,fun S hS K hK=>h1 S hS _ (fun v h pg=>K (((st.setH h).purge pg).put o.dst v)) hK⟩
theorem b6n (r:RT t st.ts){g:Option (Nat×Bool)}{off on:Unit->Bool}(hk:c7p g t off on=true):(off ()=true/\g0v g st)\/(on ()=true/\GOn g st):=by
 cases g with
 |none=>exact .inr ⟨hk,.inl rfl⟩
 |some g=>
  obtain⟨j,want⟩:=g
  obtain⟨v,h1,hk⟩:=r.get (i:=j) (k:=xgV want off on) hk
  unfold xgV at hk
  split at hk
  ·rename_i b
   cases b<;>cases want
   ·exact .inr ⟨hk,.inr ⟨j,_,rfl,h1⟩⟩
   ·exact .inl ⟨hk,j,_,rfl,.inr ⟨_,h1,by simp⟩⟩
   ·exact .inl ⟨hk,j,_,rfl,.inr ⟨_,h1,by simp⟩⟩
   ·exact .inr ⟨hk,.inr ⟨j,_,rfl,h1⟩⟩
  ·exact .inl ⟨hk,j,want,rfl,.inl h1⟩
  ·exact absurd hk Bool.false_ne_true
theorem a9r {o:a2b}{st:St}{off on:St->Prop}(hg:g0v o.guard st)(h:off st):a4j o st off on:=by
 obtain⟨j,want,h1,h2|⟨b,h2,h3⟩⟩:=hg
 ·simp only[a4j,h1,h2];exact h
 ·simp only[a4j,h1,h2]
  cases b<;>cases want
  ·exact absurd rfl h3
  ·simp only[a7r h2,if_true];exact h
  ·simp only[a7r h2];exact h
  ·exact absurd rfl h3
theorem a8x {o:a2b}{st:St}{off on:St->Prop}(hg:GOn o.guard st)(h:on st):a4j o st off on:=by
 rcases hg with h1|⟨j,want,h1,h2⟩
 ·simp only[a4j,h1];exact h
 ·simp only[a4j,h1,h2]
  cases want
  ·simp only[a7r h2];exact h
  ·simp only[a7r h2,if_true];exact h
theorem b1d {S:Sig}{o:a2b}{st:St}{K:St->Prop}(h:a4j o st (fun st=>K (st.put o.dst .und)) fun st=>e9f S o st K):d0m S o st K:=by
 obtain⟨dst,g,op⟩:=o
 cases g with
 |none=>exact h
 |some g=>
  obtain⟨j,want⟩:=g
  simp only[a4j] at h
  simp only[d0m]
  cases e:a1x st.ts j with
  |none=>rw[e] at h;exact h.elim
  |some v=>
   rw[e] at h
   cases v with
   |d x=>
    cases x with
    |bool b=>cases b<;>cases want<;>exact h
    |_=>exact h.elim
   |und=>exact h
   |_=>exact h.elim
theorem e1v (x:XOk P X)(r:SR P base t h mv st){o:a2b}{k:TS->CH->List Nat->Bool}(hk:f0e X base o t h mv k=true):
 ∃t' h' mv' st',k t' h' mv'=true/\SR P base t' h' mv' st'/\ ∀S,Sd P S-> ∀K:St->Prop,K st'->d0m S o st K:=by
 obtain⟨dst,g,op⟩:=o
 rcases b6n (g:=g) r.ts hk with⟨hk,hg⟩|⟨hk,hg⟩
 ·obtain⟨t',h1,hk⟩:=a3q r (v:= .und) hk
  exact⟨t',h,mv,_,hk,h1,fun S hS K hK=>b1d (a9r (o:=⟨dst,g,op⟩) hg hK)⟩
 ·obtain⟨t',h',mv',st',hk,h1,h2⟩:=f4w x r (o:=⟨dst,g,op⟩) hk
  exact⟨t',h',mv',st',hk,h1,fun S hS K hK=>b1d (a8x (o:=⟨dst,g,op⟩) hg (h2 S hS K hK))⟩
theorem e7s (x:XOk P X){l:List a2b}: ∀{t:TS} {h:CH} {mv:List Nat} {st:St} (_:SR P base t h mv st) {k:TS->CH->List Nat->Bool},f5q X base l t h mv k=true->
 ∃t' h' mv' st',k t' h' mv'=true/\SR P base t' h' mv' st'/\ ∀S,Sd P S-> ∀K:St->Prop,K st'->e0t S l st K:=by
 induction l with
 |nil=>intro t h mv st r k hk;exact⟨t,h,mv,st,hk,r,fun S hS K hK=>hK⟩
 |cons o l ih=>
  intro t h mv st r k hk
  obtain⟨t1,h1,mv1,st1,hk,r1,g1⟩:=e1v x r (o:=o) (k:=fun t h mv=>f5q X base l t h mv k) hk
  obtain⟨t2,h2,mv2,st2,hk,r2,g2⟩:=ih r1 hk
  exact⟨t2,h2,mv2,st2,hk,r2,fun S hS K hK=>g1 S hS _ (g2 S hS K hK)⟩
theorem d6j (r:RT t st.ts){l:Nat}{o:IOp}{k:CA->b6d->Bool}(hk:d3j l o t k=true):
 ∃v o' ao,k v o'=true/\o'.R P ao/\ ∀S,Sd P S-> ∀K:AV->a0i->Prop,K v.to ao->a6l S l o st K:=by
 unfold d3j at hk
 split at hk
 ·obtain⟨cs,ez,hk⟩:=b0d hk
  obtain⟨ds,h1,hk⟩:=d3y hk
  refine⟨_,_,_,hk,rfl,fun S _ K hK=> ?_⟩
  simp only[a6l,ez,h1]
  exact hK
 ·obtain⟨v,h1,hk⟩:=a0n r hk
  obtain⟨h2,hk⟩:=a8w hk
  refine⟨_,_,_,hk,rfl,fun S _ K hK=> ?_⟩
  simp only[a6l,h1,CA.cells_to,h2,if_true]
  exact hK
 ·exact⟨_,_,_,hk,rfl,fun S _ K hK=>hK⟩
 ·exact⟨_,_,_,hk,rfl,fun S _ K hK=>hK⟩
 ·obtain⟨cs,ez,hk⟩:=b0d hk
  obtain⟨v,h1,hk⟩:=a0n r hk
  obtain⟨n',rfl,hk⟩:=a4z hk
  obtain⟨h2,hk⟩:=a3d hk
  obtain⟨h3,hk⟩:=a3d hk
  have hk:=a4r hk
  have hk:=b9e hk
  refine⟨_,_,_,hk,rfl,?_⟩
  rintro S ⟨A,ro,E,rfl⟩ K hK
  simp only[a6l,h1,CA.to,CD.to,b4q]
  refine And.intro h2 (And.intro h3 ?_)
  rw[a0z]
  rw[c0o (P:=P) (A:=A) (ro:=ro) (E:=E),<-ez] at hK
  exact hK
 ·exact absurd hk Bool.false_ne_true
theorem c0y {u v:Kl}(h:e5o u v=true):u=v:=by cases u<;>cases v<;>first|rfl|cases h
theorem e6a {u v:Kl}(h:e5o u v=false):u≠v:=by cases u<;>cases v<;>first|(intro e;cases e;done)|cases h
theorem c0e {ts:List AV}(r:RT t ts){b0:Nat}{d:a0u}{k:Unit->Bool}(hk:d7z b0 d t k=true):c9k b0 d ts=true/\k ()=true:=by
 unfold d7z at hk
 split at hk
 ·rename_i e;simp only[c9k,e];exact⟨trivial,hk⟩
 ·rename_i hne
  split at hk
  ·rename_i x e
   obtain⟨v,h1,hk⟩:=a0n r hk
   have key: ∀b:Bool,(match opd ts x with
    | .ptr l _=>a7m b0 l d.av
    | .aptr l _ _ _=>if d.o.op.kl= .r then a7m b0 l d.av else false
    | .map l=>if d.o.op.kl= .r then a7m b0 l d.av else false
    | .dptr _ _=>if d.o.op.kl= .r then true else false
    |_=>false)=b->c9k b0 d ts=b:=by
    intro b hb
    unfold c9k
    split
    ·rename_i e';exact (hne e').elim
    ·simp only[e];exact hb
   split at hk
   ·obtain⟨h2,hk⟩:=a0l hk
    exact⟨key _ (by simp only[h1,CA.to,h2]),hk⟩
   ·obtain⟨h3,hk⟩:=a0l hk
    obtain⟨h2,hk⟩:=a0l hk
    exact⟨key _ (by simp only[h1,CA.to,h2,c0y h3,if_true]),hk⟩
   ·obtain⟨h3,hk⟩:=a0l hk
    obtain⟨h2,hk⟩:=a0l hk
    exact⟨key _ (by simp only[h1,CA.to,h2,c0y h3,if_true]),hk⟩
   ·obtain⟨h3,hk⟩:=a0l hk
    exact⟨key _ (by simp only[h1,CA.to,c0y h3,if_true]),hk⟩
   ·exact absurd hk Bool.false_ne_true
  ·exact absurd hk Bool.false_ne_true
end
theorem f7k {a b:List UInt8}(h:c2r a b=true):a=b:=by rw[c9v] at h;exact of_decide_eq_true h
theorem f1y {a b:Int}(h:xeq a b=true):a=b:=by rw[b1j] at h;exact of_decide_eq_true h
theorem f3w {a b:Bool}(h:bEq a b=true):a=b:=by rw[e3x] at h;exact of_decide_eq_true h
theorem e4v {a b:Option Nat}(h:g2o a b=true):a=b:=by
 cases a<;>cases b<;>first|rfl|(cases h;done)|(exact congrArg some (Nat.eq_of_beq_eq_true h))
theorem e6i {a b:IX}(h:g1n a b=true):a=b:=by
 cases a<;>cases b<;>first|(exact congrArg _ (f1y h))|cases h
theorem b2a {a b:Bool}(h:(match a with|true=>b|false=>false)=true):a=true/\b=true:=by
 cases a<;>first|exact⟨rfl,h⟩|cases h
mutual
theorem d3x:(x y:CD)->d0h x y=true->x=y
 | .int kd n,y,h=>by
   cases y<;>first|(simp only[d0h] at h;cases h;done)|(simp only[d0h] at h;obtain⟨h1,h2⟩:=b2a h;rw[a9k h1,e6i h2])
 | .bool b,y,h=>by
   cases y<;>first|(simp only[d0h] at h;cases h;done)|(simp only[d0h] at h;cases b<;>simp_all)
 | .str l,y,h=>by
   cases y<;>first|(simp only[d0h] at h;cases h;done)|(simp only[d0h] at h;rw[f7k h])
 | .nil,y,h=>by
   cases y<;>first|rfl|(simp only[d0h] at h;cases h;done)
 | .sl sz n rows,y,h=>by
   cases y with
   |sl sz' n' rows'=>
    simp only[d0h] at h
    obtain⟨h1,h2⟩:=b2a h
    obtain⟨h2,h3⟩:=b2a h2
    rw[Nat.eq_of_beq_eq_true h1,Nat.eq_of_beq_eq_true h2,c4e rows rows' h3]
   |_=>simp only[d0h] at h;cases h
 | .raw v,y,h=>by simp only[d0h] at h;cases h
theorem c7n:(x y:List CD)->d0i x y=true->x=y
 |[],y,h=>by cases y<;>first|rfl|(simp only[d0i] at h;cases h;done)
 |x::xs,y,h=>by
  cases y with
  |nil=>simp only[d0i] at h;cases h
  |cons y ys=>simp only[d0i] at h;obtain⟨h1,h2⟩:=b2a h;rw[d3x x y h1,c7n xs ys h2]
theorem c4e:(x y:List (List CD))->b8i x y=true->x=y
 |[],y,h=>by cases y<;>first|rfl|(simp only[b8i] at h;cases h;done)
 |x::xs,y,h=>by
  cases y with
  |nil=>simp only[b8i] at h;cases h
  |cons y ys=>simp only[b8i] at h;obtain⟨h1,h2⟩:=b2a h;rw[c7n x y h1,c4e xs ys h2]
end
mutual
theorem d8r:(x y:CA)->b3l x y=true->x=y
 | .d x,y,h=>by
   cases y with
   |d y=>simp only[b3l] at h;rw[d3x x y h]
   |_=>simp only[b3l] at h;cases h
 | .agg xs,y,h=>by
   cases y with
   |agg ys=>simp only[b3l] at h;rw[b3x xs ys h]
   |_=>simp only[b3l] at h;cases h
 | .ptr l o,y,h=>by
   cases y with
   |ptr l' o'=>simp only[b3l] at h;obtain⟨h1,h2⟩:=b2a h;rw[Nat.eq_of_beq_eq_true h1,Nat.eq_of_beq_eq_true h2]
   |_=>simp only[b3l] at h;cases h
 | .msl l sz s n f,y,h=>by
   cases y with
   |msl l' sz' s' n' f'=>
    simp only[b3l] at h
    obtain⟨h1,h⟩:=b2a h
    obtain⟨h2,h⟩:=b2a h
    obtain⟨h3,h⟩:=b2a h
    obtain⟨h4,h5⟩:=b2a h
    rw[Nat.eq_of_beq_eq_true h1,Nat.eq_of_beq_eq_true h2,e4v h3,Nat.eq_of_beq_eq_true h4,f3w h5]
   |_=>simp only[b3l] at h;cases h
 | .map l,y,h=>by
   cases y with
   |map l'=>simp only[b3l] at h;rw[Nat.eq_of_beq_eq_true h]
   |_=>simp only[b3l] at h;cases h
 | .fn f us cs,y,h=>by
   cases y with
   |fn f' us' cs'=>
    simp only[b3l] at h
    obtain⟨h1,h⟩:=b2a h
    obtain⟨h2,h3⟩:=b2a h
    rw[Nat.eq_of_beq_eq_true h1,b3x us us' h2,b3x cs cs' h3]
   |_=>simp only[b3l] at h;cases h
 | .yl l,y,h=>by
   cases y with
   |yl l'=>simp only[b3l] at h;rw[Nat.eq_of_beq_eq_true h]
   |_=>simp only[b3l] at h;cases h
 | .any,y,h=>by simp only[b3l] at h;cases h
 | .und,y,h=>by simp only[b3l] at h;cases h
 | .tuple _,y,h=>by simp only[b3l] at h;cases h
 | .aptr ..,y,h=>by simp only[b3l] at h;cases h
 | .dptr ..,y,h=>by simp only[b3l] at h;cases h
 | .dfs ..,y,h=>by simp only[b3l] at h;cases h
 | .vsl ..,y,h=>by simp only[b3l] at h;cases h
 | .ge _,y,h=>by simp only[b3l] at h;cases h
theorem b3x:(x y:List CA)->c1x x y=true->x=y
 |[],y,h=>by cases y<;>first|rfl|(simp only[c1x] at h;cases h;done)
 |x::xs,y,h=>by
  cases y with
  |nil=>simp only[c1x] at h;cases h
  |cons y ys=>simp only[c1x] at h;obtain⟨h1,h2⟩:=b2a h;rw[d8r x y h1,b3x xs ys h2]
end
end Go.Vf
