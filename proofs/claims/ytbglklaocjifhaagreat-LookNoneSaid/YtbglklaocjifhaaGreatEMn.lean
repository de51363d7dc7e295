/- The runner's twelfth text: regions that draw their order, code. The runner's last text: calls, rounds, fuel: what a run shows. Conditions: none. -/
import Derived.Test.YtbglklaocjifhaaGreatEMm
open Bool renaming false_ne_true->AA,true->AC
open Go.Vf.CA renaming toL->AB,to->AI,toL_len->AK,toL_eq->AL
open List renaming replicate->AD,getElem?_append_right->AE,getElem?_eq_some_iff->AF,getElem?_append_left->AG,mem_cons->AH,append_assoc->AJ
set_option linter.unusedSimpArgs false
set_option linter.unusedVariables false
namespace Go.Vf
open Go
section
variable {P:Program} {X:XS} {base:Nat} {t:TS} {h:CH} {mv:List Nat} {st:St}
theorem b1t (x:XOk P X)(r:SR P base t h mv st){b0:Nat}{k:Unit->Bool}{F:List a0m}:a3f X b0 t h k F=AC->k ()=AC/\ ∀S,Sd P S-> ∀p:Prop,p->a1b S b0 st p F:=by
 induction F with
 |nil=>intro hk;exact⟨hk,fun S _ p hp=>hp⟩
 |cons d F ih=>
  intro hk;simp only[a3f] at hk;cases e:d8k d.o.op.kl .r with
  |false=>rw[e] at hk;obtain⟨h1,h2⟩:=ih hk;exact⟨h1,fun S hS p hp=>by simp only[a1b,if_neg (d7z e)];exact h2 S hS p hp⟩
  |true=>
   rw[e] at hk;have ek:=b5u e;rcases b0y (st:=st) r.ts hk with⟨hk,hg⟩|⟨hk,hg⟩
   ·obtain⟨h1,h2⟩:=ih hk;exact⟨h1,fun S hS p hp=>by simp only[a1b,if_pos ek];exact a7h hg (h2 S hS p hp)⟩
   ·obtain⟨h1,hk⟩:=b5n r.ts hk;obtain⟨v,h',hl',pg,hk,_,h2⟩:=a5v x r.ts r.h hk;cases e2:d.o.dst with
    |none=>simp only[e2] at hk;obtain⟨h3,h4⟩:=ih hk;refine⟨h3,fun S hS p hp=> ?_⟩;simp only[a1b,if_pos ek];refine a5y hg ?_;rw[if_pos h1];refine h2 S hS _ _ ?_;simp only[e2];exact h4 S hS p hp
    |some j=>simp only[e2] at hk;obtain⟨u,h5,hk⟩:=r.ts.get hk;obtain⟨h6,hk⟩:=a0e hk;obtain⟨h3,h4⟩:=ih hk;refine⟨h3,?_⟩;rintro S ⟨A,ro,E,rfl⟩ p hp;simp only[a1b,if_pos ek];refine a5y hg ?_;rw[if_pos h1];refine h2 _ ⟨A,ro,E,rfl⟩ _ _ ?_;simp only[e2];refine And.intro (show v.to=opd st.ts (.t j) from ?_) (h4 _ ⟨A,ro,E,rfl⟩ p hp);simp only[opd,h5,c8u v u h6]
end
mutual
theorem b3e (pg:List Nat):(v:CA)->a9b pg v=a1u pg v.to
 | .agg cs=>by simp only[a9b,AI,a1u,a4m pg cs]
 | .tuple cs=>by simp only[a9b,AI,a1u,a4m pg cs]
 | .fn f us cs=>by simp only[a9b,AI,a1u,a4m pg us,a4m pg cs];cases a6n pg (AB us)<;>rfl
 | .d _=>rfl
 | .any=>rfl
 | .und=>rfl
 | .ptr .. =>rfl
 | .aptr .. =>rfl
 | .dptr .. =>rfl
 | .dfs .. =>rfl
 | .msl .. =>rfl
 | .vsl .. =>rfl
 | .map _=>rfl
 | .ge _=>rfl
 | .yl _=>rfl
theorem a4m (pg:List Nat):(vs:List CA)->a7c pg vs=a6n pg (AB vs)
 |[]=>rfl
 |v::vs=>by simp only[a7c,AB,a6n,b3e pg v,a4m pg vs];cases a1u pg v.to<;>rfl
end
section
variable {P:Program} {X:XS} {base:Nat} {t:TS} {h:CH} {mv:List Nat} {st:St}
theorem b3m {ts:List AV}(r:RT t ts){pg:List Nat}{l:List Nat}{k:Unit->Bool}(hk:b2a pg t l k=AC):a4g pg ts l=AC/\k ()=AC:=by
 induction l with
 |nil=>exact⟨rfl,hk⟩
 |cons j l ih=>simp only[b2a] at hk;obtain⟨v,h1,hk⟩:=r.get hk;obtain⟨h2,hk⟩:=a0e hk;obtain⟨h3,hk⟩:=ih hk;refine⟨?_,hk⟩;simp only[a4g,h1,<-b3e,h2,if_true,h3]
theorem c8i {ts:List AV}(r:RT t ts){pg:List Nat}{F:List a0m}{k:Unit->Bool}(hk:c3n pg t F k=AC):a7a pg ts F=AC/\k ()=AC:=by
 induction F with
 |nil=>exact⟨rfl,hk⟩
 |cons d F ih=>simp only[c3n] at hk;obtain⟨h1,hk⟩:=b3m r hk;obtain⟨h2,hk⟩:=b3m r hk;obtain⟨h3,hk⟩:=ih hk;exact⟨by simp only[a7a,h1,h2,h3,if_true],hk⟩
theorem e9g (x:XOk P X)(r:SR P base t h mv st){b0:Nat}{F:List a0m}{d:a0m}{k:TS->CH->List Nat->Bool}(hk:xD X base b0 F d t h mv k=AC):
 ∃t' h' mv' st',k t' h' mv'=AC/\SR P base t' h' mv' st'/\ ∀S,Sd P S-> ∀K:St->Prop,K st'->evD S b0 F d st K:=by
 unfold xD at hk;cases e:d.o.op.kl with
 |a=>simp only[e,a3j] at hk;obtain⟨v,o',ao,hk,hR,h1⟩:=c7i (P:=P) (st:=st) r.ts hk;obtain⟨h',hk,hr⟩:=r.h.sets hk;have r1:SR P base t h' mv (st.setH (a2x st.h (b0+d.slot) ao)):=⟨r.ts,hr _ hR,r.mv⟩;obtain⟨t',r2,hk⟩:=a2o r1 hk;exact⟨t',h',mv,_,hk,r2,fun S hS K hK=>by simp only[evD,e];exact h1 S hS _ hK⟩
 |m=>
  simp only[e] at hk;obtain⟨h1,hk⟩:=b5n r.ts hk;obtain⟨v,h',hl',pg,hk,rh',h2⟩:=a5v x r.ts r.h hk;cases pg with
  |nil=>simp only at hk;have r1:SR P base t h' mv (st.setH hl'):=⟨r.ts,rh',r.mv⟩;obtain⟨t',r2,hk⟩:=a2o r1 hk;obtain⟨hk,h3⟩:=b1t x r2 hk;refine⟨t',h',mv,_,hk,r2,fun S hS K hK=> ?_⟩;simp only[evD,e,if_pos h1];exact h2 S hS _ _ (h3 S hS _ hK)
  |cons p pg=>
   simp only at hk;cases e2:d.alone with
   |true=>simp only[e2] at hk;obtain⟨t',mv',r1,hk⟩:=a3p r.ts r.mv rh' (k:=fun ts mv=>a6h d.o.dst v ts fun ts=>k ts h' mv) hk;obtain⟨t'',r2,hk⟩:=a2o r1 hk;refine⟨t'',h',mv',_,hk,r2,fun S hS K hK=> ?_⟩;simp only[evD,e,if_pos h1];refine h2 S hS _ _ ?_;simp only[e2,if_true];exact hK
   |false=>simp only[e2] at hk;obtain⟨h3,hk⟩:=a0e hk;obtain⟨h4,hk⟩:=c8i r.ts hk;obtain⟨t',mv',r1,hk⟩:=a3p r.ts r.mv rh' (k:=fun ts mv=>a6h d.o.dst v ts fun ts=>a3f X b0 ts h' (fun _=>k ts h' mv) (a4b d F)) hk;obtain⟨t'',r2,hk⟩:=a2o r1 hk;obtain⟨hk,h5⟩:=b1t x r2 hk;refine⟨t'',h',mv',_,hk,r2,fun S hS K hK=> ?_⟩;simp only[evD,e,if_pos h1];refine h2 S hS _ _ ?_;simp only[e2,h3,h4,if_true];exact h5 S hS _ hK
 |r=>simp only[e] at hk;obtain⟨h1,hk⟩:=b5n r.ts hk;obtain⟨v,h',hl',pg,hk,_,h2⟩:=a5v x r.ts r.h hk;obtain⟨t',r2,hk⟩:=a2o r hk;exact⟨t',h,mv,_,hk,r2,fun S hS K hK=>by simp only[evD,e,if_pos h1];exact h2 S hS _ _ hK⟩
 |i=>simp only[e] at hk;obtain⟨v,h',hl',pg,hk,_,h2⟩:=a5v x r.ts r.h hk;obtain⟨t',r2,hk⟩:=a2o r hk;exact⟨t',h,mv,_,hk,r2,fun S hS K hK=>by simp only[evD,e];exact h2 S hS _ _ hK⟩
 |p=>simp only[e] at hk;obtain⟨v,h',hl',pg,hk,_,h2⟩:=a5v x r.ts r.h hk;obtain⟨t',r2,hk⟩:=a2o r hk;exact⟨t',h,mv,_,hk,r2,fun S hS K hK=>by simp only[evD,e];exact h2 S hS _ _ hK⟩
theorem e9m (x:XOk P X){b0:Nat}{ds:List a0m}: ∀{F:List a0m} {t:TS} {h:CH} {mv:List Nat} {st:St} (_:SR P base t h mv st) {k:TS->CH->List Nat->Bool},xR X base b0 F ds t h mv k=AC->
 ∃t' h' mv' st',k t' h' mv'=AC/\SR P base t' h' mv' st'/\ ∀S,Sd P S-> ∀K:St->Prop,K st'->evR S b0 F ds st K:=by
 induction ds with
 |nil=>intro F t h mv st r k hk;simp only[xR] at hk;exact⟨t,h,mv,st,hk,r,fun S hS K hK=>hK⟩
 |cons d ds ih=>
  intro F t h mv st r k hk;simp only[xR] at hk;rcases b0y (st:=st) r.ts hk with⟨hk,hg⟩|⟨hk,hg⟩
  ·obtain⟨t',r1,hk⟩:=a2o (v:= .und) r hk;obtain⟨t2,h2,mv2,st2,hk,r2,g2⟩:=ih r1 hk;exact⟨t2,h2,mv2,st2,hk,r2,fun S hS K hK=>by simp only[evR,b1f];exact a7h hg (g2 S hS K hK)⟩
  ·obtain⟨t1,h1,mv1,st1,hk,r1,g1⟩:=e9g x r hk;obtain⟨t2,h2,mv2,st2,hk,r2,g2⟩:=ih r1 hk;exact⟨t2,h2,mv2,st2,hk,r2,fun S hS K hK=>by simp only[evR,b1f];exact a5y hg (g1 S hS _ (g2 S hS K hK))⟩
theorem d3w {n:Nat}: ∀{h:CH} {hl:List a0f} (_:RH P h hl) {k:CH->Bool},c5l n h k=AC-> ∃h',k h'=AC/\RH P h' (a2u hl (b8q (.var []) n)):=by
 induction n with
 |zero=>intro h hl r k hk;simp only[c5l] at hk;exact⟨h,hk,by rw[a0r];simpa [b8q] using r⟩
 |succ n ih=>intro h hl r k hk;simp only[c5l] at hk;obtain⟨h',hk,hr⟩:=r.adds hk;obtain⟨h'',hk,r'⟩:=ih (hr (.var []) rfl) hk;refine⟨h'',hk,?_⟩;rw[a0r,a0r] at r';rw[a0r];simpa [b8q] using r'
theorem c1t {ts:List AV}{hl:List a0f}(r:RT t ts)(rh:RH P h hl){irs:List c5p}: ∀{k:List CA->Bool},b2q t h irs k=AC->
 ∃vs,k vs=AC/\ ∀S,Sd P S-> ∀(mv:List Nat) (K:List AV->Prop),K (AB vs)->c1d S ⟨ts,hl,mv⟩ irs K:=by
 induction irs with
 |nil=>intro k hk;simp only[b2q] at hk;exact⟨[],hk,fun S _ mv K hK=>hK⟩
 |cons ir irs ih=>
  intro k hk;cases ir with
  |t i=>simp only[b2q] at hk;obtain⟨v,h1,hk⟩:=r.get hk;obtain⟨vs,hk,h2⟩:=ih hk;refine⟨v::vs,hk,fun S hS mv K hK=> ?_⟩;simp only[c1d,opd,h1];exact h2 S hS mv _ hK
  |c i ag=>simp only[b2q] at hk;obtain⟨v,h1,hk⟩:=r.get hk;obtain⟨u,hk,h3⟩:=b8j rh hk;obtain⟨vs,hk,h2⟩:=ih hk;refine⟨u::vs,hk,fun S hS mv K hK=> ?_⟩;simp only[c1d,opd,h1];exact h3 S hS _ (h2 S hS mv _ hK)
theorem b0t (vs:List CA):(b7r vs).to=a5t (AB vs):=by
 match vs with
 |[]=>rfl
 |[v]=>rfl
 |_::_::_=>rfl
theorem b7b {c:a0h}{b:Bool}(h:opd st.ts c= .d (.bool b)):st.setc c b=st:=by
 cases c with
 |c v=>rfl
 |t j=>
  simp only[St.setc];refine a5q ?_;simp only[opd] at h;split at h
  ·rename_i v e;rw[e,h]
  ·cases h
theorem c0b {l:Nat}{hl:List a0f}{ts:List AV}{mvA:List Nat}{pg:List Nat}(r:RT t ts)(rh:RH P h hl)(hm:MV base mvA mv){k:Lv->TS->CH->List Nat->Bool}(hk:b5l base l t h pg mv k=AC):
 ∃lv t' h' mv' st',k lv t' h' mv'=AC/\SR P base t' h' mv' st'/\ ∀Q:Lv->St->Prop,Q lv st'->b4r l ts mvA Q pg hl:=by
 unfold b5l at hk;split at hk
 ·exact absurd hk AA
 ·rename_i e;have hni:l∉pg:=fun c=>by rw[a7j.2 c] at e;cases e
  obtain⟨o,ao,h1,hR,hk⟩:=rh.gets hk;cases o with
  |loop s ts0 ps A a b=>
   obtain⟨tsl,h2,rfl⟩:=hR;cases s with
   |ready=>obtain⟨h',hk,hr⟩:=rh.sets hk;obtain⟨t',mv',r1,hk⟩:=a3p (st:=⟨ts,hl,mvA⟩) r hm (hr _ ⟨tsl,h2,rfl⟩) (k:=fun ts mv=>k .normal ts h' mv) hk;exact⟨_,t',h',mv',_,hk,r1,fun Q hQ=>⟨hni,_,_,_,_,h1,hQ⟩⟩
   |done lv=>
    cases lv with
    |ret=>obtain⟨h',hk,hr⟩:=rh.sets hk;obtain⟨t',mv',r1,hk⟩:=a3p (st:=⟨ts,hl,mvA⟩) r hm (hr _ ⟨tsl,h2,rfl⟩) (k:=fun ts mv=>k .ret ts h' mv) hk;exact⟨_,t',h',mv',_,hk,r1,fun Q hQ=>⟨hni,_,_,_,_,h1,hQ⟩⟩
    |exit i=>obtain⟨h',hk,hr⟩:=rh.sets hk;obtain⟨t',mv',r1,hk⟩:=a3p (st:=⟨ts,hl,mvA⟩) r hm (hr _ ⟨tsl,h2,rfl⟩) (k:=fun ts mv=>k (.exit i) ts h' mv) hk;exact⟨_,t',h',mv',_,hk,r1,fun Q hQ=>⟨hni,_,_,_,_,h1,hQ⟩⟩
    |normal=>exact absurd hk AA
   |_=>exact absurd hk AA
  |_=>exact absurd hk AA
def e0n (P:Program)(base:Nat)(top:Bool)(c:a0c)(k:Lv->TS->CH->List Nat->Bool)(st:St)(A:Ann):Prop:=
 ∃lv t' h' mv' st',k lv t' h' mv'=AC/\SR P base t' h' mv' st'/\ ∀(ro:Option Nat) (E:Ent) (Q:Lv->St->Prop),(top=AC->ro=none)->Q lv st'->ev (std P A ro E) c Q st
theorem a7y (hm:P.follows .mixedOrders=AC)(hok:OkP P)(x:XOk P X){A:Ann}{top:Bool}{c:a0c}: ∀{k:Lv->TS->CH->List Nat->Bool} {t:TS} {h:CH} {mv:List Nat} {st:St} (_:SR P base t h mv st),
 b5c X base A top c k t h mv=AC->e0n P base top c k st A:=by
 induction c with
 |skip=>intro k t h mv st r hk;exact⟨_,t,h,mv,st,hk,r,fun ro E Q _ hQ=>hQ⟩
 |ops l=>intro k t h mv st r hk;obtain⟨t',h',mv',st',hk,r',h1⟩:=d8v x r (l:=l) hk;exact⟨_,t',h',mv',st',hk,r',fun ro E Q _ hQ=>h1 _ ⟨A,ro,E,rfl⟩ _ hQ⟩
 |draw n l=>intro k t h mv st r hk;have hk:=r.h.nums (k:=fun n0=>c5l n h fun h'=>xR X base n0 [] l t h' mv (k .normal)) hk;obtain⟨h1,hk,r1⟩:=d3w r.h hk;obtain⟨t',h',mv',st',hk,r',h2⟩:=e9m x (st:=⟨st.ts,a2u st.h (b8q (.var []) n),st.mv⟩) ⟨r.ts,r1,r.mv⟩ hk;exact⟨_,t',h',mv',st',hk,r',fun ro E Q _ hQ=>h2 _ ⟨A,ro,E,rfl⟩ _ hQ⟩
 |seq a b ia ib=>
  intro k t h mv st r hk;obtain⟨lv,t1,h1,mv1,st1,hk,r1,g1⟩:=ia r (k:=d4m (b5c X base A top b k) k) hk;cases lv with
  |normal=>obtain⟨lv,t2,h2,mv2,st2,hk,r2,g2⟩:=ib r1 hk;exact⟨lv,t2,h2,mv2,st2,hk,r2,fun ro E Q hr hQ=>g1 ro E _ hr (g2 ro E Q hr hQ)⟩
  |exit i=>exact⟨_,t1,h1,mv1,st1,hk,r1,fun ro E Q hr hQ=>g1 ro E _ hr hQ⟩
  |ret=>exact⟨_,t1,h1,mv1,st1,hk,r1,fun ro E Q hr hQ=>g1 ro E _ hr hQ⟩
 |cond c a b ia ib=>
  intro k t h mv st r hk;obtain⟨v,h1,hk⟩:=a0d r.ts (o:=c) hk;obtain⟨n,rfl,hk⟩:=a8a hk;cases n with
  |true=>obtain⟨lv,t2,h2,mv2,st2,hk,r2,g2⟩:=ia r hk;refine⟨lv,t2,h2,mv2,st2,hk,r2,fun ro E Q hr hQ=> ?_⟩;simp only[ev,h1,AI,CD.to];rw[b7b h1];exact g2 ro E Q hr hQ
  |false=>obtain⟨lv,t2,h2,mv2,st2,hk,r2,g2⟩:=ib r hk;refine⟨lv,t2,h2,mv2,st2,hk,r2,fun ro E Q hr hQ=> ?_⟩;simp only[ev,h1,AI,CD.to];rw[b7b h1];exact g2 ro E Q hr hQ
 |block id c ic=>
  intro k t h mv st r hk;obtain⟨lv,t1,h1,mv1,st1,hk,r1,g1⟩:=ic r (k:=c0e id k) hk;cases lv with
  |normal=>exact⟨_,t1,h1,mv1,st1,hk,r1,fun ro E Q hr hQ=>g1 ro E _ hr hQ⟩
  |ret=>exact⟨_,t1,h1,mv1,st1,hk,r1,fun ro E Q hr hQ=>g1 ro E _ hr hQ⟩
  |exit i=>
   simp only[c0e] at hk;cases e:Nat.beq i id with
   |true=>rw[e] at hk;exact⟨_,t1,h1,mv1,st1,hk,r1,fun ro E Q hr hQ=>g1 ro E _ hr (by simp only[c3t,e,if_true];exact hQ)⟩
   |false=>rw[e] at hk;exact⟨_,t1,h1,mv1,st1,hk,r1,fun ro E Q hr hQ=>g1 ro E _ hr (by simp only[c3t,e];exact hQ)⟩
 |loop c _=>intro k t h mv st r hk;obtain⟨lv,t',ts',h',hl',mv',mvA',hk,r1,r2,r3,g⟩:=x.loop r.ts r.h r.mv hk;refine⟨lv,t',h',mv',⟨ts',hl',mvA'⟩,hk,⟨r1,r2,r3⟩,fun ro E Q hr hQ=> ?_⟩;obtain⟨m,hg⟩:=g ro E Q hr hQ;exact b2n hm hok hg
 |range f ps a b _ _=>
  intro k t h mv st r hk;obtain⟨htop,hk⟩:=a0e hk;obtain⟨v,h1,hk⟩:=a0d r.ts hk;split at hk
  ·rename_i g first cap
   obtain⟨h',hk,hr⟩:=r.h.adds hk;have hk:=a5i hk;have hk:=a5i hk;obtain⟨ws,hk,h5⟩:=a1p _ hk;obtain⟨pg,u,h2,hl2,hk,rh2,h6⟩:=x.call (hr _ ⟨st.ts,r.ts,rfl⟩) hk;obtain⟨lv,t3,h3,mv3,st3,hk,r3,g3⟩:=c0b r.ts rh2 r.mv hk;refine⟨lv,t3,h3,mv3,st3,hk,r3,fun ro E Q hr hQ=> ?_⟩;have hro:=hr htop;subst hro;refine b9s (f:=f) (ps:=ps) (ia:=a) (ib:=b) h1 ?_;have e:AV.normL (a2u (AB first) (a2u [.yl (a3q st.h)] (AB cap)))=AB ws:=by rw[h5,a0r,a0r,AL,AL,AL];simp[AI]
   rw[e];exact h6 (fun pg _ h2=>b4r (a3q st.h) st.ts st.mv Q pg h2) (g3 Q hQ)
  ·exact absurd hk AA
 |exit id=>intro k t h mv st r hk;exact⟨_,t,h,mv,st,hk,r,fun ro E Q _ hQ=>hQ⟩
 |scope c ic=>intro k t h mv st r hk;obtain⟨htop,hk⟩:=a0e hk;obtain⟨lv,t1,h1,mv1,st1,hk,r1,g1⟩:=ic r hk;exact⟨lv,t1,h1,mv1,st1,hk,r1,fun ro E Q hr hQ=>And.intro (hr htop) (g1 ro E Q hr hQ)⟩
 |label l=>intro k t h mv st r hk;exact⟨_,t,h,mv,st,hk,r,fun ro E Q _ hQ=>hQ⟩
 |ret=>intro k t h mv st r hk;exact⟨_,t,h,mv,st,hk,r,fun ro E Q _ hQ=>hQ⟩
end
def a0q (P:Program)(f:Nat)(fn:XFn):Prop:=
 ∃(func:Func) (c:Code),P.funcs[f]? =some func/\func.body=some c/\func.name≠ "runtime.NumGoroutine" /\comp P fn.A c=some fn.ic/\b0m P func=some fn.irs/\func.ntmps=fn.n
def XT.All (p:Nat->XFn->Prop):XT->Prop
 | .leaf=>True
 | .node key fn l r=>p key fn/\l.All p/\r.All p
theorem c9p {p:Nat->XFn->Prop}{T:XT}{f:Nat}{k:XFn->Bool}(hT:T.All p)(hk:T.find f k=AC): ∃fn,p f fn/\k fn=AC:=by
 induction T with
 |leaf=>exact absurd hk AA
 |node key fn l r il ir=>
  simp only[XT.find] at hk;split at hk
  ·rename_i e;exact⟨fn,Nat.eq_of_beq_eq_true e▸hT.1,hk⟩
  ·split at hk
   ·exact il hT.2.1 hk
   ·exact ir hT.2.2 hk
section
variable {P:Program}
theorem d4c {args:List CA}: ∀{i:Nat} {t:TS} {pre:List AV} {m:Nat} {k:TS->Bool},pre.length=i->RT t (pre++AD m .und)->c9o args i t k=AC->
 args.length<=m/\ ∃t',RT t' (pre++AB args++AD (m-args.length) .und)/\k t'=AC:=by
 induction args with
 |nil=>intro i t pre m k _ r hk;simp only[c9o] at hk;exact⟨by simp,t,by simpa [AB] using r,hk⟩
 |cons v args ih=>
  intro i t pre m k hi r hk;simp only[c9o] at hk;obtain⟨t',⟨x,h1⟩,h2,h3⟩:=b9h hk;have h4:=r i x h1;have hlt:=(AF.1 h4).1;simp at hlt;cases m with
  |zero=>omega
  |succ m=>
   have r':RT t' ((pre++[v.to])++AD m .und):=by
    intro j u hj;rw[h2] at hj;split at hj
    ·rename_i e;subst e;cases hj;simp[hi]
    ·rename_i e;have:=r j u hj;rw[List.replicate_succ] at this;by_cases c:j<pre.length
     ·rw[AG c] at this;rw[AJ,AG c];exact this
     ·rw[AE (by omega)] at this;rw[AJ,AE (by omega)];obtain⟨q,hq⟩: ∃q,j-pre.length=q+1:=⟨j-pre.length-1,by omega⟩;rw[hq] at this⊢;simpa using this
   obtain⟨h5,t'',h6,h7⟩:=ih (i:=i+1) (by simp[hi]) r' h3;refine⟨by simp;omega,t'',?_,h7⟩;have e:m+1-(v::args).length=m-args.length:=by simp
   rw[e];simpa [AB] using h6
theorem c3m {n:Nat}{args:List CA}{k:TS->Bool}(hk:d9e n args k=AC):args.length<=n/\ ∃t,RT t (a9g (AB args) (n-args.length))/\k t=AC:=by
 obtain⟨h1,t,h2,h3⟩:=d4c (pre:=[]) (m:=n) rfl (fun i v hv=>by
  obtain⟨h1,h2⟩:=d7r hv;subst h2;simp[h1,AI]) hk
 refine⟨h1,t,?_,h3⟩;rw[a9g,a0r,a7i];simpa using h2
theorem d6x {ps:List Nat}: ∀{args:List CA} {t:TS} {ts:List AV} {k:TS->Bool},RT t ts->e6w ps args t k=AC->ps.length=args.length/\ ∃t',RT t' (b2p ps (AB args) ts)/\k t'=AC:=by
 induction ps with
 |nil=>
  intro args t ts k r hk;cases args with
  |nil=>exact⟨rfl,t,r,hk⟩
  |cons=>exact absurd hk AA
 |cons p ps ih=>
  intro args t ts k r hk;cases args with
  |nil=>exact absurd hk AA
  |cons v args=>simp only[e6w] at hk;obtain⟨t',r',hk⟩:=r.set hk;obtain⟨h1,t'',r'',hk⟩:=ih r' hk;exact⟨by simp[h1],t'',by simpa [AB,b2p] using r'',hk⟩
def c0j:AV->Prop
 | .d (.int ..)=>True
 | .d (.bool _)=>True
 | .d (.str _)=>True
 |_=>False
theorem d3p {vs:List CA}{k:Unit->Bool}(hk:c4j vs k=AC):(∀v,v∈AB vs->c0j v)/\k ()=AC:=by
 induction vs with
 |nil=>exact⟨by simp[AB],hk⟩
 |cons v vs ih=>
  unfold c4j at hk;split at hk
  ·obtain⟨h1,h2⟩:=ih hk;exact⟨by intro u hu;simp only[AB,AH] at hu;rcases hu with rfl|hu;exact trivial;exact h1 u hu,h2⟩
  ·obtain⟨h1,h2⟩:=ih hk;exact⟨by intro u hu;simp only[AB,AH] at hu;rcases hu with rfl|hu;exact trivial;exact h1 u hu,h2⟩
  ·obtain⟨h1,h2⟩:=ih hk;exact⟨by intro u hu;simp only[AB,AH] at hu;rcases hu with rfl|hu;exact trivial;exact h1 u hu,h2⟩
  ·exact absurd hk AA
theorem c7t {w:World}{S:Nat->Prop}{ρ:Rho}{x:AV}{v:Value}(hf:c0j x)(h:VR w S ρ x v):VR w (fun _=>False) ρ x v:=by
 cases h with
 |d h=>
  cases h with
  |int k n=>exact .d (.int k n)
  |bool b=>exact .d (.bool b)
  |str l=>exact .d (.str l)
  |_=>exact hf.elim
 |_=>exact hf.elim
theorem e1d {w:World}{S:Nat->Prop}{ρ:Rho}{xs:List AV}{v:Value}(hf: ∀x,x∈xs->c0j x)(h:VR w S ρ (a5t xs) v):VR w (fun _=>False) ρ (a5t xs) v:=by
 have key: ∀{xs:List AV},(∀x,x∈xs->c0j x)->VR w S ρ (.tuple xs) v->VR w (fun _=>False) ρ (.tuple xs) v:=by
  intro xs hf h;cases h with
  |tuple _ vs hl hv=>exact .tuple _ vs hl fun i x v hx hv'=>c7t (hf x (List.mem_of_getElem? hx)) (hv i x v hx hv')
 match xs,hf,h with
 |[],hf,h=>exact key hf h
 |[x],hf,h=>exact c7t (hf x (by simp)) h
 |_::_::_,hf,h=>exact key hf h
theorem b4e {f:FuncId}{args:List AV}{xs:List AV}(hf: ∀x,x∈xs->c0j x)(h:a0j P false f args (a5t xs)):a0j P AC f args (a5t xs):=by refine⟨h.1,fun w S vs hS hv=>Calls.mono (h.2 w S vs hS hv) fun e w' hR=> ?_⟩;obtain⟨v,S',h1,h2,_,h3⟩:=hR;exact⟨v,fun _=>False,h1,e1d hf h2,fun b hb=>hb.elim,h3⟩
theorem RH.nil:RH P ⟨.zero,.leaf⟩ []:=⟨rfl,fun i o h=>by simp[BT.get?] at h⟩
variable {X:XS} {T:XT}
theorem c9j (hm:P.follows .mixedOrders=AC)(hok:OkP P)(hT:T.All (a0q P))(x:XOk P X){own:Bool}{f:FuncId}{args:List CA}{k:CA->Bool}(hk:d5t T X own f args k=AC):
 ∃r,k r=AC/\a0j P own f (AB args) r.to:=by
 obtain⟨fn,⟨func,c,hf,hb,hname,hc,hres,hn⟩,hk⟩:=c9p hT hk;obtain⟨hlen,t,r,hk⟩:=c3m hk;obtain⟨lv,t',h',mv',st',hk,r',g⟩:=a7y hm hok x (base:=0) (st:=⟨a9g (AB args) (fn.n-args.length),[],[]⟩) ⟨r,.nil,fun m hm _=>absurd hm (Nat.not_lt_zero m)⟩ hk;have key: ∀{lv:Lv},(∀i,lv≠ .exit i)->(b2q t' h' fn.irs fun vs=>a3k h' vs fun vs _=>a7k vs (fun _=>e0p own k vs))=AC->
  (∀(E:Ent) (Q:Lv->St->Prop),Q lv st'->ev (std P fn.A none E) fn.ic Q ⟨a9g (AB args) (fn.n-args.length),[],[]⟩)-> ∃r,k r=AC/\a0j P own f (AB args) r.to:=by
  intro lv hlv hk g;obtain⟨vs,hk,h1⟩:=c1t r'.ts r'.h hk;obtain⟨ws,h2,hl2,hk,_,h3⟩:=b2g r'.h hk;obtain⟨h4,hk⟩:=a7o hk;have hp:a0j P false f (AB args) (a5t (AB ws)):=by
   refine b1p (n:=fn.n-args.length) hm hok hf hb hname fn.A hc hres (by rw[AK,hn];omega) ?_;rintro E Sg-rfl;refine g E _ ?_;have hq:c1d (std P fn.A none E) st' fn.irs fun vs=>a1w (std P fn.A none E) st'.h vs fun vs' _=>a3z vs'=AC/\a0x (a5t vs') (a5t (AB ws)):=
    h1 _ ⟨fn.A,none,E,rfl⟩ st'.mv _ (h3 _ ⟨fn.A,none,E,rfl⟩ _ ⟨h4,a0x.refl _⟩)
   cases lv with
   |exit i=>exact absurd rfl (hlv i)
   |normal=>exact hq
   |ret=>exact hq
  cases own with
  |true=>obtain⟨h5,hk⟩:=d3p hk;exact⟨_,hk,by rw[b0t];exact b4e h5 hp⟩
  |false=>exact⟨_,hk,by rw[b0t];exact hp⟩
 cases lv with
 |exit i=>exact absurd hk AA
 |normal=>exact key (fun i e=>by cases e) hk (fun E Q hQ=>g none E Q (fun _=>rfl) hQ)
 |ret=>exact key (fun i e=>by cases e) hk (fun E Q hQ=>g none E Q (fun _=>rfl) hQ)
theorem d0h (hm:P.follows .mixedOrders=AC)(hok:OkP P)(hT:T.All (a0q P))(x:XOk P X){f:FuncId}{args:List CA}{h:CH}{hl:List a0f}{k:List Nat->CA->CH->Bool}(rh:RH P h hl)(hk:d4o T X f args h k=AC):
 ∃pg v h' hl',k pg v h'=AC/\RH P h' hl'/\ ∀K:List Nat->AV->List a0f->Prop,K pg v.to hl'->a1h P f (AB args) hl K:=by
 obtain⟨fn,⟨func,c,hf,hb,hname,hc,hres,hn⟩,hk⟩:=c9p hT hk;obtain⟨hlen,t,r,hk⟩:=c3m hk;have hk:=rh.nums (k:=fun n0=>b5c X n0 fn.A AC fn.ic (c1e fn.irs k) t h []) hk;obtain⟨lv,t',h',mv',st',hk,r',g⟩:=a7y hm hok x (base:=a3q hl) (st:=⟨a9g (AB args) (fn.n-args.length),hl,[]⟩) ⟨r,rh,fun m _ hm=>by simp at hm⟩ hk;have key: ∀{lv:Lv},(∀i,lv≠ .exit i)->(b2q t' h' fn.irs fun vs=>k mv' (b7r vs) h')=AC->
  (∀(E:Ent) (Q:Lv->St->Prop),Q lv st'->ev (std P fn.A none E) fn.ic Q ⟨a9g (AB args) (fn.n-args.length),hl,[]⟩)->
  ∃pg v h' hl',k pg v h'=AC/\RH P h' hl'/\ ∀K:List Nat->AV->List a0f->Prop,K pg v.to hl'->a1h P f (AB args) hl K:=by
  intro lv hlv hk g;obtain⟨vs,hk,h1⟩:=c1t r'.ts r'.h hk;refine⟨mv',_,h',st'.h,hk,r'.h,fun K hK=> ?_⟩;refine b0s (n:=fn.n-args.length) hm hok hf hb hname fn.A hc hres (by rw[AK,hn];omega) ?_;rintro E Sg-rfl;refine g E _ ?_;have hq:c1d (std P fn.A none E) st' fn.irs fun vs=> ∃pg,(∀l,l<hl.length->l∈st'.mv->l∈pg)/\K pg (a5t vs) st'.h:=
   h1 _ ⟨fn.A,none,E,rfl⟩ st'.mv _ ⟨mv',fun l hlt hin=>r'.mv l (by rw[a0u];exact hlt) hin,by rw[b0t] at hK;exact hK⟩
  cases lv with
  |exit i=>exact absurd rfl (hlv i)
  |normal=>exact hq
  |ret=>exact hq
 cases lv with
 |exit i=>exact absurd hk AA
 |normal=>exact key (fun i e=>by cases e) hk (fun E Q hQ=>g none E Q (fun _=>rfl) hQ)
 |ret=>exact key (fun i e=>by cases e) hk (fun E Q hQ=>g none E Q (fun _=>rfl) hQ)
theorem b8g {l base:Nat}{t:TS}{h:CH}{mv:List Nat}{st:St}{k:List Nat->CA->CH->Bool}{lv:Lv}(hl:l<base)(r:SR P base t h mv st)(hk:b1n l k lv t h mv=AC):
 ∃pg v h' hl',k pg v h'=AC/\RH P h' hl'/\ ∀K:List Nat->AV->List a0f->Prop,K pg v.to hl'->b5b l base K lv st:=by
 unfold b1n at hk;split at hk
 ·exact absurd hk AA
 ·rename_i e;have hni:l∉st.mv:=fun c=>by rw[a7j.2 (r.mv l hl c)] at e;cases e
  obtain⟨o,ao,h1,hR,hk⟩:=r.h.gets hk;cases o with
  |loop s ts0 ps A a b=>
   obtain⟨tsl,h2,rfl⟩:=hR;cases s with
   |busy=>
    cases lv with
    |normal=>obtain⟨h',hk,hr⟩:=r.h.sets hk;exact⟨mv,_,h',_,hk,hr _ ⟨tsl,h2,rfl⟩,fun K hK=>⟨hni,_,_,_,h1,mv,fun m hm hin=>r.mv m hm hin,hK⟩⟩
    |ret=>obtain⟨h',hk,hr⟩:=r.h.sets hk;exact⟨mv,_,h',_,hk,hr _ ⟨tsl,h2,rfl⟩,fun K hK=>⟨hni,_,_,_,h1,mv,fun m hm hin=>r.mv m hm hin,hK⟩⟩
    |exit i=>obtain⟨h',hk,hr⟩:=r.h.sets hk;exact⟨mv,_,h',_,hk,hr _ ⟨tsl,h2,rfl⟩,fun K hK=>⟨hni,_,_,_,h1,mv,fun m hm hin=>r.mv m hm hin,hK⟩⟩
   |_=>exact absurd hk AA
  |_=>exact absurd hk AA
theorem d8z (hm:P.follows .mixedOrders=AC)(hok:OkP P)(x:XOk P X){l:Nat}{args:List CA}{h:CH}{hl:List a0f}{k:List Nat->CA->CH->Bool}(rh:RH P h hl)(hk:g1p X l args h k=AC):
 ∃pg v h' hl',k pg v h'=AC/\RH P h' hl'/\ ∀K:List Nat->AV->List a0f->Prop,K pg v.to hl'->b5d P l (AB args) hl K:=by
 obtain⟨o,ao,h1,hR,hk⟩:=rh.gets hk;have hlt:l<hl.length:=by rw[a0i] at h1;exact (AF.1 h1).1
 cases o with
 |loop s ts0 ps A a b=>
  obtain⟨tsl,h2,rfl⟩:=hR;cases s with
  |ready=>
   obtain⟨hps,t,r,hk⟩:=d6x h2 hk;have hk:=rh.nums (k:=fun n0=>b5c X n0 A false a (a8p X n0 l A b k) t h []) hk;obtain⟨lv,t1,h1',mv1,st1,hk,r1,g1⟩:=a7y hm hok x (base:=a3q hl) (st:=⟨b2p ps (AB args) tsl,hl,[]⟩) ⟨r,rh,fun m _ hm=>by simp at hm⟩ hk;cases lv with
   |normal=>
    simp only[a8p] at hk;split at hk
    ·exact absurd hk AA
    ·rename_i e;have hni:l∉st1.mv:=fun c=>by rw[a7j.2 (r1.mv l (by rw[a0u];exact hlt) c)] at e;cases e
     obtain⟨o,ao,h3,hR,hk⟩:=r1.h.gets hk;cases o with
     |loop s' ts1 ps1 A1 a1 b1=>
      obtain⟨tsl1,h4,rfl⟩:=hR;cases s' with
      |ready=>obtain⟨h5,hk,hr⟩:=r1.h.sets hk;obtain⟨lv2,t2,h2',mv2,st2,hk,r2,g2⟩:=a7y hm hok x (base:=a3q hl) (st:=⟨st1.ts,a2x st1.h l (.loop .busy tsl1 ps1 _),st1.mv⟩) ⟨r1.ts,hr _ ⟨tsl1,h4,rfl⟩,r1.mv⟩ hk;obtain⟨pg,v,h',hl',hk,rh',g3⟩:=b8g (by rw[a0u];exact hlt) r2 hk;refine⟨pg,v,h',hl',hk,rh',fun K hK=> ?_⟩;refine b9t (A:=A) hm hok h1 (fun ca cb h=>h) (by rw[AK];exact hps) ?_;rintro ro E Sg rfl;refine g1 ro E _ (fun h=>by cases h) ⟨rfl,hni,_,_,_,h3,?_⟩;refine g2 ro E _ (fun h=>by cases h) ?_;have:=g3 K hK;rw[a0u] at this;exact this
      |_=>exact absurd hk AA
     |_=>exact absurd hk AA
   |_=>exact absurd hk AA
  |_=>exact absurd hk AA
 |_=>exact absurd hk AA
theorem e3v:XOk P XS0 where
 pcall h:=absurd h AA
 call _ h:=absurd h AA
 yld _ h:=absurd h AA
 loop _ _ _ h:=absurd h AA
theorem e0k (hm:P.follows .mixedOrders=AC)(hok:OkP P)(hT:T.All (a0q P))(x:XOk P X):XOk P (XSs T X) where
 pcall h:=c9j hm hok hT x h
 call rh h:=d0h hm hok hT x rh h
 yld rh h:=d8z hm hok x rh h
 loop:=by
  intro A base top c k t ts h hl mv mvA r rh hmv hk;obtain⟨lv,t1,h1,mv1,st1,hk,r1,g1⟩:=a7y hm hok x (st:=⟨ts,hl,mvA⟩) (k:=d5z X A base top c k) ⟨r,rh,hmv⟩ hk;cases lv with
  |normal=>obtain⟨lv,t',ts',h',hl',mv',mvA',hk,q1,q2,q3,g⟩:=x.loop r1.ts r1.h r1.mv hk;refine⟨lv,t',ts',h',hl',mv',mvA',hk,q1,q2,q3,fun ro E Q hr hQ=> ?_⟩;obtain⟨m,hg⟩:=g ro E Q hr hQ;exact⟨m+1,g1 ro E _ hr hg⟩
  |exit i=>exact⟨_,t1,st1.ts,h1,st1.h,mv1,st1.mv,hk,r1.ts,r1.h,r1.mv,fun ro E Q hr hQ=>⟨1,g1 ro E _ hr hQ⟩⟩
  |ret=>exact⟨_,t1,st1.ts,h1,st1.h,mv1,st1.mv,hk,r1.ts,r1.h,r1.mv,fun ro E Q hr hQ=>⟨1,g1 ro E _ hr hQ⟩⟩
theorem e4i (hm:P.follows .mixedOrders=AC)(hok:OkP P)(hT:T.All (a0q P))(n:Nat):XOk P (XSn T n):=by
 induction n with
 |zero=>exact e3v
 |succ n ih=>exact e0k hm hok hT ih
theorem c0g (hm:P.follows .mixedOrders=AC)(hok:OkP P)(hT:T.All (a0q P))(n:Nat){own:Bool}{f:FuncId}{args:List CA}{k:CA->Bool}(hk:(XSn T n).pcall own f args k=AC):
 ∃r,k r=AC/\a0j P own f (AB args) r.to:=(e4i hm hok hT n).pcall hk
end
end Go.Vf
