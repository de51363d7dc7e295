/- Parts of the proof: Lj, Lk, Ll, Lm, Ln, Li, Lo, Lp, Lq, Lr, Lg. Conditions: none. -/
import Derived.Test.YtbglklaocjifhaaGreatELf
import Derived.ChangeArms
import Derived.DataReads
open List renaming getElem?_eq_some_iff->AA,getElem?_eq_getElem->AB,getElem?_append_left->AD,getElem?_append_right->AL
open Option renaming some->AC,none->AF
open Int renaming ofNat->AE,natCast_nonneg->AO,ofNat_lt->AQ,ofNat_le->AR
open Go renaming Program->AG,Value->AJ,FuncId->AK,World->AN,MemPlace->AS
open Go.Vf renaming std->AH,Ent->AT
open Bool renaming false->AI,true->AP
open Array renaming getElem?_eq_getElem->AM
set_option linter.unusedSimpArgs false
set_option linter.unusedVariables false
namespace Go.Vf
open Go
def d6k (l sz:Nat):List AV->List AV->Prop
 |[],[]=>True
 |x::xs,y::ys=>(y=x\/(x= .d .nil/\y= .msl l sz AF 0 AI))/\d6k l sz xs ys
 |_,_=>False
def a5b (ρ:Rho)(l:Nat):Rho:=fun m=>if m=l then AC (AF,0) else ρ m
theorem b6s {ρ:Rho}{l:Nat}(h:ρ l=AF): ∀m p,ρ m=AC p->a5b ρ l m=AC p:=fun m p hm=>by
 unfold a5b;split
 ·rename_i e;subst e;rw[h] at hm;cases hm
 ·exact hm
theorem a2e {ρ:Rho}{l m b C:Nat}(h:a5b ρ l m=AC (AC b,C)):m≠l/\ρ m=AC (AC b,C):=by
 unfold a5b at h;split at h
 ·cases h
 ·rename_i e;exact⟨e,h⟩
theorem Sim.add_nil {w:AN}{S:Nat->Prop}{ρ:Rho}{h:List a0f}(hs:Sim w S ρ h)(sz:Nat)(e:Nat->List DV):ρ h.length=AF/\Sim w S (a5b ρ h.length) (h++[.arr sz 0 e]):=by
 have hn:ρ h.length=AF:=by
  cases hh:ρ h.length with
  |none=>rfl
  |some p=>obtain⟨ob,C⟩:=p;obtain⟨o,h1,_⟩:=hs.obj _ _ _ hh;have:=(AA.1 h1).1;omega
 refine⟨hn,⟨hs.sblk,fun l ob C hl=> ?_,fun l l' b C C' h1 h2=> ?_,fun l b C o h1 h2 h3=> ?_⟩⟩
 ·by_cases he:l=h.length
  ·subst he;simp only[a5b,if_pos] at hl;cases hl;exact⟨_,by simp,rfl,sz,e,.inl rfl⟩
  ·have hl':ρ l=AC (ob,C):=by simpa [a5b,he] using hl
   obtain⟨o,h1,h2⟩:=hs.obj _ _ _ hl';have hlt:=(AA.1 h1).1;refine⟨o,by rw[AD hlt];exact h1,?_⟩;cases ob with
   |none=>exact h2
   |some b=>exact a0z.mono (fun _ h=>h) (fun _ _=>rfl) (b6s hn) rfl h2
 ·exact hs.inj l l' b C C' (a2e h1).2 (a2e h2).2
 ·obtain⟨a1,a2⟩:=a2e h1;obtain⟨o',h4,_⟩:=hs.obj _ _ _ a2;have hlt:=(AA.1 h4).1;rw[AD hlt] at h2;exact hs.own l b C o a2 h2 h3
theorem b9q {w:AN}{S:Nat->Prop}{ρ:Rho}{l sz:Nat}(hn:ρ l=AF): ∀{xs ys:List AV},d6k l sz xs ys->xs.length=ys.length/\ ∀(i:Nat) (x y:AV) (v:AJ),xs[i]? =AC x->ys[i]? =AC y->VR w S ρ x v->VR w S (a5b ρ l) y v
 |[],[],_=>⟨rfl,by simp⟩
 |[],_::_,h=>h.elim
 |_::_,[],h=>h.elim
 |x::xs,y::ys,h=>by
  obtain⟨h1,h2⟩:=h;obtain⟨h3,h4⟩:=b9q hn h2;refine⟨by simp[h3],fun i u z v hu hz hv=> ?_⟩;cases i with
  |succ i=>simp at hu hz;exact h4 i u z v hu hz hv
  |zero=>
   simp at hu hz;subst hu;subst hz;rcases h1 with rfl|⟨rfl,rfl⟩
   ·exact VR.mono (fun _ h=>h) (fun _ _=>rfl) (b6s hn) hv
   ·cases hv with
    |d hd=>cases hd;exact .msl l sz AF 0 AI AF 0 0 AF (by simp[a5b]) (by simp) (by simp) (by simp)
def nilH (l sz:Nat):List a0f->List a0f->Prop
 |[],[]=>True
 |o::os,p::ps=>(p=o\/ ∃cs ds,o= .var cs/\p= .var ds/\d6k l sz cs ds)/\nilH l sz os ps
 |_,_=>False
theorem b5q {l sz:Nat}: ∀{os ps:List a0f},nilH l sz os ps->os.length=ps.length/\ ∀(i:Nat) (o p:a0f),os[i]? =AC o->ps[i]? =AC p->p=o\/ ∃cs ds,o= .var cs/\p= .var ds/\d6k l sz cs ds
 |[],[],_=>⟨rfl,by simp⟩
 |[],_::_,h=>h.elim
 |_::_,[],h=>h.elim
 |o::os,p::ps,h=>by
  obtain⟨h1,h2⟩:=h;obtain⟨h3,h4⟩:=b5q h2;refine⟨by simp[h3],fun i u v hu hv=> ?_⟩;cases i with
  |zero=>simp at hu hv;subst hu;subst hv;exact h1
  |succ i=>simp at hu hv;exact h4 i u v hu hv
theorem Sim.add_nilH {w:AN}{S:Nat->Prop}{ρ:Rho}{h h2:List a0f}(hs:Sim w S ρ h)(sz:Nat)(e:Nat->List DV)(hh:nilH h.length sz h h2):ρ h.length=AF/\Sim w S (a5b ρ h.length) (h2++[.arr sz 0 e]):=by
 obtain⟨hn,hs'⟩:=hs.add_nil sz e;obtain⟨g1,g2⟩:=b5q hh;refine⟨hn,⟨hs'.sblk,fun l ob C hl=> ?_,hs'.inj,fun l b C o q1 q2 q3=> ?_⟩⟩
 ·obtain⟨o,h1,h3⟩:=hs'.obj l ob C hl;by_cases hlt:l<h.length
  ·rw[AD hlt] at h1;have hx:h2[l]? =AC (h2[l]'(by omega)):=AB _;refine⟨_,by rw[AD (by omega)];exact hx,?_⟩;rcases g2 l o _ h1 hx with e1|⟨cs,ds,e1,e2,e3⟩
   ·rw[e1];exact h3
   ·subst e1;rw[e2];cases ob with
    |none=>obtain⟨_,sz',e',k|k⟩:=h3<;>cases k
    |some b=>obtain⟨vs,ty,k1,k2,k3⟩:=h3;have hl':ρ l=AC (AC b,C):=(a2e hl).2;obtain⟨o0,m1,m2⟩:=hs.obj l _ C hl';rw[h1] at m1;cases m1;obtain⟨vs',ty',n1,n2,n3⟩:=m2;rw[n1] at k1;cases k1;obtain⟨a1,a2⟩:=b9q (w:=w) (S:=S) hn e3;refine⟨vs,ty,n1,by omega,fun i x v hx hv=> ?_⟩;have hi:i<ds.length:=(AA.1 hx).1;have hc:cs[i]? =AC (cs[i]'(by omega)):=AB _;exact a2 i _ x v hc hx (n3 i _ v hc hv)
  ·have h4:l=h.length:=by have:=(AA.1 h1).1;simp at this;omega
   subst h4;rw[AL (by omega)] at h1;refine⟨o,?_,h3⟩;rw[g1,AL (by omega)];simpa using h1
 ·obtain⟨a1,a2⟩:=a2e q1;obtain⟨o',h4,_⟩:=hs.obj _ _ _ a2;have hlt:=(AA.1 h4).1;rw[AD (by omega)] at q2;rcases g2 l o' o h4 q2 with e1|⟨cs,ds,e1,e2,e3⟩
  ·rw[e1] at q3;exact hs.own l b C o' a2 h4 q3
  ·rw[e1] at h4;exact hs.own l b C _ a2 h4 rfl
theorem a1h.nilH {P:AG}{f:AK}{args args':List AV}{h h2:List a0f}{K:List Nat->AV->List a0f->Prop}(sz:Nat)(e:Nat->List DV)(hc:a1h P f args' (h2++[.arr sz 0 e]) K)
 (hl:d6k h.length sz args args') (hh:Vf.nilH h.length sz h h2):a1h P f args h K:=by
 refine⟨hc.1,fun w S ρ vs hs hv=> ?_⟩;obtain⟨hn,hs'⟩:=hs.add_nilH sz e hh;have g1:=(b5q hh).1;obtain⟨a1,a2⟩:=b9q (w:=w) (S:=S) hn hl;have hv':VRs w S (a5b ρ h.length) args' vs:=⟨by rw[<-a1];exact hv.1,fun i y v hy hu=>by
  have hi:i<args'.length:=(AA.1 hy).1;have hx:args[i]? =AC (args[i]'(by omega)):=AB _;exact a2 i _ y v hx hy (hv.2 i _ v hx hu)⟩
 refine (hc.2 w S (a5b ρ h.length) vs hs' hv').mono fun x w' hR=> ?_;obtain⟨v,x,pg,h',S',ρ',b1,b2,b3,b4,b5,b6,b7⟩:=hR;refine⟨v,x,pg,h',S',ρ',b1,b2,b3,b4,⟨b5.os,b5.tape,b5.output,b5.size,b5.mono,b5.cell,fun b hb=> ?_,fun b hb hfr=> ?_,fun l b C hl=> ?_⟩,?_,fun l hl hp=> ?_⟩
 ·rcases b5.news b hb with h1|h1|⟨l,C,h1⟩
  ·exact .inl h1
  ·exact .inr (.inl h1)
  ·exact .inr (.inr ⟨l,C,(a2e h1).2⟩)
 ·exact b5.frame b hb fun l C h1=>hfr l C (a2e h1).2
 ·rcases b5.owned l b C hl with h1|⟨l,C,h1⟩
  ·exact .inl h1
  ·exact .inr ⟨l,C,(a2e h1).2⟩
 ·simp at b6;omega
 ·rw[b7 l (by simp;omega) hp];unfold a5b;rw[if_neg (by omega)]
theorem b6l (l sz:Nat): ∀h:List a0f,Vf.nilH l sz h h
 |[]=>trivial
 |_::h=>⟨.inl rfl,b6l l sz h⟩
theorem a1h.nil {P:AG}{f:AK}{args args':List AV}{h:List a0f}{K:List Nat->AV->List a0f->Prop}(sz:Nat)(e:Nat->List DV)(hc:a1h P f args' (h++[.arr sz 0 e]) K)(hl:d6k h.length sz args args'):a1h P f args h K:=
 a1h.nilH sz e hc hl (b6l _ _ h)
theorem a1h.pgs {P:AG}{f:AK}{args:List AV}{h:List a0f}{K:List Nat->AV->List a0f->Prop}(hc:a1h P f args h K):a1h P f args h fun pg v h'=> ∃pg1,K pg1 v h'/\pg=pg1.filter fun l=>decide (l<h.length):=by refine⟨hc.1,fun w S ρ vs hs hv=>(hc.2 w S ρ vs hs hv).mono fun x w' hR=> ?_⟩;obtain⟨v,x,pg,h',S',ρ',b1,b2,b3,b4,b5,b6,b7⟩:=hR;exact⟨v,x,_,h',S',ρ',b1,⟨pg,b2,rfl⟩,b3,b4,b5,b6,fun l hl hp=>b7 l hl fun hm=>hp (by simp[hm,hl])⟩
theorem a0j.empty {P:AG}{own:Bool}{f:AK}{sz:Nat}{e:Nat->List DV}{as:List AV}{r:AV}
 (h: ∀a cap,a0j P own f (.d (.raw (.slice a 0 cap))::as) r):a0j P own f (.d (.sl sz 0 e)::as) r:=by
 refine⟨(h AF 0).1,fun w S vs hS hv=> ?_⟩;have h0: ∃v,vs[0]? =AC v:=⟨_,AM (by rw[<-hv.1];simp)⟩;obtain⟨v,hv0⟩:=h0;have h1:=hv.2 0 _ v rfl hv0;have hx: ∃a cap,v= .slice a 0 cap:=by
  cases h1 with
  |d hd=>
   cases hd with
   |sl0 _ _ a cap=>exact⟨a,cap,rfl⟩
   |sl _ _ _ b off cap f hb hc hl hv hr=>exact⟨_,_,rfl⟩
 obtain⟨a,cap,rfl⟩:=hx;refine (h a cap).2 w S vs hS ⟨hv.1,fun i x u hi hu=> ?_⟩;cases i with
 |zero=>rw[hv0] at hu;cases hu;simp at hi;subst hi;exact .d (.raw _ rfl)
 |succ i=>exact hv.2 (i+1) x u hi hu
theorem a1h.empty {P:AG}{f:AK}{sz:Nat}{e:Nat->List DV}{as:List AV}{H:List a0f}{K:List Nat->AV->List a0f->Prop}
 (h: ∀a cap,a1h P f (.d (.raw (.slice a 0 cap))::as) H K):a1h P f (.d (.sl sz 0 e)::as) H K:=by
 refine⟨(h AF 0).1,fun w S ρ vs hS hv=> ?_⟩;have h0: ∃v,vs[0]? =AC v:=⟨_,AM (by rw[<-hv.1];simp)⟩;obtain⟨v,hv0⟩:=h0;have h1:=hv.2 0 _ v rfl hv0;have hx: ∃a cap,v= .slice a 0 cap:=by
  cases h1 with
  |d hd=>
   cases hd with
   |sl0 _ _ a cap=>exact⟨a,cap,rfl⟩
   |sl _ _ _ b off cap f hb hc hl hv hr=>exact⟨_,_,rfl⟩
 obtain⟨a,cap,rfl⟩:=hx;refine (h a cap).2 w S ρ vs hS ⟨hv.1,fun i x u hi hu=> ?_⟩;cases i with
 |zero=>rw[hv0] at hu;cases hu;simp at hi;subst hi;exact .d (.raw _ rfl)
 |succ i=>exact hv.2 (i+1) x u hi hu
theorem a1h.ret_nil {P:AG}{f:AK}{args:List AV}{h:List a0f}{K:List Nat->AV->List a0f->Prop}(sz:Nat)(e:Nat->List DV)
 (hc:a1h P f args h fun pg v h'=>(v= .d .nil/\K pg (.msl h'.length sz AF 0 AI) (h'++[.arr sz 0 e]))\/K pg v h'):a1h P f args h K:=by
 refine⟨hc.1,fun w S ρ vs hs hv=> ?_⟩;refine (hc.2 w S ρ vs hs hv).mono fun x w' hR=> ?_;obtain⟨v,x,pg,h',S',ρ',b1,⟨rfl,b2⟩|b2,b3,b4,b5,b6,b7⟩:=hR
 ·obtain⟨hn,hs'⟩:=b4.add_nil sz e;refine⟨v,_,pg,_,S',a5b ρ' h'.length,b1,b2,?_,hs',⟨b5.os,b5.tape,b5.output,b5.size,b5.mono,b5.cell,b5.news,b5.frame,fun l b C hl=>b5.owned l b C (a2e hl).2⟩,?_,fun l hl hp=> ?_⟩
  ·cases b3 with
   |d hd=>cases hd;exact .msl h'.length sz AF 0 AI AF 0 0 AF (by simp[a5b]) (by simp) (by simp) (by simp)
  ·simp;omega
  ·unfold a5b;rw[if_neg (by omega)];exact b7 l hl hp
 ·exact⟨v,x,pg,h',S',ρ',b1,b2,b3,b4,b5,b6,b7⟩
theorem i5x {P:AG}{A:Ann}{rr:Option Nat}{E:AT}{Sg:Sig}(hS:Sg=AH P A rr E){l:Nat}{args:List AV}{h:List a0f}{K K':List Nat->AV->List a0f->Prop}(hc:b5d P l args h K)(hk: ∀pg v h',K pg v h'->K' pg v h'):Sg.yld l args h K':=by subst hS;exact b5d.mono hk hc
theorem i0x {P:AG}{A:Ann}{E:AT}{Sg:Sig}(hS:Sg=AH P A AF E){st:St}{Q:Lv->St->Prop}{f:a0h}{ps:List Nat}{ia ib:a0c}{g:AK}{first cap:List AV}(hf:opd st.ts f= .fn g first cap)
 (h:a1h P g (AV.normL (a2u first (a2u [.yl (a3q st.h)] cap))) (a2u st.h [.loop .ready st.ts ps (fun ca cb=>comp P A ca=AC ia/\comp P A cb=AC ib)]) fun pg _ h2=>b4r (a3q st.h) st.ts st.mv Q pg h2):
 Sg.range f ps ia ib Q st:=by
 subst hS;exact b9s hf h
theorem b5d.cut {P:AG}{l:Nat}{args:List AV}{h:List a0f}{K:List Nat->AV->List a0f->Prop}(hc:b5d P l args h (fun pg v h'=> ∃h0 v0,a4k h' h0/\a0x v v0/\h.length<=h0.length/\((v0.low h0.length=AP/\d5i h0.length h0=AP)\/h'.length=h0.length)/\K pg v0 h0)):b5d P l args h K:=by
 intro w S ρ vs b0 C0 hs hv hρ;refine YieldAt.mono' (hc w S ρ vs b0 C0 hs hv hρ) fun e w' he=> ?_;obtain⟨v,x,pg,h',S',ρ',h1,⟨h0,v0,k1,k2,k3,k45,k6⟩,h2,h3,h4,h5,h6⟩:=he;obtain⟨l3,l4⟩:=k1.get;have hcut: ∀m p,ρ'.cut h0.length m=AC p->m<h0.length/\ρ' m=AC p:=fun m p hp=>by
  unfold Rho.cut at hp;split at hp
  ·rename_i h;exact⟨h,hp⟩
  ·cases hp
 by_cases hn:h'.length=h0.length
 ·refine⟨v,v0,pg,h0,S',ρ',h1,k6,k2 _ _ _ _ h2,⟨h3.sblk,fun m ob C hl=> ?_,h3.inj,fun m b C o hl ho hf=> ?_⟩,h4,k3,h6⟩
  ·obtain⟨o,q1,q2⟩:=h3.obj m ob C hl;have hm:=(AA.1 q1).1;have q3:h0[m]? =AC (h0[m]'(by omega)):=AB _;exact⟨_,q3,(l4 m o _ q1 q3).holds _ _ _ _ _ q2⟩
  ·obtain⟨o1,q1,q2⟩:=h3.obj m _ C hl;exact h3.own m b C o1 hl q1 ((l4 m o1 o q1 ho).frz hf)
 obtain⟨k4,k5⟩:=k45.resolve_right hn;refine⟨v,v0,pg,h0,S',ρ'.cut h0.length,h1,k6,(k2 _ _ _ _ h2).cut k4,⟨h3.sblk,fun m ob C hl=> ?_,fun m m' b C C' q1 q2=>h3.inj m m' b C C' (hcut _ _ q1).2 (hcut _ _ q2).2,fun m b C o hl ho hf=> ?_⟩,?_,k3,fun m hm hmv=> ?_⟩
 ·obtain⟨hm,hl⟩:=hcut _ _ hl;obtain⟨o,q1,q2⟩:=h3.obj m ob C hl;have q3:h0[m]? =AC (h0[m]'hm):=AB _;refine⟨_,q3,?_⟩;have q4:=(l4 m o _ q1 q3).holds _ _ _ _ _ q2;cases ob with
  |none=>exact q4
  |some b=>exact a0z.cut q4 (c1k k5 q3)
 ·obtain⟨hm,hl⟩:=hcut _ _ hl;obtain⟨o1,q1,q2⟩:=h3.obj m _ C hl;exact h3.own m b C o1 hl q1 ((l4 m o1 o q1 ho).frz hf)
 ·exact⟨h4.os,h4.tape,h4.output,h4.size,h4.mono,h4.cell,h4.news,h4.frame,fun m b C hl=>h4.owned m b C (hcut _ _ hl).2⟩
 ·have e:ρ'.cut h0.length m=ρ' m:=if_pos (by omega);rw[e];exact h6 m hm hmv
theorem a9v.loop {s:LSt}{ts ts':List AV}{ps:List Nat}{code code':Code->Code->Prop}(h:a3x ts ts')(hc: ∀a b,code a b->code' a b):a9v (.loop s ts ps code) (.loop s ts' ps code'):=by
 refine⟨id,fun w S ρ ob C hh=> ?_⟩;obtain⟨hl,hg⟩:=h.get;cases ob with
 |none=>obtain⟨h1,sz',e1,h2|h2⟩:=hh<;>cases h2
 |some b=>obtain⟨r,h1,h2,h3,h4,h5,h6,h7⟩:=hh;exact⟨r,h1,h2,h3,h4,hc _ _ h5,by omega,a0x.cells hl hg h7⟩
theorem Sim.heap {w:AN}{S:Nat->Prop}{ρ:Rho}{h h0:List a0f}(h3:Sim w S ρ h)(k1:a4k h h0)(hn:h.length=h0.length):Sim w S ρ h0:=by
 obtain⟨l3,l4⟩:=k1.get;refine⟨h3.sblk,fun m ob C hl=> ?_,h3.inj,fun m b C o hl ho hf=> ?_⟩
 ·obtain⟨o,q1,q2⟩:=h3.obj m ob C hl;have hm:=(AA.1 q1).1;have q3:h0[m]? =AC (h0[m]'(by omega)):=AB _;exact⟨_,q3,(l4 m o _ q1 q3).holds _ _ _ _ _ q2⟩
 ·obtain⟨o1,q1,q2⟩:=h3.obj m _ C hl;exact h3.own m b C o1 hl q1 ((l4 m o1 o q1 ho).frz hf)
theorem a1h.heap {P:AG}{f:AK}{args:List AV}{h h0:List a0f}{K:List Nat->AV->List a0f->Prop}(hc:a1h P f args h0 K)(k1:a4k h h0)(hn:h.length=h0.length):a1h P f args h K:=
 ⟨hc.1,fun w S ρ vs hs hv=>by rw[hn];exact hc.2 w S ρ vs (hs.heap k1 hn) hv⟩
def b4w (E:AT)(st st':St):Prop:= ∀a w S ρ,Rel E st a w S ρ-> ∃ρ',Rel E st' a w S ρ'
theorem b4w.le {E:AT}{st st':St}(h:Le E.base st st'):b4w E st st':=fun _ _ _ _ r=>r.le h
theorem b4w.trans {E:AT}{st st' st'':St}(h:b4w E st st')(k:b4w E st' st''):b4w E st st'':=fun a w S ρ r=>by obtain⟨ρ',r'⟩:=h a w S ρ r;exact k a w S ρ' r'
theorem b1c (l sz:Nat): ∀xs:List AV,d6k l sz xs xs
 |[]=>trivial
 |_::xs=>⟨.inl rfl,b1c l sz xs⟩
theorem c2l {l sz:Nat}: ∀{xs:List AV} {i:Nat},a1a xs i=AC (.d .nil)->d6k l sz xs (a2x xs i (.msl l sz AF 0 AI))
 |[],i,h=>by cases i<;>simp[a1a] at h
 |x::xs,0,h=>by simp only[a1a,Option.some.injEq] at h;subst h;exact⟨.inr ⟨rfl,rfl⟩,b1c l sz xs⟩
 |x::xs,i+1,h=>by simp only[a1a] at h;exact⟨.inl rfl,c2l h⟩
theorem c2f {l sz:Nat}: ∀{h:List a0f} {m i:Nat} {cs:List AV},a1a h m=AC (.var cs)->a1a cs i=AC (.d .nil)->nilH l sz h (a2x h m (.var (a2x cs i (.msl l sz AF 0 AI))))
 |[],m,i,cs,h,_=>by cases m<;>simp[a1a] at h
 |o::os,0,i,cs,h,hc=>by simp only[a1a,Option.some.injEq] at h;subst h;exact⟨.inr ⟨_,_,rfl,rfl,c2l hc⟩,b6l l sz os⟩
 |o::os,m+1,i,cs,h,hc=>by simp only[a1a] at h;exact⟨.inl rfl,c2f h hc⟩
theorem b4w.ghost {E:AT}{st:St}{ts':List AV}{h2:List a0f}(sz:Nat)(e:Nat->List DV)(ht:d6k st.h.length sz st.ts ts')(hh:nilH st.h.length sz st.h h2):b4w E st ⟨ts',h2++[.arr sz 0 e],st.mv⟩:=by
 intro a w S ρ r;obtain⟨hn,hs'⟩:=r.sim.add_nilH sz e hh;have g1:=(b5q hh).1;obtain⟨a1,a2⟩:=b9q (w:=w) (S:=S) hn ht;refine⟨a5b ρ st.h.length,⟨⟨by rw[<-a1];exact r.ts.1,fun i y v hy hu=> ?_⟩,?_,hs',⟨r.ext.os,r.ext.tape,r.ext.output,r.ext.size,r.ext.mono,r.ext.cell,r.ext.news,r.ext.frame,fun m b C hl=>r.ext.owned m b C (a2e hl).2⟩,fun m hm hmv=> ?_,by have:=r.len;simp;omega⟩⟩
 ·have hi:i<ts'.length:=(AA.1 hy).1;have hx:st.ts[i]? =AC (st.ts[i]'(by omega)):=AB _;exact a2 i _ y v hx hy (r.ts.2 i _ v hx hu)
 ·obtain⟨Ds,d1,d2,d3⟩:=r.ds;exact⟨Ds,d1,fun D hD=>⟨(d2 D hD).obj,(d2 D hD).new,fun m C hl=>(d2 D hD).out m C (a2e hl).2,(d2 D hD).imm⟩,d3⟩
 ·have:=r.len;unfold a5b;rw[if_neg (by omega)];exact r.keep m hm hmv
theorem b4w.gt {E:AT}{ts:List AV}{h:List a0f}{mv:List Nat}(i sz:Nat)(e:Nat->List DV)(hi:a1a ts i=AC (.d .nil)):b4w E ⟨ts,h,mv⟩ ⟨a2x ts i (.msl h.length sz AF 0 AI),h++[.arr sz 0 e],mv⟩:=
 b4w.ghost (st:=⟨ts,h,mv⟩) sz e (c2l hi) (b6l _ _ _)
theorem b4w.gh {E:AT}{ts:List AV}{h:List a0f}{mv:List Nat}(m i sz:Nat)(e:Nat->List DV){cs:List AV}(hm:a1a h m=AC (.var cs))(hi:a1a cs i=AC (.d .nil)):
 b4w E ⟨ts,h,mv⟩ ⟨ts,a2x h m (.var (a2x cs i (.msl h.length sz AF 0 AI)))++[.arr sz 0 e],mv⟩:=
 b4w.ghost (st:=⟨ts,h,mv⟩) sz e (b1c _ _ _) (c2f hm hi)
section
variable {P:AG} {A:Ann} {ro:Option Nat} {E:AT} {Sg:Sig} {Q:Lv->St->Prop}
def e1r {σ:Type}(E:AT)(R:σ->Prop)(μ:σ->Nat)(st:σ->St)(Q:Lv->St->Prop)(s:σ):Lv->St->Prop
 | .normal,st'=> ∃s',R s'/\μ s'<μ s/\b4w E st' (st s')
 | .exit i,st'=>Q (.exit i) st'
 | .ret,st'=>Q .ret st'
theorem e4p (hm:P.follows .mixedOrders=AP)(hok:OkP P)(hS:Sg=AH P A ro E){σ:Type}(R:σ->Prop)(μ:σ->Nat)(st:σ->St){ic:a0c}{st0:St}(s:σ)(hs:R s)(h0:b4w E st0 (st s))
 (h: ∀s,R s-> ∀N:St->Prop,(∀s' st',R s'->μ s'<μ s->b4w E st' (st s')->N st')->ev Sg ic (c1l N Q) (st s)):Sg.loop ic Q st0:=by
 have h: ∀s,R s->ev Sg ic (e1r E R μ st Q s) (st s):=fun s hs=>by
  have:=h s hs (fun st'=> ∃s',R s'/\μ s'<μ s/\b4w E st' (st s')) fun s' st' h1 h2 h3=>⟨s',h1,h2,h3⟩;have e:c1l (fun st'=> ∃s',R s'/\μ s'<μ s/\b4w E st' (st s')) Q=e1r E R μ st Q s:=by funext lv st';cases lv<;>rfl
  rw[e] at this;exact this
 subst hS;intro c hc a w S ρ hr;obtain⟨ρ1,hr1⟩:=h0 a w S ρ hr;clear hr h0;refine wpIn_loop_rounds (μ s+1) ?_;have hk:μ s<μ s+1:=Nat.lt_succ_self _;generalize μ s+1=m at hk⊢
 induction m generalizing s a w S ρ1 with
 |zero=>omega
 |succ m ih=>
  refine wpIn_mono (a4x hm hok c ic hc (h s hs) a w S ρ1 hr1) fun e a' w' hp=> ?_;obtain⟨lv,st',S',ρ',h1,h2,h3⟩:=hp;cases lv with
  |normal=>cases e<;>simp[a9d] at h1;obtain⟨s',g1,g2,g3⟩:=h2;obtain⟨ρ',h3⟩:=g3 _ _ _ _ h3;exact ih s' g1 a' w' S' ρ' h3 (by omega)
  |exit i=>cases e<;>simp[a9d] at h1;subst h1;exact⟨_,st',S',ρ',rfl,h2,h3⟩
  |ret=>cases e<;>simp[a9d] at h1;exact⟨_,st',S',ρ',rfl,h2,h3⟩
end
def DL (x y:DV):Prop:= ∀(w:AN) (S:Nat->Prop) (v:AJ),DVR w S x v->DVR w S y v
def RL (xs ys:List DV):Prop:=xs.length=ys.length/\ ∀(j:Nat) (x y:DV),xs[j]? =AC x->ys[j]? =AC y->DL x y
theorem DL.refl (x:DV):DL x x:=fun _ _ _ h=>h
theorem DL.int {k:IntKind}{x y:IX}(h:x.val=y.val):DL (.int k x) (.int k y):=by intro w S v hv;cases hv;rw[h];exact .int k y
theorem RL.refl (xs:List DV):RL xs xs:=⟨rfl,fun j x y h1 h2=>by rw[h1] at h2;cases h2;exact .refl _⟩
theorem RL.nil:RL [] []:= .refl []
theorem RL.cons {x y:DV}{xs ys:List DV}(h:DL x y)(hs:RL xs ys):RL (x::xs) (y::ys):=
 ⟨by simp[hs.1],fun j u v h1 h2=>by
   cases j with
   |zero=>simp at h1 h2;subst h1;subst h2;exact h
   |succ j=>simp at h1 h2;exact hs.2 j u v h1 h2⟩
theorem RL.one {x y:DV}(h:DL x y):RL [x] [y]:= .cons h .nil
theorem RL.back {xs ys:List DV}(h:RL xs ys){w:AN}{S:Nat->Prop}{f:Nat->AJ}(hx: ∀(j:Nat) (x:DV),xs[j]? =AC x->DVR w S x (f j)):
 ∀(j:Nat) (y:DV),ys[j]? =AC y->DVR w S y (f j):=fun j y hy=>by
 have hj:j<ys.length:=(AA.1 hy).1;have:xs[j]? =AC (xs[j]'(by rw[h.1];exact hj)):=AB _;exact h.2 j _ y this hy w S _ (hx j _ this)
theorem DL.sl {sz n m:Nat}{e e':Nat->List DV}(hn:n=m)(h: ∀i,i<n->RL (e i) (e' i)):DL (.sl sz n e) (.sl sz m e'):=by
 subst hn;intro w S v hv;cases hv with
 |sl0 _ _ a cap=>exact .sl0 _ _ _ _
 |sl _ _ _ b off cap f hb hc hl hv hr=>exact .sl sz n e' b off cap f hb hc (fun i hi=>by rw[<-(h i hi).1];exact hl i hi) hv fun i hi j x hx=>(h i hi).back (fun j x hx=>hr i hi j x hx) j x hx
theorem a0x.dl {x y:DV}(h:DL x y):a0x (.d x) (.d y):=by
 intro w S ρ v hv;cases hv with
 |d hd=>exact .d (h w S v hd)
theorem a0x.slr {sz n m:Nat}{e e':Nat->List DV}(hn:n=m)(h: ∀i,i<n->RL (e i) (e' i)):a0x (.d (.sl sz n e)) (.d (.sl sz m e')):= .dl (.sl hn h)
theorem a9v.arrr {sz n m:Nat}{e e':Nat->List DV}(hn:n=m)(h: ∀i,i<n->RL (e i) (e' i)):a9v (.arr sz n e) (.arr sz m e'):=by
 subst hn;refine⟨id,fun w S ρ ob C hh=> ?_⟩;cases ob with
 |none=>
  obtain⟨h1,sz',e1,h2|h2⟩:=hh
  ·cases h2;exact⟨h1,sz,e',.inl rfl⟩
  ·cases h2
 |some b=>obtain⟨vs,ty,h1,h2,h3,h4⟩:=hh;refine⟨vs,ty,h1,h2,h3,fun i hi=> ?_⟩;obtain⟨h5,h6⟩:=h4 i hi;refine⟨by rw[<-(h i hi).1];exact h5,fun j y v hy hv=> ?_⟩;have hj:j<(e' i).length:=(AA.1 hy).1;have:(e i)[j]? =AC ((e i)[j]'(by rw[(h i hi).1];exact hj)):=AB _;exact (h i hi).2 j _ y this hy w S v (h6 j _ v this hv)
section
variable {P:AG} {A:Ann} {ro:Option Nat} {E:AT} {Sg:Sig}
structure g8j (Sg:Sig):Prop where
 iadd: ∀a b,Sg.iadd a b=a+b
 isub: ∀a b,Sg.isub a b=a-b
 imul: ∀a b,Sg.imul a b=a*b
 iquo: ∀a b,Sg.iquo a b=a.tdiv b
 irem: ∀a b,Sg.irem a b=a.tmod b
 iwrap: ∀k a,Sg.iwrap k a=k.wrap a
 ilt: ∀a b,Sg.ilt a b=decide (a<b)
 ile: ∀a b,Sg.ile a b=decide (a<=b)
 ieq: ∀a b,Sg.ieq a b=(a==b)
 isel: ∀c a b,Sg.isel c a b=if c then a else b
 bnot: ∀a,Sg.bnot a=!a
 band: ∀a b,Sg.band a b=(a&&b)
 beq: ∀a b,Sg.beq a b=(a==b)
 ofNat: ∀n,Sg.ofNat n=(n:Int)
 toNat: ∀n,Sg.toNat n=n.toNat
 nadd: ∀a b,Sg.nadd a b=a+b
 nsub: ∀a b,Sg.nsub a b=a-b
 nmul: ∀a b,Sg.nmul a b=a*b
 nlt: ∀a b,Sg.nlt a b=decide (a<b)
 nmin: ∀a b,Sg.nmin a b=min b a
 upd: ∀e i row j,Sg.upd e i row j=if j=i then row else e j
 app: ∀n e e2 j,Sg.app n e e2 j=if j<n then e j else e2 (j-n)
 shift: ∀e s j,Sg.shift e s j=e (s+j)
 rep: ∀n zs j,Sg.rep n zs j=if j<n then zs else []
 put: ∀at' m e e2 j,Sg.put at' m e e2 j=if at'<=j/\j<at'+m then e2 (j-at') else e j
 mget: ∀f k,Sg.mget f k=(f k).getD 0
 mhas: ∀f k,Sg.mhas f k=(f k).isSome
 mset: ∀f k v k',Sg.mset f k v k'=if k'=k then AC v else f k'
 mcnt: ∀f k n,Sg.mcnt f k n=if (f k).isSome then n else n+1
theorem b2k (hS:Sg=AH P A ro E):g8j Sg:=by
 subst hS;refine⟨?_,?_,?_,?_,?_,?_,?_,?_,?_,?_,?_,?_,?_,?_,?_,?_,?_,?_,?_,?_,?_,?_,?_,?_,?_,?_,?_,?_,?_⟩
 all_goals first|exact fun _=>rfl|exact fun _ _=>rfl|exact fun _ _ _=>rfl|exact fun _ _ _ _=>rfl|exact fun _ _ _ _ _=>rfl|exact fun a b=>Nat.min_comm _ _
theorem i2b (hS:Sg=AH P A ro E){z:Int}{n:Nat}(h:0<=z/\z<n):Sg.inb z n:=by subst hS;exact h
theorem a5p (hS:Sg=AH P A ro E){i n:Nat}(h:i<n):Sg.inb (AE i) n:=by subst hS;exact⟨AO i,AQ.2 h⟩
theorem e7p (hS:Sg=AH P A ro E){z:Int}(h: -9223372036854775808<=z/\z<=9223372036854775807):Sg.inr .i64 z:=by subst hS;exact b6g h.1 h.2
theorem a4p (hS:Sg=AH P A ro E){a b:Int}(h: -9223372036854775808<=a+b/\a+b<=9223372036854775807):Sg.inr .i64 (Sg.iadd a b):=by subst hS;exact b6g h.1 h.2
theorem a9o (hS:Sg=AH P A ro E){a b:Int}(h: -9223372036854775808<=a-b/\a-b<=9223372036854775807):Sg.inr .i64 (Sg.isub a b):=by subst hS;exact b6g h.1 h.2
theorem k1t (hS:Sg=AH P A ro E){z:Int}(h:0<=z/\z<=255):Sg.inr .u8 z:=by subst hS;simp[AH,IntKind.wrap,IntKind.bits,IntKind.signed];omega
theorem i2h (hS:Sg=AH P A ro E){a b:Nat}(h:a<b):Sg.pnlt a b:=by subst hS;exact h
theorem e8l (hS:Sg=AH P A ro E){a b:Nat}(h:a<=b):Sg.pnle a b:=by subst hS;exact h
theorem f1i (hS:Sg=AH P A ro E){a b c:Nat}(h:a+b<=c):Sg.pnle (Sg.nadd a b) c:=by subst hS;exact h
theorem c3d (hS:Sg=AH P A ro E){a:AV}:Sg.same a a:=by subst hS;rfl
theorem i0n (hS:Sg=AH P A ro E){a b:Int}(h:a<=b):Sg.pile a b:=by subst hS;exact h
theorem i4a (hS:Sg=AH P A ro E){a b:Nat}(h:a<=b):Sg.pile (Sg.ofNat a) (Sg.ofNat b):=by subst hS;exact AR.2 h
theorem i4c (hS:Sg=AH P A ro E){a:Nat}:Sg.pile (AE 0) (Sg.ofNat a):=by subst hS;exact AO a
theorem i6p (hS:Sg=AH P A ro E){a:Int}(h:a≠0):Sg.nz a:=by subst hS;exact h
theorem e1n (hS:Sg=AH P A ro E){i:Nat}(h:i<=1000000000000):Sg.inr .i64 (Sg.iadd (AE i) (AE 1)):=
 e7p hS (by rw[(b2k hS).iadd];simp only[Int.ofNat_eq_natCast];omega)
theorem b2s (hS:Sg=AH P A ro E){i:Nat}:a0x (.d (.int .i64 (.v (Sg.iadd (AE i) (AE 1))))) (.d (.int .i64 (.v ((i+1:Nat):Int)))):=
 b0a (by rw[(b2k hS).iadd];rfl)
theorem b3h (hS:Sg=AH P A ro E){a b:Int}(h:Sg.ilt a b=AP):a<b:=by subst hS;simpa [AH] using h
theorem b3r (hS:Sg=AH P A ro E){a b:Int}(h:Sg.ilt a b=AI):b<=a:=by subst hS;simpa [AH] using h
theorem d3r (hS:Sg=AH P A ro E){a b:Nat}(h:Sg.ilt (AE a) (Sg.ofNat b)=AP):a<b:=by have:=b3h hS h;rw[(b2k hS).ofNat] at this;exact AQ.1 this
theorem d3c (hS:Sg=AH P A ro E){a b:Nat}(h:Sg.ilt (AE a) (Sg.ofNat b)=AI):b<=a:=by have:=b3r hS h;rw[(b2k hS).ofNat] at this;exact AR.1 this
theorem e3n (hS:Sg=AH P A ro E){a b:Int}(h:Sg.ile a b=AP):a<=b:=by subst hS;simpa [AH] using h
theorem e3g (hS:Sg=AH P A ro E){a b:Int}(h:Sg.ile a b=AI):b<a:=by subst hS;simpa [AH] using h
theorem e2h (hS:Sg=AH P A ro E){a b:Int}(h:Sg.ieq a b=AP):a=b:=by subst hS;simpa [AH] using h
theorem c8k (hS:Sg=AH P A ro E){a b:Int}(h:Sg.ieq a b=AI):a≠b:=by subst hS;simpa [AH] using h
theorem j6i (hS:Sg=AH P A ro E){a b:Nat}(h:a=b):Sg.ieq (AE a) (Sg.ofNat b)=AP:=by subst hS;subst h;simp[AH]
theorem j6f (hS:Sg=AH P A ro E){a b:Nat}(h:a≠b):Sg.ieq (AE a) (Sg.ofNat b)=AI:=by subst hS;simp[AH];omega
theorem e8q (hS:Sg=AH P A ro E){a b:Int}(h:Sg.bnot (Sg.ieq a b)=AP):a≠b:=by subst hS;simpa [AH] using h
theorem e8o (hS:Sg=AH P A ro E){a b:Int}(h:Sg.bnot (Sg.ieq a b)=AI):a=b:=by subst hS;simpa [AH] using h
theorem d7h (hS:Sg=AH P A ro E){sz n:Nat}{e e2 e':Nat->List DV}(h1: ∀j,j<n->RL (e j) (e' j))(h2:RL (e2 0) (e' n)):a9v (.arr sz (Sg.nadd n 1) (Sg.app n e e2)) (.arr sz (n+1) e'):=by
 refine a9v.arrr (by rw[(b2k hS).nadd]) fun j hj=> ?_;rw[(b2k hS).nadd] at hj;rw[(b2k hS).app];by_cases h:j<n
 ·rw[if_pos h];exact h1 j h
 ·obtain rfl:j=n:=by omega
  rw[if_neg h,Nat.sub_self];exact h2
theorem h8m (hS:Sg=AH P A ro E){sz n:Nat}{zs:List DV}{e':Nat->List DV}(h1: ∀j,j<n->RL zs (e' j)):a9v (.arr sz n (Sg.rep n zs)) (.arr sz n e'):=by refine a9v.arrr rfl fun j hj=> ?_;rw[(b2k hS).rep,if_pos hj];exact h1 j hj
theorem d8n (hS:Sg=AH P A ro E){l sz n:Nat}{s:Option Nat}{f:Bool}:a0x (.msl l sz s (Sg.nadd n 1) f) (.msl l sz s (n+1) f):=by rw[(b2k hS).nadd];exact a0x.refl _
theorem h8j (hS:Sg=AH P A ro E){sz n i:Nat}{row:List DV}{e e':Nat->List DV}(h1: ∀j,j<n->j≠i->RL (e j) (e' j))(h2:i<n->RL row (e' i)):a9v (.arr sz n (Sg.upd e i row)) (.arr sz n e'):=by
 refine a9v.arrr rfl fun j hj=> ?_;rw[(b2k hS).upd];by_cases h:j=i
 ·subst h;rw[if_pos rfl];exact h2 hj
 ·rw[if_neg h];exact h1 j hj h
end
theorem a0j.of_acall {P:AG}{f:AK}{args:List AV}{K:List Nat->AV->List a0f->Prop}{r:AV}(hc:a1h P f args [] K)
 (hk: ∀(E:AT) (Sg:Sig),Sg=AH P ⟨[],[]⟩ AF E-> ∀pg v h',K pg v h'->a2m Sg h' v fun v' _=>a3z [v']=AP/\a0x v' r):a0j P AI f args r:=by
 refine⟨hc.1,fun w S vs hS hv=> ?_⟩;have hs:Sim w S a2j []:=⟨hS,fun _ _ _ h=>(by cases h),fun _ _ _ _ _ h=>(by cases h),fun _ _ _ _ h=>(by cases h)⟩;refine (hc.2 w S a2j vs hs hv).mono fun e w' hR=> ?_;obtain⟨v,x,pg,h',S',ρ',h1,h2,h3,h4,h5,_⟩:=hR;obtain⟨x',h2',S2,⟨hfr,hlike⟩,k,hv2⟩:=b0b h4 h3 (hk ⟨w,S,a2j,0,[]⟩ _ rfl pg x h' h2);have e2:=h5.trans k.chg.ext;have hv3:VR w' S2 a2j x' v:=b4t (vs:=[v]) hfr (fun i y u hy hu=>by
  cases i with
  |zero=>simp at hy hu;subst hy;subst hu;exact hv2
  |succ i=>simp at hy) 0 x' v rfl rfl
 refine⟨v,S2,h1,hlike _ _ _ _ hv3,fun b hb=> ?_,⟨h5.os,h5.tape,h5.output,h5.size,fun b hb=>h5.frame b hb (fun l C h=>by cases h)⟩⟩;rcases e2.news b hb with h|h|⟨l,C,h⟩
 ·exact .inl ⟨rfl,h⟩
 ·exact .inr ⟨h,k.sim.sblk b hb⟩
 ·cases h
section
variable {P:AG} {f:AK} {args:List AV} {sz n:Nat} {e:Nat->List DV}
end
section
variable {H:Type} {enc:TypeId×AJ->H} {P:AG} {w:AN} {spare:Nat->Bool} {held:Bool}
def d6a (w:AN)(b:Nat):Prop:=b<w.heap.size
def Row (w:AN)(xs:List DV)(cs:List AJ):Prop:=xs.length=cs.length/\ ∀(j:Nat) (x:DV) (v:AJ),xs[j]? =AC x->cs[j]? =AC v->DVR w (d6a w) x v
theorem c6d {a:Addr}{v:AJ}(h:w.cell? a=AC v):a.spot=AF/\a.block<w.heap.size:=by
 unfold World.cell? at h;split at h
 ·rename_i c _ _ hb;refine⟨?_,(Array.getElem?_eq_some_iff.1 hb).1⟩;split at h
  ·cases h
  ·rename_i hs;cases hh:a.spot with
   |none=>rfl
   |some s=>simp[hh] at hs
 ·cases h
theorem d8i {a:Addr}(h:a.spot=AF)(m j:Nat):(a.add m).add j=⟨a.block,a.off+m+j,AF⟩:=by obtain⟨b,o,s⟩:=a;simp only at h;subst h;unfold Addr.add;by_cases h1:m=0<;>by_cases h2:j=0<;>simp[h1,h2]
theorem h5b {t e:TypeId}(ht:P.underlying t=AC (.slice e)){fuel:Nat}{cs:List AJ}{x:DataW H×List AS}(h:DataW.trod enc P w 0 spare held fuel t cs=AC x)
 {α:Type} [Inhabited α] (row:α->List DV) (R:α->Prop) {sz:Nat} (hsz:P.cellsOf e=sz) (hpos:0<sz)
 (hrow: ∀(n:Nat) (cs:List AJ) (y:DataW H×List AS),cs.length=sz->DataW.trod enc P w 0 spare held n e cs=AC y-> ∃z:α,R z/\Row w (row z) cs):
 ∃(v:AJ) (n:Nat) (f:Nat->α),cs=[v]/\DVR w (d6a w) (.sl sz n fun i=>row (f i)) v/\ ∀i,i<n->R (f i):=by
 classical
 rcases DataW.trod_slice ht h with⟨rfl,_⟩|⟨a,len,cap,elems,rest,n,_,rfl,_,_,hlc,_,hel,hget,_⟩
 ·exact⟨_,0,fun _=>default,rfl,.sl0 _ _ _ _,fun i hi=>by omega⟩
 rw[hsz] at hget;have hex: ∀i,i<len-> ∃(cs:List AJ) (z:α),cs.length=sz/\R z/\Row w (row z) cs/\ ∀j,j<sz->w.cell? ((a.add (i*sz)).add j)=cs[j]? :=fun i hi=>by have h1:=hget i hi;have h2:elems[i]? =AC (elems[i]'(by omega)):=AB _;rw[h2,Option.bind_eq_some_iff] at h1;obtain⟨cs,h3,h4⟩:=h1;obtain⟨_,h5,h6⟩:=World.cells?_some h3;obtain⟨z,h7,h8⟩:=hrow n cs _ h5 h4;exact⟨cs,z,h5,h7,h8,h6⟩
 by_cases h0:len=0
 ·subst h0;exact⟨_,0,fun _=>default,rfl,.sl0 _ _ _ _,fun i hi=>by omega⟩
 have hspot:a.spot=AF/\a.block<w.heap.size:=by obtain⟨cs,z,h1,_,_,h4⟩:=hex 0 (by omega);have h5:=h4 0 hpos;have h6:cs[0]? =AC (cs[0]'(by omega)):=AB _;rw[h6] at h5;simpa [Addr.add] using c6d h5
 obtain⟨C,hC⟩: ∃C:Nat->List AJ×α,∀i,i<len->(C i).1.length=sz/\R (C i).2/\Row w (row (C i).2) (C i).1/\ ∀j,j<sz->w.cell? ((a.add (i*sz)).add j)=(C i).1[j]? :=
  ⟨fun i=>if hi:i<len then ((hex i hi).choose,(hex i hi).choose_spec.choose) else ([],default),fun i hi=>by simp only[dif_pos hi];exact (hex i hi).choose_spec.choose_spec⟩
 obtain⟨b,off,s⟩:=a;simp only at hspot;obtain⟨rfl,hb⟩:=hspot;refine⟨_,len,fun i=>(C i).2,rfl,.sl sz len _ b off cap (fun i j=>((C i).1[j]?).getD undef) (fun _=>hb) hlc (fun i hi=>(hC i hi).2.2.1.1.trans (hC i hi).1) (fun i hi j hj=> ?_) (fun i hi j x hx=> ?_),fun i hi=>(hC i hi).2.1⟩
 ·have h1:=(hC i hi).2.2.2 j hj;rw[d8i rfl] at h1;have h2:(C i).1[j]? =AC ((C i).1[j]'(by rw[(hC i hi).1];exact hj)):=AB _;rw[h1,h2];rfl
 ·have hj:j<(row (C i).2).length:=(AA.1 hx).1;have hlen:(row (C i).2).length=(C i).1.length:=(hC i hi).2.2.1.1;have h2:(C i).1[j]? =AC ((C i).1[j]'(by omega)):=AB _;rw[h2];exact (hC i hi).2.2.1.2 j x _ hx h2
theorem b5t {t:TypeId}{k:IntKind}(ht:P.underlying t=AC (.int k)){fuel:Nat}{cs:List AJ}{x:DataW H×List AS}(h:DataW.trod enc P w 0 spare held fuel t cs=AC x):
 ∃z:Int,(k.min<=z/\z<=k.max)/\cs=[.int k z]:=by
 obtain⟨n,h1,_,h3⟩:=DataW.trod_int ht h;simp[Lit.wf] at h3;exact⟨n,h3,h1⟩
theorem d0e {x:DV}{v:AJ}(h:DVR w (d6a w) x v):Row w [x] [v]:=by
 refine⟨rfl,fun j y u hy hu=> ?_⟩;cases j with
 |zero=>simp at hy hu;subst hy;subst hu;exact h
 |succ j=>simp at hy
theorem b5g {x:DV}{v:AJ}{xs:List DV}{cs:List AJ}(h:DVR w (d6a w) x v)(hs:Row w xs cs):Row w (x::xs) (v::cs):=by
 refine⟨by simp[hs.1],fun j y u hy hu=> ?_⟩;cases j with
 |zero=>simp at hy hu;subst hy;subst hu;exact h
 |succ j=>simp at hy hu;exact hs.2 j y u hy hu
end
end Go.Vf
