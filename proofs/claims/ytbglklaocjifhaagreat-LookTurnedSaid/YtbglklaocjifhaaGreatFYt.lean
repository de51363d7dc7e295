/- Rules for numbers of few bits and remainders. Conditions: none. -/
import Derived.Test.YtbglklaocjifhaaGreatFYu
open Go.Vf.a0x renaming refl->AA,any->Aa,sl'->BJ
open Nat renaming le_refl->AB,zero_le->AP,lt_irrefl->AS,mul_le_mul_right->AW,succ_mul->Ad,le_trans->Ae,mul_le_mul_left->Al,add_assoc->An,zero_add->Ar,not_lt_zero->Ay,mul_le_mul->A3,sub_self->A6,add_comm->A7,div_add_mod->BG,mul_one->BM,mul_add->BN
open Int renaming toNat_natCast->AC,ofNat->AH,ofNat_eq_natCast->AI,toNat_of_nonneg->Am,mul_assoc->Ao,ofNat_lt->As,ofNat_le->At,lt_or_le->A8,mul_comm->BL,le_refl->BO,add_mul->BP
open Go.Proofs.Tryz renaming prog->AD
open Go.Proofs.Tryz.Run.Law renaming Mk->AE,at1->AK,mkNode->AM,mkEnd->AN,onceE->AT,srch->AX,rng->AY,onceE_not->Ab,onceE_mem->Ac,mem_rng->Ai,at1_not->Aj,flatL->Ax,rng_succ->BK
open List renaming getElem?_eq_some_iff->AF,range_succ_eq_map->AO,prefix_refl->AQ,getElem?_eq_getElem->AR,getD->AU,foldl_cons->Af,getElem?_of_mem->Ag,map_map->Aq,length_cons->Au,getElem_mem->Av,getElem?_append_left->A4,length_append->BA,cons_append->BB,sum_append->BC,nil_append->BD,length_nil->BE,nodup_nil->BH,foldl_nil->BI
open Bool renaming false->AG,true->Ak
open Go.Proofs.YtbglklaocjifhaaGreat.Tryz renaming mixed->AJ
open Function renaming comp_def->AZ
open Option renaming none->Ah,some->Ap
open Classical renaming byContradiction->Aw,not_not->BQ
open Go.Vf.a3x renaming agg->Az,tuple->BF
open Go.Vf.a9v renaming refl->A5,arrr->A9
set_option linter.unusedSimpArgs false
set_option linter.unusedVariables false
set_option maxHeartbeats 0
set_option maxRecDepth 100000
namespace Go.Proofs.Tryz.Run
open Go Go.Vf Go.Proofs
open Go.Proofs.YtbglklaocjifhaaGreat
theorem l1l {α:Type}[DecidableEq α](l:List α)(x:α):l.length<=(AT l x).length/\(AT l x).length<=l.length+1:=by unfold AT;split<;>simp
theorem at1_le {α:Type}[DecidableEq α](l:List α)(x:α):AK l x<=l.length:=by
 induction l with
 |nil=>simp[AK]
 |cons y l ih=>simp only[AK];split<;>simp<;>omega
theorem l1g {α:Type}[DecidableEq α]{n:Nat}{f:Nat->α}{v:α}{i:Nat}(hi:i<n)(h:f i=v)(hn: ∀j,j<i->f j≠v):AK (L n f) v=i:=by
 have key: ∀(l:List α) (i:Nat),l[i]? =Ap v->(∀j,j<i->l[j]? ≠Ap v)->AK l v=i:=by
  intro l
  induction l with
  |nil=>intro i h;simp at h
  |cons y l ih=>
   intro i h hn;simp only[AK];cases i with
   |zero=>simp at h;rw[if_pos h]
   |succ i=>have h0:y≠v:=fun e=>hn 0 (by omega) (by simp[e]);rw[if_neg h0,ih i (by simpa using h) fun j hj=>by have:=hn (j+1) (by omega);simpa using this]
 refine key _ _ (by rw[h9t,if_pos hi,h]) fun j hj=> ?_;rw[h9t,if_pos (by omega)];exact fun e=>hn j hj (Option.some.inj e)
theorem l1r {α:Type}[DecidableEq α]{n:Nat}{f:Nat->α}{v:α}(hn: ∀j,j<n->f j≠v):v∉L n f/\AK (L n f) v=n:=by
 have h:v∉L n f:=fun h=>by obtain⟨j,hj,e⟩:=h6d.1 h;exact hn j hj e
 exact⟨h,by rw[Aj h,h3u]⟩
theorem at1_mem {α:Type}[DecidableEq α]{l:List α}{v:α}(h:AK l v<l.length):v∈l:=by
 by_cases hm:v∈l
 ·exact hm
 ·rw[Aj hm] at h;omega
def l0j (g:Nat->AE->AE×Int):Nat->AE->AE×(Nat->Int)
 |0,s=>(s,fun _=>0)
 |k+1,s=>((g k (l0j g k s).1).1,h4l (l0j g k s).2 k (g k (l0j g k s).1).2)
def ofW (C:Nat->VaR)(sz od str:Nat->Nat):Nat->Nat->Nat->AE->AE×Int
 |0,_,num,s=>AN s (C num)
 |m+1,r,num,s=>AM (l0j (fun k s=>ofW C sz od str m (r+1) (num+k*str (od r)) s) (sz (od r)) s).1 ⟨(od r:Int),L (sz (od r)) (l0j (fun k s=>ofW C sz od str m (r+1) (num+k*str (od r)) s) (sz (od r)) s).2⟩
def l0k (sz od:Nat->Nat):Nat->Nat->Nat
 |0,_=>1
 |m+1,r=>sz (od r)*l0k sz od m (r+1)
def l0l (sz od:Nat->Nat):Nat->Nat->Nat
 |0,_=>0
 |m+1,r=>1+sz (od r)*l0l sz od m (r+1)
def l0v (sz od str:Nat->Nat):Nat->Nat->Nat
 |0,_=>0
 |m+1,r=>(sz (od r)-1)*str (od r)+l0v sz od str m (r+1)
structure l2j (s t:AE)(a b:Nat):Prop where
 oe:s.oe.length<=t.oe.length/\t.oe.length<=s.oe.length+a
 on:s.on.length<=t.on.length/\t.on.length<=s.on.length+b
theorem l2j.refl (s:AE):l2j s s 0 0:=⟨⟨AB _,AB _⟩,⟨AB _,AB _⟩⟩
def okN (s:AE)(z:Int):Prop:= -1-(s.oe.length:Int)<=z/\z<=s.on.length
theorem okN.mono {s t:AE}{a b:Nat}(h:l2j s t a b){z:Int}(hz:okN s z):okN t z:=by have h1:=h.oe.1;have h2:=h.on.1;unfold okN at hz⊢;omega
theorem l1z (s:AE)(v:VaR):l2j s (AN s v).1 1 0/\okN (AN s v).1 (AN s v).2:=by have h1:=l1l s.oe v;have h2:=at1_le s.oe v;unfold AN okN;refine⟨⟨h1,⟨AB _,AB _⟩⟩,?_⟩;simp only;have h3:=h1.1;omega
theorem l1o {n:Nat}(hn:1<=n)(u:Nat->Int):(L n u).headD 0=u 0:=by obtain⟨m,rfl⟩: ∃m,n=m+1:=⟨n-1,by omega⟩;simp[L,AO]
theorem l1n (s:AE)(ch:Int){n:Nat}(hn:1<=n)(u:Nat->Int)(h0:okN s (u 0)):l2j s (AM s ⟨ch,L n u⟩).1 0 1/\okN (AM s ⟨ch,L n u⟩).1 (AM s ⟨ch,L n u⟩).2:=by
 have h1:=l1l s.on ⟨ch,L n u⟩;have h2:=at1_le s.on ⟨ch,L n u⟩;unfold AM;split
 ·refine⟨⟨⟨AB _,AB _⟩,⟨AB _,Nat.le_add_right _ _⟩⟩,?_⟩;simp only[l1o hn];exact h0
 ·refine⟨⟨⟨AB _,AB _⟩,h1⟩,?_⟩;unfold okN;simp only;have h3:=h1.1;omega
theorem l0p {g:Nat->AE->AE×Int}{a b:Nat}(hg: ∀k s,l2j s (g k s).1 a b/\okN (g k s).1 (g k s).2)(s:AE): ∀k,l2j s (l0j g k s).1 (k*a) (k*b)/\ ∀j,j<k->okN (l0j g k s).1 ((l0j g k s).2 j)
 |0=>⟨by simpa [l0j] using l2j.refl s,fun j hj=>by omega⟩
 |k+1=>by
  obtain⟨ih1,ih2⟩:=l0p hg s k;obtain⟨h1,h2⟩:=hg k (l0j g k s).1;have e1:=Ad k a;have e2:=Ad k b;have q1:=ih1.oe;have q2:=ih1.on;have q3:=h1.oe;have q4:=h1.on;rw[l0j];simp only[Nat.succ_eq_add_one] at e1 e2;refine⟨⟨by simp only;omega,by simp only;omega⟩,fun j hj=> ?_⟩;simp only[h4l];split
  ·exact h2
  ·exact (ih2 j (by omega)).mono h1
theorem l0s {C:Nat->VaR}{sz od str:Nat->Nat}: ∀(m r num:Nat) (s:AE),(∀i,r<=i->i<r+m->1<=sz (od i))->l2j s (ofW C sz od str m r num s).1 (l0k sz od m r) (l0l sz od m r)/\okN (ofW C sz od str m r num s).1 (ofW C sz od str m r num s).2
 |0,r,num,s,_=>l1z s _
 |m+1,r,num,s,h=>by
  obtain⟨h1,h2⟩:=l0p (g:=fun k s=>ofW C sz od str m (r+1) (num+k*str (od r)) s) (fun k s=>l0s m (r+1) _ s fun i h1 h2=>h i (by omega) (by omega)) s (sz (od r));have hs:=h r (by omega) (by omega);obtain⟨h3,h4⟩:=l1n (l0j (fun k s=>ofW C sz od str m (r+1) (num+k*str (od r)) s) (sz (od r)) s).1 (od r:Int) hs _ (h2 0 (by omega));rw[ofW,l0k,l0l];refine⟨⟨?_,?_⟩,h4⟩
  ·have q1:=h1.oe;have q2:=h3.oe;omega
  ·have q1:=h1.on;have q2:=h3.on;omega
theorem l0n {sz od:Nat->Nat}: ∀(m r:Nat),(∀i,r<=i->i<r+m->1<=sz (od i))->1<=l0k sz od m r/\l0l sz od m r<=m*l0k sz od m r
 |0,r,_=>by simp[l0k,l0l]
 |m+1,r,h=>by obtain⟨h1,h2⟩:=l0n (sz:=sz) (od:=od) m (r+1) fun i h1 h2=>h i (by omega) (by omega);have hs:=h r (by omega) (by omega);rw[l0k,l0l];have e1:1*1<=sz (od r)*l0k sz od m (r+1):=A3 hs h1;have e2:sz (od r)*l0l sz od m (r+1)<=sz (od r)*(m*l0k sz od m (r+1)):=Al _ h2;have e3:sz (od r)*(m*l0k sz od m (r+1))=m*(sz (od r)*l0k sz od m (r+1)):=Nat.mul_left_comm _ _ _;have e4:(m+1)*(sz (od r)*l0k sz od m (r+1))=m*(sz (od r)*l0k sz od m (r+1))+sz (od r)*l0k sz od m (r+1):=Ad _ _;omega
theorem l1u {n:Nat}{od:Nat->Nat}(h: ∀i,i<n->od i<n/\ ∀k,k<i->od k≠od i):(L n od).Perm (L n fun i=>i):=by
 have hn:(L n od).Nodup:=h8x.2 fun i hi k hk=>(h i hi).2 k hk;have hn2:(L n fun i=>i).Nodup:=h8x.2 fun i hi k hk=>by omega
 refine (List.perm_ext_iff_of_nodup hn hn2).2 fun a=> ?_;constructor
 ·intro ha;obtain⟨i,hi,rfl⟩:=h6d.1 ha;exact h6d.2 ⟨_,(h i hi).1,rfl⟩
 ·intro ha;obtain⟨i,hi,rfl⟩:=h6d.1 ha;have hsub: ∀x,x∈L n od->x∈L n fun i=>i:=fun x hx=>by obtain⟨j,hj,rfl⟩:=h6d.1 hx;exact h6d.2 ⟨_,(h j hj).1,rfl⟩
  apply Aw;intro hni;have:((i::L n od)).length<=(L n fun i=>i).length:=Law.nodup_sub (List.nodup_cons.2 ⟨hni,hn⟩) fun x hx=>by
   rcases List.mem_cons.1 hx with rfl|hx
   ·exact ha
   ·exact hsub x hx
  simp only[Au,h3u] at this;omega
theorem l2o {α β:Type}(f:α->β)(n:Nat)(g:Nat->α):(L n g).map f=L n fun i=>f (g i):=by simp[L]
theorem l1v {n:Nat}{od:Nat->Nat}(h: ∀i,i<n->od i<n/\ ∀k,k<i->od k≠od i)(f:Nat->Nat):(L n fun i=>f (od i)).sum=(L n f).sum:=by
 have:=((l1u h).map f).sum_nat
 rwa [l2o,l2o] at this
theorem l2e {n:Nat}{od:Nat->Nat}(h: ∀i,i<n->od i<n/\ ∀k,k<i->od k≠od i)(f:Nat->Nat):(L n fun i=>f (od i)).prod=(L n f).prod:=by
 have:=((l1u h).map f).prod_nat
 rwa [l2o,l2o] at this
theorem l0z (sz od:Nat->Nat): ∀m r,l0k sz od m r=(L m fun i=>sz (od (r+i))).prod
 |0,r=>rfl
 |m+1,r=>by rw[l0k,l0z sz od m (r+1)];simp[L,AO,Aq,AZ,An,A7 1]
theorem l1e (sz od str:Nat->Nat): ∀m r,l0v sz od str m r=(L m fun i=>(sz (od (r+i))-1)*str (od (r+i))).sum
 |0,r=>rfl
 |m+1,r=>by rw[l0v,l1e sz od str m (r+1)];simp[L,AO,Aq,AZ,An,A7 1]
structure OfR where
 ns:Nat
 sz:Nat->Int
 no:Nat
 od:Nat->Int
 T:Nat
 C:Nat->VaR
 str:Nat->Nat
def OfR.sN (o:OfR)(i:Nat):Nat:=(o.sz i).toNat
def OfR.oN (o:OfR)(i:Nat):Nat:=(o.od i).toNat
structure OfR.ok (o:OfR):Prop where
 ns:o.ns<=6
 no:o.no<=6
 T:o.T<=2000
 sz: ∀i,i<o.ns->1<=o.sz i/\o.sz i<=12
 od: ∀i,i<o.no->0<=o.od i/\o.od i<o.ns
 cell: ∀i,i<o.T->(0<=(o.C i).fault/\(o.C i).fault<=4)/\ -9999<=(o.C i).n/\(o.C i).n<=9999
 str: ∀i,i<o.ns->o.str i<=2000
def l0m (sz:Nat->Int)(ns:Nat):Nat->Int
 |0=>1
 |p+1=>l0m sz ns p*sz (ns-1-p)
theorem l0o (sz:Nat->Int)(ns:Nat): ∀p,p<=ns->prod sz (ns-p)*l0m sz ns p=prod sz ns
 |0,_=>by simp[l0m]
 |p+1,h=>by have ih:=l0o sz ns p (by omega);obtain⟨q,hq⟩: ∃q,ns-p=q+1:=⟨ns-p-1,by omega⟩;rw[hq,prod] at ih;rw[l0m,show ns-(p+1)=q by omega,show ns-1-p=q by omega,<-ih,Ao,BL (l0m sz ns p)]
theorem l1b {sz:Nat->Int}{ns:Nat}(hs: ∀i,i<ns->1<=sz i/\sz i<=12)(hp:prod sz ns<=2000): ∀p,p<=ns->1<=l0m sz ns p/\l0m sz ns p<=2000:=fun p hpn=>by
 have h1: ∀p,p<=ns->1<=l0m sz ns p:=fun p=>by
  induction p with
  |zero=>intro _;simp[l0m]
  |succ p ih=>intro h;have:=ih (by omega);have h2:=(hs (ns-1-p) (by omega)).1;rw[l0m];exact Int.le_trans (by decide) (Int.mul_le_mul this h2 (by decide) (by omega))
 refine⟨h1 p hpn,?_⟩;have h2:=l0o sz ns p hpn;have h3:=h4r (g:=sz) (n:=ns-p) fun i hi=>(hs i (by omega)).1;have h4:1*l0m sz ns p<=prod sz (ns-p)*l0m sz ns p:=Int.mul_le_mul_of_nonneg_right h3 (by have:=h1 p hpn;omega);omega
def l3g (o:OfR)(s:AE)(t:Int):DiR:=
 ⟨o.ns,o.sz,o.no,o.od,s.oe.length,fun i=>s.oe.getD i ⟨0,0⟩,s.on.length,fun i=>(s.on.getD i ⟨0,[]⟩).var,fun i=>(s.on.getD i ⟨0,[]⟩).kids.length,fun i j=>(s.on.getD i ⟨0,[]⟩).kids.getD j 0,t⟩
def l2p (sz:Nat->Int)(c:Nat):Nat->Int
 |0=>1
 |m+1=>l2p sz c m*sz (c+1+m)
theorem l1k (sz:Nat->Int)(c:Nat): ∀m,prod sz (c+1)*l2p sz c m=prod sz (c+1+m)
 |0=>by simp[l2p]
 |m+1=>by rw[l2p,<-Ao,l1k sz c m];rfl
theorem l1a {sz g h:Nat->Int}: ∀{m},(∀i,i<m->g i=h i)->j5f sz g m=j5f sz h m
 |0,_=>rfl
 |m+1,e=>by rw[j5f,j5f,l1a fun i hi=>e i (by omega),e m (by omega)]
theorem l1s (sz g:Nat->Int)(c:Nat)(k:Int): ∀m,j5f sz (h4l g c k) (c+1+m)=j5f sz g (c+1+m)+(k-g c)*l2p sz c m
 |0=>by show j5f sz (h4l g c k) (c+1)=j5f sz g (c+1)+(k-g c)*1;rw[j5f,j5f,l1a (h:=g) fun i hi=>by simp only[h4l,if_neg (show¬i=c by omega)]];simp only[h4l,if_pos];omega
 |m+1=>by show j5f sz (h4l g c k) (c+1+m+1)=j5f sz g (c+1+m+1)+(k-g c)*l2p sz c (m+1);rw[j5f,j5f,l1s sz g c k m,l2p];simp only[h4l,if_neg (show¬c+1+m=c by omega)];rw[BP,Ao];omega
theorem l2a {sz:Nat->Int}{ns c:Nat}(hc:c<ns)(hs: ∀i,i<ns->1<=sz i):l2p sz c (ns-1-c)=l0m sz ns (ns-1-c):=by have h1:=l1k sz c (ns-1-c);have h2:=l0o sz ns (ns-1-c) (by omega);rw[show c+1+(ns-1-c)=ns by omega] at h1;rw[show ns-(ns-1-c)=c+1 by omega,<-h1] at h2;have h3:=h4r (g:=sz) (n:=c+1) fun i hi=>hs i (by omega);exact (Int.eq_of_mul_eq_mul_left (by omega) h2).symm
theorem l2k {sz:Nat->Int}{ns c:Nat}(hc:c<ns)(hs: ∀i,i<ns->1<=sz i)(g:Nat->Int)(h0:g c=0)(k:Int):j5f sz (h4l g c k) ns=j5f sz g ns+k*l0m sz ns (ns-1-c):=by have h:=l1s sz g c k (ns-1-c);rw[show c+1+(ns-1-c)=ns by omega,h0,l2a hc hs,Int.sub_zero] at h;exact h
def ndL (q:Nat)(av:Nat->Int)(an:Nat->Nat)(ak:Nat->Nat->Int):List NdR:=L q fun j=>⟨av j,L (an j) (ak j)⟩
def veL (q:Nat)(ef en:Nat->Int):List VaR:=L q fun j=>⟨ef j,en j⟩
def arV (q:Nat)(ef en:Nat->Int):a0f:= .arr 2 q fun j=>[.int .u8 (.v (ef j)),.int .i64 (.v (en j))]
structure PtR where
 qe:Nat
 ef:Nat->Int
 en:Nat->Int
 qn:Nat
 av:Nat->Int
 an:Nat->Nat
 ak:Nat->Nat->Int
structure PtR.is (p:PtR)(s:AE):Prop where
 oe:veL p.qe p.ef p.en=s.oe
 on:ndL p.qn p.av p.an p.ak=s.on
 an: ∀j,j<p.qn->p.an j<=12
theorem PtR.is.qe {p:PtR}{s:AE}(h:p.is s):p.qe=s.oe.length:=by rw[<-h.oe,veL,h3u]
theorem PtR.is.qn {p:PtR}{s:AE}(h:p.is s):p.qn=s.on.length:=by rw[<-h.on,ndL,h3u]
def PtR.av1 (p:PtR)(o:OfR)(root:Int):AV:= .agg [isl o.ns o.sz,isl o.no o.od,.msl 0 2 Ah p.qe AG,.msl 1 2 Ah p.qn AG,int root]
def PtR.h (p:PtR):List a0f:=[arV p.qe p.ef p.en,arB p.qn p.av p.an p.ak]
def ptK (o:OfR)(g:Nat->Int)(root:Int)(s:AE)(t:Int)(pg:List Nat)(v:AV)(h':List a0f):Prop:=
 pg=[0,1]/\ ∃p:PtR,p.is s/\v= .tuple [p.av1 o root,int t]/\h'=p.h++[arrI o.ns g]
def ptA (o:OfR)(p:PtR)(root:Int)(r:Nat):List AV:=[p.av1 o root,vsl o.T o.C,int r,.msl 2 1 Ah o.ns AG]
theorem l2u (o:OfR)(ho:o.ok)(hp:prod o.sz o.ns<=2000)(g:Nat->Int)(hg: ∀i,i<o.ns->0<=g i/\g i<o.sz i)(num:Nat)(hnum:j5f o.sz g o.ns=num)(hnT:num<o.T)(root:Int)(s:AE)(p:PtR)(hps:p.is s)(hb:s.oe.length<=1000000):
 a1h AD 88 (ptA o p root o.no) (p.h++[arrI o.ns g]) (ptK o g root (AN s (o.C num)).1 (AN s (o.C num)).2):=by
 have h112:=j4x (ns:=o.ns) (by have:=ho.ns;omega) o.sz g ho.sz hp hg num hnum;have hqe:=hps.qe;have hoe:=hps.oe;have hon:=hps.on;have han:=hps.an;obtain⟨cf,cn,hcc⟩: ∃cf cn,o.C num=⟨cf,cn⟩:=⟨_,_,rfl⟩;obtain⟨Cf,Cn,hC⟩: ∃Cf Cn:Nat->Int,o.C=fun i=>⟨Cf i,Cn i⟩:=⟨fun i=>(o.C i).fault,fun i=>(o.C i).n,rfl⟩;have hval:(AN s (o.C num)).2= -1-(AK s.oe (o.C num):Int):=rfl;rw[hval,hcc];obtain⟨R,hR⟩: ∃R,AK s.oe (⟨cf,cn⟩:VaR)=R:=⟨_,rfl⟩;have hRf: ∀m,m<p.qe->(p.ef m=cf/\p.en m=cn)->(∀q,q<m-> ¬(p.ef q=cf/\p.en q=cn))->R=m:=fun m hm h hq=>by rw[<-hR,<-hoe];exact l1g hm (by rw[h.1,h.2]) fun q hq' e=>hq q hq' (by injection e with a b;exact⟨a,b⟩)
 have hRn:(∀q,q<p.qe-> ¬(p.ef q=cf/\p.en q=cn))->(⟨cf,cn⟩:VaR)∉s.oe/\R=p.qe:=fun hq=>by rw[<-hR,<-hoe];exact l1r fun q hq' e=>hq q hq' (by injection e with a b;exact⟨a,b⟩)
 have hmk:(AN s ⟨cf,cn⟩).1={s with oe:=AT s.oe ⟨cf,cn⟩}:=rfl;rw[hmk,hR];obtain⟨ns,sz,no,od,T,C,str⟩:=o;obtain⟨qe,ef,en,qn,av,an,ak⟩:=p;simp only at h112 hqe hoe hon han hC hcc hRf hRn hnT;subst hC;simp only[VaR.mk.injEq] at hcc;obtain⟨hcc1,hcc2⟩:=hcc;clear hval hmk hps;refine h3w AJ okP g4e rfl fun E Sg hb0 hS F hF=> ?_;simp only[PtR.h,Au,BE,BA] at hb0;have e:=b2k hS;cbv;simp only[j6i hS rfl];cbv;refine a1g hS (e8l hS (AB _)) ?_;refine a0v hS _ h112 ?_;cbv;simp only[nat,e.toNat,AI,AC,hcc1,hcc2];refine a1g hS (a5p hS hnT) ?_;have hqb:qe<=1000000:=by omega
 refine a7r AJ okP hS (fun m=>m<=qe/\ ∀q,q<m-> ¬(ef q=cf/\en q=cn)) (fun m=>qe-m)
  (fun m=>⟨b5r [(4,.ptr 3 0),(8,.ptr 4 0),(10,.ptr 5 0),(11,int m)] 142,[arV qe ef en,arB qn av an ak,arrI ns g,.var [isl ns sz,isl no od,.msl 0 2 Ah qe AG,.msl 1 2 Ah qn AG,int root],.var [.d .nil,.d .nil,.d .nil,.d .nil,int 0],.var [u8 cf,int cn]],[]⟩) 0 ⟨by omega,by omega⟩ ?_ ?_
 ·exact a4c rfl ⟨AA _,AA _,AA _,a6c rfl,trivial⟩ (.cons (.refl _) (.cons (.refl _) (.cons (.refl _) (.cons (.refl _) (.cons (.var (.cons (AA _) (.cons (AA _) (.cons (AA _) (.cons (AA _) (.cons (a6c rfl) .nil)))))) (.cons (.refl _) (.nil _))))))) (by simp;omega) (.inr rfl) rfl
 ·intro m hm N hN;cbv;split
  ·rename_i h;have hmq:m<qe:=d3r hS h;cbv;simp only[nat,e.toNat,AI,AC];refine a1g hS (a5p hS hmq) (a1g hS (i2h hS hmq) ?_);split
   ·rename_i h;have he:ef m=cf/\en m=cn:=by simp only[e.band,e.ieq,Bool.and_eq_true,beq_iff_eq] at h;exact⟨h.1,h.2.1⟩
    have hRm:=hRf m hmq he hm.2;have hmem:=at1_mem (show AK s.oe (⟨cf,cn⟩:VaR)<s.oe.length by omega);rw[Ac hmem] at hF;cbv;refine a1g hS (a9o hS (by show-9223372036854775808<= -1-(m:Int)/\ -1-(m:Int)<=9223372036854775807;omega)) ?_;exact⟨[0,1],fun l h1 h2=>(nomatch h2),hF (h1:=[arV qe ef en,arB qn av an ak,arrI ns g]) (.cons (.refl _) (.cons (.refl _) (.cons (.refl _) (.nil _)))) (BF (.cons (AA _) (.cons (b0a (b:= -1-(R:Int)) (by rw[hRm];exact e.isub _ _)) .nil))) (by simp[PtR.h]) (.inl ⟨rfl,rfl⟩)
     ⟨rfl,⟨qe,ef,en,qn,av,an,ak⟩,⟨hoe,hon,han⟩,rfl,rfl⟩⟩
   ·rename_i h;have he: ¬(ef m=cf/\en m=cn):=fun he=>by simp only[e.band,e.ieq,he.1,he.2,BEq.rfl,Bool.and_true] at h;cases h
    cbv;refine a1g hS (e1n hS (by omega)) ?_;refine hN (m+1) _ ⟨by omega,fun q hq=> ?_⟩ (by omega) (a4c rfl ⟨AA _,AA _,AA _,b2s hS,trivial⟩ (a4k.same _) (by simp;omega) (.inr rfl) rfl);by_cases e:q=m
    ·rw[e];exact he
    ·exact hm.2 q (by omega)
  ·rename_i h;have hmq:m=qe:=by have:=d3c hS h;omega
   cbv;obtain⟨hnm,hRq⟩:=hRn (by rw[<-hmq];exact hm.2);rw[Ab hnm] at hF;refine a1g hS trivial (a1g hS (f1i hS (by omega)) (a1g hS (a9o hS (by simp only[e.ofNat,e.nadd];omega)) (a1g hS (c3d hS) ?_)));refine⟨[0,1],fun l h1 h2=>by simp at h2⊢;omega,hF (h1:=[arV (qe+1) (fun j=>if j<qe then ef j else cf) (fun j=>if j<qe then en j else cn),arB qn av an ak,arrI ns g]) (.cons (d7h hS ?_ ?_) (.cons (.refl _) (.cons (.refl _) (.nil _))))
    (BF (.cons (Az (.cons (AA _) (.cons (AA _) (.cons (d8n hS) (.cons (AA _) (.cons (AA _) .nil)))))) (.cons (b0a (b:= -1-(R:Int)) (by simp only[e.isub,e.ofNat,e.nadd,hRq];omega)) .nil))) (by simp[PtR.h]) (.inl ⟨rfl,rfl⟩)
    ⟨rfl,⟨qe+1,fun j=>if j<qe then ef j else cf,fun j=>if j<qe then en j else cn,qn,av,an,ak⟩,⟨?_,hon,han⟩,rfl,rfl⟩⟩
   ·intro j hj;simp only[if_pos hj];exact .refl _
   ·simp only[if_neg (AS qe)];exact .refl _
   ·simp only;rw[<-hoe];unfold veL;rw[h7q];simp only[if_neg (AS qe)];exact congrArg (· ++[_]) (h4v fun j hj=>by rw[if_pos hj,if_pos hj])
structure OfR.full (o:OfR):Prop where
 ok:o.ok
 fr:h4e o.ns o.no o.sz o.od=0
 str: ∀i,i<o.ns->(o.str i:Int)=l0m o.sz o.ns (o.ns-1-i)
theorem l3b (o:OfR)(ho:o.full)(root:Int): ∀(m r num:Nat) (g:Nat->Int) (s:AE) (p:PtR),r+m=o.no->num+l0v o.sN o.oN o.str m r<o.T->(∀i,i<o.ns->0<=g i/\g i<o.sz i)->(∀i,r<=i->i<o.no->g (o.od i).toNat=0)->j5f o.sz g o.ns=num->
 p.is s->s.oe.length+l0k o.sN o.oN m r<=900000->s.on.length+l0l o.sN o.oN m r<=900000->
 a1h AD 88 (ptA o p root r) (p.h++[arrI o.ns g]) (ptK o g root (ofW o.C o.sN o.oN o.str m r num s).1 (ofW o.C o.sN o.oN o.str m r num s).2):=by
 obtain⟨hpr,hord⟩:prod o.sz o.ns<=2000/\h6y o.ns o.no o.od:=(h4s ho.fr).2.2;intro m
 induction m with
 |zero=>
  intro r num g s p hr hn hg hg0 hnum hps h1 h2;obtain rfl:r=o.no:=by omega
  exact l2u o ho.ok hpr g hg num hnum (by simpa [l0v] using hn) root s p hps (by omega)
 |succ m ih=>
  intro r num g s p hr hn hg hg0 hnum hps h1 h2;have hr1:r<o.no:=by omega
  obtain⟨hod1,hod2⟩:=ho.ok.od r hr1;obtain⟨c,hc⟩: ∃c:Nat,o.od r=c:=⟨(o.od r).toNat,by omega⟩;have hcn:o.oN r=c:=by rw[OfR.oN,hc,AC]
  have hcns:c<o.ns:=by omega
  obtain⟨hsz1,hsz2⟩:=ho.ok.sz c hcns;obtain⟨w,hw⟩: ∃w:Nat,o.sz c=w:=⟨(o.sz c).toNat,by omega⟩;have hwn:o.sN c=w:=by rw[OfR.sN,hw,AC]
  have hw12:1<=w/\w<=12:=by omega
  obtain⟨stc,hst⟩: ∃x,o.str c=x:=⟨_,rfl⟩;have hgc:g c=0:=by have:=hg0 r (by omega) hr1;rwa [hc,AC] at this
  have hss: ∀i,r+1<=i->i<r+1+m->1<=o.sN (o.oN i):=fun i a b=>by obtain⟨d1,d2⟩:=ho.ok.od i (by omega);have:=(ho.ok.sz (o.oN i) (by unfold OfR.oN;omega)).1;unfold OfR.sN;omega
  rw[l0v,hcn,hwn,hst] at hn;rw[l0k,hcn,hwn] at h1;rw[l0l,hcn,hwn] at h2;obtain⟨G,hG⟩: ∃G:Nat->AE->AE×Int,∀k t,ofW o.C o.sN o.oN o.str m (r+1) (num+k*stc) t=G k t:=⟨_,fun _ _=>rfl⟩;have hGr: ∀k t,l2j t (G k t).1 (l0k o.sN o.oN m (r+1)) (l0l o.sN o.oN m (r+1))/\okN (G k t).1 (G k t).2:=fun k t=>by rw[<-hG];exact l0s m (r+1) _ t hss
  have hF:ofW o.C o.sN o.oN o.str (m+1) r num s=AM (l0j G w s).1 ⟨(c:Int),L w (l0j G w s).2⟩:=by rw[ofW,hcn,hwn,hst];simp only[hG]
  rw[hF];clear hF;have hcall: ∀k,k<w-> ∀(t:AE) (p:PtR),p.is t->t.oe.length+l0k o.sN o.oN m (r+1)<=900000->t.on.length+l0l o.sN o.oN m (r+1)<=900000->
   a1h AD 88 (ptA o p root (r+1)) (p.h++[arrI o.ns (h4l g c k)]) (ptK o (h4l g c k) root (G k t).1 (G k t).2):=fun k hk t p hp a b=>by
   rw[<-hG];refine ih (r+1) (num+k*stc) (h4l g c k) t p (by omega) ?_ (fun i hi=> ?_) (fun i hi1 hi2=> ?_) ?_ hp a b
   ·have:k*stc<=(w-1)*stc:=AW _ (by omega);omega
   ·simp only[h4l];split
    ·rename_i e;subst e;omega
    ·exact hg i hi
   ·have h3:=(hord.2 i hi2).2 r (by omega);have h4:=(ho.ok.od i hi2).1;simp only[h4l];rw[if_neg (by omega)];exact hg0 i (by omega) hi2
   ·rw[l2k hcns (fun i hi=>(ho.ok.sz i hi).1) g hgc,hnum,<-ho.str c hcns,hst];rfl
  have hfg:=fun k=>l0p hGr s k;have hmul1: ∀k,k<=w->k*l0k o.sN o.oN m (r+1)<=w*l0k o.sN o.oN m (r+1):=fun k hk=>AW _ hk;have hmul2: ∀k,k<=w->k*l0l o.sN o.oN m (r+1)<=w*l0l o.sN o.oN m (r+1):=fun k hk=>AW _ hk;have hmul3: ∀k,(k+1)*l0k o.sN o.oN m (r+1)=k*l0k o.sN o.oN m (r+1)+l0k o.sN o.oN m (r+1):=fun k=>Ad _ _;have hmul4: ∀k,(k+1)*l0l o.sN o.oN m (r+1)=k*l0l o.sN o.oN m (r+1)+l0l o.sN o.oN m (r+1):=fun k=>Ad _ _;have hno6:=ho.ok.no;have hns6:=ho.ok.ns;have hns1:1<=o.ns:=by omega
  clear ih hG hss hn hord hpr hnum hg hg0;obtain⟨A1,hA1⟩: ∃x,l0k o.sN o.oN m (r+1)=x:=⟨_,rfl⟩;obtain⟨A2,hA2⟩: ∃x,l0l o.sN o.oN m (r+1)=x:=⟨_,rfl⟩;simp only[hA1,hA2] at hGr hcall hfg hmul1 hmul2 hmul3 hmul4 h1 h2;clear ho;obtain⟨ns,sz,no,od,T,C,str⟩:=o;obtain⟨ns,rfl⟩: ∃q,ns=q+1:=⟨ns-1,(Nat.sub_add_cancel hns1).symm⟩;obtain⟨qe,ef,en,qn,av,an,ak⟩:=p;simp only at hr1 hc hcns hw hst hcall hno6 hns6;refine h3w AJ okP g4e rfl fun E Sg hb hS F hF=> ?_;simp only[PtR.h,Au,BE,BA] at hb;have e:=b2k hS;obtain⟨S,hS0,hS1⟩: ∃S:Nat->AE,(∀k,(l0j G k s).1=S k)/\ ∀k,S (k+1)=(G k (S k)).1:=⟨fun k=>(l0j G k s).1,fun _=>rfl,fun _=>rfl⟩;obtain⟨U,hU0,hU1⟩: ∃U:Nat->Nat->Int,(∀k,(l0j G k s).2=U k)/\ ∀k,U (k+1)=h4l (U k) k (G k (S k)).2:=⟨fun k=>(l0j G k s).2,fun _=>rfl,fun k=>by rw[<-hS0];rfl⟩;have hS00:S 0=s:=by rw[<-hS0];rfl
  simp only[hS0,hU0] at hfg hF;cbv;simp only[j6f hS (show r≠no by omega)];cbv;simp only[nat,e.toNat,e.ofNat,AI,AC,hc,hw];refine a1g hS (a5p hS hr1) ?_;refine e4p AJ okP hS (σ:=Nat×PtR) (fun st=>st.1<=w/\st.2.is (S st.1)) (fun st=>w-st.1)
   (fun st=>⟨b5r [(1,vsl T C),(2,int r),(3,.msl 2 1 Ah (ns+1) AG),(4,.ptr 3 0),(8,.ptr 4 0),(12,.ptr 5 0),(13,int st.1)] 142,
     [arV st.2.qe st.2.ef st.2.en,arB st.2.qn st.2.av st.2.an st.2.ak,arrI (ns+1) g,.var [isl (ns+1) sz,isl no od,.msl 0 2 Ah st.2.qe AG,.msl 1 2 Ah st.2.qn AG,int root],.var [.any,.any,.any,.any,.any],.var [int c,.msl 6 1 Ah st.1 AG],arrI st.1 (U st.1)],[0,1,6]⟩)
   (0,⟨qe,ef,en,qn,av,an,ak⟩) ⟨by simp,by rw[hS00];exact hps⟩ ?_ ?_
  ·exact (b4w.gh 5 1 1 (fun _=>[]) rfl rfl).trans (b4w.le (a4c rfl ⟨AA _,AA _,AA _,AA _,AA _,AA _,a6c rfl,trivial⟩
    (.cons (.refl _) (.cons (.refl _) (.cons (.refl _) (.cons (.refl _) (.cons (.var (.cons (.any _) (.cons (.any _) (.cons (.any _) (.cons (.any _) (.cons (.any _) .nil)))))) (.cons (.refl _) (.cons (A9 rfl fun j hj=>by omega) (.nil _)))))))) (by simp;omega) (.inr rfl) rfl))
  ·rintro⟨k,⟨qe,ef,en,qn,av,an,ak⟩⟩ ⟨hk,hps⟩ N hN;simp only at hk hps hN;have hqe:=hps.qe;have hqn:=hps.qn;simp only at hqe hqn;have hfk:=(hfg k).1;have hf1:=hfk.oe;have hf2:=hfk.on;have hm1:=hmul1 k hk;have hm2:=hmul2 k hk;cbv;simp only[nat,e.toNat,AI,AC,hw];refine a1g hS (a5p hS hcns) ?_;split
   ·rename_i h;have hlt:k<w:=As.1 (b3h hS h);have hm3:=hmul3 k;have hm4:=hmul4 k;have hm5:=hmul1 (k+1) hlt;have hm6:=hmul2 (k+1) hlt;have hca:=hcall k hlt (S k) ⟨qe,ef,en,qn,av,an,ak⟩ hps (by omega) (by omega);cbv;simp only[nat,e.toNat,e.iadd,AI,AC];refine a1g hS (e8l hS (AB _)) (a1g hS (e8l hS (show ns+1<=1073741824 by omega)) (a1g hS (a5p hS hcns) (a1g hS (i2h hS hcns) (a1g hS (e7p hS (show-9223372036854775808<=(r:Int)+1/\(r:Int)+1<=9223372036854775807 by omega)) ?_))));refine h3v hS (a1h.frame hca [0,1,7] rfl rfl ⟨A5 _,A5 _,h8j hS (fun j _ hne=>by simp only[h4l,if_neg hne];exact .refl _) (fun _=>by simp only[h4l,if_pos];exact .refl _),trivial⟩) ?_;rintro pg v H' ⟨pg0,v0,h0,⟨rfl,⟨qe',ef',en',qn',av',an',ak'⟩,hps',rfl,rfl⟩,rfl,rfl,rfl⟩;cbv;refine a1g hS trivial (a1g hS (f1i hS (by omega)) (a1g hS (e1n hS (by omega)) ?_));refine hN (k+1,⟨qe',ef',en',qn',av',an',ak'⟩) _ ⟨by simp only;omega,by simp only[hS1];exact hps'⟩ (by simp only;omega)
     (b4w.le (a4c rfl ⟨AA _,AA _,AA _,AA _,AA _,AA _,b2s hS,trivial⟩
       (.cons (.refl _) (.cons (.refl _) (.cons (.refl _) (.cons (.refl _) (.cons (.refl _) (.cons (.var (.cons (AA _) (.cons (d8n hS) .nil))) (.cons (d7h hS ?_ ?_) (.nil _)))))))) (by simp;omega) (.inl ⟨by cbv,by cbv⟩) rfl))
    ·intro j hj;simp only[hU1,h4l,if_neg (show¬j=k by omega)];exact .refl _
    ·simp only[hU1,h4l,if_pos];exact .refl _
   ·rename_i h;have hkw:k=w:=by have:=At.1 (b3r hS h);omega
    subst hkw;cbv;refine a1g hS (e8l hS (AB _)) ?_;have hok:=(hfg k).2;have hflat:Ax (L k (U k))↔ ∀j,j<k->U k j=U k 0:=i1r hw12.1;have hoe:=hps.oe;have hon:=hps.on;have han:=hps.an;simp only at hoe hon han;by_cases hfl: ∀j,j<k->U k j=U k 0
    ·have hmk0:AM (S k) ⟨(c:Int),L k (U k)⟩=(S k,U k 0):=by rw[AM,if_pos (hflat.2 hfl),l1o hw12.1]
     rw[hmk0] at hF;refine a0v hS _ (i5i (c:Int) (by omega) (U k) Ak ⟨fun _=>hfl,fun _=>rfl⟩) ?_;cbv;refine a1g hS (a5p hS hw12.1) (a1g hS (i2h hS hw12.1) (a1g hS (i2h hS hw12.1) (a1g hS (c3d hS) (a1g hS (c3d hS) ?_))));exact⟨[0,1],fun l h1 h2=>by simp at h2⊢;omega,hF (h1:=[arV qe ef en,arB qn av an ak,arrI (ns+1) g]) (.cons (.refl _) (.cons (.refl _) (.cons (.refl _) (.nil _)))) (AA _) (by simp[PtR.h]) (.inl ⟨rfl,rfl⟩)
      ⟨rfl,⟨qe,ef,en,qn,av,an,ak⟩,hps,rfl,rfl⟩⟩
    ·have hmk1:AM (S k) ⟨(c:Int),L k (U k)⟩=({S k with on:=AT (S k).on ⟨(c:Int),L k (U k)⟩},(AK (S k).on (⟨(c:Int),L k (U k)⟩:NdR):Int)):=by rw[AM,if_neg fun h=>hfl (hflat.1 h)]
     rw[hmk1] at hF;refine a0v hS _ (i5i (c:Int) (by omega) (U k) AG ⟨fun h=>Bool.noConfusion h,fun h=>absurd h hfl⟩) ?_;obtain⟨R,hR⟩: ∃R,AK (S k).on (⟨(c:Int),L k (U k)⟩:NdR)=R:=⟨_,rfl⟩;rw[hR] at hF;have hRf: ∀q,q<qn->(av q=c/\L (an q) (ak q)=L k (U k))->(∀p,p<q-> ¬(av p=c/\L (an p) (ak p)=L k (U k)))->R=q:=fun q hq h hp=>by rw[<-hR,<-hon];exact l1g hq (by rw[h.1,h.2]) fun p hp' e=>hp p hp' (by injection e with a b;exact⟨a,b⟩)
     have hRn:(∀p,p<qn-> ¬(av p=c/\L (an p) (ak p)=L k (U k)))->(⟨(c:Int),L k (U k)⟩:NdR)∉(S k).on/\R=qn:=fun hp=>by rw[<-hR,<-hon];exact l1r fun p hp' e=>hp p hp' (by injection e with a b;exact⟨a,b⟩)
     have hqnb:qn<=1000000:=by omega
     cbv;refine a7r AJ okP hS (fun q=>q<=qn/\ ∀p,p<q-> ¬(av p=c/\L (an p) (ak p)=L k (U k))) (fun q=>qn-q)
      (fun q=>⟨b5r [(4,.ptr 3 0),(8,.ptr 4 0),(12,.ptr 5 0),(16,int q)] 142,
        [arV qe ef en,arB qn av an ak,arrI (ns+1) g,.var [isl (ns+1) sz,isl no od,.msl 0 2 Ah qe AG,.msl 1 2 Ah qn AG,int root],.var [.any,.any,.any,.any,.any],.var [int c,.msl 6 1 Ah k AG],arrI k (U k)],[0,1,6]⟩) 0 ⟨by omega,by omega⟩ ?_ ?_
     ·exact a4c rfl ⟨AA _,AA _,AA _,a6c rfl,trivial⟩ (a4k.same _) (by simp;omega) (.inr rfl) rfl
     ·intro q hq N2 hN2;have hnext: ¬(av q=c/\L (an q) (ak q)=L k (U k))->q<qn->q+1<=qn/\ ∀p,p<q+1-> ¬(av p=c/\L (an p) (ak p)=L k (U k)):=fun hne hlt=>⟨hlt,fun p hp=>by
       by_cases e:p=q
       ·rw[e];exact hne
       ·exact hq.2 p (by omega)⟩
      cbv;split
      ·rename_i h;have hqq:q<qn:=d3r hS h;have h23:=h7o (an q) k (ak q) (U k) (by have:=han q hqq;omega);cbv;simp only[nat,e.toNat,AI,AC];refine a1g hS (a5p hS hqq) (a1g hS (i2h hS hqq) ?_);split
       ·rename_i h;have hvv:av q=c:=e2h hS h;cbv;simp only[nat,e.toNat,AI,AC];refine a1g hS (a5p hS hqq) (a1g hS (i2h hS hqq) (a1g hS (e8l hS (AB _)) ?_));by_cases hns2:L (an q) (ak q)≠L k (U k)
        ·refine a0v hS (bool AG) (h23 AG (by simp[hns2])) ?_;cbv;refine a1g hS (e1n hS (by omega)) ?_;exact hN2 (q+1) _ (hnext (fun h=>hns2 h.2) hqq) (by omega) (a4c rfl ⟨AA _,AA _,AA _,b2s hS,trivial⟩ (a4k.same _) (by simp;omega) (.inr rfl) rfl)
        ·have hns2:=BQ.1 hns2;refine a0v hS (bool Ak) (h23 Ak (by simp[hns2])) ?_;cbv;have hRq:=hRf q hqq ⟨hvv,hns2⟩ hq.2;have hmem:=at1_mem (show AK (S k).on (⟨(c:Int),L k (U k)⟩:NdR)<(S k).on.length by rw[hR,hRq,<-hqn];exact hqq);rw[Ac hmem,hRq] at hF;exact⟨[0,1],fun l h1 h2=>by simp at h2⊢;omega,hF (h1:=[arV qe ef en,arB qn av an ak,arrI (ns+1) g]) (.cons (.refl _) (.cons (.refl _) (.cons (.refl _) (.nil _)))) (AA _) (by simp[PtR.h]) (.inl ⟨rfl,rfl⟩)
          ⟨rfl,⟨qe,ef,en,qn,av,an,ak⟩,hps,rfl,rfl⟩⟩
       ·rename_i h;have hvv:av q≠c:=c8k hS h;cbv;refine a1g hS (e1n hS (by omega)) ?_;exact hN2 (q+1) _ (hnext (fun h=>hvv h.1) hqq) (by omega) (a4c rfl ⟨AA _,AA _,AA _,b2s hS,trivial⟩ (a4k.same _) (by simp;omega) (.inr rfl) rfl)
      ·rename_i h;have hqq:q=qn:=by have:=d3c hS h;omega
       cbv;obtain⟨hnm,hRq⟩:=hRn (by rw[<-hqq];exact hq.2);rw[Ab hnm] at hF;refine a1g hS (e8l hS (AB _)) (a1g hS trivial (a1g hS (f1i hS (by omega)) (a1g hS (a9o hS (by simp only[e.ofNat,e.nadd,AI];omega)) (a1g hS (c3d hS) ?_))));refine⟨[0,1],fun l h1 h2=>by simp at h2⊢;omega,hF (h1:=[arV qe ef en,arB (qn+1) (fun p=>if p<qn then av p else (c:Int)) (fun p=>if p<qn then an p else k) (fun p=>if p<qn then ak p else U k),arrI (ns+1) g]) (.cons (.refl _) (.cons (d7h hS ?_ ?_) (.cons (.refl _) (.nil _))))
        (BF (.cons (Az (.cons (AA _) (.cons (AA _) (.cons (AA _) (.cons (d8n hS) (.cons (AA _) .nil)))))) (.cons (b0a (b:=(R:Int)) (by simp only[e.isub,e.ofNat,e.nadd,hRq,AI];omega)) .nil))) (by simp[PtR.h]) (.inl ⟨rfl,rfl⟩)
        ⟨rfl,⟨qe,ef,en,qn+1,fun p=>if p<qn then av p else (c:Int),fun p=>if p<qn then an p else k,fun p=>if p<qn then ak p else U k⟩,⟨hoe,?_,fun p hp=> ?_⟩,rfl,rfl⟩⟩
       ·intro p hp;simp only[if_pos hp];exact .refl _
       ·simp only[if_neg (AS qn)];exact .refl _
       ·simp only;rw[<-hon];unfold ndL;rw[h7q];simp only[if_neg (AS qn)];exact congrArg (· ++[_]) (h4v fun p hp=>by simp only[if_pos hp])
       ·simp only;split
        ·exact han p (by assumption)
        ·exact hw12.2
def OfR.make (o:OfR):AE×Int:=ofW o.C o.sN o.oN o.str o.no 0 0 s0
def OfR.out (o:OfR):DiR:=l3g o o.make.1 o.make.2
theorem l2v {p:PtR}{s:AE}(h:p.is s):a0x (.d (.sl 2 p.qe fun j=>[.int .u8 (.v (p.ef j)),.int .i64 (.v (p.en j))])) (vsl s.oe.length fun i=>s.oe.getD i ⟨0,0⟩):=
 BJ h.qe fun i hi=>by
  have h1:s.oe.getD i ⟨0,0⟩=⟨p.ef i,p.en i⟩:=by rw[<-h.oe,veL,AU,h9t,if_pos hi];rfl
  show _=(s.oe.getD i ⟨0,0⟩).row;rw[h1];rfl
theorem l2n {p:PtR}{s:AE}(h:p.is s):a0x (.d (.sl 2 p.qn fun j=>[.int .i64 (.v (p.av j)),.sl 1 (p.an j) fun k=>[.int .i64 (.v (p.ak j k))]])) (bsl s.on.length (fun i=>(s.on.getD i ⟨0,[]⟩).var) (fun i=>(s.on.getD i ⟨0,[]⟩).kids.length) fun i j=>(s.on.getD i ⟨0,[]⟩).kids.getD j 0):=
 a0x.slr h.qn fun i hi=>by
  have h1:s.on.getD i ⟨0,[]⟩=⟨p.av i,L (p.an i) (p.ak i)⟩:=by rw[<-h.on,ndL,AU,h9t,if_pos hi];rfl
  simp only[h1];refine .cons (.int rfl) (.one (.sl (h3u _ _).symm fun j hj=> .one (.int ?_)));simp[L,hj,IX.val]
def p00:PtR:=⟨0,fun _=>0,fun _=>0,0,fun _=>0,fun _=>0,fun _ _=>0⟩
def h46 (o:OfR):List a0f:=[.var [.d .nil,.d .nil,.d .nil,.d .nil,int 0],.var [isl o.ns o.sz,isl o.no o.od,.d .nil,.d .nil,int 0],arrI o.ns fun _=>0]
theorem l3h (o:OfR)(s:AE)(t:Int)(hpt:a1h AD 88 (ptA o p00 0 0) (p00.h++[arrI o.ns fun _=>0]) (ptK o (fun _=>0) 0 s t)):
 a1h AD 88 [.agg [isl o.ns o.sz,isl o.no o.od,.d .nil,.d .nil,int 0],vsl o.T o.C,int 0,.msl 2 1 Ah o.ns AG] (h46 o)
  (fun pg v h'=> ∃pg1,i3s (h46 o++[arV 0 (fun _=>0) (fun _=>0),arB 0 (fun _=>0) (fun _=>0) (fun _ _=>0)]) [3,4,2] (ptK o (fun _=>0) 0 s t) pg1 v h'/\pg=pg1.filter fun l=>decide (l<3)):=by
 have hfr:=a1h.frame (args':=[.agg [isl o.ns o.sz,isl o.no o.od,.msl 3 2 Ah 0 AG,.msl 4 2 Ah 0 AG,int 0],vsl o.T o.C,int 0,.msl 2 1 Ah o.ns AG]) hpt (H:=h46 o++[arV 0 (fun _=>0) (fun _=>0),arB 0 (fun _=>0) (fun _=>0) (fun _ _=>0)]) [3,4,2] rfl rfl
  (show _/\_ from⟨A5 _,A5 _,A5 _,trivial⟩)
 have h2:=a1h.nilA (cs:=[isl o.ns o.sz,isl o.no o.od,.msl 3 2 Ah 0 AG,.d .nil,int 0]) (h:=h46 o++[arV 0 (fun _=>0) (fun _=>0)]) 2 _ hfr ⟨.inl rfl,.inl rfl,.inl rfl,.inr ⟨rfl,rfl⟩,.inl rfl,trivial⟩;have h1:=a1h.nilA (cs:=[isl o.ns o.sz,isl o.no o.od,.d .nil,.d .nil,int 0]) (h:=h46 o) 2 _ h2 ⟨.inl rfl,.inl rfl,.inr ⟨rfl,rfl⟩,.inl rfl,.inl rfl,trivial⟩;exact h1.pgs
theorem l3i (o:OfR)(ho:o.ok)(s:AE)(t:Int)
 (hpt:a1h AD 88 (ptA o p00 0 0) (p00.h++[arrI o.ns fun _=>0]) (ptK o (fun _=>0) 0 s t)):
 a0j AD AG 40 [isl o.ns o.sz,isl o.no o.od,vsl o.T o.C] (l3g o s t).av:=by
 obtain⟨res,hres⟩: ∃res,res=(l3g o s t).av:=⟨_,rfl⟩;rw[<-hres];have hns:=ho.ns;have hno:=ho.no;obtain⟨ns,sz,no,od,T,C,str⟩:=o;simp only at hns hno;refine a0k AJ okP g3y _ rfl fun E Sg hb hS=> ?_;have e:=b2k hS;cbv;simp only[e.ofNat,e.toNat,AC];refine a1g hS (e8l hS (show ns<=1073741824 by omega)) (a1g hS (e8l hS (show no<=1073741824 by omega)) (a1g hS (i0n hS (Int.natCast_nonneg _)) (a1g hS (i0n hS (At.2 (show ns<=1073741824 by omega))) ?_)));refine h3v hS (((l3h ⟨ns,sz,no,od,T,C,str⟩ s t hpt).heap (.cons (.var (.cons (AA _) (.cons (AA _) (.cons (AA _) (.cons (AA _) (.cons (a6c rfl) .nil)))))) (.cons (.var (.cons (AA _) (.cons (AA _) (.cons (AA _) (.cons (AA _) (.cons (a6c rfl) .nil)))))) (.cons (h8m hS fun j hj=> .one (.int rfl)) (.nil _)))) rfl)) ?_;rintro pg v H' ⟨pg1,⟨pg0,v0,h0,⟨rfl,p,hp,rfl,rfl⟩,rfl,rfl,rfl⟩,hpg⟩;have hpg0:pg=[]:=hpg;subst hpg0;clear hpg;have he:=l2v hp;have hn:=l2n hp;obtain⟨qe,ef,en,qn,av,an,ak⟩:=p;cbv;refine a1g hS (e8l hS (AB _)) (a1g hS (e8l hS (AB _)) ?_);subst hres;exact Az (.cons (AA _) (.cons (AA _) (.cons he (.cons hn (.cons (AA _) .nil)))))
def l0x (sz:Nat->Int)(ns i:Nat):Nat:=(l0m sz ns (ns-1-i)).toNat
theorem l2h {ns no T:Nat}{sz od:Nat->Int}{C:Nat->VaR}(hfr:h4e ns no sz od=0)(hT:(T:Int)=prod sz ns)(hc: ∀i,i<T->a1i (C i)/\0<=(C i).fault):OfR.full ⟨ns,sz,no,od,T,C,l0x sz ns⟩:=by
 obtain⟨h1,h2,h3,h4,h5⟩:=h4s hfr;have hbd:=l1b h2 h3;have hs: ∀i,i<ns->(l0x sz ns i:Int)=l0m sz ns (ns-1-i):=fun i hi=>Am (by have:=(hbd (ns-1-i) (by omega)).1;omega);refine⟨⟨h1,by simp only;omega,by simp only;omega,h2,fun i hi=> ?_,fun i hi=> ?_,fun i hi=> ?_⟩,hfr,hs⟩
 ·have:=(h5 i hi).1;simp only;omega
 ·obtain⟨a,b⟩:=hc i hi;unfold a1i at a;simp only;split at a<;>omega
 ·have:=(hbd (ns-1-i) (by omega)).2;have:=hs i hi;simp only;omega
theorem OfR.full.od {o:OfR}(h:o.full): ∀i,i<o.no->o.oN i<o.no/\ ∀k,k<i->o.oN k≠o.oN i:=fun i hi=>by obtain⟨h1,h2⟩:=(h4s h.fr).2.2.2;obtain⟨h3,h4⟩:=h2 i hi;unfold OfR.oN;refine⟨by omega,fun k hk=> ?_⟩;have h5:=h4 k hk;have h6:=(h2 k (by omega)).1;omega
theorem l2w {sz:Nat->Int}: ∀{n:Nat},(∀i,i<n->1<=sz i)->(((L n fun i=>(sz i).toNat).prod:Nat):Int)=prod sz n
 |0,_=>rfl
 |n+1,h=>by rw[h7q,List.prod_append,prod,<-l2w (n:=n) fun i hi=>h i (by omega)];simp;rw[Int.max_eq_left (by have:=h n (by omega);omega)]
theorem l1t {sz:Nat->Int}{ns:Nat}(hs: ∀i,i<ns->1<=sz i/\sz i<=12)(hp:prod sz ns<=2000): ∀m,m<=ns->(L m fun c=>((sz c).toNat-1)*l0x sz ns c).sum+(l0m sz ns (ns-m)).toNat=(l0m sz ns ns).toNat
 |0,_=>by simp[L]
 |m+1,h=>by have ih:=l1t hs hp m (by omega);obtain⟨q,hq⟩: ∃q,ns-m=q+1:=⟨ns-m-1,by omega⟩;have hb:=(l1b hs hp q (by omega)).1;have hm:=(hs m (by omega)).1;rw[hq,l0m,show ns-1-q=m by omega] at ih;rw[h7q,BC,<-ih,show ns-(m+1)=q by omega,l0x,show ns-1-m=q by omega];obtain⟨x,hx⟩: ∃x:Nat,sz m=x+1:=⟨(sz m).toNat-1,by omega⟩;obtain⟨y,hy⟩: ∃y:Nat,l0m sz ns q=y:=⟨(l0m sz ns q).toNat,by omega⟩;rw[hx,hy,show ((y:Int)*((x:Int)+1)).toNat=y*(x+1) from by rw[show (y:Int)*((x:Int)+1)=((y*(x+1):Nat):Int) from rfl,AC],show ((x:Int)+1).toNat=x+1 from rfl];simp only[List.sum_cons,List.sum_nil,Nat.add_sub_cancel,AC];rw[BN,BM,Nat.mul_comm y x];omega
theorem OfR.full.span {o:OfR}(h:o.full)(hT:(o.T:Int)=prod o.sz o.ns)(hst:o.str=l0x o.sz o.ns):0+l0v o.sN o.oN o.str o.no 0<o.T:=by obtain⟨h1,h2,h3,h4,_⟩:=h4s h.fr;rw[l1e];simp only[Ar];rw[l1v h.od fun c=>(o.sN c-1)*o.str c,h4,hst];have h5:=l1t h2 h3 o.ns (AB _);have h6:=l0o o.sz o.ns o.ns (AB _);rw[A6,prod,Int.one_mul] at h6;have e:(L o.ns fun c=>(o.sN c-1)*l0x o.sz o.ns c)=L o.ns fun c=>((o.sz c).toNat-1)*l0x o.sz o.ns c:=rfl;rw[e];rw[A6,h6,<-hT,AC,show (l0m o.sz o.ns 0).toNat=1 from rfl] at h5;omega
theorem OfR.full.bounds {o:OfR}(h:o.full)(hT:(o.T:Int)=prod o.sz o.ns):l0k o.sN o.oN o.no 0=o.T/\l0l o.sN o.oN o.no 0<=12000:=by
 obtain⟨h1,h2,h3,h4,_⟩:=h4s h.fr;have he:l0k o.sN o.oN o.no 0=o.T:=by rw[l0z];simp only[Ar];rw[l2e h.od,h4];have:=l2w (sz:=o.sz) (n:=o.ns) fun i hi=>(h2 i hi).1;have e:(L o.ns o.sN)=L o.ns fun i=>(o.sz i).toNat:=rfl;rw[e];omega
 refine⟨he,?_⟩;have h5:=(l0n (sz:=o.sN) (od:=o.oN) o.no 0 fun i _ hi=>by
  have:=h.od i (by omega);have:=(h2 (o.oN i) (by omega)).1;unfold OfR.sN;omega).2
 have h6:=h.ok.T;have h7:=h.ok.no;rw[he] at h5;have h8:o.no*o.T<=6*2000:=A3 h7 h6;omega
inductive Way (on:List NdR)(p:Nat->Nat):Int->Int->Prop
 |fin {k:Int} (h:k<0):Way on p k k
 |node {k:Nat} {b:NdR} {e:Int} (h:on[k]? =Ap b) (h2:Way on p (b.kids.getD (p b.var.toNat) 0) e):Way on p (k:Int) e
theorem l1f {α:Type}[DecidableEq α]{P:α->Prop}{l:List α}{x:α}(h: ∀b,b∈l->P b)(hx:P x): ∀b,b∈AT l x->P b:=fun b hb=>by
 unfold AT at hb;split at hb
 ·exact h b hb
 ·simp at hb;rcases hb with hb|rfl
  ·exact h b hb
  ·exact hx
theorem l1c {α:Type}{l m:List α}(h:l<+:m){i:Nat}{x:α}(hx:l[i]? =Ap x):m[i]? =Ap x:=by obtain⟨t,rfl⟩:=h;rw[A4 (AF.1 hx).1];exact hx
theorem l0r {α:Type}{l m:List α}(h:l<+:m){i:Nat}(hi:i<l.length){x:α}(hx:m[i]? =Ap x):l[i]? =Ap x:=by obtain⟨t,rfl⟩:=h;rw[A4 hi] at hx;exact hx
theorem Way.mono {on on':List NdR}(h:on<+:on'){p:Nat->Nat}{k e:Int}(w:Way on p k e):Way on' p k e:=by
 induction w with
 |fin h=>exact .fin h
 |node h1 _ ih=>exact .node (l1c h h1) ih
section
variable {C:Nat->VaR} {sz od str:Nat->Nat} {no:Nat}
def okR (od:Nat->Nat)(no:Nat)(s:AE)(r:Nat)(t:Int):Prop:=(t<0->(-1-t).toNat<s.oe.length)/\(0<=t-> ∃b p,s.on[t.toNat]? =Ap b/\r<=p/\p<no/\b.var=(od p:Int))
def okB (sz od:Nat->Nat)(no:Nat)(s:AE)(i:Nat)(b:NdR):Prop:= ∃p,p<no/\b.var=(od p:Int)/\b.kids.length=sz (od p)/\ ¬Ax b.kids/\ ∀k,k∈b.kids->k<i/\okR od no s (p+1) k
structure Inv (sz od:Nat->Nat)(no:Nat)(s:AE):Prop where
 oe:s.oe.Nodup
 on:s.on.Nodup
 ok: ∀i b,s.on[i]? =Ap b->okB sz od no s i b
structure Pre (s t:AE):Prop where
 oe:s.oe<+:t.oe
 on:s.on<+:t.on
theorem Pre.refl (s:AE):Pre s s:=⟨AQ _,AQ _⟩
theorem Pre.trans {s t u:AE}(h:Pre s t)(k:Pre t u):Pre s u:=⟨h.oe.trans k.oe,h.on.trans k.on⟩
theorem okR.mono {s s':AE}(h:Pre s s'){r r':Nat}(hr:r'<=r){t:Int}(k:okR od no s r t):okR od no s' r' t:=
 ⟨fun h0=>Nat.lt_of_lt_of_le (k.1 h0) h.oe.length_le,fun h0=>by
   obtain⟨b,p,h1,h2,h3,h4⟩:=k.2 h0;exact⟨b,p,l1c h.on h1,by omega,h3,h4⟩⟩
theorem okR.lt {s:AE}{r:Nat}{t:Int}(k:okR od no s r t):t<s.on.length:=by
 rcases A8 t 0 with h|h
 ·omega
 ·obtain⟨b,p,h1,_⟩:=k.2 h;have:=(AF.1 h1).1;omega
def rgs (s:AE):List Int×List Int:=(AY s.on.length,AY s.oe.length)
theorem l1p {N:List NdR}{f:Nat}{t:Int}{n e:Nat}(ht:t<f)(h1:t<n)(h2:t<0->(-1-t).toNat<e):AX N f t (AY n,AY e)=(AY n,AY e):=by
 rcases A8 t 0 with h|h
 ·have:=h2 h;have hm:(-1-t)∈AY e:=Ai.2 ⟨by omega,by omega⟩;cases f with
  |zero=>rw[AX,if_pos h];simp[h5k,hm]
  |succ f=>rw[AX,if_pos h];simp[h5k,hm]
 ·cases f with
  |zero=>omega
  |succ f=>rw[AX,if_neg (by omega),if_pos (Ai.2 ⟨h,h1⟩)]
def l2d (od str:Nat->Nat)(p:Nat->Nat):Nat->Nat->Nat
 |0,_=>0
 |m+1,r=>p (od r)*str (od r)+l2d od str p m (r+1)
structure Res (C:Nat->VaR)(sz od str:Nat->Nat)(no m r num:Nat)(s s':AE)(t:Int):Prop where
 pre:Pre s s'
 inv:Inv sz od no s'
 new: ∀i b,s.on.length<=i->s'.on[i]? =Ap b-> ∃p,r<=p/\p<no/\b.var=(od p:Int)
 ref:okR od no s' r t
 srch: ∀N f,s'.on<+:N->t<(f:Nat)->AX N f t (rgs s)=rgs s'
 way: ∀p:Nat->Nat,(∀i,i<no->p (od i)<sz (od i))-> ∃e:Int,e<0/\Way s'.on p t e/\s'.oe[(-1-e).toNat]? =Ap (C (num+l2d od str p m r))
theorem l2s {s:AE}(hs:Inv sz od no s)(num r:Nat):Res C sz od str no 0 r num s (AN s (C num)).1 (AN s (C num)).2:=by
 have hle:=Law.at1_le s.oe (C num);have hpre:Pre s (AN s (C num)).1:=⟨Law.onceE_pre _ _,AQ _⟩;have hget:(AT s.oe (C num))[AK s.oe (C num)]? =Ap (C num):=by
  by_cases h:C num∈s.oe
  ·rw[Ac h];obtain⟨i,hi⟩:=Ag h;rw[Law.at1_mem hs.oe hi];exact hi
  ·rw[Ab h,Aj h];simp
 have hlt:AK s.oe (C num)<(AT s.oe (C num)).length:=(AF.1 hget).1;refine⟨hpre,⟨Law.nodup_onceE hs.oe _,hs.on,fun i b hb=> ?_⟩,fun i b hi hb=> ?_,⟨fun _=> ?_,fun h=> ?_⟩,fun N f _ hf=> ?_,fun p _=> ?_⟩
 ·obtain⟨p,h1,h2,h3,h4,h5⟩:=hs.ok i b hb;exact⟨p,h1,h2,h3,h4,fun k hk=>⟨(h5 k hk).1,(h5 k hk).2.mono hpre (AB _)⟩⟩
 ·have:=(AF.1 hb).1;simp only[AN] at this;omega
 ·simp only[AN];rw[show (-1-(-1-(AK s.oe (C num):Int))).toNat=AK s.oe (C num) by omega];exact hlt
 ·simp only[AN] at h;omega
 ·simp only[AN,rgs];have hneg: -1-(AK s.oe (C num):Int)<0:=by omega
  have e1: -1-(-1-(AK s.oe (C num):Int))=(AK s.oe (C num):Int):=by omega
  have key:h5k (AY s.oe.length) (AK s.oe (C num):Int)=AY (AT s.oe (C num)).length:=by
   by_cases h:C num∈s.oe
   ·obtain⟨i,hi⟩:=Ag h;have hi2:=(AF.1 hi).1;rw[Ac h,Law.at1_mem hs.oe hi];have hm:(i:Int)∈AY s.oe.length:=Ai.2 ⟨by omega,by omega⟩;simp[h5k,hm]
   ·rw[Ab h,Aj h];have hm: ¬(s.oe.length:Int)∈AY s.oe.length:=fun h=>by have:=Ai.1 h;omega
    simp[h5k,hm,BK]
  cases f with
  |zero=>rw[AX,if_pos hneg,e1,key]
  |succ f=>rw[AX,if_pos hneg,e1,key]
 ·refine⟨-1-(AK s.oe (C num):Int),by omega,.fin (by simp only[AN];omega),?_⟩;simp only[AN,l2d,Nat.add_zero];rw[show (-1-(-1-(AK s.oe (C num):Int))).toNat=AK s.oe (C num) by omega];exact hget
theorem l2r {k:Nat}(U:Nat->Int)(x:Int):L k (h4l U k x)=L k U:=h4v fun j hj=>by simp[h4l,show j≠k by omega]
structure l3k (C:Nat->VaR)(sz od str:Nat->Nat)(no m r num st k:Nat)(s s':AE)(U:Nat->Int):Prop where
 pre:Pre s s'
 inv:Inv sz od no s'
 new: ∀i b,s.on.length<=i->s'.on[i]? =Ap b-> ∃p,r<=p/\p<no/\b.var=(od p:Int)
 ref: ∀j,j<k->okR od no s' r (U j)
 srch: ∀N f,s'.on<+:N->(∀j,j<k->U j<(f:Nat))->(L k U).foldl (fun s k=>AX N f k s) (rgs s)=rgs s'
 way: ∀j,j<k-> ∀p:Nat->Nat,(∀i,i<no->p (od i)<sz (od i))-> ∃e:Int,e<0/\Way s'.on p (U j) e/\s'.oe[(-1-e).toNat]? =Ap (C (num+j*st+l2d od str p m r))
theorem l1w {g:Nat->AE->AE×Int}{m r num st:Nat}(hg: ∀k t,Inv sz od no t->Res C sz od str no m r (num+k*st) t (g k t).1 (g k t).2){s:AE}(hs:Inv sz od no s):
 ∀k,l3k C sz od str no m r num st k s (l0j g k s).1 (l0j g k s).2
 |0=>⟨Pre.refl _,hs,fun i b hi hb=>by have:=(AF.1 hb).1;simp only[l0j] at this;omega,fun j hj=>by omega,fun N f _ _=>by simp[l0j,L],fun j hj=>by omega⟩
 |k+1=>by
  have ih:=l1w hg hs k;have h:=hg k (l0j g k s).1 ih.inv;rw[l0j];generalize l0j g k s=F at ih h;generalize g k F.1=G at h;simp only;refine⟨ih.pre.trans h.pre,h.inv,fun i b hi hb=> ?_,fun j hj=> ?_,fun N f hN hf=> ?_,fun j hj p hp=> ?_⟩
  ·by_cases hl:i<F.1.on.length
   ·exact ih.new i b hi (l0r h.pre.on hl hb)
   ·exact h.new i b (by omega) hb
  ·simp only[h4l];split
   ·exact h.ref
   ·exact (ih.ref j (by omega)).mono h.pre (AB _)
  ·rw[h7q,l2r,List.foldl_append,ih.srch N f (h.pre.on.trans hN) fun j hj=>by have:=hf j (by omega);simpa [h4l,show j≠k by omega] using this];have hk:=hf k (by omega);simp only[h4l,if_true,Af,BI] at hk⊢;exact h.srch N f hN hk
  ·simp only[h4l];split
   ·rename_i e;subst e;exact h.way p hp
   ·obtain⟨e,h1,h2,h3⟩:=ih.way j (by omega) p hp;exact⟨e,h1,h2.mono h.pre.on,l1c h.pre.oe h3⟩
theorem l0q {α β:Type}{g:α->β->α}{x:α}: ∀{l:List β},(∀b,b∈l->g x b=x)->l.foldl g x=x
 |[],_=>rfl
 |b::l,h=>by rw[Af,h b (by simp),l0q fun c hc=>h c (by simp[hc])]
theorem l2m {m r num:Nat}{s S:AE}{U:Nat->Int}(hs:Inv sz od no s)(hr:r<no)(hinj: ∀i j,i<no->j<no->od i=od j->i=j)(hw:1<=sz (od r))(h:l3k C sz od str no m (r+1) num (str (od r)) (sz (od r)) s S U)
 (h1: ∀N f,S.on<+:N->U 0<(f:Nat)->(∀j,j<sz (od r)->U j=U 0)->AX N f (U 0) (rgs s)=rgs S):
 Res C sz od str no (m+1) r num s (AM S ⟨(od r:Int),L (sz (od r)) U⟩).1 (AM S ⟨(od r:Int),L (sz (od r)) U⟩).2:=by
 have hwayC: ∀p:Nat->Nat,(∀i,i<no->p (od i)<sz (od i))-> ∃e:Int,e<0/\Way S.on p (U (p (od r))) e/\S.oe[(-1-e).toNat]? =Ap (C (num+l2d od str p (m+1) r)):=fun p hp=>by obtain⟨e,a,b,c⟩:=h.way (p (od r)) (hp r hr) p hp;exact⟨e,a,b,by rw[l2d,<-An];exact c⟩
 by_cases hf:Ax (L (sz (od r)) U)
 ·have hU: ∀j,j<sz (od r)->U j=U 0:=(i1r hw).1 hf;have e:AM S ⟨(od r:Int),L (sz (od r)) U⟩=(S,U 0):=by rw[AM,if_pos hf,l1o hw]
  rw[e];refine⟨h.pre,h.inv,fun i b hi hb=> ?_,(h.ref 0 (by omega)).mono (Pre.refl _) (by omega),fun N f hN ht=>h1 N f hN ht hU,fun p hp=> ?_⟩
  ·obtain⟨p,a,b,c⟩:=h.new i b hi hb;exact⟨p,by omega,b,c⟩
  ·obtain⟨e,a,b,c⟩:=hwayC p hp;exact⟨e,a,by rw[hU _ (hp r hr)] at b;exact b,c⟩
 obtain⟨b,hb⟩: ∃b:NdR,b=⟨(od r:Int),L (sz (od r)) U⟩:=⟨_,rfl⟩;have e:AM S ⟨(od r:Int),L (sz (od r)) U⟩=({S with on:=AT S.on b},(AK S.on b:Int)):=by rw[AM,if_neg hf,hb]
 rw[e];have hbv:b.var=(od r:Int):=by rw[hb]
 have hbk:b.kids=L (sz (od r)) U:=by rw[hb]
 have hfb: ¬Ax b.kids:=by rw[hbk];exact hf
 have hway: ∀z:Nat,(∀on':List NdR,S.on<+:on'->on'[z]? =Ap b-> ∀p:Nat->Nat,(∀i,i<no->p (od i)<sz (od i))-> ∃e:Int,e<0/\Way on' p z e/\S.oe[(-1-e).toNat]? =Ap (C (num+l2d od str p (m+1) r))):=fun z on' ho hz p hp=>by obtain⟨e,a,w,c⟩:=hwayC p hp;refine⟨e,a,.node hz ?_,c⟩;rw[hbv,hbk,AC,AU,h9t,if_pos (hp r hr)];exact w.mono ho
 by_cases hm:b∈S.on
 ·obtain⟨z,hz⟩:=Ag hm;have hzl:=(AF.1 hz).1;have ha:=Law.at1_mem h.inv.on hz;have hS:({S with on:=AT S.on b}:AE)=S:=by rw[Ac hm]
  rw[hS,ha];have hzs:z<s.on.length:=by apply Aw;intro hn;obtain⟨p,a1,a2,a3⟩:=h.new z b (by omega) hz;have:=hinj r p hr a2 (by omega);omega
  obtain⟨p,a1,a2,a3,a4,a5⟩:=hs.ok z b (l0r h.pre.on hzs hz);have hvis: ∀N f,S.on<+:N->(∀j,j<sz (od r)->U j<(f:Nat))->rgs s=rgs S:=fun N f hN hf=>by rw[<-h.srch N f hN hf,<-hbk];refine (l0q fun k hk=> ?_).symm;obtain⟨q1,q2⟩:=a5 k hk;refine l1p ?_ q2.lt q2.1;rw[hbk] at hk;obtain⟨j,hj,rfl⟩:=h6d.1 hk;exact hf j hj
  refine⟨h.pre,h.inv,fun i c hi hc=> ?_,⟨fun h=>by omega,fun _=>⟨b,r,by simpa using hz,AB _,hr,hbv⟩⟩,fun N f hN ht=> ?_,fun p hp=>hway z S.on (AQ _) hz p hp⟩
  ·obtain⟨p,a,b,c⟩:=h.new i c hi hc;exact⟨p,by omega,b,c⟩
  ·rw[<-hvis N S.on.length hN fun j hj=>(h.ref j hj).lt];exact l1p ht (by omega) (by omega)
 ·have ha:=Aj hm;rw[Ab hm,ha];have hp2:Pre S {S with on:=S.on++[b]}:=⟨AQ _,List.prefix_append _ _⟩;have hg:(S.on++[b])[S.on.length]? =Ap b:=by simp
  refine⟨h.pre.trans hp2,⟨h.inv.oe,?_,fun i c hc=> ?_⟩,fun i c hi hc=> ?_,⟨fun h=>by omega,fun _=>⟨b,r,by simp,AB _,hr,hbv⟩⟩,fun N f hN ht=> ?_,fun p hp=>hway _ _ hp2.on hg p hp⟩
  ·rw[List.nodup_append];exact⟨h.inv.on,by simp,fun x hx y hy=>by simp at hy;subst hy;exact fun e=>hm (e▸hx)⟩
  ·by_cases hl:i<S.on.length
   ·obtain⟨p,a1,a2,a3,a4,a5⟩:=h.inv.ok i c (l0r hp2.on hl hc);exact⟨p,a1,a2,a3,a4,fun k hk=>⟨(a5 k hk).1,(a5 k hk).2.mono hp2 (AB _)⟩⟩
   ·have hl2:=(AF.1 hc).1;simp at hl2;obtain rfl:i=S.on.length:=by omega
    rw[hg] at hc;obtain rfl:b=c:=by simpa using hc
    refine⟨r,hr,hbv,by rw[hbk,h3u],hfb,fun k hk=> ?_⟩;rw[hbk] at hk;obtain⟨j,hj,rfl⟩:=h6d.1 hk;exact⟨(h.ref j hj).lt,(h.ref j hj).mono hp2 (AB _)⟩
  ·by_cases hl:i<S.on.length
   ·obtain⟨p,a,q,d⟩:=h.new i c hi (l0r hp2.on hl hc);exact⟨p,by omega,q,d⟩
   ·have hl2:=(AF.1 hc).1;simp at hl2;obtain rfl:i=S.on.length:=by omega
    rw[hg] at hc;obtain rfl:b=c:=by simpa using hc
    exact⟨r,AB _,hr,hbv⟩
  ·obtain⟨f,rfl⟩: ∃g,f=g+1:=⟨f-1,by omega⟩;have hlen:=h.pre.on.length_le;have hfold:=h.srch N f (hp2.on.trans hN) fun j hj=>by have:=(h.ref j hj).lt;omega
   rw[AX,if_neg (by omega),if_neg (fun hq=>by have:=Ai.1 hq;omega),AC,l1c hN hg];simp only[hbk,hfold];simp[rgs,BK]
theorem l2f (hinj: ∀i j,i<no->j<no->od i=od j->i=j)(hsz: ∀i,i<no->1<=sz (od i)): ∀(m r num:Nat) (s:AE),r+m=no->Inv sz od no s->Res C sz od str no m r num s (ofW C sz od str m r num s).1 (ofW C sz od str m r num s).2
 |0,r,num,s,_,hs=>l2s hs num r
 |m+1,r,num,s,hr,hs=>by
  have hg: ∀k t,Inv sz od no t->Res C sz od str no m (r+1) (num+k*str (od r)) t (ofW C sz od str m (r+1) (num+k*str (od r)) t).1 (ofW C sz od str m (r+1) (num+k*str (od r)) t).2:=fun k t ht=>l2f hinj hsz m (r+1) _ t (by omega) ht;have hf:=fun k=>l1w hg hs k;have hw:=hsz r (by omega);rw[ofW];refine l2m hs (by omega) hinj hw (hf _) fun N f hN ht hU=> ?_;generalize hG:(fun k s=>ofW C sz od str m (r+1) (num+k*str (od r)) s)=G at hf hN ht hU⊢;have hmono: ∀k,1<=k->(l0j G k s).2 0=(l0j G 1 s).2 0:=fun k hk=>by
   induction k with
   |zero=>omega
   |succ k ih=>
    by_cases h:k=0
    ·subst h;rfl
    ·rw[l0j];simp only[h4l,show¬0=k by omega,if_false];exact ih (by omega)
  have hpre1: ∀k,1<=k->Pre (l0j G 1 s).1 (l0j G k s).1:=fun k hk=>by
   induction k with
   |zero=>omega
   |succ k ih=>
    by_cases h:k=0
    ·subst h;exact Pre.refl _
    ·have hp:=(hg k (l0j G k s).1 (hf k).inv).pre;rw[show ofW C sz od str m (r+1) (num+k*str (od r)) (l0j G k s).1=G k (l0j G k s).1 from congrFun (congrFun hG k) _] at hp;exact (ih (by omega)).trans hp
  have q1:=(hf 1).srch N f ((hpre1 _ hw).on.trans hN) fun j hj=>by
   obtain rfl:j=0:=by omega
   rw[<-hmono _ hw];exact ht
  have q2:=(hf (sz (od r))).srch N f hN fun j hj=>by rw[hU j hj];exact ht
  have q3:=(hf 1).ref 0 (by omega);rw[<-hmono _ hw] at q3;have e1:L 1 (l0j G 1 s).2=[(l0j G (sz (od r)) s).2 0]:=by simp[L,hmono _ hw]
  rw[e1] at q1;simp only[Af,BI] at q1;obtain⟨w,hw2⟩: ∃w,sz (od r)=w+1:=⟨sz (od r)-1,by omega⟩;have e2: ∃l:List Int,L (sz (od r)) (l0j G (sz (od r)) s).2=(l0j G (sz (od r)) s).2 0::l/\ ∀x,x∈l->x=(l0j G (sz (od r)) s).2 0:=by
   refine⟨L w fun i=>(l0j G (sz (od r)) s).2 (i+1),?_,fun x hx=> ?_⟩
   ·rw[hw2];simp[L,AO,Aq,AZ]
   ·obtain⟨i,hi,rfl⟩:=h6d.1 hx;exact hU _ (by omega)
  obtain⟨l,e3,e4⟩:=e2;rw[e3,Af,q1,l0q fun b hb=>by rw[e4 b hb];exact l1p ht q3.lt q3.1] at q2;rw[q1,q2]
theorem l3p:Inv sz od no s0:=⟨BH,BH,fun i b h=>by simp[s0] at h⟩
theorem l0y {P:VaR->Prop}{g:Nat->AE->AE×Int}{w:Nat}(hg: ∀k s,k<w->(∀v,v∈s.oe->P v)-> ∀v,v∈(g k s).1.oe->P v)(s:AE)(hs: ∀v,v∈s.oe->P v): ∀k,k<=w-> ∀v,v∈(l0j g k s).1.oe->P v
 |0,_=>hs
 |k+1,h=>hg k _ (by omega) (l0y hg s hs k (by omega))
theorem l1d {P:VaR->Prop}{T:Nat}(hP: ∀j,j<T->P (C j)): ∀(m r num:Nat) (s:AE),num+l0v sz od str m r<T->(∀v,v∈s.oe->P v)-> ∀v,v∈(ofW C sz od str m r num s).1.oe->P v
 |0,r,num,s,hn,hs=>l1f hs (hP num (by simpa [l0v] using hn))
 |m+1,r,num,s,hn,hs=>by
  have h1:=l0y (P:=P) (w:=sz (od r)) (g:=fun k s=>ofW C sz od str m (r+1) (num+k*str (od r)) s) (fun k t hk ht=>l1d hP m (r+1) _ t (by
   rw[l0v] at hn;have:k*str (od r)<=(sz (od r)-1)*str (od r):=AW _ (by omega);omega) ht) s hs (sz (od r)) (AB _)
  rw[ofW];unfold AM;split
  ·exact h1
  ·exact h1
end
def l0w (r:Nat->Int):Nat->Int
 |0=>0
 |k+1=>l0w r k+r k
theorem l1i {P:NdR->Prop}{g:Nat->AE->AE×Int}(hg: ∀k s,(∀b,b∈s.on->P b)-> ∀b,b∈(g k s).1.on->P b)(s:AE)(hs: ∀b,b∈s.on->P b): ∀k,∀b,b∈(l0j g k s).1.on->P b
 |0=>hs
 |k+1=>hg k _ (l1i hg s hs k)
theorem l2g {P:NdR->Prop}{C:Nat->VaR}{sz od str:Nat->Nat}: ∀(m r num:Nat) (s:AE),(∀i,r<=i->i<r+m-> ∀u,P ⟨(od i:Int),L (sz (od i)) u⟩)->(∀b,b∈s.on->P b)-> ∀b,b∈(ofW C sz od str m r num s).1.on->P b
 |0,r,num,s,_,hs=>hs
 |m+1,r,num,s,h,hs=>by
  have h1:=l1i (P:=P) (g:=fun k s=>ofW C sz od str m (r+1) (num+k*str (od r)) s) (fun k s hs=>l2g m (r+1) _ s (fun i h1 h2=>h i (by omega) (by omega)) hs) s hs (sz (od r));rw[ofW];unfold AM;split
  ·exact h1
  ·exact l1f h1 (h r (by omega) (by omega) _)
theorem l0t {f g:Nat->Int}: ∀{n:Nat},(∀j,j<n->f j=g j)->l0w f n=l0w g n
 |0,_=>rfl
 |n+1,h=>by rw[l0w,l0w,l0t fun j hj=>h j (by omega),h n (by omega)]
theorem OfR.full.kids {o:OfR}(h:o.full): ∀i,i<o.out.nn->o.out.nk i<=12:=by
 obtain⟨h1,h2,h3,h4,h5⟩:=h4s h.fr;have ha:=l2g (P:=fun b=>b.kids.length<=12) (C:=o.C) (sz:=o.sN) (od:=o.oN) (str:=o.str) o.no 0 0 s0 (fun i _ hi u=>by
  rw[h3u];have:=(h.od i (by omega)).1;have:=(h2 (o.oN i) (by omega)).2;unfold OfR.sN;omega) (by simp[s0])
 intro i hi;have hi:i<o.make.1.on.length:=hi;show (o.make.1.on.getD i ⟨0,[]⟩).kids.length<=12;refine ha _ ?_;show o.make.1.on.getD i ⟨0,[]⟩∈o.make.1.on;rw[AU,AR hi];exact Av hi
theorem l1x {sz pl:Nat->Int}{ns:Nat}: ∀m,m<=ns->h4w sz pl m*l0m sz ns (ns-m)=l0w (fun c=>pl c*l0m sz ns (ns-1-c)) m
 |0,_=>by simp[h4w,l0w]
 |m+1,h=>by have ih:=l1x (sz:=sz) (pl:=pl) (ns:=ns) m (by omega);obtain⟨q,hq⟩: ∃q,ns-m=q+1:=⟨ns-m-1,by omega⟩;rw[hq,l0m,show ns-1-q=m by omega] at ih;rw[h4w,l0w,<-ih,show ns-(m+1)=q by omega,show ns-1-m=q by omega,BP,Ao,BL (sz m)]
theorem l2c {f:Nat->Nat}: ∀n,l0w (fun c=>(f c:Int)) n=(((L n f).sum:Nat):Int)
 |0=>rfl
 |n+1=>by rw[l0w,l2c n,h7q,BC];simp
theorem l1q (od str:Nat->Nat)(p:Nat->Nat): ∀m r,l2d od str p m r=(L m fun i=>p (od (r+i))*str (od (r+i))).sum
 |0,r=>rfl
 |m+1,r=>by rw[l2d,l1q od str p m (r+1)];simp[L,AO,Aq,AZ,An,A7 1]
def dgN (pl:Nat->Int)(c:Nat):Nat:=(pl c).toNat
section
variable {o:OfR}
theorem OfR.full.inj (h:o.full): ∀i j,i<o.no->j<o.no->o.oN i=o.oN j->i=j:=fun i j hi hj e=>by
 rcases Nat.lt_trichotomy i j with h1|h1|h1
 ·exact absurd e ((h.od j hj).2 i h1)
 ·exact h1
 ·exact absurd e.symm ((h.od i hi).2 j h1)
theorem OfR.full.s1 (h:o.full): ∀i,i<o.no->1<=o.sN (o.oN i):=fun i hi=>by obtain⟨h1,h2,h3,h4,_⟩:=h4s h.fr;have:=(h2 (o.oN i) (by have:=(h.od i hi).1;omega)).1;unfold OfR.sN;omega
theorem OfR.full.odc (h:o.full){i:Nat}(hi:i<o.no):(o.oN i:Int)=o.od i:=by have:=(h.ok.od i hi).1;unfold OfR.oN;omega
theorem OfR.full.res (h:o.full):Res o.C o.sN o.oN o.str o.no o.no 0 0 s0 o.make.1 o.make.2:=l2f h.inj h.s1 o.no 0 0 s0 (by omega) l3p
theorem OfR.full.off (h:o.full)(hst:o.str=l0x o.sz o.ns){pl:Nat->Int}(hp: ∀j,j<o.ns->0<=pl j/\pl j<o.sz j):((l2d o.oN o.str (dgN pl) o.no 0:Nat):Int)=h4w o.sz pl o.ns:=by obtain⟨h1,h2,h3,h4,_⟩:=h4s h.fr;have hv:=l1x (sz:=o.sz) (pl:=pl) (ns:=o.ns) o.ns (AB _);rw[A6,l0m,Int.mul_one] at hv;rw[l1q,hv];simp only[Ar];rw[l1v h.od fun c=>dgN pl c*o.str c,h4,<-l2c];refine l0t fun c hc=> ?_;have h5:=(l1b h2 h3 (o.ns-1-c) (by omega)).1;have h6:=(hp c hc).1;rw[hst,Int.natCast_mul,l0x,dgN,Am h6,Am (by omega)]
theorem OfR.full.dgOk (h:o.full){pl:Nat->Int}(hp: ∀j,j<o.ns->0<=pl j/\pl j<o.sz j): ∀i,i<o.no->dgN pl (o.oN i)<o.sN (o.oN i):=fun i hi=>by obtain⟨h1,h2,h3,h4,_⟩:=h4s h.fr;have:=hp (o.oN i) (by have:=(h.od i hi).1;omega);unfold dgN OfR.sN;omega
theorem getD_some {α:Type}{l:List α}{i:Nat}{d:α}(hi:i<l.length):l[i]? =Ap (l.getD i d):=by rw[AU,AR hi];rfl
theorem l3a (b:NdR):NdR.mk b.var (L b.kids.length fun j=>b.kids.getD j 0)=b:=by rw[i0t b.kids 0]
theorem l2b {l:List Int}{j:Nat}(hj:j<l.length):l.getD j 0∈l:=by rw[AU,AR hj];exact Av _
theorem l2y (o:OfR):o.out.N=o.make.1.on:=by refine Eq.trans (h4v fun j hj=> ?_) (i0t o.make.1.on ⟨0,[]⟩);exact l3a _
theorem OfR.full.nd (h:o.full){i:Nat}(hi:i<o.out.nn): ∃p,p<o.no/\o.out.var i=o.od p/\o.out.nk i=o.sN (o.oN p)/\ ¬Ax (L (o.out.nk i) (o.out.kid i))/\ ∀j,j<o.out.nk i->o.out.kid i j<i/\okR o.oN o.no o.make.1 (p+1) (o.out.kid i j):=by
 have hi':i<o.make.1.on.length:=hi;obtain⟨p,h1,h2,h3,h4,h5⟩:=h.res.inv.ok i _ (getD_some (d:=⟨0,[]⟩) hi');refine⟨p,h1,by rw[<-h.odc h1];exact h2,h3,?_,fun j hj=>h5 _ ?_⟩
 ·have e:L (o.out.nk i) (o.out.kid i)=(o.make.1.on.getD i ⟨0,[]⟩).kids:=i0t _ 0;rw[e];exact h4
 ·have hj':j<(o.make.1.on.getD i ⟨0,[]⟩).kids.length:=hj;exact l2b hj'
theorem OfR.full.pos (h:o.full){p:Nat}(hp:p<o.no):pos o.od (o.od p) o.no 0=p:=
 h5n (AP _) (by omega) rfl fun l _ hl e=>by have:=h.inj l p (by omega) hp (by unfold OfR.oN;rw[e]);omega
theorem OfR.full.rank (h:o.full){r:Nat}(hr:r<=o.no){k:Int}(hk:okR o.oN o.no o.make.1 r k):r<=h4t o.out k:=by
 unfold h4t;split
 ·rename_i h0;obtain⟨b,p,h1,h2,h3,h4⟩:=hk.2 h0;have e:o.out.var k.toNat=o.od p:=by show (o.make.1.on.getD k.toNat ⟨0,[]⟩).var=_;rw[AU,h1,<-h.odc h3];exact h4
  rw[e];show r<=Run.pos o.od (o.od p) o.no 0;rw[h.pos h3];exact h2
 ·exact hr
theorem okR.isRef {r:Nat}{k:Int}(hk:okR o.oN o.no o.make.1 r k){n:Nat}(hn:k<n):isRef o.out k n:=by
 unfold Run.isRef;split
 ·exact hn
 ·have:=hk.1 (by omega);show-1-k<=(o.make.1.oe.length:Int)-1;omega
theorem OfR.full.loose (h:o.full)(hT:(o.T:Int)=prod o.sz o.ns)(hst:o.str=l0x o.sz o.ns)(hc: ∀j,j<o.T->a1i (o.C j)):h3x o.out:=by
 obtain⟨h1,h2,h3,h4,_⟩:=h4s h.fr;refine⟨fun i hi=> ?_,fun i hi=> ?_,okR.isRef h.res.ref h.res.ref.lt⟩
 ·have hi':i<o.make.1.oe.length:=hi;refine l1d (P:=a1i) hc o.no 0 0 s0 (h.span hT hst) (by simp[s0]) _ (List.mem_of_getElem? (getD_some (d:=⟨0,0⟩) hi'))
 ·obtain⟨p,a,b,c,_,e⟩:=h.nd hi;have h5:=h.ok.od p a;have h6:=h.odc a;refine⟨⟨⟨by rw[b];exact h5.1,by rw[b];show o.od p<=(o.ns:Int)-1;omega⟩,?_⟩,fun j hj=>⟨okR.isRef (e j hj).2 (e j hj).1,?_⟩⟩
  ·rw[b,c];show ((o.sz (o.oN p)).toNat:Int)=o.sz (o.od p).toNat;have:=(h2 (o.oN p) (by omega)).1;have e:(o.od p).toNat=o.oN p:=rfl;rw[e];omega
  ·have h7:=h.rank (by omega) (e j hj).2;have h8:h4t o.out i=p:=by unfold h4t;rw[if_pos (by omega),AC,b];exact h.pos a
   omega
theorem OfR.full.dia (h:o.full):h5e o.out:=by
 refine⟨?_,fun i hi=>⟨?_,?_⟩,?_⟩
 ·have:=h.res.inv.oe;have e:L o.out.ne o.out.en=o.make.1.oe:=i0t _ _;rw[<-e] at this;exact h8x.1 this
 ·obtain⟨p,a,b,c,d,e⟩:=h.nd hi;rw[<-i1r (by rw[c];exact h.s1 p a)];exact d
 ·have:=h.res.inv.on;rw[<-l2y] at this;have h2:=h8x.1 this i hi;exact fun k hk e=>h2 k hk (by show NdR.mk _ _=NdR.mk _ _;rw[e.1,e.2])
 ·have:=h.res.srch o.out.N (o.out.nn+1) (by rw[l2y];exact AQ _) (by have:=h.res.ref.lt;show o.make.2<((o.make.1.on.length+1:Nat):Int);omega);exact this
theorem Way.wayE (h:o.full)(hl:h3x o.out){pl:Nat->Int}(hp:i3i o.out pl){k e:Int}(w:Way o.make.1.on (dgN pl) k e)(hk:k<o.out.nn):wayE o.out pl k=e:=by
 induction w with
 |fin h=>exact h4c h
 | @node k b e h1 _ ih=>
   have hk':k<o.out.nn:=by omega
   rw[h4x hl hp hk'];obtain⟨p,a,hv,c,d,f⟩:=h.nd hk';have hb:o.make.1.on.getD k ⟨0,[]⟩=b:=by rw[AU,h1];rfl
   have hv2:o.out.var k=b.var:=by show (o.make.1.on.getD k ⟨0,[]⟩).var=_;rw[hb]
   have e1:o.out.kid k (pl (o.out.var k).toNat).toNat=b.kids.getD (dgN pl b.var.toNat) 0:=by show (o.make.1.on.getD k ⟨0,[]⟩).kids.getD _ 0=_;rw[hb,hv2];rfl
   have hd:=(h5q hl hp hk').2.1;have hf:=(f (pl (o.out.var k).toNat).toNat (by omega)).1;rw[e1] at hf;rw[e1];exact ih (by omega)
theorem OfR.full.cell (h:o.full)(hT:(o.T:Int)=prod o.sz o.ns)(hst:o.str=l0x o.sz o.ns)(hc: ∀j,j<o.T->a1i (o.C j)){i:Nat}(hi:i<o.T):o.out.cell i=o.C i:=by
 obtain⟨h1,h2,h3,h4,_⟩:=h4s h.fr;obtain⟨hp,hv⟩:=h5s (sz:=o.sz) (n:=o.ns) (fun j hj=>(h2 j hj).1) i (by rw[<-hT];exact As.2 hi);obtain⟨e,a,b,c⟩:=h.res.way (dgN (h5j o.sz o.ns i)) (h.dgOk hp);have ho:=h.off hst hp;rw[hv] at ho;have ho:l2d o.oN o.str (dgN (h5j o.sz o.ns i)) o.no 0=i:=by omega
 rw[ho,Ar] at c;have hw:=Way.wayE h (h.loose hT hst hc) (pl:=h5j o.sz o.ns i) hp b h.res.ref.lt;show o.make.1.oe.getD (-1-wayE o.out (h5j o.sz o.ns i) o.out.root).toNat ⟨0,0⟩=_;have e1:wayE o.out (h5j o.sz o.ns i) o.out.root=e:=hw;rw[e1,AU,c];rfl
theorem OfR.full.diOk (h:o.full)(hT:(o.T:Int)=prod o.sz o.ns)(hst:o.str=l0x o.sz o.ns)(hc: ∀j,j<o.T->a1i (o.C j))(hs:o.T<=1000):i6l o.out:=by refine⟨h.fr,?_,h.loose hT hst hc,h.dia⟩;have hg:=(l0s (C:=o.C) (str:=o.str) (sz:=o.sN) (od:=o.oN) o.no 0 0 s0 fun j _ hj=>h.s1 j (by omega)).1.on.2;have hn:=(l0n (sz:=o.sN) (od:=o.oN) o.no 0 fun i _ hi=>h.s1 i (by omega)).2;rw[(h.bounds hT).1] at hn;have h6:=h.ok.no;have:o.no*o.T<=6*1000:=A3 h6 hs;have e:s0.on.length=0:=rfl;show o.make.1.on.length<=6000;unfold OfR.make;omega
theorem OfR.full.fit (h:o.full)(hT:(o.T:Int)=prod o.sz o.ns):o.out.fit:=by
 have hg:=(l0s (C:=o.C) (str:=o.str) (sz:=o.sN) (od:=o.oN) o.no 0 0 s0 fun j _ hj=>h.s1 j (by omega)).1;obtain⟨b1,b2⟩:=h.bounds hT;have q1:=hg.oe.2;have q2:=hg.on.2;have q3:=h.ok.T;have e:s0.on.length=0:=rfl;have e2:s0.oe.length=0:=rfl;have hne:o.make.1.oe.length<=2000:=by unfold OfR.make;omega
 have hnn:o.make.1.on.length<=12000:=by unfold OfR.make;omega
 have key: ∀r k,okR o.oN o.no o.make.1 r k->c5t k:=fun r k hk=>by
  have h1:=hk.lt;have h2:=hk.1;unfold c5t;rcases A8 k 0 with h0|h0
  ·have:=h2 h0;omega
  ·omega
 refine⟨?_,?_,Ae hne (by omega),Ae hnn (by omega),fun i hi=>Ae (h.kids i hi) (by omega),fun i hi j hj=> ?_,key _ _ h.res.ref⟩
 ·exact Ae h.ok.ns (by omega)
 ·exact Ae h.ok.no (by omega)
 ·obtain⟨p,a,b,c,d,f⟩:=h.nd hi;exact key _ _ (f j hj).2
end
def ofD (ns:Nat)(sz:Nat->Int)(no:Nat)(od:Nat->Int)(T:Nat)(C:Nat->VaR):DiR:=OfR.out ⟨ns,sz,no,od,T,C,l0x sz ns⟩
theorem l4i {d:DiR}(h:i6l d):h5o d=0:=by
 have h1:h3z d=0:=by unfold h3z;rw[if_neg (fun h'=>h' h.fr),if_neg (by have:=h.nn;omega),if_pos h.loose]
 unfold h5o;rw[if_neg (fun h'=>h' h1),if_pos h.dia]
section
variable {ns no T:Nat} {sz od:Nat->Int} {C:Nat->VaR}
theorem l3f {o:OfR}(h:o.full)(hT:(o.T:Int)=prod o.sz o.ns)(hst:o.str=l0x o.sz o.ns):a0j AD AG 40 [isl o.ns o.sz,isl o.no o.od,vsl o.T o.C] o.out.av:=by
 obtain⟨b1,b2⟩:=h.bounds hT;have hsp:=h.span hT hst;have hTb:=h.ok.T;refine l3i o h.ok _ _ ?_;refine l3b o h 0 o.no 0 0 (fun _=>0) s0 p00 (by omega) hsp (fun i hi=>⟨BO _,by have:=(h.ok.sz i hi).1;omega⟩) (fun i _ _=>rfl) ?_ ⟨rfl,rfl,by simp[p00]⟩ (by simp[s0];omega) (by simp[s0];omega);have: ∀m,j5f o.sz (fun _=>0) m=0:=fun m=>by
  induction m with
  |zero=>rfl
  |succ m ih=>rw[j5f,ih];simp
 exact this _
theorem l3n (hfr:h4e ns no sz od=0)(hT:(T:Int)=prod sz ns)(hc: ∀i,i<T->a1i (C i)/\0<=(C i).fault):a0j AD AG 40 [isl ns sz,isl no od,vsl T C] (ofD ns sz no od T C).av:=
 l3f (l2h hfr hT hc) hT rfl
theorem l2x (hfr:h4e ns no sz od=0)(hT:(T:Int)=prod sz ns)(hT3:T<=1000)(hc: ∀i,i<T->a1i (C i)/\0<=(C i).fault):
 i6l (ofD ns sz no od T C)/\(ofD ns sz no od T C).fit/\(∀i,i<T->(ofD ns sz no od T C).cell i=C i)/\ ∀j,j<(ofD ns sz no od T C).ne->0<=((ofD ns sz no od T C).en j).fault:=by
 have h:=l2h hfr hT hc;have hk: ∀j,j<T->a1i (C j):=fun j hj=>(hc j hj).1;refine⟨h.diOk hT rfl hk hT3,h.fit hT,fun i hi=>h.cell hT rfl hk hi,fun j hj=> ?_⟩;have hsp:=h.span hT rfl;have he:=l1d (C:=C) (sz:=OfR.sN ⟨ns,sz,no,od,T,C,l0x sz ns⟩) (od:=OfR.oN ⟨ns,sz,no,od,T,C,l0x sz ns⟩) (str:=l0x sz ns) (P:=fun v=>0<=v.fault) (T:=T) (fun j hj=>(hc j hj).2) no 0 0 s0 hsp (by simp[s0]);have hj:j<(OfR.make ⟨ns,sz,no,od,T,C,l0x sz ns⟩).1.oe.length:=hj;refine he _ ?_;show (OfR.make ⟨ns,sz,no,od,T,C,l0x sz ns⟩).1.oe.getD j ⟨0,0⟩∈(OfR.make ⟨ns,sz,no,od,T,C,l0x sz ns⟩).1.oe;rw[List.getD_eq_getElem?_getD,AR hj];exact Av hj
end
def l1y (b:Bool):VaR:=⟨0,if b=Ak then 1 else 0⟩
theorem l3e (b:Bool):a0j AD AG 93 [bool b] (l1y b).av:=by
 refine a0k AJ okP l3r _ rfl fun E Sg hbs hS=> ?_;cases b
 ·cbv;exact Az (.cons (a6c rfl) (.cons (a6c rfl) .nil))
 ·cbv;exact Az (.cons (a6c rfl) (.cons (a6c rfl) .nil))
noncomputable section
def l5b:Qx [0x8000c040b09cd0a8a05062403060005c88006ff21030805ff0701368703058207ff2300fafafafa0590018f03ff2205010401011e01050601070502010103,0x8bfc1c1b19032886051a810301831881030083270e06ffc90dc00eff060dff931617028bfc100f02841511025f861402821312028406050006050fff9a010503,0xb1d0405]:=⟨_,by cbv⟩
def l5i:XFn:=l5b.1
def l5d:Qx [0x8000a040907cd088a03042403060005c88004ff21030603ff0501368701058205ff2300fafafafa0590008f2205010201011c01050601070500060502010104,0x19170328860318810101831681010083270c04ffc90bc00cff040bff931415028bfc0e0d028413015d8612014485110282100f0284040304030dff9a01050300,0xb1b02058bfc1a]:=⟨_,by cbv⟩
def l5k:XFn:=l5d.1
end
theorem l4u:a0q AD 55 l5i:=fk Tryz.func55 (by kernel_rfl)
theorem l4y:a0q AD 56 l5k:=fk Tryz.func56 (by kernel_rfl)
theorem l4o (n:Int):a0j AD AG 128 [int n] (.agg [u8 0,int n]):=by refine a0k AJ okP l4t _ rfl fun E Sg hbs hS=> ?_;cbv;exact Az (.cons (a6c rfl) (.cons (AA _) .nil))
theorem l4l (b:Bool):a0j AD AG 129 [bool b] (l1y b).av:=by
 have h0:=l4o (AH 0);have h1:=l4o (AH 1);refine a0k AJ okP l4w _ rfl fun E Sg hbs hS=> ?_;cases b
 ·cbv;refine a0v hS _ h0 ?_;cbv;exact AA _
 ·cbv;refine a0v hS _ h1 ?_;cbv;exact AA _
theorem l4v (b:Bool):a0j AD AG 95 [.d (.int .u8 (.v (AH 6))),(l1y b).av] (l1y (!b)).av:=by
 have h:=l4l (!b);refine a0k AJ okP l5g _ rfl fun E Sg hbs hS=> ?_;have e:=b2k hS;have g3:Sg.ieq (AH 6) (AH 5)=AG:=by rw[e.ieq];rfl
 cases b
 ·have g1:Sg.ieq 0 (AH 0)=Ak:=by rw[e.ieq];rfl
  have g2:Sg.ilt (AH 0) 0=AG:=by rw[e.ilt];rfl
  cbv;simp only[g2];cbv;simp only[g3];cbv;simp only[g1];refine a0v hS _ h ?_;cbv;exact AA _
 ·have g1:Sg.ieq 1 (AH 0)=AG:=by rw[e.ieq];rfl
  have g2:Sg.ilt (AH 0) 0=AG:=by rw[e.ilt];rfl
  cbv;simp only[g2];cbv;simp only[g3];cbv;simp only[g1];refine a0v hS _ h ?_;cbv;exact AA _
theorem l4k (d:DiR)(hd:i6l d)(hf:d.fit){T:Nat}(hT:(T:Int)=prod d.sz d.ns):a1h AD 54 [d.av] [] (fun pg v h'=>pg=[]/\v= .msl 0 2 Ah T AG/\h'=[.arr 2 T fun i=>(d.cell i).row]):=by
 obtain⟨h1,h2,h3,h4,_⟩:=h4s hd.fr;have hle:h3z d=0:=by unfold h3z;rw[hd.fr];simp[hd.loose,show¬6000<d.nn by have:=hd.nn;omega]
 have h84:=h5v d hf 0 hle;have hT2:T<=2000:=At.1 (by rw[<-hT] at h3;exact h3);have h52:=i4b (n:=d.ns) (by omega) d.sz h2 (T:Int) (by rw[hT];omega);have hpl: ∀p,p<T->i2j d.sz (h5j d.sz d.ns p) d.ns/\h4w d.sz (h5j d.sz d.ns p) d.ns=p:=fun p hp=>h5s (fun j hj=>(h2 j hj).1) p (by rw[<-hT];exact As.2 hp);have h111:=fun p hp=>i2g (ns:=d.ns) (by omega) d.sz (h5j d.sz d.ns p) h2 h3 (hpl p hp).1 (p:Int) (hpl p hp).2;have h110:=fun p (hp:p<T)=>i6q d hd.loose hf (h5j d.sz d.ns p) (hpl p hp).1 (d.cell p).fault (d.cell p).n rfl;clear hpl h1 h2 h3 h4 hle hd hf hT;obtain⟨Q,hQ⟩: ∃Q:Nat->Nat->Int,∀p,h5j d.sz d.ns p=Q p:=⟨_,fun _=>rfl⟩;simp only[hQ] at h111 h110;clear hQ;obtain⟨cell,hcell⟩: ∃cell,d.cell=cell:=⟨_,rfl⟩;rw[hcell] at h110⊢;clear hcell;obtain⟨ns,sz,no,od,ne,en,nn,var,nk,kid,root⟩:=d;simp only at h84 h52 h111 h110;refine a1h.own0 (h3w AJ okP i9p rfl fun E Sg hb hS F hF=> ?_);have hb0:E.base=0:=hb;have e:=b2k hS;cbv;refine a0v hS _ h84 ?_;cbv;simp only[e.ieq,e.bnot];cbv;refine e4p AJ okP hS (fun p=>p<=T) (fun p=>T-p)
  (fun p=>⟨b5r [(1,.ptr 0 0),(3,.msl 1 2 Ah p AG),(4,int p)] 25,[.var [isl ns sz,isl no od,vsl ne en,bsl nn var nk kid,int root],.arr 2 p fun i=>(cell i).row],[1]⟩) 0 (by omega) ?_ ?_
 ·exact (b4w.gt 3 2 (fun _=>[]) rfl).trans (b4w.le (a4c rfl ⟨AA _,AA _,a6c rfl,trivial⟩ (.cons (.refl _) (.cons (A9 rfl fun j hj=>by omega) (.nil _))) (by rw[hb0];exact AP _) (.inr rfl) rfl))
 ·intro p hp N hN;cbv;refine a0v hS _ h52 ?_;cbv;split
  ·rename_i h;have hlt:p<T:=As.1 (b3h hS h);cbv;refine a0v hS _ (h111 p hlt) ?_;cbv;refine a1g hS (c3d hS) ?_;refine a0v hS _ (h110 p hlt) ?_;cbv;refine a1g hS trivial (a1g hS (f1i hS (by omega)) (a1g hS (e1n hS (by omega)) ?_));exact hN (p+1) _ hlt (by omega) (b4w.le (a4c rfl ⟨AA _,d8n hS,b2s hS,trivial⟩ (.cons (.refl _) (.cons (d7h hS (fun j hj=> .refl _) (.refl _)) (.nil _))) (by rw[hb0];exact AP _) (.inr rfl) rfl))
  ·rename_i h;have hin:p=T:=by have:=At.1 (b3r hS h);omega
   subst hin;cbv;exact⟨[],by simp,hF (a4k.same _) (AA _) (by simp) (.inr rfl) ⟨rfl,1,rfl,rfl⟩⟩
theorem l4p (d:DiR)(hd:i6l d)(hf:d.fit){T:Nat}(hT:(T:Int)=prod d.sz d.ns)(hT3:T<=1000000){b:Nat->Bool}(hb: ∀p,b p=Ak↔d.cell p=⟨0,1⟩){R:DiR}(h40:a0j AD AG 40 [isl d.ns d.sz,isl d.no d.od,vsl T fun p=>l1y (b p)] R.av):
 a0j AD AG 56 [d.av] R.av:=by
 have h54:=l4k d hd hf hT;have h68:=fun p=>i6e (d.cell p) (b p) (hb p);have h93:=fun p=>l3e (b p);obtain⟨OV,hOV⟩: ∃f:Nat->Int,∀p,(l1y (b p)).n=f p:=⟨_,fun _=>rfl⟩;have hrow: ∀p,(l1y (b p)).row=[.int .u8 (.v 0),.int .i64 (.v (OV p))]:=fun p=>by rw[<-hOV];rfl
 have hav: ∀p,(l1y (b p)).av= .agg [u8 0,int (OV p)]:=fun p=>by rw[<-hOV];rfl
 unfold vsl at h40;simp only[hrow] at h40;simp only[hav] at h93;clear hb hrow hav hOV hd hf hT;obtain⟨F1,hF1⟩: ∃f:Nat->Int,∀p,(d.cell p).fault=f p:=⟨_,fun _=>rfl⟩;obtain⟨F2,hF2⟩: ∃f:Nat->Int,∀p,(d.cell p).n=f p:=⟨_,fun _=>rfl⟩;simp only[VaR.row,VaR.av,hF1,hF2] at h54 h68;clear hF1 hF2;obtain⟨A,hA⟩: ∃A:Nat->Nat->Int,∀i j,A i j=if j<i then 0 else F1 j:=⟨fun i j=>_,fun _ _=>rfl⟩;obtain⟨B,hB⟩: ∃B:Nat->Nat->Int,∀i j,B i j=if j<i then OV j else F2 j:=⟨fun i j=>_,fun _ _=>rfl⟩;have hA0: ∀i,A i i=F1 i:=fun i=>by rw[hA,if_neg (AS i)]
 have hB0: ∀i,B i i=F2 i:=fun i=>by rw[hB,if_neg (AS i)]
 have hAB: ∀i j,j≠i->A (i+1) j=A i j/\B (i+1) j=B i j:=fun i j h=>by
  rw[hA,hA,hB,hB];by_cases h2:j<i
  ·rw[if_pos (by omega),if_pos h2,if_pos (by omega),if_pos h2];exact⟨rfl,rfl⟩
  ·rw[if_neg (by omega),if_neg h2,if_neg (by omega),if_neg h2];exact⟨rfl,rfl⟩
 have hABi: ∀i,A (i+1) i=0/\B (i+1) i=OV i:=fun i=>by rw[hA,hB,if_pos (by omega),if_pos (by omega)];exact⟨rfl,rfl⟩
 have hABz: ∀j,A 0 j=F1 j/\B 0 j=F2 j:=fun j=>by rw[hA,hB,if_neg (Ay j),if_neg (Ay j)];exact⟨rfl,rfl⟩
 have hABT: ∀j,j<T->A T j=0/\B T j=OV j:=fun j hj=>by rw[hA,hB,if_pos hj,if_pos hj];exact⟨rfl,rfl⟩
 clear hA hB;have h40':a0j AD AG 40 [isl d.ns d.sz,isl d.no d.od,.d (.sl 2 T fun j=>[.int .u8 (.v (A T j)),.int .i64 (.v (B T j))])] R.av:=h40.like (.cons (AA _) (.cons (AA _) (.cons (BJ rfl fun j hj=>by rw[(hABT j hj).1,(hABT j hj).2]) .nil)));clear h40;obtain⟨ns,sz,no,od,ne,en,nn,var,nk,kid,root⟩:=d;obtain⟨Rns,Rsz,Rno,Rod,Rne,Ren,Rnn,Rvar,Rnk,Rkid,Rroot⟩:=R;simp only at h40' h54;refine a0k AJ okP l4y _ rfl fun E Sg hbs hS=> ?_;have e:=b2k hS;have en2: ∀k:Nat,nat Sg (IX.v (AH k))=k:=fun k=>by show Sg.toNat (AH k)=k;rw[e.toNat];rfl
 cbv;refine h3v hS (a1h.frame h54 [] rfl rfl trivial) ?_;rintro pg v H' ⟨pg0,v0,h0,⟨rfl,rfl,rfl⟩,rfl,rfl,rfl⟩;cbv;refine e4p AJ okP hS (σ:=Nat×List Nat) (fun s=>s.1<=T) (fun s=>T-s.1)
  (fun s=>⟨b5r [(1,.ptr 0 0),(2,.ptr 1 0),(3,.msl 2 2 Ah T AG),(4,int s.1)] 28,[.var [isl ns sz,isl no od,vsl ne en,bsl nn var nk kid,int root],.var [.any,.any,.any,.any,.any],.arr 2 T fun j=>[.int .u8 (.v (A s.1 j)),.int .i64 (.v (B s.1 j))]],s.2⟩) (0,[]) (AP _) ?_ ?_
 ·refine b4w.le (a4c rfl ⟨AA _,AA _,AA _,a6c rfl,trivial⟩ (.cons (.refl _) (.cons (.var (.cons (Aa _) (.cons (Aa _) (.cons (Aa _) (.cons (Aa _) (.cons (Aa _) .nil)))))) (.cons (A9 rfl fun j hj=> ?_) (.nil _)))) (by rw[hbs];exact AP _) (.inl ⟨rfl,rfl⟩) (j7y _));rw[(hABz j).1,(hABz j).2];exact .refl _
 rintro⟨i,mv⟩ hi N hN;simp only at hi;cbv;split
 ·rename_i h;have hil:i<T:=d3r hS h;have q68:=h68 i;rw[<-hA0,<-hB0] at q68;have q93:=h93 i;have enA:Sg.toNat (AH i)=i:=by rw[e.toNat];rfl
  have q68':a0j AD Ak 68 [.agg [u8 (A (i,mv).1 (Sg.toNat (AH i))),int (B (i,mv).1 (Sg.toNat (AH i)))]] (bool (b i)):=by rw[enA];exact q68
  cbv;refine a1g hS (a5p hS hil) (a1g hS (l4n hS hil) ?_);refine a0v hS _ q68' ?_;cbv;refine a0v hS _ q93 ?_;cbv;refine a1g hS (a5p hS hil) (a1g hS (l4n hS hil) ?_);refine a1g hS (e1n hS (by omega)) ?_;refine hN (i+1,mv) _ hil (by simp only;omega) (b4w.le (a4c rfl ⟨AA _,AA _,AA _,b2s hS,trivial⟩ (.cons (.refl _) (.cons (.refl _) (.cons (h8j hS (fun j hj hne=> ?_) (fun _=> ?_)) (.nil _)))) (by rw[hbs];exact AP _) (.inl ⟨rfl,rfl⟩) (j7y _)))
  ·have hne':j≠i:=fun h=>hne (h.trans enA.symm);simp only;rw[(hAB i j hne').1,(hAB i j hne').2];exact .refl _
  ·show RL [.int .u8 (.v 0),.int .i64 (.v (OV i))] [.int .u8 (.v (A (i+1) (Sg.toNat (AH i)))),.int .i64 (.v (B (i+1) (Sg.toNat (AH i))))];rw[enA,(hABi i).1,(hABi i).2];exact .refl _
 ·rename_i h;have hin:i=T:=by have:=d3c hS h;omega
  subst hin;cbv;refine a1g hS (e8l hS (AB _)) ?_;refine a0v hS _ h40' ?_;cbv;exact AA _
theorem l4x (d:DiR)(hd:i6l d)(hf:d.fit){T:Nat}(hT:(T:Int)=prod d.sz d.ns)(hT3:T<=1000000){b:Nat->Bool}(hb: ∀p,p<T->d.cell p=l1y (b p)){R:DiR}(h40:a0j AD AG 40 [isl d.ns d.sz,isl d.no d.od,vsl T fun p=>l1y (!b p)] R.av):
 a0j AD AG 55 [.d (.int .u8 (.l (AH 6))),d.av] R.av:=by
 have h54:=l4k d hd hf hT;have h95:=fun p=>l4v (b p);obtain⟨OV,hOV⟩: ∃f:Nat->Int,∀p,(l1y (!b p)).n=f p:=⟨_,fun _=>rfl⟩;obtain⟨F2,hF2⟩: ∃f:Nat->Int,∀p,(l1y (b p)).n=f p:=⟨_,fun _=>rfl⟩;have hrow: ∀p,(l1y (!b p)).row=[.int .u8 (.v 0),.int .i64 (.v (OV p))]:=fun p=>by rw[<-hOV];rfl
 have hav: ∀p,(l1y (!b p)).av= .agg [u8 0,int (OV p)]:=fun p=>by rw[<-hOV];rfl
 have hav2: ∀p,(l1y (b p)).av= .agg [u8 0,int (F2 p)]:=fun p=>by rw[<-hF2];rfl
 have hcell: ∀p,p<T->(d.cell p).row=[.int .u8 (.v 0),.int .i64 (.v (F2 p))]:=fun p hp=>by rw[hb p hp,<-hF2];rfl
 unfold vsl at h40;simp only[hrow] at h40;simp only[hav,hav2] at h95;clear hb hrow hav hav2 hOV hF2 hd hf hT;obtain⟨CE,hCE⟩: ∃f:Nat->List DV,∀j,(d.cell j).row=f j:=⟨_,fun _=>rfl⟩;simp only[hCE] at h54 hcell;clear hCE;obtain⟨B,hB⟩: ∃B:Nat->Nat->Int,∀i j,B i j=if j<i then OV j else F2 j:=⟨fun i j=>_,fun _ _=>rfl⟩;have hB0: ∀i,B i i=F2 i:=fun i=>by rw[hB,if_neg (AS i)]
 have hAB: ∀i j,j≠i->B (i+1) j=B i j:=fun i j h=>by
  rw[hB,hB];by_cases h2:j<i
  ·rw[if_pos (by omega),if_pos h2]
  ·rw[if_neg (by omega),if_neg h2]
 have hABi: ∀i,B (i+1) i=OV i:=fun i=>by rw[hB,if_pos (by omega)]
 have hABz: ∀j,B 0 j=F2 j:=fun j=>by rw[hB,if_neg (Ay j)]
 have hABT: ∀j,j<T->B T j=OV j:=fun j hj=>by rw[hB,if_pos hj]
 clear hB;have h40':a0j AD AG 40 [isl d.ns d.sz,isl d.no d.od,.d (.sl 2 T fun j=>[.int .u8 (.v 0),.int .i64 (.v (B T j))])] R.av:=h40.like (.cons (AA _) (.cons (AA _) (.cons (BJ rfl fun j hj=>by rw[hABT j hj]) .nil)));clear h40;obtain⟨ns,sz,no,od,ne,en,nn,var,nk,kid,root⟩:=d;obtain⟨Rns,Rsz,Rno,Rod,Rne,Ren,Rnn,Rvar,Rnk,Rkid,Rroot⟩:=R;simp only at h40' h54;refine a0k AJ okP l4u _ rfl fun E Sg hbs hS=> ?_;have e:=b2k hS;cbv;refine h3v hS (a1h.frame h54 [] rfl rfl trivial) ?_;rintro pg v H' ⟨pg0,v0,h0,⟨rfl,rfl,rfl⟩,rfl,rfl,rfl⟩;cbv;refine e4p AJ okP hS (σ:=Nat×List Nat) (fun s=>s.1<=T) (fun s=>T-s.1)
  (fun s=>⟨b5r [(0,.d (.int .u8 (.l (AH 6)))),(3,.ptr 0 0),(4,.ptr 1 0),(5,.msl 2 2 Ah T AG),(6,int s.1)] 30,[.var [isl ns sz,isl no od,vsl ne en,bsl nn var nk kid,int root],.var [.any,.any,.any,.any,.any],.arr 2 T fun j=>[.int .u8 (.v 0),.int .i64 (.v (B s.1 j))]],s.2⟩) (0,[]) (AP _) ?_ ?_
 ·refine b4w.le (a4c rfl ⟨AA _,AA _,AA _,AA _,a6c rfl,trivial⟩ (.cons (.refl _) (.cons (.var (.cons (Aa _) (.cons (Aa _) (.cons (Aa _) (.cons (Aa _) (.cons (Aa _) .nil)))))) (.cons (A9 rfl fun j hj=> ?_) (.nil _)))) (by rw[hbs];exact AP _) (.inl ⟨rfl,rfl⟩) (j7y _));rw[hcell j hj,hABz j];exact .refl _
 rintro⟨i,mv⟩ hi N hN;simp only at hi;cbv;split
 ·rename_i h;have hil:i<T:=d3r hS h;have q95:=h95 i;rw[<-hB0] at q95;have enA:Sg.toNat (AH i)=i:=by rw[e.toNat];rfl
  have q95':a0j AD AG 95 [.d (.int .u8 (.v (AH 6))),.agg [u8 0,int (B (i,mv).1 (Sg.toNat (AH i)))]] (.agg [u8 0,int (OV i)]):=by rw[enA];exact q95
  cbv;refine a1g hS (a5p hS hil) (a1g hS (l4n hS hil) ?_);refine a0v hS _ q95' ?_;cbv;refine a1g hS (a5p hS hil) (a1g hS (l4n hS hil) ?_);refine a1g hS (e1n hS (by omega)) ?_;refine hN (i+1,mv) _ hil (by simp only;omega) (b4w.le (a4c rfl ⟨AA _,AA _,AA _,AA _,b2s hS,trivial⟩ (.cons (.refl _) (.cons (.refl _) (.cons (h8j hS (fun j hj hne=> ?_) (fun _=> ?_)) (.nil _)))) (by rw[hbs];exact AP _) (.inl ⟨rfl,rfl⟩) (j7y _)))
  ·have hne':j≠i:=fun h=>hne (h.trans enA.symm);simp only;rw[hAB i j hne'];exact .refl _
  ·show RL [.int .u8 (.v 0),.int .i64 (.v (OV i))] [.int .u8 (.v 0),.int .i64 (.v (B (i+1) (Sg.toNat (AH i))))];rw[enA,hABi i];exact .refl _
 ·rename_i h;have hin:i=T:=by have:=d3c hS h;omega
  subst hin;cbv;refine a1g hS (e8l hS (AB _)) ?_;refine a0v hS _ h40' ?_;cbv;exact AA _
theorem k6u (c:CaR)(h18:a0j AD Ak 18 [c.av] (bool AG)):a0j AD Ak 48 [c.av] (bool AG):=by
 obtain⟨ns,sz,no,od,nl,lk,⟨ins,isz,ino,iod,ine,ien,inn,ivar,ink,ikid,iroot⟩,⟨gns,gsz,gno,god,gne,gen,gnn,gvar,gnk,gkid,groot⟩⟩:=c;simp only[CaR.av,DiR.cs,BB,BD] at*
 refine a1e (a0k AJ okP k6z _ rfl fun E Sg hbs hS=> ?_);cbv;refine a0v hS _ h18 ?_;cbv;exact AA _
theorem k6t (c:CaR){a k1 k2:DV}{er:Int}(h18:a0j AD Ak 18 [c.av] (bool Ak))(h21:a0j AD AG 21 [c.av] (.tuple [.d a,.agg [.d k1,.d k2],int er])){z:Bool}(hz:z=(er==0)):a0j AD Ak 48 [c.av] (bool z):=by
 obtain⟨ns,sz,no,od,nl,lk,⟨ins,isz,ino,iod,ine,ien,inn,ivar,ink,ikid,iroot⟩,⟨gns,gsz,gno,god,gne,gen,gnn,gvar,gnk,gkid,groot⟩⟩:=c;simp only[CaR.av,DiR.cs,BB,BD] at*
 refine a1e (a0k AJ okP k6z _ rfl fun E Sg hbs hS=> ?_);have e:=b2k hS;cbv;refine a0v hS _ h18 ?_;cbv;refine a0v hS _ h21 ?_;cbv;have hz2:Sg.ieq er (AH 0)=z:=by rw[e.ieq,hz];rfl
 simp only[hz2];exact AA _
theorem l0u (c:CaR)(hw:c.wf): ∃z:Bool,a0j AD Ak 48 [c.av] (bool z)/\(z=Ak-> ∃T:Nat,c.ok T/\T<=36/\0<(c.P T).length/\h6t c 0/\
 a0j AD AG 108 [isl c.ns c.sz,isl c.no c.od,dsl c.nl c.lk,c.inn.av,c.goal.av] (.tuple [.dptr (i0q c.ns c.sz c.no c.od c.nl (c.P T).length (fun j=>(c.W T j:Int)) c.X c.G) 0,int 0])):=by
 classical
 by_cases ht:h6v c
 rotate_left
 ·exact⟨AG,k6u c (i3u c AG (by simp[ht])),fun h=>by cases h⟩
 have h18:=i3u c Ak (by simp[ht]);have hf:=ht.fit hw;obtain⟨er,hE⟩:=i3o c;by_cases h0:er=0
 rotate_left
 ·exact⟨AG,k6t c h18 (i3r c (i2f c hf er hE) h0) (z:=AG) (beq_false_of_ne h0).symm,fun h=>by cases h⟩
 subst h0;obtain⟨T,h⟩:=CaR.ok_of hf hE;have hT:=h.T36 ht;obtain⟨a1,a2⟩:=i3p c (h.c42 hE) (h.places hT);rcases Nat.eq_zero_or_pos (c.P T).length with hpos|hpos
 ·exact⟨AG,k6t c h18 (a1 hpos) (z:=AG) rfl,fun h=>by cases h⟩
 exact⟨Ak,k6t c h18 (a2 hpos) (z:=Ak) rfl,fun _=>⟨T,h,hT,hpos,hE,(i3a c.inn c.goal (h.read hE hT)).2 hpos⟩⟩
theorem CaR.ok.b20 {c:CaR}{T:Nat}(h:c.ok T)(hT:T<=36)(hpos:0<(c.P T).length)
 (h108:a0j AD AG 108 [isl c.ns c.sz,isl c.no c.od,dsl c.nl c.lk,c.inn.av,c.goal.av] (.tuple [.dptr (i0q c.ns c.sz c.no c.od c.nl (c.P T).length (fun j=>(c.W T j:Int)) c.X c.G) 0,int 0])):
 ∃z d r,c.K.res (c.P T) z d r/\d<=4/\a0j AD AG 20 [c.av] (.tuple [r.av,int d,int (if z=Ak then 0 else 7)]):=by
 have hf:=h.fit;have hl: ∀i,i<c.nl->(c.lk i).fit:=fun i hi=>by have:=hf.dg i (by omega);rwa [c.dg_lk hi] at this
 have hi:c.inn.fit:=by have:=hf.dg c.nl (by omega);rwa [c.dg_in] at this
 have hg:c.goal.fit:=by have:=hf.dg (c.nl+1) (by omega);rwa [c.dg_goal] at this
 obtain⟨z,d,r,hb⟩:=h.bst hT hpos h108;exact⟨z,d,r,hb.res,hb.le,k3m c hf.ns hf.no hf.nl hl hi hg hb.h73⟩
theorem k8z {c:CaR}(h:h6t c 0): ∀i,i<c.nl+2->c.same i:=by
 rcases h with⟨h1,h2⟩|⟨h1,⟨_,h2⟩|⟨h2,h3⟩⟩
 ·exact absurd h2.symm h1
 ·cases h2
 ·rcases h3 with⟨j,a,b,d,e⟩|⟨a,⟨b,_⟩|⟨_,b⟩⟩
  ·exact absurd e.symm d
  ·exact b
  ·cases b
theorem l2t (b:Bool):a1i (l1y b)/\0<=(l1y b).fault:=by cases b<;>exact⟨by unfold a1i;simp[l1y],BO _⟩
theorem l2l {b:Bool}:l1y b=⟨0,1⟩↔b=Ak:=by cases b<;>simp[l1y]
theorem l4s {m k a i:Nat}(h:a<i)(hi:i<m):(k+a) % m≠(k+i) % m:=fun e=>by
 have h1:=BG (k+a) m;have h2:=BG (k+i) m;rw[e] at h1;have h3:m*((k+i)/m)=m*((k+a)/m)+(i-a):=by omega
 rcases Nat.lt_or_ge ((k+a)/m) ((k+i)/m) with h4|h4
 ·have:m*((k+a)/m+1)<=m*((k+i)/m):=Al _ h4;rw[BN,BM] at this;omega
 ·have:m*((k+i)/m)<=m*((k+a)/m):=Al _ h4;omega
theorem l4j {n m k:Nat}{h:Nat->Int}(ho:h6y n m h):h6y n m fun i=>h ((k+i) % m):=by
 refine⟨ho.1,fun i hi=> ?_⟩;have hm: ∀j,(k+j) % m<m:=fun j=>Nat.mod_lt _ (by omega);refine⟨(ho.2 _ (hm i)).1,fun a ha e=> ?_⟩;have hne:=l4s (k:=k) ha hi;rcases Nat.lt_or_gt_of_ne hne with h1|h1
 ·exact (ho.2 _ (hm i)).2 _ h1 e
 ·exact (ho.2 _ (hm a)).2 _ h1 e.symm
theorem l4f {n m k:Nat}{g h:Nat->Int}(e:h4e n m g h=0):h4e n m g (fun i=>h ((k+i) % m))=0:=by obtain⟨h1,h2,h3,h4⟩:=h4s e;unfold h4e;rw[if_neg (by omega),if_neg (fun h=>h h2),if_neg (by omega),if_pos (l4j h4)]
theorem l4e {X Y:Nat->VaR}: ∀{T:Nat},(∀p,p<T->X p=Y p)->plc X T=plc Y T
 |0,_=>rfl
 |i+1,h=>by rw[plc,plc,l4e fun p hp=>h p (by omega),h i (by omega)]
def CaR.tn (c:CaR)(k T:Nat):CaR:=⟨c.ns,c.sz,c.no,fun i=>c.od ((k+i) % c.no),c.nl,fun i=>ofD c.ns c.sz c.no (fun i=>c.od ((k+i) % c.no)) T (c.X i),ofD c.ns c.sz c.no (fun i=>c.od ((k+i) % c.no)) T (c.X c.nl),ofD c.ns c.sz c.no (fun i=>c.od ((k+i) % c.no)) T (c.X (c.nl+1))⟩
def CaR.gn (c:CaR)(d:DiR):CaR:={c with goal:=d}
theorem CaR.tn_dg (c:CaR)(k T:Nat){i:Nat}(h:i<c.nl+2):(c.tn k T).dg i=ofD c.ns c.sz c.no (fun i=>c.od ((k+i) % c.no)) T (c.X i):=by
 unfold CaR.dg CaR.tn;simp only;split
 ·rfl
 ·split
  ·rename_i h2;rw[h2]
  ·rw[show i=c.nl+1 by omega]
theorem CaR.gn_dg (c:CaR)(d:DiR){i:Nat}(h:i<c.nl+1):(c.gn d).dg i=c.dg i:=by
 unfold CaR.dg CaR.gn;simp only;split
 ·rfl
 ·rw[if_pos (by omega),if_pos (by omega)]
theorem CaR.gn_goal (c:CaR)(d:DiR):(c.gn d).dg (c.nl+1)=d:=(c.gn d).dg_goal
theorem CaR.ok.twin {c c':CaR}{T:Nat}(h:c.ok T)(hf':c'.fit)(hE':h6t c' 0)(hT:T<=36)(hpos:0<(c.P T).length)(hns:prod c'.sz c'.ns=prod c.sz c.ns)(hnl:c'.nl=c.nl)(hX: ∀i,i<c.nl-> ∀p,p<T->c'.X i p=c.X i p)(hP: ∀p,p<T->c'.X c.nl p=c.X c.nl p)(hG: ∀p,p<T-> ∀q,q<T->(c.G p=c.G q↔c'.G p=c'.G q))
 {z:Bool} {d:Nat} {r:PlR} (hres:c.K.res (c.P T) z d r):a0j AD AG 20 [c'.av] (.tuple [r.av,int d,int (if z=Ak then 0 else 7)]):=by
 obtain⟨T',h'⟩:=CaR.ok_of hf' hE';have hTT:T'=T:=Int.ofNat.inj ((h'.hT.trans hns).trans h.hT.symm);subst hTT;have hPP:c'.P T'=c.P T':=by unfold CaR.P;rw[hnl];exact l4e hP
 have hpos':0<(c'.P T').length:=by rw[hPP];exact hpos
 have h108':=(i3a c'.inn c'.goal (h'.read hE' hT)).2 hpos';obtain⟨z',d',r',hres',_,h20'⟩:=h'.b20 hT hpos' h108';have hmem: ∀p,p∈c.P T'->p<T':=fun p hp=>((i0h _ T' p).1 hp).1;have hsame:c.K.same c'.K (c.P T'):=⟨hnl.symm,fun _ _=>rfl,fun i hi p hp=>(hX i hi p (hmem p hp)).symm,fun p hp q hq=>hG p (hmem p hp) q (hmem q hq)⟩;rw[hPP] at hres';obtain⟨e1,e2,e3⟩:=PbR.res_uniq hres (hsame.res.2 hres');rw[e1,e2,e3];exact h20'
section
variable {c:CaR} {T:Nat}
theorem CaR.ok.hc (h:c.ok T){i:Nat}(hi:i<c.nl+2): ∀p,p<T->a1i (c.X i p)/\0<=(c.X i p).fault:=fun p hp=>h.cell hi hp
theorem CaR.ok.tn (h:c.ok T)(hE:h6t c 0)(hT:T<=36)(k:Nat):(c.tn k T).wf/\(c.tn k T).fit/\h6t (c.tn k T) 0/\ ∀i,i<c.nl+2-> ∀p,p<T->(c.tn k T).X i p=c.X i p:=by
 have hfr:h4e c.ns c.no c.sz (fun i=>c.od ((k+i) % c.no))=0:=l4f h.fr;have hok:=fun i (hi:i<c.nl+2)=>l2x (od:=fun i=>c.od ((k+i) % c.no)) (no:=c.no) hfr h.hT (by omega) (h.hc hi);have hf:=h.fit;refine⟨fun i hi=> ?_,⟨hf.ns,hf.no,hf.nl,fun i hi=> ?_,fun i hi=> ?_,fun i hi=> ?_⟩,.inr ⟨hfr,.inr ⟨h.nl,.inr ⟨fun i hi=> ?_,.inl ⟨fun i hi=> ?_,rfl⟩⟩⟩⟩,fun i hi p hp=> ?_⟩
 ·have hi:i<c.nl+2:=hi;rw[c.tn_dg k T hi];obtain⟨g1,g2,g3,g4⟩:=hok i hi;exact⟨g2.kid,g2.root,g4⟩
 ·have hi:i<c.nl+2:=hi;rw[c.tn_dg k T hi];exact (hok i hi).2.1
 ·have hi:i<c.nl+2:=hi;rw[c.tn_dg k T hi];exact (hok i hi).2.2.2
 ·have hi:i<c.nl+2:=hi;rw[c.tn_dg k T hi];exact hf.no
 ·have hi:i<c.nl+2:=hi;show h5o ((c.tn k T).dg i)=0;rw[c.tn_dg k T hi];exact l4i (hok i hi).1
 ·have hi:i<c.nl+2:=hi;unfold CaR.same;rw[c.tn_dg k T hi];exact⟨rfl,rfl⟩
 ·show ((c.tn k T).dg i).cell p=_;rw[c.tn_dg k T hi];exact (hok i hi).2.2.1 p hp
theorem CaR.ok.gn (h:c.ok T)(hE:h6t c 0)(hT:T<=36){d:DiR}(hd:i6l d)(hdf:d.fit)(hd0: ∀j,j<d.ne->0<=(d.en j).fault)(hs:L d.ns d.sz=L c.ns c.sz/\L d.no d.od=L c.no c.od):(c.gn d).fit/\h6t (c.gn d) 0:=by
 have hf:=h.fit;have hno:d.no<=8:=by have:=(h7a.1 hs.2).1;have:=hf.no;omega
 refine⟨⟨hf.ns,hf.no,hf.nl,fun i hi=> ?_,fun i hi=> ?_,fun i hi=> ?_⟩,.inr ⟨h.fr,.inr ⟨h.nl,.inr ⟨fun i hi=> ?_,.inl ⟨fun i hi=> ?_,rfl⟩⟩⟩⟩⟩
 all_goals have hi:i<c.nl+2:=hi
 ·by_cases e:i=c.nl+1
  ·rw[e,c.gn_goal];exact hdf
  ·rw[c.gn_dg d (by omega)];exact hf.dg i hi
 ·by_cases e:i=c.nl+1
  ·rw[e,c.gn_goal];exact hd0
  ·rw[c.gn_dg d (by omega)];exact hf.flt i hi
 ·by_cases e:i=c.nl+1
  ·rw[e,c.gn_goal];exact hno
  ·rw[c.gn_dg d (by omega)];exact hf.od i hi
 ·show h5o ((c.gn d).dg i)=0;by_cases e:i=c.nl+1
  ·rw[e,c.gn_goal];exact l4i hd
  ·rw[c.gn_dg d (by omega)];exact h.err i hi
 ·unfold CaR.same;by_cases e:i=c.nl+1
  ·rw[e,c.gn_goal];exact hs
  ·rw[c.gn_dg d (by omega)];exact k8z hE i hi
end
section
variable {P:Program} {A:Ann} {ro:Option Nat} {E:Ent} {Sg:Sig}
theorem k7w (hS:Sg=std P A ro E){z:Int}(h:0<=z/\z<=255):Sg.iwrap .i64 z=z:=by rw[(b2k hS).iwrap];exact b6g (by omega) (by omega)
theorem k7o (hS:Sg=std P A ro E){z:Int}{n:Nat}(h:0<=z):Sg.irem z (Sg.ofNat n)=((z.toNat % n:Nat):Int):=by rw[(b2k hS).irem,(b2k hS).ofNat];obtain⟨k,rfl⟩: ∃k:Nat,z=k:=⟨z.toNat,by omega⟩;rw[AC,Int.tmod_eq_emod_of_nonneg h];rfl
theorem k7t (hS:Sg=std P A ro E){n:Nat}(h:n≠0):Sg.nz (Sg.ofNat n):=by subst hS;exact fun h2=>h (Int.ofNat.inj h2)
end
end Go.Proofs.Tryz.Run
