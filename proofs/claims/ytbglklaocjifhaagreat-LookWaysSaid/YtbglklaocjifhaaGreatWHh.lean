/- Copies of plans: planned, copied. The checks of a plan's form. A plan's form and depth: all checks, Depth, Form. Conditions: none. -/
import Derived.Test.YtbglklaocjifhaaGreatWLr
import Derived.Test.YtbglklaocjifhaaGreatWNb
import Derived.Test.YtbglklaocjifhaaGreatWNe
import Derived.Test.YtbglklaocjifhaaGreatWPm0
import Derived.Test.YtbglklaocjifhaaGreatWQd
import Derived.Test.YtbglklaocjifhaaGreatWQf
import Derived.Test.YtbglklaocjifhaaGreatWQi
import Derived.Test.YtbglklaocjifhaaGreatWSd
import Derived.Test.YtbglklaocjifhaaGreatWHb
import Derived.Test.YtbglklaocjifhaaGreatWHe
set_option linter.unusedSimpArgs false
set_option linter.unusedVariables false
set_option maxHeartbeats 0
set_option maxRecDepth 100000
namespace Go.Proofs.Tryz.Run
open Go Go.Vf Go.Proofs
open Go.Proofs.YtbglklaocjifhaaGreat
theorem b3w (lv:Nat)(l:Int)(nc nn m:Nat)(c:Nat->List DV)(lk lk':Nat->Int)(ncs nns ncs' nns':Nat->Nat)(C E C' E':Nat->Nat->List DV)(h0:lv<=6)(h1:nc<=300)(h2:nn<=300)(hm:m=if 0<lv then nn else 0)
 (hrr: ∀i,i<nn->0<lv->a0j Tryz.prog false 82 [.agg [int (lk i),.d (.sl 2 (ncs i) (C i)),.d (.sl 3 (nns i) (E i))],int ((lv:Int)-1)] (.agg [int (lk' i),.d (.sl 2 (ncs' i) (C' i)),.d (.sl 3 (nns' i) (E' i))])):
 a0j Tryz.prog false 82 [.agg [int l,.d (.sl 2 nc c),.d (.sl 3 nn fun i=>[.int .i64 (.v (lk i)),.sl 2 (ncs i) (C i),.sl 3 (nns i) (E i)])],int lv]
  (.agg [int l,.d (.sl 2 nc c),.d (.sl 3 m fun i=>[.int .i64 (.v (lk' i)),.sl 2 (ncs' i) (C' i),.sl 3 (nns' i) (E' i)])]):=by
 refine a0k Tryz.mixed okP g2w _ rfl fun E0 Sg hb hS=> ?_
 have e:=b2k hS
 cbv
 refine a1g hS (e8l hS (show _<=_ by omega)) ?_
 refine e4p Tryz.mixed okP hS (fun i=>i<=m) (fun i=>m-i)
  (fun i=>⟨b5r [(1,int lv),(2,.ptr 0 0),(4,.ptr 1 0),(5,.ptr 2 0),(6,int i)] 38,[.var [int l,.d (.sl 2 nc c),.d (.sl 3 nn fun i=>[.int .i64 (.v (lk i)),.sl 2 (ncs i) (C i),.sl 3 (nns i) (E i)])],.var [int 0,.d .nil,.d .nil],.var [int l,.d (.sl 2 nc c),.msl 3 3 none i false],.arr 3 i fun i=>[.int .i64 (.v (lk' i)),.sl 2 (ncs' i) (C' i),.sl 3 (nns' i) (E' i)]],[3]⟩)
  0 (by omega) ?_ ?_
 ·exact (b4w.gh 2 2 3 (fun _=>[]) rfl rfl).trans (b4w.le (a4c rfl ⟨a0x.refl _,a0x.refl _,a0x.refl _,a0x.refl _,a6c rfl,trivial⟩
   (.cons (.refl _) (.cons (.var (.cons (a6c rfl) (.cons (a0x.refl _) (.cons (a0x.refl _) .nil)))) (.cons (.refl _) (.cons (a9v.arrr rfl fun j hj=>by omega) (.nil _))))) (by simp;omega) (.inr rfl) rfl))
 ·intro i hi N hN
  cbv
  split
  ·rename_i h
   have hlt:i<nn:=d3r hS h
   cbv
   split
   ·rename_i h
    have h4:0<lv:=Int.ofNat_lt.1 (b3h hS h)
    have hmn:m=nn:=by rw[hm,if_pos h4]
    cbv
    simp only[nat,e.toNat,Int.ofNat_eq_natCast,Int.toNat_natCast]
    refine a1g hS (a9o hS (by omega)) (a1g hS (a5p hS hlt) ?_)
    have g4:a0j Tryz.prog false 82 [.agg [int (lk i),.d (.sl 2 (ncs i) (C i)),.d (.sl 3 (nns i) (E i))],int (Sg.isub (Int.ofNat lv) (Int.ofNat 1))] (.agg [int (lk' i),.d (.sl 2 (ncs' i) (C' i)),.d (.sl 3 (nns' i) (E' i))]):=by rw[e.isub];exact hrr i hlt h4
    cbv
    refine a0v hS _ g4 ?_
    cbv
    refine a1g hS (c3d hS) (a1g hS (c3d hS) (a1g hS trivial (a1g hS (f1i hS (by omega)) (a1g hS (e1n hS (by omega)) ?_))))
    exact hN (i+1) _ (by omega) (by omega) (b4w.le (a4c rfl ⟨a0x.refl _,a0x.refl _,a0x.refl _,a0x.refl _,b2s hS,trivial⟩
     (.cons (.refl _) (.cons (.refl _) (.cons (.var (.cons (a0x.refl _) (.cons (a0x.refl _) (.cons (d8n hS) .nil)))) (.cons (d7h hS (fun j hj=> .refl _) (.refl _)) (.nil _))))) (by simp;omega) (.inr rfl) rfl))
   ·rename_i h
    have h4:lv<=0:=Int.ofNat_le.1 (b3r hS h)
    have hin:i=m:=by rw[if_neg (by omega)] at hm;omega
    cbv
    refine a1g hS (e8l hS (Nat.le_refl _)) ?_
    subst hin
    exact a0x.refl _
  ·rename_i h
   have hlt:nn<=i:=d3c hS h
   have hin:i=m:=by
    by_cases h4:0<lv
    ·rw[if_pos h4] at hm;omega
    ·rw[if_neg h4] at hm;omega
   cbv
   refine a1g hS (e8l hS (Nat.le_refl _)) ?_
   subst hin
   exact a0x.refl _
def PlR.cut:Nat->PlR->PlR
 |0,p=> .mk p.look p.nc p.c 0 p.nx
 |lv+1,p=> .mk p.look p.nc p.c p.nn fun i=>PlR.cut lv (p.nx i)
theorem d9f {f:Nat->Nat}{n i:Nat}(h:i<n):f i<=b9p f n:=by
 induction n with
 |zero=>omega
 |succ n ih=>
  simp only[b9p]
  by_cases e:i=n
  ·subst e;omega
  ·have:=ih (by omega);omega
theorem PlR.cnt_ge (lv:Nat)(p:PlR):p.nc+p.nn<=PlR.cnt lv p:=by
 cases lv with
 |zero=>exact Nat.le_refl _
 |succ lv=>simp only[PlR.cnt];omega
theorem PlR.cnt_kid {lv:Nat}{p:PlR}{i:Nat}(h:i<p.nn):PlR.cnt lv (p.nx i)<=PlR.cnt (lv+1) p:=by
 have:=d9f (f:=fun i=>PlR.cnt lv (p.nx i)) h
 simp only[PlR.cnt]
 omega
theorem c7w: ∀(lv:Nat),lv<=6-> ∀p:PlR,PlR.cnt lv p<300->a0j Tryz.prog false 82 [p.av,int lv] (PlR.cut lv p).av:=by
 intro lv
 induction lv with
 |zero=>
  intro _ p hp
  have:=p.cnt_ge 0
  obtain⟨lk,ncs,nns,C,E,hrow,hav,hpav⟩:=p.kids
  obtain⟨lk',ncs',nns',C',E',hrow',hav',hpav'⟩:=(PlR.cut 0 p).kids
  rw[hpav,hpav']
  exact b3w 0 p.look p.nc p.nn 0 (fun i=>(p.c i).row) lk lk' ncs nns ncs' nns' C E C' E' (by omega) (by omega) (by omega) rfl (fun i _ h=>absurd h (by omega))
 |succ lv ih=>
  intro hlv p hp
  have:=p.cnt_ge (lv+1)
  obtain⟨lk,ncs,nns,C,E,hrow,hav,hpav⟩:=p.kids
  obtain⟨lk',ncs',nns',C',E',hrow',hav',hpav'⟩:=(PlR.cut (lv+1) p).kids
  rw[hpav,hpav']
  have es:((lv+1:Nat):Int)-1=lv:=by omega
  refine b3w (lv+1) p.look p.nc p.nn p.nn (fun i=>(p.c i).row) lk lk' ncs nns ncs' nns' C E C' E' (by omega) (by omega) (by omega) (by rw[if_pos (by omega)]) (fun i hi _=> ?_)
  rw[es,<-hav i hi,<-hav' i hi]
  exact ih (by omega) (p.nx i) (by have:=PlR.cnt_kid (lv:=lv) hi;omega)
theorem c8y (l l':Int)(nc nn nc' nn':Nat)(c E c' E':Nat->List DV)
 (h:a0j Tryz.prog false 82 [.agg [int l,.d (.sl 2 nc c),.d (.sl 3 nn E)],int 6] (.agg [int l',.d (.sl 2 nc' c'),.d (.sl 3 nn' E')])):
 a0j Tryz.prog false 36 [.agg [int l,.d (.sl 2 nc c),.d (.sl 3 nn E)]] (.agg [int l',.d (.sl 2 nc' c'),.d (.sl 3 nn' E')]):=by
 refine a0k Tryz.mixed okP g0w _ rfl fun E0 Sg hb hS=> ?_
 cbv
 refine a0v hS _ h ?_
 cbv
 exact a0x.refl _
theorem d1z (p:PlR)(h:PlR.cnt 6 p<300):a0j Tryz.prog false 36 [p.av] (PlR.cut 6 p).av:=by
 have h1:=c7w 6 (by omega) p h
 rw[PlR.avE,PlR.avE] at h1⊢
 exact c8y _ _ _ _ _ _ _ _ _ _ h1
def j5e (l:Int)(nc:Nat)(F M:Nat->Int)(nn:Nat)(E:Nat->List DV):AV:=
 .agg [int l,.d (.sl 2 nc fun i=>[.int .u8 (.v (F i)),.int .i64 (.v (M i))]),.d (.sl 3 nn E)]
section
variable {l:Int} {nc:Nat} {F M:Nat->Int} {nn:Nat} {E:Nat->List DV}
theorem d2m (r:Bool)(hr:r=true↔ -1<=l/\l<4):a0j Tryz.prog true 113 [j5e l nc F M nn E] (bool r):=by
 refine a1e (a0k Tryz.mixed okP e4g _ rfl fun E0 Sg hb hS=> ?_)
 cbv
 split
 ·rename_i h
  have h: -1<=l:=e3n hS h
  cbv
  refine a0s ?_
  show Sg.ilt l (Int.ofNat 4)=r
  rw[(b2k hS).ilt]
  cases r
  ·have: ¬l<4:=fun h'=>by have:=hr.2 ⟨h,h'⟩;cases this
   simpa using this
  ·simpa using (hr.1 rfl).2
 ·rename_i h
  have h:l< -1:=e3g hS h
  cbv
  refine a0s ?_
  cases r
  ·rfl
  ·have:=(hr.1 rfl).1;omega
theorem d7e (h1:nc<=1000000)(h2:nn<=1000000)(r:Bool)(hr:r=true↔0<=l\/nc+nn=0):a0j Tryz.prog true 114 [j5e l nc F M nn E] (bool r):=by
 refine a1e (a0k Tryz.mixed okP e2w _ rfl fun E0 Sg hb hS=> ?_)
 have e:=b2k hS
 cbv
 split
 ·rename_i h
  have h:0<=l:=e3n hS h
  cbv
  exact a0s (by rw[hr.2 (.inl h)])
 ·rename_i h
  have h:l<0:=e3g hS h
  cbv
  refine a1g hS (a4p hS (by simp only[e.ofNat];omega)) ?_
  refine a0s ?_
  show Sg.ieq (Sg.iadd (Sg.ofNat nc) (Sg.ofNat nn)) (Int.ofNat 0)=r
  rw[e.ieq,e.iadd]
  simp only[e.ofNat]
  cases r
  ·have: ¬nc+nn=0:=fun h'=>by have:=hr.2 (.inr h');cases this
   simp;omega
  ·have:=hr.1 rfl
   simp;omega
theorem b9x (r:Bool)(hr:r=true↔l<0\/0<nc/\nn=nc):a0j Tryz.prog true 115 [j5e l nc F M nn E] (bool r):=by
 refine a1e (a0k Tryz.mixed okP e1h _ rfl fun E0 Sg hb hS=> ?_)
 have e:=b2k hS
 cbv
 split
 ·rename_i h
  have h:l<0:=b3h hS h
  cbv
  exact a0s (by rw[hr.2 (.inl h)])
 ·rename_i h
  have h:0<=l:=b3r hS h
  cbv
  split
  ·rename_i h
   have h3:(0:Int)<Sg.ofNat nc:=b3h hS h
   rw[e.ofNat] at h3
   have h3:0<nc:=Int.ofNat_lt.1 h3
   cbv
   refine a0s ?_
   show Sg.ieq (Sg.ofNat nn) (Sg.ofNat nc)=r
   rw[e.ieq]
   simp only[e.ofNat]
   cases r
   ·have: ¬nn=nc:=fun h'=>by have:=hr.2 (.inr ⟨by omega,h'⟩);cases this
    simp;omega
   ·have:=hr.1 rfl
    simp;omega
  ·rename_i h
   have h3:Sg.ofNat nc<=(0:Int):=b3r hS h
   rw[e.ofNat] at h3
   have h3:nc<=0:=Int.ofNat_le.1 h3
   cbv
   refine a0s ?_
   cases r
   ·rfl
   ·have:=hr.1 rfl
    omega
theorem c5n (h1:nc<=1000000)(h0: ∀i,i<nc->0<=F i)(r:Bool)(hr:r=true↔ ∀i,i<nc->a1i ⟨F i,M i⟩/\(0<i->vlt ⟨F (i-1),M (i-1)⟩ ⟨F i,M i⟩)):a0j Tryz.prog true 116 [j5e l nc F M nn E] (bool r):=by
 classical
 have hck: ∀i,i<nc->a0j Tryz.prog true 145 [.agg [u8 (F i),int (M i)]] (int (if a1i ⟨F i,M i⟩ then 0 else 2)):=fun i hi=>d4i ⟨F i,M i⟩ (h0 i hi) _ ⟨fun h=>if_pos h,fun h=>if_neg h⟩
 have hbf: ∀i j,i<nc->j<nc->a1i ⟨F i,M i⟩->a1i ⟨F j,M j⟩->a0j Tryz.prog true 149 [.agg [u8 (F i),int (M i)],.agg [u8 (F j),int (M j)]] (int (if (⟨F i,M i⟩:VaR)=⟨F j,M j⟩ then 0 else if vlt ⟨F i,M i⟩ ⟨F j,M j⟩ then-1 else 1)):=fun i j hi hj c1 c2=>c9s ⟨F i,M i⟩ ⟨F j,M j⟩ (h0 i hi) (h0 j hj) c1 c2 _ rfl
 obtain⟨ck,hckd⟩: ∃ck:Nat->Bool,∀i,ck i=true↔a1i ⟨F i,M i⟩:=⟨fun i=>decide _,fun i=>decide_eq_true_iff⟩
 obtain⟨lt,hltd⟩: ∃lt:Nat->Nat->Bool,∀i j,lt i j=true↔vlt ⟨F i,M i⟩ ⟨F j,M j⟩:=⟨fun i j=>decide _,fun i j=>decide_eq_true_iff⟩
 simp only[<-hckd,<-hltd] at hck hbf hr
 have hck2: ∀i,i<nc->ck i=true->a0j Tryz.prog true 145 [.agg [u8 (F i),int (M i)]] (int 0):=fun i hi h=>by have:=hck i hi;rwa [if_pos h] at this
 have hck3: ∀i,i<nc->ck i=false->a0j Tryz.prog true 145 [.agg [u8 (F i),int (M i)]] (int 2):=fun i hi h=>by have:=hck i hi;rwa [if_neg (by rw[h];exact Bool.noConfusion)] at this
 have irr: ∀i j,lt i j=true-> ¬((⟨F i,M i⟩:VaR)=⟨F j,M j⟩):=fun i j h h'=>by
  have:=(hltd i j).1 h
  simp only[VaR.mk.injEq] at h'
  simp only[vlt] at this
  omega
 have hb2: ∀i j,i<nc->j<nc->ck i=true->ck j=true->lt i j=true->a0j Tryz.prog true 149 [.agg [u8 (F i),int (M i)],.agg [u8 (F j),int (M j)]] (int (-1)):=fun i j hi hj c1 c2 h=>by
  have:=hbf i j hi hj c1 c2
  rwa [if_neg (irr i j h),if_pos h] at this
 have hb3: ∀i j,i<nc->j<nc->ck i=true->ck j=true->lt i j=false-> ∃z:Int,0<=z/\a0j Tryz.prog true 149 [.agg [u8 (F i),int (M i)],.agg [u8 (F j),int (M j)]] (int z):=fun i j hi hj c1 c2 h=>by
  have:=hbf i j hi hj c1 c2
  rw[if_neg (c:=lt i j=true) (by rw[h];exact Bool.noConfusion)] at this
  refine⟨_,?_,this⟩
  split<;>omega
 clear hck hbf irr hckd hltd h0
 refine a1e (a0k Tryz.mixed okP e0l _ rfl fun E0 Sg hb hS=> ?_)
 have e:=b2k hS
 have hF:(¬ ∀i,i<nc->ck i=true/\(0<i->lt (i-1) i=true))->a0x (.d (.bool false)) (.d (.bool r)):=fun h=>by
  rw[<-hr] at h
  exact a0s (by cases r<;>simp_all)
 have hT:(∀i,i<nc->ck i=true/\(0<i->lt (i-1) i=true))->a0x (.d (.bool true)) (.d (.bool r)):=fun h=>a0s (hr.2 h).symm
 cbv
 refine a7r Tryz.mixed okP hS (fun i=>i<=nc/\ ∀j,j<i->ck j=true/\(0<j->lt (j-1) j=true)) (fun i=>nc-i)
  (fun i=>⟨b5r [(1,.ptr 0 0),(7,.d (.sl 2 nc fun i=>[.int .u8 (.v (F i)),.int .i64 (.v (M i))])),(8,int nc),(9,int i)] 34,[.var [int l,.d (.sl 2 nc fun i=>[.int .u8 (.v (F i)),.int .i64 (.v (M i))]),.d (.sl 3 nn E)]],[]⟩) 0 ⟨by omega,fun j hj=>absurd hj (by omega)⟩ ?_ ?_
 ·exact a4c rfl ⟨a0x.refl _,a0x.refl _,b0a (e.ofNat _),a6c rfl,trivial⟩ (.same _) (by omega) (.inr rfl) rfl
 rintro i ⟨hi,hz⟩ N hN
 cbv
 split
 ·rename_i h
  have hlt:i<nc:=Int.ofNat_lt.1 (b3h hS h)
  cbv
  simp only[nat,e.toNat,Int.ofNat_eq_natCast,Int.toNat_natCast]
  refine a1g hS (a5p hS hlt) ?_
  have c1:=hck2 i hlt
  have c2:=hck3 i hlt
  generalize hcz:ck i=z at c1 c2
  cbv
  cases z with
  |false=>
   have c2:=c2 rfl
   refine a0v hS (int 2) c2 ?_
   cbv
   split
   ·cbv
    exact hF (fun h=>by have:=(h i hlt).1;rw[hcz] at this;cases this)
   ·rename_i h
    have h:Int.ofNat 2=Int.ofNat 0:=e8o hS h
    cbv
    exact absurd h (by decide)
  |true=>
   have c1:=c1 rfl
   refine a0v hS (int 0) c1 ?_
   cbv
   split
   ·rename_i h
    have h:Int.ofNat 0≠Int.ofNat 0:=e8q hS h
    cbv
    exact absurd rfl h
   cbv
   split
   ·rename_i h
    have h11:0<i:=Int.ofNat_lt.1 (b3h hS h)
    cbv
    have e1:Sg.toNat (Sg.isub (Int.ofNat i) (Int.ofNat 1))=i-1:=by rw[e.isub,e.toNat];simp only[Int.ofNat_eq_natCast];omega
    simp only[nat,e1]
    refine a1g hS (a9o hS (by simp only[Int.ofNat_eq_natCast];omega)) ?_
    refine a1g hS (d4s hS (by simp only[Int.ofNat_eq_natCast];omega)) ?_
    have d1:=(hz (i-1) (by omega)).1
    have b2:=hb2 (i-1) i (by omega) hlt d1 hcz
    have b3:=hb3 (i-1) i (by omega) hlt d1 hcz
    generalize hlz:lt (i-1) i=y at b2 b3
    cbv
    cases y with
    |false=>
     obtain⟨z,hz0,b3⟩:=b3 rfl
     refine a0v hS (int z) b3 ?_
     cbv
     split
     ·cbv
      exact hF (fun h=>by have:=(h i hlt).2 h11;rw[hlz] at this;cases this)
     ·rename_i h
      have h:z<0:=e3g hS h
      cbv
      exact absurd hz0 (by omega)
    |true=>
     have b2:=b2 rfl
     refine a0v hS (int (-1)) b2 ?_
     cbv
     split
     ·rename_i h
      have h:(0:Int)<= -1:=e3n hS h
      cbv
      exact absurd h (by omega)
     cbv
     refine a1g hS (a4p hS (by simp only[Int.ofNat_eq_natCast];omega)) ?_
     exact hN (i+1) _ ⟨by omega,fun j hj=>by
      by_cases e:j=i
      ·rw[e];exact⟨hcz,fun h=>hlz⟩
      ·exact hz j (by omega)⟩ (by omega) (a4c rfl ⟨a0x.refl _,a0x.refl _,a0x.refl _,b2s hS,trivial⟩ (.cons (.refl _) (.nil _)) (by omega) (.inl ⟨rfl,rfl⟩) rfl)
   ·rename_i h
    have h11:i<=0:=Int.ofNat_le.1 (b3r hS h)
    cbv
    refine a1g hS (a4p hS (by simp only[Int.ofNat_eq_natCast];omega)) ?_
    exact hN (i+1) _ ⟨by omega,fun j hj=>by
     by_cases e:j=i
     ·rw[e];exact⟨hcz,fun h=>absurd h (by omega)⟩
     ·exact hz j (by omega)⟩ (by omega) (a4c rfl ⟨a0x.refl _,a0x.refl _,a0x.refl _,b2s hS,trivial⟩ (.cons (.refl _) (.nil _)) (by omega) (.inl ⟨rfl,rfl⟩) rfl)
 ·rename_i h
  have hlt:nc<=i:=Int.ofNat_le.1 (b3r hS h)
  cbv
  exact hT fun j hj=>hz j (by omega)
end
def fkr (g:FuncId):DV:= .raw (.func (.func g) #[] #[])
section
variable {l:Int} {nc:Nat} {F M:Nat->Int} {nn:Nat} {E:Nat->List DV}
def plO (l:Int)(nc:Nat)(F M:Nat->Int)(nn:Nat)(E:Nat->List DV):a0f:=
 .var [int l,.d (.sl 2 nc fun i=>[.int .u8 (.v (F i)),.int .i64 (.v (M i))]),.d (.sl 3 nn E)]
def plH (l:Int)(nc:Nat)(F M:Nat->Int)(nn:Nat)(E:Nat->List DV):List a0f:=
 [plO l nc F M nn E,.var [.fn 118 [] [.ptr 0 0]]]
theorem d4a (g:FuncId)(z:Bool)(h:a0j Tryz.prog true g [j5e l nc F M nn E] (bool z)):
 a1h Tryz.prog 118 [.agg [.d (fkr g)],.ptr 0 0] [plO l nc F M nn E,.var [.fn 118 [] [.ptr 0 0]],.var [.d (fkr g)]] (ro [plO l nc F M nn E,.var [.fn 118 [] [.ptr 0 0]],.var [.d (fkr g)]] (bool z)):=by
 refine a2y Tryz.mixed okP e2c _ rfl fun E0 Sg hb hS=> ?_
 simp only[List.length_cons,List.length_nil] at hb
 cbv
 refine a3v hS (a1h.of_pure (h:=[plO l nc F M nn E,.var [.fn 118 [] [.ptr 0 0]],.var [.d (fkr g)],.var [.d (fkr g)]]) rfl h) ?_
 cbv
 exact a2s (a0s rfl) (.cons (.refl _) (.cons (.refl _) (.cons (.refl _) (.nil _)))) (.inl ⟨rfl,rfl⟩)
theorem e3i (g:FuncId)(z:Bool)(h:a0j Tryz.prog true g [j5e l nc F M nn E] (bool z)):
 a1h Tryz.prog 151 [.agg [.d (fkr g)],.ptr 1 0] (plH l nc F M nn E) (ro (plH l nc F M nn E) (bool (!z))):=by
 have h1:=d4a g z h
 refine a2y Tryz.mixed okP e2j _ rfl fun E0 Sg hb hS=> ?_
 simp only[plH,List.length_cons,List.length_nil] at hb
 cbv
 refine a3v hS h1 ?_
 cases z<;>cbv<;>exact a2s (a0s rfl) (.cons (.refl _) (.cons (.refl _) (.nil _))) (.inl ⟨rfl,rfl⟩)
theorem c6s {n:Nat}(hn:n<=1000000)(gs:Nat->FuncId)(H:List a0f)(gid:FuncId)(a:Nat)(p:Nat->Bool)
 (hp: ∀i,i<n->a1h Tryz.prog gid [.agg [.d (fkr (gs i))],.ptr a 0] H (ro H (bool (p i)))) (r:Int) (hr:a6z n p r):
 a1h Tryz.prog 187 [.d (.sl 1 n fun i=>[fkr (gs i)]),.fn gid [] [.ptr a 0]] H (ro H (int r)):=by
 refine a2y Tryz.mixed okP e3p _ rfl fun E0 Sg hb hS=> ?_
 have e:=b2k hS
 cbv
 refine a7r Tryz.mixed okP hS (fun i=>i<=n/\ ∀j,j<i->p j=false) (fun i=>n-i)
  (fun i=>⟨b5r [(0,.d (.sl 1 n fun i=>[fkr (gs i)])),(1,.fn gid [] [.ptr a 0]),(7,int n),(8,int i)] 19,H,[]⟩) 0 ⟨by omega,by omega⟩ ?_ ?_
 ·exact a4c rfl ⟨a0x.refl _,a0x.refl _,b0a (e.ofNat _),a6c rfl,trivial⟩ (.same _) (by omega) (.inr rfl) rfl
 ·intro i hi N hN
  have hin:=hp i
  clear hp
  cbv
  split
  ·rename_i h
   have hlt:i<n:=Int.ofNat_lt.1 (b3h hS h)
   cbv
   have hin:=hin hlt
   generalize hz:p i=z at hin
   simp only[nat,e.toNat,Int.ofNat_eq_natCast,Int.toNat_natCast]
   refine a1g hS (a5p hS hlt) ?_
   refine a3v hS (r:=bool z) hin ?_
   cases z
   ·cbv
    refine a1g hS (a4p hS (by simp only[Int.ofNat_eq_natCast];omega)) ?_
    refine hN (i+1) _ ⟨by omega,fun j hj=> ?_⟩ (by omega) (a4c rfl ⟨a0x.refl _,a0x.refl _,a0x.refl _,b2s hS,trivial⟩ (.same _) (by omega) (.inr rfl) rfl)
    by_cases e:j=i
    ·subst e;exact hz
    ·exact hi.2 j (by omega)
   ·cbv
    exact a2s (b0a (hr.2 i hlt hz hi.2).symm) (.same _) (.inr rfl)
  ·rename_i h
   have hni:n<=i:=Int.ofNat_le.1 (b3r hS h)
   cbv
   exact a2s (a6c (hr.1 fun j hj=>hi.2 j (by omega)).symm) (.same _) (.inr rfl)
theorem b7x {n:Nat}(hn:n<=1000000)(gs:Nat->FuncId)(H:List a0f)(gid:FuncId)(a:Nat)(p:Nat->Bool)
 (hp: ∀i,i<n->a1h Tryz.prog gid [.agg [.d (fkr (gs i))],.ptr a 0] H (ro H (bool (p i)))) (r:Bool) (hr:r=true↔ ∃i,i<n/\p i=true):
 a1h Tryz.prog 150 [.d (.sl 1 n fun i=>[fkr (gs i)]),.fn gid [] [.ptr a 0]] H (ro H (bool r)):=by
 obtain⟨z,hz,hz1,hz2⟩: ∃z,a6z n p z/\(0<=z-> ∃i,i<n/\p i=true)/\((∃i,i<n/\p i=true)->0<=z):=a9i n p
 have hin:=c6s hn gs H gid a p hp z hz
 have hzr:decide (0<=z)=r:=by
  by_cases h:0<=z
  ·rw[decide_eq_true h];exact (hr.2 (hz1 h)).symm
  ·rw[decide_eq_false h]
   cases r
   ·rfl
   ·exact absurd (hz2 (hr.1 rfl)) h
 clear hp hz hz1 hz2 hr
 refine a2y Tryz.mixed okP e0u _ rfl fun E Sg hb hS=> ?_
 cbv
 refine a3v hS hin ?_
 cbv
 exact a2s (a0s (((b2k hS).ile _ _).trans hzr)) (.same _) (.inr rfl)
theorem e4x {n:Nat}(hn:n<=1000000)(gs:Nat->FuncId)(b:Nat->Bool)(h: ∀i,i<n->a0j Tryz.prog true (gs i) [j5e l nc F M nn E] (bool (b i)))(r:Bool)(hr:r=true↔ ∀i,i<n->b i=true):
 a1h Tryz.prog 117 [.d (.sl 1 n fun i=>[fkr (gs i)]),.fn 118 [] [.ptr 0 0]] [plO l nc F M nn E] (ro [plO l nc F M nn E] (bool r)):=by
 have hin:=b7x hn gs (plH l nc F M nn E) 151 1 (fun i=>!b i) (fun i hi=>e3i (gs i) (b i) (h i hi)) (!r) (by
  cases r
  ·simp only[Bool.not_false,true_iff]
   have hr: ¬ ∀i,i<n->b i=true:=fun h=>Bool.noConfusion (hr.2 h)
   exact Classical.byContradiction fun h=>hr fun i hi=>by
    cases hb:b i
    ·exact absurd ⟨i,hi,by rw[hb];rfl⟩ h
    ·rfl
  ·simp only[Bool.not_true,Bool.false_eq_true,false_iff]
   rintro⟨i,hi,h⟩
   rw[hr.1 rfl i hi] at h
   exact Bool.noConfusion h)
 clear hr h
 refine a2y Tryz.mixed okP e2b _ rfl fun E0 Sg hb hS=> ?_
 simp only[List.length_cons,List.length_nil] at hb
 cbv
 refine a3v hS hin ?_
 cases r<;>cbv<;>exact a2s (a0s rfl) (.cons (.refl _) (.nil _)) (.inl ⟨rfl,rfl⟩)
theorem d8w (b0 b1 b2 b3:Bool)(h0:a0j Tryz.prog true 113 [j5e l nc F M nn E] (bool b0))(h1:a0j Tryz.prog true 114 [j5e l nc F M nn E] (bool b1))(h2:a0j Tryz.prog true 115 [j5e l nc F M nn E] (bool b2))(h3:a0j Tryz.prog true 116 [j5e l nc F M nn E] (bool b3))(r:Bool)(hr:r=(b0&&b1&&b2&&b3)):
 a1h Tryz.prog 117 [.d (.sl 1 4 (Vf.rowAt [[fkr 113],[fkr 114],[fkr 115],[fkr 116]])),.fn 118 [] [.ptr 0 0]] [plO l nc F M nn E] (ro [plO l nc F M nn E] (bool r)):=by
 have:=e4x (l:=l) (nc:=nc) (F:=F) (M:=M) (nn:=nn) (E:=E) (n:=4) (by omega) (fun i=>match i with|0=>113|1=>114|2=>115|_=>116) (fun i=>match i with|0=>b0|1=>b1|2=>b2|_=>b3) (fun i hi=>by
  match i,hi with
  |0,_=>exact h0
  |1,_=>exact h1
  |2,_=>exact h2
  |3,_=>exact h3) r (by
  subst hr
  simp only[Bool.and_eq_true]
  constructor
  ·rintro⟨⟨⟨a0,a1⟩,a2⟩,a3⟩ i hi
   match i,hi with
   |0,_=>exact a0
   |1,_=>exact a1
   |2,_=>exact a2
   |3,_=>exact a3
  ·exact fun h=>⟨⟨⟨h 0 (by omega),h 1 (by omega)⟩,h 2 (by omega)⟩,h 3 (by omega)⟩)
 refine a1h.like (.cons (a0x.sl' rfl fun i hi=> ?_) (.cons (.refl _) .nil)) this
 match i,hi with
 |0,_=>rfl
 |1,_=>rfl
 |2,_=>rfl
 |3,_=>rfl
end
end Go.Proofs.Tryz.Run
