/- The program's widths. Conditions: none. -/
import Derived.Test.YtpcokdalcafgdaaGreatZUb
set_option linter.unusedSimpArgs false
set_option linter.unusedVariables false
namespace Go.Proofs.Tryz.Run
open Go Go.Vf Go.Proofs
open Go.Proofs.YtpcokdalcafgdaaGreat
def dslF (n:Nat)(lns:Nat→Nat)(lsz:Nat→Nat→Int)(lno:Nat→Nat)(lod:Nat→Nat→Int)(lne:Nat→Nat)(lef len:Nat→Nat→Int)(lnn:Nat→Nat)(lvar:Nat→Nat→Int)(lnk:Nat→Nat→Nat)(lkid:Nat→Nat→Nat→Int)(lroot:Nat→Int):AV:=
 .d (.sl 5 n fun i=>[.sl 1 (lns i) fun j=>[.int .i64 (.v (lsz i j))],.sl 1 (lno i) fun j=>[.int .i64 (.v (lod i j))],.sl 2 (lne i) fun j=>[.int .u8 (.v (lef i j)),.int .i64 (.v (len i j))],
  .sl 2 (lnn i) fun j=>[.int .i64 (.v (lvar i j)),.sl 1 (lnk i j) fun k=>[.int .i64 (.v (lkid i j k))]],.int .i64 (.v (lroot i))])
set_option maxHeartbeats 32000000 in
theorem widths56 {ns no:Nat}(sz od:Nat→Int)(n:Nat)(hn:n≤1000)(hns:ns≤1000000)(l:Nat→DiR)(hg: ∀i,i<n→(l i).good ns sz)(hc: ∀i,i<n→ ∀j,j<(l i).ne→(0≤((l i).en j).fault∧((l i).en j).fault≤255)∧i64ok ((l i).en j).n)
 (ce:Nat→List DV) (r:Nat→Int) (hr: ∀j,j<ns→r j=cnt (famW l n).on j):
 PureF Tryz.prog false 56 [.agg [isl ns sz,isl no od,dsl n l,.d (.sl 1 n ce)]] (isl ns r):=by
 obtain⟨lns,lsz,lno,lod,lne,lef,len,lnn,lvar,lnk,lkid,lroot,hl⟩: ∃lns lsz lno lod lne lef len lnn lvar lnk lkid lroot,∀i,l i=(⟨lns i,lsz i,lno i,lod i,lne i,fun j=>⟨lef i j,len i j⟩,lnn i,lvar i,lnk i,lkid i,lroot i⟩:DiR):=
  ⟨fun i=>(l i).ns,fun i=>(l i).sz,fun i=>(l i).no,fun i=>(l i).od,fun i=>(l i).ne,fun i j=>((l i).en j).fault,fun i j=>((l i).en j).n,fun i=>(l i).nn,fun i=>(l i).var,fun i=>(l i).nk,fun i=>(l i).kid,fun i=>(l i).root,fun i=>rfl⟩
 have hDS:dsl n l=dslF n lns lsz lno lod lne lef len lnn lvar lnk lkid lroot:=by
  unfold dsl
  simp only[hl]
  rfl
 rw[hDS]
 clear hDS
 refine pureF_of_fn Tryz.mixed okP ok56 _ rfl fun E Sg hb hS=> ?_
 have ett: ∀z,Sg.toNat z=z.toNat:=by subst hS;exact fun _=>rfl
 have eof: ∀q,Sg.ofNat q=(q:Int):=by subst hS;exact fun _=>rfl
 have es: ∀z,Sg.isub (Int.negSucc 0) z= -1-z:=by subst hS;exact fun _=>rfl
 cbv
 refine req_i hS (by subst hS;simp[std]) (req_i hS (by clear hg hc hr;subst hS;simp[std,big];omega) ?_)
 refine loop_i Tryz.mixed okP hS (σ:=Nat×Nat×Nat×(Nat→Int)×(List KC→Option Int)×(List KC→Option Int))
  (fun⟨i,q1,q2,w,f1,f2⟩=>i≤n∧q1=(famW l i).oe.length∧q2=(famW l i).on.length∧(∀j,j<ns→w j=cnt (famW l i).on j)∧RepW (shpW sz) (famW l i) f1 f2) (fun⟨i,_⟩=>n-i)
  (fun⟨i,q1,q2,w,f1,f2⟩=>⟨mkTs [(3,.msl 1 1 none ns false),(4,.map 2),(5,.map 3),(27,dslF n lns lsz lno lod lne lef len lnn lvar lnk lkid lroot),(28,int n),(29,int i)] 118,[.var [isl ns sz,isl no od,dslF n lns lsz lno lod lne lef len lnn lvar lnk lkid lroot,.d (.sl 1 n ce)],arrI ns w,.map true [.u8,.i64] q1 f1,.map true ks13 q2 f2],[]⟩)
  (0,0,0,fun _=>0,fun _=>none,fun _=>none) ⟨by omega,rfl,rfl,fun j _=>rfl,RepW.nil _⟩ ?_ ?_
 ·refine le_mk rfl ⟨(by subst hS;exact Like.refl _),Like.refl _,Like.refl _,Like.refl _,lk_v (by subst hS;rfl),lk_l rfl,trivial⟩ (.cons (.refl _) (.cons ?_ (.cons (.refl _) (.cons (.refl _) (.nil _))))) (by simp;omega) (.inr rfl) rfl
  clear hg hc hr
  subst hS
  refine LikeO.arrr rfl fun j hj=> ?_
  simp only[std] at hj⊢
  rw[if_pos hj]
  exact .one (.int rfl)
 ·rintro⟨i,q1,q2,w,f1,f2⟩ ⟨hi,hq1,hq2,hw,hrep⟩ N hN
  simp only at hi hq1 hq2 hw hrep hN
  cbv
  split
  ·have hlt:i<n:=by rename_i h;clear hN hg hc hr hw hrep;subst hS;simp[std] at h;omega
   cbv
   refine req_i hS (by clear hN hg hc hr hw hrep;subst hS;simp[std];omega) ?_
   simp only[nat,ett,Int.ofNat_eq_natCast,Int.toNat_natCast]
   have hgd:=hg i hlt
   have hcd:=hc i hlt
   have hnn:lnn i≤6000:=by have:=hgd.nn;rw[hl] at this;exact this
   have hne:lne i≤1000000:=by have:=hgd.ne;rw[hl] at this;exact this
   obtain⟨s0,hs0⟩: ∃s0,famW l i=s0:=⟨_,rfl⟩
   have hlen:=famW_len l (n:=n) (fun i hi=>⟨(hg i hi).nn,fun j hj=>((hg i hi).nk j hj).2⟩) i hi
   have hfam:famW l (i+1)=(diaW (l i) s0 (lnn i)).1:=by rw[famW,hs0];simp only[hl]
   rw[hs0] at hq1 hq2 hw hrep hlen
   have hdl: ∀j,j≤lnn i→(diaW (l i) s0 j).1.oe.length≤s0.oe.length+12*j∧(diaW (l i) s0 j).1.on.length≤s0.on.length+j:=fun j hj=>diaW_len (l i) s0 (fun j hj=>(hgd.nk j hj).2) j (by rw[hl];exact hj)
   refine req_i hS (by clear hN hg hc hr hw hrep hcd hgd hdl;subst hS;simp[std]) (req_i hS (by clear hN hg hc hr hw hrep hcd hgd hdl;subst hS;simp[std,big];omega) ?_)
   refine loop_i Tryz.mixed okP hS (σ:=Nat×(Nat→Int)×Nat×Nat×(Nat→Int)×(List KC→Option Int)×(List KC→Option Int))
    (fun⟨j,u,q1,q2,w,f1,f2⟩=>j≤lnn i∧q1=(diaW (l i) s0 j).1.oe.length∧q2=(diaW (l i) s0 j).1.on.length∧(∀m,m<ns→w m=cnt (diaW (l i) s0 j).1.on m)∧RepW (shpW sz) (diaW (l i) s0 j).1 f1 f2∧u=(diaW (l i) s0 j).2) (fun⟨j,_⟩=>lnn i-j)
    (fun⟨j,u,q1,q2,w,f1,f2⟩=>⟨mkTs [(3,.msl 1 1 none ns false),(4,.map 2),(5,.map 3),(7,.ptr 4 0),(8,.msl 5 1 none (lnn i) false),(27,dslF n lns lsz lno lod lne lef len lnn lvar lnk lkid lroot),(28,int n),(29,int i),(38,bsl (lnn i) (lvar i) (lnk i) (lkid i)),(39,int (lnn i)),(40,int j)] 118,
      [.var [isl ns sz,isl no od,dslF n lns lsz lno lod lne lef len lnn lvar lnk lkid lroot,.d (.sl 1 n ce)],arrI ns w,.map true [.u8,.i64] q1 f1,.map true ks13 q2 f2,.var [isl (lns i) (lsz i),isl (lno i) (lod i),vsl (lne i) (fun j=>⟨lef i j,len i j⟩),bsl (lnn i) (lvar i) (lnk i) (lkid i),int (lroot i)],arrI (lnn i) u],[]⟩)
    (0,fun _=>0,q1,q2,w,f1,f2) ⟨by omega,hq1,hq2,hw,hrep,rfl⟩ ?_ ?_
   ·refine le_mk rfl ⟨Like.refl _,Like.refl _,Like.refl _,Like.refl _,(by clear hN hg hc hr hw hrep hcd hgd hdl;subst hS;exact Like.refl _),Like.refl _,Like.refl _,Like.refl _,Like.refl _,lk_v (by clear hN hg hc hr hw hrep hcd hgd hdl;subst hS;rfl),lk_l rfl,trivial⟩ (.cons (.refl _) (.cons (.refl _) (.cons (.refl _) (.cons (.refl _) (.cons (.refl _) (.cons ?_ (.nil _))))))) (by simp;omega) (.inr rfl) rfl
    clear hN hg hc hr hw hrep hcd hgd hdl
    subst hS
    refine LikeO.arrr rfl fun j hj=> ?_
    simp only[std] at hj⊢
    rw[if_pos hj]
    exact .one (.int rfl)
   ·clear hq1 hq2 hw hrep
    clear q1 q2 w f1 f2
    rintro⟨j,u,q1,q2,w,f1,f2⟩ ⟨hj,hq1,hq2,hw,hrep,hu⟩ N2 hN2
    simp only at hj hq1 hq2 hw hrep hu hN2
    have hdj:=hdl j hj
    cbv
    split
    ·have hjlt:j<lnn i:=by rename_i h;clear hN hN2 hg hc hr hw hrep hcd hgd hdl hu;subst hS;simp[std] at h;omega
     cbv
     have hgk:1≤lnk i j∧lnk i j≤12:=by have:=hgd.nk j (by rw[hl];exact hjlt);rw[hl] at this;exact this
     have hgv:0≤lvar i j∧lvar i j<ns∧(lnk i j:Int)=sz (lvar i j).toNat:=by have:=hgd.var j (by rw[hl];exact hjlt);rw[hl] at this;exact this
     have hgr: ∀k,k<lnk i j→refOk (lne i) (lkid i j k) j:=by have:=hgd.kid j (by rw[hl];exact hjlt);rw[hl] at this;exact this
     obtain⟨s1,hs1⟩: ∃s1,(diaW (l i) s0 j).1=s1:=⟨_,rfl⟩
     have hrefs:=diaW_refs (l i) s0 j
     rw[hs1] at hq1 hq2 hw hrep hdj hrefs
     rw[←hu] at hrefs
     have hs1b:s1.oe.length≤80000000∧s1.on.length≤80000000:=by omega
     have hkl:=kidW_len (l i) u j s1
     have hko:=kidW_on (l i) u j s1
     refine req_i hS (by clear hN hN2 hg hc hr hw hrep hcd hgd hdl hu hgr hrefs hkl hko;subst hS;exact⟨Int.natCast_nonneg j,Int.ofNat_lt.2 hjlt⟩) ?_
     simp only[nat,ett,Int.ofNat_eq_natCast,Int.toNat_natCast]
     refine loop_i Tryz.mixed okP hS (σ:=Nat×(Nat→Int)×Nat×(List KC→Option Int))
      (fun⟨k,v,q1,f1⟩=>k≤lnk i j∧q1=(kidW (l i) u j s1 k).1.oe.length∧RepW (shpW sz) (kidW (l i) u j s1 k).1 f1 f2∧v=(kidW (l i) u j s1 k).2) (fun⟨k,_⟩=>lnk i j-k)
      (fun⟨k,v,q1,f1⟩=>⟨mkTs [(3,.msl 1 1 none ns false),(4,.map 2),(5,.map 3),(7,.ptr 4 0),(8,.msl 5 1 none (lnn i) false),(9,int j),(10,.ptr 6 0),(11,.ptr 7 0),(27,dslF n lns lsz lno lod lne lef len lnn lvar lnk lkid lroot),(28,int n),(29,int i),(38,bsl (lnn i) (lvar i) (lnk i) (lkid i)),(39,int (lnn i)),(40,int j),
        (49,isl (lnk i j) (lkid i j)),(50,int (lnk i j)),(51,.d (.int .i64 (.l (Int.ofNat k))))] 118,
        [.var [isl ns sz,isl no od,dslF n lns lsz lno lod lne lef len lnn lvar lnk lkid lroot,.d (.sl 1 n ce)],arrI ns w,.map true [.u8,.i64] q1 f1,.map true ks13 q2 f2,.var [isl (lns i) (lsz i),isl (lno i) (lod i),vsl (lne i) (fun j=>⟨lef i j,len i j⟩),bsl (lnn i) (lvar i) (lnk i) (lkid i),int (lroot i)],arrI (lnn i) u,.var [int (lvar i j),isl (lnk i j) (lkid i j)],
          .var [int (lvar i j),int (v 0),int (v 1),int (v 2),int (v 3),int (v 4),int (v 5),int (v 6),int (v 7),int (v 8),int (v 9),int (v 10),int (v 11)]],[]⟩)
      (0,fun _=>0,q1,f1) ⟨by omega,hq1,hrep,rfl⟩ ?_ ?_
     ·refine le_mk rfl ⟨Like.refl _,Like.refl _,Like.refl _,Like.refl _,Like.refl _,Like.refl _,Like.refl _,Like.refl _,Like.refl _,Like.refl _,Like.refl _,Like.refl _,Like.refl _,Like.refl _,Like.refl _,lk_v (by clear hN hN2 hg hc hr hw hrep hcd hgd hdl hu hgr hrefs hkl hko;subst hS;rfl),Like.refl _,trivial⟩ (.cons (.refl _) (.cons (.refl _) (.cons (.refl _) (.cons (.refl _) (.cons (.refl _) (.cons (.refl _) (.cons (.refl _) (.cons (LikeO.var ?_) (.nil _))))))))) (by simp;omega) (.inr rfl) rfl
      exact .cons (Like.refl _) (.cons (lk_l rfl) (.cons (lk_l rfl) (.cons (lk_l rfl) (.cons (lk_l rfl) (.cons (lk_l rfl) (.cons (lk_l rfl) (.cons (lk_l rfl) (.cons (lk_l rfl) (.cons (lk_l rfl) (.cons (lk_l rfl) (.cons (lk_l rfl) (.cons (lk_l rfl) .nil))))))))))))
     ·rintro⟨k,v,q1,f1⟩ ⟨hk,hq1,hrep,hv⟩ N3 hN3
      simp only at hk hq1 hrep hv hN3
      have hklk:=hkl k
      cbv
      split
      ·have hklt:k<lnk i j:=by rename_i h;clear hN hN2 hN3 hg hc hr hw hrep hcd hgd hdl hu hgr hrefs hkl hko hv;subst hS;simp[std] at h;omega
       have hkk:=hgr k hklt
       obtain⟨s2,hs2⟩: ∃s2,(kidW (l i) u j s1 k).1=s2:=⟨_,rfl⟩
       obtain⟨x,hx⟩: ∃x,lkid i j k=x:=⟨_,rfl⟩
       have hstep:kidW (l i) u j s1 (k+1)=((resW (l i) u s2 x).1,setAt v k (resW (l i) u s2 x).2):=by
        rw[kidW,hs2,←hv]
        simp only[hl,hx]
       rw[hs2] at hq1 hrep hklk
       rw[hx] at hkk
       have hk12:k=0∨k=1∨k=2∨k=3∨k=4∨k=5∨k=6∨k=7∨k=8∨k=9∨k=10∨k=11:=by omega
       cbv
       refine req_i hS (by clear hN hN2 hN3 hg hc hr hw hrep hcd hgd hdl hu hgr hrefs hkl hko hv hkk hk12;subst hS;exact⟨Int.natCast_nonneg k,Int.ofNat_lt.2 hklt⟩) ?_
       simp only[nat,ett,Int.ofNat_eq_natCast,Int.toNat_natCast]
       simp only[hx]
       split
       ·have hx0:0≤x:=by rename_i h;clear hN hN2 hN3 hg hc hr hw hrep hcd hgd hdl hu hgr hrefs hkl hko hv hkk hk12;subst hS;simp[std] at h;exact h
        have hres:resW (l i) u s2 x=(s2,u x.toNat):=by rw[resW,if_pos hx0]
        rw[hres] at hstep
        have hxj:=hkk.1 hx0
        have hxn:x<lnn i:=Int.lt_trans hxj (Int.ofNat_lt.2 hjlt)
        have hxt:x.toNat<lnn i:=(Int.toNat_lt hx0).2 hxn
        rcases hk12 with h|h|h|h|h|h|h|h|h|h|h|h<;>
        ·simp only[h]
         cbv
         refine req_i hS (by clear hN hN2 hN3 hg hc hr hw hrep hcd hgd hdl hu hgr hrefs hkl hko hv hkk;subst hS;exact⟨hx0,hxn⟩) ?_
         refine req_i hS (by clear hN hN2 hN3 hg hc hr hw hrep hcd hgd hdl hu hgr hrefs hkl hko hv hkk;subst hS;exact hxt) ?_
         refine req_i hS (by clear hN hN2 hN3 hg hc hr hw hrep hcd hgd hdl hu hgr hrefs hkl hko hv hkk;subst hS;exact wrap64 (by simp[std]) (by simp[std])) ?_
         refine hN3 (k+1,setAt v k (u x.toNat),q1,f1) _ ⟨by simp only;omega,by simp only[hstep,hq1],by simp only[hstep];exact hrep,by simp only[hstep]⟩ (by simp only;omega) (le_mk rfl ⟨Like.refl _,Like.refl _,Like.refl _,Like.refl _,Like.refl _,Like.refl _,Like.refl _,Like.refl _,Like.refl _,Like.refl _,Like.refl _,Like.refl _,Like.refl _,Like.refl _,Like.refl _,Like.refl _,Like.int (by rw[h]),trivial⟩
          (.cons (.refl _) (.cons (.refl _) (.cons (.refl _) (.cons (.refl _) (.cons (.refl _) (.cons (.refl _) (.cons (.refl _) (.cons (LikeO.var ?_) (.nil _))))))))) (by simp;omega) (.inr rfl) rfl)
         simp only[ett]
         exact .cons (Like.refl _) (.cons (lk_v (by rw[h];rfl)) (.cons (lk_v (by rw[h];rfl)) (.cons (lk_v (by rw[h];rfl)) (.cons (lk_v (by rw[h];rfl)) (.cons (lk_v (by rw[h];rfl)) (.cons (lk_v (by rw[h];rfl)) (.cons (lk_v (by rw[h];rfl)) (.cons (lk_v (by rw[h];rfl)) (.cons (lk_v (by rw[h];rfl)) (.cons (lk_v (by rw[h];rfl)) (.cons (lk_v (by rw[h];rfl)) (.cons (lk_v (by rw[h];rfl)) (.nil)))))))))))))
       ·have hx0:x<0:=by rename_i h;clear hN hN2 hN3 hg hc hr hw hrep hcd hgd hdl hu hgr hrefs hkl hko hv hkk hk12;subst hS;simp[std] at h;exact h
        have hx1:=hkk.2 hx0
        have hx2:0≤ -1-x:=by omega
        have hx3: -1-x≤1000000:=by have:=Int.ofNat_le.2 hne;omega
        obtain⟨y,hy⟩: ∃y,(-1-x).toNat=y:=⟨_,rfl⟩
        have hyl:y<lne i:=by rw[←hy];exact (Int.toNat_lt hx2).2 hx1
        obtain⟨cf,hcf⟩: ∃cf,lef i y=cf:=⟨_,rfl⟩
        obtain⟨cn,hcn⟩: ∃cn,len i y=cn:=⟨_,rfl⟩
        have hres:resW (l i) u s2 x=(⟨Law.onceE s2.oe ⟨cf,cn⟩,s2.on⟩,-1-(Law.at1 s2.oe (⟨cf,cn⟩:VaR):Int)):=by rw[resW,if_neg (by omega)];simp only[hl,hy,hcf,hcn]
        rw[hres] at hstep
        have hcb:(0≤cf∧cf≤255)∧i64ok cn:=by have:=hcd y (by rw[hl];exact hyl);rw[hl] at this;simp only[hcf,hcn] at this;exact this
        have hq1b:q1≤100000000:=by omega
        cases hfk:f1 [.i cf,.i cn] with
        |some z=>
         have hh:Sg.mhas f1 [.i cf,.i cn]=true:=by clear hN hN2 hN3 hg hc hr hw hrep hcd hgd hdl hu hgr hrefs hkl hko hv hkk hk12;subst hS;simp[std,hfk]
         have hgt:Sg.mget f1 [.i cf,.i cn]=z:=by clear hN hN2 hN3 hg hc hr hw hrep hcd hgd hdl hu hgr hrefs hkl hko hv hkk hk12;subst hS;simp[std,hfk]
         obtain⟨hz1,hz2⟩:=hrep.hit ⟨cf,cn⟩ hfk
         rw[hz2] at hstep
         rcases hk12 with h|h|h|h|h|h|h|h|h|h|h|h<;>
         ·simp only[h]
          cbv
          simp only[nat,ett,es,hy,hcf,hcn,hh]
          refine req_i hS (by clear hN hN2 hN3 hg hc hr hw hrep hcd hgd hdl hu hgr hrefs hkl hko hv hkk;subst hS;exact wrap64 (by omega) (by omega)) (req_i hS (by clear hN hN2 hN3 hg hc hr hw hrep hcd hgd hdl hu hgr hrefs hkl hko hv hkk;subst hS;exact⟨hx2,hx1⟩) (req_i hS (by clear hN hN2 hN3 hg hc hr hw hrep hcd hgd hdl hu hgr hrefs hkl hko hv hkk;subst hS;simp[std,IntKind.wrap,IntKind.bits,IntKind.signed];omega) (req_i hS (by clear hN hN2 hN3 hg hc hr hw hrep hcd hgd hdl hu hgr hrefs hkl hko hv hkk;subst hS;exact wrap64 hcb.2.1 hcb.2.2) ?_)))
          cbv
          simp only[hgt]
          refine req_i hS (by clear hN hN2 hN3 hg hc hr hw hrep hcd hgd hdl hu hgr hrefs hkl hko hv hkk;subst hS;simp[std,IntKind.wrap,IntKind.bits,IntKind.signed];omega) (req_i hS (by clear hN hN2 hN3 hg hc hr hw hrep hcd hgd hdl hu hgr hrefs hkl hko hv hkk;subst hS;exact wrap64 hcb.2.1 hcb.2.2) (req_i hS (by clear hN hN2 hN3 hg hc hr hw hrep hcd hgd hdl hu hgr hrefs hkl hko hv hkk;subst hS;exact wrap64 (by simp[std]) (by simp[std])) ?_))
          refine hN3 (k+1,setAt v k z,q1,f1) _ ⟨by simp only;omega,by simp only[hstep,hq1],by simp only[hstep];exact hrep,by simp only[hstep,hz1]⟩ (by simp only;omega) (le_mk rfl ⟨Like.refl _,Like.refl _,Like.refl _,Like.refl _,Like.refl _,Like.refl _,Like.refl _,Like.refl _,Like.refl _,Like.refl _,Like.refl _,Like.refl _,Like.refl _,Like.refl _,Like.refl _,Like.refl _,Like.int (by rw[h]),trivial⟩
           (.cons (.refl _) (.cons (.refl _) (.cons (.refl _) (.cons (.refl _) (.cons (.refl _) (.cons (.refl _) (.cons (.refl _) (.cons (LikeO.var ?_) (.nil _))))))))) (by simp;omega) (.inl ⟨by cbv,by cbv⟩) rfl)
          exact .cons (Like.refl _) (.cons (lk_v (by rw[h];rfl)) (.cons (lk_v (by rw[h];rfl)) (.cons (lk_v (by rw[h];rfl)) (.cons (lk_v (by rw[h];rfl)) (.cons (lk_v (by rw[h];rfl)) (.cons (lk_v (by rw[h];rfl)) (.cons (lk_v (by rw[h];rfl)) (.cons (lk_v (by rw[h];rfl)) (.cons (lk_v (by rw[h];rfl)) (.cons (lk_v (by rw[h];rfl)) (.cons (lk_v (by rw[h];rfl)) (.cons (lk_v (by rw[h];rfl)) (.nil)))))))))))))
        |none=>
         have hh:Sg.mhas f1 [.i cf,.i cn]=false:=by clear hN hN2 hN3 hg hc hr hw hrep hcd hgd hdl hu hgr hrefs hkl hko hv hkk hk12;subst hS;simp[std,hfk]
         have hwr:Sg.inr .i64 (-1-(q1:Int)):=by clear hN hN2 hN3 hg hc hr hw hrep hcd hgd hdl hu hgr hrefs hkl hko hv hkk hk12;subst hS;exact wrap64 (by omega) (by omega)
         have hset: ∀z,Sg.mget (Sg.mset f1 [.i cf,.i cn] z) [.i cf,.i cn]=z:=by clear hN hN2 hN3 hg hc hr hw hrep hcd hgd hdl hu hgr hrefs hkl hko hv hkk hk12;subst hS;simp[std]
         have hcnt:Sg.mcnt f1 [.i cf,.i cn] q1=q1+1:=by clear hN hN2 hN3 hg hc hr hw hrep hcd hgd hdl hu hgr hrefs hkl hko hv hkk hk12;subst hS;simp[std,hfk]
         have hms: ∀z k,Sg.mset f1 [.i cf,.i cn] z k=if k=[.i cf,.i cn] then some z else f1 k:=by clear hN hN2 hN3 hg hc hr hw hrep hcd hgd hdl hu hgr hrefs hkl hko hv hkk hk12;subst hS;intro z k;rfl
         obtain⟨hz1,hz2,hz3⟩:=hrep.miss ⟨cf,cn⟩ hfk
         rw[hz1,←hq1] at hstep
         rw[←hq1] at hz2 hz3
         rcases hk12 with h|h|h|h|h|h|h|h|h|h|h|h<;>
         ·simp only[h]
          cbv
          simp only[nat,ett,es,hy,hcf,hcn,hh]
          refine req_i hS (by clear hN hN2 hN3 hg hc hr hw hrep hcd hgd hdl hu hgr hrefs hkl hko hv hkk;subst hS;exact wrap64 (by omega) (by omega)) (req_i hS (by clear hN hN2 hN3 hg hc hr hw hrep hcd hgd hdl hu hgr hrefs hkl hko hv hkk;subst hS;exact⟨hx2,hx1⟩) (req_i hS (by clear hN hN2 hN3 hg hc hr hw hrep hcd hgd hdl hu hgr hrefs hkl hko hv hkk;subst hS;simp[std,IntKind.wrap,IntKind.bits,IntKind.signed];omega) (req_i hS (by clear hN hN2 hN3 hg hc hr hw hrep hcd hgd hdl hu hgr hrefs hkl hko hv hkk;subst hS;exact wrap64 hcb.2.1 hcb.2.2) ?_)))
          cbv
          simp only[hset,hcnt,es,eof]
          refine req_i hS hwr (req_i hS (by clear hN hN2 hN3 hg hc hr hw hrep hcd hgd hdl hu hgr hrefs hkl hko hv hkk;subst hS;simp[std,IntKind.wrap,IntKind.bits,IntKind.signed];omega) (req_i hS (by clear hN hN2 hN3 hg hc hr hw hrep hcd hgd hdl hu hgr hrefs hkl hko hv hkk;subst hS;exact wrap64 hcb.2.1 hcb.2.2) (req_i hS (by clear hN hN2 hN3 hg hc hr hw hrep hcd hgd hdl hu hgr hrefs hkl hko hv hkk;subst hS;simp[std,IntKind.wrap,IntKind.bits,IntKind.signed];omega) (req_i hS (by clear hN hN2 hN3 hg hc hr hw hrep hcd hgd hdl hu hgr hrefs hkl hko hv hkk;subst hS;exact wrap64 hcb.2.1 hcb.2.2) (req_i hS (by clear hN hN2 hN3 hg hc hr hw hrep hcd hgd hdl hu hgr hrefs hkl hko hv hkk;subst hS;exact wrap64 (by simp[std]) (by simp[std])) ?_)))))
          refine hN3 (k+1,setAt v k (-1-(q1:Int)),q1+1,fun k=>if k=[.i cf,.i cn] then some (-1-(q1:Int)) else f1 k) _ ⟨by simp only;omega,by simp only[hstep,hz2],by simp only[hstep];exact hz3,by simp only[hstep]⟩ (by simp only;omega) (le_mk rfl ⟨Like.refl _,Like.refl _,Like.refl _,Like.refl _,Like.refl _,Like.refl _,Like.refl _,Like.refl _,Like.refl _,Like.refl _,Like.refl _,Like.refl _,Like.refl _,Like.refl _,Like.refl _,Like.refl _,Like.int (by rw[h]),trivial⟩
           (.cons (.refl _) (.cons (.refl _) (.cons (LikeO.map rfl fun k=>hms _ k) (.cons (.refl _) (.cons (.refl _) (.cons (.refl _) (.cons (.refl _) (.cons (LikeO.var ?_) (.nil _))))))))) (by simp;omega) (.inl ⟨by cbv,by cbv⟩) rfl)
          exact .cons (Like.refl _) (.cons (lk_v (by rw[h];rfl)) (.cons (lk_v (by rw[h];rfl)) (.cons (lk_v (by rw[h];rfl)) (.cons (lk_v (by rw[h];rfl)) (.cons (lk_v (by rw[h];rfl)) (.cons (lk_v (by rw[h];rfl)) (.cons (lk_v (by rw[h];rfl)) (.cons (lk_v (by rw[h];rfl)) (.cons (lk_v (by rw[h];rfl)) (.cons (lk_v (by rw[h];rfl)) (.cons (lk_v (by rw[h];rfl)) (.cons (lk_v (by rw[h];rfl)) (.nil)))))))))))))
      ·have hkeq:k=(lnk i) j:=by rename_i h;clear hN hN2 hN3 hg hc hr hw hrep hcd hgd hdl hu hgr hrefs hkl hko hv;subst hS;simp[std] at h;omega
       subst hkeq
       obtain⟨s2,hs2⟩: ∃s2,(kidW (l i) u j s1 (lnk i j)).1=s2:=⟨_,rfl⟩
       have hon2:s2.on=s1.on:=by rw[←hs2];exact hko _
       have hv0: ∀m,lnk i j≤m→v m=0:=fun m hm=>by rw[hv];exact kidW_zero _ _ _ _ _ _ hm
       have hkey:keyW (l i) u j s1=⟨lvar i j,L (lnk i j) v⟩:=by rw[keyW];simp only[hl];rw[hv];simp only[hl]
       have hvb: ∀m,m<12→ -100000001≤v m∧v m≤100000000:=fun m _=>by
        have:=kidW_bd (l i) u j s1 100000000 (by simp only[hl];exact Int.ofNat_le.2 (show s1.oe.length+lnk i j≤100000000 by omega)) (fun k hk h0=> ?_) (lnk i j) (by simp only[hl];omega) m
        ·rw[←hv] at this;omega
        ·simp only[hl] at hk h0⊢
         have h1:=(hgr k hk).1 h0
         have h2:=hrefs (lkid i j k).toNat ((Int.toNat_lt h0).2 h1)
         exact⟨h2.1,Int.le_trans (Int.le_of_lt h2.2) (Int.le_trans (Int.ofNat_le.2 hs1b.2) (by decide))⟩
       have hnk:nkey (lvar i j) (lnk i j) v=[.i (lvar i j),.i (v 0),.i (v 1),.i (v 2),.i (v 3),.i (v 4),.i (v 5),.i (v 6),.i (v 7),.i (v 8),.i (v 9),.i (v 10),.i (v 11)]:=by
        have: ∀m,(if m<lnk i j then v m else 0)=v m:=fun m=>by
         split
         ·rfl
         ·rw[hv0 m (by omega)]
        simp only[nkey,this]
       have hdstep:diaW (l i) s0 (j+1)=(⟨s2.oe,Law.onceE s1.on ⟨lvar i j,L (lnk i j) v⟩⟩,setAt u j (Law.at1 s1.on (⟨lvar i j,L (lnk i j) v⟩:NdR))):=by
        rw[diaW,hs1,←hu,hkey,hko]
        simp only[hl]
        simp only[hl] at hs2
        rw[hs2]
       have hvr: ∀m,m<12→Sg.inr .i64 (v m):=fun m hm=>by
        have:=hvb m hm
        clear hN hN2 hN3 hg hc hr hw hrep hcd hgd hdl hu hgr hrefs hkl hko hv
        subst hS
        exact wrap64 (by omega) (by omega)
       have hvar2:lvar i j≤1000000:=Int.le_trans (Int.le_of_lt hgv.2.1) (Int.ofNat_le.2 hns)
       have hvar1:=hgv.1
       cbv
       refine req_i hS (by clear hN hN2 hN3 hg hc hr hw hrep hcd hgd hdl hu hgr hrefs hkl hko hv;subst hS;exact wrap64 (by omega) (by omega)) ?_
       refine req_i hS (hvr 0 (by omega)) (req_i hS (hvr 1 (by omega)) (req_i hS (hvr 2 (by omega)) (req_i hS (hvr 3 (by omega)) (req_i hS (hvr 4 (by omega)) (req_i hS (hvr 5 (by omega)) (req_i hS (hvr 6 (by omega)) (req_i hS (hvr 7 (by omega)) (req_i hS (hvr 8 (by omega)) (req_i hS (hvr 9 (by omega)) (req_i hS (hvr 10 (by omega)) (req_i hS (hvr 11 (by omega)) ?_)))))))))))
       have hshp:shpW sz ⟨lvar i j,L (lnk i j) v⟩:=⟨by simp only[L_length];omega,by simp only[L_length];exact hgv.2.2⟩
       cases hfk:f2 (nkey (lvar i j) (lnk i j) v) with
       |some z=>
        obtain⟨hz1,hz2⟩:=(show RepW (shpW sz) s2 f1 f2 by rw[←hs2];exact hrep).hitN hshp hfk
        rw[hnk] at hfk
        rw[hon2] at hz1 hz2
        rw[hz2] at hdstep
        have hdstep:diaW (l i) s0 (j+1)=(⟨s2.oe,s1.on⟩,setAt u j z):=hdstep.trans (by rw[hz1])
        have hh:Sg.mhas f2 [.i (lvar i j),.i (v 0),.i (v 1),.i (v 2),.i (v 3),.i (v 4),.i (v 5),.i (v 6),.i (v 7),.i (v 8),.i (v 9),.i (v 10),.i (v 11)]=true:=by
         clear hN hN2 hN3 hg hc hr hw hrep hcd hgd hdl hu hgr hrefs hkl hko hv;subst hS;show (f2 _).isSome=true;rw[hfk];rfl
        have hgt:Sg.mget f2 [.i (lvar i j),.i (v 0),.i (v 1),.i (v 2),.i (v 3),.i (v 4),.i (v 5),.i (v 6),.i (v 7),.i (v 8),.i (v 9),.i (v 10),.i (v 11)]=z:=by
         clear hN hN2 hN3 hg hc hr hw hrep hcd hgd hdl hu hgr hrefs hkl hko hv;subst hS;show (f2 _).getD 0=z;rw[hfk];rfl
        simp only[hh,hgt]
        cbv
        refine req_i hS (by clear hN hN2 hN3 hg hc hr hw hrep hcd hgd hdl hu hgr hrefs hkl hko hv hvr hvb hv0;subst hS;exact⟨Int.natCast_nonneg j,Int.ofNat_lt.2 hjlt⟩) (req_i hS (by clear hN hN2 hN3 hg hc hr hw hrep hcd hgd hdl hu hgr hrefs hkl hko hv hvr hvb hv0;subst hS;exact hjlt) (req_i hS (by clear hN hN2 hN3 hg hc hr hw hrep hcd hgd hdl hu hgr hrefs hkl hko hv hvr hvb hv0;subst hS;exact wrap64 (by simp[std];omega) (by simp[std];omega)) ?_))
        refine hN2 (j+1,setAt u j z,q1,q2,w,f1,f2) _ ⟨by simp only;omega,by simp only[hdstep];rw[hq1,hs2],by simp only[hdstep];exact hq2,by simp only[hdstep];exact hw,by simp only[hdstep,←hon2,←hs2];exact hrep,by simp only[hdstep]⟩ (by simp only;omega) (le_mk rfl ⟨Like.refl _,Like.refl _,Like.refl _,Like.refl _,Like.refl _,Like.refl _,Like.refl _,Like.refl _,Like.refl _,Like.refl _,lk_v ?_,trivial⟩
         (.cons (.refl _) (.cons (.refl _) (.cons (.refl _) (.cons (.refl _) (.cons (.refl _) (.cons (LikeO.arrr ?_ ?_) (.nil _))))))) (by simp;omega) (.inl ⟨by cbv,by cbv⟩) rfl)
        ·clear hN hN2 hN3 hg hc hr hw hrep hcd hgd hdl hu hgr hrefs hkl hko hv hvr hvb hv0;subst hS;simp[std]
        ·rfl
        ·intro m hm
         clear hN hN2 hN3 hg hc hr hw hrep hcd hgd hdl hu hgr hrefs hkl hko hv hvr hvb hv0
         subst hS
         simp only[std,setAt,Int.toNat_natCast,Int.ofNat_eq_natCast]
         split
         ·exact .one (.int rfl)
         ·exact .refl _
       |none=>
        obtain⟨hz1,hz2,hz3⟩:=(show RepW (shpW sz) s2 f1 f2 by rw[←hs2];exact hrep).missN (shpW_ok sz) hshp hfk
        rw[hnk] at hfk
        rw[hon2] at hz1 hz2 hz3
        rw[hz2,hz1] at hdstep
        rw[hz2] at hz3
        rw[←hq2] at hdstep hz3
        rw[hnk] at hz3
        have hh:Sg.mhas f2 [.i (lvar i j),.i (v 0),.i (v 1),.i (v 2),.i (v 3),.i (v 4),.i (v 5),.i (v 6),.i (v 7),.i (v 8),.i (v 9),.i (v 10),.i (v 11)]=false:=by
         clear hN hN2 hN3 hg hc hr hw hrep hcd hgd hdl hu hgr hrefs hkl hko hv;subst hS;show (f2 _).isSome=false;rw[hfk];rfl
        have hcnt:Sg.mcnt f2 [.i (lvar i j),.i (v 0),.i (v 1),.i (v 2),.i (v 3),.i (v 4),.i (v 5),.i (v 6),.i (v 7),.i (v 8),.i (v 9),.i (v 10),.i (v 11)] q2=q2+1:=by
         clear hN hN2 hN3 hg hc hr hw hrep hcd hgd hdl hu hgr hrefs hkl hko hv;subst hS;show (if (f2 _).isSome then q2 else q2+1)=q2+1;rw[hfk];rfl
        simp only[hh]
        cbv
        simp only[hcnt,eof,ett]
        have hvt:(lvar i j).toNat<ns:=(Int.toNat_lt hgv.1).2 hgv.2.1
        have hvin:0≤lvar i j∧lvar i j<ns:=⟨hgv.1,hgv.2.1⟩
        have hwv:=hw _ hvt
        have hcl:=cnt_le s1.on (lvar i j).toNat
        have hwr:Sg.inr .i64 (Sg.iadd (w (lvar i j).toNat) (Int.ofNat 1)):=by
         have h1:=Int.le_trans hcl.2 (Int.ofNat_le.2 hs1b.2)
         rw[←hwv] at h1 hcl
         have h0:=hcl.1
         clear hN hN2 hN3 hg hc hr hw hrep hcd hgd hdl hu hgr hrefs hkl hko hv hvr hvb hv0 hh hcnt hfk
         clear hwv
         subst hS
         have h2:w (lvar i j).toNat≤80000000:=h1
         exact wrap64 (by simp[std];omega) (by simp[std];omega)
        refine req_i hS (by clear hN hN2 hN3 hg hc hr hw hrep hcd hgd hdl hu hgr hrefs hkl hko hv hvr hvb hv0 hh hcnt hfk;subst hS;exact wrap64 (by omega) (by omega)) ?_
        refine req_i hS (hvr 0 (by omega)) (req_i hS (hvr 1 (by omega)) (req_i hS (hvr 2 (by omega)) (req_i hS (hvr 3 (by omega)) (req_i hS (hvr 4 (by omega)) (req_i hS (hvr 5 (by omega)) (req_i hS (hvr 6 (by omega)) (req_i hS (hvr 7 (by omega)) (req_i hS (hvr 8 (by omega)) (req_i hS (hvr 9 (by omega)) (req_i hS (hvr 10 (by omega)) (req_i hS (hvr 11 (by omega)) ?_)))))))))))
        refine req_i hS (by clear hN hN2 hN3 hg hc hr hw hrep hcd hgd hdl hu hgr hrefs hkl hko hv hvr hvb hv0 hh hcnt hfk;subst hS;exact hvin) (req_i hS (by clear hN hN2 hN3 hg hc hr hw hrep hcd hgd hdl hu hgr hrefs hkl hko hv hvr hvb hv0 hh hcnt hfk;subst hS;exact hvt) (req_i hS hwr (req_i hS (by clear hN hN2 hN3 hg hc hr hw hrep hcd hgd hdl hu hgr hrefs hkl hko hv hvr hvb hv0 hh hcnt hfk;subst hS;exact hvin) (req_i hS (by clear hN hN2 hN3 hg hc hr hw hrep hcd hgd hdl hu hgr hrefs hkl hko hv hvr hvb hv0 hh hcnt hfk;subst hS;exact hvt) ?_))))
        refine req_i hS (by clear hN hN2 hN3 hg hc hr hw hrep hcd hgd hdl hu hgr hrefs hkl hko hv hvr hvb hv0 hh hcnt hfk;subst hS;exact⟨Int.natCast_nonneg j,Int.ofNat_lt.2 hjlt⟩) (req_i hS (by clear hN hN2 hN3 hg hc hr hw hrep hcd hgd hdl hu hgr hrefs hkl hko hv hvr hvb hv0 hh hcnt hfk;subst hS;exact hjlt) (req_i hS (by clear hN hN2 hN3 hg hc hr hw hrep hcd hgd hdl hu hgr hrefs hkl hko hv hvr hvb hv0 hh hcnt hfk;subst hS;exact wrap64 (by simp[std];omega) (by simp[std];omega)) ?_))
        refine hN2 (j+1,setAt u j q2,q1,q2+1,setAt w (lvar i j).toNat (w (lvar i j).toNat+1),f1,fun k=>if k=[.i (lvar i j),.i (v 0),.i (v 1),.i (v 2),.i (v 3),.i (v 4),.i (v 5),.i (v 6),.i (v 7),.i (v 8),.i (v 9),.i (v 10),.i (v 11)] then some (q2:Int) else f2 k) _
         ⟨by simp only;omega,by simp only[hdstep];rw[hq1,hs2],by simp only[hdstep,List.length_append,List.length_cons,List.length_nil];omega,fun m hm=> ?_,by simp only[hdstep];exact hz3,by simp only[hdstep]⟩ (by simp only;omega)
         (le_mk rfl ⟨Like.refl _,Like.refl _,Like.refl _,Like.refl _,Like.refl _,Like.refl _,Like.refl _,Like.refl _,Like.refl _,Like.refl _,lk_v ?_,trivial⟩
           (.cons (.refl _) (.cons (LikeO.arrr ?_ ?_) (.cons (.refl _) (.cons (LikeO.map rfl fun k=> ?_) (.cons (.refl _) (.cons (LikeO.arrr ?_ ?_) (.nil _))))))) (by simp;omega) (.inl ⟨by cbv,by cbv⟩) rfl)
        ·simp only[hdstep,setAt]
         rw[cnt_app,←hw m hm]
         by_cases e:m=(lvar i j).toNat
         ·rw[if_pos e,if_pos (by rw[e];exact (Int.toNat_of_nonneg hgv.1).symm),e]
         ·rw[if_neg e,if_neg (fun h=>e (by rw[show lvar i j=(m:Int) from h,Int.toNat_natCast])),Int.add_zero]
        ·clear hN hN2 hN3 hg hc hr hw hrep hcd hgd hdl hu hgr hrefs hkl hko hv hvr hvb hv0 hh hcnt hfk;subst hS;simp[std]
        ·rfl
        ·intro m hm
         clear hN hN2 hN3 hg hc hr hw hrep hcd hgd hdl hu hgr hrefs hkl hko hv hvr hvb hv0 hh hcnt hfk
         clear hwr hwv
         subst hS
         simp only[std,setAt,Int.toNat_natCast,Int.ofNat_eq_natCast]
         split
         ·exact .one (.int rfl)
         ·exact .refl _
        ·clear hN hN2 hN3 hg hc hr hw hrep hcd hgd hdl hu hgr hrefs hkl hko hv hvr hvb hv0 hh hcnt hfk
         clear hwr hwv
         subst hS
         rfl
        ·rfl
        ·intro m hm
         clear hN hN2 hN3 hg hc hr hw hrep hcd hgd hdl hu hgr hrefs hkl hko hv hvr hvb hv0 hh hcnt hfk
         clear hwr hwv
         subst hS
         simp only[std,setAt,Int.toNat_natCast,Int.ofNat_eq_natCast]
         split
         ·exact .one (.int rfl)
         ·exact .refl _
    ·have hjeq:j=lnn i:=by rename_i h;clear hN hN2 hg hc hr hw hrep hcd hgd hdl hu;subst hS;simp[std] at h;omega
     subst hjeq
     rw[←hfam] at hq1 hq2 hw hrep
     cbv
     refine req_i hS (by clear hN hN2 hg hc hr hw hrep hcd hgd hdl hu;subst hS;exact wrap64 (by simp[std];omega) (by simp[std];omega)) ?_
     refine hN (i+1,q1,q2,w,f1,f2) _ ⟨by simp only;omega,hq1,hq2,hw,hrep⟩ (by simp only;omega) (le_mk rfl ⟨Like.refl _,Like.refl _,Like.refl _,Like.refl _,Like.refl _,lk_v ?_,trivial⟩ (.cons (.refl _) (.cons (.refl _) (.cons (.refl _) (.cons (.refl _) (.nil _))))) (by simp;omega) (.inl ⟨by cbv,by cbv⟩) rfl)
     clear hN hN2 hg hc hr hw hrep hcd hgd hdl hu;subst hS;simp[std]
  ·have hieq:i=n:=by rename_i h;clear hN hg hc hr hw hrep;subst hS;simp[std] at h;omega
   subst hieq
   cbv
   refine req_i hS (by clear hN hg hc hr hw hrep;subst hS;exact Nat.le_refl _) ?_
   exact Like.isl rfl fun j hj=>by rw[hw j hj,hr j hj]
end Go.Proofs.Tryz.Run
