/- The reference's nodes of a family. Conditions: none. -/
import Derived.Test.YtpcokdalcafgdaaGreatZUe
import Derived.Test.YtpcokdalcafgdaaGreatZLo
import Derived.Test.YtpcokdalcafgdaaGreatZPm0
set_option linter.unusedSimpArgs false
set_option linter.unusedVariables false
namespace Go.Proofs.Tryz.Run
open Go Go.Vf Go.Proofs
open Go.Proofs.YtpcokdalcafgdaaGreat
def ndL (q:Nat)(av:Nat→Int)(an:Nat→Nat)(ak:Nat→Nat→Int):List NdR:=L q fun j=>⟨av j,L (an j) (ak j)⟩
def veL (q:Nat)(ef en:Nat→Int):List VaR:=L q fun j=>⟨ef j,en j⟩
def arB (q:Nat)(av:Nat→Int)(an:Nat→Nat)(ak:Nat→Nat→Int):AObj:= .arr 2 q fun j=>[.int .i64 (.v (av j)),.sl 1 (an j) fun k=>[.int .i64 (.v (ak j k))]]
def arV (q:Nat)(ef en:Nat→Int):AObj:= .arr 2 q fun j=>[.int .u8 (.v (ef j)),.int .i64 (.v (en j))]
set_option maxHeartbeats 32000000 in
set_option maxRecDepth 100000 in
theorem nodes59 {ns:Nat}(sz:Nat→Int)(n:Nat)(hn:n≤8)(hns:ns≤1000000)(l:Nat→DiR)(hg: ∀i,i<n→(l i).good ns sz)
 (Q:Nat) (cv:Nat→Int) (cn:Nat→Nat) (ck:Nat→Nat→Int) (hQ:ndL Q cv cn ck=(famW l n).on):PureF Tryz.prog false 59 [dsl n l] (bsl Q cv cn ck):=by
 obtain⟨lns,lsz,lno,lod,lne,lef,len,lnn,lvar,lnk,lkid,lroot,hl⟩: ∃lns lsz lno lod lne lef len lnn lvar lnk lkid lroot,∀i,l i=(⟨lns i,lsz i,lno i,lod i,lne i,fun j=>⟨lef i j,len i j⟩,lnn i,lvar i,lnk i,lkid i,lroot i⟩:DiR):=
  ⟨fun i=>(l i).ns,fun i=>(l i).sz,fun i=>(l i).no,fun i=>(l i).od,fun i=>(l i).ne,fun i j=>((l i).en j).fault,fun i j=>((l i).en j).n,fun i=>(l i).nn,fun i=>(l i).var,fun i=>(l i).nk,fun i=>(l i).kid,fun i=>(l i).root,fun i=>rfl⟩
 have hDS:dsl n l=dslF n lns lsz lno lod lne lef len lnn lvar lnk lkid lroot:=by
  unfold dsl
  simp only[hl]
  rfl
 rw[hDS]
 clear hDS
 refine pureF_of_fn Tryz.mixed okP ok59 _ rfl fun E Sg hb hS=> ?_
 have e:=stdE hS
 cbv
 refine loop_t Tryz.mixed okP hS (σ:=Nat×Nat×(Nat→Int)×(Nat→Nat)×(Nat→Nat→Int)×Nat×(Nat→Int)×(Nat→Int))
  (fun⟨i,q,av,an,ak,qe,ef,en⟩=>i≤n∧ndL q av an ak=(famW l i).on∧(∀p,p<q→an p≤12)∧veL qe ef en=(famW l i).oe) (fun⟨i,_⟩=>n-i)
  (fun⟨i,q,av,an,ak,qe,ef,en⟩=>⟨mkTs [(0,dslF n lns lsz lno lod lne lef len lnn lvar lnk lkid lroot),(3,.msl 0 2 none q false),(4,.msl 1 2 none qe false),(5,int i)] 150,[arB q av an ak,arV qe ef en],[0,1,2,3,4]⟩)
  (0,0,fun _=>0,fun _=>0,fun _ _=>0,0,fun _=>0,fun _=>0) ⟨by omega,rfl,by simp,rfl⟩ ?_ ?_
 ·exact ((Tame.gt 3 2 (fun _=>[]) rfl).trans (Tame.gt 4 2 (fun _=>[]) rfl)).trans (Tame.le (le_mk rfl ⟨Like.refl _,Like.refl _,Like.refl _,lk_l rfl,trivial⟩
   (.cons (LikeO.arrr rfl fun j hj=>by omega) (.cons (LikeO.arrr rfl fun j hj=>by omega) (.nil _))) (by simp;omega) (.inr rfl) rfl))
 ·rintro⟨i,q,av,an,ak,qe,ef,en⟩ ⟨hi,hon,han,hoe⟩ N hN
  simp only at hi hon han hoe hN
  cbv
  split
  ·rename_i h
   have hlt:i<n:=t_ltN hS h
   have hgd:=hg i hlt
   have hnn:lnn i≤6000:=by have:=hgd.nn;rw[hl] at this;exact this
   have hne:lne i≤1000000:=by have:=hgd.ne;rw[hl] at this;exact this
   obtain⟨s0,hs0⟩: ∃s0,famW l i=s0:=⟨_,rfl⟩
   have hlen:=famW_len l (n:=n) (fun i hi=>⟨(hg i hi).nn,fun j hj=>((hg i hi).nk j hj).2⟩) i hi
   have hfam:famW l (i+1)=(diaW (l i) s0 (lnn i)).1:=by rw[famW,hs0];simp only[hl]
   rw[hs0] at hon hoe hlen
   have hdl: ∀j,j≤lnn i→(diaW (l i) s0 j).1.oe.length≤s0.oe.length+12*j∧(diaW (l i) s0 j).1.on.length≤s0.on.length+j:=fun j hj=>diaW_len (l i) s0 (fun j hj=>(hgd.nk j hj).2) j (by rw[hl];exact hj)
   cbv
   refine loop_t Tryz.mixed okP hS (σ:=Nat×(Nat→Int)×Nat×(Nat→Int)×(Nat→Nat)×(Nat→Nat→Int)×Nat×(Nat→Int)×(Nat→Int))
    (fun⟨j,u,q,av,an,ak,qe,ef,en⟩=>j≤lnn i∧ndL q av an ak=(diaW (l i) s0 j).1.on∧(∀p,p<q→an p≤12)∧veL qe ef en=(diaW (l i) s0 j).1.oe∧u=(diaW (l i) s0 j).2) (fun⟨j,_⟩=>lnn i-j)
    (fun⟨j,u,q,av,an,ak,qe,ef,en⟩=>⟨mkTs [(0,dslF n lns lsz lno lod lne lef len lnn lvar lnk lkid lroot),(3,.msl 0 2 none q false),(4,.msl 1 2 none qe false),(5,int i),(6,.msl 2 1 none j false),(7,int j)] 150,[arB q av an ak,arV qe ef en,arrI j u],[0,1,2,3,4]⟩)
    (0,fun _=>0,q,av,an,ak,qe,ef,en) ⟨by omega,hon,han,hoe,rfl⟩ ?_ ?_
   ·exact (Tame.gt 6 1 (fun _=>[]) rfl).trans (Tame.le (le_mk rfl ⟨Like.refl _,Like.refl _,Like.refl _,Like.refl _,Like.refl _,lk_l rfl,trivial⟩
     (.cons (.refl _) (.cons (.refl _) (.cons (LikeO.arrr rfl fun j hj=>by omega) (.nil _)))) (by simp;omega) (.inr rfl) rfl))
   ·clear hon hoe han
    clear q av an ak qe ef en
    rintro⟨j,u,q,av,an,ak,qe,ef,en⟩ ⟨hj,hon,han,hoe,hu⟩ N2 hN2
    simp only at hj hon han hoe hu hN2
    have hdj:=hdl j hj
    cbv
    refine req_i hS (i_inbN hS hlt) ?_
    simp only[nat,e.toNat,Int.ofNat_eq_natCast,Int.toNat_natCast]
    split
    ·rename_i h
     have hjlt:j<lnn i:=t_ltN hS h
     have hgk:1≤lnk i j∧lnk i j≤12:=by have:=hgd.nk j (by rw[hl];exact hjlt);rw[hl] at this;exact this
     have hgv:0≤lvar i j∧lvar i j<ns∧(lnk i j:Int)=sz (lvar i j).toNat:=by have:=hgd.var j (by rw[hl];exact hjlt);rw[hl] at this;exact this
     have hgr: ∀k,k<lnk i j→refOk (lne i) (lkid i j k) j:=by have:=hgd.kid j (by rw[hl];exact hjlt);rw[hl] at this;exact this
     obtain⟨s1,hs1⟩: ∃s1,(diaW (l i) s0 j).1=s1:=⟨_,rfl⟩
     have hrefs:=diaW_refs (l i) s0 j
     rw[hs1] at hon hoe hdj hrefs
     rw[←hu] at hrefs
     have hkl:=kidW_len (l i) u j s1
     have hko:=kidW_on (l i) u j s1
     cbv
     simp only[nat,e.toNat,Int.ofNat_eq_natCast,Int.toNat_natCast]
     refine req_i hS (i_inbN hS hlt) (req_i hS (i_inbN hS hjlt) ?_)
     refine loop_t Tryz.mixed okP hS (σ:=Nat×(Nat→Int)×Nat×(Nat→Int)×(Nat→Int))
      (fun⟨k,v,qe,ef,en⟩=>k≤lnk i j∧veL qe ef en=(kidW (l i) u j s1 k).1.oe∧v=(kidW (l i) u j s1 k).2) (fun⟨k,_⟩=>lnk i j-k)
      (fun⟨k,v,qe,ef,en⟩=>⟨mkTs [(0,dslF n lns lsz lno lod lne lef len lnn lvar lnk lkid lroot),(3,.msl 0 2 none q false),(4,.msl 1 2 none qe false),(5,int i),(6,.msl 2 1 none j false),(7,int j),(8,.ptr 3 0),(9,int k)] 150,
        [arB q av an ak,arV qe ef en,arrI j u,.var [int (lvar i j),.msl 4 1 none k false],arrI k v],[0,1,2,3,4]⟩)
      (0,fun _=>0,qe,ef,en) ⟨by omega,hoe,rfl⟩ ?_ ?_
     ·exact (Tame.gh 3 1 1 (fun _=>[]) rfl rfl).trans (Tame.le (le_mk rfl ⟨Like.refl _,Like.refl _,Like.refl _,Like.refl _,Like.refl _,Like.refl _,Like.refl _,lk_l rfl,trivial⟩
       (.cons (.refl _) (.cons (.refl _) (.cons (.refl _) (.cons (.refl _) (.cons (LikeO.arrr rfl fun j hj=>by omega) (.nil _)))))) (by simp;omega) (.inr rfl) rfl))
     ·clear hoe
      clear qe ef en
      rintro⟨k,v,qe,ef,en⟩ ⟨hk,hoe,hv⟩ N3 hN3
      simp only at hk hoe hv hN3
      have hklk:=hkl k
      have hqe:qe=(kidW (l i) u j s1 k).1.oe.length:=by rw[←hoe,veL,L_length]
      cbv
      simp only[nat,e.toNat,Int.ofNat_eq_natCast,Int.toNat_natCast]
      refine req_i hS (i_inbN hS hlt) (req_i hS (i_inbN hS hjlt) ?_)
      split
      ·rename_i h
       have hklt:k<lnk i j:=t_ltN hS h
       have hkk:=hgr k hklt
       obtain⟨s2,hs2⟩: ∃s2,(kidW (l i) u j s1 k).1=s2:=⟨_,rfl⟩
       obtain⟨x,hx⟩: ∃x,lkid i j k=x:=⟨_,rfl⟩
       have hstep:kidW (l i) u j s1 (k+1)=((resW (l i) u s2 x).1,setAt v k (resW (l i) u s2 x).2):=by
        rw[kidW,hs2,←hv]
        simp only[hl,hx]
       rw[hs2] at hoe hklk hqe
       rw[hx] at hkk
       cbv
       simp only[nat,e.toNat,Int.ofNat_eq_natCast,Int.toNat_natCast]
       refine req_i hS (i_inbN hS hlt) (req_i hS (i_inbN hS hjlt) (req_i hS (i_inbN hS hklt) ?_))
       simp only[hx]
       split
       ·rename_i h
        have hx0:0≤x:=t_le hS h
        have hres:resW (l i) u s2 x=(s2,u x.toNat):=by rw[resW,if_pos hx0]
        rw[hres] at hstep
        have hxj:=hkk.1 hx0
        have hxt:x.toNat<j:=(Int.toNat_lt hx0).2 hxj
        cbv
        refine req_i hS (i_inb hS ⟨hx0,hxj⟩) (req_i hS (i_ltT hS hxt) (req_i hS (i_same hS) (req_i hS trivial (req_i hS (i_leA hS (by omega)) (req_i hS (i_inc hS (by omega)) ?_)))))
        refine hN3 (k+1,setAt v k (u x.toNat),qe,ef,en) _ ⟨by simp only;omega,by simp only[hstep];exact hoe,by simp only[hstep]⟩ (by simp only;omega)
         (Tame.le (le_mk rfl ⟨Like.refl _,Like.refl _,Like.refl _,Like.refl _,Like.refl _,Like.refl _,Like.refl _,v_inc hS,trivial⟩
           (.cons (.refl _) (.cons (.refl _) (.cons (.refl _) (.cons (LikeO.var (.cons (Like.refl _) (.cons (lk_msl1 hS) .nil))) (.cons (lkO_app hS ?_ ?_) (.nil _)))))) (by simp;omega) (.inl ⟨by cbv,by cbv⟩) rfl))
        ·intro m hm;simp only[setAt,if_neg (show¬m=k by omega)];exact .refl _
        ·simp only[setAt,if_pos,e.toNat];exact .refl _
       ·rename_i h
        have hx0:x<0:=f_le hS h
        have hx1:=hkk.2 hx0
        obtain⟨y,hy⟩: ∃y,(-1-x).toNat=y:=⟨_,rfl⟩
        have hyl:y<lne i:=by rw[←hy];exact (Int.toNat_lt (by omega)).2 hx1
        obtain⟨cf,hcf⟩: ∃cf,lef i y=cf:=⟨_,rfl⟩
        obtain⟨cn',hcn⟩: ∃cn,len i y=cn:=⟨_,rfl⟩
        obtain⟨R,hR⟩: ∃R,Law.at1 s2.oe (⟨cf,cn'⟩:VaR)=R:=⟨_,rfl⟩
        have hres:resW (l i) u s2 x=(⟨Law.onceE s2.oe ⟨cf,cn'⟩,s2.on⟩,-1-(R:Int)):=by rw[resW,if_neg (by omega),←hR];simp only[hl,hy,hcf,hcn]
        rw[hres] at hstep
        have hRle:R≤qe:=by rw[←hR,hqe];exact at1_le _ _
        have hqb:qe≤1000000:=by omega
        have h91:=find91 hqb ef en cf cn' R (by rw[←hR,←hoe];rfl)
        cbv
        have hneg:(Int.negSucc 0-x).toNat=y:=hy
        have hnr: -9223372036854775808≤Int.negSucc 0-x∧Int.negSucc 0-x≤9223372036854775807:=by
         show-9223372036854775808≤ -1-x∧ -1-x≤9223372036854775807
         have:=Int.ofNat_le.2 hne
         omega
        have hnb:0≤Int.negSucc 0-x∧Int.negSucc 0-x<lne i:=⟨by show 0≤ -1-x;omega,hx1⟩
        simp only[nat,e.toNat,e.isub,Int.ofNat_eq_natCast,Int.toNat_natCast,hneg,hcf,hcn]
        refine req_i hS (i_inbN hS hlt) (req_i hS (i_inr hS hnr) (req_i hS (i_inb hS hnb) (req_i hS (i_le hS (Nat.le_refl _)) ?_)))
        refine callb_i hS _ h91 ?_
        have hRr: -9223372036854775808≤Int.negSucc 0-(R:Int)∧Int.negSucc 0-(R:Int)≤9223372036854775807:=by
         show-9223372036854775808≤ -1-(R:Int)∧ -1-(R:Int)≤9223372036854775807
         omega
        cbv
        split
        ·rename_i h
         have hRq:R=qe:=t_eqN hS h
         have hnm:(⟨cf,cn'⟩:VaR)∉s2.oe:=fun hm=>by have:=at1_lt hm;omega
         rw[Law.onceE_not hnm] at hstep
         cbv
         simp only[nat,e.toNat,e.isub,Int.ofNat_eq_natCast,Int.toNat_natCast,hneg,hcf,hcn]
         refine req_i hS (i_inbN hS hlt) (req_i hS (i_inr hS hnr) (req_i hS (i_inb hS hnb) (req_i hS trivial (req_i hS (i_leA hS (by omega)) (req_i hS (i_inr hS hRr) (req_i hS trivial (req_i hS (i_leA hS (by omega)) (req_i hS (i_inc hS (by omega)) ?_))))))))
         refine hN3 (k+1,setAt v k (-1-(R:Int)),qe+1,fun j=>if j<qe then ef j else cf,fun j=>if j<qe then en j else cn') _ ⟨by simp only;omega,?_,by simp only[hstep]⟩ (by simp only;omega)
          (Tame.le (le_mk rfl ⟨Like.refl _,Like.refl _,lk_msl1 hS,Like.refl _,Like.refl _,Like.refl _,Like.refl _,v_inc hS,trivial⟩
            (.cons (.refl _) (.cons (lkO_app hS ?_ ?_) (.cons (.refl _) (.cons (LikeO.var (.cons (Like.refl _) (.cons (lk_msl1 hS) .nil))) (.cons (lkO_app hS ?_ ?_) (.nil _)))))) (by simp;omega) (.inl ⟨by cbv,by cbv⟩) rfl))
         ·simp only[hstep]
          rw[←hoe]
          unfold veL
          rw[L_succ]
          simp only[if_neg (Nat.lt_irrefl qe)]
          exact congrArg (· ++[_]) (L_congr fun j hj=>by rw[if_pos hj,if_pos hj])
         ·intro m hm;simp only[if_pos hm];exact .refl _
         ·simp only[if_neg (Nat.lt_irrefl qe)];exact .refl _
         ·intro m hm;simp only[setAt,if_neg (show¬m=k by omega)];exact .refl _
         ·simp only[setAt,if_pos,e.isub];exact .refl _
        ·rename_i h
         have hRq:R<qe:=by have:=f_eqN hS h;omega
         have hmem:=at1_mem (show Law.at1 s2.oe (⟨cf,cn'⟩:VaR)<s2.oe.length by omega)
         rw[Law.onceE_mem hmem] at hstep
         cbv
         refine req_i hS (i_inrS hS hRr) (req_i hS trivial (req_i hS (i_leA hS (by omega)) (req_i hS (i_inc hS (by omega)) ?_)))
         refine hN3 (k+1,setAt v k (-1-(R:Int)),qe,ef,en) _ ⟨by simp only;omega,by simp only[hstep];exact hoe,by simp only[hstep]⟩ (by simp only;omega)
          (Tame.le (le_mk rfl ⟨Like.refl _,Like.refl _,Like.refl _,Like.refl _,Like.refl _,Like.refl _,Like.refl _,v_inc hS,trivial⟩
            (.cons (.refl _) (.cons (.refl _) (.cons (.refl _) (.cons (LikeO.var (.cons (Like.refl _) (.cons (lk_msl1 hS) .nil))) (.cons (lkO_app hS ?_ ?_) (.nil _)))))) (by simp;omega) (.inl ⟨by cbv,by cbv⟩) rfl))
         ·intro m hm;simp only[setAt,if_neg (show¬m=k by omega)];exact .refl _
         ·simp only[setAt,if_pos,e.isub];exact .refl _
      ·rename_i h
       have hkeq:k=lnk i j:=by have:=f_ltN hS h;omega
       subst hkeq
       obtain⟨s2,hs2⟩: ∃s2,(kidW (l i) u j s1 (lnk i j)).1=s2:=⟨_,rfl⟩
       have hon2:s2.on=s1.on:=by rw[←hs2];exact hko _
       have hkey:keyW (l i) u j s1=⟨lvar i j,L (lnk i j) v⟩:=by rw[keyW];simp only[hl];rw[hv];simp only[hl]
       obtain⟨R,hR⟩: ∃R,Law.at1 s1.on (⟨lvar i j,L (lnk i j) v⟩:NdR)=R:=⟨_,rfl⟩
       have hdstep:diaW (l i) s0 (j+1)=(⟨s2.oe,Law.onceE s1.on ⟨lvar i j,L (lnk i j) v⟩⟩,setAt u j (R:Int)):=by
        rw[diaW,hs1,←hu,hkey,hko,←hR]
        simp only[hl]
        simp only[hl] at hs2
        rw[hs2]
       rw[hs2] at hoe
       have hq:q=s1.on.length:=by rw[←hon,ndL,L_length]
       have hqb:q≤1000000:=by omega
       have hRf: ∀m,m<q→(av m=lvar i j∧L (an m) (ak m)=L (lnk i j) v)→(∀p,p<m→ ¬(av p=lvar i j∧L (an p) (ak p)=L (lnk i j) v))→R=m:=fun m hm h hp=>by
        rw[←hR,←hon]
        exact at1_first hm (by rw[h.1,h.2]) fun p hp' e=>hp p hp' (by injection e with a b;exact⟨a,b⟩)
       have hRn:(∀p,p<q→ ¬(av p=lvar i j∧L (an p) (ak p)=L (lnk i j) v))→(⟨lvar i j,L (lnk i j) v⟩:NdR)∉s1.on∧R=q:=fun hp=>by
        rw[←hR,←hon]
        exact at1_none fun p hp' e=>hp p hp' (by injection e with a b;exact⟨a,b⟩)
       cbv
       refine loop_i Tryz.mixed okP hS (fun m=>m≤q∧ ∀p,p<m→ ¬(av p=lvar i j∧L (an p) (ak p)=L (lnk i j) v)) (fun m=>q-m)
        (fun m=>⟨mkTs [(0,dslF n lns lsz lno lod lne lef len lnn lvar lnk lkid lroot),(3,.msl 0 2 none q false),(4,.msl 1 2 none qe false),(5,int i),(6,.msl 2 1 none j false),(7,int j),(8,.ptr 3 0),(12,int m)] 150,
          [arB q av an ak,arV qe ef en,arrI j u,.var [int (lvar i j),.msl 4 1 none (lnk i j) false],arrI (lnk i j) v],[0,1,2,3,4]⟩) 0 ⟨by omega,by omega⟩ ?_ ?_
       ·exact le_mk rfl ⟨Like.refl _,Like.refl _,Like.refl _,Like.refl _,Like.refl _,Like.refl _,Like.refl _,lk_l rfl,trivial⟩ (LikesO.same _) (by simp;omega) (.inr rfl) rfl
       ·intro m hm N4 hN4
        cbv
        split
        ·rename_i h
         have hmq:m<q:=t_ltN hS h
         have h23:=same23 (an m) (lnk i j) (ak m) v (by have:=han m hmq;omega)
         cbv
         simp only[nat,e.toNat,Int.ofNat_eq_natCast,Int.toNat_natCast]
         refine req_i hS (i_inbN hS hmq) (req_i hS (i_lt hS hmq) ?_)
         have hnext: ¬(av m=lvar i j∧L (an m) (ak m)=L (lnk i j) v)→m+1≤q∧ ∀p,p<m+1→ ¬(av p=lvar i j∧L (an p) (ak p)=L (lnk i j) v):=fun hne=>⟨hmq,fun p hp=>by
          by_cases e:p=m
          ·rw[e];exact hne
          ·exact hm.2 p (by omega)⟩
         split
         ·rename_i h
          have hne:av m≠lvar i j:=t_ne hS h
          cbv
          refine req_i hS (i_inc hS (by omega)) ?_
          exact hN4 (m+1) _ (hnext fun h=>hne h.1) (by omega) (le_mk rfl ⟨Like.refl _,Like.refl _,Like.refl _,Like.refl _,Like.refl _,Like.refl _,Like.refl _,v_inc hS,trivial⟩ (LikesO.same _) (by simp;omega) (.inr rfl) rfl)
         ·rename_i h
          have hvv:av m=lvar i j:=f_ne hS h
          cbv
          simp only[nat,e.toNat,Int.ofNat_eq_natCast,Int.toNat_natCast]
          refine req_i hS (i_inbN hS hmq) (req_i hS (i_lt hS hmq) (req_i hS (i_le hS (Nat.le_refl _)) ?_))
          by_cases hns:L (an m) (ak m)≠L (lnk i j) v
          ·refine callb_i hS (bool false) (h23 false (by simp[hns])) ?_
           cbv
           refine req_i hS (i_inc hS (by omega)) ?_
           exact hN4 (m+1) _ (hnext fun h=>hns h.2) (by omega) (le_mk rfl ⟨Like.refl _,Like.refl _,Like.refl _,Like.refl _,Like.refl _,Like.refl _,Like.refl _,v_inc hS,trivial⟩ (LikesO.same _) (by simp;omega) (.inr rfl) rfl)
          ·have hns:=Classical.not_not.1 hns
           refine callb_i hS (bool true) (h23 true (by simp[hns])) ?_
           cbv
           have hRm:=hRf m hmq ⟨hvv,hns⟩ hm.2
           have hmem:=at1_mem (show Law.at1 s1.on (⟨lvar i j,L (lnk i j) v⟩:NdR)<s1.on.length by omega)
           rw[Law.onceE_mem hmem] at hdstep
           simp only[b_neN hS (show m≠q by omega)]
           cbv
           refine req_i hS trivial (req_i hS (i_leA hS (by omega)) (req_i hS (i_inc hS (by omega)) ?_))
           refine hN2 (j+1,setAt u j (m:Int),q,av,an,ak,qe,ef,en) _ ⟨by simp only;omega,by simp only[hdstep];exact hon,han,by simp only[hdstep];exact hoe,by simp only[hdstep,hRm]⟩ (by simp only;omega)
            (Tame.le (le_mk rfl ⟨Like.refl _,Like.refl _,Like.refl _,Like.refl _,lk_msl1 hS,v_inc hS,trivial⟩ (.cons (.refl _) (.cons (.refl _) (.cons (lkO_app hS ?_ ?_) (.nil _)))) (by simp;omega) (.inl ⟨by cbv,by cbv⟩) rfl))
           ·intro p hp;simp only[setAt,if_neg (show¬p=j by omega)];exact .refl _
           ·simp only[setAt,if_pos];exact .refl _
        ·rename_i h
         have hmeq:m=q:=by have:=f_ltN hS h;omega
         cbv
         obtain⟨hnm,hRq⟩:=hRn (by rw[←hmeq];exact hm.2)
         rw[Law.onceE_not hnm] at hdstep
         simp only[b_eqN hS hmeq]
         cbv
         refine req_i hS (i_le hS (Nat.le_refl _)) (req_i hS trivial (req_i hS (i_leA hS (by omega)) (req_i hS trivial (req_i hS (i_leA hS (by omega)) (req_i hS (i_inc hS (by omega)) ?_)))))
         refine hN2 (j+1,setAt u j (m:Int),q+1,fun p=>if p<q then av p else lvar i j,fun p=>if p<q then an p else lnk i j,fun p=>if p<q then ak p else v,qe,ef,en) _
          ⟨by simp only;omega,?_,fun p hp=> ?_,by simp only[hdstep];exact hoe,by simp only[hdstep,hRq,hmeq]⟩ (by simp only;omega)
          (Tame.le (le_mk rfl ⟨Like.refl _,lk_msl1 hS,Like.refl _,Like.refl _,lk_msl1 hS,v_inc hS,trivial⟩ (.cons (lkO_app hS ?_ ?_) (.cons (.refl _) (.cons (lkO_app hS ?_ ?_) (.nil _)))) (by simp;omega) (.inl ⟨by cbv,by cbv⟩) rfl))
         ·simp only[hdstep]
          rw[←hon]
          unfold ndL
          rw[L_succ]
          simp only[if_neg (Nat.lt_irrefl q)]
          exact congrArg (· ++[_]) (L_congr fun p hp=>by simp only[if_pos hp])
         ·simp only
          split
          ·exact han p (by assumption)
          ·exact hgk.2
         ·intro p hp;simp only[if_pos hp];exact .refl _
         ·simp only[if_neg (Nat.lt_irrefl q)];exact .refl _
         ·intro p hp;simp only[setAt,if_neg (show¬p=j by omega)];exact .refl _
         ·simp only[setAt,if_pos];exact .refl _
    ·rename_i h
     have hjeq:j=lnn i:=by have:=f_ltN hS h;omega
     cbv
     refine req_i hS (i_inc hS (by omega)) ?_
     rw[hjeq,←hfam] at hon hoe
     exact hN (i+1,q,av,an,ak,qe,ef,en) _ ⟨by simp only;omega,hon,han,hoe⟩ (by simp only;omega) (Tame.le (le_mk rfl ⟨Like.refl _,Like.refl _,Like.refl _,v_inc hS,trivial⟩ (.cons (.refl _) (.cons (.refl _) (.nil _))) (by simp;omega) (.inl ⟨by cbv,by cbv⟩) rfl))
  ·rename_i h
   have hieq:i=n:=by have:=f_ltN hS h;omega
   cbv
   refine req_i hS (i_le hS (Nat.le_refl _)) ?_
   rw[hieq,←hQ] at hon
   obtain⟨hq,hnd⟩:=L_eq_iff.1 hon
   refine Like.slr hq fun p hp=> ?_
   have hp':=hnd p hp
   injection hp' with h1 h2
   obtain⟨h3,h4⟩:=L_eq_iff.1 h2
   refine .cons (.int h1) (.cons (.sl h3 fun k hk=> ?_) .nil)
   rw[h4 k hk]
   exact .refl _
end Go.Proofs.Tryz.Run
