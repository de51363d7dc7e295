/- LookWays: ones, whether a list is a place. The reference's diagram of ones. The reference's Of: the diagram of ones. Conditions: none. -/
import Derived.Test.YtbglklaocjifhaaGreatWLr
import Derived.Test.YtbglklaocjifhaaGreatWNb
import Derived.Test.YtbglklaocjifhaaGreatWNe
import Derived.Test.YtbglklaocjifhaaGreatWOb
import Derived.Test.YtbglklaocjifhaaGreatWPm0
import Derived.Test.YtbglklaocjifhaaGreatWQd
import Derived.Test.YtbglklaocjifhaaGreatWQf
import Derived.Test.YtbglklaocjifhaaGreatWQi
import Derived.Test.YtbglklaocjifhaaGreatWSd
import Derived.Test.YtbglklaocjifhaaGreatWSv
import Derived.Test.YtbglklaocjifhaaGreatWHe
import Derived.Test.YtbglklaocjifhaaGreatWHr
import Derived.Test.YtbglklaocjifhaaGreatWHt
set_option linter.unusedSimpArgs false
set_option linter.unusedVariables false
set_option maxHeartbeats 0
set_option maxRecDepth 100000
namespace Go.Proofs.Tryz.Run
open Go Go.Vf Go.Proofs
open Go.Proofs.YtbglklaocjifhaaGreat
theorem j5y {T:Nat}(c:CaR)(hT:T<=1000000)(h72:a0j Tryz.prog true 72 [isl c.ns c.sz] (int T)):a0j Tryz.prog false 41 [c.av] (vsl T fun _=>⟨0,1⟩):=by
 obtain⟨ns,sz,no,od,nl,lk,⟨ins,isz,ino,iod,ine,ien,inn,ivar,ink,ikid,iroot⟩,⟨gns,gsz,gno,god,gne,gen,gnn,gvar,gnk,gkid,groot⟩⟩:=c
 simp only[CaR.av,DiR.cs,List.cons_append,List.nil_append] at*
 refine a0k Tryz.mixed okP j6z _ rfl fun E Sg hb hS=> ?_
 have e:=b2k hS
 cbv
 refine e4p Tryz.mixed okP hS (fun i=>i<=T) (fun i=>T-i)
  (fun i=>⟨b5r [(1,.ptr 0 0),(3,.msl 1 2 none i false),(4,int i)] 17,[.var [isl ns sz,isl no od,dsl nl lk,isl ins isz,isl ino iod,vsl ine ien,bsl inn ivar ink ikid,int iroot,isl gns gsz,isl gno god,vsl gne gen,bsl gnn gvar gnk gkid,int groot],.arr 2 i fun _=>[.int .u8 (.v 0),.int .i64 (.v 1)]],[1]⟩) 0 (by omega) ?_ ?_
 ·exact (b4w.gt 3 2 (fun _=>[]) rfl).trans (b4w.le (a4c rfl ⟨a0x.refl _,a0x.refl _,a6c rfl,trivial⟩ (.cons (.refl _) (.cons (a9v.arrr rfl fun j hj=>by omega) (.nil _))) (by simp;omega) (.inr rfl) rfl))
 ·intro i hi K hK
  cbv
  refine a0v hS _ h72 ?_
  cbv
  split
  ·rename_i h
   have hlt:i<T:=Int.ofNat_lt.1 (b3h hS h)
   cbv
   repeat (first|refine a1g hS (c3d hS) ?_|refine a1g hS trivial ?_|refine a1g hS (f1i hS (by omega)) ?_|refine a1g hS (e1n hS (by omega)) ?_)
   refine hK (i+1) _ hlt (by omega) (b4w.le (a4c rfl ⟨a0x.refl _,d8n hS,b2s hS,trivial⟩ (.cons (.refl _) (.cons (d7h hS (fun j hj=> .refl _) (.cons (.int rfl) (.one (.int rfl)))) (.nil _))) (by simp;omega) (.inr rfl) rfl))
  ·rename_i h
   have hin:i=T:=by have:=Int.ofNat_le.1 (b3r hS h);omega
   subst hin
   cbv
   exact a1g hS (e8l hS (Nat.le_refl _)) (a0x.refl _)
def j4u (ns:Nat)(sz:Nat->Int)(np:Nat)(pc:Nat->Int):Prop:=np=ns/\ ∀i,i<np->0<=pc i/\pc i<sz i
theorem j5n {ns np:Nat}{sz pc:Nat->Int}(hns:ns<=1000000)(hs: ∀i,i<ns->1<=sz i/\sz i<=1000000)(r:Bool)(hr:r=true↔j4u ns sz np pc):a0j Tryz.prog true 43 [isl ns sz,isl np pc] (bool r):=by
 refine a1e (a0k Tryz.mixed okP j7c _ rfl fun E Sg hb hS=> ?_)
 have e:=b2k hS
 have hF: ¬j4u ns sz np pc->a0x (.d (.bool false)) (.d (.bool r)):=fun h=>by
  rw[<-hr] at h
  exact a0s (by cases r<;>simp_all)
 cbv
 split
 ·rename_i h
  have h5:np≠ns:=fun h'=>e8q hS h (by rw[h'])
  cbv
  exact hF fun h=>h5 h.1
 rename_i h
 have h5:np=ns:=by have:=e8o hS h;simp only[e.ofNat] at this;omega
 subst h5
 cbv
 refine a7r Tryz.mixed okP hS (fun i=>i<=np/\ ∀j,j<i->0<=pc j/\pc j<sz j) (fun i=>np-i)
  (fun i=>⟨b5r [(0,isl np sz),(1,isl np pc),(5,int i)] 28,[],[]⟩) 0 ⟨by omega,by omega⟩ ?_ ?_
 ·exact a4c rfl ⟨a0x.refl _,a0x.refl _,a6c rfl,trivial⟩ (.same _) (by simp;omega) (.inr rfl) rfl
 rintro i ⟨hi,hz⟩ K hK
 cbv
 split
 ·rename_i h
  have hlt:i<np:=d3r hS h
  cbv
  simp only[nat,e.toNat,Int.ofNat_eq_natCast,Int.toNat_natCast]
  have hsi:=hs i hlt
  obtain⟨z,hz2⟩: ∃z:Bool,z=true↔0<=pc i/\pc i<=sz i-1:=⟨decide _,decide_eq_true_iff⟩
  have h85:a0j Tryz.prog true 85 [int (pc i),int 0,int (Sg.isub (sz i) 1)] (bool z):=by rw[e.isub];exact i5t (pc i) 0 (sz i-1) z hz2
  refine a1g hS (a5p hS hlt) (a1g hS (a5p hS hlt) (a1g hS (a9o hS (by omega)) ?_))
  refine a0v hS (bool z) h85 ?_
  cases z with
  |false=>
   cbv
   exact hF fun h=>by have:=h.2 i hlt;have:=hz2.2 (by omega);cases this
  |true=>
   cbv
   refine a1g hS (e1n hS (by omega)) ?_
   have h6:=hz2.1 rfl
   refine hK (i+1) _ ⟨by omega,fun j hj=> ?_⟩ (by omega) (a4c rfl ⟨a0x.refl _,a0x.refl _,b2s hS,trivial⟩ (.same _) (by simp;omega) (.inr rfl) rfl)
   by_cases ej:j=i
   ·rw[ej];omega
   ·exact hz j (by omega)
 ·rename_i h
  have hin:np<=i:=d3c hS h
  cbv
  exact a0s (hr.2 ⟨rfl,fun j hj=>hz j (by omega)⟩).symm
def onE (q:Nat):a0f:= .arr 2 q fun _=>[.int .u8 (.v 0),.int .i64 (.v 1)]
def onN:a0f:= .arr 2 0 fun _=>[]
def onD (ns no:Nat)(sz od:Nat->Int)(q:Nat):AV:= .agg [isl ns sz,isl no od,.msl 0 2 none q false,.msl 1 2 none 0 false,int 0]
def onA (ns no T:Nat)(sz od:Nat->Int)(q r:Nat):List AV:=[onD ns no sz od q,vsl T fun _=>⟨0,1⟩,int r,.msl 2 1 none ns false]
def onK (ns no:Nat)(sz od g:Nat->Int)(pg:List Nat)(v:AV)(h':List a0f):Prop:=
 pg=[0,1]/\v= .tuple [onD ns no sz od 1,int (-1)]/\h'=[onE 1,onN,arrI ns g]
theorem j5z {ns no T num:Nat}{sz od g:Nat->Int}(h45:a0j Tryz.prog true 45 [isl ns sz,isl ns g] (int num))(hns:ns<=1000000)(hn:num<T)(q:Nat)(hq:q<=1):
 a1h Tryz.prog 88 (onA ns no T sz od q no) [onE q,onN,arrI ns g] (onK ns no sz od g):=by
 refine h3w Tryz.mixed okP g4e rfl fun E Sg hb0 hS F hF=> ?_
 simp only[List.length_cons,List.length_nil] at hb0
 have e:=b2k hS
 cbv
 simp only[j6i hS rfl]
 cbv
 refine a1g hS (e8l hS (Nat.le_refl _)) ?_
 refine a0v hS _ h45 ?_
 cbv
 simp only[nat,e.toNat,Int.ofNat_eq_natCast,Int.toNat_natCast]
 refine a1g hS (a5p hS hn) ?_
 refine a7r Tryz.mixed okP hS (fun m=>m=0) (fun _=>0)
  (fun m=>⟨b5r [(4,.ptr 3 0),(8,.ptr 4 0),(10,.ptr 5 0),(11,int m)] 142,[.arr 2 q fun _=>[.int .u8 (.v 0),.int .i64 (.v 1)],.arr 2 0 fun _=>[],arrI ns g,.var [isl ns sz,isl no od,.msl 0 2 none q false,.msl 1 2 none 0 false,int 0],.var [.d .nil,.d .nil,.d .nil,.d .nil,int 0],.var [u8 0,int 1]],[]⟩) 0 rfl ?_ ?_
 ·exact a4c rfl ⟨a0x.refl _,a0x.refl _,a0x.refl _,a6c rfl,trivial⟩ (.cons (.refl _) (.cons (.refl _) (.cons (.refl _) (.cons (.refl _) (.cons (.var (.cons (a0x.refl _) (.cons (a0x.refl _) (.cons (a0x.refl _) (.cons (a0x.refl _) (.cons (a6c rfl) .nil)))))) (.cons (.refl _) (.nil _))))))) (by simp;omega) (.inr rfl) rfl
 rintro m rfl N hN
 cbv
 split
 ·rename_i h
  have hmq:0<q:=d3r hS h
  have hq1:q=1:=by omega
  subst hq1
  cbv
  simp only[nat,e.toNat,Int.ofNat_eq_natCast,Int.toNat_natCast]
  refine a1g hS (a5p hS hmq) (a1g hS (i2h hS hmq) ?_)
  simp only[e.band,e.ieq]
  split
  ·cbv
   refine a1g hS (a9o hS (by omega)) ?_
   exact⟨[0,1],fun l h1 h2=>(nomatch h2),hF (h1:=[onE 1,onN,arrI ns g]) (.cons (.refl _) (.cons (.refl _) (.cons (.refl _) (.nil _)))) (a3x.tuple (.cons (a0x.refl _) (.cons (b0a (b:= -1) (e.isub _ _)) .nil))) (by simp) (.inl ⟨rfl,rfl⟩) ⟨rfl,rfl,rfl⟩⟩
  ·rename_i h
   exact absurd h (by decide)
 ·rename_i h
  have hmq:q=0:=by have:=b3r hS h;simp only[e.ofNat] at this;omega
  subst hmq
  cbv
  refine a1g hS trivial (a1g hS (f1i hS (by omega)) (a1g hS (a9o hS (by simp only[e.ofNat,e.nadd];omega)) (a1g hS (c3d hS) ?_)))
  exact⟨[0,1],fun l h1 h2=>by simp at h2⊢;omega,hF (h1:=[onE 1,onN,arrI ns g]) (.cons (d7h hS (fun j hj=> .refl _) (.refl _)) (.cons (.refl _) (.cons (.refl _) (.nil _))))
   (a3x.tuple (.cons (a3x.agg (.cons (a0x.refl _) (.cons (a0x.refl _) (.cons (d8n hS) (.cons (a0x.refl _) (.cons (a0x.refl _) .nil)))))) (.cons (b0a (b:= -1) (by simp only[e.isub,e.ofNat,e.nadd];omega)) .nil))) (by simp) (.inl ⟨rfl,rfl⟩) ⟨rfl,rfl,rfl⟩⟩
theorem j5w {ns no T c w r:Nat}{sz od g:Nat->Int}(hns:ns<=1000)(hno:no<=1000)(hr1:r<no)(hc:od r=c)(hcn:c<ns+1)(hw:sz c=w)(hw1:1<=w)(hw2:w<=1000)
 (hcall: ∀k:Nat,k<w-> ∀q,q<=1->a1h Tryz.prog 88 (onA (ns+1) no T sz od q (r+1)) [onE q,onN,arrI (ns+1) (h4l g c k)] (onK (ns+1) no sz od (h4l g c k))) (q:Nat) (hq:q<=1):
 a1h Tryz.prog 88 (onA (ns+1) no T sz od q r) [onE q,onN,arrI (ns+1) g] (onK (ns+1) no sz od g):=by
 refine h3w Tryz.mixed okP g4e rfl fun E Sg hb hS F hF=> ?_
 simp only[List.length_cons,List.length_nil] at hb
 have e:=b2k hS
 cbv
 simp only[j6f hS (show r≠no by omega)]
 cbv
 simp only[nat,e.toNat,e.ofNat,Int.ofNat_eq_natCast,Int.toNat_natCast,hc,hw]
 refine a1g hS (a5p hS hr1) ?_
 refine e4p Tryz.mixed okP hS (σ:=Nat×Nat) (fun st=>st.1<=w/\st.2<=1/\(0<st.1->st.2=1)) (fun st=>w-st.1)
  (fun st=>⟨b5r [(1,vsl T fun _=>⟨0,1⟩),(2,int r),(3,.msl 2 1 none (ns+1) false),(4,.ptr 3 0),(8,.ptr 4 0),(12,.ptr 5 0),(13,int st.1)] 142,
    [.arr 2 st.2 fun _=>[.int .u8 (.v 0),.int .i64 (.v 1)],.arr 2 0 fun _=>[],arrI (ns+1) g,.var [isl (ns+1) sz,isl no od,.msl 0 2 none st.2 false,.msl 1 2 none 0 false,int 0],.var [.any,.any,.any,.any,.any],.var [int c,.msl 6 1 none st.1 false],arrI st.1 fun _=> -1],[0,1,6]⟩)
  (0,q) ⟨by simp,hq,by simp⟩ ?_ ?_
 ·exact (b4w.gh 5 1 1 (fun _=>[]) rfl rfl).trans (b4w.le (a4c rfl ⟨a0x.refl _,a0x.refl _,a0x.refl _,a0x.refl _,a0x.refl _,a0x.refl _,a6c rfl,trivial⟩
   (.cons (.refl _) (.cons (.refl _) (.cons (.refl _) (.cons (.refl _) (.cons (.var (.cons (.any _) (.cons (.any _) (.cons (.any _) (.cons (.any _) (.cons (.any _) .nil)))))) (.cons (.refl _) (.cons (a9v.arrr rfl fun j hj=>by omega) (.nil _)))))))) (by simp;omega) (.inr rfl) rfl))
 rintro⟨k,q⟩ ⟨hk,hq,hkq⟩ N hN
 simp only at hk hq hkq hN
 cbv
 simp only[nat,e.toNat,Int.ofNat_eq_natCast,Int.toNat_natCast,hw]
 refine a1g hS (a5p hS hcn) ?_
 split
 ·rename_i h
  have hlt:k<w:=Int.ofNat_lt.1 (b3h hS h)
  have hca:=hcall k hlt q hq
  cbv
  simp only[nat,e.toNat,e.iadd,Int.ofNat_eq_natCast,Int.toNat_natCast]
  refine a1g hS (e8l hS (Nat.le_refl _)) (a1g hS (e8l hS (show ns+1<=1073741824 by omega)) (a1g hS (a5p hS hcn) (a1g hS (i2h hS hcn) (a1g hS (e7p hS (show-9223372036854775808<=(r:Int)+1/\(r:Int)+1<=9223372036854775807 by omega)) ?_))))
  refine h3v hS (a1h.frame hca [0,1,7] rfl rfl ⟨a9v.refl _,a9v.refl _,h8j hS (fun j _ hne=>by simp only[h4l,if_neg hne];exact .refl _) (fun _=>by simp only[h4l,if_pos];exact .refl _),trivial⟩) ?_
  rintro pg v H' ⟨pg0,v0,h0,⟨rfl,rfl,rfl⟩,rfl,rfl,rfl⟩
  cbv
  refine a1g hS trivial (a1g hS (f1i hS (by omega)) (a1g hS (e1n hS (by omega)) ?_))
  refine hN (k+1,1) _ ⟨by simp only;omega,by simp,by simp⟩ (by simp only;omega)
   (b4w.le (a4c rfl ⟨a0x.refl _,a0x.refl _,a0x.refl _,a0x.refl _,a0x.refl _,a0x.refl _,b2s hS,trivial⟩
     (.cons (.refl _) (.cons (.refl _) (.cons (.refl _) (.cons (.refl _) (.cons (.refl _) (.cons (.var (.cons (a0x.refl _) (.cons (d8n hS) .nil))) (.cons (d7h hS (fun j hj=> .refl _) (.refl _)) (.nil _)))))))) (by simp;omega) (.inl ⟨by cbv,by cbv⟩) rfl))
 ·rename_i h
  have hkw:k=w:=by have:=Int.ofNat_le.1 (b3r hS h);omega
  subst hkw
  have hq1:=hkq (by omega)
  subst hq1
  cbv
  refine a1g hS (e8l hS (Nat.le_refl _)) ?_
  refine a0v hS _ (i5i (c:Int) (by omega) (fun _=> -1) true ⟨fun _ _ _=>rfl,fun _=>rfl⟩) ?_
  cbv
  refine a1g hS (a5p hS hw1) (a1g hS (i2h hS hw1) (a1g hS (i2h hS hw1) (a1g hS (c3d hS) (a1g hS (c3d hS) ?_))))
  exact⟨[0,1],fun l h1 h2=>by simp at h2⊢;omega,hF (h1:=[onE 1,onN,arrI (ns+1) g]) (.cons (.refl _) (.cons (.refl _) (.cons (.refl _) (.nil _)))) (a0x.refl _) (by simp) (.inl ⟨rfl,rfl⟩) ⟨rfl,rfl,rfl⟩⟩
theorem j6p {ns no T:Nat}{sz od:Nat->Int}(hns:ns<=1000)(hno:no<=1000)(hs: ∀i,i<ns->1<=sz i/\sz i<=12)(hp:h4d sz ns<=2000)(hT:(T:Int)=h4d sz ns)(hod: ∀i,i<no->0<=od i/\od i<ns):
 ∀(m r:Nat) (g:Nat->Int),r+m=no->(∀i,i<ns->0<=g i/\g i<sz i)-> ∀q,q<=1->a1h Tryz.prog 88 (onA ns no T sz od q r) [onE q,onN,arrI ns g] (onK ns no sz od g):=by
 intro m
 induction m with
 |zero=>
  intro r g hr hg q hq
  obtain rfl:r=no:=by omega
  have hb:=j5b hg ns (Nat.le_refl _)
  refine j5z (num:=(j5f sz g ns).toNat) ?_ (by omega) (by omega) q hq
  exact j4x (by omega) sz g hs hp hg _ (by omega)
 |succ m ih=>
  intro r g hr hg q hq
  have hr1:r<no:=by omega
  obtain⟨h1,h2⟩:=hod r hr1
  obtain⟨c,hc⟩: ∃c:Nat,od r=c:=⟨(od r).toNat,by omega⟩
  obtain⟨h3,h4⟩:=hs c (by omega)
  obtain⟨w,hw⟩: ∃w:Nat,sz c=w:=⟨(sz c).toNat,by omega⟩
  obtain⟨n1,rfl⟩: ∃n1,ns=n1+1:=⟨ns-1,by omega⟩
  refine j5w (by omega) hno hr1 hc (by omega) hw (by omega) (by omega) (fun k hk q hq=>ih (r+1) (h4l g c k) (by omega) (fun i hi=> ?_) q hq) q hq
  simp only[h4l]
  split
  ·rename_i e;subst e;omega
  ·exact hg i hi
def h40 (ns no:Nat)(sz od:Nat->Int):List a0f:=[.var [.d .nil,.d .nil,.d .nil,.d .nil,int 0],.var [isl ns sz,isl no od,.d .nil,.d .nil,int 0],arrI ns fun _=>0]
theorem j6h {ns no T:Nat}{sz od:Nat->Int}(hpt:a1h Tryz.prog 88 (onA ns no T sz od 0 0) [onE 0,onN,arrI ns fun _=>0] (onK ns no sz od fun _=>0)):
 a1h Tryz.prog 88 [.agg [isl ns sz,isl no od,.d .nil,.d .nil,int 0],vsl T fun _=>⟨0,1⟩,int 0,.msl 2 1 none ns false] (h40 ns no sz od)
  (fun pg v h'=> ∃pg1,i3s (h40 ns no sz od++[onE 0,onN]) [3,4,2] (onK ns no sz od fun _=>0) pg1 v h'/\pg=pg1.filter fun l=>decide (l<3)):=by
 have hfr:=a1h.frame (args':=[.agg [isl ns sz,isl no od,.msl 3 2 none 0 false,.msl 4 2 none 0 false,int 0],vsl T fun _=>⟨0,1⟩,int 0,.msl 2 1 none ns false]) hpt (H:=h40 ns no sz od++[onE 0,onN]) [3,4,2] rfl rfl
  (show _/\_ from⟨a9v.refl _,a9v.refl _,a9v.refl _,trivial⟩)
 have h2:=a1h.nilA (cs:=[isl ns sz,isl no od,.msl 3 2 none 0 false,.d .nil,int 0]) (h:=h40 ns no sz od++[onE 0]) 2 _ hfr ⟨.inl rfl,.inl rfl,.inl rfl,.inr ⟨rfl,rfl⟩,.inl rfl,trivial⟩
 have h1:=a1h.nilA (cs:=[isl ns sz,isl no od,.d .nil,.d .nil,int 0]) (h:=h40 ns no sz od) 2 _ h2 ⟨.inl rfl,.inl rfl,.inr ⟨rfl,rfl⟩,.inl rfl,.inl rfl,trivial⟩
 exact h1.pgs
theorem j6o {ns no T:Nat}{sz od:Nat->Int}(hns:ns<=1000)(hno:no<=1000)(hpt:a1h Tryz.prog 88 (onA ns no T sz od 0 0) [onE 0,onN,arrI ns fun _=>0] (onK ns no sz od fun _=>0)):
 a0j Tryz.prog false 40 [isl ns sz,isl no od,vsl T fun _=>⟨0,1⟩] (.agg [isl ns sz,isl no od,vsl 1 fun _=>⟨0,1⟩,bsl 0 (fun _=>0) (fun _=>0) (fun _ _=>0),int (-1)]):=by
 refine a0k Tryz.mixed okP g3y _ rfl fun E Sg hb hS=> ?_
 have e:=b2k hS
 cbv
 simp only[e.ofNat,e.toNat,Int.toNat_natCast]
 refine a1g hS (e8l hS (show ns<=1073741824 by omega)) (a1g hS (e8l hS (show no<=1073741824 by omega)) (a1g hS (i0n hS (Int.natCast_nonneg _)) (a1g hS (i0n hS (Int.ofNat_le.2 (show ns<=1073741824 by omega))) ?_)))
 refine h3v hS (((j6h hpt).heap (.cons (.var (.cons (a0x.refl _) (.cons (a0x.refl _) (.cons (a0x.refl _) (.cons (a0x.refl _) (.cons (a6c rfl) .nil)))))) (.cons (.var (.cons (a0x.refl _) (.cons (a0x.refl _) (.cons (a0x.refl _) (.cons (a0x.refl _) (.cons (a6c rfl) .nil)))))) (.cons (h8m hS fun j hj=> .one (.int rfl)) (.nil _)))) rfl)) ?_
 rintro pg v H' ⟨pg1,⟨pg0,v0,h0,⟨rfl,rfl,rfl⟩,rfl,rfl,rfl⟩,hpg⟩
 have hpg0:pg=[]:=hpg
 subst hpg0
 clear hpg
 cbv
 refine a1g hS (e8l hS (Nat.le_refl _)) (a1g hS (e8l hS (Nat.le_refl _)) ?_)
 exact a3x.agg (.cons (a0x.refl _) (.cons (a0x.refl _) (.cons (a0x.refl _) (.cons (a0x.sl' rfl fun i hi=>absurd hi (Nat.not_lt_zero i)) (.cons (a0x.refl _) .nil)))))
end Go.Proofs.Tryz.Run
