/- The program's open of a case; where a spot stands; the place with a number. Conditions: none. -/
import Derived.Test.YtbglklaocjifhaaGreatALr
import Derived.Test.YtbglklaocjifhaaGreatANa
import Derived.Test.YtbglklaocjifhaaGreatANb
import Derived.Test.YtbglklaocjifhaaGreatANc
import Derived.Test.YtbglklaocjifhaaGreatAOa
import Derived.Test.YtbglklaocjifhaaGreatAPm0
import Derived.Test.YtbglklaocjifhaaGreatAQd
import Derived.Test.YtbglklaocjifhaaGreatAQf
import Derived.Test.YtbglklaocjifhaaGreatAQi
import Derived.Test.YtbglklaocjifhaaGreatASd
import Derived.Test.YtbglklaocjifhaaGreatASv
import Derived.Test.YtbglklaocjifhaaGreatAHr
import Derived.Test.YtbglklaocjifhaaGreatAHt
import Derived.Test.YtbglklaocjifhaaGreatAHv
set_option linter.unusedSimpArgs false
set_option linter.unusedVariables false
set_option maxHeartbeats 0
set_option maxRecDepth 100000
namespace Go.Proofs.Tryz.Run
open Go Go.Vf Go.Proofs
open Go.Proofs.YtbglklaocjifhaaGreat
theorem i2r (a b:DiR){ns no nl:Nat}{sz od:Nat->Int}{lk:Nat->DiR}{er:Int}(h131:a0j Tryz.prog false 131 [isl ns sz,isl no od,dsl nl lk,a.av,b.av] (.tuple [.d (.raw (.pointer none)),int er]))(h0:er≠0):
 a0j Tryz.prog false 108 [isl ns sz,isl no od,dsl nl lk,a.av,b.av] (.tuple [.d (.raw (.pointer none)),int er]):=by
 obtain⟨ins,isz,ino,iod,ine,ien,inn,ivar,ink,ikid,iroot⟩:=a
 obtain⟨gns,gsz,gno,god,gne,gen,gnn,gvar,gnk,gkid,groot⟩:=b
 refine a0k Tryz.mixed okP f0g _ rfl fun E Sg hbs hS=> ?_
 have e:=b2k hS
 cbv
 refine a0v hS _ h131 ?_
 cbv
 have hb0:(er==Int.ofNat 0)=false:=beq_false_of_ne h0
 simp only[e.ieq,e.bnot,hb0]
 cbv
 exact a0x.refl _
theorem i3a (a b:DiR){ns no nl n:Nat}{sz od:Nat->Int}{lk:Nat->DiR}{x0 x1 x2 x3:DV}{e4:Nat->List DV}(h131:a0j Tryz.prog false 131 [isl ns sz,isl no od,dsl nl lk,a.av,b.av] (.tuple [.dptr [x0,x1,x2,x3,.sl 9 n e4] 0,int 0])):
 (n=0->a0j Tryz.prog false 108 [isl ns sz,isl no od,dsl nl lk,a.av,b.av] (.tuple [.d (.raw (.pointer none)),int 12]))/\(0<n->a0j Tryz.prog false 108 [isl ns sz,isl no od,dsl nl lk,a.av,b.av] (.tuple [.dptr [x0,x1,x2,x3,.sl 9 n e4] 0,int 0])):=by
 obtain⟨ins,isz,ino,iod,ine,ien,inn,ivar,ink,ikid,iroot⟩:=a
 obtain⟨gns,gsz,gno,god,gne,gen,gnn,gvar,gnk,gkid,groot⟩:=b
 constructor
 ·intro hn
  refine a0k Tryz.mixed okP f0g _ rfl fun E Sg hbs hS=> ?_
  have e:=b2k hS
  cbv
  refine a0v hS _ h131 ?_
  cbv
  simp only[e.ieq]
  cbv
  simp only[e.ieq,e.ofNat,hn]
  cbv
  exact a3x.tuple (.cons (a0x.refl _) (.cons (a6c rfl) .nil))
 ·intro hn
  refine a0k Tryz.mixed okP f0g _ rfl fun E Sg hbs hS=> ?_
  have e:=b2k hS
  cbv
  refine a0v hS _ h131 ?_
  cbv
  simp only[e.ieq]
  cbv
  have hb0:((n:Int)==Int.ofNat 0)=false:=beq_false_of_ne (by simp only[Int.ofNat_eq_natCast];omega)
  simp only[e.ieq,e.ofNat,hb0]
  cbv
  exact a0x.refl _
def i5b (F:Nat->VaR)(g:Bool):AV:= .agg [u8 (F 0).fault,int (F 0).n,u8 (F 1).fault,int (F 1).n,u8 (F 2).fault,int (F 2).n,u8 (F 3).fault,int (F 3).n,bool g]
theorem i2q {n:Nat}(hn:n<=1000000)(F:Nat->Nat->VaR)(g:Nat->Bool)(T:Nat->VaR)(z:Bool)(p:Nat->Bool)(hp: ∀j,p j=true↔(∀k,k<4->T k=F j k)/\z=g j)(r:Int)(hr:a6z n p r):
 a0j Tryz.prog true 111 [.d (.sl 9 n fun j=>h7v (F j) (g j)),i5b T z] (int r):=by
 obtain⟨A,hA⟩: ∃A:Nat->Nat->Int,∀j k,(F j k).fault=A j k:=⟨_,fun _ _=>rfl⟩
 obtain⟨B,hB⟩: ∃B:Nat->Nat->Int,∀j k,(F j k).n=B j k:=⟨_,fun _ _=>rfl⟩
 obtain⟨C,hC⟩: ∃C:Nat->Int,∀k,(T k).fault=C k:=⟨_,fun _=>rfl⟩
 obtain⟨D,hD⟩: ∃D:Nat->Int,∀k,(T k).n=D k:=⟨_,fun _=>rfl⟩
 have hp2: ∀j,p j=true↔(C 0=A j 0/\D 0=B j 0/\C 1=A j 1/\D 1=B j 1/\C 2=A j 2/\D 2=B j 2/\C 3=A j 3/\D 3=B j 3)/\z=g j:=fun j=>by
  rw[hp]
  simp only[<-hA,<-hB,<-hC,<-hD]
  refine and_congr_left fun _=>⟨fun h=> ?_,fun h k hk=> ?_⟩
  ·rw[h 0 (by omega),h 1 (by omega),h 2 (by omega),h 3 (by omega)];exact⟨rfl,rfl,rfl,rfl,rfl,rfl,rfl,rfl⟩
  ·obtain⟨h0,h1,h2,h3,h4,h5,h6,h7⟩:=h
   have hv: ∀a b:VaR,a.fault=b.fault->a.n=b.n->a=b:=fun a b h1 h2=>by cases a;cases b;simp only at h1 h2;subst h1 h2;rfl
   match k,hk with
   |0,_=>exact hv _ _ h0 h1
   |1,_=>exact hv _ _ h2 h3
   |2,_=>exact hv _ _ h4 h5
   |3,_=>exact hv _ _ h6 h7
 unfold h7v i5b
 simp only[hA,hB,hC,hD]
 clear hp hA hB hC hD
 refine a4e (a0k Tryz.mixed okP f2e _ rfl fun E Sg hb hS=> ?_)
 have e:=b2k hS
 cbv
 refine a7r Tryz.mixed okP hS (fun i=>i<=n/\ ∀j,j<i->p j=false) (fun i=>n-i)
  (fun i=>⟨b5r [(0,.d (.sl 9 n fun j=>[.int .u8 (.v (A j 0)),.int .i64 (.v (B j 0)),.int .u8 (.v (A j 1)),.int .i64 (.v (B j 1)),.int .u8 (.v (A j 2)),.int .i64 (.v (B j 2)),.int .u8 (.v (A j 3)),.int .i64 (.v (B j 3)),.bool (g j)])),(3,.ptr 0 0),(7,int n),(8,int i)] 19,[.var [u8 (C 0),int (D 0),u8 (C 1),int (D 1),u8 (C 2),int (D 2),u8 (C 3),int (D 3),bool z]],[]⟩) 0 ⟨by omega,by omega⟩ ?_ ?_
 ·exact a4c rfl ⟨a0x.refl _,a0x.refl _,b0a (by simp only[e.ofNat]),a6c rfl,trivial⟩ (.same _) (by simp;omega) (.inr rfl) rfl
 ·intro i hi N hN
  cbv
  split
  ·rename_i h
   have hlt:i<n:=Int.ofNat_lt.1 (b3h hS h)
   cbv
   simp only[nat,e.toNat,Int.ofNat_eq_natCast,Int.toNat_natCast]
   refine a1g hS (a5p hS hlt) ?_
   simp only[e.band,e.ieq,e.beq]
   split
   ·rename_i h
    have hpi:p i=true:=(hp2 i).2 (by simpa [and_assoc] using h)
    cbv
    exact b0a (hr.2 i hlt hpi hi.2).symm
   ·rename_i h
    have hpi:p i=false:=by
     cases hpp:p i
     ·rfl
     ·obtain⟨⟨h0,h1,h2,h3,h4,h5,h6,h7⟩,h8⟩:=(hp2 i).1 hpp
      rw[h0,h1,h2,h3,h4,h5,h6,h7,h8] at h
      simp at h
    cbv
    refine a1g hS (e1n hS (by omega)) ?_
    refine hN (i+1) _ ⟨by omega,fun j hj=> ?_⟩ (by omega) (a4c rfl ⟨a0x.refl _,a0x.refl _,a0x.refl _,b2s hS,trivial⟩ (.same _) (by simp;omega) (.inr rfl) rfl)
    by_cases e:j=i
    ·subst e;exact hpi
    ·exact hi.2 j (by omega)
  ·rename_i h
   have hni:n<=i:=Int.ofNat_le.1 (b3r hS h)
   cbv
   exact a6c (hr.1 fun j hj=>hi.2 j (by omega)).symm
theorem i4r {ns:Nat}(sz:Nat->Int):a1h Tryz.prog 148 [isl ns sz] [] (fun pg v h'=>pg=[]/\v= .fn 185 [] [.ptr 0 0]/\h'=[.var [isl ns sz]]):=by
 refine h3w Tryz.mixed okP e8f rfl fun E Sg hb hS F hF=> ?_
 cbv
 exact⟨[],by simp,hF (.cons (.refl _) (.nil _)) (a0x.refl _) (by simp) (.inr rfl) ⟨rfl,rfl,rfl⟩⟩
def bkH (o0 A B o3 b o5:a0f):List a0f:=[o0,A,B,o3,b,o5]
theorem i5d {ns:Nat}(hns:ns<=1000000)(sz:Nat->Int)(J:Nat->Nat)(hJ: ∀p,p<ns->J p=ns-1-p)(o0 o3 o5:a0f)(A B:Nat->a0f)
 (hY: ∀p,p<ns->b5d Tryz.prog 5 [int (J p),int (sz (J p))] (bkH o0 (A p) (B p) o3 (.var [isl ns sz]) o5) (fun pg v h'=>pg=[]/\v= .d (.bool true)/\h'=bkH o0 (A (p+1)) (B (p+1)) o3 (.var [isl ns sz]) o5)):
 a1h Tryz.prog 185 [.yl 5,.ptr 4 0] (bkH o0 (A 0) (B 0) o3 (.var [isl ns sz]) o5) (fun pg v h'=>pg=[]/\h'=bkH o0 (A ns) (B ns) o3 (.var [isl ns sz]) o5):=by
 obtain⟨K,hK⟩: ∃K:Nat->Int,∀p,K p=(ns:Int)-1-p:=⟨_,fun _=>rfl⟩
 have hK1: ∀p,p<ns->K p=J p:=fun p hp=>by rw[hK,hJ p hp];omega
 have hKp: ∀p,p<=ns->0<=K p->p<ns:=fun p hp h=>by rw[hK] at h;omega
 have hKn: ∀p,p<=ns->K p<0->p=ns:=fun p hp h=>by rw[hK] at h;omega
 have hK2: ∀p,K (p+1)=K p-1:=fun p=>by rw[hK,hK];omega
 have hK0:K 0=(ns:Int)-1:=by rw[hK];omega
 refine h3w Tryz.mixed okP e8c rfl fun E Sg hb hS F hF=> ?_
 simp only[bkH,List.length_cons,List.length_nil] at hb
 have e:=b2k hS
 cbv
 refine a1g hS (a9o hS (by simp only[e.ofNat,Int.ofNat_eq_natCast];show-9223372036854775808<=(ns:Int)-1/\(ns:Int)-1<=9223372036854775807;omega)) ?_
 refine a7r Tryz.mixed okP hS (fun p=>p<=ns) (fun p=>ns-p)
  (fun p=>⟨b5r [(0,.yl 5),(1,.ptr 4 0),(3,int (K p))] 19,bkH o0 (A p) (B p) o3 (.var [isl ns sz]) o5,[]⟩) 0 (by omega) ?_ ?_
 ·refine a4c rfl ⟨a0x.refl _,a0x.refl _,b0a ?_,trivial⟩ (a4k.same _) (by simp[bkH];omega) (.inr rfl) rfl
  simp only[e.isub,e.ofNat,hK0,IX.val,Int.ofNat_eq_natCast]
  rfl
 ·intro p hp N hN
  cbv
  split
  ·rename_i h
   have hlt:p<ns:=hKp p hp (e3n hS h)
   have hj:=hK1 p hlt
   have hjn:J p<ns:=by rw[hJ p hlt];omega
   have hyp:=hY p hlt
   cbv
   simp only[nat,e.toNat,hj,Int.toNat_natCast]
   refine a1g hS (a5p hS hjn) ?_
   refine i5x hS hyp ?_
   rintro pg v H' ⟨rfl,rfl,rfl⟩
   cbv
   refine a1g hS (a9o hS (show-9223372036854775808<=(J p:Int)-1/\(J p:Int)-1<=9223372036854775807 by omega)) ?_
   exact hN (p+1) _ hlt (by omega) (a4c rfl ⟨a0x.refl _,a0x.refl _,b0a (by simp only[e.isub,hK2,hj,Int.ofNat_eq_natCast];rfl),trivial⟩ (a4k.same _) (by simp[bkH];omega) (.inr rfl) rfl)
  ·rename_i h
   have hpn:p=ns:=hKn p hp (e3g hS h)
   subst hpn
   cbv
   exact⟨[],by simp,hF (a4k.same _) (a0x.refl _) (by simp[bkH]) (.inr rfl) ⟨rfl,rfl⟩⟩
def i7h:a0c×a0c:=match g3o with| .seq _ (.seq _ (.seq (.seq _ (.block _ (.range _ _ a b))) _))=>(a,b)|_=>(.ret,.ret)
def i6i:a0f:= .loop .ready (b5r [(3,.ptr 1 0),(5,.ptr 3 0)] 27) [15,16] (fun ca cb=>comp Tryz.prog f8p.A ca=some i7h.1/\comp Tryz.prog f8p.A cb=some i7h.2)
theorem i2t {ns no:Nat}(hns:ns<=1000000)(sz od g:Nat->Int)(hs: ∀i,i<ns->1<=sz i/\sz i<=12)(hp:h4d sz ns<=2000)(hg:i2j sz g ns)(n:Int)(hn:h4w sz g ns=n):a0j Tryz.prog false 112 [.agg [isl ns sz,isl no od],int n] (isl ns g):=by
 obtain⟨V,hV⟩: ∃V:Nat->Int,∀i,h4w sz g i=V i:=⟨_,fun _=>rfl⟩
 have hV1: ∀i,V (i+1)=V i*sz i+g i:=fun i=>by rw[<-hV,<-hV];rfl
 have hV0: ∀i,i<=ns->0<=V i/\V i<=2000:=fun i hi=>by
  have h1:=h5c (sz:=sz) (pl:=g) (n:=i) fun j hj=>hg j (by omega)
  have h2:=h7t (sz:=sz) (n:=ns) (fun i hi=>(hs i hi).1) i hi
  rw[<-hV];omega
 rw[hV] at hn
 obtain⟨J,hJ⟩: ∃J:Nat->Nat,∀p,J p=ns-1-p:=⟨_,fun _=>rfl⟩
 obtain⟨B,hB⟩: ∃B:Nat->Nat->Int,∀p i,B p i=if ns-p<=i then g i else 0:=⟨_,fun _ _=>rfl⟩
 obtain⟨M,hM⟩: ∃M:Nat->Int,∀p,M p=V (ns-p):=⟨_,fun _=>rfl⟩
 have hM0:M 0=n:=by rw[hM,Nat.sub_zero,hn]
 have hM1: ∀p,p<ns->(M p).tmod (sz (J p))=g (J p)/\(M p).tdiv (sz (J p))=M (p+1)/\0<sz (J p)/\0<=M (p+1)/\M (p+1)<=2000:=fun p hp=>by
  have h1:ns-p=J p+1:=by rw[hJ];omega
  have h2:ns-(p+1)=J p:=by rw[hJ];omega
  have hjn:J p<ns:=by rw[hJ];omega
  have h3:=hV0 (J p) (by omega)
  have h4:=hs (J p) hjn
  obtain⟨h5,h6⟩:=i3z h3.1 (show 0<sz (J p) by omega) (hg (J p) hjn)
  rw[hM,hM,h1,h2,hV1]
  exact⟨h5,h6,by omega,h3⟩
 refine a0k Tryz.mixed okP f1k _ rfl fun E Sg hbs hS=> ?_
 have e:=b2k hS
 cbv
 refine a1g hS (i4c hS) (a1g hS (i4a hS (by omega)) ?_)
 simp only[e.ofNat,e.toNat,Int.toNat_natCast]
 refine h3v hS (a1h.frame (i4r (ns:=ns) sz) [] rfl rfl trivial) ?_
 rintro pg v H' ⟨pg0,v0,h0,⟨rfl,rfl,rfl⟩,rfl,rfl,rfl⟩
 cbv
 refine i0x hS rfl ?_
 have hr:=i5d (ns:=ns) hns sz J (fun p _=>hJ p) (.var [.any,.any]) (.var [.msl 2 1 none ns false]) i6i (fun p=> .var [int (M p)]) (fun p=>arrI ns (B p)) ?_
 ·refine a1h.mono ?_ (hr.heap (.cons (.var (.cons (a0x.any _) (.cons (a0x.any _) .nil))) (.cons (.var (.cons (b0a hM0.symm) .nil)) (.cons (h8m hS fun j hj=>by rw[hB,if_neg (by omega)];exact .one (.int rfl)) (.cons (.refl _) (.cons (.refl _) (.cons (a9v.loop ?_ fun a b h=>h) (.nil _))))))) rfl)
  ·rintro pg v H' ⟨rfl,rfl⟩
   cbv
   refine⟨fun h=>(nomatch h),_,_,_,_,rfl,?_⟩
   cbv
   refine a1g hS (e8l hS (Nat.le_refl _)) ?_
   exact a0x.isl rfl fun i hi=>by rw[hB,if_pos (by omega)]
  ·exact d2w rfl ⟨a0x.refl _,a0x.refl _,trivial⟩
 ·intro p hp
  have hjn:J p<ns:=by rw[hJ];omega
  obtain⟨m1,m2,m3,m4,m5⟩:=hM1 p hp
  refine b5d.cut (b9t Tryz.mixed okP (A:=f8p.A) rfl (fun _ _ h=>h) rfl fun ro E Sg hS=> ?_)
  have e:=b2k hS
  cbv
  refine⟨fun h=>(nomatch h),_,_,_,rfl,?_⟩
  cbv
  simp only[nat,e.toNat,e.irem,e.iquo,Int.ofNat_eq_natCast,Int.toNat_natCast,m1,m2]
  repeat (first|refine a1g hS (a5p hS hjn) ?_|refine a1g hS (i6p hS (by omega)) ?_|refine a1g hS (i2h hS hjn) ?_|refine a1g hS (e7p hS (by omega)) ?_|refine a1g hS (c3d hS) ?_)
  refine⟨fun h=>(nomatch h),_,_,_,rfl,[],fun m _ h=>h,?_⟩
  cbv
  refine⟨bkH _ (.var [int (M (p+1))]) (arrI ns (B (p+1))) _ _ i6i,.d (.bool true),.cons (.refl _) (.cons (.refl _) (.cons (h8j hS ?_ ?_) (.cons (.refl _) (.cons (.refl _)
   (.cons (a9v.loop (d2w rfl ⟨a0x.refl _,a0x.refl _,trivial⟩) fun a b h=>h) (.nil _)))))),a0x.refl _,by simp[bkH],.inr rfl,rfl,rfl,rfl⟩
  ·intro j hj hne
   rw[hJ] at hne
   rw[hB,hB]
   by_cases h:ns-p<=j
   ·rw[if_pos h,if_pos (by omega)];exact .refl _
   ·rw[if_neg h,if_neg (by omega)];exact .refl _
  ·intro _
   rw[hB,if_pos (by rw[hJ];omega)]
   exact .refl _
end Go.Proofs.Tryz.Run
