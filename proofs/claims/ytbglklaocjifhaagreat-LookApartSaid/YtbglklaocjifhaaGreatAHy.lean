/- Two places that no look tells apart: the program's Apart and the reference's. The reference's Apart. Conditions: none. -/
import Derived.Test.YtbglklaocjifhaaGreatALr
import Derived.Test.YtbglklaocjifhaaGreatANa
import Derived.Test.YtbglklaocjifhaaGreatANb
import Derived.Test.YtbglklaocjifhaaGreatANc
import Derived.Test.YtbglklaocjifhaaGreatAOa
import Derived.Test.YtbglklaocjifhaaGreatAOb
import Derived.Test.YtbglklaocjifhaaGreatAPm0
import Derived.Test.YtbglklaocjifhaaGreatAQd
import Derived.Test.YtbglklaocjifhaaGreatAQf
import Derived.Test.YtbglklaocjifhaaGreatAQi
import Derived.Test.YtbglklaocjifhaaGreatASd
import Derived.Test.YtbglklaocjifhaaGreatAHr
import Derived.Test.YtbglklaocjifhaaGreatAHt
import Derived.Test.YtbglklaocjifhaaGreatAHu
import Derived.Test.YtbglklaocjifhaaGreatAHv
import Derived.Test.YtbglklaocjifhaaGreatAHw
set_option linter.unusedSimpArgs false
set_option linter.unusedVariables false
set_option maxHeartbeats 0
set_option maxRecDepth 100000
namespace Go.Proofs.Tryz.Run
open Go Go.Vf Go.Proofs
open Go.Proofs.YtbglklaocjifhaaGreat
def i1q (n:Nat)(a:Nat->Nat->Bool):Prop:= ∀i j,i<j->j<n->a i j=false
def h7w (n:Nat)(a:Nat->Nat->Bool)(x y:Nat):Prop:=(x<y/\y<n/\a x y=true)/\(∀i,i<x-> ∀j,i<j->j<n->a i j=false)/\ ∀j,x<j->j<y->a x j=false
theorem i2s {p:Nat->Prop}[DecidablePred p]: ∀{n:Nat},(∃i,i<n/\p i)-> ∃i,i<n/\p i/\ ∀j,j<i-> ¬p j
 |0,⟨i,h,_⟩=>by omega
 |n+1,h=>by
  by_cases h1: ∃i,i<n/\p i
  ·obtain⟨i,a,b,c⟩:=i2s h1
   exact⟨i,by omega,b,c⟩
  ·obtain⟨i,a,b⟩:=h
   have:i=n:=by
    apply Classical.byContradiction
    intro h2
    exact h1 ⟨i,by omega,b⟩
   subst this
   exact⟨i,by omega,b,fun j hj hp=>h1 ⟨j,hj,hp⟩⟩
theorem i4u (n:Nat)(a:Nat->Nat->Bool):i1q n a\/ ∃x y,h7w n a x y:=by
 classical
 by_cases h: ∃x,x<n/\ ∃y,y<n/\x<y/\a x y=true
 ·obtain⟨x,h1,⟨y,h2,h3⟩,h4⟩:=i2s h
  obtain⟨y,h5,⟨h6,h7⟩,h8⟩:=i2s (p:=fun y=>x<y/\a x y=true) (n:=n) ⟨y,h2,h3⟩
  refine .inr ⟨x,y,⟨h6,h5,h7⟩,fun i hi j hj hn=> ?_,fun j hj hy=> ?_⟩
  ·cases hb:a i j
   ·rfl
   ·exact absurd ⟨j,hn,hj,hb⟩ (h4 i hi)
  ·cases hb:a x j
   ·rfl
   ·exact absurd ⟨hj,hb⟩ (h8 j hy)
 ·refine .inl fun i j hi hj=> ?_
  cases hb:a i j
  ·rfl
  ·exact absurd ⟨i,by omega,j,hj,hi,hb⟩ h
theorem h7w.at {n:Nat}{a:Nat->Nat->Bool}{x y:Nat}(h:h7w n a x y){i:Nat}(h0: ∀i',i'<i-> ∀j,i'<j->j<n->a i' j=false){j:Nat}(hj:i<j)(hn:j<n)(ha:a i j=true)(hf: ∀j',i<j'->j'<j->a i j'=false):i=x/\j=y:=by
 have e:i=x:=by
  rcases Nat.lt_trichotomy i x with h1|h1|h1
  ·rw[h.2.1 i h1 j hj hn] at ha;cases ha
  ·exact h1
  ·have:=h0 x h1 y h.1.1 h.1.2.1;rw[h.1.2.2] at this;cases this
 subst e
 refine⟨rfl,?_⟩
 rcases Nat.lt_trichotomy j y with h1|h1|h1
 ·rw[h.2.2 j hj h1] at ha;cases ha
 ·exact h1
 ·have:=hf y h.1.1 h1;rw[h.1.2.2] at this;cases this
theorem i0g (A B:DiR){ns no nl n:Nat}{sz od:Nat->Int}{lk:Nat->DiR}(hn:n<=1000000){W:Nat->Nat}{X:Nat->Nat->VaR}{G:Nat->Bool}(h108:a0j Tryz.prog false 108 [isl ns sz,isl no od,dsl nl lk,A.av,B.av] (.tuple [.dptr (i0q ns sz no od nl n (fun j=>(W j:Int)) X G) 0,int 0]))
 (Q:Nat->Nat->Int) (h112: ∀j,j<n->a0j Tryz.prog false 112 [.agg [isl ns sz,isl no od],int (W j)] (isl ns (Q (W j))))
 (a:Nat->Nat->Bool) (ha: ∀i j,a i j=true↔(∀k,k<4->cel nl X k (W i)=cel nl X k (W j))/\G (W i)≠G (W j)) (v:AV) (hv:(i1q n a/\v= .tuple [.d .nil,.d .nil,int 7])\/ ∃x y,h7w n a x y/\v= .tuple [isl ns (Q (W x)),isl ns (Q (W y)),int 0]):
 a0j Tryz.prog false 81 [isl ns sz,isl no od,dsl nl lk,A.av,B.av] v:=by
 have hself: ∀i,a i i=false:=fun i=>by
  cases hb:a i i
  ·rfl
  ·exact absurd rfl ((ha i i).1 hb).2
 have hz:=fun i (hi:i<n)=>a9i (n-i) fun k=>a i (i+k)
 obtain⟨zz,hz⟩: ∃z:Nat->Int,∀i,i<n->a6z (n-i) (fun k=>a i (i+k)) (z i)/\(0<=z i-> ∃k,k<n-i/\a i (i+k)=true)/\((∃k,k<n-i/\a i (i+k)=true)->0<=z i):=by
  have: ∀i,∃z,i<n->a6z (n-i) (fun k=>a i (i+k)) z/\(0<=z-> ∃k,k<n-i/\a i (i+k)=true)/\((∃k,k<n-i/\a i (i+k)=true)->0<=z):=fun i=>by
   by_cases h:i<n
   ·obtain⟨z,h1⟩:=hz i h;exact⟨z,fun _=>h1⟩
   ·exact⟨0,fun h'=>absurd h' h⟩
  exact Classical.axiomOfChoice this
 have h111:=fun i (hi:i<n)=>i2q (n:=n-i) (by omega) (fun j k=>cel nl X k (W (i+j))) (fun j=>G (W (i+j))) (fun k=>cel nl X k (W i)) (!G (W i)) (fun k=>a i (i+k)) (fun j=>by
  rw[ha]
  refine and_congr_right fun _=> ?_
  cases G (W i)<;>cases G (W (i+j))<;>simp) (zz i) (hz i hi).1
 have key: ∀i,i<n->(∀i',i'<i-> ∀j,i'<j->j<n->a i' j=false)->(zz i<0/\ ∀j,i<j->j<n->a i j=false)\/ ∃y:Nat,zz i=((y-i:Nat):Int)/\i<y/\y<n/\v= .tuple [isl ns (Q (W i)),isl ns (Q (W y)),int 0]:=fun i hi h0=>by
  obtain⟨⟨f1,f2⟩,f3,f4⟩:=hz i hi
  by_cases h:0<=zz i
  ·right
   obtain⟨k,⟨k1,k2⟩,k3⟩: ∃k,(k<n-i/\a i (i+k)=true)/\ ∀j,j<k->a i (i+j)=false:=by
    classical
    obtain⟨k,c1,c2,c3⟩:=i2s (p:=fun k=>a i (i+k)=true) (f3 h)
    exact⟨k,⟨c1,c2⟩,fun j hj=>by cases hb:a i (i+j);rfl;exact absurd hb (c3 j hj)⟩
   have hk0:0<k:=by
    rcases Nat.eq_zero_or_pos k with h'|h'
    ·subst h';rw[Nat.add_zero,hself] at k2;cases k2
    ·exact h'
   have hzk:=f2 k k1 k2 k3
   rcases hv with⟨hv,_⟩|⟨x,y,hxy,hv⟩
   ·rw[hv i (i+k) (by omega) (by omega)] at k2;cases k2
   ·obtain⟨e1,e2⟩:=hxy.at h0 (j:=i+k) (by omega) (by omega) k2 (fun j' h1 h2=>by
     have:=k3 (j'-i) (by omega)
     rwa [show i+(j'-i)=j' by omega] at this)
    subst e1 e2
    exact⟨i+k,by rw[hzk];congr 1;omega,by omega,by omega,hv⟩
  ·left
   refine⟨by omega,fun j h1 h2=> ?_⟩
   cases hb:a i j
   ·rfl
   ·exact absurd (f4 ⟨j-i,by omega,by rw[show i+(j-i)=j by omega];exact hb⟩) h
 have hend:(∀i j,i<j->j<n->a i j=false)->v= .tuple [.d .nil,.d .nil,int 7]:=fun h=>by
  rcases hv with⟨_,hv⟩|⟨x,y,hxy,hv⟩
  ·exact hv
  ·have:=h x y hxy.1.1 hxy.1.2.1;rw[hxy.1.2.2] at this;cases this
 clear hz ha hself hv
 obtain⟨ins,isz,ino,iod,ine,ien,inn,ivar,ink,ikid,iroot⟩:=A
 obtain⟨gns,gsz,gno,god,gne,gen,gnn,gvar,gnk,gkid,groot⟩:=B
 unfold i0q h7v at h108
 unfold i5b h7v at h111
 obtain⟨F,hF⟩: ∃F:Nat->Nat->VaR,∀j k,cel nl X k (W j)=F j k:=⟨_,fun _ _=>rfl⟩
 obtain⟨g,hg⟩: ∃g:Nat->Bool,∀j,G (W j)=g j:=⟨_,fun _=>rfl⟩
 simp only[Int.toNat_natCast,hF,hg] at h108 h111
 clear hF hg
 refine a0k Tryz.mixed okP h2h _ rfl fun E Sg hbs hS=> ?_
 have e:=b2k hS
 have en: ∀k:Nat,nat Sg (IX.v (Int.ofNat k))=k:=fun k=>by
  show Sg.toNat (Int.ofNat k)=k
  rw[e.toNat];rfl
 cbv
 refine a0v hS _ h108 ?_
 cbv
 simp only[e.ieq,e.bnot]
 cbv
 refine a7r Tryz.mixed okP hS (fun i=>i<=n/\ ∀i',i'<i-> ∀j,i'<j->j<n->a i' j=false) (fun i=>n-i)
  (fun i=>⟨b5r [(13,.dptr [.sl 1 ns fun i=>[.int .i64 (.v (sz i))],.sl 1 no fun i=>[.int .i64 (.v (od i))],.int .i64 (.v nl),.sl 1 n fun j=>[.int .i64 (.v (W j))],.sl 9 n fun j=>[.int .u8 (.v (F j 0).fault),.int .i64 (.v (F j 0).n),.int .u8 (.v (F j 1).fault),.int .i64 (.v (F j 1).n),.int .u8 (.v (F j 2).fault),.int .i64 (.v (F j 2).n),.int .u8 (.v (F j 3).fault),.int .i64 (.v (F j 3).n),.bool (g j)]] 0),(33,.d (.sl 9 n fun j=>[.int .u8 (.v (F j 0).fault),.int .i64 (.v (F j 0).n),.int .u8 (.v (F j 1).fault),.int .i64 (.v (F j 1).n),.int .u8 (.v (F j 2).fault),.int .i64 (.v (F j 2).n),.int .u8 (.v (F j 3).fault),.int .i64 (.v (F j 3).n),.bool (g j)])),(34,int n),(35,int i)] 82,[.var [isl ins isz,isl ino iod,vsl ine ien,bsl inn ivar ink ikid,int iroot],.var [isl gns gsz,isl gno god,vsl gne gen,bsl gnn gvar gnk gkid,int groot]],[]⟩) 0 ⟨by omega,by omega⟩ ?_ ?_
 ·exact a4c rfl ⟨a0x.refl _,a0x.refl _,b0a (by simp only[e.ofNat]),a6c rfl,trivial⟩ (.same _) (by simp;omega) (.inr rfl) rfl
 ·intro i hi N hN
  cbv
  split
  ·rename_i h
   have hlt:i<n:=Int.ofNat_lt.1 (b3h hS h)
   have q1:=h111 i hlt
   cbv
   simp only[en]
   refine a1g hS (a5p hS hlt) ?_
   obtain⟨z,hz⟩: ∃z,z=g i:=⟨_,rfl⟩
   rw[<-hz]
   rw[<-hz] at q1
   have q2:a0j Tryz.prog true 111 [.d (.sl 9 (Sg.nsub n i) (Sg.shift (fun j=>[.int .u8 (.v (F j 0).fault),.int .i64 (.v (F j 0).n),.int .u8 (.v (F j 1).fault),.int .i64 (.v (F j 1).n),.int .u8 (.v (F j 2).fault),.int .i64 (.v (F j 2).n),.int .u8 (.v (F j 3).fault),.int .i64 (.v (F j 3).n),.bool (g j)]) i)),.agg [u8 (F i 0).fault,int (F i 0).n,u8 (F i 1).fault,int (F i 1).n,u8 (F i 2).fault,int (F i 2).n,u8 (F i 3).fault,int (F i 3).n,bool (!z)]] (int (zz i)):=
    a0j.like (.cons (a0x.slr (by simp only[e.nsub]) fun j hj=>by simp only[e.shift];exact .refl _) (.cons (a0x.refl _) .nil)) q1
   clear q1
   have hkey:=key i hlt hi.2
   cases z
   all_goals
    cbv
    simp only[e.toNat,e.ofNat,Int.ofNat_eq_natCast,Int.toNat_natCast]
    refine a1g hS (i0n hS (Int.natCast_nonneg i)) (a1g hS (i0n hS (Int.ofNat_le.2 (Nat.le_of_lt hlt))) (a1g hS (i0n hS (Int.le_refl _)) ?_))
    refine a0v hS _ q2 ?_
    cbv
    rcases hkey with⟨hz0,hno⟩|⟨y,hz0,hy1,hy2,hv⟩
    ·have hb0:Sg.ile (Int.ofNat 0) (zz i)=false:=by rw[e.ile];exact decide_eq_false (by simp only[Int.ofNat_eq_natCast];omega)
     simp only[hb0]
     cbv
     refine a1g hS (e1n hS (by omega)) ?_
     refine hN (i+1) _ ⟨by omega,fun i' hi' j h1 h2=> ?_⟩ (by omega) (a4c rfl ⟨a0x.refl _,a0x.refl _,a0x.refl _,b2s hS,trivial⟩ (.cons (.refl _) (.cons (.refl _) (.nil _))) (by simp;omega) (.inl ⟨rfl,rfl⟩) rfl)
     by_cases e:i'=i
     ·subst e;exact hno j h1 h2
     ·exact hi.2 i' (by omega) j h1 h2
    ·have hb0:Sg.ile (Int.ofNat 0) (zz i)=true:=by rw[e.ile,hz0];exact decide_eq_true (Int.natCast_nonneg _)
     have hy0:(i:Int)+((y-i:Nat):Int)=(y:Int):=by omega
     have hy:Sg.iadd (Int.ofNat i) (zz i)=Int.ofNat y:=by rw[e.iadd,hz0];exact hy0
     simp only[hb0]
     cbv
     simp only[hy,en]
     refine a1g hS (e7p hS (by simp only[Int.ofNat_eq_natCast];omega)) (a1g hS (a5p hS hlt) (a1g hS (a5p hS hy2) ?_))
     refine a0v hS _ (h112 i hlt) ?_
     cbv
     simp only[hy,en]
     repeat (first|refine a1g hS (c3d hS) ?_|refine a1g hS (a5p hS hlt) ?_|refine a1g hS (a5p hS hy2) ?_|refine a1g hS (e7p hS (by simp only[Int.ofNat_eq_natCast];omega)) ?_)
     refine a0v hS _ (h112 y hy2) ?_
     cbv
     rw[hv]
     exact a3x.tuple (.cons (a0x.refl _) (.cons (a0x.refl _) (.cons (a6c rfl) .nil)))
  ·rename_i h
   have hni:n<=i:=Int.ofNat_le.1 (b3r hS h)
   have hv:=hend fun i' j h1 h2=>hi.2 i' (by omega) j h1 h2
   cbv
   rw[hv]
   exact a3x.tuple (.cons (a0x.refl _) (.cons (a0x.refl _) (.cons (a6c rfl) .nil)))
theorem i0l {nl n T:Nat}(hn:n<=1000000)(hnl:nl<=1000000){W:Nat->Nat}(hW: ∀j,j<n->W j<T){X:Nat->Nat->VaR}{G:Nat->Bool}
 (a:Nat->Nat->Bool) (ha: ∀i j,a i j=true↔(∀k,k<nl->X k (W i)=X k (W j))/\G (W i)≠G (W j)) (v:AV) (hv:(i1q n a/\v= .tuple [int 0,int 0,bool false])\/ ∃x y,h7w n a x y/\v= .tuple [int (W x),int (W y),bool true]):
 a0j Tryz.prog false 32 [.agg (knC nl T X G),isl n fun j=>(W j:Int)] v:=by
 obtain⟨al,hal⟩: ∃al:Nat->Nat->Nat->Bool,∀i j k,al i j k=true↔(∀k',k'<k->X k' (W i)=X k' (W j))/\G (W i)≠G (W j):=by
  classical exact⟨fun i j k=>decide ((∀k',k'<k->X k' (W i)=X k' (W j))/\G (W i)≠G (W j)),fun i j k=>decide_eq_true_iff⟩
 have haln: ∀i j,al i j nl=a i j:=fun i j=>by rw[Bool.eq_iff_iff,hal,ha]
 have hal0: ∀i j,al i j 0=!(G (W i)==G (W j)):=fun i j=>by
  rw[Bool.eq_iff_iff,hal]
  cases G (W i)<;>cases G (W j)<;>simp
 obtain⟨eq,heq⟩: ∃eq:Nat->Nat->Nat->Bool,∀i j k,eq i j k=true↔(X k (W i)).fault=(X k (W j)).fault/\(X k (W i)).n=(X k (W j)).n:=by
  classical exact⟨fun i j k=>decide _,fun i j k=>decide_eq_true_iff⟩
 have hal1: ∀i j k,al i j (k+1)=(al i j k&&eq i j k):=fun i j k=>by
  rw[Bool.eq_iff_iff,Bool.and_eq_true,hal,hal,heq]
  constructor
  ·rintro⟨h1,h2⟩
   exact⟨⟨fun k' hk=>h1 k' (by omega),h2⟩,by rw[h1 k (by omega)];exact⟨rfl,rfl⟩⟩
  ·rintro⟨⟨h1,h2⟩,h3,h4⟩
   refine⟨fun k' hk=> ?_,h2⟩
   by_cases e:k'=k
   ·subst e
    cases hx:X k' (W i)
    cases hy:X k' (W j)
    rw[hx,hy] at h3 h4
    simp only at h3 h4
    subst h3 h4
    rfl
   ·exact h1 k' (by omega)
 have key: ∀i j,i<j->j<n->(∀i',i'<i-> ∀j,i'<j->j<n->a i' j=false)->(∀j',i<j'->j'<j->a i j'=false)->a i j=true->v= .tuple [int (W i),int (W j),bool true]:=fun i j h1 h2 h3 h4 h5=>by
  rcases hv with⟨hv,_⟩|⟨x,y,hxy,hv⟩
  ·rw[hv i j h1 h2] at h5;cases h5
  ·obtain⟨e1,e2⟩:=hxy.at h3 h1 h2 h5 h4
   subst e1 e2
   exact hv
 have hend:(∀i j,i<j->j<n->a i j=false)->v= .tuple [int 0,int 0,bool false]:=fun h=>by
  rcases hv with⟨_,hv⟩|⟨x,y,hxy,hv⟩
  ·exact hv
  ·have:=h x y hxy.1.1 hxy.1.2.1;rw[hxy.1.2.2] at this;cases this
 clear hv ha hal
 unfold knC
 refine a0k Tryz.mixed okP i8u _ rfl fun E Sg hbs hS=> ?_
 have e:=b2k hS
 have en: ∀k:Nat,nat Sg (IX.v (Int.ofNat k))=k:=fun k=>by
  show Sg.toNat (Int.ofNat k)=k
  rw[e.toNat];rfl
 cbv
 refine a7r Tryz.mixed okP hS (fun i=>i<=n/\ ∀i',i'<i-> ∀j,i'<j->j<n->a i' j=false) (fun i=>n-i)
  (fun i=>⟨b5r [(1,isl n fun j=>(W j:Int)),(2,.ptr 0 0),(7,int i)] 76,[.var [.d (.sl 1 nl fun i=>[.sl 2 T fun p=>(X i p).row]),.d (.sl 1 T fun p=>[.bool (G p)])]],[]⟩) 0 ⟨by omega,by omega⟩ ?_ ?_
 ·exact a4c rfl ⟨a0x.refl _,a0x.refl _,a6c rfl,trivial⟩ (.same _) (by simp;omega) (.inr rfl) rfl
 ·intro i hi N hN
  cbv
  split
  ·rename_i h
   have hlt:i<n:=d3r hS h
   cbv
   refine a1g hS (e1n hS (by omega)) ?_
   refine a7r Tryz.mixed okP hS (fun j=>(i<j/\j<=n)/\ ∀j',i<j'->j'<j->a i j'=false) (fun j=>n-j)
    (fun j=>⟨b5r [(1,isl n fun j=>(W j:Int)),(2,.ptr 0 0),(7,int i),(8,int j)] 76,[.var [.d (.sl 1 nl fun i=>[.sl 2 T fun p=>(X i p).row]),.d (.sl 1 T fun p=>[.bool (G p)])]],[]⟩) (i+1) ⟨by omega,by omega⟩ ?_ ?_
   ·exact a4c rfl ⟨a0x.refl _,a0x.refl _,a0x.refl _,b2s hS,trivial⟩ (.same _) (by simp;omega) (.inr rfl) rfl
   ·intro j hj N2 hN2
    cbv
    split
    ·rename_i h
     have hlj:j<n:=d3r hS h
     have wi:=hW i hlt
     have wj:=hW j hlj
     cbv
     simp only[en]
     refine a1g hS (a5p hS hlt) (a1g hS (a5p hS hlj) (a1g hS (a5p hS wi) (a1g hS (a5p hS wj) ?_)))
     refine a7r Tryz.mixed okP hS (fun k=>k<=nl) (fun k=>nl-k)
      (fun k=>⟨b5r [(1,isl n fun j=>(W j:Int)),(2,.ptr 0 0),(7,int i),(8,int j),(9,int (W i)),(10,int (W j)),(11,bool (al i j k)),(12,int k)] 76,[.var [.d (.sl 1 nl fun i=>[.sl 2 T fun p=>(X i p).row]),.d (.sl 1 T fun p=>[.bool (G p)])]],[]⟩) 0 (by omega) ?_ ?_
     ·refine a4c rfl ⟨a0x.refl _,a0x.refl _,a0x.refl _,a0x.refl _,a0x.refl _,a0x.refl _,?_,a6c rfl,trivial⟩ (.same _) (by simp;omega) (.inr rfl) rfl
      exact a0s (by simp only[e.bnot,e.beq,en,hal0])
     ·intro k hk N3 hN3
      cbv
      split
      ·rename_i h
       have hlk:k<nl:=d3r hS h
       obtain⟨z,hz⟩: ∃z,z=al i j k:=⟨_,rfl⟩
       have h1:=hal1 i j k
       rw[<-hz] at h1⊢
       cases z
       ·cbv
        refine a1g hS (e1n hS (by omega)) ?_
        exact hN3 (k+1) _ hlk (by omega) (a4c rfl ⟨a0x.refl _,a0x.refl _,a0x.refl _,a0x.refl _,a0x.refl _,a0x.refl _,a0s (by rw[h1];rfl),b2s hS,trivial⟩ (.same _) (by simp;omega) (.inr rfl) rfl)
       ·cbv
        simp only[en]
        refine a1g hS (a5p hS hlk) (a1g hS (a5p hS wi) (a1g hS (a5p hS hlk) (a1g hS (a5p hS wj) (a1g hS (e1n hS (by omega)) ?_))))
        refine hN3 (k+1) _ hlk (by omega) (a4c rfl ⟨a0x.refl _,a0x.refl _,a0x.refl _,a0x.refl _,a0x.refl _,a0x.refl _,a0s ?_,b2s hS,trivial⟩ (.same _) (by simp;omega) (.inr rfl) rfl)
        have h2:=heq i j k
        simp only[e.band,e.ieq,h1,Bool.true_and,Bool.and_true]
        rw[Bool.eq_iff_iff,h2]
        simp
      ·rename_i h
       have hnk:k=nl:=by have:=d3c hS h;omega
       subst hnk
       have h1:=haln i j
       obtain⟨z,hz⟩: ∃z,z=al i j k:=⟨_,rfl⟩
       rw[<-hz] at h1⊢
       cases z
       ·cbv
        refine a1g hS (e1n hS (by omega)) ?_
        refine hN2 (j+1) _ ⟨⟨by omega,by omega⟩,fun j' h2 h3=> ?_⟩ (by omega) (a4c rfl ⟨a0x.refl _,a0x.refl _,a0x.refl _,b2s hS,trivial⟩ (.same _) (by simp;omega) (.inr rfl) rfl)
        by_cases e:j'=j
        ·subst e;exact h1.symm
        ·exact hj.2 j' h2 (by omega)
       ·have hv:=key i j hj.1.1 hlj hi.2 hj.2 h1.symm
        cbv
        rw[hv]
        exact a3x.tuple (.cons (a0x.refl _) (.cons (a0x.refl _) (.cons (a0x.refl _) .nil)))
    ·rename_i h
     have hnj:n<=j:=d3c hS h
     cbv
     refine a1g hS (e1n hS (by omega)) ?_
     refine hN (i+1) _ ⟨by omega,fun i' hi' j' h1 h2=> ?_⟩ (by omega) (a4c rfl ⟨a0x.refl _,a0x.refl _,b2s hS,trivial⟩ (.same _) (by simp;omega) (.inr rfl) rfl)
     by_cases e:i'=i
     ·subst e;exact hj.2 j' h1 (by omega)
     ·exact hi.2 i' (by omega) j' h1 h2
  ·rename_i h
   have hni:n<=i:=d3c hS h
   have hv:=hend fun i' j h1 h2=>hi.2 i' (by omega) j h1 h2
   cbv
   rw[hv]
   exact a3x.tuple (.cons (a6c rfl) (.cons (a6c rfl) (.cons (a0x.refl _) .nil)))
end Go.Proofs.Tryz.Run
