/- Whether places have all the same answer. The wrapper of the groups; the plan that asks nothing. Conditions: none. -/
import Derived.Test.YtbglklaocjifhaaGreatELw
import Derived.Test.YtbglklaocjifhaaGreatEXk
open Go.Vf.a0x renaming refl->AA
open Int renaming ofNat_eq_natCast->AB,toNat_natCast->AD,ofNat->AJ,ofNat_lt->AK
open Go.Proofs.YtbglklaocjifhaaGreat.Tryz renaming mixed->AC
open Go.Proofs.Tryz renaming prog->AE
open Bool renaming false->AF,true->AI
open Nat renaming zero_add->AG,mul_one->AH
set_option linter.unusedSimpArgs false
set_option linter.unusedVariables false
set_option maxRecDepth 100000
namespace Go.Proofs.Tryz.Run
open Go Go.Vf Go.Proofs
open Go.Proofs.YtbglklaocjifhaaGreat
theorem k3n {n:Nat}(hn:0<n)(r0 r1 r2 r3 r4 r5 r6 r7:DV)(e:Nat->List DV)(s0 s1 s2 s3 s4 s5 s6 s7:DV)(b c:Bool)(he:e 0=[s0,s1,s2,s3,s4,s5,s6,s7,.bool c]):
 a1h AE 169 [.agg [.d r0,.d r1,.d r2,.d r3,.d r4,.d r5,.d r6,.d r7,.d (.bool b)],.ptr 0 0] [.var [.d (.sl 9 n e)]]
  (fun pg v h'=>pg=[]/\v= .d (.bool (b==c))/\h'=[.var [.d (.sl 9 n e)]]):=by
 refine h3w AC okP f1e rfl fun E Sg hbs hS Fk hFk=> ?_;have en:=b2k hS;have e1:nat Sg (IX.l (AJ 0))=0:=by first|rfl|simp[nat,en.toNat]
 cbv;refine a1g hS (a5p hS hn) ?_;simp only[e1,he];cbv;simp only[e1,he];cbv;refine⟨[],by simp,hFk (h1:=[.var [.d (.sl 9 n e)]]) (.cons (.refl _) (.nil _)) (v0:= .d (.bool (b==c))) ?_ (by simp) (.inl ⟨rfl,rfl⟩) ⟨rfl,rfl,rfl⟩⟩;have hb:Sg.beq b c=(b==c):=by subst hS;rfl
 rw[<-hb];exact AA _
abbrev sm0 (n:Nat)(e:Nat->List DV):a0f:= .var [.d (.sl 9 n e)]
abbrev sm1:a0f:= .var [.fn 169 [] [.ptr 0 0]]
theorem k3q {n:Nat}(hn:0<n)(A B:Nat->Int)(e:Nat->List DV)(s0 s1 s2 s3 s4 s5 s6 s7:DV)(b c:Bool)(he:e 0=[s0,s1,s2,s3,s4,s5,s6,s7,.bool c]):
 a1h AE 202 [.agg [.d (.int .u8 (.v (A 0))),.d (.int .i64 (.v (B 0))),.d (.int .u8 (.v (A 1))),.d (.int .i64 (.v (B 1))),.d (.int .u8 (.v (A 2))),.d (.int .i64 (.v (B 2))),.d (.int .u8 (.v (A 3))),.d (.int .i64 (.v (B 3))),.d (.bool b)],.ptr 1 0] [sm0 n e,sm1]
  (fun pg v h'=>pg=[]/\v= .d (.bool (!(b==c)))/\h'=[sm0 n e,sm1]):=by
 refine h3w AC okP f2n rfl fun E Sg hbs hS Fk hFk=> ?_;have en:=b2k hS;cbv;refine h3v hS (a1h.frame (k3n hn _ _ _ _ _ _ _ _ e s0 s1 s2 s3 s4 s5 s6 s7 b c he) [0] rfl rfl ⟨a9v.refl _,trivial⟩) ?_;rintro pg v h' ⟨pg0,v0,h0,⟨rfl,rfl,rfl⟩,rfl,rfl,rfl⟩;obtain⟨q,hq⟩: ∃q,(b==c)=q:=⟨_,rfl⟩;rw[hq];cases q
 ·cbv;exact⟨[],by simp,hFk (h1:=[sm0 n e,sm1]) (.cons (.refl _) (.cons (.refl _) (.nil _))) (v0:= .d (.bool AI)) (AA _) (by simp) (.inl ⟨rfl,rfl⟩) ⟨rfl,by rw[hq];rfl,rfl⟩⟩
 ·cbv;exact⟨[],by simp,hFk (h1:=[sm0 n e,sm1]) (.cons (.refl _) (.cons (.refl _) (.nil _))) (v0:= .d (.bool AF)) (AA _) (by simp) (.inl ⟨rfl,rfl⟩) ⟨rfl,by rw[hq];rfl,rfl⟩⟩
theorem k3i {n:Nat}(hn:0<n)(hn6:n<=1000000)(e:Nat->List DV)(A B:Nat->Nat->Int)(G:Nat->Bool)(he: ∀i,e i=[.int .u8 (.v (A i 0)),.int .i64 (.v (B i 0)),.int .u8 (.v (A i 1)),.int .i64 (.v (B i 1)),.int .u8 (.v (A i 2)),.int .i64 (.v (B i 2)),.int .u8 (.v (A i 3)),.int .i64 (.v (B i 3)),.bool (G i)]):
 a1h AE 240 [.d (.sl 9 n e),.fn 202 [] [.ptr 1 0]] [sm0 n e,sm1]
  (fun pg v h'=>pg=[]/\h'=[sm0 n e,sm1]/\ ∃r:Int,v= .d (.int .i64 (.v r))/\((0<=r)↔ ∃i,i<n/\G i≠G 0)):=by
 refine h3w AC okP e9c rfl fun E Sg hbs hS Fk hFk=> ?_;have en:=b2k hS;cbv;refine a7r AC okP hS (fun i=>i<=n/\ ∀j,j<i->G j=G 0) (fun i=>n-i)
  (fun i=>⟨b5r [(0,.d (.sl 9 n e)),(1,.fn 202 [] [.ptr 1 0]),(7,int n),(8,int i)] 19,[sm0 n e,sm1],[]⟩) 0 ⟨by omega,fun j hj=>absurd hj (Nat.not_lt_zero j)⟩ ?_ ?_
 ·exact a4c rfl ⟨AA _,AA _,b0a (en.ofNat _),a6c rfl,trivial⟩ (.same _) (by rw[hbs];simp) (.inr rfl) rfl
 rintro i ⟨hi,hg⟩ N hN;cbv;split
 ·rename_i h;have hlt:i<n:=AK.1 (b3h hS h);have e1: ∀k:Nat,nat Sg (IX.v (AJ k))=k:=fun k=>by simp only[nat,en.toNat,AB,AD]
  cbv;simp only[e1,he i];refine a1g hS (a5p hS hlt) ?_;cbv;refine h3v hS (k3q hn (A i) (B i) e _ _ _ _ _ _ _ _ (G i) (G 0) (he 0)) ?_;rintro pg v h' ⟨rfl,rfl,rfl⟩;obtain⟨q,hq⟩: ∃q,(G i==G 0)=q:=⟨_,rfl⟩;rw[hq];cases q
  ·cbv;refine⟨[],by simp,hFk (h1:=[sm0 n e,sm1]) (.same _) (v0:=int i) (AA _) (by simp) (.inr rfl) ⟨rfl,rfl,_,rfl,⟨fun _=>⟨i,hlt,fun h=> ?_⟩,fun _=> ?_⟩⟩⟩
   ·rw[h] at hq;simp at hq
   ·exact Int.natCast_nonneg i
  ·cbv;refine a1g hS (e1n hS (by omega)) ?_;refine hN (i+1) _ ⟨hlt,fun j hj=> ?_⟩ (by omega) (a4c rfl ⟨AA _,AA _,AA _,b2s hS,trivial⟩ (.same _) (by rw[hbs];simp) (.inr rfl) rfl);by_cases ej:j=i
   ·subst ej;simpa using hq
   ·exact hg j (by omega)
 ·rename_i h;have hin:i=n:=by have:=b3r hS h;simp only[AB] at this;omega
  cbv;refine⟨[],by simp,hFk (h1:=[sm0 n e,sm1]) (.same _) (v0:= .d (.int .i64 (.v (-1)))) (a6c rfl) (by simp) (.inr rfl) ⟨rfl,rfl,_,rfl,⟨fun h=>by omega,fun⟨j,h1,h2⟩=>absurd (hg j (by omega)) h2⟩⟩⟩
theorem k3r {n:Nat}(hn:0<n)(hn6:n<=1000000)(e:Nat->List DV)(A B:Nat->Nat->Int)(G:Nat->Bool)(he: ∀i,e i=[.int .u8 (.v (A i 0)),.int .i64 (.v (B i 0)),.int .u8 (.v (A i 1)),.int .i64 (.v (B i 1)),.int .u8 (.v (A i 2)),.int .i64 (.v (B i 2)),.int .u8 (.v (A i 3)),.int .i64 (.v (B i 3)),.bool (G i)])(d:Bool)(hd:d=AI↔ ∃i,i<n/\G i≠G 0):
 a1h AE 201 [.d (.sl 9 n e),.fn 202 [] [.ptr 1 0]] [sm0 n e,sm1] (fun pg v h'=>pg=[]/\h'=[sm0 n e,sm1]/\v= .d (.bool d)):=by
 refine h3w AC okP f2d rfl fun E Sg hbs hS Fk hFk=> ?_;cbv;refine h3v hS (k3i hn hn6 e A B G he) ?_;rintro pg v h' ⟨rfl,rfl,r,rfl,hr⟩;have hb:Sg.ile (AJ 0) r=d:=by subst hS;show decide ((0:Int)<=r)=d;rw[Bool.eq_iff_iff,hd,decide_eq_true_eq,hr]
 cbv;simp only[hb];exact⟨[],by simp,hFk (h1:=[sm0 n e,sm1]) (.same _) (AA _) (by simp) (.inr rfl) ⟨rfl,rfl,rfl⟩⟩
theorem k4h {n:Nat}(hn:0<n)(hn6:n<=1000000)(e:Nat->List DV)(A B:Nat->Nat->Int)(G:Nat->Bool)(he: ∀i,e i=[.int .u8 (.v (A i 0)),.int .i64 (.v (B i 0)),.int .u8 (.v (A i 1)),.int .i64 (.v (B i 1)),.int .u8 (.v (A i 2)),.int .i64 (.v (B i 2)),.int .u8 (.v (A i 3)),.int .i64 (.v (B i 3)),.bool (G i)])(d:Bool)(hd:d=AI↔ ∃i,i<n/\G i≠G 0):
 a1h AE 168 [.d (.sl 9 n e),.fn 169 [] [.ptr 0 0]] [sm0 n e] (fun pg v h'=>pg=[]/\h'=[sm0 n e]/\v= .d (.bool (!d))):=by
 refine h3w AC okP f1r rfl fun E Sg hbs hS Fk hFk=> ?_;cbv;refine h3v hS (k3r hn hn6 e A B G he d hd) ?_;rintro pg v h' ⟨rfl,rfl,rfl⟩;cases d
 ·cbv;exact⟨[],by simp,hFk (h1:=[sm0 n e]) (.cons (.refl _) (.nil _)) (v0:= .d (.bool AI)) (AA _) (by simp) (.inl ⟨rfl,rfl⟩) ⟨rfl,rfl,rfl⟩⟩
 ·cbv;exact⟨[],by simp,hFk (h1:=[sm0 n e]) (.cons (.refl _) (.nil _)) (v0:= .d (.bool AF)) (AA _) (by simp) (.inl ⟨rfl,rfl⟩) ⟨rfl,rfl,rfl⟩⟩
theorem k2h {n:Nat}(hn:0<n)(hn6:n<=1000000)(e:Nat->List DV)(A B:Nat->Nat->Int)(G:Nat->Bool)(he: ∀i,e i=[.int .u8 (.v (A i 0)),.int .i64 (.v (B i 0)),.int .u8 (.v (A i 1)),.int .i64 (.v (B i 1)),.int .u8 (.v (A i 2)),.int .i64 (.v (B i 2)),.int .u8 (.v (A i 3)),.int .i64 (.v (B i 3)),.bool (G i)])(d:Bool)(hd:d=AI↔ ∃i,i<n/\G i≠G 0):
 a0j AE AF 130 [.d (.sl 9 n e)] (.d (.bool (!d))):=by
 refine a0k AC okP e7l _ rfl fun E Sg hbs hS=> ?_;cbv;refine h3v hS (k4h hn hn6 e A B G he d hd) ?_;rintro pg v h' ⟨rfl,rfl,rfl⟩;cases d
 ·cbv;exact fun _ _ _ _ h=>h
 ·cbv;exact fun _ _ _ _ h=>h
theorem k2q (x y:DV)(c:Int)(hx: ∃n e,x= .sl 9 n e):a1h AE 132 [.d x,int c] []
 (fun pg v h'=>pg=[]/\v= .fn 172 [] [.ptr 0 0,.ptr 1 0]/\h'=[.var [.d x],.var [int c]]):=by
 obtain⟨n,e,rfl⟩:=hx;refine h3w AC okP f0o rfl fun E Sg hbs hS Fk hFk=> ?_;cbv;exact⟨[],by simp,hFk (.same _) (AA _) (by simp) (.inr rfl) ⟨rfl,rfl,rfl⟩⟩
def k4m (i:Nat):List AV:=[.d (.bool (decide (0<i))),.d (.bool (decide (1<i))),.d (.bool (decide (2<i))),.d (.bool (decide (3<i)))]
theorem k3k {nl:Nat}(hn:nl<=4)(x0 x1:DV)(tl:List DV):a0j AE AF 147 [.dptr (x0::x1:: .int .i64 (.v nl)::tl) 0] (.agg (k4m nl)):=by
 refine a0k AC okP e8s _ rfl fun E Sg hbs hS=> ?_;have en:=b2k hS;obtain⟨Z,hZ⟩: ∃z:Int,(nl:Int)=z:=⟨_,rfl⟩;obtain⟨f,hf⟩: ∃f:Nat->List AV,∀i,k4m i=f i:=⟨_,fun _=>rfl⟩;have f0:f 0=[.d (.bool AF),.d (.bool AF),.d (.bool AF),.d (.bool AF)]:=(hf 0).symm;have f1:f 1=[.d (.bool AI),.d (.bool AF),.d (.bool AF),.d (.bool AF)]:=(hf 1).symm;have f2:f 2=[.d (.bool AI),.d (.bool AI),.d (.bool AF),.d (.bool AF)]:=(hf 2).symm;have f3:f 3=[.d (.bool AI),.d (.bool AI),.d (.bool AI),.d (.bool AF)]:=(hf 3).symm;have f4:f 4=[.d (.bool AI),.d (.bool AI),.d (.bool AI),.d (.bool AI)]:=(hf 4).symm;rw[hZ,hf];clear hf;cbv;refine a7r AC okP hS (fun i=>i<=nl) (fun i=>nl-i)
  (fun i=>⟨b5r [(2,.ptr 0 0),(7,.d (.int .i64 (.v Z))),(8,int i)] 15,[.var (f i)],[]⟩) 0 (Nat.zero_le _) ?_ ?_
 ·exact a4c rfl ⟨AA _,AA _,a6c rfl,trivial⟩ (.cons (by rw[f0];exact .refl _) (.nil _)) (by rw[hbs];simp) (.inr rfl) rfl
 intro i hi N hN;cbv;split
 ·rename_i h;have hlt:i<nl:=by rw[<-hZ] at h;exact AK.1 (b3h hS h)
  obtain rfl|rfl|rfl|rfl:i=0\/i=1\/i=2\/i=3:=by omega
  ·rw[f0];cbv;refine a1g hS (a5p hS (show 0<4 by omega)) ?_;simp only[en.nadd,en.nmul,en.toNat,AB,AD,AG,AH];cbv;refine a1g hS (e1n hS (by omega)) ?_;exact hN 1 _ hlt (by omega) (a4c rfl ⟨AA _,AA _,b2s hS,trivial⟩ (.cons (by rw[f1];exact .refl _) (.nil _)) (by rw[hbs];simp) (.inr rfl) rfl)
  ·rw[f1];cbv;refine a1g hS (a5p hS (show 1<4 by omega)) ?_;simp only[en.nadd,en.nmul,en.toNat,AB,AD,AG,AH];cbv;refine a1g hS (e1n hS (by omega)) ?_;exact hN 2 _ hlt (by omega) (a4c rfl ⟨AA _,AA _,b2s hS,trivial⟩ (.cons (by rw[f2];exact .refl _) (.nil _)) (by rw[hbs];simp) (.inr rfl) rfl)
  ·rw[f2];cbv;refine a1g hS (a5p hS (show 2<4 by omega)) ?_;simp only[en.nadd,en.nmul,en.toNat,AB,AD,AG,AH];cbv;refine a1g hS (e1n hS (by omega)) ?_;exact hN 3 _ hlt (by omega) (a4c rfl ⟨AA _,AA _,b2s hS,trivial⟩ (.cons (by rw[f3];exact .refl _) (.nil _)) (by rw[hbs];simp) (.inr rfl) rfl)
  ·rw[f3];cbv;refine a1g hS (a5p hS (show 3<4 by omega)) ?_;simp only[en.nadd,en.nmul,en.toNat,AB,AD,AG,AH];cbv;refine a1g hS (e1n hS (by omega)) ?_;exact hN 4 _ hlt (by omega) (a4c rfl ⟨AA _,AA _,b2s hS,trivial⟩ (.cons (by rw[f4];exact .refl _) (.nil _)) (by rw[hbs];simp) (.inr rfl) rfl)
 ·rename_i h;have hin:i=nl:=by rw[<-hZ] at h;exact Nat.le_antisymm hi (Int.ofNat_le.1 (b3r hS h))
  subst hin;obtain⟨r,hr⟩: ∃r,f i=r:=⟨_,rfl⟩;obtain rfl|rfl|rfl|rfl|rfl:i=0\/i=1\/i=2\/i=3\/i=4:=by omega
  ·rw[f0];cbv;exact fun _ _ _ _ h=>h
  ·rw[f1];cbv;exact fun _ _ _ _ h=>h
  ·rw[f2];cbv;exact fun _ _ _ _ h=>h
  ·rw[f3];cbv;exact fun _ _ _ _ h=>h
  ·rw[f4];cbv;exact fun _ _ _ _ h=>h
theorem k4a:a0j AE AF 146 [] (.agg [.d (.int .i64 (.v (-1))),.d .nil,.d .nil]):=by
 refine a0k AC okP f2p _ rfl fun E Sg hbs hS=> ?_;cbv;intro w S ρ v h;cases h with
 |agg cs vs hl h=>
  refine .agg _ _ hl fun i x v hx hv=> ?_
  match i,hx with
  |0,hx=>cases hx;exact a6c rfl w S ρ v (h 0 _ v rfl hv)
  |1,hx=>exact h 1 _ v hx hv
  |2,hx=>exact h 2 _ v hx hv
end Go.Proofs.Tryz.Run
