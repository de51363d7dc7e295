/- Whether places have all the same answer. The wrapper of the groups; the plan that asks nothing. Conditions: none. -/
import Derived.Test.YtbglklaocjifhaaGreatCLw
open Go.Vf.a0x renaming refl->AA
open Go.Proofs.YtbglklaocjifhaaGreat.Tryz renaming mixed->AB
open Go.Proofs.Tryz renaming prog->AC
open Int renaming ofNat_eq_natCast->AD,ofNat->AE
set_option linter.unusedSimpArgs false
set_option linter.unusedVariables false
namespace Go.Proofs.Tryz.Run
open Go Go.Vf Go.Proofs
open Go.Proofs.YtbglklaocjifhaaGreat
theorem k3n {n:Nat}(hn:0<n)(r0 r1 r2 r3 r4 r5 r6 r7:DV)(e:Nat->List DV)(s0 s1 s2 s3 s4 s5 s6 s7:DV)(b c:Bool)(he:e 0=[s0,s1,s2,s3,s4,s5,s6,s7,.bool c]):
 a1h AC 169 [.agg [.d r0,.d r1,.d r2,.d r3,.d r4,.d r5,.d r6,.d r7,.d (.bool b)],.ptr 0 0] [.var [.d (.sl 9 n e)]]
  (fun pg v h'=>pg=[]/\v= .d (.bool (b==c))/\h'=[.var [.d (.sl 9 n e)]]):=by
 refine h3w AB okP f1e rfl fun E Sg hbs hS Fk hFk=> ?_;have en:=b2k hS;have e1:nat Sg (IX.l (AE 0))=0:=by first|rfl|simp[nat,en.toNat]
 cbv;refine a1g hS (a5p hS hn) ?_;simp only[e1,he];cbv;simp only[e1,he];cbv;refine⟨[],by simp,hFk (h1:=[.var [.d (.sl 9 n e)]]) (.cons (.refl _) (.nil _)) (v0:= .d (.bool (b==c))) ?_ (by simp) (.inl ⟨rfl,rfl⟩) ⟨rfl,rfl,rfl⟩⟩;have hb:Sg.beq b c=(b==c):=by subst hS;rfl
 rw[<-hb];exact AA _
abbrev sm0 (n:Nat)(e:Nat->List DV):a0f:= .var [.d (.sl 9 n e)]
abbrev sm1:a0f:= .var [.fn 169 [] [.ptr 0 0]]
theorem k3q {n:Nat}(hn:0<n)(A B:Nat->Int)(e:Nat->List DV)(s0 s1 s2 s3 s4 s5 s6 s7:DV)(b c:Bool)(he:e 0=[s0,s1,s2,s3,s4,s5,s6,s7,.bool c]):
 a1h AC 202 [.agg [.d (.int .u8 (.v (A 0))),.d (.int .i64 (.v (B 0))),.d (.int .u8 (.v (A 1))),.d (.int .i64 (.v (B 1))),.d (.int .u8 (.v (A 2))),.d (.int .i64 (.v (B 2))),.d (.int .u8 (.v (A 3))),.d (.int .i64 (.v (B 3))),.d (.bool b)],.ptr 1 0] [sm0 n e,sm1]
  (fun pg v h'=>pg=[]/\v= .d (.bool (!(b==c)))/\h'=[sm0 n e,sm1]):=by
 refine h3w AB okP f2n rfl fun E Sg hbs hS Fk hFk=> ?_;have en:=b2k hS;cbv;refine h3v hS (a1h.frame (k3n hn _ _ _ _ _ _ _ _ e s0 s1 s2 s3 s4 s5 s6 s7 b c he) [0] rfl rfl ⟨a9v.refl _,trivial⟩) ?_;rintro pg v h' ⟨pg0,v0,h0,⟨rfl,rfl,rfl⟩,rfl,rfl,rfl⟩;obtain⟨q,hq⟩: ∃q,(b==c)=q:=⟨_,rfl⟩;rw[hq];cases q
 ·cbv;exact⟨[],by simp,hFk (h1:=[sm0 n e,sm1]) (.cons (.refl _) (.cons (.refl _) (.nil _))) (v0:= .d (.bool true)) (AA _) (by simp) (.inl ⟨rfl,rfl⟩) ⟨rfl,by rw[hq];rfl,rfl⟩⟩
 ·cbv;exact⟨[],by simp,hFk (h1:=[sm0 n e,sm1]) (.cons (.refl _) (.cons (.refl _) (.nil _))) (v0:= .d (.bool false)) (AA _) (by simp) (.inl ⟨rfl,rfl⟩) ⟨rfl,by rw[hq];rfl,rfl⟩⟩
theorem k3i {n:Nat}(hn:0<n)(hn6:n<=1000000)(e:Nat->List DV)(A B:Nat->Nat->Int)(G:Nat->Bool)(he: ∀i,e i=[.int .u8 (.v (A i 0)),.int .i64 (.v (B i 0)),.int .u8 (.v (A i 1)),.int .i64 (.v (B i 1)),.int .u8 (.v (A i 2)),.int .i64 (.v (B i 2)),.int .u8 (.v (A i 3)),.int .i64 (.v (B i 3)),.bool (G i)]):
 a1h AC 240 [.d (.sl 9 n e),.fn 202 [] [.ptr 1 0]] [sm0 n e,sm1]
  (fun pg v h'=>pg=[]/\h'=[sm0 n e,sm1]/\ ∃r:Int,v= .d (.int .i64 (.v r))/\((0<=r)↔ ∃i,i<n/\G i≠G 0)):=by
 refine h3w AB okP e9c rfl fun E Sg hbs hS Fk hFk=> ?_;have en:=b2k hS;cbv;refine a7r AB okP hS (fun i=>i<=n/\ ∀j,j<i->G j=G 0) (fun i=>n-i)
  (fun i=>⟨b5r [(0,.d (.sl 9 n e)),(1,.fn 202 [] [.ptr 1 0]),(7,int n),(8,int i)] 19,[sm0 n e,sm1],[]⟩) 0 ⟨by omega,fun j hj=>absurd hj (Nat.not_lt_zero j)⟩ ?_ ?_
 ·exact a4c rfl ⟨AA _,AA _,b0a (en.ofNat _),a6c rfl,trivial⟩ (.same _) (by rw[hbs];simp) (.inr rfl) rfl
 rintro i ⟨hi,hg⟩ N hN;cbv;split
 ·rename_i h;have hlt:i<n:=Int.ofNat_lt.1 (b3h hS h);have e1: ∀k:Nat,nat Sg (IX.v (AE k))=k:=fun k=>by simp only[nat,en.toNat,AD,Int.toNat_natCast]
  cbv;simp only[e1,he i];refine a1g hS (a5p hS hlt) ?_;cbv;refine h3v hS (k3q hn (A i) (B i) e _ _ _ _ _ _ _ _ (G i) (G 0) (he 0)) ?_;rintro pg v h' ⟨rfl,rfl,rfl⟩;obtain⟨q,hq⟩: ∃q,(G i==G 0)=q:=⟨_,rfl⟩;rw[hq];cases q
  ·cbv;refine⟨[],by simp,hFk (h1:=[sm0 n e,sm1]) (.same _) (v0:=int i) (AA _) (by simp) (.inr rfl) ⟨rfl,rfl,_,rfl,⟨fun _=>⟨i,hlt,fun h=> ?_⟩,fun _=> ?_⟩⟩⟩
   ·rw[h] at hq;simp at hq
   ·exact Int.natCast_nonneg i
  ·cbv;refine a1g hS (e1n hS (by omega)) ?_;refine hN (i+1) _ ⟨hlt,fun j hj=> ?_⟩ (by omega) (a4c rfl ⟨AA _,AA _,AA _,b2s hS,trivial⟩ (.same _) (by rw[hbs];simp) (.inr rfl) rfl);by_cases ej:j=i
   ·subst ej;simpa using hq
   ·exact hg j (by omega)
 ·rename_i h;have hin:i=n:=by have:=b3r hS h;simp only[AD] at this;omega
  cbv;refine⟨[],by simp,hFk (h1:=[sm0 n e,sm1]) (.same _) (v0:= .d (.int .i64 (.v (-1)))) (a6c rfl) (by simp) (.inr rfl) ⟨rfl,rfl,_,rfl,⟨fun h=>by omega,fun⟨j,h1,h2⟩=>absurd (hg j (by omega)) h2⟩⟩⟩
theorem k3r {n:Nat}(hn:0<n)(hn6:n<=1000000)(e:Nat->List DV)(A B:Nat->Nat->Int)(G:Nat->Bool)(he: ∀i,e i=[.int .u8 (.v (A i 0)),.int .i64 (.v (B i 0)),.int .u8 (.v (A i 1)),.int .i64 (.v (B i 1)),.int .u8 (.v (A i 2)),.int .i64 (.v (B i 2)),.int .u8 (.v (A i 3)),.int .i64 (.v (B i 3)),.bool (G i)])(d:Bool)(hd:d=true↔ ∃i,i<n/\G i≠G 0):
 a1h AC 201 [.d (.sl 9 n e),.fn 202 [] [.ptr 1 0]] [sm0 n e,sm1] (fun pg v h'=>pg=[]/\h'=[sm0 n e,sm1]/\v= .d (.bool d)):=by
 refine h3w AB okP f2d rfl fun E Sg hbs hS Fk hFk=> ?_;cbv;refine h3v hS (k3i hn hn6 e A B G he) ?_;rintro pg v h' ⟨rfl,rfl,r,rfl,hr⟩;have hb:Sg.ile (AE 0) r=d:=by subst hS;show decide ((0:Int)<=r)=d;rw[Bool.eq_iff_iff,hd,decide_eq_true_eq,hr]
 cbv;simp only[hb];exact⟨[],by simp,hFk (h1:=[sm0 n e,sm1]) (.same _) (AA _) (by simp) (.inr rfl) ⟨rfl,rfl,rfl⟩⟩
theorem k4h {n:Nat}(hn:0<n)(hn6:n<=1000000)(e:Nat->List DV)(A B:Nat->Nat->Int)(G:Nat->Bool)(he: ∀i,e i=[.int .u8 (.v (A i 0)),.int .i64 (.v (B i 0)),.int .u8 (.v (A i 1)),.int .i64 (.v (B i 1)),.int .u8 (.v (A i 2)),.int .i64 (.v (B i 2)),.int .u8 (.v (A i 3)),.int .i64 (.v (B i 3)),.bool (G i)])(d:Bool)(hd:d=true↔ ∃i,i<n/\G i≠G 0):
 a1h AC 168 [.d (.sl 9 n e),.fn 169 [] [.ptr 0 0]] [sm0 n e] (fun pg v h'=>pg=[]/\h'=[sm0 n e]/\v= .d (.bool (!d))):=by
 refine h3w AB okP f1r rfl fun E Sg hbs hS Fk hFk=> ?_;cbv;refine h3v hS (k3r hn hn6 e A B G he d hd) ?_;rintro pg v h' ⟨rfl,rfl,rfl⟩;cases d
 ·cbv;exact⟨[],by simp,hFk (h1:=[sm0 n e]) (.cons (.refl _) (.nil _)) (v0:= .d (.bool true)) (AA _) (by simp) (.inl ⟨rfl,rfl⟩) ⟨rfl,rfl,rfl⟩⟩
 ·cbv;exact⟨[],by simp,hFk (h1:=[sm0 n e]) (.cons (.refl _) (.nil _)) (v0:= .d (.bool false)) (AA _) (by simp) (.inl ⟨rfl,rfl⟩) ⟨rfl,rfl,rfl⟩⟩
theorem k2h {n:Nat}(hn:0<n)(hn6:n<=1000000)(e:Nat->List DV)(A B:Nat->Nat->Int)(G:Nat->Bool)(he: ∀i,e i=[.int .u8 (.v (A i 0)),.int .i64 (.v (B i 0)),.int .u8 (.v (A i 1)),.int .i64 (.v (B i 1)),.int .u8 (.v (A i 2)),.int .i64 (.v (B i 2)),.int .u8 (.v (A i 3)),.int .i64 (.v (B i 3)),.bool (G i)])(d:Bool)(hd:d=true↔ ∃i,i<n/\G i≠G 0):
 a0j AC false 130 [.d (.sl 9 n e)] (.d (.bool (!d))):=by
 refine a0k AB okP e7l _ rfl fun E Sg hbs hS=> ?_;cbv;refine h3v hS (k4h hn hn6 e A B G he d hd) ?_;rintro pg v h' ⟨rfl,rfl,rfl⟩;cases d
 ·cbv;exact fun _ _ _ _ h=>h
 ·cbv;exact fun _ _ _ _ h=>h
theorem k2q (x y:DV)(c:Int)(hx: ∃n e,x= .sl 9 n e):a1h AC 132 [.d x,int c] []
 (fun pg v h'=>pg=[]/\v= .fn 172 [] [.ptr 0 0,.ptr 1 0]/\h'=[.var [.d x],.var [int c]]):=by
 obtain⟨n,e,rfl⟩:=hx;refine h3w AB okP f0o rfl fun E Sg hbs hS Fk hFk=> ?_;cbv;exact⟨[],by simp,hFk (.same _) (AA _) (by simp) (.inr rfl) ⟨rfl,rfl,rfl⟩⟩
end Go.Proofs.Tryz.Run
