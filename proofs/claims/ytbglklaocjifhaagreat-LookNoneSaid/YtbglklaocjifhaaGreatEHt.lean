/- The error of a case: the reference's and the program's Check. The program's Check of a case. Conditions: none. -/
import Derived.Test.YtbglklaocjifhaaGreatEHr
import Derived.Test.YtbglklaocjifhaaGreatEOg
open Go.Vf.a0x renaming refl->AA
open Go.Proofs.YtbglklaocjifhaaGreat.Tryz renaming mixed->AB
open Int renaming ofNat_eq_natCast->AC,toNat_natCast->AE,ofNat->AG
open Nat renaming zero_add->AD,not_lt_zero->AI,sub_zero->AJ
open Bool renaming false->AF,true->AH
set_option linter.unusedSimpArgs false
set_option linter.unusedVariables false
set_option maxHeartbeats 0
set_option maxRecDepth 100000
namespace Go.Proofs.Tryz.Run
open Go Go.Vf Go.Proofs
open Go.Proofs.YtbglklaocjifhaaGreat
def CaR.dg (c:CaR)(i:Nat):DiR:=if i<c.nl then c.lk i else if i=c.nl then c.inn else c.goal
def i5k (n:Nat)(er:Nat->Int)(S:Nat->Prop)(r:Int):Prop:=
 (∃i,i<n/\(∀j,j<i->er j=0)/\er i≠0/\r=er i)\/((∀i,i<n->er i=0)/\((∀i,i<n->S i)/\r=0\/(¬ ∀i,i<n->S i)/\r=2))
theorem i3n (n:Nat)(er:Nat->Int):(∀i,i<n->er i=0)\/ ∃i,i<n/\(∀j,j<i->er j=0)/\er i≠0:=by
 induction n with
 |zero=>exact .inl (by omega)
 |succ m ih=>
  rcases ih with h1|⟨i,h1,h2,h3⟩
  ·by_cases he:er m=0
   ·refine .inl fun j hj=> ?_;by_cases e:j=m
    ·subst e;exact he
    ·exact h1 j (by omega)
   ·exact .inr ⟨m,by omega,h1,he⟩
  ·exact .inr ⟨i,by omega,h2,h3⟩
theorem i4g (n:Nat)(er:Nat->Int)(S:Nat->Prop): ∃r,i5k n er S r:=by
 rcases i3n n er with h|⟨i,h1,h2,h3⟩
 ·by_cases g: ∀i,i<n->S i
  ·exact⟨0,.inr ⟨h,.inl ⟨g,rfl⟩⟩⟩
  ·exact⟨2,.inr ⟨h,.inr ⟨g,rfl⟩⟩⟩
 ·exact⟨er i,.inl ⟨i,h1,h2,h3,rfl⟩⟩
theorem h9a {n:Nat}{er:Nat->Int}{S:Nat->Prop}{r:Int}(h:i5k n er S r){i:Nat}(hi:i<n)(h0: ∀j,j<i->er j=0)(he:er i≠0):r=er i:=by
 rcases h with⟨k,a,b,c,d⟩|⟨a,_⟩
 ·rcases Nat.lt_trichotomy i k with h|h|h
  ·exact absurd (b i h) he
  ·subst h;exact d
  ·exact absurd (h0 k h) c
 ·exact absurd (a i hi) he
theorem i1p {n:Nat}{er:Nat->Int}{S:Nat->Prop}{r:Int}(h:i5k n er S r)(h0: ∀j,j<n->er j=0):((∀i,i<n->S i)->r=0)/\((¬ ∀i,i<n->S i)->r=2):=by
 rcases h with⟨k,a,b,c,d⟩|⟨_,h⟩
 ·exact absurd (h0 k a) c
 ·rcases h with⟨a,b⟩|⟨a,b⟩
  ·exact⟨fun _=>b,fun h=>absurd a h⟩
  ·exact⟨fun h=>absurd h a,fun _=>b⟩
def CaR.same (c:CaR)(i:Nat):Prop:=L (c.dg i).ns (c.dg i).sz=L c.ns c.sz/\L (c.dg i).no (c.dg i).od=L c.no c.od
def h6t (c:CaR)(r:Int):Prop:=
 (h4e c.ns c.no c.sz c.od≠0/\r=h4e c.ns c.no c.sz c.od)\/(h4e c.ns c.no c.sz c.od=0/\(4<c.nl/\r=5\/c.nl<=4/\i5k (c.nl+2) (fun i=>h5o (c.dg i)) c.same r))
theorem i3o (c:CaR): ∃r,h6t c r:=by
 by_cases h:h4e c.ns c.no c.sz c.od=0
 ·by_cases h2:4<c.nl
  ·exact⟨5,.inr ⟨h,.inl ⟨h2,rfl⟩⟩⟩
  ·obtain⟨r,hr⟩:=i4g (c.nl+2) (fun i=>h5o (c.dg i)) c.same;exact⟨r,.inr ⟨h,.inr ⟨by omega,hr⟩⟩⟩
 ·exact⟨_,.inl ⟨h,rfl⟩⟩
structure CaR.fit (c:CaR):Prop where
 ns:c.ns<=8
 no:c.no<=8
 nl:c.nl<=6
 dg: ∀i,i<c.nl+2->(c.dg i).fit
 flt: ∀i,i<c.nl+2-> ∀j,j<(c.dg i).ne->0<=((c.dg i).en j).fault
 od: ∀i,i<c.nl+2->(c.dg i).no<=8
theorem CaR.dg_lk {c:CaR}{i:Nat}(h:i<c.nl):c.dg i=c.lk i:=if_pos h
theorem CaR.dg_in (c:CaR):c.dg c.nl=c.inn:=by simp[CaR.dg]
theorem CaR.dg_goal (c:CaR):c.dg (c.nl+1)=c.goal:=by unfold CaR.dg;rw[if_neg (by omega),if_neg (by omega)]
theorem CaR.rows (c:CaR): ∀j,j<c.nl+2->(if j<c.nl then (c.lk j).row else Vf.rowAt [c.inn.row,c.goal.row] (j-c.nl))=(c.dg j).row:=fun j hj=>by
 unfold CaR.dg;by_cases h:j<c.nl
 ·rw[if_pos h,if_pos h]
 ·rw[if_neg h,if_neg h];by_cases e:j=c.nl
  ·subst e;rw[if_pos rfl,Nat.sub_self];rfl
  ·rw[if_neg e,show j-c.nl=1 by omega];rfl
theorem i2f (c:CaR)(hc:c.fit)(r:Int)(hr:h6t c r):a0j Tryz.prog AH 42 [c.av] (int r):=by
 have q1:=h4p (n:=c.ns) (m:=c.no) (by have:=hc.ns;omega) (by have:=hc.no;omega) c.sz c.od _ rfl;obtain⟨er,her⟩: ∃er:Nat->Int,∀i,h5o (c.dg i)=er i:=⟨_,fun _=>rfl⟩;have q2:=fun i hi=>i5e (c.dg i) (hc.dg i hi) (er i) (her i);obtain⟨z1,hz1⟩: ∃z:Nat->Bool,∀i,z i=AH↔L (c.dg i).ns (c.dg i).sz=L c.ns c.sz:=by classical exact⟨fun i=>decide _,fun i=>decide_eq_true_iff⟩
 obtain⟨z2,hz2⟩: ∃z:Nat->Bool,∀i,z i=AH↔L (c.dg i).no (c.dg i).od=L c.no c.od:=by classical exact⟨fun i=>decide _,fun i=>decide_eq_true_iff⟩
 have q3:=fun i (hi:i<c.nl+2)=>h7o (c.dg i).ns c.ns (c.dg i).sz c.sz (hc.dg i hi).ns (z1 i) (hz1 i);have q4:=fun i (hi:i<c.nl+2)=>h7o (c.dg i).no c.no (c.dg i).od c.od (hc.dg i hi).no (z2 i) (hz2 i);have hrow:=c.rows;have hnl:=hc.nl;unfold h6t CaR.same at hr;simp only[her,<-hz1,<-hz2] at hr;clear her hz1 hz2 hc;obtain⟨fe,hfe⟩: ∃fe,h4e c.ns c.no c.sz c.od=fe:=⟨_,rfl⟩;rw[hfe] at hr q1;clear hfe;obtain⟨D,hD⟩: ∃D:Nat->DiR,∀i,c.dg i=D i:=⟨_,fun _=>rfl⟩;obtain⟨m,hm⟩: ∃m,c.nl+2=m:=⟨_,rfl⟩;simp only[hD,hm] at q2 q3 q4 hrow hr;clear hD;obtain⟨ns,sz,no,od,nl,lk,⟨ins,isz,ino,iod,ine,ien,inn,ivar,ink,ikid,iroot⟩,⟨gns,gsz,gno,god,gne,gen,gnn,gvar,gnk,gkid,groot⟩⟩:=c;simp only[CaR.av,DiR.cs,List.cons_append,List.nil_append] at*
 refine a4e (a0k AB okP i6u _ rfl fun E Sg hb hS=> ?_);have e:=b2k hS;cbv;refine a0v hS _ q1 ?_;cbv;by_cases h0:fe=0
 rotate_left
 ·have hb0:(fe==AG 0)=AF:=beq_false_of_ne h0;simp only[e.ieq,e.bnot,hb0];cbv;rcases hr with⟨_,h⟩|⟨h,_⟩
  ·exact b0a h.symm
  ·exact absurd h h0
 subst h0;simp only[e.ieq,e.bnot];cbv;split
 ·rename_i h;have h:4<nl:=d3r hS h;cbv;rcases hr with⟨h',_⟩|⟨_,⟨_,h'⟩|⟨h',_⟩⟩
  ·exact absurd rfl h'
  ·exact a6c h'.symm
  ·omega
 rename_i h;have h4:nl<=4:=d3c hS h;have hr:i5k m er (fun i=>z1 i=AH/\z2 i=AH) r:=by
  rcases hr with⟨h',_⟩|⟨_,⟨h',_⟩|⟨_,h'⟩⟩
  ·exact absurd rfl h'
  ·omega
  ·exact h'
 cbv
 repeat (first|refine a1g hS (c3d hS) ?_|refine a1g hS trivial ?_|refine a1g hS (f1i hS (by first|omega|(simp only[e.nadd];omega))) ?_)
 refine a7r AB okP hS (fun i=>i<=m/\ ∀j,j<i->er j=0) (fun i=>m-i)
  (fun i=>⟨b5r [(1,.ptr 0 0),(4,.msl 1 5 none m AF),(5,int i)] 70,[.var [isl ns sz,isl no od,dsl nl lk,isl ins isz,isl ino iod,vsl ine ien,bsl inn ivar ink ikid,int iroot,isl gns gsz,isl gno god,vsl gne gen,bsl gnn gvar gnk gkid,int groot],.arr 5 m fun j=>(D j).row],[1]⟩) 0 ⟨by omega,by omega⟩ ?_ ?_
 ·refine a4c rfl ⟨AA _,?_,a6c rfl,trivial⟩ (.cons (.refl _) (.cons (a9v.arrr ?_ fun j hj=> ?_) (.nil _))) (by simp;omega) (.inr rfl) rfl
  ·simp only[e.nadd,AD,hm];exact AA _
  ·simp only[e.nadd,AD,hm]
  ·simp only[e.nadd,AD] at hj;rw[hm] at hj;have h1:=hrow j hj;simp only[e.app,e.nadd,AD,AI,if_false,AJ];rw[<-h1];exact .refl _
 ·intro i hi N hN;cbv;split
  ·rename_i h;have hlt:i<m:=d3r hS h;cbv;simp only[nat,e.toNat,AC,AE];refine a1g hS (a5p hS hlt) (a1g hS (i2h hS hlt) ?_);refine a0v hS (int (er i)) (q2 i hlt) ?_;cbv;by_cases h0:er i=0
   rotate_left
   ·have hb0:(er i==AG 0)=AF:=beq_false_of_ne h0;simp only[e.ieq,e.bnot,hb0];cbv;exact b0a (h9a hr hlt hi.2 h0).symm
   simp only[e.ieq,e.bnot,h0];cbv;refine a1g hS (e1n hS (by omega)) ?_;refine hN (i+1) _ ⟨by omega,fun j hj=> ?_⟩ (by omega) (a4c rfl ⟨AA _,AA _,b2s hS,trivial⟩ (.same _) (by simp;omega) (.inr rfl) rfl);by_cases e:j=i
   ·subst e;exact h0
   ·exact hi.2 j (by omega)
  ·rename_i h;have hin:m<=i:=d3c hS h;have hall: ∀j,j<m->er j=0:=fun j hj=>hi.2 j (by omega);obtain⟨hr0,hr2⟩:=i1p hr hall;clear hr hall hi hN q2;cbv;refine a7r AB okP hS (fun i=>i<=m/\ ∀j,j<i->z1 j=AH/\z2 j=AH) (fun i=>m-i)
    (fun i=>⟨b5r [(1,.ptr 0 0),(4,.msl 1 5 none m AF),(7,int i)] 70,[.var [isl ns sz,isl no od,dsl nl lk,isl ins isz,isl ino iod,vsl ine ien,bsl inn ivar ink ikid,int iroot,isl gns gsz,isl gno god,vsl gne gen,bsl gnn gvar gnk gkid,int groot],.arr 5 m fun j=>(D j).row],[1]⟩) 0 ⟨by omega,by omega⟩ ?_ ?_
   ·exact a4c rfl ⟨AA _,AA _,a6c rfl,trivial⟩ (.same _) (by simp;omega) (.inr rfl) rfl
   ·intro i hi N hN;cbv;split
    ·rename_i h;have hlt:i<m:=d3r hS h;have hno:(z1 i=AH/\z2 i=AH->False)->r=2:=fun h=>hr2 fun h'=>h (h' i hlt);cbv;simp only[nat,e.toNat,AC,AE]
     repeat (first|refine a1g hS (a5p hS hlt) ?_|refine a1g hS (i2h hS hlt) ?_)
     refine a0v hS (bool (z1 i)) (q3 i hlt) ?_;cases hz1:z1 i
     ·cbv;exact a6c (hno fun h=>by rw[hz1] at h;cases h.1).symm
     cbv;simp only[nat,e.toNat,AC,AE]
     repeat (first|refine a1g hS (a5p hS hlt) ?_|refine a1g hS (i2h hS hlt) ?_)
     refine a0v hS (bool (z2 i)) (q4 i hlt) ?_;cases hz2:z2 i
     ·cbv;exact a6c (hno fun h=>by rw[hz2] at h;cases h.2).symm
     cbv;refine a1g hS (e1n hS (by omega)) ?_;refine hN (i+1) _ ⟨by omega,fun j hj=> ?_⟩ (by omega) (a4c rfl ⟨AA _,AA _,b2s hS,trivial⟩ (.same _) (by simp;omega) (.inr rfl) rfl);by_cases e:j=i
     ·subst e;exact⟨hz1,hz2⟩
     ·exact hi.2 j (by omega)
    ·rename_i h;have hin:m<=i:=d3c hS h;cbv;exact a6c (hr0 fun j hj=>hi.2 j (by omega)).symm
theorem i3l (d:DiR)(hf:d.fit)(h0: ∀i,i<d.ne->0<=(d.en i).fault)(hno:d.no<=12)(r:Int)(hr:h5o d=r):a0j Tryz.prog AH 134 [d.av] (int r):=by
 obtain⟨w,hw,ho⟩:=i1u d hf h0 hno r hr;clear hr;rcases hw with rfl|⟨_,rfl⟩<;>
 ·refine a4e (a0k AB okP f2f _ rfl fun E Sg hb hS=> ?_);cbv;refine a0v hS _ ho ?_;cbv;exact AA _
def i4t (n:Nat)(l:Nat->DiR)(pg:List Nat)(v:AV)(h':List a0f):Prop:=pg=[]/\v= .msl 0 5 none n AF/\h'=[.arr 5 n fun i=>(l i).row]
theorem i0r {n:Nat}(hn:n<=1000000)(l:Nat->DiR):a1h Tryz.prog 133 [dsl n l] [] (i4t n l):=by
 cases n with
 |zero=>
  refine a1h.empty fun a cap=>a1h.ret_nil 5 (fun i=>(l i).row) ?_;refine h3w AB okP f1a rfl fun E Sg hb hS F hF=> ?_;have e:=b2k hS;cases a with
  |none=>cbv;exact⟨[],by simp,hF (.nil _) (AA _) (by simp) (.inr rfl) (.inl ⟨rfl,rfl,rfl,rfl⟩)⟩
  |some a=>
   cbv
   repeat (first|refine a1g hS trivial ?_|refine a1g hS (f1i hS (by omega)) ?_)
   refine⟨[],by simp,hF (h1:=[.arr 5 0 fun i=>(l i).row]) (.cons (a9v.arrr (by simp only[e.nadd]) fun j hj=>by simp only[e.nadd] at hj;omega) (.nil _)) (v0:= .msl 0 5 none 0 AF) (by show a0x (.msl 0 5 none (Sg.nadd 0 0) AF) _;simp only[e.nadd];exact AA _) (by simp) (.inr rfl) (.inr ⟨rfl,rfl,rfl⟩)⟩
 |succ n=>
  refine h3w AB okP f1a rfl fun E Sg hb hS F hF=> ?_;have e:=b2k hS;cbv
  repeat (first|refine a1g hS trivial ?_|refine a1g hS (f1i hS (by omega)) ?_|refine a1g hS (i2h hS (by omega)) ?_)
  refine⟨[],by simp,hF (h1:=[.arr 5 (n+1) fun i=>(l i).row]) (.cons (a9v.arrr (by simp only[e.nadd,AD]) fun j hj=>by simp only[e.app,AI,if_false,AJ];exact .refl _) (.nil _)) (v0:= .msl 0 5 none (n+1) AF) (by show a0x (.msl 0 5 none (Sg.nadd 0 (n+1)) AF) _;simp only[e.nadd,AD];exact AA _) (by simp) (.inr rfl) ⟨rfl,rfl,rfl⟩⟩
theorem i0p (c:CaR)(hc:c.fit)(r:Int)(hr:h6t c r):a0j Tryz.prog AH 98 [isl c.ns c.sz,isl c.no c.od,dsl c.nl c.lk,c.inn.av,c.goal.av] (int r):=by
 have q1:=h5l (n:=c.ns) (m:=c.no) (by have:=hc.ns;omega) (by have:=hc.no;omega) c.sz c.od _ rfl;have hcl:=i0r (n:=c.nl) (by have:=hc.nl;omega) c.lk;obtain⟨er,her⟩: ∃er:Nat->Int,∀i,h5o (c.dg i)=er i:=⟨_,fun _=>rfl⟩;have q2:=fun i hi=>i3l (c.dg i) (hc.dg i hi) (hc.flt i hi) (by have:=hc.od i hi;omega) (er i) (her i);obtain⟨z,hz⟩: ∃z:Bool,z=AH↔ ∀i,i<c.nl+2->c.same i:=by classical exact⟨decide _,decide_eq_true_iff⟩
 have q3:=i1m (ns:=c.ns) (no:=c.no) c.sz c.od (n:=c.nl+2) (by have:=hc.nl;omega) c.dg (fun i hi=>⟨(hc.dg i hi).ns,(hc.dg i hi).no⟩) z hz;have hrow:=c.rows;have hnl:=hc.nl;unfold h6t at hr;simp only[her] at hr;clear her hc;obtain⟨fe,hfe⟩: ∃fe,h4e c.ns c.no c.sz c.od=fe:=⟨_,rfl⟩;rw[hfe] at hr q1;clear hfe;obtain⟨SS,hSS⟩: ∃SS:Nat->Prop,c.same=SS:=⟨_,rfl⟩;rw[hSS] at hr hz;clear hSS;obtain⟨D,hD⟩: ∃D:Nat->DiR,c.dg=D:=⟨_,rfl⟩;obtain⟨m,hm⟩: ∃m,c.nl+2=m:=⟨_,rfl⟩;simp only[hD,hm] at q2 q3 hrow hr hz;clear hD;obtain⟨ns,sz,no,od,nl,lk,⟨ins,isz,ino,iod,ine,ien,inn,ivar,ink,ikid,iroot⟩,⟨gns,gsz,gno,god,gne,gen,gnn,gvar,gnk,gkid,groot⟩⟩:=c;simp only at*
 refine a4e (a0k AB okP g8t _ rfl fun E Sg hb hS=> ?_);have e:=b2k hS;cbv;refine a0v hS _ q1 ?_;cbv;by_cases h0:fe=0
 rotate_left
 ·have hb0:(fe==AG 0)=AF:=beq_false_of_ne h0;simp only[e.ieq,e.bnot,hb0];cbv;rcases hr with⟨_,h⟩|⟨h,_⟩
  ·exact b0a h.symm
  ·exact absurd h h0
 subst h0;simp only[e.ieq,e.bnot];cbv;split
 ·rename_i h;have h:4<nl:=d3r hS h;cbv;rcases hr with⟨h',_⟩|⟨_,⟨_,h'⟩|⟨h',_⟩⟩
  ·exact absurd rfl h'
  ·exact a6c h'.symm
  ·omega
 rename_i h;have h4:nl<=4:=d3c hS h;have hr:i5k m er SS r:=by
  rcases hr with⟨h',_⟩|⟨_,⟨h',_⟩|⟨_,h'⟩⟩
  ·exact absurd rfl h'
  ·omega
  ·exact h'
 cbv;refine h3v hS (a1h.frame hcl [] rfl rfl trivial) ?_;rintro pg v H' ⟨pg0,v0,h0,⟨rfl,rfl,rfl⟩,rfl,rfl,rfl⟩;cbv
 repeat (first|refine a1g hS (c3d hS) ?_|refine a1g hS trivial ?_|refine a1g hS (f1i hS (by omega)) ?_)
 refine a7r AB okP hS (fun i=>i<=m/\ ∀j,j<i->er j=0) (fun i=>m-i)
  (fun i=>⟨b5r [(0,isl ns sz),(1,isl no od),(12,.msl 2 5 none m AF),(32,.msl 2 5 none m AF),(33,int m),(34,int i)] 52,[.var [isl ins isz,isl ino iod,vsl ine ien,bsl inn ivar ink ikid,int iroot],.var [isl gns gsz,isl gno god,vsl gne gen,bsl gnn gvar gnk gkid,int groot],.arr 5 m fun j=>(D j).row],[2]⟩) 0 ⟨by omega,by omega⟩ ?_ ?_
 ·refine a4c rfl ⟨AA _,AA _,?_,?_,?_,a6c rfl,trivial⟩ (.cons (.refl _) (.cons (.refl _) (.cons (a9v.arrr ?_ fun j hj=> ?_) (.nil _)))) (by simp;omega) (.inr rfl) rfl
  ·simp only[e.nadd,hm];exact AA _
  ·simp only[e.nadd,hm];exact AA _
  ·simp only[e.nadd,hm,e.ofNat];exact AA _
  ·simp only[e.nadd,hm]
  ·simp only[e.nadd] at hj;rw[hm] at hj;have h1:=hrow j hj;simp only[e.app];rw[<-h1];exact .refl _
 ·intro i hi N hN;cbv;split
  ·rename_i h;have hlt:i<m:=Int.ofNat_lt.1 (b3h hS h);cbv;simp only[nat,e.toNat,AC,AE];refine a1g hS (a5p hS hlt) (a1g hS (i2h hS hlt) ?_);refine a0v hS (int (er i)) (q2 i hlt) ?_;cbv;by_cases h0:er i=0
   rotate_left
   ·have hb0:(er i==AG 0)=AF:=beq_false_of_ne h0;simp only[e.ieq,e.bnot,hb0];cbv;exact b0a (h9a hr hlt hi.2 h0).symm
   simp only[e.ieq,e.bnot,h0];cbv;refine a1g hS (e1n hS (by omega)) ?_;refine hN (i+1) _ ⟨by omega,fun j hj=> ?_⟩ (by omega) (a4c rfl ⟨AA _,AA _,AA _,AA _,AA _,b2s hS,trivial⟩ (.cons (.refl _) (.cons (.refl _) (.cons (.refl _) (.nil _)))) (by simp;omega) (.inl ⟨rfl,rfl⟩) rfl);by_cases e:j=i
   ·subst e;exact h0
   ·exact hi.2 j (by omega)
  ·rename_i h;have hin:m<=i:=Int.ofNat_le.1 (b3r hS h);have hall: ∀j,j<m->er j=0:=fun j hj=>hi.2 j (by omega);obtain⟨hr0,hr2⟩:=i1p hr hall;cbv;refine h3v hS (a1h.frame q3 [2] rfl rfl (show _/\_ from⟨a9v.refl _,trivial⟩)) ?_;rintro pg v H' ⟨pg0,v0,h0,⟨rfl,rfl,rfl⟩,rfl,rfl,rfl⟩;cbv;cases hz1:z
   ·cbv;rw[hz1] at hz;exact a6c (hr2 fun h=>Bool.noConfusion (hz.2 h)).symm
   ·cbv;exact a6c (hr0 (hz.1 hz1)).symm
end Go.Proofs.Tryz.Run
