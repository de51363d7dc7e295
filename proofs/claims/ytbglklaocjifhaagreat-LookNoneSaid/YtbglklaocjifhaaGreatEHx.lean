/- The places of a case, by the reference. What is asked of a case, by the reference and by the program: its places and what is known of them. The program's open of a case; where a spot stands; the place with a number. Two places that no look tells apart: the program's Apart and the reference's. Conditions: none. -/
import Derived.Test.YtbglklaocjifhaaGreatEHt
open Go.Vf.a0x renaming refl->AA,any->AW
open Int renaming ofNat_eq_natCast->AB,toNat_natCast->AE,ofNat->AG,ofNat_le->AI,ofNat_lt->AL,natCast_nonneg->AT
open Go.Proofs.Tryz renaming prog->AC
open Go.Proofs.YtbglklaocjifhaaGreat.Tryz renaming mixed->AD
open Bool renaming false->AF,true->AH,eq_iff_iff->AX
open Go.Vf.a9v renaming arrr->AJ,loop->AZ
open Nat renaming le_refl->AK,lt_trichotomy->AU
open Go.Vf.a3x renaming tuple->AM
open List renaming cons_append->AN,nil_append->AQ,getD_eq_getElem?_getD->AR,mem_singleton->AS
open Option renaming none->AO
open Go.Vf.b4w renaming le->AP,gh->AY
set_option linter.unusedSimpArgs false
set_option linter.unusedVariables false
set_option maxHeartbeats 0
set_option maxRecDepth 100000
namespace Go.Proofs.Tryz.Run
open Go Go.Vf Go.Proofs
open Go.Proofs.YtbglklaocjifhaaGreat
theorem i6e (v:VaR)(r:Bool)(hr:r=AH↔v=⟨0,1⟩):a0j AC AH 68 [v.av] (bool r):=by obtain⟨f,n⟩:=v;refine a1e (a0k AD okP i7s _ rfl fun E Sg hb hS=> ?_);have e:=b2k hS;cbv;refine a0s ?_;simp only[e.band,e.ieq];rw[AX,hr];simp
theorem h9i (v:VaR)(r:Bool)(hr:r=AH↔v=⟨0,1⟩):a0j AC AH 171 [v.av] (bool r):=by obtain⟨f,n⟩:=v;refine a1e (a0k AD okP e8x _ rfl fun E Sg hb hS=> ?_);have e:=b2k hS;cbv;refine a0s ?_;simp only[e.band,e.ieq];rw[AX,hr];simp
def plc (X:Nat->VaR):Nat->List Nat
 |0=>[]
 |i+1=>if X i=⟨0,1⟩ then plc X i++[i] else plc X i
theorem i0h (X:Nat->VaR): ∀(T p:Nat),p∈plc X T↔p<T/\X p=⟨0,1⟩
 |0,p=>by simp[plc]
 |i+1,p=>by
  rw[plc];have ih:=i0h X i p;by_cases h:X i=⟨0,1⟩
  ·rw[if_pos h,List.mem_append,ih];simp only[AS];constructor
   ·rintro (h'|rfl)
    ·exact⟨by omega,h'.2⟩
    ·exact⟨by omega,h⟩
   ·rintro⟨h1,h2⟩;by_cases e:p=i
    ·exact .inr e
    ·exact .inl ⟨by omega,h2⟩
  ·rw[if_neg h,ih];constructor
   ·exact fun h'=>⟨by omega,h'.2⟩
   ·rintro⟨h1,h2⟩;refine⟨?_,h2⟩;by_cases e:p=i
    ·subst e;exact absurd h2 h
    ·omega
theorem k6n (X:Nat->VaR): ∀T,(plc X T).Pairwise (· < ·)
 |0=> .nil
 |i+1=>by
  rw[plc];by_cases h:X i=⟨0,1⟩
  ·rw[if_pos h];refine List.pairwise_append.2 ⟨k6n X i,List.pairwise_singleton _ _,fun a ha b hb=> ?_⟩;simp only[AS] at hb;subst hb;exact ((i0h X _ a).1 ha).1
  ·rw[if_neg h];exact k6n X i
theorem h8g (X:Nat->VaR): ∀T,(plc X T).length<=T
 |0=>by simp[plc]
 |i+1=>by
  rw[plc];have:=h8g X i;split
  ·simp;omega
  ·omega
theorem h9h (X:Nat->VaR): ∃(N:Nat->Nat) (G:Nat->Nat->Int),(∀i,(plc X i).length=N i)/\(∀i j,(((plc X i).getD j 0:Nat):Int)=G i j)/\N 0=0/\(∀i,N i<=i)/\
 ∀i,(X i=⟨0,1⟩->N (i+1)=N i+1/\(∀j,j<N i->G (i+1) j=G i j)/\G (i+1) (N i)=i)/\(X i≠⟨0,1⟩->N (i+1)=N i/\ ∀j,G (i+1) j=G i j):=by
 refine⟨fun i=>(plc X i).length,fun i j=>(((plc X i).getD j 0:Nat):Int),fun _=>rfl,fun _ _=>rfl,rfl,h8g X,fun i=>⟨fun h=> ?_,fun h=> ?_⟩⟩
 ·simp only[plc,if_pos h];refine⟨by simp,fun j hj=> ?_,?_⟩
  ·rw[AR,AR,List.getElem?_append_left hj]
  ·simp
 ·simp only[plc,if_neg h];exact⟨trivial,fun _=>trivial⟩
def plA (P:List Nat):AV:=isl P.length fun j=>((P.getD j 0:Nat):Int)
def knC (nl T:Nat)(X:Nat->Nat->VaR)(G:Nat->Bool):List AV:=[.d (.sl 1 nl fun i=>[.sl 2 T fun p=>(X i p).row]),.d (.sl 1 T fun p=>[.bool (G p)])]
theorem i3f (c:CaR)(T:Nat)(hT:T<=1000000)(hnl:c.nl<=6)(X:Nat->Nat->VaR)(Z:Nat->VaR)(Y:Nat->VaR)(h54: ∀i,i<c.nl->a0j AC AF 54 [(c.lk i).av] (vsl T (X i)))(h54i:a0j AC AF 54 [c.inn.av] (vsl T Z))(h54g:a0j AC AF 54 [c.goal.av] (vsl T Y))
 (G:Nat->Bool) (hG: ∀p,G p=AH↔Y p=⟨0,1⟩):a0j AC AF 29 [c.av] (.tuple [plA (plc Z T),.agg (knC c.nl T X G)]):=by
 obtain⟨N,W,hN,hW,hN0,hNi,hst⟩:=h9h Z;have hres:plA (plc Z T)=isl (N T) (W T):=by unfold plA;rw[hN];congr 1;exact funext fun j=>hW T j
 rw[hres];obtain⟨b,hb⟩: ∃b:Nat->Bool,∀p,b p=AH↔Z p=⟨0,1⟩:=by classical exact⟨fun p=>decide _,fun p=>decide_eq_true_iff⟩
 have q1:=fun p=>i6e (Z p) (b p) (hb p);have q2:=fun p=>i6e (Y p) (G p) (hG p);have hst1: ∀i,(b i=AH->N (i+1)=N i+1/\(∀j,j<N i->W (i+1) j=W i j)/\W (i+1) (N i)=i)/\(b i=AF->N (i+1)=N i/\ ∀j,W (i+1) j=W i j):=fun i=>⟨fun h=>(hst i).1 ((hb i).1 h),fun h=>(hst i).2 fun h'=>by rw[(hb i).2 h'] at h;cases h⟩;clear hres hst hN hW hb hG;obtain⟨ns,sz,no,od,nl,lk,⟨ins,isz,ino,iod,ine,ien,inn,ivar,ink,ikid,iroot⟩,⟨gns,gsz,gno,god,gne,gen,gnn,gvar,gnk,gkid,groot⟩⟩:=c;simp only[CaR.av,DiR.cs,AN,AQ,knC] at*
 obtain⟨A,hA⟩: ∃A:List AV,A=[isl ns sz,isl no od,dsl nl lk,isl ins isz,isl ino iod,vsl ine ien,bsl inn ivar ink ikid,int iroot,isl gns gsz,isl gno god,vsl gne gen,bsl gnn gvar gnk gkid,int groot]:=⟨_,rfl⟩;refine a0k AD okP i7o _ rfl fun E Sg hbs hS=> ?_;have e:=b2k hS;cbv;refine e4p AD okP hS (fun i=>i<=nl) (fun i=>nl-i)
  (fun i=>⟨b5r [(1,.ptr 0 0),(3,.ptr 1 0),(4,.ptr 2 0),(5,int i)] 61,[.var [isl ns sz,isl no od,dsl nl lk,isl ins isz,isl ino iod,vsl ine ien,bsl inn ivar ink ikid,int iroot,isl gns gsz,isl gno god,vsl gne gen,bsl gnn gvar gnk gkid,int groot],.var [.d .nil,.d .nil],.var [.msl 3 1 AO i AF,.d .nil],.arr 1 i fun j=>[.sl 2 T fun p=>(X j p).row]],[3]⟩) 0 (by omega) ?_ ?_
 ·exact (AY 2 0 1 (fun _=>[]) rfl rfl).trans (AP (a4c rfl ⟨AA _,AA _,AA _,a6c rfl,trivial⟩ (.cons (.refl _) (.cons (.refl _) (.cons (.refl _) (.cons (AJ rfl fun j hj=>by omega) (.nil _))))) (by simp;omega) (.inr rfl) rfl))
 ·intro i hi N' hN';cbv;split
  ·rename_i h;have hlt:i<nl:=d3r hS h;cbv;simp only[nat,e.toNat,AB,AE];refine a1g hS (a5p hS hlt) ?_;refine a0v hS _ (h54 i hlt) ?_;cbv
   repeat (first|refine a1g hS (c3d hS) ?_|refine a1g hS trivial ?_|refine a1g hS (f1i hS (by omega)) ?_|refine a1g hS (e1n hS (by omega)) ?_)
   refine hN' (i+1) _ hlt (by omega) (AP (a4c rfl ⟨AA _,AA _,AA _,b2s hS,trivial⟩
    (.cons (.refl _) (.cons (.refl _) (.cons (.var (.cons (d8n hS) (.cons (AA _) .nil))) (.cons (d7h hS (fun j hj=> .refl _) (.refl _)) (.nil _))))) (by simp;omega) (.inr rfl) rfl))
  ·rename_i h;have hin:i=nl:=by have:=d3c hS h;omega
   subst hin;cbv;refine a0v hS _ h54i ?_;cbv
   repeat (first|refine a1g hS (c3d hS) ?_)
   refine a0v hS _ h54g ?_;cbv;refine e4p AD okP hS (fun p=>p<=T) (fun p=>T-p)
    (fun p=>⟨b5r [(1,.ptr 0 0),(3,.ptr 1 0),(4,.ptr 2 0),(6,vsl T Z),(7,vsl T Y),(8,.msl 5 1 AO (N p) AF),(9,int p)] 61,[.var [isl ns sz,isl no od,dsl i lk,isl ins isz,isl ino iod,vsl ine ien,bsl inn ivar ink ikid,int iroot,isl gns gsz,isl gno god,vsl gne gen,bsl gnn gvar gnk gkid,int groot],.var [.d .nil,.d .nil],.var [.msl 3 1 AO i AF,.msl 4 1 AO p AF],.arr 1 i fun j=>[.sl 2 T fun p=>(X j p).row],.arr 1 p fun q=>[.bool (G q)],arrI (N p) (W p)],[3,4,5]⟩) 0 (by omega) ?_ ?_
   ·refine (AY 2 1 1 (fun _=>[]) rfl rfl).trans ((b4w.gt 8 1 (fun _=>[]) rfl).trans (AP (a4c rfl ⟨AA _,AA _,AA _,AA _,AA _,?_,a6c rfl,trivial⟩ (.cons (.refl _) (.cons (.refl _) (.cons (.refl _) (.cons (.refl _) (.cons (AJ rfl fun j hj=>by omega) (.cons (AJ hN0.symm fun j hj=>by omega) (.nil _))))))) (by simp;omega) (.inr rfl) rfl)));rw[hN0];exact AA _
   ·intro p hp N' hN';cbv;split
    ·rename_i h;have hlt:p<T:=d3r hS h;obtain⟨h1,h2⟩:=hst1 p;have h3:=hNi p;cbv;simp only[nat,e.toNat,AB,AE];refine a1g hS (a5p hS hlt) ?_;refine a0v hS _ (q2 p) ?_;cbv;simp only[nat,e.toNat,AB,AE]
     repeat (first|refine a1g hS (c3d hS) ?_|refine a1g hS trivial ?_|refine a1g hS (f1i hS (by omega)) ?_|refine a1g hS (a5p hS hlt) ?_)
     refine a0v hS (bool (b p)) (q1 p) ?_;cases hb:b p
     ·obtain⟨h4,h5⟩:=h2 hb;cbv;refine a1g hS (e1n hS (by omega)) ?_;refine hN' (p+1) _ hlt (by omega) (AP (a4c rfl ⟨AA _,AA _,AA _,AA _,AA _,?_,b2s hS,trivial⟩
       (.cons (.refl _) (.cons (.refl _) (.cons (.var (.cons (AA _) (.cons (d8n hS) .nil))) (.cons (.refl _) (.cons (d7h hS (fun j hj=> .refl _) (.refl _)) (.cons (AJ h4.symm fun j hj=>by rw[h5];exact .refl _) (.nil _))))))) (by simp;omega) (.inr rfl) rfl))
      rw[h4];exact AA _
     ·obtain⟨h4,h5,h6⟩:=h1 hb;cbv
      repeat (first|refine a1g hS trivial ?_|refine a1g hS (f1i hS (by omega)) ?_|refine a1g hS (e1n hS (by omega)) ?_)
      refine hN' (p+1) _ hlt (by omega) (AP (a4c rfl ⟨AA _,AA _,AA _,AA _,AA _,?_,b2s hS,trivial⟩
       (.cons (.refl _) (.cons (.refl _) (.cons (.var (.cons (AA _) (.cons (d8n hS) .nil))) (.cons (.refl _) (.cons (d7h hS (fun j hj=> .refl _) (.refl _)) (.cons ?_ (.nil _))))))) (by simp;omega) (.inr rfl) rfl))
      ·rw[h4];exact d8n hS
      ·rw[h4];exact d7h hS (fun j hj=>by rw[h5 j hj];exact .refl _) (by rw[h6];exact .one (.int rfl))
    ·rename_i h;have hin:p=T:=by have:=d3c hS h;omega
     subst hin;cbv;exact a1g hS (e8l hS (AK _)) (a1g hS (e8l hS (AK _)) (a1g hS (e8l hS (AK _)) (AA _)))
theorem i3r (c:CaR){er:Int}(h42:a0j AC AH 42 [c.av] (int er))(h0:er≠0):a0j AC AF 21 [c.av] (.tuple [.d .nil,.agg [.d .nil,.d .nil],int er]):=by
 obtain⟨ns,sz,no,od,nl,lk,⟨ins,isz,ino,iod,ine,ien,inn,ivar,ink,ikid,iroot⟩,⟨gns,gsz,gno,god,gne,gen,gnn,gvar,gnk,gkid,groot⟩⟩:=c;simp only[CaR.av,DiR.cs,AN,AQ] at*
 refine a0k AD okP i7c _ rfl fun E Sg hbs hS=> ?_;have e:=b2k hS;cbv;refine a0v hS _ h42 ?_;cbv;have hb0:(er==AG 0)=AF:=beq_false_of_ne h0;simp only[e.ieq,e.bnot,hb0];cbv;exact AA _
theorem i3p (c:CaR){n:Nat}{W:Nat->Int}{k1 k2:DV}(h42:a0j AC AH 42 [c.av] (int 0))(h29:a0j AC AF 29 [c.av] (.tuple [isl n W,.agg [.d k1,.d k2]])):
 (n=0->a0j AC AF 21 [c.av] (.tuple [.d .nil,.agg [.d k1,.d k2],int 12]))/\(0<n->a0j AC AF 21 [c.av] (.tuple [isl n W,.agg [.d k1,.d k2],int 0])):=by
 obtain⟨ns,sz,no,od,nl,lk,⟨ins,isz,ino,iod,ine,ien,inn,ivar,ink,ikid,iroot⟩,⟨gns,gsz,gno,god,gne,gen,gnn,gvar,gnk,gkid,groot⟩⟩:=c;simp only[CaR.av,DiR.cs,AN,AQ] at*
 constructor
 ·intro hn;refine a0k AD okP i7c _ rfl fun E Sg hbs hS=> ?_;have e:=b2k hS;cbv;refine a0v hS _ h42 ?_;cbv;simp only[e.ieq,e.bnot];cbv;refine a0v hS _ h29 ?_;cbv;simp only[e.ieq,e.ofNat,hn];cbv;exact AM (.cons (AA _) (.cons (AA _) (.cons (a6c rfl) .nil)))
 ·intro hn;refine a0k AD okP i7c _ rfl fun E Sg hbs hS=> ?_;have e:=b2k hS;cbv;refine a0v hS _ h42 ?_;cbv;simp only[e.ieq,e.bnot];cbv;refine a0v hS _ h29 ?_;cbv;have hb0:((n:Int)==AG 0)=AF:=beq_false_of_ne (by simp only[AB];omega);simp only[e.ieq,e.ofNat,hb0];cbv;exact AM (.cons (AA _) (.cons (AA _) (.cons (a6c rfl) .nil)))
def cel (nl:Nat)(X:Nat->Nat->VaR)(k q:Nat):VaR:=if k<nl then X k q else⟨0,0⟩
def h7v (F:Nat->VaR)(g:Bool):List DV:=
 [.int .u8 (.v (F 0).fault),.int .i64 (.v (F 0).n),.int .u8 (.v (F 1).fault),.int .i64 (.v (F 1).n),.int .u8 (.v (F 2).fault),.int .i64 (.v (F 2).n),.int .u8 (.v (F 3).fault),.int .i64 (.v (F 3).n),.bool g]
def i0q (ns:Nat)(sz:Nat->Int)(no:Nat)(od:Nat->Int)(nl n:Nat)(W:Nat->Int)(X:Nat->Nat->VaR)(G:Nat->Bool):List DV:=
 [.sl 1 ns fun i=>[.int .i64 (.v (sz i))],.sl 1 no fun i=>[.int .i64 (.v (od i))],.int .i64 (.v nl),.sl 1 n fun j=>[.int .i64 (.v (W j))],
   .sl 9 n fun j=>h7v (fun k=>cel nl X k (W j).toNat) (G (W j).toNat)]
theorem i2x (a b:DiR){ns no nl:Nat}{sz od:Nat->Int}{lk:Nat->DiR}{er:Int}(h98:a0j AC AH 98 [isl ns sz,isl no od,dsl nl lk,a.av,b.av] (int er))(h0:er≠0):
 a0j AC AF 131 [isl ns sz,isl no od,dsl nl lk,a.av,b.av] (.tuple [.d (.raw (.pointer AO)),int er]):=by
 obtain⟨ins,isz,ino,iod,ine,ien,inn,ivar,ink,ikid,iroot⟩:=a;obtain⟨gns,gsz,gno,god,gne,gen,gnn,gvar,gnk,gkid,groot⟩:=b;refine a0k AD okP e8k _ rfl fun E Sg hbs hS=> ?_;have e:=b2k hS;cbv;refine a0v hS _ h98 ?_;cbv;have hb0:(er==AG 0)=AF:=beq_false_of_ne h0;simp only[e.ieq,e.bnot,hb0];cbv;exact AA _
def i7g:a0c:=match g5m with| .seq _ (.seq _ (.seq _ (.seq _ (.seq _ r))))=>r|_=> .ret
theorem i4v (a b:DiR){ns no nl:Nat}{sz od:Nat->Int}{lk:Nat->DiR}{T:Nat}(hT:T<=1000000)(hnl:nl<=4)(h98:a0j AC AH 98 [isl ns sz,isl no od,dsl nl lk,a.av,b.av] (int 0))(X:Nat->Nat->VaR)(Z Y:Nat->VaR)
 (hl: ∀i,i<nl->a0j AC AF 170 [(lk i).av] (.tuple [vsl T (X i),int 0])) (hli:a0j AC AF 170 [a.av] (.tuple [vsl T Z,int 0])) (hlg:a0j AC AF 170 [b.av] (.tuple [vsl T Y,int 0]))
 (G:Nat->Bool) (hG: ∀p,G p=AH↔Y p=⟨0,1⟩):
 a0j AC AF 131 [isl ns sz,isl no od,dsl nl lk,a.av,b.av] (.tuple [.dptr (i0q ns sz no od nl (plc Z T).length (fun j=>(((plc Z T).getD j 0:Nat):Int)) X G) 0,int 0]):=by
 obtain⟨N,W,hN,hW,hN0,hNi,hst⟩:=h9h Z;have hres:(fun j=>(((plc Z T).getD j 0:Nat):Int))=W T:=funext fun j=>hW T j;rw[hres,hN];obtain⟨bb,hb⟩: ∃b:Nat->Bool,∀p,b p=AH↔Z p=⟨0,1⟩:=by classical exact⟨fun p=>decide _,fun p=>decide_eq_true_iff⟩
 have q1:=fun p=>h9i (Z p) (bb p) (hb p);have q2:=fun p=>h9i (Y p) (G p) (hG p);have hst1: ∀i,(bb i=AH->N (i+1)=N i+1/\(∀j,j<N i->W (i+1) j=W i j)/\W (i+1) (N i)=i)/\(bb i=AF->N (i+1)=N i/\ ∀j,W (i+1) j=W i j):=fun i=>⟨fun h=>(hst i).1 ((hb i).1 h),fun h=>(hst i).2 fun h'=>by rw[(hb i).2 h'] at h;cases h⟩;clear hres hst hN hW hb hG;obtain⟨ins,isz,ino,iod,ine,ien,inn,ivar,ink,ikid,iroot⟩:=a;obtain⟨gns,gsz,gno,god,gne,gen,gnn,gvar,gnk,gkid,groot⟩:=b;refine a0k AD okP e8k _ rfl fun E Sg hbs hS=> ?_;have e:=b2k hS;have en: ∀k:Nat,nat Sg (IX.v (AG k))=k:=fun k=>by show Sg.toNat (AG k)=k;rw[e.toNat];rfl
 obtain⟨D,hD0,hD1⟩: ∃D:Nat->Nat->DV,(∀i j,i<=j->D i j= .nil)/\ ∀i j,j<i->D i j= .sl 2 T fun p=>(X j p).row:=⟨fun i j=>if j<i then .sl 2 T fun p=>(X j p).row else .nil,fun i j h=>if_neg (by omega),fun i j h=>if_pos h⟩;obtain⟨R,hR⟩: ∃R,R=i7g:=⟨_,rfl⟩;change ev Sg (.seq _ (.seq _ (.seq _ (.seq _ (.seq _ i7g))))) _ _;rw[<-hR];cbv;refine a0v hS _ h98 ?_;cbv;simp only[e.ieq,e.bnot];cbv;refine a1g hS (i4c hS) (a1g hS (i4a hS (by omega)) ?_);simp only[e.ofNat,e.toNat,AE];refine a7r AD okP hS (fun i=>i<=nl) (fun i=>nl-i)
  (fun i=>⟨b5r [(8,.ptr 0 0),(9,.ptr 1 0),(13,.ptr 2 0),(14,.msl 3 1 AO nl AF),(45,dsl nl lk),(46,int nl),(47,int i)] 124,[.var [isl ins isz,isl ino iod,vsl ine ien,bsl inn ivar ink ikid,int iroot],.var [isl gns gsz,isl gno god,vsl gne gen,bsl gnn gvar gnk gkid,int groot],.var [isl ns sz,isl no od,int nl,.d .nil,.d .nil],
    .arr 1 nl fun j=>[D i j]],[]⟩) 0 (by omega) ?_ ?_
 ·refine a4c rfl ⟨AA _,AA _,AA _,AA _,AA _,AA _,a6c rfl,trivial⟩ (.cons (.refl _) (.cons (.refl _) (.cons (.refl _) (.cons (h8m hS fun j hj=> ?_) (.nil _))))) (by simp;omega) (.inr rfl) rfl;rw[hD0 0 j (by omega)];exact .refl _
 ·intro i hi N' hN';cbv;split
  ·rename_i h;have hlt:i<nl:=AL.1 (b3h hS h);cbv;rw[en i];refine a1g hS (a5p hS hlt) ?_;refine a0v hS _ (hl i hlt) ?_;cbv;simp only[e.toNat,AB,AE];refine a1g hS (a5p hS hlt) (a1g hS (i2h hS hlt) (a1g hS (e1n hS (by omega)) ?_));refine hN' (i+1) _ hlt (by omega) (a4c rfl ⟨AA _,AA _,AA _,AA _,AA _,AA _,b2s hS,trivial⟩ (.cons (.refl _) (.cons (.refl _) (.cons (.refl _) (.cons (h8j hS (fun j hj hne=> ?_) fun _=> ?_) (.nil _))))) (by simp;omega) (.inl ⟨rfl,rfl⟩) rfl)
   ·by_cases h:j<i
    ·rw[hD1 i j h,hD1 (i+1) j (by omega)];exact .refl _
    ·rw[hD0 i j (by omega),hD0 (i+1) j (by omega)];exact .refl _
   ·rw[hD1 (i+1) i (by omega)];exact .refl _
  ·rename_i h;have hin:i=nl:=by have:=AI.1 (b3r hS h);omega
   subst hin;cbv;subst hR;cbv;refine a0v hS _ hlg ?_;cbv;refine a0v hS _ hli ?_;cbv;clear h98 hl hlg hli hN' hi h;refine e4p AD okP hS (fun p=>p<=T) (fun p=>T-p)
    (fun p=>⟨b5r [(13,.ptr 2 0),(14,.msl 3 1 AO i AF),(17,vsl T Y),(71,vsl T Z),(72,int T),(73,int p)] 124,[.var [isl ins isz,isl ino iod,vsl ine ien,bsl inn ivar ink ikid,int iroot],.var [isl gns gsz,isl gno god,vsl gne gen,bsl gnn gvar gnk gkid,int groot],.var [isl ns sz,isl no od,int i,.msl 4 1 AO (N p) AF,.msl 5 9 AO (N p) AF],
      .arr 1 i fun j=>[.sl 2 T fun p=>(X j p).row],arrI (N p) (W p),.arr 9 (N p) fun j=>h7v (fun k=>cel i X k (W p j).toNat) (G (W p j).toNat)],[4,5]⟩) 0 (by omega) ?_ ?_
   ·refine (AY 2 3 1 (fun _=>[]) rfl rfl).trans ((AY 2 4 9 (fun _=>[]) rfl rfl).trans (AP (a4c rfl ⟨AA _,AA _,AA _,AA _,?_,a6c rfl,trivial⟩ (.cons (.refl _) (.cons (.refl _) (.cons ?_ (.cons (AJ rfl fun j hj=> ?_) (.cons (AJ hN0.symm fun j hj=>by omega) (.cons (AJ hN0.symm fun j hj=>by omega) (.nil _))))))) (by simp;omega) (.inr rfl) rfl)))
    ·exact b0a (by simp only[e.ofNat])
    ·refine .var (.cons (AA _) (.cons (AA _) (.cons (AA _) (.cons ?_ (.cons ?_ .nil)))))<;>(rw[hN0];exact AA _)
    ·rw[hD1 i j hj];exact .refl _
   ·intro p hp N' hN';cbv;split
    ·rename_i h;have hlt:p<T:=AL.1 (b3h hS h);obtain⟨h1,h2⟩:=hst1 p;have h3:=hNi p;cbv;simp only[en];refine a1g hS (a5p hS hlt) ?_;refine a0v hS (bool (bb p)) (q1 p) ?_;cases hb:bb p
     ·obtain⟨h4,h5⟩:=h2 hb;cbv;refine a1g hS (e1n hS (by omega)) ?_;refine hN' (p+1) _ hlt (by omega) (AP (a4c rfl ⟨AA _,AA _,AA _,AA _,AA _,b2s hS,trivial⟩
       (.cons (.refl _) (.cons (.refl _) (.cons ?_ (.cons (.refl _) (.cons (AJ h4.symm fun j hj=>by rw[h5];exact .refl _) (.cons (AJ h4.symm fun j hj=>by rw[h5];exact .refl _) (.nil _))))))) (by simp;omega) (.inl ⟨rfl,rfl⟩) rfl))
      rw[h4];exact .refl _
     ·obtain⟨h4,h5,h6⟩:=h1 hb;cbv;simp only[en];refine a1g hS (a5p hS hlt) ?_;refine a0v hS (bool (G p)) (q2 p) ?_;cbv;obtain⟨F,hF,hFe⟩: ∃F:Nat->Nat->VaR,(∀i k,F i k=if k<i then X k p else⟨0,0⟩)/\ ∀k,F i k=cel i X k p:=⟨fun i k=>if k<i then X k p else⟨0,0⟩,fun _ _=>rfl,fun _=>rfl⟩;obtain⟨F0,hF0⟩: ∃F0:Nat->Nat->Int,∀i k,(F i k).fault=F0 i k:=⟨_,fun _ _=>rfl⟩;obtain⟨F1,hF1⟩: ∃F1:Nat->Nat->Int,∀i k,(F i k).n=F1 i k:=⟨_,fun _ _=>rfl⟩;have z0: ∀k,F0 0 k=0/\F1 0 k=0:=fun k=>by rw[<-hF0,<-hF1,hF,if_neg (Nat.not_lt_zero k)];exact⟨rfl,rfl⟩
      have z1: ∀m k,k≠m->F0 (m+1) k=F0 m k/\F1 (m+1) k=F1 m k:=fun m k h=>by
       rw[<-hF0,<-hF1,<-hF0,<-hF1,hF,hF];by_cases h':k<m
       ·rw[if_pos h',if_pos (by omega)];exact⟨rfl,rfl⟩
       ·rw[if_neg h',if_neg (by omega)];exact⟨rfl,rfl⟩
      have z2: ∀m,F0 (m+1) m=(X m p).fault/\F1 (m+1) m=(X m p).n:=fun m=>by rw[<-hF0,<-hF1,hF,if_pos (by omega)];exact⟨rfl,rfl⟩
      refine a7r AD okP hS (fun m=>m<=i) (fun m=>i-m)
       (fun m=>⟨b5r [(13,.ptr 2 0),(14,.msl 3 1 AO i AF),(17,vsl T Y),(21,int p),(23,.ptr 7 0),(71,vsl T Z),(72,int T),(73,int p),(87,.msl 3 1 AO i AF),(88,int i),(89,int m)] 124,[.var [isl ins isz,isl ino iod,vsl ine ien,bsl inn ivar ink ikid,int iroot],.var [isl gns gsz,isl gno god,vsl gne gen,bsl gnn gvar gnk gkid,int groot],.var [isl ns sz,isl no od,int i,.msl 4 1 AO (N p) AF,.msl 5 9 AO (N p) AF],
         .arr 1 i fun j=>[.sl 2 T fun p=>(X j p).row],arrI (N p) (W p),.arr 9 (N p) fun j=>h7v (fun k=>cel i X k (W p j).toNat) (G (W p j).toNat),.var [.any,.any],.var [u8 (F0 m 0),int (F1 m 0),u8 (F0 m 1),int (F1 m 1),u8 (F0 m 2),int (F1 m 2),u8 (F0 m 3),int (F1 m 3),bool (G p)]],[4,5]⟩) 0 (by omega) ?_ ?_
      ·refine a4c rfl ⟨AA _,AA _,AA _,AA _,AA _,AA _,AA _,AA _,AA _,?_,a6c rfl,trivial⟩ (.cons (.refl _) (.cons (.refl _) (.cons (.refl _) (.cons (.refl _) (.cons (.refl _) (.cons (.refl _) (.cons (.var (.cons (AW _) (.cons (AW _) .nil))) (.cons (.var ?_) (.nil _))))))))) (by simp;omega) (.inr rfl) rfl
       ·exact b0a (by simp only[e.ofNat])
       ·simp only[z0];exact .cons (a6c rfl) (.cons (a6c rfl) (.cons (a6c rfl) (.cons (a6c rfl) (.cons (a6c rfl) (.cons (a6c rfl) (.cons (a6c rfl) (.cons (a6c rfl) (.cons (AA _) .nil))))))))
      ·intro m hm N2 hN2;cbv;split
       ·rename_i h;have hlt2:m<i:=AL.1 (b3h hS h);have hm4:m=0\/m=1\/m=2\/m=3:=by omega
        cbv;simp only[en]
        repeat (first|refine a1g hS (a5p hS hlt2) ?_|refine a1g hS (i2h hS hlt2) ?_|refine a1g hS (a5p hS hlt) ?_|refine a1g hS (i2b hS (by simp only[AB];omega)) ?_)
        simp only[e.nadd,e.nmul,en,e.toNat,AB,AE];have c1:=fun k=>z1 m k;obtain⟨d0,d1⟩:=z2 m;rcases hm4 with rfl|rfl|rfl|rfl
        all_goals
         cbv
         repeat (first|refine a1g hS (i2h hS hlt2) ?_|refine a1g hS (a5p hS hlt) ?_|refine a1g hS (i2b hS (by decide)) ?_|refine a1g hS (a4p hS (by decide)) ?_)
         refine hN2 _ _ hlt2 (by omega) (a4c rfl ⟨AA _,AA _,AA _,AA _,AA _,AA _,AA _,AA _,AA _,AA _,b2s hS,trivial⟩ (.cons (.refl _) (.cons (.refl _) (.cons (.refl _) (.cons (.refl _) (.cons (.refl _) (.cons (.refl _) (.cons (.refl _) (.cons (.var ?_) (.nil _))))))))) (by simp;omega) (.inr rfl) rfl)
        ·exact (.cons (b0a d0.symm) (.cons (b0a d1.symm) (.cons (b0a (c1 1 (by decide)).1.symm) (.cons (b0a (c1 1 (by decide)).2.symm) (.cons (b0a (c1 2 (by decide)).1.symm) (.cons (b0a (c1 2 (by decide)).2.symm) (.cons (b0a (c1 3 (by decide)).1.symm) (.cons (b0a (c1 3 (by decide)).2.symm) (.cons (AA _) .nil)))))))))
        ·exact (.cons (b0a (c1 0 (by decide)).1.symm) (.cons (b0a (c1 0 (by decide)).2.symm) (.cons (b0a d0.symm) (.cons (b0a d1.symm) (.cons (b0a (c1 2 (by decide)).1.symm) (.cons (b0a (c1 2 (by decide)).2.symm) (.cons (b0a (c1 3 (by decide)).1.symm) (.cons (b0a (c1 3 (by decide)).2.symm) (.cons (AA _) .nil)))))))))
        ·exact (.cons (b0a (c1 0 (by decide)).1.symm) (.cons (b0a (c1 0 (by decide)).2.symm) (.cons (b0a (c1 1 (by decide)).1.symm) (.cons (b0a (c1 1 (by decide)).2.symm) (.cons (b0a d0.symm) (.cons (b0a d1.symm) (.cons (b0a (c1 3 (by decide)).1.symm) (.cons (b0a (c1 3 (by decide)).2.symm) (.cons (AA _) .nil)))))))))
        ·exact (.cons (b0a (c1 0 (by decide)).1.symm) (.cons (b0a (c1 0 (by decide)).2.symm) (.cons (b0a (c1 1 (by decide)).1.symm) (.cons (b0a (c1 1 (by decide)).2.symm) (.cons (b0a (c1 2 (by decide)).1.symm) (.cons (b0a (c1 2 (by decide)).2.symm) (.cons (b0a d0.symm) (.cons (b0a d1.symm) (.cons (AA _) .nil)))))))))
       ·rename_i h;have hin:m=i:=by have:=AI.1 (b3r hS h);omega
        subst hin;cbv
        repeat (first|refine a1g hS (c3d hS) ?_|refine a1g hS trivial ?_|refine a1g hS (f1i hS (by omega)) ?_|refine a1g hS (e1n hS (by omega)) ?_)
        refine hN' (p+1) _ hlt (by omega) (AP (a4c rfl ⟨AA _,AA _,AA _,AA _,AA _,b2s hS,trivial⟩
         (.cons (.refl _) (.cons (.refl _) (.cons (.var (.cons (AA _) (.cons (AA _) (.cons (AA _) (.cons ?_ (.cons ?_ .nil)))))) (.cons (.refl _) (.cons ?_ (.cons ?_ (.nil _))))))) (by simp;omega) (.inl ⟨rfl,rfl⟩) rfl))
        ·rw[h4];exact d8n hS
        ·rw[h4];exact d8n hS
        ·rw[h4];exact d7h hS (fun j hj=>by rw[h5 j hj];exact .refl _) (by rw[h6];exact .one (.int rfl))
        ·rw[h4];refine d7h hS (fun j hj=>by rw[h5 j hj];exact .refl _) ?_;rw[h6,AE];simp only[<-hFe];unfold h7v;simp only[hF0,hF1];exact .refl _
    ·rename_i h;have hin:p=T:=by have:=AI.1 (b3r hS h);omega
     subst hin;cbv;exact a1g hS (e8l hS (AK _)) (a1g hS (e8l hS (AK _)) (AM (.cons (AA _) (.cons (a6c rfl) .nil))))
theorem i2r (a b:DiR){ns no nl:Nat}{sz od:Nat->Int}{lk:Nat->DiR}{er:Int}(h131:a0j AC AF 131 [isl ns sz,isl no od,dsl nl lk,a.av,b.av] (.tuple [.d (.raw (.pointer AO)),int er]))(h0:er≠0):
 a0j AC AF 108 [isl ns sz,isl no od,dsl nl lk,a.av,b.av] (.tuple [.d (.raw (.pointer AO)),int er]):=by
 obtain⟨ins,isz,ino,iod,ine,ien,inn,ivar,ink,ikid,iroot⟩:=a;obtain⟨gns,gsz,gno,god,gne,gen,gnn,gvar,gnk,gkid,groot⟩:=b;refine a0k AD okP f0g _ rfl fun E Sg hbs hS=> ?_;have e:=b2k hS;cbv;refine a0v hS _ h131 ?_;cbv;have hb0:(er==AG 0)=AF:=beq_false_of_ne h0;simp only[e.ieq,e.bnot,hb0];cbv;exact AA _
theorem i3a (a b:DiR){ns no nl n:Nat}{sz od:Nat->Int}{lk:Nat->DiR}{x0 x1 x2 x3:DV}{e4:Nat->List DV}(h131:a0j AC AF 131 [isl ns sz,isl no od,dsl nl lk,a.av,b.av] (.tuple [.dptr [x0,x1,x2,x3,.sl 9 n e4] 0,int 0])):
 (n=0->a0j AC AF 108 [isl ns sz,isl no od,dsl nl lk,a.av,b.av] (.tuple [.d (.raw (.pointer AO)),int 12]))/\(0<n->a0j AC AF 108 [isl ns sz,isl no od,dsl nl lk,a.av,b.av] (.tuple [.dptr [x0,x1,x2,x3,.sl 9 n e4] 0,int 0])):=by
 obtain⟨ins,isz,ino,iod,ine,ien,inn,ivar,ink,ikid,iroot⟩:=a;obtain⟨gns,gsz,gno,god,gne,gen,gnn,gvar,gnk,gkid,groot⟩:=b;constructor
 ·intro hn;refine a0k AD okP f0g _ rfl fun E Sg hbs hS=> ?_;have e:=b2k hS;cbv;refine a0v hS _ h131 ?_;cbv;simp only[e.ieq];cbv;simp only[e.ieq,e.ofNat,hn];cbv;exact AM (.cons (AA _) (.cons (a6c rfl) .nil))
 ·intro hn;refine a0k AD okP f0g _ rfl fun E Sg hbs hS=> ?_;have e:=b2k hS;cbv;refine a0v hS _ h131 ?_;cbv;simp only[e.ieq];cbv;have hb0:((n:Int)==AG 0)=AF:=beq_false_of_ne (by simp only[AB];omega);simp only[e.ieq,e.ofNat,hb0];cbv;exact AA _
def i5b (F:Nat->VaR)(g:Bool):AV:= .agg [u8 (F 0).fault,int (F 0).n,u8 (F 1).fault,int (F 1).n,u8 (F 2).fault,int (F 2).n,u8 (F 3).fault,int (F 3).n,bool g]
theorem i2q {n:Nat}(hn:n<=1000000)(F:Nat->Nat->VaR)(g:Nat->Bool)(T:Nat->VaR)(z:Bool)(p:Nat->Bool)(hp: ∀j,p j=AH↔(∀k,k<4->T k=F j k)/\z=g j)(r:Int)(hr:a6z n p r):
 a0j AC AH 111 [.d (.sl 9 n fun j=>h7v (F j) (g j)),i5b T z] (int r):=by
 obtain⟨A,hA⟩: ∃A:Nat->Nat->Int,∀j k,(F j k).fault=A j k:=⟨_,fun _ _=>rfl⟩;obtain⟨B,hB⟩: ∃B:Nat->Nat->Int,∀j k,(F j k).n=B j k:=⟨_,fun _ _=>rfl⟩;obtain⟨C,hC⟩: ∃C:Nat->Int,∀k,(T k).fault=C k:=⟨_,fun _=>rfl⟩;obtain⟨D,hD⟩: ∃D:Nat->Int,∀k,(T k).n=D k:=⟨_,fun _=>rfl⟩;have hp2: ∀j,p j=AH↔(C 0=A j 0/\D 0=B j 0/\C 1=A j 1/\D 1=B j 1/\C 2=A j 2/\D 2=B j 2/\C 3=A j 3/\D 3=B j 3)/\z=g j:=fun j=>by
  rw[hp];simp only[<-hA,<-hB,<-hC,<-hD];refine and_congr_left fun _=>⟨fun h=> ?_,fun h k hk=> ?_⟩
  ·rw[h 0 (by omega),h 1 (by omega),h 2 (by omega),h 3 (by omega)];exact⟨rfl,rfl,rfl,rfl,rfl,rfl,rfl,rfl⟩
  ·obtain⟨h0,h1,h2,h3,h4,h5,h6,h7⟩:=h;have hv: ∀a b:VaR,a.fault=b.fault->a.n=b.n->a=b:=fun a b h1 h2=>by cases a;cases b;simp only at h1 h2;subst h1 h2;rfl
   match k,hk with
   |0,_=>exact hv _ _ h0 h1
   |1,_=>exact hv _ _ h2 h3
   |2,_=>exact hv _ _ h4 h5
   |3,_=>exact hv _ _ h6 h7
 unfold h7v i5b;simp only[hA,hB,hC,hD];clear hp hA hB hC hD;refine a4e (a0k AD okP f2e _ rfl fun E Sg hb hS=> ?_);have e:=b2k hS;cbv;refine a7r AD okP hS (fun i=>i<=n/\ ∀j,j<i->p j=AF) (fun i=>n-i)
  (fun i=>⟨b5r [(0,.d (.sl 9 n fun j=>[.int .u8 (.v (A j 0)),.int .i64 (.v (B j 0)),.int .u8 (.v (A j 1)),.int .i64 (.v (B j 1)),.int .u8 (.v (A j 2)),.int .i64 (.v (B j 2)),.int .u8 (.v (A j 3)),.int .i64 (.v (B j 3)),.bool (g j)])),(3,.ptr 0 0),(7,int n),(8,int i)] 19,[.var [u8 (C 0),int (D 0),u8 (C 1),int (D 1),u8 (C 2),int (D 2),u8 (C 3),int (D 3),bool z]],[]⟩) 0 ⟨by omega,by omega⟩ ?_ ?_
 ·exact a4c rfl ⟨AA _,AA _,b0a (by simp only[e.ofNat]),a6c rfl,trivial⟩ (.same _) (by simp;omega) (.inr rfl) rfl
 ·intro i hi N hN;cbv;split
  ·rename_i h;have hlt:i<n:=AL.1 (b3h hS h);cbv;simp only[nat,e.toNat,AB,AE];refine a1g hS (a5p hS hlt) ?_;simp only[e.band,e.ieq,e.beq];split
   ·rename_i h;have hpi:p i=AH:=(hp2 i).2 (by simpa [and_assoc] using h);cbv;exact b0a (hr.2 i hlt hpi hi.2).symm
   ·rename_i h;have hpi:p i=AF:=by
     cases hpp:p i
     ·rfl
     ·obtain⟨⟨h0,h1,h2,h3,h4,h5,h6,h7⟩,h8⟩:=(hp2 i).1 hpp;rw[h0,h1,h2,h3,h4,h5,h6,h7,h8] at h;simp at h
    cbv;refine a1g hS (e1n hS (by omega)) ?_;refine hN (i+1) _ ⟨by omega,fun j hj=> ?_⟩ (by omega) (a4c rfl ⟨AA _,AA _,AA _,b2s hS,trivial⟩ (.same _) (by simp;omega) (.inr rfl) rfl);by_cases e:j=i
    ·subst e;exact hpi
    ·exact hi.2 j (by omega)
  ·rename_i h;have hni:n<=i:=AI.1 (b3r hS h);cbv;exact a6c (hr.1 fun j hj=>hi.2 j (by omega)).symm
theorem i4r {ns:Nat}(sz:Nat->Int):a1h AC 148 [isl ns sz] [] (fun pg v h'=>pg=[]/\v= .fn 185 [] [.ptr 0 0]/\h'=[.var [isl ns sz]]):=by refine h3w AD okP e8f rfl fun E Sg hb hS F hF=> ?_;cbv;exact⟨[],by simp,hF (.cons (.refl _) (.nil _)) (AA _) (by simp) (.inr rfl) ⟨rfl,rfl,rfl⟩⟩
def bkH (o0 A B o3 b o5:a0f):List a0f:=[o0,A,B,o3,b,o5]
theorem i5d {ns:Nat}(hns:ns<=1000000)(sz:Nat->Int)(J:Nat->Nat)(hJ: ∀p,p<ns->J p=ns-1-p)(o0 o3 o5:a0f)(A B:Nat->a0f)
 (hY: ∀p,p<ns->b5d AC 5 [int (J p),int (sz (J p))] (bkH o0 (A p) (B p) o3 (.var [isl ns sz]) o5) (fun pg v h'=>pg=[]/\v= .d (.bool AH)/\h'=bkH o0 (A (p+1)) (B (p+1)) o3 (.var [isl ns sz]) o5)):
 a1h AC 185 [.yl 5,.ptr 4 0] (bkH o0 (A 0) (B 0) o3 (.var [isl ns sz]) o5) (fun pg v h'=>pg=[]/\h'=bkH o0 (A ns) (B ns) o3 (.var [isl ns sz]) o5):=by
 obtain⟨K,hK⟩: ∃K:Nat->Int,∀p,K p=(ns:Int)-1-p:=⟨_,fun _=>rfl⟩;have hK1: ∀p,p<ns->K p=J p:=fun p hp=>by rw[hK,hJ p hp];omega
 have hKp: ∀p,p<=ns->0<=K p->p<ns:=fun p hp h=>by rw[hK] at h;omega
 have hKn: ∀p,p<=ns->K p<0->p=ns:=fun p hp h=>by rw[hK] at h;omega
 have hK2: ∀p,K (p+1)=K p-1:=fun p=>by rw[hK,hK];omega
 have hK0:K 0=(ns:Int)-1:=by rw[hK];omega
 refine h3w AD okP e8c rfl fun E Sg hb hS F hF=> ?_;simp only[bkH,List.length_cons,List.length_nil] at hb;have e:=b2k hS;cbv;refine a1g hS (a9o hS (by simp only[e.ofNat,AB];show-9223372036854775808<=(ns:Int)-1/\(ns:Int)-1<=9223372036854775807;omega)) ?_;refine a7r AD okP hS (fun p=>p<=ns) (fun p=>ns-p)
  (fun p=>⟨b5r [(0,.yl 5),(1,.ptr 4 0),(3,int (K p))] 19,bkH o0 (A p) (B p) o3 (.var [isl ns sz]) o5,[]⟩) 0 (by omega) ?_ ?_
 ·refine a4c rfl ⟨AA _,AA _,b0a ?_,trivial⟩ (a4k.same _) (by simp[bkH];omega) (.inr rfl) rfl;simp only[e.isub,e.ofNat,hK0,IX.val,AB];rfl
 ·intro p hp N hN;cbv;split
  ·rename_i h;have hlt:p<ns:=hKp p hp (e3n hS h);have hj:=hK1 p hlt;have hjn:J p<ns:=by rw[hJ p hlt];omega
   have hyp:=hY p hlt;cbv;simp only[nat,e.toNat,hj,AE];refine a1g hS (a5p hS hjn) ?_;refine i5x hS hyp ?_;rintro pg v H' ⟨rfl,rfl,rfl⟩;cbv;refine a1g hS (a9o hS (show-9223372036854775808<=(J p:Int)-1/\(J p:Int)-1<=9223372036854775807 by omega)) ?_;exact hN (p+1) _ hlt (by omega) (a4c rfl ⟨AA _,AA _,b0a (by simp only[e.isub,hK2,hj,AB];rfl),trivial⟩ (a4k.same _) (by simp[bkH];omega) (.inr rfl) rfl)
  ·rename_i h;have hpn:p=ns:=hKn p hp (e3g hS h);subst hpn;cbv;exact⟨[],by simp,hF (a4k.same _) (AA _) (by simp[bkH]) (.inr rfl) ⟨rfl,rfl⟩⟩
def i7h:a0c×a0c:=match g3o with| .seq _ (.seq _ (.seq (.seq _ (.block _ (.range _ _ a b))) _))=>(a,b)|_=>(.ret,.ret)
def i6i:a0f:= .loop .ready (b5r [(3,.ptr 1 0),(5,.ptr 3 0)] 27) [15,16] (fun ca cb=>comp AC f8p.A ca=some i7h.1/\comp AC f8p.A cb=some i7h.2)
theorem i2t {ns no:Nat}(hns:ns<=1000000)(sz od g:Nat->Int)(hs: ∀i,i<ns->1<=sz i/\sz i<=12)(hp:h4d sz ns<=2000)(hg:i2j sz g ns)(n:Int)(hn:h4w sz g ns=n):a0j AC AF 112 [.agg [isl ns sz,isl no od],int n] (isl ns g):=by
 obtain⟨V,hV⟩: ∃V:Nat->Int,∀i,h4w sz g i=V i:=⟨_,fun _=>rfl⟩;have hV1: ∀i,V (i+1)=V i*sz i+g i:=fun i=>by rw[<-hV,<-hV];rfl
 have hV0: ∀i,i<=ns->0<=V i/\V i<=2000:=fun i hi=>by have h1:=h5c (sz:=sz) (pl:=g) (n:=i) fun j hj=>hg j (by omega);have h2:=h7t (sz:=sz) (n:=ns) (fun i hi=>(hs i hi).1) i hi;rw[<-hV];omega
 rw[hV] at hn;obtain⟨J,hJ⟩: ∃J:Nat->Nat,∀p,J p=ns-1-p:=⟨_,fun _=>rfl⟩;obtain⟨B,hB⟩: ∃B:Nat->Nat->Int,∀p i,B p i=if ns-p<=i then g i else 0:=⟨_,fun _ _=>rfl⟩;obtain⟨M,hM⟩: ∃M:Nat->Int,∀p,M p=V (ns-p):=⟨_,fun _=>rfl⟩;have hM0:M 0=n:=by rw[hM,Nat.sub_zero,hn]
 have hM1: ∀p,p<ns->(M p).tmod (sz (J p))=g (J p)/\(M p).tdiv (sz (J p))=M (p+1)/\0<sz (J p)/\0<=M (p+1)/\M (p+1)<=2000:=fun p hp=>by
  have h1:ns-p=J p+1:=by rw[hJ];omega
  have h2:ns-(p+1)=J p:=by rw[hJ];omega
  have hjn:J p<ns:=by rw[hJ];omega
  have h3:=hV0 (J p) (by omega);have h4:=hs (J p) hjn;obtain⟨h5,h6⟩:=i3z h3.1 (show 0<sz (J p) by omega) (hg (J p) hjn);rw[hM,hM,h1,h2,hV1];exact⟨h5,h6,by omega,h3⟩
 refine a0k AD okP f1k _ rfl fun E Sg hbs hS=> ?_;have e:=b2k hS;cbv;refine a1g hS (i4c hS) (a1g hS (i4a hS (by omega)) ?_);simp only[e.ofNat,e.toNat,AE];refine h3v hS (a1h.frame (i4r (ns:=ns) sz) [] rfl rfl trivial) ?_;rintro pg v H' ⟨pg0,v0,h0,⟨rfl,rfl,rfl⟩,rfl,rfl,rfl⟩;cbv;refine i0x hS rfl ?_;have hr:=i5d (ns:=ns) hns sz J (fun p _=>hJ p) (.var [.any,.any]) (.var [.msl 2 1 AO ns AF]) i6i (fun p=> .var [int (M p)]) (fun p=>arrI ns (B p)) ?_
 ·refine a1h.mono ?_ (hr.heap (.cons (.var (.cons (AW _) (.cons (AW _) .nil))) (.cons (.var (.cons (b0a hM0.symm) .nil)) (.cons (h8m hS fun j hj=>by rw[hB,if_neg (by omega)];exact .one (.int rfl)) (.cons (.refl _) (.cons (.refl _) (.cons (AZ ?_ fun a b h=>h) (.nil _))))))) rfl)
  ·rintro pg v H' ⟨rfl,rfl⟩;cbv;refine⟨fun h=>(nomatch h),_,_,_,_,rfl,?_⟩;cbv;refine a1g hS (e8l hS (AK _)) ?_;exact a0x.isl rfl fun i hi=>by rw[hB,if_pos (by omega)]
  ·exact d2w rfl ⟨AA _,AA _,trivial⟩
 ·intro p hp;have hjn:J p<ns:=by rw[hJ];omega
  obtain⟨m1,m2,m3,m4,m5⟩:=hM1 p hp;refine b5d.cut (b9t AD okP (A:=f8p.A) rfl (fun _ _ h=>h) rfl fun ro E Sg hS=> ?_);have e:=b2k hS;cbv;refine⟨fun h=>(nomatch h),_,_,_,rfl,?_⟩;cbv;simp only[nat,e.toNat,e.irem,e.iquo,AB,AE,m1,m2]
  repeat (first|refine a1g hS (a5p hS hjn) ?_|refine a1g hS (i6p hS (by omega)) ?_|refine a1g hS (i2h hS hjn) ?_|refine a1g hS (e7p hS (by omega)) ?_|refine a1g hS (c3d hS) ?_)
  refine⟨fun h=>(nomatch h),_,_,_,rfl,[],fun m _ h=>h,?_⟩;cbv;refine⟨bkH _ (.var [int (M (p+1))]) (arrI ns (B (p+1))) _ _ i6i,.d (.bool AH),.cons (.refl _) (.cons (.refl _) (.cons (h8j hS ?_ ?_) (.cons (.refl _) (.cons (.refl _)
   (.cons (AZ (d2w rfl ⟨AA _,AA _,trivial⟩) fun a b h=>h) (.nil _)))))),AA _,by simp[bkH],.inr rfl,rfl,rfl,rfl⟩
  ·intro j hj hne;rw[hJ] at hne;rw[hB,hB];by_cases h:ns-p<=j
   ·rw[if_pos h,if_pos (by omega)];exact .refl _
   ·rw[if_neg h,if_neg (by omega)];exact .refl _
  ·intro _;rw[hB,if_pos (by rw[hJ];omega)];exact .refl _
def i1q (n:Nat)(a:Nat->Nat->Bool):Prop:= ∀i j,i<j->j<n->a i j=AF
def h7w (n:Nat)(a:Nat->Nat->Bool)(x y:Nat):Prop:=(x<y/\y<n/\a x y=AH)/\(∀i,i<x-> ∀j,i<j->j<n->a i j=AF)/\ ∀j,x<j->j<y->a x j=AF
theorem i2s {p:Nat->Prop}[DecidablePred p]: ∀{n:Nat},(∃i,i<n/\p i)-> ∃i,i<n/\p i/\ ∀j,j<i-> ¬p j
 |0,⟨i,h,_⟩=>by omega
 |n+1,h=>by
  by_cases h1: ∃i,i<n/\p i
  ·obtain⟨i,a,b,c⟩:=i2s h1;exact⟨i,by omega,b,c⟩
  ·obtain⟨i,a,b⟩:=h;have:i=n:=by apply Classical.byContradiction;intro h2;exact h1 ⟨i,by omega,b⟩
   subst this;exact⟨i,by omega,b,fun j hj hp=>h1 ⟨j,hj,hp⟩⟩
theorem i4u (n:Nat)(a:Nat->Nat->Bool):i1q n a\/ ∃x y,h7w n a x y:=by
 classical
 by_cases h: ∃x,x<n/\ ∃y,y<n/\x<y/\a x y=AH
 ·obtain⟨x,h1,⟨y,h2,h3⟩,h4⟩:=i2s h;obtain⟨y,h5,⟨h6,h7⟩,h8⟩:=i2s (p:=fun y=>x<y/\a x y=AH) (n:=n) ⟨y,h2,h3⟩;refine .inr ⟨x,y,⟨h6,h5,h7⟩,fun i hi j hj hn=> ?_,fun j hj hy=> ?_⟩
  ·cases hb:a i j
   ·rfl
   ·exact absurd ⟨j,hn,hj,hb⟩ (h4 i hi)
  ·cases hb:a x j
   ·rfl
   ·exact absurd ⟨hj,hb⟩ (h8 j hy)
 ·refine .inl fun i j hi hj=> ?_;cases hb:a i j
  ·rfl
  ·exact absurd ⟨i,by omega,j,hj,hi,hb⟩ h
theorem h7w.at {n:Nat}{a:Nat->Nat->Bool}{x y:Nat}(h:h7w n a x y){i:Nat}(h0: ∀i',i'<i-> ∀j,i'<j->j<n->a i' j=AF){j:Nat}(hj:i<j)(hn:j<n)(ha:a i j=AH)(hf: ∀j',i<j'->j'<j->a i j'=AF):i=x/\j=y:=by
 have e:i=x:=by
  rcases AU i x with h1|h1|h1
  ·rw[h.2.1 i h1 j hj hn] at ha;cases ha
  ·exact h1
  ·have:=h0 x h1 y h.1.1 h.1.2.1;rw[h.1.2.2] at this;cases this
 subst e;refine⟨rfl,?_⟩;rcases AU j y with h1|h1|h1
 ·rw[h.2.2 j hj h1] at ha;cases ha
 ·exact h1
 ·have:=hf y h.1.1 h1;rw[h.1.2.2] at this;cases this
theorem i0g (A B:DiR){ns no nl n:Nat}{sz od:Nat->Int}{lk:Nat->DiR}(hn:n<=1000000){W:Nat->Nat}{X:Nat->Nat->VaR}{G:Nat->Bool}(h108:a0j AC AF 108 [isl ns sz,isl no od,dsl nl lk,A.av,B.av] (.tuple [.dptr (i0q ns sz no od nl n (fun j=>(W j:Int)) X G) 0,int 0]))
 (Q:Nat->Nat->Int) (h112: ∀j,j<n->a0j AC AF 112 [.agg [isl ns sz,isl no od],int (W j)] (isl ns (Q (W j))))
 (a:Nat->Nat->Bool) (ha: ∀i j,a i j=AH↔(∀k,k<4->cel nl X k (W i)=cel nl X k (W j))/\G (W i)≠G (W j)) (v:AV) (hv:(i1q n a/\v= .tuple [.d .nil,.d .nil,int 7])\/ ∃x y,h7w n a x y/\v= .tuple [isl ns (Q (W x)),isl ns (Q (W y)),int 0]):
 a0j AC AF 81 [isl ns sz,isl no od,dsl nl lk,A.av,B.av] v:=by
 have hself: ∀i,a i i=AF:=fun i=>by
  cases hb:a i i
  ·rfl
  ·exact absurd rfl ((ha i i).1 hb).2
 have hz:=fun i (hi:i<n)=>a9i (n-i) fun k=>a i (i+k);obtain⟨zz,hz⟩: ∃z:Nat->Int,∀i,i<n->a6z (n-i) (fun k=>a i (i+k)) (z i)/\(0<=z i-> ∃k,k<n-i/\a i (i+k)=AH)/\((∃k,k<n-i/\a i (i+k)=AH)->0<=z i):=by
  have: ∀i,∃z,i<n->a6z (n-i) (fun k=>a i (i+k)) z/\(0<=z-> ∃k,k<n-i/\a i (i+k)=AH)/\((∃k,k<n-i/\a i (i+k)=AH)->0<=z):=fun i=>by
   by_cases h:i<n
   ·obtain⟨z,h1⟩:=hz i h;exact⟨z,fun _=>h1⟩
   ·exact⟨0,fun h'=>absurd h' h⟩
  exact Classical.axiomOfChoice this
 have h111:=fun i (hi:i<n)=>i2q (n:=n-i) (by omega) (fun j k=>cel nl X k (W (i+j))) (fun j=>G (W (i+j))) (fun k=>cel nl X k (W i)) (!G (W i)) (fun k=>a i (i+k)) (fun j=>by
  rw[ha];refine and_congr_right fun _=> ?_;cases G (W i)<;>cases G (W (i+j))<;>simp) (zz i) (hz i hi).1
 have key: ∀i,i<n->(∀i',i'<i-> ∀j,i'<j->j<n->a i' j=AF)->(zz i<0/\ ∀j,i<j->j<n->a i j=AF)\/ ∃y:Nat,zz i=((y-i:Nat):Int)/\i<y/\y<n/\v= .tuple [isl ns (Q (W i)),isl ns (Q (W y)),int 0]:=fun i hi h0=>by
  obtain⟨⟨f1,f2⟩,f3,f4⟩:=hz i hi;by_cases h:0<=zz i
  ·right;obtain⟨k,⟨k1,k2⟩,k3⟩: ∃k,(k<n-i/\a i (i+k)=AH)/\ ∀j,j<k->a i (i+j)=AF:=by
    classical
    obtain⟨k,c1,c2,c3⟩:=i2s (p:=fun k=>a i (i+k)=AH) (f3 h);exact⟨k,⟨c1,c2⟩,fun j hj=>by cases hb:a i (i+j);rfl;exact absurd hb (c3 j hj)⟩
   have hk0:0<k:=by
    rcases Nat.eq_zero_or_pos k with h'|h'
    ·subst h';rw[Nat.add_zero,hself] at k2;cases k2
    ·exact h'
   have hzk:=f2 k k1 k2 k3;rcases hv with⟨hv,_⟩|⟨x,y,hxy,hv⟩
   ·rw[hv i (i+k) (by omega) (by omega)] at k2;cases k2
   ·obtain⟨e1,e2⟩:=hxy.at h0 (j:=i+k) (by omega) (by omega) k2 (fun j' h1 h2=>by
     have:=k3 (j'-i) (by omega)
     rwa [show i+(j'-i)=j' by omega] at this)
    subst e1 e2;exact⟨i+k,by rw[hzk];congr 1;omega,by omega,by omega,hv⟩
  ·left;refine⟨by omega,fun j h1 h2=> ?_⟩;cases hb:a i j
   ·rfl
   ·exact absurd (f4 ⟨j-i,by omega,by rw[show i+(j-i)=j by omega];exact hb⟩) h
 have hend:(∀i j,i<j->j<n->a i j=AF)->v= .tuple [.d .nil,.d .nil,int 7]:=fun h=>by
  rcases hv with⟨_,hv⟩|⟨x,y,hxy,hv⟩
  ·exact hv
  ·have:=h x y hxy.1.1 hxy.1.2.1;rw[hxy.1.2.2] at this;cases this
 clear hz ha hself hv;obtain⟨ins,isz,ino,iod,ine,ien,inn,ivar,ink,ikid,iroot⟩:=A;obtain⟨gns,gsz,gno,god,gne,gen,gnn,gvar,gnk,gkid,groot⟩:=B;unfold i0q h7v at h108;unfold i5b h7v at h111;obtain⟨F,hF⟩: ∃F:Nat->Nat->VaR,∀j k,cel nl X k (W j)=F j k:=⟨_,fun _ _=>rfl⟩;obtain⟨g,hg⟩: ∃g:Nat->Bool,∀j,G (W j)=g j:=⟨_,fun _=>rfl⟩;simp only[AE,hF,hg] at h108 h111;clear hF hg;refine a0k AD okP h2h _ rfl fun E Sg hbs hS=> ?_;have e:=b2k hS;have en: ∀k:Nat,nat Sg (IX.v (AG k))=k:=fun k=>by show Sg.toNat (AG k)=k;rw[e.toNat];rfl
 cbv;refine a0v hS _ h108 ?_;cbv;simp only[e.ieq,e.bnot];cbv;refine a7r AD okP hS (fun i=>i<=n/\ ∀i',i'<i-> ∀j,i'<j->j<n->a i' j=AF) (fun i=>n-i)
  (fun i=>⟨b5r [(13,.dptr [.sl 1 ns fun i=>[.int .i64 (.v (sz i))],.sl 1 no fun i=>[.int .i64 (.v (od i))],.int .i64 (.v nl),.sl 1 n fun j=>[.int .i64 (.v (W j))],.sl 9 n fun j=>[.int .u8 (.v (F j 0).fault),.int .i64 (.v (F j 0).n),.int .u8 (.v (F j 1).fault),.int .i64 (.v (F j 1).n),.int .u8 (.v (F j 2).fault),.int .i64 (.v (F j 2).n),.int .u8 (.v (F j 3).fault),.int .i64 (.v (F j 3).n),.bool (g j)]] 0),(33,.d (.sl 9 n fun j=>[.int .u8 (.v (F j 0).fault),.int .i64 (.v (F j 0).n),.int .u8 (.v (F j 1).fault),.int .i64 (.v (F j 1).n),.int .u8 (.v (F j 2).fault),.int .i64 (.v (F j 2).n),.int .u8 (.v (F j 3).fault),.int .i64 (.v (F j 3).n),.bool (g j)])),(34,int n),(35,int i)] 82,[.var [isl ins isz,isl ino iod,vsl ine ien,bsl inn ivar ink ikid,int iroot],.var [isl gns gsz,isl gno god,vsl gne gen,bsl gnn gvar gnk gkid,int groot]],[]⟩) 0 ⟨by omega,by omega⟩ ?_ ?_
 ·exact a4c rfl ⟨AA _,AA _,b0a (by simp only[e.ofNat]),a6c rfl,trivial⟩ (.same _) (by simp;omega) (.inr rfl) rfl
 ·intro i hi N hN;cbv;split
  ·rename_i h;have hlt:i<n:=AL.1 (b3h hS h);have q1:=h111 i hlt;cbv;simp only[en];refine a1g hS (a5p hS hlt) ?_;obtain⟨z,hz⟩: ∃z,z=g i:=⟨_,rfl⟩;rw[<-hz];rw[<-hz] at q1;have q2:a0j AC AH 111 [.d (.sl 9 (Sg.nsub n i) (Sg.shift (fun j=>[.int .u8 (.v (F j 0).fault),.int .i64 (.v (F j 0).n),.int .u8 (.v (F j 1).fault),.int .i64 (.v (F j 1).n),.int .u8 (.v (F j 2).fault),.int .i64 (.v (F j 2).n),.int .u8 (.v (F j 3).fault),.int .i64 (.v (F j 3).n),.bool (g j)]) i)),.agg [u8 (F i 0).fault,int (F i 0).n,u8 (F i 1).fault,int (F i 1).n,u8 (F i 2).fault,int (F i 2).n,u8 (F i 3).fault,int (F i 3).n,bool (!z)]] (int (zz i)):=
    a0j.like (.cons (a0x.slr (by simp only[e.nsub]) fun j hj=>by simp only[e.shift];exact .refl _) (.cons (AA _) .nil)) q1
   clear q1;have hkey:=key i hlt hi.2;cases z
   all_goals
    cbv;simp only[e.toNat,e.ofNat,AB,AE];refine a1g hS (i0n hS (AT i)) (a1g hS (i0n hS (AI.2 (Nat.le_of_lt hlt))) (a1g hS (i0n hS (Int.le_refl _)) ?_));refine a0v hS _ q2 ?_;cbv;rcases hkey with⟨hz0,hno⟩|⟨y,hz0,hy1,hy2,hv⟩
    ·have hb0:Sg.ile (AG 0) (zz i)=AF:=by rw[e.ile];exact decide_eq_false (by simp only[AB];omega)
     simp only[hb0];cbv;refine a1g hS (e1n hS (by omega)) ?_;refine hN (i+1) _ ⟨by omega,fun i' hi' j h1 h2=> ?_⟩ (by omega) (a4c rfl ⟨AA _,AA _,AA _,b2s hS,trivial⟩ (.cons (.refl _) (.cons (.refl _) (.nil _))) (by simp;omega) (.inl ⟨rfl,rfl⟩) rfl);by_cases e:i'=i
     ·subst e;exact hno j h1 h2
     ·exact hi.2 i' (by omega) j h1 h2
    ·have hb0:Sg.ile (AG 0) (zz i)=AH:=by rw[e.ile,hz0];exact decide_eq_true (AT _)
     have hy0:(i:Int)+((y-i:Nat):Int)=(y:Int):=by omega
     have hy:Sg.iadd (AG i) (zz i)=AG y:=by rw[e.iadd,hz0];exact hy0
     simp only[hb0];cbv;simp only[hy,en];refine a1g hS (e7p hS (by simp only[AB];omega)) (a1g hS (a5p hS hlt) (a1g hS (a5p hS hy2) ?_));refine a0v hS _ (h112 i hlt) ?_;cbv;simp only[hy,en]
     repeat (first|refine a1g hS (c3d hS) ?_|refine a1g hS (a5p hS hlt) ?_|refine a1g hS (a5p hS hy2) ?_|refine a1g hS (e7p hS (by simp only[AB];omega)) ?_)
     refine a0v hS _ (h112 y hy2) ?_;cbv;rw[hv];exact AM (.cons (AA _) (.cons (AA _) (.cons (a6c rfl) .nil)))
  ·rename_i h;have hni:n<=i:=AI.1 (b3r hS h);have hv:=hend fun i' j h1 h2=>hi.2 i' (by omega) j h1 h2;cbv;rw[hv];exact AM (.cons (AA _) (.cons (AA _) (.cons (a6c rfl) .nil)))
end Go.Proofs.Tryz.Run
