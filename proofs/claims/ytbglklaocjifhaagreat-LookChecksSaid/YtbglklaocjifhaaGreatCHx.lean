/- The places of a case, by the reference. What is asked of a case, by the reference and by the program: its places and what is known of them. The program's open of a case; where a spot stands; the place with a number. Two places that no look tells apart: the program's Apart and the reference's. Conditions: none. -/
import Derived.Test.YtbglklaocjifhaaGreatCHr
open Go.Vf.a0x renaming refl->AA,any->AT
open Go.Proofs.Tryz renaming prog->AB
open Int renaming ofNat_eq_natCast->AC,toNat_natCast->AF,ofNat->AH,ofNat_lt->AP,ofNat_le->AQ
open Go.Proofs.YtbglklaocjifhaaGreat.Tryz renaming mixed->AD
open Bool renaming false->AE,true->AO,eq_iff_iff->AR
open Go.Vf.a9v renaming arrr->AG
open Nat renaming le_refl->AI
open List renaming cons_append->AJ,nil_append->AL,getD_eq_getElem?_getD->AN
open Go.Vf.b4w renaming le->AK,gh->AS
open Option renaming none->AM
set_option linter.unusedSimpArgs false
set_option linter.unusedVariables false
set_option maxHeartbeats 0
set_option maxRecDepth 100000
namespace Go.Proofs.Tryz.Run
open Go Go.Vf Go.Proofs
open Go.Proofs.YtbglklaocjifhaaGreat
theorem i6e (v:VaR)(r:Bool)(hr:r=AO↔v=⟨0,1⟩):a0j AB AO 68 [v.av] (bool r):=by obtain⟨f,n⟩:=v;refine a1e (a0k AD okP i7s _ rfl fun E Sg hb hS=> ?_);have e:=b2k hS;cbv;refine a0s ?_;simp only[e.band,e.ieq];rw[AR,hr];simp
theorem h9i (v:VaR)(r:Bool)(hr:r=AO↔v=⟨0,1⟩):a0j AB AO 171 [v.av] (bool r):=by obtain⟨f,n⟩:=v;refine a1e (a0k AD okP e8x _ rfl fun E Sg hb hS=> ?_);have e:=b2k hS;cbv;refine a0s ?_;simp only[e.band,e.ieq];rw[AR,hr];simp
def plc (X:Nat->VaR):Nat->List Nat
 |0=>[]
 |i+1=>if X i=⟨0,1⟩ then plc X i++[i] else plc X i
theorem i0h (X:Nat->VaR): ∀(T p:Nat),p∈plc X T↔p<T/\X p=⟨0,1⟩
 |0,p=>by simp[plc]
 |i+1,p=>by
  rw[plc];have ih:=i0h X i p;by_cases h:X i=⟨0,1⟩
  ·rw[if_pos h,List.mem_append,ih];simp only[List.mem_singleton];constructor
   ·rintro (h'|rfl)
    ·exact⟨by omega,h'.2⟩
    ·exact⟨by omega,h⟩
   ·rintro⟨h1,h2⟩;by_cases e:p=i
    ·exact .inr e
    ·exact .inl ⟨by omega,h2⟩
  ·rw[if_neg h,ih];constructor
   ·exact fun h'=>⟨by omega,h'.2⟩
   ·rintro⟨h1,h2⟩;refine⟨?_,h2⟩;by_cases e:p=i
    ·subst e;exact absurd h2 h
    ·omega
theorem h8g (X:Nat->VaR): ∀T,(plc X T).length<=T
 |0=>by simp[plc]
 |i+1=>by
  rw[plc];have:=h8g X i;split
  ·simp;omega
  ·omega
theorem h9h (X:Nat->VaR): ∃(N:Nat->Nat) (G:Nat->Nat->Int),(∀i,(plc X i).length=N i)/\(∀i j,(((plc X i).getD j 0:Nat):Int)=G i j)/\N 0=0/\(∀i,N i<=i)/\
 ∀i,(X i=⟨0,1⟩->N (i+1)=N i+1/\(∀j,j<N i->G (i+1) j=G i j)/\G (i+1) (N i)=i)/\(X i≠⟨0,1⟩->N (i+1)=N i/\ ∀j,G (i+1) j=G i j):=by
 refine⟨fun i=>(plc X i).length,fun i j=>(((plc X i).getD j 0:Nat):Int),fun _=>rfl,fun _ _=>rfl,rfl,h8g X,fun i=>⟨fun h=> ?_,fun h=> ?_⟩⟩
 ·simp only[plc,if_pos h];refine⟨by simp,fun j hj=> ?_,?_⟩
  ·rw[AN,AN,List.getElem?_append_left hj]
  ·simp
 ·simp only[plc,if_neg h];exact⟨trivial,fun _=>trivial⟩
def plA (P:List Nat):AV:=isl P.length fun j=>((P.getD j 0:Nat):Int)
def knC (nl T:Nat)(X:Nat->Nat->VaR)(G:Nat->Bool):List AV:=[.d (.sl 1 nl fun i=>[.sl 2 T fun p=>(X i p).row]),.d (.sl 1 T fun p=>[.bool (G p)])]
theorem i3f (c:CaR)(T:Nat)(hT:T<=1000000)(hnl:c.nl<=6)(X:Nat->Nat->VaR)(Z:Nat->VaR)(Y:Nat->VaR)(h54: ∀i,i<c.nl->a0j AB AE 54 [(c.lk i).av] (vsl T (X i)))(h54i:a0j AB AE 54 [c.inn.av] (vsl T Z))(h54g:a0j AB AE 54 [c.goal.av] (vsl T Y))
 (G:Nat->Bool) (hG: ∀p,G p=AO↔Y p=⟨0,1⟩):a0j AB AE 29 [c.av] (.tuple [plA (plc Z T),.agg (knC c.nl T X G)]):=by
 obtain⟨N,W,hN,hW,hN0,hNi,hst⟩:=h9h Z;have hres:plA (plc Z T)=isl (N T) (W T):=by unfold plA;rw[hN];congr 1;exact funext fun j=>hW T j
 rw[hres];obtain⟨b,hb⟩: ∃b:Nat->Bool,∀p,b p=AO↔Z p=⟨0,1⟩:=by classical exact⟨fun p=>decide _,fun p=>decide_eq_true_iff⟩
 have q1:=fun p=>i6e (Z p) (b p) (hb p);have q2:=fun p=>i6e (Y p) (G p) (hG p);have hst1: ∀i,(b i=AO->N (i+1)=N i+1/\(∀j,j<N i->W (i+1) j=W i j)/\W (i+1) (N i)=i)/\(b i=AE->N (i+1)=N i/\ ∀j,W (i+1) j=W i j):=fun i=>⟨fun h=>(hst i).1 ((hb i).1 h),fun h=>(hst i).2 fun h'=>by rw[(hb i).2 h'] at h;cases h⟩;clear hres hst hN hW hb hG;obtain⟨ns,sz,no,od,nl,lk,⟨ins,isz,ino,iod,ine,ien,inn,ivar,ink,ikid,iroot⟩,⟨gns,gsz,gno,god,gne,gen,gnn,gvar,gnk,gkid,groot⟩⟩:=c;simp only[CaR.av,DiR.cs,AJ,AL,knC] at*
 obtain⟨A,hA⟩: ∃A:List AV,A=[isl ns sz,isl no od,dsl nl lk,isl ins isz,isl ino iod,vsl ine ien,bsl inn ivar ink ikid,int iroot,isl gns gsz,isl gno god,vsl gne gen,bsl gnn gvar gnk gkid,int groot]:=⟨_,rfl⟩;refine a0k AD okP i7o _ rfl fun E Sg hbs hS=> ?_;have e:=b2k hS;cbv;refine e4p AD okP hS (fun i=>i<=nl) (fun i=>nl-i)
  (fun i=>⟨b5r [(1,.ptr 0 0),(3,.ptr 1 0),(4,.ptr 2 0),(5,int i)] 61,[.var [isl ns sz,isl no od,dsl nl lk,isl ins isz,isl ino iod,vsl ine ien,bsl inn ivar ink ikid,int iroot,isl gns gsz,isl gno god,vsl gne gen,bsl gnn gvar gnk gkid,int groot],.var [.d .nil,.d .nil],.var [.msl 3 1 AM i AE,.d .nil],.arr 1 i fun j=>[.sl 2 T fun p=>(X j p).row]],[3]⟩) 0 (by omega) ?_ ?_
 ·exact (AS 2 0 1 (fun _=>[]) rfl rfl).trans (AK (a4c rfl ⟨AA _,AA _,AA _,a6c rfl,trivial⟩ (.cons (.refl _) (.cons (.refl _) (.cons (.refl _) (.cons (AG rfl fun j hj=>by omega) (.nil _))))) (by simp;omega) (.inr rfl) rfl))
 ·intro i hi N' hN';cbv;split
  ·rename_i h;have hlt:i<nl:=d3r hS h;cbv;simp only[nat,e.toNat,AC,AF];refine a1g hS (a5p hS hlt) ?_;refine a0v hS _ (h54 i hlt) ?_;cbv
   repeat (first|refine a1g hS (c3d hS) ?_|refine a1g hS trivial ?_|refine a1g hS (f1i hS (by omega)) ?_|refine a1g hS (e1n hS (by omega)) ?_)
   refine hN' (i+1) _ hlt (by omega) (AK (a4c rfl ⟨AA _,AA _,AA _,b2s hS,trivial⟩
    (.cons (.refl _) (.cons (.refl _) (.cons (.var (.cons (d8n hS) (.cons (AA _) .nil))) (.cons (d7h hS (fun j hj=> .refl _) (.refl _)) (.nil _))))) (by simp;omega) (.inr rfl) rfl))
  ·rename_i h;have hin:i=nl:=by have:=d3c hS h;omega
   subst hin;cbv;refine a0v hS _ h54i ?_;cbv
   repeat (first|refine a1g hS (c3d hS) ?_)
   refine a0v hS _ h54g ?_;cbv;refine e4p AD okP hS (fun p=>p<=T) (fun p=>T-p)
    (fun p=>⟨b5r [(1,.ptr 0 0),(3,.ptr 1 0),(4,.ptr 2 0),(6,vsl T Z),(7,vsl T Y),(8,.msl 5 1 AM (N p) AE),(9,int p)] 61,[.var [isl ns sz,isl no od,dsl i lk,isl ins isz,isl ino iod,vsl ine ien,bsl inn ivar ink ikid,int iroot,isl gns gsz,isl gno god,vsl gne gen,bsl gnn gvar gnk gkid,int groot],.var [.d .nil,.d .nil],.var [.msl 3 1 AM i AE,.msl 4 1 AM p AE],.arr 1 i fun j=>[.sl 2 T fun p=>(X j p).row],.arr 1 p fun q=>[.bool (G q)],arrI (N p) (W p)],[3,4,5]⟩) 0 (by omega) ?_ ?_
   ·refine (AS 2 1 1 (fun _=>[]) rfl rfl).trans ((b4w.gt 8 1 (fun _=>[]) rfl).trans (AK (a4c rfl ⟨AA _,AA _,AA _,AA _,AA _,?_,a6c rfl,trivial⟩ (.cons (.refl _) (.cons (.refl _) (.cons (.refl _) (.cons (.refl _) (.cons (AG rfl fun j hj=>by omega) (.cons (AG hN0.symm fun j hj=>by omega) (.nil _))))))) (by simp;omega) (.inr rfl) rfl)));rw[hN0];exact AA _
   ·intro p hp N' hN';cbv;split
    ·rename_i h;have hlt:p<T:=d3r hS h;obtain⟨h1,h2⟩:=hst1 p;have h3:=hNi p;cbv;simp only[nat,e.toNat,AC,AF];refine a1g hS (a5p hS hlt) ?_;refine a0v hS _ (q2 p) ?_;cbv;simp only[nat,e.toNat,AC,AF]
     repeat (first|refine a1g hS (c3d hS) ?_|refine a1g hS trivial ?_|refine a1g hS (f1i hS (by omega)) ?_|refine a1g hS (a5p hS hlt) ?_)
     refine a0v hS (bool (b p)) (q1 p) ?_;cases hb:b p
     ·obtain⟨h4,h5⟩:=h2 hb;cbv;refine a1g hS (e1n hS (by omega)) ?_;refine hN' (p+1) _ hlt (by omega) (AK (a4c rfl ⟨AA _,AA _,AA _,AA _,AA _,?_,b2s hS,trivial⟩
       (.cons (.refl _) (.cons (.refl _) (.cons (.var (.cons (AA _) (.cons (d8n hS) .nil))) (.cons (.refl _) (.cons (d7h hS (fun j hj=> .refl _) (.refl _)) (.cons (AG h4.symm fun j hj=>by rw[h5];exact .refl _) (.nil _))))))) (by simp;omega) (.inr rfl) rfl))
      rw[h4];exact AA _
     ·obtain⟨h4,h5,h6⟩:=h1 hb;cbv
      repeat (first|refine a1g hS trivial ?_|refine a1g hS (f1i hS (by omega)) ?_|refine a1g hS (e1n hS (by omega)) ?_)
      refine hN' (p+1) _ hlt (by omega) (AK (a4c rfl ⟨AA _,AA _,AA _,AA _,AA _,?_,b2s hS,trivial⟩
       (.cons (.refl _) (.cons (.refl _) (.cons (.var (.cons (AA _) (.cons (d8n hS) .nil))) (.cons (.refl _) (.cons (d7h hS (fun j hj=> .refl _) (.refl _)) (.cons ?_ (.nil _))))))) (by simp;omega) (.inr rfl) rfl))
      ·rw[h4];exact d8n hS
      ·rw[h4];exact d7h hS (fun j hj=>by rw[h5 j hj];exact .refl _) (by rw[h6];exact .one (.int rfl))
    ·rename_i h;have hin:p=T:=by have:=d3c hS h;omega
     subst hin;cbv;exact a1g hS (e8l hS (AI _)) (a1g hS (e8l hS (AI _)) (a1g hS (e8l hS (AI _)) (AA _)))
theorem i3r (c:CaR){er:Int}(h42:a0j AB AO 42 [c.av] (int er))(h0:er≠0):a0j AB AE 21 [c.av] (.tuple [.d .nil,.agg [.d .nil,.d .nil],int er]):=by
 obtain⟨ns,sz,no,od,nl,lk,⟨ins,isz,ino,iod,ine,ien,inn,ivar,ink,ikid,iroot⟩,⟨gns,gsz,gno,god,gne,gen,gnn,gvar,gnk,gkid,groot⟩⟩:=c;simp only[CaR.av,DiR.cs,AJ,AL] at*
 refine a0k AD okP i7c _ rfl fun E Sg hbs hS=> ?_;have e:=b2k hS;cbv;refine a0v hS _ h42 ?_;cbv;have hb0:(er==AH 0)=AE:=beq_false_of_ne h0;simp only[e.ieq,e.bnot,hb0];cbv;exact AA _
theorem i3p (c:CaR){n:Nat}{W:Nat->Int}{k1 k2:DV}(h42:a0j AB AO 42 [c.av] (int 0))(h29:a0j AB AE 29 [c.av] (.tuple [isl n W,.agg [.d k1,.d k2]])):
 (n=0->a0j AB AE 21 [c.av] (.tuple [.d .nil,.agg [.d k1,.d k2],int 12]))/\(0<n->a0j AB AE 21 [c.av] (.tuple [isl n W,.agg [.d k1,.d k2],int 0])):=by
 obtain⟨ns,sz,no,od,nl,lk,⟨ins,isz,ino,iod,ine,ien,inn,ivar,ink,ikid,iroot⟩,⟨gns,gsz,gno,god,gne,gen,gnn,gvar,gnk,gkid,groot⟩⟩:=c;simp only[CaR.av,DiR.cs,AJ,AL] at*
 constructor
 ·intro hn;refine a0k AD okP i7c _ rfl fun E Sg hbs hS=> ?_;have e:=b2k hS;cbv;refine a0v hS _ h42 ?_;cbv;simp only[e.ieq,e.bnot];cbv;refine a0v hS _ h29 ?_;cbv;simp only[e.ieq,e.ofNat,hn];cbv;exact a3x.tuple (.cons (AA _) (.cons (AA _) (.cons (a6c rfl) .nil)))
 ·intro hn;refine a0k AD okP i7c _ rfl fun E Sg hbs hS=> ?_;have e:=b2k hS;cbv;refine a0v hS _ h42 ?_;cbv;simp only[e.ieq,e.bnot];cbv;refine a0v hS _ h29 ?_;cbv;have hb0:((n:Int)==AH 0)=AE:=beq_false_of_ne (by simp only[AC];omega);simp only[e.ieq,e.ofNat,hb0];cbv;exact a3x.tuple (.cons (AA _) (.cons (AA _) (.cons (a6c rfl) .nil)))
def cel (nl:Nat)(X:Nat->Nat->VaR)(k q:Nat):VaR:=if k<nl then X k q else⟨0,0⟩
def h7v (F:Nat->VaR)(g:Bool):List DV:=
 [.int .u8 (.v (F 0).fault),.int .i64 (.v (F 0).n),.int .u8 (.v (F 1).fault),.int .i64 (.v (F 1).n),.int .u8 (.v (F 2).fault),.int .i64 (.v (F 2).n),.int .u8 (.v (F 3).fault),.int .i64 (.v (F 3).n),.bool g]
def i0q (ns:Nat)(sz:Nat->Int)(no:Nat)(od:Nat->Int)(nl n:Nat)(W:Nat->Int)(X:Nat->Nat->VaR)(G:Nat->Bool):List DV:=
 [.sl 1 ns fun i=>[.int .i64 (.v (sz i))],.sl 1 no fun i=>[.int .i64 (.v (od i))],.int .i64 (.v nl),.sl 1 n fun j=>[.int .i64 (.v (W j))],
   .sl 9 n fun j=>h7v (fun k=>cel nl X k (W j).toNat) (G (W j).toNat)]
theorem i2x (a b:DiR){ns no nl:Nat}{sz od:Nat->Int}{lk:Nat->DiR}{er:Int}(h98:a0j AB AO 98 [isl ns sz,isl no od,dsl nl lk,a.av,b.av] (int er))(h0:er≠0):
 a0j AB AE 131 [isl ns sz,isl no od,dsl nl lk,a.av,b.av] (.tuple [.d (.raw (.pointer AM)),int er]):=by
 obtain⟨ins,isz,ino,iod,ine,ien,inn,ivar,ink,ikid,iroot⟩:=a;obtain⟨gns,gsz,gno,god,gne,gen,gnn,gvar,gnk,gkid,groot⟩:=b;refine a0k AD okP e8k _ rfl fun E Sg hbs hS=> ?_;have e:=b2k hS;cbv;refine a0v hS _ h98 ?_;cbv;have hb0:(er==AH 0)=AE:=beq_false_of_ne h0;simp only[e.ieq,e.bnot,hb0];cbv;exact AA _
def i7g:a0c:=match g5m with| .seq _ (.seq _ (.seq _ (.seq _ (.seq _ r))))=>r|_=> .ret
theorem i4v (a b:DiR){ns no nl:Nat}{sz od:Nat->Int}{lk:Nat->DiR}{T:Nat}(hT:T<=1000000)(hnl:nl<=4)(h98:a0j AB AO 98 [isl ns sz,isl no od,dsl nl lk,a.av,b.av] (int 0))(X:Nat->Nat->VaR)(Z Y:Nat->VaR)
 (hl: ∀i,i<nl->a0j AB AE 170 [(lk i).av] (.tuple [vsl T (X i),int 0])) (hli:a0j AB AE 170 [a.av] (.tuple [vsl T Z,int 0])) (hlg:a0j AB AE 170 [b.av] (.tuple [vsl T Y,int 0]))
 (G:Nat->Bool) (hG: ∀p,G p=AO↔Y p=⟨0,1⟩):
 a0j AB AE 131 [isl ns sz,isl no od,dsl nl lk,a.av,b.av] (.tuple [.dptr (i0q ns sz no od nl (plc Z T).length (fun j=>(((plc Z T).getD j 0:Nat):Int)) X G) 0,int 0]):=by
 obtain⟨N,W,hN,hW,hN0,hNi,hst⟩:=h9h Z;have hres:(fun j=>(((plc Z T).getD j 0:Nat):Int))=W T:=funext fun j=>hW T j;rw[hres,hN];obtain⟨bb,hb⟩: ∃b:Nat->Bool,∀p,b p=AO↔Z p=⟨0,1⟩:=by classical exact⟨fun p=>decide _,fun p=>decide_eq_true_iff⟩
 have q1:=fun p=>h9i (Z p) (bb p) (hb p);have q2:=fun p=>h9i (Y p) (G p) (hG p);have hst1: ∀i,(bb i=AO->N (i+1)=N i+1/\(∀j,j<N i->W (i+1) j=W i j)/\W (i+1) (N i)=i)/\(bb i=AE->N (i+1)=N i/\ ∀j,W (i+1) j=W i j):=fun i=>⟨fun h=>(hst i).1 ((hb i).1 h),fun h=>(hst i).2 fun h'=>by rw[(hb i).2 h'] at h;cases h⟩;clear hres hst hN hW hb hG;obtain⟨ins,isz,ino,iod,ine,ien,inn,ivar,ink,ikid,iroot⟩:=a;obtain⟨gns,gsz,gno,god,gne,gen,gnn,gvar,gnk,gkid,groot⟩:=b;refine a0k AD okP e8k _ rfl fun E Sg hbs hS=> ?_;have e:=b2k hS;have en: ∀k:Nat,nat Sg (IX.v (AH k))=k:=fun k=>by show Sg.toNat (AH k)=k;rw[e.toNat];rfl
 obtain⟨D,hD0,hD1⟩: ∃D:Nat->Nat->DV,(∀i j,i<=j->D i j= .nil)/\ ∀i j,j<i->D i j= .sl 2 T fun p=>(X j p).row:=⟨fun i j=>if j<i then .sl 2 T fun p=>(X j p).row else .nil,fun i j h=>if_neg (by omega),fun i j h=>if_pos h⟩;obtain⟨R,hR⟩: ∃R,R=i7g:=⟨_,rfl⟩;change ev Sg (.seq _ (.seq _ (.seq _ (.seq _ (.seq _ i7g))))) _ _;rw[<-hR];cbv;refine a0v hS _ h98 ?_;cbv;simp only[e.ieq,e.bnot];cbv;refine a1g hS (i4c hS) (a1g hS (i4a hS (by omega)) ?_);simp only[e.ofNat,e.toNat,AF];refine a7r AD okP hS (fun i=>i<=nl) (fun i=>nl-i)
  (fun i=>⟨b5r [(8,.ptr 0 0),(9,.ptr 1 0),(13,.ptr 2 0),(14,.msl 3 1 AM nl AE),(45,dsl nl lk),(46,int nl),(47,int i)] 124,[.var [isl ins isz,isl ino iod,vsl ine ien,bsl inn ivar ink ikid,int iroot],.var [isl gns gsz,isl gno god,vsl gne gen,bsl gnn gvar gnk gkid,int groot],.var [isl ns sz,isl no od,int nl,.d .nil,.d .nil],
    .arr 1 nl fun j=>[D i j]],[]⟩) 0 (by omega) ?_ ?_
 ·refine a4c rfl ⟨AA _,AA _,AA _,AA _,AA _,AA _,a6c rfl,trivial⟩ (.cons (.refl _) (.cons (.refl _) (.cons (.refl _) (.cons (h8m hS fun j hj=> ?_) (.nil _))))) (by simp;omega) (.inr rfl) rfl;rw[hD0 0 j (by omega)];exact .refl _
 ·intro i hi N' hN';cbv;split
  ·rename_i h;have hlt:i<nl:=AP.1 (b3h hS h);cbv;rw[en i];refine a1g hS (a5p hS hlt) ?_;refine a0v hS _ (hl i hlt) ?_;cbv;simp only[e.toNat,AC,AF];refine a1g hS (a5p hS hlt) (a1g hS (i2h hS hlt) (a1g hS (e1n hS (by omega)) ?_));refine hN' (i+1) _ hlt (by omega) (a4c rfl ⟨AA _,AA _,AA _,AA _,AA _,AA _,b2s hS,trivial⟩ (.cons (.refl _) (.cons (.refl _) (.cons (.refl _) (.cons (h8j hS (fun j hj hne=> ?_) fun _=> ?_) (.nil _))))) (by simp;omega) (.inl ⟨rfl,rfl⟩) rfl)
   ·by_cases h:j<i
    ·rw[hD1 i j h,hD1 (i+1) j (by omega)];exact .refl _
    ·rw[hD0 i j (by omega),hD0 (i+1) j (by omega)];exact .refl _
   ·rw[hD1 (i+1) i (by omega)];exact .refl _
  ·rename_i h;have hin:i=nl:=by have:=AQ.1 (b3r hS h);omega
   subst hin;cbv;subst hR;cbv;refine a0v hS _ hlg ?_;cbv;refine a0v hS _ hli ?_;cbv;clear h98 hl hlg hli hN' hi h;refine e4p AD okP hS (fun p=>p<=T) (fun p=>T-p)
    (fun p=>⟨b5r [(13,.ptr 2 0),(14,.msl 3 1 AM i AE),(17,vsl T Y),(71,vsl T Z),(72,int T),(73,int p)] 124,[.var [isl ins isz,isl ino iod,vsl ine ien,bsl inn ivar ink ikid,int iroot],.var [isl gns gsz,isl gno god,vsl gne gen,bsl gnn gvar gnk gkid,int groot],.var [isl ns sz,isl no od,int i,.msl 4 1 AM (N p) AE,.msl 5 9 AM (N p) AE],
      .arr 1 i fun j=>[.sl 2 T fun p=>(X j p).row],arrI (N p) (W p),.arr 9 (N p) fun j=>h7v (fun k=>cel i X k (W p j).toNat) (G (W p j).toNat)],[4,5]⟩) 0 (by omega) ?_ ?_
   ·refine (AS 2 3 1 (fun _=>[]) rfl rfl).trans ((AS 2 4 9 (fun _=>[]) rfl rfl).trans (AK (a4c rfl ⟨AA _,AA _,AA _,AA _,?_,a6c rfl,trivial⟩ (.cons (.refl _) (.cons (.refl _) (.cons ?_ (.cons (AG rfl fun j hj=> ?_) (.cons (AG hN0.symm fun j hj=>by omega) (.cons (AG hN0.symm fun j hj=>by omega) (.nil _))))))) (by simp;omega) (.inr rfl) rfl)))
    ·exact b0a (by simp only[e.ofNat])
    ·refine .var (.cons (AA _) (.cons (AA _) (.cons (AA _) (.cons ?_ (.cons ?_ .nil)))))<;>(rw[hN0];exact AA _)
    ·rw[hD1 i j hj];exact .refl _
   ·intro p hp N' hN';cbv;split
    ·rename_i h;have hlt:p<T:=AP.1 (b3h hS h);obtain⟨h1,h2⟩:=hst1 p;have h3:=hNi p;cbv;simp only[en];refine a1g hS (a5p hS hlt) ?_;refine a0v hS (bool (bb p)) (q1 p) ?_;cases hb:bb p
     ·obtain⟨h4,h5⟩:=h2 hb;cbv;refine a1g hS (e1n hS (by omega)) ?_;refine hN' (p+1) _ hlt (by omega) (AK (a4c rfl ⟨AA _,AA _,AA _,AA _,AA _,b2s hS,trivial⟩
       (.cons (.refl _) (.cons (.refl _) (.cons ?_ (.cons (.refl _) (.cons (AG h4.symm fun j hj=>by rw[h5];exact .refl _) (.cons (AG h4.symm fun j hj=>by rw[h5];exact .refl _) (.nil _))))))) (by simp;omega) (.inl ⟨rfl,rfl⟩) rfl))
      rw[h4];exact .refl _
     ·obtain⟨h4,h5,h6⟩:=h1 hb;cbv;simp only[en];refine a1g hS (a5p hS hlt) ?_;refine a0v hS (bool (G p)) (q2 p) ?_;cbv;obtain⟨F,hF,hFe⟩: ∃F:Nat->Nat->VaR,(∀i k,F i k=if k<i then X k p else⟨0,0⟩)/\ ∀k,F i k=cel i X k p:=⟨fun i k=>if k<i then X k p else⟨0,0⟩,fun _ _=>rfl,fun _=>rfl⟩;obtain⟨F0,hF0⟩: ∃F0:Nat->Nat->Int,∀i k,(F i k).fault=F0 i k:=⟨_,fun _ _=>rfl⟩;obtain⟨F1,hF1⟩: ∃F1:Nat->Nat->Int,∀i k,(F i k).n=F1 i k:=⟨_,fun _ _=>rfl⟩;have z0: ∀k,F0 0 k=0/\F1 0 k=0:=fun k=>by rw[<-hF0,<-hF1,hF,if_neg (Nat.not_lt_zero k)];exact⟨rfl,rfl⟩
      have z1: ∀m k,k≠m->F0 (m+1) k=F0 m k/\F1 (m+1) k=F1 m k:=fun m k h=>by
       rw[<-hF0,<-hF1,<-hF0,<-hF1,hF,hF];by_cases h':k<m
       ·rw[if_pos h',if_pos (by omega)];exact⟨rfl,rfl⟩
       ·rw[if_neg h',if_neg (by omega)];exact⟨rfl,rfl⟩
      have z2: ∀m,F0 (m+1) m=(X m p).fault/\F1 (m+1) m=(X m p).n:=fun m=>by rw[<-hF0,<-hF1,hF,if_pos (by omega)];exact⟨rfl,rfl⟩
      refine a7r AD okP hS (fun m=>m<=i) (fun m=>i-m)
       (fun m=>⟨b5r [(13,.ptr 2 0),(14,.msl 3 1 AM i AE),(17,vsl T Y),(21,int p),(23,.ptr 7 0),(71,vsl T Z),(72,int T),(73,int p),(87,.msl 3 1 AM i AE),(88,int i),(89,int m)] 124,[.var [isl ins isz,isl ino iod,vsl ine ien,bsl inn ivar ink ikid,int iroot],.var [isl gns gsz,isl gno god,vsl gne gen,bsl gnn gvar gnk gkid,int groot],.var [isl ns sz,isl no od,int i,.msl 4 1 AM (N p) AE,.msl 5 9 AM (N p) AE],
         .arr 1 i fun j=>[.sl 2 T fun p=>(X j p).row],arrI (N p) (W p),.arr 9 (N p) fun j=>h7v (fun k=>cel i X k (W p j).toNat) (G (W p j).toNat),.var [.any,.any],.var [u8 (F0 m 0),int (F1 m 0),u8 (F0 m 1),int (F1 m 1),u8 (F0 m 2),int (F1 m 2),u8 (F0 m 3),int (F1 m 3),bool (G p)]],[4,5]⟩) 0 (by omega) ?_ ?_
      ·refine a4c rfl ⟨AA _,AA _,AA _,AA _,AA _,AA _,AA _,AA _,AA _,?_,a6c rfl,trivial⟩ (.cons (.refl _) (.cons (.refl _) (.cons (.refl _) (.cons (.refl _) (.cons (.refl _) (.cons (.refl _) (.cons (.var (.cons (AT _) (.cons (AT _) .nil))) (.cons (.var ?_) (.nil _))))))))) (by simp;omega) (.inr rfl) rfl
       ·exact b0a (by simp only[e.ofNat])
       ·simp only[z0];exact .cons (a6c rfl) (.cons (a6c rfl) (.cons (a6c rfl) (.cons (a6c rfl) (.cons (a6c rfl) (.cons (a6c rfl) (.cons (a6c rfl) (.cons (a6c rfl) (.cons (AA _) .nil))))))))
      ·intro m hm N2 hN2;cbv;split
       ·rename_i h;have hlt2:m<i:=AP.1 (b3h hS h);have hm4:m=0\/m=1\/m=2\/m=3:=by omega
        cbv;simp only[en]
        repeat (first|refine a1g hS (a5p hS hlt2) ?_|refine a1g hS (i2h hS hlt2) ?_|refine a1g hS (a5p hS hlt) ?_|refine a1g hS (i2b hS (by simp only[AC];omega)) ?_)
        simp only[e.nadd,e.nmul,en,e.toNat,AC,AF];have c1:=fun k=>z1 m k;obtain⟨d0,d1⟩:=z2 m;rcases hm4 with rfl|rfl|rfl|rfl
        all_goals
         cbv
         repeat (first|refine a1g hS (i2h hS hlt2) ?_|refine a1g hS (a5p hS hlt) ?_|refine a1g hS (i2b hS (by decide)) ?_|refine a1g hS (a4p hS (by decide)) ?_)
         refine hN2 _ _ hlt2 (by omega) (a4c rfl ⟨AA _,AA _,AA _,AA _,AA _,AA _,AA _,AA _,AA _,AA _,b2s hS,trivial⟩ (.cons (.refl _) (.cons (.refl _) (.cons (.refl _) (.cons (.refl _) (.cons (.refl _) (.cons (.refl _) (.cons (.refl _) (.cons (.var ?_) (.nil _))))))))) (by simp;omega) (.inr rfl) rfl)
        ·exact (.cons (b0a d0.symm) (.cons (b0a d1.symm) (.cons (b0a (c1 1 (by decide)).1.symm) (.cons (b0a (c1 1 (by decide)).2.symm) (.cons (b0a (c1 2 (by decide)).1.symm) (.cons (b0a (c1 2 (by decide)).2.symm) (.cons (b0a (c1 3 (by decide)).1.symm) (.cons (b0a (c1 3 (by decide)).2.symm) (.cons (AA _) .nil)))))))))
        ·exact (.cons (b0a (c1 0 (by decide)).1.symm) (.cons (b0a (c1 0 (by decide)).2.symm) (.cons (b0a d0.symm) (.cons (b0a d1.symm) (.cons (b0a (c1 2 (by decide)).1.symm) (.cons (b0a (c1 2 (by decide)).2.symm) (.cons (b0a (c1 3 (by decide)).1.symm) (.cons (b0a (c1 3 (by decide)).2.symm) (.cons (AA _) .nil)))))))))
        ·exact (.cons (b0a (c1 0 (by decide)).1.symm) (.cons (b0a (c1 0 (by decide)).2.symm) (.cons (b0a (c1 1 (by decide)).1.symm) (.cons (b0a (c1 1 (by decide)).2.symm) (.cons (b0a d0.symm) (.cons (b0a d1.symm) (.cons (b0a (c1 3 (by decide)).1.symm) (.cons (b0a (c1 3 (by decide)).2.symm) (.cons (AA _) .nil)))))))))
        ·exact (.cons (b0a (c1 0 (by decide)).1.symm) (.cons (b0a (c1 0 (by decide)).2.symm) (.cons (b0a (c1 1 (by decide)).1.symm) (.cons (b0a (c1 1 (by decide)).2.symm) (.cons (b0a (c1 2 (by decide)).1.symm) (.cons (b0a (c1 2 (by decide)).2.symm) (.cons (b0a d0.symm) (.cons (b0a d1.symm) (.cons (AA _) .nil)))))))))
       ·rename_i h;have hin:m=i:=by have:=AQ.1 (b3r hS h);omega
        subst hin;cbv
        repeat (first|refine a1g hS (c3d hS) ?_|refine a1g hS trivial ?_|refine a1g hS (f1i hS (by omega)) ?_|refine a1g hS (e1n hS (by omega)) ?_)
        refine hN' (p+1) _ hlt (by omega) (AK (a4c rfl ⟨AA _,AA _,AA _,AA _,AA _,b2s hS,trivial⟩
         (.cons (.refl _) (.cons (.refl _) (.cons (.var (.cons (AA _) (.cons (AA _) (.cons (AA _) (.cons ?_ (.cons ?_ .nil)))))) (.cons (.refl _) (.cons ?_ (.cons ?_ (.nil _))))))) (by simp;omega) (.inl ⟨rfl,rfl⟩) rfl))
        ·rw[h4];exact d8n hS
        ·rw[h4];exact d8n hS
        ·rw[h4];exact d7h hS (fun j hj=>by rw[h5 j hj];exact .refl _) (by rw[h6];exact .one (.int rfl))
        ·rw[h4];refine d7h hS (fun j hj=>by rw[h5 j hj];exact .refl _) ?_;rw[h6,AF];simp only[<-hFe];unfold h7v;simp only[hF0,hF1];exact .refl _
    ·rename_i h;have hin:p=T:=by have:=AQ.1 (b3r hS h);omega
     subst hin;cbv;exact a1g hS (e8l hS (AI _)) (a1g hS (e8l hS (AI _)) (a3x.tuple (.cons (AA _) (.cons (a6c rfl) .nil))))
theorem i2r (a b:DiR){ns no nl:Nat}{sz od:Nat->Int}{lk:Nat->DiR}{er:Int}(h131:a0j AB AE 131 [isl ns sz,isl no od,dsl nl lk,a.av,b.av] (.tuple [.d (.raw (.pointer AM)),int er]))(h0:er≠0):
 a0j AB AE 108 [isl ns sz,isl no od,dsl nl lk,a.av,b.av] (.tuple [.d (.raw (.pointer AM)),int er]):=by
 obtain⟨ins,isz,ino,iod,ine,ien,inn,ivar,ink,ikid,iroot⟩:=a;obtain⟨gns,gsz,gno,god,gne,gen,gnn,gvar,gnk,gkid,groot⟩:=b;refine a0k AD okP f0g _ rfl fun E Sg hbs hS=> ?_;have e:=b2k hS;cbv;refine a0v hS _ h131 ?_;cbv;have hb0:(er==AH 0)=AE:=beq_false_of_ne h0;simp only[e.ieq,e.bnot,hb0];cbv;exact AA _
theorem i3a (a b:DiR){ns no nl n:Nat}{sz od:Nat->Int}{lk:Nat->DiR}{x0 x1 x2 x3:DV}{e4:Nat->List DV}(h131:a0j AB AE 131 [isl ns sz,isl no od,dsl nl lk,a.av,b.av] (.tuple [.dptr [x0,x1,x2,x3,.sl 9 n e4] 0,int 0])):
 (n=0->a0j AB AE 108 [isl ns sz,isl no od,dsl nl lk,a.av,b.av] (.tuple [.d (.raw (.pointer AM)),int 12]))/\(0<n->a0j AB AE 108 [isl ns sz,isl no od,dsl nl lk,a.av,b.av] (.tuple [.dptr [x0,x1,x2,x3,.sl 9 n e4] 0,int 0])):=by
 obtain⟨ins,isz,ino,iod,ine,ien,inn,ivar,ink,ikid,iroot⟩:=a;obtain⟨gns,gsz,gno,god,gne,gen,gnn,gvar,gnk,gkid,groot⟩:=b;constructor
 ·intro hn;refine a0k AD okP f0g _ rfl fun E Sg hbs hS=> ?_;have e:=b2k hS;cbv;refine a0v hS _ h131 ?_;cbv;simp only[e.ieq];cbv;simp only[e.ieq,e.ofNat,hn];cbv;exact a3x.tuple (.cons (AA _) (.cons (a6c rfl) .nil))
 ·intro hn;refine a0k AD okP f0g _ rfl fun E Sg hbs hS=> ?_;have e:=b2k hS;cbv;refine a0v hS _ h131 ?_;cbv;simp only[e.ieq];cbv;have hb0:((n:Int)==AH 0)=AE:=beq_false_of_ne (by simp only[AC];omega);simp only[e.ieq,e.ofNat,hb0];cbv;exact AA _
end Go.Proofs.Tryz.Run
