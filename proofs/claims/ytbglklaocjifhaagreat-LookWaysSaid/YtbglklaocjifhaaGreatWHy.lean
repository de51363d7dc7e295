/- The places of a case, by the reference. What is asked of a case, by the reference and by the program: its places and what is known of them. The program's open of a case; where a spot stands; the place with a number. Two places that no look tells apart: the program's Apart and the reference's. The reference's Apart. Conditions: none. -/
import Derived.Test.YtbglklaocjifhaaGreatWLr
import Derived.Test.YtbglklaocjifhaaGreatWNb
import Derived.Test.YtbglklaocjifhaaGreatWNe
import Derived.Test.YtbglklaocjifhaaGreatWOb
import Derived.Test.YtbglklaocjifhaaGreatWPm0
import Derived.Test.YtbglklaocjifhaaGreatWQd
import Derived.Test.YtbglklaocjifhaaGreatWQf
import Derived.Test.YtbglklaocjifhaaGreatWQi
import Derived.Test.YtbglklaocjifhaaGreatWSd
import Derived.Test.YtbglklaocjifhaaGreatWHe
import Derived.Test.YtbglklaocjifhaaGreatWHr
set_option linter.unusedSimpArgs false
set_option linter.unusedVariables false
set_option maxHeartbeats 0
set_option maxRecDepth 100000
namespace Go.Proofs.Tryz.Run
open Go Go.Vf Go.Proofs
open Go.Proofs.YtbglklaocjifhaaGreat
theorem i6e (v:VaR)(r:Bool)(hr:r=true↔v=⟨0,1⟩):a0j Tryz.prog true 68 [v.av] (bool r):=by
 obtain⟨f,n⟩:=v
 refine a1e (a0k Tryz.mixed okP i7s _ rfl fun E Sg hb hS=> ?_)
 have e:=b2k hS
 cbv
 refine a0s ?_
 simp only[e.band,e.ieq]
 rw[Bool.eq_iff_iff,hr]
 simp
def plc (X:Nat->VaR):Nat->List Nat
 |0=>[]
 |i+1=>if X i=⟨0,1⟩ then plc X i++[i] else plc X i
theorem h8g (X:Nat->VaR): ∀T,(plc X T).length<=T
 |0=>by simp[plc]
 |i+1=>by
  rw[plc]
  have:=h8g X i
  split
  ·simp;omega
  ·omega
theorem h9h (X:Nat->VaR): ∃(N:Nat->Nat) (G:Nat->Nat->Int),(∀i,(plc X i).length=N i)/\(∀i j,(((plc X i).getD j 0:Nat):Int)=G i j)/\N 0=0/\(∀i,N i<=i)/\
 ∀i,(X i=⟨0,1⟩->N (i+1)=N i+1/\(∀j,j<N i->G (i+1) j=G i j)/\G (i+1) (N i)=i)/\(X i≠⟨0,1⟩->N (i+1)=N i/\ ∀j,G (i+1) j=G i j):=by
 refine⟨fun i=>(plc X i).length,fun i j=>(((plc X i).getD j 0:Nat):Int),fun _=>rfl,fun _ _=>rfl,rfl,h8g X,fun i=>⟨fun h=> ?_,fun h=> ?_⟩⟩
 ·simp only[plc,if_pos h]
  refine⟨by simp,fun j hj=> ?_,?_⟩
  ·rw[List.getD_eq_getElem?_getD,List.getD_eq_getElem?_getD,List.getElem?_append_left hj]
  ·simp
 ·simp only[plc,if_neg h]
  exact⟨trivial,fun _=>trivial⟩
def plA (P:List Nat):AV:=isl P.length fun j=>((P.getD j 0:Nat):Int)
def knC (nl T:Nat)(X:Nat->Nat->VaR)(G:Nat->Bool):List AV:=[.d (.sl 1 nl fun i=>[.sl 2 T fun p=>(X i p).row]),.d (.sl 1 T fun p=>[.bool (G p)])]
theorem i3f (c:CaR)(T:Nat)(hT:T<=1000000)(hnl:c.nl<=6)(X:Nat->Nat->VaR)(Z:Nat->VaR)(Y:Nat->VaR)(h54: ∀i,i<c.nl->a0j Tryz.prog false 54 [(c.lk i).av] (vsl T (X i)))(h54i:a0j Tryz.prog false 54 [c.inn.av] (vsl T Z))(h54g:a0j Tryz.prog false 54 [c.goal.av] (vsl T Y))
 (G:Nat->Bool) (hG: ∀p,G p=true↔Y p=⟨0,1⟩):a0j Tryz.prog false 29 [c.av] (.tuple [plA (plc Z T),.agg (knC c.nl T X G)]):=by
 obtain⟨N,W,hN,hW,hN0,hNi,hst⟩:=h9h Z
 have hres:plA (plc Z T)=isl (N T) (W T):=by unfold plA;rw[hN];congr 1;exact funext fun j=>hW T j
 rw[hres]
 obtain⟨b,hb⟩: ∃b:Nat->Bool,∀p,b p=true↔Z p=⟨0,1⟩:=by classical exact⟨fun p=>decide _,fun p=>decide_eq_true_iff⟩
 have q1:=fun p=>i6e (Z p) (b p) (hb p)
 have q2:=fun p=>i6e (Y p) (G p) (hG p)
 have hst1: ∀i,(b i=true->N (i+1)=N i+1/\(∀j,j<N i->W (i+1) j=W i j)/\W (i+1) (N i)=i)/\(b i=false->N (i+1)=N i/\ ∀j,W (i+1) j=W i j):=fun i=>⟨fun h=>(hst i).1 ((hb i).1 h),fun h=>(hst i).2 fun h'=>by rw[(hb i).2 h'] at h;cases h⟩
 clear hres hst hN hW hb hG
 obtain⟨ns,sz,no,od,nl,lk,⟨ins,isz,ino,iod,ine,ien,inn,ivar,ink,ikid,iroot⟩,⟨gns,gsz,gno,god,gne,gen,gnn,gvar,gnk,gkid,groot⟩⟩:=c
 simp only[CaR.av,DiR.cs,List.cons_append,List.nil_append,knC] at*
 obtain⟨A,hA⟩: ∃A:List AV,A=[isl ns sz,isl no od,dsl nl lk,isl ins isz,isl ino iod,vsl ine ien,bsl inn ivar ink ikid,int iroot,isl gns gsz,isl gno god,vsl gne gen,bsl gnn gvar gnk gkid,int groot]:=⟨_,rfl⟩
 refine a0k Tryz.mixed okP i7o _ rfl fun E Sg hbs hS=> ?_
 have e:=b2k hS
 cbv
 refine e4p Tryz.mixed okP hS (fun i=>i<=nl) (fun i=>nl-i)
  (fun i=>⟨b5r [(1,.ptr 0 0),(3,.ptr 1 0),(4,.ptr 2 0),(5,int i)] 61,[.var [isl ns sz,isl no od,dsl nl lk,isl ins isz,isl ino iod,vsl ine ien,bsl inn ivar ink ikid,int iroot,isl gns gsz,isl gno god,vsl gne gen,bsl gnn gvar gnk gkid,int groot],.var [.d .nil,.d .nil],.var [.msl 3 1 none i false,.d .nil],.arr 1 i fun j=>[.sl 2 T fun p=>(X j p).row]],[3]⟩) 0 (by omega) ?_ ?_
 ·exact (b4w.gh 2 0 1 (fun _=>[]) rfl rfl).trans (b4w.le (a4c rfl ⟨a0x.refl _,a0x.refl _,a0x.refl _,a6c rfl,trivial⟩ (.cons (.refl _) (.cons (.refl _) (.cons (.refl _) (.cons (a9v.arrr rfl fun j hj=>by omega) (.nil _))))) (by simp;omega) (.inr rfl) rfl))
 ·intro i hi N' hN'
  cbv
  split
  ·rename_i h
   have hlt:i<nl:=d3r hS h
   cbv
   simp only[nat,e.toNat,Int.ofNat_eq_natCast,Int.toNat_natCast]
   refine a1g hS (a5p hS hlt) ?_
   refine a0v hS _ (h54 i hlt) ?_
   cbv
   repeat (first|refine a1g hS (c3d hS) ?_|refine a1g hS trivial ?_|refine a1g hS (f1i hS (by omega)) ?_|refine a1g hS (e1n hS (by omega)) ?_)
   refine hN' (i+1) _ hlt (by omega) (b4w.le (a4c rfl ⟨a0x.refl _,a0x.refl _,a0x.refl _,b2s hS,trivial⟩
    (.cons (.refl _) (.cons (.refl _) (.cons (.var (.cons (d8n hS) (.cons (a0x.refl _) .nil))) (.cons (d7h hS (fun j hj=> .refl _) (.refl _)) (.nil _))))) (by simp;omega) (.inr rfl) rfl))
  ·rename_i h
   have hin:i=nl:=by have:=d3c hS h;omega
   subst hin
   cbv
   refine a0v hS _ h54i ?_
   cbv
   repeat (first|refine a1g hS (c3d hS) ?_)
   refine a0v hS _ h54g ?_
   cbv
   refine e4p Tryz.mixed okP hS (fun p=>p<=T) (fun p=>T-p)
    (fun p=>⟨b5r [(1,.ptr 0 0),(3,.ptr 1 0),(4,.ptr 2 0),(6,vsl T Z),(7,vsl T Y),(8,.msl 5 1 none (N p) false),(9,int p)] 61,[.var [isl ns sz,isl no od,dsl i lk,isl ins isz,isl ino iod,vsl ine ien,bsl inn ivar ink ikid,int iroot,isl gns gsz,isl gno god,vsl gne gen,bsl gnn gvar gnk gkid,int groot],.var [.d .nil,.d .nil],.var [.msl 3 1 none i false,.msl 4 1 none p false],.arr 1 i fun j=>[.sl 2 T fun p=>(X j p).row],.arr 1 p fun q=>[.bool (G q)],arrI (N p) (W p)],[3,4,5]⟩) 0 (by omega) ?_ ?_
   ·refine (b4w.gh 2 1 1 (fun _=>[]) rfl rfl).trans ((b4w.gt 8 1 (fun _=>[]) rfl).trans (b4w.le (a4c rfl ⟨a0x.refl _,a0x.refl _,a0x.refl _,a0x.refl _,a0x.refl _,?_,a6c rfl,trivial⟩ (.cons (.refl _) (.cons (.refl _) (.cons (.refl _) (.cons (.refl _) (.cons (a9v.arrr rfl fun j hj=>by omega) (.cons (a9v.arrr hN0.symm fun j hj=>by omega) (.nil _))))))) (by simp;omega) (.inr rfl) rfl)))
    rw[hN0];exact a0x.refl _
   ·intro p hp N' hN'
    cbv
    split
    ·rename_i h
     have hlt:p<T:=d3r hS h
     obtain⟨h1,h2⟩:=hst1 p
     have h3:=hNi p
     cbv
     simp only[nat,e.toNat,Int.ofNat_eq_natCast,Int.toNat_natCast]
     refine a1g hS (a5p hS hlt) ?_
     refine a0v hS _ (q2 p) ?_
     cbv
     simp only[nat,e.toNat,Int.ofNat_eq_natCast,Int.toNat_natCast]
     repeat (first|refine a1g hS (c3d hS) ?_|refine a1g hS trivial ?_|refine a1g hS (f1i hS (by omega)) ?_|refine a1g hS (a5p hS hlt) ?_)
     refine a0v hS (bool (b p)) (q1 p) ?_
     cases hb:b p
     ·obtain⟨h4,h5⟩:=h2 hb
      cbv
      refine a1g hS (e1n hS (by omega)) ?_
      refine hN' (p+1) _ hlt (by omega) (b4w.le (a4c rfl ⟨a0x.refl _,a0x.refl _,a0x.refl _,a0x.refl _,a0x.refl _,?_,b2s hS,trivial⟩
       (.cons (.refl _) (.cons (.refl _) (.cons (.var (.cons (a0x.refl _) (.cons (d8n hS) .nil))) (.cons (.refl _) (.cons (d7h hS (fun j hj=> .refl _) (.refl _)) (.cons (a9v.arrr h4.symm fun j hj=>by rw[h5];exact .refl _) (.nil _))))))) (by simp;omega) (.inr rfl) rfl))
      rw[h4];exact a0x.refl _
     ·obtain⟨h4,h5,h6⟩:=h1 hb
      cbv
      repeat (first|refine a1g hS trivial ?_|refine a1g hS (f1i hS (by omega)) ?_|refine a1g hS (e1n hS (by omega)) ?_)
      refine hN' (p+1) _ hlt (by omega) (b4w.le (a4c rfl ⟨a0x.refl _,a0x.refl _,a0x.refl _,a0x.refl _,a0x.refl _,?_,b2s hS,trivial⟩
       (.cons (.refl _) (.cons (.refl _) (.cons (.var (.cons (a0x.refl _) (.cons (d8n hS) .nil))) (.cons (.refl _) (.cons (d7h hS (fun j hj=> .refl _) (.refl _)) (.cons ?_ (.nil _))))))) (by simp;omega) (.inr rfl) rfl))
      ·rw[h4];exact d8n hS
      ·rw[h4];exact d7h hS (fun j hj=>by rw[h5 j hj];exact .refl _) (by rw[h6];exact .one (.int rfl))
    ·rename_i h
     have hin:p=T:=by have:=d3c hS h;omega
     subst hin
     cbv
     exact a1g hS (e8l hS (Nat.le_refl _)) (a1g hS (e8l hS (Nat.le_refl _)) (a1g hS (e8l hS (Nat.le_refl _)) (a0x.refl _)))
end Go.Proofs.Tryz.Run
