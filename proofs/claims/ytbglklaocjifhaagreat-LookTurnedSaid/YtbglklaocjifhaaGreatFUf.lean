/- LookTurned answers true. Conditions: none. -/
import Derived.Test.YtbglklaocjifhaaGreatFYt
open Go.Vf.a0x renaming refl->AA
open Go.Proofs.Tryz renaming prog->AB
open Int renaming ofNat->AC,ofNat_eq_natCast->AG
open Nat renaming zero_le->AD
open Bool renaming false->AE,true->AF
open List renaming cons_append->AH,nil_append->AI
set_option linter.unusedSimpArgs false
set_option linter.unusedVariables false
set_option maxHeartbeats 0
set_option maxRecDepth 100000
namespace Go.Proofs.Tryz.Run
open Go Go.Vf Go.Proofs
open Go.Proofs.YtbglklaocjifhaaGreat
theorem l4b (c:CaR)(u:Int)(h48:a0j AB AF 48 [c.av] (bool AE)):a0j AB AF 13 [c.av,u8 u] (bool AF):=by
 have haw:=c4a;obtain⟨ns,sz,no,od,nl,lk,⟨ins,isz,ino,iod,ine,ien,inn,ivar,ink,ikid,iroot⟩,⟨gns,gsz,gno,god,gne,gen,gnn,gvar,gnk,gkid,groot⟩⟩:=c;simp only[CaR.av,DiR.cs,AH,AI] at*
 refine a1e (a0k Tryz.mixed okP l4z _ rfl fun E Sg hbs hS=> ?_);cbv;refine a0v hS _ h48 ?_;cbv;refine a0v hS _ haw ?_;cbv;exact AA _
theorem l4d (c:CaR)(u:Int)(hu:0<=u/\u<=255)(hno:c.no<=8)(hnl:c.nl<=6){T k:Nat}(hk:k=u.toNat){X:Nat->Nat->VaR}{XI XG:Nat->VaR}{D:Nat->DiR}{DI DG W Z:DiR}{r:PlR}{d:Nat}{ec:Int}{zt:Bool}(h48:a0j AB AF 48 [c.av] (bool AF))
 (h54: ∀i,i<c.nl->a0j AB AE 54 [(c.lk i).av] (vsl T (X i))) (h54i:a0j AB AE 54 [c.inn.av] (vsl T XI)) (h54g:a0j AB AE 54 [c.goal.av] (vsl T XG))
 (h40: ∀i,i<c.nl->a0j AB AE 40 [isl c.ns c.sz,isl c.no (fun i=>c.od ((k+i) % c.no)),vsl T (X i)] (D i).av) (h40i:a0j AB AE 40 [isl c.ns c.sz,isl c.no (fun i=>c.od ((k+i) % c.no)),vsl T XI] DI.av) (h40g:a0j AB AE 40 [isl c.ns c.sz,isl c.no (fun i=>c.od ((k+i) % c.no)),vsl T XG] DG.av)
 (h56:a0j AB AE 56 [c.goal.av] W.av) (h55:a0j AB AE 55 [.d (.int .u8 (.v (AC 6))),W.av] Z.av) (h18:a0j AB AF 18 [(CaR.mk c.ns c.sz c.no (fun i=>c.od ((k+i) % c.no)) c.nl D DI DG).av] (bool zt))
 (h20:a0j AB AE 20 [c.av] (.tuple [r.av,int d,int ec])) (h20y:a0j AB AE 20 [(CaR.mk c.ns c.sz c.no (fun i=>c.od ((k+i) % c.no)) c.nl D DI DG).av] (.tuple [r.av,int d,int ec])) (h20z:a0j AB AE 20 [(c.gn Z).av] (.tuple [r.av,int d,int ec]))
 (h23:a0j AB AF 23 [r.av] (bool AF)) {q:PlR} (h36:a0j AB AE 36 [r.av] q.av) (h25:a0j AB AF 25 [q.av,q.av] (bool AF)):
 a0j AB AF 13 [c.av,u8 u] (bool AF):=by
 have haw:=c4a;obtain⟨k0,k1,k2,k3,k4,q0,_⟩:=r.avX;rw[q0] at h20 h20y h20z h23 h36;clear q0;obtain⟨l0,l1,l2,l3,l4,q0,_⟩:=q.avX;rw[q0] at h36 h25;clear q0;obtain⟨ns,sz,no,od,nl,lk,⟨ins,isz,ino,iod,ine,ien,inn,ivar,ink,ikid,iroot⟩,⟨gns,gsz,gno,god,gne,gen,gnn,gvar,gnk,gkid,groot⟩⟩:=c;obtain⟨Ins,Isz,Ino,Iod,Ine,Ien,Inn,Ivar,Ink,Ikid,Iroot⟩:=DI;obtain⟨Gns,Gsz,Gno,God,Gne,Gen,Gnn,Gvar,Gnk,Gkid,Groot⟩:=DG;obtain⟨Wns,Wsz,Wno,Wod,Wne,Wen,Wnn,Wvar,Wnk,Wkid,Wroot⟩:=W;obtain⟨Zns,Zsz,Zno,Zod,Zne,Zen,Znn,Zvar,Znk,Zkid,Zroot⟩:=Z;simp only[CaR.av,CaR.gn,DiR.cs,AH,AI] at*
 obtain⟨OD,hOD⟩: ∃f:Nat->Int,(fun i=>od ((k+i) % no))=f:=⟨_,rfl⟩;rw[hOD] at h40 h40i h40g h18 h20y;have hODj: ∀j,od ((k+j) % no)=OD j:=fun j=>congrFun hOD j;clear hOD;refine a1e (a0k Tryz.mixed okP l4z _ rfl fun E Sg hbs hS=> ?_);have e:=b2k hS;have en2: ∀k:Nat,nat Sg (IX.v (AC k))=k:=fun k=>by show Sg.toNat (AC k)=k;rw[e.toNat];rfl
 cbv;refine a0v hS _ h48 ?_;cbv;refine a1g hS (c3d hS) ?_;cbv;have ew:Sg.iwrap .i64 u=AC k:=by rw[k7w hS hu,hk];simp only[AG];omega
 refine e4p Tryz.mixed okP hS (σ:=Nat×List Nat) (fun s=>s.1<=no) (fun s=>no-s.1)
  (fun s=>⟨b5r [(1,u8 u),(2,.ptr 0 0),(5,.ptr 1 0),(6,.ptr 2 0),(7,int s.1)] 165,
    [.var [isl ns sz,isl no od,dsl nl lk,isl ins isz,isl ino iod,vsl ine ien,bsl inn ivar ink ikid,int iroot,isl gns gsz,isl gno god,vsl gne gen,bsl gnn gvar gnk gkid,int groot],
     .var [isl ns sz,.msl 3 1 none s.1 AE,.d .nil,isl ins isz,isl ino iod,vsl ine ien,bsl inn ivar ink ikid,int iroot,isl gns gsz,isl gno god,vsl gne gen,bsl gnn gvar gnk gkid,int groot],
     .var [isl ns sz,isl no od,dsl nl lk,isl ins isz,isl ino iod,vsl ine ien,bsl inn ivar ink ikid,int iroot,isl gns gsz,isl gno god,vsl gne gen,bsl gnn gvar gnk gkid,int groot],
     .arr 1 s.1 fun j=>[.int .i64 (.v (OD j))]],s.2⟩) (0,[]) (AD _) ?_ ?_
 ·exact (b4w.gh 1 1 1 (fun _=>[]) rfl rfl).trans (b4w.le (a4c rfl ⟨AA _,AA _,AA _,AA _,a6c rfl,trivial⟩ (.cons (.refl _) (.cons (.refl _) (.cons (.refl _) (.cons (a9v.arrr rfl fun j hj=>by omega) (.nil _))))) (by rw[hbs];exact AD _) (.inl ⟨rfl,rfl⟩) (j7y _)))
 rintro⟨i,mv⟩ hi N hN;simp only at hi;cbv;split
 ·rename_i h;have hil:i<no:=d3r hS h;have grem:Sg.irem (Sg.iadd (Sg.iwrap .i64 u) (AC i)) (Sg.ofNat no)=AC ((k+i) % no):=by rw[ew,e.iadd];exact k7o hS (z:=AC (k+i)) (Int.natCast_nonneg _)
  have gin:Sg.inr .i64 (Sg.iadd (Sg.iwrap .i64 u) (AC i)):=by rw[ew];exact a4p hS (by simp only[AG];omega)
  have gnz:Sg.nz (Sg.ofNat no):=k7t hS (by omega);have hm:(k+i) % no<no:=Nat.mod_lt _ (by omega);cbv;refine a1g hS gin ?_;refine a1g hS gnz ?_;simp only[grem];refine a1g hS (a5p hS hm) ?_;refine a1g hS (c3d hS) (a1g hS trivial (a1g hS (f1i hS (by omega)) (a1g hS (e1n hS (by omega)) ?_)));refine hN (i+1,3::mv) _ hil (by simp only;omega) (b4w.le (a4c rfl ⟨AA _,AA _,AA _,AA _,b2s hS,trivial⟩ (.cons (.refl _) (.cons (.var (.cons (AA _) (.cons (d8n hS) (.cons (AA _) (.cons (AA _) (.cons (AA _) (.cons (AA _) (.cons (AA _) (.cons (AA _) (.cons (AA _) (.cons (AA _) (.cons (AA _) (.cons (AA _) (.cons (AA _) .nil)))))))))))))) (.cons (.refl _) (.cons (d7h hS (fun j hj=> .refl _) ?_) (.nil _))))) (by rw[hbs];exact AD _) (.inl ⟨rfl,rfl⟩) (j7y _)));show RL [.int .i64 (.v (od (nat Sg (IX.v (AC ((k+i) % no))))))] [.int .i64 (.v (OD i))];rw[en2,hODj];exact .refl _
 rename_i h;have hin:i=no:=by have:=d3c hS h;omega
 subst hin;clear hN;cbv;refine e4p Tryz.mixed okP hS (σ:=Nat×List Nat) (fun s=>s.1<=nl) (fun s=>nl-s.1)
  (fun s=>⟨b5r [(2,.ptr 0 0),(5,.ptr 1 0),(6,.ptr 2 0),(8,int s.1)] 165,
    [.var [isl ns sz,isl i od,dsl nl lk,isl ins isz,isl ino iod,vsl ine ien,bsl inn ivar ink ikid,int iroot,isl gns gsz,isl gno god,vsl gne gen,bsl gnn gvar gnk gkid,int groot],
     .var [isl ns sz,.msl 3 1 none i AE,.msl 4 5 none s.1 AE,isl ins isz,isl ino iod,vsl ine ien,bsl inn ivar ink ikid,int iroot,isl gns gsz,isl gno god,vsl gne gen,bsl gnn gvar gnk gkid,int groot],
     .var [isl ns sz,isl i od,dsl nl lk,isl ins isz,isl ino iod,vsl ine ien,bsl inn ivar ink ikid,int iroot,isl gns gsz,isl gno god,vsl gne gen,bsl gnn gvar gnk gkid,int groot],
     (match s.1 with|0=>a0f.arr 1 i fun j=>[.int .i64 (.v (OD j))]|_+1=>a0f.frz 1 i fun j=>[.int .i64 (.v (OD j))]),.arr 5 s.1 fun j=>(D j).row],s.2⟩) (0,mv) (AD _) ?_ ?_
 ·exact (b4w.gh 1 2 5 (fun _=>[]) rfl rfl).trans (b4w.le (a4c rfl ⟨AA _,AA _,AA _,a6c rfl,trivial⟩ (.cons (.refl _) (.cons (.refl _) (.cons (.refl _) (.cons (.refl _) (.cons (a9v.arrr rfl fun j hj=>by omega) (.nil _)))))) (by rw[hbs];exact AD _) (.inl ⟨rfl,rfl⟩) (j7y _)))
 rintro⟨j,mv2⟩ hj N hN;simp only at hj;cases j with
 |zero=>
  cbv;split
  ·rename_i h;have hjl:0<nl:=d3r hS h;have q54:=h54 0 hjl;have q40:=h40 0 hjl;cbv;refine a1g hS (a5p hS hjl) ?_;cbv;simp only[en2];refine a0v hS _ q54 ?_;cbv;refine a1g hS (c3d hS) (a1g hS (c3d hS) (a1g hS (c3d hS) (a1g hS (e8l hS (by omega)) ?_)));refine a0v hS _ q40 ?_;cbv;refine a1g hS (c3d hS) (a1g hS (c3d hS) (a1g hS trivial (a1g hS (f1i hS (by omega)) (a1g hS (e1n hS (by omega)) ?_))));refine hN (1,4::mv2) _ hjl (by simp only;omega) (b4w.le (a4c rfl ⟨AA _,AA _,AA _,b2s hS,trivial⟩ (.cons (.refl _) (.cons (.var (.cons (AA _) (.cons (AA _) (.cons (d8n hS) (.cons (AA _) (.cons (AA _) (.cons (AA _) (.cons (AA _) (.cons (AA _) (.cons (AA _) (.cons (AA _) (.cons (AA _) (.cons (AA _) (.cons (AA _) .nil)))))))))))))) (.cons (.refl _) (.cons (.refl _) (.cons (d7h hS (fun j hj=> .refl _) ?_) (.nil _)))))) (by rw[hbs];exact AD _) (.inl ⟨rfl,rfl⟩) (j7y _)));exact .refl _
  rename_i h;have hjn:0=nl:=by have:=d3c hS h;omega
  subst hjn;clear hN;cbv;refine a0v hS _ h54i ?_;cbv
  repeat' (first|refine a1g hS (c3d hS) ?_|refine a1g hS trivial ?_|refine a1g hS (e8l hS (Nat.le_refl _)) ?_)
  refine a0v hS _ h40i ?_;cbv
  repeat' (first|refine a1g hS (c3d hS) ?_|refine a1g hS trivial ?_|refine a1g hS (e8l hS (Nat.le_refl _)) ?_)
  refine a0v hS _ h54g ?_;cbv
  repeat' (first|refine a1g hS (c3d hS) ?_|refine a1g hS trivial ?_|refine a1g hS (e8l hS (Nat.le_refl _)) ?_)
  refine a0v hS _ h40g ?_;cbv
  repeat' (first|refine a1g hS (c3d hS) ?_|refine a1g hS trivial ?_|refine a1g hS (e8l hS (Nat.le_refl _)) ?_)
  refine a0v hS _ h56 ?_;cbv
  repeat' (first|refine a1g hS (c3d hS) ?_|refine a1g hS trivial ?_|refine a1g hS (e8l hS (Nat.le_refl _)) ?_)
  refine a0v hS _ h55 ?_;cbv
  repeat' (first|refine a1g hS (c3d hS) ?_|refine a1g hS trivial ?_|refine a1g hS (e8l hS (Nat.le_refl _)) ?_)
  refine a0v hS _ h18 ?_;cbv
  repeat' (first|refine a1g hS (c3d hS) ?_|refine a1g hS trivial ?_|refine a1g hS (e8l hS (Nat.le_refl _)) ?_)
  cases zt
  ·cbv;refine a0v hS _ haw ?_;cbv;exact AA _
  cbv
  repeat' (first|refine a1g hS (c3d hS) ?_|refine a1g hS trivial ?_|refine a1g hS (e8l hS (Nat.le_refl _)) ?_)
  refine a0v hS _ h20 ?_;cbv
  repeat' (first|refine a1g hS (c3d hS) ?_|refine a1g hS trivial ?_|refine a1g hS (e8l hS (Nat.le_refl _)) ?_)
  refine a0v hS _ h20y ?_;cbv
  repeat' (first|refine a1g hS (c3d hS) ?_|refine a1g hS trivial ?_|refine a1g hS (e8l hS (Nat.le_refl _)) ?_)
  refine a0v hS _ h20z ?_;cbv
  repeat' (first|refine a1g hS (c3d hS) ?_|refine a1g hS trivial ?_|refine a1g hS (e8l hS (Nat.le_refl _)) ?_)
  have g1:Sg.ieq ec ec=AF:=by rw[e.ieq];exact beq_self_eq_true _
  have g2:Sg.ieq (AC d) (AC d)=AF:=by rw[e.ieq];exact beq_self_eq_true _
  simp only[g1];cbv;simp only[g1];cbv;simp only[g2];cbv;simp only[g2];cbv
  repeat' (first|refine a1g hS (c3d hS) ?_|refine a1g hS trivial ?_|refine a1g hS (e8l hS (Nat.le_refl _)) ?_)
  refine a0v hS _ h23 ?_;cbv
  repeat' (first|refine a1g hS (c3d hS) ?_|refine a1g hS trivial ?_|refine a1g hS (e8l hS (Nat.le_refl _)) ?_)
  refine a0v hS _ h23 ?_;cbv
  repeat' (first|refine a1g hS (c3d hS) ?_|refine a1g hS trivial ?_|refine a1g hS (e8l hS (Nat.le_refl _)) ?_)
  refine a0v hS _ h23 ?_;cbv
  repeat' (first|refine a1g hS (c3d hS) ?_|refine a1g hS trivial ?_|refine a1g hS (e8l hS (Nat.le_refl _)) ?_)
  refine a0v hS _ h36 ?_;cbv
  repeat' (first|refine a1g hS (c3d hS) ?_|refine a1g hS trivial ?_|refine a1g hS (e8l hS (Nat.le_refl _)) ?_)
  refine a0v hS _ h36 ?_;cbv
  repeat' (first|refine a1g hS (c3d hS) ?_|refine a1g hS trivial ?_|refine a1g hS (e8l hS (Nat.le_refl _)) ?_)
  refine a0v hS _ h25 ?_;cbv
  repeat' (first|refine a1g hS (c3d hS) ?_|refine a1g hS trivial ?_|refine a1g hS (e8l hS (Nat.le_refl _)) ?_)
  refine a0v hS _ h36 ?_;cbv
  repeat' (first|refine a1g hS (c3d hS) ?_|refine a1g hS trivial ?_|refine a1g hS (e8l hS (Nat.le_refl _)) ?_)
  refine a0v hS _ h36 ?_;cbv
  repeat' (first|refine a1g hS (c3d hS) ?_|refine a1g hS trivial ?_|refine a1g hS (e8l hS (Nat.le_refl _)) ?_)
  refine a0v hS _ h25 ?_;cbv
  repeat' (first|refine a1g hS (c3d hS) ?_|refine a1g hS trivial ?_|refine a1g hS (e8l hS (Nat.le_refl _)) ?_)
  refine a0v hS _ haw ?_;cbv;exact AA _
 |succ j=>
  cbv;split
  ·rename_i h;have hjl:j+1<nl:=d3r hS h;have q54:=h54 (j+1) hjl;have q40:=h40 (j+1) hjl;cbv;refine a1g hS (a5p hS hjl) ?_;cbv;simp only[en2];refine a0v hS _ q54 ?_;cbv;refine a1g hS (c3d hS) (a1g hS (c3d hS) (a1g hS (c3d hS) (a1g hS (e8l hS (by omega)) ?_)));refine a0v hS _ q40 ?_;cbv;refine a1g hS (c3d hS) (a1g hS (c3d hS) (a1g hS trivial (a1g hS (f1i hS (by omega)) (a1g hS (e1n hS (by omega)) ?_))));refine hN (j+2,4::mv2) _ hjl (by simp only;omega) (b4w.le (a4c rfl ⟨AA _,AA _,AA _,b2s hS,trivial⟩ (.cons (.refl _) (.cons (.var (.cons (AA _) (.cons (AA _) (.cons (d8n hS) (.cons (AA _) (.cons (AA _) (.cons (AA _) (.cons (AA _) (.cons (AA _) (.cons (AA _) (.cons (AA _) (.cons (AA _) (.cons (AA _) (.cons (AA _) .nil)))))))))))))) (.cons (.refl _) (.cons (.refl _) (.cons (d7h hS (fun j hj=> .refl _) ?_) (.nil _)))))) (by rw[hbs];exact AD _) (.inl ⟨rfl,rfl⟩) (j7y _)));exact .refl _
  rename_i h;have hjn:j+1=nl:=by have:=d3c hS h;omega
  subst hjn;clear hN;cbv;refine a0v hS _ h54i ?_;cbv
  repeat' (first|refine a1g hS (c3d hS) ?_|refine a1g hS trivial ?_|refine a1g hS (e8l hS (Nat.le_refl _)) ?_)
  refine a0v hS _ h40i ?_;cbv
  repeat' (first|refine a1g hS (c3d hS) ?_|refine a1g hS trivial ?_|refine a1g hS (e8l hS (Nat.le_refl _)) ?_)
  refine a0v hS _ h54g ?_;cbv
  repeat' (first|refine a1g hS (c3d hS) ?_|refine a1g hS trivial ?_|refine a1g hS (e8l hS (Nat.le_refl _)) ?_)
  refine a0v hS _ h40g ?_;cbv
  repeat' (first|refine a1g hS (c3d hS) ?_|refine a1g hS trivial ?_|refine a1g hS (e8l hS (Nat.le_refl _)) ?_)
  refine a0v hS _ h56 ?_;cbv
  repeat' (first|refine a1g hS (c3d hS) ?_|refine a1g hS trivial ?_|refine a1g hS (e8l hS (Nat.le_refl _)) ?_)
  refine a0v hS _ h55 ?_;cbv
  repeat' (first|refine a1g hS (c3d hS) ?_|refine a1g hS trivial ?_|refine a1g hS (e8l hS (Nat.le_refl _)) ?_)
  refine a0v hS _ h18 ?_;cbv
  repeat' (first|refine a1g hS (c3d hS) ?_|refine a1g hS trivial ?_|refine a1g hS (e8l hS (Nat.le_refl _)) ?_)
  cases zt
  ·cbv;refine a0v hS _ haw ?_;cbv;exact AA _
  cbv
  repeat' (first|refine a1g hS (c3d hS) ?_|refine a1g hS trivial ?_|refine a1g hS (e8l hS (Nat.le_refl _)) ?_)
  refine a0v hS _ h20 ?_;cbv
  repeat' (first|refine a1g hS (c3d hS) ?_|refine a1g hS trivial ?_|refine a1g hS (e8l hS (Nat.le_refl _)) ?_)
  refine a0v hS _ h20y ?_;cbv
  repeat' (first|refine a1g hS (c3d hS) ?_|refine a1g hS trivial ?_|refine a1g hS (e8l hS (Nat.le_refl _)) ?_)
  refine a0v hS _ h20z ?_;cbv
  repeat' (first|refine a1g hS (c3d hS) ?_|refine a1g hS trivial ?_|refine a1g hS (e8l hS (Nat.le_refl _)) ?_)
  have g1:Sg.ieq ec ec=AF:=by rw[e.ieq];exact beq_self_eq_true _
  have g2:Sg.ieq (AC d) (AC d)=AF:=by rw[e.ieq];exact beq_self_eq_true _
  simp only[g1];cbv;simp only[g1];cbv;simp only[g2];cbv;simp only[g2];cbv
  repeat' (first|refine a1g hS (c3d hS) ?_|refine a1g hS trivial ?_|refine a1g hS (e8l hS (Nat.le_refl _)) ?_)
  refine a0v hS _ h23 ?_;cbv
  repeat' (first|refine a1g hS (c3d hS) ?_|refine a1g hS trivial ?_|refine a1g hS (e8l hS (Nat.le_refl _)) ?_)
  refine a0v hS _ h23 ?_;cbv
  repeat' (first|refine a1g hS (c3d hS) ?_|refine a1g hS trivial ?_|refine a1g hS (e8l hS (Nat.le_refl _)) ?_)
  refine a0v hS _ h23 ?_;cbv
  repeat' (first|refine a1g hS (c3d hS) ?_|refine a1g hS trivial ?_|refine a1g hS (e8l hS (Nat.le_refl _)) ?_)
  refine a0v hS _ h36 ?_;cbv
  repeat' (first|refine a1g hS (c3d hS) ?_|refine a1g hS trivial ?_|refine a1g hS (e8l hS (Nat.le_refl _)) ?_)
  refine a0v hS _ h36 ?_;cbv
  repeat' (first|refine a1g hS (c3d hS) ?_|refine a1g hS trivial ?_|refine a1g hS (e8l hS (Nat.le_refl _)) ?_)
  refine a0v hS _ h25 ?_;cbv
  repeat' (first|refine a1g hS (c3d hS) ?_|refine a1g hS trivial ?_|refine a1g hS (e8l hS (Nat.le_refl _)) ?_)
  refine a0v hS _ h36 ?_;cbv
  repeat' (first|refine a1g hS (c3d hS) ?_|refine a1g hS trivial ?_|refine a1g hS (e8l hS (Nat.le_refl _)) ?_)
  refine a0v hS _ h36 ?_;cbv
  repeat' (first|refine a1g hS (c3d hS) ?_|refine a1g hS trivial ?_|refine a1g hS (e8l hS (Nat.le_refl _)) ?_)
  refine a0v hS _ h25 ?_;cbv
  repeat' (first|refine a1g hS (c3d hS) ?_|refine a1g hS trivial ?_|refine a1g hS (e8l hS (Nat.le_refl _)) ?_)
  refine a0v hS _ haw ?_;cbv;exact AA _
theorem l4h (c:CaR)(hw:c.wf)(u:Int)(hu:0<=u/\u<=255):a0j AB AF 13 [c.av,u8 u] (bool AF):=by
 classical
 obtain⟨z48,h48,hr⟩:=l0u c hw;cases z48 with
 |false=>exact l4b c u h48
 |true=>
 obtain⟨T,h,hT,hpos,hE,h108⟩:=hr rfl;have hf:=h.fit;obtain⟨z,d,r,hb⟩:=h.bst hT hpos h108;have hdg:=fun i (hi:i<c.nl+2)=>hf.dg i hi;have hl: ∀i,i<c.nl->(c.lk i).fit:=fun i hi=>by have:=hf.dg i (by omega);rwa [c.dg_lk hi] at this
 have hi:c.inn.fit:=by have:=hf.dg c.nl (by omega);rwa [c.dg_in] at this
 have hg:c.goal.fit:=by have:=hf.dg (c.nl+1) (by omega);rwa [c.dg_goal] at this
 have h20:=k3m c hf.ns hf.no hf.nl hl hi hg hb.h73;have hcnt:PlR.cnt 6 r<300:=by
  cases z with
  |true=>exact hb.thin hT
  |false=>rw[(hb.res.2 rfl).2.1];decide
 have h23:=e4c r hb.ok AF ⟨fun _=>hcnt,fun _=>rfl⟩;have h36:=d1z r hcnt;have h25:=k4e _ (PlR.ok_cut 6 r hb.ok);have h54: ∀i,i<c.nl+2->a0j AB AE 54 [(c.dg i).av] (vsl T (c.X i)):=fun i hi=>i6a (c.dg i) (h.di i hi) (hf.dg i hi) (h.Td i hi);obtain⟨t1,t2,t3,t4⟩:=h.tn hE hT u.toNat;have hfr:h4e c.ns c.no c.sz (fun i=>c.od ((u.toNat+i) % c.no))=0:=l4f h.fr;have h40:=fun i (hi:i<c.nl+2)=>l3n (od:=fun i=>c.od ((u.toNat+i) % c.no)) (no:=c.no) hfr h.hT (h.hc hi);have gd:i6l c.goal:=by have:=h.di (c.nl+1) (by omega);rwa [c.dg_goal] at this
 have gT:(T:Int)=prod c.goal.sz c.goal.ns:=by have:=h.Td (c.nl+1) (by omega);rwa [c.dg_goal] at this
 have gG: ∀p,c.G p=AF↔c.goal.cell p=⟨0,1⟩:=fun p=>by unfold CaR.G CaR.X;rw[c.dg_goal];exact decide_eq_true_iff
 have hC: ∀b:Nat->Bool,∀p,p<T->a1i (l1y (b p))/\0<=(l1y (b p)).fault:=fun b p _=>l2t _;have hWo:=l2x (od:=c.goal.od) (no:=c.goal.no) gd.fr gT (by omega) (hC c.G);have hZo:=l2x (od:=c.goal.od) (no:=c.goal.no) gd.fr gT (by omega) (hC fun p=>!c.G p);have h56:=l4p c.goal gd hg gT (by omega) (b:=c.G) gG (l3n (od:=c.goal.od) (no:=c.goal.no) gd.fr gT (hC c.G));have h55:=l4x (ofD c.goal.ns c.goal.sz c.goal.no c.goal.od T fun p=>l1y (c.G p)) hWo.1 hWo.2.1 gT (by omega) (b:=c.G) hWo.2.2.1 (R:=ofD c.goal.ns c.goal.sz c.goal.no c.goal.od T fun p=>l1y (!c.G p)) (l3n (ns:=c.goal.ns) (sz:=c.goal.sz) (od:=c.goal.od) (no:=c.goal.no) gd.fr gT (hC fun p=>!c.G p));have gL:=k8z hE (c.nl+1) (by omega);unfold CaR.same at gL;rw[c.dg_goal] at gL;obtain⟨n1,n2⟩:=h.gn hE hT (d:=ofD c.goal.ns c.goal.sz c.goal.no c.goal.od T fun p=>l1y (!c.G p)) hZo.1 hZo.2.1 hZo.2.2.2 gL;have h20y:=h.twin (c':=c.tn u.toNat T) t2 t3 hT hpos rfl rfl (fun i hi p hp=>t4 i (by omega) p hp) (fun p hp=>t4 c.nl (by omega) p hp) (fun p hp q hq=>by
  have e: ∀p,p<T->(c.tn u.toNat T).G p=c.G p:=fun p hp=>by unfold CaR.G;rw[show (c.tn u.toNat T).nl=c.nl from rfl,t4 (c.nl+1) (by omega) p hp]
  rw[e p hp,e q hq]) hb.res
 have h20z:=h.twin (c':=c.gn (ofD c.goal.ns c.goal.sz c.goal.no c.goal.od T fun p=>l1y (!c.G p))) n1 n2 hT hpos rfl rfl (fun i hi p hp=>by
  unfold CaR.X;rw[c.gn_dg _ (by omega)]) (fun p hp=>by
  unfold CaR.X;rw[c.gn_dg _ (by omega)]) (fun p hp q hq=>by
  have e: ∀p,p<T->(c.gn (ofD c.goal.ns c.goal.sz c.goal.no c.goal.od T fun p=>l1y (!c.G p))).G p=!c.G p:=fun p hp=>by
   have e2:(c.gn (ofD c.goal.ns c.goal.sz c.goal.no c.goal.od T fun p=>l1y (!c.G p))).X (c.nl+1) p=l1y (!c.G p):=by unfold CaR.X;rw[c.gn_goal];exact hZo.2.2.1 p hp
   refine Bool.eq_iff_iff.2 ?_;show decide ((c.gn (ofD c.goal.ns c.goal.sz c.goal.no c.goal.od T fun p=>l1y (!c.G p))).X (c.nl+1) p=⟨0,1⟩)=AF↔_;rw[decide_eq_true_iff,e2,l2l]
  rw[e p hp,e q hq];cases c.G p<;>cases c.G q<;>simp) hb.res
 refine l4d c u hu hf.no (by have:=h.nl;omega) rfl (T:=T) (X:=c.X) (XI:=c.X c.nl) (XG:=c.X (c.nl+1)) h48 (fun i hi=> ?_) ?_ ?_ (fun i hi=>h40 i (by omega)) (h40 c.nl (by omega)) (h40 (c.nl+1) (by omega)) h56 (h55.like (.cons (a0x.int (y:= .l (AC 6)) rfl) (.cons (AA _) .nil))) (i3u (c.tn u.toNat T) (decide (h6v (c.tn u.toNat T))) decide_eq_true_iff) h20 h20y h20z h23 h36 h25
 ·have:=h54 i (by omega);rwa [c.dg_lk hi] at this
 ·have:=h54 c.nl (by omega);rwa [c.dg_in] at this
 ·have:=h54 (c.nl+1) (by omega);rwa [c.dg_goal] at this
end Go.Proofs.Tryz.Run
