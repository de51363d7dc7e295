/- What is asked of a case, by the reference and by the program: its places and what is known of them. Conditions: none. -/
import Derived.Test.YtbglklaocjifhaaGreatALr
import Derived.Test.YtbglklaocjifhaaGreatANa
import Derived.Test.YtbglklaocjifhaaGreatANb
import Derived.Test.YtbglklaocjifhaaGreatANc
import Derived.Test.YtbglklaocjifhaaGreatAOb
import Derived.Test.YtbglklaocjifhaaGreatAPm0
import Derived.Test.YtbglklaocjifhaaGreatAQd
import Derived.Test.YtbglklaocjifhaaGreatAQf
import Derived.Test.YtbglklaocjifhaaGreatAQi
import Derived.Test.YtbglklaocjifhaaGreatASd
import Derived.Test.YtbglklaocjifhaaGreatAHr
import Derived.Test.YtbglklaocjifhaaGreatAHu
set_option linter.unusedSimpArgs false
set_option linter.unusedVariables false
set_option maxHeartbeats 0
set_option maxRecDepth 100000
namespace Go.Proofs.Tryz.Run
open Go Go.Vf Go.Proofs
open Go.Proofs.YtbglklaocjifhaaGreat
theorem i3r (c:CaR){er:Int}(h42:a0j Tryz.prog true 42 [c.av] (int er))(h0:er≠0):a0j Tryz.prog false 21 [c.av] (.tuple [.d .nil,.agg [.d .nil,.d .nil],int er]):=by
 obtain⟨ns,sz,no,od,nl,lk,⟨ins,isz,ino,iod,ine,ien,inn,ivar,ink,ikid,iroot⟩,⟨gns,gsz,gno,god,gne,gen,gnn,gvar,gnk,gkid,groot⟩⟩:=c
 simp only[CaR.av,DiR.cs,List.cons_append,List.nil_append] at*
 refine a0k Tryz.mixed okP i7c _ rfl fun E Sg hbs hS=> ?_
 have e:=b2k hS
 cbv
 refine a0v hS _ h42 ?_
 cbv
 have hb0:(er==Int.ofNat 0)=false:=beq_false_of_ne h0
 simp only[e.ieq,e.bnot,hb0]
 cbv
 exact a0x.refl _
theorem i3p (c:CaR){n:Nat}{W:Nat->Int}{k1 k2:DV}(h42:a0j Tryz.prog true 42 [c.av] (int 0))(h29:a0j Tryz.prog false 29 [c.av] (.tuple [isl n W,.agg [.d k1,.d k2]])):
 (n=0->a0j Tryz.prog false 21 [c.av] (.tuple [.d .nil,.agg [.d k1,.d k2],int 12]))/\(0<n->a0j Tryz.prog false 21 [c.av] (.tuple [isl n W,.agg [.d k1,.d k2],int 0])):=by
 obtain⟨ns,sz,no,od,nl,lk,⟨ins,isz,ino,iod,ine,ien,inn,ivar,ink,ikid,iroot⟩,⟨gns,gsz,gno,god,gne,gen,gnn,gvar,gnk,gkid,groot⟩⟩:=c
 simp only[CaR.av,DiR.cs,List.cons_append,List.nil_append] at*
 constructor
 ·intro hn
  refine a0k Tryz.mixed okP i7c _ rfl fun E Sg hbs hS=> ?_
  have e:=b2k hS
  cbv
  refine a0v hS _ h42 ?_
  cbv
  simp only[e.ieq,e.bnot]
  cbv
  refine a0v hS _ h29 ?_
  cbv
  simp only[e.ieq,e.ofNat,hn]
  cbv
  exact a3x.tuple (.cons (a0x.refl _) (.cons (a0x.refl _) (.cons (a6c rfl) .nil)))
 ·intro hn
  refine a0k Tryz.mixed okP i7c _ rfl fun E Sg hbs hS=> ?_
  have e:=b2k hS
  cbv
  refine a0v hS _ h42 ?_
  cbv
  simp only[e.ieq,e.bnot]
  cbv
  refine a0v hS _ h29 ?_
  cbv
  have hb0:((n:Int)==Int.ofNat 0)=false:=beq_false_of_ne (by simp only[Int.ofNat_eq_natCast];omega)
  simp only[e.ieq,e.ofNat,hb0]
  cbv
  exact a3x.tuple (.cons (a0x.refl _) (.cons (a0x.refl _) (.cons (a6c rfl) .nil)))
def cel (nl:Nat)(X:Nat->Nat->VaR)(k q:Nat):VaR:=if k<nl then X k q else⟨0,0⟩
def h7v (F:Nat->VaR)(g:Bool):List DV:=
 [.int .u8 (.v (F 0).fault),.int .i64 (.v (F 0).n),.int .u8 (.v (F 1).fault),.int .i64 (.v (F 1).n),.int .u8 (.v (F 2).fault),.int .i64 (.v (F 2).n),.int .u8 (.v (F 3).fault),.int .i64 (.v (F 3).n),.bool g]
def i0q (ns:Nat)(sz:Nat->Int)(no:Nat)(od:Nat->Int)(nl n:Nat)(W:Nat->Int)(X:Nat->Nat->VaR)(G:Nat->Bool):List DV:=
 [.sl 1 ns fun i=>[.int .i64 (.v (sz i))],.sl 1 no fun i=>[.int .i64 (.v (od i))],.int .i64 (.v nl),.sl 1 n fun j=>[.int .i64 (.v (W j))],
   .sl 9 n fun j=>h7v (fun k=>cel nl X k (W j).toNat) (G (W j).toNat)]
theorem i2x (a b:DiR){ns no nl:Nat}{sz od:Nat->Int}{lk:Nat->DiR}{er:Int}(h98:a0j Tryz.prog true 98 [isl ns sz,isl no od,dsl nl lk,a.av,b.av] (int er))(h0:er≠0):
 a0j Tryz.prog false 131 [isl ns sz,isl no od,dsl nl lk,a.av,b.av] (.tuple [.d (.raw (.pointer none)),int er]):=by
 obtain⟨ins,isz,ino,iod,ine,ien,inn,ivar,ink,ikid,iroot⟩:=a
 obtain⟨gns,gsz,gno,god,gne,gen,gnn,gvar,gnk,gkid,groot⟩:=b
 refine a0k Tryz.mixed okP e8k _ rfl fun E Sg hbs hS=> ?_
 have e:=b2k hS
 cbv
 refine a0v hS _ h98 ?_
 cbv
 have hb0:(er==Int.ofNat 0)=false:=beq_false_of_ne h0
 simp only[e.ieq,e.bnot,hb0]
 cbv
 exact a0x.refl _
def i7g:a0c:=match g5m with| .seq _ (.seq _ (.seq _ (.seq _ (.seq _ r))))=>r|_=> .ret
theorem i4v (a b:DiR){ns no nl:Nat}{sz od:Nat->Int}{lk:Nat->DiR}{T:Nat}(hT:T<=1000000)(hnl:nl<=4)(h98:a0j Tryz.prog true 98 [isl ns sz,isl no od,dsl nl lk,a.av,b.av] (int 0))(X:Nat->Nat->VaR)(Z Y:Nat->VaR)
 (hl: ∀i,i<nl->a0j Tryz.prog false 170 [(lk i).av] (.tuple [vsl T (X i),int 0])) (hli:a0j Tryz.prog false 170 [a.av] (.tuple [vsl T Z,int 0])) (hlg:a0j Tryz.prog false 170 [b.av] (.tuple [vsl T Y,int 0]))
 (G:Nat->Bool) (hG: ∀p,G p=true↔Y p=⟨0,1⟩):
 a0j Tryz.prog false 131 [isl ns sz,isl no od,dsl nl lk,a.av,b.av] (.tuple [.dptr (i0q ns sz no od nl (plc Z T).length (fun j=>(((plc Z T).getD j 0:Nat):Int)) X G) 0,int 0]):=by
 obtain⟨N,W,hN,hW,hN0,hNi,hst⟩:=h9h Z
 have hres:(fun j=>(((plc Z T).getD j 0:Nat):Int))=W T:=funext fun j=>hW T j
 rw[hres,hN]
 obtain⟨bb,hb⟩: ∃b:Nat->Bool,∀p,b p=true↔Z p=⟨0,1⟩:=by classical exact⟨fun p=>decide _,fun p=>decide_eq_true_iff⟩
 have q1:=fun p=>h9i (Z p) (bb p) (hb p)
 have q2:=fun p=>h9i (Y p) (G p) (hG p)
 have hst1: ∀i,(bb i=true->N (i+1)=N i+1/\(∀j,j<N i->W (i+1) j=W i j)/\W (i+1) (N i)=i)/\(bb i=false->N (i+1)=N i/\ ∀j,W (i+1) j=W i j):=fun i=>⟨fun h=>(hst i).1 ((hb i).1 h),fun h=>(hst i).2 fun h'=>by rw[(hb i).2 h'] at h;cases h⟩
 clear hres hst hN hW hb hG
 obtain⟨ins,isz,ino,iod,ine,ien,inn,ivar,ink,ikid,iroot⟩:=a
 obtain⟨gns,gsz,gno,god,gne,gen,gnn,gvar,gnk,gkid,groot⟩:=b
 refine a0k Tryz.mixed okP e8k _ rfl fun E Sg hbs hS=> ?_
 have e:=b2k hS
 have en: ∀k:Nat,nat Sg (IX.v (Int.ofNat k))=k:=fun k=>by
  show Sg.toNat (Int.ofNat k)=k
  rw[e.toNat];rfl
 obtain⟨D,hD0,hD1⟩: ∃D:Nat->Nat->DV,(∀i j,i<=j->D i j= .nil)/\ ∀i j,j<i->D i j= .sl 2 T fun p=>(X j p).row:=⟨fun i j=>if j<i then .sl 2 T fun p=>(X j p).row else .nil,fun i j h=>if_neg (by omega),fun i j h=>if_pos h⟩
 obtain⟨R,hR⟩: ∃R,R=i7g:=⟨_,rfl⟩
 change ev Sg (.seq _ (.seq _ (.seq _ (.seq _ (.seq _ i7g))))) _ _
 rw[<-hR]
 cbv
 refine a0v hS _ h98 ?_
 cbv
 simp only[e.ieq,e.bnot]
 cbv
 refine a1g hS (i4c hS) (a1g hS (i4a hS (by omega)) ?_)
 simp only[e.ofNat,e.toNat,Int.toNat_natCast]
 refine a7r Tryz.mixed okP hS (fun i=>i<=nl) (fun i=>nl-i)
  (fun i=>⟨b5r [(8,.ptr 0 0),(9,.ptr 1 0),(13,.ptr 2 0),(14,.msl 3 1 none nl false),(45,dsl nl lk),(46,int nl),(47,int i)] 124,[.var [isl ins isz,isl ino iod,vsl ine ien,bsl inn ivar ink ikid,int iroot],.var [isl gns gsz,isl gno god,vsl gne gen,bsl gnn gvar gnk gkid,int groot],.var [isl ns sz,isl no od,int nl,.d .nil,.d .nil],
    .arr 1 nl fun j=>[D i j]],[]⟩) 0 (by omega) ?_ ?_
 ·refine a4c rfl ⟨a0x.refl _,a0x.refl _,a0x.refl _,a0x.refl _,a0x.refl _,a0x.refl _,a6c rfl,trivial⟩ (.cons (.refl _) (.cons (.refl _) (.cons (.refl _) (.cons (h8m hS fun j hj=> ?_) (.nil _))))) (by simp;omega) (.inr rfl) rfl
  rw[hD0 0 j (by omega)];exact .refl _
 ·intro i hi N' hN'
  cbv
  split
  ·rename_i h
   have hlt:i<nl:=Int.ofNat_lt.1 (b3h hS h)
   cbv
   rw[en i]
   refine a1g hS (a5p hS hlt) ?_
   refine a0v hS _ (hl i hlt) ?_
   cbv
   simp only[e.toNat,Int.ofNat_eq_natCast,Int.toNat_natCast]
   refine a1g hS (a5p hS hlt) (a1g hS (i2h hS hlt) (a1g hS (e1n hS (by omega)) ?_))
   refine hN' (i+1) _ hlt (by omega) (a4c rfl ⟨a0x.refl _,a0x.refl _,a0x.refl _,a0x.refl _,a0x.refl _,a0x.refl _,b2s hS,trivial⟩ (.cons (.refl _) (.cons (.refl _) (.cons (.refl _) (.cons (h8j hS (fun j hj hne=> ?_) fun _=> ?_) (.nil _))))) (by simp;omega) (.inl ⟨rfl,rfl⟩) rfl)
   ·by_cases h:j<i
    ·rw[hD1 i j h,hD1 (i+1) j (by omega)];exact .refl _
    ·rw[hD0 i j (by omega),hD0 (i+1) j (by omega)];exact .refl _
   ·rw[hD1 (i+1) i (by omega)];exact .refl _
  ·rename_i h
   have hin:i=nl:=by have:=Int.ofNat_le.1 (b3r hS h);omega
   subst hin
   cbv
   subst hR
   cbv
   refine a0v hS _ hlg ?_
   cbv
   refine a0v hS _ hli ?_
   cbv
   clear h98 hl hlg hli hN' hi h
   refine e4p Tryz.mixed okP hS (fun p=>p<=T) (fun p=>T-p)
    (fun p=>⟨b5r [(13,.ptr 2 0),(14,.msl 3 1 none i false),(17,vsl T Y),(71,vsl T Z),(72,int T),(73,int p)] 124,[.var [isl ins isz,isl ino iod,vsl ine ien,bsl inn ivar ink ikid,int iroot],.var [isl gns gsz,isl gno god,vsl gne gen,bsl gnn gvar gnk gkid,int groot],.var [isl ns sz,isl no od,int i,.msl 4 1 none (N p) false,.msl 5 9 none (N p) false],
      .arr 1 i fun j=>[.sl 2 T fun p=>(X j p).row],arrI (N p) (W p),.arr 9 (N p) fun j=>h7v (fun k=>cel i X k (W p j).toNat) (G (W p j).toNat)],[4,5]⟩) 0 (by omega) ?_ ?_
   ·refine (b4w.gh 2 3 1 (fun _=>[]) rfl rfl).trans ((b4w.gh 2 4 9 (fun _=>[]) rfl rfl).trans (b4w.le (a4c rfl ⟨a0x.refl _,a0x.refl _,a0x.refl _,a0x.refl _,?_,a6c rfl,trivial⟩ (.cons (.refl _) (.cons (.refl _) (.cons ?_ (.cons (a9v.arrr rfl fun j hj=> ?_) (.cons (a9v.arrr hN0.symm fun j hj=>by omega) (.cons (a9v.arrr hN0.symm fun j hj=>by omega) (.nil _))))))) (by simp;omega) (.inr rfl) rfl)))
    ·exact b0a (by simp only[e.ofNat])
    ·refine .var (.cons (a0x.refl _) (.cons (a0x.refl _) (.cons (a0x.refl _) (.cons ?_ (.cons ?_ .nil)))))<;>(rw[hN0];exact a0x.refl _)
    ·rw[hD1 i j hj];exact .refl _
   ·intro p hp N' hN'
    cbv
    split
    ·rename_i h
     have hlt:p<T:=Int.ofNat_lt.1 (b3h hS h)
     obtain⟨h1,h2⟩:=hst1 p
     have h3:=hNi p
     cbv
     simp only[en]
     refine a1g hS (a5p hS hlt) ?_
     refine a0v hS (bool (bb p)) (q1 p) ?_
     cases hb:bb p
     ·obtain⟨h4,h5⟩:=h2 hb
      cbv
      refine a1g hS (e1n hS (by omega)) ?_
      refine hN' (p+1) _ hlt (by omega) (b4w.le (a4c rfl ⟨a0x.refl _,a0x.refl _,a0x.refl _,a0x.refl _,a0x.refl _,b2s hS,trivial⟩
       (.cons (.refl _) (.cons (.refl _) (.cons ?_ (.cons (.refl _) (.cons (a9v.arrr h4.symm fun j hj=>by rw[h5];exact .refl _) (.cons (a9v.arrr h4.symm fun j hj=>by rw[h5];exact .refl _) (.nil _))))))) (by simp;omega) (.inl ⟨rfl,rfl⟩) rfl))
      rw[h4];exact .refl _
     ·obtain⟨h4,h5,h6⟩:=h1 hb
      cbv
      simp only[en]
      refine a1g hS (a5p hS hlt) ?_
      refine a0v hS (bool (G p)) (q2 p) ?_
      cbv
      obtain⟨F,hF,hFe⟩: ∃F:Nat->Nat->VaR,(∀i k,F i k=if k<i then X k p else⟨0,0⟩)/\ ∀k,F i k=cel i X k p:=⟨fun i k=>if k<i then X k p else⟨0,0⟩,fun _ _=>rfl,fun _=>rfl⟩
      obtain⟨F0,hF0⟩: ∃F0:Nat->Nat->Int,∀i k,(F i k).fault=F0 i k:=⟨_,fun _ _=>rfl⟩
      obtain⟨F1,hF1⟩: ∃F1:Nat->Nat->Int,∀i k,(F i k).n=F1 i k:=⟨_,fun _ _=>rfl⟩
      have z0: ∀k,F0 0 k=0/\F1 0 k=0:=fun k=>by rw[<-hF0,<-hF1,hF,if_neg (Nat.not_lt_zero k)];exact⟨rfl,rfl⟩
      have z1: ∀m k,k≠m->F0 (m+1) k=F0 m k/\F1 (m+1) k=F1 m k:=fun m k h=>by
       rw[<-hF0,<-hF1,<-hF0,<-hF1,hF,hF]
       by_cases h':k<m
       ·rw[if_pos h',if_pos (by omega)];exact⟨rfl,rfl⟩
       ·rw[if_neg h',if_neg (by omega)];exact⟨rfl,rfl⟩
      have z2: ∀m,F0 (m+1) m=(X m p).fault/\F1 (m+1) m=(X m p).n:=fun m=>by rw[<-hF0,<-hF1,hF,if_pos (by omega)];exact⟨rfl,rfl⟩
      refine a7r Tryz.mixed okP hS (fun m=>m<=i) (fun m=>i-m)
       (fun m=>⟨b5r [(13,.ptr 2 0),(14,.msl 3 1 none i false),(17,vsl T Y),(21,int p),(23,.ptr 7 0),(71,vsl T Z),(72,int T),(73,int p),(87,.msl 3 1 none i false),(88,int i),(89,int m)] 124,[.var [isl ins isz,isl ino iod,vsl ine ien,bsl inn ivar ink ikid,int iroot],.var [isl gns gsz,isl gno god,vsl gne gen,bsl gnn gvar gnk gkid,int groot],.var [isl ns sz,isl no od,int i,.msl 4 1 none (N p) false,.msl 5 9 none (N p) false],
         .arr 1 i fun j=>[.sl 2 T fun p=>(X j p).row],arrI (N p) (W p),.arr 9 (N p) fun j=>h7v (fun k=>cel i X k (W p j).toNat) (G (W p j).toNat),.var [.any,.any],.var [u8 (F0 m 0),int (F1 m 0),u8 (F0 m 1),int (F1 m 1),u8 (F0 m 2),int (F1 m 2),u8 (F0 m 3),int (F1 m 3),bool (G p)]],[4,5]⟩) 0 (by omega) ?_ ?_
      ·refine a4c rfl ⟨a0x.refl _,a0x.refl _,a0x.refl _,a0x.refl _,a0x.refl _,a0x.refl _,a0x.refl _,a0x.refl _,a0x.refl _,?_,a6c rfl,trivial⟩ (.cons (.refl _) (.cons (.refl _) (.cons (.refl _) (.cons (.refl _) (.cons (.refl _) (.cons (.refl _) (.cons (.var (.cons (a0x.any _) (.cons (a0x.any _) .nil))) (.cons (.var ?_) (.nil _))))))))) (by simp;omega) (.inr rfl) rfl
       ·exact b0a (by simp only[e.ofNat])
       ·simp only[z0]
        exact .cons (a6c rfl) (.cons (a6c rfl) (.cons (a6c rfl) (.cons (a6c rfl) (.cons (a6c rfl) (.cons (a6c rfl) (.cons (a6c rfl) (.cons (a6c rfl) (.cons (a0x.refl _) .nil))))))))
      ·intro m hm N2 hN2
       cbv
       split
       ·rename_i h
        have hlt2:m<i:=Int.ofNat_lt.1 (b3h hS h)
        have hm4:m=0\/m=1\/m=2\/m=3:=by omega
        cbv
        simp only[en]
        repeat (first|refine a1g hS (a5p hS hlt2) ?_|refine a1g hS (i2h hS hlt2) ?_|refine a1g hS (a5p hS hlt) ?_|refine a1g hS (i2b hS (by simp only[Int.ofNat_eq_natCast];omega)) ?_)
        simp only[e.nadd,e.nmul,en,e.toNat,Int.ofNat_eq_natCast,Int.toNat_natCast]
        have c1:=fun k=>z1 m k
        obtain⟨d0,d1⟩:=z2 m
        rcases hm4 with rfl|rfl|rfl|rfl
        all_goals
         cbv
         repeat (first|refine a1g hS (i2h hS hlt2) ?_|refine a1g hS (a5p hS hlt) ?_|refine a1g hS (i2b hS (by decide)) ?_|refine a1g hS (a4p hS (by decide)) ?_)
         refine hN2 _ _ hlt2 (by omega) (a4c rfl ⟨a0x.refl _,a0x.refl _,a0x.refl _,a0x.refl _,a0x.refl _,a0x.refl _,a0x.refl _,a0x.refl _,a0x.refl _,a0x.refl _,b2s hS,trivial⟩ (.cons (.refl _) (.cons (.refl _) (.cons (.refl _) (.cons (.refl _) (.cons (.refl _) (.cons (.refl _) (.cons (.refl _) (.cons (.var ?_) (.nil _))))))))) (by simp;omega) (.inr rfl) rfl)
        ·exact (.cons (b0a d0.symm) (.cons (b0a d1.symm) (.cons (b0a (c1 1 (by decide)).1.symm) (.cons (b0a (c1 1 (by decide)).2.symm) (.cons (b0a (c1 2 (by decide)).1.symm) (.cons (b0a (c1 2 (by decide)).2.symm) (.cons (b0a (c1 3 (by decide)).1.symm) (.cons (b0a (c1 3 (by decide)).2.symm) (.cons (a0x.refl _) .nil)))))))))
        ·exact (.cons (b0a (c1 0 (by decide)).1.symm) (.cons (b0a (c1 0 (by decide)).2.symm) (.cons (b0a d0.symm) (.cons (b0a d1.symm) (.cons (b0a (c1 2 (by decide)).1.symm) (.cons (b0a (c1 2 (by decide)).2.symm) (.cons (b0a (c1 3 (by decide)).1.symm) (.cons (b0a (c1 3 (by decide)).2.symm) (.cons (a0x.refl _) .nil)))))))))
        ·exact (.cons (b0a (c1 0 (by decide)).1.symm) (.cons (b0a (c1 0 (by decide)).2.symm) (.cons (b0a (c1 1 (by decide)).1.symm) (.cons (b0a (c1 1 (by decide)).2.symm) (.cons (b0a d0.symm) (.cons (b0a d1.symm) (.cons (b0a (c1 3 (by decide)).1.symm) (.cons (b0a (c1 3 (by decide)).2.symm) (.cons (a0x.refl _) .nil)))))))))
        ·exact (.cons (b0a (c1 0 (by decide)).1.symm) (.cons (b0a (c1 0 (by decide)).2.symm) (.cons (b0a (c1 1 (by decide)).1.symm) (.cons (b0a (c1 1 (by decide)).2.symm) (.cons (b0a (c1 2 (by decide)).1.symm) (.cons (b0a (c1 2 (by decide)).2.symm) (.cons (b0a d0.symm) (.cons (b0a d1.symm) (.cons (a0x.refl _) .nil)))))))))
       ·rename_i h
        have hin:m=i:=by have:=Int.ofNat_le.1 (b3r hS h);omega
        subst hin
        cbv
        repeat (first|refine a1g hS (c3d hS) ?_|refine a1g hS trivial ?_|refine a1g hS (f1i hS (by omega)) ?_|refine a1g hS (e1n hS (by omega)) ?_)
        refine hN' (p+1) _ hlt (by omega) (b4w.le (a4c rfl ⟨a0x.refl _,a0x.refl _,a0x.refl _,a0x.refl _,a0x.refl _,b2s hS,trivial⟩
         (.cons (.refl _) (.cons (.refl _) (.cons (.var (.cons (a0x.refl _) (.cons (a0x.refl _) (.cons (a0x.refl _) (.cons ?_ (.cons ?_ .nil)))))) (.cons (.refl _) (.cons ?_ (.cons ?_ (.nil _))))))) (by simp;omega) (.inl ⟨rfl,rfl⟩) rfl))
        ·rw[h4];exact d8n hS
        ·rw[h4];exact d8n hS
        ·rw[h4];exact d7h hS (fun j hj=>by rw[h5 j hj];exact .refl _) (by rw[h6];exact .one (.int rfl))
        ·rw[h4]
         refine d7h hS (fun j hj=>by rw[h5 j hj];exact .refl _) ?_
         rw[h6,Int.toNat_natCast]
         simp only[<-hFe]
         unfold h7v
         simp only[hF0,hF1]
         exact .refl _
    ·rename_i h
     have hin:p=T:=by have:=Int.ofNat_le.1 (b3r hS h);omega
     subst hin
     cbv
     exact a1g hS (e8l hS (Nat.le_refl _)) (a1g hS (e8l hS (Nat.le_refl _)) (a3x.tuple (.cons (a0x.refl _) (.cons (a6c rfl) .nil))))
end Go.Proofs.Tryz.Run
