/- LookBest answers true. LookBest answers true. A case without a look; the program's Without. A search without a look, under other numbers; a case without a look. Conditions: none. -/
import Derived.Test.YtbglklaocjifhaaGreatWXp
open Go.Vf.a0x renaming refl->AA,sl'->AG
open Int renaming ofNat->AB,ofNat_eq_natCast->AC,le_refl->AE
open Nat renaming not_lt_zero->AD,le_trans->AF,le_refl->AH
set_option linter.unusedSimpArgs false
set_option linter.unusedVariables false
set_option maxHeartbeats 0
set_option maxRecDepth 100000
namespace Go.Proofs.Tryz.Run
open Go Go.Vf Go.Proofs
open Go.Proofs.YtbglklaocjifhaaGreat
theorem i6l.cellAt {d:DiR}(hd:i6l d)(hf:d.fit){T:Nat}(hT:(T:Int)=h4d d.sz d.ns){p:Nat}(hp:p<T): ∃i,i<d.ne/\d.cell p=d.en i:=by obtain⟨_,h2,_⟩:=h4s hd.fr;have hpl:=(h5s (n:=d.ns) (fun j hj=>(h2 j hj).1) p (by rw[<-hT];exact Int.ofNat_lt.2 hp)).1;have hw:=(i6j d hd.loose hf (h5j d.sz d.ns p) fun j hj=>hpl j hj).1;exact⟨(-1-h5d d (h5j d.sz d.ns p) d.root).toNat,by have:=hw.1;have:=hw.2 (by omega);omega,rfl⟩
theorem CaR.ok.cell {c:CaR}{T:Nat}(h:c.ok T){i:Nat}(hi:i<c.nl+2){p:Nat}(hp:p<T):a1i (c.X i p)/\0<=(c.X i p).fault:=by obtain⟨j,hj,e⟩:=(h.di i hi).cellAt (h.fit.dg i hi) (h.Td i hi) hp;unfold CaR.X;rw[e];exact⟨(h.di i hi).loose.1 j hj,h.fit.flt i hi j hj⟩
theorem k3f:k0p.ok:=⟨⟨by decide,by decide⟩,by decide,by decide,fun i hi=>absurd hi (AD i),fun i hi=>absurd hi (AD i)⟩
theorem PbR.ok_bt (K:PbR)(h4:K.nl<=4): ∀(n:Nat) (l:List Nat),K.can n l->l.length<=1000000->(∀i,i<K.nl-> ∀p,p∈l->a1i (K.X i p)/\0<=(K.X i p).fault)->(K.bt n l).ok:=by
 intro n
 induction n with
 |zero=>intro l _ _ _;exact k3f
 |succ n ih=>
  intro l h hl hok;by_cases hc:K.can n l
  ·rw[PbR.bt_le hc (by omega)];exact ih l hc hl hok
  have hm:K.mind (n+1) l:=⟨h,fun m hm hc'=>hc (PbR.can_le hc' (by omega))⟩;obtain⟨f1,f2,f3⟩:=hm.fst;rw[f3];generalize j9f (K.sp n l) K.nl=i at f1 f2 f3⊢;have hcl:(cellsOf (K.X i) l).length<=1000000:=AF (j9v _ _) hl;refine⟨⟨by omega,by omega⟩,by omega,by omega,fun j hj=> ?_,fun j hj=> ?_⟩
  ·obtain⟨p,hp,hx⟩:=j7x.1 (j8e (show j<(cellsOf (K.X i) l).length from hj));show (0<=((cellsOf (K.X i) l).getD j ⟨0,0⟩).fault/\((cellsOf (K.X i) l).getD j ⟨0,0⟩).fault<=255)/\c5t ((cellsOf (K.X i) l).getD j ⟨0,0⟩).n;rw[<-hx];obtain⟨g1,g2⟩:=hok i f1 p hp;exact g1.bd g2
  ·show PlR.ok (if j<(cellsOf (K.X i) l).length then K.bt n (K.pt i l j) else .none);rw[if_pos hj];exact ih _ (PbR.pt_can f2 hj) (AF (List.length_filter_le _ _) hl) fun i' hi' p hp=>hok i' hi' p (j8c.1 hp).1
theorem PbR.res_wi {K:PbR}{l:List Nat}{z:Bool}{d m:Nat}{r:PlR}(h:K.res l z d r)(hd:d<=m):K.wi l m z r:=
 ⟨fun e=>by
   obtain⟨h1,h2⟩:=h.1 e;exact⟨PbR.can_le h1.1 hd,by rw[h2,PbR.bt_le h1.1 hd]⟩,fun e=>by
   obtain⟨_,h2,h3⟩:=h.2 e;exact⟨h3 m,h2⟩⟩
noncomputable def CaR.K (c:CaR):PbR:=⟨c.nl,fun _=>true,c.X,c.G⟩
def CaR.F (c:CaR)(q k:Nat):VaR:=cel c.nl c.X k q
noncomputable def CaR.Kp (c:CaR)(a:Nat->Bool):PbR:=⟨c.nl,fun j=>!(a j),fun i q=>c.F q i,c.G⟩
theorem CaR.K_same (c:CaR)(l:List Nat):c.K.same (c.Kp fun _=>false) l:=
 ⟨rfl,fun _ _=>rfl,fun i hi p _=>by show c.X i p=cel c.nl c.X i p;unfold cel;rw[if_pos (show i<c.nl from hi)],fun _ _ _ _=>Iff.rfl⟩
def CaR.wo (c:CaR)(i:Nat):CaR:={c with nl:=c.nl-1,lk:=fun j=>if j<i then c.lk j else c.lk (j+1)}
theorem k5g (c:CaR)(hnl:c.nl<=6){i:Nat}(hi:i<c.nl):a0j Tryz.prog false 30 [c.av,int i] (c.wo i).av:=by
 obtain⟨ns,sz,no,od,nl,lk,⟨ins,isz,ino,iod,ine,ien,inn,ivar,ink,ikid,iroot⟩,⟨gns,gsz,gno,god,gne,gen,gnn,gvar,gnk,gkid,groot⟩⟩:=c;simp only[CaR.av,CaR.wo,DiR.cs,List.cons_append,List.nil_append] at*
 unfold dsl;obtain⟨E0,hE0⟩: ∃f:Nat->List DV,∀j,(lk j).row=f j:=⟨_,fun _=>rfl⟩;obtain⟨E1,hE1⟩: ∃f:Nat->List DV,∀j,(if j<i then lk j else lk (j+1)).row=f j:=⟨_,fun _=>rfl⟩;have hE2: ∀j,E1 j=if j<i then E0 j else E0 (j+1):=fun j=>by rw[<-hE1];split<;>exact hE0 _
 simp only[hE0,hE1];clear hE0 hE1;refine a0k Tryz.mixed okP g8n _ rfl fun E Sg hbs hS=> ?_;have e:=b2k hS;obtain⟨m,rfl⟩: ∃m,nl=m+1:=⟨nl-1,by omega⟩;have r1:Sg.inr .i64 (Sg.iadd (AB i) (AB 1)):=e1n hS (by omega);have r0:Sg.pile 0 0:=by subst hS;exact AE _
 have r3:Sg.pile (AB i) (Sg.ofNat (m+1)):=by subst hS;exact Int.ofNat_le.2 (by omega)
 cases i with
 |zero=>
  have c1:Sg.nsub (Sg.toNat (AB 0)) 0=0:=by subst hS;rfl
  have c2:Sg.nsub (Sg.toNat (Sg.ofNat (m+1))) (Sg.toNat (Sg.iadd (AB 0) (AB 1)))=m:=by subst hS;show (AB (m+1)).toNat-1=m;simp
  cbv;refine a1g hS r1 (a1g hS r0 (a1g hS r0 (a1g hS r3 (a1g hS (by subst hS;show (0:Int)<=1;decide) (a1g hS (by subst hS;show (1:Int)<=AB (m+1);simp only[AC];omega) (a1g hS (by subst hS;exact AE _) ?_))))));simp only[c1,c2];cases m with
  |zero=>cbv;refine a1g hS (c3d hS) ?_;refine a3x.agg (.cons (AA _) (.cons (AA _) (.cons ?_ (.cons (AA _) (.cons (AA _) (.cons (AA _) (.cons (AA _) (.cons (AA _) (.cons (AA _) (.cons (AA _) (.cons (AA _) (.cons (AA _) (.cons (AA _) .nil)))))))))))));exact AG rfl fun j hj=>absurd hj (AD j)
  |succ m=>cbv;refine a1g hS (c3d hS) (a1g hS (f1i hS (by omega)) (a1g hS (i2h hS (by omega)) (a1g hS (e8l hS (AH _)) ?_)));refine a3x.agg (.cons (AA _) (.cons (AA _) (.cons ?_ (.cons (AA _) (.cons (AA _) (.cons (AA _) (.cons (AA _) (.cons (AA _) (.cons (AA _) (.cons (AA _) (.cons (AA _) (.cons (AA _) (.cons (AA _) .nil)))))))))))));refine AG (by subst hS;exact Nat.zero_add _) fun j hj=> ?_;rw[hE2,if_neg (AD j)];subst hS;show (if j<0 then ([]:List DV) else E0 (((0:Int)+1).toNat+(j-0)))=E0 (j+1);rw[if_neg (AD j)];congr 1;omega
 |succ i=>
  obtain⟨k,hk⟩: ∃k,m-(i+1)=k:=⟨_,rfl⟩;have c1:Sg.nsub (Sg.toNat (AB (i+1))) 0=i+1:=by subst hS;rfl
  have c2:Sg.nsub (Sg.toNat (Sg.ofNat (m+1))) (Sg.toNat (Sg.iadd (AB (i+1)) (AB 1)))=k:=by rw[<-hk];subst hS;show (AB (m+1)).toNat-(AB (i+1)+1).toNat=m-(i+1);simp only[AC];omega
  cbv;refine a1g hS r1 (a1g hS r0 (a1g hS (by subst hS;exact Int.natCast_nonneg _) (a1g hS r3 (a1g hS (by subst hS;show (0:Int)<=AB (i+1)+1;simp only[AC];omega) (a1g hS (by subst hS;show AB (i+1)+1<=AB (m+1);simp only[AC];omega) (a1g hS (by subst hS;exact AE _) ?_))))));simp only[c1,c2];cbv;refine a1g hS (f1i hS (by omega)) (a1g hS (i2h hS (by omega)) (a1g hS (c3d hS) (a1g hS trivial (a1g hS (by subst hS;show 0+(i+1)+k<=1073741824;omega) (a1g hS (e8l hS (AH _)) ?_)))));refine a3x.agg (.cons (AA _) (.cons (AA _) (.cons ?_ (.cons (AA _) (.cons (AA _) (.cons (AA _) (.cons (AA _) (.cons (AA _) (.cons (AA _) (.cons (AA _) (.cons (AA _) (.cons (AA _) (.cons (AA _) .nil)))))))))))));refine AG (by subst hS;show 0+(i+1)+k=m;omega) fun j hj=> ?_;rw[hE2];subst hS;show (if j<0+(i+1) then (if j<0 then ([]:List DV) else E0 (j-0)) else E0 ((AB (i+1)+1).toNat+(j-(0+(i+1)))))=if j<i+1 then E0 j else E0 (j+1);by_cases hj2:j<i+1
  ·rw[if_pos (by omega),if_neg (AD j),if_pos hj2];rfl
  ·rw[if_neg (by omega),if_neg hj2];congr 1;simp only[AC];omega
def shf (i j:Nat):Nat:=if j<i then j else j+1
def PbR.del (K:PbR)(i:Nat):PbR:=⟨K.nl-1,fun j=>K.A (shf i j),fun j=>K.X (shf i j),K.G⟩
theorem PbR.del_can {K:PbR}{i:Nat}(hi:i<K.nl): ∀{n:Nat} {l:List Nat},(K.del i).can n l↔(K.wo i).can n l
 |0,_=>Iff.rfl
 |n+1,l=>by
  constructor
  ·rintro (h|⟨j,h1,h2,h3⟩)
   ·exact .inl h
   ·have h1':j<K.nl-1:=h1;refine .inr ⟨shf i j,?_,Bool.and_eq_true_iff.2 ⟨h2,decide_eq_true ?_⟩,fun v hv=>(PbR.del_can hi).1 (h3 v hv)⟩
    ·show shf i j<K.nl;unfold shf;split<;>omega
    ·unfold shf;split<;>omega
  ·rintro (h|⟨j,h1,h2,h3⟩)
   ·exact .inl h
   ·have h1':j<K.nl:=h1;obtain⟨h2,h4⟩:=Bool.and_eq_true_iff.1 h2;have h4:=of_decide_eq_true h4;obtain⟨t,ht,rfl⟩: ∃t,t<K.nl-1/\shf i t=j:=by
     rcases Nat.lt_or_ge j i with h|h
     ·exact⟨j,by omega,if_pos h⟩
     ·exact⟨j-1,by omega,by unfold shf;rw[if_neg (by omega)];omega⟩
    exact .inr ⟨t,ht,h2,fun v hv=>(PbR.del_can hi).2 (h3 v hv)⟩
theorem PbR.del_mind {K:PbR}{i:Nat}(hi:i<K.nl){n:Nat}{l:List Nat}:(K.del i).mind n l↔(K.wo i).mind n l:=by unfold PbR.mind;rw[PbR.del_can hi];exact and_congr_right fun _=>forall_congr' fun m=>imp_congr_right fun _=>not_congr (PbR.del_can hi)
theorem PbR.del_res {K:PbR}{i:Nat}(hi:i<K.nl){l:List Nat}{z:Bool}{d:Nat}{r:PlR}(h:(K.del i).res l z d r): ∃r',(K.wo i).res l z d r':=by
 cases z with
 |true=>obtain⟨h1,_⟩:=h.1 rfl;exact⟨_,fun _=>⟨(PbR.del_mind hi).1 h1,rfl⟩,fun e=>(by cases e)⟩
 |false=>obtain⟨h1,_,h3⟩:=h.2 rfl;exact⟨.none,fun e=>(by cases e),fun _=>⟨h1,rfl,fun n hn=>h3 n ((PbR.del_can hi).2 hn)⟩⟩
theorem CaR.wo_dg (c:CaR){i:Nat}(hi:i<c.nl)(j:Nat):(c.wo i).dg j=c.dg (shf i j):=by
 unfold CaR.dg CaR.wo shf;simp only;by_cases h:j<c.nl-1
 ·rw[if_pos h];by_cases h2:j<i
  ·rw[if_pos h2,if_pos h2,if_pos (show j<c.nl by omega)]
  ·rw[if_neg h2,if_neg h2,if_pos (show j+1<c.nl by omega)]
 ·rw[if_neg h,if_neg (show¬j<i by omega),if_neg (show¬j+1<c.nl by omega)];by_cases h3:j=c.nl-1
  ·rw[if_pos h3,if_pos (show j+1=c.nl by omega)]
  ·rw[if_neg h3,if_neg (show¬j+1=c.nl by omega)]
theorem k4y {i j n:Nat}(h:j<n-1+2)(hi:i<n):shf i j<n+2:=by unfold shf;split<;>omega
theorem CaR.fit.wo {c:CaR}(h:c.fit){i:Nat}(hi:i<c.nl):(c.wo i).fit:=
 ⟨h.ns,h.no,by show c.nl-1<=6;have:=h.nl;omega,fun j hj=>by rw[c.wo_dg hi];exact h.dg _ (k4y hj hi),fun j hj=>by rw[c.wo_dg hi];exact h.flt _ (k4y hj hi),fun j hj=>by rw[c.wo_dg hi];exact h.od _ (k4y hj hi)⟩
theorem CaR.ok.wo {c:CaR}{T:Nat}(h:c.ok T){i:Nat}(hi:i<c.nl):(c.wo i).ok T:=
 ⟨h.fit.wo hi,by show c.nl-1<=4;have:=h.nl;omega,h.fr,h.hT,fun j hj=>by rw[c.wo_dg hi];exact h.di _ (k4y hj hi),fun j hj=>by rw[c.wo_dg hi];exact h.Td _ (k4y hj hi),fun j hj=>by rw[c.wo_dg hi];exact h.err _ (k4y hj hi)⟩
theorem CaR.wo_X (c:CaR){i:Nat}(hi:i<c.nl)(j:Nat):(c.wo i).X j=c.X (shf i j):=by unfold CaR.X;rw[c.wo_dg hi]
theorem CaR.wo_P (c:CaR){i:Nat}(hi:i<c.nl)(T:Nat):(c.wo i).P T=c.P T:=by unfold CaR.P;rw[c.wo_X hi];show plc (c.X (shf i (c.nl-1))) T=_;rw[show shf i (c.nl-1)=c.nl by unfold shf;rw[if_neg (by omega)];omega]
theorem CaR.wo_G (c:CaR){i:Nat}(hi:i<c.nl):(c.wo i).G=c.G:=by unfold CaR.G;funext p;rw[c.wo_X hi];show decide (c.X (shf i (c.nl-1+1)) p=_)=_;rw[show shf i (c.nl-1+1)=c.nl+1 by unfold shf;rw[if_neg (by omega)];omega]
theorem CaR.wo_K (c:CaR){i:Nat}(hi:i<c.nl):(c.wo i).K=c.K.del i:=by unfold CaR.K PbR.del;rw[c.wo_G hi];congr 1;funext j;exact c.wo_X hi j
theorem CaR.K_wo_same (c:CaR)(i:Nat)(l:List Nat):(c.K.wo i).same (c.Kp fun j=>decide (j=i)) l:=
 ⟨rfl,fun j _=>by show (true&&decide (j≠i))=!(decide (j=i));simp,fun i hi p _=>by show c.X i p=cel c.nl c.X i p;unfold cel;rw[if_pos (show i<c.nl from hi)],fun _ _ _ _=>Iff.rfl⟩
end Go.Proofs.Tryz.Run
