/- LookDecides answers true. Conditions: none. -/
import Derived.Test.YtbglklaocjifhaaGreatFJq
open Go.Vf.a0x renaming refl->AA
open Go.Proofs.Tryz renaming prog->AB
open Int renaming ofNat->AC,ofNat_eq_natCast->AM,ofNat_lt->AS
open Bool renaming false->AD,true->AE
open Nat renaming zero_le->AF,le_refl->AU,not_lt_zero->AW,le_trans->AZ
open Go.Proofs.YtbglklaocjifhaaGreat.Tryz renaming mixed->AG
open Go.Vf.IX renaming v->AH
open List renaming cons_append->AI,nil_append->AK,length_pos_iff->AN,getD_eq_getElem?_getD->AQ,getElem?_eq_getElem->AR
open Go.Proofs.Tryz.Run.PlR renaming cut->AJ,wayO->AT,slim_cut->AX,cnt->AY,isP_cut->Aa
open Iff renaming rfl->AO
open Classical renaming byContradiction->AP
set_option linter.unusedSimpArgs false
set_option linter.unusedVariables false
set_option maxHeartbeats 0
set_option maxRecDepth 100000
namespace Go.Proofs.Tryz.Run
open Go Go.Vf Go.Proofs
open Go.Proofs.YtbglklaocjifhaaGreat
def PbR.dc (K:PbR):Nat->PlR->List Nat->Prop
 |0,p,l=>p.look= -1/\k1e K.G l
 |d+1,p,l=>(p.look= -1/\k1e K.G l)\/ ∃i:Nat,p.look=i/\i<K.nl/\p.nc=(cellsOf (K.X i) l).length/\(∀j,j<p.nc->p.c j=(cellsOf (K.X i) l).getD j ⟨0,0⟩)/\ ∀j,j<p.nc->PbR.dc K d (p.nx j) (K.pt i l j)
theorem PbR.dc_leaf {K:PbR}{d:Nat}{p:PlR}{l:List Nat}(h:p.look= -1):K.dc d p l↔k1e K.G l:=by
 cases d with
 |zero=>exact⟨fun h=>h.2,fun h'=>⟨h,h'⟩⟩
 |succ d=>exact⟨fun h'=>by
   rcases h' with h'|⟨i,h1,_⟩
   ·exact h'.2
   ·omega,fun h'=> .inl ⟨h,h'⟩⟩
theorem PbR.dc_node {K:PbR}{d i:Nat}{p:PlR}{l:List Nat}(h:p.look=i):K.dc (d+1) p l↔i<K.nl/\p.nc=(cellsOf (K.X i) l).length/\(∀j,j<p.nc->p.c j=(cellsOf (K.X i) l).getD j ⟨0,0⟩)/\ ∀j,j<p.nc->K.dc d (p.nx j) (K.pt i l j):=by
 constructor
 ·rintro (⟨h1,_⟩|⟨i',h1,h2⟩)
  ·omega
  ·obtain rfl:i'=i:=by omega
   exact h2
 ·exact fun h2=> .inr ⟨i,h,h2⟩
theorem PbR.dc_cut {K:PbR}: ∀(d k:Nat) (p:PlR) (l:List Nat),d<=k->(K.dc d (AJ k p) l↔K.dc d p l)
 |0,k,p,l,_=>by cases k<;>exact AO
 |d+1,k,p,l,h=>by obtain⟨k,rfl⟩: ∃m,k=m+1:=⟨k-1,by omega⟩;refine or_congr AO (exists_congr fun i=>and_congr AO (and_congr AO (and_congr AO (and_congr AO ?_))));exact forall_congr' fun j=>imp_congr_right fun _=>PbR.dc_cut d k (p.nx j) _ (by omega)
theorem PbR.same.dc {K K':PbR}: ∀{d:Nat} {p:PlR} {l:List Nat},K.same K' l->(K.dc d p l↔K'.dc d p l)
 |0,p,l,h=>and_congr AO h.dec
 |d+1,p,l,h=>or_congr (and_congr AO h.dec) (exists_congr fun i=>by
  rw[<-h.nl];refine and_congr_right fun _=>and_congr_right fun hi=> ?_;rw[j8q (h.X i hi)];refine and_congr_right fun hn=>and_congr_right fun _=>forall_congr' fun j=>imp_congr_right fun hj=> ?_;have hp:K.pt i l j=K'.pt i l j:=by unfold PbR.pt;rw[j8q (h.X i hi),j9d (h.X i hi)]
  rw[<-hp];exact PbR.same.dc (h.sub j8p))
theorem PlR.look_of {p:PlR}{lk:Int}{xs:List AV}(h:p.av= .agg (int lk::xs)):p.look=lk:=by have:=p.avE.symm.trans h;simp[int] at this;exact this.1
theorem PbR.dc_succ {K:PbR}: ∀{d:Nat} {p:PlR} {l:List Nat},K.dc d p l->K.dc (d+1) p l
 |0,_,_,h=> .inl h
 |_+1,_,_,.inl h=> .inl h
 |d+1,p,l,.inr ⟨i,h1,h2,h3,h4,h5⟩=> .inr ⟨i,h1,h2,h3,h4,fun j hj=>PbR.dc_succ (h5 j hj)⟩
theorem PbR.dc_le {K:PbR}{d e:Nat}{p:PlR}{l:List Nat}(h:K.dc d p l)(he:d<=e):K.dc e p l:=by
 obtain⟨k,rfl⟩: ∃k,e=d+k:=⟨e-d,by omega⟩;clear he
 induction k with
 |zero=>exact h
 |succ k ih=>exact PbR.dc_succ ih
theorem PbR.bt_dc {K:PbR}: ∀{n:Nat} {l:List Nat},K.can n l->K.dc n (K.bt n l) l
 |0,_,h=>⟨rfl,h⟩
 |n+1,l,h=>by
  by_cases hc:K.can n l
  ·rw[PbR.bt_le hc (by omega)];exact PbR.dc_succ (PbR.bt_dc hc)
  have hm:K.mind (n+1) l:=⟨h,fun m hm hc'=>hc (PbR.can_le hc' (by omega))⟩;obtain⟨f1,f2,f3⟩:=hm.fst;rw[f3];generalize j9f (K.sp n l) K.nl=i at f1 f2 f3⊢;refine .inr ⟨i,rfl,f1,rfl,fun j hj=>rfl,fun j hj=> ?_⟩;rw[k1a hj];exact PbR.bt_dc (PbR.pt_can f2 hj)
theorem PbR.dc_fnd {K:PbR}{i q:Nat}{p:PlR}{l:List Nat}(h3:p.nc=(cellsOf (K.X i) l).length)(h4: ∀j,j<p.nc->p.c j=(cellsOf (K.X i) l).getD j ⟨0,0⟩)(hq:q∈l): ∃j,j<p.nc/\fnd p.c (K.X i q) p.nc=some j/\q∈K.pt i l j:=by
 obtain⟨j,hj,e⟩:=k1f ((j7x (X:=K.X i)).2 ⟨q,hq,rfl⟩);cases hf:fnd p.c (K.X i q) p.nc with
 |none=>
  exfalso;have: ∀m,fnd p.c (K.X i q) m=none-> ∀j,j<m->p.c j≠K.X i q:=by
   intro m
   induction m with
   |zero=>intro _ j hj;exact absurd hj (AW j)
   |succ m ih=>
    intro h j hj;rw[fnd] at h;cases hm:fnd p.c (K.X i q) m with
    |some x=>rw[hm] at h;cases h
    |none=>
     rw[hm] at h;simp only at h;by_cases e:j=m
     ·subst e;intro e2;rw[if_pos e2] at h;cases h
     ·exact ih hm j (by omega)
  exact this _ hf j (by omega) ((h4 j (by omega)).trans e)
 |some m=>obtain⟨g1,g2,_⟩:=j5m hf;exact⟨m,g1,rfl,j8c.2 ⟨hq,by rw[<-h4 m g1];exact g2.symm⟩⟩
theorem PbR.dc_way {K:PbR}: ∀{n d:Nat} {p:PlR} {l:List Nat},K.dc n p l->n<=d-> ∀q,q∈l->
 (p.wayO K.nl (fun i=>K.X i q) d).2=AE/\(p.wayO K.nl (fun i=>K.X i q) d).1.length<=n/\ ∀x,x∈(p.wayO K.nl (fun i=>K.X i q) d).1->0<=x/\x<K.nl
 |0,d,p,l,h,_,q,hq=>by
  have:p.wayO K.nl (fun i=>K.X i q) d=([],AE):=by
   cases d with
   |zero=>rfl
   |succ d=>rw[AT,if_pos h.1]
  rw[this];exact⟨rfl,AU _,fun x hx=>by cases hx⟩
 |n+1,d,p,l,h,hd,q,hq=>by
  obtain⟨d,rfl⟩: ∃k,d=k+1:=⟨d-1,by omega⟩;rcases h with⟨h1,_⟩|⟨i,h1,h2,h3,h4,h5⟩
  ·rw[AT,if_pos h1];exact⟨rfl,AF _,fun x hx=>by cases hx⟩
  ·obtain⟨j,hj,hf,hq2⟩:=PbR.dc_fnd h3 h4 hq;obtain⟨g1,g2,g3⟩:=PbR.dc_way (h5 j hj) (show n<=d by omega) q hq2;rw[AT,if_neg (by omega),if_neg (by omega),show p.look.toNat=i by omega,hf];refine⟨g1,by simp only[List.length_cons];omega,fun x hx=> ?_⟩;rcases List.mem_cons.1 hx with rfl|hx
   ·omega
   ·exact g3 x hx
theorem PbR.dc_same {K:PbR}: ∀{n d:Nat} {p:PlR} {l:List Nat},K.dc n p l->n<=d-> ∀q,q∈l-> ∀r,r∈l->
 (∀x,x∈(p.wayO K.nl (fun i=>K.X i q) d).1->K.X x.toNat q=K.X x.toNat r)->K.G q=K.G r
 |0,d,p,l,h,_,q,hq,r,hr,_=>h.2 q hq r hr
 |n+1,d,p,l,h,hd,q,hq,r,hr,hx=>by
  obtain⟨d,rfl⟩: ∃k,d=k+1:=⟨d-1,by omega⟩;rcases h with⟨h1,h2⟩|⟨i,h1,h2,h3,h4,h5⟩
  ·exact h2 q hq r hr
  ·obtain⟨j,hj,hf,hq2⟩:=PbR.dc_fnd h3 h4 hq;have e:p.wayO K.nl (fun i=>K.X i q) (d+1)=(p.look::((p.nx j).wayO K.nl (fun i=>K.X i q) d).1,((p.nx j).wayO K.nl (fun i=>K.X i q) d).2):=by rw[AT,if_neg (by omega),if_neg (by omega),show p.look.toNat=i by omega,hf]
   rw[e] at hx;have h6:K.X i q=K.X i r:=by
    have:=hx p.look (by simp)
    rwa [show p.look.toNat=i by omega] at this
   have hr2:r∈K.pt i l j:=j8c.2 ⟨hr,by rw[<-h6];exact (j8c.1 hq2).2⟩;exact PbR.dc_same (h5 j hj) (show n<=d by omega) q hq2 r hr2 fun x hx'=>hx x (List.mem_cons_of_mem _ hx')
theorem k8z {c:CaR}(h:h6t c 0): ∀i,i<c.nl+2->c.same i:=by
 rcases h with⟨h1,h2⟩|⟨h1,⟨_,h2⟩|⟨h2,h3⟩⟩
 ·exact absurd h2.symm h1
 ·cases h2
 ·rcases h3 with⟨j,a,b,d,e⟩|⟨a,⟨b,_⟩|⟨_,b⟩⟩
  ·exact absurd e.symm d
  ·exact b
  ·cases b
theorem k9d {c:CaR}{T:Nat}(h:c.ok T)(hE:h6t c 0):h6t c.one 0:=by
 refine .inr ⟨h.fr,.inr ⟨h.nl,.inr ⟨fun j hj=> ?_,.inl ⟨fun j hj=> ?_,rfl⟩⟩⟩⟩
 ·show h5o (c.one.dg j)=0;have hj':j<c.nl+2:=hj;by_cases h1:j<c.nl
  ·rw[CaR.one_lk h1,<-c.dg_lk h1];exact h.err j hj'
  by_cases h2:j=c.nl
  ·subst h2;have:=c.one.dg_in;rw[show c.one.nl=c.nl from rfl] at this;rw[this];exact j5p h.fr
  ·obtain rfl:j=c.nl+1:=by omega
   have:=c.one.dg_goal;rw[show c.one.nl=c.nl from rfl] at this;rw[this];exact j5p h.fr
 ·have hj':j<c.nl+2:=hj;unfold CaR.same;by_cases h1:j<c.nl
  ·rw[CaR.one_lk h1,<-c.dg_lk h1];exact k8z hE j hj'
  by_cases h2:j=c.nl
  ·subst h2;have:=c.one.dg_in;rw[show c.one.nl=c.nl from rfl] at this;rw[this];exact⟨rfl,rfl⟩
  ·obtain rfl:j=c.nl+1:=by omega
   have:=c.one.dg_goal;rw[show c.one.nl=c.nl from rfl] at this;rw[this];exact⟨rfl,rfl⟩
theorem CaR.ok.way {c:CaR}{T:Nat}(h:c.ok T)(hE:h6t c 0)(p:PlR)(hp:p.ok)(hcnt:AY 6 p<300)(hP:p.isP 4){q:Nat}(hq:q<T){w:List Int}(hwy:p.wayO c.nl (fun l=>c.X l q) 4=(w,AE)):
 a0j AB AD 38 [c.av,p.av,isl c.ns (h5j c.sz c.ns q)] (.tuple [ilA w,int 0]):=by
 have hf:=h.fit;have hns:=hf.ns;have hno:=hf.no;have hnl:=hf.nl;have hl: ∀i,i<c.nl->(c.lk i).fit:=fun i hi=>by have:=hf.dg i (by omega);rwa [c.dg_lk hi] at this
 have h35:a0j AB AE 35 [(AJ 6 p).av] (int 0):=e0r p hp hcnt AE ⟨fun _=>hP,fun _=>rfl⟩;have h119:=h5l (by omega) (by omega) c.sz c.od 0 h.fr;have hE1:=k9d h hE;have h98:=i0p c.one (CaR.one_fit hf) 0 hE1;obtain⟨f1,f2,f3,f4,f5⟩:=h4s h.fr;have hs: ∀j,j<c.ns->1<=c.sz j:=fun j hj=>(f2 j hj).1;have hsq:=h5s hs q (by rw[<-h.hT];exact AS.2 hq);have hlk: ∀l,l<c.nl->h5o (c.lk l)=0/\(c.lk l).ns=c.ns/\ ∀j,j<c.ns->(c.lk l).sz j=c.sz j:=fun l hl=>by have e1:=h.err l (by omega);have e2:=(k8z hE l (by omega)).1;rw[c.dg_lk hl] at e1 e2;obtain⟨e3,e4⟩:=h7a.1 e2;exact⟨e1,e3,fun j hj=>e4 j (by omega)⟩
 have h121: ∀l,l<c.nl->a0j AB AD 121 [(c.lk l).av,isl c.ns (h5j c.sz c.ns q)] (.tuple [(c.X l q).av,int 0]):=fun l hl'=>by
  obtain⟨d1,d2,d3⟩:=hlk l hl';have hdi:=i0u d1;have hpc:i3i (c.lk l) (h5j c.sz c.ns q):=fun j hj=>by rw[d3 j (by omega)];exact hsq.1 j (by omega)
  have hsz: ∀j,j<c.ns->h5j (c.lk l).sz (c.lk l).ns q j=h5j c.sz c.ns q j:=by rw[d2];have k:=h5s (sz:=(c.lk l).sz) (n:=c.ns) (fun j hj=>by rw[d3 j hj];exact hs j hj) q (by rw[h6k d3,<-h.hT];exact AS.2 hq);exact j4w (sz:=c.sz) (fun j hj=>by rw[<-d3 j hj];exact k.1 j hj) hsq.1 ((j4v d3).symm.trans (k.2.trans hsq.2.symm))
  have hflt: ∀j,j<(c.lk l).ne->0<=((c.lk l).en j).fault:=by have:=hf.flt l (by omega);rwa [c.dg_lk hl'] at this
  have hod:(c.lk l).no<=12:=by have:=hf.od l (by omega);rw[c.dg_lk hl'] at this;omega
  have:=j6k (c.lk l) (hl l hl') hflt hod d1 (h5j c.sz c.ns q) hpc (c.X l q) (by
   show _=(c.dg l).cell q;rw[c.dg_lk hl'];unfold DiR.cell;rw[i0e hdi.loose (u:=h5j c.sz c.ns q) (fun j hj=>hsz j (by omega)) (fun j hj=>by rw[hsz j (by omega)];exact hpc j hj) hpc _ (h4g hdi.loose.2.2)])
  rwa [d2] at this
 have hw2:(AJ 6 p).wayO c.nl (fun l=>c.X l q) 4=(w,AE):=by rw[PlR.wayO_cut 4 6 p (by omega)];exact hwy
 have h84:a0j AB AD 84 [(AJ 6 p).av,isl c.ns c.sz,isl c.no c.od,dsl c.nl c.lk,isl c.ns (h5j c.sz c.ns q)] (.tuple [ilA w,int 0]):=by refine j6l (AJ 6 p) (AX 6 p hcnt 4) (by omega) (by omega) hnl (fun l=>c.X l q) h35 (fun _=>(Aa 4 6 p (by omega)).2 hP) h119 (fun _=>j5o (by omega) (by omega) h.fr h119) (fun _=>h98) (fun _ _=>h121) _ _ 0 (fun h=>absurd rfl h) (fun _ h=>absurd rfl h) (fun _ _ h=>absurd rfl h) (fun _ _ _ h3=>absurd ⟨rfl,fun j hj=>hsq.1 j hj⟩ h3) (fun _ _ _ _=> ?_);rw[hw2];exact⟨fun _=>⟨rfl,fun _ _=>rfl,rfl⟩,fun h=>by cases h⟩
 exact j6m c hns hno hnl hl p (AJ 6 p) (by omega) (d1z p hcnt) h84
section
variable {P:Program} {A:Ann} {ro:Option Nat} {E:Ent} {Sg:Sig}
theorem k7w (hS:Sg=std P A ro E){z:Int}(h:0<=z/\z<=255):Sg.iwrap .i64 z=z:=by rw[(b2k hS).iwrap];exact b6g (by omega) (by omega)
theorem k7o (hS:Sg=std P A ro E){z:Int}{n:Nat}(h:0<=z):Sg.irem z (Sg.ofNat n)=((z.toNat % n:Nat):Int):=by rw[(b2k hS).irem,(b2k hS).ofNat];obtain⟨k,rfl⟩: ∃k:Nat,z=k:=⟨z.toNat,by omega⟩;rw[Int.toNat_natCast,Int.tmod_eq_emod_of_nonneg h];rfl
theorem k7t (hS:Sg=std P A ro E){n:Nat}(h:n≠0):Sg.nz (Sg.ofNat n):=by subst hS;exact fun h2=>h (Int.ofNat.inj h2)
end
theorem k8x (c:CaR)(u:Int)(h48:a0j AB AE 48 [c.av] (bool AD)):a0j AB AE 9 [c.av,u8 u] (bool AE):=by
 have haw:=c4a;obtain⟨ns,sz,no,od,nl,lk,⟨ins,isz,ino,iod,ine,ien,inn,ivar,ink,ikid,iroot⟩,⟨gns,gsz,gno,god,gne,gen,gnn,gvar,gnk,gkid,groot⟩⟩:=c;simp only[CaR.av,DiR.cs,AI,AK] at*
 refine a1e (a0k AG okP ok9 _ rfl fun E Sg hbs hS=> ?_);cbv;refine a0v hS _ h48 ?_;cbv;refine a0v hS _ haw ?_;cbv;exact AA _
theorem k9b (c:CaR)(u:Int){nl n T:Nat}{W:Nat->Int}{X:Nat->Nat->VaR}{G:Nat->Bool}(h48:a0j AB AE 48 [c.av] (bool AE))(h29:a0j AB AD 29 [c.av] (.tuple [isl n W,.agg (knC nl T X G)]))(h20:a0j AB AD 20 [c.av] (.tuple [PlR.none.av,int 0,int 7])):a0j AB AE 9 [c.av,u8 u] (bool AE):=by
 have haw:=c4a;have h27:=k2y;rw[PlR.none_av] at h20 h27;obtain⟨C0,hC0⟩: ∃f:Nat->List DV,(fun _=>(VaR.mk 0 0).row)=f:=⟨_,rfl⟩;obtain⟨D0,hD0⟩: ∃f:Nat->List DV,(fun _=>d4k)=f:=⟨_,rfl⟩;rw[hC0,hD0] at h20 h27;obtain⟨ns,sz,no,od,nl',lk,⟨ins,isz,ino,iod,ine,ien,inn,ivar,ink,ikid,iroot⟩,⟨gns,gsz,gno,god,gne,gen,gnn,gvar,gnk,gkid,groot⟩⟩:=c;simp only[CaR.av,DiR.cs,AI,AK,knC] at*
 refine a1e (a0k AG okP ok9 _ rfl fun E Sg hbs hS=> ?_);have e:=b2k hS;cbv;refine a0v hS _ h48 ?_;cbv;refine a0v hS _ h29 ?_;cbv;refine a0v hS _ h20 ?_;cbv;simp only[e.ieq,e.bnot,BEq.rfl];cbv;simp only[e.ieq,e.bnot,BEq.rfl];cbv;refine a0v hS _ h27 ?_;cbv;refine a0v hS _ haw ?_;cbv;exact AA _
theorem k9a (c:CaR)(u:Int)(hu:0<=u/\u<=255)(hnl:c.nl<=4){n T:Nat}(hn6:n<=1000000)(hT:T<=1000000){W:Nat->Nat}(hW: ∀j,j<n->W j<T){X:Nat->Nat->VaR}{G:Nat->Bool}{r:PlR}{d:Nat}(hd:d<=4)
 (h48:a0j AB AE 48 [c.av] (bool AE)) (h29:a0j AB AD 29 [c.av] (.tuple [isl n fun j=>(W j:Int),.agg (knC c.nl T X G)])) (h20:a0j AB AD 20 [c.av] (.tuple [r.av,int d,int 0])) (h23:a0j AB AE 23 [r.av] (bool AE)) (h47:a0j AB AE 47 [c.av,r.av] (bool AE))
 {S:Nat->Nat->Int} (h34: ∀j,j<n->a0j AB AD 34 [isl c.ns c.sz,int (W j)] (isl c.ns (S j))) {N:Nat->Nat} {B:Nat->Nat->Int} (h38: ∀j,j<n->a0j AB AD 38 [c.av,r.av,isl c.ns (S j)] (.tuple [isl (N j) (B j),int 0]))
 {k:Nat} (hk0:k<n) (hk:k=u.toNat % n) (hNk:N k<=d) {A:Nat->Nat} (hA: ∀t,t<N k->B k t=(A t:Int)/\A t<c.nl) {s:Nat->Bool} (h33: ∀j,j<n->a0j AB AE 33 [isl (N k) (B k),isl (N j) (B j)] (bool (s j)))
 (hlaw: ∀j,j<n->s j=AE->(∀t,t<N k->X (A t) (W k)=X (A t) (W j))->G (W k)=G (W j)):a0j AB AE 9 [c.av,u8 u] (bool AE):=by
 have haw:=c4a;obtain⟨lk',nc,nn,C,D,h1,_⟩:=r.avX;rw[h1] at h20 h23 h47;simp only[h1] at h38;clear h1;obtain⟨AL,hAL0,hALs⟩: ∃AL:Nat->Nat->Bool,(∀j,AL j 0=s j)/\ ∀j t,AL j (t+1)=(AL j t&&decide (X (A t) (W k)=X (A t) (W j))):=⟨fun j t=>Nat.rec (s j) (fun t b=>b&&decide (X (A t) (W k)=X (A t) (W j))) t,fun _=>rfl,fun _ _=>rfl⟩;have hALt: ∀j t,AL j t=AE->s j=AE/\ ∀t',t'<t->X (A t') (W k)=X (A t') (W j):=fun j t=>by
  induction t with
  |zero=>intro h;exact⟨by rw[<-hAL0];exact h,fun t' ht=>absurd ht (AW t')⟩
  |succ t ih=>
   intro h;rw[hALs,Bool.and_eq_true] at h;obtain⟨g1,g2⟩:=ih h.1;exact⟨g1,fun t' ht=>by
    by_cases e:t'=t
    ·subst e;exact of_decide_eq_true h.2
    ·exact g2 t' (by omega)⟩
 obtain⟨ns,sz,no,od,nl',lk,⟨ins,isz,ino,iod,ine,ien,inn,ivar,ink,ikid,iroot⟩,⟨gns,gsz,gno,god,gne,gen,gnn,gvar,gnk,gkid,groot⟩⟩:=c;simp only[CaR.av,DiR.cs,AI,AK,knC] at*
 obtain⟨F1,hF1⟩: ∃f:Nat->Nat->Int,∀i p,(X i p).fault=f i p:=⟨fun i p=>_,fun _ _=>rfl⟩;obtain⟨F2,hF2⟩: ∃f:Nat->Nat->Int,∀i p,(X i p).n=f i p:=⟨fun i p=>_,fun _ _=>rfl⟩;have hv: ∀a b:VaR,a.fault=b.fault->a.n=b.n->a=b:=fun a b h1 h2=>by cases a;cases b;simp only at h1 h2;subst h1 h2;rfl
 have hXe: ∀i p q,X i p=X i q↔F1 i p=F1 i q/\F2 i p=F2 i q:=fun i p q=>by rw[<-hF1,<-hF1,<-hF2,<-hF2];exact⟨fun h=>by rw[h];exact⟨rfl,rfl⟩,fun h=>hv _ _ h.1 h.2⟩
 simp only[VaR.row,hF1,hF2] at h29;clear hF1 hF2;refine a1e (a0k AG okP ok9 _ rfl fun E Sg hbs hS=> ?_);have e:=b2k hS;have en: ∀k:Nat,nat Sg (AH (AC k))=k:=fun k=>by show Sg.toNat (AC k)=k;rw[e.toNat];rfl
 have grem:Sg.irem (Sg.iwrap .i64 u) (Sg.ofNat n)=AC k:=by rw[k7w hS hu,k7o hS hu.1,hk];rfl
 have gnz:Sg.nz (Sg.ofNat n):=k7t hS (by omega);have h34k:=h34 k hk0;have h38k:=h38 k hk0;have gle:Sg.ilt (AC d) (Sg.ofNat (N k))=AD:=by rw[e.ilt,e.ofNat];exact decide_eq_false (by simp only[AM];omega)
 have wk:=hW k hk0;clear hk;cbv;refine a0v hS _ h48 ?_;cbv;refine a0v hS _ h29 ?_;cbv;refine a0v hS _ h20 ?_;cbv;simp only[e.ieq,e.bnot,BEq.rfl];cbv;refine a0v hS _ h23 ?_;cbv;refine a0v hS _ h47 ?_;cbv;refine a1g hS gnz ?_;simp only[grem];refine a1g hS (a5p hS hk0) ?_;simp only[en];cbv;refine a0v hS _ h34k ?_;cbv;refine a1g hS (c3d hS) (a1g hS (c3d hS) ?_);refine a0v hS _ h38k ?_;cbv;simp only[e.ieq,e.bnot,BEq.rfl,gle];cbv;simp only[gle];cbv;refine e4p AG okP hS (σ:=Nat×List Nat) (fun s=>s.1<=N k) (fun s=>N k-s.1)
  (fun s=>⟨b5r [(2,.ptr 0 0),(5,isl n fun j=>(W j:Int)),(6,.ptr 1 0),(7,.ptr 2 0),(10,int (W k)),(11,isl (N k) (B k)),(13,int s.1)] 178,
    [.var [isl ns sz,isl no od,dsl nl' lk,isl ins isz,isl ino iod,vsl ine ien,bsl inn ivar ink ikid,int iroot,isl gns gsz,isl gno god,vsl gne gen,bsl gnn gvar gnk gkid,int groot],.var [.d (.sl 1 nl' fun i=>[.sl 2 T fun p=>[.int .u8 (.v (F1 i p)),.int .i64 (.v (F2 i p))]]),.d (.sl 1 T fun p=>[.bool (G p)])],.var [int lk',.d (.sl 2 nc C),.d (.sl 3 nn D)]],s.2⟩) (0,[]) (AF _) ?_ ?_
 ·exact b4w.le (a4c rfl ⟨AA _,AA _,AA _,AA _,AA _,AA _,a6c rfl,trivial⟩ (.cons (.refl _) (.cons (.refl _) (.cons (.refl _) (.nil _)))) (by rw[hbs];exact AF _) (.inl ⟨rfl,rfl⟩) (j7y _))
 rintro⟨t,mv⟩ ht NX hNX;simp only at ht;cbv;split
 ·rename_i h;have htl:t<N k:=d3r hS h;obtain⟨b1,b2⟩:=hA t htl;have g1:Sg.ilt (B k t) (AC 0)=AD:=by rw[e.ilt,b1];exact decide_eq_false (Int.not_lt.2 (Int.natCast_nonneg (A t)))
  have g2:Sg.ile (Sg.ofNat nl') (B k t)=AD:=by rw[e.ile,e.ofNat,b1];exact decide_eq_false fun h=>absurd (Int.ofNat_le.1 h) (Nat.not_le.2 b2)
  cbv;refine a1g hS (a5p hS htl) ?_;simp only[en,g1];cbv;refine a1g hS (a5p hS htl) ?_;simp only[en,g2];cbv;refine a1g hS (e1n hS (by omega)) ?_;exact hNX (t+1,mv) _ htl (by simp only;omega) (b4w.le (a4c rfl ⟨AA _,AA _,AA _,AA _,AA _,AA _,b2s hS,trivial⟩ (.cons (.refl _) (.cons (.refl _) (.cons (.refl _) (.nil _)))) (by rw[hbs];exact AF _) (.inl ⟨rfl,rfl⟩) (j7y _)))
 clear hNX;cbv;refine e4p AG okP hS (σ:=Nat×List Nat) (fun s=>s.1<=n) (fun s=>n-s.1)
  (fun s=>⟨b5r [(2,.ptr 0 0),(5,isl n fun j=>(W j:Int)),(6,.ptr 1 0),(7,.ptr 2 0),(10,int (W k)),(11,isl (N k) (B k)),(14,int s.1)] 178,
    [.var [isl ns sz,isl no od,dsl nl' lk,isl ins isz,isl ino iod,vsl ine ien,bsl inn ivar ink ikid,int iroot,isl gns gsz,isl gno god,vsl gne gen,bsl gnn gvar gnk gkid,int groot],.var [.d (.sl 1 nl' fun i=>[.sl 2 T fun p=>[.int .u8 (.v (F1 i p)),.int .i64 (.v (F2 i p))]]),.d (.sl 1 T fun p=>[.bool (G p)])],.var [int lk',.d (.sl 2 nc C),.d (.sl 3 nn D)]],s.2⟩) (0,mv) (AF _) ?_ ?_
 ·exact b4w.le (a4c rfl ⟨AA _,AA _,AA _,AA _,AA _,AA _,a6c rfl,trivial⟩ (.cons (.refl _) (.cons (.refl _) (.cons (.refl _) (.nil _)))) (by rw[hbs];exact AF _) (.inl ⟨rfl,rfl⟩) (j7y _))
 rintro⟨j,mv2⟩ hj NX hNX;simp only at hj;cbv;split
 rotate_left
 ·cbv;refine a0v hS _ haw ?_;cbv;exact AA _
 rename_i h;have hjl:j<n:=d3r hS h;have h34j:=h34 j hjl;have h38j:=h38 j hjl;have h33j:=h33 j hjl;rw[<-hAL0] at h33j;have wj:=hW j hjl;have hlj:=hlaw j hjl;cbv;refine a1g hS (a5p hS hjl) ?_;simp only[en];refine a0v hS _ h34j ?_;cbv;refine a1g hS (c3d hS) (a1g hS (c3d hS) ?_);refine a0v hS _ h38j ?_;cbv;simp only[e.ieq,e.bnot,BEq.rfl];cbv;refine a0v hS _ h33j ?_;cbv;refine e4p AG okP hS (σ:=Nat×List Nat) (fun s=>s.1<=N k) (fun s=>N k-s.1)
  (fun s=>⟨b5r [(2,.ptr 0 0),(5,isl n fun j=>(W j:Int)),(6,.ptr 1 0),(7,.ptr 2 0),(10,int (W k)),(11,isl (N k) (B k)),(14,int j),(17,bool (AL j s.1)),(18,int s.1)] 178,
    [.var [isl ns sz,isl no od,dsl nl' lk,isl ins isz,isl ino iod,vsl ine ien,bsl inn ivar ink ikid,int iroot,isl gns gsz,isl gno god,vsl gne gen,bsl gnn gvar gnk gkid,int groot],.var [.d (.sl 1 nl' fun i=>[.sl 2 T fun p=>[.int .u8 (.v (F1 i p)),.int .i64 (.v (F2 i p))]]),.d (.sl 1 T fun p=>[.bool (G p)])],.var [int lk',.d (.sl 2 nc C),.d (.sl 3 nn D)]],s.2⟩) (0,mv2) (AF _) ?_ ?_
 ·exact b4w.le (a4c rfl ⟨AA _,AA _,AA _,AA _,AA _,AA _,AA _,AA _,a6c rfl,trivial⟩ (.cons (.refl _) (.cons (.refl _) (.cons (.refl _) (.nil _)))) (by rw[hbs];exact AF _) (.inl ⟨rfl,rfl⟩) (j7y _))
 rintro⟨t2,mv3⟩ ht2 NY hNY;simp only at ht2;obtain⟨al,hal⟩: ∃b,AL j t2=b:=⟨_,rfl⟩;have hals:=hALs j t2;have halt:=hALt j t2;rw[hal] at hals halt;simp only[hal];cbv;split
 ·rename_i h;have htl:t2<N k:=d3r hS h;obtain⟨b1,b2⟩:=hA t2 htl;cases al
  ·cbv;refine a1g hS (e1n hS (by omega)) ?_;exact hNY (t2+1,mv3) _ htl (by simp only;omega) (b4w.le (a4c rfl ⟨AA _,AA _,AA _,AA _,AA _,AA _,AA _,a0s (by rw[hals];rfl),b2s hS,trivial⟩ (.cons (.refl _) (.cons (.refl _) (.cons (.refl _) (.nil _)))) (by rw[hbs];exact AF _) (.inl ⟨rfl,rfl⟩) (j7y _)))
  ·cbv;have en': ∀k:Nat,nat Sg (AH ((k:Nat):Int))=k:=en;refine a1g hS (a5p hS htl) ?_;refine a1g hS (a5p hS htl) (a1g hS (a5p hS hjl) (a1g hS ?_ (a1g hS (a5p hS wk) (a1g hS ?_ (a1g hS ?_ (a1g hS (e1n hS (by omega)) ?_))))))
   ·show Sg.inb (B k (nat Sg (AH (AC t2)))) nl';rw[en t2,b1];exact a5p hS b2
   ·show Sg.inb (B k (nat Sg (AH (AC t2)))) nl';rw[en t2,b1];exact a5p hS b2
   ·show Sg.inb (AC (W (nat Sg (AH (AC j))))) T;rw[en j];exact a5p hS wj
   refine hNY (t2+1,mv3) _ htl (by simp only;omega) (b4w.le (a4c rfl ⟨AA _,AA _,AA _,AA _,AA _,AA _,AA _,a0s ?_,b2s hS,trivial⟩ (.cons (.refl _) (.cons (.refl _) (.cons (.refl _) (.nil _)))) (by rw[hbs];exact AF _) (.inl ⟨rfl,rfl⟩) (j7y _)));show Sg.band (Sg.ieq (F1 (nat Sg (AH (B k (nat Sg (AH (AC t2)))))) (nat Sg (AH (AC (W k))))) (F1 (nat Sg (AH (B k (nat Sg (AH (AC t2)))))) (nat Sg (AH (AC (W (nat Sg (AH (AC j)))))))))
    (Sg.band (Sg.ieq (F2 (nat Sg (AH (B k (nat Sg (AH (AC t2)))))) (nat Sg (AH (AC (W k))))) (F2 (nat Sg (AH (B k (nat Sg (AH (AC t2)))))) (nat Sg (AH (AC (W (nat Sg (AH (AC j))))))))) AE)=AL j (t2+1)
   rw[hals,en t2,b1,en' (A t2),en (W k),en j,en (W j),e.band,e.band,e.ieq,e.ieq,Bool.true_and,Bool.and_true];by_cases hx:X (A t2) (W k)=X (A t2) (W j)
   ·obtain⟨x1,x2⟩:=(hXe _ _ _).1 hx;rw[decide_eq_true hx,x1,x2];simp
   ·rw[decide_eq_false hx];by_cases x1:F1 (A t2) (W k)=F1 (A t2) (W j)
    ·have x2:F2 (A t2) (W k)≠F2 (A t2) (W j):=fun h=>hx ((hXe _ _ _).2 ⟨x1,h⟩);rw[beq_false_of_ne x2,Bool.and_false]
    ·rw[beq_false_of_ne x1];rfl
 ·rename_i h;have htl:t2=N k:=by have:=d3c hS h;omega
  have gg':al=AE->Sg.bnot (Sg.beq (G (W k)) (G (W j)))=AD:=fun h=>by obtain⟨q1,q2⟩:=halt h;rw[htl] at q2;rw[hlj q1 q2,e.beq,e.bnot];simp
  clear halt;cases al
  ·cbv;refine a1g hS (e1n hS (by omega)) ?_;exact hNX (j+1,mv3) _ hjl (by simp only;omega) (b4w.le (a4c rfl ⟨AA _,AA _,AA _,AA _,AA _,AA _,b2s hS,trivial⟩ (.cons (.refl _) (.cons (.refl _) (.cons (.refl _) (.nil _)))) (by rw[hbs];exact AF _) (.inl ⟨rfl,rfl⟩) (j7y _)))
  ·have gg:=gg' rfl;have gg2:Sg.bnot (Sg.beq (G (nat Sg (AH (AC (W k))))) (G (nat Sg (AH (AC (W (nat Sg (AH (AC j)))))))))=AD:=by rw[en j,en (W k),en (W j)];exact gg
   cbv;refine a1g hS (a5p hS hjl) (a1g hS (a5p hS wk) (a1g hS ?_ ?_))
   ·show Sg.inb (AC (W (nat Sg (AH (AC j))))) T;rw[en j];exact a5p hS wj
   simp only[gg2];cbv;refine a1g hS (e1n hS (by omega)) ?_;exact hNX (j+1,mv3) _ hjl (by simp only;omega) (b4w.le (a4c rfl ⟨AA _,AA _,AA _,AA _,AA _,AA _,b2s hS,trivial⟩ (.cons (.refl _) (.cons (.refl _) (.cons (.refl _) (.nil _)))) (by rw[hbs];exact AF _) (.inl ⟨rfl,rfl⟩) (j7y _)))
def k8w:a0c×a0c:=match g7d with
 | .seq _ (.seq _ (.seq _ (.seq _ (.seq (.seq _ (.block _ (.range _ _ a b))) _))))=>(a,b)
 |_=>(.ret,.ret)
def k8d (s:LSt):a0f:= .loop s (b5r [(3,.ptr 0 0),(4,.ptr 1 0),(6,.ptr 2 0),(7,.ptr 3 0)] 60) [26,27] (fun ca cb=>comp AB g2i.A ca=some k8w.1/\comp AB g2i.A cb=some k8w.2)
def k7z (trow:List DV)(l:Int)(nc:Nat)(A B:Nat->Int)(nn:Nat)(lk:Nat->Int)(ncs nns:Nat->Nat)(C D:Nat->Nat->List DV)(p:Nat)(sn:Nat)(se:Nat->List DV)(lp:a0f):List a0f:=
 [.var [.dptr trow 0],.var [int l,.d (.sl 2 nc fun j=>[.int .u8 (.v (A j)),.int .i64 (.v (B j))]),.d (.sl 3 nn fun i=>[.int .i64 (.v (lk i)),.sl 2 (ncs i) (C i),.sl 3 (nns i) (D i)])],.var [bool AD],.var [int p],.var [.d (.sl 9 sn se)],.var [int l],lp]
theorem k8q (trow:List DV)(l:Int)(nc:Nat)(A B:Nat->Int)(nn:Nat)(lk:Nat->Int)(ncs nns:Nat->Nat)(C D:Nat->Nat->List DV)(p:Nat)(sn:Nat)(se:Nat->List DV)(n:Nat)(e9:Nat->List DV)(vf vn:Int)(z:Bool)(hnc:nc<=1000000)(hp:p<=nc)(hnn:nc<=nn)
 (h1:p=nc->z=AD) (h2:p<nc-> ¬(A p=vf/\B p=vn)->z=AD) (h3:p<nc->A p=vf->B p=vn->a0j AB AD 124 [.dptr trow 0,.agg [int (lk p),.d (.sl 2 (ncs p) (C p)),.d (.sl 3 (nns p) (D p))],.d (.sl 9 n e9)] (bool z)):
 b5d AB 6 [.agg [u8 vf,int vn],.msl 7 9 none n AD] (a2u (k7z trow l nc A B nn lk ncs nns C D p sn se (k8d .ready)) [.arr 9 n e9])
  (fun pg v h'=>(∀x,x∈pg->x∈([]:List Nat))/\v= .d (.bool z)/\ ∃o,h'=a2u (if z=AE then k7z trow l nc A B nn lk ncs nns C D (p+1) sn se (k8d .ready) else k7z trow l nc A B nn lk ncs nns C D p sn se (k8d (.done .ret))) [o]):=by
 refine b5d.cut (b9t AG okP (A:=g2i.A) rfl (fun _ _ h=>h) rfl fun ro E Sg hS=> ?_);have e:=b2k hS;have en: ∀k:Nat,nat Sg (AH (AC k))=k:=fun k=>by show Sg.toNat (AC k)=k;rw[e.toNat];rfl
 by_cases c1:p=nc
 ·have g1:Sg.ieq (AC p) (Sg.ofNat nc)=AE:=j6i hS c1;have hz:=h1 c1;subst hz;cbv;refine⟨fun h=>(nomatch h),_,_,_,rfl,?_⟩;cbv;simp only[g1];cbv;refine⟨fun h=>(nomatch h),_,_,_,rfl,[],fun m _ h=>h,?_⟩;refine⟨a2u (k7z trow l nc A B nn lk ncs nns C D p sn se (k8d (.done .ret))) [.arr 9 n e9],.d (.bool AD),?_,AA _,by simp[k7z,a2u],.inl ⟨rfl,rfl⟩,fun x h=>(nomatch h),rfl,_,rfl⟩;exact .cons (.refl _) (.cons (.refl _) (.cons (.refl _) (.cons (.refl _) (.cons (.refl _) (.cons (.refl _) (.cons (.refl _) (.cons (.refl _) (.nil _))))))))
 have c2:p<nc:=by omega
 have g1:Sg.ieq (AC p) (Sg.ofNat nc)=AD:=j6f hS c1;by_cases c3:A p=vf/\B p=vn
 rotate_left
 ·have hz:=h2 c2 c3;subst hz;have g3:Sg.bnot (Sg.band (Sg.ieq (A p) vf) (Sg.band (Sg.ieq (B p) vn) AE))=AE:=by
   rw[e.bnot,e.band,e.band,e.ieq,e.ieq];by_cases q1:A p=vf
   ·have q2:B p≠vn:=fun h=>c3 ⟨q1,h⟩;rw[q1,beq_false_of_ne q2];simp
   ·rw[beq_false_of_ne q1];rfl
  cbv;refine⟨fun h=>(nomatch h),_,_,_,rfl,?_⟩;cbv;simp only[g1];cbv;refine a1g hS (a5p hS c2) ?_;simp only[en,g3];cbv;refine⟨fun h=>(nomatch h),_,_,_,rfl,[],fun m _ h=>h,?_⟩;refine⟨a2u (k7z trow l nc A B nn lk ncs nns C D p sn se (k8d (.done .ret))) [.arr 9 n e9],.d (.bool AD),?_,AA _,by simp[k7z,a2u],.inl ⟨rfl,rfl⟩,fun x h=>(nomatch h),rfl,_,rfl⟩;exact .cons (.refl _) (.cons (.refl _) (.cons (.refl _) (.cons (.refl _) (.cons (.refl _) (.cons (.refl _) (.cons (.refl _) (.cons (.refl _) (.nil _))))))))
 have h124:=h3 c2 c3.1 c3.2;have g3:Sg.bnot (Sg.band (Sg.ieq (A p) vf) (Sg.band (Sg.ieq (B p) vn) AE))=AD:=by rw[e.bnot,e.band,e.band,e.ieq,e.ieq,c3.1,c3.2];simp
 cbv;refine⟨fun h=>(nomatch h),_,_,_,rfl,?_⟩;cbv;simp only[g1];cbv;refine a1g hS (a5p hS c2) ?_;simp only[en,g3];cbv;refine a1g hS (a5p hS (show p<nn by omega)) ?_;simp only[en];refine a1g hS (e8l hS (AU _)) ?_;refine a0v hS _ h124 ?_;cases z
 ·cbv;refine⟨fun h=>(nomatch h),_,_,_,rfl,[],fun m _ h=>h,?_⟩;refine⟨a2u (k7z trow l nc A B nn lk ncs nns C D p sn se (k8d (.done .ret))) [.frz 9 n e9],.d (.bool AD),?_,AA _,by simp[k7z,a2u],.inl ⟨rfl,rfl⟩,fun x h=>(nomatch h),rfl,_,rfl⟩;exact .cons (.refl _) (.cons (.refl _) (.cons (.refl _) (.cons (.refl _) (.cons (.refl _) (.cons (.refl _) (.cons (.refl _) (.cons (.refl _) (.nil _))))))))
 ·cbv;refine a1g hS (e1n hS (by omega)) ?_;refine⟨fun h=>(nomatch h),_,_,_,rfl,[],fun m _ h=>h,?_⟩;refine⟨a2u (k7z trow l nc A B nn lk ncs nns C D (p+1) sn se (k8d .ready)) [.frz 9 n e9],.d (.bool AE),?_,AA _,by simp[k7z,a2u],.inl ⟨rfl,rfl⟩,fun x h=>(nomatch h),rfl,_,rfl⟩;exact .cons (.refl _) (.cons (.refl _) (.cons (.refl _) (.cons (.var (.cons (b2s hS) .nil)) (.cons (.refl _) (.cons (.refl _) (.cons (.refl _) (.cons (.refl _) (.nil _))))))))
theorem k8b {x0 x1:DV}{tl:List DV}{nl n:Nat}{se:Nat->List DV}(p:PlR)(h0:p.look= -1){r:Bool}(h130:a0j AB AE 130 [.d (.sl 9 n se)] (bool r)):
 a0j AB AD 124 [.dptr (x0::x1:: .int .i64 (.v nl)::tl) 0,p.av,.d (.sl 9 n se)] (bool r):=by
 obtain⟨lk,nc,nn,C,D,h1,h2⟩:=p.avX;have h3:lk= -1:=(PlR.look_of h1).symm.trans h0;subst h3;rw[h1];refine a0k AG okP f0c _ rfl fun E Sg hbs hS=> ?_;have e:=b2k hS;have g1:Sg.ilt (-1) (AC 0)=AE:=by rw[e.ilt];rfl
 cbv;simp only[g1];cbv;refine a0v hS _ h130 ?_;cbv;exact AA _
theorem k8i {x0 x1:DV}{tl:List DV}{nl n:Nat}{se:Nat->List DV}(p:PlR)(h0:(nl:Int)<=p.look):
 a0j AB AD 124 [.dptr (x0::x1:: .int .i64 (.v nl)::tl) 0,p.av,.d (.sl 9 n se)] (bool AD):=by
 obtain⟨lk,nc,nn,C,D,h1,h2⟩:=p.avX;have h3:(nl:Int)<=lk:=by rw[<-PlR.look_of h1];exact h0
 rw[h1];refine a0k AG okP f0c _ rfl fun E Sg hbs hS=> ?_;have e:=b2k hS;have g1:Sg.ilt lk (AC 0)=AD:=by rw[e.ilt];exact decide_eq_false (by show¬lk<0;omega)
 have g2:Sg.ile (AC nl) lk=AE:=by rw[e.ile];exact decide_eq_true h3
 cbv;simp only[g1];cbv;simp only[g2];cbv;exact AA _
theorem k8g {x0 x1:DV}{tl:List DV}{nl:Nat}(hnl:nl<=4)(F:Nat->Nat->VaR)(g:Nat->Bool){l:List Nat}(hl0:l≠[])(hll:l.length<=1000000)(p:PlR)(hnn:p.nn=p.nc)(hnc6:p.nc<=1000000){i:Nat}(h0:p.look=i)(hil:i<nl)
 (hok: ∀q,q∈l->a1i (F q i)/\0<=(F q i).fault) {X:Nat->VaR} (hX: ∀q,F q i=X q) (b:Nat->Bool)
 (hk: ∀j,j<p.nc->j<(cellsOf X l).length->p.c j=(cellsOf X l).getD j ⟨0,0⟩->a0j AB AD 124 [.dptr (x0::x1:: .int .i64 (.v nl)::tl) 0,(p.nx j).av,.d (.sl 9 (j7u X ((cellsOf X l).getD j ⟨0,0⟩) l).length fun t=>spR F g ((j7u X ((cellsOf X l).getD j ⟨0,0⟩) l).getD t 0))] (bool (b j)))
 {r:Bool} (hr:r=AE↔p.nc=(cellsOf X l).length/\(∀j,j<p.nc->p.c j=(cellsOf X l).getD j ⟨0,0⟩)/\ ∀j,j<p.nc->b j=AE):
 a0j AB AD 124 [.dptr (x0::x1:: .int .i64 (.v nl)::tl) 0,p.av,.d (.sl 9 l.length fun j=>spR F g (l.getD j 0))] (bool r):=by
 classical
 obtain⟨NN,hNN⟩: ∃z,(cellsOf X l).length=z:=⟨_,rfl⟩;obtain⟨SS,hSS⟩: ∃f:Nat->VaR,∀p,(cellsOf X l).getD p ⟨0,0⟩=f p:=⟨_,fun _=>rfl⟩;obtain⟨lk,ncs,nns,C,D,hrow,hav,hpav⟩:=p.kids;rw[hpav,h0];obtain⟨nc,hnc⟩: ∃z,p.nc=z:=⟨_,rfl⟩;obtain⟨pc,hpc⟩: ∃z,p.c=z:=⟨_,rfl⟩;rw[hnn,hnc] at hav;rw[hnn];simp only[hnc,hpc,hNN,hSS] at hk hr hnc6⊢;obtain⟨kd,hkd⟩: ∃f:Nat->AV,∀j,(p.nx j).av=f j:=⟨_,fun _=>rfl⟩;simp only[hkd] at hk hav;clear hpav hnc hnn hrow hkd h0 hpc;obtain⟨A,hA⟩: ∃f:Nat->Int,∀j,(pc j).fault=f j:=⟨_,fun _=>rfl⟩;obtain⟨B,hB⟩: ∃f:Nat->Int,∀j,(pc j).n=f j:=⟨_,fun _=>rfl⟩;have hvs:vsl nc pc= .d (.sl 2 nc fun j=>[.int .u8 (.v (A j)),.int .i64 (.v (B j))]):=by show AV.d (.sl 2 nc fun j=>[.int .u8 (.v (pc j).fault),.int .i64 (.v (pc j).n)])=_;simp only[hA,hB]
 rw[hvs];have hv: ∀a b:VaR,a.fault=b.fault->a.n=b.n->a=b:=fun a b h1 h2=>by cases a;cases b;simp only at h1 h2;subst h1 h2;rfl
 have hAB: ∀j,(A j=(SS j).fault/\B j=(SS j).n)↔pc j=SS j:=fun j=>by rw[<-hA,<-hB];exact⟨fun h=>hv _ _ h.1 h.2,fun h=>by rw[h];exact⟨rfl,rfl⟩⟩
 obtain⟨zf,hzf⟩: ∃f:Nat->Bool,∀j,f j=AE↔(j<nc/\pc j=SS j)/\b j=AE:=⟨fun j=>decide _,fun j=>decide_eq_true_iff⟩;obtain⟨trow,htr⟩: ∃t:List DV,(x0::x1:: .int .i64 (.v nl)::tl)=t:=⟨_,rfl⟩;rw[htr] at hk;obtain⟨n,hn⟩: ∃n,l.length=n:=⟨_,rfl⟩;obtain⟨se,hse⟩: ∃f:Nat->List DV,(fun j=>spR F g (l.getD j 0))=f:=⟨_,rfl⟩;have hsl:AV.d (.sl 9 l.length fun j=>spR F g (l.getD j 0))= .d (.sl 9 n se):=by rw[hn,hse]
 rw[hsl];have hNl:NN<=1000000:=by rw[<-hNN];exact AZ (j9v _ _) hll
 refine a0k AG okP f0c _ rfl fun E Sg hbs hS=> ?_;have e:=b2k hS;have g1:Sg.ilt (AC i) (AC 0)=AD:=by rw[e.ilt];exact decide_eq_false (by simp only[AM];omega)
 have g2:Sg.ile (AC nl) (AC i)=AD:=by rw[e.ile];exact decide_eq_false (by simp only[AM];omega)
 cbv;simp only[g1];cbv;simp only[g2];cbv;refine h3v hS (a1h.frame (k2q (.sl 9 n se) .nil i ⟨n,se,rfl⟩) [] rfl rfl trivial) ?_;rintro pg v H' ⟨pg0,v0,h0,⟨rfl,rfl,rfl⟩,rfl,rfl,rfl⟩;cbv;refine i0x hS rfl ?_;have hg:=k3v (k:=7) (y:=6) (a:=4) (b:=5) (by decide) (by decide) (by decide)
  (fun p=>k7z trow i nc A B nc lk ncs nns C D p n se (k8d .ready))
  (fun p=>k7z trow i nc A B nc lk ncs nns C D p n se (k8d (.done .ret)))
  (fun _=>rfl) (fun _=>rfl) (fun _=>rfl) (fun _=>rfl) l hl0 hll i (by omega) F g hok (by rw[hsl];rfl) rfl X hX SS hSS NN hNN zf [] (fun x hx=>by cases hx) ?_
 ·refine a1h.heap (a1h.mono ?_ hg) (.cons (.var (.cons (by rw[<-htr];exact AA _) .nil)) (.cons (.refl _) (.cons (.refl _) (.cons (.var (.cons (a6c rfl) .nil)) (.cons (.refl _) (.cons (.refl _) (.cons (a9v.loop (d2w rfl ⟨AA _,AA _,AA _,AA _,trivial⟩) fun a b h=>h) (.nil _)))))))) rfl;rintro pg v H' ⟨rfl,rfl,hcase⟩;refine⟨fun h=>(nomatch h),?_⟩;rcases hcase with⟨hallz,rfl⟩|⟨p,hp,hz1,hz2,rfl⟩
  ·refine⟨_,_,_,_,rfl,?_⟩;cbv;refine a0s ?_;by_cases hc:NN=nc
   ·refine (j6i hS hc).trans ?_;exact (hr.2 ⟨hc.symm,fun j hj=>((hzf j).1 (hallz j (by omega))).1.2,fun j hj=>((hzf j).1 (hallz j (by omega))).2⟩).symm
   ·refine (j6f hS hc).trans ?_;cases r with
    |false=>rfl
    |true=>exact absurd (hr.1 rfl).1.symm hc
  ·refine⟨_,_,_,_,rfl,?_⟩;cbv;refine a0s ?_;cases r with
   |false=>rfl
   |true=>obtain⟨q1,q2,q3⟩:=hr.1 rfl;have:=(hzf p).2 ⟨⟨by omega,q2 p (by omega)⟩,q3 p (by omega)⟩;rw[this] at hz2;cases hz2
 ·intro q m pe hq hzz hlen hpe;refine k8q trow i nc A B nc lk ncs nns C D q n se m pe (SS q).fault (SS q).n (zf q) hnc6 ?_ (AU _) (fun h=> ?_) (fun h1 h2=> ?_) (fun h1 h2 h3=> ?_)
  ·rcases Nat.eq_zero_or_pos q with h0|h0
   ·omega
   ·have:=((hzf (q-1)).1 (hzz (q-1) (by omega))).1.1;omega
  ·cases hz:zf q with
   |false=>rfl
   |true=>have:=((hzf q).1 hz).1.1;omega
  ·cases hz:zf q with
   |false=>rfl
   |true=>exact absurd ((hAB q).2 ((hzf q).1 hz).1.2) h2
  ·have h4:=(hAB q).1 ⟨h2,h3⟩;have h5:=hk q h1 hq h4;rw[hav q h1] at h5;have h6:zf q=b q:=by
    cases hb:b q with
    |true=>exact (hzf q).2 ⟨⟨h1,h4⟩,hb⟩
    |false=>
     cases hz:zf q with
     |false=>rfl
     |true=>have:=((hzf q).1 hz).2;rw[hb] at this;cases this
   rw[h6];exact h5.like (.cons (AA _) (.cons (AA _) (.cons (a0x.sl' hlen.symm fun j hj=>hpe j hj) .nil)))
theorem k8l {nl:Nat}(hnl:nl<=4)(x0 x1:DV)(tl:List DV)(F:Nat->Nat->VaR)(g:Nat->Bool){K:PbR}(hK:K.nl=nl)(hKX: ∀i q,K.X i q=F q i)(hKG:K.G=g): ∀(d:Nat),d<=4-> ∀p:PlR,p.ok->p.isP d->PlR.slim d p-> ∀l:List Nat,l≠[]->l.length<=1000000->(∀i,i<nl-> ∀q,q∈l->a1i (F q i)/\0<=(F q i).fault)-> ∀r:Bool,(r=AE↔K.dc d p l)->
 a0j AB AD 124 [.dptr (x0::x1:: .int .i64 (.v nl)::tl) 0,p.av,.d (.sl 9 l.length fun j=>spR F g (l.getD j 0))] (bool r):=by
 classical
 have leaf: ∀l:List Nat,l≠[]->l.length<=1000000-> ∀r:Bool,(r=AE↔k1e K.G l)->a0j AB AE 130 [.d (.sl 9 l.length fun j=>spR F g (l.getD j 0))] (bool r):=fun l hl0 hll r hr=>by
  obtain⟨dd,hdd⟩: ∃dd:Bool,dd=AE↔ ∃i,i<l.length/\g (l.getD i 0)≠g (l.getD 0 0):=⟨decide _,decide_eq_true_iff⟩;have h130:=a1e (k2h (AN.2 hl0) hll (fun j=>spR F g (l.getD j 0)) (fun i k=>(F (l.getD i 0) k).fault) (fun i k=>(F (l.getD i 0) k).n) (fun i=>g (l.getD i 0)) (fun i=>rfl) dd hdd);have:r=!dd:=by
   rw[hKG,k1q] at hr;cases dd with
   |true=>
    obtain⟨i,h1,h2⟩:=hdd.1 rfl;cases r with
    |false=>rfl
    |true=>exact absurd (hr.1 rfl i h1) h2
   |false=>exact hr.2 fun j hj=>AP fun h=>by have:=hdd.2 ⟨j,hj,h⟩;cases this
  rw[this];exact h130
 intro d
 induction d with
 |zero=>intro _ p hp hP hsl l hl0 hll hok r hr;obtain⟨a1,a2,a3,a4,a5⟩:=hP;have h0:p.look= -1:=AP fun h=>absurd (a5 h).1 (Nat.lt_irrefl 0);exact k8b p h0 (leaf l hl0 hll r (hr.trans (PbR.dc_leaf h0)))
 |succ d ih=>
  intro hd p hp hP hsl l hl0 hll hok r hr;obtain⟨a1,a2,a3,a4,a5⟩:=hP;by_cases h0:p.look= -1
  ·exact k8b p h0 (leaf l hl0 hll r (hr.trans (PbR.dc_leaf h0)))
  obtain⟨i,hi⟩: ∃i:Nat,p.look=i:=⟨p.look.toNat,by omega⟩;rw[PbR.dc_node hi,hK] at hr;by_cases hil:i<nl
  rotate_left
  ·have:r=AD:=by cases r with
    |false=>rfl
    |true=>exact absurd (hr.1 rfl).1 hil
   subst this;exact k8i p (by omega)
  obtain⟨_,b2,b3⟩:=a5 h0;obtain⟨_,_,_,_,o5⟩:=p.ok_iff.1 hp;refine k8g hnl F g hl0 hll p a3 (by have:=hsl.1;omega) hi hil (hok i hil) (X:=K.X i) (fun q=>(hKX i q).symm) (fun j=>decide (K.dc d (p.nx j) (K.pt i l j))) (fun j hj hj2 hc=> ?_) ?_
  ·have hne:K.pt i l j≠[]:=j9e (j8e hj2);exact ih (by omega) (p.nx j) (o5 j (by omega)) (b3 j hj).2.2 (hsl.2.2 j (by omega)) _ hne (AZ (List.length_filter_le _ _) hll) (fun i' hi' q hq=>hok i' hi' q (j8c.1 hq).1) _ decide_eq_true_iff
  ·rw[hr];simp only[decide_eq_true_eq];exact⟨fun h=>h.2,fun h=>⟨hil,h⟩⟩
theorem k8j (A B:DiR){ns no nl:Nat}{sz od:Nat->Int}{lk:Nat->DiR}(q:PlR){fe:Int}(h0:fe≠0)(h35:a0j AB AE 35 [q.av] (int fe)):
 a0j AB AE 89 [q.av,isl ns sz,isl no od,dsl nl lk,A.av,B.av] (bool AD):=by
 obtain⟨ins,isz,ino,iod,ine,ien,inn,ivar,ink,ikid,iroot⟩:=A;obtain⟨gns,gsz,gno,god,gne,gen,gnn,gvar,gnk,gkid,groot⟩:=B;obtain⟨l',nc,nn,C,D,h1,_⟩:=q.avX;rw[h1] at h35⊢;clear h1;refine a1e (a0k AG okP g7c _ rfl fun E Sg hbs hS=> ?_);have e:=b2k hS;have g0:Sg.bnot (Sg.ieq fe (AC 0))=AE:=by rw[e.ieq,e.bnot,beq_false_of_ne (show fe≠AC 0 from h0)];rfl
 cbv;refine a0v hS _ h35 ?_;cbv;simp only[g0];cbv;exact AA _
theorem k8s (A B:DiR){ns no nl:Nat}{sz od:Nat->Int}{lk:Nat->DiR}(q:PlR){x0 x1 x2 x3:DV}{n:Nat}{e4:Nat->List DV}{r:Bool}(h35:a0j AB AE 35 [q.av] (int 0))(h108:a0j AB AD 108 [isl ns sz,isl no od,dsl nl lk,A.av,B.av] (.tuple [.dptr [x0,x1,x2,x3,.sl 9 n e4] 0,int 0]))
 (h124:a0j AB AD 124 [.dptr [x0,x1,x2,x3,.sl 9 n e4] 0,q.av,.d (.sl 9 n e4)] (bool r)):
 a0j AB AE 89 [q.av,isl ns sz,isl no od,dsl nl lk,A.av,B.av] (bool r):=by
 obtain⟨ins,isz,ino,iod,ine,ien,inn,ivar,ink,ikid,iroot⟩:=A;obtain⟨gns,gsz,gno,god,gne,gen,gnn,gvar,gnk,gkid,groot⟩:=B;obtain⟨l',nc,nn,C,D,h1,_⟩:=q.avX;rw[h1] at h35 h124⊢;clear h1;refine a1e (a0k AG okP g7c _ rfl fun E Sg hbs hS=> ?_);have e:=b2k hS;cbv;refine a0v hS _ h35 ?_;cbv;simp only[e.ieq,e.bnot];cbv;refine a0v hS _ h108 ?_;cbv;simp only[e.ieq,e.bnot];cbv;refine a0v hS _ h124 ?_;cbv;exact AA _
theorem k8n (c:CaR)(hns:c.ns<=8)(hno:c.no<=8)(hnl:c.nl<=6)(hl: ∀i,i<c.nl->(c.lk i).fit)(hi:c.inn.fit)(hg:c.goal.fit)(p q:PlR)(h36:a0j AB AD 36 [p.av] q.av){r:Bool}(h89:a0j AB AE 89 [q.av,isl c.ns c.sz,isl c.no c.od,dsl c.nl c.lk,c.inn.av,c.goal.av] (bool r)):
 a0j AB AE 47 [c.av,p.av] (bool r):=by
 have q1:=h7c (n:=c.ns) (by omega) c.sz;have q2:=h7c (n:=c.no) (by omega) c.od;have q3:=h9z c.nl (by omega) c.lk hl;have q4:=h8i c.inn hi;have q5:=h8i c.goal hg;obtain⟨l',nc,nn,C,D,h1,_⟩:=p.avX;rw[h1] at h36⊢;clear h1;obtain⟨l2,nc2,nn2,C2,D2,h1,_⟩:=q.avX;rw[h1] at h36 h89;clear h1;obtain⟨ns,sz,no,od,nl,lk,⟨ins,isz,ino,iod,ine,ien,inn,ivar,ink,ikid,iroot⟩,⟨gns,gsz,gno,god,gne,gen,gnn,gvar,gnk,gkid,groot⟩⟩:=c;simp only[CaR.av,DiR.cs,AI,AK] at*
 refine a1e (a0k AG okP g9f _ rfl fun E Sg hbs hS=> ?_);have e:=b2k hS;cbv
 repeat' (first|(refine a0v hS _ h36 ?_;cbv)|(refine a0v hS _ q1 ?_;cbv)|(refine a0v hS _ q2 ?_;cbv)|(refine a0v hS _ q3 ?_;cbv)|(refine a0v hS _ q4 ?_;cbv)|(refine a0v hS _ q5 ?_;cbv)|(refine a0v hS _ h89 ?_;cbv)|refine a1g hS (c3d hS) ?_)
 exact AA _
theorem CaR.ok.prove {c:CaR}{T:Nat}(h:c.ok T)(hT:T<=36)(hpos:0<(c.P T).length)
 (h108:a0j AB AD 108 [isl c.ns c.sz,isl c.no c.od,dsl c.nl c.lk,c.inn.av,c.goal.av] (.tuple [.dptr (i0q c.ns c.sz c.no c.od c.nl (c.P T).length (fun j=>(c.W T j:Int)) c.X c.G) 0,int 0])) (p:PlR) (hp:p.ok) (hcnt:AY 6 p<300) {r:Bool} (hr:r=AE↔p.isP 4/\c.K.dc 4 p (c.P T)):
 a0j AB AE 47 [c.av,p.av] (bool r):=by
 classical
 have hf:=h.fit;have hl: ∀i,i<c.nl->(c.lk i).fit:=fun i hi=>by have:=hf.dg i (by omega);rwa [c.dg_lk hi] at this
 have hi:c.inn.fit:=by have:=hf.dg c.nl (by omega);rwa [c.dg_in] at this
 have hg:c.goal.fit:=by have:=hf.dg (c.nl+1) (by omega);rwa [c.dg_goal] at this
 obtain⟨z24,hz24⟩: ∃z:Bool,z=AE↔p.isP 4:=⟨decide _,decide_eq_true_iff⟩;have h35:=e0r p hp hcnt z24 hz24;have h36:=d1z p hcnt;have hlen:(c.P T).length<=T:=h8g _ T;have hne:c.P T≠[]:=AN.1 hpos;have hmem: ∀p,p∈c.P T->p<T:=fun p hp=>((i0h _ T _).1 hp).1;refine k8n c hf.ns hf.no hf.nl hl hi hg p (AJ 6 p) h36 ?_;cases z24 with
 |false=>
  have:r=AD:=by cases r with
   |false=>rfl
   |true=>have:=hz24.2 (hr.1 rfl).1;cases this
  subst this;exact k8j _ _ _ (by decide) h35
 |true=>
  have hP:p.isP 4:=hz24.1 rfl;have hr2:r=AE↔c.K.dc 4 p (c.P T):=hr.trans ⟨fun h=>h.2,fun h=>⟨hP,h⟩⟩;have hq:(AJ 6 p).isP 4:=(Aa 4 6 p (by omega)).2 hP;have h124:=k8l h.nl (.sl 1 c.ns fun i=>[.int .i64 (.v (c.sz i))]) (.sl 1 c.no fun i=>[.int .i64 (.v (c.od i))]) [.sl 1 (c.P T).length fun j=>[.int .i64 (.v (c.W T j:Int))],.sl 9 (c.P T).length fun j=>spR c.F c.G ((c.P T).getD j 0)] c.F c.G (K:=c.Kp fun _=>AD) rfl (fun _ _=>rfl) rfl 4 (by omega) (AJ 6 p) (PlR.ok_cut 6 p hp) hq (AX 6 p hcnt 4) (c.P T) hne (by omega) (fun i hi q hq=>by
   show a1i (cel c.nl c.X i q)/\0<=(cel c.nl c.X i q).fault;unfold cel;rw[if_pos hi];exact h.cell (by omega) (hmem q hq)) r (hr2.trans (((c.K_same _).dc).trans (PbR.dc_cut 4 6 p _ (by omega)).symm))
  exact k8s _ _ _ h35 h108 h124
theorem k9c (c:CaR)(hw:c.wf)(u:Int)(hu:0<=u/\u<=255):a0j AB AE 9 [c.av,u8 u] (bool AE):=by
 classical
 by_cases ht:h6v c
 rotate_left
 ·exact k8x c u (k6u c (i3u c AD (by simp[ht])))
 have h18:=i3u c AE (by simp[ht]);have hf:=ht.fit hw;have hl: ∀i,i<c.nl->(c.lk i).fit:=fun i hi=>by have:=hf.dg i (by omega);rwa [c.dg_lk hi] at this
 have hi:c.inn.fit:=by have:=hf.dg c.nl (by omega);rwa [c.dg_in] at this
 have hg:c.goal.fit:=by have:=hf.dg (c.nl+1) (by omega);rwa [c.dg_goal] at this
 obtain⟨er,hE⟩:=i3o c;by_cases h0:er=0
 rotate_left
 ·exact k8x c u (k6t c h18 (i3r c (i2f c hf er hE) h0) (z:=AD) (beq_false_of_ne h0).symm)
 subst h0;obtain⟨T,h⟩:=CaR.ok_of hf hE;have hT:=h.T36 ht;obtain⟨a1,a2⟩:=i3p c (h.c42 hE) (h.places hT);rcases Nat.eq_zero_or_pos (c.P T).length with hpos|hpos
 ·exact k8x c u (k6t c h18 (a1 hpos) (z:=AD) rfl)
 have h21:=a2 hpos;have h108:=(i3a c.inn c.goal (h.read hE hT)).2 hpos;have h48:=k6t c h18 h21 (z:=AE) rfl;have h29:=h.places hT;have hlen:(c.P T).length<=T:=h8g _ T;have hne:c.P T≠[]:=AN.1 hpos;obtain⟨z,d,r,hb⟩:=h.bst hT hpos h108;have h20:=k3m c hf.ns hf.no hf.nl hl hi hg hb.h73;cases z with
 |false=>obtain⟨h1,h2,_⟩:=hb.res.2 rfl;subst h1 h2;exact k9b c u h48 h29 h20
 |true=>
  obtain⟨h1,h2⟩:=hb.res.1 rfl;have hle:=hb.le;have hcnt:AY 6 r<300:=hb.thin hT;have hP:r.isP 4:=hb.isP h hpos;have hdcd:c.K.dc d r (c.P T):=by rw[h2];exact PbR.bt_dc h1.1
  have hdc:c.K.dc 4 r (c.P T):=PbR.dc_le hdcd hle;have h47:=h.prove hT hpos h108 r hb.ok hcnt (r:=AE) ⟨fun _=>⟨hP,hdc⟩,fun _=>rfl⟩;have h23:=e4c r hb.ok AE ⟨fun _=>hcnt,fun _=>rfl⟩;obtain⟨k1,k2,k3,k4,_⟩:=h4s h.fr;have hpl: ∀p,p<T->i2j c.sz (h5j c.sz c.ns p) c.ns/\h4w c.sz (h5j c.sz c.ns p) c.ns=p:=fun p hp=>h5s (fun j hj=>(k2 j hj).1) p (by rw[<-h.hT];exact AS.2 hp);have hWm: ∀j,j<(c.P T).length->c.W T j∈c.P T:=fun j hj=>j9r hj;obtain⟨w,hwd⟩: ∃w:Nat->List Int,∀j,(r.wayO c.nl (fun l=>c.X l (c.W T j)) 4).1=w j:=⟨fun j=>_,fun _=>rfl⟩;have hway: ∀j,j<(c.P T).length->r.wayO c.nl (fun l=>c.X l (c.W T j)) 4=(w j,AE)/\(w j).length<=d/\ ∀x,x∈w j->0<=x/\x<c.nl:=fun j hj=>by obtain⟨g1,g2,g3⟩:=PbR.dc_way hdcd hle (c.W T j) (hWm j hj);rw[<-hwd];exact⟨Prod.ext rfl g1,g2,g3⟩
  obtain⟨k,hk⟩: ∃k,k=u.toNat % (c.P T).length:=⟨_,rfl⟩;have hk0:k<(c.P T).length:=by rw[hk];exact Nat.mod_lt _ hpos
  refine k9a c u hu h.nl (n:=(c.P T).length) (T:=T) (by omega) (by omega) (W:=c.W T) (fun j hj=>CaR.W_lt hj) (X:=c.X) (G:=c.G) (r:=r) (d:=d) hle h48 h29 h20 h23 h47 (S:=fun j=>h5j c.sz c.ns (c.W T j)) (fun j hj=>i2g (by have:=hf.ns;omega) c.sz _ k2 k3 (hpl _ (CaR.W_lt hj)).1 _ (hpl _ (CaR.W_lt hj)).2)
   (N:=fun j=>(w j).length) (B:=fun j t=>(w j).getD t 0) (fun j hj=>h.way hE r hb.ok hcnt hP (CaR.W_lt hj) (hway j hj).1) (k:=k) hk0 hk (hway k hk0).2.1 (A:=fun t=>((w k).getD t 0).toNat) (fun t ht=> ?_) (s:=fun j=>decide (w k=w j)) (fun j hj=> ?_) (fun j hj hs hx=> ?_)
  ·have hm:(w k).getD t 0∈w k:=by rw[AQ,AR ht];exact List.getElem_mem ht
   obtain⟨g1,g2⟩:=(hway k hk0).2.2 _ hm;exact⟨by omega,by omega⟩
  ·refine h7o _ _ _ _ (by have:=(hway k hk0).2.1;omega) _ ?_;rw[i0t (w k) 0,i0t (w j) 0];exact decide_eq_true_iff
  ·have he:w k=w j:=of_decide_eq_true hs;refine PbR.dc_same (K:=c.K) hdcd hle (c.W T k) (hWm k hk0) (c.W T j) (hWm j hj) fun x hx'=> ?_;have hx2:x∈w k:=by rw[<-hwd];exact hx'
   obtain⟨t,ht,rfl⟩:=List.getElem_of_mem hx2;have:=hx t ht;rw[AQ,AR ht] at this;exact this
end Go.Proofs.Tryz.Run
