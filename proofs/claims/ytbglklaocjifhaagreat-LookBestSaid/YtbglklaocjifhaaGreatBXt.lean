/- LookBest answers true. LookBest answers true. Conditions: none. -/
import Derived.Test.YtbglklaocjifhaaGreatBXn
import Derived.Test.YtbglklaocjifhaaGreatBXp
open Go.Proofs.Tryz renaming prog->AA
open Bool renaming true->AB,false->AC
open List renaming cons_append->AD,nil_append->AE,length_pos_iff->AG
open Nat renaming le_trans->AF,not_lt_zero->AH,le_refl->AI
set_option linter.unusedSimpArgs false
set_option linter.unusedVariables false
namespace Go.Proofs.Tryz.Run
open Go Go.Vf Go.Proofs
open Go.Proofs.YtbglklaocjifhaaGreat
theorem k2d (c:CaR)(h18:a0j AA AB 18 [c.av] (bool AC)):a0j AA AB 3 [c.av] (bool AB):=by
 have haw:=c4a;obtain⟨ns,sz,no,od,nl,lk,⟨ins,isz,ino,iod,ine,ien,inn,ivar,ink,ikid,iroot⟩,⟨gns,gsz,gno,god,gne,gen,gnn,gvar,gnk,gkid,groot⟩⟩:=c;simp only[CaR.av,DiR.cs,AD,AE] at*
 refine a1e (a0k Tryz.mixed okP ok3 _ rfl fun E Sg hbs hS=> ?_);cbv;refine a0v hS _ h18 ?_;cbv;refine a0v hS _ haw ?_;cbv;exact a0x.refl _
theorem k2b (c:CaR)(h18:a0j AA AB 18 [c.av] (bool AB)){er:Int}(h0:er≠0)(h20:a0j AA AC 20 [c.av] (.tuple [PlR.none.av,int 0,int er])){k1 k2:DV}(h21:a0j AA AC 21 [c.av] (.tuple [.d .nil,.agg [.d k1,.d k2],int er])):
 a0j AA AB 3 [c.av] (bool AB):=by
 have haw:=c4a;have h27:=k2y;rw[PlR.none_av] at h20 h27;obtain⟨C0,hC0⟩: ∃f:Nat->List DV,(fun _=>(VaR.mk 0 0).row)=f:=⟨_,rfl⟩;obtain⟨D0,hD0⟩: ∃f:Nat->List DV,(fun _=>d4k)=f:=⟨_,rfl⟩;rw[hC0,hD0] at h20 h27;obtain⟨ns,sz,no,od,nl,lk,⟨ins,isz,ino,iod,ine,ien,inn,ivar,ink,ikid,iroot⟩,⟨gns,gsz,gno,god,gne,gen,gnn,gvar,gnk,gkid,groot⟩⟩:=c;simp only[CaR.av,DiR.cs,AD,AE] at*
 refine a1e (a0k Tryz.mixed okP ok3 _ rfl fun E Sg hbs hS=> ?_);have e:=b2k hS;cbv;refine a0v hS _ h18 ?_;cbv;refine a0v hS _ h20 ?_;cbv;refine a0v hS _ h21 ?_;cbv;have hb0:(er==Int.ofNat 0)=AC:=beq_false_of_ne h0;simp only[e.ieq,hb0];cbv;simp only[e.ieq,BEq.rfl];cbv;refine a0v hS _ h27 ?_;cbv;simp only[e.ieq,BEq.rfl];cbv;refine a0v hS _ haw ?_;cbv;exact a0x.refl _
theorem k2a (c:CaR){nl n T:Nat}{W:Nat->Int}{X:Nat->Nat->VaR}{G:Nat->Bool}(h18:a0j AA AB 18 [c.av] (bool AB))(h20:a0j AA AC 20 [c.av] (.tuple [PlR.none.av,int 0,int 7]))(h21:a0j AA AC 21 [c.av] (.tuple [isl n W,.agg (knC nl T X G),int 0]))
 (h22:a0j AA AC 22 [.agg (knC nl T X G),isl n W,int 4] (.tuple [PlR.none.av,bool AC])):a0j AA AB 3 [c.av] (bool AB):=by
 have haw:=c4a;have h27:=k2y;rw[PlR.none_av] at h20 h22 h27;obtain⟨C0,hC0⟩: ∃f:Nat->List DV,(fun _=>(VaR.mk 0 0).row)=f:=⟨_,rfl⟩;obtain⟨D0,hD0⟩: ∃f:Nat->List DV,(fun _=>d4k)=f:=⟨_,rfl⟩;rw[hC0,hD0] at h20 h22 h27;obtain⟨ns,sz,no,od,nl',lk,⟨ins,isz,ino,iod,ine,ien,inn,ivar,ink,ikid,iroot⟩,⟨gns,gsz,gno,god,gne,gen,gnn,gvar,gnk,gkid,groot⟩⟩:=c;simp only[CaR.av,DiR.cs,AD,AE,knC] at*
 refine a1e (a0k Tryz.mixed okP ok3 _ rfl fun E Sg hbs hS=> ?_);have e:=b2k hS;cbv;refine a0v hS _ h18 ?_;cbv;refine a0v hS _ h20 ?_;cbv;refine a0v hS _ h21 ?_;cbv;simp only[e.ieq];cbv;refine a0v hS _ h22 ?_;cbv;simp only[e.ieq];cbv;refine a0v hS _ h27 ?_;cbv;simp only[e.ieq,BEq.rfl];cbv;refine a0v hS _ haw ?_;cbv;exact a0x.refl _
theorem k2c (c:CaR){nl n T:Nat}{W:Nat->Int}{X:Nat->Nat->VaR}{G:Nat->Bool}{r:PlR}{d:Int}(h18:a0j AA AB 18 [c.av] (bool AB))(h20:a0j AA AC 20 [c.av] (.tuple [r.av,int d,int 0]))(h21:a0j AA AC 21 [c.av] (.tuple [isl n W,.agg (knC nl T X G),int 0]))
 (h22:a0j AA AC 22 [.agg (knC nl T X G),isl n W,int 4] (.tuple [r.av,bool AB])) (h23:a0j AA AB 23 [r.av] (bool AB)) (h24:a0j AA AB 24 [r.av,int 4] (bool AB)) (h25:a0j AA AB 25 [r.av,r.av] (bool AB)) (h26:a0j AA AB 26 [r.av,int 5] (int d)):
 a0j AA AB 3 [c.av] (bool AB):=by
 have haw:=c4a;obtain⟨lk',nc,nn,C,D,h1,_⟩:=r.avX;rw[h1] at h20 h22 h23 h24 h25 h26;clear h1;obtain⟨ns,sz,no,od,nl',lk,⟨ins,isz,ino,iod,ine,ien,inn,ivar,ink,ikid,iroot⟩,⟨gns,gsz,gno,god,gne,gen,gnn,gvar,gnk,gkid,groot⟩⟩:=c;simp only[CaR.av,DiR.cs,AD,AE,knC] at*
 refine a1e (a0k Tryz.mixed okP ok3 _ rfl fun E Sg hbs hS=> ?_);have e:=b2k hS;cbv;refine a0v hS _ h18 ?_;cbv;refine a0v hS _ h20 ?_;cbv;refine a0v hS _ h21 ?_;cbv;simp only[e.ieq];cbv;refine a0v hS _ h22 ?_;cbv;simp only[e.ieq];cbv;refine a0v hS _ h23 ?_;cbv;refine a0v hS _ h24 ?_;cbv;refine a0v hS _ h25 ?_;cbv;refine a0v hS _ h26 ?_;cbv;simp only[e.ieq,BEq.rfl];cbv;refine a0v hS _ haw ?_;cbv;exact a0x.refl _
theorem i6l.cellAt {d:DiR}(hd:i6l d)(hf:d.fit){T:Nat}(hT:(T:Int)=h4d d.sz d.ns){p:Nat}(hp:p<T): ∃i,i<d.ne/\d.cell p=d.en i:=by obtain⟨_,h2,_⟩:=h4s hd.fr;have hpl:=(h5s (n:=d.ns) (fun j hj=>(h2 j hj).1) p (by rw[<-hT];exact Int.ofNat_lt.2 hp)).1;have hw:=(i6j d hd.loose hf (h5j d.sz d.ns p) fun j hj=>hpl j hj).1;exact⟨(-1-h5d d (h5j d.sz d.ns p) d.root).toNat,by have:=hw.1;have:=hw.2 (by omega);omega,rfl⟩
theorem CaR.ok.cell {c:CaR}{T:Nat}(h:c.ok T){i:Nat}(hi:i<c.nl+2){p:Nat}(hp:p<T):a1i (c.X i p)/\0<=(c.X i p).fault:=by obtain⟨j,hj,e⟩:=(h.di i hi).cellAt (h.fit.dg i hi) (h.Td i hi) hp;unfold CaR.X;rw[e];exact⟨(h.di i hi).loose.1 j hj,h.fit.flt i hi j hj⟩
theorem k3f:k0p.ok:=⟨⟨by decide,by decide⟩,by decide,by decide,fun i hi=>absurd hi (AH i),fun i hi=>absurd hi (AH i)⟩
theorem PbR.ok_bt (K:PbR)(h4:K.nl<=4): ∀(n:Nat) (l:List Nat),K.can n l->l.length<=1000000->(∀i,i<K.nl-> ∀p,p∈l->a1i (K.X i p)/\0<=(K.X i p).fault)->(K.bt n l).ok:=by
 intro n
 induction n with
 |zero=>intro l _ _ _;exact k3f
 |succ n ih=>
  intro l h hl hok;by_cases hc:K.can n l
  ·rw[PbR.bt_le hc (by omega)];exact ih l hc hl hok
  have hm:K.mind (n+1) l:=⟨h,fun m hm hc'=>hc (PbR.can_le hc' (by omega))⟩;obtain⟨f1,f2,f3⟩:=hm.fst;rw[f3];generalize j9f (K.sp n l) K.nl=i at f1 f2 f3⊢;have hcl:(cellsOf (K.X i) l).length<=1000000:=AF (j9v _ _) hl;refine⟨⟨by omega,by omega⟩,by omega,by omega,fun j hj=> ?_,fun j hj=> ?_⟩
  ·obtain⟨p,hp,hx⟩:=j7x.1 (j8e (show j<(cellsOf (K.X i) l).length from hj));show (0<=((cellsOf (K.X i) l).getD j ⟨0,0⟩).fault/\((cellsOf (K.X i) l).getD j ⟨0,0⟩).fault<=255)/\c5t ((cellsOf (K.X i) l).getD j ⟨0,0⟩).n;rw[<-hx];obtain⟨g1,g2⟩:=hok i f1 p hp;exact g1.bd g2
  ·show PlR.ok (if j<(cellsOf (K.X i) l).length then K.bt n (K.pt i l j) else .none);rw[if_pos hj];exact ih _ (PbR.pt_can f2 hj) (AF (List.length_filter_le _ _) hl) fun i' hi' p hp=>hok i' hi' p (j8c.1 hp).1
theorem PbR.res_wi {K:PbR}{l:List Nat}{z:Bool}{d m:Nat}{r:PlR}(h:K.res l z d r)(hd:d<=m):K.wi l m z r:=
 ⟨fun e=>by
   obtain⟨h1,h2⟩:=h.1 e;exact⟨PbR.can_le h1.1 hd,by rw[h2,PbR.bt_le h1.1 hd]⟩,fun e=>by
   obtain⟨_,h2,h3⟩:=h.2 e;exact⟨h3 m,h2⟩⟩
noncomputable def CaR.K (c:CaR):PbR:=⟨c.nl,fun _=>AB,c.X,c.G⟩
def CaR.F (c:CaR)(q k:Nat):VaR:=cel c.nl c.X k q
noncomputable def CaR.Kp (c:CaR)(a:Nat->Bool):PbR:=⟨c.nl,fun j=>!(a j),fun i q=>c.F q i,c.G⟩
theorem CaR.K_same (c:CaR)(l:List Nat):c.K.same (c.Kp fun _=>AC) l:=
 ⟨rfl,fun _ _=>rfl,fun i hi p _=>by show c.X i p=cel c.nl c.X i p;unfold cel;rw[if_pos (show i<c.nl from hi)],fun _ _ _ _=>Iff.rfl⟩
structure CaR.best (c:CaR)(T:Nat)(z:Bool)(d:Nat)(r:PlR):Prop where
 res:c.K.res (c.P T) z d r
 le:d<=4
 ok:r.ok
 h73:a0j AA AC 73 [isl c.ns c.sz,isl c.no c.od,dsl c.nl c.lk,c.inn.av,c.goal.av] (.tuple [r.av,int d,int (if z=AB then 0 else 7)])
 h22:a0j AA AC 22 [.agg (knC c.nl T c.X c.G),pll (c.P T),int 4] (.tuple [r.av,bool z])
theorem CaR.ok.best_ex {c:CaR}{T:Nat}(h:c.ok T)(hT:T<=36)(hpos:0<(c.P T).length)
 (h108:a0j AA AC 108 [isl c.ns c.sz,isl c.no c.od,dsl c.nl c.lk,c.inn.av,c.goal.av] (.tuple [.dptr (i0q c.ns c.sz c.no c.od c.nl (c.P T).length (fun j=>(c.W T j:Int)) c.X c.G) 0,int 0])): ∃z d r,c.best T z d r:=by
 obtain⟨z,d,r,hz⟩:=PbR.res_ex c.K (c.P T);have hlen:(c.P T).length<=T:=h8g _ T;have hne:c.P T≠[]:=AG.1 hpos;have hmem: ∀p,p∈c.P T->p<T:=fun p hp=>((i0h _ T _).1 hp).1;have hle:d<=4:=AF (PbR.res_le hz) h.nl;have hcell: ∀i,i<c.nl-> ∀p,p∈c.P T->a1i (c.X i p)/\0<=(c.X i p).fault:=fun i hi p hp=>h.cell (by omega) (hmem p hp);refine⟨z,d,r,hz,hle,?_,?_,k4g h.nl (by omega) 4 (AI _) _ hne (by omega) hmem z r (PbR.res_wi hz hle)⟩
 ·cases z with
  |true=>obtain⟨h1,h2⟩:=hz.1 rfl;rw[h2];exact PbR.ok_bt c.K h.nl d _ h1.1 (by omega) hcell
  |false=>rw[(hz.2 rfl).2.1];exact trivial
 ·have h110:=k3t h.nl (.sl 1 c.ns fun i=>[.int .i64 (.v (c.sz i))]) (.sl 1 c.no fun i=>[.int .i64 (.v (c.od i))]) [.sl 1 (c.P T).length fun j=>[.int .i64 (.v (c.W T j:Int))],.sl 9 (c.P T).length fun j=>spR c.F c.G ((c.P T).getD j 0)] c.F c.G _ (fun _=>AC) (c.P T) rfl (fun _ _=>rfl) hne (by omega) (fun i hi q hq=>by
   show a1i (cel c.nl c.X i q)/\0<=(cel c.nl c.X i q).fault;unfold cel;rw[if_pos hi];exact hcell i hi q hq) z d r ((c.K_same _).res.1 hz)
  exact k4f _ _ (fun e=>⟨(hz.2 e).2.1,by rw[(hz.2 e).1];rfl⟩) h108 (k3x _ _ _ _ _ _ h110)
theorem CaR.best.thin {c:CaR}{T d:Nat}{r:PlR}(h:c.best T AB d r)(hT:T<=36):PlR.cnt 6 r<300:=by obtain⟨h1,h2⟩:=h.res.1 rfl;have h3:=PbR.cnt_bt c.K d 6 (c.P T) h1.1;rw[<-h2] at h3;have hlen:(c.P T).length<=T:=h8g _ T;have:=h.le;have:2*d*(c.P T).length<=8*36:=Nat.mul_le_mul (by omega) (by omega);omega
theorem CaR.best.isP {c:CaR}{T d:Nat}{r:PlR}(h:c.best T AB d r)(hc:c.ok T)(hpos:0<(c.P T).length):r.isP 4:=by obtain⟨h1,h2⟩:=h.res.1 rfl;rw[h2];exact PbR.isP_bt c.K hc.nl d 4 _ h1.1 h.le (AG.1 hpos) fun i hi p hp=>(hc.cell (by have:i<c.nl:=hi;omega) ((i0h _ T _).1 hp).1).1
theorem CaR.best.deep {c:CaR}{T d:Nat}{r:PlR}(h:c.best T AB d r):PlR.deep 5 r=d:=by obtain⟨h1,h2⟩:=h.res.1 rfl;rw[h2];exact PbR.deep_bt c.K d 5 _ h1 (by have:=h.le;omega)
theorem k2s (c:CaR)(hw:c.wf):a0j AA AB 3 [c.av] (bool AB):=by
 classical
 by_cases ht:h6v c
 rotate_left
 ·exact k2d c (i3u c AC (by simp[ht]))
 have h18:=i3u c AB (by simp[ht]);have hf:=ht.fit hw;have hl: ∀i,i<c.nl->(c.lk i).fit:=fun i hi=>by have:=hf.dg i (by omega);rwa [c.dg_lk hi] at this
 have hi:c.inn.fit:=by have:=hf.dg c.nl (by omega);rwa [c.dg_in] at this
 have hg:c.goal.fit:=by have:=hf.dg (c.nl+1) (by omega);rwa [c.dg_goal] at this
 rcases i1x c ht hw with⟨er,h0,⟨k1,k2,h21⟩,h108⟩|⟨T,h,hT,hpos,h21,h108⟩
 ·exact k2b c h18 h0 (k3m c hf.ns hf.no hf.nl hl hi hg (k4d _ _ h108 h0)) h21
 obtain⟨z,d,r,hb⟩:=h.best_ex hT hpos h108;have h20:=k3m c hf.ns hf.no hf.nl hl hi hg hb.h73;cases z with
 |false=>obtain⟨h1,h2,_⟩:=hb.res.2 rfl;subst h1 h2;exact k2a c h18 h20 h21 hb.h22
 |true=>
  refine k2c c h18 h20 h21 hb.h22 (e4c r hb.ok AB ⟨fun _=>hb.thin hT,fun _=>rfl⟩) (d1b 4 (AI _) r hb.ok AB ⟨fun _=>hb.isP h hpos,fun _=>rfl⟩) (k4e r hb.ok) ?_;have:=(e2k 5 (by omega) r hb.ok).1
  rwa [hb.deep] at this
end Go.Proofs.Tryz.Run
