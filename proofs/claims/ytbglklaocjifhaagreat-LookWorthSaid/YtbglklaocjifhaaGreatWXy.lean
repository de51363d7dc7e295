/- The program's Worth. LookWorth answers true: the walks. Conditions: none. -/
import Derived.Test.YtbglklaocjifhaaGreatWXw
open Go.Proofs.Tryz renaming prog->AA
open Go.Vf.a0x renaming refl->AB
open Bool renaming false->AC,true->AH
open Go.Proofs.YtbglklaocjifhaaGreat.Tryz renaming mixed->AD
open Nat renaming zero_le->AE,le_refl->AJ,le_trans->AL
open List renaming cons_append->AF,nil_append->AG
open Int renaming ofNat->AI,ofNat_eq_natCast->AK
set_option linter.unusedSimpArgs false
set_option linter.unusedVariables false
set_option maxHeartbeats 0
set_option maxRecDepth 100000
namespace Go.Proofs.Tryz.Run
open Go Go.Vf Go.Proofs
open Go.Proofs.YtbglklaocjifhaaGreat
theorem k5h (A B:DiR){ns no nl:Nat}{sz od:Nat->Int}{lk:Nat->DiR}{er:Int}(h108:a0j AA AC 108 [isl ns sz,isl no od,dsl nl lk,A.av,B.av] (.tuple [.d (.raw (.pointer none)),int er]))(h0:er≠0):
 a0j AA AC 80 [isl ns sz,isl no od,dsl nl lk,A.av,B.av] (.tuple [.d .nil,int er]):=by
 obtain⟨ins,isz,ino,iod,ine,ien,inn,ivar,ink,ikid,iroot⟩:=A;obtain⟨gns,gsz,gno,god,gne,gen,gnn,gvar,gnk,gkid,groot⟩:=B;refine a0k AD okP g8m _ rfl fun E Sg hbs hS=> ?_;have e:=b2k hS;cbv;refine a0v hS _ h108 ?_;cbv;have hb0:(er==AI 0)=AC:=beq_false_of_ne h0;simp only[e.ieq,e.bnot,hb0];cbv;exact AB _
theorem k5i (A B:DiR){ns no nl n:Nat}{sz od:Nat->Int}{lk:Nat->DiR}{x0 x1 x2 x3:DV}{e4:Nat->List DV}{r:PlR}{d:Nat}
 (h108:a0j AA AC 108 [isl ns sz,isl no od,dsl nl lk,A.av,B.av] (.tuple [.dptr [x0,x1,x2,x3,.sl 9 n e4] 0,int 0])) (h109:a0j AA AC 109 [.dptr [x0,x1,x2,x3,.sl 9 n e4] 0] (.tuple [r.av,int d,bool AC])):
 a0j AA AC 80 [isl ns sz,isl no od,dsl nl lk,A.av,B.av] (.tuple [.d .nil,int 7]):=by
 obtain⟨ins,isz,ino,iod,ine,ien,inn,ivar,ink,ikid,iroot⟩:=A;obtain⟨gns,gsz,gno,god,gne,gen,gnn,gvar,gnk,gkid,groot⟩:=B;obtain⟨lk',nc,nn,C,D,h1,_⟩:=r.avX;rw[h1] at h109;refine a0k AD okP g8m _ rfl fun E Sg hbs hS=> ?_;have e:=b2k hS;cbv;refine a0v hS _ h108 ?_;cbv;simp only[e.ieq,e.bnot];cbv;refine a0v hS _ h109 ?_;cbv;exact a3x.tuple (.cons (AB _) (.cons (a6c rfl) .nil))
theorem k5j (A B:DiR){ns no nl n:Nat}(hnl:nl<=4){sz od:Nat->Int}{lk:Nat->DiR}{x0 x1 x2 x3:DV}{e4:Nat->List DV}{r:PlR}{d:Nat}(hd:d<=4)
 (h108:a0j AA AC 108 [isl ns sz,isl no od,dsl nl lk,A.av,B.av] (.tuple [.dptr [x0,x1,x2,x3,.sl 9 n e4] 0,int 0])) (h109:a0j AA AC 109 [.dptr [x0,x1,x2,x3,.sl 9 n e4] 0] (.tuple [r.av,int d,bool AH]))
 (w:Nat->Int) (h110: ∀i,i<nl-> ∃(z:Bool) (d':Nat) (r':PlR),d'<=4/\a0j AA AC 110 [.dptr [x0,x1,x2,x3,.sl 9 n e4] 0,.d (.sl 9 n e4),.agg [bool (decide (0=i)),bool (decide (1=i)),bool (decide (2=i)),bool (decide (3=i))]] (.tuple [r'.av,int d',bool z])/\w i=if z=AH then (d':Int)-d else-1):
 a0j AA AC 80 [isl ns sz,isl no od,dsl nl lk,A.av,B.av] (.tuple [isl nl w,int 0]):=by
 obtain⟨ins,isz,ino,iod,ine,ien,inn,ivar,ink,ikid,iroot⟩:=A;obtain⟨gns,gsz,gno,god,gne,gen,gnn,gvar,gnk,gkid,groot⟩:=B;obtain⟨lk',nc,nn,C,D,h1,_⟩:=r.avX;rw[h1] at h109;clear h1;refine a0k AD okP g8m _ rfl fun E Sg hbs hS=> ?_;have e:=b2k hS;cbv;refine a0v hS _ h108 ?_;cbv;simp only[e.ieq,e.bnot];cbv;refine a0v hS _ h109 ?_;cbv;obtain⟨bA,hbA⟩: ∃l:List AV,[isl ins isz,isl ino iod,vsl ine ien,bsl inn ivar ink ikid,int iroot]=l:=⟨_,rfl⟩;refine e4p AD okP hS (σ:=Nat×List Nat) (fun s=>s.1<=nl) (fun s=>nl-s.1)
  (fun s=>⟨b5r [(12,.dptr [x0,x1,x2,x3,.sl 9 n e4] 0),(15,int d),(17,.msl 3 1 none s.1 AC),(45,int nl),(46,int s.1)] 72,
    [.var [isl ins isz,isl ino iod,vsl ine ien,bsl inn ivar ink ikid,int iroot],.var [isl gns gsz,isl gno god,vsl gne gen,bsl gnn gvar gnk gkid,int groot],.var [int lk',.d (.sl 2 nc C),.d (.sl 3 nn D)],.arr 1 s.1 fun i=>[.int .i64 (.v (w i))]],s.2⟩) (0,[]) (AE _) ?_ ?_
 ·exact (b4w.gt 17 1 (fun _=>[]) rfl).trans (b4w.le (a4c rfl ⟨AB _,AB _,AB _,b0a (e.ofNat _),a6c rfl,trivial⟩
   (.cons (.refl _) (.cons (.refl _) (.cons (.refl _) (.cons (a9v.arrr rfl fun j hj=>by omega) (.nil _))))) (by rw[hbs];exact AE _) (.inl ⟨rfl,rfl⟩) rfl))
 rintro⟨i,mv⟩ hi N hN;simp only at hi;cbv;split
 rotate_left
 ·rename_i h;have hin:i=nl:=by have:=Int.ofNat_le.1 (b3r hS h);omega
  subst hin;cbv;refine a1g hS (e8l hS (AJ _)) ?_;exact a3x.tuple (.cons (AB _) (.cons (a6c rfl) .nil))
 rename_i h;have hil:i<nl:=Int.ofNat_lt.1 (b3h hS h);have hpa:b7y (α:=AV) [.d (.bool AC),.d (.bool AC),.d (.bool AC),.d (.bool AC)] (Sg.nadd 0 (Sg.nmul (Sg.toNat (AI i)) 1)) [.d (.bool AH)]=some [.d (.bool (decide (0=i))),.d (.bool (decide (1=i))),.d (.bool (decide (2=i))),.d (.bool (decide (3=i)))]:=by
  rw[e.nadd,e.nmul,e.toNat];obtain rfl|rfl|rfl|rfl:i=0\/i=1\/i=2\/i=3:=by omega
  ·simp[b7y]
  ·simp[b7y]
  ·simp[b7y]
  ·simp[b7y]
 obtain⟨z,d',r',hd',h5,hw⟩:=h110 i hil;obtain⟨b0,hb0⟩: ∃b,(decide (0=i))=b:=⟨_,rfl⟩;obtain⟨b1,hb1⟩: ∃b,(decide (1=i))=b:=⟨_,rfl⟩;obtain⟨b2,hb2⟩: ∃b,(decide (2=i))=b:=⟨_,rfl⟩;obtain⟨b3,hb3⟩: ∃b,(decide (3=i))=b:=⟨_,rfl⟩;rw[hb0,hb1,hb2,hb3] at hpa h5;obtain⟨lk2,nc2,nn2,C2,D2,g1,_⟩:=r'.avX;rw[g1] at h5;clear g1 h110;cbv;simp only[j7g,hpa];refine a1g hS (a5p hS (show i<4 by omega)) ?_;cbv;refine a0v hS _ h5 ?_;cases z
 ·cbv;refine a1g hS trivial (a1g hS (f1i hS (by omega)) (a1g hS (e1n hS (by omega)) ?_));exact hN (i+1,3::mv) _ hil (by simp only;omega) (b4w.le (a4c rfl ⟨AB _,AB _,d8n hS,AB _,b2s hS,trivial⟩ (.cons (.refl _) (.cons (.refl _) (.cons (.refl _) (.cons (d7h hS (fun j _=> .refl _) (by rw[hw];exact .one (fun w S v h=>by cases h;exact .int _ _))) (.nil _))))) (by rw[hbs];exact AE _) (.inl ⟨rfl,rfl⟩) (j7y _)))
 ·cbv;refine a1g hS (a9o hS (by simp only[AK];omega)) (a1g hS trivial (a1g hS (f1i hS (by omega)) (a1g hS (e1n hS (by omega)) ?_)));exact hN (i+1,3::mv) _ hil (by simp only;omega) (b4w.le (a4c rfl ⟨AB _,AB _,d8n hS,AB _,b2s hS,trivial⟩ (.cons (.refl _) (.cons (.refl _) (.cons (.refl _) (.cons (d7h hS (fun j _=> .refl _) (by rw[hw,if_pos rfl];subst hS;exact .refl _)) (.nil _))))) (by rw[hbs];exact AE _) (.inl ⟨rfl,rfl⟩) (j7y _)))
theorem k5a (c:CaR)(hns:c.ns<=8)(hno:c.no<=8)(hnl:c.nl<=6)(hl: ∀i,i<c.nl->(c.lk i).fit)(hi:c.inn.fit)(hg:c.goal.fit){x:DV}{er:Int}(h80:a0j AA AC 80 [isl c.ns c.sz,isl c.no c.od,dsl c.nl c.lk,c.inn.av,c.goal.av] (.tuple [.d x,int er])):
 a0j AA AC 28 [c.av] (.tuple [.d x,int er]):=by
 have q1:=h7c (n:=c.ns) (by omega) c.sz;have q2:=h7c (n:=c.no) (by omega) c.od;have q3:=h9z c.nl (by omega) c.lk hl;have q4:=h8i c.inn hi;have q5:=h8i c.goal hg;obtain⟨ns,sz,no,od,nl,lk,⟨ins,isz,ino,iod,ine,ien,inn,ivar,ink,ikid,iroot⟩,⟨gns,gsz,gno,god,gne,gen,gnn,gvar,gnk,gkid,groot⟩⟩:=c;simp only[CaR.av,DiR.cs,AF,AG] at*
 refine a0k AD okP g5y _ rfl fun E Sg hbs hS=> ?_;have e:=b2k hS;cbv
 repeat' (first|(refine a0v hS _ q1 ?_;cbv)|(refine a0v hS _ q2 ?_;cbv)|(refine a0v hS _ q3 ?_;cbv)|(refine a0v hS _ q4 ?_;cbv)|(refine a0v hS _ q5 ?_;cbv)|(refine a0v hS _ h80 ?_;cbv)|refine a1g hS (c3d hS) ?_)
 exact AB _
theorem k5d (c:CaR)(h18:a0j AA AH 18 [c.av] (bool AC)):a0j AA AH 4 [c.av] (bool AH):=by
 have haw:=c4a;obtain⟨ns,sz,no,od,nl,lk,⟨ins,isz,ino,iod,ine,ien,inn,ivar,ink,ikid,iroot⟩,⟨gns,gsz,gno,god,gne,gen,gnn,gvar,gnk,gkid,groot⟩⟩:=c;simp only[CaR.av,DiR.cs,AF,AG] at*
 refine a1e (a0k AD okP ok4 _ rfl fun E Sg hbs hS=> ?_);cbv;refine a0v hS _ h18 ?_;cbv;refine a0v hS _ haw ?_;cbv;exact AB _
theorem k5c (c:CaR)(h18:a0j AA AH 18 [c.av] (bool AH)){er:Int}(h0:er≠0)(h28:a0j AA AC 28 [c.av] (.tuple [.d .nil,int er])){k1 k2:DV}(h21:a0j AA AC 21 [c.av] (.tuple [.d .nil,.agg [.d k1,.d k2],int er])):
 a0j AA AH 4 [c.av] (bool AH):=by
 have haw:=c4a;obtain⟨ns,sz,no,od,nl,lk,⟨ins,isz,ino,iod,ine,ien,inn,ivar,ink,ikid,iroot⟩,⟨gns,gsz,gno,god,gne,gen,gnn,gvar,gnk,gkid,groot⟩⟩:=c;simp only[CaR.av,DiR.cs,AF,AG] at*
 refine a1e (a0k AD okP ok4 _ rfl fun E Sg hbs hS=> ?_);have e:=b2k hS;cbv;refine a0v hS _ h18 ?_;cbv;refine a0v hS _ h28 ?_;cbv;refine a0v hS _ h21 ?_;cbv;have hb0:(er==AI 0)=AC:=beq_false_of_ne h0;simp only[e.ieq,e.bnot,hb0];cbv;simp only[e.ieq,e.bnot,hb0];cbv;simp only[e.ieq,BEq.rfl];cbv;refine a0v hS _ haw ?_;cbv;exact AB _
theorem k5e (c:CaR){nl n T:Nat}{W:Nat->Int}{X:Nat->Nat->VaR}{G:Nat->Bool}(h18:a0j AA AH 18 [c.av] (bool AH))(h28:a0j AA AC 28 [c.av] (.tuple [.d .nil,int 7]))(h21:a0j AA AC 21 [c.av] (.tuple [isl n W,.agg (knC nl T X G),int 0]))
 (h22:a0j AA AC 22 [.agg (knC nl T X G),isl n W,int 4] (.tuple [PlR.none.av,bool AC])):a0j AA AH 4 [c.av] (bool AH):=by
 have haw:=c4a;rw[PlR.none_av] at h22;obtain⟨C0,hC0⟩: ∃f:Nat->List DV,(fun _=>(VaR.mk 0 0).row)=f:=⟨_,rfl⟩;obtain⟨D0,hD0⟩: ∃f:Nat->List DV,(fun _=>d4k)=f:=⟨_,rfl⟩;rw[hC0,hD0] at h22;obtain⟨ns,sz,no,od,nl',lk,⟨ins,isz,ino,iod,ine,ien,inn,ivar,ink,ikid,iroot⟩,⟨gns,gsz,gno,god,gne,gen,gnn,gvar,gnk,gkid,groot⟩⟩:=c;simp only[CaR.av,DiR.cs,AF,AG,knC] at*
 refine a1e (a0k AD okP ok4 _ rfl fun E Sg hbs hS=> ?_);have e:=b2k hS;cbv;refine a0v hS _ h18 ?_;cbv;refine a0v hS _ h28 ?_;cbv;refine a0v hS _ h21 ?_;cbv;simp only[e.ieq];cbv;refine a0v hS _ h22 ?_;cbv;simp only[e.ieq,e.bnot];cbv;refine a0v hS _ haw ?_;cbv;exact AB _
theorem k5b (c:CaR)(hnl:c.nl<=4){nl n T:Nat}{W:Nat->Int}{X:Nat->Nat->VaR}{G:Nat->Bool}{r:PlR}{d:Nat}(hd:d<=4)(w:Nat->Int)(h18:a0j AA AH 18 [c.av] (bool AH))(h28:a0j AA AC 28 [c.av] (.tuple [isl c.nl w,int 0]))(h21:a0j AA AC 21 [c.av] (.tuple [isl n W,.agg (knC nl T X G),int 0]))
 (h22:a0j AA AC 22 [.agg (knC nl T X G),isl n W,int 4] (.tuple [r.av,bool AH])) (h26:a0j AA AH 26 [r.av,int 5] (int d))
 (hq: ∀i,i<c.nl->a0j AA AC 30 [c.av,int i] (c.wo i).av/\ ∃(n' T' nl':Nat) (W':Nat->Int) (X':Nat->Nat->VaR) (G':Nat->Bool) (z:Bool) (d':Nat) (r':PlR),a0j AA AC 29 [(c.wo i).av] (.tuple [isl n' W',.agg (knC nl' T' X' G')])/\
   a0j AA AC 22 [.agg (knC nl' T' X' G'),isl n' W',int 4] (.tuple [r'.av,bool z])/\(z=AH->a0j AA AH 26 [r'.av,int 5] (int d'))/\d'<=4/\w i=if z=AH then (d':Int)-d else-1):
 a0j AA AH 4 [c.av] (bool AH):=by
 have haw:=c4a;obtain⟨lk',nc,nn,C,D,h1,_⟩:=r.avX;rw[h1] at h22 h26;clear h1;obtain⟨ns,sz,no,od,nl',lk,⟨ins,isz,ino,iod,ine,ien,inn,ivar,ink,ikid,iroot⟩,⟨gns,gsz,gno,god,gne,gen,gnn,gvar,gnk,gkid,groot⟩⟩:=c;simp only[CaR.av,CaR.wo,DiR.cs,AF,AG,knC] at*
 refine a1e (a0k AD okP ok4 _ rfl fun E Sg hbs hS=> ?_);have e:=b2k hS;cbv;refine a0v hS _ h18 ?_;cbv;refine a0v hS _ h28 ?_;cbv;refine a0v hS _ h21 ?_;cbv;simp only[e.ieq,e.bnot];cbv;refine a0v hS _ h22 ?_;cbv;simp only[e.ieq,e.bnot,BEq.rfl];cbv;simp only[e.ieq,e.bnot,BEq.rfl];cbv;simp only[e.ieq,e.bnot,BEq.rfl];cbv;refine e4p AD okP hS (σ:=Nat×List Nat) (fun s=>s.1<=nl') (fun s=>nl'-s.1)
  (fun s=>⟨b5r [(1,.ptr 0 0),(3,isl nl' w),(8,.ptr 2 0),(10,int s.1)] 97,
    [.var [isl ns sz,isl no od,dsl nl' lk,isl ins isz,isl ino iod,vsl ine ien,bsl inn ivar ink ikid,int iroot,isl gns gsz,isl gno god,vsl gne gen,bsl gnn gvar gnk gkid,int groot],.var [.d (.sl 1 nl fun i=>[.sl 2 T fun p=>(X i p).row]),.d (.sl 1 T fun p=>[.bool (G p)])],.var [int lk',.d (.sl 2 nc C),.d (.sl 3 nn D)]],s.2⟩) (0,[]) (AE _) ?_ ?_
 ·exact b4w.le (a4c rfl ⟨AB _,AB _,AB _,a6c rfl,trivial⟩ (.cons (.refl _) (.cons (.refl _) (.cons (.refl _) (.nil _)))) (by rw[hbs];exact AE _) (.inr rfl) rfl)
 rintro⟨i,mv⟩ hi N hN;simp only at hi;cbv;split
 rotate_left
 ·rename_i h;cbv;refine a0v hS _ haw ?_;cbv;exact AB _
 rename_i h;have hil:i<nl':=d3r hS h;have en:nat Sg (IX.v (AI i))=i:=by show Sg.toNat (AI i)=i;rw[e.toNat];rfl
 obtain⟨h30,n',T',nl2,W',X',G',z,d',r',h29,h22',h26',hd',hw⟩:=hq i hil;obtain⟨lk2,nc2,nn2,C2,D2,g1,_⟩:=r'.avX;rw[g1] at h22' h26';clear g1 hq;cbv;refine a0v hS _ h30 ?_;cbv;refine a0v hS _ h29 ?_;cbv;refine a0v hS _ h22' ?_;cases z
 ·have hw2:Sg.bnot (Sg.ieq (w i) (Int.negSucc 0))=AC:=by rw[e.ieq,e.bnot,hw];rfl
  cbv;refine a1g hS (a5p hS hil) ?_;simp only[en,hw2];cbv;refine a1g hS (e1n hS (by omega)) ?_;exact hN (i+1,mv) _ hil (by simp only;omega) (b4w.le (a4c rfl ⟨AB _,AB _,AB _,b2s hS,trivial⟩ (.cons (.refl _) (.cons (.refl _) (.cons (.refl _) (.nil _)))) (by rw[hbs];exact AE _) (.inl ⟨rfl,rfl⟩) (j7y _)))
 ·have hw2:Sg.bnot (Sg.ieq (w i) (Sg.isub (AI d') (AI d)))=AC:=by rw[e.ieq,e.bnot,e.isub,hw,if_pos rfl];exact congrArg (!·) (beq_self_eq_true _)
  cbv;refine a0v hS _ (h26' rfl) ?_;cbv;refine a1g hS (c3d hS) (a0v hS _ h26 ?_);cbv;refine a1g hS (a9o hS (by simp only[AK];omega)) ?_;refine a1g hS (a5p hS hil) ?_;simp only[en,hw2];cbv;refine a1g hS (e1n hS (by omega)) ?_;exact hN (i+1,mv) _ hil (by simp only;omega) (b4w.le (a4c rfl ⟨AB _,AB _,AB _,b2s hS,trivial⟩ (.cons (.refl _) (.cons (.refl _) (.cons (.refl _) (.nil _)))) (by rw[hbs];exact AE _) (.inl ⟨rfl,rfl⟩) (j7y _)))
theorem k5f (c:CaR)(hw:c.wf):a0j AA AH 4 [c.av] (bool AH):=by
 classical
 by_cases ht:h6v c
 rotate_left
 ·exact k5d c (i3u c AC (by simp[ht]))
 have h18:=i3u c AH (by simp[ht]);have hf:=ht.fit hw;have hl: ∀i,i<c.nl->(c.lk i).fit:=fun i hi=>by have:=hf.dg i (by omega);rwa [c.dg_lk hi] at this
 have hi:c.inn.fit:=by have:=hf.dg c.nl (by omega);rwa [c.dg_in] at this
 have hg:c.goal.fit:=by have:=hf.dg (c.nl+1) (by omega);rwa [c.dg_goal] at this
 rcases i1x c ht hw with⟨er,h0,⟨k1,k2,h21⟩,h108⟩|⟨T,h,hT,hpos,h21,h108⟩
 ·exact k5c c h18 h0 (k5a c hf.ns hf.no hf.nl hl hi hg (k5h _ _ h108 h0)) h21
 have hlen:(c.P T).length<=T:=h8g _ T;have hne:c.P T≠[]:=List.length_pos_iff.1 hpos;have hmem: ∀p,p∈c.P T->p<T:=fun p hp=>((i0h _ T _).1 hp).1;have hcell: ∀i,i<c.nl-> ∀p,p∈c.P T->a1i (c.X i p)/\0<=(c.X i p).fault:=fun i hi p hp=>h.cell (by omega) (hmem p hp);have h110: ∀(a:Nat->Bool),(∀j,c.nl<=j->a j=AC)-> ∀z d r,(c.Kp a).res (c.P T) z d r->a0j AA AC 110 [.dptr (i0q c.ns c.sz c.no c.od c.nl (c.P T).length (fun j=>(c.W T j:Int)) c.X c.G) 0,.d (.sl 9 (c.P T).length fun j=>spR c.F c.G ((c.P T).getD j 0)),.agg [bool (a 0),bool (a 1),bool (a 2),bool (a 3)]] (.tuple [r.av,int d,bool z]):=fun a ha z d r hr=>by
  exact k3t h.nl (.sl 1 c.ns fun i=>[.int .i64 (.v (c.sz i))]) (.sl 1 c.no fun i=>[.int .i64 (.v (c.od i))]) [.sl 1 (c.P T).length fun j=>[.int .i64 (.v (c.W T j:Int))],.sl 9 (c.P T).length fun j=>spR c.F c.G ((c.P T).getD j 0)] c.F c.G _ a (c.P T) rfl ha hne (by omega) (fun i hi q hq=>by
   show a1i (cel c.nl c.X i q)/\0<=(cel c.nl c.X i q).fault;unfold cel;rw[if_pos hi];exact hcell i hi q hq) z d r hr
 obtain⟨z,d,r,hz⟩:=PbR.res_ex c.K (c.P T);have hle:d<=4:=AL (PbR.res_le hz) h.nl;have h22:=k4g h.nl (show T<=1000000 by omega) 4 (AJ _) (G:=c.G) _ hne (by omega) hmem z r (PbR.res_wi hz hle);have h109:=k3x _ _ _ _ _ _ (h110 _ (fun _ _=>rfl) _ _ _ ((c.K_same _).res.1 hz));cases z with
 |false=>obtain⟨_,h2,_⟩:=hz.2 rfl;subst h2;exact k5e c h18 (k5a c hf.ns hf.no hf.nl hl hi hg (k5i _ _ h108 h109)) h21 h22
 |true=>
  obtain⟨h1,h2⟩:=hz.1 rfl;have hok:r.ok:=by rw[h2];exact PbR.ok_bt c.K h.nl d _ h1.1 (by omega) hcell
  have h26:=(e2k 5 (by omega) r hok).1;have hdp:PlR.deep 5 r=d:=by rw[h2];exact PbR.deep_bt c.K d 5 _ h1 (by omega)
  rw[hdp] at h26;obtain⟨tt,htt⟩:=Classical.axiomOfChoice (fun i=>(show∃t:Bool×Nat×PlR,(c.wo i).K.res ((c.wo i).P T) t.1 t.2.1 t.2.2 from by
   obtain⟨z,d,r,h⟩:=PbR.res_ex (c.wo i).K ((c.wo i).P T);exact⟨(z,d,r),h⟩))
  have hd4: ∀i,i<c.nl->(tt i).2.1<=4:=fun i hi=>AL (PbR.res_le (htt i)) (h.wo hi).nl;refine k5b c h.nl hle (fun i=>if (tt i).1=AH then ((tt i).2.1:Int)-d else-1) h18
   (k5a c hf.ns hf.no hf.nl hl hi hg (k5j _ _ h.nl hle h108 h109 _ fun i hi=> ?_)) h21 h22 h26 (fun i hi=>⟨k5g c hf.nl hi,_,T,_,_,_,_,(tt i).1,(tt i).2.1,(tt i).2.2,(h.wo hi).places hT,?_,?_,hd4 i hi,rfl⟩)
  ·have h3:=htt i;rw[c.wo_K hi,c.wo_P hi] at h3;obtain⟨r',h4⟩:=PbR.del_res (K:=c.K) hi h3;exact⟨_,_,r',hd4 i hi,h110 (fun j=>decide (j=i)) (fun j hj=>decide_eq_false (by omega)) _ _ _ ((c.K_wo_same i _).res.1 h4),rfl⟩
  ·have hP:=c.wo_P hi T;refine k4g (h.wo hi).nl (show T<=1000000 by omega) 4 (AJ _) ((c.wo i).P T) (by rw[hP];exact hne) (by rw[hP];omega) (by rw[hP];exact hmem) _ _ (PbR.res_wi (htt i) (hd4 i hi))
  ·intro e;have h3:=htt i;obtain⟨h4,h5⟩:=h3.1 e;have hP:=c.wo_P hi T;have hok':(tt i).2.2.ok:=by rw[h5];exact PbR.ok_bt (c.wo i).K (h.wo hi).nl _ _ h4.1 (by rw[hP];omega) fun j hj p hp=>(h.wo hi).cell (by have:j<(c.wo i).nl:=hj;omega) (by rw[hP] at hp;exact hmem p hp)
   have h6:=(e2k 5 (by omega) _ hok').1;have h7:PlR.deep 5 (tt i).2.2=(tt i).2.1:=by rw[h5];exact PbR.deep_bt (c.wo i).K _ 5 _ h4 (by have:=hd4 i hi;omega)
   rwa [h7] at h6
end Go.Proofs.Tryz.Run
