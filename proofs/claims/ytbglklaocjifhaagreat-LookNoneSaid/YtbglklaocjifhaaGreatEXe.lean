/- slices.SortFunc, at cells: what the kit has proved of it lies in this program. slices.SortFunc at cells: the list comes out ascending. Conditions: none. -/
import Derived.Test.YtbglklaocjifhaaGreatEXk
import Derived.Shelf.SlSortCmp.WholeK
open List renaming range->AA,ext_getElem->AC,pairwise_iff_getElem->AF
open Go.Sort renaming ahead->AB
open Array renaming getElem?_eq_some_iff->AD,getElem?_eq_getElem->AE,size_eq_zero_iff->AG,getElem?_modify->AH,getElem?_append->AI,extract_size->AJ
set_option linter.unusedSimpArgs false
set_option linter.unusedVariables false
set_option maxRecDepth 100000
namespace Go.Proofs.Tryz.Run
open Go Go.Vf Go.Proofs Go.Shelf
def k3u:Ren where
 f:=fun
  |6=>173|15=>191|14=>204|28=>225|29=>226|20=>243|21=>244|22=>245|23=>246|24=>247|25=>248|26=>249|27=>250|46=>267|47=>257|48=>258|49=>268|50=>269|57=>272
  |n=>n
 t:=fun
  |22=>24|24=>77|25=>203|3=>3|39=>227|0=>0|53=>254|55=>257|4=>4|46=>268|45=>267|50=>119|5=>5|9=>9|66=>294|70=>298|76=>307|77=>308
  |n=>n
 g:=fun n=>n
theorem j8h {P:Program}{f:FuncId}{B fn:Func}(h:P.funcs[f]? =some fn)(hn:(fn.name== "runtime.NumGoroutine")=false)(e:some {B with name:=fn.name}=some fn):Bears P f B:=⟨fn.name,hn,h.trans e.symm⟩
theorem k3s:SlLaysF0.n6 Tryz.prog k3u:=by
 constructor
 all_goals first|kernel_rfl|(intro w;kernel_rfl)|exact j8h Tryz.func173 (by kernel_rfl) (by kernel_rfl)|exact j8h Tryz.func204 (by kernel_rfl) (by kernel_rfl)|exact j8h Tryz.func243 (by kernel_rfl) (by kernel_rfl)|exact j8h Tryz.func244 (by kernel_rfl) (by kernel_rfl)|exact j8h Tryz.func245 (by kernel_rfl) (by kernel_rfl)|exact j8h Tryz.func246 (by kernel_rfl) (by kernel_rfl)|exact j8h Tryz.func247 (by kernel_rfl) (by kernel_rfl)|exact j8h Tryz.func248 (by kernel_rfl) (by kernel_rfl)|exact j8h Tryz.func249 (by kernel_rfl) (by kernel_rfl)|exact j8h Tryz.func250 (by kernel_rfl) (by kernel_rfl)|exact j8h Tryz.func267 (by kernel_rfl) (by kernel_rfl)|exact j8h Tryz.func268 (by kernel_rfl) (by kernel_rfl)|exact j8h Tryz.func269 (by kernel_rfl) (by kernel_rfl)|exact j8h Tryz.func272 (by kernel_rfl) (by kernel_rfl)
open Go Go.Vf Go.Proofs Go.Shelf Go.RowKit Go.Lib Go.Sort
theorem k2e {w w':World}(h:d6d w w'): ∃q os',w'=grow (w.drewN q) os':=by
 obtain⟨h1,⟨h2,h3⟩,h4,h5,h6⟩:=h;obtain⟨hp,tp,dr,os,ou⟩:=w;obtain⟨hp',tp',dr',os',ou'⟩:=w';simp only at h1 h2 h3 h4 h5 h6;subst h1 h2 h4;refine⟨dr'-dr,hp'.extract hp.size hp'.size,?_⟩;simp only[grow,World.drewN];congr 1
 ·refine Array.ext_getElem? fun i=> ?_;rw[AI];split
  ·rename_i h;exact h6 i h
  ·rename_i h;rw[Array.getElem?_extract];by_cases hi:i<hp'.size
   ·rw[if_pos (by omega)];congr 1;omega
   ·rw[if_neg (by omega),Array.getElem?_eq_none (by omega)]
 ·omega
abbrev CeR:={v:VaR//a1i v/\0<=v.fault}
instance:Inhabited CeR:=⟨⟨⟨0,0⟩,by simp[a1i]⟩⟩
def j9a (x:CeR):List Value:=[.int .u8 x.1.fault,.int .i64 x.1.n]
def k1y (x y:CeR):Int:=if x.1=y.1 then 0 else if vlt x.1 y.1 then-1 else 1
theorem k4j (x y:CeR):ltOf k1y x y=decide (vlt x.1 y.1):=by
 unfold ltOf k1y;by_cases h:x.1=y.1
 ·rw[if_pos h,h];simp[j9m]
 ·rw[if_neg h];by_cases h2:vlt x.1 y.1<;>simp[h2]
theorem k4k:SWO (ltOf k1y) where
 irrefl x:=by rw[k4j];simp[j9m]
 trans x y z h1 h2:=by rw[k4j] at*;simp at*;exact j9w h1 h2
 ntrans x y z h1 h2:=by
  rw[k4j] at*
  simp at*
  intro h;by_cases e:x.1=y.1
  ·rw[e] at h;exact h2 h
  ·exact h2 (j9w (k1m h1 e) h)
theorem k2p (blk off size:Nat)(w:World):CmpLays Tryz.prog 149 #[] j9a 2 k1y blk off size w:=fun m os dk hs x y=>by
 have h:=c9s x.1 y.1 x.2.2 y.2.2 x.2.1 y.2.1 (k1y x y) rfl;generalize sortWorldK j9a 2 w blk off m dk os=W;refine (h.2 W (fun _=>False) _ (fun _ h=>h.elim) ⟨rfl,fun i z u hz hu=> ?_⟩).mono fun e w' hR=> ?_
 ·have hag: ∀c:CeR,VR W (fun _=>False) a2j c.1.av (.agg (j9a c).toArray):=fun c=>by
   refine .agg _ _ rfl fun j z u hz hu=> ?_
   match j,hz,hu with
   |0,hz,hu=>simp[j9a] at hz hu;subst hz;subst hu;exact .d (.int _ _)
   |1,hz,hu=>simp[j9a] at hz hu;subst hz;subst hu;exact .d (.int _ _)
  match i,hz,hu with
  |0,hz,hu=>simp at hz hu;subst hz;subst hu;exact hag x
  |1,hz,hu=>simp at hz hu;subst hz;subst hu;exact hag y
 ·obtain⟨v,S',h1,h2,_,h3⟩:=hR;cases h2 with
  |d h2=>cases h2;exact⟨h1,k2e h3⟩
noncomputable def k4i (v:VaR):CeR:=by classical exact if h:a1i v/\0<=v.fault then⟨v,h⟩ else default
theorem k1w {v:VaR}(h:a1i v/\0<=v.fault):(k4i v).1=v:=by unfold k4i;rw[dif_pos h]
noncomputable def k0k (n:Nat)(f:Nat->VaR):Array CeR:=((AA n).map fun i=>k4i (f i)).toArray
theorem j8o (n:Nat)(f:Nat->VaR):(k0k n f).size=n:=by simp[k0k]
theorem k2u {n i:Nat}(f:Nat->VaR)(h:i<n):(k0k n f)[i]! =k4i (f i):=by rw[getElem!_pos _ i (by rw[j8o];exact h)];simp[k0k]
theorem k2f {w:World}{S:Nat->Prop}{ρ:Rho}{b C n:Nat}{e:Nat->List DV}(hs:Sim w S ρ [.arr 2 n e])(hρ:ρ 0=some (some b,C))(d':Array CeR)(hd:d'.size=n)(m:Nat)(os:Array Obj):
 ∃S',Sim (sortWorldK j9a 2 w b 0 m d' os) S' ρ [.arr 2 n fun i=>(d'[i]!).1.row]/\Ext w S ρ (sortWorldK j9a 2 w b 0 m d' os) S' ρ:=by
 obtain⟨o,ho,hh⟩:=hs.obj 0 _ C hρ;simp at ho;subst ho;obtain⟨cs,ty,h1,h2,h3,h4⟩:=hh;have hblk:b<w.heap.size:=(AD.1 h1).1;have hw1:(putRowK j9a 2 (AB w m) b 0 d').heap[b]? =some (.cells (putCells id 0 (flatK j9a 2 d') cs) ty (0,0)):=by show (w.heap.modify b _)[b]? =_;rw[AH,if_pos rfl,h1];rfl
 have hB:a0z (putRowK j9a 2 (AB w m) b 0 d') S ρ b C (.arr 2 n fun i=>(d'[i]!).1.row):=by
  refine⟨_,ty,hw1,by simp[putCells,h2],h3,fun i hi=>⟨rfl,fun j x v hx hv=> ?_⟩⟩;have hj:j<2:=(List.getElem?_eq_some_iff.1 hx).1;have hlt:i*2+j<d'.size*2:=by rw[hd];omega
  have hcs:i*2+j<cs.size:=by rw[h2];omega
  rw[putCells,Array.getElem?_mapIdx,AE hcs] at hv;simp only[Option.map_some,Nat.zero_le,true_and,Nat.zero_add,size_flatK,hlt,if_true,Nat.sub_zero,id,Option.some.injEq] at hv;rw[get_flatK _ _ _ _ hlt] at hv;rw[show (i*2+j)/2=i by omega,show (i*2+j) % 2=j by omega] at hv;subst hv
  match j,hx,hj with
  |0,hx,_=>simp[VaR.row] at hx;subst hx;exact .int _ _
  |1,hx,_=>simp[VaR.row] at hx;subst hx;exact .int _ _
 have c1:=Chg.set (w':=putRowK j9a 2 (AB w m) b 0 d') (o':= .arr 2 n fun i=>(d'[i]!).1.row) hs hρ (o:= .arr 2 n e) rfl rfl rfl ⟨rfl,Nat.le_add_right _ _⟩ rfl (by show (w.heap.modify b _).size=_;simp)
  (fun k hk=>by show (w.heap.modify b _)[k]? =_;rw[AH,if_neg (Ne.symm hk)]) hB
 have hk:d6d (putRowK j9a 2 (AB w m) b 0 d') (sortWorldK j9a 2 w b 0 m d' os):=⟨rfl,⟨rfl,Nat.le_refl _⟩,rfl,by simp[sortWorldK,grow],fun k hk=>by
  show ((putRowK j9a 2 (AB w m) b 0 d').heap++os)[k]? =_;rw[AI,if_pos hk]⟩
 have c2:=b5v (S1:=fun _=>False) c1.sim (fun _ h=>h.elim) hk;exact⟨_,c2.sim,c1.ext.trans c2.ext⟩
def k4l (n:Nat)(f:Nat->VaR)(pg:List Nat)(v:AV)(h':List a0f):Prop:=
 pg=[]/\v= .tuple []/\ ∃g:Nat->VaR,h'=[.arr 2 n fun i=>(g i).row]/\((AA n).map g).Perm ((AA n).map f)/\ ∀i j,i<j->j<n-> ¬vlt (g j) (g i)
theorem k3y {n:Nat}(h0:0<n)(hn:n<=1000000)(f:Nat->VaR)(hf: ∀i,i<n->a1i (f i)/\0<=(f i).fault)(e:Nat->List DV)(he: ∀i,i<n->e i=(f i).row):
 a1h Tryz.prog 173 [.msl 0 2 none n false,.fn 149 [] []] [.arr 2 n e] (k4l n f):=by
 obtain⟨fn,c,hfn,hb,hname,_⟩:=e9x;refine⟨⟨fn,hfn,hname,by rw[hb];simp⟩,fun w S ρ vs hs hv=> ?_⟩;obtain⟨hl,hg⟩:=hv;obtain⟨v0,v1,rfl⟩: ∃a b,vs= #[a,b]:=by
  match vs,hl with
  |⟨[a,b]⟩,_=>exact⟨a,b,rfl⟩
 have g0:=hg 0 _ v0 rfl rfl;have g1:=hg 1 _ v1 rfl rfl;cases g1 with
 |fn _ _ _ us cs hl1 _ hl2 _=>
  obtain rfl:us= #[]:=AG.1 hl1.symm;obtain rfl:cs= #[]:=AG.1 hl2.symm;cases g0 with
  |msl _ _ _ _ _ ob C cap a hρ hc hcap ha=>
   simp only[Option.getD] at hc hcap ha;obtain⟨o,ho,hh⟩:=hs.obj 0 _ C hρ;simp at ho;subst ho;cases ob with
   |none=>have:=hh.1;omega
   |some b=>
    have hcp:cap=C:=by rw[hcap,if_neg (by decide)];omega
    rw[ha (by omega)];obtain⟨cs,ty,h1,h2,h3,h4⟩:=hh;have hblk:b<w.heap.size:=(AD.1 h1).1;have hH:HoldsK j9a 2 w b 0 (k0k n f):=fun t ht=>by
     rw[size_flatK,j8o] at ht;have hi:t/2<n:=by omega
     have hj:t % 2<2:=by omega
     have hcs:t<cs.size:=by rw[h2];omega
     rw[get_flatK _ _ _ _ (by rw[j8o];exact ht),k2u f hi];simp only[World.cell?,World.frozen?,h1,Nat.zero_add];refine⟨?_,by simp⟩;have ht2:t/2*2+t % 2=t:=by omega
     have:=(h4 (t/2) hi).2 (t % 2);rw[he _ hi] at this;simp only[j9a,k1w (hf _ hi),id];rw[ht2] at this;rw[AE hcs] at this⊢;simp only[Option.isSome_none,Bool.false_eq_true,if_false];generalize cs[t]=u at this⊢;rcases Nat.lt_or_ge (t % 2) 1 with h|h
     ·have e0:t % 2=0:=by omega
      rw[e0] at this⊢;have h5:=this (.int .u8 (.v (f (t/2)).fault)) _ rfl rfl;cases h5;simp[e0];rfl
     ·have e0:t % 2=1:=by omega
      rw[e0] at this⊢;have h5:=this (.int .i64 (.v (f (t/2)).n)) _ rfl rfl;cases h5;simp[e0];rfl
    have hcon:=AnyQ.slices_SortFunc k3s 2 (fun w=>by kernel_rfl) (fun w=>by kernel_rfl) j9a (fun _=>rfl) (fun x v hv=>by simp[j9a] at hv;rcases hv with rfl|rfl<;>rfl) k1y k4k 149 #[] b 0 cap (k0k n f) w
     (enters_of Tryz.func149 (by kernel_rfl) rfl) (k2p b 0 _ w) hH hblk (by rw[j8o];omega)
    rw[j8o] at hcon;refine Calls.mono hcon fun en w' hR=> ?_;obtain⟨rfl,d',m,os,hp,hso,rfl⟩:=hR;have hd:d'.size=n:=by rw[hp.1,j8o]
    obtain⟨S',hS',hE'⟩:=k2f hs hρ d' hd m os;refine⟨_,.tuple [],[],[.arr 2 n fun i=>(d'[i]!).1.row],S',ρ,rfl,⟨rfl,rfl,fun i=>(d'[i]!).1,rfl,?_,?_⟩,.tuple _ _ rfl (fun i x v h=>by simp at h),hS',hE',by simp,fun _ _ _=>rfl⟩
    ·have h6:=hp.2.2;have ea:(k0k n f).extract 0 n=k0k n f:=by
      have:=AJ (xs:=k0k n f)
      rwa [j8o] at this
     have ed:d'.extract 0 n=d':=by
      have:=AJ (xs:=d')
      rwa [hd] at this
     rw[ea,ed] at h6;have h7:=h6.map (fun x:CeR=>x.1);have e1:(AA n).map (fun i=>(d'[i]!).1)=d'.toList.map fun x=>x.1:=by
      refine AC (by simp[hd]) fun i h1 h2=> ?_;have:i<d'.size:=by simpa using h2
      simp[getElem!_pos d' i this]
     have e2:(AA n).map f=(k0k n f).toList.map fun x=>x.1:=by
      refine AC (by simp[j8o]) fun i h1 h2=> ?_;have:i<n:=by simpa using h1
      simp[k0k,k1w (hf i this)]
     rw[e1,e2];exact h7
    ·intro i j h1 h2;have h6:=hso i j (Nat.zero_le _) h1 h2;rw[k4j] at h6;simpa using h6
theorem k3c {KS SS:List VaR}(h0:KS≠[])(hn:KS.length<=1000000)(hf: ∀v,v∈KS->a1i v/\0<=v.fault)(hd:KS.Nodup)(hs:SS.Pairwise vlt)(hm: ∀v,v∈SS↔v∈KS)(e:Nat->List DV)(he: ∀i,i<KS.length->e i=(KS.getD i ⟨0,0⟩).row):
 a1h Tryz.prog 173 [.msl 0 2 none KS.length false,.fn 149 [] []] [.arr 2 KS.length e] fun pg v h'=>pg=[]/\v= .tuple []/\ ∃e':Nat->List DV,h'=[.arr 2 KS.length e']/\SS.length=KS.length/\ ∀i,i<KS.length->e' i=(SS.getD i ⟨0,0⟩).row:=by
 refine (k3y (List.length_pos_iff.2 h0) hn (fun i=>KS.getD i ⟨0,0⟩) (fun i hi=>hf _ (j8e hi)) e he).mono fun pg v h' hr=> ?_;obtain⟨rfl,rfl,g,rfl,hp,ha⟩:=hr;have e1:(AA KS.length).map (fun i=>KS.getD i ⟨0,0⟩)=KS:=AC (by simp) fun i h1 h2=>by simp[List.getElem?_eq_getElem h2]
 rw[e1] at hp;have hnd:((AA KS.length).map g).Nodup:=hp.nodup_iff.2 hd;have hpw:((AA KS.length).map g).Pairwise vlt:=AF.2 fun i j hi hj hij=>by have h1:=AF.1 hnd i j hi hj hij;simp only[List.length_map,List.length_range] at hi hj;simp only[List.getElem_map,List.getElem_range] at h1⊢;exact k1m (ha i j hij hj) (fun e=>h1 e.symm)
 have hss:SS=(AA KS.length).map g:=k1h hs hpw fun v=>(hm v).trans hp.mem_iff.symm;have hl:SS.length=KS.length:=by rw[hss];simp
 refine⟨rfl,rfl,_,rfl,hl,fun i hi=> ?_⟩;rw[hss];simp[hi]
end Go.Proofs.Tryz.Run
