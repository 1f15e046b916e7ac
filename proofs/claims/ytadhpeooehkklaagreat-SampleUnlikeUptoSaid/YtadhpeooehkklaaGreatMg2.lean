/- Part 2 of the proof: The evaluator 'go' is sound: the end of a call, the theorem; contracts; rules for branches, calls, loops; Rules for the evaluator: what is known made less, loops; A region that draws its order: where the operations with an effect are ordered among themselves, and what writes waits for all that reads, one run in the order of the text serves every order; The evaluator at regions that draw their order: one run in the order of the text; what is read is what was known at the region's beginning; A region that draws its order, in which two operations with an effect are not ordered: the run in either order of these two serves every order; Rules for the evaluator: a call that is handed the caller's own objects, to read them; Rules for the evaluator: objects that are written no more are frozen, ahead of a loop; Rules for the evaluator: a call that is handed one of the caller's objects, to write it; The table of this program's types, by which the evaluator goes; The program's functions are entered; The data of the document's types, plain, and as the evaluator has them; Names: the program's and the reference's functions say the same of a text; sort.Search; the program's table of texts: Find; The library's sort.Slice, laid at this program by the kit's tool (lay-plain; wip/tools/lay.sh); The order of the table; the closure handed to sort.Slice; sort.Slice of the table's places, at a call. No condition. -/
import Derived.Test.YtadhpeooehkklaaGreatProg
import Derived.Shelf.GgSortFunc.Whole
import Derived.Shelf.GgSortFunc.Tiny
import Derived.Test.YtadhpeooehkklaaGreatMg1
set_option linter.all false
namespace Go.Proofs.YtadhpeooehkklaaGreat
namespace Dv
open Go Go.RowKit
structure Frz (E E':En) (bx:List (List DV)) (N:Nat):Prop where
 c:∀ a v,E.c a=some v->E'.c a=some v
 fz:∀ (i:Nat) cs,N<=i->bx[i]? = some cs->∃ b arr,E.β[i]? = some b/\RvC E cs arr/\∀ (j:Nat) u,arr[j]? = some u->E'.c ⟨b,j,none⟩=some u
theorem Frz.cl {E E':En} {bx:List (List DV)} {N:Nat} (h:Frz E E' bx N):Frz E E'.cl bx N:=⟨h.c,h.fz⟩
structure Low (E E':En) (n0 m0:Nat):Prop where
 β:∀ (i:Nat) b,i < n0->E.β[i]? = some b->E'.β[i]? = some b
 tk:∀ k,k < m0->E'.tk[k]? = E.tk[k]? /\ E'.τ[k]? = E.τ[k]?
theorem Low.zero (E E':En):Low E E' 0 0:=⟨fun _ _ h=>absurd h (Nat.not_lt_zero _),fun _ h=>absurd h (Nat.not_lt_zero _)⟩
theorem Ext.cl_self (E:En):Ext E.cl E:=⟨fun _ _ h=>h,fun j b hj=>by simp [En.cl] at hj,fun k q hk=>by simp [En.cl] at hk⟩
theorem rvL_scal {E E':En}:∀ {l:List DV} {arr:List Value},(∀ x∈l,∃ y,x = .v y)->RvL E l arr->RvL E' l arr
 | [],arr,_,h=>by simp only [RvL] at h ⊢;exact h
 | d :: r,arr,hs,h=>by
  simp only [RvL] at h ⊢;obtain ⟨v,s,rfl,h1,h2⟩:=h;obtain ⟨y,rfl⟩:=hs d (by simp);unfold Rv at h1;exact ⟨v,s,rfl,(by unfold Rv;exact h1),rvL_scal (fun x hx=>hs x (List.mem_cons_of_mem _ hx)) h2⟩
theorem CcL.length {bx:List (List DV)} {N n0 m0:Nat}:∀ {l' l:List DV},CcL bx N n0 m0 l' l->l'.length=l.length
 | [],l,h=>by simp only [CcL] at h;subst h;rfl
 | d' :: r',l,h=>by
  simp only [CcL] at h;obtain ⟨d,r,rfl,_,h2⟩:=h;simp [CcL.length h2]
theorem CcE.length {bx:List (List DV)} {N:Nat}:∀ {l' l:List (List DV)},CcE bx N l' l->l'.length=l.length
 | [],l,h=>by simp only [CcE] at h;subst h;rfl
 | d' :: r',l,h=>by
  simp only [CcE] at h;obtain ⟨d,r,rfl,_,h2⟩:=h;simp [CcE.length h2]
mutual
theorem Cc.sound {bx:List (List DV)} {N:Nat} {E:En}:∀ {d':DV} {E':En} {n0 m0:Nat} {d:DV} {v:Value},Frz E E' bx N->Low E E' n0 m0->Cc bx N n0 m0 d' d->Rv E d v->Rv E' d' v
 | .v y,E',n0,m0,d,v,hf,hl,h,hv=>by
  simp only [Cc] at h;subst h;unfold Rv at hv ⊢;exact hv
 | .ud,E',n0,m0,d,v,hf,hl,h,hv=>by
  simp only [Cc] at h;subst h;unfold Rv at hv ⊢;exact hv
 | .agg l',E',n0,m0,d,v,hf,hl,h,hv=>by
  simp only [Cc] at h;obtain ⟨l,rfl,h⟩:=h;unfold Rv at hv ⊢;obtain ⟨vs,h1,h2,h3⟩:=hv;exact ⟨vs,h1,CcL.sound hf hl h h2,h3⟩
 | .tup l',E',n0,m0,d,v,hf,hl,h,hv=>by
  simp only [Cc] at h;obtain ⟨l,rfl,h⟩:=h;unfold Rv at hv ⊢;obtain ⟨vs,h1,h2⟩:=hv;exact ⟨vs,h1,CcL.sound hf hl h h2⟩
 | .sl e es tk,E',n0,m0,d,v,hf,hl,h,hv=>by
  have hm:∀ b o,RvEs E.cl e b o es->RvEs E'.cl e b o es:=fun b o hr=>RvEs.mono (Ext.cl_of hf.c) hr
  cases tk with
  | none=>
   simp only [Cc] at h;rcases h with ⟨rfl,rfl⟩ | ⟨tk',rfl⟩ | ⟨i,off,c,cs,rfl,hi,hcs,hfl,hel,hsc⟩ | ⟨es0,tk',rfl,h⟩
   ·have:=rv_v_eq hv;subst this;unfold Rv;exact ⟨none,0,0,rfl,⟨rfl,Nat.le_refl _⟩,fun hn=>(hn rfl).elim,fun k hk=>by cases hk⟩
   ·unfold Rv at hv ⊢;obtain ⟨b,n,cap,h1,h2,h3,_⟩:=hv;exact ⟨b,n,cap,h1,h2,fun hn=>⟨(h3 hn).1,hm _ _ (h3 hn).2⟩,fun k hk=>by cases hk⟩
   ·obtain ⟨b,arr,hb,hc,hmm⟩:=hf.fz i cs hi hcs;unfold Rv at hv ⊢;obtain ⟨b',ad,hb',hlc,rfl,hca⟩:=hv;rw [hb] at hb';simp only [oI] at hb';subst hb';refine ⟨ad,es.length,c,rfl,⟨rfl,hlc⟩,fun hn=>?_,fun k hk=>by cases hk⟩;have hpos:0 < es.length:=List.length_pos_iff.2 hn;have had:=hca (by omega);subst had;refine ⟨rfl,?_⟩;have h1:=(hc.drop off).take (es.length * e);rw [<- hfl] at h1;refine rvEs_flat ⟨rvL_scal hsc h1.1,h1.2⟩ hel fun j u hj=>?_;rw [List.getElem?_take] at hj;split at hj
    ·rw [List.getElem?_drop] at hj;exact hmm (off + j) u hj
    ·cases hj
   ·have hlen:=CcE.length h;have hs:=fun b o=>CcE.sound (e:=e) (b:=b) (o:=o) hf h;unfold Rv at hv ⊢;obtain ⟨b,n,cap,h1,h2,h3,_⟩:=hv;refine ⟨b,n,cap,h1,by omega,fun hn=>?_,fun k hk=>by cases hk⟩;have hn0:es0 ≠ []:=fun hc=>hn (List.eq_nil_of_length_eq_zero (by rw [hlen,hc];rfl));exact ⟨(h3 hn0).1,hs _ _ (h3 hn0).2⟩
  | some k=>
   simp only [Cc] at h;obtain ⟨hk,rfl⟩:=h;unfold Rv at hv ⊢;obtain ⟨b,n,cap,h1,h2,h3,h4⟩:=hv;refine ⟨b,n,cap,h1,h2,fun hn=>⟨(h3 hn).1,hm _ _ (h3 hn).2⟩,fun k' hk'=>?_⟩;cases hk';obtain ⟨e1,e2⟩:=hl.tk k hk;obtain ⟨q,h5,h6,h7⟩:=h4 k rfl;exact ⟨q,by rw [e1];exact h5,h6,fun hh=>by rw [e2];exact h7 hh⟩
 | .pt cs' o,E',n0,m0,d,v,hf,hl,h,hv=>by
  simp only [Cc] at h;rcases h with rfl | ⟨i,cs,rfl,hi,hcs,h⟩
  ·unfold Rv at hv ⊢;obtain ⟨b,p,h1,h2⟩:=hv;exact ⟨b,p,h1,RvAt.mono (Ext.cl_of hf.c) h2⟩
  ·obtain ⟨b,arr,hb,hc,hm⟩:=hf.fz i cs hi hcs;unfold Rv at hv ⊢;obtain ⟨b',hb',rfl⟩:=hv;rw [hb] at hb';simp only [oI] at hb';subst hb';refine ⟨b,0,by simp,?_⟩;have:=CcL.sound hf.cl (Low.zero E E'.cl) h hc.1;exact rvAt_of ⟨this,hc.2⟩ fun j u hj=>by rw [Nat.zero_add];exact hm j u hj
 | .loc i o,E',n0,m0,d,v,hf,hl,h,hv=>by
  simp only [Cc] at h;obtain ⟨hi,rfl⟩:=h;unfold Rv at hv ⊢;obtain ⟨b,hb,h1⟩:=hv;exact ⟨b,hl.β i b hi hb,h1⟩
 | .el i o,E',n0,m0,d,v,hf,hl,h,hv=>by
  simp only [Cc] at h;obtain ⟨hi,rfl⟩:=h;unfold Rv at hv ⊢;obtain ⟨b,hb,h1⟩:=hv;exact ⟨b,hl.β i b hi hb,h1⟩
 | .ms i e o l c,E',n0,m0,d,v,hf,hl,h,hv=>by
  simp only [Cc] at h;obtain ⟨hi,rfl⟩:=h;unfold Rv at hv ⊢;obtain ⟨b,ad,hb,h1⟩:=hv;exact ⟨b,ad,hl.β i b hi hb,h1⟩
 | .fn f a' b',E',n0,m0,d,v,hf,hl,h,hv=>by
  simp only [Cc] at h;obtain ⟨a,b,rfl,ha,hb⟩:=h;unfold Rv at hv ⊢;obtain ⟨l,r,h1,h2,h3⟩:=hv;exact ⟨l,r,h1,CcL.sound hf hl ha h2,CcL.sound hf hl hb h3⟩
 | .ifc t x',E',n0,m0,d,v,hf,hl,h,hv=>by
  simp only [Cc] at h;obtain ⟨x,rfl,hx⟩:=h;unfold Rv at hv ⊢;obtain ⟨z,h1,h2⟩:=hv;exact ⟨z,h1,Cc.sound hf hl hx h2⟩
theorem CcL.sound {bx:List (List DV)} {N:Nat} {E:En}:∀ {l':List DV} {E':En} {n0 m0:Nat} {l:List DV} {vs:List Value},Frz E E' bx N->Low E E' n0 m0->CcL bx N n0 m0 l' l->RvL E l vs->RvL E' l' vs
 | [],E',n0,m0,l,vs,hf,hl,h,hv=>by
  simp only [CcL] at h;subst h;simp only [RvL] at hv ⊢;exact hv
 | d' :: r',E',n0,m0,l,vs,hf,hl,h,hv=>by
  simp only [CcL] at h;obtain ⟨d,r,rfl,h1,h2⟩:=h;simp only [RvL] at hv ⊢;obtain ⟨v,s,h3,h4,h5⟩:=hv;exact ⟨v,s,h3,Cc.sound hf hl h1 h4,CcL.sound hf hl h2 h5⟩
theorem CcA.sound {bx:List (List DV)} {N:Nat} {E:En}:∀ {l':List DV} {E':En} {l:List DV} {b p:Nat},Frz E E' bx N->CcL bx N 0 0 l' l->RvAt E.cl b p l->RvAt E'.cl b p l'
 | [],E',l,b,p,hf,h,hv=>by simp only [RvAt]
 | d' :: r',E',l,b,p,hf,h,hv=>by
  simp only [CcL] at h;obtain ⟨d,r,rfl,h1,h2⟩:=h;simp only [RvAt] at hv ⊢;obtain ⟨⟨v,h3,h4,h5⟩,h6⟩:=hv;exact ⟨⟨v,hf.c _ _ h3,h4,Cc.sound hf.cl (Low.zero E E'.cl) h1 (Rv.mono (Ext.cl_self E) h5)⟩,CcA.sound hf h2 h6⟩
theorem CcE.sound {bx:List (List DV)} {N:Nat} {E:En}:∀ {l':List (List DV)} {E':En} {l:List (List DV)} {e b o:Nat},Frz E E' bx N->CcE bx N l' l->RvEs E.cl e b o l->RvEs E'.cl e b o l'
 | [],E',l,e,b,o,hf,h,hv=>by simp only [RvEs]
 | a' :: r',E',l,e,b,o,hf,h,hv=>by
  simp only [CcE] at h;obtain ⟨a,r,rfl,h1,h2⟩:=h;simp only [RvEs] at hv ⊢;obtain ⟨h3,h4,h5⟩:=hv;refine ⟨?_,?_,CcE.sound hf h2 h5⟩
  ·rcases h1 with rfl | h1
   ·exact h3
   ·rw [CcL.length h1];exact h3
  ·rcases h1 with rfl | h1
   ·exact RvAt.mono (Ext.cl_of hf.c) h4
   ·exact CcA.sound hf h1 h4
end
theorem rv_es {E:En} {e:Nat} {es es':List (List DV)} {tk:Option Nat} {v:Value} (h:CcE [] 0 es' es) (hv:Rv E (.sl e es tk) v):Rv E (.sl e es' tk) v:=by
 have hlen:=CcE.length h;have hs:=fun b o=>CcE.sound (E:=E) (E':=E) (bx:=[]) (N:=0) (e:=e) (b:=b) (o:=o) ⟨fun _ _ h=>h,fun i cs _ hi=>by simp at hi⟩ h;unfold Rv at hv ⊢;obtain ⟨b,n,cap,h1,h2,h3,h4⟩:=hv;refine ⟨b,n,cap,h1,by omega,fun hn=>?_,h4⟩;have hn0:es ≠ []:=fun hc=>hn (List.eq_nil_of_length_eq_zero (by rw [hlen,hc];rfl));exact ⟨(h3 hn0).1,hs _ _ (h3 hn0).2⟩
theorem CcLL.get {bx:List (List DV)} {N n0 m0:Nat}:∀ {l' l:List (List DV)},CcLL bx N n0 m0 l' l->l'.length=l.length/\∀ (i:Nat) cs',l'[i]? = some cs' -> ∃ cs,l[i]? = some cs/\CcL bx N n0 m0 cs' cs
 | [],l,h=>by simp only [CcLL] at h;subst h;exact ⟨rfl,by simp⟩
 | a' :: r',l,h=>by
  simp only [CcLL] at h;obtain ⟨a,r,rfl,h1,h2⟩:=h;obtain ⟨h3,h4⟩:=CcLL.get h2;refine ⟨by simp [h3],fun i cs' hi=>?_⟩
  cases i with
  | zero=>simp only [List.getElem?_cons_zero,oI] at hi;subst hi;exact ⟨a,rfl,h1⟩
  | succ i=>simp only [List.getElem?_cons_succ] at hi ⊢;exact h4 i cs' hi
open Classical in
noncomputable def frzC (E:En) (n:Nat) (w:World):Addr->Option Value:=
 fun a=>if ∃ i:Nat,n<=i/\E.β[i]? = some a.block then w.cell? a else E.c a
section
variable {X:Ctx} {E:En} {st:St} {a:Act} {w:World}
theorem frzC_cases {n:Nat} {x:Addr} {v:Value} (h:frzC E n w x=some v):((∃ i:Nat,n<=i/\E.β[i]? = some x.block)/\w.cell? x=some v)∨E.c x=some v:=by
 unfold frzC at h;split at h
 ·rename_i hc;exact .inl ⟨hc,h⟩
 ·exact .inr h
theorem frzC_le {bx:List (List DV)} (h:Env E bx w) {n:Nat} {x:Addr} {v:Value} (hx:E.c x=some v):frzC E n w x=some v:=by
 unfold frzC;split
 ·exact h.sub x v hx
 ·exact hx
theorem endd_of (h:Rel X E st a w) {d d':DV} {os:List (List DV)} {v:Value} (hv:Rv E d v) (M:Nat) (hM:(X.fr=false/\M=X.m0)∨(X.fr=true/\M=st.tk.length)) (hd:Cc st.bx X.n0 X.n0 M d' d) (hos:CcLL st.bx X.n0 X.n0 M os (st.bx.take X.n0)) (hΦ:X.Φ d' os (st.tk.take M)):Endd X.still X.E0 X.w0 X.Φ v w X.fr:=by
 obtain ⟨r,hβr,hβl⟩:=h.nw.β;have hb0:E.β.take X.n0=X.E0.β:=by rw [hβr,<- X.hn0];simp
 have hget:∀ (i:Nat) b,i < X.n0->E.β[i]? = some b->X.E0.β[i]? = some b:=fun i b hi hb=>by
  rw [<- hb0,List.getElem?_take,if_pos hi];exact hb
 have hnew:∀ (i:Nat) b,X.n0<=i->E.β[i]? = some b->b∈r:=fun i b hi hb=>by
  rw [hβr,List.getElem?_append_right (by rw [X.hn0];exact hi)] at hb;exact mG hb
 have hfar:∀ b,b∈X.E0.β->b∈r->False:=fun b h1 h2=>by
  have:=h.env.inj;rw [hβr] at this;exact (List.nodup_append.1 this).2.2 b h1 b h2 rfl
 have hE0l:X.E0.τ.length=X.m0:=by rw [h.nw.l0,X.hm0]
 have hEt:X.m0<=E.tk.length:=by
  rcases Nat.lt_or_ge E.tk.length X.m0 with h1 | h1
  ·have hk:E.tk.length < X.E0.tk.length:=by rw [X.hm0];exact h1
   have hk':E.tk.length < X.E0.τ.length:=by rw [h.nw.l0];exact hk
   obtain ⟨q',y',h2,_⟩:=h.nw.tk E.tk.length _ _ (gE hk) (gE hk');have:=(gS h2).1;omega
  ·exact h1
 have hMm:X.m0<=M/\M<=E.tk.length:=by
  rcases hM with ⟨_,rfl⟩ | ⟨_,rfl⟩
  ·exact ⟨Nat.le_refl _,hEt⟩
  ·rw [<- h.tk];exact ⟨hEt,Nat.le_refl _⟩
 have hEl:tkL X.fr (E.tk.take M).length X.E0.tk.length:=by
  rw [List.length_take];rcases hM with ⟨hf,rfl⟩ | ⟨hf,rfl⟩
  ·rw [hf];show min _ _=_;rw [X.hm0];omega
  ·rw [hf];show _<=min _ _;rw [X.hm0];omega
 let E':En:=⟨frzC E X.n0 w,X.E0.β,E.tk.take M,E.τ.take M⟩
 have hfrz:Frz E E' st.bx X.n0:={
  c:=fun x u hx=>frzC_le h.env hx
  fz:=fun i cs hi hcs=>by
   obtain ⟨b,ty,arr,hb,hw,hc⟩:=h.env.bxs i cs hcs;refine ⟨b,arr,hb,hc,fun j u hj=>?_⟩;show frzC E X.n0 w ⟨b,j,none⟩=some u;unfold frzC;rw [if_pos ⟨i,hi,hb⟩,cell_blk hw]
   simpa using hj }
 have hlow:Low E E' X.n0 M:={
  β:=hget
  tk:=fun k hk=>⟨by show (E.tk.take M)[k]? = _;rw [List.getElem?_take,if_pos hk],by show (E.τ.take M)[k]? = _;rw [List.getElem?_take,if_pos hk]⟩ }
 obtain ⟨hol,hog⟩:=hos.get;refine ⟨h.fr,h.sh,d',os,E',?_,rfl,hEl,?_,hd.sound hfrz hlow hv,by show X.Φ d' os (E.tk.take M);rw [h.tk];exact hΦ⟩
 ·exact {
   len:=by
    show X.E0.β.length=os.length;rw [hol,X.hn0,List.length_take]
    have:X.n0<=st.bx.length:=by
     rw [<- h.env.len,hβr,List.length_append,X.hn0];omega
    omega
   tl:=by simp only [E',List.length_take];rw [h.env.tl]
   bxs:=fun i cs' hi=>by
    obtain ⟨cs,hcs,hcc⟩:=hog i cs' hi;rw [List.getElem?_take] at hcs;split at hcs
    ·rename_i hlt;obtain ⟨b,ty,arr,hb,hw,hc⟩:=h.env.bxs i cs hcs;exact ⟨b,ty,arr,hget i b hlt hb,hw,CcL.sound hfrz hlow hcc hc.1,hc.2⟩
    ·cases hcs
   inj:=by rw [<- hb0];exact h.env.inj.sublist (List.take_sublist _ _)
   sub:=fun x u hx=>by
    rcases frzC_cases hx with ⟨_,h1⟩ | h1
    ·exact h1
    ·exact h.env.sub x u h1
   pc:=fun x u hx hm=>by
    rcases frzC_cases hx with ⟨⟨i,hi,hb⟩,_⟩ | h1
    ·exact hfar _ hm (hnew i _ hi hb)
    ·refine h.env.pc x u h1 ?_;rw [hβr];exact List.mem_append.2 (.inl hm)
   tks:=fun k q y hq hy=>by
    simp only [E',List.getElem?_take] at hq hy;split at hq
    ·rename_i hk;rw [if_pos hk] at hy;rcases h.env.tks k q y hq hy with h1 | ⟨g,cap,cur,rfl,h1,h2,h3,h4,h5,h6⟩
     ·exact .inl h1
     ·refine .inr ⟨g,cap,cur,rfl,h1,⟨h2.1,h2.2.mono fun _ _ hx=>frzC_le h.env hx⟩,h3,h4,fun hm=>h5 (by rw [hβr];exact List.mem_append.2 (.inl hm)),fun x u hx hg=>?_⟩;rcases frzC_cases hx with ⟨⟨i,hi,hb⟩,_⟩ | h7
      ·rw [hg] at hb;exact (h5 (mG hb)).elim
      ·exact h6 x u h7 hg
    ·cases hq
   tkd:=fun k k' y y' g hkk hy hy'=>by
    simp only [E',List.getElem?_take] at hy hy';split at hy
    ·split at hy'
     ·exact h.env.tkd k k' y y' g hkk hy hy'
     ·cases hy'
    ·cases hy }
 ·exact {
   c:=fun x u hx=>frzC_le h.env (h.nw.c x u hx)
   cn:=fun x u hx=>by
    rcases frzC_cases hx with ⟨⟨i,hi,hb⟩,_⟩ | h1
    ·exact .inr (.inl (hβl _ (hnew i _ hi hb)))
    ·exact h.nw.cn x u h1
   β:=⟨[],by simp [E'],by simp⟩
   tk:=fun k q y hq hy=>by
    obtain ⟨q',y',h1,h2,h3⟩:=h.nw.tk k q y hq hy;have hk:k < X.m0:=by rw [<- X.hm0];exact (gS hq).1
    exact ⟨q',y',by show (E.tk.take M)[k]? = _;rw [List.getElem?_take,if_pos (by omega)];exact h1,by show (E.τ.take M)[k]? = _;rw [List.getElem?_take,if_pos (by omega)];exact h2,h3⟩
   tn:=fun k y g hk hy hg=>by
    simp only [E',List.getElem?_take] at hy;split at hy
    ·exact h.nw.tn k y g hk hy hg
    ·cases hy
   l0:=h.nw.l0 }
def resOf (tmps:Array Value):ResultVar->Sem Value
 | .tmp t=>pure (tmps.getD t undef)
 | .cell x t=>do loadVar t (<- asAddr (tmps.getD x undef))
theorem results_eq (fn:Func) (tmps:Array Value):results fn tmps=(do let vs <- fn.results.mapM (resOf tmps);pure (if h:vs.size=1 then vs[0] else .tuple vs)):=by
 unfold results;congr 2
theorem res1_sound (h:Rel X E st a w) {r:ResultVar} {d:DV} (hr:res1 X.T st r=some d):∃ v,Rv E d v/\(resOf a.tmps r).run X.P w = .ok v w:=by
 cases r with
 | tmp t=>
  simp only [res1] at hr;split at hr
  ·rename_i x hg;simp only [oI] at hr;subst hr;obtain ⟨v,h1,h2⟩:=(h.tm t _ hg).1 (holds_nil _);exact ⟨v,h2,by simp [resOf,Array.getD_eq_getD_getElem?,h1]⟩
  ·cases hr
 | cell x t=>
  simp only [res1] at hr;split at hr
  ·rename_i i off hg;split at hr
   ·rename_i cs hcs;obtain ⟨v,h1,h2⟩:=(h.tm x _ hg).1 (holds_nil _);unfold Rv at h2;obtain ⟨b,hb,rfl⟩:=h2;obtain ⟨b',ty',arr,hb',hw,hc⟩:=h.env.bxs i cs hcs;rw [hb] at hb';simp only [oI] at hb';subst hb';obtain ⟨v,hv,hl⟩:=load_cells X.hT hc (b:=b) (p:=0) hr;have hl:=hl w fun j u hj=>by rw [cell_blk hw];simpa using hj
    rw [Nat.zero_add] at hl;exact ⟨v,hv,by simp only [resOf,Array.getD_eq_getD_getElem?,h1,Option.getD_some,asAddr,Sem.run_bind,Sem.run_pure,Result.andThen_ok,hl]⟩
   ·cases hr
  ·cases hr
theorem resD_sound (h:Rel X E st a w):∀ {rs:List ResultVar} {ds:List DV},resD X.T st rs=some ds->∃ vs,RvL E ds vs/\(rs.mapM (resOf a.tmps)).run X.P w = .ok vs w
 | [],ds,hr=>by
  simp only [resD,oI] at hr;subst hr;exact ⟨[],rvL_nil E,rfl⟩
 | r :: rs,ds,hr=>by
  simp only [resD] at hr;split at hr
  ·rename_i d l hd hl;simp only [oI] at hr;subst hr;obtain ⟨v,hv,h1⟩:=res1_sound h hd;obtain ⟨vs,hvs,h2⟩:=resD_sound h hl;refine ⟨v :: vs,rvL_cons hv hvs,?_⟩;simp only [List.mapM_cons,Sem.run_bind,h1,Result.andThen_ok,h2,Sem.run_pure]
  ·cases hr
theorem finD_sound (h:Rel X E st a w) {d:DV} {v:Value} (hv:Rv E d v) (hf:finD X st d):Endd X.still X.E0 X.w0 X.Φ v w X.fr:=by
 unfold finD at hf;split at hf
 ·rename_i hfr;obtain ⟨d',os,hd,hos,hΦ⟩:=hf;exact endd_of h hv st.tk.length (.inr ⟨hfr,rfl⟩) hd hos (by rw [List.take_length];exact hΦ)
 ·rename_i hfr;split at hf
  ·rename_i hn hm
   have key:∀ d',Cc st.bx 0 0 0 d' d->X.Φ d' [] []->Endd X.still X.E0 X.w0 X.Φ v w X.fr:=fun d' hd hΦ=>
    endd_of h hv (d':=d') (os:=[]) X.m0 (.inl ⟨hfr,rfl⟩) (by rw [hn,hm];exact hd) (by rw [hn];simp [CcLL]) (by rw [hm];exact hΦ)
   split at hf
   ·rename_i x;exact key (.v x) (by simp only [Cc]) hf
   ·obtain ⟨d',hd,hΦ⟩:=hf;exact key d' hd hΦ
  ·obtain ⟨d',os,hd,hos,hΦ⟩:=hf;exact endd_of h hv X.m0 (.inl ⟨hfr,rfl⟩) hd hos hΦ
theorem fin_sound (h:Rel X E st a w) (hf:fin X st):kq X [] .ret a w:=by
 have hfn:X.fn.results=X.rs.toArray:=by rw [<- X.hrs]
 simp only [kq];refine ⟨h.df,?_⟩;unfold fin at hf
 have hres:∀ (ds:List DV) (vs:List Value),(X.rs.mapM (resOf a.tmps)).run X.P w = .ok vs w->(results X.fn a.tmps).run X.P w = .ok (if h:vs.toArray.size=1 then vs.toArray[0] else .tuple vs.toArray) w:=by
  intro ds vs hv;rw [results_eq,hfn];simp only [List.mapM_toArray,Sem.run_bind,Sem.run_map,hv];rfl
 split at hf
 ·rename_i hr;obtain ⟨vs,hvs,h1⟩:=resD_sound h hr;simp only [RvL] at hvs;subst hvs;exact ⟨_,hres [] [] h1,finD_sound h (v:=.tuple #[]) (by unfold Rv;exact ⟨[],rfl,rvL_nil E⟩) hf⟩
 ·rename_i d hr;obtain ⟨vs,hvs,h1⟩:=resD_sound h hr;have hl:=hvs.length;simp only [RvL] at hvs;obtain ⟨v,s,rfl,hv,rfl⟩:=hvs;exact ⟨_,hres [d] [v] h1,finD_sound h (v:=v) hv hf⟩
 ·rename_i d e l hr;obtain ⟨vs,hvs,h1⟩:=resD_sound h hr;have hl:=hvs.length;have hne:¬ vs.toArray.size=1:=by simp at hl ⊢;omega
  have h2:=hres [] vs h1;rw [dif_neg hne] at h2;exact ⟨_,h2,finD_sound h (v:=.tuple vs.toArray) (by unfold Rv;exact ⟨vs,rfl,hvs⟩) hf⟩
 ·exact hf.elim
theorem kq_ret:∀ (k:List It) (a:Act) (w:World),kq X [] .ret a w->kq X k .ret a w
 | [],_,_,h=>h
 | .code _ :: k,a,w,h=>kq_ret k a w h
 | .ops _ _ :: k,a,w,h=>kq_ret k a w h
 | .blk _ :: k,a,w,h=>kq_ret k a w h
 | .rnd _ :: k,a,w,h=>kq_ret k a w h
theorem kq_exit {id:Nat}:∀ (k k':List It) (a:Act) (w:World),dropBlk id k=some k' -> kq X k' .normal a w->kq X k (.exit id) a w
 | [],k',a,w,hd,_=>by simp [dropBlk] at hd
 | .code _ :: k,k',a,w,hd,h=>by simp only [dropBlk] at hd;exact kq_exit k k' a w hd h
 | .ops _ _ :: k,k',a,w,hd,h=>by simp only [dropBlk] at hd;exact kq_exit k k' a w hd h
 | .rnd _ :: k,k',a,w,hd,h=>by simp only [dropBlk] at hd;exact kq_exit k k' a w hd h
 | .blk i :: k,k',a,w,hd,h=>by
  simp only [dropBlk] at hd;split at hd
  ·rename_i hi;have hi:id=i:=by simpa using hi
   simp only [oI] at hd;subst hd;simp only [kq];rw [if_pos hi];exact h
  ·rename_i hi
   have hi:id≠i:=by
    rintro rfl;rw [Nat.beq_refl] at hi;cases hi
   simp only [kq];rw [if_neg hi];exact kq_exit k k' a w hd h
theorem upon_mono {P:Program} {o:Oper} {a:Act} {K K':Act->World->Prop} {Q Q':Exit->Act->World->Prop} (hK:∀ a w,K a w->K' a w) (hQ:∀ e a w,Q e a w->Q' e a w)
  {r:Result Next} (h:o.upon P a K Q r):o.upon P a K' Q' r:=by
 unfold Oper.upon at *;split<;>simp_all
 ·refine h.mono ?_;intro e w' hq
  cases e with
  | returned v=>exact hK _ _ hq
  | panicked c=>exact hQ _ _ _ hq
  | outgrown=>obtain ⟨a,w,hq⟩:=hq;exact ⟨a,w,hQ _ _ _ hq⟩
 ·exact h.mono fun v w' hq=>hK _ _ hq
theorem wp_mono' {P:Program} {o:Oper} {a:Act} {K K':Act->World->Prop} {Q Q':Exit->Act->World->Prop} {w:World} (hK:∀ a w,K a w->K' a w) (hQ:∀ e a w,Q e a w->Q' e a w)
  (h:o.wp P a w K Q):o.wp P a w K' Q':=upon_mono hK hQ h
theorem kq_code_normal (c:Code) (k:List It) (a:Act) (w:World):kq X (.code c :: k) .normal a w=c.wp X.P (kq X k) a w:=rfl
theorem kq_then (c:Code) (k:List It):kq X (.code c :: k)=Exit.then (c.wp X.P (kq X k)) (kq X k):=by
 funext e a w;cases e<;>rfl
theorem kq_blk (id:Nat) (k:List It) (e:Exit) (a:Act) (w:World) (h:kq X (.blk id :: k) e a w):Exit.inBlock id (kq X k) e a w:=by
 cases e<;>exact h
theorem wanted_spec (h:Rel X E st a w) {all:Array Oper} {o:Oper} {j d:Nat} {want:Bool} {gsd:List (Nat × Bool)} {sd:DV} (hgu:o.guard=some (j,want)) (hgs:gslot all.toList j=some d) (hgd:get st.sl d=some ⟨gsd,sd⟩) :
  Region.wanted o (yielded all a.tmps)=true↔Holds a.tmps ((d,want) :: gsd):=by
 have hyield:yielded all a.tmps j=match a.tmps[d]? with | some (.bool b)=>some b | _=>none:=by
  unfold gslot at hgs;split at hgs
  ·rename_i oj hoj;have hoj':all[j]? = some oj:=by simpa using hoj
   simp only [yielded,hoj',hgs,Option.bind_some]
   cases a.tmps[d]? with
   | none=>rfl
   | some v=>cases v<;>rfl
  ·cases hgs
 have htd:=h.tm d _ hgd;simp only [Region.wanted,hgu,hyield];constructor
 ·intro hw
  have hb:a.tmps[d]? = some (.bool want):=by
   split at hw
   ·rename_i b hb;rw [hb];have:b=want:=by simpa using hw
    rw [this]
   ·simp at hw
  refine holds_cons hb ?_;by_cases hh:Holds a.tmps gsd
  ·exact hh
  ·have:=htd.2 hh;rw [hb] at this;simp [undef] at this
 ·intro hh;have:=hh (d,want) (by simp);simp only at this;rw [this];simp
theorem tmp_bool (h:Rel X E st a w) {t:Nat} {b:Bool} (hg:get st.sl t=some ⟨[],.v (.bool b)⟩):a.tmps[t]? = some (.bool b):=by
 obtain ⟨v,h1,h2⟩:=(h.tm t _ hg).1 (holds_nil _);rw [h1,rv_bool_eq h2]
theorem tmp_ud (h:Rel X E st a w) {t:Nat} (hg:get st.sl t=some ⟨[],.ud⟩):a.tmps[t]? = some undef:=by
 obtain ⟨v,h1,h2⟩:=(h.tm t _ hg).1 (holds_nil _);unfold Rv at h2;rw [h1,h2]
theorem okG_spec {G:List (Nat × Bool)} {dst:Option Nat} (hok:okG G dst=true):∀ e,dst=some e->∀ p∈G,p.1≠e:=by
 intro e he p hp hpe;rw [he] at hok;have:=(List.all_eq_true.1 hok) p hp;rw [hpe] at this;simp at this
theorem go_sound:∀ n,Snd X (go X n)
 | 0=>fun k st hg=>hg.elim
 | n + 1=>by
  have ih:=go_sound n;intro k st hg E a w h
  match k with
  | []=>exact fin_sound h (by simpa [go] using hg)
  | .blk id :: k=>exact ih k st (by simpa [go] using hg) E a w h
  | .rnd J :: k=>exact ⟨st,E,h,by simpa [go] using hg⟩
  | .ops all [] :: k=>exact ih k st (by simpa [go] using hg) E a w h
  | .ops all (o :: r) :: k=>
   simp only [go,putK_eq,resK_eq] at hg;split at hg
   ·exact hg.elim
   ·rename_i hd;split at hg
    ·rename_i hgu;simp only [kq,wpList,Region.wanted,hgu,if_true];split at hg
     ·rename_i s hs;obtain ⟨v,hv,hrun⟩:=pure_sound X.hT h.rl (holds_nil _) hs;exact .inl (wp_value (hrun w fun _=>rfl) (ih _ _ hg E _ w (put_rel h hd s v hv)))
     ·exact .inl (wp_mono' (fun a w hk=>hk) (fun e a w hq=>hq.elim) (eff_sound ih hd h hg))
    ·rename_i j want hgu;split at hg
     ·exact hg.elim
     ·rename_i d hgs;split at hg
      ·exact hg.elim
      ·rename_i gsd sd hgd;have hwant:=wanted_spec h hgu hgs hgd;simp only [kq,wpList];split at hg
       ·rename_i s hs;split at hg
        case h_2=>exact hg.elim
        rename_i hok;split
        ·rename_i hw;have hh:=hwant.1 hw;obtain ⟨v,hv,hrun⟩:=pure_sound X.hT h.rl hh hs;exact .inl (wp_value (hrun w fun _=>rfl) (ih _ _ hg E _ w (put_relg h hd _ s v (okG_spec hok) (fun _=>hv) (fun hn=>(hn hh).elim))))
        ·rename_i hw;have hh:¬ Holds a.tmps ((d,want) :: gsd):=fun hh=>hw (hwant.2 hh);exact ih _ _ hg E _ w (put_relg h hd _ s undef (okG_spec hok) (fun hn=>(hh hn).elim) (fun _=>rfl))
       ·split at hg
        ·rename_i b hb0;have ht0:=tmp_bool h hb0
         cases gsd with
         | nil=>
          simp only [lastG] at hb0 ht0;cases hbw:(b == want)
          ·have hbne:b = !want:=by cases b<;>cases want<;>simp_all
           have hg:=hg.f hbw
           have hn:¬ Region.wanted o (yielded all a.tmps)=true:=by
            intro hw;have:=(hwant.1 hw) (d,want) (by simp);simp only at this;rw [ht0] at this;simp only [oI,Value.bool.injEq] at this;rw [this] at hbw;simp at hbw
           rw [if_neg hn];have hr:=resolve_rel (d:=d) (b:=!want) h (by rw [ht0,hbne]);exact ih _ _ hg E _ w (put_rel hr (okD_resolve hd) .ud undef (rv_ud E))
          ·have hbe:b=want:=by simpa using hbw
           have hg:=hg.t hbw;subst hbe;have hw:Region.wanted o (yielded all a.tmps)=true:=hwant.2 (holds_cons ht0 (holds_nil _));rw [if_pos hw];have hr:=resolve_rel (d:=d) (b:=b) h ht0;exact .inl (wp_mono' (fun a w hk=>hk) (fun e a w hq=>hq.elim) (eff_sound ih (okD_resolve hd) hr hg))
         | cons g1 gr=>
          have key:∀ c,a.tmps[(lastG (d,want) (g1 :: gr)).1]? = some (.bool c)->go X n (.ops all (o :: r) :: k) (st.resolve (lastG (d,want) (g1 :: gr)).1 c)->wpList X.P all (kq X k) (o :: r) a w:=
           fun c hc hgo=>ih _ _ hgo E a w (resolve_rel h hc)
          cases hbw:(b == (lastG (d,want) (g1 :: gr)).2)
          ·have hg:=hg.f hbw;have hbne:b = !(lastG (d,want) (g1 :: gr)).2:=by cases b<;>cases h0:(lastG (d,want) (g1 :: gr)).2<;>simp_all
           have:=key _ (by rw [ht0,hbne]) hg;simpa [wpList] using this
          ·have hg:=hg.t hbw;have hbe:b=(lastG (d,want) (g1 :: gr)).2:=by simpa using hbw
           have:=key _ (by rw [ht0,hbe]) hg;simpa [wpList] using this
        ·rename_i hb0
         cases gsd with
         | nil=>
          have ht0:=tmp_ud h hb0;simp only [lastG] at ht0
          have hn:¬ Region.wanted o (yielded all a.tmps)=true:=by
           intro hw;have:=(hwant.1 hw) (d,want) (by simp);simp only at this;rw [ht0] at this;simp [undef] at this
          rw [if_neg hn];exact ih _ _ hg E _ w (put_rel h hd .ud undef (rv_ud E))
         | cons g1 gr=>exact hg.elim
        ·exact hg.elim
  | .code c :: k=>
   rw [kq_code_normal]
   cases c with
   | skip=>exact wp_skip (ih k st (by simpa [go] using hg) E a w h)
   | seq x y=>
    have:=ih (.code x :: .code y :: k) st (by simpa [go] using hg) E a w h;rw [kq_code_normal,kq_then] at this;exact wp_seq this
   | block id b=>
    have:=ih (.code b :: .blk id :: k) st (by simpa [go] using hg) E a w h;rw [kq_code_normal] at this;exact wp_block (wp_mono this (kq_blk id k))
   | exit id=>
    simp only [go] at hg;split at hg
    ·rename_i k' hk;exact wp_exit (kq_exit k k' a w hk (ih k' st hg E a w h))
    ·exact hg.elim
   | cond x p q=>
    simp only [go] at hg;split at hg
    ·rename_i b hb;refine wp_cond (t:=b) (by rw [rv_bool_eq (sl_val h.rl hb)]) ?_;cases hb0:b
     ·exact ih (.code q :: k) st (hg.f hb0) E a w h
     ·exact ih (.code p :: k) st (hg.t hb0) E a w h
    ·exact hg.elim
   | region id ops d=>
    simp only [go] at hg;cases d
    ·exact wp_region_list (ih (.ops ops ops.toList :: k) st hg E a w h)
    ·exact hg E a w h
   | loop b=>exact (by simpa [go] using hg:LoopG X b k st) E a w h
   | ret=>exact wp_ret (kq_ret k a w (fin_sound h (by simpa [go] using hg)))
   | _=>simp [go] at hg
theorem kq_bodyPost {fn:Func} (hfn:X.fn=fn) (e:Exit) (a:Act) (w:World) (h:kq X [] e a w):bodyPost X.P fn (fun e w'=>∃ v,e = .returned v/\Endd X.still X.E0 X.w0 X.Φ v w' X.fr) e a w:=by
 subst hfn
 cases e with
 | normal=>obtain ⟨h1,v,h2,h3⟩:=h;exact ⟨h1,v,h2,v,rfl,h3⟩
 | ret=>obtain ⟨h1,v,h2,h3⟩:=h;exact ⟨h1,v,h2,v,rfl,h3⟩
 | exit _=>exact h.elim
 | goto _=>exact h.elim
 | panic _=>exact h.elim
 | outgrown=>exact h.elim
end
def EvB (s:Bool) (P:Program) (f:FuncId) (args:List DV) (os:List (List DV)) (tks:List TkE) (Φ:DV->List (List DV)->List TkE->Prop) (fr:Bool:=false):Prop:=
 ∀ (E:En) (w:World) (vs:List Value),Env E os w->E.tk=tks->RvL E args vs->Calls P f vs.toArray w fun e w'=>∃ v,e = .returned v/\Endd s E w Φ v w' fr
def Ev (P:Program) (f:FuncId) (args:List DV) (os:List (List DV)) (tks:List TkE) (Φ:DV->List (List DV)->List TkE->Prop):Prop:=EvB false P f args os tks Φ
def EvS (P:Program) (f:FuncId) (args:List DV) (os:List (List DV)) (tks:List TkE) (Φ:DV->List (List DV)->List TkE->Prop):Prop:=EvB true P f args os tks Φ
def EvF (P:Program) (f:FuncId) (args:List DV) (os:List (List DV)) (tks:List TkE) (Φ:DV->List (List DV)->List TkE->Prop):Prop:=EvB false P f args os tks Φ true
def EvP (P:Program) (f:FuncId) (args:List DV) (d:DV):Prop:=Ev P f args [] [] fun d' _ _=>d'=d
def argSl:Nat->List DV->List (Nat × Sl)
 | _,[]=>[]
 | i,v :: r=>(i,⟨[],v⟩) :: argSl (i + 1) r
theorem get_argSl:∀ (l:List DV) (i j:Nat) (x:Sl),get (argSl i l) j=some x->∃ v,x=⟨[],v⟩/\i<=j/\l[j - i]? = some v
 | [],_,_,_,h=>by simp [argSl,get] at h
 | v :: r,i,j,x,h=>by
  simp only [argSl,get_cons] at h;split at h
  ·rename_i hij;simp only [oI] at h;subst h hij;exact ⟨v,rfl,Nat.le_refl _,by simp⟩
  ·rename_i hij;obtain ⟨u,hu,hle,hg⟩:=get_argSl r (i + 1) j x h;refine ⟨u,hu,by omega,?_⟩;rw [show j - i=(j - (i + 1)) + 1 by omega];simpa using hg
theorem Nw.refl {E:En} {bx:List (List DV)} {w:World} (h:Env E bx w):Nw E E w where
 c:=fun _ _ h=>h
 cn:=fun _ _ h=>.inl h
 β:=⟨[],by simp,by simp⟩
 tk:=fun k q y hq hy=>⟨q,y,hq,hy,rfl,rfl,.inl ⟨rfl,rfl⟩,.inl rfl⟩
 tn:=fun k y g hk hy=>by
  have:=(gS hy).1;rw [h.tl] at this;omega
 l0:=h.tl
theorem evB_gom {s:Bool} {P:Program} {f:FuncId} {fn:Func} {c:Code} {args:List DV} {os:List (List DV)} {tks:List TkE} {Φ:DV->List (List DV)->List TkE->Prop} (bt:List (Nat × TypeId)) (mu:List Nat) (hbt:∀ p∈bt,os.length<=p.1) (fr:Bool) (T:TT) (hT:T.ok P=true) (n nt:Nat) (rs:List ResultVar)
  (hf:P.funcs[f]? = some fn) (hb:fn.body=some c) (hnt:fn.ntmps=nt) (hrs:fn.results.toList=rs) (hlen:args.length<=nt)
  (h:∀ (E:En) (w:World) (hn:E.β.length=os.length) (hm:E.tk.length=tks.length),go ⟨P,T,hT,fn,nt,rs,hrs,w,E,os.length,tks.length,hn,hm,s,Φ,bt,mu,fr⟩ n [.code c] ⟨argSl 0 args,os,tks⟩):EvB s P f args os tks Φ fr:=by
 intro E w vs hE htk hv;have hl:=hv.length;have hg:=h E w hE.len (by rw [htk]);refine calls_of_wp hf hb ?_
 have hs:=go_sound (X:=⟨P,T,hT,fn,nt,rs,hrs,w,E,os.length,tks.length,hE.len,by rw [htk],s,Φ,bt,mu,fr⟩) n _ _ hg E
  {tmps:=vs.toArray ++ Array.replicate (fn.ntmps - vs.toArray.size) undef,defers:=[] } w
  {env:=hE
   tk:=htk
   sz:=by simp [hnt];omega
   tm:=by
    intro i x hx;obtain ⟨d,rfl,_,hd⟩:=get_argSl args 0 i x hx;simp only [Nat.sub_zero] at hd;obtain ⟨v,hv1,hv2⟩:=hv.get hd;rw [Array.getElem?_append_left (by simpa using (gS hv1).1)];exact ⟨fun _=>⟨v,by simpa using hv1,hv2⟩,fun hn=>(hn (holds_nil _)).elim⟩
   df:=rfl
   nw:=Nw.refl hE
   fr:=⟨rfl,rfl,rfl,Nat.le_refl _,fun _ _ _=>rfl⟩
   sh:=fun _=>⟨0,rfl⟩
   bt:=fun p hp b hb=>by
    have h1:=hbt p hp;have h2:=(gS hb).1;have h3:=hE.len
    omega }
 exact wp_mono hs (kq_bodyPost rfl)
theorem evB_gob {s:Bool} {P:Program} {f:FuncId} {fn:Func} {c:Code} {args:List DV} {os:List (List DV)} {tks:List TkE} {Φ:DV->List (List DV)->List TkE->Prop} (bt:List (Nat × TypeId)) (hbt:∀ p∈bt,os.length<=p.1) (T:TT) (hT:T.ok P=true) (n nt:Nat) (rs:List ResultVar)
  (hf:P.funcs[f]? = some fn) (hb:fn.body=some c) (hnt:fn.ntmps=nt) (hrs:fn.results.toList=rs) (hlen:args.length<=nt)
  (h:∀ (E:En) (w:World) (hn:E.β.length=os.length) (hm:E.tk.length=tks.length),go ⟨P,T,hT,fn,nt,rs,hrs,w,E,os.length,tks.length,hn,hm,s,Φ,bt,[],false⟩ n [.code c] ⟨argSl 0 args,os,tks⟩):EvB s P f args os tks Φ:=
 evB_gom bt [] hbt false T hT n nt rs hf hb hnt hrs hlen h
theorem evB_go {s:Bool} {P:Program} {f:FuncId} {fn:Func} {c:Code} {args:List DV} {os:List (List DV)} {tks:List TkE} {Φ:DV->List (List DV)->List TkE->Prop} (T:TT) (hT:T.ok P=true) (n nt:Nat) (rs:List ResultVar)
  (hf:P.funcs[f]? = some fn) (hb:fn.body=some c) (hnt:fn.ntmps=nt) (hrs:fn.results.toList=rs) (hlen:args.length<=nt)
  (h:∀ (E:En) (w:World) (hn:E.β.length=os.length) (hm:E.tk.length=tks.length),go ⟨P,T,hT,fn,nt,rs,hrs,w,E,os.length,tks.length,hn,hm,s,Φ,[],[],false⟩ n [.code c] ⟨argSl 0 args,os,tks⟩):EvB s P f args os tks Φ:=
 evB_gob [] (fun p hp=>by cases hp) T hT n nt rs hf hb hnt hrs hlen h
theorem ev_go {P:Program} {f:FuncId} {fn:Func} {c:Code} {args:List DV} {os:List (List DV)} {tks:List TkE} {Φ:DV->List (List DV)->List TkE->Prop} (T:TT) (hT:T.ok P=true) (n nt:Nat) (rs:List ResultVar)
  (hf:P.funcs[f]? = some fn) (hb:fn.body=some c) (hnt:fn.ntmps=nt) (hrs:fn.results.toList=rs) (hlen:args.length<=nt)
  (h:∀ (E:En) (w:World) (hn:E.β.length=os.length) (hm:E.tk.length=tks.length),go ⟨P,T,hT,fn,nt,rs,hrs,w,E,os.length,tks.length,hn,hm,false,Φ,[],[],false⟩ n [.code c] ⟨argSl 0 args,os,tks⟩):Ev P f args os tks Φ:=
 evB_go T hT n nt rs hf hb hnt hrs hlen h
theorem Ev.mono {P:Program} {f:FuncId} {args:List DV} {os:List (List DV)} {tks:List TkE} {Φ Ψ:DV->List (List DV)->List TkE->Prop} (h:Ev P f args os tks Φ) (hΦ:∀ d o t,Φ d o t->Ψ d o t):Ev P f args os tks Ψ:=by
 intro E w vs h1 h2 h3;refine (h E w vs h1 h2 h3).mono ?_;rintro e w' ⟨v,rfl,h4,hs,d,o,E',h5,h6,h7,h8,h9,h10⟩;exact ⟨v,rfl,h4,hs,d,o,E',h5,h6,h7,h8,h9,hΦ _ _ _ h10⟩
theorem br {b:Bool} {A B:Prop} (h1:b=true->A) (h2:b=false->B):@Bool.rec (fun _=>Prop) B A b:=by
 cases b
 ·exact h2 rfl
 ·exact h1 rfl
section
variable {X:Ctx} {st:St} {k:List It} {E:En} {a:Act} {w:World}
theorem quiet_rel (h:Rel X E st a w) (hst:X.still=false) {E2:En} {w':World} (hm:Modd (E.cl).S w w') (he:Env E2 [] w') (hn:Nw E.cl E2 w):Rel X ⟨E2.c,E.β,E.tk,E.τ⟩ st a w':=by
 have hh:∀ i,i < w.heap.size->w'.heap[i]? = w.heap[i]?:=fun i hi=>hm.block i hi (by
  rintro (h1 | ⟨y,h1,_⟩)
  ·simp [En.cl] at h1
  ·simp [En.cl] at h1)
 have hnew:∀ x v,E2.c x=some v->E.c x=some v∨w.heap.size<=x.block:=fun x v hx=>by
  rcases hn.cn x v hx with h1 | h1 | ⟨y,h1,_⟩
  ·exact .inl h1
  ·exact .inr h1
  ·simp [En.cl] at h1
 have hx:Ext E ⟨E2.c,E.β,E.tk,E.τ⟩:=⟨hn.c,fun _ _ h=>h,fun _ q h=>⟨q,h,.inl ⟨rfl,rfl⟩⟩⟩;have hk:=h.env.keep hh;refine rel_env h hx ?_ h.tk ?_ (h.fr.trans_keep hm.os hm.tape hm.output hm.size fun i hi=>.inr (hh i hi)) (noSt hst) (h.bt.keep fun b hb=>hh b (h.env.block_lt hb))
 ·exact {
   len:=h.env.len
   tl:=h.env.tl
   bxs:=fun i cs hi=>by
    obtain ⟨b,ty,arr,hb,hw,hc⟩:=hk.bxs i cs hi;exact ⟨b,ty,arr,hb,hw,hc.mono hx⟩
   inj:=h.env.inj
   sub:=he.sub
   pc:=fun x v hc hm'=>by
    rcases hnew x v hc with h1 | h1
    ·exact h.env.pc x v h1 hm'
    ·have:=h.env.block_lt hm';omega
   tks:=fun k q y hq hy=>by
    rcases hk.tks k q y hq hy with h1 | ⟨g',cap,cur,rfl,h1,h2,h3,h4,h5,h6⟩
    ·exact .inl h1
    ·refine .inr ⟨g',cap,cur,rfl,h1,⟨h2.1,h2.2.mono hn.c⟩,h3,h4,h5,fun x v hc hg=>?_⟩;rcases hnew x v hc with h7 | h7
     ·exact h6 x v h7 hg
     ·have:=(own_at (h.env.tks k q _ hq hy) (g:=g') rfl).1;omega
   tkd:=h.env.tkd }
 ·exact {
   c:=fun x v hc=>hn.c x v (h.nw.c x v hc)
   cn:=fun x v hc=>by
    rcases hnew x v hc with h1 | h1
    ·exact h.nw.cn x v h1
    ·have:=h.fr.size;exact .inr (.inl (by omega))
   β:=h.nw.β
   tk:=h.nw.tk
   tn:=h.nw.tn
   l0:=h.nw.l0 }
theorem env_cl {bx:List (List DV)} (h:Env E bx w):Env E.cl [] w where
 len:=rfl
 tl:=rfl
 bxs:=by simp
 inj:=List.nodup_nil
 sub:=h.sub
 pc:=by simp [En.cl]
 tks:=by simp [En.cl]
 tkd:=by simp [En.cl]
theorem calls_quiet {P:Program} (h:Rel X E st a w) (hst:X.still=false) {f:FuncId} {args args':List DV} {vs:List Value} {Φ:DV->List (List DV)->List TkE->Prop} (hc:Ev P f args' [] [] Φ) (ha:CcL [] 0 0 0 args' args) (hv:RvL E args vs) :
  Calls P f vs.toArray w fun e w'=>∃ v E' d,e = .returned v/\Rel X E' st a w' /\ Rv E' d v/\Φ d [] []/\Modd E.cl.S w w' /\ Ext E E' /\ E'.β=E.β:=by
 have hv':RvL E.cl args' vs:=CcL.sound (E:=E) (E':=E.cl) ⟨fun _ _ h=>h,fun i cs _ hi=>by simp at hi⟩ (Low.zero _ _) ha hv;refine (hc E.cl w vs (env_cl h.env) rfl hv').mono ?_;rintro e w' ⟨v,rfl,hm,_,d,os,E2,he,hβ,htk,hn,hvd,hΦ⟩
 have hos:os=[]:=by
  have:=he.len;rw [hβ] at this;exact List.eq_nil_of_length_eq_zero this.symm
 subst hos;have ht0:E2.tk=[]:=List.eq_nil_of_length_eq_zero htk;refine ⟨v,⟨E2.c,E.β,E.tk,E.τ⟩,d,rfl,quiet_rel h hst hm he hn,?_,by rw [ht0] at hΦ;exact hΦ,hm,⟨hn.c,fun _ _ h=>h,fun _ q h=>⟨q,h,.inl ⟨rfl,rfl⟩⟩⟩,rfl⟩;refine Rv.mono (E:=E2) (E':=⟨E2.c,E.β,E.tk,E.τ⟩) ⟨fun _ _ h=>h,fun i b hb=>?_,fun k q hq=>?_⟩ hvd
 ·rw [hβ] at hb;simp [En.cl] at hb
 ·rw [ht0] at hq;simp at hq
theorem call_e {f:FuncId} {args args':List DV} {d:Nat} (hen:Enters X.P f) (hd:okD X.nt st.sl (some d)=true) {Φ:DV->List (List DV)->List TkE->Prop} (hc:Ev X.P f args' [] [] Φ) (ha:CcL [] 0 0 0 args' args)
  (hk:∀ r,Φ r [] []->go X 4000 k ⟨(d,⟨[],r⟩) :: st.sl,st.bx,st.tk⟩) (hst:X.still=false:=by exact rfl):CallG X f args (some d) k st:=by
 refine ⟨hen,hst,fun E a w vs h hv=>(calls_quiet h hst hc ha hv).mono ?_⟩;rintro e w' ⟨v,E',r,rfl,hrel,hr,hΦ,_⟩;exact go_sound 4000 _ _ (hk r hΦ) E' _ w' (put_rel hrel hd r v hr)
theorem call_p {f:FuncId} {args args':List DV} {d:Nat} {r:DV} (hen:Enters X.P f) (hc:EvP X.P f args' r) (ha:CcL [] 0 0 0 args' args) (hd:okD X.nt st.sl (some d)=true)
  (hk:go X 4000 k ⟨(d,⟨[],r⟩) :: st.sl,st.bx,st.tk⟩) (hst:X.still=false:=by exact rfl):CallG X f args (some d) k st:=
 call_e hen hd hc ha (fun _ hr=>hr ▸ hk) hst
def clB (n m:Nat):DV->Bool
 | .v _=>true
 | .ud=>true
 | .sl _ _ none=>true
 | .sl _ _ (some k)=>Nat.blt k m
 | .pt _ _=>true
 | .loc i _=>Nat.blt i n
 | .el i _=>Nat.blt i n
 | .ms i _ _ _ _=>Nat.blt i n
 | .agg l=>clL l
 | .tup l=>clL l
 | .fn _ l r=>clL l && clL r
 | .ifc _ x=>clB n m x
where clL:List DV->Bool
 | []=>true
 | d :: r=>clB n m d && clL r
def En.cut (E:En) (n m:Nat):En:=⟨E.c,E.β.take n,E.tk.take m,E.τ.take m⟩
mutual
theorem Rv.cut {n m:Nat} {E:En}:∀ {d:DV} {v:Value},Rv E d v->clB n m d=true->Rv (E.cut n m) d v
 | .v x,v,h,_=>by unfold Rv at h ⊢;exact h
 | .ud,v,h,_=>by unfold Rv at h ⊢;exact h
 | .sl e es none,v,h,_=>by
  unfold Rv at h ⊢;obtain ⟨b,n,cap,h1,h2,h3,_⟩:=h;exact ⟨b,n,cap,h1,h2,h3,fun k hk=>by cases hk⟩
 | .sl e es (some k),v,h,hc=>by
  unfold Rv at h ⊢;obtain ⟨b,n',cap,h1,h2,h3,h4⟩:=h;refine ⟨b,n',cap,h1,h2,h3,fun k' hk'=>?_⟩;cases hk';have hk:k < m:=by simpa [clB] using hc
  obtain ⟨q,h5,h6,h7⟩:=h4 k rfl;exact ⟨q,by show (E.tk.take m)[k]? = _;rw [List.getElem?_take,if_pos hk];exact h5,h6,fun hh=>by show (E.τ.take m)[k]? = _;rw [List.getElem?_take,if_pos hk];exact h7 hh⟩
 | .pt cs o,v,h,_=>by unfold Rv at h ⊢;exact h
 | .loc i o,v,h,hc=>by
  unfold Rv at h ⊢;obtain ⟨b,hb,h1⟩:=h;have hi:i < n:=by simpa [clB] using hc
  exact ⟨b,by show (E.β.take n)[i]? = _;rw [List.getElem?_take,if_pos hi];exact hb,h1⟩
 | .el i o,v,h,hc=>by
  unfold Rv at h ⊢;obtain ⟨b,hb,h1⟩:=h;have hi:i < n:=by simpa [clB] using hc
  exact ⟨b,by show (E.β.take n)[i]? = _;rw [List.getElem?_take,if_pos hi];exact hb,h1⟩
 | .ms i e o l c,v,h,hc=>by
  unfold Rv at h ⊢;obtain ⟨b,ad,hb,h1⟩:=h;have hi:i < n:=by simpa [clB] using hc
  exact ⟨b,ad,by show (E.β.take n)[i]? = _;rw [List.getElem?_take,if_pos hi];exact hb,h1⟩
 | .agg l,v,h,hc=>by
  unfold Rv at h ⊢;obtain ⟨vs,h1,h2,h3⟩:=h;simp only [clB] at hc;exact ⟨vs,h1,RvL.cut h2 hc,h3⟩
 | .tup l,v,h,hc=>by
  unfold Rv at h ⊢;obtain ⟨vs,h1,h2⟩:=h;simp only [clB] at hc;exact ⟨vs,h1,RvL.cut h2 hc⟩
 | .fn f l r,v,h,hc=>by
  unfold Rv at h ⊢;obtain ⟨l',r',h1,h2,h3⟩:=h;simp only [clB,Bool.and_eq_true] at hc;exact ⟨l',r',h1,RvL.cut h2 hc.1,RvL.cut h3 hc.2⟩
 | .ifc t x,v,h,hc=>by
  unfold Rv at h ⊢;obtain ⟨z,h1,h2⟩:=h;simp only [clB] at hc;exact ⟨z,h1,Rv.cut h2 hc⟩
theorem RvL.cut {n m:Nat} {E:En}:∀ {l:List DV} {vs:List Value},RvL E l vs->clB.clL n m l=true->RvL (E.cut n m) l vs
 | [],vs,h,_=>by simp only [RvL] at h ⊢;exact h
 | d :: r,vs,h,hc=>by
  simp only [RvL] at h ⊢;obtain ⟨v,s,h1,h2,h3⟩:=h;simp only [clB.clL,Bool.and_eq_true] at hc;exact ⟨v,s,h1,Rv.cut h2 hc.1,RvL.cut h3 hc.2⟩
end
end
end Dv
end Go.Proofs.YtadhpeooehkklaaGreat
namespace Go.Proofs.YtadhpeooehkklaaGreat
namespace Dv
open Go Go.RowKit
def We (n m:Nat) (tk':List TkE) (x x':DV):Prop:=
 (x=x' /\ clB n m x=true)∨(x = .v (.slice none 0 0)/\∃ e k q,x' = .sl e [] (some k)/\m<=k/\tk'[k]? = some q)∨(x = .v (.slice none 0 0)/\∃ e,x' = .sl e [] none)∨(∃ e es tk,x = .sl e es tk/\x' = .sl e es none)∨(∃ e es es' tk,x = .sl e es tk/\x' = .sl e es' none/\CcE [] 0 es' es)∨(∃ e es es' k,x = .sl e es (some k)/\x' = .sl e es' (some k)/\k < m/\CcE [] 0 es' es)
def WeL (n m:Nat) (tk':List TkE):List DV->List DV->Prop
 | [],l=>l=[]
 | x :: r,l=>∃ x' r',l=x' :: r' /\ We n m tk' x x' /\ WeL n m tk' r r'
def WeLL (n m:Nat) (tk':List TkE):List (List DV)->List (List DV)->Prop
 | [],l=>l=[]
 | x :: r,l=>∃ x' r',l=x' :: r' /\ WeL n m tk' x x' /\ WeLL n m tk' r r'
def sameW (n m:Nat) (tk':List TkE) (sl:List (Nat × Sl)):List (Nat × Sl)->Prop
 | []=>True
 | p :: r=>(∃ x,get sl p.1=some ⟨p.2.gs,x⟩/\We n m tk' x p.2.s)/\sameW n m tk' sl r
structure Weak (n0 m0:Nat) (st st':St):Prop where
 all:∃ kept dropped new b0 r,m0<=kept.length/\n0<=b0.length/\st.tk=kept ++ dropped/\st'.tk=kept ++ new/\(∀ q∈new,TkE.new q=true)/\st.bx=b0 ++ r/\WeLL b0.length kept.length st'.tk b0 st'.bx/\sameW b0.length kept.length st'.tk st.sl st'.sl
theorem WeLL.length {n m:Nat} {tk':List TkE}:∀ {l l':List (List DV)},WeLL n m tk' l l' -> l'.length=l.length
 | [],l',h=>by simp only [WeLL] at h;subst h;rfl
 | x :: r,l',h=>by
  simp only [WeLL] at h;obtain ⟨x',r',rfl,_,h2⟩:=h;simp [WeLL.length h2]
theorem WeLL.get {n m:Nat} {tk':List TkE}:∀ {l l':List (List DV)},WeLL n m tk' l l' -> ∀ (i:Nat) cs',l'[i]? = some cs' -> ∃ cs,l[i]? = some cs/\WeL n m tk' cs cs'
 | [],l',h,i,cs',hi=>by simp only [WeLL] at h;subst h;simp at hi
 | x :: r,l',h,i,cs',hi=>by
  simp only [WeLL] at h;obtain ⟨x',r',rfl,h1,h2⟩:=h
  cases i with
  | zero=>simp only [List.getElem?_cons_zero,oI] at hi;subst hi;exact ⟨x,rfl,h1⟩
  | succ i=>simp only [List.getElem?_cons_succ] at hi ⊢;exact WeLL.get h2 i cs' hi
theorem sameW_spec {n m:Nat} {tk':List TkE} {sl:List (Nat × Sl)}:∀ {l:List (Nat × Sl)},sameW n m tk' sl l->∀ i x',get l i=some x' -> ∃ x,get sl i=some ⟨x'.gs,x⟩/\We n m tk' x x'.s
 | [],_,i,x',hx=>by cases hx
 | (k,y) :: r,h,i,x',hx=>by
  simp only [get_cons] at hx;split at hx
  ·rename_i hki;subst hki;simp only [oI] at hx;subst hx;exact h.1
  ·exact sameW_spec h.2 i x' hx
section
variable {X:Ctx} {E:En} {st st':St} {a:Act} {w:World} {k:List It}
def En.wk (E:En) (n:Nat) (kept new:List TkE):En:=⟨E.c,E.β.take n,kept ++ new,E.τ.take kept.length ++ List.replicate new.length (.slice none 0 0)⟩
theorem we_sound {n:Nat} {kept dropped new:List TkE} (ht:E.tk=kept ++ dropped) (hl:E.τ.length=E.tk.length) (hnew:∀ q∈new,TkE.new q=true) {x x':DV} {v:Value} (hx:We n kept.length (kept ++ new) x x') (hv:Rv E x v):Rv (E.wk n kept new) x' v:=by
 have hkl:kept.length<=E.τ.length:=by rw [hl,ht];simp
 have first:∀ {x:DV},clB n kept.length x=true->Rv E x v->Rv (E.wk n kept new) x v:=by
  intro x hc hv;refine Rv.mono (E:=E.cut n kept.length) ⟨fun _ _ h=>h,fun _ _ h=>h,fun k q hq=>?_⟩ (Rv.cut hv hc);have hq':(E.tk.take kept.length)[k]? = some q:=hq;rw [List.getElem?_take] at hq';split at hq'
  ·rename_i hk;refine ⟨q,?_,.inl ⟨rfl,?_⟩⟩
   ·show (kept ++ new)[k]? = _;rw [ht,List.getElem?_append_left hk] at hq';rw [List.getElem?_append_left hk];exact hq'
   ·show (E.τ.take kept.length ++ _)[k]? = (E.τ.take kept.length)[k]?;rw [List.getElem?_append_left (by rw [List.length_take];omega)]
  ·cases hq'
 rcases hx with ⟨rfl,hc⟩ | ⟨rfl,e,k,q,rfl,hk,hq⟩ | ⟨rfl,e,rfl⟩ | ⟨e,es,tk,rfl,rfl⟩ | ⟨e,es,es',tk,rfl,rfl,he⟩ | ⟨e,es,es',k,rfl,rfl,hk,he⟩
 ·exact first hc hv
 ·have:=rv_v_eq hv;subst this;unfold Rv;refine ⟨none,0,0,rfl,⟨rfl,Nat.le_refl _⟩,fun hn=>(hn rfl).elim,fun k' hk'=>?_⟩;cases hk';have hkn:(kept ++ new)[k]? = some q:=hq;rw [List.getElem?_append_right hk] at hkn;have hq0:=TkE.new_n (hnew q (mG hkn));refine ⟨q,hq,by omega,fun _=>?_⟩;have hlt:=(gS hkn).1;show (E.τ.take kept.length ++ List.replicate new.length _)[k]? = _;rw [List.getElem?_append_right (by rw [List.length_take];omega)];rw [List.length_take,Nat.min_eq_left hkl,List.getElem?_replicate,if_pos hlt]
 ·have:=rv_v_eq hv;subst this;unfold Rv;exact ⟨none,0,0,rfl,⟨rfl,Nat.le_refl _⟩,fun hn=>(hn rfl).elim,fun k hk=>by cases hk⟩
 ·unfold Rv at hv ⊢;obtain ⟨b,n,cap,h1,h2,h3,_⟩:=hv;exact ⟨b,n,cap,h1,h2,h3,fun k hk=>by cases hk⟩
 ·have hv:=rv_es he hv;unfold Rv at hv ⊢;obtain ⟨b,n,cap,h1,h2,h3,_⟩:=hv;exact ⟨b,n,cap,h1,h2,h3,fun k hk=>by cases hk⟩
 ·exact first (by simp only [clB];exact Nat.ble_eq_true_of_le hk) (rv_es he hv)
theorem weL_sound {n:Nat} {kept dropped new:List TkE} (ht:E.tk=kept ++ dropped) (hl:E.τ.length=E.tk.length) (hnew:∀ q∈new,TkE.new q=true):∀ {l l':List DV} {vs:List Value},WeL n kept.length (kept ++ new) l l' -> RvL E l vs->RvL (E.wk n kept new) l' vs
 | [],l',vs,h,hv=>by
  simp only [WeL] at h;subst h;simp only [RvL] at hv ⊢;exact hv
 | x :: r,l',vs,h,hv=>by
  simp only [WeL] at h;obtain ⟨x',r',rfl,h1,h2⟩:=h;simp only [RvL] at hv ⊢;obtain ⟨v,s,h3,h4,h5⟩:=hv;exact ⟨v,s,h3,we_sound ht hl hnew h1 h4,weL_sound ht hl hnew h2 h5⟩
theorem weak_rel (h:Rel X E st a w) (hw:Weak X.n0 X.m0 st st'):∃ E',Rel X E' st' a w:=by
 obtain ⟨kept,dropped,new,b0,r,hm0,hn0,ht,ht',hnew,hb,hbx,hsl⟩:=hw.all;rw [ht'] at hbx hsl;have htE:E.tk=kept ++ dropped:=by rw [h.tk,ht]
 have hbl:=hbx.length;have hkl:kept.length<=E.τ.length:=by rw [h.env.tl,htE];simp
 have hb0:b0.length<=E.β.length:=by rw [h.env.len,hb];simp
 have hτ:∀ (k:Nat) y,(E.τ.take kept.length ++ List.replicate new.length (Value.slice none 0 0))[k]? = some y->(k < kept.length/\E.τ[k]? = some y)∨(kept.length<=k/\y = .slice none 0 0):=fun k y hy=>by
  rw [List.getElem?_append] at hy;split at hy
  ·rename_i hk;rw [List.length_take] at hk;rw [List.getElem?_take,if_pos (by omega)] at hy;exact .inl ⟨by omega,hy⟩
  ·rename_i hk;rw [List.length_take] at hk;rw [List.getElem?_replicate] at hy;split at hy
   ·simp only [oI] at hy;exact .inr ⟨by omega,hy.symm⟩
   ·cases hy
 refine ⟨E.wk b0.length kept new,?_⟩
 exact {
  env:={
   len:=by simp only [En.wk,List.length_take];omega
   tl:=by simp only [En.wk,List.length_append,List.length_take,List.length_replicate];omega
   bxs:=fun i cs' hi=>by
    obtain ⟨cs,hcs,hwe⟩:=hbx.get i cs' hi;have hlt:=(gS hcs).1;obtain ⟨b,ty,arr,hbb,hwb,hc⟩:=h.env.bxs i cs (by rw [hb,List.getElem?_append_left hlt];exact hcs);exact ⟨b,ty,arr,by simp only [En.wk];rw [List.getElem?_take,if_pos hlt];exact hbb,hwb,weL_sound htE h.env.tl hnew hwe hc.1,hc.2⟩
   inj:=h.env.inj.sublist (List.take_sublist _ _)
   sub:=h.env.sub
   pc:=fun x v hx hm=>h.env.pc x v hx (List.mem_of_mem_take hm)
   tks:=fun k q y hq hy=>by
    rcases hτ k y hy with ⟨hk,hy'⟩ | ⟨hk,rfl⟩
    ·have hq':(kept ++ new)[k]? = some q:=hq;rw [List.getElem?_append_left hk] at hq';rcases h.env.tks k q y (by rw [htE,List.getElem?_append_left hk];exact hq') hy' with h1 | ⟨g,cap,cur,rfl,h1,h2,h3,h4,h5,h6⟩
     ·exact .inl h1
     ·exact .inr ⟨g,cap,cur,rfl,h1,h2,h3,h4,fun hm=>h5 (List.mem_of_mem_take hm),h6⟩
    ·have hq':(kept ++ new)[k]? = some q:=hq;rw [List.getElem?_append_right hk] at hq';exact .inl ⟨rfl,TkE.new_n (hnew q (mG hq')),TkE.new_o (hnew q (mG hq'))⟩
   tkd:=fun k k' y y' g hkk hy hy' hg hg'=>by
    rcases hτ k y hy with ⟨_,hy1⟩ | ⟨_,rfl⟩
    ·rcases hτ k' y' hy' with ⟨_,hy2⟩ | ⟨_,rfl⟩
     ·exact h.env.tkd k k' y y' g hkk hy1 hy2 hg hg'
     ·simp [Value.ownBlock] at hg'
    ·simp [Value.ownBlock] at hg }
  tk:=by simp only [En.wk];exact ht'.symm
  sz:=h.sz
  tm:=fun i x' hx'=>by
   obtain ⟨x,hx,hwe⟩:=sameW_spec hsl i x' hx';have:=h.tm i _ hx;refine ⟨fun hh=>?_,this.2⟩;obtain ⟨v,h1,h2⟩:=this.1 hh;exact ⟨v,h1,we_sound htE h.env.tl hnew hwe h2⟩
  df:=h.df
  nw:={
   c:=h.nw.c
   cn:=h.nw.cn
   β:=by
    obtain ⟨r2,hr,hl⟩:=h.nw.β;refine ⟨r2.take (b0.length - X.n0),?_,fun b hb=>hl b (List.mem_of_mem_take hb)⟩;simp only [En.wk];rw [hr,List.take_append,List.take_of_length_le (by rw [X.hn0];omega),X.hn0]
   tk:=fun j q0 y0 hq0 hy0=>by
    obtain ⟨q',y',h1,h2,h3⟩:=h.nw.tk j q0 y0 hq0 hy0;have hj:j < X.m0:=by rw [<- X.hm0];exact (gS hq0).1
    have hjk:j < kept.length:=by omega
    exact ⟨q',y',by simp only [En.wk];rw [List.getElem?_append_left hjk];rw [htE,List.getElem?_append_left hjk] at h1;exact h1,by simp only [En.wk];rw [List.getElem?_append_left (by rw [List.length_take];omega),List.getElem?_take,if_pos hjk];exact h2,h3⟩
   tn:=fun j y g hj hy hg=>by
    rcases hτ j y hy with ⟨_,hy1⟩ | ⟨_,rfl⟩
    ·exact h.nw.tn j y g hj hy1 hg
    ·simp [Value.ownBlock] at hg
   l0:=h.nw.l0 }
  fr:=h.fr
  sh:=h.sh
  bt:=h.bt.sub _ }
theorem least {p:Nat->Prop} (h:∃ n,p n):∃ n,p n/\∀ m,p m->n<=m:=by
 obtain ⟨n,hn⟩:=h
 induction n using Nat.strongRecOn with
 | _ n ih=>
  by_cases hm:∃ m,m < n/\p m
  ·obtain ⟨m,hlt,hp⟩:=hm;exact ih m hlt hp
  ·refine ⟨n,hn,fun m hp=>?_⟩;rcases Nat.lt_or_ge m n with h1 | h1
   ·exact (hm ⟨m,h1,hp⟩).elim
   ·exact h1
theorem loop_i {c:Code} (I:Nat->St->Prop) (j0:Nat) (st0:St) (hw:Weak X.n0 X.m0 st st0) (h0:I j0 st0)
  (hr:∀ j s,I j s->go X 4000 (.code c :: .rnd (fun s'=>∃ s'',Weak X.n0 X.m0 s' s'' /\ ∃ j',j' < j/\I j' s'') :: k) s):LoopG X c k st:=by
 intro E a w h;obtain ⟨E0,hr0⟩:=weak_rel h hw
 classical
 let Inv:Act->World->Prop:=fun a w=>∃ j s E,Rel X E s a w/\I j s
 let μ:Act->World->Nat:=fun a w=>if hI:Inv a w then Classical.choose (least hI) else 0
 refine wp_loop Inv μ ⟨j0,st0,E0,hr0,h0⟩ ?_;intro a1 w1 hI;have hfind:=(Classical.choose_spec (least hI)).1;obtain ⟨s,E1,hrel,hIs⟩:=hfind;have hs:=go_sound 4000 _ _ (hr _ s hIs) E1 a1 w1 hrel;rw [kq_code_normal] at hs;refine wp_mono hs ?_;intro e a2 w2 hq
 cases e with
 | normal=>
  obtain ⟨s',E2,hrel2,s'',hwk,j',hj',hI'⟩:=hq;obtain ⟨E3,hrel3⟩:=weak_rel hrel2 hwk;have hI2:Inv a2 w2:=⟨j',s'',E3,hrel3,hI'⟩;refine ⟨hI2,?_⟩;simp only [μ,dif_pos hI,dif_pos hI2];exact Nat.lt_of_le_of_lt ((Classical.choose_spec (least hI2)).2 j' ⟨s'',E3,hrel3,hI'⟩) hj'
 | exit id=>exact hq
 | goto l=>exact hq
 | ret=>exact hq
 | panic c=>exact hq
 | outgrown=>exact hq
theorem we_rfl {n m:Nat} {tk':List TkE} {x:DV} (h:clB n m x=true):We n m tk' x x:=.inl ⟨rfl,h⟩
theorem we_int {n m:Nat} {tk':List TkE} {kd:IntKind} {x y:Int} (h:x=y):We n m tk' (.v (.int kd x)) (.v (.int kd y)):=.inl ⟨by rw [h],rfl⟩
theorem we_tok {n m:Nat} {tk':List TkE} {e k:Nat} {q:TkE} (h1:m<=k) (h2:tk'[k]? = some q):We n m tk' (.v (.slice none 0 0)) (.sl e [] (some k)):=.inr (.inl ⟨rfl,e,k,q,rfl,h1,h2⟩)
theorem we_sl {n m:Nat} {tk':List TkE} {e k:Nat} {es es':List (List DV)} (h:es=es') (hk:Nat.blt k m=true):We n m tk' (.sl e es (some k)) (.sl e es' (some k)):=.inl ⟨by rw [h],hk⟩
theorem ax {p:Prop} (h:p:=by repeat' (first | exact rfl | exact trivial | exact Or.inr (Or.inl ⟨_,rfl⟩) | exact Or.inr ⟨_,rfl⟩ | exact Or.inl ⟨rfl,rfl⟩ | exact Or.inl rfl | refine Or.inr ⟨_,_,rfl,Nat.zero_le _,rfl,?_⟩ | refine ⟨_,_,rfl,?_,?_⟩ | refine ⟨_,rfl,?_⟩ | refine Or.inr (Or.inr (Or.inr ⟨_,_,rfl,?_⟩)) | exact Or.inl rfl | refine Or.inr ?_)):p:=h
theorem wA {p:Prop} (h:p:=by repeat' (first | exact rfl | exact we_rfl rfl | refine ⟨_,_,rfl,?_,?_⟩)):p:=h
theorem wB {p:Prop} (h:p:=by repeat' (first | exact trivial | exact we_rfl rfl | refine ⟨⟨_,rfl,?_⟩,?_⟩)):p:=h
theorem weak_mk {n0 m0:Nat} {st st':St} (h1:∃ r,st.bx=st'.bx ++ r) (h2:WeLL st'.bx.length st'.tk.length st'.tk st'.bx st'.bx) (h3:st.tk=st'.tk) (h4:Nat.ble n0 st'.bx.length=true) (h5:Nat.ble m0 st'.tk.length=true)
  (h:sameW st'.bx.length st'.tk.length st'.tk st.sl st'.sl):Weak n0 m0 st st':=by
 obtain ⟨r,hr⟩:=h1;exact ⟨st'.tk,[],[],st'.bx,r,by simpa using h5,by simpa using h4,by simp [h3],by simp,by simp,hr,h2,h⟩
theorem weak_b {n0 m0:Nat} {st st':St} (n:Nat) (hn:Nat.ble n st.bx.length=true) (h2:WeLL n st'.tk.length st'.tk (st.bx.take n) st'.bx) (h3:st.tk=st'.tk) (h4:Nat.ble n0 n=true) (h5:Nat.ble m0 st'.tk.length=true)
  (h:sameW n st'.tk.length st'.tk st.sl st'.sl):Weak n0 m0 st st':=by
 have hl:(st.bx.take n).length=n:=by
  have:=nL hn;rw [List.length_take];omega
 exact ⟨st'.tk,[],[],st.bx.take n,st.bx.drop n,by simpa using h5,by rw [hl];simpa using h4,by simp [h3],by simp,by simp,(List.take_append_drop n st.bx).symm,by rw [hl];exact h2,by rw [hl];exact h⟩
theorem weak_tok {n0 m0:Nat} {st st':St} (q:TkE) (hq:q.new=true) (h1:∃ r,st.bx=st'.bx ++ r) (h3:st.tk ++ [q]=st'.tk) (h2:WeLL st'.bx.length st.tk.length st'.tk st'.bx st'.bx) (h4:Nat.ble n0 st'.bx.length=true) (h5:Nat.ble m0 st.tk.length=true)
  (h:sameW st'.bx.length st.tk.length st'.tk st.sl st'.sl):Weak n0 m0 st st':=by
 obtain ⟨r,hr⟩:=h1;exact ⟨st.tk,[],[q],st'.bx,r,by simpa using h5,by simpa using h4,by simp,h3.symm,by simpa using hq,hr,h2,h⟩
end
end Dv
end Go.Proofs.YtadhpeooehkklaaGreat
namespace Go.Proofs.YtadhpeooehkklaaGreat
namespace Dv
theorem aL {p : Prop} (h : p := by repeat' (first | exact rfl | exact trivial | exact Or.inr (Or.inl ⟨_,rfl⟩) | exact Or.inr ⟨_,rfl⟩ | exact Or.inl ⟨rfl,rfl⟩ | exact Or.inl rfl | refine Or.inr ⟨_,_,rfl,Nat.zero_le _,rfl,?_⟩ | refine ⟨_,_,rfl,?_,?_⟩ | refine ⟨_,rfl,?_⟩ | exact ⟨nL rfl,rfl⟩ | refine Or.inr (Or.inr (Or.inr ⟨_,_,rfl,?_⟩)) | exact Or.inl rfl | refine Or.inr ?_)) : p := h
theorem aI {p : Prop} {a b : Int} (q : a=b) (h : a=b -> p := by intro q;repeat' (first | exact rfl | exact trivial | exact Or.inr (Or.inl ⟨_,rfl⟩) | exact Or.inr ⟨_,rfl⟩ | exact Or.inl ⟨rfl,rfl⟩ | exact Or.inl rfl | refine Or.inr ⟨_,_,rfl,Nat.zero_le _,rfl,?_⟩ | refine ⟨_,_,rfl,?_,?_⟩ | refine ⟨_,rfl,?_⟩ | exact congrArg (fun z=>DV.v (.int .i64 z)) q | refine Or.inr (Or.inr (Or.inr ⟨_,_,rfl,?_⟩)) | exact Or.inl rfl | refine Or.inr ?_)) : p := h q
theorem aB {p : Prop} {a b : Bool} (q : a=b) (h : a=b -> p := by intro q;repeat' (first | exact rfl | exact trivial | exact Or.inr (Or.inl ⟨_,rfl⟩) | exact Or.inr ⟨_,rfl⟩ | exact Or.inl ⟨rfl,rfl⟩ | exact Or.inl rfl | refine Or.inr ⟨_,_,rfl,Nat.zero_le _,rfl,?_⟩ | refine ⟨_,_,rfl,?_,?_⟩ | refine ⟨_,rfl,?_⟩ | exact congrArg (fun b=>DV.v (.bool b)) q | refine Or.inr (Or.inr (Or.inr ⟨_,_,rfl,?_⟩)) | exact Or.inl rfl | refine Or.inr ?_)) : p := h q
theorem wNA {p : Prop} {a b : Nat} (q : a < b) (hn : b <= 4611686018427387904 := by omega) (h : a < b -> b <= 4611686018427387904 -> p := by intro q hn;repeat' (first | exact rfl | exact we_rfl rfl | exact we_int (nxt q hn) | refine ⟨_,_,rfl,?_,?_⟩)) : p := h q hn
theorem wNB {p : Prop} {a b : Nat} (q : a < b) (hn : b <= 4611686018427387904 := by omega) (h : a < b -> b <= 4611686018427387904 -> p := by intro q hn;repeat' (first | exact trivial | exact we_rfl rfl | exact we_int (nxt q hn) | refine ⟨⟨_,rfl,?_⟩,?_⟩)) : p := h q hn
theorem wSA {p r : Prop} {a b : Nat} (q : a < b) (s : r) (hn : b <= 4611686018427387904 := by omega) (h : a < b -> b <= 4611686018427387904 -> r -> p := by intro q hn s;repeat' (first | exact rfl | exact we_rfl rfl | exact we_int (nxt q hn) | exact we_sl s rfl | refine ⟨_,_,rfl,?_,?_⟩)) : p := h q hn s
theorem wSB {p r : Prop} {a b : Nat} (q : a < b) (s : r) (hn : b <= 4611686018427387904 := by omega) (h : a < b -> b <= 4611686018427387904 -> r -> p := by intro q hn s;repeat' (first | exact trivial | exact we_rfl rfl | exact we_int (nxt q hn) | exact we_sl s rfl | refine ⟨⟨_,rfl,?_⟩,?_⟩)) : p := h q hn s
theorem wTB {p : Prop} (h : p := by repeat' (first | exact trivial | exact we_rfl rfl | exact we_tok (Nat.le_refl _) rfl | refine ⟨⟨_,rfl,?_⟩,?_⟩)) : p := h
theorem wTA {p : Prop} (h : p := by repeat' (first | exact rfl | exact we_rfl rfl | exact we_tok (Nat.le_refl _) rfl | refine ⟨_,_,rfl,?_,?_⟩)) : p := h
theorem wRB {p : Prop} (h : p := by repeat' (first | exact trivial | exact we_rfl rfl | exact we_int rfl | refine ⟨⟨_,rfl,?_⟩,?_⟩)) : p := h
theorem wRA {p : Prop} (h : p := by repeat' (first | exact rfl | exact we_rfl rfl | exact we_int rfl | refine ⟨_,_,rfl,?_,?_⟩)) : p := h
end Dv
end Go.Proofs.YtadhpeooehkklaaGreat
namespace Go.Proofs.YtadhpeooehkklaaGreat
namespace Dv
open Go
section
variable {P:Program} {ops:Array Oper} {C:World->Prop} {Q:Act->World->Prop} {W:Nat->Bool} {π:Nat->Nat}
theorem wq_ex {o:Oper} {a:Act} {w:World} {K:Act->World->Prop} (h:wq P o a w K):∃ v w',K (a.put o.dst v) w':=by
 unfold wq at h;split at h
 ·exact ⟨_,_,h⟩
 ·exact ⟨_,_,h⟩
 ·obtain ⟨e,w',fr,⟨v,_,hv⟩,_⟩:=h [];exact ⟨v,w',hv⟩
 ·exact h.elim
theorem wq_put {x y:Oper} {v:Value} (hap:x.apart ops y=true) (hs:∀ cs b,y.op ≠ .select cs b) {a:Act} {w:World} {K:Act->World->Prop} :
  wq P y (a.put x.dst v) w K↔wq P y a w (fun a' w'=>K (a'.put x.dst v) w'):=by
 obtain ⟨h1,h2,h3⟩:=Oper.apart_spec hap;unfold wq;rw [execOp_put y hs a x.dst v h1];have hc:∀ u,(a.put x.dst v).put y.dst u=(a.put y.dst u).put x.dst v:=fun u=>Act.put_comm a v u h2
 cases (execOp a.eval y).run P w with
 | halt h w'=>rfl
 | ok n w'=>cases n<;>simp [hc]
def Yl (P:Program) (ops:Array Oper) (C:World->Prop) (o:Oper) (v:Value) (a:Act):Prop:=
 (Region.wanted o (yielded ops a.tmps)=true/\∀ w,(isL o.op=true->C w)->(execOp a.eval o).run P w = .ok (.value v) w) ∨
 (Region.wanted o (yielded ops a.tmps)=false/\v=undef)
theorem Yl.same {x y:Oper} {v u:Value} (hap:x.apart ops y=true) (hs:∀ cs b,y.op ≠ .select cs b) {a:Act}:Yl P ops C y v (a.put x.dst u)↔Yl P ops C y v a:=by
 obtain ⟨h1,h2,h3⟩:=Oper.apart_spec hap;unfold Yl;rw [execOp_put y hs a x.dst u h1,wanted_put y a x.dst u h1]
def stepX (P:Program) (ops:Array Oper) (o:Oper) (a:Act) (w:World) (K:Act->World->Prop):Prop:=
 if Region.wanted o (yielded ops a.tmps)=true then wq P o a w K else K (a.put o.dst undef) w
theorem stepX_mono {o:Oper} {a:Act} {w:World} {K K':Act->World->Prop} (hk:∀ a w,K a w->K' a w) (h:stepX P ops o a w K):stepX P ops o a w K':=by
 unfold stepX at *;split<;>rename_i hw
 ·rw [if_pos hw] at h;exact wq_mono hk h
 ·rw [if_neg hw] at h;exact hk _ _ h
theorem stepX_put {x y:Oper} {v:Value} (hap:x.apart ops y=true) (hs:∀ cs b,y.op ≠ .select cs b) {a:Act} {w:World} {K:Act->World->Prop} :
  stepX P ops y (a.put x.dst v) w K↔stepX P ops y a w (fun a' w'=>K (a'.put x.dst v) w'):=by
 obtain ⟨h1,h2,h3⟩:=Oper.apart_spec hap;unfold stepX;rw [wanted_put y a x.dst v h1];split
 ·exact wq_put hap hs
 ·rw [Act.put_comm a v undef h2]
theorem stepX_ex {o:Oper} {a:Act} {w:World} {K:Act->World->Prop} (h:stepX P ops o a w K):∃ v w',K (a.put o.dst v) w':=by
 unfold stepX at h;split at h
 ·exact wq_ex h
 ·exact ⟨_,_,h⟩
theorem stepX_form {o:Oper} {a:Act} {w:World} {K:Act->World->Prop} (h:stepX P ops o a w K):stepX P ops o a w (fun a' w'=>K a' w' /\ ∃ u,a'=a.put o.dst u):=by
 unfold stepX at *;split<;>rename_i hw
 ·rw [if_pos hw] at h;unfold wq at *;split at h
  ·rename_i hr;exact ⟨h,_,rfl⟩
  ·rename_i hr;exact ⟨h,_,rfl⟩
  ·rename_i hr;refine h.mono ?_;rintro e w' ⟨v,rfl,hv⟩;exact ⟨v,rfl,hv,v,rfl⟩
  ·exact h.elim
 ·rw [if_neg hw] at h;exact ⟨h,_,rfl⟩
theorem stepX_of_Yl {o:Oper} {a:Act} {w:World} {v:Value} {K:Act->World->Prop} (hy:Yl P ops C o v a) (hc:isL o.op=true->C w) (hk:K (a.put o.dst v) w):stepX P ops o a w K:=by
 unfold stepX;rcases hy with ⟨hw,hv⟩ | ⟨hw,rfl⟩
 ·rw [if_pos hw];unfold wq;rw [hv w hc];exact hk
 ·rw [if_neg (by simp [hw])];exact hk
theorem Yl_of_stepX {o:Oper} {a:Act} {w:World} {v:Value} {K:Act->World->Prop} (hy:Yl P ops C o v a) (hc:isL o.op=true->C w) (h:stepX P ops o a w K):K (a.put o.dst v) w:=by
 unfold stepX at h;rcases hy with ⟨hw,hv⟩ | ⟨hw,rfl⟩
 ·rw [if_pos hw] at h;unfold wq at h;rw [hv w hc] at h;exact h
 ·rw [if_neg (by simp [hw])] at h;exact h
def runT (P:Program) (ops:Array Oper) (W:Nat->Bool) (C:World->Prop) (Q:Act->World->Prop):List Nat->Act->World->Prop
 | [],a,w=>Q a w
 | i :: r,a,w=>
  match ops[i]? with
  | none=>False
  | some o=>
   if isE o.op=true then stepX P ops o a w fun a' w'=>(W i=false->C w->C w')/\runT P ops W C Q r a' w'
   else ∃ v,Yl P ops C o v a/\(isL o.op=true->C w)/\runT P ops W C Q r (a.put o.dst v) w
def swapB (ops:Array Oper) (W:Nat->Bool) (j i:Nat):Bool:=
 match ops[j]?,ops[i]? with
 | some x,some y=>x.apart ops y && y.apart ops x && !(isE x.op && isE y.op) && !(isL x.op && W i)
 | _,_=>false
def HasL (ops:Array Oper) (l:List Nat):Prop:=∃ i o,i∈l/\ops[i]? = some o/\isL o.op=true
theorem swapB_spec {j i:Nat} {x y:Oper} (h:swapB ops W j i=true) (hj:ops[j]? = some x) (hi:ops[i]? = some y) :
  x.apart ops y=true/\y.apart ops x=true/\¬ (isE x.op=true/\isE y.op=true)/\¬ (isL x.op=true/\W i=true):=by
 unfold swapB at h;rw [hj,hi] at h;simp only [Bool.and_eq_true,Bool.not_eq_true',Bool.and_eq_false_iff] at h;refine ⟨h.1.1.1,h.1.1.2,?_,?_⟩
 ·rintro ⟨h1,h2⟩;rcases h.1.2 with h3 | h3<;>simp_all
 ·rintro ⟨h1,h2⟩;rcases h.2 with h3 | h3<;>simp_all
theorem run_yields (hsel:∀ (j:Nat) (o:Oper) cs b,ops[j]? = some o->o.op ≠ .select cs b) {i:Nat} {o:Oper} (hi:ops[i]? = some o) (hR:isE o.op=false) :
  ∀ (rem:List Nat) (a:Act) (w:World),runT P ops W C Q rem a w->i∈rem->(∀ j∈rem,j≠i->π j < π i->swapB ops W j i=true)->rem.Pairwise (fun a b=>π a < π b)->∃ v,Yl P ops C o v a
 | [],_,_,_,hm,_,_=>by cases hm
 | h :: rem,a,w,hr,hm,hsw,hp=>by
  simp only [runT] at hr;by_cases hih:h=i
  ·subst hih;rw [hi] at hr;simp only [hR,Bool.false_eq_true,if_false] at hr;obtain ⟨v,hy,_⟩:=hr;exact ⟨v,hy⟩
  ·have hm':i∈rem:=by
    rcases List.mem_cons.1 hm with e | e
    ·exact (hih e.symm).elim
    ·exact e
   have hlt:π h < π i:=(List.pairwise_cons.1 hp).1 i hm';split at hr
   ·exact hr.elim
   ·rename_i x hx;obtain ⟨ap1,ap2,_,_⟩:=swapB_spec (hsw h (by simp) hih hlt) hx hi;have ih:=fun a w hr=>run_yields hsel hi hR rem a w hr hm' (fun j hj=>hsw j (List.mem_cons_of_mem _ hj)) (List.pairwise_cons.1 hp).2;split at hr
    ·obtain ⟨u,w',_,hr'⟩:=stepX_ex hr;obtain ⟨v,hy⟩:=ih _ _ hr';exact ⟨v,(Yl.same ap1 (fun cs b=>hsel i o cs b hi)).1 hy⟩
    ·obtain ⟨u,_,_,hr'⟩:=hr;obtain ⟨v,hy⟩:=ih _ _ hr';exact ⟨v,(Yl.same ap1 (fun cs b=>hsel i o cs b hi)).1 hy⟩
theorem hasL_tail {h:Nat} {rem:List Nat} (hl:HasL ops rem):HasL ops (h :: rem):=by
 obtain ⟨i,o,hm,ho,hL⟩:=hl;exact ⟨i,o,List.mem_cons_of_mem _ hm,ho,hL⟩
theorem run_step (hsel:∀ (j:Nat) (o:Oper) cs b,ops[j]? = some o->o.op ≠ .select cs b) (hWL:∀ j i x y,π j < π i->ops[i]? = some x->ops[j]? = some y->isL x.op=true->W j=false) {i:Nat} {o:Oper} (hi:ops[i]? = some o) :
  ∀ (rem:List Nat) (a:Act) (w:World),(HasL ops rem->C w)->runT P ops W C Q rem a w->i∈rem->(∀ j∈rem,j≠i->π j < π i->swapB ops W j i=true)->rem.Pairwise (fun a b=>π a < π b) ->
   stepX P ops o a w (fun a' w'=>(W i=false->C w->C w')/\runT P ops W C Q (rem.erase i) a' w')
 | [],_,_,_,_,hm,_,_=>by cases hm
 | h :: rem,a,w,hC,hr,hm,hsw,hp=>by
  by_cases hih:h=i
  ·subst hih;rw [List.erase_cons_head];simp only [runT,hi] at hr;split at hr
   ·exact hr
   ·obtain ⟨v,hy,hc,hr'⟩:=hr;exact stepX_of_Yl hy hc ⟨fun _ h=>h,hr'⟩
  ·have hm':i∈rem:=by
    rcases List.mem_cons.1 hm with e | e
    ·exact (hih e.symm).elim
    ·exact e
   have hlt:π h < π i:=(List.pairwise_cons.1 hp).1 i hm';have hp':=(List.pairwise_cons.1 hp).2;rw [List.erase_cons_tail (by simpa using hih)];have hr0:=hr;simp only [runT] at hr;split at hr
   ·exact hr.elim
   ·rename_i x hx;obtain ⟨ap1,ap2,hEE,hLW⟩:=swapB_spec (hsw h (by simp) hih hlt) hx hi;have hsx:=fun cs b=>hsel h x cs b hx;have hso:=fun cs b=>hsel i o cs b hi;have hsw':∀ j∈rem,j≠i->π j < π i->swapB ops W j i=true:=fun j hj=>hsw j (List.mem_cons_of_mem _ hj);split at hr
    ·-- the head has an effect: so o has none
     rename_i hEx
     have hRo:isE o.op=false:=by
      cases he:isE o.op
      ·rfl
      ·exact (hEE ⟨hEx,he⟩).elim
     obtain ⟨v,hy⟩:=run_yields (π:=π) hsel hi hRo (h :: rem) a w hr0 hm hsw hp;have hci:isL o.op=true->C w:=fun hL=>hC ⟨i,o,hm,hi,hL⟩;refine stepX_of_Yl hy hci ⟨fun _ h=>h,?_⟩;simp only [runT,hx,hEx,if_true];refine (stepX_put ap2 hsx).2 ?_;refine stepX_mono ?_ (stepX_form hr);rintro a' w' ⟨⟨hcw,hr'⟩,u,rfl⟩;refine ⟨hcw,?_⟩
     have hC':HasL ops rem->C w':=by
      intro hl;have hl':=hl;obtain ⟨l,z,hlm,hz,hL⟩:=hl;exact hcw (hWL h l z x ((List.pairwise_cons.1 hp).1 l hlm) hz hx hL) (hC (hasL_tail hl'))
     have ih:=run_step hsel hWL hi rem _ w' hC' hr' hm' hsw' hp';have hy':=(Yl.same (u:=u) ap1 hso).2 hy;exact (Yl_of_stepX hy' (fun hL=>hC' ⟨i,o,hm',hi,hL⟩) ih).2
    ·rename_i hEx;obtain ⟨v,hy,hc,hr'⟩:=hr;have ih:=run_step hsel hWL hi rem (a.put x.dst v) w (fun hl=>hC (hasL_tail hl)) hr' hm' hsw' hp';refine stepX_mono ?_ (stepX_form ((stepX_put ap1 hso).1 ih));rintro a' w' ⟨⟨hcw,hr2⟩,u,rfl⟩;refine ⟨hcw,?_⟩;simp only [runT,hx];rw [if_neg hEx];refine ⟨v,?_,fun hL=>?_,hr2⟩
     ·exact (Yl.same (u:=u) ap2 hsx).2 hy
     ·have hWi:W i=false:=by
       cases hw:W i
       ·rfl
       ·exact (hLW ⟨hL,hw⟩).elim
      exact hcw hWi (hc hL)
def ordB (ops:Array Oper):Nat->Nat->Nat->Bool
 | 0,_,_=>false
 | n + 1,j,i=>
  match ops[i]? with
  | some o=>o.after.toList.any fun e=>Region.binds .any e && (Nat.beq e.on j || ordB ops n j e.on)
  | none=>false
def chkO (ops:Array Oper) (W:Nat->Bool) (π:Nat->Nat):Bool:=
 Region.noSelect ops &&
 (List.range ops.size).all fun i=>
  match ops[i]? with
   | some o=>o.after.toList.all (fun e=>!Region.binds .any e || (Nat.blt (π e.on) (π i) && Nat.blt e.on ops.size)) && (!isL o.op || (List.range ops.size).all fun j=>!Nat.blt (π j) (π i) || !W j)
   | none=>false
def chkS (ops:Array Oper) (W:Nat->Bool) (π:Nat->Nat) (ex:Nat->Nat->Bool):Bool:=
 (List.range ops.size).all fun i=>(List.range ops.size).all fun j=>!Nat.blt (π j) (π i) || ex j i || ordB ops ops.size j i || swapB ops W j i
def noEx:Nat->Nat->Bool:=fun _ _=>false
def chkB (ops:Array Oper) (W:Nat->Bool):Bool:=chkO ops W (fun i=>i) && chkS ops W (fun i=>i) noEx
def Dn (ops:Array Oper) (listed:Array Bool):Prop:=
 ∀ i o,ops[i]? = some o->listed.getD i true=true->∀ e∈o.after,Region.binds .any e=true->listed.getD e.on false=true
theorem ordB_listed {listed:Array Bool} (hd:Dn ops listed):∀ (n:Nat) (j i:Nat) (o:Oper),ops[i]? = some o->(∀ e∈o.after,Region.binds .any e=true->listed.getD e.on false=true)->ordB ops n j i=true->listed.getD j false=true
 | 0,j,i,o,_,_,h=>by simp [ordB] at h
 | n + 1,j,i,o,ho,hall,h=>by
  simp only [ordB,ho,List.any_eq_true,Bool.and_eq_true,Bool.or_eq_true] at h;obtain ⟨e,he,hb,hj⟩:=h;have he':e∈o.after:=by simpa using he
  have h1:=hall e he' hb;rcases hj with hj | hj
  ·have:e.on=j:=by simpa using hj
   rw [<- this];exact h1
  ·cases hoe:ops[e.on]? with
   | none=>
    cases n with
    | zero=>simp [ordB] at hj
    | succ n=>simp [ordB,hoe] at hj
   | some o'=>
    have hg:listed.getD e.on true=true:=by
     rcases Nat.lt_or_ge e.on listed.size with h' | h'
     ·simp [h'] at h1 ⊢;exact h1
     ·simp [Array.getElem?_eq_none h'] at h1
    exact ordB_listed hd n j e.on o' hoe (hd e.on o' hoe hg) hj
theorem chkO_wl (hc:chkO ops W π=true):∀ j i x y,π j < π i->ops[i]? = some x->ops[j]? = some y->isL x.op=true->W j=false:=by
 simp only [chkO,Bool.and_eq_true,List.all_eq_true,List.mem_range] at hc;intro j i x y hji hx hy hL;have hj:=(Array.getElem?_eq_some_iff.1 hy).1;have:=hc.2 i (Array.getElem?_eq_some_iff.1 hx).1;simp only [hx,Bool.and_eq_true,Bool.or_eq_true,hL,Bool.not_true,Bool.false_eq_true,false_or,List.all_eq_true,List.mem_range,Bool.not_eq_true'] at this;rcases this.2 j hj with h1 | h1
 ·have:¬ Nat.blt (π j) (π i)=true:=by simp [h1]
  simp at this;omega
 ·exact h1
theorem chkO_back (hc:chkO ops W π=true):∀ i x,ops[i]? = some x->∀ e∈x.after,Region.binds .any e=true->π e.on < π i/\e.on < ops.size:=by
 simp only [chkO,Bool.and_eq_true,List.all_eq_true,List.mem_range] at hc;intro i x hx e he hb;have:=hc.2 i (Array.getElem?_eq_some_iff.1 hx).1;simp only [hx,Bool.and_eq_true,List.all_eq_true,Bool.or_eq_true] at this;have h2:=this.1 e (by simpa using he);rw [hb] at h2;simpa using h2
theorem chkO_sel (hc:chkO ops W π=true):∀ (j:Nat) (o:Oper) cs b,ops[j]? = some o->o.op ≠ .select cs b:=by
 simp only [chkO,Bool.and_eq_true] at hc;exact Region.noSelect_spec hc.1
theorem pw_rel:∀ {l:List Nat},l.Pairwise (fun a b=>π a < π b)->∀ {x y:Nat},x∈l->y∈l->x≠y->π x < π y∨π y < π x
 | [],_,x,y,hx,_,_=>by cases hx
 | h :: r,hp,x,y,hx,hy,hne=>by
  have hp':=List.pairwise_cons.1 hp;rcases List.mem_cons.1 hx with e1 | e1
  ·rcases List.mem_cons.1 hy with e2 | e2
   ·exact (hne (e1.trans e2.symm)).elim
   ·subst e1;exact .inl (hp'.1 _ e2)
  ·rcases List.mem_cons.1 hy with e2 | e2
   ·subst e2;exact .inr (hp'.1 _ e1)
   ·exact pw_rel hp'.2 e1 e2 hne
theorem any_of_run {Q':Exit->Act->World->Prop} (ex:Nat->Nat->Bool) (hcO:chkO ops W π=true) (hcS:chkS ops W π ex=true) (hQ:∀ a w,Q a w->Q' .normal a w):∀ (fuel:Nat) (listed:Array Bool) (rem:List Nat) (a:Act) (w:World),
  listed.size=ops.size->Dn ops listed->(∀ i,i∈rem↔i < ops.size/\listed.getD i true=false)->rem.Pairwise (fun a b=>π a < π b)->rem.length<=fuel->(∀ j∈rem,∀ i∈rem,ex j i=false)->(HasL ops rem->C w)->runT P ops W C Q rem a w ->
   wpAny P .any ops Q' fuel listed a w:=by
 have hsel:=chkO_sel hcO;have hWL:=chkO_wl hcO;have hback:=chkO_back hcO;simp only [chkS,List.all_eq_true,List.mem_range,Bool.or_eq_true,Bool.not_eq_true'] at hcS;intro fuel
 induction fuel with
 | zero=>
  intro listed rem a w hsz hdn hrem hp hlen hex hC hr;have:rem=[]:=List.length_eq_zero_iff.1 (by omega);subst this;refine ⟨?_,hQ _ _ hr⟩;rw [List.eq_nil_iff_forall_not_mem];intro i hi;have:=(mem_ready.1 hi);obtain ⟨h1,o,ho,_⟩:=this;have:=(hrem i).2 ⟨(Array.getElem?_eq_some_iff.1 ho).1,h1⟩;cases this
 | succ fuel ih=>
  intro listed rem a w hsz hdn hrem hp hlen hex hC hr
  have hready:∀ i,i∈Region.ready .any ops listed->i∈rem:=by
   intro i hi;obtain ⟨h1,o,ho,_⟩:=mem_ready.1 hi;exact (hrem i).2 ⟨(Array.getElem?_eq_some_iff.1 ho).1,h1⟩
  refine ⟨fun h0=>?_,fun i hi=>?_⟩
  ·cases rem with
   | nil=>exact hQ _ _ hr
   | cons h rem=>
    have hh:=(hrem h).1 (by simp);have hx:ops[h]? = some ops[h]:=Array.getElem?_eq_getElem hh.1
    have:h∈Region.ready .any ops listed:=by
     refine mem_ready.2 ⟨hh.2,_,hx,fun e he hb=>?_⟩;obtain ⟨hlt,hlt2⟩:=hback h _ hx e he hb;cases hg:listed.getD e.on false
     ·have hg2:listed.getD e.on true=false:=by
       have:e.on < listed.size:=by rw [hsz];omega
       simp [this] at hg ⊢;exact hg
      have hm:=(hrem e.on).2 ⟨by omega,hg2⟩;rcases List.mem_cons.1 hm with e1 | e1
      ·rw [e1] at hlt;omega
      ·have:=(List.pairwise_cons.1 hp).1 _ e1;omega
     ·rfl
    rw [h0] at this;cases this
  ·have him:=hready i hi;obtain ⟨hun,o,ho,hall⟩:=mem_ready.1 hi;have hi':=(Array.getElem?_eq_some_iff.1 ho).1
   have hsw:∀ j∈rem,j≠i->π j < π i->swapB ops W j i=true:=by
    intro j hj _ hlt;rcases hcS i hi' j ((hrem j).1 hj).1 with ((h1 | h1) | h1) | h1
    ·have:¬ Nat.blt (π j) (π i)=true:=by simp [h1]
     simp at this;omega
    ·rw [hex j hj i him] at h1;cases h1
    ·have h2:=ordB_listed hdn _ _ _ _ ho hall h1;have h3:=((hrem j).1 hj).2;have:j < listed.size:=by rw [hsz];exact ((hrem j).1 hj).1
     simp [this] at h2 h3;rw [h2] at h3;cases h3
    ·exact h1
   have hst:=run_step hsel hWL ho rem a w hC hr him hsw hp;have hnd:rem.Nodup:=nodup_lt hp
   have key:∀ a' w',((W i=false->C w->C w')/\runT P ops W C Q (rem.erase i) a' w')->wpAny P .any ops Q' fuel (listed.setIfInBounds i true) a' w':=by
    rintro a' w' ⟨hcw,hr'⟩;refine ih (listed.setIfInBounds i true) (rem.erase i) a' w' (by simp [hsz]) ?_ ?_ (hp.sublist List.erase_sublist) (by rw [List.length_erase_of_mem him];omega) (fun j hj i hi=>hex j (List.mem_of_mem_erase hj) i (List.mem_of_mem_erase hi)) ?_ hr'
    ·intro k x hx hk e he hb;by_cases hki:k=i
     ·subst hki;rw [ho] at hx;simp only [oI] at hx;subst hx;exact getD_set_true (hall e he hb)
     ·rw [getD_set_ne true (Ne.symm hki)] at hk;exact getD_set_true (hdn k x hx hk e he hb)
    ·intro k;rw [List.Nodup.mem_erase_iff hnd];by_cases hki:k=i
     ·subst hki;simp [hsz,hi']
     ·rw [getD_set_ne true (Ne.symm hki)];simp only [ne_eq,hki,not_false_eq_true,true_and];exact hrem k
    ·rintro ⟨l,z,hl,hz,hL⟩;have hl':=List.mem_of_mem_erase hl;have hne:l≠i:=fun e=>by subst e;exact (List.Nodup.mem_erase_iff hnd).1 hl |>.1 rfl
     have hCw:=hC ⟨l,z,hl',hz,hL⟩;refine hcw ?_ hCw;rcases Nat.lt_or_ge (π i) (π l) with h1 | h1
     ·exact hWL i l z o h1 hz ho hL
     ·have h0:π l≠π i:=by
       intro he;rcases pw_rel hp hl' him hne with h2 | h2<;>omega
      have:=hsw l hl' hne (by omega);obtain ⟨_,_,_,h4⟩:=swapB_spec this hz ho;cases hw:W i
      ·rfl
      ·exact (h4 ⟨hL,hw⟩).elim
   unfold wpOp;rw [ho];simp only;unfold stepX at hst;split
   ·rename_i hw;rw [if_pos hw] at hst;exact .inl (wq_wp (wq_mono key hst))
   ·rename_i hw;rw [if_neg hw] at hst;exact key _ _ hst
theorem wp_region_run {id:Nat} {Q':Exit->Act->World->Prop} {a:Act} {w:World} (hm:P.follows .mixedOrders=true) (hc:chkB ops W=true) (hQ:∀ a w,Q a w->Q' .normal a w)
  (hC:C w.drew) (h:runT P ops W C Q (List.range ops.size) a w.drew):(Code.region id ops true).wp P Q' a w:=by
 refine wp_region_any hm ?_;simp only [chkB,Bool.and_eq_true] at hc;refine any_of_run (π:=fun i=>i) noEx hc.1 hc.2 hQ ops.size (Array.replicate ops.size false) (List.range ops.size) a _ (by simp) ?_ ?_ List.pairwise_lt_range (by simp) (fun _ _ _ _=>rfl) (fun _=>hC) h
 ·intro i o ho hl;have:i < ops.size:=(Array.getElem?_eq_some_iff.1 ho).1;simp [this] at hl
 ·intro i;simp only [List.mem_range];constructor
  ·intro hi;exact ⟨hi,by simp [hi]⟩
  ·intro hi;exact hi.1
end
end Dv
end Go.Proofs.YtadhpeooehkklaaGreat
namespace Go.Proofs.YtadhpeooehkklaaGreat
namespace Dv
open Go Go.RowKit
structure Dr where
 ops:Array Oper
 W:Nat->Bool
 k:List It
 st0:St
 fin:Option (Bool->List (Nat × Sl)->St->Prop)
structure Dw where
 d:Dr
 E0:En
 wr:World
structure CC (E0:En) (bx:List (List DV)) (wr w:World):Prop where
 o:∀ (i:Nat) b cs,E0.β[i]? = some b->bx[i]? = some cs->cs ≠ []->w.heap[b]? = wr.heap[b]?
 c:∀ x v,E0.c x=some v->w.cell? x=some v
abbrev Dw.C (D:Dw) (w:World):Prop:=CC D.E0 D.d.st0.bx D.wr w
structure EnvM (E:En) (bx:List (List DV)) (w:World):Prop where
 len:E.β.length=bx.length
 bxs:∀ (i:Nat) cs,bx[i]? = some cs->cs ≠ []->∃ b ty arr,E.β[i]? = some b/\w.heap[b]? = some (.cells (List.toArray arr) ty (0,0))/\RvC E cs arr
theorem Env.em {E:En} {bx:List (List DV)} {w:World} (h:Env E bx w):EnvM E bx w:=⟨h.len,fun i cs hi _=>h.bxs i cs hi⟩
def nilB:Option (List DV)->Bool
 | some []=>true
 | _=>false
theorem nilB_eq {o:Option (List DV)} (h:nilB o=true):o=some []:=by
 cases o with
 | none=>cases h
 | some l=>
  cases l with
  | nil=>rfl
  | cons _ _=>cases h
def Dw.wc (D:Dw) (E:En):En:=⟨D.E0.c,E.β,E.tk,E.τ⟩
structure RelD (X:Ctx) (D:Dw) (c:Bool) (E:En) (s0:List (Nat × Sl)) (st:St) (a:Act) (w:World):Prop where
 rel:Rel X E st a w
 x:Ext D.E0 E
 β:∃ r,E.β=D.E0.β ++ r
 t0:∀ i x,get s0 i=some x->(Holds a.tmps x.gs->∃ v,a.tmps[i]? = some v/\Rv (D.wc E) x.s v)/\(¬ Holds a.tmps x.gs->a.tmps[i]? = some undef)
 cc:c=true->D.C w
def Dw.Q (D:Dw) (X:Ctx) (a:Act) (w:World):Prop:=
 match D.d.fin with
 | none=>kq X D.d.k .normal a w
 | some F=>∃ c E s0 st,RelD X D c E s0 st a w/\F c s0 st
def delF {γ:Type _} (d:Nat):List (Nat × Sl)->(List (Nat × Sl)->γ)->γ
 | [],K=>K []
 | p :: r,K=>
  match Nat.beq p.1 d with
  | true=>delF d r K
  | false=>delF d r (fun r'=>K (p :: r'))
theorem delF_eq {γ:Type _} (d:Nat):∀ (l:List (Nat × Sl)) (K:List (Nat × Sl)->γ),delF d l K=K (l.filter fun p=>!Nat.beq p.1 d)
 | [],K=>rfl
 | p :: r,K=>by
  simp only [delF,List.filter_cons];cases h:Nat.beq p.1 d
  ·simp only [Bool.not_false,if_true];rw [delF_eq d r]
  ·simp only [Bool.not_true,Bool.false_eq_true,if_false];rw [delF_eq d r K]
theorem get_filter (d:Nat):∀ (l:List (Nat × Sl)) (i:Nat) (x:Sl),get (l.filter fun p=>!Nat.beq p.1 d) i=some x->i≠d/\get l i=some x
 | [],i,x,h=>by cases h
 | (k,y) :: r,i,x,h=>by
  simp only [List.filter_cons] at h;split at h
  ·rename_i hk
   have hk:k≠d:=by
    rintro rfl;simp at hk
   simp only [get_cons] at h ⊢;split at h
   ·rename_i hki;subst hki;exact ⟨hk,by rw [if_pos rfl];exact h⟩
   ·rename_i hki;rw [if_neg hki];exact get_filter d r i x h
  ·rename_i hk;have hk:k=d:=by simpa using hk
   obtain ⟨h1,h2⟩:=get_filter d r i x h;refine ⟨h1,?_⟩;simp only [get_cons];rw [if_neg (by omega)];exact h2
def scal:DV->Bool
 | .v _=>true
 | .ud=>true
 | .loc _ _=>true
 | .el _ _=>true
 | _=>false
def put2 (s0:List (Nat × Sl)) (st:St) (dst:Option Nat) (b:Bool) (gs:List (Nat × Bool)) (s:DV) (K:List (Nat × Sl)->St->Prop):Prop:=
 match dst with
 | none=>K s0 st
 | some d=>
  match st with
  | ⟨sl,bx,tk⟩=>
   match b || scal s with
   | true=>K ((d,⟨gs,s⟩) :: s0) ⟨(d,⟨gs,s⟩) :: sl,bx,tk⟩
   | false=>delF d s0 fun s0'=>K s0' ⟨(d,⟨gs,s⟩) :: sl,bx,tk⟩
def optP:Option Prop->Prop
 | some p=>p
 | none=>False
def pR (X:Ctx) (D:Dr) (c:Bool) (s0:List (Nat × Sl)) (st:St) (G:List (Nat × Bool)) (op:Op):Option (Bool × DV):=
 match !isE op && (!isL op || c) with
 | false=>none
 | true=>
  match pureT X.P X.T ⟨s0,D.st0.bx,[]⟩ G op with
  | some s=>some (true,s)
  | none=>
   match isL op with
   | true=>none
   | false=>
    match pureT X.P X.T ⟨st.sl,[],[]⟩ G op with
    | some s=>some (false,s)
    | none=>none
def eR (X:Ctx) (D:Dr) (c:Bool) (s0:List (Nat × Sl)) (st:St) (op:Op) (K:Bool->DV->Prop):Option Prop:=
 match isE op with
 | true=>none
 | false=>
  match isL op with
  | true=>
   match c with
   | true=>effR X ⟨s0,D.st0.bx,[]⟩ op (K true)
   | false=>none
  | false=>
   match effR X ⟨s0,[],[]⟩ op (K true) with
   | some p=>some p
   | none=>effR X ⟨st.sl,[],[]⟩ op (K false)
def CallD (X:Ctx) (D:Dr) (c:Bool) (i:Nat) (l:List (Nat × Oper)) (f:FuncId) (args:List DV) (dst:Option Nat) (s0:List (Nat × Sl)) (st:St):Prop:=
 Go.Proofs.Enters X.P f/\((∀ p∈l,D.ops[p.1]? = some p.2)->∀ (E0:En) (wr:World),EnvM E0 D.st0.bx wr->∀ E a w vs,RelD X ⟨D,E0,wr⟩ c E s0 st a w->RvL E args vs->Calls X.P f vs.toArray w fun e w'=>∃ v,e = .returned v /\
  (D.W i=false->CC E0 D.st0.bx wr w->CC E0 D.st0.bx wr w')/\runT X.P D.ops D.W (CC E0 D.st0.bx wr) (Dw.Q ⟨D,E0,wr⟩ X) (l.map (·.1)) (a.put dst v) w')
def OpD (X:Ctx) (D:Dr) (c:Bool) (i:Nat) (l:List (Nat × Oper)) (o:Oper) (s0:List (Nat × Sl)) (st:St):Prop:=
 (∀ p∈l,D.ops[p.1]? = some p.2)->∀ (E0:En) (wr:World),EnvM E0 D.st0.bx wr->∀ E a w,RelD X ⟨D,E0,wr⟩ c E s0 st a w->wq X.P o a w fun a' w'=>
  (D.W i=false->CC E0 D.st0.bx wr w->CC E0 D.st0.bx wr w')/\runT X.P D.ops D.W (CC E0 D.st0.bx wr) (Dw.Q ⟨D,E0,wr⟩ X) (l.map (·.1)) a' w'
def effE (X:Ctx) (D:Dr) (c:Bool) (i:Nat) (l:List (Nat × Oper)) (o:Oper) (s0:List (Nat × Sl)) (st:St) (K:Bool->List (Nat × Sl)->St->Prop):Prop:=
 match o.op with
 | .store t x y=>
  match o.dst with
  | some _=>False
  | none=>
   match D.W i with
   | true=>optP (effC X st o (K false s0))
   | false=>
    match stObj st o.op with
    | some j=>
     match Nat.ble D.st0.bx.length j || nilB D.st0.bx[j]? with
     | true=>optP (effC X st o (K c s0))
     | false=>False
    | none=>False
 | .call cl=>
  match cl.callee with
  | .value f=>
   match rv st [] f,argsV st [] cl.args.toList with
   | some (.fn g first captured),some vs=>CallD X D c i l g (first ++ vs ++ captured) o.dst s0 st
   | _,_=>False
  | _=>
   match o.dst with
   | some d=>optP (effC X st o fun st'=>delF d s0 fun s0'=>K c s0' st')
   | none=>False
 | _=>
  match o.dst with
  | some d=>
   match effC X st o fun st'=>
    match get st'.sl d with
    | some ⟨[],.loc j off⟩=>K c ((d,⟨[],.loc j off⟩) :: s0) st'
    | _=>delF d s0 fun s0'=>K c s0' st' with
   | some p=>p
   | none=>OpD X D c i l o s0 st
  | none=>False
def goD (X:Ctx) (D:Dr):Nat->Bool->List (Nat × Oper)->List (Nat × Sl)->St->Prop
 | _,c,[],s0,st=>
  match D.fin with
  | none=>go X 4000 D.k st
  | some F=>F c s0 st
 | 0,_,_ :: _,_,_=>False
 | n + 1,c,(i,o) :: r,s0,st=>
  match okD X.nt st.sl o.dst && okD X.nt s0 o.dst with
  | false=>False
  | true=>
   match o.guard with
   | none=>
    match isE o.op with
    | true=>effE X D c i r o s0 st fun c' s0' st'=>goD X D n c' r s0' st'
    | false=>
     match pR X D c s0 st [] o.op with
     | some (b,s)=>put2 s0 st o.dst b [] s (goD X D n c r)
     | none=>optP (eR X D c s0 st o.op fun b s=>put2 s0 st o.dst b [] s (goD X D n c r))
   | some (j,want)=>
    match gslot D.ops.toList j with
    | none=>False
    | some d=>
     match get st.sl d with
     | none=>False
     | some ⟨gsd,_⟩=>
      match pR X D c s0 st ((d,want) :: gsd) o.op with
      | some (b,s)=>
       match okG ((d,want) :: gsd) o.dst with
       | true=>put2 s0 st o.dst b ((d,want) :: gsd) s (goD X D n c r)
       | false=>False
      | none=>
       match get st.sl (lastG (d,want) gsd).1 with
       | some ⟨[],.v (.bool b)⟩=>
        match gsd with
        | []=>Br (b == want)
          (resK st d want fun st2=>resL d want s0 fun s2=>
           match isE o.op with
           | true=>effE X D c i r o s2 st2 fun c' s0' st'=>goD X D n c' r s0' st'
           | false=>optP (eR X D c s2 st2 o.op fun b s=>put2 s2 st2 o.dst b [] s (goD X D n c r)))
          (match !isL o.op || c with
           | true=>resK st d (!want) fun st2=>resL d (!want) s0 fun s2=>put2 s2 st2 o.dst true [] .ud (goD X D n c r)
           | false=>False)
        | _ :: _=>Br (b == (lastG (d,want) gsd).2)
          (resK st (lastG (d,want) gsd).1 (lastG (d,want) gsd).2 fun st2=>resL (lastG (d,want) gsd).1 (lastG (d,want) gsd).2 s0 fun s2=>goD X D n c ((i,o) :: r) s2 st2)
          (resK st (lastG (d,want) gsd).1 (!(lastG (d,want) gsd).2) fun st2=>resL (lastG (d,want) gsd).1 (!(lastG (d,want) gsd).2) s0 fun s2=>goD X D n c ((i,o) :: r) s2 st2)
       | some ⟨[],.ud⟩=>
        match gsd with
        | []=>
         match !isL o.op || c with
         | true=>put2 s0 st o.dst true [] .ud (goD X D n c r)
         | false=>False
        | _ :: _=>False
       | _=>False
section
variable {X:Ctx} {D:Dw} {c:Bool} {i:Nat} {s0:List (Nat × Sl)} {st:St} {E:En} {a:Act} {w:World}
theorem ext_wc (h:Ext D.E0 E):Ext D.E0 (D.wc E):=⟨fun _ _ h=>h,h.β,h.tk⟩
theorem ext_un (h:Ext D.E0 E):Ext (D.wc E) E:=⟨h.c,fun _ _ h=>h,fun k q hq=>⟨q,hq,.inl ⟨rfl,rfl⟩⟩⟩
theorem ext_wc2 {E':En} (h:Ext E E'):Ext (D.wc E) (D.wc E'):=⟨fun _ _ h=>h,h.β,h.tk⟩
theorem RelD.rl0 (h:RelD X D c E s0 st a w) (hD:EnvM D.E0 D.d.st0.bx D.wr):Rl (D.wc E) D.d.st0.bx D.C s0 a where
 tm:=h.t0
 bxs:=fun i cs hi=>by
  by_cases hne:cs=[]
  ·subst hne;have hlt:i < D.E0.β.length:=by rw [hD.len];exact (gS hi).1
   exact ⟨_,[],h.x.β i _ (gE hlt),⟨rvL_nil _,by simp⟩,fun w' _ j u hj=>by simp at hj⟩
  ·obtain ⟨b,ty,arr,hb,hw,hc⟩:=hD.bxs i cs hi hne;exact ⟨b,arr,h.x.β i b hb,hc.mono (ext_wc h.x),fun w' hC j u hj=>by rw [cell_blk ((hC.o i b cs hb hi hne).trans hw)];simpa using hj⟩
 cc:=fun x v hx w' hC=>hC.c x v hx
theorem RelD.rlE (h:RelD X D c E s0 st a w):Rl E [] (fun w'=>∀ x v,E.c x=some v->w'.cell? x=some v) st.sl a where
 tm:=h.rel.tm
 bxs:=fun i cs hi=>by simp at hi
 cc:=fun x v hx w' hC=>hC x v hx
theorem scal_wc {s:DV} {v:Value} (hs:scal s=true) (hv:Rv E s v):Rv (D.wc E) s v:=by
 cases s<;>simp [scal] at hs
 ·unfold Rv at hv ⊢;exact hv
 ·unfold Rv at hv ⊢;exact hv
 ·unfold Rv at hv ⊢;exact hv
 ·unfold Rv at hv ⊢;exact hv
theorem put2_rel (h:RelD X D c E s0 st a w) {dst:Option Nat} (hd:(okD X.nt st.sl dst && okD X.nt s0 dst)=true) (b:Bool) (gs:List (Nat × Bool)) (s:DV) (v:Value) (hgs:∀ d,dst=some d->∀ p∈gs,p.1≠d)
  (hv1:Holds a.tmps gs->Rv E s v) (hv0:b=true->Holds a.tmps gs->Rv (D.wc E) s v) (hv2:¬ Holds a.tmps gs->v=undef) {K:List (Nat × Sl)->St->Prop} (hk:put2 s0 st dst b gs s K) :
  ∃ s0' st',K s0' st' /\ RelD X D c E s0' st' (a.put dst v) w:=by
 simp only [Bool.and_eq_true] at hd;have h1:=put_relg h.rel hd.1 gs s v hgs hv1 hv2
 cases dst with
 | none=>exact ⟨s0,st,hk,h1,h.x,h.β,h.t0,h.cc⟩
 | some d=>
  obtain ⟨sl,bx,tk⟩:=st;have hd2:=hd.2;simp only [okD,Bool.and_eq_true,Nat.blt_eq] at hd2
  have hold:∀ i x,i≠d->get s0 i=some x->(Holds (a.put (some d) v).tmps x.gs->∃ u,(a.put (some d) v).tmps[i]? = some u/\Rv (D.wc E) x.s u)/\(¬ Holds (a.put (some d) v).tmps x.gs->(a.put (some d) v).tmps[i]? = some undef):=by
   intro i x hi hx;simp only [Act.put];rw [Array.getElem?_setIfInBounds_ne (Ne.symm hi),holds_put (noMen_spec hd2.2 i x hx)];exact h.t0 i x hx
  simp only [put2] at hk;split at hk
  ·rename_i hb;refine ⟨_,_,hk,h1,h.x,h.β,fun i x hx=>?_,h.cc⟩;simp only [get_cons] at hx;split at hx
   ·rename_i hdi;subst hdi;simp only [oI] at hx;subst hx;have h2:(a.tmps.setIfInBounds d v)[d]? = some v:=by simp [Array.getElem?_setIfInBounds,h.rel.sz,hd2.1]
    simp only [Act.put];rw [holds_put (hgs d rfl),h2];refine ⟨fun hh=>⟨v,rfl,?_⟩,fun hh=>by rw [hv2 hh]⟩;rcases Bool.or_eq_true _ _ |>.mp hb with hb | hb
    ·exact hv0 hb hh
    ·exact scal_wc hb (hv1 hh)
   ·rename_i hdi;exact hold i x (Ne.symm hdi) hx
  ·rw [delF_eq] at hk;refine ⟨_,_,hk,h1,h.x,h.β,fun i x hx=>?_,h.cc⟩;obtain ⟨h3,h4⟩:=get_filter d s0 i x hx;exact hold i x h3 h4
theorem resolve_relD (h:RelD X D c E s0 st a w) {d:Nat} {b:Bool} (hd:a.tmps[d]? = some (.bool b)):RelD X D c E (s0.map (resolve1 d b)) (st.resolve d b) a w where
 rel:=resolve_rel h.rel hd
 x:=h.x
 β:=h.β
 t0:=by
  intro i y hy;simp only [get_map,Option.map_eq_some_iff] at hy;obtain ⟨x,hx,rfl⟩:=hy;have ht:=h.t0 i x hx;unfold resolve1;split
  ·rename_i hi;have hi':i=d:=by simpa using hi
   subst hi';exact ⟨fun _=>⟨_,hd,rv_v rfl⟩,fun hn=>(hn (holds_nil _)).elim⟩
  ·split
   ·rename_i hc
    have hn:¬ Holds a.tmps x.gs:=by
     intro hh;have:=hh (d,!b) (by simpa using hc);simp only at this;rw [hd] at this;cases b<;>simp at this
    exact ⟨fun _=>⟨_,ht.2 hn,rv_ud _⟩,fun hn=>(hn (holds_nil _)).elim⟩
   ·have he:Holds a.tmps (x.gs.filter fun p=>p != (d,b))↔Holds a.tmps x.gs:=by
     constructor
     ·intro hh p hp;by_cases hpd:p=(d,b)
      ·subst hpd;exact hd
      ·exact hh p (by simp [List.mem_filter,hp,hpd])
     ·intro hh p hp;exact hh p (List.mem_filter.1 hp).1
    simp only [he];exact ht
 cc:=h.cc
theorem okD2_resolve {nt d:Nat} {b:Bool} {dst:Option Nat} (h:(okD nt st.sl dst && okD nt s0 dst)=true):(okD nt (st.resolve d b).sl dst && okD nt (s0.map (resolve1 d b)) dst)=true:=by
 simp only [Bool.and_eq_true] at h ⊢;exact ⟨okD_resolve h.1,okD_resolve (st:=⟨s0,[],[]⟩) h.2⟩
theorem pR_sound (hD:EnvM D.E0 D.d.st0.bx D.wr) (h:RelD X D c E s0 st a w) {G:List (Nat × Bool)} (hG:Holds a.tmps G) {o:Oper} {b:Bool} {s:DV} (hp:pR X D.d c s0 st G o.op=some (b,s)) :
  isE o.op=false/\(isL o.op=true->c=true)/\∃ v,Rv E s v/\(b=true->Rv (D.wc E) s v)/\∀ w,(isL o.op=true->D.C w)->(execOp a.eval o).run X.P w = .ok (.value v) w:=by
 unfold pR at hp;split at hp
 ·cases hp
 ·rename_i hc;simp only [Bool.and_eq_true,Bool.not_eq_true',Bool.or_eq_true] at hc;refine ⟨hc.1,fun hL=>?_,?_⟩
  ·rcases hc.2 with h1 | h1
   ·rw [hL] at h1;cases h1
   ·exact h1
  ·split at hp
   ·rename_i s' hs;simp only [oI,Prod.mk.injEq] at hp;obtain ⟨rfl,rfl⟩:=hp;obtain ⟨v,hv,hr⟩:=pure_sound (st:=⟨s0,D.d.st0.bx,[]⟩) X.hT (h.rl0 hD) hG hs;exact ⟨v,Rv.mono (ext_un h.x) hv,fun _=>hv,hr⟩
   ·split at hp
    ·cases hp
    ·rename_i hL;split at hp
     ·rename_i s' hs;simp only [oI,Prod.mk.injEq] at hp;obtain ⟨rfl,rfl⟩:=hp;obtain ⟨v,hv,hr⟩:=pure_sound (st:=⟨st.sl,[],[]⟩) X.hT h.rlE hG hs;exact ⟨v,hv,(by intro h;cases h),fun w' _=>hr w' (by intro h1;rw [hL] at h1;cases h1)⟩
     ·cases hp
theorem eR_sound (hD:EnvM D.E0 D.d.st0.bx D.wr) (h:RelD X D c E s0 st a w) {o:Oper} {K:Bool->DV->Prop} (hp:optP (eR X D.d c s0 st o.op K)) :
  isE o.op=false/\(isL o.op=true->c=true)/\∃ b s v,K b s/\Rv E s v/\(b=true->Rv (D.wc E) s v)/\∀ w,(isL o.op=true->D.C w)->(execOp a.eval o).run X.P w = .ok (.value v) w:=by
 unfold eR at hp;split at hp
 ·exact hp.elim
 ·rename_i hE;refine ⟨hE,?_⟩;split at hp
  ·rename_i hL;split at hp
   ·refine ⟨fun _=>rfl,?_⟩
    cases hs:effR X ⟨s0,D.d.st0.bx,[]⟩ o.op (K true) with
    | none=>rw [hs] at hp;exact hp.elim
    | some p=>
     rw [hs] at hp;obtain ⟨s,hk,v,hv,hr⟩:=effR_sound (st:=⟨s0,D.d.st0.bx,[]⟩) (h.rl0 hD) hs hp;exact ⟨true,s,v,hk,Rv.mono (ext_un h.x) hv,fun _=>hv,hr⟩
   ·exact hp.elim
  ·rename_i hL;have hno:∀ w':World,isL o.op=true->False:=fun w' h1=>by rw [hL] at h1;cases h1
   refine ⟨fun h1=>(by rw [hL] at h1;cases h1),?_⟩;split at hp
   ·rename_i p hs;obtain ⟨s,hk,v,hv,hr⟩:=effR_sound (st:=⟨s0,[],[]⟩) (C:=D.C) ⟨h.t0,fun i cs hi=>by simp at hi,(h.rl0 hD).cc⟩ hs hp;exact ⟨true,s,v,hk,Rv.mono (ext_un h.x) hv,fun _=>hv,fun w' _=>hr w' fun h1=>(hno w' h1).elim⟩
   ·cases hs:effR X ⟨st.sl,[],[]⟩ o.op (K false) with
    | none=>rw [hs] at hp;exact hp.elim
    | some p=>
     rw [hs] at hp;obtain ⟨s,hk,v,hv,hr⟩:=effR_sound (st:=⟨st.sl,[],[]⟩) h.rlE hs hp;exact ⟨false,s,v,hk,hv,(by intro h;cases h),fun w' _=>hr w' fun h1=>(hno w' h1).elim⟩
theorem wq_form {P:Program} {o:Oper} {K:Act->World->Prop} (h:wq P o a w K):wq P o a w fun a' w'=>K a' w' /\ ∃ u,a'=a.put o.dst u:=by
 unfold wq at *;split at h
 ·exact ⟨h,_,rfl⟩
 ·exact ⟨h,_,rfl⟩
 ·refine h.mono ?_;rintro e w' ⟨v,rfl,hv⟩;exact ⟨v,rfl,hv,v,rfl⟩
 ·exact h.elim
theorem stp_C (h:RelD X D c E s0 st a w) {t:Option Nat} {E':En} {st':St} {a':Act} {w':World} (hs:Stp t E w E' w') (hr:Rel X E' st' a' w') (ht:∀ j,t=some j->D.E0.β.length<=j∨D.d.st0.bx[j]? = some []):D.C w->D.C w':=fun hC=>
 ⟨fun i b cs hb hcs hne=>by
  have hj':=h.x.β i b hb
  rw [hs.o i _ hj' fun e=>by
   rcases ht i e with h1 | h1
   ·have:=(gS hb).1;omega
   ·rw [hcs] at h1;simp only [oI] at h1;exact hne h1]
  exact hC.o i b cs hb hcs hne,fun x v hx=>hr.env.sub x v (hs.x.c x v (h.x.c x v hx))⟩
theorem stp_relD (h:RelD X D c E s0 st a w) {t:Option Nat} {E':En} {st':St} {w':World} {c':Bool} {s0':List (Nat × Sl)} {dst:Option Nat} {u:Value} (hs:Stp t E w E' w') (hr:Rel X E' st' (a.put dst u) w') (hcc:c'=true->D.C w')
  (ht0:∀ i x,get s0' i=some x->(∃ d,dst=some d/\i=d/\scal x.s=true/\get st'.sl d=some x)∨(get s0 i=some x/\∀ d,dst=some d->i≠d)) (hd:okD X.nt s0 dst=true):RelD X D c' E' s0' st' (a.put dst u) w' where
 rel:=hr
 x:=by
  refine ⟨fun y v hy=>hs.x.c y v (h.x.c y v hy),fun j b hb=>hs.x.β j b (h.x.β j b hb),fun k q hq=>?_⟩;obtain ⟨q1,h1,h2⟩:=h.x.tk k q hq;obtain ⟨q2,h3,h4⟩:=hs.x.tk k q1 h1;refine ⟨q2,h3,?_⟩;rcases h2 with ⟨h2,h5⟩ | h2
  ·rcases h4 with ⟨h4,h6⟩ | h4
   ·exact .inl ⟨by omega,by rw [h6,h5]⟩
   ·exact .inr (by omega)
  ·rcases h4 with ⟨h4,h6⟩ | h4
   ·exact .inr (by omega)
   ·exact .inr (by omega)
 β:=by
  obtain ⟨r1,h1⟩:=h.β;obtain ⟨r2,h2⟩:=hs.β;exact ⟨r1 ++ r2,by rw [h2,h1,List.append_assoc]⟩
 t0:=fun i x hx=>by
  rcases ht0 i x hx with ⟨d,rfl,rfl,hsc,hg⟩ | ⟨hg,hne⟩
  ·have:=hr.tm _ _ hg;refine ⟨fun hh=>?_,this.2⟩;obtain ⟨v,h1,h2⟩:=this.1 hh;exact ⟨v,h1,scal_wc hsc h2⟩
  ·have h1:=h.t0 i x hg
   cases dst with
   | none=>
    refine ⟨fun hh=>?_,h1.2⟩;obtain ⟨v,h2,h3⟩:=h1.1 hh;exact ⟨v,h2,Rv.mono (ext_wc2 hs.x) h3⟩
   | some d=>
    simp only [okD,Bool.and_eq_true,Nat.blt_eq] at hd;simp only [Act.put];rw [Array.getElem?_setIfInBounds_ne (Ne.symm (hne d rfl)),holds_put (noMen_spec hd.2 i x hg)];refine ⟨fun hh=>?_,h1.2⟩;obtain ⟨v,h2,h3⟩:=h1.1 hh;exact ⟨v,h2,Rv.mono (ext_wc2 hs.x) h3⟩
 cc:=hcc
def SndD (X:Ctx) (D:Dw) (l:List Nat) (G:Bool->List (Nat × Sl)->St->Prop):Prop:=∀ c s0 st,G c s0 st->∀ E a w,RelD X D c E s0 st a w->runT X.P D.d.ops D.d.W D.C (D.Q X) l a w
theorem effE_sound (hD:EnvM D.E0 D.d.st0.bx D.wr) {l:List (Nat × Oper)} (hl:∀ p∈l,D.d.ops[p.1]? = some p.2) {G:Bool->List (Nat × Sl)->St->Prop} (hG:SndD X D (l.map (·.1)) G) {o:Oper} (hd:(okD X.nt st.sl o.dst && okD X.nt s0 o.dst)=true) (h:RelD X D c E s0 st a w)
  (he:effE X D.d c i l o s0 st G):wq X.P o a w fun a' w'=>(D.d.W i=false->D.C w->D.C w')/\runT X.P D.d.ops D.d.W D.C (D.Q X) (l.map (·.1)) a' w':=by
 have hd':=hd;simp only [Bool.and_eq_true] at hd';have hlen:D.E0.β.length=D.d.st0.bx.length:=hD.len
 have core:∀ (K:St->Prop) (p:Prop) (c1:Bool),effC X st o K=some p->p->(c1=true->c=true)->(c1=true∨D.d.W i=false->∀ j,stObj st o.op=some j->D.E0.β.length<=j∨D.d.st0.bx[j]? = some []) ->
   (∀ st',K st' -> ∃ s0',G c1 s0' st' /\ ∀ i x,get s0' i=some x->(∃ d,o.dst=some d/\i=d/\scal x.s=true/\get st'.sl d=some x)∨(get s0 i=some x/\∀ d,o.dst=some d->i≠d)) ->
   wq X.P o a w fun a' w'=>(D.d.W i=false->D.C w->D.C w')/\runT X.P D.d.ops D.d.W D.C (D.Q X) (l.map (·.1)) a' w':=by
  intro K p c1 hp hpp hc1 hst hK;refine wq_mono ?_ (wq_form (effC_sound hd'.1 h.rel hp hpp));rintro a' w' ⟨⟨st',E',hk,hr,hs⟩,u,rfl⟩;refine ⟨fun hW=>stp_C h hs hr (hst (.inr hW)),?_⟩;obtain ⟨s0',hg,ht0⟩:=hK st' hk;exact hG c1 s0' st' hg E' _ w' (stp_relD h hs hr (fun hc=>stp_C h hs hr (hst (.inl hc)) (h.cc (hc1 hc))) ht0 hd'.2)
 have hnoSt:(∀ t x y,o.op ≠ .store t x y)->∀ j,stObj st o.op=some j->D.E0.β.length<=j∨D.d.st0.bx[j]? = some []:=by
  intro hne j hj;unfold stObj at hj;split at hj
  ·rename_i t x y hop;exact (hne t x y hop).elim
  ·cases hj
 have delT:∀ (d:Nat) (st':St),o.dst=some d->∀ i x,get (s0.filter fun p=>!Nat.beq p.1 d) i=some x->(∃ d,o.dst=some d/\i=d/\scal x.s=true/\get st'.sl d=some x)∨(get s0 i=some x/\∀ d,o.dst=some d->i≠d):=by
  intro d st' hdst i x hx;obtain ⟨h1,h2⟩:=get_filter d s0 i x hx;exact .inr ⟨h2,fun d' hd'=>by rw [hdst] at hd';cases hd';exact h1⟩
 unfold effE at he;split at he
 ·rename_i t x y hop;split at he
  ·exact he.elim
  ·rename_i hdst;have hs0:∀ st':St,∀ i x,get s0 i=some x->(∃ d,o.dst=some d/\i=d/\scal x.s=true/\get st'.sl d=some x)∨(get s0 i=some x/\∀ d,o.dst=some d->i≠d):=fun st' i x hx=>.inr ⟨hx,fun d hd=>by rw [hdst] at hd;cases hd⟩;split at he
   ·rename_i hW
    cases hp:effC X st o (G false s0) with
    | none=>rw [hp] at he;exact he.elim
    | some p=>
     rw [hp] at he;exact core _ p false hp he (by intro h;cases h) (by rintro (h1 | h1);cases h1;rw [hW] at h1;cases h1) fun st' hk=>⟨s0,hk,hs0 st'⟩
   ·split at he
    ·rename_i j hj;split at he
     ·rename_i hle
      have hle:D.d.st0.bx.length<=j∨D.d.st0.bx[j]? = some []:=by
       rcases Bool.or_eq_true _ _ |>.mp hle with h1 | h1
       ·exact .inl (by simpa using h1)
       ·exact .inr (nilB_eq h1)
      cases hp:effC X st o (G c s0) with
      | none=>rw [hp] at he;exact he.elim
      | some p=>
       rw [hp] at he;exact core _ p c hp he id (fun _ j' hj'=>by rw [hj] at hj';cases hj';rw [hlen];exact hle) fun st' hk=>⟨s0,hk,hs0 st'⟩
     ·exact he.elim
    ·exact he.elim
 ·rename_i cl hop;split at he
  ·rename_i f hcal;split at he
   ·rename_i g first captured vs hf hl'
    obtain ⟨hen,hcall⟩:=he;have hrl:=h.rel.rl;have e1:=sl_val hrl hf;unfold Rv at e1;obtain ⟨l1,r1,e1,hl1,hr1⟩:=e1;have hargs:=args_sound hrl (holds_nil _) _ _ hl';obtain ⟨dst,op,ty,pos,after,gu⟩:=o;obtain ⟨callee,args,argTypes⟩:=cl;simp only at hop hcal;subst hop hcal
    have hr:(execOp a.eval ⟨dst,.call ⟨.value f,args,argTypes⟩,ty,pos,after,gu⟩).run X.P w = .ok (.enter g (l1 ++ args.toList.map a.eval ++ r1).toArray) w:=by
     have e3:(l1.toArray ++ args.map a.eval ++ r1.toArray)=(l1 ++ args.toList.map a.eval ++ r1).toArray:=by apply Array.ext';simp
     simp only [execOp,resolve,e1,Deferred.ofValue,Sem.run_bind,Sem.run_pure,Result.andThen_ok,invoke,e3];exact hen _ _
    unfold wq;rw [hr];exact hcall hl D.E0 D.wr hD E a w _ h ((hl1.append hargs).append hr1)
   ·exact he.elim
  ·split at he
   ·rename_i d hdst
    cases hp:effC X st o (fun st'=>delF d s0 fun s0'=>G c s0' st') with
    | none=>rw [hp] at he;exact he.elim
    | some p=>
     rw [hp] at he;refine core _ p c hp he id (fun _=>hnoSt (fun t x y h1=>by rw [hop] at h1;cases h1)) fun st' hk=>?_;rw [delF_eq] at hk;exact ⟨_,hk,delT d st' hdst⟩
   ·exact he.elim
 ·rename_i hns hnc;split at he
  ·rename_i d hdst
   cases hp:effC X st o (fun st'=>
    match get st'.sl d with
    | some ⟨[],.loc j off⟩=>G c ((d,⟨[],.loc j off⟩) :: s0) st'
    | _=>delF d s0 fun s0'=>G c s0' st') with
   | none=>rw [hp] at he;exact he hl D.E0 D.wr hD E a w h
   | some p=>
    rw [hp] at he;refine core _ p c hp he id (fun _=>hnoSt hns) fun st' hk=>?_;split at hk
    ·rename_i j off hg;refine ⟨_,hk,fun i x hx=>?_⟩;simp only [get_cons] at hx;split at hx
     ·rename_i hdi;simp only [oI] at hx;subst hx;exact .inl ⟨d,hdst,hdi.symm,rfl,hg⟩
     ·rename_i hdi;exact .inr ⟨hx,fun d' hd'=>by rw [hdst] at hd';cases hd';exact Ne.symm hdi⟩
    ·rw [delF_eq] at hk;exact ⟨_,hk,delT d st' hdst⟩
  ·exact he.elim
theorem goD_sound (hD:EnvM D.E0 D.d.st0.bx D.wr):∀ n c l s0 st,goD X D.d n c l s0 st->(∀ p∈l,D.d.ops[p.1]? = some p.2)->∀ E a w,RelD X D c E s0 st a w->runT X.P D.d.ops D.d.W D.C (D.Q X) (l.map (·.1)) a w
 | n,c,[],s0,st,hg,hl=>by
  intro E a w h;have hg:(match D.d.fin with | none=>go X 4000 D.d.k st | some F=>F c s0 st):=by cases n<;>simpa only [goD] using hg
  show D.Q X a w;unfold Dw.Q
  cases hf:D.d.fin with
  | none=>
   rw [hf] at hg;exact go_sound 4000 _ _ hg E a w h.rel
  | some F=>
   rw [hf] at hg;exact ⟨c,E,s0,st,h,hg⟩
 | 0,c,_ :: _,s0,st,hg,_=>by exact hg.elim
 | n + 1,c,(i,o) :: r,s0,st,hg,hl=>by
  intro E a w h;have ho:D.d.ops[i]? = some o:=hl (i,o) (by simp);have hl':∀ p∈r,D.d.ops[p.1]? = some p.2:=fun p hp=>hl p (List.mem_cons_of_mem _ hp);simp only [List.map_cons];have ih:∀ c s0 st,goD X D.d n c r s0 st->∀ E a w,RelD X D c E s0 st a w->runT X.P D.d.ops D.d.W D.C (D.Q X) (r.map (·.1)) a w:=fun c s0 st hg=>goD_sound hD n c r s0 st hg hl';have ihG:SndD X D (r.map (·.1)) (fun c s0 st=>goD X D.d n c r s0 st):=fun c s0 st hg=>ih c s0 st hg;simp only [goD,resK_eq,resL_eq] at hg;split at hg
  ·exact hg.elim
  ·rename_i hd
   have fR:∀ (v:Value) s0' st',isE o.op=false->Yl X.P D.d.ops D.C o v a->(isL o.op=true->c=true)->goD X D.d n c r s0' st' -> RelD X D c E s0' st' (a.put o.dst v) w ->
     runT X.P D.d.ops D.d.W D.C (D.Q X) (i :: r.map (·.1)) a w:=by
    intro v s0' st' hE hy hcl hgo hrel;simp only [runT,ho];rw [if_neg (by simp [hE])];exact ⟨v,hy,fun hL=>h.cc (hcl hL),ih c s0' st' hgo E _ w hrel⟩
   have fS:∀ s0' st',isE o.op=true->Region.wanted o (yielded D.d.ops a.tmps)=false->goD X D.d n c r s0' st' -> RelD X D c E s0' st' (a.put o.dst undef) w ->
     runT X.P D.d.ops D.d.W D.C (D.Q X) (i :: r.map (·.1)) a w:=by
    intro s0' st' hE hw hgo hrel;simp only [runT,ho];rw [if_pos hE];unfold stepX;rw [if_neg (by simp [hw])];exact ⟨fun _ h=>h,ih c s0' st' hgo E _ w hrel⟩
   have fE:∀ s0' st',isE o.op=true->Region.wanted o (yielded D.d.ops a.tmps)=true->(okD X.nt st'.sl o.dst && okD X.nt s0' o.dst)=true->effE X D.d c i r o s0' st' (fun c' s0' st'=>goD X D.d n c' r s0' st')->RelD X D c E s0' st' a w ->
     runT X.P D.d.ops D.d.W D.C (D.Q X) (i :: r.map (·.1)) a w:=by
    intro s0' st' hE hw hd' he hrel;simp only [runT,ho];rw [if_pos hE];unfold stepX;rw [if_pos hw];exact effE_sound hD hl' ihG hd' hrel he
   have fP:∀ s0' st',Region.wanted o (yielded D.d.ops a.tmps)=true->(okD X.nt st'.sl o.dst && okD X.nt s0' o.dst)=true->optP (eR X D.d c s0' st' o.op fun b s=>put2 s0' st' o.dst b [] s (goD X D.d n c r))->RelD X D c E s0' st' a w ->
     runT X.P D.d.ops D.d.W D.C (D.Q X) (i :: r.map (·.1)) a w:=by
    intro s0' st' hw hd' he hrel;obtain ⟨hE,hcl,b,s,v,hk,hv,hv0,hrun⟩:=eR_sound hD hrel he;obtain ⟨s1,st1,hk1,hrel1⟩:=put2_rel hrel hd' b [] s v (fun _ _ p hp=>by cases hp) (fun _=>hv) (fun hb _=>hv0 hb) (fun hn=>(hn (holds_nil _)).elim) hk;exact fR v s1 st1 hE (.inl ⟨hw,hrun⟩) hcl hk1 hrel1
   have udE:∀ s0' st',(okD X.nt st'.sl o.dst && okD X.nt s0' o.dst)=true->RelD X D c E s0' st' a w->put2 s0' st' o.dst true [] .ud (goD X D.d n c r)->∃ s1 st1,goD X D.d n c r s1 st1/\RelD X D c E s1 st1 (a.put o.dst undef) w:=by
    intro s0' st' hd' hrel hk;exact put2_rel hrel hd' true [] .ud undef (fun _ _ p hp=>by cases hp) (fun _=>rv_ud E) (fun _ _=>rv_ud _) (fun hn=>(hn (holds_nil _)).elim) hk
   split at hg
   ·rename_i hgu;have hw:Region.wanted o (yielded D.d.ops a.tmps)=true:=by simp [Region.wanted,hgu]
    split at hg
    ·rename_i hE;exact fE s0 st hE hw hd hg h
    ·split at hg
     ·rename_i b s hs;obtain ⟨hE,hcl,v,hv,hv0,hrun⟩:=pR_sound hD h (holds_nil _) hs;obtain ⟨s1,st1,hk1,hrel1⟩:=put2_rel h hd b [] s v (fun _ _ p hp=>by cases hp) (fun _=>hv) (fun hb _=>hv0 hb) (fun hn=>(hn (holds_nil _)).elim) hg;exact fR v s1 st1 hE (.inl ⟨hw,hrun⟩) hcl hk1 hrel1
     ·exact fP s0 st hw hd hg h
   ·rename_i j want hgu;split at hg
    ·exact hg.elim
    ·rename_i d hgs;split at hg
     ·exact hg.elim
     ·rename_i gsd sd hgd;have hwant:=wanted_spec h.rel hgu hgs hgd
      have hwantF:¬ Holds a.tmps ((d,want) :: gsd)->Region.wanted o (yielded D.d.ops a.tmps)=false:=by
       intro hn;cases hww:Region.wanted o (yielded D.d.ops a.tmps)
       ·rfl
       ·exact (hn (hwant.1 hww)).elim
      split at hg
      ·rename_i b s hs;split at hg
       case h_2=>exact hg.elim
       rename_i hok;have hgd':=okG_spec hok;by_cases hh:Holds a.tmps ((d,want) :: gsd)
       ·obtain ⟨hE,hcl,v,hv,hv0,hrun⟩:=pR_sound hD h hh hs;obtain ⟨s1,st1,hk1,hrel1⟩:=put2_rel h hd b _ s v hgd' (fun _=>hv) (fun hb _=>hv0 hb) (fun hn=>(hn hh).elim) hg;exact fR v s1 st1 hE (.inl ⟨hwant.2 hh,hrun⟩) hcl hk1 hrel1
       ·obtain ⟨s1,st1,hk1,hrel1⟩:=put2_rel h hd b _ s undef hgd' (fun hn=>(hh hn).elim) (fun _ hn=>(hh hn).elim) (fun _=>rfl) hg
        have hcl:isE o.op=false/\(isL o.op=true->c=true):=by
         unfold pR at hs;split at hs
         ·cases hs
         ·rename_i hc;simp only [Bool.and_eq_true,Bool.not_eq_true',Bool.or_eq_true] at hc;refine ⟨hc.1,fun hL=>?_⟩;rcases hc.2 with h1 | h1
          ·rw [hL] at h1;cases h1
          ·exact h1
        exact fR undef s1 st1 hcl.1 (.inr ⟨hwantF hh,rfl⟩) hcl.2 hk1 hrel1
      ·split at hg
       ·rename_i b hb0;have ht0:=tmp_bool h.rel hb0
        cases gsd with
        | nil=>
         simp only [lastG] at hb0 ht0;cases hbw:(b == want)
         ·have hbne:b = !want:=by cases b<;>cases want<;>simp_all
          have hg:=hg.f hbw
          have hn:Region.wanted o (yielded D.d.ops a.tmps)=false:=by
           refine hwantF fun hh=>?_;have:=hh (d,want) (by simp);simp only at this;rw [ht0] at this;simp only [oI,Value.bool.injEq] at this;rw [this] at hbw;simp at hbw
          have hr:=resolve_relD (d:=d) (b:=!want) h (by rw [ht0,hbne]);split at hg
          ·rename_i hcl
           have hcl':isL o.op=true->c=true:=by
            intro hL;simpa [hL] using hcl
           obtain ⟨s1,st1,hk1,hrel1⟩:=udE _ _ (okD2_resolve hd) hr hg;cases hE:isE o.op
           ·exact fR undef s1 st1 hE (.inr ⟨hn,rfl⟩) hcl' hk1 hrel1
           ·exact fS s1 st1 hE hn hk1 hrel1
          ·exact hg.elim
         ·have hbe:b=want:=by simpa using hbw
          have hg:=hg.t hbw;subst hbe;have hw:Region.wanted o (yielded D.d.ops a.tmps)=true:=hwant.2 (holds_cons ht0 (holds_nil _));have hr:=resolve_relD (d:=d) (b:=b) h ht0;split at hg
          ·rename_i hE;exact fE _ _ hE hw (okD2_resolve hd) hg hr
          ·exact fP _ _ hw (okD2_resolve hd) hg hr
        | cons g1 gr=>
         have key:∀ e,a.tmps[(lastG (d,want) (g1 :: gr)).1]? = some (.bool e)->goD X D.d n c ((i,o) :: r) (s0.map (resolve1 (lastG (d,want) (g1 :: gr)).1 e)) (st.resolve (lastG (d,want) (g1 :: gr)).1 e)->_:=
          fun e hc' hgo=>goD_sound hD n c ((i,o) :: r) _ _ hgo hl E a w (resolve_relD h hc')
         cases hbw:(b == (lastG (d,want) (g1 :: gr)).2)
         ·have hg:=hg.f hbw;have hbne:b = !(lastG (d,want) (g1 :: gr)).2:=by cases b<;>cases h0:(lastG (d,want) (g1 :: gr)).2<;>simp_all
          exact key _ (by rw [ht0,hbne]) hg
         ·have hg:=hg.t hbw;have hbe:b=(lastG (d,want) (g1 :: gr)).2:=by simpa using hbw
          exact key _ (by rw [ht0,hbe]) hg
       ·rename_i hb0
        cases gsd with
        | nil=>
         have ht0:=tmp_ud h.rel hb0;simp only [lastG] at ht0
         have hn:Region.wanted o (yielded D.d.ops a.tmps)=false:=by
          refine hwantF fun hh=>?_;have:=hh (d,want) (by simp);simp only at this;rw [ht0] at this;simp [undef] at this
         simp only at hg;split at hg
         ·rename_i hcl
          have hcl':isL o.op=true->c=true:=by
           intro hL;simpa [hL] using hcl
          obtain ⟨s1,st1,hk1,hrel1⟩:=udE _ _ hd h hg;cases hE:isE o.op
          ·exact fR undef s1 st1 hE (.inr ⟨hn,rfl⟩) hcl' hk1 hrel1
          ·exact fS s1 st1 hE hn hk1 hrel1
         ·exact hg.elim
        | cons g1 gr=>exact hg.elim
       ·exact hg.elim
def OpS (X:Ctx) (o:Oper) (st st':St):Prop:=∀ E a w,Rel X E st a w->wq X.P o a w fun a' w'=>∃ E',Rel X E' st' a' w' /\ Stp none E w E' w'
theorem OpS.g {o:Oper} {k:List It} {st st':St} (h:OpS X o st st') (hk:go X 4000 k st'):OpG X o k st:=fun E a w hr=>by
 refine wq_wp (wq_mono ?_ (h E a w hr));rintro a' w' ⟨E',hr',_⟩;exact go_sound 4000 _ _ hk E' a' w' hr'
def nOps:Nat->List Oper->List (Nat × Oper)
 | _,[]=>[]
 | i,o :: r=>(i,o) :: nOps (i + 1) r
theorem nOps_mem:∀ (l:List Oper) (i:Nat) (p:Nat × Oper),p∈nOps i l->i<=p.1/\l[p.1 - i]? = some p.2
 | [],_,_,h=>by cases h
 | o :: r,i,p,h=>by
  rcases List.mem_cons.1 h with h | h
  ·subst h;simp
  ·have:=nOps_mem r (i + 1) p h;refine ⟨by omega,?_⟩;rw [show p.1 - i=(p.1 - (i + 1)) + 1 by omega];simpa using this.2
theorem nOps_map:∀ (l:List Oper) (i:Nat),(nOps i l).map (·.1)=List.range' i l.length
 | [],_=>rfl
 | o :: r,i=>by simp only [nOps,List.map_cons,nOps_map r (i + 1),List.length_cons,List.range'_succ]
theorem relD_start (hr:Rel X E st a w) {ops:Array Oper} {W:Nat->Bool} {k:List It}:RelD X ⟨⟨ops,W,k,st,none⟩,E,w⟩ true E st.sl st a w where
 rel:=hr
 x:=Ext.refl E
 β:=⟨[],by simp⟩
 t0:=hr.tm
 cc:=fun _=>⟨fun _ _ _ _ _ _=>rfl,hr.env.sub⟩
theorem drawG_i {id:Nat} {ops:Array Oper} {k:List It} {st:St} (W:Nat->Bool) (hm:X.P.follows .mixedOrders=true) (hc:chkB ops W=true)
  (h:goD X ⟨ops,W,k,st,none⟩ 3000 true (nOps 0 ops.toList) st.sl st):DrawG X id ops k st:=by
 intro E a w hr;have hr':=drew_rel hr;have hs:=relD_start hr' (ops:=ops) (W:=W) (k:=k);refine wp_region_run (C:=CC E st.bx w.drew) (W:=W) (Q:=kq X k .normal) hm hc (fun a w h=>h) (hs.cc rfl) ?_;have:=goD_sound (D:=⟨⟨ops,W,k,st,none⟩,E,w.drew⟩) hr'.env.em 3000 true _ _ _ h (fun p hp=>by simpa using (nOps_mem _ _ p hp).2) E a w.drew hs;rw [nOps_map] at this;rw [List.range_eq_range'];simp only [Array.length_toList] at this;exact this
def maskL:List Nat->Nat->List (List DV)->List (List DV)
 | _,_,[]=>[]
 | m,i,cs :: r=>(match m.contains i with | true=>[] | false=>cs) :: maskL m (i + 1) r
theorem maskL_len (m:List Nat):∀ (l:List (List DV)) (i:Nat),(maskL m i l).length=l.length
 | [],_=>rfl
 | cs :: r,i=>by simp [maskL,maskL_len m r]
theorem maskL_get (m:List Nat):∀ (l:List (List DV)) (i j:Nat) cs,(maskL m i l)[j]? = some cs->cs=[]∨l[j]? = some cs
 | [],_,_,_,h=>by simp [maskL] at h
 | c :: r,i,0,cs,h=>by
  simp only [maskL,List.getElem?_cons_zero,oI] at h;split at h
  ·exact .inl h.symm
  ·exact .inr (by simp [h])
 | c :: r,i,j + 1,cs,h=>by
  simp only [maskL,List.getElem?_cons_succ] at h ⊢;exact maskL_get m r (i + 1) j cs h
theorem drawG_m {id:Nat} {ops:Array Oper} {k:List It} {st:St} (m:List Nat) (W:Nat->Bool) (hm:X.P.follows .mixedOrders=true) (hc:chkB ops W=true)
  (h:goD X ⟨ops,W,k,⟨st.sl,maskL m 0 st.bx,st.tk⟩,none⟩ 3000 true (nOps 0 ops.toList) st.sl st):DrawG X id ops k st:=by
 intro E a w hr;have hr':=drew_rel hr;have hs:RelD X ⟨⟨ops,W,k,⟨st.sl,maskL m 0 st.bx,st.tk⟩,none⟩,E,w.drew⟩ true E st.sl st a w.drew:=⟨hr',Ext.refl E,⟨[],by simp⟩,hr'.tm,fun _=>⟨fun _ _ _ _ _ _=>rfl,hr'.env.sub⟩⟩;refine wp_region_run (C:=CC E (maskL m 0 st.bx) w.drew) (W:=W) (Q:=kq X k .normal) hm hc (fun a w h=>h) (hs.cc rfl) ?_
 have hem:EnvM E (maskL m 0 st.bx) w.drew:=⟨by rw [maskL_len];exact hr'.env.len,fun i cs hi hne=>by
  rcases maskL_get m _ _ _ _ hi with h1 | h1
  ·exact (hne h1).elim
  ·exact hr'.env.bxs i cs h1⟩
 have:=goD_sound (D:=⟨⟨ops,W,k,⟨st.sl,maskL m 0 st.bx,st.tk⟩,none⟩,E,w.drew⟩) hem 3000 true _ _ _ h (fun p hp=>by simpa using (nOps_mem _ _ p hp).2) E a w.drew hs;rw [nOps_map] at this;rw [List.range_eq_range'];simp only [Array.length_toList] at this;exact this
def stW (ops:Array Oper) (i:Nat):Bool:=
 match ops.toList[i]? with
 | some o=>
  match o.op with
  | .store ..=>true
  | _=>false
 | none=>false
theorem drawG_s {id:Nat} {ops:Array Oper} {k:List It} {st:St} (hm:X.P.follows .mixedOrders=true) (hc:chkB ops (stW ops)=true)
  (h:goD X ⟨ops,stW ops,k,st,none⟩ 3000 true (nOps 0 ops.toList) st.sl st):DrawG X id ops k st:=drawG_i (stW ops) hm hc h
theorem callD_e {D:Dr} {f:FuncId} {args args':List DV} {d:Nat} {r:List (Nat × Oper)} (hen:Enters X.P f) (hd:(okD X.nt st.sl (some d) && okD X.nt s0 (some d))=true) {Φ:DV->List (List DV)->List TkE->Prop} (hc:Ev X.P f args' [] [] Φ) (ha:CcL [] 0 0 0 args' args)
  (hk:∀ res,Φ res [] []->put2 s0 st (some d) false [] res (goD X D 3000 c r)) (hst:X.still=false:=by exact rfl):CallD X D c i r f args (some d) s0 st:=by
 refine ⟨hen,fun hl E0 wr hD E a w vs h hv=>(calls_quiet h.rel hst hc ha hv).mono ?_⟩;rintro e w' ⟨v,E',res,rfl,hrel,hr,hΦ,hm,hx,hβ⟩
 have hh:∀ b,b < w.heap.size->w'.heap[b]? = w.heap[b]?:=fun b hb=>hm.block b hb (by
  rintro (h1 | ⟨y,h1,_⟩)
  ·simp [En.cl] at h1
  ·simp [En.cl] at h1)
 have hs:Stp none E w E' w':=⟨hx,⟨[],by rw [hβ];simp⟩,fun j b hb _=>hh b (h.rel.env.block_lt (mG hb))⟩;have hC:=stp_C h hs hrel (fun j hj=>by cases hj);refine ⟨v,rfl,fun _=>hC,?_⟩;have hrelD:RelD X ⟨D,E0,wr⟩ c E' s0 st (a.put none v) w':=stp_relD h hs hrel (fun h1=>hC (h.cc h1)) (fun i x hx=>.inr ⟨hx,fun d hd=>by cases hd⟩) rfl;obtain ⟨s1,st1,hk1,hrel1⟩:=put2_rel hrelD hd false [] res v (fun _ _ p hp=>by cases hp) (fun _=>hr) (fun hb=>by cases hb) (fun hn=>(hn (holds_nil _)).elim) (hk res hΦ);exact goD_sound (D:=⟨D,E0,wr⟩) hD 3000 c r _ _ hk1 hl E' _ w' hrel1
theorem callD_p {D:Dr} {f:FuncId} {args args':List DV} {d:Nat} {r:List (Nat × Oper)} {res:DV} (hen:Enters X.P f) (hc:EvP X.P f args' res) (ha:CcL [] 0 0 0 args' args) (hd:(okD X.nt st.sl (some d) && okD X.nt s0 (some d))=true)
  (hk:put2 s0 st (some d) false [] res (goD X D 3000 c r)) (hst:X.still=false:=by exact rfl):CallD X D c i r f args (some d) s0 st:=
 callD_e hen hd hc ha (fun _ hr=>hr ▸ hk) hst
end
end Dv
end Go.Proofs.YtadhpeooehkklaaGreat
namespace Go.Proofs.YtadhpeooehkklaaGreat
namespace Dv
open Go Go.RowKit
section
variable {P:Program} {ops:Array Oper} {C:World->Prop} {Q:Act->World->Prop} {W:Nat->Bool} {π π':Nat->Nat}
theorem step_wpOp {o:Oper} {i:Nat} {a:Act} {w:World} {K:Act->World->Prop} {Q':Exit->Act->World->Prop} (ho:ops[i]? = some o) (h:stepX P ops o a w K):wpOp P ops Q' i K a w:=by
 unfold wpOp;rw [ho];simp only;unfold stepX at h;split
 ·rename_i hw;rw [if_pos hw] at h;exact .inl (wq_wp h)
 ·rename_i hw;rw [if_neg hw] at h;exact h
def chkT (ops:Array Oper) (x y:Nat):Bool:=
 (List.range ops.size).all fun i=>Nat.beq i x || Nat.beq i y ||
  match ops[i]? with
  | some o=>!isE o.op || ordB ops ops.size x i
  | none=>false
def exXY (x y:Nat):Nat->Nat->Bool:=fun j i=>Nat.beq j x && Nat.beq i y
theorem any_of_two {x y:Nat} {Q':Exit->Act->World->Prop} (hxy:x≠y) (h1O:chkO ops W π=true) (h1S:chkS ops W π (exXY x y)=true) (h2O:chkO ops W π'=true) (h2S:chkS ops W π' (exXY y x)=true) (hT:chkT ops x y=true)
  (hQ:∀ a w,Q a w->Q' .normal a w):∀ (fuel:Nat) (listed:Array Bool) (r1 r2:List Nat) (a:Act) (w:World),
  listed.size=ops.size->Dn ops listed->(∀ i,i∈r1↔i < ops.size/\listed.getD i true=false)->(∀ i,i∈r2↔i < ops.size/\listed.getD i true=false)->r1.Pairwise (fun a b=>π a < π b)->r2.Pairwise (fun a b=>π' a < π' b)->r1.length<=fuel ->
   x∈r1->y∈r1->C w->runT P ops W C Q r1 a w->runT P ops W C Q r2 a w->wpAny P .any ops Q' fuel listed a w:=by
 have hsel:=chkO_sel h1O;have hWL:=chkO_wl h1O;have hWL':=chkO_wl h2O;have h1S':=h1S;have h2S':=h2S;simp only [chkS,List.all_eq_true,List.mem_range,Bool.or_eq_true,Bool.not_eq_true'] at h1S h2S;intro fuel
 induction fuel with
 | zero=>
  intro listed r1 r2 a w hsz hdn hm1 hm2 hp1 hp2 hlen hx hy hC hr1 hr2;have:r1=[]:=List.length_eq_zero_iff.1 (by omega);rw [this] at hx;cases hx
 | succ fuel ih=>
  intro listed r1 r2 a w hsz hdn hm1 hm2 hp1 hp2 hlen hx hy hC hr1 hr2;have h12:∀ i,i∈r1↔i∈r2:=fun i=>(hm1 i).trans (hm2 i).symm;have hnd1:r1.Nodup:=nodup_lt hp1;have hnd2:r2.Nodup:=nodup_lt hp2;have hback:=chkO_back h1O;refine ⟨fun h0=>?_,fun i hi=>?_⟩
  ·cases r1 with
   | nil=>cases hx
   | cons h rem=>
    have hh:=(hm1 h).1 (by simp);have hxx:ops[h]? = some ops[h]:=Array.getElem?_eq_getElem hh.1
    have:h∈Region.ready .any ops listed:=by
     refine mem_ready.2 ⟨hh.2,_,hxx,fun e he hb=>?_⟩;obtain ⟨hlt,hlt2⟩:=hback h _ hxx e he hb;cases hg:listed.getD e.on false
     ·have hg2:listed.getD e.on true=false:=by
       have:e.on < listed.size:=by rw [hsz];omega
       simp [this] at hg ⊢;exact hg
      have hm:=(hm1 e.on).2 ⟨by omega,hg2⟩;rcases List.mem_cons.1 hm with e1 | e1
      ·rw [e1] at hlt;omega
      ·have:=(List.pairwise_cons.1 hp1).1 _ e1;omega
     ·rfl
    rw [h0] at this;cases this
  ·obtain ⟨hun,o,ho,hall⟩:=mem_ready.1 hi;have hi':=(Array.getElem?_eq_some_iff.1 ho).1;have him:i∈r1:=(hm1 i).2 ⟨hi',hun⟩;have him2:i∈r2:=(h12 i).1 him
   have hnl:∀ j,j∈r1->ordB ops ops.size j i=true->False:=by
    intro j hj h1;have h2:=ordB_listed hdn _ _ _ _ ho hall h1;have h3:=((hm1 j).1 hj).2;have:j < listed.size:=by rw [hsz];exact ((hm1 j).1 hj).1
    simp [this] at h2 h3;rw [h2] at h3;cases h3
   have hsw1:i≠y->∀ j∈r1,j≠i->π j < π i->swapB ops W j i=true:=by
    intro hiy j hj _ hlt;rcases h1S i hi' j ((hm1 j).1 hj).1 with ((h1 | h1) | h1) | h1
    ·have:¬ Nat.blt (π j) (π i)=true:=by simp [h1]
     simp at this;omega
    ·simp [exXY] at h1;exact (hiy h1.2).elim
    ·exact (hnl j hj h1).elim
    ·exact h1
   have hsw2:i≠x->∀ j∈r2,j≠i->π' j < π' i->swapB ops W j i=true:=by
    intro hix j hj _ hlt;rcases h2S i hi' j ((hm2 j).1 hj).1 with ((h1 | h1) | h1) | h1
    ·have:¬ Nat.blt (π' j) (π' i)=true:=by simp [h1]
     simp at this;omega
    ·simp [exXY] at h1;exact (hix h1.2).elim
    ·exact (hnl j ((h12 j).2 hj) h1).elim
    ·exact h1
   have hDn':Dn ops (listed.setIfInBounds i true):=by
    intro k z hz hk e he hb;by_cases hki:k=i
    ·subst hki;rw [ho] at hz;simp only [oI] at hz;subst hz;exact getD_set_true (hall e he hb)
    ·rw [getD_set_ne true (Ne.symm hki)] at hk;exact getD_set_true (hdn k z hz hk e he hb)
   have hmem':∀ (rem:List Nat),rem.Nodup->(∀ i,i∈rem↔i < ops.size/\listed.getD i true=false)->∀ k,k∈rem.erase i↔k < ops.size/\(listed.setIfInBounds i true).getD k true=false:=by
    intro rem hnd hrem k;rw [List.Nodup.mem_erase_iff hnd];by_cases hki:k=i
    ·subst hki;simp [hsz,hi']
    ·rw [getD_set_ne true (Ne.symm hki)];simp only [ne_eq,hki,not_false_eq_true,true_and];exact hrem k
   refine step_wpOp ho ?_;by_cases hix:i=x
   ·subst hix;have hst:=run_step hsel hWL ho r1 a w (fun _=>hC) hr1 him (hsw1 hxy) hp1;refine stepX_mono ?_ hst;rintro a' w' ⟨hcw,hr'⟩;refine any_of_run (C:=C) (exXY i y) h1O h1S' hQ fuel _ (r1.erase i) a' w' (by simp [hsz]) hDn' (hmem' r1 hnd1 hm1) (hp1.sublist List.erase_sublist) (by rw [List.length_erase_of_mem him];omega) ?_ ?_ hr'
    ·intro j hj k _;cases hj':exXY i y j k
     ·rfl
     ·simp only [exXY,Bool.and_eq_true,Nat.beq_eq] at hj';exact (((List.Nodup.mem_erase_iff hnd1).1 hj).1 hj'.1).elim
    ·rintro ⟨l,z,hl,hz,hL⟩;refine hcw ?_ hC;have hl':=List.mem_of_mem_erase hl;have hne:l≠i:=((List.Nodup.mem_erase_iff hnd1).1 hl).1;rcases pw_rel hp1 him hl' hne.symm with h1 | h1
     ·exact hWL i l z o h1 hz ho hL
     ·have:=hsw1 hxy l hl' hne h1;obtain ⟨_,_,_,h4⟩:=swapB_spec this hz ho;cases hw:W i
      ·rfl
      ·exact (h4 ⟨hL,hw⟩).elim
   ·by_cases hiy:i=y
    ·subst hiy;have hst:=run_step hsel hWL' ho r2 a w (fun _=>hC) hr2 him2 (hsw2 (Ne.symm hxy)) hp2;refine stepX_mono ?_ hst;rintro a' w' ⟨hcw,hr'⟩;refine any_of_run (C:=C) (exXY i x) h2O h2S' hQ fuel _ (r2.erase i) a' w' (by simp [hsz]) hDn' (hmem' r2 hnd2 hm2) (hp2.sublist List.erase_sublist) ?_ ?_ ?_ hr'
     ·have e1:r1.length=r2.length:=(List.perm_iff_count.2 (fun z=>by rw [hnd1.count,hnd2.count];simp [h12 z])).length_eq;rw [List.length_erase_of_mem him2];omega
     ·intro j hj k _;cases hj':exXY i x j k
      ·rfl
      ·simp only [exXY,Bool.and_eq_true,Nat.beq_eq] at hj';exact (((List.Nodup.mem_erase_iff hnd2).1 hj).1 hj'.1).elim
     ·rintro ⟨l,z,hl,hz,hL⟩;refine hcw ?_ hC;have hl':=List.mem_of_mem_erase hl;have hne:l≠i:=((List.Nodup.mem_erase_iff hnd2).1 hl).1;rcases pw_rel hp2 him2 hl' hne.symm with h1 | h1
      ·exact hWL' i l z o h1 hz ho hL
      ·have:=hsw2 (Ne.symm hxy) l hl' hne h1;obtain ⟨_,_,_,h4⟩:=swapB_spec this hz ho;cases hw:W i
       ·rfl
       ·exact (h4 ⟨hL,hw⟩).elim
    ·have hRo:isE o.op=false:=by
      simp only [chkT,List.all_eq_true,List.mem_range,Bool.or_eq_true,Nat.beq_eq] at hT;rcases hT i hi' with (h1 | h1) | h1
      ·exact (hix h1).elim
      ·exact (hiy h1).elim
      ·rw [ho] at h1;simp only [Bool.or_eq_true,Bool.not_eq_true'] at h1;rcases h1 with h1 | h1
       ·exact h1
       ·exact (hnl x hx h1).elim
     obtain ⟨v,hyv⟩:=run_yields hsel ho hRo r1 a w hr1 him (hsw1 hiy) hp1;have hs1:=run_step hsel hWL ho r1 a w (fun _=>hC) hr1 him (hsw1 hiy) hp1;have hs2:=run_step hsel hWL' ho r2 a w (fun _=>hC) hr2 him2 (hsw2 hix) hp2;have hk1:=Yl_of_stepX hyv (fun _=>hC) hs1;have hk2:=Yl_of_stepX hyv (fun _=>hC) hs2;refine stepX_of_Yl hyv (fun _=>hC) ?_
     exact ih _ (r1.erase i) (r2.erase i) _ w (by simp [hsz]) hDn' (hmem' r1 hnd1 hm1) (hmem' r2 hnd2 hm2) (hp1.sublist List.erase_sublist) (hp2.sublist List.erase_sublist) (by rw [List.length_erase_of_mem him];omega)
      ((List.Nodup.mem_erase_iff hnd1).2 ⟨Ne.symm hix,hx⟩) ((List.Nodup.mem_erase_iff hnd1).2 ⟨Ne.symm hiy,hy⟩) hC hk1.2 hk2.2
end
def selL (ops:List Oper):List Nat->List (Nat × Oper)
 | []=>[]
 | i :: r=>
  match ops[i]? with
  | some o=>(i,o) :: selL ops r
  | none=>selL ops r
theorem selL_mem {ops:List Oper} {l:List Nat} {p:Nat × Oper} (h:p∈selL ops l):ops[p.1]? = some p.2:=by
 induction l with
 | nil=>cases h
 | cons i r ih=>
  unfold selL at h;split at h
  ·rename_i o ho;rcases List.mem_cons.1 h with h | h
   ·rw [h];exact ho
   ·exact ih h
  ·exact ih h
def plc:List Nat->Nat->Nat
 | [],_=>0
 | x :: r,i=>if Nat.beq x i then 0 else plc r i + 1
def chkL (ops:Array Oper) (l:List Nat):Bool:=
 (selL ops.toList l).map (·.1) == l && (List.range ops.size).all (fun i=>l.contains i) && l.all (fun i=>Nat.blt i ops.size) && Nat.ble l.length ops.size && pwB (plc l) l
where pwB (f:Nat->Nat):List Nat->Bool
 | []=>true
 | x :: r=>r.all (fun y=>Nat.blt (f x) (f y)) && pwB f r
theorem pwB_spec {f:Nat->Nat}:∀ {l:List Nat},chkL.pwB f l=true->l.Pairwise (fun a b=>f a < f b)
 | [],_=>List.Pairwise.nil
 | x :: r,h=>by
  simp only [chkL.pwB,Bool.and_eq_true,List.all_eq_true,Nat.blt_eq] at h;exact List.pairwise_cons.2 ⟨h.1,pwB_spec h.2⟩
def chk2 (ops:Array Oper) (W:Nat->Bool) (l l':List Nat) (x y:Nat):Bool:=
 !Nat.beq x y && Nat.blt x ops.size && Nat.blt y ops.size && chkL ops l && chkL ops l' && chkO ops W (plc l) && chkS ops W (plc l) (exXY x y) && chkO ops W (plc l') && chkS ops W (plc l') (exXY y x) && chkT ops x y
def swp (i j k:Nat):Nat:=
 match Nat.beq k i with
 | true=>j
 | false=>
  match Nat.beq k j with
  | true=>i
  | false=>k
theorem swp_swp (i j k:Nat):swp i j (swp i j k)=k:=by
 have hb:∀ a b:Nat,Nat.beq a b=decide (a=b):=fun a b=>by
  by_cases h:a=b
  ·subst h;simp
  ·rw [decide_eq_false h];cases h1:Nat.beq a b
   ·rfl
   ·exact (h (by simpa using h1)).elim
 unfold swp;simp only [hb];by_cases h1:k=i
 ·subst h1;simp only [decide_true];by_cases h2:j=k
  ·subst h2;simp
  ·simp [h2]
 ·by_cases h2:k=j
  ·subst h2;simp [h1]
  ·simp [h1,h2]
mutual
def renD (f:Nat->Nat):DV->DV
 | .v x=>.v x
 | .ud=>.ud
 | .agg l=>.agg (renL f l)
 | .tup l=>.tup (renL f l)
 | .sl e es tk=>.sl e es tk
 | .pt cs o=>.pt cs o
 | .loc i o=>.loc (f i) o
 | .el i o=>.el (f i) o
 | .ms i e o l c=>.ms (f i) e o l c
 | .fn g l r=>.fn g (renL f l) (renL f r)
 | .ifc t x=>.ifc t (renD f x)
def renL (f:Nat->Nat):List DV->List DV
 | []=>[]
 | d :: r=>renD f d :: renL f r
end
def renS (f:Nat->Nat):List (Nat × Sl)->List (Nat × Sl)
 | []=>[]
 | (k,⟨gs,s⟩) :: r=>(k,⟨gs,renD f s⟩) :: renS f r
def renO (f:Nat->Nat):List (List DV)->List (List DV)
 | []=>[]
 | cs :: r=>renL f cs :: renO f r
def swL {α:Type} (i j:Nat) (l:List α):List α:=
 match l[i]?,l[j]? with
 | some a,some b=>(l.set i b).set j a
 | _,_=>l
def renSt (i j:Nat) (S:St):St:=⟨renS (swp i j) S.sl,swL i j (renO (swp i j) S.bx),S.tk⟩
theorem renO_get (f:Nat->Nat):∀ (l:List (List DV)) (k:Nat),(renO f l)[k]? = (l[k]?).map (renL f)
 | [],k=>by simp [renO]
 | c :: r,0=>by simp [renO]
 | c :: r,k + 1=>by simp only [renO,List.getElem?_cons_succ];exact renO_get f r k
theorem renO_length (f:Nat->Nat):∀ (l:List (List DV)),(renO f l).length=l.length
 | []=>rfl
 | c :: r=>by simp [renO,renO_length f r]
theorem renS_get (f:Nat->Nat):∀ (l:List (Nat × Sl)) (k:Nat),get (renS f l) k=(get l k).map fun x=>⟨x.gs,renD f x.s⟩
 | [],k=>rfl
 | (i,⟨gs,s⟩) :: r,k=>by
  simp only [renS,get_cons];split
  ·rfl
  ·exact renS_get f r k
theorem swL_length {α:Type} (i j:Nat) (l:List α):(swL i j l).length=l.length:=by
 unfold swL;split<;>simp
theorem swL_get {α:Type} {i j:Nat} {l:List α} (hi:i < l.length) (hj:j < l.length) (k:Nat):(swL i j l)[k]? = l[swp i j k]?:=by
 have hb:∀ a b:Nat,Nat.beq a b=true↔a=b:=fun a b=>by simp
 unfold swL;rw [gE hi,gE hj];simp only;unfold swp;by_cases hkj:k=j
 ·subst hkj;rw [List.getElem?_set_self (by simpa using hj)];cases h1:Nat.beq k i
  ·simp only [Nat.beq_refl];exact (gE hi).symm
  ·have:=(hb k i).1 h1;subst this;exact (gE hi).symm
 ·rw [List.getElem?_set_ne (Ne.symm hkj)];by_cases hki:k=i
  ·subst hki;rw [List.getElem?_set_self hi];simp only [Nat.beq_refl];exact (gE hj).symm
  ·rw [List.getElem?_set_ne (Ne.symm hki)]
   have h1:Nat.beq k i=false:=by
    cases h:Nat.beq k i
    ·rfl
    ·exact (hki ((hb k i).1 h)).elim
   have h2:Nat.beq k j=false:=by
    cases h:Nat.beq k j
    ·rfl
    ·exact (hkj ((hb k j).1 h)).elim
   simp only [h1,h2]
theorem swL_swL {α:Type} {i j:Nat} {l:List α} (hi:i < l.length) (hj:j < l.length):swL i j (swL i j l)=l:=by
 apply List.ext_getElem?;intro k;rw [swL_get (by rw [swL_length];exact hi) (by rw [swL_length];exact hj),swL_get hi hj,swp_swp]
section
variable {E:En} {i j:Nat}
mutual
theorem Rv.ren (hi:i < E.β.length) (hj:j < E.β.length):∀ {d:DV} {v:Value},Rv E (renD (swp i j) d) v->Rv ⟨E.c,swL i j E.β,E.tk,E.τ⟩ d v
 | .v x,v,h=>by simp only [renD] at h;unfold Rv at h ⊢;exact h
 | .ud,v,h=>by simp only [renD] at h;unfold Rv at h ⊢;exact h
 | .sl e es tk,v,h=>by simp only [renD] at h;unfold Rv at h ⊢;exact h
 | .pt cs o,v,h=>by simp only [renD] at h;unfold Rv at h ⊢;exact h
 | .loc k o,v,h=>by
  simp only [renD] at h;unfold Rv at h ⊢;obtain ⟨b,h1,h2⟩:=h;exact ⟨b,by show (swL i j E.β)[k]? = _;rw [swL_get hi hj];exact h1,h2⟩
 | .el k o,v,h=>by
  simp only [renD] at h;unfold Rv at h ⊢;obtain ⟨b,h1,h2⟩:=h;exact ⟨b,by show (swL i j E.β)[k]? = _;rw [swL_get hi hj];exact h1,h2⟩
 | .ms k e o l c,v,h=>by
  simp only [renD] at h;unfold Rv at h ⊢;obtain ⟨b,ad,h1,h2⟩:=h;exact ⟨b,ad,by show (swL i j E.β)[k]? = _;rw [swL_get hi hj];exact h1,h2⟩
 | .agg l,v,h=>by
  simp only [renD] at h;unfold Rv at h ⊢;obtain ⟨vs,h1,h2,h3⟩:=h;exact ⟨vs,h1,RvL.ren hi hj h2,h3⟩
 | .tup l,v,h=>by
  simp only [renD] at h;unfold Rv at h ⊢;obtain ⟨vs,h1,h2⟩:=h;exact ⟨vs,h1,RvL.ren hi hj h2⟩
 | .fn g l r,v,h=>by
  simp only [renD] at h;unfold Rv at h ⊢;obtain ⟨l',r',h1,h2,h3⟩:=h;exact ⟨l',r',h1,RvL.ren hi hj h2,RvL.ren hi hj h3⟩
 | .ifc t x,v,h=>by
  simp only [renD] at h;unfold Rv at h ⊢;obtain ⟨z,h1,h2⟩:=h;exact ⟨z,h1,Rv.ren hi hj h2⟩
theorem RvL.ren (hi:i < E.β.length) (hj:j < E.β.length):∀ {l:List DV} {vs:List Value},RvL E (renL (swp i j) l) vs->RvL ⟨E.c,swL i j E.β,E.tk,E.τ⟩ l vs
 | [],vs,h=>by simp only [renL,RvL] at h ⊢;exact h
 | d :: r,vs,h=>by
  simp only [renL,RvL] at h ⊢;obtain ⟨v,s,h1,h2,h3⟩:=h;exact ⟨v,s,h1,Rv.ren hi hj h2,RvL.ren hi hj h3⟩
end
end
theorem mem_swL {α:Type} {i j:Nat} {l:List α} (hi:i < l.length) (hj:j < l.length) {x:α}:x∈swL i j l↔x∈l:=by
 have h1:∀ (l:List α),i < l.length->j < l.length->x∈swL i j l->x∈l:=by
  intro l hi hj h;obtain ⟨k,hk⟩:=List.mem_iff_getElem?.1 h;rw [swL_get hi hj] at hk;exact mG hk
 refine ⟨h1 l hi hj,fun h=>?_⟩;have:=h1 (swL i j l) (by rw [swL_length];exact hi) (by rw [swL_length];exact hj);rw [swL_swL hi hj] at this;exact this h
theorem nodup_swL {i j:Nat} {l:List Nat} (hi:i < l.length) (hj:j < l.length) (h:l.Nodup):(swL i j l).Nodup:=by
 have hlt:∀ k,k < l.length->swp i j k < l.length:=by
  intro k hk;unfold swp;split
  ·exact hj
  ·split
   ·exact hi
   ·exact hk
 unfold List.Nodup;rw [List.pairwise_iff_getElem];intro a b ha hb hab he;rw [swL_length] at ha hb
 have hg:∀ k (hk:k < l.length),(swL i j l)[k]'(by rw [swL_length];exact hk)=l[swp i j k]'(hlt k hk):=by
  intro k hk;have:=swL_get hi hj k;rw [gE (by rw [swL_length];exact hk),gE (hlt k hk)] at this;exact Option.some.inj this
 rw [hg a ha,hg b hb] at he
 have h1:l[swp i j a]? = l[swp i j b]?:=by
  rw [gE (hlt a ha),gE (hlt b hb),he]
 have:=(List.getElem?_inj (hlt a ha) h).1 h1;have:=congrArg (swp i j) this;rw [swp_swp,swp_swp] at this;omega
theorem runT_mono {P:Program} {ops:Array Oper} {W:Nat->Bool} {C:World->Prop} {Q Q':Act->World->Prop} (hQ:∀ a w,Q a w->Q' a w):∀ {l:List Nat} {a:Act} {w:World},runT P ops W C Q l a w->runT P ops W C Q' l a w
 | [],a,w,h=>hQ _ _ h
 | i :: r,a,w,h=>by
  simp only [runT] at h ⊢;split at h
  ·exact h.elim
  ·split at h
   ·rename_i hE;rw [if_pos hE];exact stepX_mono (fun a w hk=>⟨hk.1,runT_mono hQ hk.2⟩) h
   ·rename_i hE;rw [if_neg hE];obtain ⟨v,h1,h2,h3⟩:=h;exact ⟨v,h1,h2,runT_mono hQ h3⟩
section
variable {X:Ctx} {E:En} {S:St} {a:Act} {w:World} {i j:Nat}
theorem ren_relE (hX:X.bt=[]) (h:Rel X E (renSt i j S) a w) (hi0:X.n0<=i) (hj0:X.n0<=j) (hi:i < S.bx.length) (hj:j < S.bx.length):Rel X ⟨E.c,swL i j E.β,E.tk,E.τ⟩ S a w:=by
 have hlen:E.β.length=S.bx.length:=by
  rw [h.env.len];simp only [renSt,swL_length,renO_length]
 have hi':i < E.β.length:=by rw [hlen];exact hi
 have hj':j < E.β.length:=by rw [hlen];exact hj
 have hbx:∀ k,(renSt i j S).bx[k]? = (S.bx[swp i j k]?).map (renL (swp i j)):=fun k=>by
  simp only [renSt];rw [swL_get (by rw [renO_length];exact hi) (by rw [renO_length];exact hj),renO_get]
 exact {
  env:={
   len:=by rw [swL_length];exact hlen
   tl:=h.env.tl
   bxs:=fun k cs hk=>by
    obtain ⟨b,ty,arr,hb,hw,hc⟩:=h.env.bxs (swp i j k) (renL (swp i j) cs) (by rw [hbx,swp_swp,hk];rfl);exact ⟨b,ty,arr,by rw [swL_get hi' hj'];exact hb,hw,RvL.ren hi' hj' hc.1,hc.2⟩
   inj:=nodup_swL hi' hj' h.env.inj
   sub:=h.env.sub
   pc:=fun x v hx hm=>h.env.pc x v hx ((mem_swL hi' hj').1 hm)
   tks:=fun k q y hq hy=>by
    rcases h.env.tks k q y hq hy with h1 | ⟨g,cap,cur,rfl,h1,h2,h3,h4,h5,h6⟩
    ·exact .inl h1
    ·exact .inr ⟨g,cap,cur,rfl,h1,h2,h3,h4,fun hm=>h5 ((mem_swL hi' hj').1 hm),h6⟩
   tkd:=h.env.tkd }
  tk:=h.tk
  sz:=h.sz
  tm:=fun k x hx=>by
   have:=h.tm k ⟨x.gs,renD (swp i j) x.s⟩ (by simp only [renSt];rw [renS_get,hx];rfl);refine ⟨fun hh=>?_,this.2⟩;obtain ⟨v,h1,h2⟩:=this.1 hh;exact ⟨v,h1,Rv.ren hi' hj' h2⟩
  df:=h.df
  nw:={
   c:=h.nw.c
   cn:=h.nw.cn
   β:=by
    obtain ⟨r,hr,hl⟩:=h.nw.β;have hE0:X.E0.β.length=X.n0:=X.hn0;refine ⟨(swL i j E.β).drop X.n0,?_,fun b hb=>?_⟩
    ·show swL i j E.β=_
     have:(swL i j E.β).take X.n0=X.E0.β:=by
      apply List.ext_getElem?;intro k;rw [List.getElem?_take];split
      ·rename_i hk;rw [swL_get hi' hj']
       have:swp i j k=k:=by
        unfold swp;have hb:∀ a b:Nat,Nat.beq a b=true↔a=b:=fun a b=>by simp
        cases h1:Nat.beq k i
        ·cases h2:Nat.beq k j
         ·rfl
         ·have:=(hb k j).1 h2;omega
        ·have:=(hb k i).1 h1;omega
       rw [this,hr,List.getElem?_append_left (by omega)]
      ·rename_i hk;exact (List.getElem?_eq_none (by omega)).symm
     rw [<- this,List.take_append_drop]
    ·have hnd:=h.env.inj;obtain ⟨k,hk⟩:=List.mem_iff_getElem?.1 hb;rw [List.getElem?_drop,swL_get hi' hj'] at hk
     have hge:X.n0<=swp i j (X.n0 + k):=by
      unfold swp;split
      ·exact hj0
      ·split
       ·exact hi0
       ·omega
     rw [hr,List.getElem?_append_right (by omega)] at hk;exact hl b (mG hk)
   tk:=h.nw.tk
   tn:=h.nw.tn
   l0:=h.nw.l0 }
  fr:=h.fr
  sh:=h.sh
  bt:=.nil hX }
theorem ren_rel (hX:X.bt=[]) (h:Rel X E (renSt i j S) a w) (hi0:X.n0<=i) (hj0:X.n0<=j) (hi:i < S.bx.length) (hj:j < S.bx.length):∃ E',Rel X E' S a w:=⟨_,ren_relE hX h hi0 hj0 hi hj⟩
end
def sameS (sl:List (Nat × Sl)):List (Nat × Sl)->Prop
 | []=>True
 | p :: r=>get sl p.1=some p.2/\sameS sl r
theorem sameS_spec {sl:List (Nat × Sl)}:∀ {l:List (Nat × Sl)},sameS sl l->∀ i x,get l i=some x->get sl i=some x
 | [],_,i,x,hx=>by cases hx
 | (k,y) :: r,h,i,x,hx=>by
  simp only [get_cons] at hx;split at hx
  ·rename_i hki;subst hki;simp only [oI] at hx;subst hx;exact h.1
  ·exact sameS_spec h.2 i x hx
def uniqS:List Nat->List (Nat × Sl)->List (Nat × Sl)
 | _,[]=>[]
 | m,p :: r=>
  match muB m p.1 with
  | true=>uniqS m r
  | false=>p :: uniqS (p.1 :: m) r
theorem uniqS_get:∀ (l:List (Nat × Sl)) (m:List Nat) (i:Nat),muB m i=false->get (uniqS m l) i=get l i
 | [],_,_,_=>rfl
 | (k,x) :: r,m,i,h=>by
  simp only [uniqS]
  cases hm:muB m k with
  | true=>
   simp only;rw [uniqS_get r m i h,get_cons,if_neg];rintro rfl;rw [hm] at h;cases h
  | false=>
   simp only [get_cons];by_cases hk:k=i
   ·rw [if_pos hk,if_pos hk]
   ·rw [if_neg hk,if_neg hk]
    exact uniqS_get r (k :: m) i (by simp only [muB,h,Bool.or_false];cases hb:Nat.beq k i with
     | true=>exact (hk (Nat.eq_of_beq_eq_true hb)).elim
     | false=>rfl)
def SameSt (s S:St):Prop:=s.bx=S.bx/\s.tk=S.tk/\sameS s.sl (uniqS [] S.sl)
theorem same_rel {X:Ctx} {E:En} {s S:St} {a:Act} {w:World} (h:Rel X E s a w) (hs:SameSt s S):Rel X E S a w where
 env:=by rw [<- hs.1];exact h.env
 tk:=by rw [<- hs.2.1];exact h.tk
 sz:=h.sz
 tm:=fun i x hx=>h.tm i x (sameS_spec hs.2.2 i x (by rw [uniqS_get _ _ _ rfl];exact hx))
 df:=h.df
 nw:=h.nw
 fr:=h.fr
 sh:=h.sh
 bt:=h.bt
theorem drawG_two {X:Ctx} {id:Nat} {ops:Array Oper} {k:List It} {st:St} (W:Nat->Bool) (x y:Nat) (l l':List Nat) (i j:Nat) (hm:X.P.follows .mixedOrders=true) (hc:chk2 ops W l l' x y=true) (S:St)
  (h:goD X ⟨ops,W,[.rnd fun s=>s=S],st,none⟩ 3000 true (selL ops.toList l) st.sl st) (h':goD X ⟨ops,W,[.rnd fun s=>SameSt s (renSt i j S)],st,none⟩ 3000 true (selL ops.toList l') st.sl st)
  (hij:(Nat.ble X.n0 i && Nat.ble X.n0 j && Nat.blt i S.bx.length && Nat.blt j S.bx.length)=true) (hk:go X 4000 k S) (hX:X.bt=[]:=by exact rfl):DrawG X id ops k st:=by
 intro E a w hr;have hr':=drew_rel hr;simp only [Bool.and_eq_true,Nat.ble_eq,Nat.blt_eq] at hij;simp only [chk2,chkL,Bool.and_eq_true,List.all_eq_true,Nat.blt_eq,Nat.ble_eq,beq_iff_eq,List.mem_range,Bool.not_eq_true'] at hc;obtain ⟨⟨⟨⟨⟨⟨⟨⟨⟨hxy,hxs⟩,hys⟩,⟨⟨⟨h1a,h1b⟩,h1c⟩,hlen⟩,h1d⟩,⟨⟨⟨h2a,h2b⟩,h2c⟩,_⟩,h2d⟩,h1O⟩,h1S⟩,h2O⟩,h2S⟩,hT⟩:=hc
 have hQ:∀ S',(S'=S∨S'=renSt i j S)->∀ a w,(∃ st E,Rel X E st a w/\(st=S' ∨ SameSt st S'))->kq X k .normal a w:=by
  rintro S' hS a w ⟨st1,E1,hrel0,hsame⟩
  have hrel:Rel X E1 S' a w:=by
   rcases hsame with rfl | hsame
   ·exact hrel0
   ·exact same_rel hrel0 hsame
  rcases hS with rfl | rfl
  ·exact go_sound 4000 _ _ hk E1 a w hrel
  ·obtain ⟨E2,hrel2⟩:=ren_rel hX hrel hij.1.1.1 hij.1.1.2 hij.1.2 hij.2;exact go_sound 4000 _ _ hk E2 a w hrel2
 have key:∀ (S':St),(S'=S∨S'=renSt i j S)->∀ (l:List Nat),(selL ops.toList l).map (·.1)=l->∀ J:St->Prop,(∀ s,J s->s=S' ∨ SameSt s S')->(goD X ⟨ops,W,[.rnd J],st,none⟩ 3000 true (selL ops.toList l) st.sl st) ->
   runT X.P ops W (CC E st.bx w.drew) (fun a w=>kq X k .normal a w) l a w.drew:=by
  intro S' hS l hl J hJ h;have hs:=relD_start hr' (ops:=ops) (W:=W) (k:=[.rnd J]);have:=goD_sound (D:=⟨⟨ops,W,[.rnd J],st,none⟩,E,w.drew⟩) hr'.env.em 3000 true _ _ _ h (fun p hp=>by simpa using selL_mem hp) E a w.drew hs;rw [hl] at this;exact runT_mono (fun a w ⟨st,E1,h1,h2⟩=>hQ S' hS a w ⟨st,E1,h1,hJ st h2⟩) this
 have e1:=key S (.inl rfl) l h1a _ (fun s hs=>.inl hs) h;have e2:=key (renSt i j S) (.inr rfl) l' h2a _ (fun s hs=>.inr hs) h';refine wp_region_any hm ?_
 have hl0:∀ (l:List Nat),(∀ i,i < ops.size->l.contains i=true)->(∀ i∈l,i < ops.size)->∀ i,i∈l↔i < ops.size/\(Array.replicate ops.size false).getD i true=false:=by
  intro l ha hb i;constructor
  ·intro hi;exact ⟨hb i hi,by simp [hb i hi]⟩
  ·intro hi;simpa using ha i hi.1
 have hxy':x≠y:=by
  intro e;subst e;simp at hxy
 refine any_of_two (C:=CC E st.bx w.drew) (π:=plc l) (π':=plc l') (Q:=kq X k .normal) hxy' h1O h1S h2O h2S hT (fun a w h=>h) ops.size (Array.replicate ops.size false) l l' a _ (by simp) ?_ (hl0 l h1b h1c) (hl0 l' h2b h2c) (pwB_spec h1d) (pwB_spec h2d) hlen
  (by simpa using h1b x hxs) (by simpa using h1b y hys) ⟨fun _ _ _ _ _ _=>rfl,hr'.env.sub⟩ e1 e2
 intro i o ho hl;have:i < ops.size:=(Array.getElem?_eq_some_iff.1 ho).1;simp [this] at hl
end Dv
end Go.Proofs.YtadhpeooehkklaaGreat
namespace Go.Proofs.YtadhpeooehkklaaGreat
namespace Dv
open Go Go.RowKit
section
variable {X:Ctx} {st:St} {k:List It} {E:En} {a:Act} {w:World}
noncomputable def En.frz (E:En) (w:World):En:=⟨frzC E 0 w,[],[],[]⟩
theorem env_frz {bx:List (List DV)} (h:Env E bx w):Env (E.frz w) [] w where
 len:=rfl
 tl:=rfl
 bxs:=by simp
 inj:=List.nodup_nil
 sub:=fun x u hx=>by
  rcases frzC_cases hx with ⟨_,h1⟩ | h1
  ·exact h1
  ·exact h.sub x u h1
 pc:=by simp [En.frz]
 tks:=by simp [En.frz]
 tkd:=by simp [En.frz]
theorem frz_frz {bx:List (List DV)} (h:Env E bx w):Frz E (E.frz w) bx 0 where
 c:=fun x u hx=>frzC_le h hx
 fz:=fun i cs hi hcs=>by
  obtain ⟨b,ty,arr,hb,hw,hc⟩:=h.bxs i cs hcs;refine ⟨b,arr,hb,hc,fun j u hj=>?_⟩;show frzC E 0 w ⟨b,j,none⟩=some u;unfold frzC;rw [if_pos ⟨i,hi,hb⟩,cell_blk hw];simpa using hj
theorem calls_borrow {P:Program} {s:Bool} {bx:List (List DV)} (h:Env E bx w) {f:FuncId} {args args':List DV} {vs:List Value} {y:DV} (hc:EvB s P f args' [] [] fun d _ _=>d=y) (ha:CcL bx 0 0 0 args' args) (hv:RvL E args vs) :
  Calls P f vs.toArray w fun e w'=>∃ v E2,e = .returned v/\Rv E2 y v/\Modd (fun _=>False) w w' /\ (s=true->∃ q,w'=w.drewN q):=by
 have hv':RvL (E.frz w) args' vs:=CcL.sound (frz_frz h) (Low.zero _ _) ha hv;refine (hc (E.frz w) w vs (env_frz h) rfl hv').mono ?_;rintro e w' ⟨v,rfl,hm,hs,d,os,E2,he,hβ,htk,hn,hvd,rfl⟩;refine ⟨v,E2,rfl,hvd,⟨hm.os,hm.tape,hm.output,hm.size,fun i hi _=>hm.block i hi ?_⟩,hs⟩;rintro (h1 | ⟨y,h1,_⟩)
 ·simp [En.frz] at h1
 ·simp [En.frz] at h1
theorem call_b {f:FuncId} {args args':List DV} {d:Nat} {y:Value} (hen:Enters X.P f) (hc:EvP X.P f args' (.v y)) (ha:CcL st.bx 0 0 0 args' args) (hd:okD X.nt st.sl (some d)=true)
  (hk:go X 4000 k ⟨(d,⟨[],.v y⟩) :: st.sl,st.bx,st.tk⟩) (hst:X.still=false:=by exact rfl):CallG X f args (some d) k st:=by
 refine ⟨hen,hst,fun E a w vs h hv=>(calls_borrow h.env hc ha hv).mono ?_⟩;rintro e w' ⟨v,E2,rfl,hr,hm,_⟩;have hh:∀ i,i < w.heap.size->w'.heap[i]? = w.heap[i]?:=fun i hi=>hm.block i hi (fun h=>h);have hrel:Rel X E st a w':=rel_env h (Ext.refl E) (h.env.keep hh) h.tk h.nw (h.fr.trans_keep hm.os hm.tape hm.output hm.size fun i hi=>.inr (hh i hi)) (noSt hst) (h.bt.keep fun b hb=>hh b (h.env.block_lt hb));unfold Rv at hr;exact go_sound 4000 _ _ hk E _ w' (put_rel hrel hd (.v y) v (by unfold Rv;exact hr))
end
end Dv
end Go.Proofs.YtadhpeooehkklaaGreat
namespace Go.Proofs.YtadhpeooehkklaaGreat
namespace Dv
open Go Go.RowKit
def frzS (bx:List (List DV)) (N m:Nat) (sl:List (Nat × Sl)):List (Nat × Sl)->Prop
 | []=>True
 | p :: r=>(∃ x,get sl p.1=some ⟨p.2.gs,x⟩/\Cc bx N N m p.2.s x)/\frzS bx N m sl r
theorem frzS_spec {bx:List (List DV)} {N m:Nat} {sl:List (Nat × Sl)}:∀ {l:List (Nat × Sl)},frzS bx N m sl l->∀ i x',get l i=some x' -> ∃ x,get sl i=some ⟨x'.gs,x⟩/\Cc bx N N m x'.s x
 | [],_,i,x',hx=>by cases hx
 | (k,y) :: r,h,i,x',hx=>by
  simp only [get_cons] at hx;split at hx
  ·rename_i hki;subst hki;simp only [oI] at hx;subst hx;exact h.1
  ·exact frzS_spec h.2 i x' hx
section
variable {X:Ctx} {E:En} {st st':St} {a:Act} {w:World} {k:List It}
theorem frz_rel (h:Rel X E st a w) (N:Nat) (hN:X.n0<=N) (hNl:N<=st.bx.length) (hbx:CcLL st.bx N N st.tk.length st'.bx (st.bx.take N)) (htk:st'.tk=st.tk) (hsl:frzS st.bx N st.tk.length st.sl st'.sl):∃ E',Rel X E' st' a w:=by
 obtain ⟨r,hβr,hβl⟩:=h.nw.β;have hlen:E.β.length=st.bx.length:=h.env.len
 have hnew:∀ (i:Nat) b,X.n0<=i->E.β[i]? = some b->b∈r:=fun i b hi hb=>by
  rw [hβr,List.getElem?_append_right (by rw [X.hn0];exact hi)] at hb;exact mG hb
 let E':En:=⟨frzC E N w,E.β.take N,E.tk,E.τ⟩
 have hfrz:Frz E E' st.bx N:={
  c:=fun x u hx=>frzC_le h.env hx
  fz:=fun i cs hi hcs=>by
   obtain ⟨b,ty,arr,hb,hw,hc⟩:=h.env.bxs i cs hcs;refine ⟨b,arr,hb,hc,fun j u hj=>?_⟩;show frzC E N w ⟨b,j,none⟩=some u;unfold frzC;rw [if_pos ⟨i,hi,hb⟩,cell_blk hw]
   simpa using hj }
 have hlow:Low E E' N st.tk.length:={
  β:=fun i b hi hb=>by show (E.β.take N)[i]? = _;rw [List.getElem?_take,if_pos hi];exact hb
  tk:=fun k hk=>⟨rfl,rfl⟩ }
 have hfar:∀ (i:Nat) b,N<=i->E.β[i]? = some b->b ∉ E.β.take N:=fun i b hi hb hm=>by
  obtain ⟨j,hj⟩:=List.getElem?_of_mem hm;rw [List.getElem?_take] at hj;split at hj
  ·rename_i hjN;have:=(List.getElem?_inj (gS hb).1 h.env.inj).1 (hb.trans hj.symm);omega
  ·cases hj
 obtain ⟨hol,hog⟩:=hbx.get;refine ⟨E',?_⟩
 exact {
  env:={
   len:=by
    show (E.β.take N).length=st'.bx.length;rw [hol,List.length_take,List.length_take];omega
   tl:=h.env.tl
   bxs:=fun i cs' hi=>by
    obtain ⟨cs,hcs,hcc⟩:=hog i cs' hi;rw [List.getElem?_take] at hcs;split at hcs
    ·rename_i hlt;obtain ⟨b,ty,arr,hb,hw,hc⟩:=h.env.bxs i cs hcs;exact ⟨b,ty,arr,hlow.β i b hlt hb,hw,CcL.sound hfrz hlow hcc hc.1,hc.2⟩
    ·cases hcs
   inj:=h.env.inj.sublist (List.take_sublist _ _)
   sub:=fun x u hx=>by
    rcases frzC_cases hx with ⟨_,h1⟩ | h1
    ·exact h1
    ·exact h.env.sub x u h1
   pc:=fun x u hx hm=>by
    rcases frzC_cases hx with ⟨⟨i,hi,hb⟩,_⟩ | h1
    ·exact hfar i _ hi hb hm
    ·exact h.env.pc x u h1 (List.mem_of_mem_take hm)
   tks:=fun k q y hq hy=>by
    rcases h.env.tks k q y hq hy with h1 | ⟨g,cap,cur,rfl,h1,h2,h3,h4,h5,h6⟩
    ·exact .inl h1
    ·refine .inr ⟨g,cap,cur,rfl,h1,⟨h2.1,h2.2.mono fun _ _ hx=>frzC_le h.env hx⟩,h3,h4,fun hm=>h5 (List.mem_of_mem_take hm),fun x u hx hg=>?_⟩;rcases frzC_cases hx with ⟨⟨i,hi,hb⟩,_⟩ | h7
     ·rw [hg] at hb;exact (h5 (mG hb)).elim
     ·exact h6 x u h7 hg
   tkd:=h.env.tkd }
  tk:=by rw [htk];exact h.tk
  sz:=h.sz
  tm:=fun i x' hx'=>by
   obtain ⟨x,hx,hcc⟩:=frzS_spec hsl i x' hx';have:=h.tm i _ hx;refine ⟨fun hh=>?_,this.2⟩;obtain ⟨v,h1,h2⟩:=this.1 hh;exact ⟨v,h1,Cc.sound hfrz hlow hcc h2⟩
  df:=h.df
  nw:={
   c:=fun x u hx=>frzC_le h.env (h.nw.c x u hx)
   cn:=fun x u hx=>by
    rcases frzC_cases hx with ⟨⟨i,hi,hb⟩,_⟩ | h1
    ·exact .inr (.inl (hβl _ (hnew i _ (by omega) hb)))
    ·exact h.nw.cn x u h1
   β:=by
    refine ⟨r.take (N - X.n0),?_,fun b hb=>hβl b (List.mem_of_mem_take hb)⟩;show E.β.take N=_;rw [hβr,List.take_append,List.take_of_length_le (by rw [X.hn0];omega),X.hn0]
   tk:=h.nw.tk
   tn:=h.nw.tn
   l0:=h.nw.l0 }
  fr:=h.fr
  sh:=h.sh
  bt:=h.bt.sub _ }
theorem loop_frz {c:Code} (N:Nat) (st1:St) (hN:Nat.ble X.n0 N=true) (hNl:Nat.ble N st.bx.length=true) (htk:st1.tk=st.tk) (hbx:CcLL st.bx N N st.tk.length st1.bx (st.bx.take N)) (hsl:frzS st.bx N st.tk.length st.sl st1.sl)
  (hk:LoopG X c k st1):LoopG X c k st:=by
 intro E a w h;obtain ⟨E',h'⟩:=frz_rel h N (nL hN) (nL hNl) hbx htk hsl;exact hk E' a w h'
theorem weak_bt {n0 m0:Nat} {st st':St} (n:Nat) (q:TkE) (hq:q.new=true) (hn:Nat.ble n st.bx.length=true) (h3:st.tk ++ [q]=st'.tk) (h2:WeLL n st.tk.length st'.tk (st.bx.take n) st'.bx) (h4:Nat.ble n0 n=true) (h5:Nat.ble m0 st.tk.length=true)
  (h:sameW n st.tk.length st'.tk st.sl st'.sl):Weak n0 m0 st st':=by
 have hl:(st.bx.take n).length=n:=by
  have:=nL hn;rw [List.length_take];omega
 exact ⟨st.tk,[],[q],st.bx.take n,st.bx.drop n,by simpa using h5,by rw [hl];simpa using h4,by simp,h3.symm,by simpa using hq,(List.take_append_drop n st.bx).symm,by rw [hl];exact h2,by rw [hl];exact h⟩
end
end Dv
end Go.Proofs.YtadhpeooehkklaaGreat
namespace Go.Proofs.YtadhpeooehkklaaGreat
namespace Dv
open Go Go.RowKit
section
variable {X:Ctx} {st:St} {k:List It} {E:En} {a:Act} {w:World}
theorem call_o {f:FuncId} {rest rest' cs cs':List DV} {i d:Nat} (hen:Enters X.P f) (hd:okD X.nt st.sl (some d)=true) (hbx:st.bx[i]? = some cs) (hcs:CcL [] 0 0 0 cs' cs) (ha:CcL [] 0 0 0 rest' rest)
  {Φ:DV->List (List DV)->List TkE->Prop} (hc:Ev X.P f (.loc 0 0 :: rest') [cs'] [] Φ) (hcl:∀ r os tk,Φ r os tk->clB 0 0 r=true/\∀ cs2∈os,clB.clL 0 0 cs2=true)
  (hk:∀ r cs2,Φ r [cs2] []->go X 4000 k ⟨(d,⟨[],r⟩) :: st.sl,st.bx.set i cs2,st.tk⟩) (hst:X.still=false:=by exact rfl) (hX:X.bt=[]:=by exact rfl):CallG X f (.loc i 0 :: rest) (some d) k st:=by
 refine ⟨hen,hst,fun E a w vs h hv=>?_⟩;simp only [RvL] at hv;obtain ⟨v1,vr,rfl,h1,hvr⟩:=hv;unfold Rv at h1;obtain ⟨b,hb,rfl⟩:=h1;obtain ⟨b',ty,arr,hb',hw,hcc⟩:=h.env.bxs i cs hbx;rw [hb] at hb';simp only [oI] at hb';subst hb';have hbm:b∈E.β:=mG hb;have hblt:=h.env.block_lt hbm
 let E1:En:=⟨E.c,[b],[],[]⟩
 have hx1:Ext E.cl E1:=⟨fun _ _ h=>h,fun j b hj=>by simp [En.cl] at hj,fun k q hk=>by simp [En.cl] at hk⟩;have hfz:Frz E E.cl [] 0:=⟨fun _ _ h=>h,fun i cs _ hi=>by simp at hi⟩
 have hE1:Env E1 [cs'] w:={
  len:=rfl
  tl:=rfl
  bxs:=fun j cs0 hj=>by
   cases j with
   | succ j=>simp at hj
   | zero=>
    simp only [List.getElem?_cons_zero,oI] at hj;subst hj;refine ⟨b,ty,arr,rfl,hw,RvL.mono hx1 (CcL.sound hfz (Low.zero _ _) hcs hcc.1),hcc.2⟩
  inj:=by simp [E1]
  sub:=h.env.sub
  pc:=fun x v hx hm=>by
   simp only [E1,List.mem_singleton] at hm;exact h.env.pc x v hx (by rw [hm];exact hbm)
  tks:=by simp [E1]
  tkd:=by simp [E1] }
 have hv1:RvL E1 (.loc 0 0 :: rest') (.pointer (some ⟨b,0,none⟩) :: vr):=rvL_cons (by unfold Rv;exact ⟨b,rfl,rfl⟩) (RvL.mono hx1 (CcL.sound hfz (Low.zero _ _) ha hvr));refine (hc E1 w _ hE1 rfl hv1).mono ?_;rintro e w' ⟨v,rfl,hm,_,r,os,E2,he,hβ,htk,hn,hvd,hΦ⟩;have ht0:E2.tk=[]:=List.eq_nil_of_length_eq_zero htk;rw [ht0] at hΦ
 obtain ⟨cs2,rfl⟩:∃ cs2,os=[cs2]:=by
  have:=he.len;rw [hβ] at this
  match os,this with
  | [x],_=>exact ⟨x,rfl⟩
 obtain ⟨hclr,hclc⟩:=hcl _ _ _ hΦ
 have hh:∀ j,j < w.heap.size->j≠b->w'.heap[j]? = w.heap[j]?:=fun j hj hne=>hm.block j hj (by
  rintro (h1 | ⟨y,h1,_⟩)
  ·simp only [E1,List.mem_singleton] at h1;exact hne h1
  ·simp [E1] at h1)
 have hnew:∀ x v,E2.c x=some v->E.c x=some v∨w.heap.size<=x.block:=fun x v hx=>by
  rcases hn.cn x v hx with h1 | h1 | ⟨y,h1,_⟩
  ·exact .inl h1
  ·exact .inr h1
  ·simp [E1] at h1
 let E':En:=⟨E2.c,E.β,E.tk,E.τ⟩
 have hx:Ext E E':=⟨hn.c,fun _ _ h=>h,fun _ q h=>⟨q,h,.inl ⟨rfl,rfl⟩⟩⟩;have hx2:Ext (E2.cut 0 0) E':=⟨fun _ _ h=>h,fun j b hj=>by simp [En.cut] at hj,fun k q hk=>by simp [En.cut] at hk⟩
 have hrel:Rel X E' ⟨st.sl,st.bx.set i cs2,st.tk⟩ a w':=by
  refine rel_env h hx ?_ h.tk ?_ (h.fr.trans_keep hm.os hm.tape hm.output hm.size fun j hj=>?_) (noSt hst) (.nil hX)
  ·exact {
    len:=by rw [List.length_set];exact h.env.len
    tl:=h.env.tl
    bxs:=fun j cs0 hj=>by
     by_cases hji:j=i
     ·subst hji;rw [List.getElem?_set_self (gS hbx).1] at hj;simp only [oI] at hj;subst hj;obtain ⟨b2,ty2,arr2,hb2,hw2,hc2⟩:=he.bxs 0 cs2 rfl;rw [hβ] at hb2;simp only [E1,List.getElem?_cons_zero,oI] at hb2;subst hb2;exact ⟨b,ty2,arr2,hb,hw2,RvL.mono hx2 (RvL.cut hc2.1 (hclc cs2 (by simp))),hc2.2⟩
     ·rw [List.getElem?_set_ne (Ne.symm hji)] at hj;obtain ⟨bj,tyj,arrj,hbj,hwj,hcj⟩:=h.env.bxs j cs0 hj
      have hne:bj≠b:=by
       rintro rfl;exact hji ((List.getElem?_inj (gS hbj).1 h.env.inj).1 (hbj.trans hb.symm))
      exact ⟨bj,tyj,arrj,hbj,by rw [hh bj (lt_of_blk hwj) hne];exact hwj,hcj.mono hx⟩
    inj:=h.env.inj
    sub:=he.sub
    pc:=fun x v hc hm'=>by
     rcases hnew x v hc with h1 | h1
     ·exact h.env.pc x v h1 hm'
     ·have:=h.env.block_lt hm';omega
    tks:=fun k q y hq hy=>by
     rcases h.env.tks k q y hq hy with h1 | ⟨g',cap,cur,rfl,h1,h2,h3,h4,h5,h6⟩
     ·exact .inl h1
     ·refine .inr ⟨g',cap,cur,rfl,by rw [hh g' (lt_of_blk h1) (fun e=>h5 (by rw [e];exact hbm))];exact h1,⟨h2.1,h2.2.mono hn.c⟩,h3,h4,h5,fun x v hc hg=>?_⟩;rcases hnew x v hc with h7 | h7
      ·exact h6 x v h7 hg
      ·have:=lt_of_blk h1;omega
    tkd:=h.env.tkd }
  ·exact {
    c:=fun x v hc=>hn.c x v (h.nw.c x v hc)
    cn:=fun x v hc=>by
     rcases hnew x v hc with h1 | h1
     ·exact h.nw.cn x v h1
     ·have:=h.fr.size;exact .inr (.inl (by omega))
    β:=h.nw.β
    tk:=h.nw.tk
    tn:=h.nw.tn
    l0:=h.nw.l0 }
  ·by_cases hjb:j=b
   ·left;obtain ⟨r0,hr0,hl0⟩:=h.nw.β;rw [hr0] at hbm;rcases List.mem_append.1 hbm with hbm | hbm
    ·exact .inl (.inl (hjb ▸ hbm))
    ·exact .inr (hjb ▸ hl0 b hbm)
   ·exact .inr (hh j hj hjb)
 exact go_sound 4000 _ _ (hk r cs2 hΦ) E' _ w' (put_rel hrel hd r v (Rv.mono hx2 (Rv.cut hvd hclr)))
end
end Dv
end Go.Proofs.YtadhpeooehkklaaGreat
namespace Go.Proofs.YtadhpeooehkklaaGreat
namespace Dv
open Go
def tt:TT:=.node 161 ⟨2051,true,.st [(0,102),(1,93),(2,158),(3,160),(1027,160)],(.slice none 0 0 :: .pointer none :: .pointer none :: List.replicate 2048 (.int .i64 0))⟩ (.node 82 ⟨1,false,.fn,[.nilFunc]⟩ (.node 39 ⟨1,false,.fn,[.nilFunc]⟩ (.node 19 ⟨1,true,.st [(0,17)],[.pointer none]⟩ (.node 10 ⟨1,false,.str,[.string ByteArray.empty]⟩ (.node 5 ⟨1,false,.int .u8,[.int .u8 0]⟩ (.node 3 ⟨1,false,.int .i64,[.int .i64 0]⟩ (.node 2 ⟨1,false,.int .i64,[.int .i64 0]⟩ (.node 1 ⟨1,false,.fn,[.nilFunc]⟩ (.nil) (.nil)) (.nil)) (.node 4 ⟨1,false,.bool,[.bool false]⟩ (.nil) (.nil))) (.node 8 ⟨4,true,.st [(0,2),(1,3),(2,4),(3,6)],[.int .i64 0,.int .i64 0,.bool false,.int .u8 0]⟩ (.node 7 ⟨4,true,.st [(0,2),(1,3),(2,4),(3,6)],[.int .i64 0,.int .i64 0,.bool false,.int .u8 0]⟩ (.node 6 ⟨1,false,.int .u8,[.int .u8 0]⟩ (.nil) (.nil)) (.nil)) (.node 9 ⟨1,false,.str,[.string ByteArray.empty]⟩ (.nil) (.nil)))) (.node 15 ⟨1,false,.ptr 308,[.pointer none]⟩ (.node 13 ⟨2,true,.st [(0,9),(1,12)],[.string ByteArray.empty,.int .u64 0]⟩ (.node 12 ⟨1,false,.int .u64,[.int .u64 0]⟩ (.node 11 ⟨1,false,.str,[.string ByteArray.empty]⟩ (.nil) (.nil)) (.nil)) (.node 14 ⟨2,true,.st [(0,9),(1,12)],[.string ByteArray.empty,.int .u64 0]⟩ (.nil) (.nil))) (.node 17 ⟨1,false,.ptr 319,[.pointer none]⟩ (.node 16 ⟨1,false,.ptr 311,[.pointer none]⟩ (.nil) (.nil)) (.node 18 ⟨1,true,.st [(0,17)],[.pointer none]⟩ (.nil) (.nil))))) (.node 29 ⟨9,true,.st [(0,3),(1,3),(2,3),(3,3),(4,3),(5,22),(6,25),(7,27)],[.int .i64 0,.int .i64 0,.int .i64 0,.int .i64 0,.int .i64 0,.slice none 0 0,.slice none 0 0,.string ByteArray.empty,.int .i64 0]⟩ (.node 24 ⟨1,false,.sl 87 11 136,[.slice none 0 0]⟩ (.node 22 ⟨1,false,.sl 27 2 24,[.slice none 0 0]⟩ (.node 21 ⟨1,false,.int .i32,[.int .i32 0]⟩ (.node 20 ⟨1,false,.ifc,[.nilIface]⟩ (.nil) (.nil)) (.nil)) (.node 23 ⟨1,false,.sl 220 4 48,[.slice none 0 0]⟩ (.nil) (.nil))) (.node 27 ⟨2,true,.st [(0,9),(1,3)],[.string ByteArray.empty,.int .i64 0]⟩ (.node 26 ⟨2,true,.st [(0,9),(1,3)],[.string ByteArray.empty,.int .i64 0]⟩ (.node 25 ⟨1,false,.sl 153 18 224,[.slice none 0 0]⟩ (.nil) (.nil)) (.nil)) (.node 28 ⟨9,true,.st [(0,3),(1,3),(2,3),(3,3),(4,3),(5,22),(6,25),(7,27)],[.int .i64 0,.int .i64 0,.int .i64 0,.int .i64 0,.int .i64 0,.slice none 0 0,.slice none 0 0,.string ByteArray.empty,.int .i64 0]⟩ (.nil) (.nil)))) (.node 34 ⟨4,true,.st [(0,3),(1,3),(2,9),(3,32)],[.int .i64 0,.int .i64 0,.string ByteArray.empty,.slice none 0 0]⟩ (.node 32 ⟨1,false,.sl 34 4 56,[.slice none 0 0]⟩ (.node 31 ⟨12,true,.st [(0,22),(1,23),(2,24),(3,29)],[.slice none 0 0,.slice none 0 0,.slice none 0 0,.int .i64 0,.int .i64 0,.int .i64 0,.int .i64 0,.int .i64 0,.slice none 0 0,.slice none 0 0,.string ByteArray.empty,.int .i64 0]⟩ (.node 30 ⟨12,true,.st [(0,22),(1,23),(2,24),(3,29)],[.slice none 0 0,.slice none 0 0,.slice none 0 0,.int .i64 0,.int .i64 0,.int .i64 0,.int .i64 0,.int .i64 0,.slice none 0 0,.slice none 0 0,.string ByteArray.empty,.int .i64 0]⟩ (.nil) (.nil)) (.nil)) (.node 33 ⟨4,true,.st [(0,3),(1,3),(2,9),(3,32)],[.int .i64 0,.int .i64 0,.string ByteArray.empty,.slice none 0 0]⟩ (.nil) (.nil))) (.node 36 ⟨6,true,.st [(0,3),(1,3),(2,3),(3,9),(4,22),(5,35)],[.int .i64 0,.int .i64 0,.int .i64 0,.string ByteArray.empty,.slice none 0 0,.slice none 0 0]⟩ (.node 35 ⟨1,false,.sl 37 6 88,[.slice none 0 0]⟩ (.nil) (.nil)) (.node 37 ⟨6,true,.st [(0,3),(1,3),(2,3),(3,9),(4,22),(5,35)],[.int .i64 0,.int .i64 0,.int .i64 0,.string ByteArray.empty,.slice none 0 0,.slice none 0 0]⟩ (.nil) (.nil)))))) (.node 62 ⟨1,false,.fn,[.nilFunc]⟩ (.node 51 ⟨1,false,.fn,[.nilFunc]⟩ (.node 44 ⟨2,true,.st [(0,43),(1,3)],[.int .i64 0,.int .i64 0]⟩ (.node 42 ⟨1,false,.ptr 95,[.pointer none]⟩ (.node 41 ⟨1,false,.fn,[.nilFunc]⟩ (.node 40 ⟨1,false,.fn,[.nilFunc]⟩ (.nil) (.nil)) (.nil)) (.node 43 ⟨1,false,.int .i64,[.int .i64 0]⟩ (.nil) (.nil))) (.node 48 ⟨1,false,.fn,[.nilFunc]⟩ (.node 47 ⟨1,false,.fn,[.nilFunc]⟩ (.node 45 ⟨2,true,.st [(0,43),(1,3)],[.int .i64 0,.int .i64 0]⟩ (.nil) (.nil)) (.nil)) (.node 50 ⟨1,false,.fn,[.nilFunc]⟩ (.nil) (.nil)))) (.node 58 ⟨1,false,.fn,[.nilFunc]⟩ (.node 55 ⟨1,false,.sl 59 1 24,[.slice none 0 0]⟩ (.node 54 ⟨1,false,.fn,[.nilFunc]⟩ (.node 52 ⟨1,false,.fn,[.nilFunc]⟩ (.nil) (.nil)) (.nil)) (.node 56 ⟨1,false,.fn,[.nilFunc]⟩ (.nil) (.nil))) (.node 60 ⟨1,false,.fn,[.nilFunc]⟩ (.node 59 ⟨1,false,.sl 117 3 32,[.slice none 0 0]⟩ (.nil) (.nil)) (.node 61 ⟨1,false,.fn,[.nilFunc]⟩ (.nil) (.nil))))) (.node 72 ⟨1,false,.fn,[.nilFunc]⟩ (.node 68 ⟨4,true,.st [(0,22),(1,65),(2,66),(3,3)],[.slice none 0 0,.slice none 0 0,.slice none 0 0,.int .i64 0]⟩ (.node 66 ⟨1,false,.sl 128 7 88,[.slice none 0 0]⟩ (.node 65 ⟨1,false,.sl 140 1 24,[.slice none 0 0]⟩ (.node 64 ⟨1,false,.fn,[.nilFunc]⟩ (.nil) (.nil)) (.nil)) (.node 67 ⟨4,true,.st [(0,22),(1,65),(2,66),(3,3)],[.slice none 0 0,.slice none 0 0,.slice none 0 0,.int .i64 0]⟩ (.nil) (.nil))) (.node 70 ⟨8,true,.st [(0,68),(4,69),(5,69),(6,69),(7,69)],[.slice none 0 0,.slice none 0 0,.slice none 0 0,.int .i64 0,.slice none 0 0,.slice none 0 0,.slice none 0 0,.slice none 0 0]⟩ (.node 69 ⟨1,false,.sl 3 1 8,[.slice none 0 0]⟩ (.nil) (.nil)) (.node 71 ⟨8,true,.st [(0,68),(4,69),(5,69),(6,69),(7,69)],[.slice none 0 0,.slice none 0 0,.slice none 0 0,.int .i64 0,.slice none 0 0,.slice none 0 0,.slice none 0 0,.slice none 0 0]⟩ (.nil) (.nil)))) (.node 78 ⟨1,false,.fn,[.nilFunc]⟩ (.node 75 ⟨1,false,.fn,[.nilFunc]⟩ (.node 74 ⟨1,false,.fn,[.nilFunc]⟩ (.node 73 ⟨1,false,.fn,[.nilFunc]⟩ (.nil) (.nil)) (.nil)) (.node 77 ⟨1,false,.fn,[.nilFunc]⟩ (.nil) (.nil))) (.node 80 ⟨1,false,.fn,[.nilFunc]⟩ (.node 79 ⟨1,false,.fn,[.nilFunc]⟩ (.nil) (.nil)) (.node 81 ⟨1,false,.fn,[.nilFunc]⟩ (.nil) (.nil))))))) (.node 122 ⟨1,false,.ptr 142,[.pointer none]⟩ (.node 102 ⟨1,false,.sl 9 1 16,[.slice none 0 0]⟩ (.node 93 ⟨1,false,.ptr 222,[.pointer none]⟩ (.node 87 ⟨11,true,.st [(0,27),(2,29)],[.string ByteArray.empty,.int .i64 0,.int .i64 0,.int .i64 0,.int .i64 0,.int .i64 0,.int .i64 0,.slice none 0 0,.slice none 0 0,.string ByteArray.empty,.int .i64 0]⟩ (.node 85 ⟨1,false,.fn,[.nilFunc]⟩ (.node 84 ⟨1,false,.fn,[.nilFunc]⟩ (.node 83 ⟨1,false,.fn,[.nilFunc]⟩ (.nil) (.nil)) (.nil)) (.node 86 ⟨11,true,.st [(0,27),(2,29)],[.string ByteArray.empty,.int .i64 0,.int .i64 0,.int .i64 0,.int .i64 0,.int .i64 0,.int .i64 0,.slice none 0 0,.slice none 0 0,.string ByteArray.empty,.int .i64 0]⟩ (.nil) (.nil))) (.node 91 ⟨1,false,.ptr 97,[.pointer none]⟩ (.node 90 ⟨1,false,.fn,[.nilFunc]⟩ (.node 88 ⟨1,false,.ptr 162,[.pointer none]⟩ (.nil) (.nil)) (.nil)) (.node 92 ⟨1,false,.sl 105 7 88,[.slice none 0 0]⟩ (.nil) (.nil)))) (.node 98 ⟨1,false,.fn,[.nilFunc]⟩ (.node 96 ⟨15,true,.st [(0,31),(12,88),(13,42),(14,3)],[.slice none 0 0,.slice none 0 0,.slice none 0 0,.int .i64 0,.int .i64 0,.int .i64 0,.int .i64 0,.int .i64 0,.slice none 0 0,.slice none 0 0,.string ByteArray.empty,.int .i64 0,.pointer none,.pointer none,.int .i64 0]⟩ (.node 95 ⟨5,true,.st [(0,88),(1,92),(2,3),(3,93),(4,69)],[.pointer none,.slice none 0 0,.int .i64 0,.pointer none,.slice none 0 0]⟩ (.node 94 ⟨5,true,.st [(0,88),(1,92),(2,3),(3,93),(4,69)],[.pointer none,.slice none 0 0,.int .i64 0,.pointer none,.slice none 0 0]⟩ (.nil) (.nil)) (.nil)) (.node 97 ⟨15,true,.st [(0,31),(12,88),(13,42),(14,3)],[.slice none 0 0,.slice none 0 0,.slice none 0 0,.int .i64 0,.int .i64 0,.int .i64 0,.int .i64 0,.int .i64 0,.slice none 0 0,.slice none 0 0,.string ByteArray.empty,.int .i64 0,.pointer none,.pointer none,.int .i64 0]⟩ (.nil) (.nil))) (.node 100 ⟨1,false,.fn,[.nilFunc]⟩ (.node 99 ⟨1,false,.fn,[.nilFunc]⟩ (.nil) (.nil)) (.node 101 ⟨1,false,.fn,[.nilFunc]⟩ (.nil) (.nil))))) (.node 113 ⟨1,false,.fn,[.nilFunc]⟩ (.node 108 ⟨1,false,.fn,[.nilFunc]⟩ (.node 105 ⟨7,true,.st [(0,3),(1,3),(2,3),(3,3),(4,3),(5,102),(6,103)],[.int .i64 0,.int .i64 0,.int .i64 0,.int .i64 0,.int .i64 0,.slice none 0 0,.slice none 0 0]⟩ (.node 104 ⟨7,true,.st [(0,3),(1,3),(2,3),(3,3),(4,3),(5,102),(6,103)],[.int .i64 0,.int .i64 0,.int .i64 0,.int .i64 0,.int .i64 0,.slice none 0 0,.slice none 0 0]⟩ (.node 103 ⟨1,false,.sl 178 10 88,[.slice none 0 0]⟩ (.nil) (.nil)) (.nil)) (.node 107 ⟨1,false,.fn,[.nilFunc]⟩ (.nil) (.nil))) (.node 110 ⟨1,false,.fn,[.nilFunc]⟩ (.node 109 ⟨1,false,.fn,[.nilFunc]⟩ (.nil) (.nil)) (.node 111 ⟨1,false,.fn,[.nilFunc]⟩ (.nil) (.nil)))) (.node 118 ⟨1,false,.fn,[.nilFunc]⟩ (.node 116 ⟨3,true,.st [(0,3),(1,3),(2,9)],[.int .i64 0,.int .i64 0,.string ByteArray.empty]⟩ (.node 115 ⟨1,false,.fn,[.nilFunc]⟩ (.node 114 ⟨1,false,.fn,[.nilFunc]⟩ (.nil) (.nil)) (.nil)) (.node 117 ⟨3,true,.st [(0,3),(1,3),(2,9)],[.int .i64 0,.int .i64 0,.string ByteArray.empty]⟩ (.nil) (.nil))) (.node 120 ⟨1,false,.fn,[.nilFunc]⟩ (.node 119 ⟨1,false,.fn,[.nilFunc]⟩ (.nil) (.nil)) (.node 121 ⟨1,false,.fn,[.nilFunc]⟩ (.nil) (.nil)))))) (.node 142 ⟨6,true,.st [(0,42),(1,92),(2,69),(3,140),(4,69),(5,69)],[.pointer none,.slice none 0 0,.slice none 0 0,.slice none 0 0,.slice none 0 0,.slice none 0 0]⟩ (.node 132 ⟨1,false,.fn,[.nilFunc]⟩ (.node 127 ⟨7,true,.st [(0,3),(1,3),(2,3),(3,3),(4,3),(5,102),(6,126)],[.int .i64 0,.int .i64 0,.int .i64 0,.int .i64 0,.int .i64 0,.slice none 0 0,.slice none 0 0]⟩ (.node 125 ⟨1,false,.fn,[.nilFunc]⟩ (.node 124 ⟨1,false,.fn,[.nilFunc]⟩ (.node 123 ⟨1,false,.fn,[.nilFunc]⟩ (.nil) (.nil)) (.nil)) (.node 126 ⟨1,false,.sl 146 10 88,[.slice none 0 0]⟩ (.nil) (.nil))) (.node 130 ⟨1,false,.sl 29 9 112,[.slice none 0 0]⟩ (.node 129 ⟨1,false,.fn,[.nilFunc]⟩ (.node 128 ⟨7,true,.st [(0,3),(1,3),(2,3),(3,3),(4,3),(5,102),(6,126)],[.int .i64 0,.int .i64 0,.int .i64 0,.int .i64 0,.int .i64 0,.slice none 0 0,.slice none 0 0]⟩ (.nil) (.nil)) (.nil)) (.node 131 ⟨1,false,.fn,[.nilFunc]⟩ (.nil) (.nil)))) (.node 137 ⟨1,false,.fn,[.nilFunc]⟩ (.node 135 ⟨1,false,.fn,[.nilFunc]⟩ (.node 134 ⟨1,false,.fn,[.nilFunc]⟩ (.node 133 ⟨1,false,.fn,[.nilFunc]⟩ (.nil) (.nil)) (.nil)) (.node 136 ⟨1,false,.fn,[.nilFunc]⟩ (.nil) (.nil))) (.node 140 ⟨1,false,.sl 4 1 1,[.slice none 0 0]⟩ (.node 139 ⟨1,false,.fn,[.nilFunc]⟩ (.nil) (.nil)) (.node 141 ⟨6,true,.st [(0,42),(1,92),(2,69),(3,140),(4,69),(5,69)],[.pointer none,.slice none 0 0,.slice none 0 0,.slice none 0 0,.slice none 0 0,.slice none 0 0]⟩ (.nil) (.nil))))) (.node 151 ⟨4,true,.st [(0,3),(1,3),(2,3),(3,22)],[.int .i64 0,.int .i64 0,.int .i64 0,.slice none 0 0]⟩ (.node 147 ⟨1,false,.fn,[.nilFunc]⟩ (.node 145 ⟨10,true,.st [(0,9),(1,4),(2,3),(3,3),(4,3),(5,3),(6,3),(7,3),(8,3),(9,3)],[.string ByteArray.empty,.bool false,.int .i64 0,.int .i64 0,.int .i64 0,.int .i64 0,.int .i64 0,.int .i64 0,.int .i64 0,.int .i64 0]⟩ (.node 144 ⟨1,false,.fn,[.nilFunc]⟩ (.node 143 ⟨1,false,.fn,[.nilFunc]⟩ (.nil) (.nil)) (.nil)) (.node 146 ⟨10,true,.st [(0,9),(1,4),(2,3),(3,3),(4,3),(5,3),(6,3),(7,3),(8,3),(9,3)],[.string ByteArray.empty,.bool false,.int .i64 0,.int .i64 0,.int .i64 0,.int .i64 0,.int .i64 0,.int .i64 0,.int .i64 0,.int .i64 0]⟩ (.nil) (.nil))) (.node 149 ⟨1,false,.fn,[.nilFunc]⟩ (.node 148 ⟨1,false,.fn,[.nilFunc]⟩ (.nil) (.nil)) (.node 150 ⟨4,true,.st [(0,3),(1,3),(2,3),(3,22)],[.int .i64 0,.int .i64 0,.int .i64 0,.slice none 0 0]⟩ (.nil) (.nil)))) (.node 157 ⟨1,false,.fn,[.nilFunc]⟩ (.node 154 ⟨1,false,.fn,[.nilFunc]⟩ (.node 153 ⟨18,true,.st [(0,27),(2,4),(3,22),(4,3),(5,151),(9,29)],[.string ByteArray.empty,.int .i64 0,.bool false,.slice none 0 0,.int .i64 0,.int .i64 0,.int .i64 0,.int .i64 0,.slice none 0 0,.int .i64 0,.int .i64 0,.int .i64 0,.int .i64 0,.int .i64 0,.slice none 0 0,.slice none 0 0,.string ByteArray.empty,.int .i64 0]⟩ (.node 152 ⟨18,true,.st [(0,27),(2,4),(3,22),(4,3),(5,151),(9,29)],[.string ByteArray.empty,.int .i64 0,.bool false,.slice none 0 0,.int .i64 0,.int .i64 0,.int .i64 0,.int .i64 0,.slice none 0 0,.int .i64 0,.int .i64 0,.int .i64 0,.int .i64 0,.int .i64 0,.slice none 0 0,.slice none 0 0,.string ByteArray.empty,.int .i64 0]⟩ (.nil) (.nil)) (.nil)) (.node 156 ⟨1,false,.fn,[.nilFunc]⟩ (.nil) (.nil))) (.node 159 ⟨32,true,.ar 32 1,[.int .i64 0,.int .i64 0,.int .i64 0,.int .i64 0,.int .i64 0,.int .i64 0,.int .i64 0,.int .i64 0,.int .i64 0,.int .i64 0,.int .i64 0,.int .i64 0,.int .i64 0,.int .i64 0,.int .i64 0,.int .i64 0,.int .i64 0,.int .i64 0,.int .i64 0,.int .i64 0,.int .i64 0,.int .i64 0,.int .i64 0,.int .i64 0,.int .i64 0,.int .i64 0,.int .i64 0,.int .i64 0,.int .i64 0,.int .i64 0,.int .i64 0,.int .i64 0]⟩ (.node 158 ⟨1,false,.ptr 228,[.pointer none]⟩ (.nil) (.nil)) (.node 160 ⟨1024,true,.ar 32 32,(List.replicate 1024 (.int .i64 0))⟩ (.nil) (.nil)))))))) (.node 242 ⟨1,false,.fn,[.nilFunc]⟩ (.node 203 ⟨1,false,.fn,[.nilFunc]⟩ (.node 184 ⟨1,false,.fn,[.nilFunc]⟩ (.node 174 ⟨1,false,.sl 22 1 24,[.slice none 0 0]⟩ (.node 169 ⟨1,false,.fn,[.nilFunc]⟩ (.node 165 ⟨1,false,.fn,[.nilFunc]⟩ (.node 163 ⟨1,false,.sl 225 2 16,[.slice none 0 0]⟩ (.node 162 ⟨2051,true,.st [(0,102),(1,93),(2,158),(3,160),(1027,160)],(.slice none 0 0 :: .pointer none :: .pointer none :: List.replicate 2048 (.int .i64 0))⟩ (.nil) (.nil)) (.nil)) (.node 167 ⟨1,false,.fn,[.nilFunc]⟩ (.nil) (.nil))) (.node 172 ⟨1,false,.fn,[.nilFunc]⟩ (.node 171 ⟨1,false,.fn,[.nilFunc]⟩ (.node 170 ⟨1,false,.fn,[.nilFunc]⟩ (.nil) (.nil)) (.nil)) (.node 173 ⟨1,false,.fn,[.nilFunc]⟩ (.nil) (.nil)))) (.node 180 ⟨1,false,.fn,[.nilFunc]⟩ (.node 178 ⟨10,true,.st [(0,9),(1,4),(2,3),(3,3),(4,3),(5,3),(6,3),(7,3),(8,3),(9,3)],[.string ByteArray.empty,.bool false,.int .i64 0,.int .i64 0,.int .i64 0,.int .i64 0,.int .i64 0,.int .i64 0,.int .i64 0,.int .i64 0]⟩ (.node 177 ⟨1,false,.fn,[.nilFunc]⟩ (.node 176 ⟨1,false,.fn,[.nilFunc]⟩ (.nil) (.nil)) (.nil)) (.node 179 ⟨1,false,.fn,[.nilFunc]⟩ (.nil) (.nil))) (.node 182 ⟨1,false,.fn,[.nilFunc]⟩ (.node 181 ⟨1,false,.fn,[.nilFunc]⟩ (.nil) (.nil)) (.node 183 ⟨1,false,.fn,[.nilFunc]⟩ (.nil) (.nil))))) (.node 193 ⟨1,false,.fn,[.nilFunc]⟩ (.node 189 ⟨1,false,.fn,[.nilFunc]⟩ (.node 187 ⟨1,false,.fn,[.nilFunc]⟩ (.node 186 ⟨1,false,.fn,[.nilFunc]⟩ (.node 185 ⟨1,false,.fn,[.nilFunc]⟩ (.nil) (.nil)) (.nil)) (.node 188 ⟨1,false,.fn,[.nilFunc]⟩ (.nil) (.nil))) (.node 191 ⟨3,true,.st [(0,45),(2,3)],[.int .i64 0,.int .i64 0,.int .i64 0]⟩ (.node 190 ⟨1,false,.fn,[.nilFunc]⟩ (.nil) (.nil)) (.node 192 ⟨3,true,.st [(0,45),(2,3)],[.int .i64 0,.int .i64 0,.int .i64 0]⟩ (.nil) (.nil)))) (.node 198 ⟨1,false,.fn,[.nilFunc]⟩ (.node 196 ⟨1,false,.fn,[.nilFunc]⟩ (.node 195 ⟨1,false,.fn,[.nilFunc]⟩ (.node 194 ⟨1,false,.fn,[.nilFunc]⟩ (.nil) (.nil)) (.nil)) (.node 197 ⟨1,false,.fn,[.nilFunc]⟩ (.nil) (.nil))) (.node 201 ⟨1,false,.fn,[.nilFunc]⟩ (.node 199 ⟨1,false,.fn,[.nilFunc]⟩ (.nil) (.nil)) (.node 202 ⟨1,false,.fn,[.nilFunc]⟩ (.nil) (.nil)))))) (.node 223 ⟨1,false,.fn,[.nilFunc]⟩ (.node 213 ⟨2,true,.st [(0,3),(1,3)],[.int .i64 0,.int .i64 0]⟩ (.node 208 ⟨1,false,.fn,[.nilFunc]⟩ (.node 206 ⟨1,false,.fn,[.nilFunc]⟩ (.node 205 ⟨1,false,.fn,[.nilFunc]⟩ (.node 204 ⟨1,false,.fn,[.nilFunc]⟩ (.nil) (.nil)) (.nil)) (.node 207 ⟨1,false,.fn,[.nilFunc]⟩ (.nil) (.nil))) (.node 211 ⟨1,false,.fn,[.nilFunc]⟩ (.node 210 ⟨1,false,.fn,[.nilFunc]⟩ (.node 209 ⟨1,false,.fn,[.nilFunc]⟩ (.nil) (.nil)) (.nil)) (.node 212 ⟨1,false,.fn,[.nilFunc]⟩ (.nil) (.nil)))) (.node 219 ⟨4,true,.st [(0,27),(2,27)],[.string ByteArray.empty,.int .i64 0,.string ByteArray.empty,.int .i64 0]⟩ (.node 217 ⟨1,false,.fn,[.nilFunc]⟩ (.node 216 ⟨1,false,.fn,[.nilFunc]⟩ (.node 214 ⟨2,true,.st [(0,3),(1,3)],[.int .i64 0,.int .i64 0]⟩ (.nil) (.nil)) (.nil)) (.node 218 ⟨1,false,.fn,[.nilFunc]⟩ (.nil) (.nil))) (.node 221 ⟨2,true,.st [(0,102),(1,69)],[.slice none 0 0,.slice none 0 0]⟩ (.node 220 ⟨4,true,.st [(0,27),(2,27)],[.string ByteArray.empty,.int .i64 0,.string ByteArray.empty,.int .i64 0]⟩ (.nil) (.nil)) (.node 222 ⟨2,true,.st [(0,102),(1,69)],[.slice none 0 0,.slice none 0 0]⟩ (.nil) (.nil))))) (.node 232 ⟨1,false,.fn,[.nilFunc]⟩ (.node 228 ⟨1,true,.st [(0,226)],[.slice none 0 0]⟩ (.node 226 ⟨1,false,.sl 229 1 8,[.slice none 0 0]⟩ (.node 225 ⟨2,true,.ar 2 1,[.int .i64 0,.int .i64 0]⟩ (.node 224 ⟨1,false,.fn,[.nilFunc]⟩ (.nil) (.nil)) (.nil)) (.node 227 ⟨1,true,.st [(0,226)],[.slice none 0 0]⟩ (.nil) (.nil))) (.node 230 ⟨1,false,.fn,[.nilFunc]⟩ (.node 229 ⟨1,false,.int .u64,[.int .u64 0]⟩ (.nil) (.nil)) (.node 231 ⟨1,false,.fn,[.nilFunc]⟩ (.nil) (.nil)))) (.node 238 ⟨1,true,.st [(0,3)],[.int .i64 0]⟩ (.node 236 ⟨1,false,.ptr 238,[.pointer none]⟩ (.node 235 ⟨1,false,.fn,[.nilFunc]⟩ (.node 233 ⟨1,false,.fn,[.nilFunc]⟩ (.nil) (.nil)) (.nil)) (.node 237 ⟨1,true,.st [(0,3)],[.int .i64 0]⟩ (.nil) (.nil))) (.node 240 ⟨1,false,.fn,[.nilFunc]⟩ (.node 239 ⟨1,false,.fn,[.nilFunc]⟩ (.nil) (.nil)) (.node 241 ⟨1,false,.fn,[.nilFunc]⟩ (.nil) (.nil))))))) (.node 282 ⟨1,true,.st [(0,17)],[.pointer none]⟩ (.node 262 ⟨1,false,.int .u64,[.int .u64 0]⟩ (.node 252 ⟨1,false,.fn,[.nilFunc]⟩ (.node 247 ⟨1,false,.fn,[.nilFunc]⟩ (.node 245 ⟨1,false,.fn,[.nilFunc]⟩ (.node 244 ⟨1,false,.fn,[.nilFunc]⟩ (.node 243 ⟨1,false,.fn,[.nilFunc]⟩ (.nil) (.nil)) (.nil)) (.node 246 ⟨1,false,.fn,[.nilFunc]⟩ (.nil) (.nil))) (.node 250 ⟨1,false,.fn,[.nilFunc]⟩ (.node 249 ⟨1,false,.fn,[.nilFunc]⟩ (.node 248 ⟨1,false,.fn,[.nilFunc]⟩ (.nil) (.nil)) (.nil)) (.node 251 ⟨1,false,.fn,[.nilFunc]⟩ (.nil) (.nil)))) (.node 257 ⟨1,false,.fn,[.nilFunc]⟩ (.node 255 ⟨1,false,.fn,[.nilFunc]⟩ (.node 254 ⟨1,false,.fn,[.nilFunc]⟩ (.node 253 ⟨1,false,.fn,[.nilFunc]⟩ (.nil) (.nil)) (.nil)) (.node 256 ⟨1,false,.fn,[.nilFunc]⟩ (.nil) (.nil))) (.node 259 ⟨1,false,.fn,[.nilFunc]⟩ (.node 258 ⟨1,false,.fn,[.nilFunc]⟩ (.nil) (.nil)) (.node 260 ⟨1,false,.fn,[.nilFunc]⟩ (.nil) (.nil))))) (.node 273 ⟨1,false,.fn,[.nilFunc]⟩ (.node 269 ⟨1,false,.int .u64,[.int .u64 0]⟩ (.node 267 ⟨1,false,.fn,[.nilFunc]⟩ (.node 266 ⟨1,false,.fn,[.nilFunc]⟩ (.node 265 ⟨1,false,.fn,[.nilFunc]⟩ (.nil) (.nil)) (.nil)) (.node 268 ⟨1,false,.fn,[.nilFunc]⟩ (.nil) (.nil))) (.node 271 ⟨2,true,.st [(0,224),(1,266)],[.nilFunc,.nilFunc]⟩ (.node 270 ⟨1,false,.fn,[.nilFunc]⟩ (.nil) (.nil)) (.node 272 ⟨2,true,.st [(0,224),(1,266)],[.nilFunc,.nilFunc]⟩ (.nil) (.nil)))) (.node 278 ⟨1,false,.fn,[.nilFunc]⟩ (.node 276 ⟨1,false,.fn,[.nilFunc]⟩ (.node 275 ⟨1,false,.fn,[.nilFunc]⟩ (.node 274 ⟨1,false,.fn,[.nilFunc]⟩ (.nil) (.nil)) (.nil)) (.node 277 ⟨1,false,.fn,[.nilFunc]⟩ (.nil) (.nil))) (.node 280 ⟨1,false,.fn,[.nilFunc]⟩ (.node 279 ⟨1,false,.fn,[.nilFunc]⟩ (.nil) (.nil)) (.node 281 ⟨1,true,.st [(0,17)],[.pointer none]⟩ (.nil) (.nil)))))) (.node 302 ⟨1,false,.ptr 296,[.pointer none]⟩ (.node 293 ⟨1,false,.fn,[.nilFunc]⟩ (.node 287 ⟨1,false,.int .i64,[.int .i64 0]⟩ (.node 285 ⟨1,false,.int .u32,[.int .u32 0]⟩ (.node 284 ⟨1,false,.fn,[.nilFunc]⟩ (.node 283 ⟨1,false,.ptr 321,[.pointer none]⟩ (.nil) (.nil)) (.nil)) (.node 286 ⟨1,false,.fn,[.nilFunc]⟩ (.nil) (.nil))) (.node 291 ⟨1,false,.fn,[.nilFunc]⟩ (.node 290 ⟨1,false,.fn,[.nilFunc]⟩ (.node 289 ⟨1,false,.fn,[.nilFunc]⟩ (.nil) (.nil)) (.nil)) (.node 292 ⟨1,false,.fn,[.nilFunc]⟩ (.nil) (.nil)))) (.node 298 ⟨1,false,.fn,[.nilFunc]⟩ (.node 296 ⟨1,false,.int .u64,[.int .u64 0]⟩ (.node 295 ⟨1,false,.fn,[.nilFunc]⟩ (.node 294 ⟨1,false,.fn,[.nilFunc]⟩ (.nil) (.nil)) (.nil)) (.node 297 ⟨1,false,.fn,[.nilFunc]⟩ (.nil) (.nil))) (.node 300 ⟨1,false,.ptr 3,[.pointer none]⟩ (.node 299 ⟨1,false,.fn,[.nilFunc]⟩ (.nil) (.nil)) (.node 301 ⟨1,false,.fn,[.nilFunc]⟩ (.nil) (.nil))))) (.node 313 ⟨1,false,.int .u8,[.int .u8 0]⟩ (.node 307 ⟨4,true,.st [(0,17),(1,17),(2,17),(3,9)],[.pointer none,.pointer none,.pointer none,.string ByteArray.empty]⟩ (.node 305 ⟨1,false,.fn,[.nilFunc]⟩ (.node 304 ⟨1,false,.fn,[.nilFunc]⟩ (.node 303 ⟨1,false,.fn,[.nilFunc]⟩ (.nil) (.nil)) (.nil)) (.node 306 ⟨1,false,.fn,[.nilFunc]⟩ (.nil) (.nil))) (.node 309 ⟨0,true,.ar 0 1,[]⟩ (.node 308 ⟨4,true,.st [(0,17),(1,17),(2,17),(3,9)],[.pointer none,.pointer none,.pointer none,.string ByteArray.empty]⟩ (.nil) (.nil)) (.node 312 ⟨1,false,.int .u8,[.int .u8 0]⟩ (.nil) (.nil)))) (.node 318 ⟨11,true,.st [(0,12),(1,12),(2,285),(3,312),(4,5),(5,5),(6,313),(7,314),(8,315),(9,316),(10,317)],[.int .u64 0,.int .u64 0,.int .u32 0,.int .u8 0,.int .u8 0,.int .u8 0,.int .u8 0,.nilFunc,.pointer none,.int .i32 0,.int .i32 0]⟩ (.node 316 ⟨1,false,.int .i32,[.int .i32 0]⟩ (.node 315 ⟨1,false,.ptr 5,[.pointer none]⟩ (.node 314 ⟨1,false,.fn,[.nilFunc]⟩ (.nil) (.nil)) (.nil)) (.node 317 ⟨1,false,.int .i32,[.int .i32 0]⟩ (.nil) (.nil))) (.node 320 ⟨2,true,.st [(0,9),(1,313)],[.string ByteArray.empty,.int .u8 0]⟩ (.node 319 ⟨11,true,.st [(0,12),(1,12),(2,285),(3,312),(4,5),(5,5),(6,313),(7,314),(8,315),(9,316),(10,317)],[.int .u64 0,.int .u64 0,.int .u32 0,.int .u8 0,.int .u8 0,.int .u8 0,.int .u8 0,.nilFunc,.pointer none,.int .i32 0,.int .i32 0]⟩ (.nil) (.nil)) (.node 321 ⟨2,true,.st [(0,9),(1,313)],[.string ByteArray.empty,.int .u8 0]⟩ (.nil) (.nil))))))))
theorem tt_ok:tt.ok Tryz.prog=true:=by decide +kernel
theorem mo:Tryz.prog.follows .mixedOrders=true:=rfl
end Dv
end Go.Proofs.YtadhpeooehkklaaGreat
set_option maxRecDepth 100000
namespace Go.Proofs.YtadhpeooehkklaaGreat
open Go Go.RowKit Dv Tryz
theorem en8:Enters Tryz.prog 8:=enters_of Tryz.func8 (by decide +kernel) rfl
theorem en10:Enters Tryz.prog 10:=enters_of Tryz.func10 (by decide +kernel) rfl
theorem en13:Enters Tryz.prog 13:=enters_of Tryz.func13 (by decide +kernel) rfl
theorem en14:Enters Tryz.prog 14:=enters_of Tryz.func14 (by decide +kernel) rfl
theorem en17:Enters Tryz.prog 17:=enters_of Tryz.func17 (by decide +kernel) rfl
theorem en18:Enters Tryz.prog 18:=enters_of Tryz.func18 (by decide +kernel) rfl
theorem en19:Enters Tryz.prog 19:=enters_of Tryz.func19 (by decide +kernel) rfl
theorem en21:Enters Tryz.prog 21:=enters_of Tryz.func21 (by decide +kernel) rfl
theorem en27:Enters Tryz.prog 27:=enters_of Tryz.func27 (by decide +kernel) rfl
theorem en32:Enters Tryz.prog 32:=enters_of Tryz.func32 (by decide +kernel) rfl
theorem en33:Enters Tryz.prog 33:=enters_of Tryz.func33 (by decide +kernel) rfl
theorem en34:Enters Tryz.prog 34:=enters_of Tryz.func34 (by decide +kernel) rfl
theorem en35:Enters Tryz.prog 35:=enters_of Tryz.func35 (by decide +kernel) rfl
theorem en36:Enters Tryz.prog 36:=enters_of Tryz.func36 (by decide +kernel) rfl
theorem en37:Enters Tryz.prog 37:=enters_of Tryz.func37 (by decide +kernel) rfl
theorem en38:Enters Tryz.prog 38:=enters_of Tryz.func38 (by decide +kernel) rfl
theorem en39:Enters Tryz.prog 39:=enters_of Tryz.func39 (by decide +kernel) rfl
theorem en40:Enters Tryz.prog 40:=enters_of Tryz.func40 (by decide +kernel) rfl
theorem en41:Enters Tryz.prog 41:=enters_of Tryz.func41 (by decide +kernel) rfl
theorem en42:Enters Tryz.prog 42:=enters_of Tryz.func42 (by decide +kernel) rfl
theorem en43:Enters Tryz.prog 43:=enters_of Tryz.func43 (by decide +kernel) rfl
theorem en44:Enters Tryz.prog 44:=enters_of Tryz.func44 (by decide +kernel) rfl
theorem en53:Enters Tryz.prog 53:=enters_of Tryz.func53 (by decide +kernel) rfl
theorem en54:Enters Tryz.prog 54:=enters_of Tryz.func54 (by decide +kernel) rfl
theorem en57:Enters Tryz.prog 57:=enters_of Tryz.func57 (by decide +kernel) rfl
theorem en58:Enters Tryz.prog 58:=enters_of Tryz.func58 (by decide +kernel) rfl
theorem en59:Enters Tryz.prog 59:=enters_of Tryz.func59 (by decide +kernel) rfl
theorem en61:Enters Tryz.prog 61:=enters_of Tryz.func61 (by decide +kernel) rfl
theorem en62:Enters Tryz.prog 62:=enters_of Tryz.func62 (by decide +kernel) rfl
theorem en76:Enters Tryz.prog 76:=enters_of Tryz.func76 (by decide +kernel) rfl
theorem en77:Enters Tryz.prog 77:=enters_of Tryz.func77 (by decide +kernel) rfl
theorem en78:Enters Tryz.prog 78:=enters_of Tryz.func78 (by decide +kernel) rfl
theorem en79:Enters Tryz.prog 79:=enters_of Tryz.func79 (by decide +kernel) rfl
theorem en85:Enters Tryz.prog 85:=enters_of Tryz.func85 (by decide +kernel) rfl
theorem en86:Enters Tryz.prog 86:=enters_of Tryz.func86 (by decide +kernel) rfl
theorem en87:Enters Tryz.prog 87:=enters_of Tryz.func87 (by decide +kernel) rfl
theorem en88:Enters Tryz.prog 88:=enters_of Tryz.func88 (by decide +kernel) rfl
theorem en89:Enters Tryz.prog 89:=enters_of Tryz.func89 (by decide +kernel) rfl
theorem en90:Enters Tryz.prog 90:=enters_of Tryz.func90 (by decide +kernel) rfl
theorem en91:Enters Tryz.prog 91:=enters_of Tryz.func91 (by decide +kernel) rfl
theorem en92:Enters Tryz.prog 92:=enters_of Tryz.func92 (by decide +kernel) rfl
theorem en93:Enters Tryz.prog 93:=enters_of Tryz.func93 (by decide +kernel) rfl
theorem en94:Enters Tryz.prog 94:=enters_of Tryz.func94 (by decide +kernel) rfl
theorem en95:Enters Tryz.prog 95:=enters_of Tryz.func95 (by decide +kernel) rfl
theorem en96:Enters Tryz.prog 96:=enters_of Tryz.func96 (by decide +kernel) rfl
theorem en97:Enters Tryz.prog 97:=enters_of Tryz.func97 (by decide +kernel) rfl
theorem en98:Enters Tryz.prog 98:=enters_of Tryz.func98 (by decide +kernel) rfl
theorem en99:Enters Tryz.prog 99:=enters_of Tryz.func99 (by decide +kernel) rfl
theorem en100:Enters Tryz.prog 100:=enters_of Tryz.func100 (by decide +kernel) rfl
theorem en101:Enters Tryz.prog 101:=enters_of Tryz.func101 (by decide +kernel) rfl
theorem en102:Enters Tryz.prog 102:=enters_of Tryz.func102 (by decide +kernel) rfl
theorem en103:Enters Tryz.prog 103:=enters_of Tryz.func103 (by decide +kernel) rfl
theorem en104:Enters Tryz.prog 104:=enters_of Tryz.func104 (by decide +kernel) rfl
theorem en105:Enters Tryz.prog 105:=enters_of Tryz.func105 (by decide +kernel) rfl
theorem en113:Enters Tryz.prog 113:=enters_of Tryz.func113 (by decide +kernel) rfl
theorem en114:Enters Tryz.prog 114:=enters_of Tryz.func114 (by decide +kernel) rfl
theorem en120:Enters Tryz.prog 120:=enters_of Tryz.func120 (by decide +kernel) rfl
theorem en121:Enters Tryz.prog 121:=enters_of Tryz.func121 (by decide +kernel) rfl
theorem en122:Enters Tryz.prog 122:=enters_of Tryz.func122 (by decide +kernel) rfl
theorem en123:Enters Tryz.prog 123:=enters_of Tryz.func123 (by decide +kernel) rfl
theorem en124:Enters Tryz.prog 124:=enters_of Tryz.func124 (by decide +kernel) rfl
theorem en125:Enters Tryz.prog 125:=enters_of Tryz.func125 (by decide +kernel) rfl
theorem en126:Enters Tryz.prog 126:=enters_of Tryz.func126 (by decide +kernel) rfl
theorem en127:Enters Tryz.prog 127:=enters_of Tryz.func127 (by decide +kernel) rfl
theorem en128:Enters Tryz.prog 128:=enters_of Tryz.func128 (by decide +kernel) rfl
theorem en139:Enters Tryz.prog 139:=enters_of Tryz.func139 (by decide +kernel) rfl
theorem en140:Enters Tryz.prog 140:=enters_of Tryz.func140 (by decide +kernel) rfl
theorem en141:Enters Tryz.prog 141:=enters_of Tryz.func141 (by decide +kernel) rfl
theorem en142:Enters Tryz.prog 142:=enters_of Tryz.func142 (by decide +kernel) rfl
theorem en143:Enters Tryz.prog 143:=enters_of Tryz.func143 (by decide +kernel) rfl
theorem en144:Enters Tryz.prog 144:=enters_of Tryz.func144 (by decide +kernel) rfl
theorem en145:Enters Tryz.prog 145:=enters_of Tryz.func145 (by decide +kernel) rfl
theorem en148:Enters Tryz.prog 148:=enters_of Tryz.func148 (by decide +kernel) rfl
theorem en150:Enters Tryz.prog 150:=enters_of Tryz.func150 (by decide +kernel) rfl
theorem en151:Enters Tryz.prog 151:=enters_of Tryz.func151 (by decide +kernel) rfl
theorem en152:Enters Tryz.prog 152:=enters_of Tryz.func152 (by decide +kernel) rfl
theorem en153:Enters Tryz.prog 153:=enters_of Tryz.func153 (by decide +kernel) rfl
theorem en154:Enters Tryz.prog 154:=enters_of Tryz.func154 (by decide +kernel) rfl
theorem en155:Enters Tryz.prog 155:=enters_of Tryz.func155 (by decide +kernel) rfl
theorem en156:Enters Tryz.prog 156:=enters_of Tryz.func156 (by decide +kernel) rfl
theorem en157:Enters Tryz.prog 157:=enters_of Tryz.func157 (by decide +kernel) rfl
theorem en158:Enters Tryz.prog 158:=enters_of Tryz.func158 (by decide +kernel) rfl
theorem en159:Enters Tryz.prog 159:=enters_of Tryz.func159 (by decide +kernel) rfl
theorem en160:Enters Tryz.prog 160:=enters_of Tryz.func160 (by decide +kernel) rfl
theorem en161:Enters Tryz.prog 161:=enters_of Tryz.func161 (by decide +kernel) rfl
theorem en162:Enters Tryz.prog 162:=enters_of Tryz.func162 (by decide +kernel) rfl
theorem en163:Enters Tryz.prog 163:=enters_of Tryz.func163 (by decide +kernel) rfl
theorem en164:Enters Tryz.prog 164:=enters_of Tryz.func164 (by decide +kernel) rfl
theorem en165:Enters Tryz.prog 165:=enters_of Tryz.func165 (by decide +kernel) rfl
theorem en180:Enters Tryz.prog 180:=enters_of Tryz.func180 (by decide +kernel) rfl
theorem en181:Enters Tryz.prog 181:=enters_of Tryz.func181 (by decide +kernel) rfl
theorem en182:Enters Tryz.prog 182:=enters_of Tryz.func182 (by decide +kernel) rfl
theorem en183:Enters Tryz.prog 183:=enters_of Tryz.func183 (by decide +kernel) rfl
theorem en187:Enters Tryz.prog 187:=enters_of Tryz.func187 (by decide +kernel) rfl
theorem en188:Enters Tryz.prog 188:=enters_of Tryz.func188 (by decide +kernel) rfl
theorem en189:Enters Tryz.prog 189:=enters_of Tryz.func189 (by decide +kernel) rfl
theorem en190:Enters Tryz.prog 190:=enters_of Tryz.func190 (by decide +kernel) rfl
theorem en196:Enters Tryz.prog 196:=enters_of Tryz.func196 (by decide +kernel) rfl
theorem en197:Enters Tryz.prog 197:=enters_of Tryz.func197 (by decide +kernel) rfl
theorem en198:Enters Tryz.prog 198:=enters_of Tryz.func198 (by decide +kernel) rfl
theorem en199:Enters Tryz.prog 199:=enters_of Tryz.func199 (by decide +kernel) rfl
theorem en200:Enters Tryz.prog 200:=enters_of Tryz.func200 (by decide +kernel) rfl
theorem en201:Enters Tryz.prog 201:=enters_of Tryz.func201 (by decide +kernel) rfl
theorem en202:Enters Tryz.prog 202:=enters_of Tryz.func202 (by decide +kernel) rfl
theorem en203:Enters Tryz.prog 203:=enters_of Tryz.func203 (by decide +kernel) rfl
theorem en210:Enters Tryz.prog 210:=enters_of Tryz.func210 (by decide +kernel) rfl
theorem en231:Enters Tryz.prog 231:=enters_of Tryz.func231 (by decide +kernel) rfl
theorem en232:Enters Tryz.prog 232:=enters_of Tryz.func232 (by decide +kernel) rfl
theorem en233:Enters Tryz.prog 233:=enters_of Tryz.func233 (by decide +kernel) rfl
theorem en239:Enters Tryz.prog 239:=enters_of Tryz.func239 (by decide +kernel) rfl
theorem en240:Enters Tryz.prog 240:=enters_of Tryz.func240 (by decide +kernel) rfl
theorem en241:Enters Tryz.prog 241:=enters_of Tryz.func241 (by decide +kernel) rfl
theorem en243:Enters Tryz.prog 243:=enters_of Tryz.func243 (by decide +kernel) rfl
theorem en244:Enters Tryz.prog 244:=enters_of Tryz.func244 (by decide +kernel) rfl
theorem en245:Enters Tryz.prog 245:=enters_of Tryz.func245 (by decide +kernel) rfl
theorem en246:Enters Tryz.prog 246:=enters_of Tryz.func246 (by decide +kernel) rfl
theorem en247:Enters Tryz.prog 247:=enters_of Tryz.func247 (by decide +kernel) rfl
end Go.Proofs.YtadhpeooehkklaaGreat
namespace Go.Proofs.YtadhpeooehkklaaGreat
open Go Go.RowKit Dv
structure Wd where
 s:ByteArray
 a:Int
structure Hd where
 kind:Int
 at':Int
 lo:Int
 hi:Int
 most:Int
 names:List Wd
 name:Wd
structure Ph where
 name:Wd
 bare:Bool
 label:List Wd
 wide:Int
 ck:Int
 cn:Int
 ca:Int
 cl:List Wd
mutual
inductive Ty where
 | mk (h:Hd) (ps:Pts)
inductive Pts where
 | nil
 | cons (p:Ph) (t:Ty) (r:Pts)
end
def Ty.h:Ty->Hd | .mk h _=>h
def Ty.ps:Ty->Pts | .mk _ ps=>ps
def Pts.toList:Pts->List (Ph × Ty)
 | .nil=>[]
 | .cons p t r=>(p,t) :: r.toList
def Pts.len:Pts->Nat
 | .nil=>0
 | .cons _ _ r=>r.len + 1
theorem Pts.len_eq:∀ ps:Pts,ps.len=ps.toList.length
 | .nil=>rfl
 | .cons _ _ r=>by simp [Pts.len,Pts.toList,Pts.len_eq r]
def Wd.wt (w:Wd):Nat:=w.s.size + 64
def wdsWt:List Wd->Nat
 | []=>0
 | w :: r=>w.wt + wdsWt r
def Hd.wt (h:Hd):Nat:=256 + wdsWt h.names + h.name.wt
def Ph.wt (p:Ph):Nat:=256 + p.name.wt + wdsWt p.label + wdsWt p.cl
mutual
def Ty.wt:Ty->Nat
 | .mk h ps=>h.wt + ps.wt
def Pts.wt:Pts->Nat
 | .nil=>0
 | .cons p t r=>p.wt + t.wt + r.wt
end
theorem wdsWt_len:∀ l:List Wd,64 * l.length<=wdsWt l
 | []=>Nat.le_refl _
 | w :: r=>by have:=wdsWt_len r;simp only [List.length_cons,wdsWt,Wd.wt];omega
theorem wdsWt_mem:∀ {l:List Wd} {w:Wd},w∈l->w.s.size + 64<=wdsWt l
 | x :: r,w,h=>by
  rcases List.mem_cons.1 h with h | h
  ·subst h;simp only [wdsWt,Wd.wt];omega
  ·have:=wdsWt_mem h;simp only [wdsWt];omega
theorem Pts.wt_len:∀ ps:Pts,256 * ps.len<=ps.wt
 | .nil=>Nat.le_refl _
 | .cons p t r=>by have:=Pts.wt_len r;simp only [Pts.len,Pts.wt,Ph.wt];omega
theorem Pts.wt_mem:∀ {ps:Pts} {p:Ph} {t:Ty},(p,t)∈ps.toList->p.wt + t.wt<=ps.wt
 | .cons p t r,q,u,h=>by
  rcases List.mem_cons.1 h with h | h
  ·cases h;simp only [Pts.wt];omega
  ·have:=Pts.wt_mem h;simp only [Pts.wt];omega
theorem Ty.wt_pos (t:Ty):256<=t.wt:=by
 cases t;simp only [Ty.wt,Hd.wt];omega
def dWd (w:Wd):List DV:=[.v (.string w.s),.v (.int .i64 w.a)]
def dWds (l:List Wd):List (List DV):=l.map dWd
def dPh (p:Ph) (tl:List DV):List DV:=
 .v (.string p.name.s) :: .v (.int .i64 p.name.a) :: .v (.bool p.bare) :: .sl 2 (dWds p.label) none :: .v (.int .i64 p.wide) :: .v (.int .i64 p.ck) :: .v (.int .i64 p.cn) :: .v (.int .i64 p.ca) :: .sl 2 (dWds p.cl) none :: tl
mutual
def dTy:Ty->List DV
 | .mk h ps=>[.v (.int .i64 h.kind),.v (.int .i64 h.at'),.v (.int .i64 h.lo),.v (.int .i64 h.hi),.v (.int .i64 h.most),.sl 2 (dWds h.names) none,.sl 18 (dPts ps) none,.v (.string h.name.s),.v (.int .i64 h.name.a)]
def dPts:Pts->List (List DV)
 | .nil=>[]
 | .cons p t r=>dPh p (dTy t) :: dPts r
end
theorem dWds_len (l:List Wd):(dWds l).length=l.length:=by simp [dWds]
theorem dPts_len:∀ ps:Pts,(dPts ps).length=ps.len
 | .nil=>by simp [dPts,Pts.len]
 | .cons p t r=>by simp [dPts,Pts.len,dPts_len r]
theorem dWds_get {l:List Wd} {j:Nat} {w:Wd} (h:l[j]? = some w):(dWds l)[j]? = some (dWd w):=by simp [dWds,h]
theorem dWds_snoc {l:List Wd} {e:Nat} {x:Wd} (h:l[e]? = some x):dWds (l.take e) ++ [dWd x]=dWds (l.take (e + 1)):=by
 rw [List.take_add_one,h];simp [dWds]
theorem dPts_get:∀ {ps:Pts} {j:Nat} {p:Ph} {t:Ty},ps.toList[j]? = some (p,t)->(dPts ps)[j]? = some (dPh p (dTy t))
 | .nil,j,p,t,h=>by simp [Pts.toList] at h
 | .cons q u r,0,p,t,h=>by
  simp only [Pts.toList,List.getElem?_cons_zero,oI,Prod.mk.injEq] at h;obtain ⟨rfl,rfl⟩:=h;simp [dPts]
 | .cons q u r,j + 1,p,t,h=>by
  simp only [Pts.toList,List.getElem?_cons_succ] at h;simp only [dPts,List.getElem?_cons_succ];exact dPts_get h
def Pts.drop:Nat->Pts->Pts
 | 0,ps=>ps
 | _ + 1,.nil=>.nil
 | e + 1,.cons _ _ r=>r.drop e
theorem Pts.drop_cons:∀ {e:Nat} {ps:Pts} {p:Ph} {t:Ty},ps.toList[e]? = some (p,t)->ps.drop e = .cons p t (ps.drop (e + 1))
 | 0,.cons q u r,p,t,h=>by
  simp only [Pts.toList,List.getElem?_cons_zero,oI,Prod.mk.injEq] at h;obtain ⟨rfl,rfl⟩:=h;rfl
 | e + 1,.cons q u r,p,t,h=>by
  simp only [Pts.toList,List.getElem?_cons_succ] at h;simp only [Pts.drop];exact Pts.drop_cons h
 | 0,.nil,p,t,h=>by simp [Pts.toList] at h
 | e + 1,.nil,p,t,h=>by simp [Pts.toList] at h
theorem Pts.drop_len:∀ (ps:Pts),ps.drop ps.len = .nil
 | .nil=>rfl
 | .cons _ _ r=>by simp only [Pts.len,Pts.drop];exact Pts.drop_len r
theorem Pts.get_lt {ps:Pts} {e:Nat} (h:e < ps.len):∃ p t,ps.toList[e]? = some (p,t):=by
 rw [Pts.len_eq] at h;exact ⟨_,_,gE h⟩
theorem drop_cons {α:Type} {l:List α} {e:Nat} {x:α} (h:l[e]? = some x):l.drop e=x :: l.drop (e + 1):=by
 obtain ⟨h1,h2⟩:=List.getElem?_eq_some_iff.1 h;rw [<- h2];exact List.drop_eq_getElem_cons h1
def emptyB:ByteArray:=⟨#[]⟩
def zeroHd:Hd:=⟨0,0,0,0,0,[],⟨emptyB,0⟩⟩
def zeroTy:Ty:=.mk zeroHd .nil
def zeroPh:Ph:=⟨⟨emptyB,0⟩,false,[],0,0,0,0,[]⟩
def barePh:Ph:=⟨⟨emptyB,0⟩,true,[],0,0,0,0,[]⟩
theorem nxt {e n:Nat} (h:e < n) (hn:n<=4611686018427387904):IntKind.i64.wrap ((e:Int) + 1)=((e + 1:Nat):Int):=by
 rw [IntWalk.i64_in _ ⟨by omega,by omega⟩];omega
theorem wrap64 {n:Int} (h1 : -9223372036854775808<=n) (h2:n<=9223372036854775807):IntKind.i64.wrap n=n:=IntWalk.i64_in n ⟨h1,h2⟩
theorem pickB_and (x a:Bool):pickB x a false=(x && a):=by cases x<;>rfl
theorem pickB_or (x b:Bool):pickB x true b=(x || b):=by cases x<;>rfl
end Go.Proofs.YtadhpeooehkklaaGreat
set_option maxRecDepth 100000
namespace Go.Proofs.YtadhpeooehkklaaGreat
open Go Go.RowKit Dv Tryz
def isLet (c:Int):Bool:=decide (97<=c) && decide (c<=122)
def isSign (c:Int):Bool:=(isLet c || (decide (48<=c) && decide (c<=57))) || decide (c=95)
def signs:List UInt8->Nat
 | []=>0
 | c :: r=>if isSign c.toNat=true then signs r + 1 else 0
def nameLen:List UInt8->Nat
 | []=>0
 | c :: r=>if isLet c.toNat=true then signs r + 1 else 0
def nameOK (s:ByteArray):Bool:=decide (0 < s.size) && (decide (s.size<=32) && decide (nameLen s.data.toList=s.size))
theorem sign_of_let {c:Int} (h:isLet c=true):isSign c=true:=by simp [isSign,h]
theorem signs_le:∀ l:List UInt8,signs l<=l.length
 | []=>Nat.le_refl _
 | c :: r=>by
  simp only [signs,List.length_cons];split
  ·have:=signs_le r;omega
  ·omega
theorem nameLen_of_let {c:UInt8} {r:List UInt8} (h:isLet c.toNat=true):nameLen (c :: r)=signs (c :: r):=by
 simp [nameLen,signs,h,sign_of_let h]
theorem drop_byte {s:ByteArray} {k:Nat} (h:k < s.size):∃ c:UInt8,s.data.toList.drop k=c :: s.data.toList.drop (k + 1)/\byteAt s k=c.toNat:=by
 have hk:k < s.data.toList.length:=by simpa using h
 refine ⟨s.data.toList[k],by rw [<- List.drop_eq_getElem_cons hk],?_⟩;simp [byteAt,List.getD_eq_getElem?_getD,gE hk]
theorem drop_end {s:ByteArray} {k:Nat} (h:s.size<=k):s.data.toList.drop k=[]:=List.drop_eq_nil_of_le (by simpa using h)
theorem letter_spec (c:Int):EvP Tryz.prog 196 [.v (.int .u8 c)] (.v (.bool (isLet c))):=by
 refine ev_go (P:=Tryz.prog) tt tt_ok 5000 9 [.tmp 2] Tryz.func196 rfl Tryz.ntmps196 rfl (nL rfl) (fun E9 w9 hn9 hm9=>?_);exact (congrArg (fun b=>DV.v (.bool b)) (pickB_and _ _):_=_)
theorem sign_spec (c:Int):EvP Tryz.prog 197 [.v (.int .u8 c)] (.v (.bool (isSign c))):=by
 refine ev_go (P:=Tryz.prog) tt tt_ok 5000 17 [.tmp 2] Tryz.func197 rfl Tryz.ntmps197 rfl (nL rfl) (fun E9 w9 hn9 hm9=>?_);refine call_p en196 (letter_spec c) ax rfl ?_;refine (congrArg (fun b=>DV.v (.bool b)) ?_:_=_);simp only [pickB_and,pickB_or,isSign]
abbrev takeSt (s:ByteArray) (i e:Nat):St:=⟨[(5,⟨[],.v (.int .i64 e)⟩),(0,⟨[],.v (.string s)⟩),(1,⟨[],.v (.int .i64 i)⟩)],[],[]⟩
theorem extract_none (s:ByteArray) (i:Nat):s.extract i (i + 0)=⟨#[]⟩:=by
 apply ByteArray.ext;simp only [Nat.add_zero,ByteArray.extract,ByteArray.copySlice];apply Array.ext';simp
theorem take_spec (s:ByteArray) (i:Nat) (hi:i < s.size) (hs:s.size<=4611686018427387904):EvP Tryz.prog 159 [.v (.string s),.v (.int .i64 i)]
  (.tup [.v (.string (s.extract i (i + nameLen (s.data.toList.drop i)))),.v (.int .i64 ((i + nameLen (s.data.toList.drop i):Nat):Int))]):=by
 obtain ⟨c0,hd0,hb0⟩:=drop_byte hi;refine ev_go (P:=Tryz.prog) tt tt_ok 5000 38 [.tmp 4,.tmp 5] Tryz.func159 rfl Tryz.ntmps159 rfl (nL rfl) (fun E9 w9 hn9 hm9=>?_);refine br (fun h=>?_) (fun _=>?_)
 ·simp [pickB_or] at h;omega
 refine ⟨⟨by omega,by omega⟩,?_⟩;refine call_p en196 (letter_spec _) ax rfl ?_;refine br (fun h=>?_) (fun h=>?_)
 ·have hl:isLet (c0.toNat:Int)=false:=by
   have:(!isLet ((byteAt s i:Nat):Int))=true:=h;rw [hb0] at this;simpa using this
  have hn:nameLen (s.data.toList.drop i)=0:=by rw [hd0];simp [nameLen,hl]
  rw [hn,extract_none];exact ⟨_,ax,rfl⟩
 have hl:isLet (c0.toNat:Int)=true:=by
  have:(!isLet ((byteAt s i:Nat):Int))=false:=h;rw [hb0] at this;simpa using this
 have hn:nameLen (s.data.toList.drop i)=signs (s.data.toList.drop i):=by rw [hd0];exact nameLen_of_let hl
 rw [hn]
 refine loop_i (fun j st=>∃ e:Nat,st=takeSt s i e/\e<=s.size/\i<=e/\e + signs (s.data.toList.drop e)=i + signs (s.data.toList.drop i)/\j=s.size - e)
  (s.size - i) (takeSt s i i) (weak_mk ⟨_,rfl⟩ wA rfl rfl rfl wB) ⟨i,rfl,by omega,by omega,rfl,rfl⟩ ?_
 rintro j st ⟨e,rfl,he,hie,hinv,rfl⟩;refine br (fun h=>?_) (fun h=>?_)
 ·have hlt:e < s.size:=by simpa using h
  refine ⟨⟨by omega,by omega⟩,?_⟩;refine call_p en197 (sign_spec _) ax rfl ?_;obtain ⟨c,hd,hb⟩:=drop_byte hlt;refine br (fun h2=>?_) (fun h2=>?_)
  ·have hsg:isSign (c.toNat:Int)=true:=by
    have:isSign ((byteAt s e:Nat):Int)=true:=h2
    rwa [hb] at this
   refine ⟨takeSt s i (e + 1),(weak_mk ⟨_,rfl⟩ wA rfl rfl rfl (wNB hlt)),s.size - (e + 1),by omega,e + 1,rfl,by omega,by omega,?_,rfl⟩;rw [hd] at hinv;simp only [signs,hsg,if_true] at hinv;omega
  ·have hsg:isSign (c.toNat:Int)=false:=by
    have:isSign ((byteAt s e:Nat):Int)=false:=h2
    rwa [hb] at this
   rw [hd] at hinv;simp only [signs,hsg] at hinv;refine ⟨⟨by omega,by omega,by omega⟩,?_⟩;have:i + signs (s.data.toList.drop i)=e:=by simp at hinv;omega
   rw [this];exact ⟨_,ax,rfl⟩
 ·have hge:e=s.size:=by simp at h;omega
  rw [drop_end (by omega)] at hinv;simp only [signs] at hinv;refine ⟨⟨by omega,by omega,by omega⟩,?_⟩;have:i + signs (s.data.toList.drop i)=e:=by omega
  rw [this];exact ⟨_,ax,rfl⟩
theorem take_nil (s:ByteArray) (hs:s.size=0):EvP Tryz.prog 159 [.v (.string s),.v (.int .i64 0)] (.tup [.v (.string ⟨#[]⟩),.v (.int .i64 0)]):=by
 refine ev_go (P:=Tryz.prog) tt tt_ok 5000 38 [.tmp 4,.tmp 5] Tryz.func159 rfl Tryz.ntmps159 rfl (nL rfl) (fun E9 w9 hn9 hm9=>?_);refine br (fun _=>?_) (fun h=>?_)
 ·exact ⟨_,ax,rfl⟩
 ·simp [pickB_or,hs] at h
theorem nameLen_le (l:List UInt8):nameLen l<=l.length:=by
 cases l with
 | nil=>exact Nat.le_refl _
 | cons c r=>
  simp only [nameLen,List.length_cons];split
  ·have:=signs_le r;omega
  ·omega
theorem decEmpty (s:ByteArray):decide (s=⟨#[]⟩)=decide (s.size=0):=by
 rw [Bool.eq_iff_iff];simp only [decide_eq_true_eq];constructor
 ·rintro rfl;rfl
 ·intro h;apply ByteArray.ext;exact Array.eq_empty_of_size_eq_zero h
theorem right_spec (s:ByteArray) (hs:s.size<=4611686018427387904):EvP Tryz.prog 94 [.v (.string s)] (.v (.bool (nameOK s))):=by
 refine ev_go (P:=Tryz.prog) tt tt_ok 5000 22 [.tmp 2] Tryz.func94 rfl Tryz.ntmps94 rfl (nL rfl) (fun E9 w9 hn9 hm9=>?_);by_cases h0:s.size=0
 ·refine call_p en159 (take_nil s h0) ax rfl ?_;refine (congrArg (fun b=>DV.v (.bool b)) ?_:_=_);simp [pickB_and,nameOK,decEmpty,h0]
 ·refine call_p en159 (take_spec s 0 (by omega) hs) ax rfl ?_;refine (congrArg (fun b=>DV.v (.bool b)) ?_:_=_);have hl:=nameLen_le s.data.toList;simp only [Array.length_toList,ByteArray.size_data] at hl;simp only [pickB_and,nameOK,decEmpty,List.drop_zero,Nat.zero_add];rw [Bool.eq_iff_iff];simp only [Bool.and_eq_true,decide_eq_true_eq,Bool.not_eq_true',decide_eq_false_iff_not];omega
def dBs (l:List ByteArray):List (List DV):=l.map fun s=>[.v (.string s)]
def dInts (l:List Nat):List (List DV):=l.map fun (i:Nat)=>[.v (.int .i64 (i:Int))]
theorem dBs_len (l:List ByteArray):(dBs l).length=l.length:=by simp [dBs]
theorem dInts_len (l:List Nat):(dInts l).length=l.length:=by simp [dInts]
theorem dBs_get {l:List ByteArray} {j:Nat} {x:ByteArray} (h:l[j]? = some x):(dBs l)[j]? = some [.v (.string x)]:=by simp [dBs,h]
theorem dInts_get {l:List Nat} {j:Nat} {x:Nat} (h:l[j]? = some x):(dInts l)[j]? = some [.v (.int .i64 (x:Int))]:=by simp [dInts,h]
abbrev srchSt (g:Nat) (cb:List DV) (i j:Nat):St:=⟨[(1,⟨[],.fn g [] cb⟩),(5,⟨[],.v (.int .i64 i)⟩),(6,⟨[],.v (.int .i64 j)⟩)],[],[]⟩
theorem search_spec (g:Nat) (hen:Enters Tryz.prog g) (cb:List DV) (n m:Nat) (hn:n<=1099511627776) (hm:m<=n) (hcb:CcL [] 0 0 0 cb cb) (hcl:clB.clL 0 0 cb=true)
  (hp:∀ i:Nat,i < n->EvP Tryz.prog g (.v (.int .i64 i) :: cb) (.v (.bool (decide (m<=i))))) :
  EvP Tryz.prog 161 [.v (.int .i64 n),.fn g [] cb] (.v (.int .i64 m)):=by
 refine ev_go (P:=Tryz.prog) tt tt_ok 5000 26 [.tmp 4] Tryz.func161 rfl Tryz.ntmps161 rfl (nL rfl) (fun E9 w9 hn9 hm9=>?_);have hfn:clB 0 0 (.fn g [] cb)=true:=by simp only [clB,Bool.and_eq_true];exact ⟨rfl,hcl⟩
 refine loop_i (fun j st=>∃ a b:Nat,st=srchSt g cb a b/\a<=m/\m<=b/\b<=n/\j=b - a) n (srchSt g cb 0 n) (weak_mk ⟨_,rfl⟩ wA rfl rfl rfl (by repeat' (first | exact trivial | exact we_rfl rfl | exact we_rfl hfn | refine ⟨⟨_,rfl,?_⟩,?_⟩))) ⟨0,n,rfl,by omega,by omega,by omega,by omega⟩ ?_;rintro j st ⟨a,b,rfl,h1,h2,h3,rfl⟩;refine br (fun h=>?_) (fun h=>?_)
 ·have hlt:a < b:=by simpa using h
  have hmid:IntKind.i64.wrap ((IntKind.u64.wrap (IntKind.i64.wrap ((a:Int) + (b:Int)))).fdiv (2 ^ (min ((1:Int).toNat) IntKind.u64.bits)))=(((a + b) / 2:Nat):Int):=by
   rw [wrap64 (n:=(a:Int) + (b:Int)) (by omega) (by omega),IntKind.wrap_u64];have e2:(2:Int) ^ (min ((1:Int).toNat) IntKind.u64.bits)=2:=by decide
   rw [e2,Int.fdiv_eq_ediv_of_nonneg _ (by decide),wrap64 (by omega) (by omega)];omega
  refine ⟨by decide,?_⟩;refine call_p hen (hp ((a + b) / 2) (by omega)) ⟨_,_,rfl,congrArg (fun z=>DV.v (.int .i64 z)) hmid,hcb⟩ rfl ?_;refine br (fun hq=>?_) (fun hq=>?_)
  ·have hq:(a + b) / 2 < m:=by simpa using hq
   have hn1:=nxt (e:=(a + b) / 2) (n:=n) (by omega) (by omega);rw [<- hmid] at hn1;refine ⟨srchSt g cb ((a + b) / 2 + 1) b,(weak_mk ⟨_,rfl⟩ wA rfl rfl rfl (by repeat' (first | exact trivial | exact we_rfl rfl | exact we_rfl hfn | exact we_int hn1 | refine ⟨⟨_,rfl,?_⟩,?_⟩))),b - ((a + b) / 2 + 1),by omega,(a + b) / 2 + 1,b,rfl,by omega,by omega,by omega,rfl⟩
  ·have hq:m<=(a + b) / 2:=by simpa using hq
   refine ⟨srchSt g cb a ((a + b) / 2),(weak_mk ⟨_,rfl⟩ wA rfl rfl rfl (by repeat' (first | exact trivial | exact we_rfl rfl | exact we_rfl hfn | exact we_int hmid | refine ⟨⟨_,rfl,?_⟩,?_⟩))),(a + b) / 2 - a,by omega,a,(a + b) / 2,rfl,by omega,by omega,by omega,rfl⟩
 ·have hge:¬ a < b:=by simpa using h
  have:a=m:=by omega
  subst this;exact (rfl:_=_)
def bLt (a b:ByteArray):Bool:=Op.bytesLess a.data.toList b.data.toList
theorem bytesLess_irr:∀ l:List UInt8,Op.bytesLess l l=false
 | []=>rfl
 | a :: r=>by simp [Op.bytesLess,bytesLess_irr r]
theorem bytesLess_asym:∀ {a b:List UInt8},Op.bytesLess a b=true->Op.bytesLess b a=false
 | _,[],h=>by simp [Op.bytesLess] at h
 | [],b :: r,_=>rfl
 | a :: x,b :: y,h=>by
  simp only [Op.bytesLess,Bool.or_eq_true,decide_eq_true_eq,Bool.and_eq_true,beq_iff_eq] at h;simp only [Op.bytesLess,Bool.or_eq_false_iff,decide_eq_false_iff_not,Bool.and_eq_false_imp,beq_iff_eq];rcases h with h | ⟨rfl,h⟩
  ·refine ⟨fun h2=>?_,fun h2=>?_⟩
   ·exact absurd (UInt8.lt_trans h h2) (UInt8.lt_irrefl _)
   ·subst h2;exact absurd h (UInt8.lt_irrefl _)
  ·exact ⟨UInt8.lt_irrefl _,fun _=>bytesLess_asym h⟩
structure TblOK (L:List ByteArray) (ord:List Nat):Prop where
 lt:∀ (i p:Nat),ord[i]? = some p->p < L.length
 srt:∀ (i j p q:Nat) (s t:ByteArray),i < j->ord[i]? = some p->ord[j]? = some q->L[p]? = some s->L[q]? = some t->bLt s t=true
 fst:∀ (i p j:Nat) (s:ByteArray),ord[i]? = some p->L[p]? = some s->L[j]? = some s->p<=j
 all:∀ (j:Nat) (s:ByteArray),L[j]? = some s->∃ i p:Nat,ord[i]? = some p/\L[p]? = some s
abbrev dTbl (L:List ByteArray) (ord:List Nat):List DV:=[.sl 1 (dBs L) none,.sl 1 (dInts ord) none]
theorem find1_spec (L:List ByteArray) (ord:List Nat) (s:ByteArray) (i p:Nat) (t:ByteArray) (hi:ord[i]? = some p) (hp:L[p]? = some t) :
  EvP Tryz.prog 162 [.v (.int .i64 i),.pt [.pt (dTbl L ord) 0] 0,.pt [.v (.string s)] 0] (.v (.bool (!bLt t s))):=by
 refine ev_go (P:=Tryz.prog) tt tt_ok 5000 20 [.tmp 4] Tryz.func162 rfl Tryz.ntmps162 rfl (nL rfl) (fun E9 w9 hn9 hm9=>?_);refine drawG_i (fun _=>false) mo (by decide +kernel) ?_;refine ⟨_,⟨by omega,dInts_get hi⟩,?_⟩;refine ⟨_,⟨by omega,dBs_get hp⟩,?_⟩;exact (rfl:_=_)
theorem find_spec (L:List ByteArray) (ord:List Nat) (s:ByteArray) (q p:Nat) (hT:TblOK L ord) (hl:ord.length<=1099511627776) (hq:ord[q]? = some p) (hp:L[p]? = some s) :
  EvP Tryz.prog 98 [.pt (dTbl L ord) 0,.v (.string s)] (.tup [.v (.int .i64 p),.v (.bool true)]):=by
 have hqlt:=(gS hq).1;refine ev_go (P:=Tryz.prog) tt tt_ok 5000 47 [.tmp 4,.tmp 5] Tryz.func98 rfl Tryz.ntmps98 rfl (nL rfl) (fun E9 w9 hn9 hm9=>?_)
 have hcl:∀ i:Nat,i < ord.length->EvP Tryz.prog 162 [.v (.int .i64 i),.pt [.pt (dTbl L ord) 0] 0,.pt [.v (.string s)] 0] (.v (.bool (decide (q<=i)))):=by
  intro i hi;obtain ⟨p',hp'⟩:∃ p',ord[i]? = some p':=⟨_,gE hi⟩;obtain ⟨t,ht⟩:∃ t,L[p']? = some t:=⟨_,gE (hT.lt i p' hp')⟩;have:=find1_spec L ord s i p' t hp' ht
  have e:(!bLt t s)=decide (q<=i):=by
   rcases Nat.lt_trichotomy i q with h | h | h
   ·rw [hT.srt i q p' p t s h hp' hq ht hp];simp;omega
   ·subst h;rw [hq] at hp';simp only [oI] at hp';subst hp';rw [hp] at ht;simp only [oI] at ht;subst ht;rw [bLt,bytesLess_irr];simp
   ·have h2:=hT.srt q i p p' s t h hq hp' hp ht;rw [bLt,bytesLess_asym h2];simp;omega
  rw [e] at this;exact this
 have hS:=search_spec 162 en162 [.pt [.pt (dTbl L ord) 0] 0,.pt [.v (.string s)] 0] ord.length q hl (by omega) ax rfl hcl;refine call_b en161 hS (by repeat' (first | exact rfl | exact trivial | exact Or.inr (Or.inl ⟨_,rfl⟩) | exact Or.inr ⟨_,rfl⟩ | exact Or.inl ⟨rfl,rfl⟩ | exact Or.inl rfl | refine Or.inr ⟨_,_,rfl,Nat.zero_le _,rfl,?_⟩ | refine ⟨_,_,rfl,?_,?_⟩ | refine ⟨_,rfl,?_⟩ | exact congrArg (fun z=>DV.v (.int .i64 z)) (congrArg Nat.cast (dInts_len ord)) | refine Or.inr (Or.inr (Or.inr ⟨_,_,rfl,?_⟩)) | exact Or.inl rfl | refine Or.inr ?_)) rfl ?_;refine drawG_i (fun _=>false) mo (by decide +kernel) ?_;refine br (fun h=>?_) (fun h=>?_)
 ·refine ⟨_,⟨by omega,dInts_get hq⟩,?_⟩;refine ⟨_,⟨by omega,dBs_get hp⟩,?_⟩;refine br (fun h2=>?_) (fun h2=>?_)
  ·exfalso;simp [pickB_or,dInts_len] at h2
  ·refine ⟨_,⟨by omega,dInts_get hq⟩,?_⟩;exact ⟨_,ax,rfl⟩
 ·exfalso;have:decide ((q:Int)=((dInts ord).length:Int))=true:=by simpa using h
  simp [dInts_len] at this;omega
end Go.Proofs.YtadhpeooehkklaaGreat
set_option maxRecDepth 100000
namespace Go.Proofs
open Go.Shelf
def Tryz.laysGg6_ren:Go.Shelf.Ren:=⟨fun | 6=>148 | 10=>191 | 11=>192 | 12=>193 | 13=>194 | 14=>195 | 24=>221 | 25=>222 | 26=>223 | 27=>224 | 28=>225 | 29=>226 | 30=>227 | 31=>228 | 32=>229 | 33=>230 | 34=>234 | 35=>235 | 36=>236 | 37=>237 | 38=>238 | 39=>242 | n=>n,fun | 20=>20 | 26=>224 | 35=>264 | 0=>0 | 37=>266 | 3=>3 | 41=>269 | 44=>272 | 49=>285 | 51=>229 | 4=>4 | 54=>288 | 53=>287 | 58=>168 | 5=>5 | 9=>9 | 60=>296 | 64=>300 | 66=>302 | 67=>38 | 17=>17 | 32=>261 | 33=>262 | 82=>319 | 12=>12 | 75=>312 | 76=>313 | 77=>314 | 78=>315 | 79=>316 | 80=>317 | n=>n,fun | n=>n⟩
theorem Tryz.laysGg6:Go.Proofs.LaysGg.n6 Tryz.prog Tryz.laysGg6_ren:={
 mixed:=by kernel_rfl
 f6:=Tryz.func148.trans (congrArg some (by kernel_rfl))
 f10:=Tryz.func191.trans (congrArg some (by kernel_rfl))
 f11:=Tryz.func192.trans (congrArg some (by kernel_rfl))
 f12:=Tryz.func193.trans (congrArg some (by kernel_rfl))
 f13:=Tryz.func194.trans (congrArg some (by kernel_rfl))
 f14:=Tryz.func195.trans (congrArg some (by kernel_rfl))
 f24:=Tryz.func221.trans (congrArg some (by kernel_rfl))
 f25:=Tryz.func222.trans (congrArg some (by kernel_rfl))
 f26:=Tryz.func223.trans (congrArg some (by kernel_rfl))
 f27:=Tryz.func224.trans (congrArg some (by kernel_rfl))
 f28:=Tryz.func225.trans (congrArg some (by kernel_rfl))
 f29:=Tryz.func226.trans (congrArg some (by kernel_rfl))
 f30:=Tryz.func227.trans (congrArg some (by kernel_rfl))
 f31:=Tryz.func228.trans (congrArg some (by kernel_rfl))
 f32:=Tryz.func229.trans (congrArg some (by kernel_rfl))
 f33:=Tryz.func230.trans (congrArg some (by kernel_rfl))
 f34:=Tryz.func234.trans (congrArg some (by kernel_rfl))
 f35:=Tryz.func235.trans (congrArg some (by kernel_rfl))
 f36:=Tryz.func236.trans (congrArg some (by kernel_rfl))
 f37:=Tryz.func237.trans (congrArg some (by kernel_rfl))
 f38:=Tryz.func238.trans (congrArg some (by kernel_rfl))
 f39:=Tryz.func242.trans (congrArg some (by kernel_rfl))
 t0:=Tryz.underlying0
 a0:=Tryz.isAgg0
 z0:=Tryz.sizeOf0
 v0:=Tryz.zeroValue0
 i0:=by kernel_rfl
 t3:=Tryz.underlying3
 a3:=Tryz.isAgg3
 z3:=Tryz.sizeOf3
 v3:=Tryz.zeroValue3
 i3:=by kernel_rfl
 t4:=Tryz.underlying4
 a4:=Tryz.isAgg4
 z4:=Tryz.sizeOf4
 v4:=Tryz.zeroValue4
 i4:=by kernel_rfl
 t5:=Tryz.underlying5
 a5:=Tryz.isAgg5
 z5:=Tryz.sizeOf5
 v5:=Tryz.zeroValue5
 i5:=by kernel_rfl
 t9:=Tryz.underlying9
 a9:=Tryz.isAgg9
 z9:=Tryz.sizeOf9
 v9:=Tryz.zeroValue9
 i9:=by kernel_rfl
 t12:=Tryz.underlying12
 a12:=Tryz.isAgg12
 z12:=Tryz.sizeOf12
 v12:=Tryz.zeroValue12
 i12:=by kernel_rfl
 t17:=Tryz.underlying17
 a17:=Tryz.isAgg17
 z17:=Tryz.sizeOf17
 v17:=Tryz.zeroValue17
 i17:=by kernel_rfl
 t20:=Tryz.underlying20
 a20:=Tryz.isAgg20
 z20:=Tryz.sizeOf20
 v20:=Tryz.zeroValue20
 i20:=by kernel_rfl
 t26:=Tryz.underlying224
 a26:=Tryz.isAgg224
 z26:=Tryz.sizeOf224
 v26:=Tryz.zeroValue224
 i26:=by kernel_rfl
 t32:=Tryz.underlying261
 a32:=Tryz.isAgg261
 z32:=Tryz.sizeOf261
 v32:=Tryz.zeroValue261
 i32:=by kernel_rfl
 t33:=Tryz.underlying262
 a33:=Tryz.isAgg262
 z33:=Tryz.sizeOf262
 v33:=Tryz.zeroValue262
 i33:=by kernel_rfl
 t35:=Tryz.underlying264
 a35:=Tryz.isAgg264
 z35:=Tryz.sizeOf264
 v35:=Tryz.zeroValue264
 i35:=by kernel_rfl
 t37:=Tryz.underlying266
 a37:=Tryz.isAgg266
 z37:=Tryz.sizeOf266
 v37:=Tryz.zeroValue266
 i37:=by kernel_rfl
 t41:=Tryz.underlying269
 a41:=Tryz.isAgg269
 z41:=Tryz.sizeOf269
 v41:=Tryz.zeroValue269
 i41:=by kernel_rfl
 t44:=Tryz.underlying272
 a44:=Tryz.isAgg272
 z44:=Tryz.sizeOf272
 v44:=Tryz.zeroValue272
 i44:=by kernel_rfl
 t49:=Tryz.underlying285
 a49:=Tryz.isAgg285
 z49:=Tryz.sizeOf285
 v49:=Tryz.zeroValue285
 i49:=by kernel_rfl
 t51:=Tryz.underlying229
 a51:=Tryz.isAgg229
 z51:=Tryz.sizeOf229
 v51:=Tryz.zeroValue229
 i51:=by kernel_rfl
 t53:=Tryz.underlying287
 a53:=Tryz.isAgg287
 z53:=Tryz.sizeOf287
 v53:=Tryz.zeroValue287
 i53:=by kernel_rfl
 t54:=Tryz.underlying288
 a54:=Tryz.isAgg288
 z54:=Tryz.sizeOf288
 v54:=Tryz.zeroValue288
 i54:=by kernel_rfl
 t58:=Tryz.underlying168
 a58:=Tryz.isAgg168
 z58:=Tryz.sizeOf168
 v58:=Tryz.zeroValue168
 i58:=by kernel_rfl
 t60:=Tryz.underlying296
 a60:=Tryz.isAgg296
 z60:=Tryz.sizeOf296
 v60:=Tryz.zeroValue296
 i60:=by kernel_rfl
 t64:=Tryz.underlying300
 a64:=Tryz.isAgg300
 z64:=Tryz.sizeOf300
 v64:=Tryz.zeroValue300
 i64:=by kernel_rfl
 t66:=Tryz.underlying302
 a66:=Tryz.isAgg302
 z66:=Tryz.sizeOf302
 v66:=Tryz.zeroValue302
 i66:=by kernel_rfl
 t67:=Tryz.underlying38
 a67:=Tryz.isAgg38
 z67:=Tryz.sizeOf38
 v67:=Tryz.zeroValue38
 i67:=by kernel_rfl
 t75:=Tryz.underlying312
 a75:=Tryz.isAgg312
 z75:=Tryz.sizeOf312
 v75:=Tryz.zeroValue312
 i75:=by kernel_rfl
 t76:=Tryz.underlying313
 a76:=Tryz.isAgg313
 z76:=Tryz.sizeOf313
 v76:=Tryz.zeroValue313
 i76:=by kernel_rfl
 t77:=Tryz.underlying314
 a77:=Tryz.isAgg314
 z77:=Tryz.sizeOf314
 v77:=Tryz.zeroValue314
 i77:=by kernel_rfl
 t78:=Tryz.underlying315
 a78:=Tryz.isAgg315
 z78:=Tryz.sizeOf315
 v78:=Tryz.zeroValue315
 i78:=by kernel_rfl
 t79:=Tryz.underlying316
 a79:=Tryz.isAgg316
 z79:=Tryz.sizeOf316
 v79:=Tryz.zeroValue316
 i79:=by kernel_rfl
 t80:=Tryz.underlying317
 a80:=Tryz.isAgg317
 z80:=Tryz.sizeOf317
 v80:=Tryz.zeroValue317
 i80:=by kernel_rfl
 t82:=Tryz.underlying319
 a82:=Tryz.isAgg319
 z82:=Tryz.sizeOf319
 v82:=Tryz.zeroValue319
 i82:=by kernel_rfl }
end Go.Proofs
namespace Go.Proofs.YtadhpeooehkklaaGreat
open Go Go.RowKit Go.Lib Go.Sort Tryz
noncomputable def siT:TypeInfo:=(Tryz.prog.info? 69).get (by kernel_rfl)
noncomputable def siE:TypeInfo:=(Tryz.prog.info? 3).get (by kernel_rfl)
theorem siK (n:Nat) (h2:2<=n):Lib.swapperK n siE 2=5:=by
 have a:siE.hasPointers=false:=by kernel_rfl
 have b:siE.bytes=8:=by kernel_rfl
 have c:(n == 0)=false:=by simp;omega
 have d:(n == 1)=false:=by simp;omega
 simp [Lib.swapperK,a,b,c,d]
theorem sort_big {α:Type} [Inhabited α] (enc:α->Value) (h1:∀ x,(enc x).oneCell'=true) {lt:α->α->Bool} (hO:SWO lt) (lb:Array Value) (blk c:Nat) (d:Array α) (h2:2<=d.size) (hsz:d.size < 4611686018427387904) (w:World)
  (hless:LessReads Tryz.prog 149 lb enc lt blk 0 d.size w) (hH:Holds enc w blk 0 d) (hblk:blk < w.heap.size) :
  Calls Tryz.prog 148 #[.iface 69 (.slice (some ⟨blk,0,none⟩) d.size c),.func (.func 149) #[] lb] w fun e w'=>
   e = .returned (.tuple #[])/\∃ d' n os,PermIn 0 d.size d d' /\ SortedIn lt 0 d.size d' /\ w'=grow (putRow enc (Sort.ahead w n) blk 0 d') os:=
 Any.sort_Slice_sorted Tryz.laysGg6 69 3 siT siE (by kernel_rfl) (by kernel_rfl) (by kernel_rfl) (by kernel_rfl) 2 (fun _=>by kernel_rfl) (by kernel_rfl) (fun _=>by kernel_rfl) enc h1 lt hO 149 lb
  (enters_of Tryz.func149 (by kernel_rfl) rfl) blk 0 c d h2 hsz 216 (by rw [siK _ h2];kernel_rfl) true
  (fun args W=>run_callFunc_extern Tryz.func216 (by kernel_rfl) (by kernel_rfl) (by kernel_rfl) (e:=Extern.ReflectliteSwapper.swap true) (by kernel_rfl) args W) w hless hH hblk
theorem sort_tiny (lb:Array Value) (p:Option Addr) (n c:Nat) (h1:n<=1) (w:World) :
  Calls Tryz.prog 148 #[.iface 69 (.slice p n c),.func (.func 149) #[] lb] w fun e w'=>e = .returned (.tuple #[])/\∃ os,w'=grow w os:=by
 have h:n=0∨n=1:=by omega
 rcases h with rfl | rfl
 ·exact Any.sort_Slice_tiny Tryz.laysGg6 69 3 siT siE (by kernel_rfl) (by kernel_rfl) (by kernel_rfl) (by kernel_rfl) 2 (fun _=>by kernel_rfl) p 0 c h1 212 (by kernel_rfl) _ _ _ w
 ·exact Any.sort_Slice_tiny Tryz.laysGg6 69 3 siT siE (by kernel_rfl) (by kernel_rfl) (by kernel_rfl) (by kernel_rfl) 2 (fun _=>by kernel_rfl) p 1 c h1 213 (by kernel_rfl) _ _ _ w
end Go.Proofs.YtadhpeooehkklaaGreat
set_option maxRecDepth 100000
namespace Go.Proofs.YtadhpeooehkklaaGreat
open Go Go.RowKit Dv Tryz
theorem bytesLess_tot:∀ {a b:List UInt8},Op.bytesLess a b=false->a=b∨Op.bytesLess b a=true
 | [],[],_=>.inl rfl
 | a :: x,[],_=>.inr rfl
 | [],b :: r,h=>by simp [Op.bytesLess] at h
 | a :: x,b :: y,h=>by
  simp only [Op.bytesLess,Bool.or_eq_false_iff,decide_eq_false_iff_not,Bool.and_eq_false_imp,beq_iff_eq] at h;simp only [Op.bytesLess,Bool.or_eq_true,decide_eq_true_eq,Bool.and_eq_true,beq_iff_eq];by_cases hab:a=b
  ·subst hab;rcases bytesLess_tot (h.2 rfl) with h2 | h2
   ·exact .inl (by rw [h2])
   ·exact .inr (.inr ⟨rfl,h2⟩)
  ·refine .inr (.inl ?_);rcases UInt8.lt_or_lt_of_ne hab with h3 | h3
   ·exact absurd h3 h.1
   ·exact h3
theorem bytesLess_trans:∀ {a b c:List UInt8},Op.bytesLess a b=true->Op.bytesLess b c=true->Op.bytesLess a c=true
 | _,[],_,h,_=>by simp [Op.bytesLess] at h
 | _,_ :: _,[],_,h=>by simp [Op.bytesLess] at h
 | [],b :: y,c :: z,_,_=>rfl
 | a :: x,b :: y,c :: z,h1,h2=>by
  simp only [Op.bytesLess,Bool.or_eq_true,decide_eq_true_eq,Bool.and_eq_true,beq_iff_eq] at h1 h2 ⊢;rcases h1 with h1 | ⟨rfl,h1⟩
  ·rcases h2 with h2 | ⟨rfl,h2⟩
   ·exact .inl (UInt8.lt_trans h1 h2)
   ·exact .inl h1
  ·rcases h2 with h2 | ⟨rfl,h2⟩
   ·exact .inl h2
   ·exact .inr ⟨rfl,bytesLess_trans h1 h2⟩
theorem bLt_tot {s t:ByteArray} (h:bLt s t=false):s=t∨bLt t s=true:=by
 rcases bytesLess_tot h with h | h
 ·exact .inl (ByteArray.ext (Array.ext' h))
 ·exact .inr h
def nLt (L:List ByteArray) (p q:Nat):Bool:=
 if L.getD p emptyB=L.getD q emptyB then decide (p < q) else bLt (L.getD p emptyB) (L.getD q emptyB)
theorem nLt_swo (L:List ByteArray):Sort.SWO (nLt L):=by
 have irr:∀ x,nLt L x x=false:=fun x=>by simp [nLt]
 have tr:∀ x y z,nLt L x y=true->nLt L y z=true->nLt L x z=true:=by
  intro x y z h1 h2;unfold nLt at *;generalize L.getD x emptyB=a at *;generalize L.getD y emptyB=b at *;generalize L.getD z emptyB=c at *;by_cases hab:a=b
  ·subst hab;rw [if_pos rfl] at h1;by_cases hbc:a=c
   ·rw [if_pos hbc] at h2 ⊢;simp at h1 h2 ⊢;omega
   ·rw [if_neg hbc] at h2 ⊢;exact h2
  ·rw [if_neg hab] at h1;by_cases hbc:b=c
   ·subst hbc;rw [if_neg hab];exact h1
   ·rw [if_neg hbc] at h2
    have hac:a≠c:=by
     rintro rfl;have:=bytesLess_asym h1;rw [bLt,this] at h2;cases h2
    rw [if_neg hac];exact bytesLess_trans h1 h2
 have tot:∀ x y,nLt L x y=false->x=y∨nLt L y x=true:=by
  intro x y h;unfold nLt at *;by_cases hab:L.getD x emptyB=L.getD y emptyB
  ·rw [if_pos hab] at h;rw [if_pos hab.symm];simp at h ⊢;omega
  ·rw [if_neg hab] at h;rw [if_neg (fun e=>hab e.symm)];rcases bLt_tot h with h | h
   ·exact absurd h hab
   ·exact .inr h
 refine ⟨irr,tr,fun x y z h1 h2=>?_⟩;rcases tot x y h1 with rfl | h3
 ·exact h2
 ·rcases tot y z h2 with rfl | h4
  ·exact h1
  ·cases h5:nLt L x z
   ·rfl
   ·have:=tr _ _ _ (tr _ _ _ h4 h3) h5;rw [irr] at this;cases this
theorem less_spec (L:List ByteArray) (d:List Nat) (i j p q:Nat) (hi:d[i]? = some p) (hj:d[j]? = some q) (hp:p < L.length) (hq:q < L.length) :
  EvS Tryz.prog 149 [.v (.int .i64 i),.v (.int .i64 j),.pt [.sl 1 (dInts d) none] 0,.pt [.pt [.sl 1 (dBs L) none,.v (.slice none 0 0)] 0] 0] [] [] (fun r _ _=>r = .v (.bool (nLt L p q))):=by
 obtain ⟨s,hs⟩:∃ s,L[p]? = some s:=⟨_,gE hp⟩;obtain ⟨t,ht⟩:∃ t,L[q]? = some t:=⟨_,gE hq⟩
 have e:nLt L p q=if s=t then decide (p < q) else bLt s t:=by
  simp [nLt,List.getD_eq_getElem?_getD,hs,ht]
 refine evB_go (s:=true) (P:=Tryz.prog) tt tt_ok 5000 50 [.tmp 6] Tryz.func149 rfl Tryz.ntmps149 rfl (nL rfl) (fun E9 w9 hn9 hm9=>?_);refine drawG_i (fun _=>false) mo (by decide +kernel) ?_;refine ⟨_,⟨by omega,dInts_get hi⟩,?_⟩;refine ⟨_,⟨by omega,dInts_get hj⟩,?_⟩;refine drawG_i (fun _=>false) mo (by decide +kernel) ?_;refine ⟨_,⟨by omega,dBs_get hs⟩,?_⟩;refine ⟨_,⟨by omega,dBs_get ht⟩,?_⟩;refine br (fun h=>?_) (fun h=>?_)
 ·have hne:s≠t:=by simpa using h
  refine drawG_i (fun _=>false) mo (by decide +kernel) ?_;refine ⟨_,⟨by omega,dBs_get hs⟩,?_⟩;refine ⟨_,⟨by omega,dBs_get ht⟩,?_⟩;refine (congrArg (fun b=>DV.v (.bool b)) ?_:_=_);rw [e,if_neg hne];rfl
 ·have heq:s=t:=by simpa using h
  refine (congrArg (fun b=>DV.v (.bool b)) ?_:_=_);rw [e,if_pos heq];simp
abbrev encN (p:Nat):Value:=.int .i64 (p:Int)
theorem ints_arr {E:En}:∀ {ds:List Nat} {arr:List Value},RvL E (dInts ds).flatten arr->arr=ds.map encN
 | [],arr,h=>by simpa [dInts,RvL] using h
 | x :: r,arr,h=>by
  simp only [dInts,List.map_cons,List.flatten_cons,List.cons_append,List.nil_append,RvL] at h;obtain ⟨v,s,rfl,h1,h2⟩:=h;unfold Rv at h1;rw [h1.1,ints_arr (ds:=r) h2];rfl
theorem ints_rvc {E:En}:∀ ds:List Nat,RvC E (dInts ds).flatten (ds.map encN)
 | []=>⟨rvL_nil E,by simp⟩
 | x :: r=>by
  have ih:=ints_rvc (E:=E) r;refine ⟨?_,?_⟩
  ·simp only [dInts,List.map_cons,List.flatten_cons,List.cons_append,List.nil_append];exact rvL_cons (rv_v rfl) ih.1
  ·intro v hv;simp only [List.map_cons,List.mem_cons] at hv;rcases hv with rfl | hv
   ·rfl
   ·exact ih.2 v hv
theorem fins {m:Nat}:∀ ds:List Nat,(∀ p∈ds,p < m + 1)->∃ D:List (Fin (m + 1)),D.map (·.val)=ds
 | [],_=>⟨[],rfl⟩
 | x :: r,h=>by
  obtain ⟨D,hD⟩:=fins r fun p hp=>h p (List.mem_cons_of_mem _ hp);exact ⟨⟨x,h x (by simp)⟩ :: D,by simp [hD]⟩
theorem sorted_blk {α:Type} [Inhabited α] (enc:α->Value) (w:World) (b n:Nat) (dk:Array α) (os:Array Obj) (arr:List Value) (ty:TypeId) (hw:w.heap[b]? = some (.cells arr.toArray ty (0,0))) (hl:arr.length=dk.size) :
  ∀ k,k < w.heap.size->(Sort.grow (Sort.putRow enc (Sort.ahead w n) b 0 dk) os).heap[k]? = (World.setBlk w b (.cells (dk.toList.map enc).toArray ty (0,0))).heap[k]?:=by
 intro k hk;simp only [Sort.grow,Sort.putRow,Sort.mapBlock,Sort.ahead];rw [Array.getElem?_append_left (by simpa using hk),Array.getElem?_modify];by_cases hkb:b=k
 ·subst hkb;rw [if_pos rfl,hw,setBlk_same hw];simp only [Option.map_some,Sort.onCells,oI,Obj.cells.injEq,and_true];apply Array.ext_getElem?;intro j;simp only [Sort.putCells,Array.getElem?_mapIdx];rcases Nat.lt_or_ge j dk.size with hj | hj
  ·have h1:j < arr.length:=by omega
   simp [h1,hj]
  ·have h1:arr.length<=j:=by omega
   simp [h1,hj]
 ·rw [if_neg hkb,setBlk_other (Ne.symm hkb)]
theorem set_same {α:Type} {l:List α} {i:Nat} {x:α} (h:l[i]? = some x):l.set i x=l:=by
 apply List.ext_getElem?;intro j;by_cases hj:j=i
 ·subst hj;rw [List.getElem?_set_self (gS h).1,h]
 ·rw [List.getElem?_set_ne (Ne.symm hj)]
theorem call_sort {X:Ctx} {st:St} {k:List It} (hP:X.P=Tryz.prog) {i c len:Nat} {ds:List Nat} (hlen:len=ds.length) {lbD:List DV} {d:Nat} (N:Nat) (hN:∀ p∈ds,p < N) (lt:Nat->Nat->Bool) (hO:Sort.SWO lt)
  (hbx:st.bx[i]? = some (dInts ds).flatten) (hn:ds.length<=1099511627776) (lbF:List Nat->List DV) (hlb:∀ dk:List Nat,dk.length=ds.length->CcL (st.bx.set i (dInts dk).flatten) 0 0 0 (lbF dk) lbD)
  (hless:∀ dk:List Nat,dk.length=ds.length->(∀ p∈dk,p < N)->∀ i j p q:Nat,dk[i]? = some p->dk[j]? = some q->EvS Tryz.prog 149 (.v (.int .i64 i) :: .v (.int .i64 j) :: lbF dk) [] [] (fun r _ _=>r = .v (.bool (lt p q))))
  (hd:okD X.nt st.sl (some d)=true)
  (hk:∀ ds':List Nat,ds'.Perm ds->(∀ i j p q:Nat,i < j->ds'[i]? = some p->ds'[j]? = some q->lt q p=false)->go X 4000 k ⟨(d,⟨[],.tup []⟩) :: st.sl,st.bx.set i (dInts ds').flatten,st.tk⟩)
  (hst:X.still=false:=by exact rfl) (hX:X.bt=[]:=by exact rfl):CallG X 148 [.ifc 69 (.ms i 1 0 len c),.fn 149 [] lbD] (some d) k st:=by
 subst hlen;refine ⟨?_,hst,fun E a w vs h hv=>?_⟩
 ·rw [hP];exact en148
 rw [hP];simp only [RvL] at hv;obtain ⟨v1,_,rfl,h1,v2,_,rfl,h2,rfl⟩:=hv;unfold Rv at h1;obtain ⟨z,rfl,h1⟩:=h1;unfold Rv at h1;obtain ⟨b,ad,hb,hlc,rfl,hca⟩:=h1;unfold Rv at h2;obtain ⟨l,r,rfl,hl,hr⟩:=h2;simp only [RvL] at hl;subst hl;obtain ⟨b',ty,arr,hb',hw,hcc⟩:=h.env.bxs i _ hbx;rw [hb] at hb';simp only [oI] at hb';subst hb';have harr:=ints_arr hcc.1;have hblt:=lt_of_blk hw;by_cases h1:ds.length<=1
 ·refine (sort_tiny r.toArray ad ds.length c h1 w).mono ?_;rintro e w' ⟨rfl,os,rfl⟩
  have hh:∀ j,j < w.heap.size->(Sort.grow w os).heap[j]? = w.heap[j]?:=fun j hj=>by
   simp only [Sort.grow];rw [Array.getElem?_append_left hj]
  have hrel:Rel X E st a (Sort.grow w os):=rel_env h (Ext.refl E) (h.env.keep hh) h.tk h.nw (h.fr.trans_keep rfl rfl rfl (by simp [Sort.grow]) fun j hj=>.inr (hh j hj)) (noSt hst) (.nil hX);have hk2:=hk ds (List.Perm.refl _) (fun i j p q hij _ hj=>by have:=(gS hj).1;omega);rw [set_same hbx] at hk2;exact go_sound 4000 _ _ hk2 E _ _ (put_rel hrel hd (.tup []) (.tuple #[]) (by unfold Rv;exact ⟨[],rfl,rvL_nil E⟩))
 ·have h2:2<=ds.length:=by omega
  have had:=hca (by omega);subst had
  obtain ⟨m,rfl⟩:∃ m,N=m + 1:=by
   cases hds:ds with
   | nil=>rw [hds] at h2;simp at h2
   | cons x r=>have:=hN x (by rw [hds];simp);exact ⟨N - 1,by omega⟩
  obtain ⟨D,hD⟩:=fins ds hN;have hDl:D.length=ds.length:=by rw [<- hD];simp
  let enc:Fin (m + 1)->Value:=fun x=>encN x.val
  have hO':Sort.SWO (fun x y:Fin (m + 1)=>lt x.val y.val):=⟨fun x=>hO.irrefl _,fun x y z=>hO.trans _ _ _,fun x y z=>hO.ntrans _ _ _⟩;have henc:∀ l:List (Fin (m + 1)),l.map enc=(l.map (·.val)).map encN:=fun l=>by simp [enc]
  have hS:=sort_big enc (fun _=>rfl) hO' r.toArray b c D.toArray (by simpa [hDl] using h2) (by simp [hDl];omega) w ?_ ?_ hblt
  ·simp only [List.size_toArray,hDl] at hS;refine hS.mono ?_;rintro e w' ⟨rfl,d',n,os,hp,hs,rfl⟩;have hsz:d'.size=ds.length:=by have:=hp.1;simpa [hDl] using this
   have hperm:(d'.toList.map (·.val)).Perm ds:=by
    have h3:=hp.2.2;have e1:d'.extract 0 ds.length=d':=Array.extract_eq_self_of_le (by omega);have e2:D.toArray.extract 0 ds.length=D.toArray:=Array.extract_eq_self_of_le (by simp [hDl]);rw [e1,e2] at h3;rw [<- hD];exact h3.map _
   have hsrt:∀ i j p q:Nat,i < j->(d'.toList.map (·.val))[i]? = some p->(d'.toList.map (·.val))[j]? = some q->lt q p=false:=by
    intro i j p q hij hi hj;have hjl:j < d'.size:=by have:=(gS hj).1;simpa using this
    have h3:=hs i j (Nat.zero_le _) hij (by omega);rw [getElem!_pos d' j hjl,getElem!_pos d' i (by omega)] at h3;have hil:i < d'.size:=by omega
    simp [hil] at hi;simp [hjl] at hj;rw [<- hi,<- hj];exact h3
   have hh:=sorted_blk enc w b n d' os arr ty hw (by rw [harr];simp [hsz]);have hrel1:=store_rel (ty:=ty) h hst hb (cs':=(dInts (d'.toList.map (·.val))).flatten) (arr':=(d'.toList.map (·.val)).map encN) (ints_rvc _) ⟨_,hw⟩;rw [<- henc] at hrel1;have hsize:(Sort.grow (Sort.putRow enc (Sort.ahead w n) b 0 d') os).heap.size=w.heap.size + os.size:=by simp [Sort.grow,Sort.putRow,Sort.mapBlock,Sort.ahead]
   have hrel:=rel_env hrel1 (Ext.refl E) (w':=Sort.grow (Sort.putRow enc (Sort.ahead w n) b 0 d') os) (hrel1.env.keep fun j hj=>hh j (by rwa [setBlk_size] at hj)) hrel1.tk hrel1.nw
    (hrel1.fr.trans_keep rfl rfl rfl (by rw [setBlk_size,hsize];omega) fun j hj=>.inr (hh j (by rwa [setBlk_size] at hj))) (noSt hst) (.nil hX)
   exact go_sound 4000 _ _ (hk _ hperm hsrt) E _ _ (put_rel hrel hd (.tup []) (.tuple #[]) (by unfold Rv;exact ⟨[],rfl,rvL_nil E⟩))
  ·intro mm os dk hs i' j' hi hj;have hsz:dk.size=ds.length:=by simpa [hDl] using hs
   have hh:=sorted_blk enc w b mm dk os arr ty hw (by rw [harr];simp [hsz]);have hE:=h.env.set hb hblt (ty:=ty) (ints_rvc (E:=E) (dk.toList.map (·.val)));rw [<- henc] at hE;have hE':=hE.keep (w':=Go.Proofs.sortWorld enc w b 0 mm dk os) fun j hj=>hh j (by rwa [setBlk_size] at hj);have hil:i' < dk.size:=by rw [hsz,<- hDl];simpa using hi
   have hjl:j' < dk.size:=by rw [hsz,<- hDl];simpa using hj
   have hLL:(dk.toList.map (·.val)).length=ds.length:=by simpa using hsz
   have hc:=hless (dk.toList.map (·.val)) hLL (fun p hp=>by
    obtain ⟨x,_,rfl⟩:=List.mem_map.1 hp
    exact x.isLt) i' j' (dk[i']!).val (dk[j']!).val (by rw [getElem!_pos dk i' hil];simp [hil]) (by rw [getElem!_pos dk j' hjl];simp [hjl])
   have hv:RvL E (.v (.int .i64 (i':Int)) :: .v (.int .i64 (j':Int)) :: lbD) (.int .i64 (i':Int) :: .int .i64 (j':Int) :: r):=rvL_cons (rv_v rfl) (rvL_cons (rv_v rfl) hr);have hb:=calls_borrow hE' hc ⟨_,_,rfl,rfl,_,_,rfl,rfl,hlb _ hLL⟩ hv;have hargs:(#[Value.int .i64 (i':Int),Value.int .i64 (j':Int)] ++ r.toArray)=(Value.int .i64 (i':Int) :: Value.int .i64 (j':Int) :: r).toArray:=by simp
   rw [hargs];refine hb.mono ?_;rintro e w' ⟨v,E2,rfl,hrv,_,hs2⟩;have:=rv_v_eq hrv;subst this;exact ⟨rfl,hs2 rfl⟩
  ·intro j hj;have hjl:j < D.length:=by simpa using hj
   rw [cell_blk hw,Nat.zero_add,harr];refine ⟨?_,?_⟩
   ·rw [getElem!_pos D.toArray j hj,<- hD];simp [hjl,enc]
   ·simp [World.frozen?,hw]
end Go.Proofs.YtadhpeooehkklaaGreat
