/- Part 2 of the proof: The evaluator 'go' is sound: the end of a call, the theorem; contracts; rules for branches, calls, loops; Rules for the evaluator: what is known made less, loops; A region that draws its order: where the operations with an effect are ordered among themselves, and what writes waits for all that reads, one run in the order of the text serves every order; The evaluator at regions that draw their order: one run in the order of the text; what is read is what was known at the region's beginning; A region that draws its order, in which two operations with an effect are not ordered: the run in either order of these two serves every order; Rules for the evaluator: a call that is handed the caller's own objects, to read them; Rules for the evaluator: objects that are written no more are frozen, ahead of a loop; Rules for the evaluator: a call that is handed one of the caller's objects, to write it; The table of this program's types, by which the evaluator goes; The program's functions are entered; The data of the document's types, plain, and as the evaluator has them; Names: the program's and the reference's functions say the same of a text; sort.Search; the program's table of texts: Find; The library's sort.Slice, laid at this program by the kit's tool (lay-plain; wip/tools/lay.sh); The order of the table; the closure handed to sort.Slice; sort.Slice of the table's places, at a call. No condition. -/
import Derived.Test.YtfifjddnnmfeoaaGreatProg
import Derived.Shelf.GgSortFunc.Whole
import Derived.Shelf.GgSortFunc.Tiny
import Derived.Test.YtfifjddnnmfeoaaGreatMp1
set_option linter.all false
namespace Go.Proofs.YtfifjddnnmfeoaaGreat
namespace Dv
open Go Go.RowKit
structure wT (E E':En) (bx:List (List DV)) (N:Nat):Prop where
 c:∀ a v,E.c a=some v->E'.c a=some v
 fz:∀ (i:Nat) cs,N<=i->bx[i]? = some cs->∃ b arr,E.β[i]? = some b/\RvC E cs arr/\∀ (j:Nat) u,arr[j]? = some u->E'.c ⟨b,j,none⟩=some u
theorem wT.cl {E E':En} {bx:List (List DV)} {N:Nat} (h:wT E E' bx N):wT E E'.cl bx N:=⟨h.c,h.fz⟩
structure vg (E E':En) (n0 m0:Nat):Prop where
 β:∀ (i:Nat) b,i < n0->E.β[i]? = some b->E'.β[i]? = some b
 tk:∀ k,k < m0->E'.tk[k]? = E.tk[k]? /\ E'.τ[k]? = E.τ[k]?
theorem vg.zero (E E':En):vg E E' 0 0:=⟨fun _ _ h=>absurd h (Nat.not_lt_zero _),fun _ h=>absurd h (Nat.not_lt_zero _)⟩
theorem Ext.Aj (E:En):Ext E.cl E:=⟨fun _ _ h=>h,fun j b hj=>by simp [En.cl] at hj,fun k q hk=>by simp [En.cl] at hk⟩
theorem qH {E E':En} (hm:∀ e b o es,RvEs E.cl e b o es->RvEs E'.cl e b o es):∀ {l:List DV} {arr:List Value},(∀ x∈l,(∃ y,x = .v y)∨∃ e' p9,x = .sl e' p9 none)->RvL E l arr->RvL E' l arr
 | [],arr,_,h=>by simp only [RvL] at h ⊢;exact h
 | d :: r,arr,hs,h=>by
  simp only [RvL] at h ⊢;obtain ⟨v,s,rfl,h1,h2⟩:=h;refine ⟨v,s,rfl,?_,qH hm (fun x hx=>hs x (List.mem_cons_of_mem _ hx)) h2⟩;rcases hs d (by simp) with ⟨y,rfl⟩ | ⟨e',p9,rfl⟩
  ·unfold Rv at h1 ⊢;exact h1
  ·unfold Rv at h1 ⊢;obtain ⟨b,n,cap,h3,h4,h5,_⟩:=h1;exact ⟨b,n,cap,h3,h4,fun hn=>⟨(h5 hn).1,hm _ _ _ _ (h5 hn).2⟩,fun k hk=>by cases hk⟩
theorem CcL.length {bx:List (List DV)} {N n0 m0:Nat}:∀ {l' l:List DV},CcL bx N n0 m0 l' l->l'.length=l.length
 | [],l,h=>by simp only [CcL] at h;subst h;rfl
 | d' :: r',l,h=>by
  simp only [CcL] at h;obtain ⟨d,r,rfl,_,h2⟩:=h;simp [CcL.length h2]
theorem CcE.length {bx:List (List DV)} {N:Nat}:∀ {l' l:List (List DV)},CcE bx N l' l->l'.length=l.length
 | [],l,h=>by simp only [CcE] at h;subst h;rfl
 | d' :: r',l,h=>by
  simp only [CcE] at h;obtain ⟨d,r,rfl,_,h2⟩:=h;simp [CcE.length h2]
mutual
theorem Cc.sound {bx:List (List DV)} {N:Nat} {E:En}:∀ {d':DV} {E':En} {n0 m0:Nat} {d:DV} {v:Value},wT E E' bx N->vg E E' n0 m0->Cc bx N n0 m0 d' d->Rv E d v->Rv E' d' v
 | .v y,E',n0,m0,d,v,hf,hl,h,hv=>by
  simp only [Cc] at h;subst h;unfold Rv at hv ⊢;exact hv
 | .ud,E',n0,m0,d,v,hf,hl,h,hv=>by
  simp only [Cc] at h;subst h;unfold Rv at hv ⊢;exact hv
 | .agg l',E',n0,m0,d,v,hf,hl,h,hv=>by
  simp only [Cc] at h;obtain ⟨l,rfl,h⟩:=h;unfold Rv at hv ⊢;obtain ⟨vs,h1,h2,h3⟩:=hv;exact ⟨vs,h1,CcL.sound hf hl h h2,h3⟩
 | .cP l',E',n0,m0,d,v,hf,hl,h,hv=>by
  simp only [Cc] at h;obtain ⟨l,rfl,h⟩:=h;unfold Rv at hv ⊢;obtain ⟨vs,h1,h2⟩:=hv;exact ⟨vs,h1,CcL.sound hf hl h h2⟩
 | .sl e es tk,E',n0,m0,d,v,hf,hl,h,hv=>by
  have hm:∀ b o,RvEs E.cl e b o es->RvEs E'.cl e b o es:=fun b o hr=>RvEs.mono (Ext.uf hf.c) hr
  cases tk with
  | none=>
   simp only [Cc] at h;rcases h with ⟨rfl,rfl⟩ | ⟨bF,rfl⟩ | ⟨i,off,c,cs,rfl,hi,bK,hfl,E4,BK⟩ | ⟨HA,bF,rfl,h⟩
   ·have:=aO hv;subst this;unfold Rv;exact ⟨none,0,0,rfl,⟨rfl,Nat.le_refl _⟩,fun hn=>(hn rfl).elim,fun k hk=>by cases hk⟩
   ·unfold Rv at hv ⊢;obtain ⟨b,n,cap,h1,h2,h3,_⟩:=hv;exact ⟨b,n,cap,h1,h2,fun hn=>⟨(h3 hn).1,hm _ _ (h3 hn).2⟩,fun k hk=>by cases hk⟩
   ·obtain ⟨b,arr,hb,hc,IE⟩:=hf.fz i cs hi bK;unfold Rv at hv ⊢;obtain ⟨b',ad,cI,HD,rfl,hca⟩:=hv;rw [hb] at cI;simp only [oI] at cI;subst cI;refine ⟨ad,es.length,c,rfl,⟨rfl,HD⟩,fun hn=>?_,fun k hk=>by cases hk⟩;have sF:0 < es.length:=List.length_pos_iff.2 hn;have E6:=hca (by omega);subst E6;refine ⟨rfl,?_⟩;have h1:=(hc.drop off).take (es.length * e);rw [<- hfl] at h1;refine rvEs_flat ⟨qH (E':=E'.cl) (fun e b o es hr=>(RvEs.mono (Ext.uf hf.c) hr:RvEs E'.cl e b o es)) BK h1.1,h1.2⟩ E4 fun j u hj=>?_;rw [List.getElem?_take] at hj;split at hj
    ·rw [List.getElem?_drop] at hj;exact IE (off + j) u hj
    ·cases hj
   ·have hlen:=CcE.length h;have hs:=fun b o=>CcE.sound (e:=e) (b:=b) (o:=o) hf h;unfold Rv at hv ⊢;obtain ⟨b,n,cap,h1,h2,h3,_⟩:=hv;refine ⟨b,n,cap,h1,by omega,fun hn=>?_,fun k hk=>by cases hk⟩;have lB:HA ≠ []:=fun hc=>hn (List.eq_nil_of_length_eq_zero (by rw [hlen,hc];rfl));exact ⟨(h3 lB).1,hs _ _ (h3 lB).2⟩
  | some k=>
   simp only [Cc] at h;obtain ⟨hk,rfl⟩:=h;unfold Rv at hv ⊢;obtain ⟨b,n,cap,h1,h2,h3,h4⟩:=hv;refine ⟨b,n,cap,h1,h2,fun hn=>⟨(h3 hn).1,hm _ _ (h3 hn).2⟩,fun k' dW=>?_⟩;cases dW;obtain ⟨e1,e2⟩:=hl.tk k hk;obtain ⟨q,h5,h6,h7⟩:=h4 k rfl;exact ⟨q,by rw [e1];exact h5,h6,fun hh=>by rw [e2];exact h7 hh⟩
 | .pt cs' o,E',n0,m0,d,v,hf,hl,h,hv=>by
  simp only [Cc] at h;rcases h with rfl | ⟨i,cs,rfl,hi,bK,h⟩
  ·unfold Rv at hv ⊢;obtain ⟨b,p,h1,h2⟩:=hv;exact ⟨b,p,h1,RvAt.mono (Ext.uf hf.c) h2⟩
  ·obtain ⟨b,arr,hb,hc,hm⟩:=hf.fz i cs hi bK;unfold Rv at hv ⊢;obtain ⟨b',cI,rfl⟩:=hv;rw [hb] at cI;simp only [oI] at cI;subst cI;refine ⟨b,0,by simp,?_⟩;have:=CcL.sound hf.cl (vg.zero E E'.cl) h hc.1;exact o6 ⟨this,hc.2⟩ fun j u hj=>by rw [Nat.zero_add];exact hm j u hj
 | .loc i o,E',n0,m0,d,v,hf,hl,h,hv=>by
  simp only [Cc] at h;obtain ⟨hi,rfl⟩:=h;unfold Rv at hv ⊢;obtain ⟨b,hb,h1⟩:=hv;exact ⟨b,hl.β i b hi hb,h1⟩
 | .el i o,E',n0,m0,d,v,hf,hl,h,hv=>by
  simp only [Cc] at h;obtain ⟨hi,rfl⟩:=h;unfold Rv at hv ⊢;obtain ⟨b,hb,h1⟩:=hv;exact ⟨b,hl.β i b hi hb,h1⟩
 | .ms i e o l c,E',n0,m0,d,v,hf,hl,h,hv=>by
  simp only [Cc] at h;obtain ⟨hi,rfl⟩:=h;unfold Rv at hv ⊢;obtain ⟨b,ad,hb,h1⟩:=hv;exact ⟨b,ad,hl.β i b hi hb,h1⟩
 | .fn f a' b',E',n0,m0,d,v,hf,hl,h,hv=>by
  simp only [Cc] at h;obtain ⟨a,b,rfl,ha,hb⟩:=h;unfold Rv at hv ⊢;obtain ⟨l,r,h1,h2,h3⟩:=hv;exact ⟨l,r,h1,CcL.sound hf hl ha h2,CcL.sound hf hl hb h3⟩
 | .kJ t x',E',n0,m0,d,v,hf,hl,h,hv=>by
  simp only [Cc] at h;obtain ⟨x,rfl,hx⟩:=h;unfold Rv at hv ⊢;obtain ⟨z,h1,h2⟩:=hv;exact ⟨z,h1,Cc.sound hf hl hx h2⟩
theorem CcL.sound {bx:List (List DV)} {N:Nat} {E:En}:∀ {l':List DV} {E':En} {n0 m0:Nat} {l:List DV} {vs:List Value},wT E E' bx N->vg E E' n0 m0->CcL bx N n0 m0 l' l->RvL E l vs->RvL E' l' vs
 | [],E',n0,m0,l,vs,hf,hl,h,hv=>by
  simp only [CcL] at h;subst h;simp only [RvL] at hv ⊢;exact hv
 | d' :: r',E',n0,m0,l,vs,hf,hl,h,hv=>by
  simp only [CcL] at h;obtain ⟨d,r,rfl,h1,h2⟩:=h;simp only [RvL] at hv ⊢;obtain ⟨v,s,h3,h4,h5⟩:=hv;exact ⟨v,s,h3,Cc.sound hf hl h1 h4,CcL.sound hf hl h2 h5⟩
theorem KT.sound {bx:List (List DV)} {N:Nat} {E:En}:∀ {l':List DV} {E':En} {l:List DV} {b p:Nat},wT E E' bx N->CcL bx N 0 0 l' l->RvAt E.cl b p l->RvAt E'.cl b p l'
 | [],E',l,b,p,hf,h,hv=>by simp only [RvAt]
 | d' :: r',E',l,b,p,hf,h,hv=>by
  simp only [CcL] at h;obtain ⟨d,r,rfl,h1,h2⟩:=h;simp only [RvAt] at hv ⊢;obtain ⟨⟨v,h3,h4,h5⟩,h6⟩:=hv;exact ⟨⟨v,hf.c _ _ h3,h4,Cc.sound hf.cl (vg.zero E E'.cl) h1 (Rv.mono (Ext.Aj E) h5)⟩,KT.sound hf h2 h6⟩
theorem CcE.sound {bx:List (List DV)} {N:Nat} {E:En}:∀ {l':List (List DV)} {E':En} {l:List (List DV)} {e b o:Nat},wT E E' bx N->CcE bx N l' l->RvEs E.cl e b o l->RvEs E'.cl e b o l'
 | [],E',l,e,b,o,hf,h,hv=>by simp only [RvEs]
 | a' :: r',E',l,e,b,o,hf,h,hv=>by
  simp only [CcE] at h;obtain ⟨a,r,rfl,h1,h2⟩:=h;simp only [RvEs] at hv ⊢;obtain ⟨h3,h4,h5⟩:=hv;refine ⟨?_,?_,CcE.sound hf h2 h5⟩
  ·rcases h1 with rfl | h1
   ·exact h3
   ·rw [CcL.length h1];exact h3
  ·rcases h1 with rfl | h1
   ·exact RvAt.mono (Ext.uf hf.c) h4
   ·exact KT.sound hf h1 h4
end
theorem BL {E:En} {e:Nat} {es p9:List (List DV)} {tk:Option Nat} {v:Value} (h:CcE [] 0 p9 es) (hv:Rv E (.sl e es tk) v):Rv E (.sl e p9 tk) v:=by
 have hlen:=CcE.length h;have hs:=fun b o=>CcE.sound (E:=E) (E':=E) (bx:=[]) (N:=0) (e:=e) (b:=b) (o:=o) ⟨fun _ _ h=>h,fun i cs _ hi=>by simp at hi⟩ h;unfold Rv at hv ⊢;obtain ⟨b,n,cap,h1,h2,h3,h4⟩:=hv;refine ⟨b,n,cap,h1,by omega,fun hn=>?_,h4⟩;have lB:es ≠ []:=fun hc=>hn (List.eq_nil_of_length_eq_zero (by rw [hlen,hc];rfl));exact ⟨(h3 lB).1,hs _ _ (h3 lB).2⟩
theorem gG.get {bx:List (List DV)} {N n0 m0:Nat}:∀ {l' l:List (List DV)},gG bx N n0 m0 l' l->l'.length=l.length/\∀ (i:Nat) cs',l'[i]? = some cs' -> ∃ cs,l[i]? = some cs/\CcL bx N n0 m0 cs' cs
 | [],l,h=>by simp only [gG] at h;subst h;exact ⟨rfl,by simp⟩
 | a' :: r',l,h=>by
  simp only [gG] at h;obtain ⟨a,r,rfl,h1,h2⟩:=h;obtain ⟨h3,h4⟩:=gG.get h2;refine ⟨by simp [h3],fun i cs' hi=>?_⟩
  cases i with
  | zero=>simp only [List.getElem?_cons_zero,oI] at hi;subst hi;exact ⟨a,rfl,h1⟩
  | succ i=>simp only [List.getElem?_cons_succ] at hi ⊢;exact h4 i cs' hi
open Classical in
noncomputable def kg (E:En) (n:Nat) (w:World):Addr->Option Value:=
 fun a=>if ∃ i:Nat,n<=i/\E.β[i]? = some a.block then w.cell? a else E.c a
section
variable {X:Ctx} {E:En} {st:St} {a:Act} {w:World}
theorem b7 {n:Nat} {x:Addr} {v:Value} (h:kg E n w x=some v):((∃ i:Nat,n<=i/\E.β[i]? = some x.block)/\w.cell? x=some v)∨E.c x=some v:=by
 unfold kg at h;split at h
 ·rename_i hc;exact .inl ⟨hc,h⟩
 ·exact .inr h
theorem fU {bx:List (List DV)} (h:Env E bx w) {n:Nat} {x:Addr} {v:Value} (hx:E.c x=some v):kg E n w x=some v:=by
 unfold kg;split
 ·exact h.sub x v hx
 ·exact hx
theorem pg (h:Rel X E st a w) {d d':DV} {os:List (List DV)} {v:Value} (hv:Rv E d v) (M:Nat) (hM:(X.fr=false/\M=X.m0)∨(X.fr=true/\M=st.tk.length)) (hd:Cc st.bx X.n0 X.n0 M d' d) (lh:gG st.bx X.n0 X.n0 M os (st.bx.take X.n0)) (hΦ:X.Φ d' os (st.tk.take M)):oZ X.still X.E0 X.w0 X.Φ v w X.fr:=by
 obtain ⟨r,Ak,HI⟩:=h.nw.β;have ed:E.β.take X.n0=X.E0.β:=by rw [Ak,<- X.lB];simp
 have l6:∀ (i:Nat) b,i < X.n0->E.β[i]? = some b->X.E0.β[i]? = some b:=fun i b hi hb=>by
  rw [<- ed,List.getElem?_take,if_pos hi];exact hb
 have bZ:∀ (i:Nat) b,X.n0<=i->E.β[i]? = some b->b∈r:=fun i b hi hb=>by
  rw [Ak,List.getElem?_append_right (by rw [X.lB];exact hi)] at hb;exact mG hb
 have CU:∀ b,b∈X.E0.β->b∈r->False:=fun b h1 h2=>by
  have:=h.env.inj;rw [Ak] at this;exact (List.nodup_append.1 this).2.2 b h1 b h2 rfl
 have hE0l:X.E0.τ.length=X.m0:=by rw [h.nw.l0,X.lC]
 have KU:X.m0<=E.tk.length:=by
  rcases Nat.lt_or_ge E.tk.length X.m0 with h1 | h1
  ·have hk:E.tk.length < X.E0.tk.length:=by rw [X.lC];exact h1
   have dW:E.tk.length < X.E0.τ.length:=by rw [h.nw.l0];exact hk
   obtain ⟨q',y',h2,_⟩:=h.nw.tk E.tk.length _ _ (gE hk) (gE dW);have:=(gS h2).1;omega
  ·exact h1
 have hMm:X.m0<=M/\M<=E.tk.length:=by
  rcases hM with ⟨_,rfl⟩ | ⟨_,rfl⟩
  ·exact ⟨Nat.le_refl _,KU⟩
  ·rw [<- h.tk];exact ⟨KU,Nat.le_refl _⟩
 have Eh:KL X.fr (E.tk.take M).length X.E0.tk.length:=by
  rw [List.length_take];rcases hM with ⟨hf,rfl⟩ | ⟨hf,rfl⟩
  ·rw [hf];show min _ _=_;rw [X.lC];omega
  ·rw [hf];show _<=min _ _;rw [X.lC];omega
 let E':En:=⟨kg E X.n0 w,X.E0.β,E.tk.take M,E.τ.take M⟩
 have xH:wT E E' st.bx X.n0:={
  c:=fun x u hx=>fU h.env hx
  fz:=fun i cs hi bK=>by
   obtain ⟨b,ty,arr,hb,hw,hc⟩:=h.env.cr i cs bK;refine ⟨b,arr,hb,hc,fun j u hj=>?_⟩;show kg E X.n0 w ⟨b,j,none⟩=some u;unfold kg;rw [if_pos ⟨i,hi,hb⟩,bu hw]
   simpa using hj }
 have nC:vg E E' X.n0 M:={
  β:=l6
  tk:=fun k hk=>⟨by show (E.tk.take M)[k]? = _;rw [List.getElem?_take,if_pos hk],by show (E.τ.take M)[k]? = _;rw [List.getElem?_take,if_pos hk]⟩ }
 obtain ⟨fj,Ff⟩:=lh.get;refine ⟨h.fr,h.sh,d',os,E',?_,rfl,Eh,?_,hd.sound xH nC hv,by show X.Φ d' os (E.tk.take M);rw [h.tk];exact hΦ⟩
 ·exact {
   len:=by
    show X.E0.β.length=os.length;rw [fj,X.lB,List.length_take]
    have:X.n0<=st.bx.length:=by
     rw [<- h.env.len,Ak,List.length_append,X.lB];omega
    omega
   tl:=by simp only [E',List.length_take];rw [h.env.tl]
   cr:=fun i cs' hi=>by
    obtain ⟨cs,bK,sm⟩:=Ff i cs' hi;rw [List.getElem?_take] at bK;split at bK
    ·rename_i av;obtain ⟨b,ty,arr,hb,hw,hc⟩:=h.env.cr i cs bK;exact ⟨b,ty,arr,l6 i b av hb,hw,CcL.sound xH nC sm hc.1,hc.2⟩
    ·cases bK
   inj:=by rw [<- ed];exact h.env.inj.sublist (List.take_sublist _ _)
   sub:=fun x u hx=>by
    rcases b7 hx with ⟨_,h1⟩ | h1
    ·exact h1
    ·exact h.env.sub x u h1
   pc:=fun x u hx hm=>by
    rcases b7 hx with ⟨⟨i,hi,hb⟩,_⟩ | h1
    ·exact CU _ hm (bZ i _ hi hb)
    ·refine h.env.pc x u h1 ?_;rw [Ak];exact List.mem_append.2 (.inl hm)
   bI:=fun k q y hq hy=>by
    simp only [E',List.getElem?_take] at hq hy;split at hq
    ·rename_i hk;rw [if_pos hk] at hy;rcases h.env.bI k q y hq hy with h1 | ⟨g,cap,cur,rfl,h1,h2,h3,h4,h5,h6⟩
     ·exact .inl h1
     ·refine .inr ⟨g,cap,cur,rfl,h1,⟨h2.1,h2.2.mono fun _ _ hx=>fU h.env hx⟩,h3,h4,fun hm=>h5 (by rw [Ak];exact List.mem_append.2 (.inl hm)),fun x u hx hg=>?_⟩;rcases b7 hx with ⟨⟨i,hi,hb⟩,_⟩ | h7
      ·rw [hg] at hb;exact (h5 (mG hb)).elim
      ·exact h6 x u h7 hg
    ·cases hq
   eL:=fun k k' y y' g wO hy dM=>by
    simp only [E',List.getElem?_take] at hy dM;split at hy
    ·split at dM
     ·exact h.env.eL k k' y y' g wO hy dM
     ·cases dM
    ·cases hy }
 ·exact {
   c:=fun x u hx=>fU h.env (h.nw.c x u hx)
   cn:=fun x u hx=>by
    rcases b7 hx with ⟨⟨i,hi,hb⟩,_⟩ | h1
    ·exact .inr (.inl (HI _ (bZ i _ hi hb)))
    ·exact h.nw.cn x u h1
   β:=⟨[],by simp [E'],by simp⟩
   tk:=fun k q y hq hy=>by
    obtain ⟨q',y',h1,h2,h3⟩:=h.nw.tk k q y hq hy;have hk:k < X.m0:=by rw [<- X.lC];exact (gS hq).1
    exact ⟨q',y',by show (E.tk.take M)[k]? = _;rw [List.getElem?_take,if_pos (by omega)];exact h1,by show (E.τ.take M)[k]? = _;rw [List.getElem?_take,if_pos (by omega)];exact h2,h3⟩
   tn:=fun k y g hk hy hg=>by
    simp only [E',List.getElem?_take] at hy;split at hy
    ·exact h.nw.tn k y g hk hy hg
    ·cases hy
   l0:=h.nw.l0 }
def resOf (tmps:Array Value):ResultVar->Sem Value
 | .tmp t=>pure (tmps.getD t undef)
 | .cell x t=>do loadVar t (<- asAddr (tmps.getD x undef))
theorem sH (fn:Func) (tmps:Array Value):results fn tmps=(do let vs <- fn.results.mapM (resOf tmps);pure (if h:vs.size=1 then vs[0] else .tuple vs)):=by
 unfold results;congr 2
theorem sI (h:Rel X E st a w) {r:ResultVar} {d:DV} (hr:res1 X.T st r=some d):∃ v,Rv E d v/\(resOf a.tmps r).run X.P w = .ok v w:=by
 cases r with
 | tmp t=>
  simp only [res1] at hr;split at hr
  ·rename_i x hg;simp only [oI] at hr;subst hr;obtain ⟨v,h1,h2⟩:=(h.tm t _ hg).1 (aA _);exact ⟨v,h2,by simp [resOf,Array.getD_eq_getD_getElem?,h1]⟩
  ·cases hr
 | cell x t=>
  simp only [res1] at hr;split at hr
  ·rename_i i off hg;split at hr
   ·rename_i cs bK;obtain ⟨v,h1,h2⟩:=(h.tm x _ hg).1 (aA _);unfold Rv at h2;obtain ⟨b,hb,rfl⟩:=h2;obtain ⟨b',sy,arr,cI,hw,hc⟩:=h.env.cr i cs bK;rw [hb] at cI;simp only [oI] at cI;subst cI;obtain ⟨v,hv,hl⟩:=fM X.hT hc (b:=b) (p:=0) hr;have hl:=hl w fun j u hj=>by rw [bu hw];simpa using hj
    rw [Nat.zero_add] at hl;exact ⟨v,hv,by simp only [resOf,Array.getD_eq_getD_getElem?,h1,Option.getD_some,asAddr,Sem.run_bind,Sem.run_pure,Result.andThen_ok,hl]⟩
   ·cases hr
  ·cases hr
theorem fV (h:Rel X E st a w):∀ {rs:List ResultVar} {ds:List DV},resD X.T st rs=some ds->∃ vs,RvL E ds vs/\(rs.mapM (resOf a.tmps)).run X.P w = .ok vs w
 | [],ds,hr=>by
  simp only [resD,oI] at hr;subst hr;exact ⟨[],bn E,rfl⟩
 | r :: rs,ds,hr=>by
  simp only [resD] at hr;split at hr
  ·rename_i d l hd hl;simp only [oI] at hr;subst hr;obtain ⟨v,hv,h1⟩:=sI h hd;obtain ⟨vs,qE,h2⟩:=fV h hl;refine ⟨v :: vs,rvL_cons hv qE,?_⟩;simp only [List.mapM_cons,Sem.run_bind,h1,Result.andThen_ok,h2,Sem.run_pure]
  ·cases hr
theorem iN (h:Rel X E st a w) {d:DV} {v:Value} (hv:Rv E d v) (hf:finD X st d):oZ X.still X.E0 X.w0 X.Φ v w X.fr:=by
 unfold finD at hf;split at hf
 ·rename_i HJ;obtain ⟨d',os,hd,lh,hΦ⟩:=hf;exact pg h hv st.tk.length (.inr ⟨HJ,rfl⟩) hd lh (by rw [List.take_length];exact hΦ)
 ·rename_i HJ;split at hf
  ·rename_i hn hm
   have key:∀ d',Cc st.bx 0 0 0 d' d->X.Φ d' [] []->oZ X.still X.E0 X.w0 X.Φ v w X.fr:=fun d' hd hΦ=>
    pg h hv (d':=d') (os:=[]) X.m0 (.inl ⟨HJ,rfl⟩) (by rw [hn,hm];exact hd) (by rw [hn];simp [gG]) (by rw [hm];exact hΦ)
   split at hf
   ·rename_i x;exact key (.v x) (by simp only [Cc]) hf
   ·obtain ⟨d',hd,hΦ⟩:=hf;exact key d' hd hΦ
  ·obtain ⟨d',os,hd,lh,hΦ⟩:=hf;exact pg h hv X.m0 (.inl ⟨HJ,rfl⟩) hd lh hΦ
theorem nU (h:Rel X E st a w) (hf:fin X st):kq X [] .ret a w:=by
 have sn:X.fn.results=X.rs.toArray:=by rw [<- X.se]
 simp only [kq];refine ⟨h.df,?_⟩
 have hbt:iy X.bt X.E0.β w:=fun p hp b hb=>by
  obtain ⟨r,hr,_⟩:=h.nw.β;exact h.bt p hp b (by rw [hr,List.getElem?_append_left (gS hb).1];exact hb)
 unfold fin at hf
 have xI:∀ (ds:List DV) (vs:List Value),(X.rs.mapM (resOf a.tmps)).run X.P w = .ok vs w->(results X.fn a.tmps).run X.P w = .ok (if h:vs.toArray.size=1 then vs.toArray[0] else .tuple vs.toArray) w:=by
  intro ds vs hv;rw [sH,sn];simp only [List.mapM_toArray,Sem.run_bind,Sem.run_map,hv];rfl
 split at hf
 ·rename_i hr;obtain ⟨vs,qE,h1⟩:=fV h hr;simp only [RvL] at qE;subst qE;exact ⟨_,xI [] [] h1,iN h (v:=.tuple #[]) (by unfold Rv;exact ⟨[],rfl,bn E⟩) hf,hbt⟩
 ·rename_i d hr;obtain ⟨vs,qE,h1⟩:=fV h hr;have hl:=qE.length;simp only [RvL] at qE;obtain ⟨v,s,rfl,hv,rfl⟩:=qE;exact ⟨_,xI [d] [v] h1,iN h (v:=v) hv hf,hbt⟩
 ·rename_i d e l hr;obtain ⟨vs,qE,h1⟩:=fV h hr;have hl:=qE.length;have aT:¬ vs.toArray.size=1:=by simp at hl ⊢;omega
  have h2:=xI [] vs h1;rw [dif_neg aT] at h2;exact ⟨_,h2,iN h (v:=.tuple vs.toArray) (by unfold Rv;exact ⟨vs,rfl,qE⟩) hf,hbt⟩
 ·exact hf.elim
theorem l7:∀ (k:List It) (a:Act) (w:World),kq X [] .ret a w->kq X k .ret a w
 | [],_,_,h=>h
 | .code _ :: k,a,w,h=>l7 k a w h
 | .ops _ _ :: k,a,w,h=>l7 k a w h
 | .sf _ :: k,a,w,h=>l7 k a w h
 | .sg _ :: k,a,w,h=>l7 k a w h
theorem jA {id:Nat}:∀ (k k':List It) (a:Act) (w:World),dropBlk id k=some k' -> kq X k' .normal a w->kq X k (.exit id) a w
 | [],k',a,w,hd,_=>by simp [dropBlk] at hd
 | .code _ :: k,k',a,w,hd,h=>by simp only [dropBlk] at hd;exact jA k k' a w hd h
 | .ops _ _ :: k,k',a,w,hd,h=>by simp only [dropBlk] at hd;exact jA k k' a w hd h
 | .sg _ :: k,k',a,w,hd,h=>by simp only [dropBlk] at hd;exact jA k k' a w hd h
 | .sf i :: k,k',a,w,hd,h=>by
  simp only [dropBlk] at hd;split at hd
  ·rename_i hi;have hi:id=i:=by simpa using hi
   simp only [oI] at hd;subst hd;simp only [kq];rw [if_pos hi];exact h
  ·rename_i hi
   have hi:id≠i:=by
    rintro rfl;rw [Nat.beq_refl] at hi;cases hi
   simp only [kq];rw [if_neg hi];exact jA k k' a w hd h
theorem vi {P:Program} {o:Oper} {a:Act} {K K':Act->World->Prop} {Q Q':Exit->Act->World->Prop} (hK:∀ a w,K a w->K' a w) (hQ:∀ e a w,Q e a w->Q' e a w)
  {r:Result Next} (h:o.upon P a K Q r):o.upon P a K' Q' r:=by
 unfold Oper.upon at *;split<;>simp_all
 ·refine h.mono ?_;intro e w' hq
  cases e with
  | returned v=>exact hK _ _ hq
  | panicked c=>exact hQ _ _ _ hq
  | outgrown=>obtain ⟨a,w,hq⟩:=hq;exact ⟨a,w,hQ _ _ _ hq⟩
 ·exact h.mono fun v w' hq=>hK _ _ hq
theorem qI {P:Program} {o:Oper} {a:Act} {K K':Act->World->Prop} {Q Q':Exit->Act->World->Prop} {w:World} (hK:∀ a w,K a w->K' a w) (hQ:∀ e a w,Q e a w->Q' e a w)
  (h:o.wp P a w K Q):o.wp P a w K' Q':=vi hK hQ h
theorem ct (c:Code) (k:List It) (a:Act) (w:World):kq X (.code c :: k) .normal a w=c.wp X.P (kq X k) a w:=rfl
theorem Al (c:Code) (k:List It):kq X (.code c :: k)=Exit.then (c.wp X.P (kq X k)) (kq X k):=by
 funext e a w;cases e<;>rfl
theorem CV (id:Nat) (k:List It) (e:Exit) (a:Act) (w:World) (h:kq X (.sf id :: k) e a w):Exit.inBlock id (kq X k) e a w:=by
 cases e<;>exact h
theorem wanted_spec (h:Rel X E st a w) {all:Array Oper} {o:Oper} {j d:Nat} {want:Bool} {fI:List (Nat × Bool)} {sd:DV} (Am:o.guard=some (j,want)) (sx:gslot all.toList j=some d) (CW:get st.sl d=some ⟨fI,sd⟩) :
  Region.wanted o (yielded all a.tmps)=true↔Holds a.tmps ((d,want) :: fI):=by
 have CX:yielded all a.tmps j=match a.tmps[d]? with | some (.bool b)=>some b | _=>none:=by
  unfold gslot at sx;split at sx
  ·rename_i oj hoj;have IF:all[j]? = some oj:=by simpa using hoj
   simp only [yielded,IF,sx,Option.bind_some]
   cases a.tmps[d]? with
   | none=>rfl
   | some v=>cases v<;>rfl
  ·cases sx
 have htd:=h.tm d _ CW;simp only [Region.wanted,Am,CX];constructor
 ·intro hw
  have hb:a.tmps[d]? = some (.bool want):=by
   split at hw
   ·rename_i b hb;rw [hb];have:b=want:=by simpa using hw
    rw [this]
   ·simp at hw
  refine er hb ?_;by_cases hh:Holds a.tmps fI
  ·exact hh
  ·have:=htd.2 hh;rw [hb] at this;simp [undef] at this
 ·intro hh;have:=hh (d,want) (by simp);simp only at this;rw [this];simp
theorem qJ (h:Rel X E st a w) {t:Nat} {b:Bool} (hg:get st.sl t=some ⟨[],.v (.bool b)⟩):a.tmps[t]? = some (.bool b):=by
 obtain ⟨v,h1,h2⟩:=(h.tm t _ hg).1 (aA _);rw [h1,eu h2]
theorem xJ (h:Rel X E st a w) {t:Nat} (hg:get st.sl t=some ⟨[],.ud⟩):a.tmps[t]? = some undef:=by
 obtain ⟨v,h1,h2⟩:=(h.tm t _ hg).1 (aA _);unfold Rv at h2;rw [h1,h2]
theorem l8 {G:List (Nat × Bool)} {dst:Option Nat} (gD:Ir G dst=true):∀ e,dst=some e->∀ p∈G,p.1≠e:=by
 intro e he p hp bM;rw [he] at gD;have:=(List.all_eq_true.1 gD) p hp;rw [bM] at this;simp at this
theorem go_sound:∀ n,KR X (go X n)
 | 0=>fun k st hg=>hg.elim
 | n + 1=>by
  have ih:=go_sound n;intro k st hg E a w h
  match k with
  | []=>exact nU h (by simpa [go] using hg)
  | .sf id :: k=>exact ih k st (by simpa [go] using hg) E a w h
  | .sg J :: k=>exact ⟨st,E,h,by simpa [go] using hg⟩
  | .ops all [] :: k=>exact ih k st (by simpa [go] using hg) E a w h
  | .ops all (o :: r) :: k=>
   simp only [go,hY,ue] at hg;split at hg
   ·exact hg.elim
   ·rename_i hd;split at hg
    ·rename_i Am;simp only [kq,wpList,Region.wanted,Am,if_true];split at hg
     ·rename_i s hs;obtain ⟨v,hv,bc⟩:=dq X.hT h.rl (aA _) hs;exact .inl (fp (bc w fun _=>rfl) (ih _ _ hg E _ w (aP h hd s v hv)))
     ·exact .inl (qI (fun a w hk=>hk) (fun e a w hq=>hq.elim) (nT ih hd h hg))
    ·rename_i j want Am;split at hg
     ·exact hg.elim
     ·rename_i d sx;split at hg
      ·exact hg.elim
      ·rename_i fI sd CW;have jB:=wanted_spec h Am sx CW;simp only [kq,wpList];split at hg
       ·rename_i s hs;split at hg
        case h_2=>exact hg.elim
        rename_i gD;split
        ·rename_i hw;have hh:=jB.1 hw;obtain ⟨v,hv,bc⟩:=dq X.hT h.rl hh hs;exact .inl (fp (bc w fun _=>rfl) (ih _ _ hg E _ w (jw h hd _ s v (l8 gD) (fun _=>hv) (fun hn=>(hn hh).elim))))
        ·rename_i hw;have hh:¬ Holds a.tmps ((d,want) :: fI):=fun hh=>hw (jB.2 hh);exact ih _ _ hg E _ w (jw h hd _ s undef (l8 gD) (fun hn=>(hh hn).elim) (fun _=>rfl))
       ·split at hg
        ·rename_i b ed;have jh:=qJ h ed
         cases fI with
         | nil=>
          simp only [lastG] at ed jh;cases ph:(b == want)
          ·have sJ:b = !want:=by cases b<;>cases want<;>simp_all
           have hg:=hg.f ph
           have hn:¬ Region.wanted o (yielded all a.tmps)=true:=by
            intro hw;have:=(jB.1 hw) (d,want) (by simp);simp only at this;rw [jh] at this;simp only [oI,Value.bool.injEq] at this;rw [this] at ph;simp at ph
           rw [if_neg hn];have hr:=eQ (d:=d) (b:=!want) h (by rw [jh,sJ]);exact ih _ _ hg E _ w (aP hr (eS hd) .ud undef (kK E))
          ·have sq:b=want:=by simpa using ph
           have hg:=hg.t ph;subst sq;have hw:Region.wanted o (yielded all a.tmps)=true:=jB.2 (er jh (aA _));rw [if_pos hw];have hr:=eQ (d:=d) (b:=b) h jh;exact .inl (qI (fun a w hk=>hk) (fun e a w hq=>hq.elim) (nT ih (eS hd) hr hg))
         | cons g1 gr=>
          have key:∀ c,a.tmps[(lastG (d,want) (g1 :: gr)).1]? = some (.bool c)->go X n (.ops all (o :: r) :: k) (st.resolve (lastG (d,want) (g1 :: gr)).1 c)->wpList X.P all (kq X k) (o :: r) a w:=
           fun c hc nB=>ih _ _ nB E a w (eQ h hc)
          cases ph:(b == (lastG (d,want) (g1 :: gr)).2)
          ·have hg:=hg.f ph;have sJ:b = !(lastG (d,want) (g1 :: gr)).2:=by cases b<;>cases h0:(lastG (d,want) (g1 :: gr)).2<;>simp_all
           have:=key _ (by rw [jh,sJ]) hg;simpa [wpList] using this
          ·have hg:=hg.t ph;have sq:b=(lastG (d,want) (g1 :: gr)).2:=by simpa using ph
           have:=key _ (by rw [jh,sq]) hg;simpa [wpList] using this
        ·rename_i ed
         cases fI with
         | nil=>
          have jh:=xJ h ed;simp only [lastG] at jh
          have hn:¬ Region.wanted o (yielded all a.tmps)=true:=by
           intro hw;have:=(jB.1 hw) (d,want) (by simp);simp only at this;rw [jh] at this;simp [undef] at this
          rw [if_neg hn];exact ih _ _ hg E _ w (aP h hd .ud undef (kK E))
         | cons g1 gr=>exact hg.elim
        ·exact hg.elim
  | .code c :: k=>
   rw [ct]
   cases c with
   | skip=>exact wp_skip (ih k st (by simpa [go] using hg) E a w h)
   | seq x y=>
    have:=ih (.code x :: .code y :: k) st (by simpa [go] using hg) E a w h;rw [ct,Al] at this;exact wp_seq this
   | block id b=>
    have:=ih (.code b :: .sf id :: k) st (by simpa [go] using hg) E a w h;rw [ct] at this;exact wp_block (wp_mono this (CV id k))
   | exit id=>
    simp only [go] at hg;split at hg
    ·rename_i k' hk;exact wp_exit (jA k k' a w hk (ih k' st hg E a w h))
    ·exact hg.elim
   | cond x p q=>
    simp only [go] at hg;split at hg
    ·rename_i b hb;refine wp_cond (t:=b) (by rw [eu (az h.rl hb)]) ?_;cases ed:b
     ·exact ih (.code q :: k) st (hg.f ed) E a w h
     ·exact ih (.code p :: k) st (hg.t ed) E a w h
    ·exact hg.elim
   | region id ops d=>
    simp only [go] at hg;cases d
    ·exact wp_region_list (ih (.ops ops ops.toList :: k) st hg E a w h)
    ·exact hg E a w h
   | loop b=>exact (by simpa [go] using hg:nM X b k st) E a w h
   | ret=>exact wp_ret (l7 k a w (nU h (by simpa [go] using hg)))
   | _=>simp [go] at hg
theorem qK {fn:Func} (sn:X.fn=fn) (e:Exit) (a:Act) (w:World) (h:kq X [] e a w):bodyPost X.P fn (fun e w'=>∃ v,e = .returned v/\oZ X.still X.E0 X.w0 X.Φ v w' X.fr/\iy X.bt X.E0.β w') e a w:=by
 subst sn
 cases e with
 | normal=>obtain ⟨h1,v,h2,h3⟩:=h;exact ⟨h1,v,h2,v,rfl,h3⟩
 | ret=>obtain ⟨h1,v,h2,h3⟩:=h;exact ⟨h1,v,h2,v,rfl,h3⟩
 | exit _=>exact h.elim
 | goto _=>exact h.elim
 | panic _=>exact h.elim
 | outgrown=>exact h.elim
end
def Ei (s:Bool) (P:Program) (f:FuncId) (args:List DV) (os:List (List DV)) (bI:List TkE) (Φ:DV->List (List DV)->List TkE->Prop) (fr:Bool:=false):Prop:=
 ∀ (E:En) (w:World) (vs:List Value),Env E os w->E.tk=bI->RvL E args vs->Calls P f vs.toArray w fun e w'=>∃ v,e = .returned v/\oZ s E w Φ v w' fr
def Ev (P:Program) (f:FuncId) (args:List DV) (os:List (List DV)) (bI:List TkE) (Φ:DV->List (List DV)->List TkE->Prop):Prop:=Ei false P f args os bI Φ
def KV (P:Program) (f:FuncId) (args:List DV) (os:List (List DV)) (bI:List TkE) (Φ:DV->List (List DV)->List TkE->Prop):Prop:=Ei true P f args os bI Φ
def bD (P:Program) (f:FuncId) (args:List DV) (d:DV):Prop:=Ev P f args [] [] fun d' _ _=>d'=d
def argSl:Nat->List DV->List (Nat × Sl)
 | _,[]=>[]
 | i,v :: r=>(i,⟨[],v⟩) :: argSl (i + 1) r
theorem nV:∀ (l:List DV) (i j:Nat) (x:Sl),get (argSl i l) j=some x->∃ v,x=⟨[],v⟩/\i<=j/\l[j - i]? = some v
 | [],_,_,_,h=>by simp [argSl,get] at h
 | v :: r,i,j,x,h=>by
  simp only [argSl,bG] at h;split at h
  ·rename_i gv;simp only [oI] at h;subst h gv;exact ⟨v,rfl,Nat.le_refl _,by simp⟩
  ·rename_i gv;obtain ⟨u,hu,fL,hg⟩:=nV r (i + 1) j x h;refine ⟨u,hu,by omega,?_⟩;rw [show j - i=(j - (i + 1)) + 1 by omega];simpa using hg
theorem Nw.refl {E:En} {bx:List (List DV)} {w:World} (h:Env E bx w):Nw E E w where
 c:=fun _ _ h=>h
 cn:=fun _ _ h=>.inl h
 β:=⟨[],by simp,by simp⟩
 tk:=fun k q y hq hy=>⟨q,y,hq,hy,rfl,rfl,.inl ⟨rfl,rfl⟩,.inl rfl⟩
 tn:=fun k y g hk hy=>by
  have:=(gS hy).1;rw [h.tl] at this;omega
 l0:=h.tl
def IG (s:Bool) (P:Program) (f:FuncId) (args:List DV) (os:List (List DV)) (bI:List TkE) (bt:List (Nat × TypeId)) (Φ:DV->List (List DV)->List TkE->Prop) (fr:Bool:=false):Prop:=
 ∀ (E:En) (w:World) (vs:List Value),Env E os w->E.tk=bI->iy bt E.β w->RvL E args vs->Calls P f vs.toArray w fun e w'=>∃ v,e = .returned v/\oZ s E w Φ v w' fr/\iy bt E.β w'
theorem An {s:Bool} {P:Program} {f:FuncId} {fn:Func} {c:Code} {args:List DV} {os:List (List DV)} {bI:List TkE} {Φ:DV->List (List DV)->List TkE->Prop} (bt:List (Nat × TypeId)) (mu:List Nat) (fr:Bool) (T:TT) (hT:T.ok P=true) (n nt:Nat) (rs:List ResultVar)
  (hf:P.funcs[f]? = some fn) (hb:fn.body=some c) (Ao:fn.ntmps=nt) (se:fn.results.toList=rs) (hlen:args.length<=nt)
  (h:∀ (E:En) (w:World) (hn:E.β.length=os.length) (hm:E.tk.length=bI.length),go ⟨P,T,hT,fn,nt,rs,se,w,E,os.length,bI.length,hn,hm,s,Φ,bt,mu,fr⟩ n [.code c] ⟨argSl 0 args,os,bI⟩):IG s P f args os bI bt Φ fr:=by
 intro E w vs hE nD ed hv;have hl:=hv.length;have hg:=h E w hE.len (by rw [nD]);refine calls_of_wp hf hb ?_
 have hs:=go_sound (X:=⟨P,T,hT,fn,nt,rs,se,w,E,os.length,bI.length,hE.len,by rw [nD],s,Φ,bt,mu,fr⟩) n _ _ hg E
  {tmps:=vs.toArray ++ Array.replicate (fn.ntmps - vs.toArray.size) undef,defers:=[] } w
  {env:=hE
   tk:=nD
   sz:=by simp [Ao];omega
   tm:=by
    intro i x hx;obtain ⟨d,rfl,_,hd⟩:=nV args 0 i x hx;simp only [Nat.sub_zero] at hd;obtain ⟨v,j9,wM⟩:=hv.get hd;rw [Array.getElem?_append_left (by simpa using (gS j9).1)];exact ⟨fun _=>⟨v,by simpa using j9,wM⟩,fun hn=>(hn (aA _)).elim⟩
   df:=rfl
   nw:=Nw.refl hE
   fr:=⟨rfl,rfl,rfl,Nat.le_refl _,fun _ _ _=>rfl⟩
   sh:=fun _=>⟨0,rfl⟩
   bt:=ed }
 exact wp_mono hs (qK rfl)
theorem uz {s:Bool} {P:Program} {f:FuncId} {fn:Func} {c:Code} {args:List DV} {os:List (List DV)} {bI:List TkE} {Φ:DV->List (List DV)->List TkE->Prop} (bt:List (Nat × TypeId)) (mu:List Nat) (hbt:∀ p∈bt,os.length<=p.1) (fr:Bool) (T:TT) (hT:T.ok P=true) (n nt:Nat) (rs:List ResultVar)
  (hf:P.funcs[f]? = some fn) (hb:fn.body=some c) (Ao:fn.ntmps=nt) (se:fn.results.toList=rs) (hlen:args.length<=nt)
  (h:∀ (E:En) (w:World) (hn:E.β.length=os.length) (hm:E.tk.length=bI.length),go ⟨P,T,hT,fn,nt,rs,se,w,E,os.length,bI.length,hn,hm,s,Φ,bt,mu,fr⟩ n [.code c] ⟨argSl 0 args,os,bI⟩):Ei s P f args os bI Φ fr:=fun E w vs hE nD hv=>(An bt mu fr T hT n nt rs hf hb Ao se hlen h E w vs hE nD (fun p hp b hb=>by
  have h1:=hbt p hp;have h2:=(gS hb).1;have h3:=hE.len
  omega) hv).mono fun _ _ ⟨v,h1,h2,_⟩=>⟨v,h1,h2⟩
theorem Ap {s:Bool} {P:Program} {f:FuncId} {fn:Func} {c:Code} {args:List DV} {os:List (List DV)} {bI:List TkE} {Φ:DV->List (List DV)->List TkE->Prop} (bt:List (Nat × TypeId)) (hbt:∀ p∈bt,os.length<=p.1) (T:TT) (hT:T.ok P=true) (n nt:Nat) (rs:List ResultVar)
  (hf:P.funcs[f]? = some fn) (hb:fn.body=some c) (Ao:fn.ntmps=nt) (se:fn.results.toList=rs) (hlen:args.length<=nt)
  (h:∀ (E:En) (w:World) (hn:E.β.length=os.length) (hm:E.tk.length=bI.length),go ⟨P,T,hT,fn,nt,rs,se,w,E,os.length,bI.length,hn,hm,s,Φ,bt,[],false⟩ n [.code c] ⟨argSl 0 args,os,bI⟩):Ei s P f args os bI Φ:=
 uz bt [] hbt false T hT n nt rs hf hb Ao se hlen h
theorem xK {s:Bool} {P:Program} {f:FuncId} {fn:Func} {c:Code} {args:List DV} {os:List (List DV)} {bI:List TkE} {Φ:DV->List (List DV)->List TkE->Prop} (T:TT) (hT:T.ok P=true) (n nt:Nat) (rs:List ResultVar)
  (hf:P.funcs[f]? = some fn) (hb:fn.body=some c) (Ao:fn.ntmps=nt) (se:fn.results.toList=rs) (hlen:args.length<=nt)
  (h:∀ (E:En) (w:World) (hn:E.β.length=os.length) (hm:E.tk.length=bI.length),go ⟨P,T,hT,fn,nt,rs,se,w,E,os.length,bI.length,hn,hm,s,Φ,[],[],false⟩ n [.code c] ⟨argSl 0 args,os,bI⟩):Ei s P f args os bI Φ:=
 Ap [] (fun p hp=>by cases hp) T hT n nt rs hf hb Ao se hlen h
theorem ev_go {P:Program} {f:FuncId} {fn:Func} {c:Code} {args:List DV} {os:List (List DV)} {bI:List TkE} {Φ:DV->List (List DV)->List TkE->Prop} (T:TT) (hT:T.ok P=true) (n nt:Nat) (rs:List ResultVar)
  (hf:P.funcs[f]? = some fn) (hb:fn.body=some c) (Ao:fn.ntmps=nt) (se:fn.results.toList=rs) (hlen:args.length<=nt)
  (h:∀ (E:En) (w:World) (hn:E.β.length=os.length) (hm:E.tk.length=bI.length),go ⟨P,T,hT,fn,nt,rs,se,w,E,os.length,bI.length,hn,hm,false,Φ,[],[],false⟩ n [.code c] ⟨argSl 0 args,os,bI⟩):Ev P f args os bI Φ:=
 xK T hT n nt rs hf hb Ao se hlen h
theorem Ev.mono {P:Program} {f:FuncId} {args:List DV} {os:List (List DV)} {bI:List TkE} {Φ Ψ:DV->List (List DV)->List TkE->Prop} (h:Ev P f args os bI Φ) (hΦ:∀ d o t,Φ d o t->Ψ d o t):Ev P f args os bI Ψ:=by
 intro E w vs h1 h2 h3;refine (h E w vs h1 h2 h3).mono ?_;rintro e w' ⟨v,rfl,h4,hs,d,o,E',h5,h6,h7,h8,h9,nR⟩;exact ⟨v,rfl,h4,hs,d,o,E',h5,h6,h7,h8,h9,hΦ _ _ _ nR⟩
theorem Ev.Fg {P:Program} {f:FuncId} {args:List DV} {os:List (List DV)} {bI:List TkE} {Φ:DV->List (List DV)->List TkE->Prop} {bt:List (Nat × TypeId)} (h:Ev P f args os bI Φ) (hb:bt=[]):IG false P f args os bI bt Φ:=fun E w vs h1 h2 _ h4=>
 (h E w vs h1 h2 h4).mono fun _ _ ⟨v,h5,h6⟩=>⟨v,h5,h6,.nil hb⟩
theorem br {b:Bool} {A B:Prop} (h1:b=true->A) (h2:b=false->B):@Bool.rec (fun _=>Prop) B A b:=by
 cases b
 ·exact h2 rfl
 ·exact h1 rfl
section
variable {X:Ctx} {st:St} {k:List It} {E:En} {a:Act} {w:World}
theorem vj (h:Rel X E st a w) (a7:X.still=false) {E2:En} {w':World} (hm:lg (E.cl).S w w') (he:Env E2 [] w') (hn:Nw E.cl E2 w):Rel X ⟨E2.c,E.β,E.tk,E.τ⟩ st a w':=by
 have hh:∀ i,i < w.heap.size->w'.heap[i]? = w.heap[i]?:=fun i hi=>hm.block i hi (by
  rintro (h1 | ⟨y,h1,_⟩)
  ·simp [En.cl] at h1
  ·simp [En.cl] at h1)
 have bZ:∀ x v,E2.c x=some v->E.c x=some v∨w.heap.size<=x.block:=fun x v hx=>by
  rcases hn.cn x v hx with h1 | h1 | ⟨y,h1,_⟩
  ·exact .inl h1
  ·exact .inr h1
  ·simp [En.cl] at h1
 have hx:Ext E ⟨E2.c,E.β,E.tk,E.τ⟩:=⟨hn.c,fun _ _ h=>h,fun _ q h=>⟨q,h,.inl ⟨rfl,rfl⟩⟩⟩;have hk:=h.env.ew hh;refine bO h hx ?_ h.tk ?_ (h.fr.bh hm.os hm.tape hm.output hm.size fun i hi=>.inr (hh i hi)) (jx a7) (h.bt.ew fun b hb=>hh b (h.env.aG hb))
 ·exact {
   len:=h.env.len
   tl:=h.env.tl
   cr:=fun i cs hi=>by
    obtain ⟨b,ty,arr,hb,hw,hc⟩:=hk.cr i cs hi;exact ⟨b,ty,arr,hb,hw,hc.mono hx⟩
   inj:=h.env.inj
   sub:=he.sub
   pc:=fun x v hc jv=>by
    rcases bZ x v hc with h1 | h1
    ·exact h.env.pc x v h1 jv
    ·have:=h.env.aG jv;omega
   bI:=fun k q y hq hy=>by
    rcases hk.bI k q y hq hy with h1 | ⟨g',cap,cur,rfl,h1,h2,h3,h4,h5,h6⟩
    ·exact .inl h1
    ·refine .inr ⟨g',cap,cur,rfl,h1,⟨h2.1,h2.2.mono hn.c⟩,h3,h4,h5,fun x v hc hg=>?_⟩;rcases bZ x v hc with h7 | h7
     ·exact h6 x v h7 hg
     ·have:=(dR (h.env.bI k q _ hq hy) (g:=g') rfl).1;omega
   eL:=h.env.eL }
 ·exact {
   c:=fun x v hc=>hn.c x v (h.nw.c x v hc)
   cn:=fun x v hc=>by
    rcases bZ x v hc with h1 | h1
    ·exact h.nw.cn x v h1
    ·have:=h.fr.size;exact .inr (.inl (by omega))
   β:=h.nw.β
   tk:=h.nw.tk
   tn:=h.nw.tn
   l0:=h.nw.l0 }
theorem xL {bx:List (List DV)} (h:Env E bx w):Env E.cl [] w where
 len:=rfl
 tl:=rfl
 cr:=by simp
 inj:=List.nodup_nil
 sub:=h.sub
 pc:=by simp [En.cl]
 bI:=by simp [En.cl]
 eL:=by simp [En.cl]
theorem kO {P:Program} (h:Rel X E st a w) (a7:X.still=false) {f:FuncId} {args aU:List DV} {vs:List Value} {Φ:DV->List (List DV)->List TkE->Prop} (hc:Ev P f aU [] [] Φ) (ha:CcL [] 0 0 0 aU args) (hv:RvL E args vs) :
  Calls P f vs.toArray w fun e w'=>∃ v E' d,e = .returned v/\Rel X E' st a w' /\ Rv E' d v/\Φ d [] []/\lg E.cl.S w w' /\ Ext E E' /\ E'.β=E.β:=by
 have EK:RvL E.cl aU vs:=CcL.sound (E:=E) (E':=E.cl) ⟨fun _ _ h=>h,fun i cs _ hi=>by simp at hi⟩ (vg.zero _ _) ha hv;refine (hc E.cl w vs (xL h.env) rfl EK).mono ?_;rintro e w' ⟨v,rfl,hm,_,d,os,E2,he,hβ,nD,hn,Aq,hΦ⟩
 have lh:os=[]:=by
  have:=he.len;rw [hβ] at this;exact List.eq_nil_of_length_eq_zero this.symm
 subst lh;have jh:E2.tk=[]:=List.eq_nil_of_length_eq_zero nD;refine ⟨v,⟨E2.c,E.β,E.tk,E.τ⟩,d,rfl,vj h a7 hm he hn,?_,by rw [jh] at hΦ;exact hΦ,hm,⟨hn.c,fun _ _ h=>h,fun _ q h=>⟨q,h,.inl ⟨rfl,rfl⟩⟩⟩,rfl⟩;refine Rv.mono (E:=E2) (E':=⟨E2.c,E.β,E.tk,E.τ⟩) ⟨fun _ _ h=>h,fun i b hb=>?_,fun k q hq=>?_⟩ Aq
 ·rw [hβ] at hb;simp [En.cl] at hb
 ·rw [jh] at hq;simp at hq
theorem cj {f:FuncId} {args aU:List DV} {d:Nat} (iM:Enters X.P f) (hd:dm X.nt st.sl (some d)=true) {Φ:DV->List (List DV)->List TkE->Prop} (hc:Ev X.P f aU [] [] Φ) (ha:CcL [] 0 0 0 aU args)
  (hk:∀ r,Φ r [] []->go X 4000 k ⟨(d,⟨[],r⟩) :: st.sl,st.bx,st.tk⟩) (a7:X.still=false:=by exact rfl):dh X f args (some d) k st:=by
 refine ⟨iM,a7,fun E a w vs h hv=>(kO h a7 hc ha hv).mono ?_⟩;rintro e w' ⟨v,E',r,rfl,bg,hr,hΦ,_⟩;exact go_sound 4000 _ _ (hk r hΦ) E' _ w' (aP bg hd r v hr)
theorem call_p {f:FuncId} {args aU:List DV} {d:Nat} {r:DV} (iM:Enters X.P f) (hc:bD X.P f aU r) (ha:CcL [] 0 0 0 aU args) (hd:dm X.nt st.sl (some d)=true)
  (hk:go X 4000 k ⟨(d,⟨[],r⟩) :: st.sl,st.bx,st.tk⟩) (a7:X.still=false:=by exact rfl):dh X f args (some d) k st:=
 cj iM hd hc ha (fun _ hr=>hr ▸ hk) a7
def clB (n m:Nat):DV->Bool
 | .v _=>true
 | .ud=>true
 | .sl _ _ none=>true
 | .sl _ _ (some k)=>Nat.blt k m
 | .pt _ _=>true
 | .loc i _=>Nat.blt i n
 | .el i _=>Nat.blt i n
 | .ms i _ _ _ _=>Nat.blt i n
 | .agg l=>clL l
 | .cP l=>clL l
 | .fn _ l r=>clL l && clL r
 | .kJ _ x=>clB n m x
where clL:List DV->Bool
 | []=>true
 | d :: r=>clB n m d && clL r
def En.cut (E:En) (n m:Nat):En:=⟨E.c,E.β.take n,E.tk.take m,E.τ.take m⟩
mutual
theorem Rv.cut {n m:Nat} {E:En}:∀ {d:DV} {v:Value},Rv E d v->clB n m d=true->Rv (E.cut n m) d v
 | .v x,v,h,_=>by unfold Rv at h ⊢;exact h
 | .ud,v,h,_=>by unfold Rv at h ⊢;exact h
 | .sl e es none,v,h,_=>by
  unfold Rv at h ⊢;obtain ⟨b,n,cap,h1,h2,h3,_⟩:=h;exact ⟨b,n,cap,h1,h2,h3,fun k hk=>by cases hk⟩
 | .sl e es (some k),v,h,hc=>by
  unfold Rv at h ⊢;obtain ⟨b,n',cap,h1,h2,h3,h4⟩:=h;refine ⟨b,n',cap,h1,h2,h3,fun k' dW=>?_⟩;cases dW;have hk:k < m:=by simpa [clB] using hc
  obtain ⟨q,h5,h6,h7⟩:=h4 k rfl;exact ⟨q,by show (E.tk.take m)[k]? = _;rw [List.getElem?_take,if_pos hk];exact h5,h6,fun hh=>by show (E.τ.take m)[k]? = _;rw [List.getElem?_take,if_pos hk];exact h7 hh⟩
 | .pt cs o,v,h,_=>by unfold Rv at h ⊢;exact h
 | .loc i o,v,h,hc=>by
  unfold Rv at h ⊢;obtain ⟨b,hb,h1⟩:=h;have hi:i < n:=by simpa [clB] using hc
  exact ⟨b,by show (E.β.take n)[i]? = _;rw [List.getElem?_take,if_pos hi];exact hb,h1⟩
 | .el i o,v,h,hc=>by
  unfold Rv at h ⊢;obtain ⟨b,hb,h1⟩:=h;have hi:i < n:=by simpa [clB] using hc
  exact ⟨b,by show (E.β.take n)[i]? = _;rw [List.getElem?_take,if_pos hi];exact hb,h1⟩
 | .ms i e o l c,v,h,hc=>by
  unfold Rv at h ⊢;obtain ⟨b,ad,hb,h1⟩:=h;have hi:i < n:=by simpa [clB] using hc
  exact ⟨b,ad,by show (E.β.take n)[i]? = _;rw [List.getElem?_take,if_pos hi];exact hb,h1⟩
 | .agg l,v,h,hc=>by
  unfold Rv at h ⊢;obtain ⟨vs,h1,h2,h3⟩:=h;simp only [clB] at hc;exact ⟨vs,h1,RvL.cut h2 hc,h3⟩
 | .cP l,v,h,hc=>by
  unfold Rv at h ⊢;obtain ⟨vs,h1,h2⟩:=h;simp only [clB] at hc;exact ⟨vs,h1,RvL.cut h2 hc⟩
 | .fn f l r,v,h,hc=>by
  unfold Rv at h ⊢;obtain ⟨l',r',h1,h2,h3⟩:=h;simp only [clB,Bool.and_eq_true] at hc;exact ⟨l',r',h1,RvL.cut h2 hc.1,RvL.cut h3 hc.2⟩
 | .kJ t x,v,h,hc=>by
  unfold Rv at h ⊢;obtain ⟨z,h1,h2⟩:=h;simp only [clB] at hc;exact ⟨z,h1,Rv.cut h2 hc⟩
theorem RvL.cut {n m:Nat} {E:En}:∀ {l:List DV} {vs:List Value},RvL E l vs->clB.clL n m l=true->RvL (E.cut n m) l vs
 | [],vs,h,_=>by simp only [RvL] at h ⊢;exact h
 | d :: r,vs,h,hc=>by
  simp only [RvL] at h ⊢;obtain ⟨v,s,h1,h2,h3⟩:=h;simp only [clB.clL,Bool.and_eq_true] at hc;exact ⟨v,s,h1,Rv.cut h2 hc.1,RvL.cut h3 hc.2⟩
end
end
end Dv
end Go.Proofs.YtfifjddnnmfeoaaGreat
namespace Go.Proofs.YtfifjddnnmfeoaaGreat
namespace Dv
open Go Go.RowKit
def We (n m:Nat) (bF:List TkE) (x x':DV):Prop:=
 (x=x' /\ clB n m x=true)∨(x = .v (.slice none 0 0)/\∃ e k q,x' = .sl e [] (some k)/\m<=k/\bF[k]? = some q)∨(x = .v (.slice none 0 0)/\∃ e,x' = .sl e [] none)∨(∃ e es tk,x = .sl e es tk/\x' = .sl e es none)∨(∃ e es p9 tk,x = .sl e es tk/\x' = .sl e p9 none/\CcE [] 0 p9 es)∨(∃ e es p9 k,x = .sl e es (some k)/\x' = .sl e p9 (some k)/\k < m/\CcE [] 0 p9 es)
def WeL (n m:Nat) (bF:List TkE):List DV->List DV->Prop
 | [],l=>l=[]
 | x :: r,l=>∃ x' r',l=x' :: r' /\ We n m bF x x' /\ WeL n m bF r r'
def WeLL (n m:Nat) (bF:List TkE):List (List DV)->List (List DV)->Prop
 | [],l=>l=[]
 | x :: r,l=>∃ x' r',l=x' :: r' /\ WeL n m bF x x' /\ WeLL n m bF r r'
def kP (n m:Nat) (bF:List TkE) (sl:List (Nat × Sl)):List (Nat × Sl)->Prop
 | []=>True
 | p :: r=>(∃ x,get sl p.1=some ⟨p.2.gs,x⟩/\We n m bF x p.2.s)/\kP n m bF sl r
structure qL (n0 m0:Nat) (st aK:St):Prop where
 all:∃ kept dropped new b0 r,m0<=kept.length/\n0<=b0.length/\st.tk=kept ++ dropped/\aK.tk=kept ++ new/\(∀ q∈new,TkE.new q=true)/\st.bx=b0 ++ r/\WeLL b0.length kept.length aK.tk b0 aK.bx/\kP b0.length kept.length aK.tk st.sl aK.sl
theorem WeLL.length {n m:Nat} {bF:List TkE}:∀ {l l':List (List DV)},WeLL n m bF l l' -> l'.length=l.length
 | [],l',h=>by simp only [WeLL] at h;subst h;rfl
 | x :: r,l',h=>by
  simp only [WeLL] at h;obtain ⟨x',r',rfl,_,h2⟩:=h;simp [WeLL.length h2]
theorem WeLL.get {n m:Nat} {bF:List TkE}:∀ {l l':List (List DV)},WeLL n m bF l l' -> ∀ (i:Nat) cs',l'[i]? = some cs' -> ∃ cs,l[i]? = some cs/\WeL n m bF cs cs'
 | [],l',h,i,cs',hi=>by simp only [WeLL] at h;subst h;simp at hi
 | x :: r,l',h,i,cs',hi=>by
  simp only [WeLL] at h;obtain ⟨x',r',rfl,h1,h2⟩:=h
  cases i with
  | zero=>simp only [List.getElem?_cons_zero,oI] at hi;subst hi;exact ⟨x,rfl,h1⟩
  | succ i=>simp only [List.getElem?_cons_succ] at hi ⊢;exact WeLL.get h2 i cs' hi
theorem l9 {n m:Nat} {bF:List TkE} {sl:List (Nat × Sl)}:∀ {l:List (Nat × Sl)},kP n m bF sl l->∀ i x',get l i=some x' -> ∃ x,get sl i=some ⟨x'.gs,x⟩/\We n m bF x x'.s
 | [],_,i,x',hx=>by cases hx
 | (k,y) :: r,h,i,x',hx=>by
  simp only [bG] at hx;split at hx
  ·rename_i gC;subst gC;simp only [oI] at hx;subst hx;exact h.1
  ·exact l9 h.2 i x' hx
section
variable {X:Ctx} {E:En} {st aK:St} {a:Act} {w:World} {k:List It}
def En.wk (E:En) (n:Nat) (kept new:List TkE):En:=⟨E.c,E.β.take n,kept ++ new,E.τ.take kept.length ++ List.replicate new.length (.slice none 0 0)⟩
theorem qM {n:Nat} {kept dropped new:List TkE} (ht:E.tk=kept ++ dropped) (hl:E.τ.length=E.tk.length) (bZ:∀ q∈new,TkE.new q=true) {x x':DV} {v:Value} (hx:We n kept.length (kept ++ new) x x') (hv:Rv E x v):Rv (E.wk n kept new) x' v:=by
 have sK:kept.length<=E.τ.length:=by rw [hl,ht];simp
 have first:∀ {x:DV},clB n kept.length x=true->Rv E x v->Rv (E.wk n kept new) x v:=by
  intro x hc hv;refine Rv.mono (E:=E.cut n kept.length) ⟨fun _ _ h=>h,fun _ _ h=>h,fun k q hq=>?_⟩ (Rv.cut hv hc);have ic:(E.tk.take kept.length)[k]? = some q:=hq;rw [List.getElem?_take] at ic;split at ic
  ·rename_i hk;refine ⟨q,?_,.inl ⟨rfl,?_⟩⟩
   ·show (kept ++ new)[k]? = _;rw [ht,List.getElem?_append_left hk] at ic;rw [List.getElem?_append_left hk];exact ic
   ·show (E.τ.take kept.length ++ _)[k]? = (E.τ.take kept.length)[k]?;rw [List.getElem?_append_left (by rw [List.length_take];omega)]
  ·cases ic
 rcases hx with ⟨rfl,hc⟩ | ⟨rfl,e,k,q,rfl,hk,hq⟩ | ⟨rfl,e,rfl⟩ | ⟨e,es,tk,rfl,rfl⟩ | ⟨e,es,p9,tk,rfl,rfl,he⟩ | ⟨e,es,p9,k,rfl,rfl,hk,he⟩
 ·exact first hc hv
 ·have:=aO hv;subst this;unfold Rv;refine ⟨none,0,0,rfl,⟨rfl,Nat.le_refl _⟩,fun hn=>(hn rfl).elim,fun k' dW=>?_⟩;cases dW;have Fh:(kept ++ new)[k]? = some q:=hq;rw [List.getElem?_append_right hk] at Fh;have sB:=TkE.xe (bZ q (mG Fh));refine ⟨q,hq,by omega,fun _=>?_⟩;have av:=(gS Fh).1;show (E.τ.take kept.length ++ List.replicate new.length _)[k]? = _;rw [List.getElem?_append_right (by rw [List.length_take];omega)];rw [List.length_take,Nat.min_eq_left sK,List.getElem?_replicate,if_pos av]
 ·have:=aO hv;subst this;unfold Rv;exact ⟨none,0,0,rfl,⟨rfl,Nat.le_refl _⟩,fun hn=>(hn rfl).elim,fun k hk=>by cases hk⟩
 ·unfold Rv at hv ⊢;obtain ⟨b,n,cap,h1,h2,h3,_⟩:=hv;exact ⟨b,n,cap,h1,h2,h3,fun k hk=>by cases hk⟩
 ·have hv:=BL he hv;unfold Rv at hv ⊢;obtain ⟨b,n,cap,h1,h2,h3,_⟩:=hv;exact ⟨b,n,cap,h1,h2,h3,fun k hk=>by cases hk⟩
 ·exact first (by simp only [clB];exact Nat.ble_eq_true_of_le hk) (BL he hv)
theorem nW {n:Nat} {kept dropped new:List TkE} (ht:E.tk=kept ++ dropped) (hl:E.τ.length=E.tk.length) (bZ:∀ q∈new,TkE.new q=true):∀ {l l':List DV} {vs:List Value},WeL n kept.length (kept ++ new) l l' -> RvL E l vs->RvL (E.wk n kept new) l' vs
 | [],l',vs,h,hv=>by
  simp only [WeL] at h;subst h;simp only [RvL] at hv ⊢;exact hv
 | x :: r,l',vs,h,hv=>by
  simp only [WeL] at h;obtain ⟨x',r',rfl,h1,h2⟩:=h;simp only [RvL] at hv ⊢;obtain ⟨v,s,h3,h4,h5⟩:=hv;exact ⟨v,s,h3,qM ht hl bZ h1 h4,nW ht hl bZ h2 h5⟩
theorem vk (h:Rel X E st a w) {kept dropped new:List TkE} {b0 r:List (List DV)} (fN:X.m0<=kept.length/\X.n0<=b0.length/\st.tk=kept ++ dropped/\aK.tk=kept ++ new/\(∀ q∈new,TkE.new q=true)/\st.bx=b0 ++ r/\WeLL b0.length kept.length aK.tk b0 aK.bx/\kP b0.length kept.length aK.tk st.sl aK.sl):Rel X (E.wk b0.length kept new) aK a w:=by
 obtain ⟨lC,lB,ht,lE,bZ,hb,l4,sE⟩:=fN;rw [lE] at l4 sE;have Fi:E.tk=kept ++ dropped:=by rw [h.tk,ht]
 have hbl:=l4.length;have sK:kept.length<=E.τ.length:=by rw [h.env.tl,Fi];simp
 have ed:b0.length<=E.β.length:=by rw [h.env.len,hb];simp
 have hτ:∀ (k:Nat) y,(E.τ.take kept.length ++ List.replicate new.length (Value.slice none 0 0))[k]? = some y->(k < kept.length/\E.τ[k]? = some y)∨(kept.length<=k/\y = .slice none 0 0):=fun k y hy=>by
  rw [List.getElem?_append] at hy;split at hy
  ·rename_i hk;rw [List.length_take] at hk;rw [List.getElem?_take,if_pos (by omega)] at hy;exact .inl ⟨by omega,hy⟩
  ·rename_i hk;rw [List.length_take] at hk;rw [List.getElem?_replicate] at hy;split at hy
   ·simp only [oI] at hy;exact .inr ⟨by omega,hy.symm⟩
   ·cases hy
 exact {
  env:={
   len:=by simp only [En.wk,List.length_take];omega
   tl:=by simp only [En.wk,List.length_append,List.length_take,List.length_replicate];omega
   cr:=fun i cs' hi=>by
    obtain ⟨cs,bK,IH⟩:=l4.get i cs' hi;have av:=(gS bK).1;obtain ⟨b,ty,arr,hbb,HC,hc⟩:=h.env.cr i cs (by rw [hb,List.getElem?_append_left av];exact bK);exact ⟨b,ty,arr,by simp only [En.wk];rw [List.getElem?_take,if_pos av];exact hbb,HC,nW Fi h.env.tl bZ IH hc.1,hc.2⟩
   inj:=h.env.inj.sublist (List.take_sublist _ _)
   sub:=h.env.sub
   pc:=fun x v hx hm=>h.env.pc x v hx (List.mem_of_mem_take hm)
   bI:=fun k q y hq hy=>by
    rcases hτ k y hy with ⟨hk,dM⟩ | ⟨hk,rfl⟩
    ·have ic:(kept ++ new)[k]? = some q:=hq;rw [List.getElem?_append_left hk] at ic;rcases h.env.bI k q y (by rw [Fi,List.getElem?_append_left hk];exact ic) dM with h1 | ⟨g,cap,cur,rfl,h1,h2,h3,h4,h5,h6⟩
     ·exact .inl h1
     ·exact .inr ⟨g,cap,cur,rfl,h1,h2,h3,h4,fun hm=>h5 (List.mem_of_mem_take hm),h6⟩
    ·have ic:(kept ++ new)[k]? = some q:=hq;rw [List.getElem?_append_right hk] at ic;exact .inl ⟨rfl,TkE.xe (bZ q (mG ic)),TkE.BE (bZ q (mG ic))⟩
   eL:=fun k k' y y' g wO hy dM hg si=>by
    rcases hτ k y hy with ⟨_,wP⟩ | ⟨_,rfl⟩
    ·rcases hτ k' y' dM with ⟨_,iz⟩ | ⟨_,rfl⟩
     ·exact h.env.eL k k' y y' g wO wP iz hg si
     ·simp [Value.ownBlock] at si
    ·simp [Value.ownBlock] at hg }
  tk:=by simp only [En.wk];exact lE.symm
  sz:=h.sz
  tm:=fun i x' qb=>by
   obtain ⟨x,hx,IH⟩:=l9 sE i x' qb;have:=h.tm i _ hx;refine ⟨fun hh=>?_,this.2⟩;obtain ⟨v,h1,h2⟩:=this.1 hh;exact ⟨v,h1,qM Fi h.env.tl bZ IH h2⟩
  df:=h.df
  nw:={
   c:=h.nw.c
   cn:=h.nw.cn
   β:=by
    obtain ⟨r2,hr,hl⟩:=h.nw.β;refine ⟨r2.take (b0.length - X.n0),?_,fun b hb=>hl b (List.mem_of_mem_take hb)⟩;simp only [En.wk];rw [hr,List.take_append,List.take_of_length_le (by rw [X.lB];omega),X.lB]
   tk:=fun j q0 y0 sB va=>by
    obtain ⟨q',y',h1,h2,h3⟩:=h.nw.tk j q0 y0 sB va;have hj:j < X.m0:=by rw [<- X.lC];exact (gS sB).1
    have CY:j < kept.length:=by omega
    exact ⟨q',y',by simp only [En.wk];rw [List.getElem?_append_left CY];rw [Fi,List.getElem?_append_left CY] at h1;exact h1,by simp only [En.wk];rw [List.getElem?_append_left (by rw [List.length_take];omega),List.getElem?_take,if_pos CY];exact h2,h3⟩
   tn:=fun j y g hj hy hg=>by
    rcases hτ j y hy with ⟨_,wP⟩ | ⟨_,rfl⟩
    ·exact h.nw.tn j y g hj wP hg
    ·simp [Value.ownBlock] at hg
   l0:=h.nw.l0 }
  fr:=h.fr
  sh:=h.sh
  bt:=h.bt.sub _ }
theorem ma (h:Rel X E st a w) (hw:qL X.n0 X.m0 st aK):∃ E',Rel X E' aK a w:=by
 obtain ⟨_,_,_,_,_,fN⟩:=hw.all;exact ⟨_,vk h fN⟩
theorem least {p:Nat->Prop} (h:∃ n,p n):∃ n,p n/\∀ m,p m->n<=m:=by
 obtain ⟨n,hn⟩:=h
 induction n using Nat.strongRecOn with
 | _ n ih=>
  by_cases hm:∃ m,m < n/\p m
  ·obtain ⟨m,av,hp⟩:=hm;exact ih m av hp
  ·refine ⟨n,hn,fun m hp=>?_⟩;rcases Nat.lt_or_ge m n with h1 | h1
   ·exact (hm ⟨m,h1,hp⟩).elim
   ·exact h1
theorem aF {c:Code} (I:Nat->St->Prop) (j0:Nat) (fq:St) (hw:qL X.n0 X.m0 st fq) (h0:I j0 fq)
  (hr:∀ j s,I j s->go X 4000 (.code c :: .sg (fun s'=>∃ xM,qL X.n0 X.m0 s' xM /\ ∃ j',j' < j/\I j' xM) :: k) s):nM X c k st:=by
 intro E a w h;obtain ⟨E0,wU⟩:=ma h hw
 classical
 let Inv:Act->World->Prop:=fun a w=>∃ j s E,Rel X E s a w/\I j s
 let μ:Act->World->Nat:=fun a w=>if hI:Inv a w then Classical.choose (least hI) else 0
 refine wp_loop Inv μ ⟨j0,fq,E0,wU,h0⟩ ?_;intro a1 w1 hI;have nX:=(Classical.choose_spec (least hI)).1;obtain ⟨s,E1,bg,II⟩:=nX;have hs:=go_sound 4000 _ _ (hr _ s II) E1 a1 w1 bg;rw [ct] at hs;refine wp_mono hs ?_;intro e a2 w2 hq
 cases e with
 | normal=>
  obtain ⟨s',E2,qN,xM,Fj,j',dN,Fk⟩:=hq;obtain ⟨E3,qO⟩:=ma qN Fj;have CZ:Inv a2 w2:=⟨j',xM,E3,qO,Fk⟩;refine ⟨CZ,?_⟩;simp only [μ,dif_pos hI,dif_pos CZ];exact Nat.lt_of_le_of_lt ((Classical.choose_spec (least CZ)).2 j' ⟨xM,E3,qO,Fk⟩) dN
 | exit id=>exact hq
 | goto l=>exact hq
 | ret=>exact hq
 | panic c=>exact hq
 | outgrown=>exact hq
theorem ah {n m:Nat} {bF:List TkE} {x:DV} (h:clB n m x=true):We n m bF x x:=.inl ⟨rfl,h⟩
theorem ap {n m:Nat} {bF:List TkE} {kd:IntKind} {x y:Int} (h:x=y):We n m bF (.v (.int kd x)) (.v (.int kd y)):=.inl ⟨by rw [h],rfl⟩
theorem cK {n m:Nat} {bF:List TkE} {e k:Nat} {q:TkE} (h1:m<=k) (h2:bF[k]? = some q):We n m bF (.v (.slice none 0 0)) (.sl e [] (some k)):=.inr (.inl ⟨rfl,e,k,q,rfl,h1,h2⟩)
theorem gw {n m:Nat} {bF:List TkE} {e k:Nat} {es p9:List (List DV)} (h:es=p9) (hk:Nat.blt k m=true):We n m bF (.sl e es (some k)) (.sl e p9 (some k)):=.inl ⟨by rw [h],hk⟩
theorem ax {p:Prop} (h:p:=by repeat' (first | exact rfl | exact trivial | exact Or.inr (Or.inl ⟨_,rfl⟩) | exact Or.inr ⟨_,rfl⟩ | exact Or.inl ⟨rfl,rfl⟩ | exact Or.inl rfl | refine Or.inr ⟨_,_,rfl,Nat.zero_le _,rfl,?_⟩ | refine ⟨_,_,rfl,?_,?_⟩ | refine ⟨_,rfl,?_⟩ | refine Or.inr (Or.inr (Or.inr ⟨_,_,rfl,?_⟩)) | exact Or.inl rfl | refine Or.inr ?_)):p:=h
theorem wA {p:Prop} (h:p:=by repeat' (first | exact rfl | exact ah rfl | refine ⟨_,_,rfl,?_,?_⟩)):p:=h
theorem wB {p:Prop} (h:p:=by repeat' (first | exact trivial | exact ah rfl | refine ⟨⟨_,rfl,?_⟩,?_⟩)):p:=h
theorem aj {n0 m0:Nat} {st aK:St} (h1:∃ r,st.bx=aK.bx ++ r) (h2:WeLL aK.bx.length aK.tk.length aK.tk aK.bx aK.bx) (h3:st.tk=aK.tk) (h4:Nat.ble n0 aK.bx.length=true) (h5:Nat.ble m0 aK.tk.length=true)
  (h:kP aK.bx.length aK.tk.length aK.tk st.sl aK.sl):qL n0 m0 st aK:=by
 obtain ⟨r,hr⟩:=h1;exact ⟨aK.tk,[],[],aK.bx,r,by simpa using h5,by simpa using h4,by simp [h3],by simp,by simp,hr,h2,h⟩
theorem bw {n0 m0:Nat} {st aK:St} (n:Nat) (hn:Nat.ble n st.bx.length=true) (h2:WeLL n aK.tk.length aK.tk (st.bx.take n) aK.bx) (h3:st.tk=aK.tk) (h4:Nat.ble n0 n=true) (h5:Nat.ble m0 aK.tk.length=true)
  (h:kP n aK.tk.length aK.tk st.sl aK.sl):qL n0 m0 st aK:=by
 have hl:(st.bx.take n).length=n:=by
  have:=nL hn;rw [List.length_take];omega
 exact ⟨aK.tk,[],[],st.bx.take n,st.bx.drop n,by simpa using h5,by rw [hl];simpa using h4,by simp [h3],by simp,by simp,(List.take_append_drop n st.bx).symm,by rw [hl];exact h2,by rw [hl];exact h⟩
theorem fu {n0 m0:Nat} {st aK:St} (q:TkE) (hq:q.new=true) (h1:∃ r,st.bx=aK.bx ++ r) (h3:st.tk ++ [q]=aK.tk) (h2:WeLL aK.bx.length st.tk.length aK.tk aK.bx aK.bx) (h4:Nat.ble n0 aK.bx.length=true) (h5:Nat.ble m0 st.tk.length=true)
  (h:kP aK.bx.length st.tk.length aK.tk st.sl aK.sl):qL n0 m0 st aK:=by
 obtain ⟨r,hr⟩:=h1;exact ⟨st.tk,[],[q],aK.bx,r,by simpa using h5,by simpa using h4,by simp,h3.symm,by simpa using hq,hr,h2,h⟩
end
end Dv
end Go.Proofs.YtfifjddnnmfeoaaGreat
namespace Go.Proofs.YtfifjddnnmfeoaaGreat
namespace Dv
theorem aL {p : Prop} (h : p := by repeat' (first | exact rfl | exact trivial | exact Or.inr (Or.inl ⟨_,rfl⟩) | exact Or.inr ⟨_,rfl⟩ | exact Or.inl ⟨rfl,rfl⟩ | exact Or.inl rfl | refine Or.inr ⟨_,_,rfl,Nat.zero_le _,rfl,?_⟩ | refine ⟨_,_,rfl,?_,?_⟩ | refine ⟨_,rfl,?_⟩ | exact ⟨nL rfl,rfl⟩ | refine Or.inr (Or.inr (Or.inr ⟨_,_,rfl,?_⟩)) | exact Or.inl rfl | refine Or.inr ?_)) : p := h
theorem aI {p : Prop} {a b : Int} (q : a=b) (h : a=b -> p := by intro q;repeat' (first | exact rfl | exact trivial | exact Or.inr (Or.inl ⟨_,rfl⟩) | exact Or.inr ⟨_,rfl⟩ | exact Or.inl ⟨rfl,rfl⟩ | exact Or.inl rfl | refine Or.inr ⟨_,_,rfl,Nat.zero_le _,rfl,?_⟩ | refine ⟨_,_,rfl,?_,?_⟩ | refine ⟨_,rfl,?_⟩ | exact congrArg (fun z=>DV.v (.int .i64 z)) q | refine Or.inr (Or.inr (Or.inr ⟨_,_,rfl,?_⟩)) | exact Or.inl rfl | refine Or.inr ?_)) : p := h q
theorem aB {p : Prop} {a b : Bool} (q : a=b) (h : a=b -> p := by intro q;repeat' (first | exact rfl | exact trivial | exact Or.inr (Or.inl ⟨_,rfl⟩) | exact Or.inr ⟨_,rfl⟩ | exact Or.inl ⟨rfl,rfl⟩ | exact Or.inl rfl | refine Or.inr ⟨_,_,rfl,Nat.zero_le _,rfl,?_⟩ | refine ⟨_,_,rfl,?_,?_⟩ | refine ⟨_,rfl,?_⟩ | exact congrArg (fun b=>DV.v (.bool b)) q | refine Or.inr (Or.inr (Or.inr ⟨_,_,rfl,?_⟩)) | exact Or.inl rfl | refine Or.inr ?_)) : p := h q
theorem KW {p : Prop} {a b : Nat} (q : a < b) (hn : b <= 4611686018427387904 := by omega) (h : a < b -> b <= 4611686018427387904 -> p := by intro q hn;repeat' (first | exact rfl | exact ah rfl | exact ap (ei q hn) | refine ⟨_,_,rfl,?_,?_⟩)) : p := h q hn
theorem pj {p : Prop} {a b : Nat} (q : a < b) (hn : b <= 4611686018427387904 := by omega) (h : a < b -> b <= 4611686018427387904 -> p := by intro q hn;repeat' (first | exact trivial | exact ah rfl | exact ap (ei q hn) | refine ⟨⟨_,rfl,?_⟩,?_⟩)) : p := h q hn
theorem IJ {p r : Prop} {a b : Nat} (q : a < b) (s : r) (hn : b <= 4611686018427387904 := by omega) (h : a < b -> b <= 4611686018427387904 -> r -> p := by intro q hn s;repeat' (first | exact rfl | exact ah rfl | exact ap (ei q hn) | exact gw s rfl | refine ⟨_,_,rfl,?_,?_⟩)) : p := h q hn s
theorem Ej {p r : Prop} {a b : Nat} (q : a < b) (s : r) (hn : b <= 4611686018427387904 := by omega) (h : a < b -> b <= 4611686018427387904 -> r -> p := by intro q hn s;repeat' (first | exact trivial | exact ah rfl | exact ap (ei q hn) | exact gw s rfl | refine ⟨⟨_,rfl,?_⟩,?_⟩)) : p := h q hn s
theorem BM {p : Prop} (h : p := by repeat' (first | exact trivial | exact ah rfl | exact cK (Nat.le_refl _) rfl | refine ⟨⟨_,rfl,?_⟩,?_⟩)) : p := h
theorem wTA {p : Prop} (h : p := by repeat' (first | exact rfl | exact ah rfl | exact cK (Nat.le_refl _) rfl | refine ⟨_,_,rfl,?_,?_⟩)) : p := h
theorem BN {p : Prop} (h : p := by repeat' (first | exact trivial | exact ah rfl | exact ap rfl | refine ⟨⟨_,rfl,?_⟩,?_⟩)) : p := h
theorem wRA {p : Prop} (h : p := by repeat' (first | exact rfl | exact ah rfl | exact ap rfl | refine ⟨_,_,rfl,?_,?_⟩)) : p := h
end Dv
end Go.Proofs.YtfifjddnnmfeoaaGreat
namespace Go.Proofs.YtfifjddnnmfeoaaGreat
namespace Dv
open Go
section
variable {P:Program} {ops:Array Oper} {C:World->Prop} {Q:Act->World->Prop} {W:Nat->Bool} {π:Nat->Nat}
theorem Fl {o:Oper} {a:Act} {w:World} {K:Act->World->Prop} (h:wq P o a w K):∃ v w',K (a.put o.dst v) w':=by
 unfold wq at h;split at h
 ·exact ⟨_,_,h⟩
 ·exact ⟨_,_,h⟩
 ·obtain ⟨e,w',fr,⟨v,_,hv⟩,_⟩:=h [];exact ⟨v,w',hv⟩
 ·exact h.elim
theorem C0 {x y:Oper} {v:Value} (Ek:x.apart ops y=true) (hs:∀ cs b,y.op ≠ .select cs b) {a:Act} {w:World} {K:Act->World->Prop} :
  wq P y (a.put x.dst v) w K↔wq P y a w (fun a' w'=>K (a'.put x.dst v) w'):=by
 obtain ⟨h1,h2,h3⟩:=Oper.apart_spec Ek;unfold wq;rw [execOp_put y hs a x.dst v h1];have hc:∀ u,(a.put x.dst v).put y.dst u=(a.put y.dst u).put x.dst v:=fun u=>Act.put_comm a v u h2
 cases (execOp a.eval y).run P w with
 | halt h w'=>rfl
 | ok n w'=>cases n<;>simp [hc]
def Yl (P:Program) (ops:Array Oper) (C:World->Prop) (o:Oper) (v:Value) (a:Act):Prop:=
 (Region.wanted o (yielded ops a.tmps)=true/\∀ w,(jr o.op=true->C w)->(execOp a.eval o).run P w = .ok (.value v) w) ∨
 (Region.wanted o (yielded ops a.tmps)=false/\v=undef)
theorem Yl.same {x y:Oper} {v u:Value} (Ek:x.apart ops y=true) (hs:∀ cs b,y.op ≠ .select cs b) {a:Act}:Yl P ops C y v (a.put x.dst u)↔Yl P ops C y v a:=by
 obtain ⟨h1,h2,h3⟩:=Oper.apart_spec Ek;unfold Yl;rw [execOp_put y hs a x.dst u h1,wanted_put y a x.dst u h1]
def bR (P:Program) (ops:Array Oper) (o:Oper) (a:Act) (w:World) (K:Act->World->Prop):Prop:=
 if Region.wanted o (yielded ops a.tmps)=true then wq P o a w K else K (a.put o.dst undef) w
theorem b8 {o:Oper} {a:Act} {w:World} {K K':Act->World->Prop} (hk:∀ a w,K a w->K' a w) (h:bR P ops o a w K):bR P ops o a w K':=by
 unfold bR at *;split<;>rename_i hw
 ·rw [if_pos hw] at h;exact ie hk h
 ·rw [if_neg hw] at h;exact hk _ _ h
theorem kh {x y:Oper} {v:Value} (Ek:x.apart ops y=true) (hs:∀ cs b,y.op ≠ .select cs b) {a:Act} {w:World} {K:Act->World->Prop} :
  bR P ops y (a.put x.dst v) w K↔bR P ops y a w (fun a' w'=>K (a'.put x.dst v) w'):=by
 obtain ⟨h1,h2,h3⟩:=Oper.apart_spec Ek;unfold bR;rw [wanted_put y a x.dst v h1];split
 ·exact C0 Ek hs
 ·rw [Act.put_comm a v undef h2]
theorem xN {o:Oper} {a:Act} {w:World} {K:Act->World->Prop} (h:bR P ops o a w K):∃ v w',K (a.put o.dst v) w':=by
 unfold bR at h;split at h
 ·exact Fl h
 ·exact ⟨_,_,h⟩
theorem iO {o:Oper} {a:Act} {w:World} {K:Act->World->Prop} (h:bR P ops o a w K):bR P ops o a w (fun a' w'=>K a' w' /\ ∃ u,a'=a.put o.dst u):=by
 unfold bR at *;split<;>rename_i hw
 ·rw [if_pos hw] at h;unfold wq at *;split at h
  ·rename_i hr;exact ⟨h,_,rfl⟩
  ·rename_i hr;exact ⟨h,_,rfl⟩
  ·rename_i hr;refine h.mono ?_;rintro e w' ⟨v,rfl,hv⟩;exact ⟨v,rfl,hv,v,rfl⟩
  ·exact h.elim
 ·rw [if_neg hw] at h;exact ⟨h,_,rfl⟩
theorem eT {o:Oper} {a:Act} {w:World} {v:Value} {K:Act->World->Prop} (hy:Yl P ops C o v a) (hc:jr o.op=true->C w) (hk:K (a.put o.dst v) w):bR P ops o a w K:=by
 unfold bR;rcases hy with ⟨hw,hv⟩ | ⟨hw,rfl⟩
 ·rw [if_pos hw];unfold wq;rw [hv w hc];exact hk
 ·rw [if_neg (by simp [hw])];exact hk
theorem gI {o:Oper} {a:Act} {w:World} {v:Value} {K:Act->World->Prop} (hy:Yl P ops C o v a) (hc:jr o.op=true->C w) (h:bR P ops o a w K):K (a.put o.dst v) w:=by
 unfold bR at h;rcases hy with ⟨hw,hv⟩ | ⟨hw,rfl⟩
 ·rw [if_pos hw] at h;unfold wq at h;rw [hv w hc] at h;exact h
 ·rw [if_neg (by simp [hw])] at h;exact h
def runT (P:Program) (ops:Array Oper) (W:Nat->Bool) (C:World->Prop) (Q:Act->World->Prop):List Nat->Act->World->Prop
 | [],a,w=>Q a w
 | i :: r,a,w=>
  match ops[i]? with
  | none=>False
  | some o=>
   if ia o.op=true then bR P ops o a w fun a' w'=>(W i=false->C w->C w')/\runT P ops W C Q r a' w'
   else ∃ v,Yl P ops C o v a/\(jr o.op=true->C w)/\runT P ops W C Q r (a.put o.dst v) w
def gx (ops:Array Oper) (W:Nat->Bool) (j i:Nat):Bool:=
 match ops[j]?,ops[i]? with
 | some x,some y=>x.apart ops y && y.apart ops x && !(ia x.op && ia y.op) && !(jr x.op && W i)
 | _,_=>false
def xO (ops:Array Oper) (l:List Nat):Prop:=∃ i o,i∈l/\ops[i]? = some o/\jr o.op=true
theorem cL {j i:Nat} {x y:Oper} (h:gx ops W j i=true) (hj:ops[j]? = some x) (hi:ops[i]? = some y) :
  x.apart ops y=true/\y.apart ops x=true/\¬ (ia x.op=true/\ia y.op=true)/\¬ (jr x.op=true/\W i=true):=by
 unfold gx at h;rw [hj,hi] at h;simp only [Bool.and_eq_true,Bool.not_eq_true',Bool.and_eq_false_iff] at h;refine ⟨h.1.1.1,h.1.1.2,?_,?_⟩
 ·rintro ⟨h1,h2⟩;rcases h.1.2 with h3 | h3<;>simp_all
 ·rintro ⟨h1,h2⟩;rcases h.2 with h3 | h3<;>simp_all
theorem iP (de:∀ (j:Nat) (o:Oper) cs b,ops[j]? = some o->o.op ≠ .select cs b) {i:Nat} {o:Oper} (hi:ops[i]? = some o) (hR:ia o.op=false) :
  ∀ (rem:List Nat) (a:Act) (w:World),runT P ops W C Q rem a w->i∈rem->(∀ j∈rem,j≠i->π j < π i->gx ops W j i=true)->rem.Pairwise (fun a b=>π a < π b)->∃ v,Yl P ops C o v a
 | [],_,_,_,hm,_,_=>by cases hm
 | h :: rem,a,w,hr,hm,vm,hp=>by
  simp only [runT] at hr;by_cases sr:h=i
  ·subst sr;rw [hi] at hr;simp only [hR,Bool.false_eq_true,if_false] at hr;obtain ⟨v,hy,_⟩:=hr;exact ⟨v,hy⟩
  ·have jv:i∈rem:=by
    rcases List.mem_cons.1 hm with e | e
    ·exact (sr e.symm).elim
    ·exact e
   have av:π h < π i:=(List.pairwise_cons.1 hp).1 i jv;split at hr
   ·exact hr.elim
   ·rename_i x hx;obtain ⟨zO,C1,_,_⟩:=cL (vm h (by simp) sr av) hx hi;have ih:=fun a w hr=>iP de hi hR rem a w hr jv (fun j hj=>vm j (List.mem_cons_of_mem _ hj)) (List.pairwise_cons.1 hp).2;split at hr
    ·obtain ⟨u,w',_,fv⟩:=xN hr;obtain ⟨v,hy⟩:=ih _ _ fv;exact ⟨v,(Yl.same zO (fun cs b=>de i o cs b hi)).1 hy⟩
    ·obtain ⟨u,_,_,fv⟩:=hr;obtain ⟨v,hy⟩:=ih _ _ fv;exact ⟨v,(Yl.same zO (fun cs b=>de i o cs b hi)).1 hy⟩
theorem nY {h:Nat} {rem:List Nat} (hl:xO ops rem):xO ops (h :: rem):=by
 obtain ⟨i,o,hm,ho,hL⟩:=hl;exact ⟨i,o,List.mem_cons_of_mem _ hm,ho,hL⟩
theorem eA (de:∀ (j:Nat) (o:Oper) cs b,ops[j]? = some o->o.op ≠ .select cs b) (zP:∀ j i x y,π j < π i->ops[i]? = some x->ops[j]? = some y->jr x.op=true->W j=false) {i:Nat} {o:Oper} (hi:ops[i]? = some o) :
  ∀ (rem:List Nat) (a:Act) (w:World),(xO ops rem->C w)->runT P ops W C Q rem a w->i∈rem->(∀ j∈rem,j≠i->π j < π i->gx ops W j i=true)->rem.Pairwise (fun a b=>π a < π b) ->
   bR P ops o a w (fun a' w'=>(W i=false->C w->C w')/\runT P ops W C Q (rem.erase i) a' w')
 | [],_,_,_,_,hm,_,_=>by cases hm
 | h :: rem,a,w,hC,hr,hm,vm,hp=>by
  by_cases sr:h=i
  ·subst sr;rw [List.erase_cons_head];simp only [runT,hi] at hr;split at hr
   ·exact hr
   ·obtain ⟨v,hy,hc,fv⟩:=hr;exact eT hy hc ⟨fun _ h=>h,fv⟩
  ·have jv:i∈rem:=by
    rcases List.mem_cons.1 hm with e | e
    ·exact (sr e.symm).elim
    ·exact e
   have av:π h < π i:=(List.pairwise_cons.1 hp).1 i jv;have jC:=(List.pairwise_cons.1 hp).2;rw [List.erase_cons_tail (by simpa using sr)];have wU:=hr;simp only [runT] at hr;split at hr
   ·exact hr.elim
   ·rename_i x hx;obtain ⟨zO,C1,hEE,IK⟩:=cL (vm h (by simp) sr av) hx hi;have KX:=fun cs b=>de h x cs b hx;have BO:=fun cs b=>de i o cs b hi;have Fm:∀ j∈rem,j≠i->π j < π i->gx ops W j i=true:=fun j hj=>vm j (List.mem_cons_of_mem _ hj);split at hr
    ·-- the head has an effect: so o has none
     rename_i HK
     have IL:ia o.op=false:=by
      cases he:ia o.op
      ·rfl
      ·exact (hEE ⟨HK,he⟩).elim
     obtain ⟨v,hy⟩:=iP (π:=π) de hi IL (h :: rem) a w wU hm vm hp;have hci:jr o.op=true->C w:=fun hL=>hC ⟨i,o,hm,hi,hL⟩;refine eT hy hci ⟨fun _ h=>h,?_⟩;simp only [runT,hx,HK,if_true];refine (kh C1 KX).2 ?_;refine b8 ?_ (iO hr);rintro a' w' ⟨⟨sL,fv⟩,u,rfl⟩;refine ⟨sL,?_⟩
     have HL:xO ops rem->C w':=by
      intro hl;have ss:=hl;obtain ⟨l,z,IM,hz,hL⟩:=hl;exact sL (zP h l z x ((List.pairwise_cons.1 hp).1 l IM) hz hx hL) (hC (nY ss))
     have ih:=eA de zP hi rem _ w' HL fv jv Fm jC;have dM:=(Yl.same (u:=u) zO BO).2 hy;exact (gI dM (fun hL=>HL ⟨i,o,jv,hi,hL⟩) ih).2
    ·rename_i HK;obtain ⟨v,hy,hc,fv⟩:=hr;have ih:=eA de zP hi rem (a.put x.dst v) w (fun hl=>hC (nY hl)) fv jv Fm jC;refine b8 ?_ (iO ((kh zO BO).1 ih));rintro a' w' ⟨⟨sL,lf⟩,u,rfl⟩;refine ⟨sL,?_⟩;simp only [runT,hx];rw [if_neg HK];refine ⟨v,?_,fun hL=>?_,lf⟩
     ·exact (Yl.same (u:=u) C1 KX).2 hy
     ·have IP:W i=false:=by
       cases hw:W i
       ·rfl
       ·exact (IK ⟨hL,hw⟩).elim
      exact sL IP (hc hL)
def ordB (ops:Array Oper):Nat->Nat->Nat->Bool
 | 0,_,_=>false
 | n + 1,j,i=>
  match ops[i]? with
  | some o=>o.after.toList.any fun e=>Region.binds .any e && (Nat.beq e.on j || ordB ops n j e.on)
  | none=>false
def lk (ops:Array Oper) (W:Nat->Bool) (π:Nat->Nat):Bool:=
 Region.noSelect ops &&
 (List.range ops.size).all fun i=>
  match ops[i]? with
   | some o=>o.after.toList.all (fun e=>!Region.binds .any e || (Nat.blt (π e.on) (π i) && Nat.blt e.on ops.size)) && (!jr o.op || (List.range ops.size).all fun j=>!Nat.blt (π j) (π i) || !W j)
   | none=>false
def qP (ops:Array Oper) (W:Nat->Bool) (π:Nat->Nat) (ex:Nat->Nat->Bool):Bool:=
 (List.range ops.size).all fun i=>(List.range ops.size).all fun j=>!Nat.blt (π j) (π i) || ex j i || ordB ops ops.size j i || gx ops W j i
def Fo:Nat->Nat->Bool:=fun _ _=>false
def xP (ops:Array Oper) (W:Nat->Bool):Bool:=lk ops W (fun i=>i) && qP ops W (fun i=>i) Fo
def Dn (ops:Array Oper) (aq:Array Bool):Prop:=
 ∀ i o,ops[i]? = some o->aq.getD i true=true->∀ e∈o.after,Region.binds .any e=true->aq.getD e.on false=true
theorem gJ {aq:Array Bool} (hd:Dn ops aq):∀ (n:Nat) (j i:Nat) (o:Oper),ops[i]? = some o->(∀ e∈o.after,Region.binds .any e=true->aq.getD e.on false=true)->ordB ops n j i=true->aq.getD j false=true
 | 0,j,i,o,_,_,h=>by simp [ordB] at h
 | n + 1,j,i,o,ho,fN,h=>by
  simp only [ordB,ho,List.any_eq_true,Bool.and_eq_true,Bool.or_eq_true] at h;obtain ⟨e,he,hb,hj⟩:=h;have zQ:e∈o.after:=by simpa using he
  have h1:=fN e zQ hb;rcases hj with hj | hj
  ·have:e.on=j:=by simpa using hj
   rw [<- this];exact h1
  ·cases C2:ops[e.on]? with
   | none=>
    cases n with
    | zero=>simp [ordB] at hj
    | succ n=>simp [ordB,C2] at hj
   | some o'=>
    have hg:aq.getD e.on true=true:=by
     rcases Nat.lt_or_ge e.on aq.size with h' | h'
     ·simp [h'] at h1 ⊢;exact h1
     ·simp [Array.getElem?_eq_none h'] at h1
    exact gJ hd n j e.on o' C2 (hd e.on o' C2 hg) hj
theorem pk (hc:lk ops W π=true):∀ j i x y,π j < π i->ops[i]? = some x->ops[j]? = some y->jr x.op=true->W j=false:=by
 simp only [lk,Bool.and_eq_true,List.all_eq_true,List.mem_range] at hc;intro j i x y CO hx hy hL;have hj:=(Array.getElem?_eq_some_iff.1 hy).1;have:=hc.2 i (Array.getElem?_eq_some_iff.1 hx).1;simp only [hx,Bool.and_eq_true,Bool.or_eq_true,hL,Bool.not_true,Bool.false_eq_true,false_or,List.all_eq_true,List.mem_range,Bool.not_eq_true'] at this;rcases this.2 j hj with h1 | h1
 ·have:¬ Nat.blt (π j) (π i)=true:=by simp [h1]
  simp at this;omega
 ·exact h1
theorem nZ (hc:lk ops W π=true):∀ i x,ops[i]? = some x->∀ e∈x.after,Region.binds .any e=true->π e.on < π i/\e.on < ops.size:=by
 simp only [lk,Bool.and_eq_true,List.all_eq_true,List.mem_range] at hc;intro i x hx e he hb;have:=hc.2 i (Array.getElem?_eq_some_iff.1 hx).1;simp only [hx,Bool.and_eq_true,List.all_eq_true,Bool.or_eq_true] at this;have h2:=this.1 e (by simpa using he);rw [hb] at h2;simpa using h2
theorem qQ (hc:lk ops W π=true):∀ (j:Nat) (o:Oper) cs b,ops[j]? = some o->o.op ≠ .select cs b:=by
 simp only [lk,Bool.and_eq_true] at hc;exact Region.noSelect_spec hc.1
theorem po:∀ {l:List Nat},l.Pairwise (fun a b=>π a < π b)->∀ {x y:Nat},x∈l->y∈l->x≠y->π x < π y∨π y < π x
 | [],_,x,y,hx,_,_=>by cases hx
 | h :: r,hp,x,y,hx,hy,aT=>by
  have jC:=List.pairwise_cons.1 hp;rcases List.mem_cons.1 hx with e1 | e1
  ·rcases List.mem_cons.1 hy with e2 | e2
   ·exact (aT (e1.trans e2.symm)).elim
   ·subst e1;exact .inl (jC.1 _ e2)
  ·rcases List.mem_cons.1 hy with e2 | e2
   ·subst e2;exact .inr (jC.1 _ e1)
   ·exact po jC.2 e1 e2 aT
theorem iQ {Q':Exit->Act->World->Prop} (ex:Nat->Nat->Bool) (IQ:lk ops W π=true) (KY:qP ops W π ex=true) (hQ:∀ a w,Q a w->Q' .normal a w):∀ (eY:Nat) (aq:Array Bool) (rem:List Nat) (a:Act) (w:World),
  aq.size=ops.size->Dn ops aq->(∀ i,i∈rem↔i < ops.size/\aq.getD i true=false)->rem.Pairwise (fun a b=>π a < π b)->rem.length<=eY->(∀ j∈rem,∀ i∈rem,ex j i=false)->(xO ops rem->C w)->runT P ops W C Q rem a w ->
   wpAny P .any ops Q' eY aq a w:=by
 have de:=qQ IQ;have zP:=pk IQ;have xQ:=nZ IQ;simp only [qP,List.all_eq_true,List.mem_range,Bool.or_eq_true,Bool.not_eq_true'] at KY;intro eY
 induction eY with
 | zero=>
  intro aq rem a w bQ C3 eN hp hlen hex hC hr;have:rem=[]:=List.length_eq_zero_iff.1 (by omega);subst this;refine ⟨?_,hQ _ _ hr⟩;rw [List.eq_nil_iff_forall_not_mem];intro i hi;have:=(mem_ready.1 hi);obtain ⟨h1,o,ho,_⟩:=this;have:=(eN i).2 ⟨(Array.getElem?_eq_some_iff.1 ho).1,h1⟩;cases this
 | succ eY ih=>
  intro aq rem a w bQ C3 eN hp hlen hex hC hr
  have C4:∀ i,i∈Region.ready .any ops aq->i∈rem:=by
   intro i hi;obtain ⟨h1,o,ho,_⟩:=mem_ready.1 hi;exact (eN i).2 ⟨(Array.getElem?_eq_some_iff.1 ho).1,h1⟩
  refine ⟨fun h0=>?_,fun i hi=>?_⟩
  ·cases rem with
   | nil=>exact hQ _ _ hr
   | cons h rem=>
    have hh:=(eN h).1 (by simp);have hx:ops[h]? = some ops[h]:=Array.getElem?_eq_getElem hh.1
    have:h∈Region.ready .any ops aq:=by
     refine mem_ready.2 ⟨hh.2,_,hx,fun e he hb=>?_⟩;obtain ⟨av,IU⟩:=xQ h _ hx e he hb;cases hg:aq.getD e.on false
     ·have Fp:aq.getD e.on true=false:=by
       have:e.on < aq.size:=by rw [bQ];omega
       simp [this] at hg ⊢;exact hg
      have hm:=(eN e.on).2 ⟨by omega,Fp⟩;rcases List.mem_cons.1 hm with e1 | e1
      ·rw [e1] at av;omega
      ·have:=(List.pairwise_cons.1 hp).1 _ e1;omega
     ·rfl
    rw [h0] at this;cases this
  ·have gK:=C4 i hi;obtain ⟨IV,o,ho,fN⟩:=mem_ready.1 hi;have fm:=(Array.getElem?_eq_some_iff.1 ho).1
   have vm:∀ j∈rem,j≠i->π j < π i->gx ops W j i=true:=by
    intro j hj _ av;rcases KY i fm j ((eN j).1 hj).1 with ((h1 | h1) | h1) | h1
    ·have:¬ Nat.blt (π j) (π i)=true:=by simp [h1]
     simp at this;omega
    ·rw [hex j hj i gK] at h1;cases h1
    ·have h2:=gJ C3 _ _ _ _ ho fN h1;have h3:=((eN j).1 hj).2;have:j < aq.size:=by rw [bQ];exact ((eN j).1 hj).1
     simp [this] at h2 h3;rw [h2] at h3;cases h3
    ·exact h1
   have a7:=eA de zP ho rem a w hC hr gK vm hp;have hnd:rem.Nodup:=jj hp
   have key:∀ a' w',((W i=false->C w->C w')/\runT P ops W C Q (rem.erase i) a' w')->wpAny P .any ops Q' eY (aq.setIfInBounds i true) a' w':=by
    rintro a' w' ⟨sL,fv⟩;refine ih (aq.setIfInBounds i true) (rem.erase i) a' w' (by simp [bQ]) ?_ ?_ (hp.sublist List.erase_sublist) (by rw [List.length_erase_of_mem gK];omega) (fun j hj i hi=>hex j (List.mem_of_mem_erase hj) i (List.mem_of_mem_erase hi)) ?_ fv
    ·intro k x hx hk e he hb;by_cases gC:k=i
     ·subst gC;rw [ho] at hx;simp only [oI] at hx;subst hx;exact getD_set_true (fN e he hb)
     ·rw [getD_set_ne true (Ne.symm gC)] at hk;exact getD_set_true (C3 k x hx hk e he hb)
    ·intro k;rw [List.Nodup.mem_erase_iff hnd];by_cases gC:k=i
     ·subst gC;simp [bQ,fm]
     ·rw [getD_set_ne true (Ne.symm gC)];simp only [ne_eq,gC,not_false_eq_true,true_and];exact eN k
    ·rintro ⟨l,z,hl,hz,hL⟩;have ss:=List.mem_of_mem_erase hl;have aT:l≠i:=fun e=>by subst e;exact (List.Nodup.mem_erase_iff hnd).1 hl |>.1 rfl
     have Fq:=hC ⟨l,z,ss,hz,hL⟩;refine sL ?_ Fq;rcases Nat.lt_or_ge (π i) (π l) with h1 | h1
     ·exact zP i l z o h1 hz ho hL
     ·have h0:π l≠π i:=by
       intro he;rcases po hp ss gK aT with h2 | h2<;>omega
      have:=vm l ss aT (by omega);obtain ⟨_,_,_,h4⟩:=cL this hz ho;cases hw:W i
      ·rfl
      ·exact (h4 ⟨hL,hw⟩).elim
   unfold wpOp;rw [ho];simp only;unfold bR at a7;split
   ·rename_i hw;rw [if_pos hw] at a7;exact .inl (uw (ie key a7))
   ·rename_i hw;rw [if_neg hw] at a7;exact key _ _ a7
theorem eZ {id:Nat} {Q':Exit->Act->World->Prop} {a:Act} {w:World} (hm:P.follows .mixedOrders=true) (hc:xP ops W=true) (hQ:∀ a w,Q a w->Q' .normal a w)
  (hC:C w.drew) (h:runT P ops W C Q (List.range ops.size) a w.drew):(Code.region id ops true).wp P Q' a w:=by
 refine wp_region_any hm ?_;simp only [xP,Bool.and_eq_true] at hc;refine iQ (π:=fun i=>i) Fo hc.1 hc.2 hQ ops.size (Array.replicate ops.size false) (List.range ops.size) a _ (by simp) ?_ ?_ List.pairwise_lt_range (by simp) (fun _ _ _ _=>rfl) (fun _=>hC) h
 ·intro i o ho hl;have:i < ops.size:=(Array.getElem?_eq_some_iff.1 ho).1;simp [this] at hl
 ·intro i;simp only [List.mem_range];constructor
  ·intro hi;exact ⟨hi,by simp [hi]⟩
  ·intro hi;exact hi.1
end
end Dv
end Go.Proofs.YtfifjddnnmfeoaaGreat
namespace Go.Proofs.YtfifjddnnmfeoaaGreat
namespace Dv
open Go Go.RowKit
structure Dr where
 ops:Array Oper
 W:Nat->Bool
 k:List It
 fq:St
 fin:Option (Bool->List (Nat × Sl)->St->Prop)
structure Dw where
 d:Dr
 E0:En
 wr:World
structure CC (E0:En) (bx:List (List DV)) (wr w:World):Prop where
 o:∀ (i:Nat) b cs,E0.β[i]? = some b->bx[i]? = some cs->cs ≠ []->w.heap[b]? = wr.heap[b]?
 c:∀ x v,E0.c x=some v->w.cell? x=some v
abbrev Dw.C (D:Dw) (w:World):Prop:=CC D.E0 D.d.fq.bx D.wr w
structure ll (E:En) (bx:List (List DV)) (w:World):Prop where
 len:E.β.length=bx.length
 cr:∀ (i:Nat) cs,bx[i]? = some cs->cs ≠ []->∃ b ty arr,E.β[i]? = some b/\w.heap[b]? = some (.cells (List.toArray arr) ty (0,0))/\RvC E cs arr
theorem Env.em {E:En} {bx:List (List DV)} {w:World} (h:Env E bx w):ll E bx w:=⟨h.len,fun i cs hi _=>h.cr i cs hi⟩
def Fs:Option (List DV)->Bool
 | some []=>true
 | _=>false
theorem Ar {o:Option (List DV)} (h:Fs o=true):o=some []:=by
 cases o with
 | none=>cases h
 | some l=>
  cases l with
  | nil=>rfl
  | cons _ _=>cases h
def Dw.wc (D:Dw) (E:En):En:=⟨D.E0.c,E.β,E.tk,E.τ⟩
structure cA (X:Ctx) (D:Dw) (c:Bool) (E:En) (s0:List (Nat × Sl)) (st:St) (a:Act) (w:World):Prop where
 rel:Rel X E st a w
 x:Ext D.E0 E
 β:∃ r,E.β=D.E0.β ++ r
 t0:∀ i x,get s0 i=some x->(Holds a.tmps x.gs->∃ v,a.tmps[i]? = some v/\Rv (D.wc E) x.s v)/\(¬ Holds a.tmps x.gs->a.tmps[i]? = some undef)
 cc:c=true->D.C w
def Dw.Q (D:Dw) (X:Ctx) (a:Act) (w:World):Prop:=
 match D.d.fin with
 | none=>kq X D.d.k .normal a w
 | some F=>∃ c E s0 st,cA X D c E s0 st a w/\F c s0 st
def delF {γ:Type _} (d:Nat):List (Nat × Sl)->(List (Nat × Sl)->γ)->γ
 | [],K=>K []
 | p :: r,K=>
  match Nat.beq p.1 d with
  | true=>delF d r K
  | false=>delF d r (fun r'=>K (p :: r'))
theorem jD {γ:Type _} (d:Nat):∀ (l:List (Nat × Sl)) (K:List (Nat × Sl)->γ),delF d l K=K (l.filter fun p=>!Nat.beq p.1 d)
 | [],K=>rfl
 | p :: r,K=>by
  simp only [delF,List.filter_cons];cases h:Nat.beq p.1 d
  ·simp only [Bool.not_false,if_true];rw [jD d r]
  ·simp only [Bool.not_true,Bool.false_eq_true,if_false];rw [jD d r K]
theorem get_filter (d:Nat):∀ (l:List (Nat × Sl)) (i:Nat) (x:Sl),get (l.filter fun p=>!Nat.beq p.1 d) i=some x->i≠d/\get l i=some x
 | [],i,x,h=>by cases h
 | (k,y) :: r,i,x,h=>by
  simp only [List.filter_cons] at h;split at h
  ·rename_i hk
   have hk:k≠d:=by
    rintro rfl;simp at hk
   simp only [bG] at h ⊢;split at h
   ·rename_i gC;subst gC;exact ⟨hk,by rw [if_pos rfl];exact h⟩
   ·rename_i gC;rw [if_neg gC];exact get_filter d r i x h
  ·rename_i hk;have hk:k=d:=by simpa using hk
   obtain ⟨h1,h2⟩:=get_filter d r i x h;refine ⟨h1,?_⟩;simp only [bG];rw [if_neg (by omega)];exact h2
def scal:DV->Bool
 | .v _=>true
 | .ud=>true
 | .loc _ _=>true
 | .el _ _=>true
 | _=>false
def put2 (s0:List (Nat × Sl)) (st:St) (dst:Option Nat) (b:Bool) (gs:List (Nat × Bool)) (s:DV) (K:List (Nat × Sl)->St->Prop):Prop:=
 match dst with
 | none=>K s0 st
 | some d=>
  match st with
  | ⟨sl,bx,tk⟩=>
   match b || scal s with
   | true=>K ((d,⟨gs,s⟩) :: s0) ⟨(d,⟨gs,s⟩) :: sl,bx,tk⟩
   | false=>delF d s0 fun dO=>K dO ⟨(d,⟨gs,s⟩) :: sl,bx,tk⟩
def optP:Option Prop->Prop
 | some p=>p
 | none=>False
def pR (X:Ctx) (D:Dr) (c:Bool) (s0:List (Nat × Sl)) (st:St) (G:List (Nat × Bool)) (op:Op):Option (Bool × DV):=
 match !ia op && (!jr op || c) with
 | false=>none
 | true=>
  match pureT X.P X.T ⟨s0,D.fq.bx,[]⟩ G op with
  | some s=>some (true,s)
  | none=>
   match jr op with
   | true=>none
   | false=>
    match pureT X.P X.T ⟨st.sl,[],[]⟩ G op with
    | some s=>some (false,s)
    | none=>none
def eR (X:Ctx) (D:Dr) (c:Bool) (s0:List (Nat × Sl)) (st:St) (op:Op) (K:Bool->DV->Prop):Option Prop:=
 match ia op with
 | true=>none
 | false=>
  match jr op with
  | true=>
   match c with
   | true=>effR X ⟨s0,D.fq.bx,[]⟩ op (K true)
   | false=>none
  | false=>
   match effR X ⟨s0,[],[]⟩ op (K true) with
   | some p=>some p
   | none=>effR X ⟨st.sl,[],[]⟩ op (K false)
def uA (X:Ctx) (D:Dr) (c:Bool) (i:Nat) (l:List (Nat × Oper)) (f:FuncId) (args:List DV) (dst:Option Nat) (s0:List (Nat × Sl)) (st:St):Prop:=
 Go.Proofs.Enters X.P f/\((∀ p∈l,D.ops[p.1]? = some p.2)->∀ (E0:En) (wr:World),ll E0 D.fq.bx wr->∀ E a w vs,cA X ⟨D,E0,wr⟩ c E s0 st a w->RvL E args vs->Calls X.P f vs.toArray w fun e w'=>∃ v,e = .returned v /\
  (D.W i=false->CC E0 D.fq.bx wr w->CC E0 D.fq.bx wr w')/\runT X.P D.ops D.W (CC E0 D.fq.bx wr) (Dw.Q ⟨D,E0,wr⟩ X) (l.map (·.1)) (a.put dst v) w')
def OpD (X:Ctx) (D:Dr) (c:Bool) (i:Nat) (l:List (Nat × Oper)) (o:Oper) (s0:List (Nat × Sl)) (st:St):Prop:=
 (∀ p∈l,D.ops[p.1]? = some p.2)->∀ (E0:En) (wr:World),ll E0 D.fq.bx wr->∀ E a w,cA X ⟨D,E0,wr⟩ c E s0 st a w->wq X.P o a w fun a' w'=>
  (D.W i=false->CC E0 D.fq.bx wr w->CC E0 D.fq.bx wr w')/\runT X.P D.ops D.W (CC E0 D.fq.bx wr) (Dw.Q ⟨D,E0,wr⟩ X) (l.map (·.1)) a' w'
def effE (X:Ctx) (D:Dr) (c:Bool) (i:Nat) (l:List (Nat × Oper)) (o:Oper) (s0:List (Nat × Sl)) (st:St) (K:Bool->List (Nat × Sl)->St->Prop):Prop:=
 match o.op with
 | .store t x y=>
  match o.dst with
  | some _=>False
  | none=>
   match D.W i with
   | true=>optP (effC X st o (K false s0))
   | false=>
    match stObj st o.op with
    | some j=>
     match Nat.ble D.fq.bx.length j || Fs D.fq.bx[j]? with
     | true=>optP (effC X st o (K c s0))
     | false=>False
    | none=>False
 | .call cl=>
  match cl.callee with
  | .value f=>
   match rv st [] f,argsV st [] cl.args.toList with
   | some (.fn g first captured),some vs=>uA X D c i l g (first ++ vs ++ captured) o.dst s0 st
   | _,_=>False
  | _=>
   match o.dst with
   | some d=>optP (effC X st o fun aK=>delF d s0 fun dO=>K c dO aK)
   | none=>False
 | _=>
  match o.dst with
  | some d=>
   match effC X st o fun aK=>
    match get aK.sl d with
    | some ⟨[],.loc j off⟩=>K c ((d,⟨[],.loc j off⟩) :: s0) aK
    | _=>delF d s0 fun dO=>K c dO aK with
   | some p=>p
   | none=>OpD X D c i l o s0 st
  | none=>False
def goD (X:Ctx) (D:Dr):Nat->Bool->List (Nat × Oper)->List (Nat × Sl)->St->Prop
 | _,c,[],s0,st=>
  match D.fin with
  | none=>go X 4000 D.k st
  | some F=>F c s0 st
 | 0,_,_ :: _,_,_=>False
 | n + 1,c,(i,o) :: r,s0,st=>
  match dm X.nt st.sl o.dst && dm X.nt s0 o.dst with
  | false=>False
  | true=>
   match o.guard with
   | none=>
    match ia o.op with
    | true=>effE X D c i r o s0 st fun c' dO aK=>goD X D n c' r dO aK
    | false=>
     match pR X D c s0 st [] o.op with
     | some (b,s)=>put2 s0 st o.dst b [] s (goD X D n c r)
     | none=>optP (eR X D c s0 st o.op fun b s=>put2 s0 st o.dst b [] s (goD X D n c r))
   | some (j,want)=>
    match gslot D.ops.toList j with
    | none=>False
    | some d=>
     match get st.sl d with
     | none=>False
     | some ⟨fI,_⟩=>
      match pR X D c s0 st ((d,want) :: fI) o.op with
      | some (b,s)=>
       match Ir ((d,want) :: fI) o.dst with
       | true=>put2 s0 st o.dst b ((d,want) :: fI) s (goD X D n c r)
       | false=>False
      | none=>
       match get st.sl (lastG (d,want) fI).1 with
       | some ⟨[],.v (.bool b)⟩=>
        match fI with
        | []=>Br (b == want)
          (nz st d want fun wV=>resL d want s0 fun s2=>
           match ia o.op with
           | true=>effE X D c i r o s2 wV fun c' dO aK=>goD X D n c' r dO aK
           | false=>optP (eR X D c s2 wV o.op fun b s=>put2 s2 wV o.dst b [] s (goD X D n c r)))
          (match !jr o.op || c with
           | true=>nz st d (!want) fun wV=>resL d (!want) s0 fun s2=>put2 s2 wV o.dst true [] .ud (goD X D n c r)
           | false=>False)
        | _ :: _=>Br (b == (lastG (d,want) fI).2)
          (nz st (lastG (d,want) fI).1 (lastG (d,want) fI).2 fun wV=>resL (lastG (d,want) fI).1 (lastG (d,want) fI).2 s0 fun s2=>goD X D n c ((i,o) :: r) s2 wV)
          (nz st (lastG (d,want) fI).1 (!(lastG (d,want) fI).2) fun wV=>resL (lastG (d,want) fI).1 (!(lastG (d,want) fI).2) s0 fun s2=>goD X D n c ((i,o) :: r) s2 wV)
       | some ⟨[],.ud⟩=>
        match fI with
        | []=>
         match !jr o.op || c with
         | true=>put2 s0 st o.dst true [] .ud (goD X D n c r)
         | false=>False
        | _ :: _=>False
       | _=>False
section
variable {X:Ctx} {D:Dw} {c:Bool} {i:Nat} {s0:List (Nat × Sl)} {st:St} {E:En} {a:Act} {w:World}
theorem C5 (h:Ext D.E0 E):Ext D.E0 (D.wc E):=⟨fun _ _ h=>h,h.β,h.tk⟩
theorem sM (h:Ext D.E0 E):Ext (D.wc E) E:=⟨h.c,fun _ _ h=>h,fun k q hq=>⟨q,hq,.inl ⟨rfl,rfl⟩⟩⟩
theorem uB {E':En} (h:Ext E E'):Ext (D.wc E) (D.wc E'):=⟨fun _ _ h=>h,h.β,h.tk⟩
theorem cA.IW (h:cA X D c E s0 st a w) (hD:ll D.E0 D.d.fq.bx D.wr):Rl (D.wc E) D.d.fq.bx D.C s0 a where
 tm:=h.t0
 cr:=fun i cs hi=>by
  by_cases aT:cs=[]
  ·subst aT;have av:i < D.E0.β.length:=by rw [hD.len];exact (gS hi).1
   exact ⟨_,[],h.x.β i _ (gE av),⟨bn _,by simp⟩,fun w' _ j u hj=>by simp at hj⟩
  ·obtain ⟨b,ty,arr,hb,hw,hc⟩:=hD.cr i cs hi aT;exact ⟨b,arr,h.x.β i b hb,hc.mono (C5 h.x),fun w' hC j u hj=>by rw [bu ((hC.o i b cs hb hi aT).trans hw)];simpa using hj⟩
 cc:=fun x v hx w' hC=>hC.c x v hx
theorem cA.KZ (h:cA X D c E s0 st a w):Rl E [] (fun w'=>∀ x v,E.c x=some v->w'.cell? x=some v) st.sl a where
 tm:=h.rel.tm
 cr:=fun i cs hi=>by simp at hi
 cc:=fun x v hx w' hC=>hC x v hx
theorem uC {s:DV} {v:Value} (hs:scal s=true) (hv:Rv E s v):Rv (D.wc E) s v:=by
 cases s<;>simp [scal] at hs
 ·unfold Rv at hv ⊢;exact hv
 ·unfold Rv at hv ⊢;exact hv
 ·unfold Rv at hv ⊢;exact hv
 ·unfold Rv at hv ⊢;exact hv
theorem eB (h:cA X D c E s0 st a w) {dst:Option Nat} (hd:(dm X.nt st.sl dst && dm X.nt s0 dst)=true) (b:Bool) (gs:List (Nat × Bool)) (s:DV) (v:Value) (sx:∀ d,dst=some d->∀ p∈gs,p.1≠d)
  (j9:Holds a.tmps gs->Rv E s v) (kM:b=true->Holds a.tmps gs->Rv (D.wc E) s v) (wM:¬ Holds a.tmps gs->v=undef) {K:List (Nat × Sl)->St->Prop} (hk:put2 s0 st dst b gs s K) :
  ∃ dO aK,K dO aK /\ cA X D c E dO aK (a.put dst v) w:=by
 simp only [Bool.and_eq_true] at hd;have h1:=jw h.rel hd.1 gs s v sx j9 wM
 cases dst with
 | none=>exact ⟨s0,st,hk,h1,h.x,h.β,h.t0,h.cc⟩
 | some d=>
  obtain ⟨sl,bx,tk⟩:=st;have C6:=hd.2;simp only [dm,Bool.and_eq_true,Nat.blt_eq] at C6
  have hold:∀ i x,i≠d->get s0 i=some x->(Holds (a.put (some d) v).tmps x.gs->∃ u,(a.put (some d) v).tmps[i]? = some u/\Rv (D.wc E) x.s u)/\(¬ Holds (a.put (some d) v).tmps x.gs->(a.put (some d) v).tmps[i]? = some undef):=by
   intro i x hi hx;simp only [Act.put];rw [Array.getElem?_setIfInBounds_ne (Ne.symm hi),fl (fO C6.2 i x hx)];exact h.t0 i x hx
  simp only [put2] at hk;split at hk
  ·rename_i hb;refine ⟨_,_,hk,h1,h.x,h.β,fun i x hx=>?_,h.cc⟩;simp only [bG] at hx;split at hx
   ·rename_i xn;subst xn;simp only [oI] at hx;subst hx;have h2:(a.tmps.setIfInBounds d v)[d]? = some v:=by simp [Array.getElem?_setIfInBounds,h.rel.sz,C6.1]
    simp only [Act.put];rw [fl (sx d rfl),h2];refine ⟨fun hh=>⟨v,rfl,?_⟩,fun hh=>by rw [wM hh]⟩;rcases Bool.or_eq_true _ _ |>.mp hb with hb | hb
    ·exact kM hb hh
    ·exact uC hb (j9 hh)
   ·rename_i xn;exact hold i x (Ne.symm xn) hx
  ·rw [jD] at hk;refine ⟨_,_,hk,h1,h.x,h.β,fun i x hx=>?_,h.cc⟩;obtain ⟨h3,h4⟩:=get_filter d s0 i x hx;exact hold i x h3 h4
theorem fW (h:cA X D c E s0 st a w) {d:Nat} {b:Bool} (hd:a.tmps[d]? = some (.bool b)):cA X D c E (s0.map (aQ d b)) (st.resolve d b) a w where
 rel:=eQ h.rel hd
 x:=h.x
 β:=h.β
 t0:=by
  intro i y hy;simp only [get_map,Option.map_eq_some_iff] at hy;obtain ⟨x,hx,rfl⟩:=hy;have ht:=h.t0 i x hx;unfold aQ;split
  ·rename_i hi;have fm:i=d:=by simpa using hi
   subst fm;exact ⟨fun _=>⟨_,hd,cD rfl⟩,fun hn=>(hn (aA _)).elim⟩
  ·split
   ·rename_i hc
    have hn:¬ Holds a.tmps x.gs:=by
     intro hh;have:=hh (d,!b) (by simpa using hc);simp only at this;rw [hd] at this;cases b<;>simp at this
    exact ⟨fun _=>⟨_,ht.2 hn,kK _⟩,fun hn=>(hn (aA _)).elim⟩
   ·have he:Holds a.tmps (x.gs.filter fun p=>p != (d,b))↔Holds a.tmps x.gs:=by
     constructor
     ·intro hh p hp;by_cases CG:p=(d,b)
      ·subst CG;exact hd
      ·exact hh p (by simp [List.mem_filter,hp,CG])
     ·intro hh p hp;exact hh p (List.mem_filter.1 hp).1
    simp only [he];exact ht
 cc:=h.cc
theorem fX {nt d:Nat} {b:Bool} {dst:Option Nat} (h:(dm nt st.sl dst && dm nt s0 dst)=true):(dm nt (st.resolve d b).sl dst && dm nt (s0.map (aQ d b)) dst)=true:=by
 simp only [Bool.and_eq_true] at h ⊢;exact ⟨eS h.1,eS (st:=⟨s0,[],[]⟩) h.2⟩
theorem qR (hD:ll D.E0 D.d.fq.bx D.wr) (h:cA X D c E s0 st a w) {G:List (Nat × Bool)} (hG:Holds a.tmps G) {o:Oper} {b:Bool} {s:DV} (hp:pR X D.d c s0 st G o.op=some (b,s)) :
  ia o.op=false/\(jr o.op=true->c=true)/\∃ v,Rv E s v/\(b=true->Rv (D.wc E) s v)/\∀ w,(jr o.op=true->D.C w)->(execOp a.eval o).run X.P w = .ok (.value v) w:=by
 unfold pR at hp;split at hp
 ·cases hp
 ·rename_i hc;simp only [Bool.and_eq_true,Bool.not_eq_true',Bool.or_eq_true] at hc;refine ⟨hc.1,fun hL=>?_,?_⟩
  ·rcases hc.2 with h1 | h1
   ·rw [hL] at h1;cases h1
   ·exact h1
  ·split at hp
   ·rename_i s' hs;simp only [oI,Prod.mk.injEq] at hp;obtain ⟨rfl,rfl⟩:=hp;obtain ⟨v,hv,hr⟩:=dq (st:=⟨s0,D.d.fq.bx,[]⟩) X.hT (h.IW hD) hG hs;exact ⟨v,Rv.mono (sM h.x) hv,fun _=>hv,hr⟩
   ·split at hp
    ·cases hp
    ·rename_i hL;split at hp
     ·rename_i s' hs;simp only [oI,Prod.mk.injEq] at hp;obtain ⟨rfl,rfl⟩:=hp;obtain ⟨v,hv,hr⟩:=dq (st:=⟨st.sl,[],[]⟩) X.hT h.KZ hG hs;exact ⟨v,hv,(by intro h;cases h),fun w' _=>hr w' (by intro h1;rw [hL] at h1;cases h1)⟩
     ·cases hp
theorem xR (hD:ll D.E0 D.d.fq.bx D.wr) (h:cA X D c E s0 st a w) {o:Oper} {K:Bool->DV->Prop} (hp:optP (eR X D.d c s0 st o.op K)) :
  ia o.op=false/\(jr o.op=true->c=true)/\∃ b s v,K b s/\Rv E s v/\(b=true->Rv (D.wc E) s v)/\∀ w,(jr o.op=true->D.C w)->(execOp a.eval o).run X.P w = .ok (.value v) w:=by
 unfold eR at hp;split at hp
 ·exact hp.elim
 ·rename_i hE;refine ⟨hE,?_⟩;split at hp
  ·rename_i hL;split at hp
   ·refine ⟨fun _=>rfl,?_⟩
    cases hs:effR X ⟨s0,D.d.fq.bx,[]⟩ o.op (K true) with
    | none=>rw [hs] at hp;exact hp.elim
    | some p=>
     rw [hs] at hp;obtain ⟨s,hk,v,hv,hr⟩:=fT (st:=⟨s0,D.d.fq.bx,[]⟩) (h.IW hD) hs hp;exact ⟨true,s,v,hk,Rv.mono (sM h.x) hv,fun _=>hv,hr⟩
   ·exact hp.elim
  ·rename_i hL;have n4:∀ w':World,jr o.op=true->False:=fun w' h1=>by rw [hL] at h1;cases h1
   refine ⟨fun h1=>(by rw [hL] at h1;cases h1),?_⟩;split at hp
   ·rename_i p hs;obtain ⟨s,hk,v,hv,hr⟩:=fT (st:=⟨s0,[],[]⟩) (C:=D.C) ⟨h.t0,fun i cs hi=>by simp at hi,(h.IW hD).cc⟩ hs hp;exact ⟨true,s,v,hk,Rv.mono (sM h.x) hv,fun _=>hv,fun w' _=>hr w' fun h1=>(n4 w' h1).elim⟩
   ·cases hs:effR X ⟨st.sl,[],[]⟩ o.op (K false) with
    | none=>rw [hs] at hp;exact hp.elim
    | some p=>
     rw [hs] at hp;obtain ⟨s,hk,v,hv,hr⟩:=fT (st:=⟨st.sl,[],[]⟩) h.KZ hs hp;exact ⟨false,s,v,hk,hv,(by intro h;cases h),fun w' _=>hr w' fun h1=>(n4 w' h1).elim⟩
theorem As {P:Program} {o:Oper} {K:Act->World->Prop} (h:wq P o a w K):wq P o a w fun a' w'=>K a' w' /\ ∃ u,a'=a.put o.dst u:=by
 unfold wq at *;split at h
 ·exact ⟨h,_,rfl⟩
 ·exact ⟨h,_,rfl⟩
 ·refine h.mono ?_;rintro e w' ⟨v,rfl,hv⟩;exact ⟨v,rfl,hv,v,rfl⟩
 ·exact h.elim
theorem uD (h:cA X D c E s0 st a w) {t:Option Nat} {E':En} {aK:St} {a':Act} {w':World} (hs:wR t E w E' w') (hr:Rel X E' aK a' w') (ht:∀ j,t=some j->D.E0.β.length<=j∨D.d.fq.bx[j]? = some []):D.C w->D.C w':=fun hC=>
 ⟨fun i b cs hb bK aT=>by
  have dN:=h.x.β i b hb
  rw [hs.o i _ dN fun e=>by
   rcases ht i e with h1 | h1
   ·have:=(gS hb).1;omega
   ·rw [bK] at h1;simp only [oI] at h1;exact aT h1]
  exact hC.o i b cs hb bK aT,fun x v hx=>hr.env.sub x v (hs.x.c x v (h.x.c x v hx))⟩
theorem mb (h:cA X D c E s0 st a w) {t:Option Nat} {E':En} {aK:St} {w':World} {c':Bool} {dO:List (Nat × Sl)} {dst:Option Nat} {u:Value} (hs:wR t E w E' w') (hr:Rel X E' aK (a.put dst u) w') (sm:c'=true->D.C w')
  (jh:∀ i x,get dO i=some x->(∃ d,dst=some d/\i=d/\scal x.s=true/\get aK.sl d=some x)∨(get s0 i=some x/\∀ d,dst=some d->i≠d)) (hd:dm X.nt s0 dst=true):cA X D c' E' dO aK (a.put dst u) w' where
 rel:=hr
 x:=by
  refine ⟨fun y v hy=>hs.x.c y v (h.x.c y v hy),fun j b hb=>hs.x.β j b (h.x.β j b hb),fun k q hq=>?_⟩;obtain ⟨q1,h1,h2⟩:=h.x.tk k q hq;obtain ⟨q2,h3,h4⟩:=hs.x.tk k q1 h1;refine ⟨q2,h3,?_⟩;rcases h2 with ⟨h2,h5⟩ | h2
  ·rcases h4 with ⟨h4,h6⟩ | h4
   ·exact .inl ⟨by omega,by rw [h6,h5]⟩
   ·exact .inr (by omega)
  ·rcases h4 with ⟨h4,h6⟩ | h4
   ·exact .inr (by omega)
   ·exact .inr (by omega)
 β:=by
  obtain ⟨r1,h1⟩:=h.β;obtain ⟨r2,h2⟩:=hs.β;exact ⟨r1 ++ r2,by rw [h2,h1,List.append_assoc]⟩
 t0:=fun i x hx=>by
  rcases jh i x hx with ⟨d,rfl,rfl,BK,hg⟩ | ⟨hg,aT⟩
  ·have:=hr.tm _ _ hg;refine ⟨fun hh=>?_,this.2⟩;obtain ⟨v,h1,h2⟩:=this.1 hh;exact ⟨v,h1,uC BK h2⟩
  ·have h1:=h.t0 i x hg
   cases dst with
   | none=>
    refine ⟨fun hh=>?_,h1.2⟩;obtain ⟨v,h2,h3⟩:=h1.1 hh;exact ⟨v,h2,Rv.mono (uB hs.x) h3⟩
   | some d=>
    simp only [dm,Bool.and_eq_true,Nat.blt_eq] at hd;simp only [Act.put];rw [Array.getElem?_setIfInBounds_ne (Ne.symm (aT d rfl)),fl (fO hd.2 i x hg)];refine ⟨fun hh=>?_,h1.2⟩;obtain ⟨v,h2,h3⟩:=h1.1 hh;exact ⟨v,h2,Rv.mono (uB hs.x) h3⟩
 cc:=sm
def Fu (X:Ctx) (D:Dw) (l:List Nat) (G:Bool->List (Nat × Sl)->St->Prop):Prop:=∀ c s0 st,G c s0 st->∀ E a w,cA X D c E s0 st a w->runT X.P D.d.ops D.d.W D.C (D.Q X) l a w
theorem sN (hD:ll D.E0 D.d.fq.bx D.wr) {l:List (Nat × Oper)} (hl:∀ p∈l,D.d.ops[p.1]? = some p.2) {G:Bool->List (Nat × Sl)->St->Prop} (hG:Fu X D (l.map (·.1)) G) {o:Oper} (hd:(dm X.nt st.sl o.dst && dm X.nt s0 o.dst)=true) (h:cA X D c E s0 st a w)
  (he:effE X D.d c i l o s0 st G):wq X.P o a w fun a' w'=>(D.d.W i=false->D.C w->D.C w')/\runT X.P D.d.ops D.d.W D.C (D.Q X) (l.map (·.1)) a' w':=by
 have sO:=hd;simp only [Bool.and_eq_true] at sO;have hlen:D.E0.β.length=D.d.fq.bx.length:=hD.len
 have core:∀ (K:St->Prop) (p:Prop) (c1:Bool),effC X st o K=some p->p->(c1=true->c=true)->(c1=true∨D.d.W i=false->∀ j,stObj st o.op=some j->D.E0.β.length<=j∨D.d.fq.bx[j]? = some []) ->
   (∀ aK,K aK -> ∃ dO,G c1 dO aK /\ ∀ i x,get dO i=some x->(∃ d,o.dst=some d/\i=d/\scal x.s=true/\get aK.sl d=some x)∨(get s0 i=some x/\∀ d,o.dst=some d->i≠d)) ->
   wq X.P o a w fun a' w'=>(D.d.W i=false->D.C w->D.C w')/\runT X.P D.d.ops D.d.W D.C (D.Q X) (l.map (·.1)) a' w':=by
  intro K p c1 hp hpp C7 a7 hK;refine ie ?_ (As (iK sO.1 h.rel hp hpp));rintro a' w' ⟨⟨aK,E',hk,hr,hs⟩,u,rfl⟩;refine ⟨fun hW=>uD h hs hr (a7 (.inr hW)),?_⟩;obtain ⟨dO,hg,jh⟩:=hK aK hk;exact hG c1 dO aK hg E' _ w' (mb h hs hr (fun hc=>uD h hs hr (a7 (.inl hc)) (h.cc (C7 hc))) jh sO.2)
 have BP:(∀ t x y,o.op ≠ .store t x y)->∀ j,stObj st o.op=some j->D.E0.β.length<=j∨D.d.fq.bx[j]? = some []:=by
  intro aT j hj;unfold stObj at hj;split at hj
  ·rename_i t x y j2;exact (aT t x y j2).elim
  ·cases hj
 have Fv:∀ (d:Nat) (aK:St),o.dst=some d->∀ i x,get (s0.filter fun p=>!Nat.beq p.1 d) i=some x->(∃ d,o.dst=some d/\i=d/\scal x.s=true/\get aK.sl d=some x)∨(get s0 i=some x/\∀ d,o.dst=some d->i≠d):=by
  intro d aK eC i x hx;obtain ⟨h1,h2⟩:=get_filter d s0 i x hx;exact .inr ⟨h2,fun d' sO=>by rw [eC] at sO;cases sO;exact h1⟩
 unfold effE at he;split at he
 ·rename_i t x y j2;split at he
  ·exact he.elim
  ·rename_i eC;have xE:∀ aK:St,∀ i x,get s0 i=some x->(∃ d,o.dst=some d/\i=d/\scal x.s=true/\get aK.sl d=some x)∨(get s0 i=some x/\∀ d,o.dst=some d->i≠d):=fun aK i x hx=>.inr ⟨hx,fun d hd=>by rw [eC] at hd;cases hd⟩;split at he
   ·rename_i hW
    cases hp:effC X st o (G false s0) with
    | none=>rw [hp] at he;exact he.elim
    | some p=>
     rw [hp] at he;exact core _ p false hp he (by intro h;cases h) (by rintro (h1 | h1);cases h1;rw [hW] at h1;cases h1) fun aK hk=>⟨s0,hk,xE aK⟩
   ·split at he
    ·rename_i j hj;split at he
     ·rename_i fL
      have fL:D.d.fq.bx.length<=j∨D.d.fq.bx[j]? = some []:=by
       rcases Bool.or_eq_true _ _ |>.mp fL with h1 | h1
       ·exact .inl (by simpa using h1)
       ·exact .inr (Ar h1)
      cases hp:effC X st o (G c s0) with
      | none=>rw [hp] at he;exact he.elim
      | some p=>
       rw [hp] at he;exact core _ p c hp he id (fun _ j' dN=>by rw [hj] at dN;cases dN;rw [hlen];exact fL) fun aK hk=>⟨s0,hk,xE aK⟩
     ·exact he.elim
    ·exact he.elim
 ·rename_i cl j2;split at he
  ·rename_i f lm;split at he
   ·rename_i g first captured vs hf ss
    obtain ⟨iM,Fw⟩:=he;have fi:=h.rel.rl;have e1:=az fi hf;unfold Rv at e1;obtain ⟨l1,r1,e1,uy,hr1⟩:=e1;have hargs:=dp fi (aA _) _ _ ss;obtain ⟨dst,op,ty,pos,after,gu⟩:=o;obtain ⟨callee,args,argTypes⟩:=cl;simp only at j2 lm;subst j2 lm
    have hr:(execOp a.eval ⟨dst,.call ⟨.value f,args,argTypes⟩,ty,pos,after,gu⟩).run X.P w = .ok (.enter g (l1 ++ args.toList.map a.eval ++ r1).toArray) w:=by
     have e3:(l1.toArray ++ args.map a.eval ++ r1.toArray)=(l1 ++ args.toList.map a.eval ++ r1).toArray:=by apply Array.ext';simp
     simp only [execOp,resolve,e1,Deferred.ofValue,Sem.run_bind,Sem.run_pure,Result.andThen_ok,invoke,e3];exact iM _ _
    unfold wq;rw [hr];exact Fw hl D.E0 D.wr hD E a w _ h ((uy.append hargs).append hr1)
   ·exact he.elim
  ·split at he
   ·rename_i d eC
    cases hp:effC X st o (fun aK=>delF d s0 fun dO=>G c dO aK) with
    | none=>rw [hp] at he;exact he.elim
    | some p=>
     rw [hp] at he;refine core _ p c hp he id (fun _=>BP (fun t x y h1=>by rw [j2] at h1;cases h1)) fun aK hk=>?_;rw [jD] at hk;exact ⟨_,hk,Fv d aK eC⟩
   ·exact he.elim
 ·rename_i qf BC;split at he
  ·rename_i d eC
   cases hp:effC X st o (fun aK=>
    match get aK.sl d with
    | some ⟨[],.loc j off⟩=>G c ((d,⟨[],.loc j off⟩) :: s0) aK
    | _=>delF d s0 fun dO=>G c dO aK) with
   | none=>rw [hp] at he;exact he hl D.E0 D.wr hD E a w h
   | some p=>
    rw [hp] at he;refine core _ p c hp he id (fun _=>BP qf) fun aK hk=>?_;split at hk
    ·rename_i j off hg;refine ⟨_,hk,fun i x hx=>?_⟩;simp only [bG] at hx;split at hx
     ·rename_i xn;simp only [oI] at hx;subst hx;exact .inl ⟨d,eC,xn.symm,rfl,hg⟩
     ·rename_i xn;exact .inr ⟨hx,fun d' sO=>by rw [eC] at sO;cases sO;exact Ne.symm xn⟩
    ·rw [jD] at hk;exact ⟨_,hk,Fv d aK eC⟩
  ·exact he.elim
theorem cO (hD:ll D.E0 D.d.fq.bx D.wr):∀ n c l s0 st,goD X D.d n c l s0 st->(∀ p∈l,D.d.ops[p.1]? = some p.2)->∀ E a w,cA X D c E s0 st a w->runT X.P D.d.ops D.d.W D.C (D.Q X) (l.map (·.1)) a w
 | n,c,[],s0,st,hg,hl=>by
  intro E a w h;have hg:(match D.d.fin with | none=>go X 4000 D.d.k st | some F=>F c s0 st):=by cases n<;>simpa only [goD] using hg
  show D.Q X a w;unfold Dw.Q
  cases hf:D.d.fin with
  | none=>
   rw [hf] at hg;exact go_sound 4000 _ _ hg E a w h.rel
  | some F=>
   rw [hf] at hg;exact ⟨c,E,s0,st,h,hg⟩
 | 0,c,_ :: _,s0,st,hg,_=>by exact hg.elim
 | n + 1,c,(i,o) :: r,s0,st,hg,hl=>by
  intro E a w h;have ho:D.d.ops[i]? = some o:=hl (i,o) (by simp);have ss:∀ p∈r,D.d.ops[p.1]? = some p.2:=fun p hp=>hl p (List.mem_cons_of_mem _ hp);simp only [List.map_cons];have ih:∀ c s0 st,goD X D.d n c r s0 st->∀ E a w,cA X D c E s0 st a w->runT X.P D.d.ops D.d.W D.C (D.Q X) (r.map (·.1)) a w:=fun c s0 st hg=>cO hD n c r s0 st hg ss;have ihG:Fu X D (r.map (·.1)) (fun c s0 st=>goD X D.d n c r s0 st):=fun c s0 st hg=>ih c s0 st hg;simp only [goD,ue,o0] at hg;split at hg
  ·exact hg.elim
  ·rename_i hd
   have fR:∀ (v:Value) dO aK,ia o.op=false->Yl X.P D.d.ops D.C o v a->(jr o.op=true->c=true)->goD X D.d n c r dO aK -> cA X D c E dO aK (a.put o.dst v) w ->
     runT X.P D.d.ops D.d.W D.C (D.Q X) (i :: r.map (·.1)) a w:=by
    intro v dO aK hE hy dS nB bg;simp only [runT,ho];rw [if_neg (by simp [hE])];exact ⟨v,hy,fun hL=>h.cc (dS hL),ih c dO aK nB E _ w bg⟩
   have fS:∀ dO aK,ia o.op=true->Region.wanted o (yielded D.d.ops a.tmps)=false->goD X D.d n c r dO aK -> cA X D c E dO aK (a.put o.dst undef) w ->
     runT X.P D.d.ops D.d.W D.C (D.Q X) (i :: r.map (·.1)) a w:=by
    intro dO aK hE hw nB bg;simp only [runT,ho];rw [if_pos hE];unfold bR;rw [if_neg (by simp [hw])];exact ⟨fun _ h=>h,ih c dO aK nB E _ w bg⟩
   have fE:∀ dO aK,ia o.op=true->Region.wanted o (yielded D.d.ops a.tmps)=true->(dm X.nt aK.sl o.dst && dm X.nt dO o.dst)=true->effE X D.d c i r o dO aK (fun c' dO aK=>goD X D.d n c' r dO aK)->cA X D c E dO aK a w ->
     runT X.P D.d.ops D.d.W D.C (D.Q X) (i :: r.map (·.1)) a w:=by
    intro dO aK hE hw sO he bg;simp only [runT,ho];rw [if_pos hE];unfold bR;rw [if_pos hw];exact sN hD ss ihG sO bg he
   have fP:∀ dO aK,Region.wanted o (yielded D.d.ops a.tmps)=true->(dm X.nt aK.sl o.dst && dm X.nt dO o.dst)=true->optP (eR X D.d c dO aK o.op fun b s=>put2 dO aK o.dst b [] s (goD X D.d n c r))->cA X D c E dO aK a w ->
     runT X.P D.d.ops D.d.W D.C (D.Q X) (i :: r.map (·.1)) a w:=by
    intro dO aK hw sO he bg;obtain ⟨hE,dS,b,s,v,hk,hv,kM,bc⟩:=xR hD bg he;obtain ⟨s1,j3,ki,cq⟩:=eB bg sO b [] s v (fun _ _ p hp=>by cases hp) (fun _=>hv) (fun hb _=>kM hb) (fun hn=>(hn (aA _)).elim) hk;exact fR v s1 j3 hE (.inl ⟨hw,bc⟩) dS ki cq
   have K0:∀ dO aK,(dm X.nt aK.sl o.dst && dm X.nt dO o.dst)=true->cA X D c E dO aK a w->put2 dO aK o.dst true [] .ud (goD X D.d n c r)->∃ s1 j3,goD X D.d n c r s1 j3/\cA X D c E s1 j3 (a.put o.dst undef) w:=by
    intro dO aK sO bg hk;exact eB bg sO true [] .ud undef (fun _ _ p hp=>by cases hp) (fun _=>kK E) (fun _ _=>kK _) (fun hn=>(hn (aA _)).elim) hk
   split at hg
   ·rename_i Am;have hw:Region.wanted o (yielded D.d.ops a.tmps)=true:=by simp [Region.wanted,Am]
    split at hg
    ·rename_i hE;exact fE s0 st hE hw hd hg h
    ·split at hg
     ·rename_i b s hs;obtain ⟨hE,dS,v,hv,kM,bc⟩:=qR hD h (aA _) hs;obtain ⟨s1,j3,ki,cq⟩:=eB h hd b [] s v (fun _ _ p hp=>by cases hp) (fun _=>hv) (fun hb _=>kM hb) (fun hn=>(hn (aA _)).elim) hg;exact fR v s1 j3 hE (.inl ⟨hw,bc⟩) dS ki cq
     ·exact fP s0 st hw hd hg h
   ·rename_i j want Am;split at hg
    ·exact hg.elim
    ·rename_i d sx;split at hg
     ·exact hg.elim
     ·rename_i fI sd CW;have jB:=wanted_spec h.rel Am sx CW
      have sP:¬ Holds a.tmps ((d,want) :: fI)->Region.wanted o (yielded D.d.ops a.tmps)=false:=by
       intro hn;cases hww:Region.wanted o (yielded D.d.ops a.tmps)
       ·rfl
       ·exact (hn (jB.1 hww)).elim
      split at hg
      ·rename_i b s hs;split at hg
       case h_2=>exact hg.elim
       rename_i gD;have Fx:=l8 gD;by_cases hh:Holds a.tmps ((d,want) :: fI)
       ·obtain ⟨hE,dS,v,hv,kM,bc⟩:=qR hD h hh hs;obtain ⟨s1,j3,ki,cq⟩:=eB h hd b _ s v Fx (fun _=>hv) (fun hb _=>kM hb) (fun hn=>(hn hh).elim) hg;exact fR v s1 j3 hE (.inl ⟨jB.2 hh,bc⟩) dS ki cq
       ·obtain ⟨s1,j3,ki,cq⟩:=eB h hd b _ s undef Fx (fun hn=>(hh hn).elim) (fun _ hn=>(hh hn).elim) (fun _=>rfl) hg
        have dS:ia o.op=false/\(jr o.op=true->c=true):=by
         unfold pR at hs;split at hs
         ·cases hs
         ·rename_i hc;simp only [Bool.and_eq_true,Bool.not_eq_true',Bool.or_eq_true] at hc;refine ⟨hc.1,fun hL=>?_⟩;rcases hc.2 with h1 | h1
          ·rw [hL] at h1;cases h1
          ·exact h1
        exact fR undef s1 j3 dS.1 (.inr ⟨sP hh,rfl⟩) dS.2 ki cq
      ·split at hg
       ·rename_i b ed;have jh:=qJ h.rel ed
        cases fI with
        | nil=>
         simp only [lastG] at ed jh;cases ph:(b == want)
         ·have sJ:b = !want:=by cases b<;>cases want<;>simp_all
          have hg:=hg.f ph
          have hn:Region.wanted o (yielded D.d.ops a.tmps)=false:=by
           refine sP fun hh=>?_;have:=hh (d,want) (by simp);simp only at this;rw [jh] at this;simp only [oI,Value.bool.injEq] at this;rw [this] at ph;simp at ph
          have hr:=fW (d:=d) (b:=!want) h (by rw [jh,sJ]);split at hg
          ·rename_i dS
           have C8:jr o.op=true->c=true:=by
            intro hL;simpa [hL] using dS
           obtain ⟨s1,j3,ki,cq⟩:=K0 _ _ (fX hd) hr hg;cases hE:ia o.op
           ·exact fR undef s1 j3 hE (.inr ⟨hn,rfl⟩) C8 ki cq
           ·exact fS s1 j3 hE hn ki cq
          ·exact hg.elim
         ·have sq:b=want:=by simpa using ph
          have hg:=hg.t ph;subst sq;have hw:Region.wanted o (yielded D.d.ops a.tmps)=true:=jB.2 (er jh (aA _));have hr:=fW (d:=d) (b:=b) h jh;split at hg
          ·rename_i hE;exact fE _ _ hE hw (fX hd) hg hr
          ·exact fP _ _ hw (fX hd) hg hr
        | cons g1 gr=>
         have key:∀ e,a.tmps[(lastG (d,want) (g1 :: gr)).1]? = some (.bool e)->goD X D.d n c ((i,o) :: r) (s0.map (aQ (lastG (d,want) (g1 :: gr)).1 e)) (st.resolve (lastG (d,want) (g1 :: gr)).1 e)->_:=
          fun e xq nB=>cO hD n c ((i,o) :: r) _ _ nB hl E a w (fW h xq)
         cases ph:(b == (lastG (d,want) (g1 :: gr)).2)
         ·have hg:=hg.f ph;have sJ:b = !(lastG (d,want) (g1 :: gr)).2:=by cases b<;>cases h0:(lastG (d,want) (g1 :: gr)).2<;>simp_all
          exact key _ (by rw [jh,sJ]) hg
         ·have hg:=hg.t ph;have sq:b=(lastG (d,want) (g1 :: gr)).2:=by simpa using ph
          exact key _ (by rw [jh,sq]) hg
       ·rename_i ed
        cases fI with
        | nil=>
         have jh:=xJ h.rel ed;simp only [lastG] at jh
         have hn:Region.wanted o (yielded D.d.ops a.tmps)=false:=by
          refine sP fun hh=>?_;have:=hh (d,want) (by simp);simp only at this;rw [jh] at this;simp [undef] at this
         simp only at hg;split at hg
         ·rename_i dS
          have C8:jr o.op=true->c=true:=by
           intro hL;simpa [hL] using dS
          obtain ⟨s1,j3,ki,cq⟩:=K0 _ _ hd h hg;cases hE:ia o.op
          ·exact fR undef s1 j3 hE (.inr ⟨hn,rfl⟩) C8 ki cq
          ·exact fS s1 j3 hE hn ki cq
         ·exact hg.elim
        | cons g1 gr=>exact hg.elim
       ·exact hg.elim
def IX (X:Ctx) (o:Oper) (st aK:St):Prop:=∀ E a w,Rel X E st a w->wq X.P o a w fun a' w'=>∃ E',Rel X E' aK a' w' /\ wR none E w E' w'
theorem IX.g {o:Oper} {k:List It} {st aK:St} (h:IX X o st aK) (hk:go X 4000 k aK):CA X o k st:=fun E a w hr=>by
 refine uw (ie ?_ (h E a w hr));rintro a' w' ⟨E',fv,_⟩;exact go_sound 4000 _ _ hk E' a' w' fv
def nOps:Nat->List Oper->List (Nat × Oper)
 | _,[]=>[]
 | i,o :: r=>(i,o) :: nOps (i + 1) r
theorem mc:∀ (l:List Oper) (i:Nat) (p:Nat × Oper),p∈nOps i l->i<=p.1/\l[p.1 - i]? = some p.2
 | [],_,_,h=>by cases h
 | o :: r,i,p,h=>by
  rcases List.mem_cons.1 h with h | h
  ·subst h;simp
  ·have:=mc r (i + 1) p h;refine ⟨by omega,?_⟩;rw [show p.1 - i=(p.1 - (i + 1)) + 1 by omega];simpa using this.2
theorem me:∀ (l:List Oper) (i:Nat),(nOps i l).map (·.1)=List.range' i l.length
 | [],_=>rfl
 | o :: r,i=>by simp only [nOps,List.map_cons,me r (i + 1),List.length_cons,List.range'_succ]
theorem iR (hr:Rel X E st a w) {ops:Array Oper} {W:Nat->Bool} {k:List It}:cA X ⟨⟨ops,W,k,st,none⟩,E,w⟩ true E st.sl st a w where
 rel:=hr
 x:=Ext.refl E
 β:=⟨[],by simp⟩
 t0:=hr.tm
 cc:=fun _=>⟨fun _ _ _ _ _ _=>rfl,hr.env.sub⟩
theorem cw {id:Nat} {ops:Array Oper} {k:List It} {st:St} (W:Nat->Bool) (hm:X.P.follows .mixedOrders=true) (hc:xP ops W=true)
  (h:goD X ⟨ops,W,k,st,none⟩ 3000 true (nOps 0 ops.toList) st.sl st):nN X id ops k st:=by
 intro E a w hr;have fv:=fo hr;have hs:=iR fv (ops:=ops) (W:=W) (k:=k);refine eZ (C:=CC E st.bx w.drew) (W:=W) (Q:=kq X k .normal) hm hc (fun a w h=>h) (hs.cc rfl) ?_;have:=cO (D:=⟨⟨ops,W,k,st,none⟩,E,w.drew⟩) fv.env.em 3000 true _ _ _ h (fun p hp=>by simpa using (mc _ _ p hp).2) E a w.drew hs;rw [me] at this;rw [List.range_eq_range'];simp only [Array.length_toList] at this;exact this
def maskL:List Nat->Nat->List (List DV)->List (List DV)
 | _,_,[]=>[]
 | m,i,cs :: r=>(match m.contains i with | true=>[] | false=>cs) :: maskL m (i + 1) r
theorem kj (m:List Nat):∀ (l:List (List DV)) (i:Nat),(maskL m i l).length=l.length
 | [],_=>rfl
 | cs :: r,i=>by simp [maskL,kj m r]
theorem kk (m:List Nat):∀ (l:List (List DV)) (i j:Nat) cs,(maskL m i l)[j]? = some cs->cs=[]∨l[j]? = some cs
 | [],_,_,_,h=>by simp [maskL] at h
 | c :: r,i,0,cs,h=>by
  simp only [maskL,List.getElem?_cons_zero,oI] at h;split at h
  ·exact .inl h.symm
  ·exact .inr (by simp [h])
 | c :: r,i,j + 1,cs,h=>by
  simp only [maskL,List.getElem?_cons_succ] at h ⊢;exact kk m r (i + 1) j cs h
theorem lF {id:Nat} {ops:Array Oper} {k:List It} {st:St} (m:List Nat) (W:Nat->Bool) (hm:X.P.follows .mixedOrders=true) (hc:xP ops W=true)
  (h:goD X ⟨ops,W,k,⟨st.sl,maskL m 0 st.bx,st.tk⟩,none⟩ 3000 true (nOps 0 ops.toList) st.sl st):nN X id ops k st:=by
 intro E a w hr;have fv:=fo hr;have hs:cA X ⟨⟨ops,W,k,⟨st.sl,maskL m 0 st.bx,st.tk⟩,none⟩,E,w.drew⟩ true E st.sl st a w.drew:=⟨fv,Ext.refl E,⟨[],by simp⟩,fv.tm,fun _=>⟨fun _ _ _ _ _ _=>rfl,fv.env.sub⟩⟩;refine eZ (C:=CC E (maskL m 0 st.bx) w.drew) (W:=W) (Q:=kq X k .normal) hm hc (fun a w h=>h) (hs.cc rfl) ?_
 have C9:ll E (maskL m 0 st.bx) w.drew:=⟨by rw [kj];exact fv.env.len,fun i cs hi aT=>by
  rcases kk m _ _ _ _ hi with h1 | h1
  ·exact (aT h1).elim
  ·exact fv.env.cr i cs h1⟩
 have:=cO (D:=⟨⟨ops,W,k,⟨st.sl,maskL m 0 st.bx,st.tk⟩,none⟩,E,w.drew⟩) C9 3000 true _ _ _ h (fun p hp=>by simpa using (mc _ _ p hp).2) E a w.drew hs;rw [me] at this;rw [List.range_eq_range'];simp only [Array.length_toList] at this;exact this
def IY (ops:Array Oper) (i:Nat):Bool:=
 match ops.toList[i]? with
 | some o=>
  match o.op with
  | .store ..=>true
  | _=>false
 | none=>false
theorem aV {id:Nat} {ops:Array Oper} {k:List It} {st:St} (hm:X.P.follows .mixedOrders=true) (hc:xP ops (IY ops)=true)
  (h:goD X ⟨ops,IY ops,k,st,none⟩ 3000 true (nOps 0 ops.toList) st.sl st):nN X id ops k st:=cw (IY ops) hm hc h
theorem jE {D:Dr} {f:FuncId} {args aU:List DV} {d:Nat} {r:List (Nat × Oper)} (iM:Enters X.P f) (hd:(dm X.nt st.sl (some d) && dm X.nt s0 (some d))=true) {Φ:DV->List (List DV)->List TkE->Prop} (hc:Ev X.P f aU [] [] Φ) (ha:CcL [] 0 0 0 aU args)
  (hk:∀ Au,Φ Au [] []->put2 s0 st (some d) false [] Au (goD X D 3000 c r)) (a7:X.still=false:=by exact rfl):uA X D c i r f args (some d) s0 st:=by
 refine ⟨iM,fun hl E0 wr hD E a w vs h hv=>(kO h.rel a7 hc ha hv).mono ?_⟩;rintro e w' ⟨v,E',Au,rfl,bg,hr,hΦ,hm,hx,hβ⟩
 have hh:∀ b,b < w.heap.size->w'.heap[b]? = w.heap[b]?:=fun b hb=>hm.block b hb (by
  rintro (h1 | ⟨y,h1,_⟩)
  ·simp [En.cl] at h1
  ·simp [En.cl] at h1)
 have hs:wR none E w E' w':=⟨hx,⟨[],by rw [hβ];simp⟩,fun j b hb _=>hh b (h.rel.env.aG (mG hb))⟩;have hC:=uD h hs bg (fun j hj=>by cases hj);refine ⟨v,rfl,fun _=>hC,?_⟩;have xS:cA X ⟨D,E0,wr⟩ c E' s0 st (a.put none v) w':=mb h hs bg (fun h1=>hC (h.cc h1)) (fun i x hx=>.inr ⟨hx,fun d hd=>by cases hd⟩) rfl;obtain ⟨s1,j3,ki,cq⟩:=eB xS hd false [] Au v (fun _ _ p hp=>by cases hp) (fun _=>hr) (fun hb=>by cases hb) (fun hn=>(hn (aA _)).elim) (hk Au hΦ);exact cO (D:=⟨D,E0,wr⟩) hD 3000 c r _ _ ki hl E' _ w' cq
theorem fY {D:Dr} {f:FuncId} {args aU:List DV} {d:Nat} {r:List (Nat × Oper)} {Au:DV} (iM:Enters X.P f) (hc:bD X.P f aU Au) (ha:CcL [] 0 0 0 aU args) (hd:(dm X.nt st.sl (some d) && dm X.nt s0 (some d))=true)
  (hk:put2 s0 st (some d) false [] Au (goD X D 3000 c r)) (a7:X.still=false:=by exact rfl):uA X D c i r f args (some d) s0 st:=
 jE iM hd hc ha (fun _ hr=>hr ▸ hk) a7
end
end Dv
end Go.Proofs.YtfifjddnnmfeoaaGreat
namespace Go.Proofs.YtfifjddnnmfeoaaGreat
namespace Dv
open Go Go.RowKit
section
variable {P:Program} {ops:Array Oper} {C:World->Prop} {Q:Act->World->Prop} {W:Nat->Bool} {π π':Nat->Nat}
theorem n5 {o:Oper} {i:Nat} {a:Act} {w:World} {K:Act->World->Prop} {Q':Exit->Act->World->Prop} (ho:ops[i]? = some o) (h:bR P ops o a w K):wpOp P ops Q' i K a w:=by
 unfold wpOp;rw [ho];simp only;unfold bR at h;split
 ·rename_i hw;rw [if_pos hw] at h;exact .inl (uw h)
 ·rename_i hw;rw [if_neg hw] at h;exact h
def chkT (ops:Array Oper) (x y:Nat):Bool:=
 (List.range ops.size).all fun i=>Nat.beq i x || Nat.beq i y ||
  match ops[i]? with
  | some o=>!ia o.op || ordB ops ops.size x i
  | none=>false
def ln (x y:Nat):Nat->Nat->Bool:=fun j i=>Nat.beq j x && Nat.beq i y
theorem sQ {x y:Nat} {Q':Exit->Act->World->Prop} (pu:x≠y) (El:lk ops W π=true) (Fy:qP ops W π (ln x y)=true) (HM:lk ops W π'=true) (Fz:qP ops W π' (ln y x)=true) (hT:chkT ops x y=true)
  (hQ:∀ a w,Q a w->Q' .normal a w):∀ (eY:Nat) (aq:Array Bool) (r1 r2:List Nat) (a:Act) (w:World),
  aq.size=ops.size->Dn ops aq->(∀ i,i∈r1↔i < ops.size/\aq.getD i true=false)->(∀ i,i∈r2↔i < ops.size/\aq.getD i true=false)->r1.Pairwise (fun a b=>π a < π b)->r2.Pairwise (fun a b=>π' a < π' b)->r1.length<=eY ->
   x∈r1->y∈r1->C w->runT P ops W C Q r1 a w->runT P ops W C Q r2 a w->wpAny P .any ops Q' eY aq a w:=by
 have de:=qQ El;have zP:=pk El;have Da:=pk HM;have IZ:=Fy;have I0:=Fz;simp only [qP,List.all_eq_true,List.mem_range,Bool.or_eq_true,Bool.not_eq_true'] at Fy Fz;intro eY
 induction eY with
 | zero=>
  intro aq r1 r2 a w bQ C3 eO zL sR Av hlen hx hy hC hr1 lf;have:r1=[]:=List.length_eq_zero_iff.1 (by omega);rw [this] at hx;cases hx
 | succ eY ih=>
  intro aq r1 r2 a w bQ C3 eO zL sR Av hlen hx hy hC hr1 lf;have I1:∀ i,i∈r1↔i∈r2:=fun i=>(eO i).trans (zL i).symm;have sS:r1.Nodup:=jj sR;have mf:r2.Nodup:=jj Av;have xQ:=nZ El;refine ⟨fun h0=>?_,fun i hi=>?_⟩
  ·cases r1 with
   | nil=>cases hx
   | cons h rem=>
    have hh:=(eO h).1 (by simp);have K1:ops[h]? = some ops[h]:=Array.getElem?_eq_getElem hh.1
    have:h∈Region.ready .any ops aq:=by
     refine mem_ready.2 ⟨hh.2,_,K1,fun e he hb=>?_⟩;obtain ⟨av,IU⟩:=xQ h _ K1 e he hb;cases hg:aq.getD e.on false
     ·have Fp:aq.getD e.on true=false:=by
       have:e.on < aq.size:=by rw [bQ];omega
       simp [this] at hg ⊢;exact hg
      have hm:=(eO e.on).2 ⟨by omega,Fp⟩;rcases List.mem_cons.1 hm with e1 | e1
      ·rw [e1] at av;omega
      ·have:=(List.pairwise_cons.1 sR).1 _ e1;omega
     ·rfl
    rw [h0] at this;cases this
  ·obtain ⟨IV,o,ho,fN⟩:=mem_ready.1 hi;have fm:=(Array.getElem?_eq_some_iff.1 ho).1;have gK:i∈r1:=(eO i).2 ⟨fm,IV⟩;have Aw:i∈r2:=(I1 i).1 gK
   have lp:∀ j,j∈r1->ordB ops ops.size j i=true->False:=by
    intro j hj h1;have h2:=gJ C3 _ _ _ _ ho fN h1;have h3:=((eO j).1 hj).2;have:j < aq.size:=by rw [bQ];exact ((eO j).1 hj).1
    simp [this] at h2 h3;rw [h2] at h3;cases h3
   have Ax:i≠y->∀ j∈r1,j≠i->π j < π i->gx ops W j i=true:=by
    intro Db j hj _ av;rcases Fy i fm j ((eO j).1 hj).1 with ((h1 | h1) | h1) | h1
    ·have:¬ Nat.blt (π j) (π i)=true:=by simp [h1]
     simp at this;omega
    ·simp [ln] at h1;exact (Db h1.2).elim
    ·exact (lp j hj h1).elim
    ·exact h1
   have Dc:i≠x->∀ j∈r2,j≠i->π' j < π' i->gx ops W j i=true:=by
    intro Ay j hj _ av;rcases Fz i fm j ((zL j).1 hj).1 with ((h1 | h1) | h1) | h1
    ·have:¬ Nat.blt (π' j) (π' i)=true:=by simp [h1]
     simp at this;omega
    ·simp [ln] at h1;exact (Ay h1.2).elim
    ·exact (lp j ((I1 j).2 hj) h1).elim
    ·exact h1
   have Dd:Dn ops (aq.setIfInBounds i true):=by
    intro k z hz hk e he hb;by_cases gC:k=i
    ·subst gC;rw [ho] at hz;simp only [oI] at hz;subst hz;exact getD_set_true (fN e he hb)
    ·rw [getD_set_ne true (Ne.symm gC)] at hk;exact getD_set_true (C3 k z hz hk e he hb)
   have n7:∀ (rem:List Nat),rem.Nodup->(∀ i,i∈rem↔i < ops.size/\aq.getD i true=false)->∀ k,k∈rem.erase i↔k < ops.size/\(aq.setIfInBounds i true).getD k true=false:=by
    intro rem hnd eN k;rw [List.Nodup.mem_erase_iff hnd];by_cases gC:k=i
    ·subst gC;simp [bQ,fm]
    ·rw [getD_set_ne true (Ne.symm gC)];simp only [ne_eq,gC,not_false_eq_true,true_and];exact eN k
   refine n5 ho ?_;by_cases Ay:i=x
   ·subst Ay;have a7:=eA de zP ho r1 a w (fun _=>hC) hr1 gK (Ax pu) sR;refine b8 ?_ a7;rintro a' w' ⟨sL,fv⟩;refine iQ (C:=C) (ln i y) El IZ hQ eY _ (r1.erase i) a' w' (by simp [bQ]) Dd (n7 r1 sS eO) (sR.sublist List.erase_sublist) (by rw [List.length_erase_of_mem gK];omega) ?_ ?_ fv
    ·intro j hj k _;cases dN:ln i y j k
     ·rfl
     ·simp only [ln,Bool.and_eq_true,Nat.beq_eq] at dN;exact (((List.Nodup.mem_erase_iff sS).1 hj).1 dN.1).elim
    ·rintro ⟨l,z,hl,hz,hL⟩;refine sL ?_ hC;have ss:=List.mem_of_mem_erase hl;have aT:l≠i:=((List.Nodup.mem_erase_iff sS).1 hl).1;rcases po sR gK ss aT.symm with h1 | h1
     ·exact zP i l z o h1 hz ho hL
     ·have:=Ax pu l ss aT h1;obtain ⟨_,_,_,h4⟩:=cL this hz ho;cases hw:W i
      ·rfl
      ·exact (h4 ⟨hL,hw⟩).elim
   ·by_cases Db:i=y
    ·subst Db;have a7:=eA de Da ho r2 a w (fun _=>hC) lf Aw (Dc (Ne.symm pu)) Av;refine b8 ?_ a7;rintro a' w' ⟨sL,fv⟩;refine iQ (C:=C) (ln i x) HM I0 hQ eY _ (r2.erase i) a' w' (by simp [bQ]) Dd (n7 r2 mf zL) (Av.sublist List.erase_sublist) ?_ ?_ ?_ fv
     ·have e1:r1.length=r2.length:=(List.perm_iff_count.2 (fun z=>by rw [sS.count,mf.count];simp [I1 z])).length_eq;rw [List.length_erase_of_mem Aw];omega
     ·intro j hj k _;cases dN:ln i x j k
      ·rfl
      ·simp only [ln,Bool.and_eq_true,Nat.beq_eq] at dN;exact (((List.Nodup.mem_erase_iff mf).1 hj).1 dN.1).elim
     ·rintro ⟨l,z,hl,hz,hL⟩;refine sL ?_ hC;have ss:=List.mem_of_mem_erase hl;have aT:l≠i:=((List.Nodup.mem_erase_iff mf).1 hl).1;rcases po Av Aw ss aT.symm with h1 | h1
      ·exact Da i l z o h1 hz ho hL
      ·have:=Dc (Ne.symm pu) l ss aT h1;obtain ⟨_,_,_,h4⟩:=cL this hz ho;cases hw:W i
       ·rfl
       ·exact (h4 ⟨hL,hw⟩).elim
    ·have IL:ia o.op=false:=by
      simp only [chkT,List.all_eq_true,List.mem_range,Bool.or_eq_true,Nat.beq_eq] at hT;rcases hT i fm with (h1 | h1) | h1
      ·exact (Ay h1).elim
      ·exact (Db h1).elim
      ·rw [ho] at h1;simp only [Bool.or_eq_true,Bool.not_eq_true'] at h1;rcases h1 with h1 | h1
       ·exact h1
       ·exact (lp x hx h1).elim
     obtain ⟨v,BQ⟩:=iP de ho IL r1 a w hr1 gK (Ax Db) sR;have CD:=eA de zP ho r1 a w (fun _=>hC) hr1 gK (Ax Db) sR;have um:=eA de Da ho r2 a w (fun _=>hC) lf Aw (Dc Ay) Av;have ki:=gI BQ (fun _=>hC) CD;have vn:=gI BQ (fun _=>hC) um;refine eT BQ (fun _=>hC) ?_
     exact ih _ (r1.erase i) (r2.erase i) _ w (by simp [bQ]) Dd (n7 r1 sS eO) (n7 r2 mf zL) (sR.sublist List.erase_sublist) (Av.sublist List.erase_sublist) (by rw [List.length_erase_of_mem gK];omega)
      ((List.Nodup.mem_erase_iff sS).2 ⟨Ne.symm Ay,hx⟩) ((List.Nodup.mem_erase_iff sS).2 ⟨Ne.symm Db,hy⟩) hC ki.2 vn.2
end
def selL (ops:List Oper):List Nat->List (Nat × Oper)
 | []=>[]
 | i :: r=>
  match ops[i]? with
  | some o=>(i,o) :: selL ops r
  | none=>selL ops r
theorem xT {ops:List Oper} {l:List Nat} {p:Nat × Oper} (h:p∈selL ops l):ops[p.1]? = some p.2:=by
 induction l with
 | nil=>cases h
 | cons i r ih=>
  unfold selL at h;split at h
  ·rename_i o ho;rcases List.mem_cons.1 h with h | h
   ·rw [h];exact ho
   ·exact ih h
  ·exact ih h
def plc:List Nat->Nat->Nat
 | [],_=>0
 | x :: r,i=>if Nat.beq x i then 0 else plc r i + 1
def xU (ops:Array Oper) (l:List Nat):Bool:=
 (selL ops.toList l).map (·.1) == l && (List.range ops.size).all (fun i=>l.contains i) && l.all (fun i=>Nat.blt i ops.size) && Nat.ble l.length ops.size && HN (plc l) l
where HN (f:Nat->Nat):List Nat->Bool
 | []=>true
 | x :: r=>r.all (fun y=>Nat.blt (f x) (f y)) && HN f r
theorem mg {f:Nat->Nat}:∀ {l:List Nat},xU.HN f l=true->l.Pairwise (fun a b=>f a < f b)
 | [],_=>List.Pairwise.nil
 | x :: r,h=>by
  simp only [xU.HN,Bool.and_eq_true,List.all_eq_true,Nat.blt_eq] at h;exact List.pairwise_cons.2 ⟨h.1,mg h.2⟩
def FA (ops:Array Oper) (W:Nat->Bool) (l l':List Nat) (x y:Nat):Bool:=
 !Nat.beq x y && Nat.blt x ops.size && Nat.blt y ops.size && xU ops l && xU ops l' && lk ops W (plc l) && qP ops W (plc l) (ln x y) && lk ops W (plc l') && qP ops W (plc l') (ln y x) && chkT ops x y
def swp (i j k:Nat):Nat:=
 match Nat.beq k i with
 | true=>j
 | false=>
  match Nat.beq k j with
  | true=>i
  | false=>k
theorem eU (i j k:Nat):swp i j (swp i j k)=k:=by
 have hb:∀ a b:Nat,Nat.beq a b=decide (a=b):=fun a b=>by
  by_cases h:a=b
  ·subst h;simp
  ·rw [decide_eq_false h];cases h1:Nat.beq a b
   ·rfl
   ·exact (h (by simpa using h1)).elim
 unfold swp;simp only [hb];by_cases h1:k=i
 ·subst h1;simp only [decide_true];by_cases h2:j=k
  ·subst h2;simp
  ·simp [h2]
 ·by_cases h2:k=j
  ·subst h2;simp [h1]
  ·simp [h1,h2]
mutual
def renD (f:Nat->Nat):DV->DV
 | .v x=>.v x
 | .ud=>.ud
 | .agg l=>.agg (renL f l)
 | .cP l=>.cP (renL f l)
 | .sl e es tk=>.sl e es tk
 | .pt cs o=>.pt cs o
 | .loc i o=>.loc (f i) o
 | .el i o=>.el (f i) o
 | .ms i e o l c=>.ms (f i) e o l c
 | .fn g l r=>.fn g (renL f l) (renL f r)
 | .kJ t x=>.kJ t (renD f x)
def renL (f:Nat->Nat):List DV->List DV
 | []=>[]
 | d :: r=>renD f d :: renL f r
end
def renS (f:Nat->Nat):List (Nat × Sl)->List (Nat × Sl)
 | []=>[]
 | (k,⟨gs,s⟩) :: r=>(k,⟨gs,renD f s⟩) :: renS f r
def renO (f:Nat->Nat):List (List DV)->List (List DV)
 | []=>[]
 | cs :: r=>renL f cs :: renO f r
def swL {α:Type} (i j:Nat) (l:List α):List α:=
 match l[i]?,l[j]? with
 | some a,some b=>(l.set i b).set j a
 | _,_=>l
def cE (i j:Nat) (S:St):St:=⟨renS (swp i j) S.sl,swL i j (renO (swp i j) S.bx),S.tk⟩
theorem jF (f:Nat->Nat):∀ (l:List (List DV)) (k:Nat),(renO f l)[k]? = (l[k]?).map (renL f)
 | [],k=>by simp [renO]
 | c :: r,0=>by simp [renO]
 | c :: r,k + 1=>by simp only [renO,List.getElem?_cons_succ];exact jF f r k
theorem bJ (f:Nat->Nat):∀ (l:List (List DV)),(renO f l).length=l.length
 | []=>rfl
 | c :: r=>by simp [renO,bJ f r]
theorem qS (f:Nat->Nat):∀ (l:List (Nat × Sl)) (k:Nat),get (renS f l) k=(get l k).map fun x=>⟨x.gs,renD f x.s⟩
 | [],k=>rfl
 | (i,⟨gs,s⟩) :: r,k=>by
  simp only [renS,bG];split
  ·rfl
  ·exact qS f r k
theorem bi {α:Type} (i j:Nat) (l:List α):(swL i j l).length=l.length:=by
 unfold swL;split<;>simp
theorem b9 {α:Type} {i j:Nat} {l:List α} (hi:i < l.length) (hj:j < l.length) (k:Nat):(swL i j l)[k]? = l[swp i j k]?:=by
 have hb:∀ a b:Nat,Nat.beq a b=true↔a=b:=fun a b=>by simp
 unfold swL;rw [gE hi,gE hj];simp only;unfold swp;by_cases I2:k=j
 ·subst I2;rw [List.getElem?_set_self (by simpa using hj)];cases h1:Nat.beq k i
  ·simp only [Nat.beq_refl];exact (gE hi).symm
  ·have:=(hb k i).1 h1;subst this;exact (gE hi).symm
 ·rw [List.getElem?_set_ne (Ne.symm I2)];by_cases gC:k=i
  ·subst gC;rw [List.getElem?_set_self hi];simp only [Nat.beq_refl];exact (gE hj).symm
  ·rw [List.getElem?_set_ne (Ne.symm gC)]
   have h1:Nat.beq k i=false:=by
    cases h:Nat.beq k i
    ·rfl
    ·exact (gC ((hb k i).1 h)).elim
   have h2:Nat.beq k j=false:=by
    cases h:Nat.beq k j
    ·rfl
    ·exact (I2 ((hb k j).1 h)).elim
   simp only [h1,h2]
theorem Az {α:Type} {i j:Nat} {l:List α} (hi:i < l.length) (hj:j < l.length):swL i j (swL i j l)=l:=by
 apply List.ext_getElem?;intro k;rw [b9 (by rw [bi];exact hi) (by rw [bi];exact hj),b9 hi hj,eU]
section
variable {E:En} {i j:Nat}
mutual
theorem Rv.sU (hi:i < E.β.length) (hj:j < E.β.length):∀ {d:DV} {v:Value},Rv E (renD (swp i j) d) v->Rv ⟨E.c,swL i j E.β,E.tk,E.τ⟩ d v
 | .v x,v,h=>by simp only [renD] at h;unfold Rv at h ⊢;exact h
 | .ud,v,h=>by simp only [renD] at h;unfold Rv at h ⊢;exact h
 | .sl e es tk,v,h=>by simp only [renD] at h;unfold Rv at h ⊢;exact h
 | .pt cs o,v,h=>by simp only [renD] at h;unfold Rv at h ⊢;exact h
 | .loc k o,v,h=>by
  simp only [renD] at h;unfold Rv at h ⊢;obtain ⟨b,h1,h2⟩:=h;exact ⟨b,by show (swL i j E.β)[k]? = _;rw [b9 hi hj];exact h1,h2⟩
 | .el k o,v,h=>by
  simp only [renD] at h;unfold Rv at h ⊢;obtain ⟨b,h1,h2⟩:=h;exact ⟨b,by show (swL i j E.β)[k]? = _;rw [b9 hi hj];exact h1,h2⟩
 | .ms k e o l c,v,h=>by
  simp only [renD] at h;unfold Rv at h ⊢;obtain ⟨b,ad,h1,h2⟩:=h;exact ⟨b,ad,by show (swL i j E.β)[k]? = _;rw [b9 hi hj];exact h1,h2⟩
 | .agg l,v,h=>by
  simp only [renD] at h;unfold Rv at h ⊢;obtain ⟨vs,h1,h2,h3⟩:=h;exact ⟨vs,h1,RvL.sU hi hj h2,h3⟩
 | .cP l,v,h=>by
  simp only [renD] at h;unfold Rv at h ⊢;obtain ⟨vs,h1,h2⟩:=h;exact ⟨vs,h1,RvL.sU hi hj h2⟩
 | .fn g l r,v,h=>by
  simp only [renD] at h;unfold Rv at h ⊢;obtain ⟨l',r',h1,h2,h3⟩:=h;exact ⟨l',r',h1,RvL.sU hi hj h2,RvL.sU hi hj h3⟩
 | .kJ t x,v,h=>by
  simp only [renD] at h;unfold Rv at h ⊢;obtain ⟨z,h1,h2⟩:=h;exact ⟨z,h1,Rv.sU hi hj h2⟩
theorem RvL.sU (hi:i < E.β.length) (hj:j < E.β.length):∀ {l:List DV} {vs:List Value},RvL E (renL (swp i j) l) vs->RvL ⟨E.c,swL i j E.β,E.tk,E.τ⟩ l vs
 | [],vs,h=>by simp only [renL,RvL] at h ⊢;exact h
 | d :: r,vs,h=>by
  simp only [renL,RvL] at h ⊢;obtain ⟨v,s,h1,h2,h3⟩:=h;exact ⟨v,s,h1,Rv.sU hi hj h2,RvL.sU hi hj h3⟩
end
end
theorem uE {α:Type} {i j:Nat} {l:List α} (hi:i < l.length) (hj:j < l.length) {x:α}:x∈swL i j l↔x∈l:=by
 have h1:∀ (l:List α),i < l.length->j < l.length->x∈swL i j l->x∈l:=by
  intro l hi hj h;obtain ⟨k,hk⟩:=List.mem_iff_getElem?.1 h;rw [b9 hi hj] at hk;exact mG hk
 refine ⟨h1 l hi hj,fun h=>?_⟩;have:=h1 (swL i j l) (by rw [bi];exact hi) (by rw [bi];exact hj);rw [Az hi hj] at this;exact this h
theorem vo {i j:Nat} {l:List Nat} (hi:i < l.length) (hj:j < l.length) (h:l.Nodup):(swL i j l).Nodup:=by
 have av:∀ k,k < l.length->swp i j k < l.length:=by
  intro k hk;unfold swp;split
  ·exact hj
  ·split
   ·exact hi
   ·exact hk
 unfold List.Nodup;rw [List.pairwise_iff_getElem];intro a b ha hb qg he;rw [bi] at ha hb
 have hg:∀ k (hk:k < l.length),(swL i j l)[k]'(by rw [bi];exact hk)=l[swp i j k]'(av k hk):=by
  intro k hk;have:=b9 hi hj k;rw [gE (by rw [bi];exact hk),gE (av k hk)] at this;exact Option.some.inj this
 rw [hg a ha,hg b hb] at he
 have h1:l[swp i j a]? = l[swp i j b]?:=by
  rw [gE (av a ha),gE (av b hb),he]
 have:=(List.getElem?_inj (av a ha) h).1 h1;have:=congrArg (swp i j) this;rw [eU,eU] at this;omega
theorem ig {P:Program} {ops:Array Oper} {W:Nat->Bool} {C:World->Prop} {Q Q':Act->World->Prop} (hQ:∀ a w,Q a w->Q' a w):∀ {l:List Nat} {a:Act} {w:World},runT P ops W C Q l a w->runT P ops W C Q' l a w
 | [],a,w,h=>hQ _ _ h
 | i :: r,a,w,h=>by
  simp only [runT] at h ⊢;split at h
  ·exact h.elim
  ·split at h
   ·rename_i hE;rw [if_pos hE];exact b8 (fun a w hk=>⟨hk.1,ig hQ hk.2⟩) h
   ·rename_i hE;rw [if_neg hE];obtain ⟨v,h1,h2,h3⟩:=h;exact ⟨v,h1,h2,ig hQ h3⟩
section
variable {X:Ctx} {E:En} {S:St} {a:Act} {w:World} {i j:Nat}
theorem qT (hX:X.bt=[]) (h:Rel X E (cE i j S) a w) (wN:X.n0<=i) (qc:X.n0<=j) (hi:i < S.bx.length) (hj:j < S.bx.length):Rel X ⟨E.c,swL i j E.β,E.tk,E.τ⟩ S a w:=by
 have hlen:E.β.length=S.bx.length:=by
  rw [h.env.len];simp only [cE,bi,bJ]
 have fm:i < E.β.length:=by rw [hlen];exact hi
 have dN:j < E.β.length:=by rw [hlen];exact hj
 have l4:∀ k,(cE i j S).bx[k]? = (S.bx[swp i j k]?).map (renL (swp i j)):=fun k=>by
  simp only [cE];rw [b9 (by rw [bJ];exact hi) (by rw [bJ];exact hj),jF]
 exact {
  env:={
   len:=by rw [bi];exact hlen
   tl:=h.env.tl
   cr:=fun k cs hk=>by
    obtain ⟨b,ty,arr,hb,hw,hc⟩:=h.env.cr (swp i j k) (renL (swp i j) cs) (by rw [l4,eU,hk];rfl);exact ⟨b,ty,arr,by rw [b9 fm dN];exact hb,hw,RvL.sU fm dN hc.1,hc.2⟩
   inj:=vo fm dN h.env.inj
   sub:=h.env.sub
   pc:=fun x v hx hm=>h.env.pc x v hx ((uE fm dN).1 hm)
   bI:=fun k q y hq hy=>by
    rcases h.env.bI k q y hq hy with h1 | ⟨g,cap,cur,rfl,h1,h2,h3,h4,h5,h6⟩
    ·exact .inl h1
    ·exact .inr ⟨g,cap,cur,rfl,h1,h2,h3,h4,fun hm=>h5 ((uE fm dN).1 hm),h6⟩
   eL:=h.env.eL }
  tk:=h.tk
  sz:=h.sz
  tm:=fun k x hx=>by
   have:=h.tm k ⟨x.gs,renD (swp i j) x.s⟩ (by simp only [cE];rw [qS,hx];rfl);refine ⟨fun hh=>?_,this.2⟩;obtain ⟨v,h1,h2⟩:=this.1 hh;exact ⟨v,h1,Rv.sU fm dN h2⟩
  df:=h.df
  nw:={
   c:=h.nw.c
   cn:=h.nw.cn
   β:=by
    obtain ⟨r,hr,hl⟩:=h.nw.β;have I3:X.E0.β.length=X.n0:=X.lB;refine ⟨(swL i j E.β).drop X.n0,?_,fun b hb=>?_⟩
    ·show swL i j E.β=_
     have:(swL i j E.β).take X.n0=X.E0.β:=by
      apply List.ext_getElem?;intro k;rw [List.getElem?_take];split
      ·rename_i hk;rw [b9 fm dN]
       have:swp i j k=k:=by
        unfold swp;have hb:∀ a b:Nat,Nat.beq a b=true↔a=b:=fun a b=>by simp
        cases h1:Nat.beq k i
        ·cases h2:Nat.beq k j
         ·rfl
         ·have:=(hb k j).1 h2;omega
        ·have:=(hb k i).1 h1;omega
       rw [this,hr,List.getElem?_append_left (by omega)]
      ·rename_i hk;exact (List.getElem?_eq_none (by omega)).symm
     rw [<- this,List.take_append_drop]
    ·have hnd:=h.env.inj;obtain ⟨k,hk⟩:=List.mem_iff_getElem?.1 hb;rw [List.getElem?_drop,b9 fm dN] at hk
     have ch:X.n0<=swp i j (X.n0 + k):=by
      unfold swp;split
      ·exact qc
      ·split
       ·exact wN
       ·omega
     rw [hr,List.getElem?_append_right (by omega)] at hk;exact hl b (mG hk)
   tk:=h.nw.tk
   tn:=h.nw.tn
   l0:=h.nw.l0 }
  fr:=h.fr
  sh:=h.sh
  bt:=.nil hX }
theorem uF (hX:X.bt=[]) (h:Rel X E (cE i j S) a w) (wN:X.n0<=i) (qc:X.n0<=j) (hi:i < S.bx.length) (hj:j < S.bx.length):∃ E',Rel X E' S a w:=⟨_,qT hX h wN qc hi hj⟩
end
def uG (sl:List (Nat × Sl)):List (Nat × Sl)->Prop
 | []=>True
 | p :: r=>get sl p.1=some p.2/\uG sl r
theorem mh {sl:List (Nat × Sl)}:∀ {l:List (Nat × Sl)},uG sl l->∀ i x,get l i=some x->get sl i=some x
 | [],_,i,x,hx=>by cases hx
 | (k,y) :: r,h,i,x,hx=>by
  simp only [bG] at hx;split at hx
  ·rename_i gC;subst gC;simp only [oI] at hx;subst hx;exact h.1
  ·exact mh h.2 i x hx
def uniqS:List Nat->List (Nat × Sl)->List (Nat × Sl)
 | _,[]=>[]
 | m,p :: r=>
  match muB m p.1 with
  | true=>uniqS m r
  | false=>p :: uniqS (p.1 :: m) r
theorem km:∀ (l:List (Nat × Sl)) (m:List Nat) (i:Nat),muB m i=false->get (uniqS m l) i=get l i
 | [],_,_,_=>rfl
 | (k,x) :: r,m,i,h=>by
  simp only [uniqS]
  cases hm:muB m k with
  | true=>
   simp only;rw [km r m i h,bG,if_neg];rintro rfl;rw [hm] at h;cases h
  | false=>
   simp only [bG];by_cases hk:k=i
   ·rw [if_pos hk,if_pos hk]
   ·rw [if_neg hk,if_neg hk]
    exact km r (k :: m) i (by simp only [muB,h,Bool.or_false];cases hb:Nat.beq k i with
     | true=>exact (hk (Nat.eq_of_beq_eq_true hb)).elim
     | false=>rfl)
def e7 (s S:St):Prop:=s.bx=S.bx/\s.tk=S.tk/\uG s.sl (uniqS [] S.sl)
theorem qU {X:Ctx} {E:En} {s S:St} {a:Act} {w:World} (h:Rel X E s a w) (hs:e7 s S):Rel X E S a w where
 env:=by rw [<- hs.1];exact h.env
 tk:=by rw [<- hs.2.1];exact h.tk
 sz:=h.sz
 tm:=fun i x hx=>h.tm i x (mh hs.2.2 i x (by rw [km _ _ _ rfl];exact hx))
 df:=h.df
 nw:=h.nw
 fr:=h.fr
 sh:=h.sh
 bt:=h.bt
theorem vt {X:Ctx} {id:Nat} {ops:Array Oper} {k:List It} {st:St} (W:Nat->Bool) (x y:Nat) (l l':List Nat) (i j:Nat) (hm:X.P.follows .mixedOrders=true) (hc:FA ops W l l' x y=true) (S:St)
  (h:goD X ⟨ops,W,[.sg fun s=>s=S],st,none⟩ 3000 true (selL ops.toList l) st.sl st) (h':goD X ⟨ops,W,[.sg fun s=>e7 s (cE i j S)],st,none⟩ 3000 true (selL ops.toList l') st.sl st)
  (gv:(Nat.ble X.n0 i && Nat.ble X.n0 j && Nat.blt i S.bx.length && Nat.blt j S.bx.length)=true) (hk:go X 4000 k S) (hX:X.bt=[]:=by exact rfl):nN X id ops k st:=by
 intro E a w hr;have fv:=fo hr;simp only [Bool.and_eq_true,Nat.ble_eq,Nat.blt_eq] at gv;simp only [FA,xU,Bool.and_eq_true,List.all_eq_true,Nat.blt_eq,Nat.ble_eq,beq_iff_eq,List.mem_range,Bool.not_eq_true'] at hc;obtain ⟨⟨⟨⟨⟨⟨⟨⟨⟨pu,xB⟩,EO⟩,⟨⟨⟨h1a,Em⟩,h1c⟩,hlen⟩,h1d⟩,⟨⟨⟨h2a,I4⟩,h2c⟩,_⟩,h2d⟩,El⟩,Fy⟩,HM⟩,Fz⟩,hT⟩:=hc
 have hQ:∀ S',(S'=S∨S'=cE i j S)->∀ a w,(∃ st E,Rel X E st a w/\(st=S' ∨ e7 st S'))->kq X k .normal a w:=by
  rintro S' hS a w ⟨j3,E1,BR,kN⟩
  have bg:Rel X E1 S' a w:=by
   rcases kN with rfl | kN
   ·exact BR
   ·exact qU BR kN
  rcases hS with rfl | rfl
  ·exact go_sound 4000 _ _ hk E1 a w bg
  ·obtain ⟨E2,qN⟩:=uF hX bg gv.1.1.1 gv.1.1.2 gv.1.2 gv.2;exact go_sound 4000 _ _ hk E2 a w qN
 have key:∀ (S':St),(S'=S∨S'=cE i j S)->∀ (l:List Nat),(selL ops.toList l).map (·.1)=l->∀ J:St->Prop,(∀ s,J s->s=S' ∨ e7 s S')->(goD X ⟨ops,W,[.sg J],st,none⟩ 3000 true (selL ops.toList l) st.sl st) ->
   runT X.P ops W (CC E st.bx w.drew) (fun a w=>kq X k .normal a w) l a w.drew:=by
  intro S' hS l hl J hJ h;have hs:=iR fv (ops:=ops) (W:=W) (k:=[.sg J]);have:=cO (D:=⟨⟨ops,W,[.sg J],st,none⟩,E,w.drew⟩) fv.env.em 3000 true _ _ _ h (fun p hp=>by simpa using xT hp) E a w.drew hs;rw [hl] at this;exact ig (fun a w ⟨st,E1,h1,h2⟩=>hQ S' hS a w ⟨st,E1,h1,hJ st h2⟩) this
 have e1:=key S (.inl rfl) l h1a _ (fun s hs=>.inl hs) h;have e2:=key (cE i j S) (.inr rfl) l' h2a _ (fun s hs=>.inr hs) h';refine wp_region_any hm ?_
 have wW:∀ (l:List Nat),(∀ i,i < ops.size->l.contains i=true)->(∀ i∈l,i < ops.size)->∀ i,i∈l↔i < ops.size/\(Array.replicate ops.size false).getD i true=false:=by
  intro l ha hb i;constructor
  ·intro hi;exact ⟨hb i hi,by simp [hb i hi]⟩
  ·intro hi;simpa using ha i hi.1
 have I5:x≠y:=by
  intro e;subst e;simp at pu
 refine sQ (C:=CC E st.bx w.drew) (π:=plc l) (π':=plc l') (Q:=kq X k .normal) I5 El Fy HM Fz hT (fun a w h=>h) ops.size (Array.replicate ops.size false) l l' a _ (by simp) ?_ (wW l Em h1c) (wW l' I4 h2c) (mg h1d) (mg h2d) hlen
  (by simpa using Em x xB) (by simpa using Em y EO) ⟨fun _ _ _ _ _ _=>rfl,fv.env.sub⟩ e1 e2
 intro i o ho hl;have:i < ops.size:=(Array.getElem?_eq_some_iff.1 ho).1;simp [this] at hl
end Dv
end Go.Proofs.YtfifjddnnmfeoaaGreat
namespace Go.Proofs.YtfifjddnnmfeoaaGreat
namespace Dv
open Go Go.RowKit
section
variable {X:Ctx} {st:St} {k:List It} {E:En} {a:Act} {w:World}
noncomputable def En.AA (E:En) (w:World):En:=⟨kg E 0 w,[],[],[]⟩
theorem AB {bx:List (List DV)} (h:Env E bx w):Env (E.AA w) [] w where
 len:=rfl
 tl:=rfl
 cr:=by simp
 inj:=List.nodup_nil
 sub:=fun x u hx=>by
  rcases b7 hx with ⟨_,h1⟩ | h1
  ·exact h1
  ·exact h.sub x u h1
 pc:=by simp [En.AA]
 bI:=by simp [En.AA]
 eL:=by simp [En.AA]
theorem AD {bx:List (List DV)} (h:Env E bx w):wT E (E.AA w) bx 0 where
 c:=fun x u hx=>fU h hx
 fz:=fun i cs hi bK=>by
  obtain ⟨b,ty,arr,hb,hw,hc⟩:=h.cr i cs bK;refine ⟨b,arr,hb,hc,fun j u hj=>?_⟩;show kg E 0 w ⟨b,j,none⟩=some u;unfold kg;rw [if_pos ⟨i,hi,hb⟩,bu hw];simpa using hj
theorem ee {P:Program} {s:Bool} {bx:List (List DV)} (h:Env E bx w) {f:FuncId} {args aU:List DV} {vs:List Value} {y:DV} (hc:Ei s P f aU [] [] fun d _ _=>d=y) (ha:CcL bx 0 0 0 aU args) (hv:RvL E args vs) :
  Calls P f vs.toArray w fun e w'=>∃ v E2,e = .returned v/\Rv E2 y v/\lg (fun _=>False) w w' /\ (s=true->∃ q,w'=w.drewN q):=by
 have EK:RvL (E.AA w) aU vs:=CcL.sound (AD h) (vg.zero _ _) ha hv;refine (hc (E.AA w) w vs (AB h) rfl EK).mono ?_;rintro e w' ⟨v,rfl,hm,hs,d,os,E2,he,hβ,nD,hn,Aq,rfl⟩;refine ⟨v,E2,rfl,Aq,⟨hm.os,hm.tape,hm.output,hm.size,fun i hi _=>hm.block i hi ?_⟩,hs⟩;rintro (h1 | ⟨y,h1,_⟩)
 ·simp [En.AA] at h1
 ·simp [En.AA] at h1
theorem pv {f:FuncId} {args aU:List DV} {d:Nat} {y:Value} (iM:Enters X.P f) (hc:bD X.P f aU (.v y)) (ha:CcL st.bx 0 0 0 aU args) (hd:dm X.nt st.sl (some d)=true)
  (hk:go X 4000 k ⟨(d,⟨[],.v y⟩) :: st.sl,st.bx,st.tk⟩) (a7:X.still=false:=by exact rfl):dh X f args (some d) k st:=by
 refine ⟨iM,a7,fun E a w vs h hv=>(ee h.env hc ha hv).mono ?_⟩;rintro e w' ⟨v,E2,rfl,hr,hm,_⟩;have hh:∀ i,i < w.heap.size->w'.heap[i]? = w.heap[i]?:=fun i hi=>hm.block i hi (fun h=>h);have bg:Rel X E st a w':=bO h (Ext.refl E) (h.env.ew hh) h.tk h.nw (h.fr.bh hm.os hm.tape hm.output hm.size fun i hi=>.inr (hh i hi)) (jx a7) (h.bt.ew fun b hb=>hh b (h.env.aG hb));unfold Rv at hr;exact go_sound 4000 _ _ hk E _ w' (aP bg hd (.v y) v (by unfold Rv;exact hr))
end
end Dv
end Go.Proofs.YtfifjddnnmfeoaaGreat
namespace Go.Proofs.YtfifjddnnmfeoaaGreat
namespace Dv
open Go Go.RowKit
def AE (bx:List (List DV)) (N m:Nat) (sl:List (Nat × Sl)):List (Nat × Sl)->Prop
 | []=>True
 | p :: r=>(∃ x,get sl p.1=some ⟨p.2.gs,x⟩/\Cc bx N N m p.2.s x)/\AE bx N m sl r
theorem n8 {bx:List (List DV)} {N m:Nat} {sl:List (Nat × Sl)}:∀ {l:List (Nat × Sl)},AE bx N m sl l->∀ i x',get l i=some x' -> ∃ x,get sl i=some ⟨x'.gs,x⟩/\Cc bx N N m x'.s x
 | [],_,i,x',hx=>by cases hx
 | (k,y) :: r,h,i,x',hx=>by
  simp only [bG] at hx;split at hx
  ·rename_i gC;subst gC;simp only [oI] at hx;subst hx;exact h.1
  ·exact n8 h.2 i x' hx
section
variable {X:Ctx} {E:En} {st aK:St} {a:Act} {w:World} {k:List It}
theorem AF (h:Rel X E st a w) (N:Nat) (hN:X.n0<=N) (Eo:N<=st.bx.length) (l4:gG st.bx N N st.tk.length aK.bx (st.bx.take N)) (nD:aK.tk=st.tk) (sE:AE st.bx N st.tk.length st.sl aK.sl):∃ E',Rel X E' aK a w:=by
 obtain ⟨r,Ak,HI⟩:=h.nw.β;have hlen:E.β.length=st.bx.length:=h.env.len
 have bZ:∀ (i:Nat) b,X.n0<=i->E.β[i]? = some b->b∈r:=fun i b hi hb=>by
  rw [Ak,List.getElem?_append_right (by rw [X.lB];exact hi)] at hb;exact mG hb
 let E':En:=⟨kg E N w,E.β.take N,E.tk,E.τ⟩
 have xH:wT E E' st.bx N:={
  c:=fun x u hx=>fU h.env hx
  fz:=fun i cs hi bK=>by
   obtain ⟨b,ty,arr,hb,hw,hc⟩:=h.env.cr i cs bK;refine ⟨b,arr,hb,hc,fun j u hj=>?_⟩;show kg E N w ⟨b,j,none⟩=some u;unfold kg;rw [if_pos ⟨i,hi,hb⟩,bu hw]
   simpa using hj }
 have nC:vg E E' N st.tk.length:={
  β:=fun i b hi hb=>by show (E.β.take N)[i]? = _;rw [List.getElem?_take,if_pos hi];exact hb
  tk:=fun k hk=>⟨rfl,rfl⟩ }
 have CU:∀ (i:Nat) b,N<=i->E.β[i]? = some b->b ∉ E.β.take N:=fun i b hi hb hm=>by
  obtain ⟨j,hj⟩:=List.getElem?_of_mem hm;rw [List.getElem?_take] at hj;split at hj
  ·rename_i hjN;have:=(List.getElem?_inj (gS hb).1 h.env.inj).1 (hb.trans hj.symm);omega
  ·cases hj
 obtain ⟨fj,Ff⟩:=l4.get;refine ⟨E',?_⟩
 exact {
  env:={
   len:=by
    show (E.β.take N).length=aK.bx.length;rw [fj,List.length_take,List.length_take];omega
   tl:=h.env.tl
   cr:=fun i cs' hi=>by
    obtain ⟨cs,bK,sm⟩:=Ff i cs' hi;rw [List.getElem?_take] at bK;split at bK
    ·rename_i av;obtain ⟨b,ty,arr,hb,hw,hc⟩:=h.env.cr i cs bK;exact ⟨b,ty,arr,nC.β i b av hb,hw,CcL.sound xH nC sm hc.1,hc.2⟩
    ·cases bK
   inj:=h.env.inj.sublist (List.take_sublist _ _)
   sub:=fun x u hx=>by
    rcases b7 hx with ⟨_,h1⟩ | h1
    ·exact h1
    ·exact h.env.sub x u h1
   pc:=fun x u hx hm=>by
    rcases b7 hx with ⟨⟨i,hi,hb⟩,_⟩ | h1
    ·exact CU i _ hi hb hm
    ·exact h.env.pc x u h1 (List.mem_of_mem_take hm)
   bI:=fun k q y hq hy=>by
    rcases h.env.bI k q y hq hy with h1 | ⟨g,cap,cur,rfl,h1,h2,h3,h4,h5,h6⟩
    ·exact .inl h1
    ·refine .inr ⟨g,cap,cur,rfl,h1,⟨h2.1,h2.2.mono fun _ _ hx=>fU h.env hx⟩,h3,h4,fun hm=>h5 (List.mem_of_mem_take hm),fun x u hx hg=>?_⟩;rcases b7 hx with ⟨⟨i,hi,hb⟩,_⟩ | h7
     ·rw [hg] at hb;exact (h5 (mG hb)).elim
     ·exact h6 x u h7 hg
   eL:=h.env.eL }
  tk:=by rw [nD];exact h.tk
  sz:=h.sz
  tm:=fun i x' qb=>by
   obtain ⟨x,hx,sm⟩:=n8 sE i x' qb;have:=h.tm i _ hx;refine ⟨fun hh=>?_,this.2⟩;obtain ⟨v,h1,h2⟩:=this.1 hh;exact ⟨v,h1,Cc.sound xH nC sm h2⟩
  df:=h.df
  nw:={
   c:=fun x u hx=>fU h.env (h.nw.c x u hx)
   cn:=fun x u hx=>by
    rcases b7 hx with ⟨⟨i,hi,hb⟩,_⟩ | h1
    ·exact .inr (.inl (HI _ (bZ i _ (by omega) hb)))
    ·exact h.nw.cn x u h1
   β:=by
    refine ⟨r.take (N - X.n0),?_,fun b hb=>HI b (List.mem_of_mem_take hb)⟩;show E.β.take N=_;rw [Ak,List.take_append,List.take_of_length_le (by rw [X.lB];omega),X.lB]
   tk:=h.nw.tk
   tn:=h.nw.tn
   l0:=h.nw.l0 }
  fr:=h.fr
  sh:=h.sh
  bt:=h.bt.sub _ }
theorem xV {c:Code} (N:Nat) (j3:St) (hN:Nat.ble X.n0 N=true) (Eo:Nat.ble N st.bx.length=true) (nD:j3.tk=st.tk) (l4:gG st.bx N N st.tk.length j3.bx (st.bx.take N)) (sE:AE st.bx N st.tk.length st.sl j3.sl)
  (hk:nM X c k j3):nM X c k st:=by
 intro E a w h;obtain ⟨E',h'⟩:=AF h N (nL hN) (nL Eo) l4 nD sE;exact hk E' a w h'
theorem ij {n0 m0:Nat} {st aK:St} (n:Nat) (q:TkE) (hq:q.new=true) (hn:Nat.ble n st.bx.length=true) (h3:st.tk ++ [q]=aK.tk) (h2:WeLL n st.tk.length aK.tk (st.bx.take n) aK.bx) (h4:Nat.ble n0 n=true) (h5:Nat.ble m0 st.tk.length=true)
  (h:kP n st.tk.length aK.tk st.sl aK.sl):qL n0 m0 st aK:=by
 have hl:(st.bx.take n).length=n:=by
  have:=nL hn;rw [List.length_take];omega
 exact ⟨st.tk,[],[q],st.bx.take n,st.bx.drop n,by simpa using h5,by rw [hl];simpa using h4,by simp,h3.symm,by simpa using hq,(List.take_append_drop n st.bx).symm,by rw [hl];exact h2,by rw [hl];exact h⟩
end
end Dv
end Go.Proofs.YtfifjddnnmfeoaaGreat
namespace Go.Proofs.YtfifjddnnmfeoaaGreat
namespace Dv
open Go Go.RowKit
section
variable {X:Ctx} {st:St} {k:List It} {E:En} {a:Act} {w:World}
theorem e8 {f:FuncId} {rest xW cs cs':List DV} {i d:Nat} (iM:Enters X.P f) (hd:dm X.nt st.sl (some d)=true) (l4:st.bx[i]? = some cs) (bK:CcL [] 0 0 0 cs' cs) (ha:CcL [] 0 0 0 xW rest)
  {Φ:DV->List (List DV)->List TkE->Prop} (hc:Ev X.P f (.loc 0 0 :: xW) [cs'] [] Φ) (dS:∀ r os tk,Φ r os tk->clB 0 0 r=true/\∀ ji∈os,clB.clL 0 0 ji=true)
  (hk:∀ r ji,Φ r [ji] []->go X 4000 k ⟨(d,⟨[],r⟩) :: st.sl,st.bx.set i ji,st.tk⟩) (a7:X.still=false:=by exact rfl) (hX:X.bt=[]:=by exact rfl):dh X f (.loc i 0 :: rest) (some d) k st:=by
 refine ⟨iM,a7,fun E a w vs h hv=>?_⟩;simp only [RvL] at hv;obtain ⟨v1,vr,rfl,h1,hvr⟩:=hv;unfold Rv at h1;obtain ⟨b,hb,rfl⟩:=h1;obtain ⟨b',ty,arr,cI,hw,sm⟩:=h.env.cr i cs l4;rw [hb] at cI;simp only [oI] at cI;subst cI;have ko:b∈E.β:=mG hb;have De:=h.env.aG ko
 let E1:En:=⟨E.c,[b],[],[]⟩
 have hx1:Ext E.cl E1:=⟨fun _ _ h=>h,fun j b hj=>by simp [En.cl] at hj,fun k q hk=>by simp [En.cl] at hk⟩;have hfz:wT E E.cl [] 0:=⟨fun _ _ h=>h,fun i cs _ hi=>by simp at hi⟩
 have FB:Env E1 [cs'] w:={
  len:=rfl
  tl:=rfl
  cr:=fun j FC hj=>by
   cases j with
   | succ j=>simp at hj
   | zero=>
    simp only [List.getElem?_cons_zero,oI] at hj;subst hj;refine ⟨b,ty,arr,rfl,hw,RvL.mono hx1 (CcL.sound hfz (vg.zero _ _) bK sm.1),sm.2⟩
  inj:=by simp [E1]
  sub:=h.env.sub
  pc:=fun x v hx hm=>by
   simp only [E1,List.mem_singleton] at hm;exact h.env.pc x v hx (by rw [hm];exact ko)
  bI:=by simp [E1]
  eL:=by simp [E1] }
 have j9:RvL E1 (.loc 0 0 :: xW) (.pointer (some ⟨b,0,none⟩) :: vr):=rvL_cons (by unfold Rv;exact ⟨b,rfl,rfl⟩) (RvL.mono hx1 (CcL.sound hfz (vg.zero _ _) ha hvr));refine (hc E1 w _ FB rfl j9).mono ?_;rintro e w' ⟨v,rfl,hm,_,r,os,E2,he,hβ,nD,hn,Aq,hΦ⟩;have jh:E2.tk=[]:=List.eq_nil_of_length_eq_zero nD;rw [jh] at hΦ
 obtain ⟨ji,rfl⟩:∃ ji,os=[ji]:=by
  have:=he.len;rw [hβ] at this
  match os,this with
  | [x],_=>exact ⟨x,rfl⟩
 obtain ⟨I6,I7⟩:=dS _ _ _ hΦ
 have hh:∀ j,j < w.heap.size->j≠b->w'.heap[j]? = w.heap[j]?:=fun j hj aT=>hm.block j hj (by
  rintro (h1 | ⟨y,h1,_⟩)
  ·simp only [E1,List.mem_singleton] at h1;exact aT h1
  ·simp [E1] at h1)
 have bZ:∀ x v,E2.c x=some v->E.c x=some v∨w.heap.size<=x.block:=fun x v hx=>by
  rcases hn.cn x v hx with h1 | h1 | ⟨y,h1,_⟩
  ·exact .inl h1
  ·exact .inr h1
  ·simp [E1] at h1
 let E':En:=⟨E2.c,E.β,E.tk,E.τ⟩
 have hx:Ext E E':=⟨hn.c,fun _ _ h=>h,fun _ q h=>⟨q,h,.inl ⟨rfl,rfl⟩⟩⟩;have zR:Ext (E2.cut 0 0) E':=⟨fun _ _ h=>h,fun j b hj=>by simp [En.cut] at hj,fun k q hk=>by simp [En.cut] at hk⟩
 have bg:Rel X E' ⟨st.sl,st.bx.set i ji,st.tk⟩ a w':=by
  refine bO h hx ?_ h.tk ?_ (h.fr.bh hm.os hm.tape hm.output hm.size fun j hj=>?_) (jx a7) (.nil hX)
  ·exact {
    len:=by rw [List.length_set];exact h.env.len
    tl:=h.env.tl
    cr:=fun j FC hj=>by
     by_cases CO:j=i
     ·subst CO;rw [List.getElem?_set_self (gS l4).1] at hj;simp only [oI] at hj;subst hj;obtain ⟨b2,I8,Df,iB,sj,jg⟩:=he.cr 0 ji rfl;rw [hβ] at iB;simp only [E1,List.getElem?_cons_zero,oI] at iB;subst iB;exact ⟨b,I8,Df,hb,sj,RvL.mono zR (RvL.cut jg.1 (I7 ji (by simp))),jg.2⟩
     ·rw [List.getElem?_set_ne (Ne.symm CO)] at hj;obtain ⟨bj,I9,Dg,BS,FD,xr⟩:=h.env.cr j FC hj
      have aT:bj≠b:=by
       rintro rfl;exact CO ((List.getElem?_inj (gS BS).1 h.env.inj).1 (BS.trans hb.symm))
      exact ⟨bj,I9,Dg,BS,by rw [hh bj (bB FD) aT];exact FD,xr.mono hx⟩
    inj:=h.env.inj
    sub:=he.sub
    pc:=fun x v hc jv=>by
     rcases bZ x v hc with h1 | h1
     ·exact h.env.pc x v h1 jv
     ·have:=h.env.aG jv;omega
    bI:=fun k q y hq hy=>by
     rcases h.env.bI k q y hq hy with h1 | ⟨g',cap,cur,rfl,h1,h2,h3,h4,h5,h6⟩
     ·exact .inl h1
     ·refine .inr ⟨g',cap,cur,rfl,by rw [hh g' (bB h1) (fun e=>h5 (by rw [e];exact ko))];exact h1,⟨h2.1,h2.2.mono hn.c⟩,h3,h4,h5,fun x v hc hg=>?_⟩;rcases bZ x v hc with h7 | h7
      ·exact h6 x v h7 hg
      ·have:=bB h1;omega
    eL:=h.env.eL }
  ·exact {
    c:=fun x v hc=>hn.c x v (h.nw.c x v hc)
    cn:=fun x v hc=>by
     rcases bZ x v hc with h1 | h1
     ·exact h.nw.cn x v h1
     ·have:=h.fr.size;exact .inr (.inl (by omega))
    β:=h.nw.β
    tk:=h.nw.tk
    tn:=h.nw.tn
    l0:=h.nw.l0 }
  ·by_cases CI:j=b
   ·left;obtain ⟨r0,wU,wW⟩:=h.nw.β;rw [wU] at ko;rcases List.mem_append.1 ko with ko | ko
    ·exact .inl (.inl (CI ▸ ko))
    ·exact .inr (CI ▸ wW b ko)
   ·exact .inr (hh j hj CI)
 exact go_sound 4000 _ _ (hk r ji hΦ) E' _ w' (aP bg hd r v (Rv.mono zR (Rv.cut Aq I6)))
end
end Dv
end Go.Proofs.YtfifjddnnmfeoaaGreat
namespace Go.Proofs.YtfifjddnnmfeoaaGreat
namespace Dv
open Go
def tt:TT:=.ag 192 ⟨1,false,.fn,[.nilFunc]⟩ (.ag 96 ⟨1,false,.fn,[.nilFunc]⟩ (.ag 45 ⟨4,true,.st [(0,3),(1,3),(2,9),(3,43)],[.int .i64 0,.int .i64 0,.string ByteArray.empty,.slice none 0 0]⟩ (.ag 22 ⟨1,false,.sl 137 3 32,[.slice none 0 0]⟩ (.ag 11 ⟨1,false,.str,[.string ByteArray.empty]⟩ (.ag 6 ⟨1,false,.int .u8,[.int .u8 0]⟩ (.ag 3 ⟨1,false,.int .i64,[.int .i64 0]⟩ (.ag 2 ⟨1,false,.int .i64,[.int .i64 0]⟩ (.ag 1 ⟨1,false,.fn,[.nilFunc]⟩ (.nil) (.nil)) (.nil)) (.ag 5 ⟨1,false,.int .u8,[.int .u8 0]⟩ (.ag 4 ⟨1,false,.bool,[.bool false]⟩ (.nil) (.nil)) (.nil))) (.ag 9 ⟨1,false,.str,[.string ByteArray.empty]⟩ (.ag 8 ⟨4,true,.st [(0,2),(1,3),(2,4),(3,6)],[.int .i64 0,.int .i64 0,.bool false,.int .u8 0]⟩ (.ag 7 ⟨4,true,.st [(0,2),(1,3),(2,4),(3,6)],[.int .i64 0,.int .i64 0,.bool false,.int .u8 0]⟩ (.nil) (.nil)) (.nil)) (.ag 10 ⟨1,false,.str,[.string ByteArray.empty]⟩ (.nil) (.nil)))) (.ag 17 ⟨1,false,.ptr 383,[.pointer none]⟩ (.ag 14 ⟨2,true,.st [(0,9),(1,12)],[.string ByteArray.empty,.int .u64 0]⟩ (.ag 13 ⟨2,true,.st [(0,9),(1,12)],[.string ByteArray.empty,.int .u64 0]⟩ (.ag 12 ⟨1,false,.int .u64,[.int .u64 0]⟩ (.nil) (.nil)) (.nil)) (.ag 16 ⟨1,false,.ptr 376,[.pointer none]⟩ (.ag 15 ⟨1,false,.ptr 373,[.pointer none]⟩ (.nil) (.nil)) (.nil))) (.ag 20 ⟨1,false,.kJ,[.nilIface]⟩ (.ag 19 ⟨1,true,.st [(0,17)],[.pointer none]⟩ (.ag 18 ⟨1,true,.st [(0,17)],[.pointer none]⟩ (.nil) (.nil)) (.nil)) (.ag 21 ⟨1,false,.int .i32,[.int .i32 0]⟩ (.nil) (.nil))))) (.ag 34 ⟨1,false,.sl 146 4 48,[.slice none 0 0]⟩ (.ag 29 ⟨1,false,.fn,[.nilFunc]⟩ (.ag 26 ⟨1,false,.fn,[.nilFunc]⟩ (.ag 25 ⟨1,false,.ptr 116,[.pointer none]⟩ (.ag 24 ⟨1,false,.fn,[.nilFunc]⟩ (.nil) (.nil)) (.nil)) (.ag 28 ⟨1,false,.sl 3 1 8,[.slice none 0 0]⟩ (.ag 27 ⟨1,false,.sl 9 1 16,[.slice none 0 0]⟩ (.nil) (.nil)) (.nil))) (.ag 32 ⟨1,false,.fn,[.nilFunc]⟩ (.ag 31 ⟨1,false,.fn,[.nilFunc]⟩ (.ag 30 ⟨1,false,.fn,[.nilFunc]⟩ (.nil) (.nil)) (.nil)) (.ag 33 ⟨1,false,.sl 38 2 24,[.slice none 0 0]⟩ (.nil) (.nil)))) (.ag 40 ⟨9,true,.st [(0,3),(1,3),(2,3),(3,3),(4,3),(5,33),(6,36),(7,38)],[.int .i64 0,.int .i64 0,.int .i64 0,.int .i64 0,.int .i64 0,.slice none 0 0,.slice none 0 0,.string ByteArray.empty,.int .i64 0]⟩ (.ag 37 ⟨2,true,.st [(0,9),(1,3)],[.string ByteArray.empty,.int .i64 0]⟩ (.ag 36 ⟨1,false,.sl 144 18 224,[.slice none 0 0]⟩ (.ag 35 ⟨1,false,.sl 109 11 136,[.slice none 0 0]⟩ (.nil) (.nil)) (.nil)) (.ag 39 ⟨9,true,.st [(0,3),(1,3),(2,3),(3,3),(4,3),(5,33),(6,36),(7,38)],[.int .i64 0,.int .i64 0,.int .i64 0,.int .i64 0,.int .i64 0,.slice none 0 0,.slice none 0 0,.string ByteArray.empty,.int .i64 0]⟩ (.ag 38 ⟨2,true,.st [(0,9),(1,3)],[.string ByteArray.empty,.int .i64 0]⟩ (.nil) (.nil)) (.nil))) (.ag 43 ⟨1,false,.sl 45 4 56,[.slice none 0 0]⟩ (.ag 42 ⟨12,true,.st [(0,33),(1,34),(2,35),(3,40)],[.slice none 0 0,.slice none 0 0,.slice none 0 0,.int .i64 0,.int .i64 0,.int .i64 0,.int .i64 0,.int .i64 0,.slice none 0 0,.slice none 0 0,.string ByteArray.empty,.int .i64 0]⟩ (.ag 41 ⟨12,true,.st [(0,33),(1,34),(2,35),(3,40)],[.slice none 0 0,.slice none 0 0,.slice none 0 0,.int .i64 0,.int .i64 0,.int .i64 0,.int .i64 0,.int .i64 0,.slice none 0 0,.slice none 0 0,.string ByteArray.empty,.int .i64 0]⟩ (.nil) (.nil)) (.nil)) (.ag 44 ⟨4,true,.st [(0,3),(1,3),(2,9),(3,43)],[.int .i64 0,.int .i64 0,.string ByteArray.empty,.slice none 0 0]⟩ (.nil) (.nil)))))) (.ag 73 ⟨1,false,.fn,[.nilFunc]⟩ (.ag 59 ⟨1,false,.fn,[.nilFunc]⟩ (.ag 52 ⟨1,false,.int .i64,[.int .i64 0]⟩ (.ag 48 ⟨6,true,.st [(0,3),(1,3),(2,3),(3,9),(4,33),(5,46)],[.int .i64 0,.int .i64 0,.int .i64 0,.string ByteArray.empty,.slice none 0 0,.slice none 0 0]⟩ (.ag 47 ⟨6,true,.st [(0,3),(1,3),(2,3),(3,9),(4,33),(5,46)],[.int .i64 0,.int .i64 0,.int .i64 0,.string ByteArray.empty,.slice none 0 0,.slice none 0 0]⟩ (.ag 46 ⟨1,false,.sl 48 6 88,[.slice none 0 0]⟩ (.nil) (.nil)) (.nil)) (.ag 51 ⟨1,false,.fn,[.nilFunc]⟩ (.ag 50 ⟨1,false,.fn,[.nilFunc]⟩ (.nil) (.nil)) (.nil))) (.ag 56 ⟨1,false,.fn,[.nilFunc]⟩ (.ag 54 ⟨2,true,.st [(0,52),(1,3)],[.int .i64 0,.int .i64 0]⟩ (.ag 53 ⟨2,true,.st [(0,52),(1,3)],[.int .i64 0,.int .i64 0]⟩ (.nil) (.nil)) (.nil)) (.ag 57 ⟨1,false,.fn,[.nilFunc]⟩ (.nil) (.nil)))) (.ag 67 ⟨1,false,.fn,[.nilFunc]⟩ (.ag 63 ⟨1,false,.fn,[.nilFunc]⟩ (.ag 61 ⟨1,false,.fn,[.nilFunc]⟩ (.ag 60 ⟨1,false,.fn,[.nilFunc]⟩ (.nil) (.nil)) (.nil)) (.ag 65 ⟨1,false,.fn,[.nilFunc]⟩ (.ag 64 ⟨1,false,.sl 22 1 24,[.slice none 0 0]⟩ (.nil) (.nil)) (.nil))) (.ag 70 ⟨1,false,.fn,[.nilFunc]⟩ (.ag 69 ⟨1,false,.fn,[.nilFunc]⟩ (.ag 68 ⟨1,false,.fn,[.nilFunc]⟩ (.nil) (.nil)) (.nil)) (.ag 72 ⟨1,false,.fn,[.nilFunc]⟩ (.nil) (.nil))))) (.ag 84 ⟨2,true,.st [(0,3),(1,3)],[.int .i64 0,.int .i64 0]⟩ (.ag 79 ⟨1,false,.fn,[.nilFunc]⟩ (.ag 76 ⟨1,false,.sl 155 7 88,[.slice none 0 0]⟩ (.ag 75 ⟨1,false,.sl 206 1 24,[.slice none 0 0]⟩ (.ag 74 ⟨1,false,.fn,[.nilFunc]⟩ (.nil) (.nil)) (.nil)) (.ag 78 ⟨4,true,.st [(0,33),(1,75),(2,76),(3,3)],[.slice none 0 0,.slice none 0 0,.slice none 0 0,.int .i64 0]⟩ (.ag 77 ⟨4,true,.st [(0,33),(1,75),(2,76),(3,3)],[.slice none 0 0,.slice none 0 0,.slice none 0 0,.int .i64 0]⟩ (.nil) (.nil)) (.nil))) (.ag 82 ⟨1,false,.fn,[.nilFunc]⟩ (.ag 81 ⟨1,false,.fn,[.nilFunc]⟩ (.ag 80 ⟨1,false,.fn,[.nilFunc]⟩ (.nil) (.nil)) (.nil)) (.ag 83 ⟨1,false,.fn,[.nilFunc]⟩ (.nil) (.nil)))) (.ag 91 ⟨1,false,.fn,[.nilFunc]⟩ (.ag 87 ⟨4,true,.st [(0,3),(1,3),(2,9),(3,86)],[.int .i64 0,.int .i64 0,.string ByteArray.empty,.slice none 0 0]⟩ (.ag 86 ⟨1,false,.sl 88 4 56,[.slice none 0 0]⟩ (.ag 85 ⟨2,true,.st [(0,3),(1,3)],[.int .i64 0,.int .i64 0]⟩ (.nil) (.nil)) (.nil)) (.ag 90 ⟨1,false,.fn,[.nilFunc]⟩ (.ag 88 ⟨4,true,.st [(0,3),(1,3),(2,9),(3,86)],[.int .i64 0,.int .i64 0,.string ByteArray.empty,.slice none 0 0]⟩ (.nil) (.nil)) (.nil))) (.ag 94 ⟨1,false,.fn,[.nilFunc]⟩ (.ag 93 ⟨1,false,.fn,[.nilFunc]⟩ (.ag 92 ⟨1,false,.fn,[.nilFunc]⟩ (.nil) (.nil)) (.nil)) (.ag 95 ⟨1,false,.ptr 182,[.pointer none]⟩ (.nil) (.nil))))))) (.ag 145 ⟨4,true,.st [(0,38),(2,38)],[.string ByteArray.empty,.int .i64 0,.string ByteArray.empty,.int .i64 0]⟩ (.ag 121 ⟨1,false,.fn,[.nilFunc]⟩ (.ag 109 ⟨11,true,.st [(0,38),(2,40)],[.string ByteArray.empty,.int .i64 0,.int .i64 0,.int .i64 0,.int .i64 0,.int .i64 0,.int .i64 0,.slice none 0 0,.slice none 0 0,.string ByteArray.empty,.int .i64 0]⟩ (.ag 103 ⟨2,true,.st [(0,3),(1,3)],[.int .i64 0,.int .i64 0]⟩ (.ag 100 ⟨7,true,.st [(0,25),(1,25),(2,28),(3,95),(4,98),(5,3),(6,22)],[.pointer none,.pointer none,.slice none 0 0,.pointer none,.map none,.int .i64 0,.slice none 0 0]⟩ (.ag 99 ⟨7,true,.st [(0,25),(1,25),(2,28),(3,95),(4,98),(5,3),(6,22)],[.pointer none,.pointer none,.slice none 0 0,.pointer none,.map none,.int .i64 0,.slice none 0 0]⟩ (.ag 97 ⟨1,false,.ptr 100,[.pointer none]⟩ (.nil) (.nil)) (.nil)) (.ag 102 ⟨2,true,.st [(0,3),(1,3)],[.int .i64 0,.int .i64 0]⟩ (.ag 101 ⟨1,false,.fn,[.nilFunc]⟩ (.nil) (.nil)) (.nil))) (.ag 107 ⟨1,false,.fn,[.nilFunc]⟩ (.ag 106 ⟨1,false,.fn,[.nilFunc]⟩ (.ag 104 ⟨1,false,.fn,[.nilFunc]⟩ (.nil) (.nil)) (.nil)) (.ag 108 ⟨11,true,.st [(0,38),(2,40)],[.string ByteArray.empty,.int .i64 0,.int .i64 0,.int .i64 0,.int .i64 0,.int .i64 0,.int .i64 0,.slice none 0 0,.slice none 0 0,.string ByteArray.empty,.int .i64 0]⟩ (.nil) (.nil)))) (.ag 116 ⟨5,true,.st [(0,95),(1,113),(2,3),(3,114),(4,28)],[.pointer none,.slice none 0 0,.int .i64 0,.pointer none,.slice none 0 0]⟩ (.ag 113 ⟨1,false,.sl 125 7 88,[.slice none 0 0]⟩ (.ag 112 ⟨1,false,.ptr 118,[.pointer none]⟩ (.ag 111 ⟨1,false,.fn,[.nilFunc]⟩ (.nil) (.nil)) (.nil)) (.ag 115 ⟨5,true,.st [(0,95),(1,113),(2,3),(3,114),(4,28)],[.pointer none,.slice none 0 0,.int .i64 0,.pointer none,.slice none 0 0]⟩ (.ag 114 ⟨1,false,.ptr 255,[.pointer none]⟩ (.nil) (.nil)) (.nil))) (.ag 119 ⟨1,false,.fn,[.nilFunc]⟩ (.ag 118 ⟨15,true,.st [(0,42),(12,95),(13,25),(14,3)],[.slice none 0 0,.slice none 0 0,.slice none 0 0,.int .i64 0,.int .i64 0,.int .i64 0,.int .i64 0,.int .i64 0,.slice none 0 0,.slice none 0 0,.string ByteArray.empty,.int .i64 0,.pointer none,.pointer none,.int .i64 0]⟩ (.ag 117 ⟨15,true,.st [(0,42),(12,95),(13,25),(14,3)],[.slice none 0 0,.slice none 0 0,.slice none 0 0,.int .i64 0,.int .i64 0,.int .i64 0,.int .i64 0,.int .i64 0,.slice none 0 0,.slice none 0 0,.string ByteArray.empty,.int .i64 0,.pointer none,.pointer none,.int .i64 0]⟩ (.nil) (.nil)) (.nil)) (.ag 120 ⟨1,false,.fn,[.nilFunc]⟩ (.nil) (.nil))))) (.ag 134 ⟨1,false,.fn,[.nilFunc]⟩ (.ag 128 ⟨1,false,.fn,[.nilFunc]⟩ (.ag 124 ⟨7,true,.st [(0,3),(1,3),(2,3),(3,3),(4,3),(5,27),(6,123)],[.int .i64 0,.int .i64 0,.int .i64 0,.int .i64 0,.int .i64 0,.slice none 0 0,.slice none 0 0]⟩ (.ag 123 ⟨1,false,.sl 176 10 88,[.slice none 0 0]⟩ (.ag 122 ⟨1,false,.fn,[.nilFunc]⟩ (.nil) (.nil)) (.nil)) (.ag 127 ⟨1,false,.fn,[.nilFunc]⟩ (.ag 125 ⟨7,true,.st [(0,3),(1,3),(2,3),(3,3),(4,3),(5,27),(6,123)],[.int .i64 0,.int .i64 0,.int .i64 0,.int .i64 0,.int .i64 0,.slice none 0 0,.slice none 0 0]⟩ (.nil) (.nil)) (.nil))) (.ag 131 ⟨1,false,.fn,[.nilFunc]⟩ (.ag 130 ⟨1,false,.fn,[.nilFunc]⟩ (.ag 129 ⟨1,false,.fn,[.nilFunc]⟩ (.nil) (.nil)) (.nil)) (.ag 133 ⟨1,false,.fn,[.nilFunc]⟩ (.nil) (.nil)))) (.ag 140 ⟨1,false,.fn,[.nilFunc]⟩ (.ag 137 ⟨3,true,.st [(0,3),(1,3),(2,9)],[.int .i64 0,.int .i64 0,.string ByteArray.empty]⟩ (.ag 136 ⟨3,true,.st [(0,3),(1,3),(2,9)],[.int .i64 0,.int .i64 0,.string ByteArray.empty]⟩ (.ag 135 ⟨1,false,.fn,[.nilFunc]⟩ (.nil) (.nil)) (.nil)) (.ag 139 ⟨1,false,.fn,[.nilFunc]⟩ (.ag 138 ⟨1,false,.fn,[.nilFunc]⟩ (.nil) (.nil)) (.nil))) (.ag 143 ⟨18,true,.st [(0,38),(2,4),(3,33),(4,3),(5,142),(9,40)],[.string ByteArray.empty,.int .i64 0,.bool false,.slice none 0 0,.int .i64 0,.int .i64 0,.int .i64 0,.int .i64 0,.slice none 0 0,.int .i64 0,.int .i64 0,.int .i64 0,.int .i64 0,.int .i64 0,.slice none 0 0,.slice none 0 0,.string ByteArray.empty,.int .i64 0]⟩ (.ag 142 ⟨4,true,.st [(0,3),(1,3),(2,3),(3,33)],[.int .i64 0,.int .i64 0,.int .i64 0,.slice none 0 0]⟩ (.ag 141 ⟨4,true,.st [(0,3),(1,3),(2,3),(3,33)],[.int .i64 0,.int .i64 0,.int .i64 0,.slice none 0 0]⟩ (.nil) (.nil)) (.nil)) (.ag 144 ⟨18,true,.st [(0,38),(2,4),(3,33),(4,3),(5,142),(9,40)],[.string ByteArray.empty,.int .i64 0,.bool false,.slice none 0 0,.int .i64 0,.int .i64 0,.int .i64 0,.int .i64 0,.slice none 0 0,.int .i64 0,.int .i64 0,.int .i64 0,.int .i64 0,.int .i64 0,.slice none 0 0,.slice none 0 0,.string ByteArray.empty,.int .i64 0]⟩ (.nil) (.nil)))))) (.ag 167 ⟨10,true,.st [(0,9),(1,4),(2,3),(3,3),(4,3),(5,3),(6,3),(7,3),(8,3),(9,3)],[.string ByteArray.empty,.bool false,.int .i64 0,.int .i64 0,.int .i64 0,.int .i64 0,.int .i64 0,.int .i64 0,.int .i64 0,.int .i64 0]⟩ (.ag 156 ⟨1,false,.fn,[.nilFunc]⟩ (.ag 151 ⟨1,false,.fn,[.nilFunc]⟩ (.ag 148 ⟨1,false,.fn,[.nilFunc]⟩ (.ag 147 ⟨1,false,.fn,[.nilFunc]⟩ (.ag 146 ⟨4,true,.st [(0,38),(2,38)],[.string ByteArray.empty,.int .i64 0,.string ByteArray.empty,.int .i64 0]⟩ (.nil) (.nil)) (.nil)) (.ag 150 ⟨1,false,.sl 40 9 112,[.slice none 0 0]⟩ (.ag 149 ⟨1,false,.fn,[.nilFunc]⟩ (.nil) (.nil)) (.nil))) (.ag 154 ⟨7,true,.st [(0,3),(1,3),(2,3),(3,3),(4,3),(5,27),(6,153)],[.int .i64 0,.int .i64 0,.int .i64 0,.int .i64 0,.int .i64 0,.slice none 0 0,.slice none 0 0]⟩ (.ag 153 ⟨1,false,.sl 168 10 88,[.slice none 0 0]⟩ (.ag 152 ⟨1,false,.fn,[.nilFunc]⟩ (.nil) (.nil)) (.nil)) (.ag 155 ⟨7,true,.st [(0,3),(1,3),(2,3),(3,3),(4,3),(5,27),(6,153)],[.int .i64 0,.int .i64 0,.int .i64 0,.int .i64 0,.int .i64 0,.slice none 0 0,.slice none 0 0]⟩ (.nil) (.nil)))) (.ag 162 ⟨1,false,.fn,[.nilFunc]⟩ (.ag 159 ⟨1,false,.sl 5 1 1,[.slice none 0 0]⟩ (.ag 158 ⟨1,false,.ptr 161,[.pointer none]⟩ (.ag 157 ⟨1,false,.fn,[.nilFunc]⟩ (.nil) (.nil)) (.nil)) (.ag 161 ⟨2,true,.st [(0,158),(1,159)],[.pointer none,.slice none 0 0]⟩ (.ag 160 ⟨2,true,.st [(0,158),(1,159)],[.pointer none,.slice none 0 0]⟩ (.nil) (.nil)) (.nil))) (.ag 165 ⟨1,false,.fn,[.nilFunc]⟩ (.ag 164 ⟨1,false,.fn,[.nilFunc]⟩ (.ag 163 ⟨1,false,.fn,[.nilFunc]⟩ (.nil) (.nil)) (.nil)) (.ag 166 ⟨1,false,.fn,[.nilFunc]⟩ (.nil) (.nil))))) (.ag 178 ⟨1,false,.ptr 260,[.pointer none]⟩ (.ag 173 ⟨1,false,.fn,[.nilFunc]⟩ (.ag 170 ⟨1,false,.fn,[.nilFunc]⟩ (.ag 169 ⟨1,false,.fn,[.nilFunc]⟩ (.ag 168 ⟨10,true,.st [(0,9),(1,4),(2,3),(3,3),(4,3),(5,3),(6,3),(7,3),(8,3),(9,3)],[.string ByteArray.empty,.bool false,.int .i64 0,.int .i64 0,.int .i64 0,.int .i64 0,.int .i64 0,.int .i64 0,.int .i64 0,.int .i64 0]⟩ (.nil) (.nil)) (.nil)) (.ag 172 ⟨1,false,.fn,[.nilFunc]⟩ (.ag 171 ⟨1,false,.fn,[.nilFunc]⟩ (.nil) (.nil)) (.nil))) (.ag 176 ⟨10,true,.st [(0,9),(1,4),(2,3),(3,3),(4,3),(5,3),(6,3),(7,3),(8,3),(9,3)],[.string ByteArray.empty,.bool false,.int .i64 0,.int .i64 0,.int .i64 0,.int .i64 0,.int .i64 0,.int .i64 0,.int .i64 0,.int .i64 0]⟩ (.ag 175 ⟨1,false,.fn,[.nilFunc]⟩ (.ag 174 ⟨1,false,.fn,[.nilFunc]⟩ (.nil) (.nil)) (.nil)) (.ag 177 ⟨1,false,.fn,[.nilFunc]⟩ (.nil) (.nil)))) (.ag 185 ⟨1,false,.fn,[.nilFunc]⟩ (.ag 181 ⟨2051,true,.st [(0,27),(1,114),(2,178),(3,180),(1027,180)],(.slice none 0 0 :: .pointer none :: .pointer none :: List.replicate 2048 (.int .i64 0))⟩ (.ag 180 ⟨1024,true,.ar 32 32,(List.replicate 1024 (.int .i64 0))⟩ (.ag 179 ⟨32,true,.ar 32 1,[.int .i64 0,.int .i64 0,.int .i64 0,.int .i64 0,.int .i64 0,.int .i64 0,.int .i64 0,.int .i64 0,.int .i64 0,.int .i64 0,.int .i64 0,.int .i64 0,.int .i64 0,.int .i64 0,.int .i64 0,.int .i64 0,.int .i64 0,.int .i64 0,.int .i64 0,.int .i64 0,.int .i64 0,.int .i64 0,.int .i64 0,.int .i64 0,.int .i64 0,.int .i64 0,.int .i64 0,.int .i64 0,.int .i64 0,.int .i64 0,.int .i64 0,.int .i64 0]⟩ (.nil) (.nil)) (.nil)) (.ag 183 ⟨1,false,.fn,[.nilFunc]⟩ (.ag 182 ⟨2051,true,.st [(0,27),(1,114),(2,178),(3,180),(1027,180)],(.slice none 0 0 :: .pointer none :: .pointer none :: List.replicate 2048 (.int .i64 0))⟩ (.nil) (.nil)) (.nil))) (.ag 189 ⟨1,false,.fn,[.nilFunc]⟩ (.ag 187 ⟨1,false,.sl 257 2 16,[.slice none 0 0]⟩ (.ag 186 ⟨1,false,.fn,[.nilFunc]⟩ (.nil) (.nil)) (.nil)) (.ag 191 ⟨1,false,.fn,[.nilFunc]⟩ (.nil) (.nil)))))))) (.ag 290 ⟨1,false,.fn,[.nilFunc]⟩ (.ag 242 ⟨1,false,.fn,[.nilFunc]⟩ (.ag 215 ⟨1,false,.kJ,[.nilIface]⟩ (.ag 204 ⟨1,false,.fn,[.nilFunc]⟩ (.ag 199 ⟨1,false,.fn,[.nilFunc]⟩ (.ag 195 ⟨1,false,.fn,[.nilFunc]⟩ (.ag 194 ⟨1,false,.fn,[.nilFunc]⟩ (.ag 193 ⟨1,false,.fn,[.nilFunc]⟩ (.nil) (.nil)) (.nil)) (.ag 198 ⟨1,false,.fn,[.nilFunc]⟩ (.ag 196 ⟨1,false,.sl 33 1 24,[.slice none 0 0]⟩ (.nil) (.nil)) (.nil))) (.ag 202 ⟨1,false,.fn,[.nilFunc]⟩ (.ag 201 ⟨1,false,.fn,[.nilFunc]⟩ (.ag 200 ⟨1,false,.fn,[.nilFunc]⟩ (.nil) (.nil)) (.nil)) (.ag 203 ⟨1,false,.fn,[.nilFunc]⟩ (.nil) (.nil)))) (.ag 210 ⟨1,false,.fn,[.nilFunc]⟩ (.ag 207 ⟨1,false,.fn,[.nilFunc]⟩ (.ag 206 ⟨1,false,.sl 4 1 1,[.slice none 0 0]⟩ (.ag 205 ⟨1,false,.fn,[.nilFunc]⟩ (.nil) (.nil)) (.nil)) (.ag 209 ⟨1,false,.fn,[.nilFunc]⟩ (.ag 208 ⟨1,false,.fn,[.nilFunc]⟩ (.nil) (.nil)) (.nil))) (.ag 213 ⟨20,true,.ar 20 1,[.int .u8 0,.int .u8 0,.int .u8 0,.int .u8 0,.int .u8 0,.int .u8 0,.int .u8 0,.int .u8 0,.int .u8 0,.int .u8 0,.int .u8 0,.int .u8 0,.int .u8 0,.int .u8 0,.int .u8 0,.int .u8 0,.int .u8 0,.int .u8 0,.int .u8 0,.int .u8 0]⟩ (.ag 212 ⟨1,false,.int .u64,[.int .u64 0]⟩ (.ag 211 ⟨1,false,.fn,[.nilFunc]⟩ (.nil) (.nil)) (.nil)) (.ag 214 ⟨1,false,.kJ,[.nilIface]⟩ (.nil) (.nil))))) (.ag 229 ⟨1,false,.fn,[.nilFunc]⟩ (.ag 224 ⟨1,false,.fn,[.nilFunc]⟩ (.ag 220 ⟨1,false,.fn,[.nilFunc]⟩ (.ag 218 ⟨1,false,.fn,[.nilFunc]⟩ (.ag 216 ⟨1,false,.fn,[.nilFunc]⟩ (.nil) (.nil)) (.nil)) (.ag 223 ⟨1,false,.fn,[.nilFunc]⟩ (.ag 221 ⟨1,false,.int .u64,[.int .u64 0]⟩ (.nil) (.nil)) (.nil))) (.ag 227 ⟨1,false,.fn,[.nilFunc]⟩ (.ag 226 ⟨1,false,.fn,[.nilFunc]⟩ (.ag 225 ⟨1,false,.fn,[.nilFunc]⟩ (.nil) (.nil)) (.nil)) (.ag 228 ⟨1,false,.fn,[.nilFunc]⟩ (.nil) (.nil)))) (.ag 236 ⟨1,false,.fn,[.nilFunc]⟩ (.ag 232 ⟨3,true,.st [(0,25),(1,95),(2,3)],[.pointer none,.pointer none,.int .i64 0]⟩ (.ag 231 ⟨3,true,.st [(0,25),(1,95),(2,3)],[.pointer none,.pointer none,.int .i64 0]⟩ (.ag 230 ⟨1,false,.fn,[.nilFunc]⟩ (.nil) (.nil)) (.nil)) (.ag 235 ⟨1,false,.fn,[.nilFunc]⟩ (.ag 234 ⟨1,false,.fn,[.nilFunc]⟩ (.nil) (.nil)) (.nil))) (.ag 240 ⟨1,false,.fn,[.nilFunc]⟩ (.ag 238 ⟨3,true,.st [(0,9),(1,9),(2,27)],[.string ByteArray.empty,.string ByteArray.empty,.slice none 0 0]⟩ (.ag 237 ⟨3,true,.st [(0,9),(1,9),(2,27)],[.string ByteArray.empty,.string ByteArray.empty,.slice none 0 0]⟩ (.nil) (.nil)) (.nil)) (.ag 241 ⟨1,false,.ptr 5,[.pointer none]⟩ (.nil) (.nil)))))) (.ag 264 ⟨1,false,.ptr 266,[.pointer none]⟩ (.ag 253 ⟨1,false,.fn,[.nilFunc]⟩ (.ag 248 ⟨1,false,.fn,[.nilFunc]⟩ (.ag 245 ⟨1,false,.fn,[.nilFunc]⟩ (.ag 244 ⟨1,false,.fn,[.nilFunc]⟩ (.ag 243 ⟨1,false,.fn,[.nilFunc]⟩ (.nil) (.nil)) (.nil)) (.ag 247 ⟨1,false,.fn,[.nilFunc]⟩ (.ag 246 ⟨1,false,.fn,[.nilFunc]⟩ (.nil) (.nil)) (.nil))) (.ag 251 ⟨1,false,.fn,[.nilFunc]⟩ (.ag 250 ⟨1,false,.fn,[.nilFunc]⟩ (.ag 249 ⟨1,false,.fn,[.nilFunc]⟩ (.nil) (.nil)) (.nil)) (.ag 252 ⟨1,false,.fn,[.nilFunc]⟩ (.nil) (.nil)))) (.ag 259 ⟨1,true,.st [(0,258)],[.slice none 0 0]⟩ (.ag 256 ⟨1,false,.fn,[.nilFunc]⟩ (.ag 255 ⟨2,true,.st [(0,27),(1,28)],[.slice none 0 0,.slice none 0 0]⟩ (.ag 254 ⟨2,true,.st [(0,27),(1,28)],[.slice none 0 0,.slice none 0 0]⟩ (.nil) (.nil)) (.nil)) (.ag 258 ⟨1,false,.sl 212 1 8,[.slice none 0 0]⟩ (.ag 257 ⟨2,true,.ar 2 1,[.int .i64 0,.int .i64 0]⟩ (.nil) (.nil)) (.nil))) (.ag 262 ⟨1,false,.fn,[.nilFunc]⟩ (.ag 261 ⟨1,false,.fn,[.nilFunc]⟩ (.ag 260 ⟨1,true,.st [(0,258)],[.slice none 0 0]⟩ (.nil) (.nil)) (.nil)) (.ag 263 ⟨1,false,.fn,[.nilFunc]⟩ (.nil) (.nil))))) (.ag 276 ⟨1,false,.fn,[.nilFunc]⟩ (.ag 270 ⟨1,false,.fn,[.nilFunc]⟩ (.ag 267 ⟨1,false,.fn,[.nilFunc]⟩ (.ag 266 ⟨1,true,.st [(0,3)],[.int .i64 0]⟩ (.ag 265 ⟨1,true,.st [(0,3)],[.int .i64 0]⟩ (.nil) (.nil)) (.nil)) (.ag 269 ⟨1,false,.fn,[.nilFunc]⟩ (.ag 268 ⟨1,false,.fn,[.nilFunc]⟩ (.nil) (.nil)) (.nil))) (.ag 274 ⟨1,false,.fn,[.nilFunc]⟩ (.ag 272 ⟨1,false,.fn,[.nilFunc]⟩ (.ag 271 ⟨1,false,.fn,[.nilFunc]⟩ (.nil) (.nil)) (.nil)) (.ag 275 ⟨1,false,.fn,[.nilFunc]⟩ (.nil) (.nil)))) (.ag 284 ⟨1,false,.fn,[.nilFunc]⟩ (.ag 280 ⟨1,false,.fn,[.nilFunc]⟩ (.ag 278 ⟨1,false,.int .u32,[.int .u32 0]⟩ (.ag 277 ⟨1,false,.fn,[.nilFunc]⟩ (.nil) (.nil)) (.nil)) (.ag 283 ⟨1,false,.fn,[.nilFunc]⟩ (.ag 282 ⟨1,false,.fn,[.nilFunc]⟩ (.nil) (.nil)) (.nil))) (.ag 287 ⟨1,false,.fn,[.nilFunc]⟩ (.ag 286 ⟨1,false,.fn,[.nilFunc]⟩ (.ag 285 ⟨1,false,.fn,[.nilFunc]⟩ (.nil) (.nil)) (.nil)) (.ag 288 ⟨1,false,.fn,[.nilFunc]⟩ (.nil) (.nil))))))) (.ag 340 ⟨1,false,.fn,[.nilFunc]⟩ (.ag 316 ⟨1,false,.fn,[.nilFunc]⟩ (.ag 304 ⟨1,false,.fn,[.nilFunc]⟩ (.ag 297 ⟨1,false,.int .u64,[.int .u64 0]⟩ (.ag 293 ⟨1,false,.fn,[.nilFunc]⟩ (.ag 292 ⟨1,false,.fn,[.nilFunc]⟩ (.ag 291 ⟨1,false,.fn,[.nilFunc]⟩ (.nil) (.nil)) (.nil)) (.ag 295 ⟨1,false,.fn,[.nilFunc]⟩ (.ag 294 ⟨1,false,.fn,[.nilFunc]⟩ (.nil) (.nil)) (.nil))) (.ag 302 ⟨1,false,.fn,[.nilFunc]⟩ (.ag 301 ⟨1,false,.fn,[.nilFunc]⟩ (.ag 300 ⟨1,false,.fn,[.nilFunc]⟩ (.nil) (.nil)) (.nil)) (.ag 303 ⟨1,false,.fn,[.nilFunc]⟩ (.nil) (.nil)))) (.ag 310 ⟨1,false,.fn,[.nilFunc]⟩ (.ag 307 ⟨1,false,.fn,[.nilFunc]⟩ (.ag 306 ⟨2,true,.st [(0,173),(1,301)],[.nilFunc,.nilFunc]⟩ (.ag 305 ⟨2,true,.st [(0,173),(1,301)],[.nilFunc,.nilFunc]⟩ (.nil) (.nil)) (.nil)) (.ag 309 ⟨1,false,.fn,[.nilFunc]⟩ (.ag 308 ⟨1,false,.fn,[.nilFunc]⟩ (.nil) (.nil)) (.nil))) (.ag 314 ⟨1,false,.fn,[.nilFunc]⟩ (.ag 313 ⟨1,false,.fn,[.nilFunc]⟩ (.ag 312 ⟨1,false,.fn,[.nilFunc]⟩ (.nil) (.nil)) (.nil)) (.ag 315 ⟨1,false,.fn,[.nilFunc]⟩ (.nil) (.nil))))) (.ag 328 ⟨1,true,.st [(0,17)],[.pointer none]⟩ (.ag 322 ⟨1,false,.fn,[.nilFunc]⟩ (.ag 319 ⟨3,true,.st [(0,54),(2,3)],[.int .i64 0,.int .i64 0,.int .i64 0]⟩ (.ag 318 ⟨1,false,.fn,[.nilFunc]⟩ (.ag 317 ⟨1,false,.sl 348 2 8,[.slice none 0 0]⟩ (.nil) (.nil)) (.nil)) (.ag 321 ⟨1,false,.fn,[.nilFunc]⟩ (.ag 320 ⟨3,true,.st [(0,54),(2,3)],[.int .i64 0,.int .i64 0,.int .i64 0]⟩ (.nil) (.nil)) (.nil))) (.ag 326 ⟨1,false,.fn,[.nilFunc]⟩ (.ag 324 ⟨1,false,.fn,[.nilFunc]⟩ (.ag 323 ⟨1,false,.fn,[.nilFunc]⟩ (.nil) (.nil)) (.nil)) (.ag 327 ⟨1,false,.fn,[.nilFunc]⟩ (.nil) (.nil)))) (.ag 335 ⟨1,false,.fn,[.nilFunc]⟩ (.ag 331 ⟨1,false,.fn,[.nilFunc]⟩ (.ag 330 ⟨1,false,.ptr 385,[.pointer none]⟩ (.ag 329 ⟨1,true,.st [(0,17)],[.pointer none]⟩ (.nil) (.nil)) (.nil)) (.ag 333 ⟨1,false,.int .i64,[.int .i64 0]⟩ (.ag 332 ⟨1,false,.fn,[.nilFunc]⟩ (.nil) (.nil)) (.nil))) (.ag 338 ⟨1,false,.fn,[.nilFunc]⟩ (.ag 337 ⟨1,false,.fn,[.nilFunc]⟩ (.ag 336 ⟨1,false,.fn,[.nilFunc]⟩ (.nil) (.nil)) (.nil)) (.ag 339 ⟨1,false,.fn,[.nilFunc]⟩ (.nil) (.nil)))))) (.ag 362 ⟨2,true,.st [(0,21),(1,21)],[.int .i32 0,.int .i32 0]⟩ (.ag 351 ⟨1,false,.fn,[.nilFunc]⟩ (.ag 346 ⟨1,false,.fn,[.nilFunc]⟩ (.ag 343 ⟨1,false,.sl 363 2 8,[.slice none 0 0]⟩ (.ag 342 ⟨1,false,.fn,[.nilFunc]⟩ (.ag 341 ⟨1,false,.fn,[.nilFunc]⟩ (.nil) (.nil)) (.nil)) (.ag 345 ⟨4,true,.ar 4 1,[.int .i64 0,.int .i64 0,.int .i64 0,.int .i64 0]⟩ (.ag 344 ⟨1,false,.fn,[.nilFunc]⟩ (.nil) (.nil)) (.nil))) (.ag 349 ⟨1,false,.fn,[.nilFunc]⟩ (.ag 348 ⟨2,true,.st [(0,21),(1,21)],[.int .i32 0,.int .i32 0]⟩ (.ag 347 ⟨2,true,.st [(0,21),(1,21)],[.int .i32 0,.int .i32 0]⟩ (.nil) (.nil)) (.nil)) (.ag 350 ⟨1,false,.fn,[.nilFunc]⟩ (.nil) (.nil)))) (.ag 357 ⟨1,false,.fn,[.nilFunc]⟩ (.ag 354 ⟨1,false,.fn,[.nilFunc]⟩ (.ag 353 ⟨1,false,.fn,[.nilFunc]⟩ (.ag 352 ⟨1,false,.fn,[.nilFunc]⟩ (.nil) (.nil)) (.nil)) (.ag 356 ⟨1,false,.fn,[.nilFunc]⟩ (.ag 355 ⟨1,false,.int .u64,[.int .u64 0]⟩ (.nil) (.nil)) (.nil))) (.ag 360 ⟨1,false,.fn,[.nilFunc]⟩ (.ag 359 ⟨1,false,.ptr 3,[.pointer none]⟩ (.ag 358 ⟨1,false,.fn,[.nilFunc]⟩ (.nil) (.nil)) (.nil)) (.ag 361 ⟨1,false,.fn,[.nilFunc]⟩ (.nil) (.nil))))) (.ag 373 ⟨4,true,.st [(0,17),(1,17),(2,17),(3,9)],[.pointer none,.pointer none,.pointer none,.string ByteArray.empty]⟩ (.ag 368 ⟨1,false,.ptr 355,[.pointer none]⟩ (.ag 365 ⟨1,false,.fn,[.nilFunc]⟩ (.ag 364 ⟨1,false,.fn,[.nilFunc]⟩ (.ag 363 ⟨2,true,.st [(0,21),(1,21)],[.int .i32 0,.int .i32 0]⟩ (.nil) (.nil)) (.nil)) (.ag 367 ⟨1,false,.fn,[.nilFunc]⟩ (.ag 366 ⟨1,false,.fn,[.nilFunc]⟩ (.nil) (.nil)) (.nil))) (.ag 371 ⟨1,false,.fn,[.nilFunc]⟩ (.ag 370 ⟨1,false,.fn,[.nilFunc]⟩ (.ag 369 ⟨1,false,.fn,[.nilFunc]⟩ (.nil) (.nil)) (.nil)) (.ag 372 ⟨4,true,.st [(0,17),(1,17),(2,17),(3,9)],[.pointer none,.pointer none,.pointer none,.string ByteArray.empty]⟩ (.nil) (.nil)))) (.ag 381 ⟨1,false,.int .i32,[.int .i32 0]⟩ (.ag 378 ⟨1,false,.int .u8,[.int .u8 0]⟩ (.ag 377 ⟨1,false,.int .u8,[.int .u8 0]⟩ (.ag 374 ⟨0,true,.ar 0 1,[]⟩ (.nil) (.nil)) (.nil)) (.ag 380 ⟨1,false,.int .i32,[.int .i32 0]⟩ (.ag 379 ⟨1,false,.fn,[.nilFunc]⟩ (.nil) (.nil)) (.nil))) (.ag 384 ⟨2,true,.st [(0,9),(1,378)],[.string ByteArray.empty,.int .u8 0]⟩ (.ag 383 ⟨11,true,.st [(0,12),(1,12),(2,278),(3,377),(4,5),(5,5),(6,378),(7,379),(8,241),(9,380),(10,381)],[.int .u64 0,.int .u64 0,.int .u32 0,.int .u8 0,.int .u8 0,.int .u8 0,.int .u8 0,.nilFunc,.pointer none,.int .i32 0,.int .i32 0]⟩ (.ag 382 ⟨11,true,.st [(0,12),(1,12),(2,278),(3,377),(4,5),(5,5),(6,378),(7,379),(8,241),(9,380),(10,381)],[.int .u64 0,.int .u64 0,.int .u32 0,.int .u8 0,.int .u8 0,.int .u8 0,.int .u8 0,.nilFunc,.pointer none,.int .i32 0,.int .i32 0]⟩ (.nil) (.nil)) (.nil)) (.ag 385 ⟨2,true,.st [(0,9),(1,378)],[.string ByteArray.empty,.int .u8 0]⟩ (.nil) (.nil))))))))
theorem tt_ok:tt.ok Tryz.prog=true:=by decide +kernel
theorem mo:Tryz.prog.follows .mixedOrders=true:=rfl
end Dv
end Go.Proofs.YtfifjddnnmfeoaaGreat
set_option maxRecDepth 100000
namespace Go.Proofs.YtfifjddnnmfeoaaGreat
open Go Go.RowKit Dv Tryz
theorem HO:Enters Tryz.prog 8:=enters_of Tryz.func8 (by decide +kernel) rfl
theorem zS:Enters Tryz.prog 9:=enters_of Tryz.func9 (by decide +kernel) rfl
theorem vu:Enters Tryz.prog 10:=enters_of Tryz.func10 (by decide +kernel) rfl
theorem Dh:Enters Tryz.prog 11:=enters_of Tryz.func11 (by decide +kernel) rfl
theorem FE:Enters Tryz.prog 12:=enters_of Tryz.func12 (by decide +kernel) rfl
theorem Ja:Enters Tryz.prog 16:=enters_of Tryz.func16 (by decide +kernel) rfl
theorem FF:Enters Tryz.prog 38:=enters_of Tryz.func38 (by decide +kernel) rfl
theorem Jb:Enters Tryz.prog 40:=enters_of Tryz.func40 (by decide +kernel) rfl
theorem Di:Enters Tryz.prog 41:=enters_of Tryz.func41 (by decide +kernel) rfl
theorem Jc:Enters Tryz.prog 43:=enters_of Tryz.func43 (by decide +kernel) rfl
theorem Jd:Enters Tryz.prog 44:=enters_of Tryz.func44 (by decide +kernel) rfl
theorem FG:Enters Tryz.prog 45:=enters_of Tryz.func45 (by decide +kernel) rfl
theorem FH:Enters Tryz.prog 46:=enters_of Tryz.func46 (by decide +kernel) rfl
theorem Dj:Enters Tryz.prog 47:=enters_of Tryz.func47 (by decide +kernel) rfl
theorem Je:Enters Tryz.prog 48:=enters_of Tryz.func48 (by decide +kernel) rfl
theorem Jf:Enters Tryz.prog 49:=enters_of Tryz.func49 (by decide +kernel) rfl
theorem AG:Enters Tryz.prog 50:=enters_of Tryz.func50 (by decide +kernel) rfl
theorem FI:Enters Tryz.prog 51:=enters_of Tryz.func51 (by decide +kernel) rfl
theorem FJ:Enters Tryz.prog 88:=enters_of Tryz.func88 (by decide +kernel) rfl
theorem Jg:Enters Tryz.prog 89:=enters_of Tryz.func89 (by decide +kernel) rfl
theorem Jh:Enters Tryz.prog 90:=enters_of Tryz.func90 (by decide +kernel) rfl
theorem Ji:Enters Tryz.prog 91:=enters_of Tryz.func91 (by decide +kernel) rfl
theorem mi:Enters Tryz.prog 93:=enters_of Tryz.func93 (by decide +kernel) rfl
theorem Jj:Enters Tryz.prog 94:=enters_of Tryz.func94 (by decide +kernel) rfl
theorem FK:Enters Tryz.prog 95:=enters_of Tryz.func95 (by decide +kernel) rfl
theorem Dk:Enters Tryz.prog 96:=enters_of Tryz.func96 (by decide +kernel) rfl
theorem FL:Enters Tryz.prog 97:=enters_of Tryz.func97 (by decide +kernel) rfl
theorem Jk:Enters Tryz.prog 98:=enters_of Tryz.func98 (by decide +kernel) rfl
theorem FM:Enters Tryz.prog 99:=enters_of Tryz.func99 (by decide +kernel) rfl
theorem BT:Enters Tryz.prog 100:=enters_of Tryz.func100 (by decide +kernel) rfl
theorem FN:Enters Tryz.prog 101:=enters_of Tryz.func101 (by decide +kernel) rfl
theorem qV:Enters Tryz.prog 102:=enters_of Tryz.func102 (by decide +kernel) rfl
theorem xX:Enters Tryz.prog 103:=enters_of Tryz.func103 (by decide +kernel) rfl
theorem FO:Enters Tryz.prog 104:=enters_of Tryz.func104 (by decide +kernel) rfl
theorem BU:Enters Tryz.prog 105:=enters_of Tryz.func105 (by decide +kernel) rfl
theorem qW:Enters Tryz.prog 106:=enters_of Tryz.func106 (by decide +kernel) rfl
theorem en107:Enters Tryz.prog 107:=enters_of Tryz.func107 (by decide +kernel) rfl
theorem BV:Enters Tryz.prog 108:=enters_of Tryz.func108 (by decide +kernel) rfl
theorem FP:Enters Tryz.prog 109:=enters_of Tryz.func109 (by decide +kernel) rfl
theorem BW:Enters Tryz.prog 110:=enters_of Tryz.func110 (by decide +kernel) rfl
theorem FQ:Enters Tryz.prog 111:=enters_of Tryz.func111 (by decide +kernel) rfl
theorem BX:Enters Tryz.prog 112:=enters_of Tryz.func112 (by decide +kernel) rfl
theorem FR:Enters Tryz.prog 119:=enters_of Tryz.func119 (by decide +kernel) rfl
theorem FT:Enters Tryz.prog 138:=enters_of Tryz.func138 (by decide +kernel) rfl
theorem n9:Enters Tryz.prog 155:=enters_of Tryz.func155 (by decide +kernel) rfl
theorem qX:Enters Tryz.prog 156:=enters_of Tryz.func156 (by decide +kernel) rfl
theorem BZ:Enters Tryz.prog 159:=enters_of Tryz.func159 (by decide +kernel) rfl
theorem B0:Enters Tryz.prog 160:=enters_of Tryz.func160 (by decide +kernel) rfl
theorem FU:Enters Tryz.prog 161:=enters_of Tryz.func161 (by decide +kernel) rfl
theorem xY:Enters Tryz.prog 163:=enters_of Tryz.func163 (by decide +kernel) rfl
theorem FV:Enters Tryz.prog 164:=enters_of Tryz.func164 (by decide +kernel) rfl
theorem FW:Enters Tryz.prog 165:=enters_of Tryz.func165 (by decide +kernel) rfl
theorem xZ:Enters Tryz.prog 166:=enters_of Tryz.func166 (by decide +kernel) rfl
theorem x0:Enters Tryz.prog 167:=enters_of Tryz.func167 (by decide +kernel) rfl
theorem B1:Enters Tryz.prog 168:=enters_of Tryz.func168 (by decide +kernel) rfl
theorem FX:Enters Tryz.prog 169:=enters_of Tryz.func169 (by decide +kernel) rfl
theorem FY:Enters Tryz.prog 170:=enters_of Tryz.func170 (by decide +kernel) rfl
theorem B2:Enters Tryz.prog 171:=enters_of Tryz.func171 (by decide +kernel) rfl
theorem x1:Enters Tryz.prog 172:=enters_of Tryz.func172 (by decide +kernel) rfl
theorem FZ:Enters Tryz.prog 173:=enters_of Tryz.func173 (by decide +kernel) rfl
theorem uH:Enters Tryz.prog 174:=enters_of Tryz.func174 (by decide +kernel) rfl
theorem x2:Enters Tryz.prog 195:=enters_of Tryz.func195 (by decide +kernel) rfl
theorem F0:Enters Tryz.prog 201:=enters_of Tryz.func201 (by decide +kernel) rfl
theorem B3:Enters Tryz.prog 212:=enters_of Tryz.func212 (by decide +kernel) rfl
theorem F1:Enters Tryz.prog 213:=enters_of Tryz.func213 (by decide +kernel) rfl
theorem bS:Enters Tryz.prog 214:=enters_of Tryz.func214 (by decide +kernel) rfl
theorem F2:Enters Tryz.prog 215:=enters_of Tryz.func215 (by decide +kernel) rfl
theorem F3:Enters Tryz.prog 216:=enters_of Tryz.func216 (by decide +kernel) rfl
theorem B4:Enters Tryz.prog 217:=enters_of Tryz.func217 (by decide +kernel) rfl
theorem B5:Enters Tryz.prog 218:=enters_of Tryz.func218 (by decide +kernel) rfl
theorem B6:Enters Tryz.prog 260:=enters_of Tryz.func260 (by decide +kernel) rfl
theorem F4:Enters Tryz.prog 261:=enters_of Tryz.func261 (by decide +kernel) rfl
theorem F5:Enters Tryz.prog 262:=enters_of Tryz.func262 (by decide +kernel) rfl
theorem x3:Enters Tryz.prog 287:=enters_of Tryz.func287 (by decide +kernel) rfl
theorem qY:Enters Tryz.prog 288:=enters_of Tryz.func288 (by decide +kernel) rfl
theorem F6:Enters Tryz.prog 289:=enters_of Tryz.func289 (by decide +kernel) rfl
theorem uI:Enters Tryz.prog 300:=enters_of Tryz.func300 (by decide +kernel) rfl
theorem F7:Enters Tryz.prog 301:=enters_of Tryz.func301 (by decide +kernel) rfl
theorem F8:Enters Tryz.prog 304:=enters_of Tryz.func304 (by decide +kernel) rfl
theorem B7:Enters Tryz.prog 305:=enters_of Tryz.func305 (by decide +kernel) rfl
theorem F9:Enters Tryz.prog 306:=enters_of Tryz.func306 (by decide +kernel) rfl
end Go.Proofs.YtfifjddnnmfeoaaGreat
namespace Go.Proofs.YtfifjddnnmfeoaaGreat
open Go Go.RowKit Dv
structure Wd where
 s:ByteArray
 a:Int
structure Hd where
 ai:Int
 dD:Int
 lo:Int
 hi:Int
 most:Int
 af:List Wd
 name:Wd
structure Ph where
 name:Wd
 bare:Bool
 label:List Wd
 wide:Int
 ck:Int
 cn:Int
 ca:Int
 cl:List Wd
mutual
inductive Ty where
 | mk (h:Hd) (ps:Pts)
inductive Pts where
 | nil
 | cons (p:Ph) (t:Ty) (r:Pts)
end
def Ty.h:Ty->Hd | .mk h _=>h
def Ty.ps:Ty->Pts | .mk _ ps=>ps
def Pts.toList:Pts->List (Ph × Ty)
 | .nil=>[]
 | .cons p t r=>(p,t) :: r.toList
def Pts.len:Pts->Nat
 | .nil=>0
 | .cons _ _ r=>r.len + 1
theorem Pts.x4:∀ ps:Pts,ps.len=ps.toList.length
 | .nil=>rfl
 | .cons _ _ r=>by simp [Pts.len,Pts.toList,Pts.x4 r]
def Wd.wt (w:Wd):Nat:=w.s.size + 64
def wdsWt:List Wd->Nat
 | []=>0
 | w :: r=>w.wt + wdsWt r
def Hd.wt (h:Hd):Nat:=256 + wdsWt h.af + h.name.wt
def Ph.wt (p:Ph):Nat:=256 + p.name.wt + wdsWt p.label + wdsWt p.cl
mutual
def Ty.wt:Ty->Nat
 | .mk h ps=>h.wt + ps.wt
def Pts.wt:Pts->Nat
 | .nil=>0
 | .cons p t r=>p.wt + t.wt + r.wt
end
theorem bT:∀ l:List Wd,64 * l.length<=wdsWt l
 | []=>Nat.le_refl _
 | w :: r=>by have:=bT r;simp only [List.length_cons,wdsWt,Wd.wt];omega
theorem ik:∀ {l:List Wd} {w:Wd},w∈l->w.s.size + 64<=wdsWt l
 | x :: r,w,h=>by
  rcases List.mem_cons.1 h with h | h
  ·subst h;simp only [wdsWt,Wd.wt];omega
  ·have:=ik h;simp only [wdsWt];omega
theorem Pts.gL:∀ ps:Pts,256 * ps.len<=ps.wt
 | .nil=>Nat.le_refl _
 | .cons p t r=>by have:=Pts.gL r;simp only [Pts.len,Pts.wt,Ph.wt];omega
theorem Pts.fZ:∀ {ps:Pts} {p:Ph} {t:Ty},(p,t)∈ps.toList->p.wt + t.wt<=ps.wt
 | .cons p t r,q,u,h=>by
  rcases List.mem_cons.1 h with h | h
  ·cases h;simp only [Pts.wt];omega
  ·have:=Pts.fZ h;simp only [Pts.wt];omega
theorem Ty.iS (t:Ty):256<=t.wt:=by
 cases t;simp only [Ty.wt,Hd.wt];omega
def qh (w:Wd):List DV:=[.v (.string w.s),.v (.int .i64 w.a)]
def bL (l:List Wd):List (List DV):=l.map qh
def x5 (p:Ph) (tl:List DV):List DV:=
 .v (.string p.name.s) :: .v (.int .i64 p.name.a) :: .v (.bool p.bare) :: .sl 2 (bL p.label) none :: .v (.int .i64 p.wide) :: .v (.int .i64 p.ck) :: .v (.int .i64 p.cn) :: .v (.int .i64 p.ca) :: .sl 2 (bL p.cl) none :: tl
mutual
def eV:Ty->List DV
 | .mk h ps=>[.v (.int .i64 h.ai),.v (.int .i64 h.dD),.v (.int .i64 h.lo),.v (.int .i64 h.hi),.v (.int .i64 h.most),.sl 2 (bL h.af) none,.sl 18 (dg ps) none,.v (.string h.name.s),.v (.int .i64 h.name.a)]
def dg:Pts->List (List DV)
 | .nil=>[]
 | .cons p t r=>x5 p (eV t) :: dg r
end
theorem aw (l:List Wd):(bL l).length=l.length:=by simp [bL]
theorem aN:∀ ps:Pts,(dg ps).length=ps.len
 | .nil=>by simp [dg,Pts.len]
 | .cons p t r=>by simp [dg,Pts.len,aN r]
theorem bU {l:List Wd} {j:Nat} {w:Wd} (h:l[j]? = some w):(bL l)[j]? = some (qh w):=by simp [bL,h]
theorem vv {l:List Wd} {e:Nat} {x:Wd} (h:l[e]? = some x):bL (l.take e) ++ [qh x]=bL (l.take (e + 1)):=by
 rw [List.take_add_one,h];simp [bL]
theorem cF:∀ {ps:Pts} {j:Nat} {p:Ph} {t:Ty},ps.toList[j]? = some (p,t)->(dg ps)[j]? = some (x5 p (eV t))
 | .nil,j,p,t,h=>by simp [Pts.toList] at h
 | .cons q u r,0,p,t,h=>by
  simp only [Pts.toList,List.getElem?_cons_zero,oI,Prod.mk.injEq] at h;obtain ⟨rfl,rfl⟩:=h;simp [dg]
 | .cons q u r,j + 1,p,t,h=>by
  simp only [Pts.toList,List.getElem?_cons_succ] at h;simp only [dg,List.getElem?_cons_succ];exact cF h
def Pts.drop:Nat->Pts->Pts
 | 0,ps=>ps
 | _ + 1,.nil=>.nil
 | e + 1,.cons _ _ r=>r.drop e
theorem Pts.drop_cons:∀ {e:Nat} {ps:Pts} {p:Ph} {t:Ty},ps.toList[e]? = some (p,t)->ps.drop e = .cons p t (ps.drop (e + 1))
 | 0,.cons q u r,p,t,h=>by
  simp only [Pts.toList,List.getElem?_cons_zero,oI,Prod.mk.injEq] at h;obtain ⟨rfl,rfl⟩:=h;rfl
 | e + 1,.cons q u r,p,t,h=>by
  simp only [Pts.toList,List.getElem?_cons_succ] at h;simp only [Pts.drop];exact Pts.drop_cons h
 | 0,.nil,p,t,h=>by simp [Pts.toList] at h
 | e + 1,.nil,p,t,h=>by simp [Pts.toList] at h
theorem Pts.cR:∀ (ps:Pts),ps.drop ps.len = .nil
 | .nil=>rfl
 | .cons _ _ r=>by simp only [Pts.len,Pts.drop];exact Pts.cR r
theorem Pts.e9 {ps:Pts} {e:Nat} (h:e < ps.len):∃ p t,ps.toList[e]? = some (p,t):=by
 rw [Pts.x4] at h;exact ⟨_,_,gE h⟩
theorem drop_cons {α:Type} {l:List α} {e:Nat} {x:α} (h:l[e]? = some x):l.drop e=x :: l.drop (e + 1):=by
 obtain ⟨h1,h2⟩:=List.getElem?_eq_some_iff.1 h;rw [<- h2];exact List.drop_eq_getElem_cons h1
def aE:ByteArray:=⟨#[]⟩
def x6:Hd:=⟨0,0,0,0,0,[],⟨aE,0⟩⟩
def bl:Ty:=.mk x6 .nil
def cM:Ph:=⟨⟨aE,0⟩,false,[],0,0,0,0,[]⟩
def cS:Ph:=⟨⟨aE,0⟩,true,[],0,0,0,0,[]⟩
theorem ei {e n:Nat} (h:e < n) (hn:n<=4611686018427387904):IntKind.i64.wrap ((e:Int) + 1)=((e + 1:Nat):Int):=by
 rw [IntWalk.i64_in _ ⟨by omega,by omega⟩];omega
theorem wrap64 {n:Int} (h1 : -9223372036854775808<=n) (h2:n<=9223372036854775807):IntKind.i64.wrap n=n:=IntWalk.i64_in n ⟨h1,h2⟩
theorem aD (x a:Bool):pickB x a false=(x && a):=by cases x<;>rfl
theorem aH (x b:Bool):pickB x true b=(x || b):=by cases x<;>rfl
end Go.Proofs.YtfifjddnnmfeoaaGreat
set_option maxRecDepth 100000
namespace Go.Proofs.YtfifjddnnmfeoaaGreat
open Go Go.RowKit Dv Tryz
def isLet (c:Int):Bool:=decide (97<=c) && decide (c<=122)
def ga (c:Int):Bool:=(isLet c || (decide (48<=c) && decide (c<=57))) || decide (c=95)
def signs:List UInt8->Nat
 | []=>0
 | c :: r=>if ga c.toNat=true then signs r + 1 else 0
def dA:List UInt8->Nat
 | []=>0
 | c :: r=>if isLet c.toNat=true then signs r + 1 else 0
def bf (s:ByteArray):Bool:=decide (0 < s.size) && (decide (s.size<=32) && decide (dA s.data.toList=s.size))
theorem qZ {c:Int} (h:isLet c=true):ga c=true:=by simp [ga,h]
theorem q4:∀ l:List UInt8,signs l<=l.length
 | []=>Nat.le_refl _
 | c :: r=>by
  simp only [signs,List.length_cons];split
  ·have:=q4 r;omega
  ·omega
theorem mj {c:UInt8} {r:List UInt8} (h:isLet c.toNat=true):dA (c :: r)=signs (c :: r):=by
 simp [dA,signs,h,qZ h]
theorem oa {s:ByteArray} {k:Nat} (h:k < s.size):∃ c:UInt8,s.data.toList.drop k=c :: s.data.toList.drop (k + 1)/\en s k=c.toNat:=by
 have hk:k < s.data.toList.length:=by simpa using h
 refine ⟨s.data.toList[k],by rw [<- List.drop_eq_getElem_cons hk],?_⟩;simp [en,List.getD_eq_getElem?_getD,gE hk]
theorem x7 {s:ByteArray} {k:Nat} (h:s.size<=k):s.data.toList.drop k=[]:=List.drop_eq_nil_of_le (by simpa using h)
theorem kQ (c:Int):bD Tryz.prog 212 [.v (.int .u8 c)] (.v (.bool (isLet c))):=by
 refine ev_go (P:=Tryz.prog) tt tt_ok 5000 9 [.tmp 2] Tryz.func212 rfl Tryz.ntmps212 rfl (nL rfl) (fun E9 w9 hn9 hm9=>?_);exact (congrArg (fun b=>DV.v (.bool b)) (aD _ _):_=_)
theorem vw (c:Int):bD Tryz.prog 213 [.v (.int .u8 c)] (.v (.bool (ga c))):=by
 refine ev_go (P:=Tryz.prog) tt tt_ok 5000 17 [.tmp 2] Tryz.func213 rfl Tryz.ntmps213 rfl (nL rfl) (fun E9 w9 hn9 hm9=>?_);refine call_p B3 (kQ c) ax rfl ?_;refine (congrArg (fun b=>DV.v (.bool b)) ?_:_=_);simp only [aD,aH,ga]
abbrev sV (s:ByteArray) (i e:Nat):St:=⟨[(5,⟨[],.v (.int .i64 e)⟩),(0,⟨[],.v (.string s)⟩),(1,⟨[],.v (.int .i64 i)⟩)],[],[]⟩
theorem pw (s:ByteArray) (i:Nat):s.extract i (i + 0)=⟨#[]⟩:=by
 apply ByteArray.ext;simp only [Nat.add_zero,ByteArray.extract,ByteArray.copySlice];apply Array.ext';simp
theorem vx (s:ByteArray) (i:Nat) (hi:i < s.size) (hs:s.size<=4611686018427387904):bD Tryz.prog 171 [.v (.string s),.v (.int .i64 i)]
  (.cP [.v (.string (s.extract i (i + dA (s.data.toList.drop i)))),.v (.int .i64 ((i + dA (s.data.toList.drop i):Nat):Int))]):=by
 obtain ⟨c0,vy,ed⟩:=oa hi;refine ev_go (P:=Tryz.prog) tt tt_ok 5000 38 [.tmp 4,.tmp 5] Tryz.func171 rfl Tryz.ntmps171 rfl (nL rfl) (fun E9 w9 hn9 hm9=>?_);refine br (fun h=>?_) (fun _=>?_)
 ·simp [aH] at h;omega
 refine ⟨⟨by omega,by omega⟩,?_⟩;refine call_p B3 (kQ _) ax rfl ?_;refine br (fun h=>?_) (fun h=>?_)
 ·have hl:isLet (c0.toNat:Int)=false:=by
   have:(!isLet ((en s i:Nat):Int))=true:=h;rw [ed] at this;simpa using this
  have hn:dA (s.data.toList.drop i)=0:=by rw [vy];simp [dA,hl]
  rw [hn,pw];exact ⟨_,ax,rfl⟩
 have hl:isLet (c0.toNat:Int)=true:=by
  have:(!isLet ((en s i:Nat):Int))=false:=h;rw [ed] at this;simpa using this
 have hn:dA (s.data.toList.drop i)=signs (s.data.toList.drop i):=by rw [vy];exact mj hl
 rw [hn]
 refine aF (fun j st=>∃ e:Nat,st=sV s i e/\e<=s.size/\i<=e/\e + signs (s.data.toList.drop e)=i + signs (s.data.toList.drop i)/\j=s.size - e)
  (s.size - i) (sV s i i) (aj ⟨_,rfl⟩ wA rfl rfl rfl wB) ⟨i,rfl,by omega,by omega,rfl,rfl⟩ ?_
 rintro j st ⟨e,rfl,he,B8,hinv,rfl⟩;refine br (fun h=>?_) (fun h=>?_)
 ·have av:e < s.size:=by simpa using h
  refine ⟨⟨by omega,by omega⟩,?_⟩;refine call_p F1 (vw _) ax rfl ?_;obtain ⟨c,hd,hb⟩:=oa av;refine br (fun h2=>?_) (fun h2=>?_)
  ·have Jl:ga (c.toNat:Int)=true:=by
    have:ga ((en s e:Nat):Int)=true:=h2
    rwa [hb] at this
   refine ⟨sV s i (e + 1),(aj ⟨_,rfl⟩ wA rfl rfl rfl (pj av)),s.size - (e + 1),by omega,e + 1,rfl,by omega,by omega,?_,rfl⟩;rw [hd] at hinv;simp only [signs,Jl,if_true] at hinv;omega
  ·have Jl:ga (c.toNat:Int)=false:=by
    have:ga ((en s e:Nat):Int)=false:=h2
    rwa [hb] at this
   rw [hd] at hinv;simp only [signs,Jl] at hinv;refine ⟨⟨by omega,by omega,by omega⟩,?_⟩;have:i + signs (s.data.toList.drop i)=e:=by simp at hinv;omega
   rw [this];exact ⟨_,ax,rfl⟩
 ·have ch:e=s.size:=by simp at h;omega
  rw [x7 (by omega)] at hinv;simp only [signs] at hinv;refine ⟨⟨by omega,by omega,by omega⟩,?_⟩;have:i + signs (s.data.toList.drop i)=e:=by omega
  rw [this];exact ⟨_,ax,rfl⟩
theorem take_nil (s:ByteArray) (hs:s.size=0):bD Tryz.prog 171 [.v (.string s),.v (.int .i64 0)] (.cP [.v (.string ⟨#[]⟩),.v (.int .i64 0)]):=by
 refine ev_go (P:=Tryz.prog) tt tt_ok 5000 38 [.tmp 4,.tmp 5] Tryz.func171 rfl Tryz.ntmps171 rfl (nL rfl) (fun E9 w9 hn9 hm9=>?_);refine br (fun _=>?_) (fun h=>?_)
 ·exact ⟨_,ax,rfl⟩
 ·simp [aH,hs] at h
theorem sW (l:List UInt8):dA l<=l.length:=by
 cases l with
 | nil=>exact Nat.le_refl _
 | cons c r=>
  simp only [dA,List.length_cons];split
  ·have:=q4 r;omega
  ·omega
theorem q5 (s:ByteArray):decide (s=⟨#[]⟩)=decide (s.size=0):=by
 rw [Bool.eq_iff_iff];simp only [decide_eq_true_eq];constructor
 ·rintro rfl;rfl
 ·intro h;apply ByteArray.ext;exact Array.eq_empty_of_size_eq_zero h
theorem eD (s:ByteArray) (hs:s.size<=4611686018427387904):bD Tryz.prog 102 [.v (.string s)] (.v (.bool (bf s))):=by
 refine ev_go (P:=Tryz.prog) tt tt_ok 5000 22 [.tmp 2] Tryz.func102 rfl Tryz.ntmps102 rfl (nL rfl) (fun E9 w9 hn9 hm9=>?_);by_cases h0:s.size=0
 ·refine call_p B2 (take_nil s h0) ax rfl ?_;refine (congrArg (fun b=>DV.v (.bool b)) ?_:_=_);simp [aD,bf,q5,h0]
 ·refine call_p B2 (vx s 0 (by omega) hs) ax rfl ?_;refine (congrArg (fun b=>DV.v (.bool b)) ?_:_=_);have hl:=sW s.data.toList;simp only [Array.length_toList,ByteArray.size_data] at hl;simp only [aD,bf,q5,List.drop_zero,Nat.zero_add];rw [Bool.eq_iff_iff];simp only [Bool.and_eq_true,decide_eq_true_eq,Bool.not_eq_true',decide_eq_false_iff_not];omega
def bV (l:List ByteArray):List (List DV):=l.map fun s=>[.v (.string s)]
def dInts (l:List Nat):List (List DV):=l.map fun (i:Nat)=>[.v (.int .i64 (i:Int))]
theorem aX (l:List ByteArray):(bV l).length=l.length:=by simp [bV]
theorem ba (l:List Nat):(dInts l).length=l.length:=by simp [dInts]
theorem cT {l:List ByteArray} {j:Nat} {x:ByteArray} (h:l[j]? = some x):(bV l)[j]? = some [.v (.string x)]:=by simp [bV,h]
theorem cx {l:List Nat} {j:Nat} {x:Nat} (h:l[j]? = some x):(dInts l)[j]? = some [.v (.int .i64 (x:Int))]:=by simp [dInts,h]
abbrev px (g:Nat) (cb:List DV) (i j:Nat):St:=⟨[(1,⟨[],.fn g [] cb⟩),(5,⟨[],.v (.int .i64 i)⟩),(6,⟨[],.v (.int .i64 j)⟩)],[],[]⟩
theorem kR (g:Nat) (iM:Enters Tryz.prog g) (cb:List DV) (n m:Nat) (hn:n<=1099511627776) (hm:m<=n) (hcb:CcL [] 0 0 0 cb cb) (dS:clB.clL 0 0 cb=true)
  (hp:∀ i:Nat,i < n->bD Tryz.prog g (.v (.int .i64 i) :: cb) (.v (.bool (decide (m<=i))))) :
  bD Tryz.prog 159 [.v (.int .i64 n),.fn g [] cb] (.v (.int .i64 m)):=by
 refine ev_go (P:=Tryz.prog) tt tt_ok 5000 26 [.tmp 4] Tryz.func159 rfl Tryz.ntmps159 rfl (nL rfl) (fun E9 w9 hn9 hm9=>?_);have sn:clB 0 0 (.fn g [] cb)=true:=by simp only [clB,Bool.and_eq_true];exact ⟨rfl,dS⟩
 refine aF (fun j st=>∃ a b:Nat,st=px g cb a b/\a<=m/\m<=b/\b<=n/\j=b - a) n (px g cb 0 n) (aj ⟨_,rfl⟩ wA rfl rfl rfl (by repeat' (first | exact trivial | exact ah rfl | exact ah sn | refine ⟨⟨_,rfl,?_⟩,?_⟩))) ⟨0,n,rfl,by omega,by omega,by omega,by omega⟩ ?_;rintro j st ⟨a,b,rfl,h1,h2,h3,rfl⟩;refine br (fun h=>?_) (fun h=>?_)
 ·have av:a < b:=by simpa using h
  have Dl:IntKind.i64.wrap ((IntKind.u64.wrap (IntKind.i64.wrap ((a:Int) + (b:Int)))).fdiv (2 ^ (min ((1:Int).toNat) IntKind.u64.bits)))=(((a + b) / 2:Nat):Int):=by
   rw [wrap64 (n:=(a:Int) + (b:Int)) (by omega) (by omega),IntKind.wrap_u64];have e2:(2:Int) ^ (min ((1:Int).toNat) IntKind.u64.bits)=2:=by decide
   rw [e2,Int.fdiv_eq_ediv_of_nonneg _ (by decide),wrap64 (by omega) (by omega)];omega
  refine ⟨by decide,?_⟩;refine call_p iM (hp ((a + b) / 2) (by omega)) ⟨_,_,rfl,congrArg (fun z=>DV.v (.int .i64 z)) Dl,hcb⟩ rfl ?_;refine br (fun hq=>?_) (fun hq=>?_)
  ·have hq:(a + b) / 2 < m:=by simpa using hq
   have qC:=ei (e:=(a + b) / 2) (n:=n) (by omega) (by omega);rw [<- Dl] at qC;refine ⟨px g cb ((a + b) / 2 + 1) b,(aj ⟨_,rfl⟩ wA rfl rfl rfl (by repeat' (first | exact trivial | exact ah rfl | exact ah sn | exact ap qC | refine ⟨⟨_,rfl,?_⟩,?_⟩))),b - ((a + b) / 2 + 1),by omega,(a + b) / 2 + 1,b,rfl,by omega,by omega,by omega,rfl⟩
  ·have hq:m<=(a + b) / 2:=by simpa using hq
   refine ⟨px g cb a ((a + b) / 2),(aj ⟨_,rfl⟩ wA rfl rfl rfl (by repeat' (first | exact trivial | exact ah rfl | exact ah sn | exact ap Dl | refine ⟨⟨_,rfl,?_⟩,?_⟩))),(a + b) / 2 - a,by omega,a,(a + b) / 2,rfl,by omega,by omega,by omega,rfl⟩
 ·have ch:¬ a < b:=by simpa using h
  have:a=m:=by omega
  subst this;exact (rfl:_=_)
def nE (a b:ByteArray):Bool:=Op.bytesLess a.data.toList b.data.toList
theorem fb:∀ l:List UInt8,Op.bytesLess l l=false
 | []=>rfl
 | a :: r=>by simp [Op.bytesLess,fb r]
theorem eE:∀ {a b:List UInt8},Op.bytesLess a b=true->Op.bytesLess b a=false
 | _,[],h=>by simp [Op.bytesLess] at h
 | [],b :: r,_=>rfl
 | a :: x,b :: y,h=>by
  simp only [Op.bytesLess,Bool.or_eq_true,decide_eq_true_eq,Bool.and_eq_true,beq_iff_eq] at h;simp only [Op.bytesLess,Bool.or_eq_false_iff,decide_eq_false_iff_not,Bool.and_eq_false_imp,beq_iff_eq];rcases h with h | ⟨rfl,h⟩
  ·refine ⟨fun h2=>?_,fun h2=>?_⟩
   ·exact absurd (UInt8.lt_trans h h2) (UInt8.lt_irrefl _)
   ·subst h2;exact absurd h (UInt8.lt_irrefl _)
  ·exact ⟨UInt8.lt_irrefl _,fun _=>eE h⟩
structure di (L:List ByteArray) (ak:List Nat):Prop where
 lt:∀ (i p:Nat),ak[i]? = some p->p < L.length
 Jm:∀ (i j p q:Nat) (s t:ByteArray),i < j->ak[i]? = some p->ak[j]? = some q->L[p]? = some s->L[q]? = some t->nE s t=true
 fst:∀ (i p j:Nat) (s:ByteArray),ak[i]? = some p->L[p]? = some s->L[j]? = some s->p<=j
 all:∀ (j:Nat) (s:ByteArray),L[j]? = some s->∃ i p:Nat,ak[i]? = some p/\L[p]? = some s
abbrev bA (L:List ByteArray) (ak:List Nat):List DV:=[.sl 1 (bV L) none,.sl 1 (dInts ak) none]
theorem ml (L:List ByteArray) (ak:List Nat) (s:ByteArray) (i p:Nat) (t:ByteArray) (hi:ak[i]? = some p) (hp:L[p]? = some t) :
  bD Tryz.prog 160 [.v (.int .i64 i),.pt [.pt (bA L ak) 0] 0,.pt [.v (.string s)] 0] (.v (.bool (!nE t s))):=by
 refine ev_go (P:=Tryz.prog) tt tt_ok 5000 20 [.tmp 4] Tryz.func160 rfl Tryz.ntmps160 rfl (nL rfl) (fun E9 w9 hn9 hm9=>?_);refine cw (fun _=>false) mo (by decide +kernel) ?_;refine ⟨_,⟨by omega,cx hi⟩,?_⟩;refine ⟨_,⟨by omega,cT hp⟩,?_⟩;exact (rfl:_=_)
theorem find_spec (L:List ByteArray) (ak:List Nat) (s:ByteArray) (q p:Nat) (hT:di L ak) (hl:ak.length<=1099511627776) (hq:ak[q]? = some p) (hp:L[p]? = some s) :
  bD Tryz.prog 93 [.pt (bA L ak) 0,.v (.string s)] (.cP [.v (.int .i64 p),.v (.bool true)]):=by
 have hqlt:=(gS hq).1;refine ev_go (P:=Tryz.prog) tt tt_ok 5000 47 [.tmp 4,.tmp 5] Tryz.func93 rfl Tryz.ntmps93 rfl (nL rfl) (fun E9 w9 hn9 hm9=>?_)
 have dS:∀ i:Nat,i < ak.length->bD Tryz.prog 160 [.v (.int .i64 i),.pt [.pt (bA L ak) 0] 0,.pt [.v (.string s)] 0] (.v (.bool (decide (q<=i)))):=by
  intro i hi;obtain ⟨p',jC⟩:∃ p',ak[i]? = some p':=⟨_,gE hi⟩;obtain ⟨t,ht⟩:∃ t,L[p']? = some t:=⟨_,gE (hT.lt i p' jC)⟩;have:=ml L ak s i p' t jC ht
  have e:(!nE t s)=decide (q<=i):=by
   rcases Nat.lt_trichotomy i q with h | h | h
   ·rw [hT.Jm i q p' p t s h jC hq ht hp];simp;omega
   ·subst h;rw [hq] at jC;simp only [oI] at jC;subst jC;rw [hp] at ht;simp only [oI] at ht;subst ht;rw [nE,fb];simp
   ·have h2:=hT.Jm q i p p' s t h hq jC hp ht;rw [nE,eE h2];simp;omega
  rw [e] at this;exact this
 have hS:=kR 160 B0 [.pt [.pt (bA L ak) 0] 0,.pt [.v (.string s)] 0] ak.length q hl (by omega) ax rfl dS;refine pv BZ hS (by repeat' (first | exact rfl | exact trivial | exact Or.inr (Or.inl ⟨_,rfl⟩) | exact Or.inr ⟨_,rfl⟩ | exact Or.inl ⟨rfl,rfl⟩ | exact Or.inl rfl | refine Or.inr ⟨_,_,rfl,Nat.zero_le _,rfl,?_⟩ | refine ⟨_,_,rfl,?_,?_⟩ | refine ⟨_,rfl,?_⟩ | exact congrArg (fun z=>DV.v (.int .i64 z)) (congrArg Nat.cast (ba ak)) | refine Or.inr (Or.inr (Or.inr ⟨_,_,rfl,?_⟩)) | exact Or.inl rfl | refine Or.inr ?_)) rfl ?_;refine cw (fun _=>false) mo (by decide +kernel) ?_;refine br (fun h=>?_) (fun h=>?_)
 ·refine ⟨_,⟨by omega,cx hq⟩,?_⟩;refine ⟨_,⟨by omega,cT hp⟩,?_⟩;refine br (fun h2=>?_) (fun h2=>?_)
  ·exfalso;simp [aH,ba] at h2
  ·refine ⟨_,⟨by omega,cx hq⟩,?_⟩;exact ⟨_,ax,rfl⟩
 ·exfalso;have:decide ((q:Int)=((dInts ak).length:Int))=true:=by simpa using h
  simp [ba] at this;omega
end Go.Proofs.YtfifjddnnmfeoaaGreat
set_option maxRecDepth 100000
namespace Go.Proofs
open Go.Shelf
def Tryz.laysGg6_ren:Go.Shelf.Ren:=⟨fun | 6=>161 | 10=>207 | 11=>208 | 12=>209 | 13=>210 | 14=>211 | 24=>250 | 25=>251 | 26=>252 | 27=>253 | 28=>254 | 29=>255 | 30=>256 | 31=>257 | 32=>258 | 33=>259 | 34=>282 | 35=>283 | 36=>284 | 37=>285 | 38=>286 | 39=>299 | n=>n,fun | 20=>20 | 26=>173 | 35=>299 | 0=>0 | 37=>301 | 3=>3 | 41=>221 | 44=>306 | 49=>278 | 51=>212 | 4=>4 | 54=>334 | 53=>333 | 58=>105 | 5=>5 | 9=>9 | 60=>355 | 64=>359 | 66=>368 | 67=>49 | 17=>17 | 32=>296 | 33=>297 | 82=>383 | 12=>12 | 75=>377 | 76=>378 | 77=>379 | 78=>241 | 79=>380 | 80=>381 | n=>n,fun | n=>n⟩
theorem Tryz.laysGg6:Go.Proofs.LaysGg.n6 Tryz.prog Tryz.laysGg6_ren:={
 mixed:=by kernel_rfl
 f6:=Tryz.func161.trans (congrArg some (by kernel_rfl))
 f10:=Tryz.func207.trans (congrArg some (by kernel_rfl))
 f11:=Tryz.func208.trans (congrArg some (by kernel_rfl))
 f12:=Tryz.func209.trans (congrArg some (by kernel_rfl))
 f13:=Tryz.func210.trans (congrArg some (by kernel_rfl))
 f14:=Tryz.func211.trans (congrArg some (by kernel_rfl))
 f24:=Tryz.func250.trans (congrArg some (by kernel_rfl))
 f25:=Tryz.func251.trans (congrArg some (by kernel_rfl))
 f26:=Tryz.func252.trans (congrArg some (by kernel_rfl))
 f27:=Tryz.func253.trans (congrArg some (by kernel_rfl))
 f28:=Tryz.func254.trans (congrArg some (by kernel_rfl))
 f29:=Tryz.func255.trans (congrArg some (by kernel_rfl))
 f30:=Tryz.func256.trans (congrArg some (by kernel_rfl))
 f31:=Tryz.func257.trans (congrArg some (by kernel_rfl))
 f32:=Tryz.func258.trans (congrArg some (by kernel_rfl))
 f33:=Tryz.func259.trans (congrArg some (by kernel_rfl))
 f34:=Tryz.func282.trans (congrArg some (by kernel_rfl))
 f35:=Tryz.func283.trans (congrArg some (by kernel_rfl))
 f36:=Tryz.func284.trans (congrArg some (by kernel_rfl))
 f37:=Tryz.func285.trans (congrArg some (by kernel_rfl))
 f38:=Tryz.func286.trans (congrArg some (by kernel_rfl))
 f39:=Tryz.func299.trans (congrArg some (by kernel_rfl))
 t0:=Tryz.underlying0
 a0:=Tryz.isAgg0
 z0:=Tryz.sizeOf0
 v0:=Tryz.zeroValue0
 i0:=by kernel_rfl
 t3:=Tryz.underlying3
 a3:=Tryz.isAgg3
 z3:=Tryz.sizeOf3
 v3:=Tryz.zeroValue3
 i3:=by kernel_rfl
 t4:=Tryz.underlying4
 a4:=Tryz.isAgg4
 z4:=Tryz.sizeOf4
 v4:=Tryz.zeroValue4
 i4:=by kernel_rfl
 t5:=Tryz.underlying5
 a5:=Tryz.isAgg5
 z5:=Tryz.sizeOf5
 v5:=Tryz.zeroValue5
 i5:=by kernel_rfl
 t9:=Tryz.underlying9
 a9:=Tryz.isAgg9
 z9:=Tryz.sizeOf9
 v9:=Tryz.zeroValue9
 i9:=by kernel_rfl
 t12:=Tryz.underlying12
 a12:=Tryz.isAgg12
 z12:=Tryz.sizeOf12
 v12:=Tryz.zeroValue12
 i12:=by kernel_rfl
 t17:=Tryz.underlying17
 a17:=Tryz.isAgg17
 z17:=Tryz.sizeOf17
 v17:=Tryz.zeroValue17
 i17:=by kernel_rfl
 t20:=Tryz.underlying20
 a20:=Tryz.isAgg20
 z20:=Tryz.sizeOf20
 v20:=Tryz.zeroValue20
 i20:=by kernel_rfl
 t26:=Tryz.underlying173
 a26:=Tryz.isAgg173
 z26:=Tryz.sizeOf173
 v26:=Tryz.zeroValue173
 i26:=by kernel_rfl
 t32:=Tryz.underlying296
 a32:=Tryz.isAgg296
 z32:=Tryz.sizeOf296
 v32:=Tryz.zeroValue296
 i32:=by kernel_rfl
 t33:=Tryz.underlying297
 a33:=Tryz.isAgg297
 z33:=Tryz.sizeOf297
 v33:=Tryz.zeroValue297
 i33:=by kernel_rfl
 t35:=Tryz.underlying299
 a35:=Tryz.isAgg299
 z35:=Tryz.sizeOf299
 v35:=Tryz.zeroValue299
 i35:=by kernel_rfl
 t37:=Tryz.underlying301
 a37:=Tryz.isAgg301
 z37:=Tryz.sizeOf301
 v37:=Tryz.zeroValue301
 i37:=by kernel_rfl
 t41:=Tryz.underlying221
 a41:=Tryz.isAgg221
 z41:=Tryz.sizeOf221
 v41:=Tryz.zeroValue221
 i41:=by kernel_rfl
 t44:=Tryz.underlying306
 a44:=Tryz.isAgg306
 z44:=Tryz.sizeOf306
 v44:=Tryz.zeroValue306
 i44:=by kernel_rfl
 t49:=Tryz.underlying278
 a49:=Tryz.isAgg278
 z49:=Tryz.sizeOf278
 v49:=Tryz.zeroValue278
 i49:=by kernel_rfl
 t51:=Tryz.underlying212
 a51:=Tryz.isAgg212
 z51:=Tryz.sizeOf212
 v51:=Tryz.zeroValue212
 i51:=by kernel_rfl
 t53:=Tryz.underlying333
 a53:=Tryz.isAgg333
 z53:=Tryz.sizeOf333
 v53:=Tryz.zeroValue333
 i53:=by kernel_rfl
 t54:=Tryz.underlying334
 a54:=Tryz.isAgg334
 z54:=Tryz.sizeOf334
 v54:=Tryz.zeroValue334
 i54:=by kernel_rfl
 t58:=Tryz.underlying105
 a58:=Tryz.isAgg105
 z58:=Tryz.sizeOf105
 v58:=Tryz.zeroValue105
 i58:=by kernel_rfl
 t60:=Tryz.underlying355
 a60:=Tryz.isAgg355
 z60:=Tryz.sizeOf355
 v60:=Tryz.zeroValue355
 i60:=by kernel_rfl
 t64:=Tryz.underlying359
 a64:=Tryz.isAgg359
 z64:=Tryz.sizeOf359
 v64:=Tryz.zeroValue359
 i64:=by kernel_rfl
 t66:=Tryz.underlying368
 a66:=Tryz.isAgg368
 z66:=Tryz.sizeOf368
 v66:=Tryz.zeroValue368
 i66:=by kernel_rfl
 t67:=Tryz.underlying49
 a67:=Tryz.isAgg49
 z67:=Tryz.sizeOf49
 v67:=Tryz.zeroValue49
 i67:=by kernel_rfl
 t75:=Tryz.underlying377
 a75:=Tryz.isAgg377
 z75:=Tryz.sizeOf377
 v75:=Tryz.zeroValue377
 i75:=by kernel_rfl
 t76:=Tryz.underlying378
 a76:=Tryz.isAgg378
 z76:=Tryz.sizeOf378
 v76:=Tryz.zeroValue378
 i76:=by kernel_rfl
 t77:=Tryz.underlying379
 a77:=Tryz.isAgg379
 z77:=Tryz.sizeOf379
 v77:=Tryz.zeroValue379
 i77:=by kernel_rfl
 t78:=Tryz.underlying241
 a78:=Tryz.isAgg241
 z78:=Tryz.sizeOf241
 v78:=Tryz.zeroValue241
 i78:=by kernel_rfl
 t79:=Tryz.underlying380
 a79:=Tryz.isAgg380
 z79:=Tryz.sizeOf380
 v79:=Tryz.zeroValue380
 i79:=by kernel_rfl
 t80:=Tryz.underlying381
 a80:=Tryz.isAgg381
 z80:=Tryz.sizeOf381
 v80:=Tryz.zeroValue381
 i80:=by kernel_rfl
 t82:=Tryz.underlying383
 a82:=Tryz.isAgg383
 z82:=Tryz.sizeOf383
 v82:=Tryz.zeroValue383
 i82:=by kernel_rfl }
end Go.Proofs
namespace Go.Proofs.YtfifjddnnmfeoaaGreat
open Go Go.RowKit Go.Lib Go.Sort Tryz
noncomputable def Jn:TypeInfo:=(Tryz.prog.info? 28).get (by kernel_rfl)
noncomputable def Ep:TypeInfo:=(Tryz.prog.info? 3).get (by kernel_rfl)
theorem siK (n:Nat) (h2:2<=n):Lib.swapperK n Ep 2=5:=by
 have a:Ep.hasPointers=false:=by kernel_rfl
 have b:Ep.bytes=8:=by kernel_rfl
 have c:(n == 0)=false:=by simp;omega
 have d:(n == 1)=false:=by simp;omega
 simp [Lib.swapperK,a,b,c,d]
theorem x8 {α:Type} [Inhabited α] (enc:α->Value) (h1:∀ x,(enc x).oneCell'=true) {lt:α->α->Bool} (hO:SWO lt) (lb:Array Value) (sf c:Nat) (d:Array α) (h2:2<=d.size) (bQ:d.size < 4611686018427387904) (w:World)
  (x9:LessReads Tryz.prog 162 lb enc lt sf 0 d.size w) (hH:Holds enc w sf 0 d) (Jo:sf < w.heap.size) :
  Calls Tryz.prog 161 #[.iface 28 (.slice (some ⟨sf,0,none⟩) d.size c),.func (.func 162) #[] lb] w fun e w'=>
   e = .returned (.tuple #[])/\∃ d' n os,PermIn 0 d.size d d' /\ SortedIn lt 0 d.size d' /\ w'=grow (putRow enc (Sort.ahead w n) sf 0 d') os:=
 Any.sort_Slice_sorted Tryz.laysGg6 28 3 Jn Ep (by kernel_rfl) (by kernel_rfl) (by kernel_rfl) (by kernel_rfl) 2 (fun _=>by kernel_rfl) (by kernel_rfl) (fun _=>by kernel_rfl) enc h1 lt hO 162 lb
  (enters_of Tryz.func162 (by kernel_rfl) rfl) sf 0 c d h2 bQ 245 (by rw [siK _ h2];kernel_rfl) true
  (fun args W=>run_callFunc_extern Tryz.func245 (by kernel_rfl) (by kernel_rfl) (by kernel_rfl) (e:=Extern.ReflectliteSwapper.swap true) (by kernel_rfl) args W) w x9 hH Jo
theorem vz (lb:Array Value) (p:Option Addr) (n c:Nat) (h1:n<=1) (w:World) :
  Calls Tryz.prog 161 #[.iface 28 (.slice p n c),.func (.func 162) #[] lb] w fun e w'=>e = .returned (.tuple #[])/\∃ os,w'=grow w os:=by
 have h:n=0∨n=1:=by omega
 rcases h with rfl | rfl
 ·exact Any.sort_Slice_tiny Tryz.laysGg6 28 3 Jn Ep (by kernel_rfl) (by kernel_rfl) (by kernel_rfl) (by kernel_rfl) 2 (fun _=>by kernel_rfl) p 0 c h1 241 (by kernel_rfl) _ _ _ w
 ·exact Any.sort_Slice_tiny Tryz.laysGg6 28 3 Jn Ep (by kernel_rfl) (by kernel_rfl) (by kernel_rfl) (by kernel_rfl) 2 (fun _=>by kernel_rfl) p 1 c h1 242 (by kernel_rfl) _ _ _ w
end Go.Proofs.YtfifjddnnmfeoaaGreat
set_option maxRecDepth 100000
namespace Go.Proofs.YtfifjddnnmfeoaaGreat
open Go Go.RowKit Dv Tryz
theorem iC:∀ {a b:List UInt8},Op.bytesLess a b=false->a=b∨Op.bytesLess b a=true
 | [],[],_=>.inl rfl
 | a :: x,[],_=>.inr rfl
 | [],b :: r,h=>by simp [Op.bytesLess] at h
 | a :: x,b :: y,h=>by
  simp only [Op.bytesLess,Bool.or_eq_false_iff,decide_eq_false_iff_not,Bool.and_eq_false_imp,beq_iff_eq] at h;simp only [Op.bytesLess,Bool.or_eq_true,decide_eq_true_eq,Bool.and_eq_true,beq_iff_eq];by_cases qg:a=b
  ·subst qg;rcases iC (h.2 rfl) with h2 | h2
   ·exact .inl (by rw [h2])
   ·exact .inr (.inr ⟨rfl,h2⟩)
  ·refine .inr (.inl ?_);rcases UInt8.lt_or_lt_of_ne qg with h3 | h3
   ·exact absurd h3 h.1
   ·exact h3
theorem cJ:∀ {a b c:List UInt8},Op.bytesLess a b=true->Op.bytesLess b c=true->Op.bytesLess a c=true
 | _,[],_,h,_=>by simp [Op.bytesLess] at h
 | _,_ :: _,[],_,h=>by simp [Op.bytesLess] at h
 | [],b :: y,c :: z,_,_=>rfl
 | a :: x,b :: y,c :: z,h1,h2=>by
  simp only [Op.bytesLess,Bool.or_eq_true,decide_eq_true_eq,Bool.and_eq_true,beq_iff_eq] at h1 h2 ⊢;rcases h1 with h1 | ⟨rfl,h1⟩
  ·rcases h2 with h2 | ⟨rfl,h2⟩
   ·exact .inl (UInt8.lt_trans h1 h2)
   ·exact .inl h1
  ·rcases h2 with h2 | ⟨rfl,h2⟩
   ·exact .inl h2
   ·exact .inr ⟨rfl,cJ h1 h2⟩
theorem uJ {s t:ByteArray} (h:nE s t=false):s=t∨nE t s=true:=by
 rcases iC h with h | h
 ·exact .inl (ByteArray.ext (Array.ext' h))
 ·exact .inr h
def qi (L:List ByteArray) (p q:Nat):Bool:=
 if L.getD p aE=L.getD q aE then decide (p < q) else nE (L.getD p aE) (L.getD q aE)
theorem AH (L:List ByteArray):Sort.SWO (qi L):=by
 have K2:∀ x,qi L x x=false:=fun x=>by simp [qi]
 have tr:∀ x y z,qi L x y=true->qi L y z=true->qi L x z=true:=by
  intro x y z h1 h2;unfold qi at *;generalize L.getD x aE=a at *;generalize L.getD y aE=b at *;generalize L.getD z aE=c at *;by_cases qg:a=b
  ·subst qg;rw [if_pos rfl] at h1;by_cases Ga:a=c
   ·rw [if_pos Ga] at h2 ⊢;simp at h1 h2 ⊢;omega
   ·rw [if_neg Ga] at h2 ⊢;exact h2
  ·rw [if_neg qg] at h1;by_cases Ga:b=c
   ·subst Ga;rw [if_neg qg];exact h1
   ·rw [if_neg Ga] at h2
    have hac:a≠c:=by
     rintro rfl;have:=eE h1;rw [nE,this] at h2;cases h2
    rw [if_neg hac];exact cJ h1 h2
 have K3:∀ x y,qi L x y=false->x=y∨qi L y x=true:=by
  intro x y h;unfold qi at *;by_cases qg:L.getD x aE=L.getD y aE
  ·rw [if_pos qg] at h;rw [if_pos qg.symm];simp at h ⊢;omega
  ·rw [if_neg qg] at h;rw [if_neg (fun e=>qg e.symm)];rcases uJ h with h | h
   ·exact absurd h qg
   ·exact .inr h
 refine ⟨K2,tr,fun x y z h1 h2=>?_⟩;rcases K3 x y h1 with rfl | h3
 ·exact h2
 ·rcases K3 y z h2 with rfl | h4
  ·exact h1
  ·cases h5:qi L x z
   ·rfl
   ·have:=tr _ _ _ (tr _ _ _ h4 h3) h5;rw [K2] at this;cases this
theorem vA (L:List ByteArray) (d:List Nat) (i j p q:Nat) (hi:d[i]? = some p) (hj:d[j]? = some q) (hp:p < L.length) (hq:q < L.length) :
  KV Tryz.prog 162 [.v (.int .i64 i),.v (.int .i64 j),.pt [.sl 1 (dInts d) none] 0,.pt [.pt [.sl 1 (bV L) none,.v (.slice none 0 0)] 0] 0] [] [] (fun r _ _=>r = .v (.bool (qi L p q))):=by
 obtain ⟨s,hs⟩:∃ s,L[p]? = some s:=⟨_,gE hp⟩;obtain ⟨t,ht⟩:∃ t,L[q]? = some t:=⟨_,gE hq⟩
 have e:qi L p q=if s=t then decide (p < q) else nE s t:=by
  simp [qi,List.getD_eq_getElem?_getD,hs,ht]
 refine xK (s:=true) (P:=Tryz.prog) tt tt_ok 5000 50 [.tmp 6] Tryz.func162 rfl Tryz.ntmps162 rfl (nL rfl) (fun E9 w9 hn9 hm9=>?_);refine cw (fun _=>false) mo (by decide +kernel) ?_;refine ⟨_,⟨by omega,cx hi⟩,?_⟩;refine ⟨_,⟨by omega,cx hj⟩,?_⟩;refine cw (fun _=>false) mo (by decide +kernel) ?_;refine ⟨_,⟨by omega,cT hs⟩,?_⟩;refine ⟨_,⟨by omega,cT ht⟩,?_⟩;refine br (fun h=>?_) (fun h=>?_)
 ·have aT:s≠t:=by simpa using h
  refine cw (fun _=>false) mo (by decide +kernel) ?_;refine ⟨_,⟨by omega,cT hs⟩,?_⟩;refine ⟨_,⟨by omega,cT ht⟩,?_⟩;refine (congrArg (fun b=>DV.v (.bool b)) ?_:_=_);rw [e,if_neg aT];rfl
 ·have bd:s=t:=by simpa using h
  refine (congrArg (fun b=>DV.v (.bool b)) ?_:_=_);rw [e,if_pos bd];simp
abbrev ya (p:Nat):Value:=.int .i64 (p:Int)
theorem q6 {E:En}:∀ {ds:List Nat} {arr:List Value},RvL E (dInts ds).flatten arr->arr=ds.map ya
 | [],arr,h=>by simpa [dInts,RvL] using h
 | x :: r,arr,h=>by
  simp only [dInts,List.map_cons,List.flatten_cons,List.cons_append,List.nil_append,RvL] at h;obtain ⟨v,s,rfl,h1,h2⟩:=h;unfold Rv at h1;rw [h1.1,q6 (ds:=r) h2];rfl
theorem mn {E:En}:∀ ds:List Nat,RvC E (dInts ds).flatten (ds.map ya)
 | []=>⟨bn E,by simp⟩
 | x :: r=>by
  have ih:=mn (E:=E) r;refine ⟨?_,?_⟩
  ·simp only [dInts,List.map_cons,List.flatten_cons,List.cons_append,List.nil_append];exact rvL_cons (cD rfl) ih.1
  ·intro v hv;simp only [List.map_cons,List.mem_cons] at hv;rcases hv with rfl | hv
   ·rfl
   ·exact ih.2 v hv
theorem Gb {m:Nat}:∀ ds:List Nat,(∀ p∈ds,p < m + 1)->∃ D:List (Fin (m + 1)),D.map (·.val)=ds
 | [],_=>⟨[],rfl⟩
 | x :: r,h=>by
  obtain ⟨D,hD⟩:=Gb r fun p hp=>h p (List.mem_cons_of_mem _ hp);exact ⟨⟨x,h x (by simp)⟩ :: D,by simp [hD]⟩
theorem mq {α:Type} [Inhabited α] (enc:α->Value) (w:World) (b n:Nat) (dk:Array α) (os:Array Obj) (arr:List Value) (ty:TypeId) (hw:w.heap[b]? = some (.cells arr.toArray ty (0,0))) (hl:arr.length=dk.size) :
  ∀ k,k < w.heap.size->(Sort.grow (Sort.putRow enc (Sort.ahead w n) b 0 dk) os).heap[k]? = (World.bP w b (.cells (dk.toList.map enc).toArray ty (0,0))).heap[k]?:=by
 intro k hk;simp only [Sort.grow,Sort.putRow,Sort.mapBlock,Sort.ahead];rw [Array.getElem?_append_left (by simpa using hk),Array.getElem?_modify];by_cases Jp:b=k
 ·subst Jp;rw [if_pos rfl,hw,dC hw];simp only [Option.map_some,Sort.onCells,oI,Obj.cells.injEq,and_true];apply Array.ext_getElem?;intro j;simp only [Sort.putCells,Array.getElem?_mapIdx];rcases Nat.lt_or_ge j dk.size with hj | hj
  ·have h1:j < arr.length:=by omega
   simp [h1,hj]
  ·have h1:arr.length<=j:=by omega
   simp [h1,hj]
 ·rw [if_neg Jp,bH (Ne.symm Jp)]
theorem yb {α:Type} {l:List α} {i:Nat} {x:α} (h:l[i]? = some x):l.set i x=l:=by
 apply List.ext_getElem?;intro j;by_cases hj:j=i
 ·subst hj;rw [List.getElem?_set_self (gS h).1,h]
 ·rw [List.getElem?_set_ne (Ne.symm hj)]
theorem vB {X:Ctx} {st:St} {k:List It} (hP:X.P=Tryz.prog) {i c len:Nat} {ds:List Nat} (hlen:len=ds.length) {Jq:List DV} {d:Nat} (N:Nat) (hN:∀ p∈ds,p < N) (lt:Nat->Nat->Bool) (hO:Sort.SWO lt)
  (l4:st.bx[i]? = some (dInts ds).flatten) (hn:ds.length<=1099511627776) (K4:List Nat->List DV) (AJ:∀ dk:List Nat,dk.length=ds.length->CcL (st.bx.set i (dInts dk).flatten) 0 0 0 (K4 dk) Jq)
  (x9:∀ dk:List Nat,dk.length=ds.length->(∀ p∈dk,p < N)->∀ i j p q:Nat,dk[i]? = some p->dk[j]? = some q->KV Tryz.prog 162 (.v (.int .i64 i) :: .v (.int .i64 j) :: K4 dk) [] [] (fun r _ _=>r = .v (.bool (lt p q))))
  (hd:dm X.nt st.sl (some d)=true)
  (hk:∀ Dm:List Nat,Dm.Perm ds->(∀ i j p q:Nat,i < j->Dm[i]? = some p->Dm[j]? = some q->lt q p=false)->go X 4000 k ⟨(d,⟨[],.cP []⟩) :: st.sl,st.bx.set i (dInts Dm).flatten,st.tk⟩)
  (a7:X.still=false:=by exact rfl) (hX:X.bt=[]:=by exact rfl):dh X 161 [.kJ 28 (.ms i 1 0 len c),.fn 162 [] Jq] (some d) k st:=by
 subst hlen;refine ⟨?_,a7,fun E a w vs h hv=>?_⟩
 ·rw [hP];exact FU
 rw [hP];simp only [RvL] at hv;obtain ⟨v1,_,rfl,h1,v2,_,rfl,h2,rfl⟩:=hv;unfold Rv at h1;obtain ⟨z,rfl,h1⟩:=h1;unfold Rv at h1;obtain ⟨b,ad,hb,HD,rfl,hca⟩:=h1;unfold Rv at h2;obtain ⟨l,r,rfl,hl,hr⟩:=h2;simp only [RvL] at hl;subst hl;obtain ⟨b',ty,arr,cI,hw,sm⟩:=h.env.cr i _ l4;rw [hb] at cI;simp only [oI] at cI;subst cI;have yc:=q6 sm.1;have De:=bB hw;by_cases h1:ds.length<=1
 ·refine (vz r.toArray ad ds.length c h1 w).mono ?_;rintro e w' ⟨rfl,os,rfl⟩
  have hh:∀ j,j < w.heap.size->(Sort.grow w os).heap[j]? = w.heap[j]?:=fun j hj=>by
   simp only [Sort.grow];rw [Array.getElem?_append_left hj]
  have bg:Rel X E st a (Sort.grow w os):=bO h (Ext.refl E) (h.env.ew hh) h.tk h.nw (h.fr.bh rfl rfl rfl (by simp [Sort.grow]) fun j hj=>.inr (hh j hj)) (jx a7) (.nil hX);have vn:=hk ds (List.Perm.refl _) (fun i j p q gv _ hj=>by have:=(gS hj).1;omega);rw [yb l4] at vn;exact go_sound 4000 _ _ vn E _ _ (aP bg hd (.cP []) (.tuple #[]) (by unfold Rv;exact ⟨[],rfl,bn E⟩))
 ·have h2:2<=ds.length:=by omega
  have E6:=hca (by omega);subst E6
  obtain ⟨m,rfl⟩:∃ m,N=m + 1:=by
   cases HE:ds with
   | nil=>rw [HE] at h2;simp at h2
   | cons x r=>have:=hN x (by rw [HE];simp);exact ⟨N - 1,by omega⟩
  obtain ⟨D,hD⟩:=Gb ds hN;have B9:D.length=ds.length:=by rw [<- hD];simp
  let enc:Fin (m + 1)->Value:=fun x=>ya x.val
  have hO':Sort.SWO (fun x y:Fin (m + 1)=>lt x.val y.val):=⟨fun x=>hO.irrefl _,fun x y z=>hO.trans _ _ _,fun x y z=>hO.ntrans _ _ _⟩;have Gc:∀ l:List (Fin (m + 1)),l.map enc=(l.map (·.val)).map ya:=fun l=>by simp [enc]
  have hS:=x8 enc (fun _=>rfl) hO' r.toArray b c D.toArray (by simpa [B9] using h2) (by simp [B9];omega) w ?_ ?_ De
  ·simp only [List.size_toArray,B9] at hS;refine hS.mono ?_;rintro e w' ⟨rfl,d',n,os,hp,hs,rfl⟩;have bQ:d'.size=ds.length:=by have:=hp.1;simpa [B9] using this
   have iD:(d'.toList.map (·.val)).Perm ds:=by
    have h3:=hp.2.2;have e1:d'.extract 0 ds.length=d':=Array.extract_eq_self_of_le (by omega);have e2:D.toArray.extract 0 ds.length=D.toArray:=Array.extract_eq_self_of_le (by simp [B9]);rw [e1,e2] at h3;rw [<- hD];exact h3.map _
   have vC:∀ i j p q:Nat,i < j->(d'.toList.map (·.val))[i]? = some p->(d'.toList.map (·.val))[j]? = some q->lt q p=false:=by
    intro i j p q gv hi hj;have nQ:j < d'.size:=by have:=(gS hj).1;simpa using this
    have h3:=hs i j (Nat.zero_le _) gv (by omega);rw [getElem!_pos d' j nQ,getElem!_pos d' i (by omega)] at h3;have Gd:i < d'.size:=by omega
    simp [Gd] at hi;simp [nQ] at hj;rw [<- hi,<- hj];exact h3
   have hh:=mq enc w b n d' os arr ty hw (by rw [yc];simp [bQ]);have cq:=kb (ty:=ty) h a7 hb (cs':=(dInts (d'.toList.map (·.val))).flatten) (arr':=(d'.toList.map (·.val)).map ya) (mn _) ⟨_,hw⟩;rw [<- Gc] at cq;have lP:(Sort.grow (Sort.putRow enc (Sort.ahead w n) b 0 d') os).heap.size=w.heap.size + os.size:=by simp [Sort.grow,Sort.putRow,Sort.mapBlock,Sort.ahead]
   have bg:=bO cq (Ext.refl E) (w':=Sort.grow (Sort.putRow enc (Sort.ahead w n) b 0 d') os) (cq.env.ew fun j hj=>hh j (by rwa [cN] at hj)) cq.tk cq.nw
    (cq.fr.bh rfl rfl rfl (by rw [cN,lP];omega) fun j hj=>.inr (hh j (by rwa [cN] at hj))) (jx a7) (.nil hX)
   exact go_sound 4000 _ _ (hk _ iD vC) E _ _ (aP bg hd (.cP []) (.tuple #[]) (by unfold Rv;exact ⟨[],rfl,bn E⟩))
  ·intro mm os dk hs i' j' hi hj;have bQ:dk.size=ds.length:=by simpa [B9] using hs
   have hh:=mq enc w b mm dk os arr ty hw (by rw [yc];simp [bQ]);have hE:=h.env.set hb De (ty:=ty) (mn (E:=E) (dk.toList.map (·.val)));rw [<- Gc] at hE;have Jr:=hE.ew (w':=Go.Proofs.sortWorld enc w b 0 mm dk os) fun j hj=>hh j (by rwa [cN] at hj);have Gd:i' < dk.size:=by rw [bQ,<- B9];simpa using hi
   have nQ:j' < dk.size:=by rw [bQ,<- B9];simpa using hj
   have K5:(dk.toList.map (·.val)).length=ds.length:=by simpa using bQ
   have hc:=x9 (dk.toList.map (·.val)) K5 (fun p hp=>by
    obtain ⟨x,_,rfl⟩:=List.mem_map.1 hp
    exact x.isLt) i' j' (dk[i']!).val (dk[j']!).val (by rw [getElem!_pos dk i' Gd];simp [Gd]) (by rw [getElem!_pos dk j' nQ];simp [nQ])
   have hv:RvL E (.v (.int .i64 (i':Int)) :: .v (.int .i64 (j':Int)) :: Jq) (.int .i64 (i':Int) :: .int .i64 (j':Int) :: r):=rvL_cons (cD rfl) (rvL_cons (cD rfl) hr);have hb:=ee Jr hc ⟨_,_,rfl,rfl,_,_,rfl,rfl,AJ _ K5⟩ hv;have hargs:(#[Value.int .i64 (i':Int),Value.int .i64 (j':Int)] ++ r.toArray)=(Value.int .i64 (i':Int) :: Value.int .i64 (j':Int) :: r).toArray:=by simp
   rw [hargs];refine hb.mono ?_;rintro e w' ⟨v,E2,rfl,Ca,_,um⟩;have:=aO Ca;subst this;exact ⟨rfl,um rfl⟩
  ·intro j hj;have nQ:j < D.length:=by simpa using hj
   rw [bu hw,Nat.zero_add,yc];refine ⟨?_,?_⟩
   ·rw [getElem!_pos D.toArray j hj,<- hD];simp [nQ,enc]
   ·simp [World.frozen?,hw]
end Go.Proofs.YtfifjddnnmfeoaaGreat
