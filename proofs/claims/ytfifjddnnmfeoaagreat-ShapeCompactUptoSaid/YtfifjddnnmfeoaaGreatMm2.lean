/- Part 2 of the proof: The evaluator 'go' is sound: the end of a call, the theorem; contracts; rules for branches, calls, loops; Rules for the evaluator: what is known made less, loops; A region that draws its order: where the operations with an effect are ordered among themselves, and what writes waits for all that reads, one run in the order of the text serves every order; The evaluator at regions that draw their order: one run in the order of the text; what is read is what was known at the region's beginning; A region that draws its order, in which two operations with an effect are not ordered: the run in either order of these two serves every order; Rules for the evaluator: a call that is handed the caller's own objects, to read them; Rules for the evaluator: objects that are written no more are frozen, ahead of a loop; Rules for the evaluator: a call that is handed one of the caller's objects, to write it; The table of this program's types, by which the evaluator goes; The program's functions are entered; The data of the document's types, plain, and as the evaluator has them; Names: the program's and the reference's functions say the same of a text; sort.Search; the program's table of texts: Find; The library's sort.Slice, laid at this program by the kit's tool (lay-plain; wip/tools/lay.sh); The order of the table; the closure handed to sort.Slice. No condition. -/
import Derived.Test.YtfifjddnnmfeoaaGreatProg
import Derived.Shelf.GgSortFunc.Whole
import Derived.Shelf.GgSortFunc.Tiny
import Derived.Test.YtfifjddnnmfeoaaGreatMm1
set_option linter.all false
namespace Go.Proofs.YtfifjddnnmfeoaaGreat
namespace Dv
open Go Go.RowKit
structure Jx (E E':En) (bx:List (List DV)) (N:Nat):Prop where
 c:∀ a v,E.c a=some v->E'.c a=some v
 fz:∀ (i:Nat) cs,N<=i->bx[i]? = some cs->∃ b arr,E.β[i]? = some b/\RvC E cs arr/\∀ (j:Nat) u,arr[j]? = some u->E'.c ⟨b,j,none⟩=some u
theorem Jx.cl {E E':En} {bx:List (List DV)} {N:Nat} (h:Jx E E' bx N):Jx E E'.cl bx N:=⟨h.c,h.fz⟩
structure HC (E E':En) (n0 m0:Nat):Prop where
 β:∀ (i:Nat) b,i < n0->E.β[i]? = some b->E'.β[i]? = some b
 tk:∀ k,k < m0->E'.tk[k]? = E.tk[k]? /\ E'.τ[k]? = E.τ[k]?
theorem HC.zero (E E':En):HC E E' 0 0:=⟨fun _ _ h=>absurd h (Nat.not_lt_zero _),fun _ h=>absurd h (Nat.not_lt_zero _)⟩
theorem Ext.N5 (E:En):Ext E.cl E:=⟨fun _ _ h=>h,fun j b hj=>by simp [En.cl] at hj,fun k q hk=>by simp [En.cl] at hk⟩
theorem AF {E E':En} (hm:∀ e b o es,RvEs E.cl e b o es->RvEs E'.cl e b o es):∀ {l:List DV} {arr:List Value},(∀ x∈l,(∃ y,x = .v y)∨∃ e' Ab,x = .sl e' Ab none)->RvL E l arr->RvL E' l arr
 | [],arr,_,h=>by simp only [RvL] at h ⊢;exact h
 | d :: r,arr,hs,h=>by
  simp only [RvL] at h ⊢;obtain ⟨v,s,rfl,h1,h2⟩:=h;refine ⟨v,s,rfl,?_,AF hm (fun x hx=>hs x (List.mem_cons_of_mem _ hx)) h2⟩;rcases hs d (by simp) with ⟨y,rfl⟩ | ⟨e',Ab,rfl⟩
  ·unfold Rv at h1 ⊢;exact h1
  ·unfold Rv at h1 ⊢;obtain ⟨b,n,cap,h3,h4,h5,_⟩:=h1;exact ⟨b,n,cap,h3,h4,fun hn=>⟨(h5 hn).1,hm _ _ _ _ (h5 hn).2⟩,fun k hk=>by cases hk⟩
theorem CcL.length {bx:List (List DV)} {N n0 m0:Nat}:∀ {l' l:List DV},CcL bx N n0 m0 l' l->l'.length=l.length
 | [],l,h=>by simp only [CcL] at h;subst h;rfl
 | d' :: r',l,h=>by
  simp only [CcL] at h;obtain ⟨d,r,rfl,_,h2⟩:=h;simp [CcL.length h2]
theorem CcE.length {bx:List (List DV)} {N:Nat}:∀ {l' l:List (List DV)},CcE bx N l' l->l'.length=l.length
 | [],l,h=>by simp only [CcE] at h;subst h;rfl
 | d' :: r',l,h=>by
  simp only [CcE] at h;obtain ⟨d,r,rfl,_,h2⟩:=h;simp [CcE.length h2]
mutual
theorem Cc.sound {bx:List (List DV)} {N:Nat} {E:En}:∀ {d':DV} {E':En} {n0 m0:Nat} {d:DV} {v:Value},Jx E E' bx N->HC E E' n0 m0->Cc bx N n0 m0 d' d->Rv E d v->Rv E' d' v
 | .v y,E',n0,m0,d,v,hf,hl,h,hv=>by
  simp only [Cc] at h;subst h;unfold Rv at hv ⊢;exact hv
 | .ud,E',n0,m0,d,v,hf,hl,h,hv=>by
  simp only [Cc] at h;subst h;unfold Rv at hv ⊢;exact hv
 | .agg l',E',n0,m0,d,v,hf,hl,h,hv=>by
  simp only [Cc] at h;obtain ⟨l,rfl,h⟩:=h;unfold Rv at hv ⊢;obtain ⟨vs,h1,h2,h3⟩:=hv;exact ⟨vs,h1,CcL.sound hf hl h h2,h3⟩
 | .tup l',E',n0,m0,d,v,hf,hl,h,hv=>by
  simp only [Cc] at h;obtain ⟨l,rfl,h⟩:=h;unfold Rv at hv ⊢;obtain ⟨vs,h1,h2⟩:=hv;exact ⟨vs,h1,CcL.sound hf hl h h2⟩
 | .sl e es tk,E',n0,m0,d,v,hf,hl,h,hv=>by
  have hm:∀ b o,RvEs E.cl e b o es->RvEs E'.cl e b o es:=fun b o hr=>RvEs.mono (Ext.FR hf.c) hr
  cases tk with
  | none=>
   simp only [Cc] at h;rcases h with ⟨rfl,rfl⟩ | ⟨bR,rfl⟩ | ⟨i,off,c,cs,rfl,hi,cm,J3,j1,C5⟩ | ⟨Yh,bR,rfl,h⟩
   ·have:=aY hv;subst this;unfold Rv;exact ⟨none,0,0,rfl,⟨rfl,Nat.le_refl _⟩,fun hn=>(hn rfl).elim,fun k hk=>by cases hk⟩
   ·unfold Rv at hv ⊢;obtain ⟨b,n,cap,h1,h2,h3,_⟩:=hv;exact ⟨b,n,cap,h1,h2,fun hn=>⟨(h3 hn).1,hm _ _ (h3 hn).2⟩,fun k hk=>by cases hk⟩
   ·obtain ⟨b,arr,hb,hc,hmm⟩:=hf.fz i cs hi cm;unfold Rv at hv ⊢;obtain ⟨b',ad,dG,TI,rfl,hca⟩:=hv;rw [hb] at dG;simp only [oI] at dG;subst dG;refine ⟨ad,es.length,c,rfl,⟨rfl,TI⟩,fun hn=>?_,fun k hk=>by cases hk⟩;have jM:0 < es.length:=List.length_pos_iff.2 hn;have UD:=hca (by omega);subst UD;refine ⟨rfl,?_⟩;have h1:=(hc.drop off).take (es.length * e);rw [<- J3] at h1;refine rvEs_flat ⟨AF (E':=E'.cl) (fun e b o es hr=>(RvEs.mono (Ext.FR hf.c) hr:RvEs E'.cl e b o es)) C5 h1.1,h1.2⟩ j1 fun j u hj=>?_;rw [List.getElem?_take] at hj;split at hj
    ·rw [List.getElem?_drop] at hj;exact hmm (off + j) u hj
    ·cases hj
   ·have hlen:=CcE.length h;have hs:=fun b o=>CcE.sound (e:=e) (b:=b) (o:=o) hf h;unfold Rv at hv ⊢;obtain ⟨b,n,cap,h1,h2,h3,_⟩:=hv;refine ⟨b,n,cap,h1,by omega,fun hn=>?_,fun k hk=>by cases hk⟩;have jr:Yh ≠ []:=fun hc=>hn (List.eq_nil_of_length_eq_zero (by rw [hlen,hc];rfl));exact ⟨(h3 jr).1,hs _ _ (h3 jr).2⟩
  | some k=>
   simp only [Cc] at h;obtain ⟨hk,rfl⟩:=h;unfold Rv at hv ⊢;obtain ⟨b,n,cap,h1,h2,h3,h4⟩:=hv;refine ⟨b,n,cap,h1,h2,fun hn=>⟨(h3 hn).1,hm _ _ (h3 hn).2⟩,fun k' fI=>?_⟩;cases fI;obtain ⟨e1,e2⟩:=hl.tk k hk;obtain ⟨q,h5,h6,h7⟩:=h4 k rfl;exact ⟨q,by rw [e1];exact h5,h6,fun hh=>by rw [e2];exact h7 hh⟩
 | .pt cs' o,E',n0,m0,d,v,hf,hl,h,hv=>by
  simp only [Cc] at h;rcases h with rfl | ⟨i,cs,rfl,hi,cm,h⟩
  ·unfold Rv at hv ⊢;obtain ⟨b,p,h1,h2⟩:=hv;exact ⟨b,p,h1,RvAt.mono (Ext.FR hf.c) h2⟩
  ·obtain ⟨b,arr,hb,hc,hm⟩:=hf.fz i cs hi cm;unfold Rv at hv ⊢;obtain ⟨b',dG,rfl⟩:=hv;rw [hb] at dG;simp only [oI] at dG;subst dG;refine ⟨b,0,by simp,?_⟩;have:=CcL.sound hf.cl (HC.zero E E'.cl) h hc.1;exact yu ⟨this,hc.2⟩ fun j u hj=>by rw [Nat.zero_add];exact hm j u hj
 | .loc i o,E',n0,m0,d,v,hf,hl,h,hv=>by
  simp only [Cc] at h;obtain ⟨hi,rfl⟩:=h;unfold Rv at hv ⊢;obtain ⟨b,hb,h1⟩:=hv;exact ⟨b,hl.β i b hi hb,h1⟩
 | .el i o,E',n0,m0,d,v,hf,hl,h,hv=>by
  simp only [Cc] at h;obtain ⟨hi,rfl⟩:=h;unfold Rv at hv ⊢;obtain ⟨b,hb,h1⟩:=hv;exact ⟨b,hl.β i b hi hb,h1⟩
 | .ms i e o l c,E',n0,m0,d,v,hf,hl,h,hv=>by
  simp only [Cc] at h;obtain ⟨hi,rfl⟩:=h;unfold Rv at hv ⊢;obtain ⟨b,ad,hb,h1⟩:=hv;exact ⟨b,ad,hl.β i b hi hb,h1⟩
 | .fn f a' b',E',n0,m0,d,v,hf,hl,h,hv=>by
  simp only [Cc] at h;obtain ⟨a,b,rfl,ha,hb⟩:=h;unfold Rv at hv ⊢;obtain ⟨l,r,h1,h2,h3⟩:=hv;exact ⟨l,r,h1,CcL.sound hf hl ha h2,CcL.sound hf hl hb h3⟩
 | .re t x',E',n0,m0,d,v,hf,hl,h,hv=>by
  simp only [Cc] at h;obtain ⟨x,rfl,hx⟩:=h;unfold Rv at hv ⊢;obtain ⟨z,h1,h2⟩:=hv;exact ⟨z,h1,Cc.sound hf hl hx h2⟩
theorem CcL.sound {bx:List (List DV)} {N:Nat} {E:En}:∀ {l':List DV} {E':En} {n0 m0:Nat} {l:List DV} {vs:List Value},Jx E E' bx N->HC E E' n0 m0->CcL bx N n0 m0 l' l->RvL E l vs->RvL E' l' vs
 | [],E',n0,m0,l,vs,hf,hl,h,hv=>by
  simp only [CcL] at h;subst h;simp only [RvL] at hv ⊢;exact hv
 | d' :: r',E',n0,m0,l,vs,hf,hl,h,hv=>by
  simp only [CcL] at h;obtain ⟨d,r,rfl,h1,h2⟩:=h;simp only [RvL] at hv ⊢;obtain ⟨v,s,h3,h4,h5⟩:=hv;exact ⟨v,s,h3,Cc.sound hf hl h1 h4,CcL.sound hf hl h2 h5⟩
theorem CcA.sound {bx:List (List DV)} {N:Nat} {E:En}:∀ {l':List DV} {E':En} {l:List DV} {b p:Nat},Jx E E' bx N->CcL bx N 0 0 l' l->RvAt E.cl b p l->RvAt E'.cl b p l'
 | [],E',l,b,p,hf,h,hv=>by simp only [RvAt]
 | d' :: r',E',l,b,p,hf,h,hv=>by
  simp only [CcL] at h;obtain ⟨d,r,rfl,h1,h2⟩:=h;simp only [RvAt] at hv ⊢;obtain ⟨⟨v,h3,h4,h5⟩,h6⟩:=hv;exact ⟨⟨v,hf.c _ _ h3,h4,Cc.sound hf.cl (HC.zero E E'.cl) h1 (Rv.mono (Ext.N5 E) h5)⟩,CcA.sound hf h2 h6⟩
theorem CcE.sound {bx:List (List DV)} {N:Nat} {E:En}:∀ {l':List (List DV)} {E':En} {l:List (List DV)} {e b o:Nat},Jx E E' bx N->CcE bx N l' l->RvEs E.cl e b o l->RvEs E'.cl e b o l'
 | [],E',l,e,b,o,hf,h,hv=>by simp only [RvEs]
 | a' :: r',E',l,e,b,o,hf,h,hv=>by
  simp only [CcE] at h;obtain ⟨a,r,rfl,h1,h2⟩:=h;simp only [RvEs] at hv ⊢;obtain ⟨h3,h4,h5⟩:=hv;refine ⟨?_,?_,CcE.sound hf h2 h5⟩
  ·rcases h1 with rfl | h1
   ·exact h3
   ·rw [CcL.length h1];exact h3
  ·rcases h1 with rfl | h1
   ·exact RvAt.mono (Ext.FR hf.c) h4
   ·exact CcA.sound hf h1 h4
end
theorem PK {E:En} {e:Nat} {es Ab:List (List DV)} {tk:Option Nat} {v:Value} (h:CcE [] 0 Ab es) (hv:Rv E (.sl e es tk) v):Rv E (.sl e Ab tk) v:=by
 have hlen:=CcE.length h;have hs:=fun b o=>CcE.sound (E:=E) (E':=E) (bx:=[]) (N:=0) (e:=e) (b:=b) (o:=o) ⟨fun _ _ h=>h,fun i cs _ hi=>by simp at hi⟩ h;unfold Rv at hv ⊢;obtain ⟨b,n,cap,h1,h2,h3,h4⟩:=hv;refine ⟨b,n,cap,h1,by omega,fun hn=>?_,h4⟩;have jr:es ≠ []:=fun hc=>hn (List.eq_nil_of_length_eq_zero (by rw [hlen,hc];rfl));exact ⟨(h3 jr).1,hs _ _ (h3 jr).2⟩
theorem kx.get {bx:List (List DV)} {N n0 m0:Nat}:∀ {l' l:List (List DV)},kx bx N n0 m0 l' l->l'.length=l.length/\∀ (i:Nat) cs',l'[i]? = some cs' -> ∃ cs,l[i]? = some cs/\CcL bx N n0 m0 cs' cs
 | [],l,h=>by simp only [kx] at h;subst h;exact ⟨rfl,by simp⟩
 | a' :: r',l,h=>by
  simp only [kx] at h;obtain ⟨a,r,rfl,h1,h2⟩:=h;obtain ⟨h3,h4⟩:=kx.get h2;refine ⟨by simp [h3],fun i cs' hi=>?_⟩
  cases i with
  | zero=>simp only [List.getElem?_cons_zero,oI] at hi;subst hi;exact ⟨a,rfl,h1⟩
  | succ i=>simp only [List.getElem?_cons_succ] at hi ⊢;exact h4 i cs' hi
open Classical in
noncomputable def qb (E:En) (n:Nat) (w:World):Addr->Option Value:=
 fun a=>if ∃ i:Nat,n<=i/\E.β[i]? = some a.block then w.cell? a else E.c a
section
variable {X:Ctx} {E:En} {st:St} {a:Act} {w:World}
theorem dM {n:Nat} {x:Addr} {v:Value} (h:qb E n w x=some v):((∃ i:Nat,n<=i/\E.β[i]? = some x.block)/\w.cell? x=some v)∨E.c x=some v:=by
 unfold qb at h;split at h
 ·rename_i hc;exact .inl ⟨hc,h⟩
 ·exact .inr h
theorem kF {bx:List (List DV)} (h:Env E bx w) {n:Nat} {x:Addr} {v:Value} (hx:E.c x=some v):qb E n w x=some v:=by
 unfold qb;split
 ·exact h.sub x v hx
 ·exact hx
theorem yB (h:Rel X E st a w) {d d':DV} {os:List (List DV)} {v:Value} (hv:Rv E d v) (M:Nat) (hM:(X.fr=false/\M=X.m0)∨(X.fr=true/\M=st.tk.length)) (hd:Cc st.bx X.n0 X.n0 M d' d) (vT:kx st.bx X.n0 X.n0 M os (st.bx.take X.n0)) (hΦ:X.Φ d' os (st.tk.take M)):Ar X.still X.E0 X.w0 X.Φ v w X.fr:=by
 obtain ⟨r,N6,Yn⟩:=h.nw.β;have fF:E.β.take X.n0=X.E0.β:=by rw [N6,<- X.jr];simp
 have im:∀ (i:Nat) b,i < X.n0->E.β[i]? = some b->X.E0.β[i]? = some b:=fun i b hi hb=>by
  rw [<- fF,List.getElem?_take,if_pos hi];exact hb
 have dH:∀ (i:Nat) b,X.n0<=i->E.β[i]? = some b->b∈r:=fun i b hi hb=>by
  rw [N6,List.getElem?_append_right (by rw [X.jr];exact hi)] at hb;exact mG hb
 have Rw:∀ b,b∈X.E0.β->b∈r->False:=fun b h1 h2=>by
  have:=h.env.inj;rw [N6] at this;exact (List.nodup_append.1 this).2.2 b h1 b h2 rfl
 have hE0l:X.E0.τ.length=X.m0:=by rw [h.nw.l0,X.jx]
 have hEt:X.m0<=E.tk.length:=by
  rcases Nat.lt_or_ge E.tk.length X.m0 with h1 | h1
  ·have hk:E.tk.length < X.E0.tk.length:=by rw [X.jx];exact h1
   have fI:E.tk.length < X.E0.τ.length:=by rw [h.nw.l0];exact hk
   obtain ⟨q',y',h2,_⟩:=h.nw.tk E.tk.length _ _ (gE hk) (gE fI);have:=(gS h2).1;omega
  ·exact h1
 have hMm:X.m0<=M/\M<=E.tk.length:=by
  rcases hM with ⟨_,rfl⟩ | ⟨_,rfl⟩
  ·exact ⟨Nat.le_refl _,hEt⟩
  ·rw [<- h.tk];exact ⟨hEt,Nat.le_refl _⟩
 have TO:tkL X.fr (E.tk.take M).length X.E0.tk.length:=by
  rw [List.length_take];rcases hM with ⟨hf,rfl⟩ | ⟨hf,rfl⟩
  ·rw [hf];show min _ _=_;rw [X.jx];omega
  ·rw [hf];show _<=min _ _;rw [X.jx];omega
 let E':En:=⟨qb E X.n0 w,X.E0.β,E.tk.take M,E.τ.take M⟩
 have J4:Jx E E' st.bx X.n0:={
  c:=fun x u hx=>kF h.env hx
  fz:=fun i cs hi cm=>by
   obtain ⟨b,ty,arr,hb,hw,hc⟩:=h.env.dW i cs cm;refine ⟨b,arr,hb,hc,fun j u hj=>?_⟩;show qb E X.n0 w ⟨b,j,none⟩=some u;unfold qb;rw [if_pos ⟨i,hi,hb⟩,bY hw]
   simpa using hj }
 have vV:HC E E' X.n0 M:={
  β:=im
  tk:=fun k hk=>⟨by show (E.tk.take M)[k]? = _;rw [List.getElem?_take,if_pos hk],by show (E.τ.take M)[k]? = _;rw [List.getElem?_take,if_pos hk]⟩ }
 obtain ⟨jN,UJ⟩:=vT.get;refine ⟨h.fr,h.sh,d',os,E',?_,rfl,TO,?_,hd.sound J4 vV hv,by show X.Φ d' os (E.tk.take M);rw [h.tk];exact hΦ⟩
 ·exact {
   len:=by
    show X.E0.β.length=os.length;rw [jN,X.jr,List.length_take]
    have:X.n0<=st.bx.length:=by
     rw [<- h.env.len,N6,List.length_append,X.jr];omega
    omega
   tl:=by simp only [E',List.length_take];rw [h.env.tl]
   dW:=fun i cs' hi=>by
    obtain ⟨cs,cm,vM⟩:=UJ i cs' hi;rw [List.getElem?_take] at cm;split at cm
    ·rename_i al;obtain ⟨b,ty,arr,hb,hw,hc⟩:=h.env.dW i cs cm;exact ⟨b,ty,arr,im i b al hb,hw,CcL.sound J4 vV vM hc.1,hc.2⟩
    ·cases cm
   inj:=by rw [<- fF];exact h.env.inj.sublist (List.take_sublist _ _)
   sub:=fun x u hx=>by
    rcases dM hx with ⟨_,h1⟩ | h1
    ·exact h1
    ·exact h.env.sub x u h1
   pc:=fun x u hx hm=>by
    rcases dM hx with ⟨⟨i,hi,hb⟩,_⟩ | h1
    ·exact Rw _ hm (dH i _ hi hb)
    ·refine h.env.pc x u h1 ?_;rw [N6];exact List.mem_append.2 (.inl hm)
   cD:=fun k q y hq hy=>by
    simp only [E',List.getElem?_take] at hq hy;split at hq
    ·rename_i hk;rw [if_pos hk] at hy;rcases h.env.cD k q y hq hy with h1 | ⟨g,cap,cur,rfl,h1,h2,h3,h4,h5,h6⟩
     ·exact .inl h1
     ·refine .inr ⟨g,cap,cur,rfl,h1,⟨h2.1,h2.2.mono fun _ _ hx=>kF h.env hx⟩,h3,h4,fun hm=>h5 (by rw [N6];exact List.mem_append.2 (.inl hm)),fun x u hx hg=>?_⟩;rcases dM hx with ⟨⟨i,hi,hb⟩,_⟩ | h7
      ·rw [hg] at hb;exact (h5 (mG hb)).elim
      ·exact h6 x u h7 hg
    ·cases hq
   iy:=fun k k' y y' g Ad hy gf=>by
    simp only [E',List.getElem?_take] at hy gf;split at hy
    ·split at gf
     ·exact h.env.iy k k' y y' g Ad hy gf
     ·cases gf
    ·cases hy }
 ·exact {
   c:=fun x u hx=>kF h.env (h.nw.c x u hx)
   cn:=fun x u hx=>by
    rcases dM hx with ⟨⟨i,hi,hb⟩,_⟩ | h1
    ·exact .inr (.inl (Yn _ (dH i _ hi hb)))
    ·exact h.nw.cn x u h1
   β:=⟨[],by simp [E'],by simp⟩
   tk:=fun k q y hq hy=>by
    obtain ⟨q',y',h1,h2,h3⟩:=h.nw.tk k q y hq hy;have hk:k < X.m0:=by rw [<- X.jx];exact (gS hq).1
    exact ⟨q',y',by show (E.tk.take M)[k]? = _;rw [List.getElem?_take,if_pos (by omega)];exact h1,by show (E.τ.take M)[k]? = _;rw [List.getElem?_take,if_pos (by omega)];exact h2,h3⟩
   tn:=fun k y g hk hy hg=>by
    simp only [E',List.getElem?_take] at hy;split at hy
    ·exact h.nw.tn k y g hk hy hg
    ·cases hy
   l0:=h.nw.l0 }
def resOf (tmps:Array Value):ResultVar->Sem Value
 | .tmp t=>pure (tmps.getD t undef)
 | .cell x t=>do loadVar t (<- asAddr (tmps.getD x undef))
theorem Dl (fn:Func) (tmps:Array Value):results fn tmps=(do let vs <- fn.results.mapM (resOf tmps);pure (if h:vs.size=1 then vs[0] else .tuple vs)):=by
 unfold results;congr 2
theorem Dm (h:Rel X E st a w) {r:ResultVar} {d:DV} (hr:res1 X.T st r=some d):∃ v,Rv E d v/\(resOf a.tmps r).run X.P w = .ok v w:=by
 cases r with
 | tmp t=>
  simp only [res1] at hr;split at hr
  ·rename_i x hg;simp only [oI] at hr;subst hr;obtain ⟨v,h1,h2⟩:=(h.tm t _ hg).1 (aW _);exact ⟨v,h2,by simp [resOf,Array.getD_eq_getD_getElem?,h1]⟩
  ·cases hr
 | cell x t=>
  simp only [res1] at hr;split at hr
  ·rename_i i off hg;split at hr
   ·rename_i cs cm;obtain ⟨v,h1,h2⟩:=(h.tm x _ hg).1 (aW _);unfold Rv at h2;obtain ⟨b,hb,rfl⟩:=h2;obtain ⟨b',Dd,arr,dG,hw,hc⟩:=h.env.dW i cs cm;rw [hb] at dG;simp only [oI] at dG;subst dG;obtain ⟨v,hv,hl⟩:=ky X.hT hc (b:=b) (p:=0) hr;have hl:=hl w fun j u hj=>by rw [bY hw];simpa using hj
    rw [Nat.zero_add] at hl;exact ⟨v,hv,by simp only [resOf,Array.getD_eq_getD_getElem?,h1,Option.getD_some,asAddr,Sem.run_bind,Sem.run_pure,Result.andThen_ok,hl]⟩
   ·cases hr
  ·cases hr
theorem kG (h:Rel X E st a w):∀ {rs:List ResultVar} {ds:List DV},resD X.T st rs=some ds->∃ vs,RvL E ds vs/\(rs.mapM (resOf a.tmps)).run X.P w = .ok vs w
 | [],ds,hr=>by
  simp only [resD,oI] at hr;subst hr;exact ⟨[],bZ E,rfl⟩
 | r :: rs,ds,hr=>by
  simp only [resD] at hr;split at hr
  ·rename_i d l hd hl;simp only [oI] at hr;subst hr;obtain ⟨v,hv,h1⟩:=Dm h hd;obtain ⟨vs,vU,h2⟩:=kG h hl;refine ⟨v :: vs,rvL_cons hv vU,?_⟩;simp only [List.mapM_cons,Sem.run_bind,h1,Result.andThen_ok,h2,Sem.run_pure]
  ·cases hr
theorem nG (h:Rel X E st a w) {d:DV} {v:Value} (hv:Rv E d v) (hf:finD X st d):Ar X.still X.E0 X.w0 X.Φ v w X.fr:=by
 unfold finD at hf;split at hf
 ·rename_i Yo;obtain ⟨d',os,hd,vT,hΦ⟩:=hf;exact yB h hv st.tk.length (.inr ⟨Yo,rfl⟩) hd vT (by rw [List.take_length];exact hΦ)
 ·rename_i Yo;split at hf
  ·rename_i hn hm
   have key:∀ d',Cc st.bx 0 0 0 d' d->X.Φ d' [] []->Ar X.still X.E0 X.w0 X.Φ v w X.fr:=fun d' hd hΦ=>
    yB h hv (d':=d') (os:=[]) X.m0 (.inl ⟨Yo,rfl⟩) (by rw [hn,hm];exact hd) (by rw [hn];simp [kx]) (by rw [hm];exact hΦ)
   split at hf
   ·rename_i x;exact key (.v x) (by simp only [Cc]) hf
   ·obtain ⟨d',hd,hΦ⟩:=hf;exact key d' hd hΦ
  ·obtain ⟨d',os,hd,vT,hΦ⟩:=hf;exact yB h hv X.m0 (.inl ⟨Yo,rfl⟩) hd vT hΦ
theorem wO (h:Rel X E st a w) (hf:fin X st):kq X [] .ret a w:=by
 have Ag:X.fn.results=X.rs.toArray:=by rw [<- X.yr]
 simp only [kq];refine ⟨h.df,?_⟩
 have hbt:mX X.bt X.E0.β w:=fun p hp b hb=>by
  obtain ⟨r,hr,_⟩:=h.nw.β;exact h.bt p hp b (by rw [hr,List.getElem?_append_left (gS hb).1];exact hb)
 unfold fin at hf
 have J5:∀ (ds:List DV) (vs:List Value),(X.rs.mapM (resOf a.tmps)).run X.P w = .ok vs w->(results X.fn a.tmps).run X.P w = .ok (if h:vs.toArray.size=1 then vs.toArray[0] else .tuple vs.toArray) w:=by
  intro ds vs hv;rw [Dl,Ag];simp only [List.mapM_toArray,Sem.run_bind,Sem.run_map,hv];rfl
 split at hf
 ·rename_i hr;obtain ⟨vs,vU,h1⟩:=kG h hr;simp only [RvL] at vU;subst vU;exact ⟨_,J5 [] [] h1,nG h (v:=.tuple #[]) (by unfold Rv;exact ⟨[],rfl,bZ E⟩) hf,hbt⟩
 ·rename_i d hr;obtain ⟨vs,vU,h1⟩:=kG h hr;have hl:=vU.length;simp only [RvL] at vU;obtain ⟨v,s,rfl,hv,rfl⟩:=vU;exact ⟨_,J5 [d] [v] h1,nG h (v:=v) hv hf,hbt⟩
 ·rename_i d e l hr;obtain ⟨vs,vU,h1⟩:=kG h hr;have hl:=vU.length;have aR:¬ vs.toArray.size=1:=by simp at hl ⊢;omega
  have h2:=J5 [] vs h1;rw [dif_neg aR] at h2;exact ⟨_,h2,nG h (v:=.tuple vs.toArray) (by unfold Rv;exact ⟨vs,rfl,vU⟩) hf,hbt⟩
 ·exact hf.elim
theorem tf:∀ (k:List It) (a:Act) (w:World),kq X [] .ret a w->kq X k .ret a w
 | [],_,_,h=>h
 | .code _ :: k,a,w,h=>tf k a w h
 | .ops _ _ :: k,a,w,h=>tf k a w h
 | .C3 _ :: k,a,w,h=>tf k a w h
 | .Jq _ :: k,a,w,h=>tf k a w h
theorem oC {id:Nat}:∀ (k k':List It) (a:Act) (w:World),dropBlk id k=some k' -> kq X k' .normal a w->kq X k (.exit id) a w
 | [],k',a,w,hd,_=>by simp [dropBlk] at hd
 | .code _ :: k,k',a,w,hd,h=>by simp only [dropBlk] at hd;exact oC k k' a w hd h
 | .ops _ _ :: k,k',a,w,hd,h=>by simp only [dropBlk] at hd;exact oC k k' a w hd h
 | .Jq _ :: k,k',a,w,hd,h=>by simp only [dropBlk] at hd;exact oC k k' a w hd h
 | .C3 i :: k,k',a,w,hd,h=>by
  simp only [dropBlk] at hd;split at hd
  ·rename_i hi;have hi:id=i:=by simpa using hi
   simp only [oI] at hd;subst hd;simp only [kq];rw [if_pos hi];exact h
  ·rename_i hi
   have hi:id≠i:=by
    rintro rfl;rw [Nat.beq_refl] at hi;cases hi
   simp only [kq];rw [if_neg hi];exact oC k k' a w hd h
theorem HE {P:Program} {o:Oper} {a:Act} {K K':Act->World->Prop} {Q Q':Exit->Act->World->Prop} (hK:∀ a w,K a w->K' a w) (hQ:∀ e a w,Q e a w->Q' e a w)
  {r:Result Next} (h:o.upon P a K Q r):o.upon P a K' Q' r:=by
 unfold Oper.upon at *;split<;>simp_all
 ·refine h.mono ?_;intro e w' hq
  cases e with
  | returned v=>exact hK _ _ hq
  | panicked c=>exact hQ _ _ _ hq
  | outgrown=>obtain ⟨a,w,hq⟩:=hq;exact ⟨a,w,hQ _ _ _ hq⟩
 ·exact h.mono fun v w' hq=>hK _ _ hq
theorem AG {P:Program} {o:Oper} {a:Act} {K K':Act->World->Prop} {Q Q':Exit->Act->World->Prop} {w:World} (hK:∀ a w,K a w->K' a w) (hQ:∀ e a w,Q e a w->Q' e a w)
  (h:o.wp P a w K Q):o.wp P a w K' Q':=HE hK hQ h
theorem eB (c:Code) (k:List It) (a:Act) (w:World):kq X (.code c :: k) .normal a w=c.wp X.P (kq X k) a w:=rfl
theorem N7 (c:Code) (k:List It):kq X (.code c :: k)=Exit.then (c.wp X.P (kq X k)) (kq X k):=by
 funext e a w;cases e<;>rfl
theorem Rx (id:Nat) (k:List It) (e:Exit) (a:Act) (w:World) (h:kq X (.C3 id :: k) e a w):Exit.inBlock id (kq X k) e a w:=by
 cases e<;>exact h
theorem wanted_spec (h:Rel X E st a w) {all:Array Oper} {o:Oper} {j d:Nat} {want:Bool} {kp:List (Nat × Bool)} {sd:DV} (N8:o.guard=some (j,want)) (Dc:gslot all.toList j=some d) (HF:get st.sl d=some ⟨kp,sd⟩) :
  Region.wanted o (yielded all a.tmps)=true↔Holds a.tmps ((d,want) :: kp):=by
 have Ry:yielded all a.tmps j=match a.tmps[d]? with | some (.bool b)=>some b | _=>none:=by
  unfold gslot at Dc;split at Dc
  ·rename_i oj hoj;have Zr:all[j]? = some oj:=by simpa using hoj
   simp only [yielded,Zr,Dc,Option.bind_some]
   cases a.tmps[d]? with
   | none=>rfl
   | some v=>cases v<;>rfl
  ·cases Dc
 have htd:=h.tm d _ HF;simp only [Region.wanted,N8,Ry];constructor
 ·intro hw
  have hb:a.tmps[d]? = some (.bool want):=by
   split at hw
   ·rename_i b hb;rw [hb];have:b=want:=by simpa using hw
    rw [this]
   ·simp at hw
  refine iK hb ?_;by_cases hh:Holds a.tmps kp
  ·exact hh
  ·have:=htd.2 hh;rw [hb] at this;simp [undef] at this
 ·intro hh;have:=hh (d,want) (by simp);simp only at this;rw [this];simp
theorem AH (h:Rel X E st a w) {t:Nat} {b:Bool} (hg:get st.sl t=some ⟨[],.v (.bool b)⟩):a.tmps[t]? = some (.bool b):=by
 obtain ⟨v,h1,h2⟩:=(h.tm t _ hg).1 (aW _);rw [h1,iL h2]
theorem J6 (h:Rel X E st a w) {t:Nat} (hg:get st.sl t=some ⟨[],.ud⟩):a.tmps[t]? = some undef:=by
 obtain ⟨v,h1,h2⟩:=(h.tm t _ hg).1 (aW _);unfold Rv at h2;rw [h1,h2]
theorem tg {G:List (Nat × Bool)} {dst:Option Nat} (bE:Zd G dst=true):∀ e,dst=some e->∀ p∈G,p.1≠e:=by
 intro e he p hp cX;rw [he] at bE;have:=(List.all_eq_true.1 bE) p hp;rw [cX] at this;simp at this
theorem go_sound:∀ n,Snd X (go X n)
 | 0=>fun k st hg=>hg.elim
 | n + 1=>by
  have ih:=go_sound n;intro k st hg E a w h
  match k with
  | []=>exact wO h (by simpa [go] using hg)
  | .C3 id :: k=>exact ih k st (by simpa [go] using hg) E a w h
  | .Jq J :: k=>exact ⟨st,E,h,by simpa [go] using hg⟩
  | .ops all [] :: k=>exact ih k st (by simpa [go] using hg) E a w h
  | .ops all (o :: r) :: k=>
   simp only [go,mA,FQ] at hg;split at hg
   ·exact hg.elim
   ·rename_i hd;split at hg
    ·rename_i N8;simp only [kq,wpList,Region.wanted,N8,if_true];split at hg
     ·rename_i s hs;obtain ⟨v,hv,bW⟩:=gv X.hT h.rl (aW _) hs;exact .inl (gO (bW w fun _=>rfl) (ih _ _ hg E _ w (aT h hd s v hv)))
     ·exact .inl (AG (fun a w hk=>hk) (fun e a w hq=>hq.elim) (wN ih hd h hg))
    ·rename_i j want N8;split at hg
     ·exact hg.elim
     ·rename_i d Dc;split at hg
      ·exact hg.elim
      ·rename_i kp sd HF;have oD:=wanted_spec h N8 Dc HF;simp only [kq,wpList];split at hg
       ·rename_i s hs;split at hg
        case h_2=>exact hg.elim
        rename_i bE;split
        ·rename_i hw;have hh:=oD.1 hw;obtain ⟨v,hv,bW⟩:=gv X.hT h.rl hh hs;exact .inl (gO (bW w fun _=>rfl) (ih _ _ hg E _ w (ox h hd _ s v (tg bE) (fun _=>hv) (fun hn=>(hn hh).elim))))
        ·rename_i hw;have hh:¬ Holds a.tmps ((d,want) :: kp):=fun hh=>hw (oD.2 hh);exact ih _ _ hg E _ w (ox h hd _ s undef (tg bE) (fun hn=>(hh hn).elim) (fun _=>rfl))
       ·split at hg
        ·rename_i b fF;have ht0:=AH h fF
         cases kp with
         | nil=>
          simp only [lastG] at fF ht0;cases yC:(b == want)
          ·have Dp:b = !want:=by cases b<;>cases want<;>simp_all
           have hg:=hg.f yC
           have hn:¬ Region.wanted o (yielded all a.tmps)=true:=by
            intro hw;have:=(oD.1 hw) (d,want) (by simp);simp only at this;rw [ht0] at this;simp only [oI,Value.bool.injEq] at this;rw [this] at yC;simp at yC
           rw [if_neg hn];have hr:=jy (d:=d) (b:=!want) h (by rw [ht0,Dp]);exact ih _ _ hg E _ w (aT hr (jz hd) .ud undef (ri E))
          ·have AJ:b=want:=by simpa using yC
           have hg:=hg.t yC;subst AJ;have hw:Region.wanted o (yielded all a.tmps)=true:=oD.2 (iK ht0 (aW _));rw [if_pos hw];have hr:=jy (d:=d) (b:=b) h ht0;exact .inl (AG (fun a w hk=>hk) (fun e a w hq=>hq.elim) (wN ih (jz hd) hr hg))
         | cons g1 gr=>
          have key:∀ c,a.tmps[(lastG (d,want) (g1 :: gr)).1]? = some (.bool c)->go X n (.ops all (o :: r) :: k) (st.resolve (lastG (d,want) (g1 :: gr)).1 c)->wpList X.P all (kq X k) (o :: r) a w:=
           fun c hc nF=>ih _ _ nF E a w (jy h hc)
          cases yC:(b == (lastG (d,want) (g1 :: gr)).2)
          ·have hg:=hg.f yC;have Dp:b = !(lastG (d,want) (g1 :: gr)).2:=by cases b<;>cases h0:(lastG (d,want) (g1 :: gr)).2<;>simp_all
           have:=key _ (by rw [ht0,Dp]) hg;simpa [wpList] using this
          ·have hg:=hg.t yC;have AJ:b=(lastG (d,want) (g1 :: gr)).2:=by simpa using yC
           have:=key _ (by rw [ht0,AJ]) hg;simpa [wpList] using this
        ·rename_i fF
         cases kp with
         | nil=>
          have ht0:=J6 h fF;simp only [lastG] at ht0
          have hn:¬ Region.wanted o (yielded all a.tmps)=true:=by
           intro hw;have:=(oD.1 hw) (d,want) (by simp);simp only at this;rw [ht0] at this;simp [undef] at this
          rw [if_neg hn];exact ih _ _ hg E _ w (aT h hd .ud undef (ri E))
         | cons g1 gr=>exact hg.elim
        ·exact hg.elim
  | .code c :: k=>
   rw [eB]
   cases c with
   | skip=>exact wp_skip (ih k st (by simpa [go] using hg) E a w h)
   | seq x y=>
    have:=ih (.code x :: .code y :: k) st (by simpa [go] using hg) E a w h;rw [eB,N7] at this;exact wp_seq this
   | block id b=>
    have:=ih (.code b :: .C3 id :: k) st (by simpa [go] using hg) E a w h;rw [eB] at this;exact wp_block (wp_mono this (Rx id k))
   | exit id=>
    simp only [go] at hg;split at hg
    ·rename_i k' hk;exact wp_exit (oC k k' a w hk (ih k' st hg E a w h))
    ·exact hg.elim
   | cond x p q=>
    simp only [go] at hg;split at hg
    ·rename_i b hb;refine wp_cond (t:=b) (by rw [iL (aO h.rl hb)]) ?_;cases fF:b
     ·exact ih (.code q :: k) st (hg.f fF) E a w h
     ·exact ih (.code p :: k) st (hg.t fF) E a w h
    ·exact hg.elim
   | region id ops d=>
    simp only [go] at hg;cases d
    ·exact wp_region_list (ih (.ops ops ops.toList :: k) st hg E a w h)
    ·exact hg E a w h
   | loop b=>exact (by simpa [go] using hg:rf X b k st) E a w h
   | ret=>exact wp_ret (tf k a w (wO h (by simpa [go] using hg)))
   | _=>simp [go] at hg
theorem AK {fn:Func} (Ag:X.fn=fn) (e:Exit) (a:Act) (w:World) (h:kq X [] e a w):bodyPost X.P fn (fun e w'=>∃ v,e = .returned v/\Ar X.still X.E0 X.w0 X.Φ v w' X.fr/\mX X.bt X.E0.β w') e a w:=by
 subst Ag
 cases e with
 | normal=>obtain ⟨h1,v,h2,h3⟩:=h;exact ⟨h1,v,h2,v,rfl,h3⟩
 | ret=>obtain ⟨h1,v,h2,h3⟩:=h;exact ⟨h1,v,h2,v,rfl,h3⟩
 | exit _=>exact h.elim
 | goto _=>exact h.elim
 | panic _=>exact h.elim
 | outgrown=>exact h.elim
end
def TP (s:Bool) (P:Program) (f:FuncId) (args:List DV) (os:List (List DV)) (cD:List TkE) (Φ:DV->List (List DV)->List TkE->Prop) (fr:Bool:=false):Prop:=
 ∀ (E:En) (w:World) (vs:List Value),Env E os w->E.tk=cD->RvL E args vs->Calls P f vs.toArray w fun e w'=>∃ v,e = .returned v/\Ar s E w Φ v w' fr
def Ev (P:Program) (f:FuncId) (args:List DV) (os:List (List DV)) (cD:List TkE) (Φ:DV->List (List DV)->List TkE->Prop):Prop:=TP false P f args os cD Φ
def EvS (P:Program) (f:FuncId) (args:List DV) (os:List (List DV)) (cD:List TkE) (Φ:DV->List (List DV)->List TkE->Prop):Prop:=TP true P f args os cD Φ
def EvP (P:Program) (f:FuncId) (args:List DV) (d:DV):Prop:=Ev P f args [] [] fun d' _ _=>d'=d
def argSl:Nat->List DV->List (Nat × Sl)
 | _,[]=>[]
 | i,v :: r=>(i,⟨[],v⟩) :: argSl (i + 1) r
theorem wP:∀ (l:List DV) (i j:Nat) (x:Sl),get (argSl i l) j=some x->∃ v,x=⟨[],v⟩/\i<=j/\l[j - i]? = some v
 | [],_,_,_,h=>by simp [argSl,get] at h
 | v :: r,i,j,x,h=>by
  simp only [argSl,cQ] at h;split at h
  ·rename_i sA;simp only [oI] at h;subst h sA;exact ⟨v,rfl,Nat.le_refl _,by simp⟩
  ·rename_i sA;obtain ⟨u,hu,fv,hg⟩:=wP r (i + 1) j x h;refine ⟨u,hu,by omega,?_⟩;rw [show j - i=(j - (i + 1)) + 1 by omega];simpa using hg
theorem Nw.refl {E:En} {bx:List (List DV)} {w:World} (h:Env E bx w):Nw E E w where
 c:=fun _ _ h=>h
 cn:=fun _ _ h=>.inl h
 β:=⟨[],by simp,by simp⟩
 tk:=fun k q y hq hy=>⟨q,y,hq,hy,rfl,rfl,.inl ⟨rfl,rfl⟩,.inl rfl⟩
 tn:=fun k y g hk hy=>by
  have:=(gS hy).1;rw [h.tl] at this;omega
 l0:=h.tl
def UK (s:Bool) (P:Program) (f:FuncId) (args:List DV) (os:List (List DV)) (cD:List TkE) (bt:List (Nat × TypeId)) (Φ:DV->List (List DV)->List TkE->Prop) (fr:Bool:=false):Prop:=
 ∀ (E:En) (w:World) (vs:List Value),Env E os w->E.tk=cD->mX bt E.β w->RvL E args vs->Calls P f vs.toArray w fun e w'=>∃ v,e = .returned v/\Ar s E w Φ v w' fr/\mX bt E.β w'
theorem yD {s:Bool} {P:Program} {f:FuncId} {fn:Func} {c:Code} {args:List DV} {os:List (List DV)} {cD:List TkE} {Φ:DV->List (List DV)->List TkE->Prop} (bt:List (Nat × TypeId)) (mu:List Nat) (fr:Bool) (T:TT) (hT:T.ok P=true) (n nt:Nat) (rs:List ResultVar)
  (hf:P.funcs[f]? = some fn) (hb:fn.body=some c) (HG:fn.ntmps=nt) (yr:fn.results.toList=rs) (hlen:args.length<=nt)
  (h:∀ (E:En) (w:World) (hn:E.β.length=os.length) (hm:E.tk.length=cD.length),go ⟨P,T,hT,fn,nt,rs,yr,w,E,os.length,cD.length,hn,hm,s,Φ,bt,mu,fr⟩ n [.code c] ⟨argSl 0 args,os,cD⟩):UK s P f args os cD bt Φ fr:=by
 intro E w vs hE ia fF hv;have hl:=hv.length;have hg:=h E w hE.len (by rw [ia]);refine calls_of_wp hf hb ?_
 have hs:=go_sound (X:=⟨P,T,hT,fn,nt,rs,yr,w,E,os.length,cD.length,hE.len,by rw [ia],s,Φ,bt,mu,fr⟩) n _ _ hg E
  {tmps:=vs.toArray ++ Array.replicate (fn.ntmps - vs.toArray.size) undef,defers:=[] } w
  {env:=hE
   tk:=ia
   sz:=by simp [HG];omega
   tm:=by
    intro i x hx;obtain ⟨d,rfl,_,hd⟩:=wP args 0 i x hx;simp only [Nat.sub_zero] at hd;obtain ⟨v,oe,Hw⟩:=hv.get hd;rw [Array.getElem?_append_left (by simpa using (gS oe).1)];exact ⟨fun _=>⟨v,by simpa using oe,Hw⟩,fun hn=>(hn (aW _)).elim⟩
   df:=rfl
   nw:=Nw.refl hE
   fr:=⟨rfl,rfl,rfl,Nat.le_refl _,fun _ _ _=>rfl⟩
   sh:=fun _=>⟨0,rfl⟩
   bt:=fF }
 exact wp_mono hs (AK rfl)
theorem yE {s:Bool} {P:Program} {f:FuncId} {fn:Func} {c:Code} {args:List DV} {os:List (List DV)} {cD:List TkE} {Φ:DV->List (List DV)->List TkE->Prop} (bt:List (Nat × TypeId)) (mu:List Nat) (hbt:∀ p∈bt,os.length<=p.1) (fr:Bool) (T:TT) (hT:T.ok P=true) (n nt:Nat) (rs:List ResultVar)
  (hf:P.funcs[f]? = some fn) (hb:fn.body=some c) (HG:fn.ntmps=nt) (yr:fn.results.toList=rs) (hlen:args.length<=nt)
  (h:∀ (E:En) (w:World) (hn:E.β.length=os.length) (hm:E.tk.length=cD.length),go ⟨P,T,hT,fn,nt,rs,yr,w,E,os.length,cD.length,hn,hm,s,Φ,bt,mu,fr⟩ n [.code c] ⟨argSl 0 args,os,cD⟩):TP s P f args os cD Φ fr:=fun E w vs hE ia hv=>(yD bt mu fr T hT n nt rs hf hb HG yr hlen h E w vs hE ia (fun p hp b hb=>by
  have h1:=hbt p hp;have h2:=(gS hb).1;have h3:=hE.len
  omega) hv).mono fun _ _ ⟨v,h1,h2,_⟩=>⟨v,h1,h2⟩
theorem sB {s:Bool} {P:Program} {f:FuncId} {fn:Func} {c:Code} {args:List DV} {os:List (List DV)} {cD:List TkE} {Φ:DV->List (List DV)->List TkE->Prop} (bt:List (Nat × TypeId)) (hbt:∀ p∈bt,os.length<=p.1) (T:TT) (hT:T.ok P=true) (n nt:Nat) (rs:List ResultVar)
  (hf:P.funcs[f]? = some fn) (hb:fn.body=some c) (HG:fn.ntmps=nt) (yr:fn.results.toList=rs) (hlen:args.length<=nt)
  (h:∀ (E:En) (w:World) (hn:E.β.length=os.length) (hm:E.tk.length=cD.length),go ⟨P,T,hT,fn,nt,rs,yr,w,E,os.length,cD.length,hn,hm,s,Φ,bt,[],false⟩ n [.code c] ⟨argSl 0 args,os,cD⟩):TP s P f args os cD Φ:=
 yE bt [] hbt false T hT n nt rs hf hb HG yr hlen h
theorem J7 {s:Bool} {P:Program} {f:FuncId} {fn:Func} {c:Code} {args:List DV} {os:List (List DV)} {cD:List TkE} {Φ:DV->List (List DV)->List TkE->Prop} (T:TT) (hT:T.ok P=true) (n nt:Nat) (rs:List ResultVar)
  (hf:P.funcs[f]? = some fn) (hb:fn.body=some c) (HG:fn.ntmps=nt) (yr:fn.results.toList=rs) (hlen:args.length<=nt)
  (h:∀ (E:En) (w:World) (hn:E.β.length=os.length) (hm:E.tk.length=cD.length),go ⟨P,T,hT,fn,nt,rs,yr,w,E,os.length,cD.length,hn,hm,s,Φ,[],[],false⟩ n [.code c] ⟨argSl 0 args,os,cD⟩):TP s P f args os cD Φ:=
 sB [] (fun p hp=>by cases hp) T hT n nt rs hf hb HG yr hlen h
theorem ev_go {P:Program} {f:FuncId} {fn:Func} {c:Code} {args:List DV} {os:List (List DV)} {cD:List TkE} {Φ:DV->List (List DV)->List TkE->Prop} (T:TT) (hT:T.ok P=true) (n nt:Nat) (rs:List ResultVar)
  (hf:P.funcs[f]? = some fn) (hb:fn.body=some c) (HG:fn.ntmps=nt) (yr:fn.results.toList=rs) (hlen:args.length<=nt)
  (h:∀ (E:En) (w:World) (hn:E.β.length=os.length) (hm:E.tk.length=cD.length),go ⟨P,T,hT,fn,nt,rs,yr,w,E,os.length,cD.length,hn,hm,false,Φ,[],[],false⟩ n [.code c] ⟨argSl 0 args,os,cD⟩):Ev P f args os cD Φ:=
 J7 T hT n nt rs hf hb HG yr hlen h
theorem Ev.mono {P:Program} {f:FuncId} {args:List DV} {os:List (List DV)} {cD:List TkE} {Φ Ψ:DV->List (List DV)->List TkE->Prop} (h:Ev P f args os cD Φ) (hΦ:∀ d o t,Φ d o t->Ψ d o t):Ev P f args os cD Ψ:=by
 intro E w vs h1 h2 h3;refine (h E w vs h1 h2 h3).mono ?_;rintro e w' ⟨v,rfl,h4,hs,d,o,E',h5,h6,h7,h8,h9,oB⟩;exact ⟨v,rfl,h4,hs,d,o,E',h5,h6,h7,h8,h9,hΦ _ _ _ oB⟩
theorem Ev.UL {P:Program} {f:FuncId} {args:List DV} {os:List (List DV)} {cD:List TkE} {Φ:DV->List (List DV)->List TkE->Prop} {bt:List (Nat × TypeId)} (h:Ev P f args os cD Φ) (hb:bt=[]):UK false P f args os cD bt Φ:=fun E w vs h1 h2 _ h4=>
 (h E w vs h1 h2 h4).mono fun _ _ ⟨v,h5,h6⟩=>⟨v,h5,h6,.nil hb⟩
theorem br {b:Bool} {A B:Prop} (h1:b=true->A) (h2:b=false->B):@Bool.rec (fun _=>Prop) B A b:=by
 cases b
 ·exact h2 rfl
 ·exact h1 rfl
section
variable {X:Ctx} {st:St} {k:List It} {E:En} {a:Act} {w:World}
theorem HH (h:Rel X E st a w) (aS:X.still=false) {E2:En} {w':World} (hm:r7 (E.cl).S w w') (he:Env E2 [] w') (hn:Nw E.cl E2 w):Rel X ⟨E2.c,E.β,E.tk,E.τ⟩ st a w':=by
 have hh:∀ i,i < w.heap.size->w'.heap[i]? = w.heap[i]?:=fun i hi=>hm.block i hi (by
  rintro (h1 | ⟨y,h1,_⟩)
  ·simp [En.cl] at h1
  ·simp [En.cl] at h1)
 have dH:∀ x v,E2.c x=some v->E.c x=some v∨w.heap.size<=x.block:=fun x v hx=>by
  rcases hn.cn x v hx with h1 | h1 | ⟨y,h1,_⟩
  ·exact .inl h1
  ·exact .inr h1
  ·simp [En.cl] at h1
 have hx:Ext E ⟨E2.c,E.β,E.tk,E.τ⟩:=⟨hn.c,fun _ _ h=>h,fun _ q h=>⟨q,h,.inl ⟨rfl,rfl⟩⟩⟩;have hk:=h.env.jL hh;refine cV h hx ?_ h.tk ?_ (h.fr.b9 hm.os hm.tape hm.output hm.size fun i hi=>.inr (hh i hi)) (mY aS) (h.bt.jL fun b hb=>hh b (h.env.aV hb))
 ·exact {
   len:=h.env.len
   tl:=h.env.tl
   dW:=fun i cs hi=>by
    obtain ⟨b,ty,arr,hb,hw,hc⟩:=hk.dW i cs hi;exact ⟨b,ty,arr,hb,hw,hc.mono hx⟩
   inj:=h.env.inj
   sub:=he.sub
   pc:=fun x v hc rk=>by
    rcases dH x v hc with h1 | h1
    ·exact h.env.pc x v h1 rk
    ·have:=h.env.aV rk;omega
   cD:=fun k q y hq hy=>by
    rcases hk.cD k q y hq hy with h1 | ⟨g',cap,cur,rfl,h1,h2,h3,h4,h5,h6⟩
    ·exact .inl h1
    ·refine .inr ⟨g',cap,cur,rfl,h1,⟨h2.1,h2.2.mono hn.c⟩,h3,h4,h5,fun x v hc hg=>?_⟩;rcases dH x v hc with h7 | h7
     ·exact h6 x v h7 hg
     ·have:=(hZ (h.env.cD k q _ hq hy) (g:=g') rfl).1;omega
   iy:=h.env.iy }
 ·exact {
   c:=fun x v hc=>hn.c x v (h.nw.c x v hc)
   cn:=fun x v hc=>by
    rcases dH x v hc with h1 | h1
    ·exact h.nw.cn x v h1
    ·have:=h.fr.size;exact .inr (.inl (by omega))
   β:=h.nw.β
   tk:=h.nw.tk
   tn:=h.nw.tn
   l0:=h.nw.l0 }
theorem Rz {bx:List (List DV)} (h:Env E bx w):Env E.cl [] w where
 len:=rfl
 tl:=rfl
 dW:=by simp
 inj:=List.nodup_nil
 sub:=h.sub
 pc:=by simp [En.cl]
 cD:=by simp [En.cl]
 iy:=by simp [En.cl]
theorem rq {P:Program} (h:Rel X E st a w) (aS:X.still=false) {f:FuncId} {args bB:List DV} {vs:List Value} {Φ:DV->List (List DV)->List TkE->Prop} (hc:Ev P f bB [] [] Φ) (ha:CcL [] 0 0 0 bB args) (hv:RvL E args vs) :
  Calls P f vs.toArray w fun e w'=>∃ v E' d,e = .returned v/\Rel X E' st a w' /\ Rv E' d v/\Φ d [] []/\r7 E.cl.S w w' /\ Ext E E' /\ E'.β=E.β:=by
 have Ur:RvL E.cl bB vs:=CcL.sound (E:=E) (E':=E.cl) ⟨fun _ _ h=>h,fun i cs _ hi=>by simp at hi⟩ (HC.zero _ _) ha hv;refine (hc E.cl w vs (Rz h.env) rfl Ur).mono ?_;rintro e w' ⟨v,rfl,hm,_,d,os,E2,he,hβ,ia,hn,RA,hΦ⟩
 have vT:os=[]:=by
  have:=he.len;rw [hβ] at this;exact List.eq_nil_of_length_eq_zero this.symm
 subst vT;have ht0:E2.tk=[]:=List.eq_nil_of_length_eq_zero ia;refine ⟨v,⟨E2.c,E.β,E.tk,E.τ⟩,d,rfl,HH h aS hm he hn,?_,by rw [ht0] at hΦ;exact hΦ,hm,⟨hn.c,fun _ _ h=>h,fun _ q h=>⟨q,h,.inl ⟨rfl,rfl⟩⟩⟩,rfl⟩;refine Rv.mono (E:=E2) (E':=⟨E2.c,E.β,E.tk,E.τ⟩) ⟨fun _ _ h=>h,fun i b hb=>?_,fun k q hq=>?_⟩ RA
 ·rw [hβ] at hb;simp [En.cl] at hb
 ·rw [ht0] at hq;simp at hq
theorem bl {f:FuncId} {args bB:List DV} {d:Nat} (j2:Enters X.P f) (hd:eT X.nt st.sl (some d)=true) {Φ:DV->List (List DV)->List TkE->Prop} (hc:Ev X.P f bB [] [] Φ) (ha:CcL [] 0 0 0 bB args)
  (hk:∀ r,Φ r [] []->go X 4000 k ⟨(d,⟨[],r⟩) :: st.sl,st.bx,st.tk⟩) (aS:X.still=false:=by exact rfl):dy X f args (some d) k st:=by
 refine ⟨j2,aS,fun E a w vs h hv=>(rq h aS hc ha hv).mono ?_⟩;rintro e w' ⟨v,E',r,rfl,cj,hr,hΦ,_⟩;exact go_sound 4000 _ _ (hk r hΦ) E' _ w' (aT cj hd r v hr)
theorem call_p {f:FuncId} {args bB:List DV} {d:Nat} {r:DV} (j2:Enters X.P f) (hc:EvP X.P f bB r) (ha:CcL [] 0 0 0 bB args) (hd:eT X.nt st.sl (some d)=true)
  (hk:go X 4000 k ⟨(d,⟨[],r⟩) :: st.sl,st.bx,st.tk⟩) (aS:X.still=false:=by exact rfl):dy X f args (some d) k st:=
 bl j2 hd hc ha (fun _ hr=>hr ▸ hk) aS
def clB (n m:Nat):DV->Bool
 | .v _=>true
 | .ud=>true
 | .sl _ _ none=>true
 | .sl _ _ (some k)=>Nat.blt k m
 | .pt _ _=>true
 | .loc i _=>Nat.blt i n
 | .el i _=>Nat.blt i n
 | .ms i _ _ _ _=>Nat.blt i n
 | .agg l=>clL l
 | .tup l=>clL l
 | .fn _ l r=>clL l && clL r
 | .re _ x=>clB n m x
where clL:List DV->Bool
 | []=>true
 | d :: r=>clB n m d && clL r
def En.cut (E:En) (n m:Nat):En:=⟨E.c,E.β.take n,E.tk.take m,E.τ.take m⟩
mutual
theorem Rv.cut {n m:Nat} {E:En}:∀ {d:DV} {v:Value},Rv E d v->clB n m d=true->Rv (E.cut n m) d v
 | .v x,v,h,_=>by unfold Rv at h ⊢;exact h
 | .ud,v,h,_=>by unfold Rv at h ⊢;exact h
 | .sl e es none,v,h,_=>by
  unfold Rv at h ⊢;obtain ⟨b,n,cap,h1,h2,h3,_⟩:=h;exact ⟨b,n,cap,h1,h2,h3,fun k hk=>by cases hk⟩
 | .sl e es (some k),v,h,hc=>by
  unfold Rv at h ⊢;obtain ⟨b,n',cap,h1,h2,h3,h4⟩:=h;refine ⟨b,n',cap,h1,h2,h3,fun k' fI=>?_⟩;cases fI;have hk:k < m:=by simpa [clB] using hc
  obtain ⟨q,h5,h6,h7⟩:=h4 k rfl;exact ⟨q,by show (E.tk.take m)[k]? = _;rw [List.getElem?_take,if_pos hk];exact h5,h6,fun hh=>by show (E.τ.take m)[k]? = _;rw [List.getElem?_take,if_pos hk];exact h7 hh⟩
 | .pt cs o,v,h,_=>by unfold Rv at h ⊢;exact h
 | .loc i o,v,h,hc=>by
  unfold Rv at h ⊢;obtain ⟨b,hb,h1⟩:=h;have hi:i < n:=by simpa [clB] using hc
  exact ⟨b,by show (E.β.take n)[i]? = _;rw [List.getElem?_take,if_pos hi];exact hb,h1⟩
 | .el i o,v,h,hc=>by
  unfold Rv at h ⊢;obtain ⟨b,hb,h1⟩:=h;have hi:i < n:=by simpa [clB] using hc
  exact ⟨b,by show (E.β.take n)[i]? = _;rw [List.getElem?_take,if_pos hi];exact hb,h1⟩
 | .ms i e o l c,v,h,hc=>by
  unfold Rv at h ⊢;obtain ⟨b,ad,hb,h1⟩:=h;have hi:i < n:=by simpa [clB] using hc
  exact ⟨b,ad,by show (E.β.take n)[i]? = _;rw [List.getElem?_take,if_pos hi];exact hb,h1⟩
 | .agg l,v,h,hc=>by
  unfold Rv at h ⊢;obtain ⟨vs,h1,h2,h3⟩:=h;simp only [clB] at hc;exact ⟨vs,h1,RvL.cut h2 hc,h3⟩
 | .tup l,v,h,hc=>by
  unfold Rv at h ⊢;obtain ⟨vs,h1,h2⟩:=h;simp only [clB] at hc;exact ⟨vs,h1,RvL.cut h2 hc⟩
 | .fn f l r,v,h,hc=>by
  unfold Rv at h ⊢;obtain ⟨l',r',h1,h2,h3⟩:=h;simp only [clB,Bool.and_eq_true] at hc;exact ⟨l',r',h1,RvL.cut h2 hc.1,RvL.cut h3 hc.2⟩
 | .re t x,v,h,hc=>by
  unfold Rv at h ⊢;obtain ⟨z,h1,h2⟩:=h;simp only [clB] at hc;exact ⟨z,h1,Rv.cut h2 hc⟩
theorem RvL.cut {n m:Nat} {E:En}:∀ {l:List DV} {vs:List Value},RvL E l vs->clB.clL n m l=true->RvL (E.cut n m) l vs
 | [],vs,h,_=>by simp only [RvL] at h ⊢;exact h
 | d :: r,vs,h,hc=>by
  simp only [RvL] at h ⊢;obtain ⟨v,s,h1,h2,h3⟩:=h;simp only [clB.clL,Bool.and_eq_true] at hc;exact ⟨v,s,h1,Rv.cut h2 hc.1,RvL.cut h3 hc.2⟩
end
end
end Dv
end Go.Proofs.YtfifjddnnmfeoaaGreat
namespace Go.Proofs.YtfifjddnnmfeoaaGreat
namespace Dv
open Go Go.RowKit
def We (n m:Nat) (bR:List TkE) (x x':DV):Prop:=
 (x=x' /\ clB n m x=true)∨(x = .v (.slice none 0 0)/\∃ e k q,x' = .sl e [] (some k)/\m<=k/\bR[k]? = some q)∨(x = .v (.slice none 0 0)/\∃ e,x' = .sl e [] none)∨(∃ e es tk,x = .sl e es tk/\x' = .sl e es none)∨(∃ e es Ab tk,x = .sl e es tk/\x' = .sl e Ab none/\CcE [] 0 Ab es)∨(∃ e es Ab k,x = .sl e es (some k)/\x' = .sl e Ab (some k)/\k < m/\CcE [] 0 Ab es)
def WeL (n m:Nat) (bR:List TkE):List DV->List DV->Prop
 | [],l=>l=[]
 | x :: r,l=>∃ x' r',l=x' :: r' /\ We n m bR x x' /\ WeL n m bR r r'
def WeLL (n m:Nat) (bR:List TkE):List (List DV)->List (List DV)->Prop
 | [],l=>l=[]
 | x :: r,l=>∃ x' r',l=x' :: r' /\ WeL n m bR x x' /\ WeLL n m bR r r'
def oE (n m:Nat) (bR:List TkE) (sl:List (Nat × Sl)):List (Nat × Sl)->Prop
 | []=>True
 | p :: r=>(∃ x,get sl p.1=some ⟨p.2.gs,x⟩/\We n m bR x p.2.s)/\oE n m bR sl r
structure AL (n0 m0:Nat) (st st':St):Prop where
 all:∃ kept dropped new b0 r,m0<=kept.length/\n0<=b0.length/\st.tk=kept ++ dropped/\st'.tk=kept ++ new/\(∀ q∈new,TkE.new q=true)/\st.bx=b0 ++ r/\WeLL b0.length kept.length st'.tk b0 st'.bx/\oE b0.length kept.length st'.tk st.sl st'.sl
theorem WeLL.length {n m:Nat} {bR:List TkE}:∀ {l l':List (List DV)},WeLL n m bR l l' -> l'.length=l.length
 | [],l',h=>by simp only [WeLL] at h;subst h;rfl
 | x :: r,l',h=>by
  simp only [WeLL] at h;obtain ⟨x',r',rfl,_,h2⟩:=h;simp [WeLL.length h2]
theorem WeLL.get {n m:Nat} {bR:List TkE}:∀ {l l':List (List DV)},WeLL n m bR l l' -> ∀ (i:Nat) cs',l'[i]? = some cs' -> ∃ cs,l[i]? = some cs/\WeL n m bR cs cs'
 | [],l',h,i,cs',hi=>by simp only [WeLL] at h;subst h;simp at hi
 | x :: r,l',h,i,cs',hi=>by
  simp only [WeLL] at h;obtain ⟨x',r',rfl,h1,h2⟩:=h
  cases i with
  | zero=>simp only [List.getElem?_cons_zero,oI] at hi;subst hi;exact ⟨x,rfl,h1⟩
  | succ i=>simp only [List.getElem?_cons_succ] at hi ⊢;exact WeLL.get h2 i cs' hi
theorem ti {n m:Nat} {bR:List TkE} {sl:List (Nat × Sl)}:∀ {l:List (Nat × Sl)},oE n m bR sl l->∀ i x',get l i=some x' -> ∃ x,get sl i=some ⟨x'.gs,x⟩/\We n m bR x x'.s
 | [],_,i,x',hx=>by cases hx
 | (k,y) :: r,h,i,x',hx=>by
  simp only [cQ] at hx;split at hx
  ·rename_i oy;subst oy;simp only [oI] at hx;subst hx;exact h.1
  ·exact ti h.2 i x' hx
section
variable {X:Ctx} {E:En} {st st':St} {a:Act} {w:World} {k:List It}
def En.wk (E:En) (n:Nat) (kept new:List TkE):En:=⟨E.c,E.β.take n,kept ++ new,E.τ.take kept.length ++ List.replicate new.length (.slice none 0 0)⟩
theorem AM {n:Nat} {kept dropped new:List TkE} (ht:E.tk=kept ++ dropped) (hl:E.τ.length=E.tk.length) (dH:∀ q∈new,TkE.new q=true) {x x':DV} {v:Value} (hx:We n kept.length (kept ++ new) x x') (hv:Rv E x v):Rv (E.wk n kept new) x' v:=by
 have iP:kept.length<=E.τ.length:=by rw [hl,ht];simp
 have first:∀ {x:DV},clB n kept.length x=true->Rv E x v->Rv (E.wk n kept new) x v:=by
  intro x hc hv;refine Rv.mono (E:=E.cut n kept.length) ⟨fun _ _ h=>h,fun _ _ h=>h,fun k q hq=>?_⟩ (Rv.cut hv hc);have kA:(E.tk.take kept.length)[k]? = some q:=hq;rw [List.getElem?_take] at kA;split at kA
  ·rename_i hk;refine ⟨q,?_,.inl ⟨rfl,?_⟩⟩
   ·show (kept ++ new)[k]? = _;rw [ht,List.getElem?_append_left hk] at kA;rw [List.getElem?_append_left hk];exact kA
   ·show (E.τ.take kept.length ++ _)[k]? = (E.τ.take kept.length)[k]?;rw [List.getElem?_append_left (by rw [List.length_take];omega)]
  ·cases kA
 rcases hx with ⟨rfl,hc⟩ | ⟨rfl,e,k,q,rfl,hk,hq⟩ | ⟨rfl,e,rfl⟩ | ⟨e,es,tk,rfl,rfl⟩ | ⟨e,es,Ab,tk,rfl,rfl,he⟩ | ⟨e,es,Ab,k,rfl,rfl,hk,he⟩
 ·exact first hc hv
 ·have:=aY hv;subst this;unfold Rv;refine ⟨none,0,0,rfl,⟨rfl,Nat.le_refl _⟩,fun hn=>(hn rfl).elim,fun k' fI=>?_⟩;cases fI;have J8:(kept ++ new)[k]? = some q:=hq;rw [List.getElem?_append_right hk] at J8;have r8:=TkE.JO (dH q (mG J8));refine ⟨q,hq,by omega,fun _=>?_⟩;have al:=(gS J8).1;show (E.τ.take kept.length ++ List.replicate new.length _)[k]? = _;rw [List.getElem?_append_right (by rw [List.length_take];omega)];rw [List.length_take,Nat.min_eq_left iP,List.getElem?_replicate,if_pos al]
 ·have:=aY hv;subst this;unfold Rv;exact ⟨none,0,0,rfl,⟨rfl,Nat.le_refl _⟩,fun hn=>(hn rfl).elim,fun k hk=>by cases hk⟩
 ·unfold Rv at hv ⊢;obtain ⟨b,n,cap,h1,h2,h3,_⟩:=hv;exact ⟨b,n,cap,h1,h2,h3,fun k hk=>by cases hk⟩
 ·have hv:=PK he hv;unfold Rv at hv ⊢;obtain ⟨b,n,cap,h1,h2,h3,_⟩:=hv;exact ⟨b,n,cap,h1,h2,h3,fun k hk=>by cases hk⟩
 ·exact first (by simp only [clB];exact Nat.ble_eq_true_of_le hk) (PK he hv)
theorem qc {n:Nat} {kept dropped new:List TkE} (ht:E.tk=kept ++ dropped) (hl:E.τ.length=E.tk.length) (dH:∀ q∈new,TkE.new q=true):∀ {l l':List DV} {vs:List Value},WeL n kept.length (kept ++ new) l l' -> RvL E l vs->RvL (E.wk n kept new) l' vs
 | [],l',vs,h,hv=>by
  simp only [WeL] at h;subst h;simp only [RvL] at hv ⊢;exact hv
 | x :: r,l',vs,h,hv=>by
  simp only [WeL] at h;obtain ⟨x',r',rfl,h1,h2⟩:=h;simp only [RvL] at hv ⊢;obtain ⟨v,s,h3,h4,h5⟩:=hv;exact ⟨v,s,h3,AM ht hl dH h1 h4,qc ht hl dH h2 h5⟩
theorem wQ (h:Rel X E st a w) {kept dropped new:List TkE} {b0 r:List (List DV)} (iM:X.m0<=kept.length/\X.n0<=b0.length/\st.tk=kept ++ dropped/\st'.tk=kept ++ new/\(∀ q∈new,TkE.new q=true)/\st.bx=b0 ++ r/\WeLL b0.length kept.length st'.tk b0 st'.bx/\oE b0.length kept.length st'.tk st.sl st'.sl):Rel X (E.wk b0.length kept new) st' a w:=by
 obtain ⟨jx,jr,ht,sa,dH,hb,kE,ll⟩:=iM;rw [sa] at kE ll;have UM:E.tk=kept ++ dropped:=by rw [h.tk,ht]
 have hbl:=kE.length;have iP:kept.length<=E.τ.length:=by rw [h.env.tl,UM];simp
 have fF:b0.length<=E.β.length:=by rw [h.env.len,hb];simp
 have hτ:∀ (k:Nat) y,(E.τ.take kept.length ++ List.replicate new.length (Value.slice none 0 0))[k]? = some y->(k < kept.length/\E.τ[k]? = some y)∨(kept.length<=k/\y = .slice none 0 0):=fun k y hy=>by
  rw [List.getElem?_append] at hy;split at hy
  ·rename_i hk;rw [List.length_take] at hk;rw [List.getElem?_take,if_pos (by omega)] at hy;exact .inl ⟨by omega,hy⟩
  ·rename_i hk;rw [List.length_take] at hk;rw [List.getElem?_replicate] at hy;split at hy
   ·simp only [oI] at hy;exact .inr ⟨by omega,hy.symm⟩
   ·cases hy
 exact {
  env:={
   len:=by simp only [En.wk,List.length_take];omega
   tl:=by simp only [En.wk,List.length_append,List.length_take,List.length_replicate];omega
   dW:=fun i cs' hi=>by
    obtain ⟨cs,cm,Zs⟩:=kE.get i cs' hi;have al:=(gS cm).1;obtain ⟨b,ty,arr,Zt,Yj,hc⟩:=h.env.dW i cs (by rw [hb,List.getElem?_append_left al];exact cm);exact ⟨b,ty,arr,by simp only [En.wk];rw [List.getElem?_take,if_pos al];exact Zt,Yj,qc UM h.env.tl dH Zs hc.1,hc.2⟩
   inj:=h.env.inj.sublist (List.take_sublist _ _)
   sub:=h.env.sub
   pc:=fun x v hx hm=>h.env.pc x v hx (List.mem_of_mem_take hm)
   cD:=fun k q y hq hy=>by
    rcases hτ k y hy with ⟨hk,gf⟩ | ⟨hk,rfl⟩
    ·have kA:(kept ++ new)[k]? = some q:=hq;rw [List.getElem?_append_left hk] at kA;rcases h.env.cD k q y (by rw [UM,List.getElem?_append_left hk];exact kA) gf with h1 | ⟨g,cap,cur,rfl,h1,h2,h3,h4,h5,h6⟩
     ·exact .inl h1
     ·exact .inr ⟨g,cap,cur,rfl,h1,h2,h3,h4,fun hm=>h5 (List.mem_of_mem_take hm),h6⟩
    ·have kA:(kept ++ new)[k]? = some q:=hq;rw [List.getElem?_append_right hk] at kA;exact .inl ⟨rfl,TkE.JO (dH q (mG kA)),TkE.PD (dH q (mG kA))⟩
   iy:=fun k k' y y' g Ad hy gf hg vS=>by
    rcases hτ k y hy with ⟨_,Ay⟩ | ⟨_,rfl⟩
    ·rcases hτ k' y' gf with ⟨_,lr⟩ | ⟨_,rfl⟩
     ·exact h.env.iy k k' y y' g Ad Ay lr hg vS
     ·simp [Value.ownBlock] at vS
    ·simp [Value.ownBlock] at hg }
  tk:=by simp only [En.wk];exact sa.symm
  sz:=h.sz
  tm:=fun i x' Ac=>by
   obtain ⟨x,hx,Zs⟩:=ti ll i x' Ac;have:=h.tm i _ hx;refine ⟨fun hh=>?_,this.2⟩;obtain ⟨v,h1,h2⟩:=this.1 hh;exact ⟨v,h1,AM UM h.env.tl dH Zs h2⟩
  df:=h.df
  nw:={
   c:=h.nw.c
   cn:=h.nw.cn
   β:=by
    obtain ⟨r2,hr,hl⟩:=h.nw.β;refine ⟨r2.take (b0.length - X.n0),?_,fun b hb=>hl b (List.mem_of_mem_take hb)⟩;simp only [En.wk];rw [hr,List.take_append,List.take_of_length_le (by rw [X.jr];omega),X.jr]
   tk:=fun j q0 y0 r8 Df=>by
    obtain ⟨q',y',h1,h2,h3⟩:=h.nw.tk j q0 y0 r8 Df;have hj:j < X.m0:=by rw [<- X.jx];exact (gS r8).1
    have RB:j < kept.length:=by omega
    exact ⟨q',y',by simp only [En.wk];rw [List.getElem?_append_left RB];rw [UM,List.getElem?_append_left RB] at h1;exact h1,by simp only [En.wk];rw [List.getElem?_append_left (by rw [List.length_take];omega),List.getElem?_take,if_pos RB];exact h2,h3⟩
   tn:=fun j y g hj hy hg=>by
    rcases hτ j y hy with ⟨_,Ay⟩ | ⟨_,rfl⟩
    ·exact h.nw.tn j y g hj Ay hg
    ·simp [Value.ownBlock] at hg
   l0:=h.nw.l0 }
  fr:=h.fr
  sh:=h.sh
  bt:=h.bt.sub _ }
theorem tj (h:Rel X E st a w) (hw:AL X.n0 X.m0 st st'):∃ E',Rel X E' st' a w:=by
 obtain ⟨_,_,_,_,_,iM⟩:=hw.all;exact ⟨_,wQ h iM⟩
theorem least {p:Nat->Prop} (h:∃ n,p n):∃ n,p n/\∀ m,p m->n<=m:=by
 obtain ⟨n,hn⟩:=h
 induction n using Nat.strongRecOn with
 | _ n ih=>
  by_cases hm:∃ m,m < n/\p m
  ·obtain ⟨m,al,hp⟩:=hm;exact ih m al hp
  ·refine ⟨n,hn,fun m hp=>?_⟩;rcases Nat.lt_or_ge m n with h1 | h1
   ·exact (hm ⟨m,h1,hp⟩).elim
   ·exact h1
theorem aq {c:Code} (I:Nat->St->Prop) (j0:Nat) (lC:St) (hw:AL X.n0 X.m0 st lC) (h0:I j0 lC)
  (hr:∀ j s,I j s->go X 4000 (.code c :: .Jq (fun s'=>∃ J9,AL X.n0 X.m0 s' J9 /\ ∃ j',j' < j/\I j' J9) :: k) s):rf X c k st:=by
 intro E a w h;obtain ⟨E0,hr0⟩:=tj h hw
 classical
 let Inv:Act->World->Prop:=fun a w=>∃ j s E,Rel X E s a w/\I j s
 let μ:Act->World->Nat:=fun a w=>if hI:Inv a w then Classical.choose (least hI) else 0
 refine wp_loop Inv μ ⟨j0,lC,E0,hr0,h0⟩ ?_;intro a1 w1 hI;have wR:=(Classical.choose_spec (least hI)).1;obtain ⟨s,E1,cj,Zu⟩:=wR;have hs:=go_sound 4000 _ _ (hr _ s Zu) E1 a1 w1 cj;rw [eB] at hs;refine wp_mono hs ?_;intro e a2 w2 hq
 cases e with
 | normal=>
  obtain ⟨s',E2,AN,J9,N9,j',gM,UN⟩:=hq;obtain ⟨E3,AO⟩:=tj AN N9;have RC:Inv a2 w2:=⟨j',J9,E3,AO,UN⟩;refine ⟨RC,?_⟩;simp only [μ,dif_pos hI,dif_pos RC];exact Nat.lt_of_le_of_lt ((Classical.choose_spec (least RC)).2 j' ⟨J9,E3,AO,UN⟩) gM
 | exit id=>exact hq
 | goto l=>exact hq
 | ret=>exact hq
 | panic c=>exact hq
 | outgrown=>exact hq
theorem ah {n m:Nat} {bR:List TkE} {x:DV} (h:clB n m x=true):We n m bR x x:=.inl ⟨rfl,h⟩
theorem ak {n m:Nat} {bR:List TkE} {kd:IntKind} {x y:Int} (h:x=y):We n m bR (.v (.int kd x)) (.v (.int kd y)):=.inl ⟨by rw [h],rfl⟩
theorem bm {n m:Nat} {bR:List TkE} {e k:Nat} {q:TkE} (h1:m<=k) (h2:bR[k]? = some q):We n m bR (.v (.slice none 0 0)) (.sl e [] (some k)):=.inr (.inl ⟨rfl,e,k,q,rfl,h1,h2⟩)
theorem cI {n m:Nat} {bR:List TkE} {e k:Nat} {es Ab:List (List DV)} (h:es=Ab) (hk:Nat.blt k m=true):We n m bR (.sl e es (some k)) (.sl e Ab (some k)):=.inl ⟨by rw [h],hk⟩
theorem ax {p:Prop} (h:p:=by repeat' (first | exact rfl | exact trivial | exact Or.inr (Or.inl ⟨_,rfl⟩) | exact Or.inr ⟨_,rfl⟩ | exact Or.inl ⟨rfl,rfl⟩ | exact Or.inl rfl | refine Or.inr ⟨_,_,rfl,Nat.zero_le _,rfl,?_⟩ | refine ⟨_,_,rfl,?_,?_⟩ | refine ⟨_,rfl,?_⟩ | refine Or.inr (Or.inr (Or.inr ⟨_,_,rfl,?_⟩)) | exact Or.inl rfl | refine Or.inr ?_)):p:=h
theorem wA {p:Prop} (h:p:=by repeat' (first | exact rfl | exact ah rfl | refine ⟨_,_,rfl,?_,?_⟩)):p:=h
theorem wB {p:Prop} (h:p:=by repeat' (first | exact trivial | exact ah rfl | refine ⟨⟨_,rfl,?_⟩,?_⟩)):p:=h
theorem weak_mk {n0 m0:Nat} {st st':St} (h1:∃ r,st.bx=st'.bx ++ r) (h2:WeLL st'.bx.length st'.tk.length st'.tk st'.bx st'.bx) (h3:st.tk=st'.tk) (h4:Nat.ble n0 st'.bx.length=true) (h5:Nat.ble m0 st'.tk.length=true)
  (h:oE st'.bx.length st'.tk.length st'.tk st.sl st'.sl):AL n0 m0 st st':=by
 obtain ⟨r,hr⟩:=h1;exact ⟨st'.tk,[],[],st'.bx,r,by simpa using h5,by simpa using h4,by simp [h3],by simp,by simp,hr,h2,h⟩
theorem ay {n0 m0:Nat} {st st':St} (n:Nat) (hn:Nat.ble n st.bx.length=true) (h2:WeLL n st'.tk.length st'.tk (st.bx.take n) st'.bx) (h3:st.tk=st'.tk) (h4:Nat.ble n0 n=true) (h5:Nat.ble m0 st'.tk.length=true)
  (h:oE n st'.tk.length st'.tk st.sl st'.sl):AL n0 m0 st st':=by
 have hl:(st.bx.take n).length=n:=by
  have:=nL hn;rw [List.length_take];omega
 exact ⟨st'.tk,[],[],st.bx.take n,st.bx.drop n,by simpa using h5,by rw [hl];simpa using h4,by simp [h3],by simp,by simp,(List.take_append_drop n st.bx).symm,by rw [hl];exact h2,by rw [hl];exact h⟩
theorem eV {n0 m0:Nat} {st st':St} (q:TkE) (hq:q.new=true) (h1:∃ r,st.bx=st'.bx ++ r) (h3:st.tk ++ [q]=st'.tk) (h2:WeLL st'.bx.length st.tk.length st'.tk st'.bx st'.bx) (h4:Nat.ble n0 st'.bx.length=true) (h5:Nat.ble m0 st.tk.length=true)
  (h:oE st'.bx.length st.tk.length st'.tk st.sl st'.sl):AL n0 m0 st st':=by
 obtain ⟨r,hr⟩:=h1;exact ⟨st.tk,[],[q],st'.bx,r,by simpa using h5,by simpa using h4,by simp,h3.symm,by simpa using hq,hr,h2,h⟩
end
end Dv
end Go.Proofs.YtfifjddnnmfeoaaGreat
namespace Go.Proofs.YtfifjddnnmfeoaaGreat
namespace Dv
theorem aL {p : Prop} (h : p := by repeat' (first | exact rfl | exact trivial | exact Or.inr (Or.inl ⟨_,rfl⟩) | exact Or.inr ⟨_,rfl⟩ | exact Or.inl ⟨rfl,rfl⟩ | exact Or.inl rfl | refine Or.inr ⟨_,_,rfl,Nat.zero_le _,rfl,?_⟩ | refine ⟨_,_,rfl,?_,?_⟩ | refine ⟨_,rfl,?_⟩ | exact ⟨nL rfl,rfl⟩ | refine Or.inr (Or.inr (Or.inr ⟨_,_,rfl,?_⟩)) | exact Or.inl rfl | refine Or.inr ?_)) : p := h
theorem aI {p : Prop} {a b : Int} (q : a=b) (h : a=b -> p := by intro q;repeat' (first | exact rfl | exact trivial | exact Or.inr (Or.inl ⟨_,rfl⟩) | exact Or.inr ⟨_,rfl⟩ | exact Or.inl ⟨rfl,rfl⟩ | exact Or.inl rfl | refine Or.inr ⟨_,_,rfl,Nat.zero_le _,rfl,?_⟩ | refine ⟨_,_,rfl,?_,?_⟩ | refine ⟨_,rfl,?_⟩ | exact congrArg (fun z=>DV.v (.int .i64 z)) q | refine Or.inr (Or.inr (Or.inr ⟨_,_,rfl,?_⟩)) | exact Or.inl rfl | refine Or.inr ?_)) : p := h q
theorem aB {p : Prop} {a b : Bool} (q : a=b) (h : a=b -> p := by intro q;repeat' (first | exact rfl | exact trivial | exact Or.inr (Or.inl ⟨_,rfl⟩) | exact Or.inr ⟨_,rfl⟩ | exact Or.inl ⟨rfl,rfl⟩ | exact Or.inl rfl | refine Or.inr ⟨_,_,rfl,Nat.zero_le _,rfl,?_⟩ | refine ⟨_,_,rfl,?_,?_⟩ | refine ⟨_,rfl,?_⟩ | exact congrArg (fun b=>DV.v (.bool b)) q | refine Or.inr (Or.inr (Or.inr ⟨_,_,rfl,?_⟩)) | exact Or.inl rfl | refine Or.inr ?_)) : p := h q
theorem C6 {p : Prop} {a b : Nat} (q : a < b) (hn : b <= 4611686018427387904 := by omega) (h : a < b -> b <= 4611686018427387904 -> p := by intro q hn;repeat' (first | exact rfl | exact ah rfl | exact ak (cA q hn) | refine ⟨_,_,rfl,?_,?_⟩)) : p := h q hn
theorem wNB {p : Prop} {a b : Nat} (q : a < b) (hn : b <= 4611686018427387904 := by omega) (h : a < b -> b <= 4611686018427387904 -> p := by intro q hn;repeat' (first | exact trivial | exact ah rfl | exact ak (cA q hn) | refine ⟨⟨_,rfl,?_⟩,?_⟩)) : p := h q hn
theorem F1 {p r : Prop} {a b : Nat} (q : a < b) (s : r) (hn : b <= 4611686018427387904 := by omega) (h : a < b -> b <= 4611686018427387904 -> r -> p := by intro q hn s;repeat' (first | exact rfl | exact ah rfl | exact ak (cA q hn) | exact cI s rfl | refine ⟨_,_,rfl,?_,?_⟩)) : p := h q hn s
theorem yF {p r : Prop} {a b : Nat} (q : a < b) (s : r) (hn : b <= 4611686018427387904 := by omega) (h : a < b -> b <= 4611686018427387904 -> r -> p := by intro q hn s;repeat' (first | exact trivial | exact ah rfl | exact ak (cA q hn) | exact cI s rfl | refine ⟨⟨_,rfl,?_⟩,?_⟩)) : p := h q hn s
theorem Ah {p : Prop} (h : p := by repeat' (first | exact trivial | exact ah rfl | exact bm (Nat.le_refl _) rfl | refine ⟨⟨_,rfl,?_⟩,?_⟩)) : p := h
theorem wTA {p : Prop} (h : p := by repeat' (first | exact rfl | exact ah rfl | exact bm (Nat.le_refl _) rfl | refine ⟨_,_,rfl,?_,?_⟩)) : p := h
theorem F2 {p : Prop} (h : p := by repeat' (first | exact trivial | exact ah rfl | exact ak rfl | refine ⟨⟨_,rfl,?_⟩,?_⟩)) : p := h
theorem wRA {p : Prop} (h : p := by repeat' (first | exact rfl | exact ah rfl | exact ak rfl | refine ⟨_,_,rfl,?_,?_⟩)) : p := h
end Dv
end Go.Proofs.YtfifjddnnmfeoaaGreat
namespace Go.Proofs.YtfifjddnnmfeoaaGreat
namespace Dv
open Go
section
variable {P:Program} {ops:Array Oper} {C:World->Prop} {Q:Act->World->Prop} {W:Nat->Bool} {π:Nat->Nat}
theorem UO {o:Oper} {a:Act} {w:World} {K:Act->World->Prop} (h:wq P o a w K):∃ v w',K (a.put o.dst v) w':=by
 unfold wq at h;split at h
 ·exact ⟨_,_,h⟩
 ·exact ⟨_,_,h⟩
 ·obtain ⟨e,w',fr,⟨v,_,hv⟩,_⟩:=h [];exact ⟨v,w',hv⟩
 ·exact h.elim
theorem RD {x y:Oper} {v:Value} (TQ:x.apart ops y=true) (hs:∀ cs b,y.op ≠ .select cs b) {a:Act} {w:World} {K:Act->World->Prop} :
  wq P y (a.put x.dst v) w K↔wq P y a w (fun a' w'=>K (a'.put x.dst v) w'):=by
 obtain ⟨h1,h2,h3⟩:=Oper.apart_spec TQ;unfold wq;rw [execOp_put y hs a x.dst v h1];have hc:∀ u,(a.put x.dst v).put y.dst u=(a.put y.dst u).put x.dst v:=fun u=>Act.put_comm a v u h2
 cases (execOp a.eval y).run P w with
 | halt h w'=>rfl
 | ok n w'=>cases n<;>simp [hc]
def Yl (P:Program) (ops:Array Oper) (C:World->Prop) (o:Oper) (v:Value) (a:Act):Prop:=
 (Region.wanted o (yielded ops a.tmps)=true/\∀ w,(pY o.op=true->C w)->(execOp a.eval o).run P w = .ok (.value v) w) ∨
 (Region.wanted o (yielded ops a.tmps)=false/\v=undef)
theorem Yl.same {x y:Oper} {v u:Value} (TQ:x.apart ops y=true) (hs:∀ cs b,y.op ≠ .select cs b) {a:Act}:Yl P ops C y v (a.put x.dst u)↔Yl P ops C y v a:=by
 obtain ⟨h1,h2,h3⟩:=Oper.apart_spec TQ;unfold Yl;rw [execOp_put y hs a x.dst u h1,wanted_put y a x.dst u h1]
def ek (P:Program) (ops:Array Oper) (o:Oper) (a:Act) (w:World) (K:Act->World->Prop):Prop:=
 if Region.wanted o (yielded ops a.tmps)=true then wq P o a w K else K (a.put o.dst undef) w
theorem iQ {o:Oper} {a:Act} {w:World} {K K':Act->World->Prop} (hk:∀ a w,K a w->K' a w) (h:ek P ops o a w K):ek P ops o a w K':=by
 unfold ek at *;split<;>rename_i hw
 ·rw [if_pos hw] at h;exact kC hk h
 ·rw [if_neg hw] at h;exact hk _ _ h
theorem wS {x y:Oper} {v:Value} (TQ:x.apart ops y=true) (hs:∀ cs b,y.op ≠ .select cs b) {a:Act} {w:World} {K:Act->World->Prop} :
  ek P ops y (a.put x.dst v) w K↔ek P ops y a w (fun a' w'=>K (a'.put x.dst v) w'):=by
 obtain ⟨h1,h2,h3⟩:=Oper.apart_spec TQ;unfold ek;rw [wanted_put y a x.dst v h1];split
 ·exact RD TQ hs
 ·rw [Act.put_comm a v undef h2]
theorem Ka {o:Oper} {a:Act} {w:World} {K:Act->World->Prop} (h:ek P ops o a w K):∃ v w',K (a.put o.dst v) w':=by
 unfold ek at h;split at h
 ·exact UO h
 ·exact ⟨_,_,h⟩
theorem tp {o:Oper} {a:Act} {w:World} {K:Act->World->Prop} (h:ek P ops o a w K):ek P ops o a w (fun a' w'=>K a' w' /\ ∃ u,a'=a.put o.dst u):=by
 unfold ek at *;split<;>rename_i hw
 ·rw [if_pos hw] at h;unfold wq at *;split at h
  ·rename_i hr;exact ⟨h,_,rfl⟩
  ·rename_i hr;exact ⟨h,_,rfl⟩
  ·rename_i hr;refine h.mono ?_;rintro e w' ⟨v,rfl,hv⟩;exact ⟨v,rfl,hv,v,rfl⟩
  ·exact h.elim
 ·rw [if_neg hw] at h;exact ⟨h,_,rfl⟩
theorem lL {o:Oper} {a:Act} {w:World} {v:Value} {K:Act->World->Prop} (hy:Yl P ops C o v a) (hc:pY o.op=true->C w) (hk:K (a.put o.dst v) w):ek P ops o a w K:=by
 unfold ek;rcases hy with ⟨hw,hv⟩ | ⟨hw,rfl⟩
 ·rw [if_pos hw];unfold wq;rw [hv w hc];exact hk
 ·rw [if_neg (by simp [hw])];exact hk
theorem lM {o:Oper} {a:Act} {w:World} {v:Value} {K:Act->World->Prop} (hy:Yl P ops C o v a) (hc:pY o.op=true->C w) (h:ek P ops o a w K):K (a.put o.dst v) w:=by
 unfold ek at h;rcases hy with ⟨hw,hv⟩ | ⟨hw,rfl⟩
 ·rw [if_pos hw] at h;unfold wq at h;rw [hv w hc] at h;exact h
 ·rw [if_neg (by simp [hw])] at h;exact h
def runT (P:Program) (ops:Array Oper) (W:Nat->Bool) (C:World->Prop) (Q:Act->World->Prop):List Nat->Act->World->Prop
 | [],a,w=>Q a w
 | i :: r,a,w=>
  match ops[i]? with
  | none=>False
  | some o=>
   if pX o.op=true then ek P ops o a w fun a' w'=>(W i=false->C w->C w')/\runT P ops W C Q r a' w'
   else ∃ v,Yl P ops C o v a/\(pY o.op=true->C w)/\runT P ops W C Q r (a.put o.dst v) w
def oF (ops:Array Oper) (W:Nat->Bool) (j i:Nat):Bool:=
 match ops[j]?,ops[i]? with
 | some x,some y=>x.apart ops y && y.apart ops x && !(pX x.op && pX y.op) && !(pY x.op && W i)
 | _,_=>false
def Kb (ops:Array Oper) (l:List Nat):Prop:=∃ i o,i∈l/\ops[i]? = some o/\pY o.op=true
theorem iR {j i:Nat} {x y:Oper} (h:oF ops W j i=true) (hj:ops[j]? = some x) (hi:ops[i]? = some y) :
  x.apart ops y=true/\y.apart ops x=true/\¬ (pX x.op=true/\pX y.op=true)/\¬ (pY x.op=true/\W i=true):=by
 unfold oF at h;rw [hj,hi] at h;simp only [Bool.and_eq_true,Bool.not_eq_true',Bool.and_eq_false_iff] at h;refine ⟨h.1.1.1,h.1.1.2,?_,?_⟩
 ·rintro ⟨h1,h2⟩;rcases h.1.2 with h3 | h3<;>simp_all
 ·rintro ⟨h1,h2⟩;rcases h.2 with h3 | h3<;>simp_all
theorem nH (lN:∀ (j:Nat) (o:Oper) cs b,ops[j]? = some o->o.op ≠ .select cs b) {i:Nat} {o:Oper} (hi:ops[i]? = some o) (hR:pX o.op=false) :
  ∀ (rem:List Nat) (a:Act) (w:World),runT P ops W C Q rem a w->i∈rem->(∀ j∈rem,j≠i->π j < π i->oF ops W j i=true)->rem.Pairwise (fun a b=>π a < π b)->∃ v,Yl P ops C o v a
 | [],_,_,_,hm,_,_=>by cases hm
 | h :: rem,a,w,hr,hm,Oa,hp=>by
  simp only [runT] at hr;by_cases nh:h=i
  ·subst nh;rw [hi] at hr;simp only [hR,Bool.false_eq_true,if_false] at hr;obtain ⟨v,hy,_⟩:=hr;exact ⟨v,hy⟩
  ·have rk:i∈rem:=by
    rcases List.mem_cons.1 hm with e | e
    ·exact (nh e.symm).elim
    ·exact e
   have al:π h < π i:=(List.pairwise_cons.1 hp).1 i rk;split at hr
   ·exact hr.elim
   ·rename_i x hx;obtain ⟨UP,Zv,_,_⟩:=iR (Oa h (by simp) nh al) hx hi;have ih:=fun a w hr=>nH lN hi hR rem a w hr rk (fun j hj=>Oa j (List.mem_cons_of_mem _ hj)) (List.pairwise_cons.1 hp).2;split at hr
    ·obtain ⟨u,w',_,kr⟩:=Ka hr;obtain ⟨v,hy⟩:=ih _ _ kr;exact ⟨v,(Yl.same UP (fun cs b=>lN i o cs b hi)).1 hy⟩
    ·obtain ⟨u,_,_,kr⟩:=hr;obtain ⟨v,hy⟩:=ih _ _ kr;exact ⟨v,(Yl.same UP (fun cs b=>lN i o cs b hi)).1 hy⟩
theorem wT {h:Nat} {rem:List Nat} (hl:Kb ops rem):Kb ops (h :: rem):=by
 obtain ⟨i,o,hm,ho,hL⟩:=hl;exact ⟨i,o,List.mem_cons_of_mem _ hm,ho,hL⟩
theorem iS (lN:∀ (j:Nat) (o:Oper) cs b,ops[j]? = some o->o.op ≠ .select cs b) (NI:∀ j i x y,π j < π i->ops[i]? = some x->ops[j]? = some y->pY x.op=true->W j=false) {i:Nat} {o:Oper} (hi:ops[i]? = some o) :
  ∀ (rem:List Nat) (a:Act) (w:World),(Kb ops rem->C w)->runT P ops W C Q rem a w->i∈rem->(∀ j∈rem,j≠i->π j < π i->oF ops W j i=true)->rem.Pairwise (fun a b=>π a < π b) ->
   ek P ops o a w (fun a' w'=>(W i=false->C w->C w')/\runT P ops W C Q (rem.erase i) a' w')
 | [],_,_,_,_,hm,_,_=>by cases hm
 | h :: rem,a,w,hC,hr,hm,Oa,hp=>by
  by_cases nh:h=i
  ·subst nh;rw [List.erase_cons_head];simp only [runT,hi] at hr;split at hr
   ·exact hr
   ·obtain ⟨v,hy,hc,kr⟩:=hr;exact lL hy hc ⟨fun _ h=>h,kr⟩
  ·have rk:i∈rem:=by
    rcases List.mem_cons.1 hm with e | e
    ·exact (nh e.symm).elim
    ·exact e
   have al:π h < π i:=(List.pairwise_cons.1 hp).1 i rk;have oG:=(List.pairwise_cons.1 hp).2;rw [List.erase_cons_tail (by simpa using nh)];have hr0:=hr;simp only [runT] at hr;split at hr
   ·exact hr.elim
   ·rename_i x hx;obtain ⟨UP,Zv,hEE,hLW⟩:=iR (Oa h (by simp) nh al) hx hi;have hsx:=fun cs b=>lN h x cs b hx;have RE:=fun cs b=>lN i o cs b hi;have UQ:∀ j∈rem,j≠i->π j < π i->oF ops W j i=true:=fun j hj=>Oa j (List.mem_cons_of_mem _ hj);split at hr
    ·-- the head has an effect: so o has none
     rename_i Yp
     have Zw:pX o.op=false:=by
      cases he:pX o.op
      ·rfl
      ·exact (hEE ⟨Yp,he⟩).elim
     obtain ⟨v,hy⟩:=nH (π:=π) lN hi Zw (h :: rem) a w hr0 hm Oa hp;have hci:pY o.op=true->C w:=fun hL=>hC ⟨i,o,hm,hi,hL⟩;refine lL hy hci ⟨fun _ h=>h,?_⟩;simp only [runT,hx,Yp,if_true];refine (wS Zv hsx).2 ?_;refine iQ ?_ (tp hr);rintro a' w' ⟨⟨HI,kr⟩,u,rfl⟩;refine ⟨HI,?_⟩
     have Yq:Kb ops rem->C w':=by
      intro hl;have wU:=hl;obtain ⟨l,z,hlm,hz,hL⟩:=hl;exact HI (NI h l z x ((List.pairwise_cons.1 hp).1 l hlm) hz hx hL) (hC (wT wU))
     have ih:=iS lN NI hi rem _ w' Yq kr rk UQ oG;have gf:=(Yl.same (u:=u) UP RE).2 hy;exact (lM gf (fun hL=>Yq ⟨i,o,rk,hi,hL⟩) ih).2
    ·rename_i Yp;obtain ⟨v,hy,hc,kr⟩:=hr;have ih:=iS lN NI hi rem (a.put x.dst v) w (fun hl=>hC (wT hl)) kr rk UQ oG;refine iQ ?_ (tp ((wS UP RE).1 ih));rintro a' w' ⟨⟨HI,ko⟩,u,rfl⟩;refine ⟨HI,?_⟩;simp only [runT,hx];rw [if_neg Yp];refine ⟨v,?_,fun hL=>?_,ko⟩
     ·exact (Yl.same (u:=u) Zv hsx).2 hy
     ·have hWi:W i=false:=by
       cases hw:W i
       ·rfl
       ·exact (hLW ⟨hL,hw⟩).elim
      exact HI hWi (hc hL)
def ordB (ops:Array Oper):Nat->Nat->Nat->Bool
 | 0,_,_=>false
 | n + 1,j,i=>
  match ops[i]? with
  | some o=>o.after.toList.any fun e=>Region.binds .any e && (Nat.beq e.on j || ordB ops n j e.on)
  | none=>false
def sf (ops:Array Oper) (W:Nat->Bool) (π:Nat->Nat):Bool:=
 Region.noSelect ops &&
 (List.range ops.size).all fun i=>
  match ops[i]? with
   | some o=>o.after.toList.all (fun e=>!Region.binds .any e || (Nat.blt (π e.on) (π i) && Nat.blt e.on ops.size)) && (!pY o.op || (List.range ops.size).all fun j=>!Nat.blt (π j) (π i) || !W j)
   | none=>false
def AP (ops:Array Oper) (W:Nat->Bool) (π:Nat->Nat) (ex:Nat->Nat->Bool):Bool:=
 (List.range ops.size).all fun i=>(List.range ops.size).all fun j=>!Nat.blt (π j) (π i) || ex j i || ordB ops ops.size j i || oF ops W j i
def UR:Nat->Nat->Bool:=fun _ _=>false
def Kc (ops:Array Oper) (W:Nat->Bool):Bool:=sf ops W (fun i=>i) && AP ops W (fun i=>i) UR
def Dn (ops:Array Oper) (bc:Array Bool):Prop:=
 ∀ i o,ops[i]? = some o->bc.getD i true=true->∀ e∈o.after,Region.binds .any e=true->bc.getD e.on false=true
theorem lO {bc:Array Bool} (hd:Dn ops bc):∀ (n:Nat) (j i:Nat) (o:Oper),ops[i]? = some o->(∀ e∈o.after,Region.binds .any e=true->bc.getD e.on false=true)->ordB ops n j i=true->bc.getD j false=true
 | 0,j,i,o,_,_,h=>by simp [ordB] at h
 | n + 1,j,i,o,ho,iM,h=>by
  simp only [ordB,ho,List.any_eq_true,Bool.and_eq_true,Bool.or_eq_true] at h;obtain ⟨e,he,hb,hj⟩:=h;have Ob:e∈o.after:=by simpa using he
  have h1:=iM e Ob hb;rcases hj with hj | hj
  ·have:e.on=j:=by simpa using hj
   rw [<- this];exact h1
  ·cases Zx:ops[e.on]? with
   | none=>
    cases n with
    | zero=>simp [ordB] at hj
    | succ n=>simp [ordB,Zx] at hj
   | some o'=>
    have hg:bc.getD e.on true=true:=by
     rcases Nat.lt_or_ge e.on bc.size with h' | h'
     ·simp [h'] at h1 ⊢;exact h1
     ·simp [Array.getElem?_eq_none h'] at h1
    exact lO hd n j e.on o' Zx (hd e.on o' Zx hg) hj
theorem yG (hc:sf ops W π=true):∀ j i x y,π j < π i->ops[i]? = some x->ops[j]? = some y->pY x.op=true->W j=false:=by
 simp only [sf,Bool.and_eq_true,List.all_eq_true,List.mem_range] at hc;intro j i x y PI hx hy hL;have hj:=(Array.getElem?_eq_some_iff.1 hy).1;have:=hc.2 i (Array.getElem?_eq_some_iff.1 hx).1;simp only [hx,Bool.and_eq_true,Bool.or_eq_true,hL,Bool.not_true,Bool.false_eq_true,false_or,List.all_eq_true,List.mem_range,Bool.not_eq_true'] at this;rcases this.2 j hj with h1 | h1
 ·have:¬ Nat.blt (π j) (π i)=true:=by simp [h1]
  simp at this;omega
 ·exact h1
theorem wV (hc:sf ops W π=true):∀ i x,ops[i]? = some x->∀ e∈x.after,Region.binds .any e=true->π e.on < π i/\e.on < ops.size:=by
 simp only [sf,Bool.and_eq_true,List.all_eq_true,List.mem_range] at hc;intro i x hx e he hb;have:=hc.2 i (Array.getElem?_eq_some_iff.1 hx).1;simp only [hx,Bool.and_eq_true,List.all_eq_true,Bool.or_eq_true] at this;have h2:=this.1 e (by simpa using he);rw [hb] at h2;simpa using h2
theorem AQ (hc:sf ops W π=true):∀ (j:Nat) (o:Oper) cs b,ops[j]? = some o->o.op ≠ .select cs b:=by
 simp only [sf,Bool.and_eq_true] at hc;exact Region.noSelect_spec hc.1
theorem yH:∀ {l:List Nat},l.Pairwise (fun a b=>π a < π b)->∀ {x y:Nat},x∈l->y∈l->x≠y->π x < π y∨π y < π x
 | [],_,x,y,hx,_,_=>by cases hx
 | h :: r,hp,x,y,hx,hy,aR=>by
  have oG:=List.pairwise_cons.1 hp;rcases List.mem_cons.1 hx with e1 | e1
  ·rcases List.mem_cons.1 hy with e2 | e2
   ·exact (aR (e1.trans e2.symm)).elim
   ·subst e1;exact .inl (oG.1 _ e2)
  ·rcases List.mem_cons.1 hy with e2 | e2
   ·subst e2;exact .inr (oG.1 _ e1)
   ·exact yH oG.2 e1 e2 aR
theorem nI {Q':Exit->Act->World->Prop} (ex:Nat->Nat->Bool) (Zy:sf ops W π=true) (hcS:AP ops W π ex=true) (hQ:∀ a w,Q a w->Q' .normal a w):∀ (oH:Nat) (bc:Array Bool) (rem:List Nat) (a:Act) (w:World),
  bc.size=ops.size->Dn ops bc->(∀ i,i∈rem↔i < ops.size/\bc.getD i true=false)->rem.Pairwise (fun a b=>π a < π b)->rem.length<=oH->(∀ j∈rem,∀ i∈rem,ex j i=false)->(Kb ops rem->C w)->runT P ops W C Q rem a w ->
   wpAny P .any ops Q' oH bc a w:=by
 have lN:=AQ Zy;have NI:=yG Zy;have Kd:=wV Zy;simp only [AP,List.all_eq_true,List.mem_range,Bool.or_eq_true,Bool.not_eq_true'] at hcS;intro oH
 induction oH with
 | zero=>
  intro bc rem a w bI RF tq hp hlen hex hC hr;have:rem=[]:=List.length_eq_zero_iff.1 (by omega);subst this;refine ⟨?_,hQ _ _ hr⟩;rw [List.eq_nil_iff_forall_not_mem];intro i hi;have:=(mem_ready.1 hi);obtain ⟨h1,o,ho,_⟩:=this;have:=(tq i).2 ⟨(Array.getElem?_eq_some_iff.1 ho).1,h1⟩;cases this
 | succ oH ih=>
  intro bc rem a w bI RF tq hp hlen hex hC hr
  have RG:∀ i,i∈Region.ready .any ops bc->i∈rem:=by
   intro i hi;obtain ⟨h1,o,ho,_⟩:=mem_ready.1 hi;exact (tq i).2 ⟨(Array.getElem?_eq_some_iff.1 ho).1,h1⟩
  refine ⟨fun h0=>?_,fun i hi=>?_⟩
  ·cases rem with
   | nil=>exact hQ _ _ hr
   | cons h rem=>
    have hh:=(tq h).1 (by simp);have hx:ops[h]? = some ops[h]:=Array.getElem?_eq_getElem hh.1
    have:h∈Region.ready .any ops bc:=by
     refine mem_ready.2 ⟨hh.2,_,hx,fun e he hb=>?_⟩;obtain ⟨al,Dq⟩:=Kd h _ hx e he hb;cases hg:bc.getD e.on false
     ·have C7:bc.getD e.on true=false:=by
       have:e.on < bc.size:=by rw [bI];omega
       simp [this] at hg ⊢;exact hg
      have hm:=(tq e.on).2 ⟨by omega,C7⟩;rcases List.mem_cons.1 hm with e1 | e1
      ·rw [e1] at al;omega
      ·have:=(List.pairwise_cons.1 hp).1 _ e1;omega
     ·rfl
    rw [h0] at this;cases this
  ·have Jy:=RG i hi;obtain ⟨Ai,o,ho,iM⟩:=mem_ready.1 hi;have dF:=(Array.getElem?_eq_some_iff.1 ho).1
   have Oa:∀ j∈rem,j≠i->π j < π i->oF ops W j i=true:=by
    intro j hj _ al;rcases hcS i dF j ((tq j).1 hj).1 with ((h1 | h1) | h1) | h1
    ·have:¬ Nat.blt (π j) (π i)=true:=by simp [h1]
     simp at this;omega
    ·rw [hex j hj i Jy] at h1;cases h1
    ·have h2:=lO RF _ _ _ _ ho iM h1;have h3:=((tq j).1 hj).2;have:j < bc.size:=by rw [bI];exact ((tq j).1 hj).1
     simp [this] at h2 h3;rw [h2] at h3;cases h3
    ·exact h1
   have aS:=iS lN NI ho rem a w hC hr Jy Oa hp;have hnd:rem.Nodup:=oh hp
   have key:∀ a' w',((W i=false->C w->C w')/\runT P ops W C Q (rem.erase i) a' w')->wpAny P .any ops Q' oH (bc.setIfInBounds i true) a' w':=by
    rintro a' w' ⟨HI,kr⟩;refine ih (bc.setIfInBounds i true) (rem.erase i) a' w' (by simp [bI]) ?_ ?_ (hp.sublist List.erase_sublist) (by rw [List.length_erase_of_mem Jy];omega) (fun j hj i hi=>hex j (List.mem_of_mem_erase hj) i (List.mem_of_mem_erase hi)) ?_ kr
    ·intro k x hx hk e he hb;by_cases oy:k=i
     ·subst oy;rw [ho] at hx;simp only [oI] at hx;subst hx;exact getD_set_true (iM e he hb)
     ·rw [getD_set_ne true (Ne.symm oy)] at hk;exact getD_set_true (RF k x hx hk e he hb)
    ·intro k;rw [List.Nodup.mem_erase_iff hnd];by_cases oy:k=i
     ·subst oy;simp [bI,dF]
     ·rw [getD_set_ne true (Ne.symm oy)];simp only [ne_eq,oy,not_false_eq_true,true_and];exact tq k
    ·rintro ⟨l,z,hl,hz,hL⟩;have wU:=List.mem_of_mem_erase hl;have aR:l≠i:=fun e=>by subst e;exact (List.Nodup.mem_erase_iff hnd).1 hl |>.1 rfl
     have US:=hC ⟨l,z,wU,hz,hL⟩;refine HI ?_ US;rcases Nat.lt_or_ge (π i) (π l) with h1 | h1
     ·exact NI i l z o h1 hz ho hL
     ·have h0:π l≠π i:=by
       intro he;rcases yH hp wU Jy aR with h2 | h2<;>omega
      have:=Oa l wU aR (by omega);obtain ⟨_,_,_,h4⟩:=iR this hz ho;cases hw:W i
      ·rfl
      ·exact (h4 ⟨hL,hw⟩).elim
   unfold wpOp;rw [ho];simp only;unfold ek at aS;split
   ·rename_i hw;rw [if_pos hw] at aS;exact .inl (AB (kC key aS))
   ·rename_i hw;rw [if_neg hw] at aS;exact key _ _ aS
theorem jO {id:Nat} {Q':Exit->Act->World->Prop} {a:Act} {w:World} (hm:P.follows .mixedOrders=true) (hc:Kc ops W=true) (hQ:∀ a w,Q a w->Q' .normal a w)
  (hC:C w.drew) (h:runT P ops W C Q (List.range ops.size) a w.drew):(Code.region id ops true).wp P Q' a w:=by
 refine wp_region_any hm ?_;simp only [Kc,Bool.and_eq_true] at hc;refine nI (π:=fun i=>i) UR hc.1 hc.2 hQ ops.size (Array.replicate ops.size false) (List.range ops.size) a _ (by simp) ?_ ?_ List.pairwise_lt_range (by simp) (fun _ _ _ _=>rfl) (fun _=>hC) h
 ·intro i o ho hl;have:i < ops.size:=(Array.getElem?_eq_some_iff.1 ho).1;simp [this] at hl
 ·intro i;simp only [List.mem_range];constructor
  ·intro hi;exact ⟨hi,by simp [hi]⟩
  ·intro hi;exact hi.1
end
end Dv
end Go.Proofs.YtfifjddnnmfeoaaGreat
namespace Go.Proofs.YtfifjddnnmfeoaaGreat
namespace Dv
open Go Go.RowKit
structure Dr where
 ops:Array Oper
 W:Nat->Bool
 k:List It
 lC:St
 fin:Option (Bool->List (Nat × Sl)->St->Prop)
structure Dw where
 d:Dr
 E0:En
 wr:World
structure CC (E0:En) (bx:List (List DV)) (wr w:World):Prop where
 o:∀ (i:Nat) b cs,E0.β[i]? = some b->bx[i]? = some cs->cs ≠ []->w.heap[b]? = wr.heap[b]?
 c:∀ x v,E0.c x=some v->w.cell? x=some v
abbrev Dw.C (D:Dw) (w:World):Prop:=CC D.E0 D.d.lC.bx D.wr w
structure tu (E:En) (bx:List (List DV)) (w:World):Prop where
 len:E.β.length=bx.length
 dW:∀ (i:Nat) cs,bx[i]? = some cs->cs ≠ []->∃ b ty arr,E.β[i]? = some b/\w.heap[b]? = some (.cells (List.toArray arr) ty (0,0))/\RvC E cs arr
theorem Env.em {E:En} {bx:List (List DV)} {w:World} (h:Env E bx w):tu E bx w:=⟨h.len,fun i cs hi _=>h.dW i cs hi⟩
def UT:Option (List DV)->Bool
 | some []=>true
 | _=>false
theorem Oc {o:Option (List DV)} (h:UT o=true):o=some []:=by
 cases o with
 | none=>cases h
 | some l=>
  cases l with
  | nil=>rfl
  | cons _ _=>cases h
def Dw.wc (D:Dw) (E:En):En:=⟨D.E0.c,E.β,E.tk,E.τ⟩
structure fG (X:Ctx) (D:Dw) (c:Bool) (E:En) (s0:List (Nat × Sl)) (st:St) (a:Act) (w:World):Prop where
 rel:Rel X E st a w
 x:Ext D.E0 E
 β:∃ r,E.β=D.E0.β ++ r
 t0:∀ i x,get s0 i=some x->(Holds a.tmps x.gs->∃ v,a.tmps[i]? = some v/\Rv (D.wc E) x.s v)/\(¬ Holds a.tmps x.gs->a.tmps[i]? = some undef)
 cc:c=true->D.C w
def Dw.Q (D:Dw) (X:Ctx) (a:Act) (w:World):Prop:=
 match D.d.fin with
 | none=>kq X D.d.k .normal a w
 | some F=>∃ c E s0 st,fG X D c E s0 st a w/\F c s0 st
def delF {γ:Type _} (d:Nat):List (Nat × Sl)->(List (Nat × Sl)->γ)->γ
 | [],K=>K []
 | p :: r,K=>
  match Nat.beq p.1 d with
  | true=>delF d r K
  | false=>delF d r (fun r'=>K (p :: r'))
theorem oJ {γ:Type _} (d:Nat):∀ (l:List (Nat × Sl)) (K:List (Nat × Sl)->γ),delF d l K=K (l.filter fun p=>!Nat.beq p.1 d)
 | [],K=>rfl
 | p :: r,K=>by
  simp only [delF,List.filter_cons];cases h:Nat.beq p.1 d
  ·simp only [Bool.not_false,if_true];rw [oJ d r]
  ·simp only [Bool.not_true,Bool.false_eq_true,if_false];rw [oJ d r K]
theorem get_filter (d:Nat):∀ (l:List (Nat × Sl)) (i:Nat) (x:Sl),get (l.filter fun p=>!Nat.beq p.1 d) i=some x->i≠d/\get l i=some x
 | [],i,x,h=>by cases h
 | (k,y) :: r,i,x,h=>by
  simp only [List.filter_cons] at h;split at h
  ·rename_i hk
   have hk:k≠d:=by
    rintro rfl;simp at hk
   simp only [cQ] at h ⊢;split at h
   ·rename_i oy;subst oy;exact ⟨hk,by rw [if_pos rfl];exact h⟩
   ·rename_i oy;rw [if_neg oy];exact get_filter d r i x h
  ·rename_i hk;have hk:k=d:=by simpa using hk
   obtain ⟨h1,h2⟩:=get_filter d r i x h;refine ⟨h1,?_⟩;simp only [cQ];rw [if_neg (by omega)];exact h2
def scal:DV->Bool
 | .v _=>true
 | .ud=>true
 | .loc _ _=>true
 | .el _ _=>true
 | _=>false
def put2 (s0:List (Nat × Sl)) (st:St) (dst:Option Nat) (b:Bool) (gs:List (Nat × Bool)) (s:DV) (K:List (Nat × Sl)->St->Prop):Prop:=
 match dst with
 | none=>K s0 st
 | some d=>
  match st with
  | ⟨sl,bx,tk⟩=>
   match b || scal s with
   | true=>K ((d,⟨gs,s⟩) :: s0) ⟨(d,⟨gs,s⟩) :: sl,bx,tk⟩
   | false=>delF d s0 fun hY=>K hY ⟨(d,⟨gs,s⟩) :: sl,bx,tk⟩
def optP:Option Prop->Prop
 | some p=>p
 | none=>False
def pR (X:Ctx) (D:Dr) (c:Bool) (s0:List (Nat × Sl)) (st:St) (G:List (Nat × Bool)) (op:Op):Option (Bool × DV):=
 match !pX op && (!pY op || c) with
 | false=>none
 | true=>
  match pureT X.P X.T ⟨s0,D.lC.bx,[]⟩ G op with
  | some s=>some (true,s)
  | none=>
   match pY op with
   | true=>none
   | false=>
    match pureT X.P X.T ⟨st.sl,[],[]⟩ G op with
    | some s=>some (false,s)
    | none=>none
def eR (X:Ctx) (D:Dr) (c:Bool) (s0:List (Nat × Sl)) (st:St) (op:Op) (K:Bool->DV->Prop):Option Prop:=
 match pX op with
 | true=>none
 | false=>
  match pY op with
  | true=>
   match c with
   | true=>effR X ⟨s0,D.lC.bx,[]⟩ op (K true)
   | false=>none
  | false=>
   match effR X ⟨s0,[],[]⟩ op (K true) with
   | some p=>some p
   | none=>effR X ⟨st.sl,[],[]⟩ op (K false)
def AR (X:Ctx) (D:Dr) (c:Bool) (i:Nat) (l:List (Nat × Oper)) (f:FuncId) (args:List DV) (dst:Option Nat) (s0:List (Nat × Sl)) (st:St):Prop:=
 Go.Proofs.Enters X.P f/\((∀ p∈l,D.ops[p.1]? = some p.2)->∀ (E0:En) (wr:World),tu E0 D.lC.bx wr->∀ E a w vs,fG X ⟨D,E0,wr⟩ c E s0 st a w->RvL E args vs->Calls X.P f vs.toArray w fun e w'=>∃ v,e = .returned v /\
  (D.W i=false->CC E0 D.lC.bx wr w->CC E0 D.lC.bx wr w')/\runT X.P D.ops D.W (CC E0 D.lC.bx wr) (Dw.Q ⟨D,E0,wr⟩ X) (l.map (·.1)) (a.put dst v) w')
def OpD (X:Ctx) (D:Dr) (c:Bool) (i:Nat) (l:List (Nat × Oper)) (o:Oper) (s0:List (Nat × Sl)) (st:St):Prop:=
 (∀ p∈l,D.ops[p.1]? = some p.2)->∀ (E0:En) (wr:World),tu E0 D.lC.bx wr->∀ E a w,fG X ⟨D,E0,wr⟩ c E s0 st a w->wq X.P o a w fun a' w'=>
  (D.W i=false->CC E0 D.lC.bx wr w->CC E0 D.lC.bx wr w')/\runT X.P D.ops D.W (CC E0 D.lC.bx wr) (Dw.Q ⟨D,E0,wr⟩ X) (l.map (·.1)) a' w'
def effE (X:Ctx) (D:Dr) (c:Bool) (i:Nat) (l:List (Nat × Oper)) (o:Oper) (s0:List (Nat × Sl)) (st:St) (K:Bool->List (Nat × Sl)->St->Prop):Prop:=
 match o.op with
 | .store t x y=>
  match o.dst with
  | some _=>False
  | none=>
   match D.W i with
   | true=>optP (effC X st o (K false s0))
   | false=>
    match stObj st o.op with
    | some j=>
     match Nat.ble D.lC.bx.length j || UT D.lC.bx[j]? with
     | true=>optP (effC X st o (K c s0))
     | false=>False
    | none=>False
 | .call cl=>
  match cl.callee with
  | .value f=>
   match rv st [] f,argsV st [] cl.args.toList with
   | some (.fn g first captured),some vs=>AR X D c i l g (first ++ vs ++ captured) o.dst s0 st
   | _,_=>False
  | _=>
   match o.dst with
   | some d=>optP (effC X st o fun st'=>delF d s0 fun hY=>K c hY st')
   | none=>False
 | _=>
  match o.dst with
  | some d=>
   match effC X st o fun st'=>
    match get st'.sl d with
    | some ⟨[],.loc j off⟩=>K c ((d,⟨[],.loc j off⟩) :: s0) st'
    | _=>delF d s0 fun hY=>K c hY st' with
   | some p=>p
   | none=>OpD X D c i l o s0 st
  | none=>False
def goD (X:Ctx) (D:Dr):Nat->Bool->List (Nat × Oper)->List (Nat × Sl)->St->Prop
 | _,c,[],s0,st=>
  match D.fin with
  | none=>go X 4000 D.k st
  | some F=>F c s0 st
 | 0,_,_ :: _,_,_=>False
 | n + 1,c,(i,o) :: r,s0,st=>
  match eT X.nt st.sl o.dst && eT X.nt s0 o.dst with
  | false=>False
  | true=>
   match o.guard with
   | none=>
    match pX o.op with
    | true=>effE X D c i r o s0 st fun c' hY st'=>goD X D n c' r hY st'
    | false=>
     match pR X D c s0 st [] o.op with
     | some (b,s)=>put2 s0 st o.dst b [] s (goD X D n c r)
     | none=>optP (eR X D c s0 st o.op fun b s=>put2 s0 st o.dst b [] s (goD X D n c r))
   | some (j,want)=>
    match gslot D.ops.toList j with
    | none=>False
    | some d=>
     match get st.sl d with
     | none=>False
     | some ⟨kp,_⟩=>
      match pR X D c s0 st ((d,want) :: kp) o.op with
      | some (b,s)=>
       match Zd ((d,want) :: kp) o.dst with
       | true=>put2 s0 st o.dst b ((d,want) :: kp) s (goD X D n c r)
       | false=>False
      | none=>
       match get st.sl (lastG (d,want) kp).1 with
       | some ⟨[],.v (.bool b)⟩=>
        match kp with
        | []=>Br (b == want)
          (vQ st d want fun HJ=>resL d want s0 fun s2=>
           match pX o.op with
           | true=>effE X D c i r o s2 HJ fun c' hY st'=>goD X D n c' r hY st'
           | false=>optP (eR X D c s2 HJ o.op fun b s=>put2 s2 HJ o.dst b [] s (goD X D n c r)))
          (match !pY o.op || c with
           | true=>vQ st d (!want) fun HJ=>resL d (!want) s0 fun s2=>put2 s2 HJ o.dst true [] .ud (goD X D n c r)
           | false=>False)
        | _ :: _=>Br (b == (lastG (d,want) kp).2)
          (vQ st (lastG (d,want) kp).1 (lastG (d,want) kp).2 fun HJ=>resL (lastG (d,want) kp).1 (lastG (d,want) kp).2 s0 fun s2=>goD X D n c ((i,o) :: r) s2 HJ)
          (vQ st (lastG (d,want) kp).1 (!(lastG (d,want) kp).2) fun HJ=>resL (lastG (d,want) kp).1 (!(lastG (d,want) kp).2) s0 fun s2=>goD X D n c ((i,o) :: r) s2 HJ)
       | some ⟨[],.ud⟩=>
        match kp with
        | []=>
         match !pY o.op || c with
         | true=>put2 s0 st o.dst true [] .ud (goD X D n c r)
         | false=>False
        | _ :: _=>False
       | _=>False
section
variable {X:Ctx} {D:Dw} {c:Bool} {i:Nat} {s0:List (Nat × Sl)} {st:St} {E:En} {a:Act} {w:World}
theorem RH (h:Ext D.E0 E):Ext D.E0 (D.wc E):=⟨fun _ _ h=>h,h.β,h.tk⟩
theorem Ds (h:Ext D.E0 E):Ext (D.wc E) E:=⟨h.c,fun _ _ h=>h,fun k q hq=>⟨q,hq,.inl ⟨rfl,rfl⟩⟩⟩
theorem F3 {E':En} (h:Ext E E'):Ext (D.wc E) (D.wc E'):=⟨fun _ _ h=>h,h.β,h.tk⟩
theorem fG.Zz (h:fG X D c E s0 st a w) (hD:tu D.E0 D.d.lC.bx D.wr):Rl (D.wc E) D.d.lC.bx D.C s0 a where
 tm:=h.t0
 dW:=fun i cs hi=>by
  by_cases aR:cs=[]
  ·subst aR;have al:i < D.E0.β.length:=by rw [hD.len];exact (gS hi).1
   exact ⟨_,[],h.x.β i _ (gE al),⟨bZ _,by simp⟩,fun w' _ j u hj=>by simp at hj⟩
  ·obtain ⟨b,ty,arr,hb,hw,hc⟩:=hD.dW i cs hi aR;exact ⟨b,arr,h.x.β i b hb,hc.mono (RH h.x),fun w' hC j u hj=>by rw [bY ((hC.o i b cs hb hi aR).trans hw)];simpa using hj⟩
 cc:=fun x v hx w' hC=>hC.c x v hx
theorem fG.rlE (h:fG X D c E s0 st a w):Rl E [] (fun w'=>∀ x v,E.c x=some v->w'.cell? x=some v) st.sl a where
 tm:=h.rel.tm
 dW:=fun i cs hi=>by simp at hi
 cc:=fun x v hx w' hC=>hC x v hx
theorem F4 {s:DV} {v:Value} (hs:scal s=true) (hv:Rv E s v):Rv (D.wc E) s v:=by
 cases s<;>simp [scal] at hs
 ·unfold Rv at hv ⊢;exact hv
 ·unfold Rv at hv ⊢;exact hv
 ·unfold Rv at hv ⊢;exact hv
 ·unfold Rv at hv ⊢;exact hv
theorem iT (h:fG X D c E s0 st a w) {dst:Option Nat} (hd:(eT X.nt st.sl dst && eT X.nt s0 dst)=true) (b:Bool) (gs:List (Nat × Bool)) (s:DV) (v:Value) (Dc:∀ d,dst=some d->∀ p∈gs,p.1≠d)
  (oe:Holds a.tmps gs->Rv E s v) (mZ:b=true->Holds a.tmps gs->Rv (D.wc E) s v) (Hw:¬ Holds a.tmps gs->v=undef) {K:List (Nat × Sl)->St->Prop} (hk:put2 s0 st dst b gs s K) :
  ∃ hY st',K hY st' /\ fG X D c E hY st' (a.put dst v) w:=by
 simp only [Bool.and_eq_true] at hd;have h1:=ox h.rel hd.1 gs s v Dc oe Hw
 cases dst with
 | none=>exact ⟨s0,st,hk,h1,h.x,h.β,h.t0,h.cc⟩
 | some d=>
  obtain ⟨sl,bx,tk⟩:=st;have Ke:=hd.2;simp only [eT,Bool.and_eq_true,Nat.blt_eq] at Ke
  have hold:∀ i x,i≠d->get s0 i=some x->(Holds (a.put (some d) v).tmps x.gs->∃ u,(a.put (some d) v).tmps[i]? = some u/\Rv (D.wc E) x.s u)/\(¬ Holds (a.put (some d) v).tmps x.gs->(a.put (some d) v).tmps[i]? = some undef):=by
   intro i x hi hx;simp only [Act.put];rw [Array.getElem?_setIfInBounds_ne (Ne.symm hi),j4 (kz Ke.2 i x hx)];exact h.t0 i x hx
  simp only [put2] at hk;split at hk
  ·rename_i hb;refine ⟨_,_,hk,h1,h.x,h.β,fun i x hx=>?_,h.cc⟩;simp only [cQ] at hx;split at hx
   ·rename_i vR;subst vR;simp only [oI] at hx;subst hx;have h2:(a.tmps.setIfInBounds d v)[d]? = some v:=by simp [Array.getElem?_setIfInBounds,h.rel.sz,Ke.1]
    simp only [Act.put];rw [j4 (Dc d rfl),h2];refine ⟨fun hh=>⟨v,rfl,?_⟩,fun hh=>by rw [Hw hh]⟩;rcases Bool.or_eq_true _ _ |>.mp hb with hb | hb
    ·exact mZ hb hh
    ·exact F4 hb (oe hh)
   ·rename_i vR;exact hold i x (Ne.symm vR) hx
  ·rw [oJ] at hk;refine ⟨_,_,hk,h1,h.x,h.β,fun i x hx=>?_,h.cc⟩;obtain ⟨h3,h4⟩:=get_filter d s0 i x hx;exact hold i x h3 h4
theorem kH (h:fG X D c E s0 st a w) {d:Nat} {b:Bool} (hd:a.tmps[d]? = some (.bool b)):fG X D c E (s0.map (bi d b)) (st.resolve d b) a w where
 rel:=jy h.rel hd
 x:=h.x
 β:=h.β
 t0:=by
  intro i y hy;simp only [get_map,Option.map_eq_some_iff] at hy;obtain ⟨x,hx,rfl⟩:=hy;have ht:=h.t0 i x hx;unfold bi;split
  ·rename_i hi;have dF:i=d:=by simpa using hi
   subst dF;exact ⟨fun _=>⟨_,hd,eU rfl⟩,fun hn=>(hn (aW _)).elim⟩
  ·split
   ·rename_i hc
    have hn:¬ Holds a.tmps x.gs:=by
     intro hh;have:=hh (d,!b) (by simpa using hc);simp only at this;rw [hd] at this;cases b<;>simp at this
    exact ⟨fun _=>⟨_,ht.2 hn,ri _⟩,fun hn=>(hn (aW _)).elim⟩
   ·have he:Holds a.tmps (x.gs.filter fun p=>p != (d,b))↔Holds a.tmps x.gs:=by
     constructor
     ·intro hh p hp;by_cases FV:p=(d,b)
      ·subst FV;exact hd
      ·exact hh p (by simp [List.mem_filter,hp,FV])
     ·intro hh p hp;exact hh p (List.mem_filter.1 hp).1
    simp only [he];exact ht
 cc:=h.cc
theorem kI {nt d:Nat} {b:Bool} {dst:Option Nat} (h:(eT nt st.sl dst && eT nt s0 dst)=true):(eT nt (st.resolve d b).sl dst && eT nt (s0.map (bi d b)) dst)=true:=by
 simp only [Bool.and_eq_true] at h ⊢;exact ⟨jz h.1,jz (st:=⟨s0,[],[]⟩) h.2⟩
theorem AS (hD:tu D.E0 D.d.lC.bx D.wr) (h:fG X D c E s0 st a w) {G:List (Nat × Bool)} (hG:Holds a.tmps G) {o:Oper} {b:Bool} {s:DV} (hp:pR X D.d c s0 st G o.op=some (b,s)) :
  pX o.op=false/\(pY o.op=true->c=true)/\∃ v,Rv E s v/\(b=true->Rv (D.wc E) s v)/\∀ w,(pY o.op=true->D.C w)->(execOp a.eval o).run X.P w = .ok (.value v) w:=by
 unfold pR at hp;split at hp
 ·cases hp
 ·rename_i hc;simp only [Bool.and_eq_true,Bool.not_eq_true',Bool.or_eq_true] at hc;refine ⟨hc.1,fun hL=>?_,?_⟩
  ·rcases hc.2 with h1 | h1
   ·rw [hL] at h1;cases h1
   ·exact h1
  ·split at hp
   ·rename_i s' hs;simp only [oI,Prod.mk.injEq] at hp;obtain ⟨rfl,rfl⟩:=hp;obtain ⟨v,hv,hr⟩:=gv (st:=⟨s0,D.d.lC.bx,[]⟩) X.hT (h.Zz hD) hG hs;exact ⟨v,Rv.mono (Ds h.x) hv,fun _=>hv,hr⟩
   ·split at hp
    ·cases hp
    ·rename_i hL;split at hp
     ·rename_i s' hs;simp only [oI,Prod.mk.injEq] at hp;obtain ⟨rfl,rfl⟩:=hp;obtain ⟨v,hv,hr⟩:=gv (st:=⟨st.sl,[],[]⟩) X.hT h.rlE hG hs;exact ⟨v,hv,(by intro h;cases h),fun w' _=>hr w' (by intro h1;rw [hL] at h1;cases h1)⟩
     ·cases hp
theorem Kf (hD:tu D.E0 D.d.lC.bx D.wr) (h:fG X D c E s0 st a w) {o:Oper} {K:Bool->DV->Prop} (hp:optP (eR X D.d c s0 st o.op K)) :
  pX o.op=false/\(pY o.op=true->c=true)/\∃ b s v,K b s/\Rv E s v/\(b=true->Rv (D.wc E) s v)/\∀ w,(pY o.op=true->D.C w)->(execOp a.eval o).run X.P w = .ok (.value v) w:=by
 unfold eR at hp;split at hp
 ·exact hp.elim
 ·rename_i hE;refine ⟨hE,?_⟩;split at hp
  ·rename_i hL;split at hp
   ·refine ⟨fun _=>rfl,?_⟩
    cases hs:effR X ⟨s0,D.d.lC.bx,[]⟩ o.op (K true) with
    | none=>rw [hs] at hp;exact hp.elim
    | some p=>
     rw [hs] at hp;obtain ⟨s,hk,v,hv,hr⟩:=kB (st:=⟨s0,D.d.lC.bx,[]⟩) (h.Zz hD) hs hp;exact ⟨true,s,v,hk,Rv.mono (Ds h.x) hv,fun _=>hv,hr⟩
   ·exact hp.elim
  ·rename_i hL;have eu:∀ w':World,pY o.op=true->False:=fun w' h1=>by rw [hL] at h1;cases h1
   refine ⟨fun h1=>(by rw [hL] at h1;cases h1),?_⟩;split at hp
   ·rename_i p hs;obtain ⟨s,hk,v,hv,hr⟩:=kB (st:=⟨s0,[],[]⟩) (C:=D.C) ⟨h.t0,fun i cs hi=>by simp at hi,(h.Zz hD).cc⟩ hs hp;exact ⟨true,s,v,hk,Rv.mono (Ds h.x) hv,fun _=>hv,fun w' _=>hr w' fun h1=>(eu w' h1).elim⟩
   ·cases hs:effR X ⟨st.sl,[],[]⟩ o.op (K false) with
    | none=>rw [hs] at hp;exact hp.elim
    | some p=>
     rw [hs] at hp;obtain ⟨s,hk,v,hv,hr⟩:=kB (st:=⟨st.sl,[],[]⟩) h.rlE hs hp;exact ⟨false,s,v,hk,hv,(by intro h;cases h),fun w' _=>hr w' fun h1=>(eu w' h1).elim⟩
theorem Od {P:Program} {o:Oper} {K:Act->World->Prop} (h:wq P o a w K):wq P o a w fun a' w'=>K a' w' /\ ∃ u,a'=a.put o.dst u:=by
 unfold wq at *;split at h
 ·exact ⟨h,_,rfl⟩
 ·exact ⟨h,_,rfl⟩
 ·refine h.mono ?_;rintro e w' ⟨v,rfl,hv⟩;exact ⟨v,rfl,hv,v,rfl⟩
 ·exact h.elim
theorem F5 (h:fG X D c E s0 st a w) {t:Option Nat} {E':En} {st':St} {a':Act} {w':World} (hs:Ju t E w E' w') (hr:Rel X E' st' a' w') (ht:∀ j,t=some j->D.E0.β.length<=j∨D.d.lC.bx[j]? = some []):D.C w->D.C w':=fun hC=>
 ⟨fun i b cs hb cm aR=>by
  have gM:=h.x.β i b hb
  rw [hs.o i _ gM fun e=>by
   rcases ht i e with h1 | h1
   ·have:=(gS hb).1;omega
   ·rw [cm] at h1;simp only [oI] at h1;exact aR h1]
  exact hC.o i b cs hb cm aR,fun x v hx=>hr.env.sub x v (hs.x.c x v (h.x.c x v hx))⟩
theorem tv (h:fG X D c E s0 st a w) {t:Option Nat} {E':En} {st':St} {w':World} {c':Bool} {hY:List (Nat × Sl)} {dst:Option Nat} {u:Value} (hs:Ju t E w E' w') (hr:Rel X E' st' (a.put dst u) w') (vM:c'=true->D.C w')
  (ht0:∀ i x,get hY i=some x->(∃ d,dst=some d/\i=d/\scal x.s=true/\get st'.sl d=some x)∨(get s0 i=some x/\∀ d,dst=some d->i≠d)) (hd:eT X.nt s0 dst=true):fG X D c' E' hY st' (a.put dst u) w' where
 rel:=hr
 x:=by
  refine ⟨fun y v hy=>hs.x.c y v (h.x.c y v hy),fun j b hb=>hs.x.β j b (h.x.β j b hb),fun k q hq=>?_⟩;obtain ⟨q1,h1,h2⟩:=h.x.tk k q hq;obtain ⟨q2,h3,h4⟩:=hs.x.tk k q1 h1;refine ⟨q2,h3,?_⟩;rcases h2 with ⟨h2,h5⟩ | h2
  ·rcases h4 with ⟨h4,h6⟩ | h4
   ·exact .inl ⟨by omega,by rw [h6,h5]⟩
   ·exact .inr (by omega)
  ·rcases h4 with ⟨h4,h6⟩ | h4
   ·exact .inr (by omega)
   ·exact .inr (by omega)
 β:=by
  obtain ⟨r1,h1⟩:=h.β;obtain ⟨r2,h2⟩:=hs.β;exact ⟨r1 ++ r2,by rw [h2,h1,List.append_assoc]⟩
 t0:=fun i x hx=>by
  rcases ht0 i x hx with ⟨d,rfl,rfl,C5,hg⟩ | ⟨hg,aR⟩
  ·have:=hr.tm _ _ hg;refine ⟨fun hh=>?_,this.2⟩;obtain ⟨v,h1,h2⟩:=this.1 hh;exact ⟨v,h1,F4 C5 h2⟩
  ·have h1:=h.t0 i x hg
   cases dst with
   | none=>
    refine ⟨fun hh=>?_,h1.2⟩;obtain ⟨v,h2,h3⟩:=h1.1 hh;exact ⟨v,h2,Rv.mono (F3 hs.x) h3⟩
   | some d=>
    simp only [eT,Bool.and_eq_true,Nat.blt_eq] at hd;simp only [Act.put];rw [Array.getElem?_setIfInBounds_ne (Ne.symm (aR d rfl)),j4 (kz hd.2 i x hg)];refine ⟨fun hh=>?_,h1.2⟩;obtain ⟨v,h2,h3⟩:=h1.1 hh;exact ⟨v,h2,Rv.mono (F3 hs.x) h3⟩
 cc:=vM
def UU (X:Ctx) (D:Dw) (l:List Nat) (G:Bool->List (Nat × Sl)->St->Prop):Prop:=∀ c s0 st,G c s0 st->∀ E a w,fG X D c E s0 st a w->runT X.P D.d.ops D.d.W D.C (D.Q X) l a w
theorem Dt (hD:tu D.E0 D.d.lC.bx D.wr) {l:List (Nat × Oper)} (hl:∀ p∈l,D.d.ops[p.1]? = some p.2) {G:Bool->List (Nat × Sl)->St->Prop} (hG:UU X D (l.map (·.1)) G) {o:Oper} (hd:(eT X.nt st.sl o.dst && eT X.nt s0 o.dst)=true) (h:fG X D c E s0 st a w)
  (he:effE X D.d c i l o s0 st G):wq X.P o a w fun a' w'=>(D.d.W i=false->D.C w->D.C w')/\runT X.P D.d.ops D.d.W D.C (D.Q X) (l.map (·.1)) a' w':=by
 have AU:=hd;simp only [Bool.and_eq_true] at AU;have hlen:D.E0.β.length=D.d.lC.bx.length:=hD.len
 have core:∀ (K:St->Prop) (p:Prop) (c1:Bool),effC X st o K=some p->p->(c1=true->c=true)->(c1=true∨D.d.W i=false->∀ j,stObj st o.op=some j->D.E0.β.length<=j∨D.d.lC.bx[j]? = some []) ->
   (∀ st',K st' -> ∃ hY,G c1 hY st' /\ ∀ i x,get hY i=some x->(∃ d,o.dst=some d/\i=d/\scal x.s=true/\get st'.sl d=some x)∨(get s0 i=some x/\∀ d,o.dst=some d->i≠d)) ->
   wq X.P o a w fun a' w'=>(D.d.W i=false->D.C w->D.C w')/\runT X.P D.d.ops D.d.W D.C (D.Q X) (l.map (·.1)) a' w':=by
  intro K p c1 hp hpp HK aS hK;refine kC ?_ (Od (kD AU.1 h.rel hp hpp));rintro a' w' ⟨⟨st',E',hk,hr,hs⟩,u,rfl⟩;refine ⟨fun hW=>F5 h hs hr (aS (.inr hW)),?_⟩;obtain ⟨hY,hg,ht0⟩:=hK st' hk;exact hG c1 hY st' hg E' _ w' (tv h hs hr (fun hc=>F5 h hs hr (aS (.inl hc)) (h.cc (HK hc))) ht0 AU.2)
 have PL:(∀ t x y,o.op ≠ .store t x y)->∀ j,stObj st o.op=some j->D.E0.β.length<=j∨D.d.lC.bx[j]? = some []:=by
  intro aR j hj;unfold stObj at hj;split at hj
  ·rename_i t x y kJ;exact (aR t x y kJ).elim
  ·cases hj
 have UW:∀ (d:Nat) (st':St),o.dst=some d->∀ i x,get (s0.filter fun p=>!Nat.beq p.1 d) i=some x->(∃ d,o.dst=some d/\i=d/\scal x.s=true/\get st'.sl d=some x)∨(get s0 i=some x/\∀ d,o.dst=some d->i≠d):=by
  intro d st' gw i x hx;obtain ⟨h1,h2⟩:=get_filter d s0 i x hx;exact .inr ⟨h2,fun d' AU=>by rw [gw] at AU;cases AU;exact h1⟩
 unfold effE at he;split at he
 ·rename_i t x y kJ;split at he
  ·exact he.elim
  ·rename_i gw;have AE:∀ st':St,∀ i x,get s0 i=some x->(∃ d,o.dst=some d/\i=d/\scal x.s=true/\get st'.sl d=some x)∨(get s0 i=some x/\∀ d,o.dst=some d->i≠d):=fun st' i x hx=>.inr ⟨hx,fun d hd=>by rw [gw] at hd;cases hd⟩;split at he
   ·rename_i hW
    cases hp:effC X st o (G false s0) with
    | none=>rw [hp] at he;exact he.elim
    | some p=>
     rw [hp] at he;exact core _ p false hp he (by intro h;cases h) (by rintro (h1 | h1);cases h1;rw [hW] at h1;cases h1) fun st' hk=>⟨s0,hk,AE st'⟩
   ·split at he
    ·rename_i j hj;split at he
     ·rename_i fv
      have fv:D.d.lC.bx.length<=j∨D.d.lC.bx[j]? = some []:=by
       rcases Bool.or_eq_true _ _ |>.mp fv with h1 | h1
       ·exact .inl (by simpa using h1)
       ·exact .inr (Oc h1)
      cases hp:effC X st o (G c s0) with
      | none=>rw [hp] at he;exact he.elim
      | some p=>
       rw [hp] at he;exact core _ p c hp he id (fun _ j' gM=>by rw [hj] at gM;cases gM;rw [hlen];exact fv) fun st' hk=>⟨s0,hk,AE st'⟩
     ·exact he.elim
    ·exact he.elim
 ·rename_i cl kJ;split at he
  ·rename_i f sg;split at he
   ·rename_i g first captured vs hf wU
    obtain ⟨j2,UX⟩:=he;have fH:=h.rel.rl;have e1:=aO fH hf;unfold Rv at e1;obtain ⟨l1,r1,e1,Af,hr1⟩:=e1;have hargs:=gq fH (aW _) _ _ wU;obtain ⟨dst,op,ty,pos,after,gu⟩:=o;obtain ⟨callee,args,argTypes⟩:=cl;simp only at kJ sg;subst kJ sg
    have hr:(execOp a.eval ⟨dst,.call ⟨.value f,args,argTypes⟩,ty,pos,after,gu⟩).run X.P w = .ok (.enter g (l1 ++ args.toList.map a.eval ++ r1).toArray) w:=by
     have e3:(l1.toArray ++ args.map a.eval ++ r1.toArray)=(l1 ++ args.toList.map a.eval ++ r1).toArray:=by apply Array.ext';simp
     simp only [execOp,resolve,e1,Deferred.ofValue,Sem.run_bind,Sem.run_pure,Result.andThen_ok,invoke,e3];exact j2 _ _
    unfold wq;rw [hr];exact UX hl D.E0 D.wr hD E a w _ h ((Af.append hargs).append hr1)
   ·exact he.elim
  ·split at he
   ·rename_i d gw
    cases hp:effC X st o (fun st'=>delF d s0 fun hY=>G c hY st') with
    | none=>rw [hp] at he;exact he.elim
    | some p=>
     rw [hp] at he;refine core _ p c hp he id (fun _=>PL (fun t x y h1=>by rw [kJ] at h1;cases h1)) fun st' hk=>?_;rw [oJ] at hk;exact ⟨_,hk,UW d st' gw⟩
   ·exact he.elim
 ·rename_i sC su;split at he
  ·rename_i d gw
   cases hp:effC X st o (fun st'=>
    match get st'.sl d with
    | some ⟨[],.loc j off⟩=>G c ((d,⟨[],.loc j off⟩) :: s0) st'
    | _=>delF d s0 fun hY=>G c hY st') with
   | none=>rw [hp] at he;exact he hl D.E0 D.wr hD E a w h
   | some p=>
    rw [hp] at he;refine core _ p c hp he id (fun _=>PL sC) fun st' hk=>?_;split at hk
    ·rename_i j off hg;refine ⟨_,hk,fun i x hx=>?_⟩;simp only [cQ] at hx;split at hx
     ·rename_i vR;simp only [oI] at hx;subst hx;exact .inl ⟨d,gw,vR.symm,rfl,hg⟩
     ·rename_i vR;exact .inr ⟨hx,fun d' AU=>by rw [gw] at AU;cases AU;exact Ne.symm vR⟩
    ·rw [oJ] at hk;exact ⟨_,hk,UW d st' gw⟩
  ·exact he.elim
theorem gx (hD:tu D.E0 D.d.lC.bx D.wr):∀ n c l s0 st,goD X D.d n c l s0 st->(∀ p∈l,D.d.ops[p.1]? = some p.2)->∀ E a w,fG X D c E s0 st a w->runT X.P D.d.ops D.d.W D.C (D.Q X) (l.map (·.1)) a w
 | n,c,[],s0,st,hg,hl=>by
  intro E a w h;have hg:(match D.d.fin with | none=>go X 4000 D.d.k st | some F=>F c s0 st):=by cases n<;>simpa only [goD] using hg
  show D.Q X a w;unfold Dw.Q
  cases hf:D.d.fin with
  | none=>
   rw [hf] at hg;exact go_sound 4000 _ _ hg E a w h.rel
  | some F=>
   rw [hf] at hg;exact ⟨c,E,s0,st,h,hg⟩
 | 0,c,_ :: _,s0,st,hg,_=>by exact hg.elim
 | n + 1,c,(i,o) :: r,s0,st,hg,hl=>by
  intro E a w h;have ho:D.d.ops[i]? = some o:=hl (i,o) (by simp);have wU:∀ p∈r,D.d.ops[p.1]? = some p.2:=fun p hp=>hl p (List.mem_cons_of_mem _ hp);simp only [List.map_cons];have ih:∀ c s0 st,goD X D.d n c r s0 st->∀ E a w,fG X D c E s0 st a w->runT X.P D.d.ops D.d.W D.C (D.Q X) (r.map (·.1)) a w:=fun c s0 st hg=>gx hD n c r s0 st hg wU;have ihG:UU X D (r.map (·.1)) (fun c s0 st=>goD X D.d n c r s0 st):=fun c s0 st hg=>ih c s0 st hg;simp only [goD,FQ,yt] at hg;split at hg
  ·exact hg.elim
  ·rename_i hd
   have fR:∀ (v:Value) hY st',pX o.op=false->Yl X.P D.d.ops D.C o v a->(pY o.op=true->c=true)->goD X D.d n c r hY st' -> fG X D c E hY st' (a.put o.dst v) w ->
     runT X.P D.d.ops D.d.W D.C (D.Q X) (i :: r.map (·.1)) a w:=by
    intro v hY st' hE hy ju nF cj;simp only [runT,ho];rw [if_neg (by simp [hE])];exact ⟨v,hy,fun hL=>h.cc (ju hL),ih c hY st' nF E _ w cj⟩
   have fS:∀ hY st',pX o.op=true->Region.wanted o (yielded D.d.ops a.tmps)=false->goD X D.d n c r hY st' -> fG X D c E hY st' (a.put o.dst undef) w ->
     runT X.P D.d.ops D.d.W D.C (D.Q X) (i :: r.map (·.1)) a w:=by
    intro hY st' hE hw nF cj;simp only [runT,ho];rw [if_pos hE];unfold ek;rw [if_neg (by simp [hw])];exact ⟨fun _ h=>h,ih c hY st' nF E _ w cj⟩
   have fE:∀ hY st',pX o.op=true->Region.wanted o (yielded D.d.ops a.tmps)=true->(eT X.nt st'.sl o.dst && eT X.nt hY o.dst)=true->effE X D.d c i r o hY st' (fun c' hY st'=>goD X D.d n c' r hY st')->fG X D c E hY st' a w ->
     runT X.P D.d.ops D.d.W D.C (D.Q X) (i :: r.map (·.1)) a w:=by
    intro hY st' hE hw AU he cj;simp only [runT,ho];rw [if_pos hE];unfold ek;rw [if_pos hw];exact Dt hD wU ihG AU cj he
   have fP:∀ hY st',Region.wanted o (yielded D.d.ops a.tmps)=true->(eT X.nt st'.sl o.dst && eT X.nt hY o.dst)=true->optP (eR X D.d c hY st' o.op fun b s=>put2 hY st' o.dst b [] s (goD X D.d n c r))->fG X D c E hY st' a w ->
     runT X.P D.d.ops D.d.W D.C (D.Q X) (i :: r.map (·.1)) a w:=by
    intro hY st' hw AU he cj;obtain ⟨hE,ju,b,s,v,hk,hv,mZ,bW⟩:=Kf hD cj he;obtain ⟨s1,qd,ni,eo⟩:=iT cj AU b [] s v (fun _ _ p hp=>by cases hp) (fun _=>hv) (fun hb _=>mZ hb) (fun hn=>(hn (aW _)).elim) hk;exact fR v s1 qd hE (.inl ⟨hw,bW⟩) ju ni eo
   have udE:∀ hY st',(eT X.nt st'.sl o.dst && eT X.nt hY o.dst)=true->fG X D c E hY st' a w->put2 hY st' o.dst true [] .ud (goD X D.d n c r)->∃ s1 qd,goD X D.d n c r s1 qd/\fG X D c E s1 qd (a.put o.dst undef) w:=by
    intro hY st' AU cj hk;exact iT cj AU true [] .ud undef (fun _ _ p hp=>by cases hp) (fun _=>ri E) (fun _ _=>ri _) (fun hn=>(hn (aW _)).elim) hk
   split at hg
   ·rename_i N8;have hw:Region.wanted o (yielded D.d.ops a.tmps)=true:=by simp [Region.wanted,N8]
    split at hg
    ·rename_i hE;exact fE s0 st hE hw hd hg h
    ·split at hg
     ·rename_i b s hs;obtain ⟨hE,ju,v,hv,mZ,bW⟩:=AS hD h (aW _) hs;obtain ⟨s1,qd,ni,eo⟩:=iT h hd b [] s v (fun _ _ p hp=>by cases hp) (fun _=>hv) (fun hb _=>mZ hb) (fun hn=>(hn (aW _)).elim) hg;exact fR v s1 qd hE (.inl ⟨hw,bW⟩) ju ni eo
     ·exact fP s0 st hw hd hg h
   ·rename_i j want N8;split at hg
    ·exact hg.elim
    ·rename_i d Dc;split at hg
     ·exact hg.elim
     ·rename_i kp sd HF;have oD:=wanted_spec h.rel N8 Dc HF
      have Du:¬ Holds a.tmps ((d,want) :: kp)->Region.wanted o (yielded D.d.ops a.tmps)=false:=by
       intro hn;cases hww:Region.wanted o (yielded D.d.ops a.tmps)
       ·rfl
       ·exact (hn (oD.1 hww)).elim
      split at hg
      ·rename_i b s hs;split at hg
       case h_2=>exact hg.elim
       rename_i bE;have UY:=tg bE;by_cases hh:Holds a.tmps ((d,want) :: kp)
       ·obtain ⟨hE,ju,v,hv,mZ,bW⟩:=AS hD h hh hs;obtain ⟨s1,qd,ni,eo⟩:=iT h hd b _ s v UY (fun _=>hv) (fun hb _=>mZ hb) (fun hn=>(hn hh).elim) hg;exact fR v s1 qd hE (.inl ⟨oD.2 hh,bW⟩) ju ni eo
       ·obtain ⟨s1,qd,ni,eo⟩:=iT h hd b _ s undef UY (fun hn=>(hh hn).elim) (fun _ hn=>(hh hn).elim) (fun _=>rfl) hg
        have ju:pX o.op=false/\(pY o.op=true->c=true):=by
         unfold pR at hs;split at hs
         ·cases hs
         ·rename_i hc;simp only [Bool.and_eq_true,Bool.not_eq_true',Bool.or_eq_true] at hc;refine ⟨hc.1,fun hL=>?_⟩;rcases hc.2 with h1 | h1
          ·rw [hL] at h1;cases h1
          ·exact h1
        exact fR undef s1 qd ju.1 (.inr ⟨Du hh,rfl⟩) ju.2 ni eo
      ·split at hg
       ·rename_i b fF;have ht0:=AH h.rel fF
        cases kp with
        | nil=>
         simp only [lastG] at fF ht0;cases yC:(b == want)
         ·have Dp:b = !want:=by cases b<;>cases want<;>simp_all
          have hg:=hg.f yC
          have hn:Region.wanted o (yielded D.d.ops a.tmps)=false:=by
           refine Du fun hh=>?_;have:=hh (d,want) (by simp);simp only at this;rw [ht0] at this;simp only [oI,Value.bool.injEq] at this;rw [this] at yC;simp at yC
          have hr:=kH (d:=d) (b:=!want) h (by rw [ht0,Dp]);split at hg
          ·rename_i ju
           have RI:pY o.op=true->c=true:=by
            intro hL;simpa [hL] using ju
           obtain ⟨s1,qd,ni,eo⟩:=udE _ _ (kI hd) hr hg;cases hE:pX o.op
           ·exact fR undef s1 qd hE (.inr ⟨hn,rfl⟩) RI ni eo
           ·exact fS s1 qd hE hn ni eo
          ·exact hg.elim
         ·have AJ:b=want:=by simpa using yC
          have hg:=hg.t yC;subst AJ;have hw:Region.wanted o (yielded D.d.ops a.tmps)=true:=oD.2 (iK ht0 (aW _));have hr:=kH (d:=d) (b:=b) h ht0;split at hg
          ·rename_i hE;exact fE _ _ hE hw (kI hd) hg hr
          ·exact fP _ _ hw (kI hd) hg hr
        | cons g1 gr=>
         have key:∀ e,a.tmps[(lastG (d,want) (g1 :: gr)).1]? = some (.bool e)->goD X D.d n c ((i,o) :: r) (s0.map (bi (lastG (d,want) (g1 :: gr)).1 e)) (st.resolve (lastG (d,want) (g1 :: gr)).1 e)->_:=
          fun e JV nF=>gx hD n c ((i,o) :: r) _ _ nF hl E a w (kH h JV)
         cases yC:(b == (lastG (d,want) (g1 :: gr)).2)
         ·have hg:=hg.f yC;have Dp:b = !(lastG (d,want) (g1 :: gr)).2:=by cases b<;>cases h0:(lastG (d,want) (g1 :: gr)).2<;>simp_all
          exact key _ (by rw [ht0,Dp]) hg
         ·have hg:=hg.t yC;have AJ:b=(lastG (d,want) (g1 :: gr)).2:=by simpa using yC
          exact key _ (by rw [ht0,AJ]) hg
       ·rename_i fF
        cases kp with
        | nil=>
         have ht0:=J6 h.rel fF;simp only [lastG] at ht0
         have hn:Region.wanted o (yielded D.d.ops a.tmps)=false:=by
          refine Du fun hh=>?_;have:=hh (d,want) (by simp);simp only at this;rw [ht0] at this;simp [undef] at this
         simp only at hg;split at hg
         ·rename_i ju
          have RI:pY o.op=true->c=true:=by
           intro hL;simpa [hL] using ju
          obtain ⟨s1,qd,ni,eo⟩:=udE _ _ hd h hg;cases hE:pX o.op
          ·exact fR undef s1 qd hE (.inr ⟨hn,rfl⟩) RI ni eo
          ·exact fS s1 qd hE hn ni eo
         ·exact hg.elim
        | cons g1 gr=>exact hg.elim
       ·exact hg.elim
def ZA (X:Ctx) (o:Oper) (st st':St):Prop:=∀ E a w,Rel X E st a w->wq X.P o a w fun a' w'=>∃ E',Rel X E' st' a' w' /\ Ju none E w E' w'
theorem ZA.g {o:Oper} {k:List It} {st st':St} (h:ZA X o st st') (hk:go X 4000 k st'):Ht X o k st:=fun E a w hr=>by
 refine AB (kC ?_ (h E a w hr));rintro a' w' ⟨E',kr,_⟩;exact go_sound 4000 _ _ hk E' a' w' kr
def nOps:Nat->List Oper->List (Nat × Oper)
 | _,[]=>[]
 | i,o :: r=>(i,o) :: nOps (i + 1) r
theorem tw:∀ (l:List Oper) (i:Nat) (p:Nat × Oper),p∈nOps i l->i<=p.1/\l[p.1 - i]? = some p.2
 | [],_,_,h=>by cases h
 | o :: r,i,p,h=>by
  rcases List.mem_cons.1 h with h | h
  ·subst h;simp
  ·have:=tw r (i + 1) p h;refine ⟨by omega,?_⟩;rw [show p.1 - i=(p.1 - (i + 1)) + 1 by omega];simpa using this.2
theorem tz:∀ (l:List Oper) (i:Nat),(nOps i l).map (·.1)=List.range' i l.length
 | [],_=>rfl
 | o :: r,i=>by simp only [nOps,List.map_cons,tz r (i + 1),List.length_cons,List.range'_succ]
theorem tA (hr:Rel X E st a w) {ops:Array Oper} {W:Nat->Bool} {k:List It}:fG X ⟨⟨ops,W,k,st,none⟩,E,w⟩ true E st.sl st a w where
 rel:=hr
 x:=Ext.refl E
 β:=⟨[],by simp⟩
 t0:=hr.tm
 cc:=fun _=>⟨fun _ _ _ _ _ _=>rfl,hr.env.sub⟩
theorem aD {id:Nat} {ops:Array Oper} {k:List It} {st:St} (W:Nat->Bool) (hm:X.P.follows .mixedOrders=true) (hc:Kc ops W=true)
  (h:goD X ⟨ops,W,k,st,none⟩ 3000 true (nOps 0 ops.toList) st.sl st):As X id ops k st:=by
 intro E a w hr;have kr:=lH hr;have hs:=tA kr (ops:=ops) (W:=W) (k:=k);refine jO (C:=CC E st.bx w.drew) (W:=W) (Q:=kq X k .normal) hm hc (fun a w h=>h) (hs.cc rfl) ?_;have:=gx (D:=⟨⟨ops,W,k,st,none⟩,E,w.drew⟩) kr.env.em 3000 true _ _ _ h (fun p hp=>by simpa using (tw _ _ p hp).2) E a w.drew hs;rw [tz] at this;rw [List.range_eq_range'];simp only [Array.length_toList] at this;exact this
def maskL:List Nat->Nat->List (List DV)->List (List DV)
 | _,_,[]=>[]
 | m,i,cs :: r=>(match m.contains i with | true=>[] | false=>cs) :: maskL m (i + 1) r
theorem qf (m:List Nat):∀ (l:List (List DV)) (i:Nat),(maskL m i l).length=l.length
 | [],_=>rfl
 | cs :: r,i=>by simp [maskL,qf m r]
theorem qg (m:List Nat):∀ (l:List (List DV)) (i j:Nat) cs,(maskL m i l)[j]? = some cs->cs=[]∨l[j]? = some cs
 | [],_,_,_,h=>by simp [maskL] at h
 | c :: r,i,0,cs,h=>by
  simp only [maskL,List.getElem?_cons_zero,oI] at h;split at h
  ·exact .inl h.symm
  ·exact .inr (by simp [h])
 | c :: r,i,j + 1,cs,h=>by
  simp only [maskL,List.getElem?_cons_succ] at h ⊢;exact qg m r (i + 1) j cs h
theorem sD {id:Nat} {ops:Array Oper} {k:List It} {st:St} (m:List Nat) (W:Nat->Bool) (hm:X.P.follows .mixedOrders=true) (hc:Kc ops W=true)
  (h:goD X ⟨ops,W,k,⟨st.sl,maskL m 0 st.bx,st.tk⟩,none⟩ 3000 true (nOps 0 ops.toList) st.sl st):As X id ops k st:=by
 intro E a w hr;have kr:=lH hr;have hs:fG X ⟨⟨ops,W,k,⟨st.sl,maskL m 0 st.bx,st.tk⟩,none⟩,E,w.drew⟩ true E st.sl st a w.drew:=⟨kr,Ext.refl E,⟨[],by simp⟩,kr.tm,fun _=>⟨fun _ _ _ _ _ _=>rfl,kr.env.sub⟩⟩;refine jO (C:=CC E (maskL m 0 st.bx) w.drew) (W:=W) (Q:=kq X k .normal) hm hc (fun a w h=>h) (hs.cc rfl) ?_
 have RJ:tu E (maskL m 0 st.bx) w.drew:=⟨by rw [qf];exact kr.env.len,fun i cs hi aR=>by
  rcases qg m _ _ _ _ hi with h1 | h1
  ·exact (aR h1).elim
  ·exact kr.env.dW i cs h1⟩
 have:=gx (D:=⟨⟨ops,W,k,⟨st.sl,maskL m 0 st.bx,st.tk⟩,none⟩,E,w.drew⟩) RJ 3000 true _ _ _ h (fun p hp=>by simpa using (tw _ _ p hp).2) E a w.drew hs;rw [tz] at this;rw [List.range_eq_range'];simp only [Array.length_toList] at this;exact this
def ZB (ops:Array Oper) (i:Nat):Bool:=
 match ops.toList[i]? with
 | some o=>
  match o.op with
  | .store ..=>true
  | _=>false
 | none=>false
theorem aX {id:Nat} {ops:Array Oper} {k:List It} {st:St} (hm:X.P.follows .mixedOrders=true) (hc:Kc ops (ZB ops)=true)
  (h:goD X ⟨ops,ZB ops,k,st,none⟩ 3000 true (nOps 0 ops.toList) st.sl st):As X id ops k st:=aD (ZB ops) hm hc h
theorem oK {D:Dr} {f:FuncId} {args bB:List DV} {d:Nat} {r:List (Nat × Oper)} (j2:Enters X.P f) (hd:(eT X.nt st.sl (some d) && eT X.nt s0 (some d))=true) {Φ:DV->List (List DV)->List TkE->Prop} (hc:Ev X.P f bB [] [] Φ) (ha:CcL [] 0 0 0 bB args)
  (hk:∀ Jz,Φ Jz [] []->put2 s0 st (some d) false [] Jz (goD X D 3000 c r)) (aS:X.still=false:=by exact rfl):AR X D c i r f args (some d) s0 st:=by
 refine ⟨j2,fun hl E0 wr hD E a w vs h hv=>(rq h.rel aS hc ha hv).mono ?_⟩;rintro e w' ⟨v,E',Jz,rfl,cj,hr,hΦ,hm,hx,hβ⟩
 have hh:∀ b,b < w.heap.size->w'.heap[b]? = w.heap[b]?:=fun b hb=>hm.block b hb (by
  rintro (h1 | ⟨y,h1,_⟩)
  ·simp [En.cl] at h1
  ·simp [En.cl] at h1)
 have hs:Ju none E w E' w':=⟨hx,⟨[],by rw [hβ];simp⟩,fun j b hb _=>hh b (h.rel.env.aV (mG hb))⟩;have hC:=F5 h hs cj (fun j hj=>by cases hj);refine ⟨v,rfl,fun _=>hC,?_⟩;have Kg:fG X ⟨D,E0,wr⟩ c E' s0 st (a.put none v) w':=tv h hs cj (fun h1=>hC (h.cc h1)) (fun i x hx=>.inr ⟨hx,fun d hd=>by cases hd⟩) rfl;obtain ⟨s1,qd,ni,eo⟩:=iT Kg hd false [] Jz v (fun _ _ p hp=>by cases hp) (fun _=>hr) (fun hb=>by cases hb) (fun hn=>(hn (aW _)).elim) (hk Jz hΦ);exact gx (D:=⟨D,E0,wr⟩) hD 3000 c r _ _ ni hl E' _ w' eo
theorem aG {D:Dr} {f:FuncId} {args bB:List DV} {d:Nat} {r:List (Nat × Oper)} {Jz:DV} (j2:Enters X.P f) (hc:EvP X.P f bB Jz) (ha:CcL [] 0 0 0 bB args) (hd:(eT X.nt st.sl (some d) && eT X.nt s0 (some d))=true)
  (hk:put2 s0 st (some d) false [] Jz (goD X D 3000 c r)) (aS:X.still=false:=by exact rfl):AR X D c i r f args (some d) s0 st:=
 oK j2 hd hc ha (fun _ hr=>hr ▸ hk) aS
theorem iU {D:Dr} {i:Nat} {f:FuncId} {args:List DV} {dst:Option Nat} (hW:D.W i=true) (h:dy X f args dst D.k st) (hf:D.fin=none:=by exact rfl):AR X D c i [] f args dst s0 st:=by
 refine ⟨h.1,fun _ E0 wr _ E a w vs hr hv=>(h.2.2 E a w vs hr.rel hv).mono ?_⟩;intro e w' hq
 cases e with
 | returned v=>
  refine ⟨v,rfl,⟨(fun hw=>by rw [hW] at hw;cases hw),?_⟩⟩;show Dw.Q ⟨D,E0,wr⟩ X _ _;unfold Dw.Q;simp only [hf];exact hq
 | _=>exact hq.elim
end
end Dv
end Go.Proofs.YtfifjddnnmfeoaaGreat
namespace Go.Proofs.YtfifjddnnmfeoaaGreat
namespace Dv
open Go Go.RowKit
section
variable {P:Program} {ops:Array Oper} {C:World->Prop} {Q:Act->World->Prop} {W:Nat->Bool} {π π':Nat->Nat}
theorem HL {o:Oper} {i:Nat} {a:Act} {w:World} {K:Act->World->Prop} {Q':Exit->Act->World->Prop} (ho:ops[i]? = some o) (h:ek P ops o a w K):wpOp P ops Q' i K a w:=by
 unfold wpOp;rw [ho];simp only;unfold ek at h;split
 ·rename_i hw;rw [if_pos hw] at h;exact .inl (AB h)
 ·rename_i hw;rw [if_neg hw] at h;exact h
def chkT (ops:Array Oper) (x y:Nat):Bool:=
 (List.range ops.size).all fun i=>Nat.beq i x || Nat.beq i y ||
  match ops[i]? with
  | some o=>!pX o.op || ordB ops ops.size x i
  | none=>false
def si (x y:Nat):Nat->Nat->Bool:=fun j i=>Nat.beq j x && Nat.beq i y
theorem Dx {x y:Nat} {Q':Exit->Act->World->Prop} (Dy:x≠y) (TR:sf ops W π=true) (UZ:AP ops W π (si x y)=true) (Yr:sf ops W π'=true) (U0:AP ops W π' (si y x)=true) (hT:chkT ops x y=true)
  (hQ:∀ a w,Q a w->Q' .normal a w):∀ (oH:Nat) (bc:Array Bool) (r1 r2:List Nat) (a:Act) (w:World),
  bc.size=ops.size->Dn ops bc->(∀ i,i∈r1↔i < ops.size/\bc.getD i true=false)->(∀ i,i∈r2↔i < ops.size/\bc.getD i true=false)->r1.Pairwise (fun a b=>π a < π b)->r2.Pairwise (fun a b=>π' a < π' b)->r1.length<=oH ->
   x∈r1->y∈r1->C w->runT P ops W C Q r1 a w->runT P ops W C Q r2 a w->wpAny P .any ops Q' oH bc a w:=by
 have lN:=AQ TR;have NI:=yG TR;have RK:=yG Yr;have ZC:=UZ;have ZD:=U0;simp only [AP,List.all_eq_true,List.mem_range,Bool.or_eq_true,Bool.not_eq_true'] at UZ U0;intro oH
 induction oH with
 | zero=>
  intro bc r1 r2 a w bI RF fg p9 NJ PM hlen hx hy hC hr1 ko;have:r1=[]:=List.length_eq_zero_iff.1 (by omega);rw [this] at hx;cases hx
 | succ oH ih=>
  intro bc r1 r2 a w bI RF fg p9 NJ PM hlen hx hy hC hr1 ko;have RL:∀ i,i∈r1↔i∈r2:=fun i=>(fg i).trans (p9 i).symm;have Dz:r1.Nodup:=oh NJ;have tB:r2.Nodup:=oh PM;have Kd:=wV TR;refine ⟨fun h0=>?_,fun i hi=>?_⟩
  ·cases r1 with
   | nil=>cases hx
   | cons h rem=>
    have hh:=(fg h).1 (by simp);have hxx:ops[h]? = some ops[h]:=Array.getElem?_eq_getElem hh.1
    have:h∈Region.ready .any ops bc:=by
     refine mem_ready.2 ⟨hh.2,_,hxx,fun e he hb=>?_⟩;obtain ⟨al,Dq⟩:=Kd h _ hxx e he hb;cases hg:bc.getD e.on false
     ·have C7:bc.getD e.on true=false:=by
       have:e.on < bc.size:=by rw [bI];omega
       simp [this] at hg ⊢;exact hg
      have hm:=(fg e.on).2 ⟨by omega,C7⟩;rcases List.mem_cons.1 hm with e1 | e1
      ·rw [e1] at al;omega
      ·have:=(List.pairwise_cons.1 NJ).1 _ e1;omega
     ·rfl
    rw [h0] at this;cases this
  ·obtain ⟨Ai,o,ho,iM⟩:=mem_ready.1 hi;have dF:=(Array.getElem?_eq_some_iff.1 ho).1;have Jy:i∈r1:=(fg i).2 ⟨dF,Ai⟩;have Oe:i∈r2:=(RL i).1 Jy
   have gj:∀ j,j∈r1->ordB ops ops.size j i=true->False:=by
    intro j hj h1;have h2:=lO RF _ _ _ _ ho iM h1;have h3:=((fg j).1 hj).2;have:j < bc.size:=by rw [bI];exact ((fg j).1 hj).1
    simp [this] at h2 h3;rw [h2] at h3;cases h3
   have Og:i≠y->∀ j∈r1,j≠i->π j < π i->oF ops W j i=true:=by
    intro RM j hj _ al;rcases UZ i dF j ((fg j).1 hj).1 with ((h1 | h1) | h1) | h1
    ·have:¬ Nat.blt (π j) (π i)=true:=by simp [h1]
     simp at this;omega
    ·simp [si] at h1;exact (RM h1.2).elim
    ·exact (gj j hj h1).elim
    ·exact h1
   have RN:i≠x->∀ j∈r2,j≠i->π' j < π' i->oF ops W j i=true:=by
    intro Kh j hj _ al;rcases U0 i dF j ((p9 j).1 hj).1 with ((h1 | h1) | h1) | h1
    ·have:¬ Nat.blt (π' j) (π' i)=true:=by simp [h1]
     simp at this;omega
    ·simp [si] at h1;exact (Kh h1.2).elim
    ·exact (gj j ((RL j).2 hj) h1).elim
    ·exact h1
   have RO:Dn ops (bc.setIfInBounds i true):=by
    intro k z hz hk e he hb;by_cases oy:k=i
    ·subst oy;rw [ho] at hz;simp only [oI] at hz;subst hz;exact getD_set_true (iM e he hb)
    ·rw [getD_set_ne true (Ne.symm oy)] at hk;exact getD_set_true (RF k z hz hk e he hb)
   have F6:∀ (rem:List Nat),rem.Nodup->(∀ i,i∈rem↔i < ops.size/\bc.getD i true=false)->∀ k,k∈rem.erase i↔k < ops.size/\(bc.setIfInBounds i true).getD k true=false:=by
    intro rem hnd tq k;rw [List.Nodup.mem_erase_iff hnd];by_cases oy:k=i
    ·subst oy;simp [bI,dF]
    ·rw [getD_set_ne true (Ne.symm oy)];simp only [ne_eq,oy,not_false_eq_true,true_and];exact tq k
   refine HL ho ?_;by_cases Kh:i=x
   ·subst Kh;have aS:=iS lN NI ho r1 a w (fun _=>hC) hr1 Jy (Og Dy) NJ;refine iQ ?_ aS;rintro a' w' ⟨HI,kr⟩;refine nI (C:=C) (si i y) TR ZC hQ oH _ (r1.erase i) a' w' (by simp [bI]) RO (F6 r1 Dz fg) (NJ.sublist List.erase_sublist) (by rw [List.length_erase_of_mem Jy];omega) ?_ ?_ kr
    ·intro j hj k _;cases gM:si i y j k
     ·rfl
     ·simp only [si,Bool.and_eq_true,Nat.beq_eq] at gM;exact (((List.Nodup.mem_erase_iff Dz).1 hj).1 gM.1).elim
    ·rintro ⟨l,z,hl,hz,hL⟩;refine HI ?_ hC;have wU:=List.mem_of_mem_erase hl;have aR:l≠i:=((List.Nodup.mem_erase_iff Dz).1 hl).1;rcases yH NJ Jy wU aR.symm with h1 | h1
     ·exact NI i l z o h1 hz ho hL
     ·have:=Og Dy l wU aR h1;obtain ⟨_,_,_,h4⟩:=iR this hz ho;cases hw:W i
      ·rfl
      ·exact (h4 ⟨hL,hw⟩).elim
   ·by_cases RM:i=y
    ·subst RM;have aS:=iS lN RK ho r2 a w (fun _=>hC) ko Oe (RN (Ne.symm Dy)) PM;refine iQ ?_ aS;rintro a' w' ⟨HI,kr⟩;refine nI (C:=C) (si i x) Yr ZD hQ oH _ (r2.erase i) a' w' (by simp [bI]) RO (F6 r2 tB p9) (PM.sublist List.erase_sublist) ?_ ?_ ?_ kr
     ·have e1:r1.length=r2.length:=(List.perm_iff_count.2 (fun z=>by rw [Dz.count,tB.count];simp [RL z])).length_eq;rw [List.length_erase_of_mem Oe];omega
     ·intro j hj k _;cases gM:si i x j k
      ·rfl
      ·simp only [si,Bool.and_eq_true,Nat.beq_eq] at gM;exact (((List.Nodup.mem_erase_iff tB).1 hj).1 gM.1).elim
     ·rintro ⟨l,z,hl,hz,hL⟩;refine HI ?_ hC;have wU:=List.mem_of_mem_erase hl;have aR:l≠i:=((List.Nodup.mem_erase_iff tB).1 hl).1;rcases yH PM Oe wU aR.symm with h1 | h1
      ·exact RK i l z o h1 hz ho hL
      ·have:=RN (Ne.symm Dy) l wU aR h1;obtain ⟨_,_,_,h4⟩:=iR this hz ho;cases hw:W i
       ·rfl
       ·exact (h4 ⟨hL,hw⟩).elim
    ·have Zw:pX o.op=false:=by
      simp only [chkT,List.all_eq_true,List.mem_range,Bool.or_eq_true,Nat.beq_eq] at hT;rcases hT i dF with (h1 | h1) | h1
      ·exact (Kh h1).elim
      ·exact (RM h1).elim
      ·rw [ho] at h1;simp only [Bool.or_eq_true,Bool.not_eq_true'] at h1;rcases h1 with h1 | h1
       ·exact h1
       ·exact (gj x hx h1).elim
     obtain ⟨v,ZE⟩:=nH lN ho Zw r1 a w hr1 Jy (Og RM) NJ;have Aw:=iS lN NI ho r1 a w (fun _=>hC) hr1 Jy (Og RM) NJ;have Dg:=iS lN RK ho r2 a w (fun _=>hC) ko Oe (RN Kh) PM;have ni:=lM ZE (fun _=>hC) Aw;have Ki:=lM ZE (fun _=>hC) Dg;refine lL ZE (fun _=>hC) ?_
     exact ih _ (r1.erase i) (r2.erase i) _ w (by simp [bI]) RO (F6 r1 Dz fg) (F6 r2 tB p9) (NJ.sublist List.erase_sublist) (PM.sublist List.erase_sublist) (by rw [List.length_erase_of_mem Jy];omega)
      ((List.Nodup.mem_erase_iff Dz).2 ⟨Ne.symm Kh,hx⟩) ((List.Nodup.mem_erase_iff Dz).2 ⟨Ne.symm RM,hy⟩) hC ni.2 Ki.2
end
def selL (ops:List Oper):List Nat->List (Nat × Oper)
 | []=>[]
 | i :: r=>
  match ops[i]? with
  | some o=>(i,o) :: selL ops r
  | none=>selL ops r
theorem Kj {ops:List Oper} {l:List Nat} {p:Nat × Oper} (h:p∈selL ops l):ops[p.1]? = some p.2:=by
 induction l with
 | nil=>cases h
 | cons i r ih=>
  unfold selL at h;split at h
  ·rename_i o ho;rcases List.mem_cons.1 h with h | h
   ·rw [h];exact ho
   ·exact ih h
  ·exact ih h
def plc:List Nat->Nat->Nat
 | [],_=>0
 | x :: r,i=>if Nat.beq x i then 0 else plc r i + 1
def Kk (ops:Array Oper) (l:List Nat):Bool:=
 (selL ops.toList l).map (·.1) == l && (List.range ops.size).all (fun i=>l.contains i) && l.all (fun i=>Nat.blt i ops.size) && Nat.ble l.length ops.size && Ys (plc l) l
where Ys (f:Nat->Nat):List Nat->Bool
 | []=>true
 | x :: r=>r.all (fun y=>Nat.blt (f x) (f y)) && Ys f r
theorem tC {f:Nat->Nat}:∀ {l:List Nat},Kk.Ys f l=true->l.Pairwise (fun a b=>f a < f b)
 | [],_=>List.Pairwise.nil
 | x :: r,h=>by
  simp only [Kk.Ys,Bool.and_eq_true,List.all_eq_true,Nat.blt_eq] at h;exact List.pairwise_cons.2 ⟨h.1,tC h.2⟩
def U1 (ops:Array Oper) (W:Nat->Bool) (l l':List Nat) (x y:Nat):Bool:=
 !Nat.beq x y && Nat.blt x ops.size && Nat.blt y ops.size && Kk ops l && Kk ops l' && sf ops W (plc l) && AP ops W (plc l) (si x y) && sf ops W (plc l') && AP ops W (plc l') (si y x) && chkT ops x y
def swp (i j k:Nat):Nat:=
 match Nat.beq k i with
 | true=>j
 | false=>
  match Nat.beq k j with
  | true=>i
  | false=>k
theorem jA (i j k:Nat):swp i j (swp i j k)=k:=by
 have hb:∀ a b:Nat,Nat.beq a b=decide (a=b):=fun a b=>by
  by_cases h:a=b
  ·subst h;simp
  ·rw [decide_eq_false h];cases h1:Nat.beq a b
   ·rfl
   ·exact (h (by simpa using h1)).elim
 unfold swp;simp only [hb];by_cases h1:k=i
 ·subst h1;simp only [decide_true];by_cases h2:j=k
  ·subst h2;simp
  ·simp [h2]
 ·by_cases h2:k=j
  ·subst h2;simp [h1]
  ·simp [h1,h2]
mutual
def renD (f:Nat->Nat):DV->DV
 | .v x=>.v x
 | .ud=>.ud
 | .agg l=>.agg (renL f l)
 | .tup l=>.tup (renL f l)
 | .sl e es tk=>.sl e es tk
 | .pt cs o=>.pt cs o
 | .loc i o=>.loc (f i) o
 | .el i o=>.el (f i) o
 | .ms i e o l c=>.ms (f i) e o l c
 | .fn g l r=>.fn g (renL f l) (renL f r)
 | .re t x=>.re t (renD f x)
def renL (f:Nat->Nat):List DV->List DV
 | []=>[]
 | d :: r=>renD f d :: renL f r
end
def renS (f:Nat->Nat):List (Nat × Sl)->List (Nat × Sl)
 | []=>[]
 | (k,⟨gs,s⟩) :: r=>(k,⟨gs,renD f s⟩) :: renS f r
def renO (f:Nat->Nat):List (List DV)->List (List DV)
 | []=>[]
 | cs :: r=>renL f cs :: renO f r
def swL {α:Type} (i j:Nat) (l:List α):List α:=
 match l[i]?,l[j]? with
 | some a,some b=>(l.set i b).set j a
 | _,_=>l
def eW (i j:Nat) (S:St):St:=⟨renS (swp i j) S.sl,swL i j (renO (swp i j) S.bx),S.tk⟩
theorem oL (f:Nat->Nat):∀ (l:List (List DV)) (k:Nat),(renO f l)[k]? = (l[k]?).map (renL f)
 | [],k=>by simp [renO]
 | c :: r,0=>by simp [renO]
 | c :: r,k + 1=>by simp only [renO,List.getElem?_cons_succ];exact oL f r k
theorem cM (f:Nat->Nat):∀ (l:List (List DV)),(renO f l).length=l.length
 | []=>rfl
 | c :: r=>by simp [renO,cM f r]
theorem AV (f:Nat->Nat):∀ (l:List (Nat × Sl)) (k:Nat),get (renS f l) k=(get l k).map fun x=>⟨x.gs,renD f x.s⟩
 | [],k=>rfl
 | (i,⟨gs,s⟩) :: r,k=>by
  simp only [renS,cQ];split
  ·rfl
  ·exact AV f r k
theorem cp {α:Type} (i j:Nat) (l:List α):(swL i j l).length=l.length:=by
 unfold swL;split<;>simp
theorem dN {α:Type} {i j:Nat} {l:List α} (hi:i < l.length) (hj:j < l.length) (k:Nat):(swL i j l)[k]? = l[swp i j k]?:=by
 have hb:∀ a b:Nat,Nat.beq a b=true↔a=b:=fun a b=>by simp
 unfold swL;rw [gE hi,gE hj];simp only;unfold swp;by_cases ZF:k=j
 ·subst ZF;rw [List.getElem?_set_self (by simpa using hj)];cases h1:Nat.beq k i
  ·simp only [Nat.beq_refl];exact (gE hi).symm
  ·have:=(hb k i).1 h1;subst this;exact (gE hi).symm
 ·rw [List.getElem?_set_ne (Ne.symm ZF)];by_cases oy:k=i
  ·subst oy;rw [List.getElem?_set_self hi];simp only [Nat.beq_refl];exact (gE hj).symm
  ·rw [List.getElem?_set_ne (Ne.symm oy)]
   have h1:Nat.beq k i=false:=by
    cases h:Nat.beq k i
    ·rfl
    ·exact (oy ((hb k i).1 h)).elim
   have h2:Nat.beq k j=false:=by
    cases h:Nat.beq k j
    ·rfl
    ·exact (ZF ((hb k j).1 h)).elim
   simp only [h1,h2]
theorem Oh {α:Type} {i j:Nat} {l:List α} (hi:i < l.length) (hj:j < l.length):swL i j (swL i j l)=l:=by
 apply List.ext_getElem?;intro k;rw [dN (by rw [cp];exact hi) (by rw [cp];exact hj),dN hi hj,jA]
section
variable {E:En} {i j:Nat}
mutual
theorem Rv.DA (hi:i < E.β.length) (hj:j < E.β.length):∀ {d:DV} {v:Value},Rv E (renD (swp i j) d) v->Rv ⟨E.c,swL i j E.β,E.tk,E.τ⟩ d v
 | .v x,v,h=>by simp only [renD] at h;unfold Rv at h ⊢;exact h
 | .ud,v,h=>by simp only [renD] at h;unfold Rv at h ⊢;exact h
 | .sl e es tk,v,h=>by simp only [renD] at h;unfold Rv at h ⊢;exact h
 | .pt cs o,v,h=>by simp only [renD] at h;unfold Rv at h ⊢;exact h
 | .loc k o,v,h=>by
  simp only [renD] at h;unfold Rv at h ⊢;obtain ⟨b,h1,h2⟩:=h;exact ⟨b,by show (swL i j E.β)[k]? = _;rw [dN hi hj];exact h1,h2⟩
 | .el k o,v,h=>by
  simp only [renD] at h;unfold Rv at h ⊢;obtain ⟨b,h1,h2⟩:=h;exact ⟨b,by show (swL i j E.β)[k]? = _;rw [dN hi hj];exact h1,h2⟩
 | .ms k e o l c,v,h=>by
  simp only [renD] at h;unfold Rv at h ⊢;obtain ⟨b,ad,h1,h2⟩:=h;exact ⟨b,ad,by show (swL i j E.β)[k]? = _;rw [dN hi hj];exact h1,h2⟩
 | .agg l,v,h=>by
  simp only [renD] at h;unfold Rv at h ⊢;obtain ⟨vs,h1,h2,h3⟩:=h;exact ⟨vs,h1,RvL.DA hi hj h2,h3⟩
 | .tup l,v,h=>by
  simp only [renD] at h;unfold Rv at h ⊢;obtain ⟨vs,h1,h2⟩:=h;exact ⟨vs,h1,RvL.DA hi hj h2⟩
 | .fn g l r,v,h=>by
  simp only [renD] at h;unfold Rv at h ⊢;obtain ⟨l',r',h1,h2,h3⟩:=h;exact ⟨l',r',h1,RvL.DA hi hj h2,RvL.DA hi hj h3⟩
 | .re t x,v,h=>by
  simp only [renD] at h;unfold Rv at h ⊢;obtain ⟨z,h1,h2⟩:=h;exact ⟨z,h1,Rv.DA hi hj h2⟩
theorem RvL.DA (hi:i < E.β.length) (hj:j < E.β.length):∀ {l:List DV} {vs:List Value},RvL E (renL (swp i j) l) vs->RvL ⟨E.c,swL i j E.β,E.tk,E.τ⟩ l vs
 | [],vs,h=>by simp only [renL,RvL] at h ⊢;exact h
 | d :: r,vs,h=>by
  simp only [renL,RvL] at h ⊢;obtain ⟨v,s,h1,h2,h3⟩:=h;exact ⟨v,s,h1,Rv.DA hi hj h2,RvL.DA hi hj h3⟩
end
end
theorem F7 {α:Type} {i j:Nat} {l:List α} (hi:i < l.length) (hj:j < l.length) {x:α}:x∈swL i j l↔x∈l:=by
 have h1:∀ (l:List α),i < l.length->j < l.length->x∈swL i j l->x∈l:=by
  intro l hi hj h;obtain ⟨k,hk⟩:=List.mem_iff_getElem?.1 h;rw [dN hi hj] at hk;exact mG hk
 refine ⟨h1 l hi hj,fun h=>?_⟩;have:=h1 (swL i j l) (by rw [cp];exact hi) (by rw [cp];exact hj);rw [Oh hi hj] at this;exact this h
theorem HM {i j:Nat} {l:List Nat} (hi:i < l.length) (hj:j < l.length) (h:l.Nodup):(swL i j l).Nodup:=by
 have al:∀ k,k < l.length->swp i j k < l.length:=by
  intro k hk;unfold swp;split
  ·exact hj
  ·split
   ·exact hi
   ·exact hk
 unfold List.Nodup;rw [List.pairwise_iff_getElem];intro a b ha hb nJ he;rw [cp] at ha hb
 have hg:∀ k (hk:k < l.length),(swL i j l)[k]'(by rw [cp];exact hk)=l[swp i j k]'(al k hk):=by
  intro k hk;have:=dN hi hj k;rw [gE (by rw [cp];exact hk),gE (al k hk)] at this;exact Option.some.inj this
 rw [hg a ha,hg b hb] at he
 have h1:l[swp i j a]? = l[swp i j b]?:=by
  rw [gE (al a ha),gE (al b hb),he]
 have:=(List.getElem?_inj (al a ha) h).1 h1;have:=congrArg (swp i j) this;rw [jA,jA] at this;omega
theorem qh {P:Program} {ops:Array Oper} {W:Nat->Bool} {C:World->Prop} {Q Q':Act->World->Prop} (hQ:∀ a w,Q a w->Q' a w):∀ {l:List Nat} {a:Act} {w:World},runT P ops W C Q l a w->runT P ops W C Q' l a w
 | [],a,w,h=>hQ _ _ h
 | i :: r,a,w,h=>by
  simp only [runT] at h ⊢;split at h
  ·exact h.elim
  ·split at h
   ·rename_i hE;rw [if_pos hE];exact iQ (fun a w hk=>⟨hk.1,qh hQ hk.2⟩) h
   ·rename_i hE;rw [if_neg hE];obtain ⟨v,h1,h2,h3⟩:=h;exact ⟨v,h1,h2,qh hQ h3⟩
section
variable {X:Ctx} {E:En} {S:St} {a:Act} {w:World} {i j:Nat}
theorem AW (hX:X.bt=[]) (h:Rel X E (eW i j S) a w) (Js:X.n0<=i) (Ae:X.n0<=j) (hi:i < S.bx.length) (hj:j < S.bx.length):Rel X ⟨E.c,swL i j E.β,E.tk,E.τ⟩ S a w:=by
 have hlen:E.β.length=S.bx.length:=by
  rw [h.env.len];simp only [eW,cp,cM]
 have dF:i < E.β.length:=by rw [hlen];exact hi
 have gM:j < E.β.length:=by rw [hlen];exact hj
 have kE:∀ k,(eW i j S).bx[k]? = (S.bx[swp i j k]?).map (renL (swp i j)):=fun k=>by
  simp only [eW];rw [dN (by rw [cM];exact hi) (by rw [cM];exact hj),oL]
 exact {
  env:={
   len:=by rw [cp];exact hlen
   tl:=h.env.tl
   dW:=fun k cs hk=>by
    obtain ⟨b,ty,arr,hb,hw,hc⟩:=h.env.dW (swp i j k) (renL (swp i j) cs) (by rw [kE,jA,hk];rfl);exact ⟨b,ty,arr,by rw [dN dF gM];exact hb,hw,RvL.DA dF gM hc.1,hc.2⟩
   inj:=HM dF gM h.env.inj
   sub:=h.env.sub
   pc:=fun x v hx hm=>h.env.pc x v hx ((F7 dF gM).1 hm)
   cD:=fun k q y hq hy=>by
    rcases h.env.cD k q y hq hy with h1 | ⟨g,cap,cur,rfl,h1,h2,h3,h4,h5,h6⟩
    ·exact .inl h1
    ·exact .inr ⟨g,cap,cur,rfl,h1,h2,h3,h4,fun hm=>h5 ((F7 dF gM).1 hm),h6⟩
   iy:=h.env.iy }
  tk:=h.tk
  sz:=h.sz
  tm:=fun k x hx=>by
   have:=h.tm k ⟨x.gs,renD (swp i j) x.s⟩ (by simp only [eW];rw [AV,hx];rfl);refine ⟨fun hh=>?_,this.2⟩;obtain ⟨v,h1,h2⟩:=this.1 hh;exact ⟨v,h1,Rv.DA dF gM h2⟩
  df:=h.df
  nw:={
   c:=h.nw.c
   cn:=h.nw.cn
   β:=by
    obtain ⟨r,hr,hl⟩:=h.nw.β;have hE0:X.E0.β.length=X.n0:=X.jr;refine ⟨(swL i j E.β).drop X.n0,?_,fun b hb=>?_⟩
    ·show swL i j E.β=_
     have:(swL i j E.β).take X.n0=X.E0.β:=by
      apply List.ext_getElem?;intro k;rw [List.getElem?_take];split
      ·rename_i hk;rw [dN dF gM]
       have:swp i j k=k:=by
        unfold swp;have hb:∀ a b:Nat,Nat.beq a b=true↔a=b:=fun a b=>by simp
        cases h1:Nat.beq k i
        ·cases h2:Nat.beq k j
         ·rfl
         ·have:=(hb k j).1 h2;omega
        ·have:=(hb k i).1 h1;omega
       rw [this,hr,List.getElem?_append_left (by omega)]
      ·rename_i hk;exact (List.getElem?_eq_none (by omega)).symm
     rw [<- this,List.take_append_drop]
    ·have hnd:=h.env.inj;obtain ⟨k,hk⟩:=List.mem_iff_getElem?.1 hb;rw [List.getElem?_drop,dN dF gM] at hk
     have aN:X.n0<=swp i j (X.n0 + k):=by
      unfold swp;split
      ·exact Ae
      ·split
       ·exact Js
       ·omega
     rw [hr,List.getElem?_append_right (by omega)] at hk;exact hl b (mG hk)
   tk:=h.nw.tk
   tn:=h.nw.tn
   l0:=h.nw.l0 }
  fr:=h.fr
  sh:=h.sh
  bt:=.nil hX }
theorem F8 (hX:X.bt=[]) (h:Rel X E (eW i j S) a w) (Js:X.n0<=i) (Ae:X.n0<=j) (hi:i < S.bx.length) (hj:j < S.bx.length):∃ E',Rel X E' S a w:=⟨_,AW hX h Js Ae hi hj⟩
end
def F9 (sl:List (Nat × Sl)):List (Nat × Sl)->Prop
 | []=>True
 | p :: r=>get sl p.1=some p.2/\F9 sl r
theorem tD {sl:List (Nat × Sl)}:∀ {l:List (Nat × Sl)},F9 sl l->∀ i x,get l i=some x->get sl i=some x
 | [],_,i,x,hx=>by cases hx
 | (k,y) :: r,h,i,x,hx=>by
  simp only [cQ] at hx;split at hx
  ·rename_i oy;subst oy;simp only [oI] at hx;subst hx;exact h.1
  ·exact tD h.2 i x hx
def uniqS:List Nat->List (Nat × Sl)->List (Nat × Sl)
 | _,[]=>[]
 | m,p :: r=>
  match muB m p.1 with
  | true=>uniqS m r
  | false=>p :: uniqS (p.1 :: m) r
theorem qi:∀ (l:List (Nat × Sl)) (m:List Nat) (i:Nat),muB m i=false->get (uniqS m l) i=get l i
 | [],_,_,_=>rfl
 | (k,x) :: r,m,i,h=>by
  simp only [uniqS]
  cases hm:muB m k with
  | true=>
   simp only;rw [qi r m i h,cQ,if_neg];rintro rfl;rw [hm] at h;cases h
  | false=>
   simp only [cQ];by_cases hk:k=i
   ·rw [if_pos hk,if_pos hk]
   ·rw [if_neg hk,if_neg hk]
    exact qi r (k :: m) i (by simp only [muB,h,Bool.or_false];cases hb:Nat.beq k i with
     | true=>exact (hk (Nat.eq_of_beq_eq_true hb)).elim
     | false=>rfl)
def yI (s S:St):Prop:=s.bx=S.bx/\s.tk=S.tk/\F9 s.sl (uniqS [] S.sl)
theorem Kl {X:Ctx} {E:En} {s S:St} {a:Act} {w:World} (h:Rel X E s a w) (hs:yI s S):Rel X E S a w where
 env:=by rw [<- hs.1];exact h.env
 tk:=by rw [<- hs.2.1];exact h.tk
 sz:=h.sz
 tm:=fun i x hx=>h.tm i x (tD hs.2.2 i x (by rw [qi _ _ _ rfl];exact hx))
 df:=h.df
 nw:=h.nw
 fr:=h.fr
 sh:=h.sh
 bt:=h.bt
theorem mD {X:Ctx} {id:Nat} {ops:Array Oper} {k:List It} {st:St} (W:Nat->Bool) (x y:Nat) (l l':List Nat) (i j:Nat) (hm:X.P.follows .mixedOrders=true) (hc:U1 ops W l l' x y=true) (S:St)
  (h:goD X ⟨ops,W,[.Jq fun s=>s=S],st,none⟩ 3000 true (selL ops.toList l) st.sl st) (h':goD X ⟨ops,W,[.Jq fun s=>yI s (eW i j S)],st,none⟩ 3000 true (selL ops.toList l') st.sl st)
  (sA:(Nat.ble X.n0 i && Nat.ble X.n0 j && Nat.blt i S.bx.length && Nat.blt j S.bx.length)=true) (hk:go X 4000 k S) (hX:X.bt=[]:=by exact rfl):As X id ops k st:=by
 intro E a w hr;have kr:=lH hr;simp only [Bool.and_eq_true,Nat.ble_eq,Nat.blt_eq] at sA;simp only [U1,Kk,Bool.and_eq_true,List.all_eq_true,Nat.blt_eq,Nat.ble_eq,beq_iff_eq,List.mem_range,Bool.not_eq_true'] at hc;obtain ⟨⟨⟨⟨⟨⟨⟨⟨⟨Dy,wM⟩,Us⟩,⟨⟨⟨h1a,TS⟩,h1c⟩,hlen⟩,h1d⟩,⟨⟨⟨h2a,ZG⟩,h2c⟩,_⟩,h2d⟩,TR⟩,UZ⟩,Yr⟩,U0⟩,hT⟩:=hc
 have hQ:∀ S',(S'=S∨S'=eW i j S)->∀ a w,(∃ st E,Rel X E st a w/\(st=S' ∨ yI st S'))->kq X k .normal a w:=by
  rintro S' hS a w ⟨qd,E1,PN,rm⟩
  have cj:Rel X E1 S' a w:=by
   rcases rm with rfl | rm
   ·exact PN
   ·exact Kl PN rm
  rcases hS with rfl | rfl
  ·exact go_sound 4000 _ _ hk E1 a w cj
  ·obtain ⟨E2,AN⟩:=F8 hX cj sA.1.1.1 sA.1.1.2 sA.1.2 sA.2;exact go_sound 4000 _ _ hk E2 a w AN
 have key:∀ (S':St),(S'=S∨S'=eW i j S)->∀ (l:List Nat),(selL ops.toList l).map (·.1)=l->∀ J:St->Prop,(∀ s,J s->s=S' ∨ yI s S')->(goD X ⟨ops,W,[.Jq J],st,none⟩ 3000 true (selL ops.toList l) st.sl st) ->
   runT X.P ops W (CC E st.bx w.drew) (fun a w=>kq X k .normal a w) l a w.drew:=by
  intro S' hS l hl J hJ h;have hs:=tA kr (ops:=ops) (W:=W) (k:=[.Jq J]);have:=gx (D:=⟨⟨ops,W,[.Jq J],st,none⟩,E,w.drew⟩) kr.env.em 3000 true _ _ _ h (fun p hp=>by simpa using Kj hp) E a w.drew hs;rw [hl] at this;exact qh (fun a w ⟨st,E1,h1,h2⟩=>hQ S' hS a w ⟨st,E1,h1,hJ st h2⟩) this
 have e1:=key S (.inl rfl) l h1a _ (fun s hs=>.inl hs) h;have e2:=key (eW i j S) (.inr rfl) l' h2a _ (fun s hs=>.inr hs) h';refine wp_region_any hm ?_
 have DB:∀ (l:List Nat),(∀ i,i < ops.size->l.contains i=true)->(∀ i∈l,i < ops.size)->∀ i,i∈l↔i < ops.size/\(Array.replicate ops.size false).getD i true=false:=by
  intro l ha hb i;constructor
  ·intro hi;exact ⟨hb i hi,by simp [hb i hi]⟩
  ·intro hi;simpa using ha i hi.1
 have ZH:x≠y:=by
  intro e;subst e;simp at Dy
 refine Dx (C:=CC E st.bx w.drew) (π:=plc l) (π':=plc l') (Q:=kq X k .normal) ZH TR UZ Yr U0 hT (fun a w h=>h) ops.size (Array.replicate ops.size false) l l' a _ (by simp) ?_ (DB l TS h1c) (DB l' ZG h2c) (tC h1d) (tC h2d) hlen
  (by simpa using TS x wM) (by simpa using TS y Us) ⟨fun _ _ _ _ _ _=>rfl,kr.env.sub⟩ e1 e2
 intro i o ho hl;have:i < ops.size:=(Array.getElem?_eq_some_iff.1 ho).1;simp [this] at hl
end Dv
end Go.Proofs.YtfifjddnnmfeoaaGreat
namespace Go.Proofs.YtfifjddnnmfeoaaGreat
namespace Dv
open Go Go.RowKit
section
variable {X:Ctx} {st:St} {k:List It} {E:En} {a:Act} {w:World}
noncomputable def En.Ga (E:En) (w:World):En:=⟨qb E 0 w,[],[],[]⟩
theorem Oi {bx:List (List DV)} (h:Env E bx w):Env (E.Ga w) [] w where
 len:=rfl
 tl:=rfl
 dW:=by simp
 inj:=List.nodup_nil
 sub:=fun x u hx=>by
  rcases dM hx with ⟨_,h1⟩ | h1
  ·exact h1
  ·exact h.sub x u h1
 pc:=by simp [En.Ga]
 cD:=by simp [En.Ga]
 iy:=by simp [En.Ga]
theorem Oj {bx:List (List DV)} (h:Env E bx w):Jx E (E.Ga w) bx 0 where
 c:=fun x u hx=>kF h hx
 fz:=fun i cs hi cm=>by
  obtain ⟨b,ty,arr,hb,hw,hc⟩:=h.dW i cs cm;refine ⟨b,arr,hb,hc,fun j u hj=>?_⟩;show qb E 0 w ⟨b,j,none⟩=some u;unfold qb;rw [if_pos ⟨i,hi,hb⟩,bY hw];simpa using hj
theorem iq {P:Program} {s:Bool} {bx:List (List DV)} (h:Env E bx w) {f:FuncId} {args bB:List DV} {vs:List Value} {y:DV} (hc:TP s P f bB [] [] fun d _ _=>d=y) (ha:CcL bx 0 0 0 bB args) (hv:RvL E args vs) :
  Calls P f vs.toArray w fun e w'=>∃ v E2,e = .returned v/\Rv E2 y v/\r7 (fun _=>False) w w' /\ (s=true->∃ q,w'=w.drewN q):=by
 have Ur:RvL (E.Ga w) bB vs:=CcL.sound (Oj h) (HC.zero _ _) ha hv;refine (hc (E.Ga w) w vs (Oi h) rfl Ur).mono ?_;rintro e w' ⟨v,rfl,hm,hs,d,os,E2,he,hβ,ia,hn,RA,rfl⟩;refine ⟨v,E2,rfl,RA,⟨hm.os,hm.tape,hm.output,hm.size,fun i hi _=>hm.block i hi ?_⟩,hs⟩;rintro (h1 | ⟨y,h1,_⟩)
 ·simp [En.Ga] at h1
 ·simp [En.Ga] at h1
theorem yJ {f:FuncId} {args bB:List DV} {d:Nat} {y:Value} (j2:Enters X.P f) (hc:EvP X.P f bB (.v y)) (ha:CcL st.bx 0 0 0 bB args) (hd:eT X.nt st.sl (some d)=true)
  (hk:go X 4000 k ⟨(d,⟨[],.v y⟩) :: st.sl,st.bx,st.tk⟩) (aS:X.still=false:=by exact rfl):dy X f args (some d) k st:=by
 refine ⟨j2,aS,fun E a w vs h hv=>(iq h.env hc ha hv).mono ?_⟩;rintro e w' ⟨v,E2,rfl,hr,hm,_⟩;have hh:∀ i,i < w.heap.size->w'.heap[i]? = w.heap[i]?:=fun i hi=>hm.block i hi (fun h=>h);have cj:Rel X E st a w':=cV h (Ext.refl E) (h.env.jL hh) h.tk h.nw (h.fr.b9 hm.os hm.tape hm.output hm.size fun i hi=>.inr (hh i hi)) (mY aS) (h.bt.jL fun b hb=>hh b (h.env.aV hb));unfold Rv at hr;exact go_sound 4000 _ _ hk E _ w' (aT cj hd (.v y) v (by unfold Rv;exact hr))
end
end Dv
end Go.Proofs.YtfifjddnnmfeoaaGreat
namespace Go.Proofs.YtfifjddnnmfeoaaGreat
namespace Dv
open Go Go.RowKit
def Km (bx:List (List DV)) (N m:Nat) (sl:List (Nat × Sl)):List (Nat × Sl)->Prop
 | []=>True
 | p :: r=>(∃ x,get sl p.1=some ⟨p.2.gs,x⟩/\Cc bx N N m p.2.s x)/\Km bx N m sl r
theorem wW {bx:List (List DV)} {N m:Nat} {sl:List (Nat × Sl)}:∀ {l:List (Nat × Sl)},Km bx N m sl l->∀ i x',get l i=some x' -> ∃ x,get sl i=some ⟨x'.gs,x⟩/\Cc bx N N m x'.s x
 | [],_,i,x',hx=>by cases hx
 | (k,y) :: r,h,i,x',hx=>by
  simp only [cQ] at hx;split at hx
  ·rename_i oy;subst oy;simp only [oI] at hx;subst hx;exact h.1
  ·exact wW h.2 i x' hx
section
variable {X:Ctx} {E:En} {st st':St} {a:Act} {w:World} {k:List It}
theorem Gb (h:Rel X E st a w) (N:Nat) (hN:X.n0<=N) (AX:N<=st.bx.length) (kE:kx st.bx N N st.tk.length st'.bx (st.bx.take N)) (ia:st'.tk=st.tk) (ll:Km st.bx N st.tk.length st.sl st'.sl):∃ E',Rel X E' st' a w:=by
 obtain ⟨r,N6,Yn⟩:=h.nw.β;have hlen:E.β.length=st.bx.length:=h.env.len
 have dH:∀ (i:Nat) b,X.n0<=i->E.β[i]? = some b->b∈r:=fun i b hi hb=>by
  rw [N6,List.getElem?_append_right (by rw [X.jr];exact hi)] at hb;exact mG hb
 let E':En:=⟨qb E N w,E.β.take N,E.tk,E.τ⟩
 have J4:Jx E E' st.bx N:={
  c:=fun x u hx=>kF h.env hx
  fz:=fun i cs hi cm=>by
   obtain ⟨b,ty,arr,hb,hw,hc⟩:=h.env.dW i cs cm;refine ⟨b,arr,hb,hc,fun j u hj=>?_⟩;show qb E N w ⟨b,j,none⟩=some u;unfold qb;rw [if_pos ⟨i,hi,hb⟩,bY hw]
   simpa using hj }
 have vV:HC E E' N st.tk.length:={
  β:=fun i b hi hb=>by show (E.β.take N)[i]? = _;rw [List.getElem?_take,if_pos hi];exact hb
  tk:=fun k hk=>⟨rfl,rfl⟩ }
 have Rw:∀ (i:Nat) b,N<=i->E.β[i]? = some b->b ∉ E.β.take N:=fun i b hi hb hm=>by
  obtain ⟨j,hj⟩:=List.getElem?_of_mem hm;rw [List.getElem?_take] at hj;split at hj
  ·rename_i hjN;have:=(List.getElem?_inj (gS hb).1 h.env.inj).1 (hb.trans hj.symm);omega
  ·cases hj
 obtain ⟨jN,UJ⟩:=kE.get;refine ⟨E',?_⟩
 exact {
  env:={
   len:=by
    show (E.β.take N).length=st'.bx.length;rw [jN,List.length_take,List.length_take];omega
   tl:=h.env.tl
   dW:=fun i cs' hi=>by
    obtain ⟨cs,cm,vM⟩:=UJ i cs' hi;rw [List.getElem?_take] at cm;split at cm
    ·rename_i al;obtain ⟨b,ty,arr,hb,hw,hc⟩:=h.env.dW i cs cm;exact ⟨b,ty,arr,vV.β i b al hb,hw,CcL.sound J4 vV vM hc.1,hc.2⟩
    ·cases cm
   inj:=h.env.inj.sublist (List.take_sublist _ _)
   sub:=fun x u hx=>by
    rcases dM hx with ⟨_,h1⟩ | h1
    ·exact h1
    ·exact h.env.sub x u h1
   pc:=fun x u hx hm=>by
    rcases dM hx with ⟨⟨i,hi,hb⟩,_⟩ | h1
    ·exact Rw i _ hi hb hm
    ·exact h.env.pc x u h1 (List.mem_of_mem_take hm)
   cD:=fun k q y hq hy=>by
    rcases h.env.cD k q y hq hy with h1 | ⟨g,cap,cur,rfl,h1,h2,h3,h4,h5,h6⟩
    ·exact .inl h1
    ·refine .inr ⟨g,cap,cur,rfl,h1,⟨h2.1,h2.2.mono fun _ _ hx=>kF h.env hx⟩,h3,h4,fun hm=>h5 (List.mem_of_mem_take hm),fun x u hx hg=>?_⟩;rcases dM hx with ⟨⟨i,hi,hb⟩,_⟩ | h7
     ·rw [hg] at hb;exact (h5 (mG hb)).elim
     ·exact h6 x u h7 hg
   iy:=h.env.iy }
  tk:=by rw [ia];exact h.tk
  sz:=h.sz
  tm:=fun i x' Ac=>by
   obtain ⟨x,hx,vM⟩:=wW ll i x' Ac;have:=h.tm i _ hx;refine ⟨fun hh=>?_,this.2⟩;obtain ⟨v,h1,h2⟩:=this.1 hh;exact ⟨v,h1,Cc.sound J4 vV vM h2⟩
  df:=h.df
  nw:={
   c:=fun x u hx=>kF h.env (h.nw.c x u hx)
   cn:=fun x u hx=>by
    rcases dM hx with ⟨⟨i,hi,hb⟩,_⟩ | h1
    ·exact .inr (.inl (Yn _ (dH i _ (by omega) hb)))
    ·exact h.nw.cn x u h1
   β:=by
    refine ⟨r.take (N - X.n0),?_,fun b hb=>Yn b (List.mem_of_mem_take hb)⟩;show E.β.take N=_;rw [N6,List.take_append,List.take_of_length_le (by rw [X.jr];omega),X.jr]
   tk:=h.nw.tk
   tn:=h.nw.tn
   l0:=h.nw.l0 }
  fr:=h.fr
  sh:=h.sh
  bt:=h.bt.sub _ }
theorem Kn {c:Code} (N:Nat) (qd:St) (hN:Nat.ble X.n0 N=true) (AX:Nat.ble N st.bx.length=true) (ia:qd.tk=st.tk) (kE:kx st.bx N N st.tk.length qd.bx (st.bx.take N)) (ll:Km st.bx N st.tk.length st.sl qd.sl)
  (hk:rf X c k qd):rf X c k st:=by
 intro E a w h;obtain ⟨E',h'⟩:=Gb h N (nL hN) (nL AX) kE ia ll;exact hk E' a w h'
theorem dO {n0 m0:Nat} {st st':St} (n:Nat) (q:TkE) (hq:q.new=true) (hn:Nat.ble n st.bx.length=true) (h3:st.tk ++ [q]=st'.tk) (h2:WeLL n st.tk.length st'.tk (st.bx.take n) st'.bx) (h4:Nat.ble n0 n=true) (h5:Nat.ble m0 st.tk.length=true)
  (h:oE n st.tk.length st'.tk st.sl st'.sl):AL n0 m0 st st':=by
 have hl:(st.bx.take n).length=n:=by
  have:=nL hn;rw [List.length_take];omega
 exact ⟨st.tk,[],[q],st.bx.take n,st.bx.drop n,by simpa using h5,by rw [hl];simpa using h4,by simp,h3.symm,by simpa using hq,(List.take_append_drop n st.bx).symm,by rw [hl];exact h2,by rw [hl];exact h⟩
end
end Dv
end Go.Proofs.YtfifjddnnmfeoaaGreat
namespace Go.Proofs.YtfifjddnnmfeoaaGreat
namespace Dv
open Go Go.RowKit
section
variable {X:Ctx} {st:St} {k:List It} {E:En} {a:Act} {w:World}
theorem kK {f:FuncId} {rest Ko cs cs':List DV} {i d:Nat} (j2:Enters X.P f) (hd:eT X.nt st.sl (some d)=true) (kE:st.bx[i]? = some cs) (cm:CcL [] 0 0 0 cs' cs) (ha:CcL [] 0 0 0 Ko rest)
  {Φ:DV->List (List DV)->List TkE->Prop} (hc:Ev X.P f (.loc 0 0 :: Ko) [cs'] [] Φ) (ju:∀ r os tk,Φ r os tk->clB 0 0 r=true/\∀ qj∈os,clB.clL 0 0 qj=true)
  (hk:∀ r qj,Φ r [qj] []->go X 4000 k ⟨(d,⟨[],r⟩) :: st.sl,st.bx.set i qj,st.tk⟩) (aS:X.still=false:=by exact rfl) (hX:X.bt=[]:=by exact rfl):dy X f (.loc i 0 :: rest) (some d) k st:=by
 refine ⟨j2,aS,fun E a w vs h hv=>?_⟩;simp only [RvL] at hv;obtain ⟨v1,vr,rfl,h1,hvr⟩:=hv;unfold Rv at h1;obtain ⟨b,hb,rfl⟩:=h1;obtain ⟨b',ty,arr,dG,hw,vM⟩:=h.env.dW i cs kE;rw [hb] at dG;simp only [oI] at dG;subst dG;have vW:b∈E.β:=mG hb;have RP:=h.env.aV vW
 let E1:En:=⟨E.c,[b],[],[]⟩
 have hx1:Ext E.cl E1:=⟨fun _ _ h=>h,fun j b hj=>by simp [En.cl] at hj,fun k q hk=>by simp [En.cl] at hk⟩;have hfz:Jx E E.cl [] 0:=⟨fun _ _ h=>h,fun i cs _ hi=>by simp at hi⟩
 have ZI:Env E1 [cs'] w:={
  len:=rfl
  tl:=rfl
  dW:=fun j PO hj=>by
   cases j with
   | succ j=>simp at hj
   | zero=>
    simp only [List.getElem?_cons_zero,oI] at hj;subst hj;refine ⟨b,ty,arr,rfl,hw,RvL.mono hx1 (CcL.sound hfz (HC.zero _ _) cm vM.1),vM.2⟩
  inj:=by simp [E1]
  sub:=h.env.sub
  pc:=fun x v hx hm=>by
   simp only [E1,List.mem_singleton] at hm;exact h.env.pc x v hx (by rw [hm];exact vW)
  cD:=by simp [E1]
  iy:=by simp [E1] }
 have oe:RvL E1 (.loc 0 0 :: Ko) (.pointer (some ⟨b,0,none⟩) :: vr):=rvL_cons (by unfold Rv;exact ⟨b,rfl,rfl⟩) (RvL.mono hx1 (CcL.sound hfz (HC.zero _ _) ha hvr));refine (hc E1 w _ ZI rfl oe).mono ?_;rintro e w' ⟨v,rfl,hm,_,r,os,E2,he,hβ,ia,hn,RA,hΦ⟩;have ht0:E2.tk=[]:=List.eq_nil_of_length_eq_zero ia;rw [ht0] at hΦ
 obtain ⟨qj,rfl⟩:∃ qj,os=[qj]:=by
  have:=he.len;rw [hβ] at this
  match os,this with
  | [x],_=>exact ⟨x,rfl⟩
 obtain ⟨ZJ,ZK⟩:=ju _ _ _ hΦ
 have hh:∀ j,j < w.heap.size->j≠b->w'.heap[j]? = w.heap[j]?:=fun j hj aR=>hm.block j hj (by
  rintro (h1 | ⟨y,h1,_⟩)
  ·simp only [E1,List.mem_singleton] at h1;exact aR h1
  ·simp [E1] at h1)
 have dH:∀ x v,E2.c x=some v->E.c x=some v∨w.heap.size<=x.block:=fun x v hx=>by
  rcases hn.cn x v hx with h1 | h1 | ⟨y,h1,_⟩
  ·exact .inl h1
  ·exact .inr h1
  ·simp [E1] at h1
 let E':En:=⟨E2.c,E.β,E.tk,E.τ⟩
 have hx:Ext E E':=⟨hn.c,fun _ _ h=>h,fun _ q h=>⟨q,h,.inl ⟨rfl,rfl⟩⟩⟩;have HN:Ext (E2.cut 0 0) E':=⟨fun _ _ h=>h,fun j b hj=>by simp [En.cut] at hj,fun k q hk=>by simp [En.cut] at hk⟩
 have cj:Rel X E' ⟨st.sl,st.bx.set i qj,st.tk⟩ a w':=by
  refine cV h hx ?_ h.tk ?_ (h.fr.b9 hm.os hm.tape hm.output hm.size fun j hj=>?_) (mY aS) (.nil hX)
  ·exact {
    len:=by rw [List.length_set];exact h.env.len
    tl:=h.env.tl
    dW:=fun j PO hj=>by
     by_cases PI:j=i
     ·subst PI;rw [List.getElem?_set_self (gS kE).1] at hj;simp only [oI] at hj;subst hj;obtain ⟨b2,ZL,RQ,fj,nC,lF⟩:=he.dW 0 qj rfl;rw [hβ] at fj;simp only [E1,List.getElem?_cons_zero,oI] at fj;subst fj;exact ⟨b,ZL,RQ,hb,nC,RvL.mono HN (RvL.cut lF.1 (ZK qj (by simp))),lF.2⟩
     ·rw [List.getElem?_set_ne (Ne.symm PI)] at hj;obtain ⟨bj,ZM,RR,PQ,U2,JW⟩:=h.env.dW j PO hj
      have aR:bj≠b:=by
       rintro rfl;exact PI ((List.getElem?_inj (gS PQ).1 h.env.inj).1 (PQ.trans hb.symm))
      exact ⟨bj,ZM,RR,PQ,by rw [hh bj (bP U2) aR];exact U2,JW.mono hx⟩
    inj:=h.env.inj
    sub:=he.sub
    pc:=fun x v hc rk=>by
     rcases dH x v hc with h1 | h1
     ·exact h.env.pc x v h1 rk
     ·have:=h.env.aV rk;omega
    cD:=fun k q y hq hy=>by
     rcases h.env.cD k q y hq hy with h1 | ⟨g',cap,cur,rfl,h1,h2,h3,h4,h5,h6⟩
     ·exact .inl h1
     ·refine .inr ⟨g',cap,cur,rfl,by rw [hh g' (bP h1) (fun e=>h5 (by rw [e];exact vW))];exact h1,⟨h2.1,h2.2.mono hn.c⟩,h3,h4,h5,fun x v hc hg=>?_⟩;rcases dH x v hc with h7 | h7
      ·exact h6 x v h7 hg
      ·have:=bP h1;omega
    iy:=h.env.iy }
  ·exact {
    c:=fun x v hc=>hn.c x v (h.nw.c x v hc)
    cn:=fun x v hc=>by
     rcases dH x v hc with h1 | h1
     ·exact h.nw.cn x v h1
     ·have:=h.fr.size;exact .inr (.inl (by omega))
    β:=h.nw.β
    tk:=h.nw.tk
    tn:=h.nw.tn
    l0:=h.nw.l0 }
  ·by_cases Rh:j=b
   ·left;obtain ⟨r0,hr0,DB⟩:=h.nw.β;rw [hr0] at vW;rcases List.mem_append.1 vW with vW | vW
    ·exact .inl (.inl (Rh ▸ vW))
    ·exact .inr (Rh ▸ DB b vW)
   ·exact .inr (hh j hj Rh)
 exact go_sound 4000 _ _ (hk r qj hΦ) E' _ w' (aT cj hd r v (Rv.mono HN (Rv.cut RA ZJ)))
end
end Dv
end Go.Proofs.YtfifjddnnmfeoaaGreat
namespace Go.Proofs.YtfifjddnnmfeoaaGreat
namespace Dv
open Go
def tt:TT:=.ai 192 ⟨1,false,.fn,[.nilFunc]⟩ (.ai 96 ⟨1,false,.fn,[.nilFunc]⟩ (.ai 45 ⟨4,true,.st [(0,3),(1,3),(2,9),(3,43)],[.int .i64 0,.int .i64 0,.string ByteArray.empty,.slice none 0 0]⟩ (.ai 22 ⟨1,false,.sl 137 3 32,[.slice none 0 0]⟩ (.ai 11 ⟨1,false,.str,[.string ByteArray.empty]⟩ (.ai 6 ⟨1,false,.int .u8,[.int .u8 0]⟩ (.ai 3 ⟨1,false,.int .i64,[.int .i64 0]⟩ (.ai 2 ⟨1,false,.int .i64,[.int .i64 0]⟩ (.ai 1 ⟨1,false,.fn,[.nilFunc]⟩ (.nil) (.nil)) (.nil)) (.ai 5 ⟨1,false,.int .u8,[.int .u8 0]⟩ (.ai 4 ⟨1,false,.bool,[.bool false]⟩ (.nil) (.nil)) (.nil))) (.ai 9 ⟨1,false,.str,[.string ByteArray.empty]⟩ (.ai 8 ⟨4,true,.st [(0,2),(1,3),(2,4),(3,6)],[.int .i64 0,.int .i64 0,.bool false,.int .u8 0]⟩ (.ai 7 ⟨4,true,.st [(0,2),(1,3),(2,4),(3,6)],[.int .i64 0,.int .i64 0,.bool false,.int .u8 0]⟩ (.nil) (.nil)) (.nil)) (.ai 10 ⟨1,false,.str,[.string ByteArray.empty]⟩ (.nil) (.nil)))) (.ai 17 ⟨1,false,.ptr 383,[.pointer none]⟩ (.ai 14 ⟨2,true,.st [(0,9),(1,12)],[.string ByteArray.empty,.int .u64 0]⟩ (.ai 13 ⟨2,true,.st [(0,9),(1,12)],[.string ByteArray.empty,.int .u64 0]⟩ (.ai 12 ⟨1,false,.int .u64,[.int .u64 0]⟩ (.nil) (.nil)) (.nil)) (.ai 16 ⟨1,false,.ptr 376,[.pointer none]⟩ (.ai 15 ⟨1,false,.ptr 373,[.pointer none]⟩ (.nil) (.nil)) (.nil))) (.ai 20 ⟨1,false,.re,[.nilIface]⟩ (.ai 19 ⟨1,true,.st [(0,17)],[.pointer none]⟩ (.ai 18 ⟨1,true,.st [(0,17)],[.pointer none]⟩ (.nil) (.nil)) (.nil)) (.ai 21 ⟨1,false,.int .i32,[.int .i32 0]⟩ (.nil) (.nil))))) (.ai 34 ⟨1,false,.sl 146 4 48,[.slice none 0 0]⟩ (.ai 29 ⟨1,false,.fn,[.nilFunc]⟩ (.ai 26 ⟨1,false,.fn,[.nilFunc]⟩ (.ai 25 ⟨1,false,.ptr 116,[.pointer none]⟩ (.ai 24 ⟨1,false,.fn,[.nilFunc]⟩ (.nil) (.nil)) (.nil)) (.ai 28 ⟨1,false,.sl 3 1 8,[.slice none 0 0]⟩ (.ai 27 ⟨1,false,.sl 9 1 16,[.slice none 0 0]⟩ (.nil) (.nil)) (.nil))) (.ai 32 ⟨1,false,.fn,[.nilFunc]⟩ (.ai 31 ⟨1,false,.fn,[.nilFunc]⟩ (.ai 30 ⟨1,false,.fn,[.nilFunc]⟩ (.nil) (.nil)) (.nil)) (.ai 33 ⟨1,false,.sl 38 2 24,[.slice none 0 0]⟩ (.nil) (.nil)))) (.ai 40 ⟨9,true,.st [(0,3),(1,3),(2,3),(3,3),(4,3),(5,33),(6,36),(7,38)],[.int .i64 0,.int .i64 0,.int .i64 0,.int .i64 0,.int .i64 0,.slice none 0 0,.slice none 0 0,.string ByteArray.empty,.int .i64 0]⟩ (.ai 37 ⟨2,true,.st [(0,9),(1,3)],[.string ByteArray.empty,.int .i64 0]⟩ (.ai 36 ⟨1,false,.sl 144 18 224,[.slice none 0 0]⟩ (.ai 35 ⟨1,false,.sl 109 11 136,[.slice none 0 0]⟩ (.nil) (.nil)) (.nil)) (.ai 39 ⟨9,true,.st [(0,3),(1,3),(2,3),(3,3),(4,3),(5,33),(6,36),(7,38)],[.int .i64 0,.int .i64 0,.int .i64 0,.int .i64 0,.int .i64 0,.slice none 0 0,.slice none 0 0,.string ByteArray.empty,.int .i64 0]⟩ (.ai 38 ⟨2,true,.st [(0,9),(1,3)],[.string ByteArray.empty,.int .i64 0]⟩ (.nil) (.nil)) (.nil))) (.ai 43 ⟨1,false,.sl 45 4 56,[.slice none 0 0]⟩ (.ai 42 ⟨12,true,.st [(0,33),(1,34),(2,35),(3,40)],[.slice none 0 0,.slice none 0 0,.slice none 0 0,.int .i64 0,.int .i64 0,.int .i64 0,.int .i64 0,.int .i64 0,.slice none 0 0,.slice none 0 0,.string ByteArray.empty,.int .i64 0]⟩ (.ai 41 ⟨12,true,.st [(0,33),(1,34),(2,35),(3,40)],[.slice none 0 0,.slice none 0 0,.slice none 0 0,.int .i64 0,.int .i64 0,.int .i64 0,.int .i64 0,.int .i64 0,.slice none 0 0,.slice none 0 0,.string ByteArray.empty,.int .i64 0]⟩ (.nil) (.nil)) (.nil)) (.ai 44 ⟨4,true,.st [(0,3),(1,3),(2,9),(3,43)],[.int .i64 0,.int .i64 0,.string ByteArray.empty,.slice none 0 0]⟩ (.nil) (.nil)))))) (.ai 73 ⟨1,false,.fn,[.nilFunc]⟩ (.ai 59 ⟨1,false,.fn,[.nilFunc]⟩ (.ai 52 ⟨1,false,.int .i64,[.int .i64 0]⟩ (.ai 48 ⟨6,true,.st [(0,3),(1,3),(2,3),(3,9),(4,33),(5,46)],[.int .i64 0,.int .i64 0,.int .i64 0,.string ByteArray.empty,.slice none 0 0,.slice none 0 0]⟩ (.ai 47 ⟨6,true,.st [(0,3),(1,3),(2,3),(3,9),(4,33),(5,46)],[.int .i64 0,.int .i64 0,.int .i64 0,.string ByteArray.empty,.slice none 0 0,.slice none 0 0]⟩ (.ai 46 ⟨1,false,.sl 48 6 88,[.slice none 0 0]⟩ (.nil) (.nil)) (.nil)) (.ai 51 ⟨1,false,.fn,[.nilFunc]⟩ (.ai 50 ⟨1,false,.fn,[.nilFunc]⟩ (.nil) (.nil)) (.nil))) (.ai 56 ⟨1,false,.fn,[.nilFunc]⟩ (.ai 54 ⟨2,true,.st [(0,52),(1,3)],[.int .i64 0,.int .i64 0]⟩ (.ai 53 ⟨2,true,.st [(0,52),(1,3)],[.int .i64 0,.int .i64 0]⟩ (.nil) (.nil)) (.nil)) (.ai 57 ⟨1,false,.fn,[.nilFunc]⟩ (.nil) (.nil)))) (.ai 67 ⟨1,false,.fn,[.nilFunc]⟩ (.ai 63 ⟨1,false,.fn,[.nilFunc]⟩ (.ai 61 ⟨1,false,.fn,[.nilFunc]⟩ (.ai 60 ⟨1,false,.fn,[.nilFunc]⟩ (.nil) (.nil)) (.nil)) (.ai 65 ⟨1,false,.fn,[.nilFunc]⟩ (.ai 64 ⟨1,false,.sl 22 1 24,[.slice none 0 0]⟩ (.nil) (.nil)) (.nil))) (.ai 70 ⟨1,false,.fn,[.nilFunc]⟩ (.ai 69 ⟨1,false,.fn,[.nilFunc]⟩ (.ai 68 ⟨1,false,.fn,[.nilFunc]⟩ (.nil) (.nil)) (.nil)) (.ai 72 ⟨1,false,.fn,[.nilFunc]⟩ (.nil) (.nil))))) (.ai 84 ⟨2,true,.st [(0,3),(1,3)],[.int .i64 0,.int .i64 0]⟩ (.ai 79 ⟨1,false,.fn,[.nilFunc]⟩ (.ai 76 ⟨1,false,.sl 155 7 88,[.slice none 0 0]⟩ (.ai 75 ⟨1,false,.sl 206 1 24,[.slice none 0 0]⟩ (.ai 74 ⟨1,false,.fn,[.nilFunc]⟩ (.nil) (.nil)) (.nil)) (.ai 78 ⟨4,true,.st [(0,33),(1,75),(2,76),(3,3)],[.slice none 0 0,.slice none 0 0,.slice none 0 0,.int .i64 0]⟩ (.ai 77 ⟨4,true,.st [(0,33),(1,75),(2,76),(3,3)],[.slice none 0 0,.slice none 0 0,.slice none 0 0,.int .i64 0]⟩ (.nil) (.nil)) (.nil))) (.ai 82 ⟨1,false,.fn,[.nilFunc]⟩ (.ai 81 ⟨1,false,.fn,[.nilFunc]⟩ (.ai 80 ⟨1,false,.fn,[.nilFunc]⟩ (.nil) (.nil)) (.nil)) (.ai 83 ⟨1,false,.fn,[.nilFunc]⟩ (.nil) (.nil)))) (.ai 91 ⟨1,false,.fn,[.nilFunc]⟩ (.ai 87 ⟨4,true,.st [(0,3),(1,3),(2,9),(3,86)],[.int .i64 0,.int .i64 0,.string ByteArray.empty,.slice none 0 0]⟩ (.ai 86 ⟨1,false,.sl 88 4 56,[.slice none 0 0]⟩ (.ai 85 ⟨2,true,.st [(0,3),(1,3)],[.int .i64 0,.int .i64 0]⟩ (.nil) (.nil)) (.nil)) (.ai 90 ⟨1,false,.fn,[.nilFunc]⟩ (.ai 88 ⟨4,true,.st [(0,3),(1,3),(2,9),(3,86)],[.int .i64 0,.int .i64 0,.string ByteArray.empty,.slice none 0 0]⟩ (.nil) (.nil)) (.nil))) (.ai 94 ⟨1,false,.fn,[.nilFunc]⟩ (.ai 93 ⟨1,false,.fn,[.nilFunc]⟩ (.ai 92 ⟨1,false,.fn,[.nilFunc]⟩ (.nil) (.nil)) (.nil)) (.ai 95 ⟨1,false,.ptr 182,[.pointer none]⟩ (.nil) (.nil))))))) (.ai 145 ⟨4,true,.st [(0,38),(2,38)],[.string ByteArray.empty,.int .i64 0,.string ByteArray.empty,.int .i64 0]⟩ (.ai 121 ⟨1,false,.fn,[.nilFunc]⟩ (.ai 109 ⟨11,true,.st [(0,38),(2,40)],[.string ByteArray.empty,.int .i64 0,.int .i64 0,.int .i64 0,.int .i64 0,.int .i64 0,.int .i64 0,.slice none 0 0,.slice none 0 0,.string ByteArray.empty,.int .i64 0]⟩ (.ai 103 ⟨2,true,.st [(0,3),(1,3)],[.int .i64 0,.int .i64 0]⟩ (.ai 100 ⟨7,true,.st [(0,25),(1,25),(2,28),(3,95),(4,98),(5,3),(6,22)],[.pointer none,.pointer none,.slice none 0 0,.pointer none,.map none,.int .i64 0,.slice none 0 0]⟩ (.ai 99 ⟨7,true,.st [(0,25),(1,25),(2,28),(3,95),(4,98),(5,3),(6,22)],[.pointer none,.pointer none,.slice none 0 0,.pointer none,.map none,.int .i64 0,.slice none 0 0]⟩ (.ai 97 ⟨1,false,.ptr 100,[.pointer none]⟩ (.nil) (.nil)) (.nil)) (.ai 102 ⟨2,true,.st [(0,3),(1,3)],[.int .i64 0,.int .i64 0]⟩ (.ai 101 ⟨1,false,.fn,[.nilFunc]⟩ (.nil) (.nil)) (.nil))) (.ai 107 ⟨1,false,.fn,[.nilFunc]⟩ (.ai 106 ⟨1,false,.fn,[.nilFunc]⟩ (.ai 104 ⟨1,false,.fn,[.nilFunc]⟩ (.nil) (.nil)) (.nil)) (.ai 108 ⟨11,true,.st [(0,38),(2,40)],[.string ByteArray.empty,.int .i64 0,.int .i64 0,.int .i64 0,.int .i64 0,.int .i64 0,.int .i64 0,.slice none 0 0,.slice none 0 0,.string ByteArray.empty,.int .i64 0]⟩ (.nil) (.nil)))) (.ai 116 ⟨5,true,.st [(0,95),(1,113),(2,3),(3,114),(4,28)],[.pointer none,.slice none 0 0,.int .i64 0,.pointer none,.slice none 0 0]⟩ (.ai 113 ⟨1,false,.sl 125 7 88,[.slice none 0 0]⟩ (.ai 112 ⟨1,false,.ptr 118,[.pointer none]⟩ (.ai 111 ⟨1,false,.fn,[.nilFunc]⟩ (.nil) (.nil)) (.nil)) (.ai 115 ⟨5,true,.st [(0,95),(1,113),(2,3),(3,114),(4,28)],[.pointer none,.slice none 0 0,.int .i64 0,.pointer none,.slice none 0 0]⟩ (.ai 114 ⟨1,false,.ptr 255,[.pointer none]⟩ (.nil) (.nil)) (.nil))) (.ai 119 ⟨1,false,.fn,[.nilFunc]⟩ (.ai 118 ⟨15,true,.st [(0,42),(12,95),(13,25),(14,3)],[.slice none 0 0,.slice none 0 0,.slice none 0 0,.int .i64 0,.int .i64 0,.int .i64 0,.int .i64 0,.int .i64 0,.slice none 0 0,.slice none 0 0,.string ByteArray.empty,.int .i64 0,.pointer none,.pointer none,.int .i64 0]⟩ (.ai 117 ⟨15,true,.st [(0,42),(12,95),(13,25),(14,3)],[.slice none 0 0,.slice none 0 0,.slice none 0 0,.int .i64 0,.int .i64 0,.int .i64 0,.int .i64 0,.int .i64 0,.slice none 0 0,.slice none 0 0,.string ByteArray.empty,.int .i64 0,.pointer none,.pointer none,.int .i64 0]⟩ (.nil) (.nil)) (.nil)) (.ai 120 ⟨1,false,.fn,[.nilFunc]⟩ (.nil) (.nil))))) (.ai 134 ⟨1,false,.fn,[.nilFunc]⟩ (.ai 128 ⟨1,false,.fn,[.nilFunc]⟩ (.ai 124 ⟨7,true,.st [(0,3),(1,3),(2,3),(3,3),(4,3),(5,27),(6,123)],[.int .i64 0,.int .i64 0,.int .i64 0,.int .i64 0,.int .i64 0,.slice none 0 0,.slice none 0 0]⟩ (.ai 123 ⟨1,false,.sl 176 10 88,[.slice none 0 0]⟩ (.ai 122 ⟨1,false,.fn,[.nilFunc]⟩ (.nil) (.nil)) (.nil)) (.ai 127 ⟨1,false,.fn,[.nilFunc]⟩ (.ai 125 ⟨7,true,.st [(0,3),(1,3),(2,3),(3,3),(4,3),(5,27),(6,123)],[.int .i64 0,.int .i64 0,.int .i64 0,.int .i64 0,.int .i64 0,.slice none 0 0,.slice none 0 0]⟩ (.nil) (.nil)) (.nil))) (.ai 131 ⟨1,false,.fn,[.nilFunc]⟩ (.ai 130 ⟨1,false,.fn,[.nilFunc]⟩ (.ai 129 ⟨1,false,.fn,[.nilFunc]⟩ (.nil) (.nil)) (.nil)) (.ai 133 ⟨1,false,.fn,[.nilFunc]⟩ (.nil) (.nil)))) (.ai 140 ⟨1,false,.fn,[.nilFunc]⟩ (.ai 137 ⟨3,true,.st [(0,3),(1,3),(2,9)],[.int .i64 0,.int .i64 0,.string ByteArray.empty]⟩ (.ai 136 ⟨3,true,.st [(0,3),(1,3),(2,9)],[.int .i64 0,.int .i64 0,.string ByteArray.empty]⟩ (.ai 135 ⟨1,false,.fn,[.nilFunc]⟩ (.nil) (.nil)) (.nil)) (.ai 139 ⟨1,false,.fn,[.nilFunc]⟩ (.ai 138 ⟨1,false,.fn,[.nilFunc]⟩ (.nil) (.nil)) (.nil))) (.ai 143 ⟨18,true,.st [(0,38),(2,4),(3,33),(4,3),(5,142),(9,40)],[.string ByteArray.empty,.int .i64 0,.bool false,.slice none 0 0,.int .i64 0,.int .i64 0,.int .i64 0,.int .i64 0,.slice none 0 0,.int .i64 0,.int .i64 0,.int .i64 0,.int .i64 0,.int .i64 0,.slice none 0 0,.slice none 0 0,.string ByteArray.empty,.int .i64 0]⟩ (.ai 142 ⟨4,true,.st [(0,3),(1,3),(2,3),(3,33)],[.int .i64 0,.int .i64 0,.int .i64 0,.slice none 0 0]⟩ (.ai 141 ⟨4,true,.st [(0,3),(1,3),(2,3),(3,33)],[.int .i64 0,.int .i64 0,.int .i64 0,.slice none 0 0]⟩ (.nil) (.nil)) (.nil)) (.ai 144 ⟨18,true,.st [(0,38),(2,4),(3,33),(4,3),(5,142),(9,40)],[.string ByteArray.empty,.int .i64 0,.bool false,.slice none 0 0,.int .i64 0,.int .i64 0,.int .i64 0,.int .i64 0,.slice none 0 0,.int .i64 0,.int .i64 0,.int .i64 0,.int .i64 0,.int .i64 0,.slice none 0 0,.slice none 0 0,.string ByteArray.empty,.int .i64 0]⟩ (.nil) (.nil)))))) (.ai 167 ⟨10,true,.st [(0,9),(1,4),(2,3),(3,3),(4,3),(5,3),(6,3),(7,3),(8,3),(9,3)],[.string ByteArray.empty,.bool false,.int .i64 0,.int .i64 0,.int .i64 0,.int .i64 0,.int .i64 0,.int .i64 0,.int .i64 0,.int .i64 0]⟩ (.ai 156 ⟨1,false,.fn,[.nilFunc]⟩ (.ai 151 ⟨1,false,.fn,[.nilFunc]⟩ (.ai 148 ⟨1,false,.fn,[.nilFunc]⟩ (.ai 147 ⟨1,false,.fn,[.nilFunc]⟩ (.ai 146 ⟨4,true,.st [(0,38),(2,38)],[.string ByteArray.empty,.int .i64 0,.string ByteArray.empty,.int .i64 0]⟩ (.nil) (.nil)) (.nil)) (.ai 150 ⟨1,false,.sl 40 9 112,[.slice none 0 0]⟩ (.ai 149 ⟨1,false,.fn,[.nilFunc]⟩ (.nil) (.nil)) (.nil))) (.ai 154 ⟨7,true,.st [(0,3),(1,3),(2,3),(3,3),(4,3),(5,27),(6,153)],[.int .i64 0,.int .i64 0,.int .i64 0,.int .i64 0,.int .i64 0,.slice none 0 0,.slice none 0 0]⟩ (.ai 153 ⟨1,false,.sl 168 10 88,[.slice none 0 0]⟩ (.ai 152 ⟨1,false,.fn,[.nilFunc]⟩ (.nil) (.nil)) (.nil)) (.ai 155 ⟨7,true,.st [(0,3),(1,3),(2,3),(3,3),(4,3),(5,27),(6,153)],[.int .i64 0,.int .i64 0,.int .i64 0,.int .i64 0,.int .i64 0,.slice none 0 0,.slice none 0 0]⟩ (.nil) (.nil)))) (.ai 162 ⟨1,false,.fn,[.nilFunc]⟩ (.ai 159 ⟨1,false,.sl 5 1 1,[.slice none 0 0]⟩ (.ai 158 ⟨1,false,.ptr 161,[.pointer none]⟩ (.ai 157 ⟨1,false,.fn,[.nilFunc]⟩ (.nil) (.nil)) (.nil)) (.ai 161 ⟨2,true,.st [(0,158),(1,159)],[.pointer none,.slice none 0 0]⟩ (.ai 160 ⟨2,true,.st [(0,158),(1,159)],[.pointer none,.slice none 0 0]⟩ (.nil) (.nil)) (.nil))) (.ai 165 ⟨1,false,.fn,[.nilFunc]⟩ (.ai 164 ⟨1,false,.fn,[.nilFunc]⟩ (.ai 163 ⟨1,false,.fn,[.nilFunc]⟩ (.nil) (.nil)) (.nil)) (.ai 166 ⟨1,false,.fn,[.nilFunc]⟩ (.nil) (.nil))))) (.ai 178 ⟨1,false,.ptr 260,[.pointer none]⟩ (.ai 173 ⟨1,false,.fn,[.nilFunc]⟩ (.ai 170 ⟨1,false,.fn,[.nilFunc]⟩ (.ai 169 ⟨1,false,.fn,[.nilFunc]⟩ (.ai 168 ⟨10,true,.st [(0,9),(1,4),(2,3),(3,3),(4,3),(5,3),(6,3),(7,3),(8,3),(9,3)],[.string ByteArray.empty,.bool false,.int .i64 0,.int .i64 0,.int .i64 0,.int .i64 0,.int .i64 0,.int .i64 0,.int .i64 0,.int .i64 0]⟩ (.nil) (.nil)) (.nil)) (.ai 172 ⟨1,false,.fn,[.nilFunc]⟩ (.ai 171 ⟨1,false,.fn,[.nilFunc]⟩ (.nil) (.nil)) (.nil))) (.ai 176 ⟨10,true,.st [(0,9),(1,4),(2,3),(3,3),(4,3),(5,3),(6,3),(7,3),(8,3),(9,3)],[.string ByteArray.empty,.bool false,.int .i64 0,.int .i64 0,.int .i64 0,.int .i64 0,.int .i64 0,.int .i64 0,.int .i64 0,.int .i64 0]⟩ (.ai 175 ⟨1,false,.fn,[.nilFunc]⟩ (.ai 174 ⟨1,false,.fn,[.nilFunc]⟩ (.nil) (.nil)) (.nil)) (.ai 177 ⟨1,false,.fn,[.nilFunc]⟩ (.nil) (.nil)))) (.ai 185 ⟨1,false,.fn,[.nilFunc]⟩ (.ai 181 ⟨2051,true,.st [(0,27),(1,114),(2,178),(3,180),(1027,180)],(.slice none 0 0 :: .pointer none :: .pointer none :: List.replicate 2048 (.int .i64 0))⟩ (.ai 180 ⟨1024,true,.ar 32 32,(List.replicate 1024 (.int .i64 0))⟩ (.ai 179 ⟨32,true,.ar 32 1,[.int .i64 0,.int .i64 0,.int .i64 0,.int .i64 0,.int .i64 0,.int .i64 0,.int .i64 0,.int .i64 0,.int .i64 0,.int .i64 0,.int .i64 0,.int .i64 0,.int .i64 0,.int .i64 0,.int .i64 0,.int .i64 0,.int .i64 0,.int .i64 0,.int .i64 0,.int .i64 0,.int .i64 0,.int .i64 0,.int .i64 0,.int .i64 0,.int .i64 0,.int .i64 0,.int .i64 0,.int .i64 0,.int .i64 0,.int .i64 0,.int .i64 0,.int .i64 0]⟩ (.nil) (.nil)) (.nil)) (.ai 183 ⟨1,false,.fn,[.nilFunc]⟩ (.ai 182 ⟨2051,true,.st [(0,27),(1,114),(2,178),(3,180),(1027,180)],(.slice none 0 0 :: .pointer none :: .pointer none :: List.replicate 2048 (.int .i64 0))⟩ (.nil) (.nil)) (.nil))) (.ai 189 ⟨1,false,.fn,[.nilFunc]⟩ (.ai 187 ⟨1,false,.sl 257 2 16,[.slice none 0 0]⟩ (.ai 186 ⟨1,false,.fn,[.nilFunc]⟩ (.nil) (.nil)) (.nil)) (.ai 191 ⟨1,false,.fn,[.nilFunc]⟩ (.nil) (.nil)))))))) (.ai 290 ⟨1,false,.fn,[.nilFunc]⟩ (.ai 242 ⟨1,false,.fn,[.nilFunc]⟩ (.ai 215 ⟨1,false,.re,[.nilIface]⟩ (.ai 204 ⟨1,false,.fn,[.nilFunc]⟩ (.ai 199 ⟨1,false,.fn,[.nilFunc]⟩ (.ai 195 ⟨1,false,.fn,[.nilFunc]⟩ (.ai 194 ⟨1,false,.fn,[.nilFunc]⟩ (.ai 193 ⟨1,false,.fn,[.nilFunc]⟩ (.nil) (.nil)) (.nil)) (.ai 198 ⟨1,false,.fn,[.nilFunc]⟩ (.ai 196 ⟨1,false,.sl 33 1 24,[.slice none 0 0]⟩ (.nil) (.nil)) (.nil))) (.ai 202 ⟨1,false,.fn,[.nilFunc]⟩ (.ai 201 ⟨1,false,.fn,[.nilFunc]⟩ (.ai 200 ⟨1,false,.fn,[.nilFunc]⟩ (.nil) (.nil)) (.nil)) (.ai 203 ⟨1,false,.fn,[.nilFunc]⟩ (.nil) (.nil)))) (.ai 210 ⟨1,false,.fn,[.nilFunc]⟩ (.ai 207 ⟨1,false,.fn,[.nilFunc]⟩ (.ai 206 ⟨1,false,.sl 4 1 1,[.slice none 0 0]⟩ (.ai 205 ⟨1,false,.fn,[.nilFunc]⟩ (.nil) (.nil)) (.nil)) (.ai 209 ⟨1,false,.fn,[.nilFunc]⟩ (.ai 208 ⟨1,false,.fn,[.nilFunc]⟩ (.nil) (.nil)) (.nil))) (.ai 213 ⟨20,true,.ar 20 1,[.int .u8 0,.int .u8 0,.int .u8 0,.int .u8 0,.int .u8 0,.int .u8 0,.int .u8 0,.int .u8 0,.int .u8 0,.int .u8 0,.int .u8 0,.int .u8 0,.int .u8 0,.int .u8 0,.int .u8 0,.int .u8 0,.int .u8 0,.int .u8 0,.int .u8 0,.int .u8 0]⟩ (.ai 212 ⟨1,false,.int .u64,[.int .u64 0]⟩ (.ai 211 ⟨1,false,.fn,[.nilFunc]⟩ (.nil) (.nil)) (.nil)) (.ai 214 ⟨1,false,.re,[.nilIface]⟩ (.nil) (.nil))))) (.ai 229 ⟨1,false,.fn,[.nilFunc]⟩ (.ai 224 ⟨1,false,.fn,[.nilFunc]⟩ (.ai 220 ⟨1,false,.fn,[.nilFunc]⟩ (.ai 218 ⟨1,false,.fn,[.nilFunc]⟩ (.ai 216 ⟨1,false,.fn,[.nilFunc]⟩ (.nil) (.nil)) (.nil)) (.ai 223 ⟨1,false,.fn,[.nilFunc]⟩ (.ai 221 ⟨1,false,.int .u64,[.int .u64 0]⟩ (.nil) (.nil)) (.nil))) (.ai 227 ⟨1,false,.fn,[.nilFunc]⟩ (.ai 226 ⟨1,false,.fn,[.nilFunc]⟩ (.ai 225 ⟨1,false,.fn,[.nilFunc]⟩ (.nil) (.nil)) (.nil)) (.ai 228 ⟨1,false,.fn,[.nilFunc]⟩ (.nil) (.nil)))) (.ai 236 ⟨1,false,.fn,[.nilFunc]⟩ (.ai 232 ⟨3,true,.st [(0,25),(1,95),(2,3)],[.pointer none,.pointer none,.int .i64 0]⟩ (.ai 231 ⟨3,true,.st [(0,25),(1,95),(2,3)],[.pointer none,.pointer none,.int .i64 0]⟩ (.ai 230 ⟨1,false,.fn,[.nilFunc]⟩ (.nil) (.nil)) (.nil)) (.ai 235 ⟨1,false,.fn,[.nilFunc]⟩ (.ai 234 ⟨1,false,.fn,[.nilFunc]⟩ (.nil) (.nil)) (.nil))) (.ai 240 ⟨1,false,.fn,[.nilFunc]⟩ (.ai 238 ⟨3,true,.st [(0,9),(1,9),(2,27)],[.string ByteArray.empty,.string ByteArray.empty,.slice none 0 0]⟩ (.ai 237 ⟨3,true,.st [(0,9),(1,9),(2,27)],[.string ByteArray.empty,.string ByteArray.empty,.slice none 0 0]⟩ (.nil) (.nil)) (.nil)) (.ai 241 ⟨1,false,.ptr 5,[.pointer none]⟩ (.nil) (.nil)))))) (.ai 264 ⟨1,false,.ptr 266,[.pointer none]⟩ (.ai 253 ⟨1,false,.fn,[.nilFunc]⟩ (.ai 248 ⟨1,false,.fn,[.nilFunc]⟩ (.ai 245 ⟨1,false,.fn,[.nilFunc]⟩ (.ai 244 ⟨1,false,.fn,[.nilFunc]⟩ (.ai 243 ⟨1,false,.fn,[.nilFunc]⟩ (.nil) (.nil)) (.nil)) (.ai 247 ⟨1,false,.fn,[.nilFunc]⟩ (.ai 246 ⟨1,false,.fn,[.nilFunc]⟩ (.nil) (.nil)) (.nil))) (.ai 251 ⟨1,false,.fn,[.nilFunc]⟩ (.ai 250 ⟨1,false,.fn,[.nilFunc]⟩ (.ai 249 ⟨1,false,.fn,[.nilFunc]⟩ (.nil) (.nil)) (.nil)) (.ai 252 ⟨1,false,.fn,[.nilFunc]⟩ (.nil) (.nil)))) (.ai 259 ⟨1,true,.st [(0,258)],[.slice none 0 0]⟩ (.ai 256 ⟨1,false,.fn,[.nilFunc]⟩ (.ai 255 ⟨2,true,.st [(0,27),(1,28)],[.slice none 0 0,.slice none 0 0]⟩ (.ai 254 ⟨2,true,.st [(0,27),(1,28)],[.slice none 0 0,.slice none 0 0]⟩ (.nil) (.nil)) (.nil)) (.ai 258 ⟨1,false,.sl 212 1 8,[.slice none 0 0]⟩ (.ai 257 ⟨2,true,.ar 2 1,[.int .i64 0,.int .i64 0]⟩ (.nil) (.nil)) (.nil))) (.ai 262 ⟨1,false,.fn,[.nilFunc]⟩ (.ai 261 ⟨1,false,.fn,[.nilFunc]⟩ (.ai 260 ⟨1,true,.st [(0,258)],[.slice none 0 0]⟩ (.nil) (.nil)) (.nil)) (.ai 263 ⟨1,false,.fn,[.nilFunc]⟩ (.nil) (.nil))))) (.ai 276 ⟨1,false,.fn,[.nilFunc]⟩ (.ai 270 ⟨1,false,.fn,[.nilFunc]⟩ (.ai 267 ⟨1,false,.fn,[.nilFunc]⟩ (.ai 266 ⟨1,true,.st [(0,3)],[.int .i64 0]⟩ (.ai 265 ⟨1,true,.st [(0,3)],[.int .i64 0]⟩ (.nil) (.nil)) (.nil)) (.ai 269 ⟨1,false,.fn,[.nilFunc]⟩ (.ai 268 ⟨1,false,.fn,[.nilFunc]⟩ (.nil) (.nil)) (.nil))) (.ai 274 ⟨1,false,.fn,[.nilFunc]⟩ (.ai 272 ⟨1,false,.fn,[.nilFunc]⟩ (.ai 271 ⟨1,false,.fn,[.nilFunc]⟩ (.nil) (.nil)) (.nil)) (.ai 275 ⟨1,false,.fn,[.nilFunc]⟩ (.nil) (.nil)))) (.ai 284 ⟨1,false,.fn,[.nilFunc]⟩ (.ai 280 ⟨1,false,.fn,[.nilFunc]⟩ (.ai 278 ⟨1,false,.int .u32,[.int .u32 0]⟩ (.ai 277 ⟨1,false,.fn,[.nilFunc]⟩ (.nil) (.nil)) (.nil)) (.ai 283 ⟨1,false,.fn,[.nilFunc]⟩ (.ai 282 ⟨1,false,.fn,[.nilFunc]⟩ (.nil) (.nil)) (.nil))) (.ai 287 ⟨1,false,.fn,[.nilFunc]⟩ (.ai 286 ⟨1,false,.fn,[.nilFunc]⟩ (.ai 285 ⟨1,false,.fn,[.nilFunc]⟩ (.nil) (.nil)) (.nil)) (.ai 288 ⟨1,false,.fn,[.nilFunc]⟩ (.nil) (.nil))))))) (.ai 340 ⟨1,false,.fn,[.nilFunc]⟩ (.ai 316 ⟨1,false,.fn,[.nilFunc]⟩ (.ai 304 ⟨1,false,.fn,[.nilFunc]⟩ (.ai 297 ⟨1,false,.int .u64,[.int .u64 0]⟩ (.ai 293 ⟨1,false,.fn,[.nilFunc]⟩ (.ai 292 ⟨1,false,.fn,[.nilFunc]⟩ (.ai 291 ⟨1,false,.fn,[.nilFunc]⟩ (.nil) (.nil)) (.nil)) (.ai 295 ⟨1,false,.fn,[.nilFunc]⟩ (.ai 294 ⟨1,false,.fn,[.nilFunc]⟩ (.nil) (.nil)) (.nil))) (.ai 302 ⟨1,false,.fn,[.nilFunc]⟩ (.ai 301 ⟨1,false,.fn,[.nilFunc]⟩ (.ai 300 ⟨1,false,.fn,[.nilFunc]⟩ (.nil) (.nil)) (.nil)) (.ai 303 ⟨1,false,.fn,[.nilFunc]⟩ (.nil) (.nil)))) (.ai 310 ⟨1,false,.fn,[.nilFunc]⟩ (.ai 307 ⟨1,false,.fn,[.nilFunc]⟩ (.ai 306 ⟨2,true,.st [(0,173),(1,301)],[.nilFunc,.nilFunc]⟩ (.ai 305 ⟨2,true,.st [(0,173),(1,301)],[.nilFunc,.nilFunc]⟩ (.nil) (.nil)) (.nil)) (.ai 309 ⟨1,false,.fn,[.nilFunc]⟩ (.ai 308 ⟨1,false,.fn,[.nilFunc]⟩ (.nil) (.nil)) (.nil))) (.ai 314 ⟨1,false,.fn,[.nilFunc]⟩ (.ai 313 ⟨1,false,.fn,[.nilFunc]⟩ (.ai 312 ⟨1,false,.fn,[.nilFunc]⟩ (.nil) (.nil)) (.nil)) (.ai 315 ⟨1,false,.fn,[.nilFunc]⟩ (.nil) (.nil))))) (.ai 328 ⟨1,true,.st [(0,17)],[.pointer none]⟩ (.ai 322 ⟨1,false,.fn,[.nilFunc]⟩ (.ai 319 ⟨3,true,.st [(0,54),(2,3)],[.int .i64 0,.int .i64 0,.int .i64 0]⟩ (.ai 318 ⟨1,false,.fn,[.nilFunc]⟩ (.ai 317 ⟨1,false,.sl 348 2 8,[.slice none 0 0]⟩ (.nil) (.nil)) (.nil)) (.ai 321 ⟨1,false,.fn,[.nilFunc]⟩ (.ai 320 ⟨3,true,.st [(0,54),(2,3)],[.int .i64 0,.int .i64 0,.int .i64 0]⟩ (.nil) (.nil)) (.nil))) (.ai 326 ⟨1,false,.fn,[.nilFunc]⟩ (.ai 324 ⟨1,false,.fn,[.nilFunc]⟩ (.ai 323 ⟨1,false,.fn,[.nilFunc]⟩ (.nil) (.nil)) (.nil)) (.ai 327 ⟨1,false,.fn,[.nilFunc]⟩ (.nil) (.nil)))) (.ai 335 ⟨1,false,.fn,[.nilFunc]⟩ (.ai 331 ⟨1,false,.fn,[.nilFunc]⟩ (.ai 330 ⟨1,false,.ptr 385,[.pointer none]⟩ (.ai 329 ⟨1,true,.st [(0,17)],[.pointer none]⟩ (.nil) (.nil)) (.nil)) (.ai 333 ⟨1,false,.int .i64,[.int .i64 0]⟩ (.ai 332 ⟨1,false,.fn,[.nilFunc]⟩ (.nil) (.nil)) (.nil))) (.ai 338 ⟨1,false,.fn,[.nilFunc]⟩ (.ai 337 ⟨1,false,.fn,[.nilFunc]⟩ (.ai 336 ⟨1,false,.fn,[.nilFunc]⟩ (.nil) (.nil)) (.nil)) (.ai 339 ⟨1,false,.fn,[.nilFunc]⟩ (.nil) (.nil)))))) (.ai 362 ⟨2,true,.st [(0,21),(1,21)],[.int .i32 0,.int .i32 0]⟩ (.ai 351 ⟨1,false,.fn,[.nilFunc]⟩ (.ai 346 ⟨1,false,.fn,[.nilFunc]⟩ (.ai 343 ⟨1,false,.sl 363 2 8,[.slice none 0 0]⟩ (.ai 342 ⟨1,false,.fn,[.nilFunc]⟩ (.ai 341 ⟨1,false,.fn,[.nilFunc]⟩ (.nil) (.nil)) (.nil)) (.ai 345 ⟨4,true,.ar 4 1,[.int .i64 0,.int .i64 0,.int .i64 0,.int .i64 0]⟩ (.ai 344 ⟨1,false,.fn,[.nilFunc]⟩ (.nil) (.nil)) (.nil))) (.ai 349 ⟨1,false,.fn,[.nilFunc]⟩ (.ai 348 ⟨2,true,.st [(0,21),(1,21)],[.int .i32 0,.int .i32 0]⟩ (.ai 347 ⟨2,true,.st [(0,21),(1,21)],[.int .i32 0,.int .i32 0]⟩ (.nil) (.nil)) (.nil)) (.ai 350 ⟨1,false,.fn,[.nilFunc]⟩ (.nil) (.nil)))) (.ai 357 ⟨1,false,.fn,[.nilFunc]⟩ (.ai 354 ⟨1,false,.fn,[.nilFunc]⟩ (.ai 353 ⟨1,false,.fn,[.nilFunc]⟩ (.ai 352 ⟨1,false,.fn,[.nilFunc]⟩ (.nil) (.nil)) (.nil)) (.ai 356 ⟨1,false,.fn,[.nilFunc]⟩ (.ai 355 ⟨1,false,.int .u64,[.int .u64 0]⟩ (.nil) (.nil)) (.nil))) (.ai 360 ⟨1,false,.fn,[.nilFunc]⟩ (.ai 359 ⟨1,false,.ptr 3,[.pointer none]⟩ (.ai 358 ⟨1,false,.fn,[.nilFunc]⟩ (.nil) (.nil)) (.nil)) (.ai 361 ⟨1,false,.fn,[.nilFunc]⟩ (.nil) (.nil))))) (.ai 373 ⟨4,true,.st [(0,17),(1,17),(2,17),(3,9)],[.pointer none,.pointer none,.pointer none,.string ByteArray.empty]⟩ (.ai 368 ⟨1,false,.ptr 355,[.pointer none]⟩ (.ai 365 ⟨1,false,.fn,[.nilFunc]⟩ (.ai 364 ⟨1,false,.fn,[.nilFunc]⟩ (.ai 363 ⟨2,true,.st [(0,21),(1,21)],[.int .i32 0,.int .i32 0]⟩ (.nil) (.nil)) (.nil)) (.ai 367 ⟨1,false,.fn,[.nilFunc]⟩ (.ai 366 ⟨1,false,.fn,[.nilFunc]⟩ (.nil) (.nil)) (.nil))) (.ai 371 ⟨1,false,.fn,[.nilFunc]⟩ (.ai 370 ⟨1,false,.fn,[.nilFunc]⟩ (.ai 369 ⟨1,false,.fn,[.nilFunc]⟩ (.nil) (.nil)) (.nil)) (.ai 372 ⟨4,true,.st [(0,17),(1,17),(2,17),(3,9)],[.pointer none,.pointer none,.pointer none,.string ByteArray.empty]⟩ (.nil) (.nil)))) (.ai 381 ⟨1,false,.int .i32,[.int .i32 0]⟩ (.ai 378 ⟨1,false,.int .u8,[.int .u8 0]⟩ (.ai 377 ⟨1,false,.int .u8,[.int .u8 0]⟩ (.ai 374 ⟨0,true,.ar 0 1,[]⟩ (.nil) (.nil)) (.nil)) (.ai 380 ⟨1,false,.int .i32,[.int .i32 0]⟩ (.ai 379 ⟨1,false,.fn,[.nilFunc]⟩ (.nil) (.nil)) (.nil))) (.ai 384 ⟨2,true,.st [(0,9),(1,378)],[.string ByteArray.empty,.int .u8 0]⟩ (.ai 383 ⟨11,true,.st [(0,12),(1,12),(2,278),(3,377),(4,5),(5,5),(6,378),(7,379),(8,241),(9,380),(10,381)],[.int .u64 0,.int .u64 0,.int .u32 0,.int .u8 0,.int .u8 0,.int .u8 0,.int .u8 0,.nilFunc,.pointer none,.int .i32 0,.int .i32 0]⟩ (.ai 382 ⟨11,true,.st [(0,12),(1,12),(2,278),(3,377),(4,5),(5,5),(6,378),(7,379),(8,241),(9,380),(10,381)],[.int .u64 0,.int .u64 0,.int .u32 0,.int .u8 0,.int .u8 0,.int .u8 0,.int .u8 0,.nilFunc,.pointer none,.int .i32 0,.int .i32 0]⟩ (.nil) (.nil)) (.nil)) (.ai 385 ⟨2,true,.st [(0,9),(1,378)],[.string ByteArray.empty,.int .u8 0]⟩ (.nil) (.nil))))))))
theorem tt_ok:tt.ok Tryz.prog=true:=by decide +kernel
theorem mo:Tryz.prog.follows .mixedOrders=true:=rfl
end Dv
end Go.Proofs.YtfifjddnnmfeoaaGreat
set_option maxRecDepth 100000
namespace Go.Proofs.YtfifjddnnmfeoaaGreat
open Go Go.RowKit Dv Tryz
theorem U3:Enters Tryz.prog 13:=enters_of Tryz.func13 (by decide +kernel) rfl
theorem ZN:Enters Tryz.prog 14:=enters_of Tryz.func14 (by decide +kernel) rfl
theorem U4:Enters Tryz.prog 16:=enters_of Tryz.func16 (by decide +kernel) rfl
theorem U5:Enters Tryz.prog 19:=enters_of Tryz.func19 (by decide +kernel) rfl
theorem U6:Enters Tryz.prog 20:=enters_of Tryz.func20 (by decide +kernel) rfl
theorem RS:Enters Tryz.prog 26:=enters_of Tryz.func26 (by decide +kernel) rfl
theorem ZO:Enters Tryz.prog 27:=enters_of Tryz.func27 (by decide +kernel) rfl
theorem ZP:Enters Tryz.prog 28:=enters_of Tryz.func28 (by decide +kernel) rfl
theorem ZQ:Enters Tryz.prog 29:=enters_of Tryz.func29 (by decide +kernel) rfl
theorem U7:Enters Tryz.prog 30:=enters_of Tryz.func30 (by decide +kernel) rfl
theorem RT:Enters Tryz.prog 31:=enters_of Tryz.func31 (by decide +kernel) rfl
theorem ZR:Enters Tryz.prog 32:=enters_of Tryz.func32 (by decide +kernel) rfl
theorem Kp:Enters Tryz.prog 33:=enters_of Tryz.func33 (by decide +kernel) rfl
theorem U8:Enters Tryz.prog 38:=enters_of Tryz.func38 (by decide +kernel) rfl
theorem U9:Enters Tryz.prog 41:=enters_of Tryz.func41 (by decide +kernel) rfl
theorem Ol:Enters Tryz.prog 42:=enters_of Tryz.func42 (by decide +kernel) rfl
theorem ZS:Enters Tryz.prog 43:=enters_of Tryz.func43 (by decide +kernel) rfl
theorem ZT:Enters Tryz.prog 44:=enters_of Tryz.func44 (by decide +kernel) rfl
theorem Va:Enters Tryz.prog 45:=enters_of Tryz.func45 (by decide +kernel) rfl
theorem Vb:Enters Tryz.prog 46:=enters_of Tryz.func46 (by decide +kernel) rfl
theorem RU:Enters Tryz.prog 47:=enters_of Tryz.func47 (by decide +kernel) rfl
theorem ZU:Enters Tryz.prog 48:=enters_of Tryz.func48 (by decide +kernel) rfl
theorem ZV:Enters Tryz.prog 49:=enters_of Tryz.func49 (by decide +kernel) rfl
theorem Om:Enters Tryz.prog 50:=enters_of Tryz.func50 (by decide +kernel) rfl
theorem HO:Enters Tryz.prog 51:=enters_of Tryz.func51 (by decide +kernel) rfl
theorem ZW:Enters Tryz.prog 60:=enters_of Tryz.func60 (by decide +kernel) rfl
theorem ZX:Enters Tryz.prog 61:=enters_of Tryz.func61 (by decide +kernel) rfl
theorem RV:Enters Tryz.prog 67:=enters_of Tryz.func67 (by decide +kernel) rfl
theorem Vc:Enters Tryz.prog 68:=enters_of Tryz.func68 (by decide +kernel) rfl
theorem ZY:Enters Tryz.prog 69:=enters_of Tryz.func69 (by decide +kernel) rfl
theorem AY:Enters Tryz.prog 70:=enters_of Tryz.func70 (by decide +kernel) rfl
theorem Vd:Enters Tryz.prog 71:=enters_of Tryz.func71 (by decide +kernel) rfl
theorem ZZ:Enters Tryz.prog 72:=enters_of Tryz.func72 (by decide +kernel) rfl
theorem RW:Enters Tryz.prog 73:=enters_of Tryz.func73 (by decide +kernel) rfl
theorem Ve:Enters Tryz.prog 74:=enters_of Tryz.func74 (by decide +kernel) rfl
theorem On:Enters Tryz.prog 75:=enters_of Tryz.func75 (by decide +kernel) rfl
theorem Z0:Enters Tryz.prog 76:=enters_of Tryz.func76 (by decide +kernel) rfl
theorem Vf:Enters Tryz.prog 77:=enters_of Tryz.func77 (by decide +kernel) rfl
theorem Vg:Enters Tryz.prog 78:=enters_of Tryz.func78 (by decide +kernel) rfl
theorem Kq:Enters Tryz.prog 79:=enters_of Tryz.func79 (by decide +kernel) rfl
theorem Z1:Enters Tryz.prog 80:=enters_of Tryz.func80 (by decide +kernel) rfl
theorem Vh:Enters Tryz.prog 81:=enters_of Tryz.func81 (by decide +kernel) rfl
theorem Z2:Enters Tryz.prog 82:=enters_of Tryz.func82 (by decide +kernel) rfl
theorem Vi:Enters Tryz.prog 83:=enters_of Tryz.func83 (by decide +kernel) rfl
theorem RX:Enters Tryz.prog 84:=enters_of Tryz.func84 (by decide +kernel) rfl
theorem Vj:Enters Tryz.prog 85:=enters_of Tryz.func85 (by decide +kernel) rfl
theorem Z3:Enters Tryz.prog 88:=enters_of Tryz.func88 (by decide +kernel) rfl
theorem tE:Enters Tryz.prog 93:=enters_of Tryz.func93 (by decide +kernel) rfl
theorem Z4:Enters Tryz.prog 94:=enters_of Tryz.func94 (by decide +kernel) rfl
theorem Vk:Enters Tryz.prog 95:=enters_of Tryz.func95 (by decide +kernel) rfl
theorem RY:Enters Tryz.prog 96:=enters_of Tryz.func96 (by decide +kernel) rfl
theorem Vl:Enters Tryz.prog 97:=enters_of Tryz.func97 (by decide +kernel) rfl
theorem Z5:Enters Tryz.prog 98:=enters_of Tryz.func98 (by decide +kernel) rfl
theorem Vm:Enters Tryz.prog 99:=enters_of Tryz.func99 (by decide +kernel) rfl
theorem PR:Enters Tryz.prog 100:=enters_of Tryz.func100 (by decide +kernel) rfl
theorem Vn:Enters Tryz.prog 101:=enters_of Tryz.func101 (by decide +kernel) rfl
theorem AZ:Enters Tryz.prog 102:=enters_of Tryz.func102 (by decide +kernel) rfl
theorem Kr:Enters Tryz.prog 103:=enters_of Tryz.func103 (by decide +kernel) rfl
theorem Vo:Enters Tryz.prog 104:=enters_of Tryz.func104 (by decide +kernel) rfl
theorem PS:Enters Tryz.prog 105:=enters_of Tryz.func105 (by decide +kernel) rfl
theorem A0:Enters Tryz.prog 106:=enters_of Tryz.func106 (by decide +kernel) rfl
theorem en107:Enters Tryz.prog 107:=enters_of Tryz.func107 (by decide +kernel) rfl
theorem PT:Enters Tryz.prog 108:=enters_of Tryz.func108 (by decide +kernel) rfl
theorem Vp:Enters Tryz.prog 109:=enters_of Tryz.func109 (by decide +kernel) rfl
theorem PU:Enters Tryz.prog 110:=enters_of Tryz.func110 (by decide +kernel) rfl
theorem Vq:Enters Tryz.prog 111:=enters_of Tryz.func111 (by decide +kernel) rfl
theorem PV:Enters Tryz.prog 112:=enters_of Tryz.func112 (by decide +kernel) rfl
theorem Vr:Enters Tryz.prog 122:=enters_of Tryz.func122 (by decide +kernel) rfl
theorem Vs:Enters Tryz.prog 123:=enters_of Tryz.func123 (by decide +kernel) rfl
theorem PW:Enters Tryz.prog 124:=enters_of Tryz.func124 (by decide +kernel) rfl
theorem Vt:Enters Tryz.prog 129:=enters_of Tryz.func129 (by decide +kernel) rfl
theorem Vu:Enters Tryz.prog 130:=enters_of Tryz.func130 (by decide +kernel) rfl
theorem Vv:Enters Tryz.prog 131:=enters_of Tryz.func131 (by decide +kernel) rfl
theorem Vw:Enters Tryz.prog 132:=enters_of Tryz.func132 (by decide +kernel) rfl
theorem PX:Enters Tryz.prog 133:=enters_of Tryz.func133 (by decide +kernel) rfl
theorem Ks:Enters Tryz.prog 134:=enters_of Tryz.func134 (by decide +kernel) rfl
theorem Gc:Enters Tryz.prog 135:=enters_of Tryz.func135 (by decide +kernel) rfl
theorem Kt:Enters Tryz.prog 136:=enters_of Tryz.func136 (by decide +kernel) rfl
theorem PY:Enters Tryz.prog 137:=enters_of Tryz.func137 (by decide +kernel) rfl
theorem PZ:Enters Tryz.prog 138:=enters_of Tryz.func138 (by decide +kernel) rfl
theorem P0:Enters Tryz.prog 139:=enters_of Tryz.func139 (by decide +kernel) rfl
theorem Vx:Enters Tryz.prog 140:=enters_of Tryz.func140 (by decide +kernel) rfl
theorem Vy:Enters Tryz.prog 141:=enters_of Tryz.func141 (by decide +kernel) rfl
theorem P1:Enters Tryz.prog 142:=enters_of Tryz.func142 (by decide +kernel) rfl
theorem Vz:Enters Tryz.prog 143:=enters_of Tryz.func143 (by decide +kernel) rfl
theorem wX:Enters Tryz.prog 144:=enters_of Tryz.func144 (by decide +kernel) rfl
theorem VA:Enters Tryz.prog 145:=enters_of Tryz.func145 (by decide +kernel) rfl
theorem P2:Enters Tryz.prog 146:=enters_of Tryz.func146 (by decide +kernel) rfl
theorem VB:Enters Tryz.prog 147:=enters_of Tryz.func147 (by decide +kernel) rfl
theorem wY:Enters Tryz.prog 155:=enters_of Tryz.func155 (by decide +kernel) rfl
theorem A1:Enters Tryz.prog 156:=enters_of Tryz.func156 (by decide +kernel) rfl
theorem P3:Enters Tryz.prog 159:=enters_of Tryz.func159 (by decide +kernel) rfl
theorem P4:Enters Tryz.prog 160:=enters_of Tryz.func160 (by decide +kernel) rfl
theorem VC:Enters Tryz.prog 161:=enters_of Tryz.func161 (by decide +kernel) rfl
theorem Ku:Enters Tryz.prog 163:=enters_of Tryz.func163 (by decide +kernel) rfl
theorem VD:Enters Tryz.prog 164:=enters_of Tryz.func164 (by decide +kernel) rfl
theorem VE:Enters Tryz.prog 165:=enters_of Tryz.func165 (by decide +kernel) rfl
theorem Kv:Enters Tryz.prog 166:=enters_of Tryz.func166 (by decide +kernel) rfl
theorem Kw:Enters Tryz.prog 167:=enters_of Tryz.func167 (by decide +kernel) rfl
theorem P5:Enters Tryz.prog 168:=enters_of Tryz.func168 (by decide +kernel) rfl
theorem VF:Enters Tryz.prog 169:=enters_of Tryz.func169 (by decide +kernel) rfl
theorem VG:Enters Tryz.prog 170:=enters_of Tryz.func170 (by decide +kernel) rfl
theorem P6:Enters Tryz.prog 171:=enters_of Tryz.func171 (by decide +kernel) rfl
theorem Kx:Enters Tryz.prog 172:=enters_of Tryz.func172 (by decide +kernel) rfl
theorem Ky:Enters Tryz.prog 173:=enters_of Tryz.func173 (by decide +kernel) rfl
theorem Gd:Enters Tryz.prog 174:=enters_of Tryz.func174 (by decide +kernel) rfl
theorem Kz:Enters Tryz.prog 179:=enters_of Tryz.func179 (by decide +kernel) rfl
theorem VH:Enters Tryz.prog 180:=enters_of Tryz.func180 (by decide +kernel) rfl
theorem VI:Enters Tryz.prog 181:=enters_of Tryz.func181 (by decide +kernel) rfl
theorem VJ:Enters Tryz.prog 182:=enters_of Tryz.func182 (by decide +kernel) rfl
theorem P7:Enters Tryz.prog 187:=enters_of Tryz.func187 (by decide +kernel) rfl
theorem Ge:Enters Tryz.prog 188:=enters_of Tryz.func188 (by decide +kernel) rfl
theorem VK:Enters Tryz.prog 189:=enters_of Tryz.func189 (by decide +kernel) rfl
theorem VL:Enters Tryz.prog 190:=enters_of Tryz.func190 (by decide +kernel) rfl
theorem VM:Enters Tryz.prog 191:=enters_of Tryz.func191 (by decide +kernel) rfl
theorem VN:Enters Tryz.prog 192:=enters_of Tryz.func192 (by decide +kernel) rfl
theorem tF:Enters Tryz.prog 193:=enters_of Tryz.func193 (by decide +kernel) rfl
theorem VO:Enters Tryz.prog 194:=enters_of Tryz.func194 (by decide +kernel) rfl
theorem A2:Enters Tryz.prog 195:=enters_of Tryz.func195 (by decide +kernel) rfl
theorem VP:Enters Tryz.prog 196:=enters_of Tryz.func196 (by decide +kernel) rfl
theorem VQ:Enters Tryz.prog 197:=enters_of Tryz.func197 (by decide +kernel) rfl
theorem P8:Enters Tryz.prog 198:=enters_of Tryz.func198 (by decide +kernel) rfl
theorem VR:Enters Tryz.prog 199:=enters_of Tryz.func199 (by decide +kernel) rfl
theorem Qa:Enters Tryz.prog 200:=enters_of Tryz.func200 (by decide +kernel) rfl
theorem VS:Enters Tryz.prog 201:=enters_of Tryz.func201 (by decide +kernel) rfl
theorem VT:Enters Tryz.prog 202:=enters_of Tryz.func202 (by decide +kernel) rfl
theorem Gf:Enters Tryz.prog 203:=enters_of Tryz.func203 (by decide +kernel) rfl
theorem Qb:Enters Tryz.prog 204:=enters_of Tryz.func204 (by decide +kernel) rfl
theorem Qc:Enters Tryz.prog 205:=enters_of Tryz.func205 (by decide +kernel) rfl
theorem Qd:Enters Tryz.prog 212:=enters_of Tryz.func212 (by decide +kernel) rfl
theorem VU:Enters Tryz.prog 213:=enters_of Tryz.func213 (by decide +kernel) rfl
theorem dz:Enters Tryz.prog 214:=enters_of Tryz.func214 (by decide +kernel) rfl
theorem VV:Enters Tryz.prog 215:=enters_of Tryz.func215 (by decide +kernel) rfl
theorem VW:Enters Tryz.prog 216:=enters_of Tryz.func216 (by decide +kernel) rfl
theorem Qe:Enters Tryz.prog 217:=enters_of Tryz.func217 (by decide +kernel) rfl
theorem Qf:Enters Tryz.prog 218:=enters_of Tryz.func218 (by decide +kernel) rfl
theorem VX:Enters Tryz.prog 220:=enters_of Tryz.func220 (by decide +kernel) rfl
theorem VY:Enters Tryz.prog 221:=enters_of Tryz.func221 (by decide +kernel) rfl
theorem VZ:Enters Tryz.prog 222:=enters_of Tryz.func222 (by decide +kernel) rfl
theorem KA:Enters Tryz.prog 224:=enters_of Tryz.func224 (by decide +kernel) rfl
theorem Qg:Enters Tryz.prog 225:=enters_of Tryz.func225 (by decide +kernel) rfl
theorem Qh:Enters Tryz.prog 226:=enters_of Tryz.func226 (by decide +kernel) rfl
theorem V0:Enters Tryz.prog 227:=enters_of Tryz.func227 (by decide +kernel) rfl
theorem Gg:Enters Tryz.prog 228:=enters_of Tryz.func228 (by decide +kernel) rfl
theorem V1:Enters Tryz.prog 229:=enters_of Tryz.func229 (by decide +kernel) rfl
theorem V2:Enters Tryz.prog 230:=enters_of Tryz.func230 (by decide +kernel) rfl
theorem V3:Enters Tryz.prog 231:=enters_of Tryz.func231 (by decide +kernel) rfl
theorem V4:Enters Tryz.prog 232:=enters_of Tryz.func232 (by decide +kernel) rfl
theorem KB:Enters Tryz.prog 233:=enters_of Tryz.func233 (by decide +kernel) rfl
theorem KC:Enters Tryz.prog 234:=enters_of Tryz.func234 (by decide +kernel) rfl
theorem V5:Enters Tryz.prog 235:=enters_of Tryz.func235 (by decide +kernel) rfl
theorem Qi:Enters Tryz.prog 236:=enters_of Tryz.func236 (by decide +kernel) rfl
theorem Qj:Enters Tryz.prog 237:=enters_of Tryz.func237 (by decide +kernel) rfl
theorem V6:Enters Tryz.prog 238:=enters_of Tryz.func238 (by decide +kernel) rfl
theorem V7:Enters Tryz.prog 239:=enters_of Tryz.func239 (by decide +kernel) rfl
theorem V8:Enters Tryz.prog 240:=enters_of Tryz.func240 (by decide +kernel) rfl
theorem Qk:Enters Tryz.prog 260:=enters_of Tryz.func260 (by decide +kernel) rfl
theorem V9:Enters Tryz.prog 261:=enters_of Tryz.func261 (by decide +kernel) rfl
theorem Wa:Enters Tryz.prog 262:=enters_of Tryz.func262 (by decide +kernel) rfl
theorem wZ:Enters Tryz.prog 263:=enters_of Tryz.func263 (by decide +kernel) rfl
theorem Wb:Enters Tryz.prog 264:=enters_of Tryz.func264 (by decide +kernel) rfl
theorem Wc:Enters Tryz.prog 265:=enters_of Tryz.func265 (by decide +kernel) rfl
theorem Wf:Enters Tryz.prog 266:=enters_of Tryz.func266 (by decide +kernel) rfl
theorem Wg:Enters Tryz.prog 267:=enters_of Tryz.func267 (by decide +kernel) rfl
theorem Ql:Enters Tryz.prog 268:=enters_of Tryz.func268 (by decide +kernel) rfl
theorem Gh:Enters Tryz.prog 269:=enters_of Tryz.func269 (by decide +kernel) rfl
theorem Wh:Enters Tryz.prog 270:=enters_of Tryz.func270 (by decide +kernel) rfl
theorem Wi:Enters Tryz.prog 271:=enters_of Tryz.func271 (by decide +kernel) rfl
theorem KD:Enters Tryz.prog 272:=enters_of Tryz.func272 (by decide +kernel) rfl
theorem fw:Enters Tryz.prog 273:=enters_of Tryz.func273 (by decide +kernel) rfl
theorem Wj:Enters Tryz.prog 274:=enters_of Tryz.func274 (by decide +kernel) rfl
theorem Qm:Enters Tryz.prog 275:=enters_of Tryz.func275 (by decide +kernel) rfl
theorem KE:Enters Tryz.prog 276:=enters_of Tryz.func276 (by decide +kernel) rfl
theorem Wl:Enters Tryz.prog 277:=enters_of Tryz.func277 (by decide +kernel) rfl
theorem Qn:Enters Tryz.prog 278:=enters_of Tryz.func278 (by decide +kernel) rfl
theorem KF:Enters Tryz.prog 279:=enters_of Tryz.func279 (by decide +kernel) rfl
theorem Wm:Enters Tryz.prog 280:=enters_of Tryz.func280 (by decide +kernel) rfl
theorem Wn:Enters Tryz.prog 281:=enters_of Tryz.func281 (by decide +kernel) rfl
theorem KG:Enters Tryz.prog 287:=enters_of Tryz.func287 (by decide +kernel) rfl
theorem A3:Enters Tryz.prog 288:=enters_of Tryz.func288 (by decide +kernel) rfl
theorem Wo:Enters Tryz.prog 289:=enters_of Tryz.func289 (by decide +kernel) rfl
theorem Wp:Enters Tryz.prog 290:=enters_of Tryz.func290 (by decide +kernel) rfl
theorem lP:Enters Tryz.prog 291:=enters_of Tryz.func291 (by decide +kernel) rfl
theorem KH:Enters Tryz.prog 292:=enters_of Tryz.func292 (by decide +kernel) rfl
theorem Wq:Enters Tryz.prog 293:=enters_of Tryz.func293 (by decide +kernel) rfl
theorem Wr:Enters Tryz.prog 294:=enters_of Tryz.func294 (by decide +kernel) rfl
theorem Ws:Enters Tryz.prog 295:=enters_of Tryz.func295 (by decide +kernel) rfl
theorem Wt:Enters Tryz.prog 296:=enters_of Tryz.func296 (by decide +kernel) rfl
theorem Wu:Enters Tryz.prog 297:=enters_of Tryz.func297 (by decide +kernel) rfl
theorem Wv:Enters Tryz.prog 298:=enters_of Tryz.func298 (by decide +kernel) rfl
theorem Gi:Enters Tryz.prog 300:=enters_of Tryz.func300 (by decide +kernel) rfl
theorem Ww:Enters Tryz.prog 301:=enters_of Tryz.func301 (by decide +kernel) rfl
theorem Wx:Enters Tryz.prog 302:=enters_of Tryz.func302 (by decide +kernel) rfl
theorem Wy:Enters Tryz.prog 303:=enters_of Tryz.func303 (by decide +kernel) rfl
theorem Wz:Enters Tryz.prog 304:=enters_of Tryz.func304 (by decide +kernel) rfl
theorem Qo:Enters Tryz.prog 305:=enters_of Tryz.func305 (by decide +kernel) rfl
theorem WA:Enters Tryz.prog 306:=enters_of Tryz.func306 (by decide +kernel) rfl
theorem WB:Enters Tryz.prog 307:=enters_of Tryz.func307 (by decide +kernel) rfl
theorem WC:Enters Tryz.prog 308:=enters_of Tryz.func308 (by decide +kernel) rfl
end Go.Proofs.YtfifjddnnmfeoaaGreat
namespace Go.Proofs.YtfifjddnnmfeoaaGreat
open Go Go.RowKit Dv
structure Wd where
 s:ByteArray
 a:Int
structure Hd where
 ag:Int
 aC:Int
 lo:Int
 hi:Int
 most:Int
 af:List Wd
 name:Wd
structure Ph where
 name:Wd
 bare:Bool
 label:List Wd
 wide:Int
 ck:Int
 cn:Int
 ca:Int
 cl:List Wd
mutual
inductive Ty where
 | mk (h:Hd) (ps:Pts)
inductive Pts where
 | nil
 | cons (p:Ph) (t:Ty) (r:Pts)
end
def Ty.h:Ty->Hd | .mk h _=>h
def Ty.ps:Ty->Pts | .mk _ ps=>ps
def Pts.toList:Pts->List (Ph × Ty)
 | .nil=>[]
 | .cons p t r=>(p,t) :: r.toList
def Pts.len:Pts->Nat
 | .nil=>0
 | .cons _ _ r=>r.len + 1
theorem Pts.KI:∀ ps:Pts,ps.len=ps.toList.length
 | .nil=>rfl
 | .cons _ _ r=>by simp [Pts.len,Pts.toList,Pts.KI r]
def Wd.wt (w:Wd):Nat:=w.s.size + 64
def wdsWt:List Wd->Nat
 | []=>0
 | w :: r=>w.wt + wdsWt r
def Hd.wt (h:Hd):Nat:=256 + wdsWt h.af + h.name.wt
def Ph.wt (p:Ph):Nat:=256 + p.name.wt + wdsWt p.label + wdsWt p.cl
mutual
def Ty.wt:Ty->Nat
 | .mk h ps=>h.wt + ps.wt
def Pts.wt:Pts->Nat
 | .nil=>0
 | .cons p t r=>p.wt + t.wt + r.wt
end
theorem bd:∀ l:List Wd,64 * l.length<=wdsWt l
 | []=>Nat.le_refl _
 | w :: r=>by have:=bd r;simp only [List.length_cons,wdsWt,Wd.wt];omega
theorem gy:∀ {l:List Wd} {w:Wd},w∈l->w.s.size + 64<=wdsWt l
 | x :: r,w,h=>by
  rcases List.mem_cons.1 h with h | h
  ·subst h;simp only [wdsWt,Wd.wt];omega
  ·have:=gy h;simp only [wdsWt];omega
theorem Pts.eO:∀ ps:Pts,256 * ps.len<=ps.wt
 | .nil=>Nat.le_refl _
 | .cons p t r=>by have:=Pts.eO r;simp only [Pts.len,Pts.wt,Ph.wt];omega
theorem Pts.fk:∀ {ps:Pts} {p:Ph} {t:Ty},(p,t)∈ps.toList->p.wt + t.wt<=ps.wt
 | .cons p t r,q,u,h=>by
  rcases List.mem_cons.1 h with h | h
  ·cases h;simp only [Pts.wt];omega
  ·have:=Pts.fk h;simp only [Pts.wt];omega
theorem Ty.dr (t:Ty):256<=t.wt:=by
 cases t;simp only [Ty.wt,Hd.wt];omega
def iV (w:Wd):List DV:=[.v (.string w.s),.v (.int .i64 w.a)]
def bn (l:List Wd):List (List DV):=l.map iV
def DC (p:Ph) (tl:List DV):List DV:=
 .v (.string p.name.s) :: .v (.int .i64 p.name.a) :: .v (.bool p.bare) :: .sl 2 (bn p.label) none :: .v (.int .i64 p.wide) :: .v (.int .i64 p.ck) :: .v (.int .i64 p.cn) :: .v (.int .i64 p.ca) :: .sl 2 (bn p.cl) none :: tl
mutual
def dx:Ty->List DV
 | .mk h ps=>[.v (.int .i64 h.ag),.v (.int .i64 h.aC),.v (.int .i64 h.lo),.v (.int .i64 h.hi),.v (.int .i64 h.most),.sl 2 (bn h.af) none,.sl 18 (eP ps) none,.v (.string h.name.s),.v (.int .i64 h.name.a)]
def eP:Pts->List (List DV)
 | .nil=>[]
 | .cons p t r=>DC p (dx t) :: eP r
end
theorem aw (l:List Wd):(bn l).length=l.length:=by simp [bn]
theorem aE:∀ ps:Pts,(eP ps).length=ps.len
 | .nil=>by simp [eP,Pts.len]
 | .cons p t r=>by simp [eP,Pts.len,aE r]
theorem aK {l:List Wd} {j:Nat} {w:Wd} (h:l[j]? = some w):(bn l)[j]? = some (iV w):=by simp [bn,h]
theorem w7 {l:List Wd} {e:Nat} {x:Wd} (h:l[e]? = some x):bn (l.take e) ++ [iV x]=bn (l.take (e + 1)):=by
 rw [List.take_add_one,h];simp [bn]
theorem bz:∀ {ps:Pts} {j:Nat} {p:Ph} {t:Ty},ps.toList[j]? = some (p,t)->(eP ps)[j]? = some (DC p (dx t))
 | .nil,j,p,t,h=>by simp [Pts.toList] at h
 | .cons q u r,0,p,t,h=>by
  simp only [Pts.toList,List.getElem?_cons_zero,oI,Prod.mk.injEq] at h;obtain ⟨rfl,rfl⟩:=h;simp [eP]
 | .cons q u r,j + 1,p,t,h=>by
  simp only [Pts.toList,List.getElem?_cons_succ] at h;simp only [eP,List.getElem?_cons_succ];exact bz h
def Pts.drop:Nat->Pts->Pts
 | 0,ps=>ps
 | _ + 1,.nil=>.nil
 | e + 1,.cons _ _ r=>r.drop e
theorem Pts.drop_cons:∀ {e:Nat} {ps:Pts} {p:Ph} {t:Ty},ps.toList[e]? = some (p,t)->ps.drop e = .cons p t (ps.drop (e + 1))
 | 0,.cons q u r,p,t,h=>by
  simp only [Pts.toList,List.getElem?_cons_zero,oI,Prod.mk.injEq] at h;obtain ⟨rfl,rfl⟩:=h;rfl
 | e + 1,.cons q u r,p,t,h=>by
  simp only [Pts.toList,List.getElem?_cons_succ] at h;simp only [Pts.drop];exact Pts.drop_cons h
 | 0,.nil,p,t,h=>by simp [Pts.toList] at h
 | e + 1,.nil,p,t,h=>by simp [Pts.toList] at h
theorem Pts.cJ:∀ (ps:Pts),ps.drop ps.len = .nil
 | .nil=>rfl
 | .cons _ _ r=>by simp only [Pts.len,Pts.drop];exact Pts.cJ r
theorem Pts.dP {ps:Pts} {e:Nat} (h:e < ps.len):∃ p t,ps.toList[e]? = some (p,t):=by
 rw [Pts.KI] at h;exact ⟨_,_,gE h⟩
theorem drop_cons {α:Type} {l:List α} {e:Nat} {x:α} (h:l[e]? = some x):l.drop e=x :: l.drop (e + 1):=by
 obtain ⟨h1,h2⟩:=List.getElem?_eq_some_iff.1 h;rw [<- h2];exact List.drop_eq_getElem_cons h1
def ap:ByteArray:=⟨#[]⟩
def KJ:Hd:=⟨0,0,0,0,0,[],⟨ap,0⟩⟩
def bF:Ty:=.mk KJ .nil
def ei:Ph:=⟨⟨ap,0⟩,false,[],0,0,0,0,[]⟩
def eC:Ph:=⟨⟨ap,0⟩,true,[],0,0,0,0,[]⟩
theorem cA {e n:Nat} (h:e < n) (hn:n<=4611686018427387904):IntKind.i64.wrap ((e:Int) + 1)=((e + 1:Nat):Int):=by
 rw [IntWalk.i64_in _ ⟨by omega,by omega⟩];omega
theorem wrap64 {n:Int} (h1 : -9223372036854775808<=n) (h2:n<=9223372036854775807):IntKind.i64.wrap n=n:=IntWalk.i64_in n ⟨h1,h2⟩
theorem pickB_and (x a:Bool):pickB x a false=(x && a):=by cases x<;>rfl
theorem aj (x b:Bool):pickB x true b=(x || b):=by cases x<;>rfl
end Go.Proofs.YtfifjddnnmfeoaaGreat
set_option maxRecDepth 100000
namespace Go.Proofs.YtfifjddnnmfeoaaGreat
open Go Go.RowKit Dv Tryz
def isLet (c:Int):Bool:=decide (97<=c) && decide (c<=122)
def gz (c:Int):Bool:=(isLet c || (decide (48<=c) && decide (c<=57))) || decide (c=95)
def signs:List UInt8->Nat
 | []=>0
 | c :: r=>if gz c.toNat=true then signs r + 1 else 0
def dj:List UInt8->Nat
 | []=>0
 | c :: r=>if isLet c.toNat=true then signs r + 1 else 0
def aU (s:ByteArray):Bool:=decide (0 < s.size) && (decide (s.size<=32) && decide (dj s.data.toList=s.size))
theorem A4 {c:Int} (h:isLet c=true):gz c=true:=by simp [gz,h]
theorem A5:∀ l:List UInt8,signs l<=l.length
 | []=>Nat.le_refl _
 | c :: r=>by
  simp only [signs,List.length_cons];split
  ·have:=A5 r;omega
  ·omega
theorem tG {c:UInt8} {r:List UInt8} (h:isLet c.toNat=true):dj (c :: r)=signs (c :: r):=by
 simp [dj,signs,h,A4 h]
theorem qk {s:ByteArray} {k:Nat} (h:k < s.size):∃ c:UInt8,s.data.toList.drop k=c :: s.data.toList.drop (k + 1)/\cG s k=c.toNat:=by
 have hk:k < s.data.toList.length:=by simpa using h
 refine ⟨s.data.toList[k],by rw [<- List.drop_eq_getElem_cons hk],?_⟩;simp [cG,List.getD_eq_getElem?_getD,gE hk]
theorem tH {s:ByteArray} {k:Nat} (h:s.size<=k):s.data.toList.drop k=[]:=List.drop_eq_nil_of_le (by simpa using h)
theorem rr (c:Int):EvP Tryz.prog 212 [.v (.int .u8 c)] (.v (.bool (isLet c))):=by
 refine ev_go (P:=Tryz.prog) tt tt_ok 5000 9 [.tmp 2] Tryz.func212 rfl Tryz.ntmps212 rfl (nL rfl) (fun E9 w9 hn9 hm9=>?_);exact (congrArg (fun b=>DV.v (.bool b)) (pickB_and _ _):_=_)
theorem HP (c:Int):EvP Tryz.prog 213 [.v (.int .u8 c)] (.v (.bool (gz c))):=by
 refine ev_go (P:=Tryz.prog) tt tt_ok 5000 17 [.tmp 2] Tryz.func213 rfl Tryz.ntmps213 rfl (nL rfl) (fun E9 w9 hn9 hm9=>?_);refine call_p Qd (rr c) ax rfl ?_;refine (congrArg (fun b=>DV.v (.bool b)) ?_:_=_);simp only [pickB_and,aj,gz]
abbrev DD (s:ByteArray) (i e:Nat):St:=⟨[(5,⟨[],.v (.int .i64 e)⟩),(0,⟨[],.v (.string s)⟩),(1,⟨[],.v (.int .i64 i)⟩)],[],[]⟩
theorem yK (s:ByteArray) (i:Nat):s.extract i (i + 0)=⟨#[]⟩:=by
 apply ByteArray.ext;simp only [Nat.add_zero,ByteArray.extract,ByteArray.copySlice];apply Array.ext';simp
theorem HQ (s:ByteArray) (i:Nat) (hi:i < s.size) (hs:s.size<=4611686018427387904):EvP Tryz.prog 171 [.v (.string s),.v (.int .i64 i)]
  (.tup [.v (.string (s.extract i (i + dj (s.data.toList.drop i)))),.v (.int .i64 ((i + dj (s.data.toList.drop i):Nat):Int))]):=by
 obtain ⟨c0,xa,fF⟩:=qk hi;refine ev_go (P:=Tryz.prog) tt tt_ok 5000 38 [.tmp 4,.tmp 5] Tryz.func171 rfl Tryz.ntmps171 rfl (nL rfl) (fun E9 w9 hn9 hm9=>?_);refine br (fun h=>?_) (fun _=>?_)
 ·simp [aj] at h;omega
 refine ⟨⟨by omega,by omega⟩,?_⟩;refine call_p Qd (rr _) ax rfl ?_;refine br (fun h=>?_) (fun h=>?_)
 ·have hl:isLet (c0.toNat:Int)=false:=by
   have:(!isLet ((cG s i:Nat):Int))=true:=h;rw [fF] at this;simpa using this
  have hn:dj (s.data.toList.drop i)=0:=by rw [xa];simp [dj,hl]
  rw [hn,yK];exact ⟨_,ax,rfl⟩
 have hl:isLet (c0.toNat:Int)=true:=by
  have:(!isLet ((cG s i:Nat):Int))=false:=h;rw [fF] at this;simpa using this
 have hn:dj (s.data.toList.drop i)=signs (s.data.toList.drop i):=by rw [xa];exact tG hl
 rw [hn]
 refine aq (fun j st=>∃ e:Nat,st=DD s i e/\e<=s.size/\i<=e/\e + signs (s.data.toList.drop e)=i + signs (s.data.toList.drop i)/\j=s.size - e)
  (s.size - i) (DD s i i) (weak_mk ⟨_,rfl⟩ wA rfl rfl rfl wB) ⟨i,rfl,by omega,by omega,rfl,rfl⟩ ?_
 rintro j st ⟨e,rfl,he,Gj,hinv,rfl⟩;refine br (fun h=>?_) (fun h=>?_)
 ·have al:e < s.size:=by simpa using h
  refine ⟨⟨by omega,by omega⟩,?_⟩;refine call_p VU (HP _) ax rfl ?_;obtain ⟨c,hd,hb⟩:=qk al;refine br (fun h2=>?_) (fun h2=>?_)
  ·have Yt:gz (c.toNat:Int)=true:=by
    have:gz ((cG s e:Nat):Int)=true:=h2
    rwa [hb] at this
   refine ⟨DD s i (e + 1),(weak_mk ⟨_,rfl⟩ wA rfl rfl rfl (wNB al)),s.size - (e + 1),by omega,e + 1,rfl,by omega,by omega,?_,rfl⟩;rw [hd] at hinv;simp only [signs,Yt,if_true] at hinv;omega
  ·have Yt:gz (c.toNat:Int)=false:=by
    have:gz ((cG s e:Nat):Int)=false:=h2
    rwa [hb] at this
   rw [hd] at hinv;simp only [signs,Yt] at hinv;refine ⟨⟨by omega,by omega,by omega⟩,?_⟩;have:i + signs (s.data.toList.drop i)=e:=by simp at hinv;omega
   rw [this];exact ⟨_,ax,rfl⟩
 ·have aN:e=s.size:=by simp at h;omega
  rw [tH (by omega)] at hinv;simp only [signs] at hinv;refine ⟨⟨by omega,by omega,by omega⟩,?_⟩;have:i + signs (s.data.toList.drop i)=e:=by omega
  rw [this];exact ⟨_,ax,rfl⟩
theorem take_nil (s:ByteArray) (hs:s.size=0):EvP Tryz.prog 171 [.v (.string s),.v (.int .i64 0)] (.tup [.v (.string ⟨#[]⟩),.v (.int .i64 0)]):=by
 refine ev_go (P:=Tryz.prog) tt tt_ok 5000 38 [.tmp 4,.tmp 5] Tryz.func171 rfl Tryz.ntmps171 rfl (nL rfl) (fun E9 w9 hn9 hm9=>?_);refine br (fun _=>?_) (fun h=>?_)
 ·exact ⟨_,ax,rfl⟩
 ·simp [aj,hs] at h
theorem DE (l:List UInt8):dj l<=l.length:=by
 cases l with
 | nil=>exact Nat.le_refl _
 | cons c r=>
  simp only [dj,List.length_cons];split
  ·have:=A5 r;omega
  ·omega
theorem A6 (s:ByteArray):decide (s=⟨#[]⟩)=decide (s.size=0):=by
 rw [Bool.eq_iff_iff];simp only [decide_eq_true_eq];constructor
 ·rintro rfl;rfl
 ·intro h;apply ByteArray.ext;exact Array.eq_empty_of_size_eq_zero h
theorem iW (s:ByteArray) (hs:s.size<=4611686018427387904):EvP Tryz.prog 102 [.v (.string s)] (.v (.bool (aU s))):=by
 refine ev_go (P:=Tryz.prog) tt tt_ok 5000 22 [.tmp 2] Tryz.func102 rfl Tryz.ntmps102 rfl (nL rfl) (fun E9 w9 hn9 hm9=>?_);by_cases h0:s.size=0
 ·refine call_p P6 (take_nil s h0) ax rfl ?_;refine (congrArg (fun b=>DV.v (.bool b)) ?_:_=_);simp [pickB_and,aU,A6,h0]
 ·refine call_p P6 (HQ s 0 (by omega) hs) ax rfl ?_;refine (congrArg (fun b=>DV.v (.bool b)) ?_:_=_);have hl:=DE s.data.toList;simp only [Array.length_toList,ByteArray.size_data] at hl;simp only [pickB_and,aU,A6,List.drop_zero,Nat.zero_add];rw [Bool.eq_iff_iff];simp only [Bool.and_eq_true,decide_eq_true_eq,Bool.not_eq_true',decide_eq_false_iff_not];omega
abbrev yL (s:ByteArray) (i n e:Nat):St:=⟨[(5,⟨[],.v (.int .i64 n)⟩),(6,⟨[],.v (.int .i64 e)⟩),(0,⟨[],.v (.string s)⟩),(1,⟨[],.v (.int .i64 i)⟩)],[],[]⟩
theorem A7 (s:ByteArray) (hs:s.size<=4611686018427387904):EvP Tryz.prog 290 [.v (.string s),.v (.int .i64 0)] (.v (.int .i64 (dj s.data.toList))):=by
 refine ev_go (P:=Tryz.prog) tt tt_ok 5000 47 [.tmp 4] Tryz.func290 rfl Tryz.ntmps290 rfl (nL rfl) (fun E9 w9 hn9 hm9=>?_)
 refine aq (fun j st=>∃ e:Nat,st=yL s 0 e e/\e<=s.size/\(e=0∨e + signs (s.data.toList.drop e)=dj s.data.toList)/\j=s.size - e)
  s.size (yL s 0 0 0) (weak_mk ⟨_,rfl⟩ wA rfl rfl rfl wB) ⟨0,rfl,by omega,.inl rfl,rfl⟩ ?_
 rintro j st ⟨e,rfl,he,hinv,rfl⟩;refine br (fun h=>?_) (fun h=>?_)
 ·have al:e < s.size:=by simpa using h
  refine ⟨⟨by omega,by omega⟩,?_⟩;obtain ⟨c,hd,hb⟩:=qk al
  have key:dj s.data.toList=if (e=0/\isLet (c.toNat:Int)=true)∨(e≠0/\gz (c.toNat:Int)=true) then (e + 1) + signs (s.data.toList.drop (e + 1)) else e:=by
   by_cases h0:e=0
   ·subst h0;simp only [List.drop_zero] at hd;have hk:dj s.data.toList=if isLet (c.toNat:Int)=true then signs (s.data.toList.drop (0 + 1)) + 1 else 0:=congrArg dj hd
    rw [hk];by_cases hl:isLet (c.toNat:Int)=true
    ·rw [if_pos hl,if_pos (.inl ⟨rfl,hl⟩)];omega
    ·rw [if_neg hl,if_neg (by simp [hl])]
   ·have rn:=hinv.resolve_left h0;rw [hd] at rn;simp only [signs] at rn;by_cases hl:gz (c.toNat:Int)=true
    ·rw [if_pos hl] at rn;rw [if_pos (.inr ⟨h0,hl⟩)];omega
    ·rw [if_neg hl] at rn;rw [if_neg (by simp [hl,h0])];omega
  refine br (fun h2=>?_) (fun h2=>?_)
  ·have fj:cG s ((e:Int).toNat)=c.toNat:=hb;rw [fj] at h2
   have:dj s.data.toList=e:=by
    rw [key,if_neg];simp only [pickB_and,aj,gz,isLet] at h2 ⊢;simp at h2 ⊢;omega
   rw [this];exact (rfl:_=_)
  ·have fj:cG s ((e:Int).toNat)=c.toNat:=hb;rw [fj] at h2;refine ⟨yL s 0 (e + 1) (e + 1),(weak_mk ⟨_,rfl⟩ wA rfl rfl rfl (wNB al)),s.size - (e + 1),by omega,e + 1,rfl,by omega,.inr ?_,rfl⟩;rw [key,if_pos];simp only [pickB_and,aj,gz,isLet] at h2 ⊢;simp at h2 ⊢;omega
 ·have aN:e=s.size:=by simp at h;omega
  have:dj s.data.toList=e:=by
   rcases hinv with h0 | h0
   ·subst h0;have:s.data.toList=[]:=by rw [<- List.drop_zero (l:=s.data.toList)];exact tH (by omega)
    rw [this];all_goals rfl
   ·rw [tH (by omega)] at h0;simp only [signs] at h0;omega
  rw [this];exact (rfl:_=_)
theorem jB (s:ByteArray) (hs:s.size<=4611686018427387904):EvP Tryz.prog 269 [.v (.string s)] (.v (.bool (aU s))):=by
 refine ev_go (P:=Tryz.prog) tt tt_ok 5000 18 [.tmp 2] Tryz.func269 rfl Tryz.ntmps269 rfl (nL rfl) (fun E9 w9 hn9 hm9=>?_);refine br (fun h=>?_) (fun h=>?_)
 ·refine call_p Wp (A7 s hs) ax rfl ?_;refine (congrArg (fun b=>DV.v (.bool b)) ?_:_=_);rw [Bool.eq_iff_iff];simp [pickB_and] at h;simp [pickB_and,aU];omega
 ·refine (congrArg (fun b=>DV.v (.bool b)) ?_:_=_);rw [Bool.eq_iff_iff];simp [pickB_and] at h;simp [pickB_and,aU];omega
def dt (l:List ByteArray):List (List DV):=l.map fun s=>[.v (.string s)]
def dInts (l:List Nat):List (List DV):=l.map fun (i:Nat)=>[.v (.int .i64 (i:Int))]
theorem bK (l:List ByteArray):(dt l).length=l.length:=by simp [dt]
theorem bf (l:List Nat):(dInts l).length=l.length:=by simp [dInts]
theorem eK {l:List ByteArray} {j:Nat} {x:ByteArray} (h:l[j]? = some x):(dt l)[j]? = some [.v (.string x)]:=by simp [dt,h]
theorem dA {l:List Nat} {j:Nat} {x:Nat} (h:l[j]? = some x):(dInts l)[j]? = some [.v (.int .i64 (x:Int))]:=by simp [dInts,h]
abbrev yM (g:Nat) (cb:List DV) (i j:Nat):St:=⟨[(1,⟨[],.fn g [] cb⟩),(5,⟨[],.v (.int .i64 i)⟩),(6,⟨[],.v (.int .i64 j)⟩)],[],[]⟩
theorem ru (g:Nat) (j2:Enters Tryz.prog g) (cb:List DV) (n m:Nat) (hn:n<=1099511627776) (hm:m<=n) (WD:CcL [] 0 0 0 cb cb) (ju:clB.clL 0 0 cb=true)
  (hp:∀ i:Nat,i < n->EvP Tryz.prog g (.v (.int .i64 i) :: cb) (.v (.bool (decide (m<=i))))) :
  EvP Tryz.prog 159 [.v (.int .i64 n),.fn g [] cb] (.v (.int .i64 m)):=by
 refine ev_go (P:=Tryz.prog) tt tt_ok 5000 26 [.tmp 4] Tryz.func159 rfl Tryz.ntmps159 rfl (nL rfl) (fun E9 w9 hn9 hm9=>?_);have Ag:clB 0 0 (.fn g [] cb)=true:=by simp only [clB,Bool.and_eq_true];exact ⟨rfl,ju⟩
 refine aq (fun j st=>∃ a b:Nat,st=yM g cb a b/\a<=m/\m<=b/\b<=n/\j=b - a) n (yM g cb 0 n) (weak_mk ⟨_,rfl⟩ wA rfl rfl rfl (by repeat' (first | exact trivial | exact ah rfl | exact ah Ag | refine ⟨⟨_,rfl,?_⟩,?_⟩))) ⟨0,n,rfl,by omega,by omega,by omega,by omega⟩ ?_;rintro j st ⟨a,b,rfl,h1,h2,h3,rfl⟩;refine br (fun h=>?_) (fun h=>?_)
 ·have al:a < b:=by simpa using h
  have RZ:IntKind.i64.wrap ((IntKind.u64.wrap (IntKind.i64.wrap ((a:Int) + (b:Int)))).fdiv (2 ^ (min ((1:Int).toNat) IntKind.u64.bits)))=(((a + b) / 2:Nat):Int):=by
   rw [wrap64 (n:=(a:Int) + (b:Int)) (by omega) (by omega),IntKind.wrap_u64];have e2:(2:Int) ^ (min ((1:Int).toNat) IntKind.u64.bits)=2:=by decide
   rw [e2,Int.fdiv_eq_ediv_of_nonneg _ (by decide),wrap64 (by omega) (by omega)];omega
  refine ⟨by decide,?_⟩;refine call_p j2 (hp ((a + b) / 2) (by omega)) ⟨_,_,rfl,congrArg (fun z=>DV.v (.int .i64 z)) RZ,WD⟩ rfl ?_;refine br (fun hq=>?_) (fun hq=>?_)
  ·have hq:(a + b) / 2 < m:=by simpa using hq
   have Ax:=cA (e:=(a + b) / 2) (n:=n) (by omega) (by omega);rw [<- RZ] at Ax;refine ⟨yM g cb ((a + b) / 2 + 1) b,(weak_mk ⟨_,rfl⟩ wA rfl rfl rfl (by repeat' (first | exact trivial | exact ah rfl | exact ah Ag | exact ak Ax | refine ⟨⟨_,rfl,?_⟩,?_⟩))),b - ((a + b) / 2 + 1),by omega,(a + b) / 2 + 1,b,rfl,by omega,by omega,by omega,rfl⟩
  ·have hq:m<=(a + b) / 2:=by simpa using hq
   refine ⟨yM g cb a ((a + b) / 2),(weak_mk ⟨_,rfl⟩ wA rfl rfl rfl (by repeat' (first | exact trivial | exact ah rfl | exact ah Ag | exact ak RZ | refine ⟨⟨_,rfl,?_⟩,?_⟩))),(a + b) / 2 - a,by omega,a,(a + b) / 2,rfl,by omega,by omega,by omega,rfl⟩
 ·have aN:¬ a < b:=by simpa using h
  have:a=m:=by omega
  subst this;exact (rfl:_=_)
def vX (a b:ByteArray):Bool:=Op.bytesLess a.data.toList b.data.toList
theorem jP:∀ l:List UInt8,Op.bytesLess l l=false
 | []=>rfl
 | a :: r=>by simp [Op.bytesLess,jP r]
theorem iX:∀ {a b:List UInt8},Op.bytesLess a b=true->Op.bytesLess b a=false
 | _,[],h=>by simp [Op.bytesLess] at h
 | [],b :: r,_=>rfl
 | a :: x,b :: y,h=>by
  simp only [Op.bytesLess,Bool.or_eq_true,decide_eq_true_eq,Bool.and_eq_true,beq_iff_eq] at h;simp only [Op.bytesLess,Bool.or_eq_false_iff,decide_eq_false_iff_not,Bool.and_eq_false_imp,beq_iff_eq];rcases h with h | ⟨rfl,h⟩
  ·refine ⟨fun h2=>?_,fun h2=>?_⟩
   ·exact absurd (UInt8.lt_trans h h2) (UInt8.lt_irrefl _)
   ·subst h2;exact absurd h (UInt8.lt_irrefl _)
  ·exact ⟨UInt8.lt_irrefl _,fun _=>iX h⟩
structure gk (L:List ByteArray) (az:List Nat):Prop where
 lt:∀ (i p:Nat),az[i]? = some p->p < L.length
 Z6:∀ (i j p q:Nat) (s t:ByteArray),i < j->az[i]? = some p->az[j]? = some q->L[p]? = some s->L[q]? = some t->vX s t=true
 fst:∀ (i p j:Nat) (s:ByteArray),az[i]? = some p->L[p]? = some s->L[j]? = some s->p<=j
 all:∀ (j:Nat) (s:ByteArray),L[j]? = some s->∃ i p:Nat,az[i]? = some p/\L[p]? = some s
abbrev cr (L:List ByteArray) (az:List Nat):List DV:=[.sl 1 (dt L) none,.sl 1 (dInts az) none]
theorem tI (L:List ByteArray) (az:List Nat) (s:ByteArray) (i p:Nat) (t:ByteArray) (hi:az[i]? = some p) (hp:L[p]? = some t) :
  EvP Tryz.prog 160 [.v (.int .i64 i),.pt [.pt (cr L az) 0] 0,.pt [.v (.string s)] 0] (.v (.bool (!vX t s))):=by
 refine ev_go (P:=Tryz.prog) tt tt_ok 5000 20 [.tmp 4] Tryz.func160 rfl Tryz.ntmps160 rfl (nL rfl) (fun E9 w9 hn9 hm9=>?_);refine aD (fun _=>false) mo (by decide +kernel) ?_;refine ⟨_,⟨by omega,dA hi⟩,?_⟩;refine ⟨_,⟨by omega,eK hp⟩,?_⟩;exact (rfl:_=_)
theorem find_spec (L:List ByteArray) (az:List Nat) (s:ByteArray) (q p:Nat) (hT:gk L az) (hl:az.length<=1099511627776) (hq:az[q]? = some p) (hp:L[p]? = some s) :
  EvP Tryz.prog 93 [.pt (cr L az) 0,.v (.string s)] (.tup [.v (.int .i64 p),.v (.bool true)]):=by
 have hqlt:=(gS hq).1;refine ev_go (P:=Tryz.prog) tt tt_ok 5000 47 [.tmp 4,.tmp 5] Tryz.func93 rfl Tryz.ntmps93 rfl (nL rfl) (fun E9 w9 hn9 hm9=>?_)
 have ju:∀ i:Nat,i < az.length->EvP Tryz.prog 160 [.v (.int .i64 i),.pt [.pt (cr L az) 0] 0,.pt [.v (.string s)] 0] (.v (.bool (decide (q<=i)))):=by
  intro i hi;obtain ⟨p',oG⟩:∃ p',az[i]? = some p':=⟨_,gE hi⟩;obtain ⟨t,ht⟩:∃ t,L[p']? = some t:=⟨_,gE (hT.lt i p' oG)⟩;have:=tI L az s i p' t oG ht
  have e:(!vX t s)=decide (q<=i):=by
   rcases Nat.lt_trichotomy i q with h | h | h
   ·rw [hT.Z6 i q p' p t s h oG hq ht hp];simp;omega
   ·subst h;rw [hq] at oG;simp only [oI] at oG;subst oG;rw [hp] at ht;simp only [oI] at ht;subst ht;rw [vX,jP];simp
   ·have h2:=hT.Z6 q i p p' s t h hq oG hp ht;rw [vX,iX h2];simp;omega
  rw [e] at this;exact this
 have hS:=ru 160 P4 [.pt [.pt (cr L az) 0] 0,.pt [.v (.string s)] 0] az.length q hl (by omega) ax rfl ju;refine yJ P3 hS (by repeat' (first | exact rfl | exact trivial | exact Or.inr (Or.inl ⟨_,rfl⟩) | exact Or.inr ⟨_,rfl⟩ | exact Or.inl ⟨rfl,rfl⟩ | exact Or.inl rfl | refine Or.inr ⟨_,_,rfl,Nat.zero_le _,rfl,?_⟩ | refine ⟨_,_,rfl,?_,?_⟩ | refine ⟨_,rfl,?_⟩ | exact congrArg (fun z=>DV.v (.int .i64 z)) (congrArg Nat.cast (bf az)) | refine Or.inr (Or.inr (Or.inr ⟨_,_,rfl,?_⟩)) | exact Or.inl rfl | refine Or.inr ?_)) rfl ?_;refine aD (fun _=>false) mo (by decide +kernel) ?_;refine br (fun h=>?_) (fun h=>?_)
 ·refine ⟨_,⟨by omega,dA hq⟩,?_⟩;refine ⟨_,⟨by omega,eK hp⟩,?_⟩;refine br (fun h2=>?_) (fun h2=>?_)
  ·exfalso;simp [aj,bf] at h2
  ·refine ⟨_,⟨by omega,dA hq⟩,?_⟩;exact ⟨_,ax,rfl⟩
 ·exfalso;have:decide ((q:Int)=((dInts az).length:Int))=true:=by simpa using h
  simp [bf] at this;omega
end Go.Proofs.YtfifjddnnmfeoaaGreat
set_option maxRecDepth 100000
namespace Go.Proofs
open Go.Shelf
def Tryz.laysGg6_ren:Go.Shelf.Ren:=⟨fun | 6=>161 | 10=>207 | 11=>208 | 12=>209 | 13=>210 | 14=>211 | 24=>250 | 25=>251 | 26=>252 | 27=>253 | 28=>254 | 29=>255 | 30=>256 | 31=>257 | 32=>258 | 33=>259 | 34=>282 | 35=>283 | 36=>284 | 37=>285 | 38=>286 | 39=>299 | n=>n,fun | 20=>20 | 26=>173 | 35=>299 | 0=>0 | 37=>301 | 3=>3 | 41=>221 | 44=>306 | 49=>278 | 51=>212 | 4=>4 | 54=>334 | 53=>333 | 58=>105 | 5=>5 | 9=>9 | 60=>355 | 64=>359 | 66=>368 | 67=>49 | 17=>17 | 32=>296 | 33=>297 | 82=>383 | 12=>12 | 75=>377 | 76=>378 | 77=>379 | 78=>241 | 79=>380 | 80=>381 | n=>n,fun | n=>n⟩
theorem Tryz.laysGg6:Go.Proofs.LaysGg.n6 Tryz.prog Tryz.laysGg6_ren:={
 mixed:=by kernel_rfl
 f6:=Tryz.func161.trans (congrArg some (by kernel_rfl))
 f10:=Tryz.func207.trans (congrArg some (by kernel_rfl))
 f11:=Tryz.func208.trans (congrArg some (by kernel_rfl))
 f12:=Tryz.func209.trans (congrArg some (by kernel_rfl))
 f13:=Tryz.func210.trans (congrArg some (by kernel_rfl))
 f14:=Tryz.func211.trans (congrArg some (by kernel_rfl))
 f24:=Tryz.func250.trans (congrArg some (by kernel_rfl))
 f25:=Tryz.func251.trans (congrArg some (by kernel_rfl))
 f26:=Tryz.func252.trans (congrArg some (by kernel_rfl))
 f27:=Tryz.func253.trans (congrArg some (by kernel_rfl))
 f28:=Tryz.func254.trans (congrArg some (by kernel_rfl))
 f29:=Tryz.func255.trans (congrArg some (by kernel_rfl))
 f30:=Tryz.func256.trans (congrArg some (by kernel_rfl))
 f31:=Tryz.func257.trans (congrArg some (by kernel_rfl))
 f32:=Tryz.func258.trans (congrArg some (by kernel_rfl))
 f33:=Tryz.func259.trans (congrArg some (by kernel_rfl))
 f34:=Tryz.func282.trans (congrArg some (by kernel_rfl))
 f35:=Tryz.func283.trans (congrArg some (by kernel_rfl))
 f36:=Tryz.func284.trans (congrArg some (by kernel_rfl))
 f37:=Tryz.func285.trans (congrArg some (by kernel_rfl))
 f38:=Tryz.func286.trans (congrArg some (by kernel_rfl))
 f39:=Tryz.func299.trans (congrArg some (by kernel_rfl))
 t0:=Tryz.underlying0
 a0:=Tryz.isAgg0
 z0:=Tryz.sizeOf0
 v0:=Tryz.zeroValue0
 i0:=by kernel_rfl
 t3:=Tryz.underlying3
 a3:=Tryz.isAgg3
 z3:=Tryz.sizeOf3
 v3:=Tryz.zeroValue3
 i3:=by kernel_rfl
 t4:=Tryz.underlying4
 a4:=Tryz.isAgg4
 z4:=Tryz.sizeOf4
 v4:=Tryz.zeroValue4
 i4:=by kernel_rfl
 t5:=Tryz.underlying5
 a5:=Tryz.isAgg5
 z5:=Tryz.sizeOf5
 v5:=Tryz.zeroValue5
 i5:=by kernel_rfl
 t9:=Tryz.underlying9
 a9:=Tryz.isAgg9
 z9:=Tryz.sizeOf9
 v9:=Tryz.zeroValue9
 i9:=by kernel_rfl
 t12:=Tryz.underlying12
 a12:=Tryz.isAgg12
 z12:=Tryz.sizeOf12
 v12:=Tryz.zeroValue12
 i12:=by kernel_rfl
 t17:=Tryz.underlying17
 a17:=Tryz.isAgg17
 z17:=Tryz.sizeOf17
 v17:=Tryz.zeroValue17
 i17:=by kernel_rfl
 t20:=Tryz.underlying20
 a20:=Tryz.isAgg20
 z20:=Tryz.sizeOf20
 v20:=Tryz.zeroValue20
 i20:=by kernel_rfl
 t26:=Tryz.underlying173
 a26:=Tryz.isAgg173
 z26:=Tryz.sizeOf173
 v26:=Tryz.zeroValue173
 i26:=by kernel_rfl
 t32:=Tryz.underlying296
 a32:=Tryz.isAgg296
 z32:=Tryz.sizeOf296
 v32:=Tryz.zeroValue296
 i32:=by kernel_rfl
 t33:=Tryz.underlying297
 a33:=Tryz.isAgg297
 z33:=Tryz.sizeOf297
 v33:=Tryz.zeroValue297
 i33:=by kernel_rfl
 t35:=Tryz.underlying299
 a35:=Tryz.isAgg299
 z35:=Tryz.sizeOf299
 v35:=Tryz.zeroValue299
 i35:=by kernel_rfl
 t37:=Tryz.underlying301
 a37:=Tryz.isAgg301
 z37:=Tryz.sizeOf301
 v37:=Tryz.zeroValue301
 i37:=by kernel_rfl
 t41:=Tryz.underlying221
 a41:=Tryz.isAgg221
 z41:=Tryz.sizeOf221
 v41:=Tryz.zeroValue221
 i41:=by kernel_rfl
 t44:=Tryz.underlying306
 a44:=Tryz.isAgg306
 z44:=Tryz.sizeOf306
 v44:=Tryz.zeroValue306
 i44:=by kernel_rfl
 t49:=Tryz.underlying278
 a49:=Tryz.isAgg278
 z49:=Tryz.sizeOf278
 v49:=Tryz.zeroValue278
 i49:=by kernel_rfl
 t51:=Tryz.underlying212
 a51:=Tryz.isAgg212
 z51:=Tryz.sizeOf212
 v51:=Tryz.zeroValue212
 i51:=by kernel_rfl
 t53:=Tryz.underlying333
 a53:=Tryz.isAgg333
 z53:=Tryz.sizeOf333
 v53:=Tryz.zeroValue333
 i53:=by kernel_rfl
 t54:=Tryz.underlying334
 a54:=Tryz.isAgg334
 z54:=Tryz.sizeOf334
 v54:=Tryz.zeroValue334
 i54:=by kernel_rfl
 t58:=Tryz.underlying105
 a58:=Tryz.isAgg105
 z58:=Tryz.sizeOf105
 v58:=Tryz.zeroValue105
 i58:=by kernel_rfl
 t60:=Tryz.underlying355
 a60:=Tryz.isAgg355
 z60:=Tryz.sizeOf355
 v60:=Tryz.zeroValue355
 i60:=by kernel_rfl
 t64:=Tryz.underlying359
 a64:=Tryz.isAgg359
 z64:=Tryz.sizeOf359
 v64:=Tryz.zeroValue359
 i64:=by kernel_rfl
 t66:=Tryz.underlying368
 a66:=Tryz.isAgg368
 z66:=Tryz.sizeOf368
 v66:=Tryz.zeroValue368
 i66:=by kernel_rfl
 t67:=Tryz.underlying49
 a67:=Tryz.isAgg49
 z67:=Tryz.sizeOf49
 v67:=Tryz.zeroValue49
 i67:=by kernel_rfl
 t75:=Tryz.underlying377
 a75:=Tryz.isAgg377
 z75:=Tryz.sizeOf377
 v75:=Tryz.zeroValue377
 i75:=by kernel_rfl
 t76:=Tryz.underlying378
 a76:=Tryz.isAgg378
 z76:=Tryz.sizeOf378
 v76:=Tryz.zeroValue378
 i76:=by kernel_rfl
 t77:=Tryz.underlying379
 a77:=Tryz.isAgg379
 z77:=Tryz.sizeOf379
 v77:=Tryz.zeroValue379
 i77:=by kernel_rfl
 t78:=Tryz.underlying241
 a78:=Tryz.isAgg241
 z78:=Tryz.sizeOf241
 v78:=Tryz.zeroValue241
 i78:=by kernel_rfl
 t79:=Tryz.underlying380
 a79:=Tryz.isAgg380
 z79:=Tryz.sizeOf380
 v79:=Tryz.zeroValue380
 i79:=by kernel_rfl
 t80:=Tryz.underlying381
 a80:=Tryz.isAgg381
 z80:=Tryz.sizeOf381
 v80:=Tryz.zeroValue381
 i80:=by kernel_rfl
 t82:=Tryz.underlying383
 a82:=Tryz.isAgg383
 z82:=Tryz.sizeOf383
 v82:=Tryz.zeroValue383
 i82:=by kernel_rfl }
end Go.Proofs
namespace Go.Proofs.YtfifjddnnmfeoaaGreat
open Go Go.RowKit Go.Lib Go.Sort Tryz
noncomputable def Z7:TypeInfo:=(Tryz.prog.info? 28).get (by kernel_rfl)
noncomputable def TU:TypeInfo:=(Tryz.prog.info? 3).get (by kernel_rfl)
theorem siK (n:Nat) (h2:2<=n):Lib.swapperK n TU 2=5:=by
 have a:TU.hasPointers=false:=by kernel_rfl
 have b:TU.bytes=8:=by kernel_rfl
 have c:(n == 0)=false:=by simp;omega
 have d:(n == 1)=false:=by simp;omega
 simp [Lib.swapperK,a,b,c,d]
theorem KK {α:Type} [Inhabited α] (enc:α->Value) (h1:∀ x,(enc x).oneCell'=true) {lt:α->α->Bool} (hO:SWO lt) (lb:Array Value) (C3 c:Nat) (d:Array α) (h2:2<=d.size) (bI:d.size < 4611686018427387904) (w:World)
  (KL:LessReads Tryz.prog 162 lb enc lt C3 0 d.size w) (hH:Holds enc w C3 0 d) (Z8:C3 < w.heap.size) :
  Calls Tryz.prog 161 #[.iface 28 (.slice (some ⟨C3,0,none⟩) d.size c),.func (.func 162) #[] lb] w fun e w'=>
   e = .returned (.tuple #[])/\∃ d' n os,PermIn 0 d.size d d' /\ SortedIn lt 0 d.size d' /\ w'=grow (putRow enc (Sort.ahead w n) C3 0 d') os:=
 Any.sort_Slice_sorted Tryz.laysGg6 28 3 Z7 TU (by kernel_rfl) (by kernel_rfl) (by kernel_rfl) (by kernel_rfl) 2 (fun _=>by kernel_rfl) (by kernel_rfl) (fun _=>by kernel_rfl) enc h1 lt hO 162 lb
  (enters_of Tryz.func162 (by kernel_rfl) rfl) C3 0 c d h2 bI 245 (by rw [siK _ h2];kernel_rfl) true
  (fun args W=>run_callFunc_extern Tryz.func245 (by kernel_rfl) (by kernel_rfl) (by kernel_rfl) (e:=Extern.ReflectliteSwapper.swap true) (by kernel_rfl) args W) w KL hH Z8
theorem HR (lb:Array Value) (p:Option Addr) (n c:Nat) (h1:n<=1) (w:World) :
  Calls Tryz.prog 161 #[.iface 28 (.slice p n c),.func (.func 162) #[] lb] w fun e w'=>e = .returned (.tuple #[])/\∃ os,w'=grow w os:=by
 have h:n=0∨n=1:=by omega
 rcases h with rfl | rfl
 ·exact Any.sort_Slice_tiny Tryz.laysGg6 28 3 Z7 TU (by kernel_rfl) (by kernel_rfl) (by kernel_rfl) (by kernel_rfl) 2 (fun _=>by kernel_rfl) p 0 c h1 241 (by kernel_rfl) _ _ _ w
 ·exact Any.sort_Slice_tiny Tryz.laysGg6 28 3 Z7 TU (by kernel_rfl) (by kernel_rfl) (by kernel_rfl) (by kernel_rfl) 2 (fun _=>by kernel_rfl) p 1 c h1 242 (by kernel_rfl) _ _ _ w
end Go.Proofs.YtfifjddnnmfeoaaGreat
set_option maxRecDepth 100000
namespace Go.Proofs.YtfifjddnnmfeoaaGreat
open Go Go.RowKit Dv Tryz
theorem nj:∀ {a b:List UInt8},Op.bytesLess a b=false->a=b∨Op.bytesLess b a=true
 | [],[],_=>.inl rfl
 | a :: x,[],_=>.inr rfl
 | [],b :: r,h=>by simp [Op.bytesLess] at h
 | a :: x,b :: y,h=>by
  simp only [Op.bytesLess,Bool.or_eq_false_iff,decide_eq_false_iff_not,Bool.and_eq_false_imp,beq_iff_eq] at h;simp only [Op.bytesLess,Bool.or_eq_true,decide_eq_true_eq,Bool.and_eq_true,beq_iff_eq];by_cases nJ:a=b
  ·subst nJ;rcases nj (h.2 rfl) with h2 | h2
   ·exact .inl (by rw [h2])
   ·exact .inr (.inr ⟨rfl,h2⟩)
  ·refine .inr (.inl ?_);rcases UInt8.lt_or_lt_of_ne nJ with h3 | h3
   ·exact absurd h3 h.1
   ·exact h3
theorem fh:∀ {a b c:List UInt8},Op.bytesLess a b=true->Op.bytesLess b c=true->Op.bytesLess a c=true
 | _,[],_,h,_=>by simp [Op.bytesLess] at h
 | _,_ :: _,[],_,h=>by simp [Op.bytesLess] at h
 | [],b :: y,c :: z,_,_=>rfl
 | a :: x,b :: y,c :: z,h1,h2=>by
  simp only [Op.bytesLess,Bool.or_eq_true,decide_eq_true_eq,Bool.and_eq_true,beq_iff_eq] at h1 h2 ⊢;rcases h1 with h1 | ⟨rfl,h1⟩
  ·rcases h2 with h2 | ⟨rfl,h2⟩
   ·exact .inl (UInt8.lt_trans h1 h2)
   ·exact .inl h1
  ·rcases h2 with h2 | ⟨rfl,h2⟩
   ·exact .inl h2
   ·exact .inr ⟨rfl,fh h1 h2⟩
theorem Gk {s t:ByteArray} (h:vX s t=false):s=t∨vX t s=true:=by
 rcases nj h with h | h
 ·exact .inl (ByteArray.ext (Array.ext' h))
 ·exact .inr h
def Aj (L:List ByteArray) (p q:Nat):Bool:=
 if L.getD p ap=L.getD q ap then decide (p < q) else vX (L.getD p ap) (L.getD q ap)
theorem Oo (L:List ByteArray):Sort.SWO (Aj L):=by
 have irr:∀ x,Aj L x x=false:=fun x=>by simp [Aj]
 have tr:∀ x y z,Aj L x y=true->Aj L y z=true->Aj L x z=true:=by
  intro x y z h1 h2;unfold Aj at *;generalize L.getD x ap=a at *;generalize L.getD y ap=b at *;generalize L.getD z ap=c at *;by_cases nJ:a=b
  ·subst nJ;rw [if_pos rfl] at h1;by_cases WE:a=c
   ·rw [if_pos WE] at h2 ⊢;simp at h1 h2 ⊢;omega
   ·rw [if_neg WE] at h2 ⊢;exact h2
  ·rw [if_neg nJ] at h1;by_cases WE:b=c
   ·subst WE;rw [if_neg nJ];exact h1
   ·rw [if_neg WE] at h2
    have hac:a≠c:=by
     rintro rfl;have:=iX h1;rw [vX,this] at h2;cases h2
    rw [if_neg hac];exact fh h1 h2
 have tot:∀ x y,Aj L x y=false->x=y∨Aj L y x=true:=by
  intro x y h;unfold Aj at *;by_cases nJ:L.getD x ap=L.getD y ap
  ·rw [if_pos nJ] at h;rw [if_pos nJ.symm];simp at h ⊢;omega
  ·rw [if_neg nJ] at h;rw [if_neg (fun e=>nJ e.symm)];rcases Gk h with h | h
   ·exact absurd h nJ
   ·exact .inr h
 refine ⟨irr,tr,fun x y z h1 h2=>?_⟩;rcases tot x y h1 with rfl | h3
 ·exact h2
 ·rcases tot y z h2 with rfl | h4
  ·exact h1
  ·cases h5:Aj L x z
   ·rfl
   ·have:=tr _ _ _ (tr _ _ _ h4 h3) h5;rw [irr] at this;cases this
theorem HS (L:List ByteArray) (d:List Nat) (i j p q:Nat) (hi:d[i]? = some p) (hj:d[j]? = some q) (hp:p < L.length) (hq:q < L.length) :
  EvS Tryz.prog 162 [.v (.int .i64 i),.v (.int .i64 j),.pt [.sl 1 (dInts d) none] 0,.pt [.pt [.sl 1 (dt L) none,.v (.slice none 0 0)] 0] 0] [] [] (fun r _ _=>r = .v (.bool (Aj L p q))):=by
 obtain ⟨s,hs⟩:∃ s,L[p]? = some s:=⟨_,gE hp⟩;obtain ⟨t,ht⟩:∃ t,L[q]? = some t:=⟨_,gE hq⟩
 have e:Aj L p q=if s=t then decide (p < q) else vX s t:=by
  simp [Aj,List.getD_eq_getElem?_getD,hs,ht]
 refine J7 (s:=true) (P:=Tryz.prog) tt tt_ok 5000 50 [.tmp 6] Tryz.func162 rfl Tryz.ntmps162 rfl (nL rfl) (fun E9 w9 hn9 hm9=>?_);refine aD (fun _=>false) mo (by decide +kernel) ?_;refine ⟨_,⟨by omega,dA hi⟩,?_⟩;refine ⟨_,⟨by omega,dA hj⟩,?_⟩;refine aD (fun _=>false) mo (by decide +kernel) ?_;refine ⟨_,⟨by omega,eK hs⟩,?_⟩;refine ⟨_,⟨by omega,eK ht⟩,?_⟩;refine br (fun h=>?_) (fun h=>?_)
 ·have aR:s≠t:=by simpa using h
  refine aD (fun _=>false) mo (by decide +kernel) ?_;refine ⟨_,⟨by omega,eK hs⟩,?_⟩;refine ⟨_,⟨by omega,eK ht⟩,?_⟩;refine (congrArg (fun b=>DV.v (.bool b)) ?_:_=_);rw [e,if_neg aR];rfl
 ·have aH:s=t:=by simpa using h
  refine (congrArg (fun b=>DV.v (.bool b)) ?_:_=_);rw [e,if_pos aH];simp
end Go.Proofs.YtfifjddnnmfeoaaGreat
