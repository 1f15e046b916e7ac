/- Part 2 of the proof: The evaluator 'go' is sound: the end of a call, the theorem; contracts; rules for branches, calls, loops; Rules for the evaluator: what is known made less, loops; A region that draws its order: where the operations with an effect are ordered among themselves, and what writes waits for all that reads, one run in the order of the text serves every order; The evaluator at regions that draw their order: one run in the order of the text; what is read is what was known at the region's beginning; A region that draws its order, in which two operations with an effect are not ordered: the run in either order of these two serves every order; Rules for the evaluator: a call that is handed the caller's own objects, to read them; Rules for the evaluator: objects that are written no more are frozen, ahead of a loop; Rules for the evaluator: a call that is handed one of the caller's objects, to write it; The table of this program's types, by which the evaluator goes; The program's functions are entered; The data of the document's types, plain, and as the evaluator has them; Names: the program's and the reference's functions say the same of a text; sort.Search; the program's table of texts: Find; The library's sort.Slice, laid at this program by the kit's tool (lay-plain; wip/tools/lay.sh); The order of the table; the closure handed to sort.Slice; sort.Slice of the table's places, at a call; names.New: the table; names.Twice: does a text stand earlier, too?. No condition. -/
import Derived.Scope
import Derived.Test.YtphonmiflfhdbaaGreatProg
import Derived.Shelf.GgSortFunc.Whole
import Derived.Shelf.GgSortFunc.Tiny
import Derived.Test.YtphonmiflfhdbaaGreatMy1
set_option linter.all false
namespace Go.Proofs.YtphonmiflfhdbaaGreat
namespace Dv
open Go Go.RowKit
structure IF (E E':En) (bx:List (List DV)) (N:Nat):Prop where
 c:∀ a v,E.c a=some v->E'.c a=some v
 fz:∀ (i:Nat) cs,N<=i->bx[i]? = some cs->∃ b arr,E.β[i]? = some b/\RvC E cs arr/\∀ (j:Nat) u,arr[j]? = some u->E'.c ⟨b,j,none⟩=some u
theorem IF.cl {E E':En} {bx:List (List DV)} {N:Nat} (h:IF E E' bx N):IF E E'.cl bx N:=⟨h.c,h.fz⟩
structure GR (E E':En) (n0 m0:Nat):Prop where
 β:∀ (i:Nat) b,i < n0->E.β[i]? = some b->E'.β[i]? = some b
 tk:∀ k,k < m0->E'.tk[k]? = E.tk[k]? /\ E'.τ[k]? = E.τ[k]?
theorem GR.zero (E E':En):GR E E' 0 0:=⟨fun _ _ h=>absurd h (Nat.not_lt_zero _),fun _ h=>absurd h (Nat.not_lt_zero _)⟩
theorem Ext.MX (E:En):Ext E.cl E:=⟨fun _ _ h=>h,fun j b hj=>by simp [En.cl] at hj,fun k q hk=>by simp [En.cl] at hk⟩
theorem AD {E E':En} (hm:∀ e b o es,RvEs E.cl e b o es->RvEs E'.cl e b o es):∀ {l:List DV} {arr:List Value},(∀ x∈l,(∃ y,x = .v y)∨∃ e' Ab,x = .sl e' Ab none)->RvL E l arr->RvL E' l arr
 | [],arr,_,h=>by simp only [RvL] at h ⊢;exact h
 | d :: r,arr,hs,h=>by
  simp only [RvL] at h ⊢;obtain ⟨v,s,rfl,h1,h2⟩:=h;refine ⟨v,s,rfl,?_,AD hm (fun x hx=>hs x (fK _ hx)) h2⟩;rcases hs d (by simp) with ⟨y,rfl⟩ | ⟨e',Ab,rfl⟩
  ·unfold Rv at h1 ⊢;exact h1
  ·unfold Rv at h1 ⊢;obtain ⟨b,n,cap,h3,h4,h5,_⟩:=h1;exact ⟨b,n,cap,h3,h4,fun hn=>⟨(h5 hn).1,hm _ _ _ _ (h5 hn).2⟩,fun k hk=>by cases hk⟩
theorem CcL.length {bx:List (List DV)} {N n0 m0:Nat}:∀ {l' l:List DV},CcL bx N n0 m0 l' l->l'.length=l.length
 | [],l,h=>by simp only [CcL] at h;subst h;rfl
 | d' :: r',l,h=>by
  simp only [CcL] at h;obtain ⟨d,r,rfl,_,h2⟩:=h;simp [CcL.length h2]
theorem CcE.length {bx:List (List DV)} {N:Nat}:∀ {l' l:List (List DV)},CcE bx N l' l->l'.length=l.length
 | [],l,h=>by simp only [CcE] at h;subst h;rfl
 | d' :: r',l,h=>by
  simp only [CcE] at h;obtain ⟨d,r,rfl,_,h2⟩:=h;simp [CcE.length h2]
mutual
theorem Cc.sound {bx:List (List DV)} {N:Nat} {E:En}:∀ {d':DV} {E':En} {n0 m0:Nat} {d:DV} {v:Value},IF E E' bx N->GR E E' n0 m0->Cc bx N n0 m0 d' d->Rv E d v->Rv E' d' v
 | .v y,E',n0,m0,d,v,hf,hl,h,hv=>by grind [Cc,Rv]
 | .ud,E',n0,m0,d,v,hf,hl,h,hv=>by grind [Cc,Rv]
 | .agg l',E',n0,m0,d,v,hf,hl,h,hv=>by
  simp only [Cc] at h;obtain ⟨l,rfl,h⟩:=h;unfold Rv at hv ⊢;obtain ⟨vs,h1,h2,h3⟩:=hv;exact ⟨vs,h1,CcL.sound hf hl h h2,h3⟩
 | .tup l',E',n0,m0,d,v,hf,hl,h,hv=>by
  simp only [Cc] at h;obtain ⟨l,rfl,h⟩:=h;unfold Rv at hv ⊢;obtain ⟨vs,h1,h2⟩:=hv;exact ⟨vs,h1,CcL.sound hf hl h h2⟩
 | .sl e es tk,E',n0,m0,d,v,hf,hl,h,hv=>by
  have hm:∀ b o,RvEs E.cl e b o es->RvEs E'.cl e b o es:=fun b o hr=>RvEs.mono (Ext.Fi hf.c) hr
  cases tk with
  | none=>
   simp only [Cc] at h;rcases h with ⟨rfl,rfl⟩ | ⟨cr,rfl⟩ | ⟨i,off,c,cs,rfl,hi,cT,IG,ql,QL⟩ | ⟨YY,cr,rfl,h⟩
   ·have:=bK hv;subst this;unfold Rv;exact ⟨none,0,0,rfl,⟨rfl,aU _⟩,fun hn=>(hn rfl).elim,fun k hk=>by cases hk⟩
   ·unfold Rv at hv ⊢;obtain ⟨b,n,cap,h1,h2,h3,_⟩:=hv;exact ⟨b,n,cap,h1,h2,fun hn=>⟨(h3 hn).1,hm _ _ (h3 hn).2⟩,fun k hk=>by cases hk⟩
   ·obtain ⟨b,arr,hb,hc,hmm⟩:=hf.fz i cs hi cT;unfold Rv at hv ⊢;obtain ⟨b',ad,fv,S5,rfl,hca⟩:=hv;rw [hb] at fv;simp only [oI] at fv;subst fv;refine ⟨ad,es.length,c,rfl,⟨rfl,S5⟩,fun hn=>?_,fun k hk=>by cases hk⟩;have nU:0 < es.length:=List.length_pos_iff.2 hn;have TV:=hca (by omega);subst TV;refine ⟨rfl,?_⟩;have h1:=(hc.drop off).take (es.length * e);rw [<- IG] at h1;refine rvEs_flat ⟨AD (E':=E'.cl) (fun e b o es hr=>(RvEs.mono (Ext.Fi hf.c) hr:RvEs E'.cl e b o es)) QL h1.1,h1.2⟩ ql fun j u hj=>?_;rw [bT] at hj;split at hj
    ·rw [List.getElem?_drop] at hj;exact hmm (off + j) u hj
    ·cases hj
   ·have hlen:=CcE.length h;have hs:=fun b o=>CcE.sound (e:=e) (b:=b) (o:=o) hf h;unfold Rv at hv ⊢;obtain ⟨b,n,cap,h1,h2,h3,_⟩:=hv;refine ⟨b,n,cap,h1,by omega,fun hn=>?_,fun k hk=>by cases hk⟩
    grind
  | some k=>
   simp only [Cc] at h;obtain ⟨hk,rfl⟩:=h;unfold Rv at hv ⊢;obtain ⟨b,n,cap,h1,h2,h3,h4⟩:=hv;refine ⟨b,n,cap,h1,h2,fun hn=>⟨(h3 hn).1,hm _ _ (h3 hn).2⟩,fun k' gq=>?_⟩;cases gq;obtain ⟨e1,e2⟩:=hl.tk k hk;obtain ⟨q,h5,h6,h7⟩:=h4 k rfl
   grind
 | .pt cs' o,E',n0,m0,d,v,hf,hl,h,hv=>by
  simp only [Cc] at h;rcases h with rfl | ⟨i,cs,rfl,hi,cT,h⟩
  ·unfold Rv at hv ⊢;obtain ⟨b,p,h1,h2⟩:=hv;exact ⟨b,p,h1,RvAt.mono (Ext.Fi hf.c) h2⟩
  ·obtain ⟨b,arr,hb,hc,hm⟩:=hf.fz i cs hi cT;unfold Rv at hv ⊢;obtain ⟨b',fv,rfl⟩:=hv;rw [hb] at fv;simp only [oI] at fv;subst fv;refine ⟨b,0,by simp,?_⟩;have:=CcL.sound hf.cl (GR.zero E E'.cl) h hc.1;exact yA ⟨this,hc.2⟩ fun j u hj=>by rw [Nat.zero_add];exact hm j u hj
 | .loc i o,E',n0,m0,d,v,hf,hl,h,hv=>by
  simp only [Cc] at h;obtain ⟨hi,rfl⟩:=h;unfold Rv at hv ⊢;obtain ⟨b,hb,h1⟩:=hv;exact ⟨b,hl.β i b hi hb,h1⟩
 | .el i o,E',n0,m0,d,v,hf,hl,h,hv=>by
  simp only [Cc] at h;obtain ⟨hi,rfl⟩:=h;unfold Rv at hv ⊢;obtain ⟨b,hb,h1⟩:=hv;exact ⟨b,hl.β i b hi hb,h1⟩
 | .ms i e o l c,E',n0,m0,d,v,hf,hl,h,hv=>by
  simp only [Cc] at h;obtain ⟨hi,rfl⟩:=h;unfold Rv at hv ⊢;obtain ⟨b,ad,hb,h1⟩:=hv;exact ⟨b,ad,hl.β i b hi hb,h1⟩
 | .fn f a' b',E',n0,m0,d,v,hf,hl,h,hv=>by
  simp only [Cc] at h;obtain ⟨a,b,rfl,ha,hb⟩:=h;unfold Rv at hv ⊢;obtain ⟨l,r,h1,h2,h3⟩:=hv;exact ⟨l,r,h1,CcL.sound hf hl ha h2,CcL.sound hf hl hb h3⟩
 | .ri t x',E',n0,m0,d,v,hf,hl,h,hv=>by
  simp only [Cc] at h;obtain ⟨x,rfl,hx⟩:=h;unfold Rv at hv ⊢;obtain ⟨z,h1,h2⟩:=hv;exact ⟨z,h1,Cc.sound hf hl hx h2⟩
theorem CcL.sound {bx:List (List DV)} {N:Nat} {E:En}:∀ {l':List DV} {E':En} {n0 m0:Nat} {l:List DV} {vs:List Value},IF E E' bx N->GR E E' n0 m0->CcL bx N n0 m0 l' l->RvL E l vs->RvL E' l' vs
 | [],E',n0,m0,l,vs,hf,hl,h,hv=>by grind [CcL,RvL]
 | d' :: r',E',n0,m0,l,vs,hf,hl,h,hv=>by
  simp only [CcL] at h;obtain ⟨d,r,rfl,h1,h2⟩:=h;simp only [RvL] at hv ⊢;obtain ⟨v,s,h3,h4,h5⟩:=hv;exact ⟨v,s,h3,Cc.sound hf hl h1 h4,CcL.sound hf hl h2 h5⟩
theorem CcA.sound {bx:List (List DV)} {N:Nat} {E:En}:∀ {l':List DV} {E':En} {l:List DV} {b p:Nat},IF E E' bx N->CcL bx N 0 0 l' l->RvAt E.cl b p l->RvAt E'.cl b p l'
 | [],E',l,b,p,hf,h,hv=>by simp only [RvAt]
 | d' :: r',E',l,b,p,hf,h,hv=>by
  simp only [CcL] at h;obtain ⟨d,r,rfl,h1,h2⟩:=h;simp only [RvAt] at hv ⊢;obtain ⟨⟨v,h3,h4,h5⟩,h6⟩:=hv;exact ⟨⟨v,hf.c _ _ h3,h4,Cc.sound hf.cl (GR.zero E E'.cl) h1 (Rv.mono (Ext.MX E) h5)⟩,CcA.sound hf h2 h6⟩
theorem CcE.sound {bx:List (List DV)} {N:Nat} {E:En}:∀ {l':List (List DV)} {E':En} {l:List (List DV)} {e b o:Nat},IF E E' bx N->CcE bx N l' l->RvEs E.cl e b o l->RvEs E'.cl e b o l'
 | [],E',l,e,b,o,hf,h,hv=>by simp only [RvEs]
 | a' :: r',E',l,e,b,o,hf,h,hv=>by
  simp only [CcE] at h;obtain ⟨a,r,rfl,h1,h2⟩:=h;simp only [RvEs] at hv ⊢;obtain ⟨h3,h4,h5⟩:=hv;refine ⟨?_,?_,CcE.sound hf h2 h5⟩
  ·grind [CcL.length]
  ·rcases h1 with rfl | h1
   ·exact RvAt.mono (Ext.Fi hf.c) h4
   ·exact CcA.sound hf h1 h4
end
theorem Pc {E:En} {e:Nat} {es Ab:List (List DV)} {tk:Option Nat} {v:Value} (h:CcE [] 0 Ab es) (hv:Rv E (.sl e es tk) v):Rv E (.sl e Ab tk) v:=by
 have hlen:=CcE.length h;have hs:=fun b o=>CcE.sound (E:=E) (E':=E) (bx:=[]) (N:=0) (e:=e) (b:=b) (o:=o) ⟨fun _ _ h=>h,fun i cs _ hi=>by simp at hi⟩ h
 grind [Rv]
theorem lQ.get {bx:List (List DV)} {N n0 m0:Nat}:∀ {l' l:List (List DV)},lQ bx N n0 m0 l' l->l'.length=l.length/\∀ (i:Nat) cs',l'[i]? = some cs' -> ∃ cs,l[i]? = some cs/\CcL bx N n0 m0 cs' cs
 | [],l,h=>by simp only [lQ] at h;subst h;exact ⟨rfl,by simp⟩
 | a' :: r',l,h=>by
  simp only [lQ] at h;obtain ⟨a,r,rfl,h1,h2⟩:=h;obtain ⟨h3,h4⟩:=lQ.get h2
  grind
open Classical in
noncomputable def qp (E:En) (n:Nat) (w:World):Addr->Option Value:=
 fun a=>if ∃ i:Nat,n<=i/\E.β[i]? = some a.block then w.cell? a else E.c a
section
variable {X:Ctx} {E:En} {st:St} {a:Act} {w:World}
theorem dN {n:Nat} {x:Addr} {v:Value} (h:qp E n w x=some v):((∃ i:Nat,n<=i/\E.β[i]? = some x.block)/\w.cell? x=some v)∨E.c x=some v:=by
 unfold qp at h;split at h
 all_goals grind
theorem kW {bx:List (List DV)} (h:Env E bx w) {n:Nat} {x:Addr} {v:Value} (hx:E.c x=some v):qp E n w x=some v:=by
 unfold qp;split
 ·exact h.sub x v hx
 ·exact hx
theorem yJ (h:Rel X E st a w) {d d':DV} {os:List (List DV)} {v:Value} (hv:Rv E d v) (M:Nat) (hM:(X.fr=false/\M=X.m0)∨(X.fr=true/\M=st.tk.length)) (hd:Cc st.bx X.n0 X.n0 M d' d) (C3:lQ st.bx X.n0 X.n0 M os (st.bx.take X.n0)) (hΦ:X.Φ d' os (st.tk.take M)):Ap X.still X.E0 X.w0 X.Φ v w X.fr:=by
 obtain ⟨r,QP,Ze⟩:=h.nw.β;have iy:E.β.take X.n0=X.E0.β:=by rw [QP,<- X.wJ];simp
 have iN:∀ (i:Nat) b,i < X.n0->E.β[i]? = some b->X.E0.β[i]? = some b:=fun i b hi hb=>by grind
 have dM:∀ (i:Nat) b,X.n0<=i->E.β[i]? = some b->b∈r:=fun i b hi hb=>by grind
 have QQ:∀ b,b∈X.E0.β->b∈r->False:=fun b h1 h2=>by
  have:=h.env.inj
  grind
 have hE0l:X.E0.τ.length=X.m0:=by rw [h.nw.l0,X.nq]
 have hEt:X.m0<=E.tk.length:=by
  rcases Nat.lt_or_ge E.tk.length X.m0 with h1 | h1
  ·have hk:E.tk.length < X.E0.tk.length:=by rw [X.nq];exact h1
   have gq:E.tk.length < X.E0.τ.length:=by rw [h.nw.l0];exact hk
   obtain ⟨q',y',h2,_⟩:=h.nw.tk E.tk.length _ _ (gE hk) (gE gq)
   grind
  ·exact h1
 have hMm:X.m0<=M/\M<=E.tk.length:=by
  rcases hM with ⟨_,rfl⟩ | ⟨_,rfl⟩
  ·exact ⟨aU _,hEt⟩
  ·rw [<- h.tk];exact ⟨hEt,aU _⟩
 have S8:tkL X.fr (E.tk.take M).length X.E0.tk.length:=by
  rw [eP];rcases hM with ⟨hf,rfl⟩ | ⟨hf,rfl⟩
  ·rw [hf];show min _ _=_;rw [X.nq];omega
  ·rw [hf];show _<=min _ _;rw [X.nq];omega
 let E':En:=⟨qp E X.n0 w,X.E0.β,E.tk.take M,E.τ.take M⟩
 have MY:IF E E' st.bx X.n0:={
  c:=fun x u hx=>kW h.env hx
  fz:=fun i cs hi cT=>by
   obtain ⟨b,ty,arr,hb,hw,hc⟩:=h.env.ey i cs cT;refine ⟨b,arr,hb,hc,fun j u hj=>?_⟩;show qp E X.n0 w ⟨b,j,none⟩=some u;unfold qp;rw [ap ⟨i,hi,hb⟩,ch hw]
   simpa using hj }
 have yK:GR E E' X.n0 M:={
  β:=iN
  tk:=fun k hk=>⟨by show (E.tk.take M)[k]? = _;rw [bT,ap hk],by show (E.τ.take M)[k]? = _;rw [bT,ap hk]⟩ }
 obtain ⟨kL,T3⟩:=C3.get;refine ⟨h.fr,h.sh,d',os,E',?_,rfl,S8,?_,hd.sound MY yK hv,by show X.Φ d' os (E.tk.take M);rw [h.tk];exact hΦ⟩
 ·exact {
   len:=by
    show X.E0.β.length=os.length;rw [kL,X.wJ,eP]
    have:X.n0<=st.bx.length:=by
     rw [<- h.env.len,QP,List.length_append,X.wJ];omega
    omega
   tl:=by simp only [E',eP];rw [h.env.tl]
   ey:=fun i cs' hi=>by
    obtain ⟨cs,cT,AB⟩:=T3 i cs' hi;rw [bT] at cT;split at cT
    ·rename_i ay;obtain ⟨b,ty,arr,hb,hw,hc⟩:=h.env.ey i cs cT;exact ⟨b,ty,arr,iN i b ay hb,hw,CcL.sound MY yK AB hc.1,hc.2⟩
    ·cases cT
   inj:=by rw [<- iy];exact h.env.inj.sublist (List.take_sublist _ _)
   sub:=fun x u hx=>by
    rcases dN hx with ⟨_,h1⟩ | h1
    ·exact h1
    ·exact h.env.sub x u h1
   pc:=fun x u hx hm=>by
    rcases dN hx with ⟨⟨i,hi,hb⟩,_⟩ | h1
    ·exact QQ _ hm (dM i _ hi hb)
    ·refine h.env.pc x u h1 ?_;rw [QP];exact List.mem_append.2 (.inl hm)
   cC:=fun k q y hq hy=>by
    simp only [E',bT] at hq hy;split at hq
    ·rename_i hk;rw [ap hk] at hy;rcases h.env.cC k q y hq hy with h1 | ⟨g,cap,cur,rfl,h1,h2,h3,h4,h5,h6⟩
     ·exact .inl h1
     ·refine .inr ⟨g,cap,cur,rfl,h1,⟨h2.1,h2.2.mono fun _ _ hx=>kW h.env hx⟩,h3,h4,fun hm=>h5 (by rw [QP];exact List.mem_append.2 (.inl hm)),fun x u hx hg=>?_⟩;rcases dN hx with ⟨⟨i,hi,hb⟩,_⟩ | h7
      all_goals grind
    ·cases hq
   ji:=fun k k' y y' g vS hy gv=>by
    simp only [E',bT] at hy gv;split at hy
    ·split at gv
     ·exact h.env.ji k k' y y' g vS hy gv
     ·cases gv
    ·cases hy }
 ·exact {
   c:=fun x u hx=>kW h.env (h.nw.c x u hx)
   cn:=fun x u hx=>by
    rcases dN hx with ⟨⟨i,hi,hb⟩,_⟩ | h1
    ·exact .inr (.inl (Ze _ (dM i _ hi hb)))
    ·exact h.nw.cn x u h1
   β:=⟨[],by simp [E'],by simp⟩
   tk:=fun k q y hq hy=>by
    obtain ⟨q',y',h1,h2,h3⟩:=h.nw.tk k q y hq hy
    grind
   tn:=fun k y g hk hy hg=>by
    simp only [E',bT] at hy;split at hy
    ·exact h.nw.tn k y g hk hy hg
    ·cases hy
   l0:=h.nw.l0 }
def resOf (tmps:Array Value):ResultVar->Sem Value
 | .tmp t=>pure (tmps.getD t undef)
 | .cell x t=>do loadVar t (<- asAddr (tmps.getD x undef))
theorem C5 (fn:Func) (tmps:Array Value):results fn tmps=(do let vs <- fn.results.mapM (resOf tmps);pure (if h:vs.size=1 then vs[0] else .tuple vs)):=by
 unfold results;congr 2
theorem C6 (h:Rel X E st a w) {r:ResultVar} {d:DV} (hr:res1 X.T st r=some d):∃ v,Rv E d v/\(resOf a.tmps r).run X.P w = .ok v w:=by
 cases r with
 | tmp t=>
  simp only [res1] at hr;split at hr
  ·rename_i x hg;simp only [oI] at hr;subst hr;obtain ⟨v,h1,h2⟩:=(h.tm t _ hg).1 (bf _);exact ⟨v,h2,by simp [resOf,Array.getD_eq_getD_getElem?,h1]⟩
  ·cases hr
 | cell x t=>
  simp only [res1] at hr;split at hr
  ·rename_i i off hg;split at hr
   ·rename_i cs cT;obtain ⟨v,h1,h2⟩:=(h.tm x _ hg).1 (bf _);unfold Rv at h2;obtain ⟨b,hb,rfl⟩:=h2;obtain ⟨b',CX,arr,fv,hw,hc⟩:=h.env.ey i cs cT;rw [hb] at fv;simp only [oI] at fv;subst fv;obtain ⟨v,hv,hl⟩:=kQ X.hT hc (b:=b) (p:=0) hr;have hl:=hl w fun j u hj=>by rw [ch hw];simpa using hj
    rw [Nat.zero_add] at hl;exact ⟨v,hv,by simp only [resOf,Array.getD_eq_getD_getElem?,h1,Option.getD_some,asAddr,Sem.run_bind,Sem.run_pure,Result.andThen_ok,hl]⟩
   ·cases hr
  ·cases hr
theorem kX (h:Rel X E st a w):∀ {rs:List ResultVar} {ds:List DV},resD X.T st rs=some ds->∃ vs,RvL E ds vs/\(rs.mapM (resOf a.tmps)).run X.P w = .ok vs w
 | [],ds,hr=>by
  simp only [resD,oI] at hr;subst hr;exact ⟨[],cf E,rfl⟩
 | r :: rs,ds,hr=>by
  simp only [resD] at hr;split at hr
  ·rename_i d l hd hl;simp only [oI] at hr;subst hr;obtain ⟨v,hv,h1⟩:=C6 h hd;obtain ⟨vs,vT,h2⟩:=kX h hl;refine ⟨v :: vs,rvL_cons hv vT,?_⟩
   simp_all
  ·cases hr
theorem nX (h:Rel X E st a w) {d:DV} {v:Value} (hv:Rv E d v) (hf:finD X st d):Ap X.still X.E0 X.w0 X.Φ v w X.fr:=by
 unfold finD at hf;split at hf
 ·grind [yJ]
 ·rename_i hfr;split at hf
  ·rename_i hn hm
   have key:∀ d',Cc st.bx 0 0 0 d' d->X.Φ d' [] []->Ap X.still X.E0 X.w0 X.Φ v w X.fr:=fun d' hd hΦ=>
    yJ h hv (d':=d') (os:=[]) X.m0 (.inl ⟨hfr,rfl⟩) (by rw [hn,hm];exact hd) (by rw [hn];simp [lQ]) (by rw [hm];exact hΦ)
   grind [Cc]
  ·grind [yJ]
theorem wR (h:Rel X E st a w) (hf:fin X st):kq X [] .ret a w:=by
 have Ae:X.fn.results=X.rs.toArray:=by rw [<- X.vR]
 simp only [kq];refine ⟨h.df,?_⟩
 have hbt:nr X.bt X.E0.β w:=fun p hp b hb=>by
  obtain ⟨r,hr,_⟩:=h.nw.β;exact h.bt p hp b (by rw [hr,eO (gS hb).1];exact hb)
 unfold fin at hf
 have Jl:∀ (ds:List DV) (vs:List Value),(X.rs.mapM (resOf a.tmps)).run X.P w = .ok vs w->(results X.fn a.tmps).run X.P w = .ok (if h:vs.toArray.size=1 then vs.toArray[0] else .tuple vs.toArray) w:=by
  intro ds vs hv;rw [C5,Ae]
  simp_all
 split at hf
 ·rename_i hr;obtain ⟨vs,vT,h1⟩:=kX h hr;simp only [RvL] at vT;subst vT;exact ⟨_,Jl [] [] h1,nX h (v:=.tuple #[]) (by unfold Rv;exact ⟨[],rfl,cf E⟩) hf,hbt⟩
 ·rename_i d hr;obtain ⟨vs,vT,h1⟩:=kX h hr;have hl:=vT.length;simp only [RvL] at vT;obtain ⟨v,s,rfl,hv,rfl⟩:=vT;exact ⟨_,Jl [d] [v] h1,nX h (v:=v) hv hf,hbt⟩
 ·rename_i d e l hr;obtain ⟨vs,vT,h1⟩:=kX h hr;have hl:=vT.length;have bq:¬ vs.toArray.size=1:=by simp at hl ⊢;omega
  have h2:=Jl [] vs h1;rw [dif_neg bq] at h2;exact ⟨_,h2,nX h (v:=.tuple vs.toArray) (by unfold Rv;exact ⟨vs,rfl,vT⟩) hf,hbt⟩
 ·exact hf.elim
theorem tq:∀ (k:List It) (a:Act) (w:World),kq X [] .ret a w->kq X k .ret a w
 | [],_,_,h=>h
 | .code _ :: k,a,w,h=>tq k a w h
 | .ops _ _ :: k,a,w,h=>tq k a w h
 | .Ao _ :: k,a,w,h=>tq k a w h
 | .CT _ :: k,a,w,h=>tq k a w h
theorem oR {id:Nat}:∀ (k k':List It) (a:Act) (w:World),dropBlk id k=some k' -> kq X k' .normal a w->kq X k (.exit id) a w
 | [],k',a,w,hd,_=>by simp [dropBlk] at hd
 | .code _ :: k,k',a,w,hd,h=>by simp only [dropBlk] at hd;exact oR k k' a w hd h
 | .ops _ _ :: k,k',a,w,hd,h=>by simp only [dropBlk] at hd;exact oR k k' a w hd h
 | .CT _ :: k,k',a,w,hd,h=>by simp only [dropBlk] at hd;exact oR k k' a w hd h
 | .Ao i :: k,k',a,w,hd,h=>by
  simp only [dropBlk] at hd;split at hd
  ·simp_all [kq]
  ·rename_i hi
   have hi:id≠i:=by
    rintro rfl;rw [Nat.beq_refl] at hi;cases hi
   simp only [kq];rw [ai hi];exact oR k k' a w hd h
theorem GS {P:Program} {o:Oper} {a:Act} {K K':Act->World->Prop} {Q Q':Exit->Act->World->Prop} (hK:∀ a w,K a w->K' a w) (hQ:∀ e a w,Q e a w->Q' e a w)
  {r:Result Next} (h:o.upon P a K Q r):o.upon P a K' Q' r:=by
 unfold Oper.upon at *;split<;>simp_all
 ·refine h.mono ?_;intro e w' hq
  cases e with
  | returned v=>exact hK _ _ hq
  | panicked c=>exact hQ _ _ _ hq
  | outgrown=>obtain ⟨a,w,hq⟩:=hq;exact ⟨a,w,hQ _ _ _ hq⟩
 ·exact h.mono fun v w' hq=>hK _ _ hq
theorem AE {P:Program} {o:Oper} {a:Act} {K K':Act->World->Prop} {Q Q':Exit->Act->World->Prop} {w:World} (hK:∀ a w,K a w->K' a w) (hQ:∀ e a w,Q e a w->Q' e a w)
  (h:o.wp P a w K Q):o.wp P a w K' Q':=GS hK hQ h
theorem oS {l:Nat}:∀ (k:List It) (a:Act) (w:World),kq X k (.goto l) a w->False
 | [],a,w,h=>by simp [kq] at h
 | .code _ :: k,a,w,h=>oS k a w (by simpa only [kq] using h)
 | .ops _ _ :: k,a,w,h=>oS k a w (by simpa only [kq] using h)
 | .Ao _ :: k,a,w,h=>oS k a w (by simpa only [kq] using h)
 | .CT _ :: k,a,w,h=>oS k a w (by simpa only [kq] using h)
theorem Jm (k:List It) (e:Exit) (a:Act) (w:World) (h:kq X k e a w):Exit.noGoto (kq X k) e a w:=by
 cases e with
 | goto l=>exact (oS k a w h).elim
 | _=>exact h
theorem dC (c:Code) (k:List It) (a:Act) (w:World):kq X (.code c :: k) .normal a w=c.wp X.P (kq X k) a w:=rfl
theorem MZ (c:Code) (k:List It):kq X (.code c :: k)=Exit.then (c.wp X.P (kq X k)) (kq X k):=by
 funext e a w;cases e<;>rfl
theorem QR (id:Nat) (k:List It) (e:Exit) (a:Act) (w:World) (h:kq X (.Ao id :: k) e a w):Exit.inBlock id (kq X k) e a w:=by
 cases e<;>exact h
theorem wanted_spec (h:Rel X E st a w) {all:Array Oper} {o:Oper} {j d:Nat} {want:Bool} {kK:List (Nat × Bool)} {sd:DV} (M0:o.guard=some (j,want)) (GK:gslot all.toList j=some d) (Pd:get st.sl d=some ⟨kK,sd⟩) :
  Region.wanted o (yielded all a.tmps)=true↔Holds a.tmps ((d,want) :: kK):=by
 have QS:yielded all a.tmps j=match a.tmps[d]? with | some (.bool b)=>some b | _=>none:=by
  unfold gslot at GK;split at GK
  ·rename_i oj hoj;have Zf:all[j]? = some oj:=sU hoj;simp only [yielded,Zf,GK,Option.bind_some]
   grind
  ·cases GK
 have htd:=h.tm d _ Pd;simp only [Region.wanted,M0,QS];constructor
 ·intro hw;have hb:a.tmps[d]? = some (.bool want):=by grind
  refine jj hb ?_;by_cases hh:Holds a.tmps kK
  ·exact hh
  ·have:=htd.2 hh;rw [hb] at this;simp [undef] at this
 ·intro hh;have:=hh (d,want) (by simp);simp only at this;rw [this];simp
theorem AF (h:Rel X E st a w) {t:Nat} {b:Bool} (hg:get st.sl t=some ⟨[],.v (.bool b)⟩):a.tmps[t]? = some (.bool b):=by
 obtain ⟨v,h1,h2⟩:=(h.tm t _ hg).1 (bf _);rw [h1,jk h2]
theorem Jn (h:Rel X E st a w) {t:Nat} (hg:get st.sl t=some ⟨[],.ud⟩):a.tmps[t]? = some undef:=by
 obtain ⟨v,h1,h2⟩:=(h.tm t _ hg).1 (bf _);unfold Rv at h2;rw [h1,h2]
theorem tu {G:List (Nat × Bool)} {dst:Option Nat} (bL:YZ G dst=true):∀ e,dst=some e->∀ p∈G,p.1≠e:=by
 intro e he p hp de;rw [he] at bL;have:=(List.all_eq_true.1 bL) p hp;rw [de] at this;simp at this
theorem go_sound:∀ n,Snd X (go X n)
 | 0=>fun k st hg=>hg.elim
 | n + 1=>by
  have ih:=go_sound n;intro k st hg E a w h
  match k with
  | []=>exact wR h (by simpa [go] using hg)
  | .Ao id :: k=>exact ih k st (by simpa [go] using hg) E a w h
  | .CT J :: k=>exact ⟨st,E,h,by simpa [go] using hg⟩
  | .ops all [] :: k=>exact ih k st (by simpa [go] using hg) E a w h
  | .ops all (o :: r) :: k=>
   simp only [go,mP,Fh] at hg;split at hg
   ·exact hg.elim
   ·rename_i hd;split at hg
    ·rename_i M0;simp only [kq,wpList,Region.wanted,M0,if_true];split at hg
     ·rename_i s hs;obtain ⟨v,hv,bU⟩:=gI X.hT h.rl (bf _) hs;exact .inl (kh (bU w fun _=>rfl) (ih _ _ hg E _ w (bu h hd s v hv)))
     ·exact .inl (AE (fun a w hk=>hk) (fun e a w hq=>hq.elim) (wQ ih hd h hg))
    ·rename_i j want M0;split at hg
     ·exact hg.elim
     ·rename_i d GK;split at hg
      ·exact hg.elim
      ·rename_i kK sd Pd;have tv:=wanted_spec h M0 GK Pd;simp only [kq,wpList];split at hg
       ·rename_i s hs;split at hg
        case h_2=>exact hg.elim
        rename_i bL;split
        ·rename_i hw;have hh:=tv.1 hw;obtain ⟨v,hv,bU⟩:=gI X.hT h.rl hh hs;exact .inl (kh (bU w fun _=>rfl) (ih _ _ hg E _ w (oN h hd _ s v (tu bL) (fun _=>hv) (fun hn=>(hn hh).elim))))
        ·rename_i hw;have hh:¬ Holds a.tmps ((d,want) :: kK):=fun hh=>hw (tv.2 hh);exact ih _ _ hg E _ w (oN h hd _ s undef (tu bL) (fun hn=>(hh hn).elim) (fun _=>rfl))
       ·split at hg
        ·rename_i b iy;have ht0:=AF h iy
         cases kK with
         | nil=>
          simp only [lastG] at iy ht0;cases GU:(b == want)
          ·have C7:b = !want:=by cases b<;>cases want<;>simp_all
           have hg:=hg.f GU
           have hn:¬ Region.wanted o (yielded all a.tmps)=true:=by
            intro hw;have:=(tv.1 hw) (d,want) (by simp)
            grind
           rw [ai hn];have hr:=jJ (d:=d) (b:=!want) h (by rw [ht0,C7]);exact ih _ _ hg E _ w (bu hr (jK hd) .ud undef (rm E))
          ·have Jo:b=want:=sU GU;have hg:=hg.t GU;subst Jo;have hw:Region.wanted o (yielded all a.tmps)=true:=tv.2 (jj ht0 (bf _));rw [ap hw];have hr:=jJ (d:=d) (b:=b) h ht0;exact .inl (AE (fun a w hk=>hk) (fun e a w hq=>hq.elim) (wQ ih (jK hd) hr hg))
         | cons g1 gr=>
          have key:∀ c,a.tmps[(lastG (d,want) (g1 :: gr)).1]? = some (.bool c)->go X n (.ops all (o :: r) :: k) (st.resolve (lastG (d,want) (g1 :: gr)).1 c)->wpList X.P all (kq X k) (o :: r) a w:=
           fun c hc l7=>ih _ _ l7 E a w (jJ h hc)
          cases GU:(b == (lastG (d,want) (g1 :: gr)).2)
          ·have hg:=hg.f GU;have C7:b = !(lastG (d,want) (g1 :: gr)).2:=by cases b<;>cases h0:(lastG (d,want) (g1 :: gr)).2<;>simp_all
           have:=key _ (by rw [ht0,C7]) hg;simpa [wpList] using this
          ·have hg:=hg.t GU;have Jo:b=(lastG (d,want) (g1 :: gr)).2:=sU GU;have:=key _ (by rw [ht0,Jo]) hg;simpa [wpList] using this
        ·rename_i iy
         cases kK with
         | nil=>
          have ht0:=Jn h iy;simp only [lastG] at ht0
          have hn:¬ Region.wanted o (yielded all a.tmps)=true:=by
           intro hw;have:=(tv.1 hw) (d,want) (by simp);simp only at this;rw [ht0] at this;simp [undef] at this
          rw [ai hn];exact ih _ _ hg E _ w (bu h hd .ud undef (rm E))
         | cons g1 gr=>exact hg.elim
        ·exact hg.elim
  | .code c :: k=>
   rw [dC]
   cases c with
   | skip=>exact wp_skip (ih k st (by simpa [go] using hg) E a w h)
   | seq x y=>
    have:=ih (.code x :: .code y :: k) st (by simpa [go] using hg) E a w h;rw [dC,MZ] at this;exact wp_seq this
   | block id b=>
    have:=ih (.code b :: .Ao id :: k) st (by simpa [go] using hg) E a w h;rw [dC] at this;exact wp_block (wp_mono this (QR id k))
   | exit id=>
    simp only [go] at hg;split at hg
    ·rename_i k' hk;exact wp_exit (oR k k' a w hk (ih k' st hg E a w h))
    ·exact hg.elim
   | cond x p q=>
    simp only [go] at hg;split at hg
    ·rename_i b hb;refine wp_cond (t:=b) (by rw [jk (aW h.rl hb)]) ?_;cases iy:b
     ·exact ih (.code q :: k) st (hg.f iy) E a w h
     ·exact ih (.code p :: k) st (hg.t iy) E a w h
    ·exact hg.elim
   | region id ops d=>
    simp only [go] at hg;cases d
    ·exact wp_region_list (ih (.ops ops ops.toList :: k) st hg E a w h)
    ·exact hg E a w h
   | loop b=>exact (by simpa [go] using hg:rj X b k st) E a w h
   | ret=>exact wp_ret (tq k a w (wR h (by simpa [go] using hg)))
   | scope c=>
    have:=ih (.code c :: k) st (by simpa [go] using hg) E a w h;rw [dC] at this;exact wp_scope_straight (wp_mono this (Jm k))
   | label l=>exact wp_label (ih k st (by simpa [go] using hg) E a w h)
   | _=>simp [go] at hg
theorem AG {fn:Func} (Ae:X.fn=fn) (e:Exit) (a:Act) (w:World) (h:kq X [] e a w):bodyPost X.P fn (fun e w'=>∃ v,e = .returned v/\Ap X.still X.E0 X.w0 X.Φ v w' X.fr/\nr X.bt X.E0.β w') e a w:=by
 subst Ae
 cases e with
 | normal=>obtain ⟨h1,v,h2,h3⟩:=h;exact ⟨h1,v,h2,v,rfl,h3⟩
 | ret=>obtain ⟨h1,v,h2,h3⟩:=h;exact ⟨h1,v,h2,v,rfl,h3⟩
 | exit _=>exact h.elim
 | goto _=>exact h.elim
 | panic _=>exact h.elim
 | outgrown=>exact h.elim
end
def S9 (s:Bool) (P:Program) (f:FuncId) (args:List DV) (os:List (List DV)) (cC:List TkE) (Φ:DV->List (List DV)->List TkE->Prop) (fr:Bool:=false):Prop:=
 ∀ (E:En) (w:World) (vs:List Value),Env E os w->E.tk=cC->RvL E args vs->Calls P f vs.toArray w fun e w'=>∃ v,e = .returned v/\Ap s E w Φ v w' fr
def Ev (P:Program) (f:FuncId) (args:List DV) (os:List (List DV)) (cC:List TkE) (Φ:DV->List (List DV)->List TkE->Prop):Prop:=S9 false P f args os cC Φ
def EvS (P:Program) (f:FuncId) (args:List DV) (os:List (List DV)) (cC:List TkE) (Φ:DV->List (List DV)->List TkE->Prop):Prop:=S9 true P f args os cC Φ
def EvP (P:Program) (f:FuncId) (args:List DV) (d:DV):Prop:=Ev P f args [] [] fun d' _ _=>d'=d
def argSl:Nat->List DV->List (Nat × Sl)
 | _,[]=>[]
 | i,v :: r=>(i,⟨[],v⟩) :: argSl (i + 1) r
theorem wS:∀ (l:List DV) (i j:Nat) (x:Sl),get (argSl i l) j=some x->∃ v,x=⟨[],v⟩/\i<=j/\l[j - i]? = some v
 | [],_,_,_,h=>by simp [argSl,get] at h
 | v :: r,i,j,x,h=>by
  simp only [argSl,cR] at h;split at h
  ·grind
  ·rename_i Ad;obtain ⟨u,hu,eM,hg⟩:=wS r (i + 1) j x h
   grind
theorem Nw.refl {E:En} {bx:List (List DV)} {w:World} (h:Env E bx w):Nw E E w where
 c:=fun _ _ h=>h
 cn:=fun _ _ h=>.inl h
 β:=⟨[],by simp,by simp⟩
 tk:=fun k q y hq hy=>⟨q,y,hq,hy,rfl,rfl,.inl ⟨rfl,rfl⟩,.inl rfl⟩
 tn:=fun k y g hk hy=>by
  have:=(gS hy).1;rw [h.tl] at this;omega
 l0:=h.tl
def Zg (s:Bool) (P:Program) (f:FuncId) (args:List DV) (os:List (List DV)) (cC:List TkE) (bt:List (Nat × TypeId)) (Φ:DV->List (List DV)->List TkE->Prop) (fr:Bool:=false):Prop:=
 ∀ (E:En) (w:World) (vs:List Value),Env E os w->E.tk=cC->nr bt E.β w->RvL E args vs->Calls P f vs.toArray w fun e w'=>∃ v,e = .returned v/\Ap s E w Φ v w' fr/\nr bt E.β w'
theorem M3 {s:Bool} {P:Program} {f:FuncId} {fn:Func} {c:Code} {args:List DV} {os:List (List DV)} {cC:List TkE} {Φ:DV->List (List DV)->List TkE->Prop} (bt:List (Nat × TypeId)) (mu:List Nat) (fr:Bool) (T:TT) (hT:T.ok P=true) (n nt:Nat) (rs:List ResultVar)
  (hf:P.funcs[f]? = some fn) (hb:fn.body=some c) (C8:fn.ntmps=nt) (vR:fn.results.toList=rs) (hlen:args.length<=nt)
  (h:∀ (E:En) (w:World) (hn:E.β.length=os.length) (hm:E.tk.length=cC.length),go ⟨P,T,hT,fn,nt,rs,vR,w,E,os.length,cC.length,hn,hm,s,Φ,bt,mu,fr⟩ n [.code c] ⟨argSl 0 args,os,cC⟩):Zg s P f args os cC bt Φ fr:=by
 intro E w vs hE l8 iy hv;have hl:=hv.length;have hg:=h E w hE.len (by rw [l8]);refine calls_of_wp hf hb ?_
 have hs:=go_sound (X:=⟨P,T,hT,fn,nt,rs,vR,w,E,os.length,cC.length,hE.len,by rw [l8],s,Φ,bt,mu,fr⟩) n _ _ hg E
  {tmps:=vs.toArray ++ Array.replicate (fn.ntmps - vs.toArray.size) undef,defers:=[] } w
  {env:=hE
   tk:=l8
   sz:=by simp [C8];omega
   tm:=by
    intro i x hx;obtain ⟨d,rfl,_,hd⟩:=wS args 0 i x hx;simp only [Nat.sub_zero] at hd;obtain ⟨v,sA,Mv⟩:=hv.get hd
    grind [bf]
   df:=rfl
   nw:=Nw.refl hE
   fr:=⟨rfl,rfl,rfl,aU _,fun _ _ _=>rfl⟩
   sh:=fun _=>⟨0,rfl⟩
   bt:=iy }
 exact wp_mono hs (AG rfl)
theorem yL {s:Bool} {P:Program} {f:FuncId} {fn:Func} {c:Code} {args:List DV} {os:List (List DV)} {cC:List TkE} {Φ:DV->List (List DV)->List TkE->Prop} (bt:List (Nat × TypeId)) (mu:List Nat) (hbt:∀ p∈bt,os.length<=p.1) (fr:Bool) (T:TT) (hT:T.ok P=true) (n nt:Nat) (rs:List ResultVar)
  (hf:P.funcs[f]? = some fn) (hb:fn.body=some c) (C8:fn.ntmps=nt) (vR:fn.results.toList=rs) (hlen:args.length<=nt)
  (h:∀ (E:En) (w:World) (hn:E.β.length=os.length) (hm:E.tk.length=cC.length),go ⟨P,T,hT,fn,nt,rs,vR,w,E,os.length,cC.length,hn,hm,s,Φ,bt,mu,fr⟩ n [.code c] ⟨argSl 0 args,os,cC⟩):S9 s P f args os cC Φ fr:=fun E w vs hE l8 hv=>(M3 bt mu fr T hT n nt rs hf hb C8 vR hlen h E w vs hE l8 (fun p hp b hb=>by
  have h1:=hbt p hp;have h2:=(gS hb).1;have h3:=hE.len
  omega) hv).mono fun _ _ ⟨v,h1,h2,_⟩=>⟨v,h1,h2⟩
theorem M4 {s:Bool} {P:Program} {f:FuncId} {fn:Func} {c:Code} {args:List DV} {os:List (List DV)} {cC:List TkE} {Φ:DV->List (List DV)->List TkE->Prop} (bt:List (Nat × TypeId)) (hbt:∀ p∈bt,os.length<=p.1) (T:TT) (hT:T.ok P=true) (n nt:Nat) (rs:List ResultVar)
  (hf:P.funcs[f]? = some fn) (hb:fn.body=some c) (C8:fn.ntmps=nt) (vR:fn.results.toList=rs) (hlen:args.length<=nt)
  (h:∀ (E:En) (w:World) (hn:E.β.length=os.length) (hm:E.tk.length=cC.length),go ⟨P,T,hT,fn,nt,rs,vR,w,E,os.length,cC.length,hn,hm,s,Φ,bt,[],false⟩ n [.code c] ⟨argSl 0 args,os,cC⟩):S9 s P f args os cC Φ:=
 yL bt [] hbt false T hT n nt rs hf hb C8 vR hlen h
theorem Jp {s:Bool} {P:Program} {f:FuncId} {fn:Func} {c:Code} {args:List DV} {os:List (List DV)} {cC:List TkE} {Φ:DV->List (List DV)->List TkE->Prop} (T:TT) (hT:T.ok P=true) (n nt:Nat) (rs:List ResultVar)
  (hf:P.funcs[f]? = some fn) (hb:fn.body=some c) (C8:fn.ntmps=nt) (vR:fn.results.toList=rs) (hlen:args.length<=nt)
  (h:∀ (E:En) (w:World) (hn:E.β.length=os.length) (hm:E.tk.length=cC.length),go ⟨P,T,hT,fn,nt,rs,vR,w,E,os.length,cC.length,hn,hm,s,Φ,[],[],false⟩ n [.code c] ⟨argSl 0 args,os,cC⟩):S9 s P f args os cC Φ:=
 M4 [] (fun p hp=>by cases hp) T hT n nt rs hf hb C8 vR hlen h
theorem T4 {P:Program} {f:FuncId} {fn:Func} {c:Code} {args:List DV} {os:List (List DV)} {cC:List TkE} {Φ:DV->List (List DV)->List TkE->Prop} (T:TT) (hT:T.ok P=true) (n nt:Nat) (rs:List ResultVar)
  (hf:P.funcs[f]? = some fn) (hb:fn.body=some c) (C8:fn.ntmps=nt) (vR:fn.results.toList=rs) (hlen:args.length<=nt)
  (h:∀ (E:En) (w:World) (hn:E.β.length=os.length) (hm:E.tk.length=cC.length),go ⟨P,T,hT,fn,nt,rs,vR,w,E,os.length,cC.length,hn,hm,false,Φ,[],[],false⟩ n [.code c] ⟨argSl 0 args,os,cC⟩):Ev P f args os cC Φ:=
 Jp T hT n nt rs hf hb C8 vR hlen h
theorem Ev.mono {P:Program} {f:FuncId} {args:List DV} {os:List (List DV)} {cC:List TkE} {Φ Ψ:DV->List (List DV)->List TkE->Prop} (h:Ev P f args os cC Φ) (hΦ:∀ d o t,Φ d o t->Ψ d o t):Ev P f args os cC Ψ:=by
 intro E w vs h1 h2 h3;refine (h E w vs h1 h2 h3).mono ?_;rintro e w' ⟨v,rfl,h4,hs,d,o,E',h5,h6,h7,h8,h9,vX⟩;exact ⟨v,rfl,h4,hs,d,o,E',h5,h6,h7,h8,h9,hΦ _ _ _ vX⟩
theorem Ev.T5 {P:Program} {f:FuncId} {args:List DV} {os:List (List DV)} {cC:List TkE} {Φ:DV->List (List DV)->List TkE->Prop} {bt:List (Nat × TypeId)} (h:Ev P f args os cC Φ) (hb:bt=[]):Zg false P f args os cC bt Φ:=fun E w vs h1 h2 _ h4=>
 (h E w vs h1 h2 h4).mono fun _ _ ⟨v,h5,h6⟩=>⟨v,h5,h6,.nil hb⟩
theorem br {b:Bool} {A B:Prop} (h1:b=true->A) (h2:b=false->B):@Bool.rec (fun _=>Prop) B A b:=by
 cases b
 ·exact h2 rfl
 ·exact h1 rfl
section
variable {X:Ctx} {st:St} {k:List It} {E:En} {a:Act} {w:World}
theorem GV (h:Rel X E st a w) (bh:X.still=false) {E2:En} {w':World} (hm:r7 (E.cl).S w w') (he:Env E2 [] w') (hn:Nw E.cl E2 w):Rel X ⟨E2.c,E.β,E.tk,E.τ⟩ st a w':=by
 have hh:∀ i,i < w.heap.size->w'.heap[i]? = w.heap[i]?:=fun i hi=>hm.block i hi (by
  rintro (h1 | ⟨y,h1,_⟩)
  ·simp [En.cl] at h1
  ·simp [En.cl] at h1)
 have dM:∀ x v,E2.c x=some v->E.c x=some v∨w.heap.size<=x.block:=fun x v hx=>by
  rcases hn.cn x v hx with h1 | h1 | ⟨y,h1,_⟩
  ·exact .inl h1
  ·exact .inr h1
  ·simp [En.cl] at h1
 have hx:Ext E ⟨E2.c,E.β,E.tk,E.τ⟩:=⟨hn.c,fun _ _ h=>h,fun _ q h=>⟨q,h,.inl ⟨rfl,rfl⟩⟩⟩;have hk:=h.env.jW hh;refine cV h hx ?_ h.tk ?_ (h.fr.cm hm.os hm.tape hm.output hm.size fun i hi=>.inr (hh i hi)) (nQ bh) (h.bt.jW fun b hb=>hh b (h.env.bd hb))
 ·exact {
   len:=h.env.len
   tl:=h.env.tl
   ey:=fun i cs hi=>by
    obtain ⟨b,ty,arr,hb,hw,hc⟩:=hk.ey i cs hi;exact ⟨b,ty,arr,hb,hw,hc.mono hx⟩
   inj:=h.env.inj
   sub:=he.sub
   pc:=fun x v hc r8=>by
    rcases dM x v hc with h1 | h1
    ·exact h.env.pc x v h1 r8
    ·have:=h.env.bd r8;omega
   cC:=fun k q y hq hy=>by
    rcases hk.cC k q y hq hy with h1 | ⟨g',cap,cur,rfl,h1,h2,h3,h4,h5,h6⟩
    ·exact .inl h1
    ·refine .inr ⟨g',cap,cur,rfl,h1,⟨h2.1,h2.2.mono hn.c⟩,h3,h4,h5,fun x v hc hg=>?_⟩;rcases dM x v hc with h7 | h7
     ·exact h6 x v h7 hg
     ·have:=(iC (h.env.cC k q _ hq hy) (g:=g') rfl).1;omega
   ji:=h.env.ji }
 ·exact {
   c:=fun x v hc=>hn.c x v (h.nw.c x v hc)
   cn:=fun x v hc=>by
    rcases dM x v hc with h1 | h1
    ·exact h.nw.cn x v h1
    ·have:=h.fr.size;exact .inr (.inl (by omega))
   β:=h.nw.β
   tk:=h.nw.tk
   tn:=h.nw.tn
   l0:=h.nw.l0 }
theorem QT {bx:List (List DV)} (h:Env E bx w):Env E.cl [] w where
 len:=rfl
 tl:=rfl
 ey:=by simp
 inj:=List.nodup_nil
 sub:=h.sub
 pc:=by simp [En.cl]
 cC:=by simp [En.cl]
 ji:=by simp [En.cl]
theorem rr {P:Program} (h:Rel X E st a w) (bh:X.still=false) {f:FuncId} {args bD:List DV} {vs:List Value} {Φ:DV->List (List DV)->List TkE->Prop} (hc:Ev P f bD [] [] Φ) (ha:CcL [] 0 0 0 bD args) (hv:RvL E args vs) :
  Calls P f vs.toArray w fun e w'=>∃ v E' d,e = .returned v/\Rel X E' st a w' /\ Rv E' d v/\Φ d [] []/\r7 E.cl.S w w' /\ Ext E E' /\ E'.β=E.β:=by
 have TF:RvL E.cl bD vs:=CcL.sound (E:=E) (E':=E.cl) ⟨fun _ _ h=>h,fun i cs _ hi=>by simp at hi⟩ (GR.zero _ _) ha hv;refine (hc E.cl w vs (QT h.env) rfl TF).mono ?_;rintro e w' ⟨v,rfl,hm,_,d,os,E2,he,hβ,l8,hn,QU,hΦ⟩
 have C3:os=[]:=by
  have:=he.len;rw [hβ] at this;exact List.eq_nil_of_length_eq_zero this.symm
 subst C3;have ht0:E2.tk=[]:=List.eq_nil_of_length_eq_zero l8;refine ⟨v,⟨E2.c,E.β,E.tk,E.τ⟩,d,rfl,GV h bh hm he hn,?_,by rw [ht0] at hΦ;exact hΦ,hm,⟨hn.c,fun _ _ h=>h,fun _ q h=>⟨q,h,.inl ⟨rfl,rfl⟩⟩⟩,rfl⟩;refine Rv.mono (E:=E2) (E':=⟨E2.c,E.β,E.tk,E.τ⟩) ⟨fun _ _ h=>h,fun i b hb=>?_,fun k q hq=>?_⟩ QU
 ·rw [hβ] at hb;simp [En.cl] at hb
 ·rw [ht0] at hq;simp at hq
theorem cp {f:FuncId} {args bD:List DV} {d:Nat} (kV:Enters X.P f) (hd:fY X.nt st.sl (some d)=true) {Φ:DV->List (List DV)->List TkE->Prop} (hc:Ev X.P f bD [] [] Φ) (ha:CcL [] 0 0 0 bD args)
  (hk:∀ r,Φ r [] []->go X 4000 k ⟨(d,⟨[],r⟩) :: st.sl,st.bx,st.tk⟩) (bh:X.still=false:=by exact rfl):CallG X f args (some d) k st:=by
 refine ⟨kV,bh,fun E a w vs h hv=>(rr h bh hc ha hv).mono ?_⟩;rintro e w' ⟨v,E',r,rfl,cu,hr,hΦ,_⟩;exact go_sound 4000 _ _ (hk r hΦ) E' _ w' (bu cu hd r v hr)
theorem Jq {f:FuncId} {args bD:List DV} {d:Nat} {r:DV} (kV:Enters X.P f) (hc:EvP X.P f bD r) (ha:CcL [] 0 0 0 bD args) (hd:fY X.nt st.sl (some d)=true)
  (hk:go X 4000 k ⟨(d,⟨[],r⟩) :: st.sl,st.bx,st.tk⟩) (bh:X.still=false:=by exact rfl):CallG X f args (some d) k st:=
 cp kV hd hc ha (fun _ hr=>hr ▸ hk) bh
def clB (n m:Nat):DV->Bool
 | .v _=>true
 | .ud=>true
 | .sl _ _ none=>true
 | .sl _ _ (some k)=>Nat.blt k m
 | .pt _ _=>true
 | .loc i _=>Nat.blt i n
 | .el i _=>Nat.blt i n
 | .ms i _ _ _ _=>Nat.blt i n
 | .agg l=>clL l
 | .tup l=>clL l
 | .fn _ l r=>clL l && clL r
 | .ri _ x=>clB n m x
where clL:List DV->Bool
 | []=>true
 | d :: r=>clB n m d && clL r
def En.cut (E:En) (n m:Nat):En:=⟨E.c,E.β.take n,E.tk.take m,E.τ.take m⟩
mutual
theorem Rv.cut {n m:Nat} {E:En}:∀ {d:DV} {v:Value},Rv E d v->clB n m d=true->Rv (E.cut n m) d v
 | .v x,v,h,_=>by unfold Rv at h ⊢;exact h
 | .ud,v,h,_=>by unfold Rv at h ⊢;exact h
 | .sl e es none,v,h,_=>by
  unfold Rv at h ⊢;obtain ⟨b,n,cap,h1,h2,h3,_⟩:=h;exact ⟨b,n,cap,h1,h2,h3,fun k hk=>by cases hk⟩
 | .sl e es (some k),v,h,hc=>by
  unfold Rv at h ⊢;obtain ⟨b,n',cap,h1,h2,h3,h4⟩:=h;refine ⟨b,n',cap,h1,h2,h3,fun k' gq=>?_⟩;cases gq;have hk:k < m:=by simpa [clB] using hc
  obtain ⟨q,h5,h6,h7⟩:=h4 k rfl;exact ⟨q,by show (E.tk.take m)[k]? = _;rw [bT,ap hk];exact h5,h6,fun hh=>by show (E.τ.take m)[k]? = _;rw [bT,ap hk];exact h7 hh⟩
 | .pt cs o,v,h,_=>by unfold Rv at h ⊢;exact h
 | .loc i o,v,h,hc=>by
  unfold Rv at h ⊢;obtain ⟨b,hb,h1⟩:=h;have hi:i < n:=by simpa [clB] using hc
  exact ⟨b,by show (E.β.take n)[i]? = _;rw [bT,ap hi];exact hb,h1⟩
 | .el i o,v,h,hc=>by
  unfold Rv at h ⊢;obtain ⟨b,hb,h1⟩:=h;have hi:i < n:=by simpa [clB] using hc
  exact ⟨b,by show (E.β.take n)[i]? = _;rw [bT,ap hi];exact hb,h1⟩
 | .ms i e o l c,v,h,hc=>by
  unfold Rv at h ⊢;obtain ⟨b,ad,hb,h1⟩:=h;have hi:i < n:=by simpa [clB] using hc
  exact ⟨b,ad,by show (E.β.take n)[i]? = _;rw [bT,ap hi];exact hb,h1⟩
 | .agg l,v,h,hc=>by
  unfold Rv at h ⊢;obtain ⟨vs,h1,h2,h3⟩:=h;simp only [clB] at hc;exact ⟨vs,h1,RvL.cut h2 hc,h3⟩
 | .tup l,v,h,hc=>by
  unfold Rv at h ⊢;obtain ⟨vs,h1,h2⟩:=h;simp only [clB] at hc;exact ⟨vs,h1,RvL.cut h2 hc⟩
 | .fn f l r,v,h,hc=>by
  unfold Rv at h ⊢;obtain ⟨l',r',h1,h2,h3⟩:=h;simp only [clB,aS] at hc;exact ⟨l',r',h1,RvL.cut h2 hc.1,RvL.cut h3 hc.2⟩
 | .ri t x,v,h,hc=>by
  unfold Rv at h ⊢;obtain ⟨z,h1,h2⟩:=h;simp only [clB] at hc;exact ⟨z,h1,Rv.cut h2 hc⟩
theorem RvL.cut {n m:Nat} {E:En}:∀ {l:List DV} {vs:List Value},RvL E l vs->clB.clL n m l=true->RvL (E.cut n m) l vs
 | [],vs,h,_=>by simp only [RvL] at h ⊢;exact h
 | d :: r,vs,h,hc=>by
  simp only [RvL] at h ⊢;obtain ⟨v,s,h1,h2,h3⟩:=h;simp only [clB.clL,aS] at hc;exact ⟨v,s,h1,Rv.cut h2 hc.1,RvL.cut h3 hc.2⟩
end
end
end Dv
end Go.Proofs.YtphonmiflfhdbaaGreat
namespace Go.Proofs.YtphonmiflfhdbaaGreat
namespace Dv
open Go Go.RowKit
def We (n m:Nat) (cr:List TkE) (x x':DV):Prop:=
 (x=x' /\ clB n m x=true)∨(x = .v (.slice none 0 0)/\∃ e k q,x' = .sl e [] (some k)/\m<=k/\cr[k]? = some q)∨(x = .v (.slice none 0 0)/\∃ e,x' = .sl e [] none)∨(∃ e es tk,x = .sl e es tk/\x' = .sl e es none)∨(∃ e es Ab tk,x = .sl e es tk/\x' = .sl e Ab none/\CcE [] 0 Ab es)∨(∃ e es Ab k,x = .sl e es (some k)/\x' = .sl e Ab (some k)/\k < m/\CcE [] 0 Ab es)
def WeL (n m:Nat) (cr:List TkE):List DV->List DV->Prop
 | [],l=>l=[]
 | x :: r,l=>∃ x' r',l=x' :: r' /\ We n m cr x x' /\ WeL n m cr r r'
def WeLL (n m:Nat) (cr:List TkE):List (List DV)->List (List DV)->Prop
 | [],l=>l=[]
 | x :: r,l=>∃ x' r',l=x' :: r' /\ WeL n m cr x x' /\ WeLL n m cr r r'
def nF (n m:Nat) (cr:List TkE) (sl:List (Nat × Sl)):List (Nat × Sl)->Prop
 | []=>True
 | p :: r=>(∃ x,get sl p.1=some ⟨p.2.gs,x⟩/\We n m cr x p.2.s)/\nF n m cr sl r
structure oT (n0 m0:Nat) (st st':St):Prop where
 all:∃ kept dropped new b0 r,m0<=kept.length/\n0<=b0.length/\st.tk=kept ++ dropped/\st'.tk=kept ++ new/\(∀ q∈new,TkE.new q=true)/\st.bx=b0 ++ r/\WeLL b0.length kept.length st'.tk b0 st'.bx/\nF b0.length kept.length st'.tk st.sl st'.sl
theorem WeLL.length {n m:Nat} {cr:List TkE}:∀ {l l':List (List DV)},WeLL n m cr l l' -> l'.length=l.length
 | [],l',h=>by simp only [WeLL] at h;subst h;rfl
 | x :: r,l',h=>by
  simp only [WeLL] at h;obtain ⟨x',r',rfl,_,h2⟩:=h;simp [WeLL.length h2]
theorem WeLL.get {n m:Nat} {cr:List TkE}:∀ {l l':List (List DV)},WeLL n m cr l l' -> ∀ (i:Nat) cs',l'[i]? = some cs' -> ∃ cs,l[i]? = some cs/\WeL n m cr cs cs'
 | [],l',h,i,cs',hi=>by simp only [WeLL] at h;subst h;simp at hi
 | x :: r,l',h,i,cs',hi=>by
  simp only [WeLL] at h;obtain ⟨x',r',rfl,h1,h2⟩:=h
  cases i with
  | zero=>simp only [List.getElem?_cons_zero,oI] at hi;subst hi;exact ⟨x,rfl,h1⟩
  | succ i=>simp only [List.getElem?_cons_succ] at hi ⊢;exact WeLL.get h2 i cs' hi
theorem tw {n m:Nat} {cr:List TkE} {sl:List (Nat × Sl)}:∀ {l:List (Nat × Sl)},nF n m cr sl l->∀ i x',get l i=some x' -> ∃ x,get sl i=some ⟨x'.gs,x⟩/\We n m cr x x'.s
 | [],_,i,x',hx=>by cases hx
 | (k,y) :: r,h,i,x',hx=>by
  simp only [cR] at hx;split at hx
  ·rename_i vW;subst vW;simp only [oI] at hx;subst hx;exact h.1
  ·exact tw h.2 i x' hx
section
variable {X:Ctx} {E:En} {st st':St} {a:Act} {w:World} {k:List It}
def En.wk (E:En) (n:Nat) (kept new:List TkE):En:=⟨E.c,E.β.take n,kept ++ new,E.τ.take kept.length ++ List.replicate new.length (.slice none 0 0)⟩
theorem AH {n:Nat} {kept dropped new:List TkE} (ht:E.tk=kept ++ dropped) (hl:E.τ.length=E.tk.length) (dM:∀ q∈new,TkE.new q=true) {x x':DV} {v:Value} (hx:We n kept.length (kept ++ new) x x') (hv:Rv E x v):Rv (E.wk n kept new) x' v:=by
 have oD:kept.length<=E.τ.length:=by rw [hl,ht];simp
 have first:∀ {x:DV},clB n kept.length x=true->Rv E x v->Rv (E.wk n kept new) x v:=by
  intro x hc hv;refine Rv.mono (E:=E.cut n kept.length) ⟨fun _ _ h=>h,fun _ _ h=>h,fun k q hq=>?_⟩ (Rv.cut hv hc);have lS:(E.tk.take kept.length)[k]? = some q:=hq;rw [bT] at lS;split at lS
  ·rename_i hk;refine ⟨q,?_,.inl ⟨rfl,?_⟩⟩
   ·show (kept ++ new)[k]? = _
    grind
   ·show (E.τ.take kept.length ++ _)[k]? = (E.τ.take kept.length)[k]?
    grind
  ·cases lS
 rcases hx with ⟨rfl,hc⟩ | ⟨rfl,e,k,q,rfl,hk,hq⟩ | ⟨rfl,e,rfl⟩ | ⟨e,es,tk,rfl,rfl⟩ | ⟨e,es,Ab,tk,rfl,rfl,he⟩ | ⟨e,es,Ab,k,rfl,rfl,hk,he⟩
 ·exact first hc hv
 ·have:=bK hv;subst this;unfold Rv;refine ⟨none,0,0,rfl,⟨rfl,aU _⟩,fun hn=>(hn rfl).elim,fun k' gq=>?_⟩;cases gq;have CK:(kept ++ new)[k]? = some q:=hq;rw [List.getElem?_append_right hk] at CK;have Au:=TkE.I1 (dM q (mG CK));refine ⟨q,hq,by omega,fun _=>?_⟩;have ay:=(gS CK).1;show (E.τ.take kept.length ++ List.replicate new.length _)[k]? = _
  grind
 ·have:=bK hv;subst this;unfold Rv;exact ⟨none,0,0,rfl,⟨rfl,aU _⟩,fun hn=>(hn rfl).elim,fun k hk=>by cases hk⟩
 ·unfold Rv at hv ⊢;obtain ⟨b,n,cap,h1,h2,h3,_⟩:=hv;exact ⟨b,n,cap,h1,h2,h3,fun k hk=>by cases hk⟩
 ·have hv:=Pc he hv;unfold Rv at hv ⊢;obtain ⟨b,n,cap,h1,h2,h3,_⟩:=hv;exact ⟨b,n,cap,h1,h2,h3,fun k hk=>by cases hk⟩
 ·exact first (by simp only [clB];exact Nat.ble_eq_true_of_le hk) (Pc he hv)
theorem wT {n:Nat} {kept dropped new:List TkE} (ht:E.tk=kept ++ dropped) (hl:E.τ.length=E.tk.length) (dM:∀ q∈new,TkE.new q=true):∀ {l l':List DV} {vs:List Value},WeL n kept.length (kept ++ new) l l' -> RvL E l vs->RvL (E.wk n kept new) l' vs
 | [],l',vs,h,hv=>by grind [WeL,RvL]
 | x :: r,l',vs,h,hv=>by
  simp only [WeL] at h;obtain ⟨x',r',rfl,h1,h2⟩:=h;simp only [RvL] at hv ⊢;obtain ⟨v,s,h3,h4,h5⟩:=hv;exact ⟨v,s,h3,AH ht hl dM h1 h4,wT ht hl dM h2 h5⟩
theorem GW (h:Rel X E st a w) {kept dropped new:List TkE} {b0 r:List (List DV)} (iM:X.m0<=kept.length/\X.n0<=b0.length/\st.tk=kept ++ dropped/\st'.tk=kept ++ new/\(∀ q∈new,TkE.new q=true)/\st.bx=b0 ++ r/\WeLL b0.length kept.length st'.tk b0 st'.bx/\nF b0.length kept.length st'.tk st.sl st'.sl):Rel X (E.wk b0.length kept new) st' a w:=by
 obtain ⟨nq,wJ,ht,r9,dM,hb,pY,oP⟩:=iM;rw [r9] at pY oP;have X6:E.tk=kept ++ dropped:=by rw [h.tk,ht]
 have hbl:=pY.length;have oD:kept.length<=E.τ.length:=by rw [h.env.tl,X6];simp
 have iy:b0.length<=E.β.length:=by rw [h.env.len,hb];simp
 have hτ:∀ (k:Nat) y,(E.τ.take kept.length ++ List.replicate new.length (Value.slice none 0 0))[k]? = some y->(k < kept.length/\E.τ[k]? = some y)∨(kept.length<=k/\y = .slice none 0 0):=fun k y hy=>by grind
 exact {
  env:={
   len:=by simp only [En.wk,eP];omega
   tl:=by simp only [En.wk,List.length_append,eP,List.length_replicate];omega
   ey:=fun i cs' hi=>by
    obtain ⟨cs,cT,T6⟩:=pY.get i cs' hi;have ay:=(gS cT).1;obtain ⟨b,ty,arr,Ta,hwb,hc⟩:=h.env.ey i cs (by rw [hb,eO ay];exact cT);exact ⟨b,ty,arr,by simp only [En.wk];rw [bT,ap ay];exact Ta,hwb,wT X6 h.env.tl dM T6 hc.1,hc.2⟩
   inj:=h.env.inj.sublist (List.take_sublist _ _)
   sub:=h.env.sub
   pc:=fun x v hx hm=>h.env.pc x v hx (List.mem_of_mem_take hm)
   cC:=fun k q y hq hy=>by
    rcases hτ k y hy with ⟨hk,gv⟩ | ⟨hk,rfl⟩
    ·have lS:(kept ++ new)[k]? = some q:=hq;rw [eO hk] at lS;rcases h.env.cC k q y (by rw [X6,eO hk];exact lS) gv with h1 | ⟨g,cap,cur,rfl,h1,h2,h3,h4,h5,h6⟩
     ·exact .inl h1
     ·exact .inr ⟨g,cap,cur,rfl,h1,h2,h3,h4,fun hm=>h5 (List.mem_of_mem_take hm),h6⟩
    ·have lS:(kept ++ new)[k]? = some q:=hq;rw [List.getElem?_append_right hk] at lS;exact .inl ⟨rfl,TkE.I1 (dM q (mG lS)),TkE.O6 (dM q (mG lS))⟩
   ji:=fun k k' y y' g vS hy gv hg yE=>by
    rcases hτ k y hy with ⟨_,As⟩ | ⟨_,rfl⟩
    ·rcases hτ k' y' gv with ⟨_,lR⟩ | ⟨_,rfl⟩
     ·exact h.env.ji k k' y y' g vS As lR hg yE
     ·simp [Value.ownBlock] at yE
    ·simp [Value.ownBlock] at hg }
  tk:=by simp only [En.wk];exact r9.symm
  sz:=h.sz
  tm:=fun i x' Ac=>by
   obtain ⟨x,hx,T6⟩:=tw oP i x' Ac;have:=h.tm i _ hx;refine ⟨fun hh=>?_,this.2⟩;obtain ⟨v,h1,h2⟩:=this.1 hh;exact ⟨v,h1,AH X6 h.env.tl dM T6 h2⟩
  df:=h.df
  nw:={
   c:=h.nw.c
   cn:=h.nw.cn
   β:=by
    obtain ⟨r2,hr,hl⟩:=h.nw.β;refine ⟨r2.take (b0.length - X.n0),?_,fun b hb=>hl b (List.mem_of_mem_take hb)⟩;simp only [En.wk];rw [hr,List.take_append,List.take_of_length_le (by rw [X.wJ];omega),X.wJ]
   tk:=fun j q0 y0 Au CZ=>by
    obtain ⟨q',y',h1,h2,h3⟩:=h.nw.tk j q0 y0 Au CZ;have hj:j < X.m0:=by rw [<- X.nq];exact (gS Au).1
    grind [En.wk]
   tn:=fun j y g hj hy hg=>by
    rcases hτ j y hy with ⟨_,As⟩ | ⟨_,rfl⟩
    ·exact h.nw.tn j y g hj As hg
    ·simp [Value.ownBlock] at hg
   l0:=h.nw.l0 }
  fr:=h.fr
  sh:=h.sh
  bt:=h.bt.sub _ }
theorem tz (h:Rel X E st a w) (hw:oT X.n0 X.m0 st st'):∃ E',Rel X E' st' a w:=by
 obtain ⟨_,_,_,_,_,iM⟩:=hw.all;exact ⟨_,GW h iM⟩
theorem least {p:Nat->Prop} (h:∃ n,p n):∃ n,p n/\∀ m,p m->n<=m:=by
 obtain ⟨n,hn⟩:=h
 induction n using Nat.strongRecOn with
 | _ n ih=>grind
theorem aY {c:Code} (I:Nat->St->Prop) (j0:Nat) (kM:St) (hw:oT X.n0 X.m0 st kM) (h0:I j0 kM)
  (hr:∀ j s,I j s->go X 4000 (.code c :: .CT (fun s'=>∃ AJ,oT X.n0 X.m0 s' AJ /\ ∃ j',j' < j/\I j' AJ) :: k) s):rj X c k st:=by
 intro E a w h;obtain ⟨E0,hr0⟩:=tz h hw
 classical
 let Inv:Act->World->Prop:=fun a w=>∃ j s E,Rel X E s a w/\I j s
 let μ:Act->World->Nat:=fun a w=>if hI:Inv a w then Classical.choose (least hI) else 0
 refine wp_loop Inv μ ⟨j0,kM,E0,hr0,h0⟩ ?_;intro a1 w1 hI;have wU:=(Classical.choose_spec (least hI)).1;obtain ⟨s,E1,cu,Zh⟩:=wU;have hs:=go_sound 4000 _ _ (hr _ s Zh) E1 a1 w1 cu;rw [dC] at hs;refine wp_mono hs ?_;intro e a2 w2 hq
 cases e with
 | normal=>
  obtain ⟨s',E2,AK,AJ,T7,j',iV,T8⟩:=hq;obtain ⟨E3,AL⟩:=tz AK T7;have QV:Inv a2 w2:=⟨j',AJ,E3,AL,T8⟩;refine ⟨QV,?_⟩;simp only [μ,dif_pos hI,dif_pos QV];exact Nat.lt_of_le_of_lt ((Classical.choose_spec (least QV)).2 j' ⟨AJ,E3,AL,T8⟩) iV
 | exit id=>exact hq
 | goto l=>exact hq
 | ret=>exact hq
 | panic c=>exact hq
 | outgrown=>exact hq
theorem aE {n m:Nat} {cr:List TkE} {x:DV} (h:clB n m x=true):We n m cr x x:=.inl ⟨rfl,h⟩
theorem aD {n m:Nat} {cr:List TkE} {kd:IntKind} {x y:Int} (h:x=y):We n m cr (.v (.int kd x)) (.v (.int kd y)):=.inl ⟨by rw [h],rfl⟩
theorem bV {n m:Nat} {cr:List TkE} {e k:Nat} {q:TkE} (h1:m<=k) (h2:cr[k]? = some q):We n m cr (.v (.slice none 0 0)) (.sl e [] (some k)):=.inr (.inl ⟨rfl,e,k,q,rfl,h1,h2⟩)
theorem bS {n m:Nat} {cr:List TkE} {e k:Nat} {es Ab:List (List DV)} (h:es=Ab) (hk:Nat.blt k m=true):We n m cr (.sl e es (some k)) (.sl e Ab (some k)):=.inl ⟨by rw [h],hk⟩
theorem ax {p:Prop} (h:p:=by repeat' (first | exact rfl | exact trivial | exact Or.inr (Or.inl ⟨_,rfl⟩) | exact Or.inr ⟨_,rfl⟩ | exact Or.inl ⟨rfl,rfl⟩ | exact Or.inl rfl | refine Or.inr ⟨_,_,rfl,Nat.zero_le _,rfl,?_⟩ | refine ⟨_,_,rfl,?_,?_⟩ | refine ⟨_,rfl,?_⟩ | refine Or.inr (Or.inr (Or.inr ⟨_,_,rfl,?_⟩)) | exact Or.inl rfl | refine Or.inr ?_)):p:=h
theorem wA {p:Prop} (h:p:=by repeat' (first | exact rfl | exact aE rfl | refine ⟨_,_,rfl,?_,?_⟩)):p:=h
theorem wB {p:Prop} (h:p:=by repeat' (first | exact trivial | exact aE rfl | refine ⟨⟨_,rfl,?_⟩,?_⟩)):p:=h
theorem M5 {n0 m0:Nat} {st st':St} (h1:∃ r,st.bx=st'.bx ++ r) (h2:WeLL st'.bx.length st'.tk.length st'.tk st'.bx st'.bx) (h3:st.tk=st'.tk) (h4:Nat.ble n0 st'.bx.length=true) (h5:Nat.ble m0 st'.tk.length=true)
  (h:nF st'.bx.length st'.tk.length st'.tk st.sl st'.sl):oT n0 m0 st st':=by
 obtain ⟨r,hr⟩:=h1;exact ⟨st'.tk,[],[],st'.bx,r,by simpa using h5,by simpa using h4,by simp [h3],by simp,by simp,hr,h2,h⟩
theorem QW {n0 m0:Nat} {st st':St} (n:Nat) (hn:Nat.ble n st.bx.length=true) (h2:WeLL n st'.tk.length st'.tk (st.bx.take n) st'.bx) (h3:st.tk=st'.tk) (h4:Nat.ble n0 n=true) (h5:Nat.ble m0 st'.tk.length=true)
  (h:nF n st'.tk.length st'.tk st.sl st'.sl):oT n0 m0 st st':=by
 have hl:(st.bx.take n).length=n:=by simp_all
 exact ⟨st'.tk,[],[],st.bx.take n,st.bx.drop n,by simpa using h5,by rw [hl];simpa using h4,by simp [h3],by simp,by simp,(List.take_append_drop n st.bx).symm,by rw [hl];exact h2,by rw [hl];exact h⟩
theorem ff {n0 m0:Nat} {st st':St} (q:TkE) (hq:q.new=true) (h1:∃ r,st.bx=st'.bx ++ r) (h3:st.tk ++ [q]=st'.tk) (h2:WeLL st'.bx.length st.tk.length st'.tk st'.bx st'.bx) (h4:Nat.ble n0 st'.bx.length=true) (h5:Nat.ble m0 st.tk.length=true)
  (h:nF st'.bx.length st.tk.length st'.tk st.sl st'.sl):oT n0 m0 st st':=by
 obtain ⟨r,hr⟩:=h1;exact ⟨st.tk,[],[q],st'.bx,r,by simpa using h5,by simpa using h4,by simp,h3.symm,by simpa using hq,hr,h2,h⟩
end
end Dv
end Go.Proofs.YtphonmiflfhdbaaGreat
namespace Go.Proofs.YtphonmiflfhdbaaGreat
namespace Dv
theorem aL {p : Prop} (h : p := by repeat' (first | exact rfl | exact trivial | exact Or.inr (Or.inl ⟨_,rfl⟩) | exact Or.inr ⟨_,rfl⟩ | exact Or.inl ⟨rfl,rfl⟩ | exact Or.inl rfl | refine Or.inr ⟨_,_,rfl,Nat.zero_le _,rfl,?_⟩ | refine ⟨_,_,rfl,?_,?_⟩ | refine ⟨_,rfl,?_⟩ | exact ⟨nL rfl,rfl⟩ | refine Or.inr (Or.inr (Or.inr ⟨_,_,rfl,?_⟩)) | exact Or.inl rfl | refine Or.inr ?_)) : p := h
theorem aI {p : Prop} {a b : Int} (q : a=b) (h : a=b -> p := by intro q;repeat' (first | exact rfl | exact trivial | exact Or.inr (Or.inl ⟨_,rfl⟩) | exact Or.inr ⟨_,rfl⟩ | exact Or.inl ⟨rfl,rfl⟩ | exact Or.inl rfl | refine Or.inr ⟨_,_,rfl,Nat.zero_le _,rfl,?_⟩ | refine ⟨_,_,rfl,?_,?_⟩ | refine ⟨_,rfl,?_⟩ | exact congrArg (fun z=>DV.v (.int .i64 z)) q | refine Or.inr (Or.inr (Or.inr ⟨_,_,rfl,?_⟩)) | exact Or.inl rfl | refine Or.inr ?_)) : p := h q
theorem aB {p : Prop} {a b : Bool} (q : a=b) (h : a=b -> p := by intro q;repeat' (first | exact rfl | exact trivial | exact Or.inr (Or.inl ⟨_,rfl⟩) | exact Or.inr ⟨_,rfl⟩ | exact Or.inl ⟨rfl,rfl⟩ | exact Or.inl rfl | refine Or.inr ⟨_,_,rfl,Nat.zero_le _,rfl,?_⟩ | refine ⟨_,_,rfl,?_,?_⟩ | refine ⟨_,rfl,?_⟩ | exact congrArg (fun b=>DV.v (.bool b)) q | refine Or.inr (Or.inr (Or.inr ⟨_,_,rfl,?_⟩)) | exact Or.inl rfl | refine Or.inr ?_)) : p := h q
theorem wNA {p : Prop} {a b : Nat} (q : a < b) (hn : b <= 4611686018427387904 := by omega) (h : a < b -> b <= 4611686018427387904 -> p := by intro q hn;repeat' (first | exact rfl | exact aE rfl | exact aD (nxt q hn) | refine ⟨_,_,rfl,?_,?_⟩)) : p := h q hn
theorem wNB {p : Prop} {a b : Nat} (q : a < b) (hn : b <= 4611686018427387904 := by omega) (h : a < b -> b <= 4611686018427387904 -> p := by intro q hn;repeat' (first | exact trivial | exact aE rfl | exact aD (nxt q hn) | refine ⟨⟨_,rfl,?_⟩,?_⟩)) : p := h q hn
theorem wSA {p r : Prop} {a b : Nat} (q : a < b) (s : r) (hn : b <= 4611686018427387904 := by omega) (h : a < b -> b <= 4611686018427387904 -> r -> p := by intro q hn s;repeat' (first | exact rfl | exact aE rfl | exact aD (nxt q hn) | exact bS s rfl | refine ⟨_,_,rfl,?_,?_⟩)) : p := h q hn s
theorem wSB {p r : Prop} {a b : Nat} (q : a < b) (s : r) (hn : b <= 4611686018427387904 := by omega) (h : a < b -> b <= 4611686018427387904 -> r -> p := by intro q hn s;repeat' (first | exact trivial | exact aE rfl | exact aD (nxt q hn) | exact bS s rfl | refine ⟨⟨_,rfl,?_⟩,?_⟩)) : p := h q hn s
theorem wTB {p : Prop} (h : p := by repeat' (first | exact trivial | exact aE rfl | exact bV (Nat.le_refl _) rfl | refine ⟨⟨_,rfl,?_⟩,?_⟩)) : p := h
theorem wTA {p : Prop} (h : p := by repeat' (first | exact rfl | exact aE rfl | exact bV (Nat.le_refl _) rfl | refine ⟨_,_,rfl,?_,?_⟩)) : p := h
theorem wRB {p : Prop} (h : p := by repeat' (first | exact trivial | exact aE rfl | exact aD rfl | refine ⟨⟨_,rfl,?_⟩,?_⟩)) : p := h
theorem wRA {p : Prop} (h : p := by repeat' (first | exact rfl | exact aE rfl | exact aD rfl | refine ⟨_,_,rfl,?_,?_⟩)) : p := h
theorem nY {p:Prop}   (h:p:=by repeat' (first | exact rfl | exact aE rfl | exact cv rfl | exact bR rfl | exact qq _ | exact bV (Nat.le_refl _) rfl | exact bV (Nat.le_succ _) rfl | refine ⟨_,_,rfl,?_,?_⟩)):p:=h 
theorem nz {p:Prop} {P0:Prop} (x0:P0) (h:P0->p:=by intro x0;repeat' (first | exact rfl | exact aE rfl | exact aD x0 | exact cv x0 | exact bS x0 rfl | exact bP x0 | exact bR x0 | exact aD (congrArg Nat.cast x0) | exact aE x0 | exact eU x0 | exact x0 | exact cv rfl | exact bR rfl | exact qq _ | exact bV (Nat.le_refl _) rfl | exact bV (Nat.le_succ _) rfl | refine ⟨_,_,rfl,?_,?_⟩)):p:=h x0
theorem wA2 {p:Prop} {P0:Prop} {P1:Prop} (x0:P0) (x1:P1) (h:P0->P1->p:=by intro x0 x1;repeat' (first | exact rfl | exact aE rfl | exact aD x0 | exact cv x0 | exact bS x0 rfl | exact bP x0 | exact bR x0 | exact aD (congrArg Nat.cast x0) | exact aE x0 | exact eU x0 | exact x0 | exact aD x1 | exact cv x1 | exact bS x1 rfl | exact bP x1 | exact bR x1 | exact aD (congrArg Nat.cast x1) | exact aE x1 | exact eU x1 | exact x1 | exact cv rfl | exact bR rfl | exact qq _ | exact bV (Nat.le_refl _) rfl | exact bV (Nat.le_succ _) rfl | refine ⟨_,_,rfl,?_,?_⟩)):p:=h x0 x1
theorem wA3 {p:Prop} {P0:Prop} {P1:Prop} {P2:Prop} (x0:P0) (x1:P1) (x2:P2) (h:P0->P1->P2->p:=by intro x0 x1 x2;repeat' (first | exact rfl | exact aE rfl | exact aD x0 | exact cv x0 | exact bS x0 rfl | exact bP x0 | exact bR x0 | exact aD (congrArg Nat.cast x0) | exact aE x0 | exact eU x0 | exact x0 | exact aD x1 | exact cv x1 | exact bS x1 rfl | exact bP x1 | exact bR x1 | exact aD (congrArg Nat.cast x1) | exact aE x1 | exact eU x1 | exact x1 | exact aD x2 | exact cv x2 | exact bS x2 rfl | exact bP x2 | exact bR x2 | exact aD (congrArg Nat.cast x2) | exact aE x2 | exact eU x2 | exact x2 | exact cv rfl | exact bR rfl | exact qq _ | exact bV (Nat.le_refl _) rfl | exact bV (Nat.le_succ _) rfl | refine ⟨_,_,rfl,?_,?_⟩)):p:=h x0 x1 x2
theorem jX {p:Prop}   (h:p:=by repeat' (first | exact trivial | exact aE rfl | exact bV (Nat.le_refl _) rfl | exact bV (Nat.le_succ _) rfl | exact aD rfl | refine ⟨⟨_,rfl,?_⟩,?_⟩)):p:=h 
theorem cQ {p:Prop} {P0:Prop} (x0:P0) (h:P0->p:=by intro x0;repeat' (first | exact trivial | exact aE rfl | exact aD x0 | exact cv x0 | exact bS x0 rfl | exact bP x0 | exact bR x0 | exact aD (congrArg Nat.cast x0) | exact aE x0 | exact eU x0 | exact x0 | exact bV (Nat.le_refl _) rfl | exact bV (Nat.le_succ _) rfl | exact aD rfl | refine ⟨⟨_,rfl,?_⟩,?_⟩)):p:=h x0
theorem wB2 {p:Prop} {P0:Prop} {P1:Prop} (x0:P0) (x1:P1) (h:P0->P1->p:=by intro x0 x1;repeat' (first | exact trivial | exact aE rfl | exact aD x0 | exact cv x0 | exact bS x0 rfl | exact bP x0 | exact bR x0 | exact aD (congrArg Nat.cast x0) | exact aE x0 | exact eU x0 | exact x0 | exact aD x1 | exact cv x1 | exact bS x1 rfl | exact bP x1 | exact bR x1 | exact aD (congrArg Nat.cast x1) | exact aE x1 | exact eU x1 | exact x1 | exact bV (Nat.le_refl _) rfl | exact bV (Nat.le_succ _) rfl | exact aD rfl | refine ⟨⟨_,rfl,?_⟩,?_⟩)):p:=h x0 x1
theorem MA {p:Prop} {P0:Prop} {P1:Prop} {P2:Prop} (x0:P0) (x1:P1) (x2:P2) (h:P0->P1->P2->p:=by intro x0 x1 x2;repeat' (first | exact trivial | exact aE rfl | exact aD x0 | exact cv x0 | exact bS x0 rfl | exact bP x0 | exact bR x0 | exact aD (congrArg Nat.cast x0) | exact aE x0 | exact eU x0 | exact x0 | exact aD x1 | exact cv x1 | exact bS x1 rfl | exact bP x1 | exact bR x1 | exact aD (congrArg Nat.cast x1) | exact aE x1 | exact eU x1 | exact x1 | exact aD x2 | exact cv x2 | exact bS x2 rfl | exact bP x2 | exact bR x2 | exact aD (congrArg Nat.cast x2) | exact aE x2 | exact eU x2 | exact x2 | exact bV (Nat.le_refl _) rfl | exact bV (Nat.le_succ _) rfl | exact aD rfl | refine ⟨⟨_,rfl,?_⟩,?_⟩)):p:=h x0 x1 x2
theorem T9 {p:Prop} {P0:Prop} {P1:Prop} {P2:Prop} {P3:Prop} (x0:P0) (x1:P1) (x2:P2) (x3:P3) (h:P0->P1->P2->P3->p:=by intro x0 x1 x2 x3;repeat' (first | exact trivial | exact aE rfl | exact aD x0 | exact cv x0 | exact bS x0 rfl | exact bP x0 | exact bR x0 | exact aD (congrArg Nat.cast x0) | exact aE x0 | exact eU x0 | exact x0 | exact aD x1 | exact cv x1 | exact bS x1 rfl | exact bP x1 | exact bR x1 | exact aD (congrArg Nat.cast x1) | exact aE x1 | exact eU x1 | exact x1 | exact aD x2 | exact cv x2 | exact bS x2 rfl | exact bP x2 | exact bR x2 | exact aD (congrArg Nat.cast x2) | exact aE x2 | exact eU x2 | exact x2 | exact aD x3 | exact cv x3 | exact bS x3 rfl | exact bP x3 | exact bR x3 | exact aD (congrArg Nat.cast x3) | exact aE x3 | exact eU x3 | exact x3 | exact bV (Nat.le_refl _) rfl | exact bV (Nat.le_succ _) rfl | exact aD rfl | refine ⟨⟨_,rfl,?_⟩,?_⟩)):p:=h x0 x1 x2 x3
theorem fU {p:Prop}   (h:p:=by repeat' (first | exact rfl | exact trivial | exact Or.inr (Or.inl ⟨_,rfl⟩) | exact Or.inr ⟨_,rfl⟩ | exact Or.inl ⟨rfl,rfl⟩ | exact Or.inl rfl | refine Or.inr ⟨_,_,rfl,Nat.zero_le _,rfl,?_⟩ | refine ⟨_,_,rfl,?_,?_⟩ | refine ⟨_,rfl,?_⟩ | exact ⟨nL rfl,rfl⟩ | refine Or.inr (Or.inr (Or.inr ⟨_,_,rfl,?_⟩)) | exact Or.inl rfl | refine Or.inr ?_)):p:=h 
theorem pZ {p:Prop} {P0:Prop} (x0:P0) (h:P0->p:=by intro x0;repeat' (first | exact rfl | exact trivial | exact Or.inr (Or.inl ⟨_,rfl⟩) | exact Or.inr ⟨_,rfl⟩ | exact Or.inl ⟨rfl,rfl⟩ | exact Or.inl rfl | refine Or.inr ⟨_,_,rfl,Nat.zero_le _,rfl,?_⟩ | refine ⟨_,_,rfl,?_,?_⟩ | refine ⟨_,rfl,?_⟩ | exact congrArg (fun z=>DV.v (.int .i64 z)) x0 | exact congrArg (fun z=>DV.v (.int .i64 z)) (congrArg Nat.cast x0) | exact congrArg (fun b=>DV.v (.bool b)) x0 | exact x0 | exact Or.inr (Or.inl ⟨_,x0⟩) | apply x0 | exact ⟨nL rfl,rfl⟩ | refine Or.inr (Or.inr (Or.inr ⟨_,_,rfl,?_⟩)) | exact Or.inl rfl | refine Or.inr ?_)):p:=h x0
theorem wC2 {p:Prop} {P0:Prop} {P1:Prop} (x0:P0) (x1:P1) (h:P0->P1->p:=by intro x0 x1;repeat' (first | exact rfl | exact trivial | exact Or.inr (Or.inl ⟨_,rfl⟩) | exact Or.inr ⟨_,rfl⟩ | exact Or.inl ⟨rfl,rfl⟩ | exact Or.inl rfl | refine Or.inr ⟨_,_,rfl,Nat.zero_le _,rfl,?_⟩ | refine ⟨_,_,rfl,?_,?_⟩ | refine ⟨_,rfl,?_⟩ | exact congrArg (fun z=>DV.v (.int .i64 z)) x0 | exact congrArg (fun z=>DV.v (.int .i64 z)) (congrArg Nat.cast x0) | exact congrArg (fun b=>DV.v (.bool b)) x0 | exact x0 | exact Or.inr (Or.inl ⟨_,x0⟩) | apply x0 | exact congrArg (fun z=>DV.v (.int .i64 z)) x1 | exact congrArg (fun z=>DV.v (.int .i64 z)) (congrArg Nat.cast x1) | exact congrArg (fun b=>DV.v (.bool b)) x1 | exact x1 | exact Or.inr (Or.inl ⟨_,x1⟩) | apply x1 | exact ⟨nL rfl,rfl⟩ | refine Or.inr (Or.inr (Or.inr ⟨_,_,rfl,?_⟩)) | exact Or.inl rfl | refine Or.inr ?_)):p:=h x0 x1
theorem iX {α:Type _} {P:α->Prop} {cs:α} {i:Int} {l:List α} (g:l[i.toNat]? = some cs) (k:P cs) (h:0<=i:=by omega):∃ cs,(0<=i/\l[i.toNat]? = some cs)/\P cs:=⟨cs,⟨h,g⟩,k⟩
theorem lI {X:Ctx} {st:St} {k:List It} {c:Code} (I:Nat->St->Prop) {j0:Nat} {kM:St} (h0:I j0 kM) (hw:oT X.n0 X.m0 st kM)
 (hr:∀ j s,I j s->go X 4000 (.code c :: .CT (fun s'=>∃ AJ,oT X.n0 X.m0 s' AJ/\∃ j',j' < j/\I j' AJ) :: k) s):rj X c k st:=aY I j0 kM hw h0 hr
theorem lJ {X:Ctx} {st:St} {k:List It} {c:Code} (S:Nat->St) (n:Nat) (hw:oT X.n0 X.m0 st (S 0))
 (hr:∀ e,e<=n->go X 4000 (.code c :: .CT (fun s'=>∃ AJ,oT X.n0 X.m0 s' AJ/\∃ j',j' < n - e/\∃ e:Nat,AJ=S e/\e<=n/\j'=n - e) :: k) (S e)):rj X c k st:=aY (fun j st=>∃ e:Nat,st=S e/\e<=n/\j=n - e) (n - 0) (S 0) hw ⟨0,rfl,Nat.zero_le _,rfl⟩ fun j s h=>by
 obtain ⟨e,rfl,he,rfl⟩:=h;exact hr e he
theorem bA {a b : Bool} (h : a = b) : DV.v (.bool a) = .v (.bool b) := h ▸ rfl
theorem yM {a b : Int} (h : a = b) : DV.v (.int .i64 a) = .v (.int .i64 b) := h ▸ rfl
theorem bl {n0 m0 : Nat} {st st' : St} (h : nF st'.bx.length st'.tk.length st'.tk st.sl st'.sl) (h1 : ∃ r,st.bx = st'.bx ++ r := by exact ⟨_,rfl⟩) (h2 : WeLL st'.bx.length st'.tk.length st'.tk st'.bx st'.bx := by exact wA) (h3 : st.tk = st'.tk := by exact rfl) (h4 : Nat.ble n0 st'.bx.length = true := by exact rfl) (h5 : Nat.ble m0 st'.tk.length = true := by exact rfl) : oT n0 m0 st st' := M5 h1 h2 h3 h4 h5 h
theorem wkB {n0 m0 : Nat} {st st' : St} (n : Nat) (h2 : WeLL n st'.tk.length st'.tk (st.bx.take n) st'.bx) (h : nF n st'.tk.length st'.tk st.sl st'.sl) (hn : Nat.ble n st.bx.length = true := by exact rfl) (h3 : st.tk = st'.tk := by exact rfl) (h4 : Nat.ble n0 n = true := by exact rfl) (h5 : Nat.ble m0 st'.tk.length = true := by exact rfl) : oT n0 m0 st st' := QW n hn h2 h3 h4 h5 h
abbrev aw (k : Nat) (n : Int) : Nat × Sl := (k,⟨[],.v (.int .i64 n)⟩)
abbrev yN (k : Nat) (b : Bool) : Nat × Sl := (k,⟨[],.v (.bool b)⟩)
abbrev aF (k i : Nat) : Nat × Sl := (k,⟨[],.loc i 0⟩)
abbrev nA (k : Nat) (c : List DV) : Nat × Sl := (k,⟨[],.pt c 0⟩)
abbrev bc (k e : Nat) (l : List (List DV)) : Nat × Sl := (k,⟨[],.sl e l none⟩)
end Dv
end Go.Proofs.YtphonmiflfhdbaaGreat
namespace Go.Proofs.YtphonmiflfhdbaaGreat
namespace Dv
open Go
section
variable {P:Program} {ops:Array Oper} {C:World->Prop} {Q:Act->World->Prop} {W:Nat->Bool} {π:Nat->Nat}
theorem Ua {o:Oper} {a:Act} {w:World} {K:Act->World->Prop} (h:wq P o a w K):∃ v w',K (a.put o.dst v) w':=by
 unfold wq at h;split at h
 ·exact ⟨_,_,h⟩
 ·exact ⟨_,_,h⟩
 ·obtain ⟨e,w',fr,⟨v,_,hv⟩,_⟩:=h [];exact ⟨v,w',hv⟩
 ·exact h.elim
theorem QX {x y:Oper} {v:Value} (Tb:x.apart ops y=true) (hs:∀ cs b,y.op ≠ .select cs b) {a:Act} {w:World} {K:Act->World->Prop} :
  wq P y (a.put x.dst v) w K↔wq P y a w (fun a' w'=>K (a'.put x.dst v) w'):=by
 obtain ⟨h1,h2,h3⟩:=Oper.apart_spec Tb;unfold wq;rw [execOp_put y hs a x.dst v h1];have hc:∀ u,(a.put x.dst v).put y.dst u=(a.put y.dst u).put x.dst v:=fun u=>Act.put_comm a v u h2
 cases (execOp a.eval y).run P w with
 | halt h w'=>rfl
 | ok n w'=>cases n<;>simp [hc]
def Yl (P:Program) (ops:Array Oper) (C:World->Prop) (o:Oper) (v:Value) (a:Act):Prop:=
 (Region.wanted o (yielded ops a.tmps)=true/\∀ w,(qg o.op=true->C w)->(execOp a.eval o).run P w = .ok (.value v) w) ∨
 (Region.wanted o (yielded ops a.tmps)=false/\v=undef)
theorem Yl.same {x y:Oper} {v u:Value} (Tb:x.apart ops y=true) (hs:∀ cs b,y.op ≠ .select cs b) {a:Act}:Yl P ops C y v (a.put x.dst u)↔Yl P ops C y v a:=by
 obtain ⟨h1,h2,h3⟩:=Oper.apart_spec Tb;unfold Yl;rw [execOp_put y hs a x.dst u h1,wanted_put y a x.dst u h1]
def eo (P:Program) (ops:Array Oper) (o:Oper) (a:Act) (w:World) (K:Act->World->Prop):Prop:=
 if Region.wanted o (yielded ops a.tmps)=true then wq P o a w K else K (a.put o.dst undef) w
theorem jm {o:Oper} {a:Act} {w:World} {K K':Act->World->Prop} (hk:∀ a w,K a w->K' a w) (h:eo P ops o a w K):eo P ops o a w K':=by grind [eo,kT]
theorem wV {x y:Oper} {v:Value} (Tb:x.apart ops y=true) (hs:∀ cs b,y.op ≠ .select cs b) {a:Act} {w:World} {K:Act->World->Prop} :
  eo P ops y (a.put x.dst v) w K↔eo P ops y a w (fun a' w'=>K (a'.put x.dst v) w'):=by
 obtain ⟨h1,h2,h3⟩:=Oper.apart_spec Tb;unfold eo;rw [wanted_put y a x.dst v h1];split
 ·exact QX Tb hs
 ·rw [Act.put_comm a v undef h2]
theorem Jr {o:Oper} {a:Act} {w:World} {K:Act->World->Prop} (h:eo P ops o a w K):∃ v w',K (a.put o.dst v) w':=by grind [eo,Ua]
theorem tA {o:Oper} {a:Act} {w:World} {K:Act->World->Prop} (h:eo P ops o a w K):eo P ops o a w (fun a' w'=>K a' w' /\ ∃ u,a'=a.put o.dst u):=by grind [eo,wq]
theorem l9 {o:Oper} {a:Act} {w:World} {v:Value} {K:Act->World->Prop} (hy:Yl P ops C o v a) (hc:qg o.op=true->C w) (hk:K (a.put o.dst v) w):eo P ops o a w K:=by
 unfold eo;rcases hy with ⟨hw,hv⟩ | ⟨hw,rfl⟩
 ·grind [wq]
 ·rw [ai (by simp [hw])];exact hk
theorem ma {o:Oper} {a:Act} {w:World} {v:Value} {K:Act->World->Prop} (hy:Yl P ops C o v a) (hc:qg o.op=true->C w) (h:eo P ops o a w K):K (a.put o.dst v) w:=by
 unfold eo at h;rcases hy with ⟨hw,hv⟩ | ⟨hw,rfl⟩
 ·grind [wq]
 ·rw [ai (by simp [hw])] at h;exact h
def runT (P:Program) (ops:Array Oper) (W:Nat->Bool) (C:World->Prop) (Q:Act->World->Prop):List Nat->Act->World->Prop
 | [],a,w=>Q a w
 | i :: r,a,w=>
  match ops[i]? with
  | none=>False
  | some o=>
   if isE o.op=true then eo P ops o a w fun a' w'=>(W i=false->C w->C w')/\runT P ops W C Q r a' w'
   else ∃ v,Yl P ops C o v a/\(qg o.op=true->C w)/\runT P ops W C Q r (a.put o.dst v) w
def oU (ops:Array Oper) (W:Nat->Bool) (j i:Nat):Bool:=
 match ops[j]?,ops[i]? with
 | some x,some y=>x.apart ops y && y.apart ops x && !(isE x.op && isE y.op) && !(qg x.op && W i)
 | _,_=>false
def Js (ops:Array Oper) (l:List Nat):Prop:=∃ i o,i∈l/\ops[i]? = some o/\qg o.op=true
theorem jo {j i:Nat} {x y:Oper} (h:oU ops W j i=true) (hj:ops[j]? = some x) (hi:ops[i]? = some y) :
  x.apart ops y=true/\y.apart ops x=true/\¬ (isE x.op=true/\isE y.op=true)/\¬ (qg x.op=true/\W i=true):=by
 unfold oU at h;rw [hj,hi] at h;simp only [aS,Bool.not_eq_true',Bool.and_eq_false_iff] at h;refine ⟨h.1.1.1,h.1.1.2,?_,?_⟩
 ·grind
 ·grind
theorem nZ (n4:∀ (j:Nat) (o:Oper) cs b,ops[j]? = some o->o.op ≠ .select cs b) {i:Nat} {o:Oper} (hi:ops[i]? = some o) (hR:isE o.op=false) :
  ∀ (rem:List Nat) (a:Act) (w:World),runT P ops W C Q rem a w->i∈rem->(∀ j∈rem,j≠i->π j < π i->oU ops W j i=true)->rem.Pairwise (fun a b=>π a < π b)->∃ v,Yl P ops C o v a
 | [],_,_,_,hm,_,_=>by cases hm
 | h :: rem,a,w,hr,hm,M6,hp=>by
  simp only [runT] at hr;by_cases CL:h=i
  ·grind
  ·have r8:i∈rem:=by grind
   have ay:π h < π i:=(List.pairwise_cons.1 hp).1 i r8;split at hr
   ·exact hr.elim
   ·rename_i x hx;obtain ⟨Zi,ap2,_,_⟩:=jo (M6 h (by simp) CL ay) hx hi;have ih:=fun a w hr=>nZ n4 hi hR rem a w hr r8 (fun j hj=>M6 j (fK _ hj)) (List.pairwise_cons.1 hp).2
    grind [Jr,Yl.same]
theorem wW {h:Nat} {rem:List Nat} (hl:Js ops rem):Js ops (h :: rem):=by
 obtain ⟨i,o,hm,ho,hL⟩:=hl;exact ⟨i,o,fK _ hm,ho,hL⟩
theorem jq (n4:∀ (j:Nat) (o:Oper) cs b,ops[j]? = some o->o.op ≠ .select cs b) (MB:∀ j i x y,π j < π i->ops[i]? = some x->ops[j]? = some y->qg x.op=true->W j=false) {i:Nat} {o:Oper} (hi:ops[i]? = some o) :
  ∀ (rem:List Nat) (a:Act) (w:World),(Js ops rem->C w)->runT P ops W C Q rem a w->i∈rem->(∀ j∈rem,j≠i->π j < π i->oU ops W j i=true)->rem.Pairwise (fun a b=>π a < π b) ->
   eo P ops o a w (fun a' w'=>(W i=false->C w->C w')/\runT P ops W C Q (rem.erase i) a' w')
 | [],_,_,_,_,hm,_,_=>by cases hm
 | h :: rem,a,w,hC,hr,hm,M6,hp=>by
  by_cases CL:h=i
  ·grind [runT,l9]
  ·have r8:i∈rem:=by grind
   have ay:π h < π i:=(List.pairwise_cons.1 hp).1 i r8;have vZ:=(List.pairwise_cons.1 hp).2;rw [List.erase_cons_tail (sU CL)];have hr0:=hr;simp only [runT] at hr;split at hr
   ·exact hr.elim
   ·rename_i x hx;obtain ⟨Zi,ap2,hEE,hLW⟩:=jo (M6 h (by simp) CL ay) hx hi;have X7:=fun cs b=>n4 h x cs b hx;have QY:=fun cs b=>n4 i o cs b hi;have Ub:∀ j∈rem,j≠i->π j < π i->oU ops W j i=true:=fun j hj=>M6 j (fK _ hj);split at hr
    ·-- the head has an effect: so o has none
     rename_i hEx;have Zj:isE o.op=false:=by grind
     obtain ⟨v,hy⟩:=nZ (π:=π) n4 hi Zj (h :: rem) a w hr0 hm M6 hp;have hci:qg o.op=true->C w:=fun hL=>hC ⟨i,o,hm,hi,hL⟩;refine l9 hy hci ⟨fun _ h=>h,?_⟩;simp only [runT,hx,hEx,if_true];refine (wV ap2 X7).2 ?_;refine jm ?_ (tA hr);rintro a' w' ⟨⟨Jt,mS⟩,u,rfl⟩;refine ⟨Jt,?_⟩
     have Zk:Js ops rem->C w':=by
      intro hl;have Af:=hl;obtain ⟨l,z,hlm,hz,hL⟩:=hl;exact Jt (MB h l z x ((List.pairwise_cons.1 hp).1 l hlm) hz hx hL) (hC (wW Af))
     have ih:=jq n4 MB hi rem _ w' Zk mS r8 Ub vZ;have gv:=(Yl.same (u:=u) Zi QY).2 hy
     grind [ma]
    ·rename_i hEx;obtain ⟨v,hy,hc,mS⟩:=hr;have ih:=jq n4 MB hi rem (a.put x.dst v) w (fun hl=>hC (wW hl)) mS r8 Ub vZ;refine jm ?_ (tA ((wV Zi QY).1 ih))
     grind [runT,Yl.same]
def ordB (ops:Array Oper):Nat->Nat->Nat->Bool
 | 0,_,_=>false
 | n + 1,j,i=>
  match ops[i]? with
  | some o=>o.after.toList.any fun e=>Region.binds .any e && (Nat.beq e.on j || ordB ops n j e.on)
  | none=>false
def sb (ops:Array Oper) (W:Nat->Bool) (π:Nat->Nat):Bool:=
 Region.noSelect ops &&
 (List.range ops.size).all fun i=>
  match ops[i]? with
   | some o=>o.after.toList.all (fun e=>!Region.binds .any e || (Nat.blt (π e.on) (π i) && Nat.blt e.on ops.size)) && (!qg o.op || (List.range ops.size).all fun j=>!Nat.blt (π j) (π i) || !W j)
   | none=>false
def AM (ops:Array Oper) (W:Nat->Bool) (π:Nat->Nat) (ex:Nat->Nat->Bool):Bool:=
 (List.range ops.size).all fun i=>(List.range ops.size).all fun j=>!Nat.blt (π j) (π i) || ex j i || ordB ops ops.size j i || oU ops W j i
def Uc:Nat->Nat->Bool:=fun _ _=>false
def C9 (ops:Array Oper) (W:Nat->Bool):Bool:=sb ops W (fun i=>i) && AM ops W (fun i=>i) Uc
def Dn (ops:Array Oper) (bH:Array Bool):Prop:=
 ∀ i o,ops[i]? = some o->bH.getD i true=true->∀ e∈o.after,Region.binds .any e=true->bH.getD e.on false=true
theorem mb {bH:Array Bool} (hd:Dn ops bH):∀ (n:Nat) (j i:Nat) (o:Oper),ops[i]? = some o->(∀ e∈o.after,Region.binds .any e=true->bH.getD e.on false=true)->ordB ops n j i=true->bH.getD j false=true
 | 0,j,i,o,_,_,h=>by simp [ordB] at h
 | n + 1,j,i,o,ho,iM,h=>by
  simp only [ordB,ho,List.any_eq_true,aS,Bool.or_eq_true] at h;obtain ⟨e,he,hb,hj⟩:=h;have QZ:e∈o.after:=sU he;have h1:=iM e QZ hb;rcases hj with hj | hj
  ·have:e.on=j:=sU hj;rw [<- this];exact h1
  ·cases Zl:ops[e.on]? with
   | none=>
    cases n with
    | zero=>simp [ordB] at hj
    | succ n=>simp [ordB,Zl] at hj
   | some o'=>
    have hg:bH.getD e.on true=true:=by grind
    exact mb hd n j e.on o' Zl (hd e.on o' Zl hg) hj
theorem yO (hc:sb ops W π=true):∀ j i x y,π j < π i->ops[i]? = some x->ops[j]? = some y->qg x.op=true->W j=false:=by
 simp only [sb,aS,List.all_eq_true,List.mem_range] at hc;intro j i x y QK hx hy hL;have hj:=(Array.getElem?_eq_some_iff.1 hy).1;have:=hc.2 i (Array.getElem?_eq_some_iff.1 hx).1;simp only [hx,aS,Bool.or_eq_true,hL,Bool.not_true,Bool.false_eq_true,false_or,List.all_eq_true,List.mem_range,Bool.not_eq_true'] at this;rcases this.2 j hj with h1 | h1
 ·have:¬ Nat.blt (π j) (π i)=true:=by simp [h1]
  simp at this;omega
 ·exact h1
theorem wX (hc:sb ops W π=true):∀ i x,ops[i]? = some x->∀ e∈x.after,Region.binds .any e=true->π e.on < π i/\e.on < ops.size:=by
 simp only [sb,aS,List.all_eq_true,List.mem_range] at hc;intro i x hx e he hb;have:=hc.2 i (Array.getElem?_eq_some_iff.1 hx).1;simp only [hx,aS,List.all_eq_true,Bool.or_eq_true] at this;have h2:=this.1 e (sU he);rw [hb] at h2;simpa using h2
theorem AN (hc:sb ops W π=true):∀ (j:Nat) (o:Oper) cs b,ops[j]? = some o->o.op ≠ .select cs b:=by
 simp only [sb,aS] at hc;exact Region.noSelect_spec hc.1
theorem yP:∀ {l:List Nat},l.Pairwise (fun a b=>π a < π b)->∀ {x y:Nat},x∈l->y∈l->x≠y->π x < π y∨π y < π x
 | [],_,x,y,hx,_,_=>by cases hx
 | h :: r,hp,x,y,hx,hy,bq=>by
  have vZ:=List.pairwise_cons.1 hp;rcases cg hx with e1 | e1
  ·grind
  ·rcases cg hy with e2 | e2
   ·subst e2;exact .inr (vZ.1 _ e1)
   ·exact yP vZ.2 e1 e2 bq
theorem n5 {Q':Exit->Act->World->Prop} (ex:Nat->Nat->Bool) (Zm:sb ops W π=true) (hcS:AM ops W π ex=true) (hQ:∀ a w,Q a w->Q' .normal a w):∀ (oV:Nat) (bH:Array Bool) (rem:List Nat) (a:Act) (w:World),
  bH.size=ops.size->Dn ops bH->(∀ i,i∈rem↔i < ops.size/\bH.getD i true=false)->rem.Pairwise (fun a b=>π a < π b)->rem.length<=oV->(∀ j∈rem,∀ i∈rem,ex j i=false)->(Js ops rem->C w)->runT P ops W C Q rem a w ->
   wpAny P .any ops Q' oV bH a w:=by
 have n4:=AN Zm;have MB:=yO Zm;have Ju:=wX Zm;simp only [AM,List.all_eq_true,List.mem_range,Bool.or_eq_true,Bool.not_eq_true'] at hcS;intro oV
 induction oV with
 | zero=>
  intro bH rem a w bY MC Jv hp hlen hex hC hr;have:rem=[]:=List.length_eq_zero_iff.1 (by omega);subst this;refine ⟨?_,hQ _ _ hr⟩;rw [List.eq_nil_iff_forall_not_mem];intro i hi;have:=(mem_ready.1 hi)
  grind
 | succ oV ih=>
  intro bH rem a w bY MC Jv hp hlen hex hC hr
  have Q0:∀ i,i∈Region.ready .any ops bH->i∈rem:=by
   intro i hi;obtain ⟨h1,o,ho,_⟩:=mem_ready.1 hi
   grind
  refine ⟨fun h0=>?_,fun i hi=>?_⟩
  ·cases rem with
   | nil=>exact hQ _ _ hr
   | cons h rem=>
    have hh:=(Jv h).1 (by simp);have hx:ops[h]? = some ops[h]:=Array.getElem?_eq_getElem hh.1
    have:h∈Region.ready .any ops bH:=by
     refine mem_ready.2 ⟨hh.2,_,hx,fun e he hb=>?_⟩;obtain ⟨ay,Zn⟩:=Ju h _ hx e he hb;cases hg:bH.getD e.on false
     ·have IH:bH.getD e.on true=false:=by grind
      have hm:=(Jv e.on).2 ⟨by omega,IH⟩;rcases cg hm with e1 | e1
      ·rw [e1] at ay;omega
      ·have:=(List.pairwise_cons.1 hp).1 _ e1;omega
     ·rfl
    rw [h0] at this;cases this
  ·have II:=Q0 i hi;obtain ⟨M7,o,ho,iM⟩:=mem_ready.1 hi;have fX:=(Array.getElem?_eq_some_iff.1 ho).1
   have M6:∀ j∈rem,j≠i->π j < π i->oU ops W j i=true:=by
    intro j hj _ ay;rcases hcS i fX j ((Jv j).1 hj).1 with ((h1 | h1) | h1) | h1
    ·have:¬ Nat.blt (π j) (π i)=true:=by simp [h1]
     simp at this;omega
    ·rw [hex j hj i II] at h1;cases h1
    ·grind [mb]
    ·exact h1
   have bh:=jq n4 MB ho rem a w hC hr II M6 hp;have hnd:rem.Nodup:=oF hp
   have key:∀ a' w',((W i=false->C w->C w')/\runT P ops W C Q (rem.erase i) a' w')->wpAny P .any ops Q' oV (bH.setIfInBounds i true) a' w':=by
    rintro a' w' ⟨Jt,mS⟩;refine ih (bH.setIfInBounds i true) (rem.erase i) a' w' (by simp [bY]) ?_ ?_ (hp.sublist List.erase_sublist) (by rw [List.length_erase_of_mem II];omega) (fun j hj i hi=>hex j (List.mem_of_mem_erase hj) i (List.mem_of_mem_erase hi)) ?_ mS
    ·intro k x hx hk e he hb;by_cases vW:k=i
     ·subst vW;rw [ho] at hx;simp only [oI] at hx;subst hx;exact getD_set_true (iM e he hb)
     ·rw [getD_set_ne true (Ne.symm vW)] at hk;exact getD_set_true (MC k x hx hk e he hb)
    ·intro k;rw [List.Nodup.mem_erase_iff hnd];by_cases vW:k=i
     ·subst vW;simp [bY,fX]
     ·rw [getD_set_ne true (Ne.symm vW)]
      grind
    ·rintro ⟨l,z,hl,hz,hL⟩;have Af:=List.mem_of_mem_erase hl;have bq:l≠i:=fun e=>by subst e;exact (List.Nodup.mem_erase_iff hnd).1 hl |>.1 rfl
     have Ud:=hC ⟨l,z,Af,hz,hL⟩;refine Jt ?_ Ud;rcases Nat.lt_or_ge (π i) (π l) with h1 | h1
     ·exact MB i l z o h1 hz ho hL
     ·have h0:π l≠π i:=by
       intro he;rcases yP hp Af II bq with h2 | h2<;>omega
      have:=M6 l Af bq (by omega);obtain ⟨_,_,_,h4⟩:=jo this hz ho
      grind
   unfold wpOp
   grind [eo,Az,kT]
theorem jY {id:Nat} {Q':Exit->Act->World->Prop} {a:Act} {w:World} (hm:P.follows .mixedOrders=true) (hc:C9 ops W=true) (hQ:∀ a w,Q a w->Q' .normal a w)
  (hC:C w.drew) (h:runT P ops W C Q (List.range ops.size) a w.drew):(Code.region id ops true).wp P Q' a w:=by
 refine wp_region_any hm ?_;simp only [C9,aS] at hc;refine n5 (π:=fun i=>i) Uc hc.1 hc.2 hQ ops.size (Array.replicate ops.size false) (List.range ops.size) a _ (by simp) ?_ ?_ List.pairwise_lt_range (by simp) (fun _ _ _ _=>rfl) (fun _=>hC) h
 ·intro i o ho hl;have:i < ops.size:=(Array.getElem?_eq_some_iff.1 ho).1;simp [this] at hl
 ·simp_all
end
end Dv
end Go.Proofs.YtphonmiflfhdbaaGreat
namespace Go.Proofs.YtphonmiflfhdbaaGreat
namespace Dv
open Go Go.RowKit
structure Dr where
 ops:Array Oper
 W:Nat->Bool
 k:List It
 kM:St
 fin:Option (Bool->List (Nat × Sl)->St->Prop)
structure Dw where
 d:Dr
 E0:En
 wr:World
structure CC (E0:En) (bx:List (List DV)) (wr w:World):Prop where
 o:∀ (i:Nat) b cs,E0.β[i]? = some b->bx[i]? = some cs->cs ≠ []->w.heap[b]? = wr.heap[b]?
 c:∀ x v,E0.c x=some v->w.cell? x=some v
abbrev Dw.C (D:Dw) (w:World):Prop:=CC D.E0 D.d.kM.bx D.wr w
structure tB (E:En) (bx:List (List DV)) (w:World):Prop where
 len:E.β.length=bx.length
 ey:∀ (i:Nat) cs,bx[i]? = some cs->cs ≠ []->∃ b ty arr,E.β[i]? = some b/\w.heap[b]? = some (.cells (List.toArray arr) ty (0,0))/\RvC E cs arr
theorem Env.em {E:En} {bx:List (List DV)} {w:World} (h:Env E bx w):tB E bx w:=⟨h.len,fun i cs hi _=>h.ey i cs hi⟩
def Ue:Option (List DV)->Bool
 | some []=>true
 | _=>false
theorem M8 {o:Option (List DV)} (h:Ue o=true):o=some []:=by
 cases o with
 | none=>cases h
 | some l=>
  cases l with
  | nil=>rfl
  | cons _ _=>cases h
def Dw.wc (D:Dw) (E:En):En:=⟨D.E0.c,E.β,E.tk,E.τ⟩
structure fV (X:Ctx) (D:Dw) (c:Bool) (E:En) (s0:List (Nat × Sl)) (st:St) (a:Act) (w:World):Prop where
 rel:Rel X E st a w
 x:Ext D.E0 E
 β:∃ r,E.β=D.E0.β ++ r
 t0:∀ i x,get s0 i=some x->(Holds a.tmps x.gs->∃ v,a.tmps[i]? = some v/\Rv (D.wc E) x.s v)/\(¬ Holds a.tmps x.gs->a.tmps[i]? = some undef)
 cc:c=true->D.C w
def Dw.Q (D:Dw) (X:Ctx) (a:Act) (w:World):Prop:=
 match D.d.fin with
 | none=>kq X D.d.k .normal a w
 | some F=>∃ c E s0 st,fV X D c E s0 st a w/\F c s0 st
def delF {γ:Type _} (d:Nat):List (Nat × Sl)->(List (Nat × Sl)->γ)->γ
 | [],K=>K []
 | p :: r,K=>
  match Nat.beq p.1 d with
  | true=>delF d r K
  | false=>delF d r (fun r'=>K (p :: r'))
theorem oW {γ:Type _} (d:Nat):∀ (l:List (Nat × Sl)) (K:List (Nat × Sl)->γ),delF d l K=K (l.filter fun p=>!Nat.beq p.1 d)
 | [],K=>rfl
 | p :: r,K=>by
  simp only [delF,List.filter_cons];cases h:Nat.beq p.1 d
  ·simp only [Bool.not_false,if_true];rw [oW d r]
  ·simp only [Bool.not_true,Bool.false_eq_true,if_false];rw [oW d r K]
theorem get_filter (d:Nat):∀ (l:List (Nat × Sl)) (i:Nat) (x:Sl),get (l.filter fun p=>!Nat.beq p.1 d) i=some x->i≠d/\get l i=some x
 | [],i,x,h=>by cases h
 | (k,y) :: r,i,x,h=>by
  simp only [List.filter_cons] at h;split at h
  ·rename_i hk
   have hk:k≠d:=by
    rintro rfl;simp at hk
   simp only [cR] at h ⊢;split at h
   ·grind
   ·rename_i vW;rw [ai vW];exact get_filter d r i x h
  ·rename_i hk;have hk:k=d:=sU hk;obtain ⟨h1,h2⟩:=get_filter d r i x h
   grind [cR]
def scal:DV->Bool
 | .v _=>true
 | .ud=>true
 | .loc _ _=>true
 | .el _ _=>true
 | _=>false
def put2 (s0:List (Nat × Sl)) (st:St) (dst:Option Nat) (b:Bool) (gs:List (Nat × Bool)) (s:DV) (K:List (Nat × Sl)->St->Prop):Prop:=
 match dst with
 | none=>K s0 st
 | some d=>
  match st with
  | ⟨sl,bx,tk⟩=>
   match b || scal s with
   | true=>K ((d,⟨gs,s⟩) :: s0) ⟨(d,⟨gs,s⟩) :: sl,bx,tk⟩
   | false=>delF d s0 fun iz=>K iz ⟨(d,⟨gs,s⟩) :: sl,bx,tk⟩
def optP:Option Prop->Prop
 | some p=>p
 | none=>False
def pR (X:Ctx) (D:Dr) (c:Bool) (s0:List (Nat × Sl)) (st:St) (G:List (Nat × Bool)) (op:Op):Option (Bool × DV):=
 match !isE op && (!qg op || c) with
 | false=>none
 | true=>
  match pureT X.P X.T ⟨s0,D.kM.bx,[]⟩ G op with
  | some s=>some (true,s)
  | none=>
   match qg op with
   | true=>none
   | false=>
    match pureT X.P X.T ⟨st.sl,[],[]⟩ G op with
    | some s=>some (false,s)
    | none=>none
def eR (X:Ctx) (D:Dr) (c:Bool) (s0:List (Nat × Sl)) (st:St) (op:Op) (K:Bool->DV->Prop):Option Prop:=
 match isE op with
 | true=>none
 | false=>
  match qg op with
  | true=>
   match c with
   | true=>effR X ⟨s0,D.kM.bx,[]⟩ op (K true)
   | false=>none
  | false=>
   match effR X ⟨s0,[],[]⟩ op (K true) with
   | some p=>some p
   | none=>effR X ⟨st.sl,[],[]⟩ op (K false)
def AO (X:Ctx) (D:Dr) (c:Bool) (i:Nat) (l:List (Nat × Oper)) (f:FuncId) (args:List DV) (dst:Option Nat) (s0:List (Nat × Sl)) (st:St):Prop:=
 Go.Proofs.Enters X.P f/\((∀ p∈l,D.ops[p.1]? = some p.2)->∀ (E0:En) (wr:World),tB E0 D.kM.bx wr->∀ E a w vs,fV X ⟨D,E0,wr⟩ c E s0 st a w->RvL E args vs->Calls X.P f vs.toArray w fun e w'=>∃ v,e = .returned v /\
  (D.W i=false->CC E0 D.kM.bx wr w->CC E0 D.kM.bx wr w')/\runT X.P D.ops D.W (CC E0 D.kM.bx wr) (Dw.Q ⟨D,E0,wr⟩ X) (l.map (·.1)) (a.put dst v) w')
def OpD (X:Ctx) (D:Dr) (c:Bool) (i:Nat) (l:List (Nat × Oper)) (o:Oper) (s0:List (Nat × Sl)) (st:St):Prop:=
 (∀ p∈l,D.ops[p.1]? = some p.2)->∀ (E0:En) (wr:World),tB E0 D.kM.bx wr->∀ E a w,fV X ⟨D,E0,wr⟩ c E s0 st a w->wq X.P o a w fun a' w'=>
  (D.W i=false->CC E0 D.kM.bx wr w->CC E0 D.kM.bx wr w')/\runT X.P D.ops D.W (CC E0 D.kM.bx wr) (Dw.Q ⟨D,E0,wr⟩ X) (l.map (·.1)) a' w'
def effE (X:Ctx) (D:Dr) (c:Bool) (i:Nat) (l:List (Nat × Oper)) (o:Oper) (s0:List (Nat × Sl)) (st:St) (K:Bool->List (Nat × Sl)->St->Prop):Prop:=
 match o.op with
 | .store t x y=>
  match o.dst with
  | some _=>False
  | none=>
   match D.W i with
   | true=>optP (effC X st o (K false s0))
   | false=>
    match stObj st o.op with
    | some j=>
     match Nat.ble D.kM.bx.length j || Ue D.kM.bx[j]? with
     | true=>optP (effC X st o (K c s0))
     | false=>False
    | none=>False
 | .call cl=>
  match cl.callee with
  | .value f=>
   match rv st [] f,argsV st [] cl.args.toList with
   | some (.fn g first captured),some vs=>AO X D c i l g (first ++ vs ++ captured) o.dst s0 st
   | _,_=>False
  | _=>
   match o.dst with
   | some d=>optP (effC X st o fun st'=>delF d s0 fun iz=>K c iz st')
   | none=>False
 | _=>
  match o.dst with
  | some d=>
   match effC X st o fun st'=>
    match get st'.sl d with
    | some ⟨[],.loc j off⟩=>K c ((d,⟨[],.loc j off⟩) :: s0) st'
    | _=>delF d s0 fun iz=>K c iz st' with
   | some p=>p
   | none=>OpD X D c i l o s0 st
  | none=>False
def goD (X:Ctx) (D:Dr):Nat->Bool->List (Nat × Oper)->List (Nat × Sl)->St->Prop
 | _,c,[],s0,st=>
  match D.fin with
  | none=>go X 4000 D.k st
  | some F=>F c s0 st
 | 0,_,_ :: _,_,_=>False
 | n + 1,c,(i,o) :: r,s0,st=>
  match fY X.nt st.sl o.dst && fY X.nt s0 o.dst with
  | false=>False
  | true=>
   match o.guard with
   | none=>
    match isE o.op with
    | true=>effE X D c i r o s0 st fun c' iz st'=>goD X D n c' r iz st'
    | false=>
     match pR X D c s0 st [] o.op with
     | some (b,s)=>put2 s0 st o.dst b [] s (goD X D n c r)
     | none=>optP (eR X D c s0 st o.op fun b s=>put2 s0 st o.dst b [] s (goD X D n c r))
   | some (j,want)=>
    match gslot D.ops.toList j with
    | none=>False
    | some d=>
     match get st.sl d with
     | none=>False
     | some ⟨kK,_⟩=>
      match pR X D c s0 st ((d,want) :: kK) o.op with
      | some (b,s)=>
       match YZ ((d,want) :: kK) o.dst with
       | true=>put2 s0 st o.dst b ((d,want) :: kK) s (goD X D n c r)
       | false=>False
      | none=>
       match get st.sl (lastG (d,want) kK).1 with
       | some ⟨[],.v (.bool b)⟩=>
        match kK with
        | []=>Br (b == want)
          (vU st d want fun GX=>resL d want s0 fun s2=>
           match isE o.op with
           | true=>effE X D c i r o s2 GX fun c' iz st'=>goD X D n c' r iz st'
           | false=>optP (eR X D c s2 GX o.op fun b s=>put2 s2 GX o.dst b [] s (goD X D n c r)))
          (match !qg o.op || c with
           | true=>vU st d (!want) fun GX=>resL d (!want) s0 fun s2=>put2 s2 GX o.dst true [] .ud (goD X D n c r)
           | false=>False)
        | _ :: _=>Br (b == (lastG (d,want) kK).2)
          (vU st (lastG (d,want) kK).1 (lastG (d,want) kK).2 fun GX=>resL (lastG (d,want) kK).1 (lastG (d,want) kK).2 s0 fun s2=>goD X D n c ((i,o) :: r) s2 GX)
          (vU st (lastG (d,want) kK).1 (!(lastG (d,want) kK).2) fun GX=>resL (lastG (d,want) kK).1 (!(lastG (d,want) kK).2) s0 fun s2=>goD X D n c ((i,o) :: r) s2 GX)
       | some ⟨[],.ud⟩=>
        match kK with
        | []=>
         match !qg o.op || c with
         | true=>put2 s0 st o.dst true [] .ud (goD X D n c r)
         | false=>False
        | _ :: _=>False
       | _=>False
section
variable {X:Ctx} {D:Dw} {c:Bool} {i:Nat} {s0:List (Nat × Sl)} {st:St} {E:En} {a:Act} {w:World}
theorem Q4 (h:Ext D.E0 E):Ext D.E0 (D.wc E):=⟨fun _ _ h=>h,h.β,h.tk⟩
theorem Da (h:Ext D.E0 E):Ext (D.wc E) E:=⟨h.c,fun _ _ h=>h,fun k q hq=>⟨q,hq,.inl ⟨rfl,rfl⟩⟩⟩
theorem Fw {E':En} (h:Ext E E'):Ext (D.wc E) (D.wc E'):=⟨fun _ _ h=>h,h.β,h.tk⟩
theorem fV.Zo (h:fV X D c E s0 st a w) (hD:tB D.E0 D.d.kM.bx D.wr):Rl (D.wc E) D.d.kM.bx D.C s0 a where
 tm:=h.t0
 ey:=fun i cs hi=>by
  by_cases bq:cs=[]
  ·subst bq;have ay:i < D.E0.β.length:=by rw [hD.len];exact (gS hi).1
   exact ⟨_,[],h.x.β i _ (gE ay),⟨cf _,by simp⟩,fun w' _ j u hj=>by simp at hj⟩
  ·obtain ⟨b,ty,arr,hb,hw,hc⟩:=hD.ey i cs hi bq;exact ⟨b,arr,h.x.β i b hb,hc.mono (Q4 h.x),fun w' hC j u hj=>by rw [ch ((hC.o i b cs hb hi bq).trans hw)];simpa using hj⟩
 cc:=fun x v hx w' hC=>hC.c x v hx
theorem fV.rlE (h:fV X D c E s0 st a w):Rl E [] (fun w'=>∀ x v,E.c x=some v->w'.cell? x=some v) st.sl a where
 tm:=h.rel.tm
 ey:=fun i cs hi=>by simp at hi
 cc:=fun x v hx w' hC=>hC x v hx
theorem Fx {s:DV} {v:Value} (hs:scal s=true) (hv:Rv E s v):Rv (D.wc E) s v:=by
 cases s<;>simp [scal] at hs
 ·unfold Rv at hv ⊢;exact hv
 ·unfold Rv at hv ⊢;exact hv
 ·unfold Rv at hv ⊢;exact hv
 ·unfold Rv at hv ⊢;exact hv
theorem jr (h:fV X D c E s0 st a w) {dst:Option Nat} (hd:(fY X.nt st.sl dst && fY X.nt s0 dst)=true) (b:Bool) (gs:List (Nat × Bool)) (s:DV) (v:Value) (GK:∀ d,dst=some d->∀ p∈gs,p.1≠d)
  (sA:Holds a.tmps gs->Rv E s v) (sa:b=true->Holds a.tmps gs->Rv (D.wc E) s v) (Mv:¬ Holds a.tmps gs->v=undef) {K:List (Nat × Sl)->St->Prop} (hk:put2 s0 st dst b gs s K) :
  ∃ iz st',K iz st' /\ fV X D c E iz st' (a.put dst v) w:=by
 simp only [aS] at hd;have h1:=oN h.rel hd.1 gs s v GK sA Mv
 cases dst with
 | none=>exact ⟨s0,st,hk,h1,h.x,h.β,h.t0,h.cc⟩
 | some d=>
  obtain ⟨sl,bx,tk⟩:=st;have Db:=hd.2;simp only [fY,aS,Nat.blt_eq] at Db
  have hold:∀ i x,i≠d->get s0 i=some x->(Holds (a.put (some d) v).tmps x.gs->∃ u,(a.put (some d) v).tmps[i]? = some u/\Rv (D.wc E) x.s u)/\(¬ Holds (a.put (some d) v).tmps x.gs->(a.put (some d) v).tmps[i]? = some undef):=by
   intro i x hi hx;simp only [Act.put];rw [Array.getElem?_setIfInBounds_ne (Ne.symm hi),kf (kR Db.2 i x hx)];exact h.t0 i x hx
  simp only [put2] at hk;split at hk
  ·rename_i hb;refine ⟨_,_,hk,h1,h.x,h.β,fun i x hx=>?_,h.cc⟩;simp only [cR] at hx;split at hx
   ·rename_i Mw;subst Mw;simp only [oI] at hx;subst hx;have h2:(a.tmps.setIfInBounds d v)[d]? = some v:=by simp [Array.getElem?_setIfInBounds,h.rel.sz,Db.1]
    simp only [Act.put]
    grind [kf,Fx]
   all_goals grind
  ·rw [oW] at hk;refine ⟨_,_,hk,h1,h.x,h.β,fun i x hx=>?_,h.cc⟩;obtain ⟨h3,h4⟩:=get_filter d s0 i x hx;exact hold i x h3 h4
theorem kY (h:fV X D c E s0 st a w) {d:Nat} {b:Bool} (hd:a.tmps[d]? = some (.bool b)):fV X D c E (s0.map (bB d b)) (st.resolve d b) a w where
 rel:=jJ h.rel hd
 x:=h.x
 β:=h.β
 t0:=by
  intro i y hy;simp only [get_map,Option.map_eq_some_iff] at hy;obtain ⟨x,hx,rfl⟩:=hy;have ht:=h.t0 i x hx;unfold bB;split
  ·rename_i hi;have fX:i=d:=sU hi;subst fX;exact ⟨fun _=>⟨_,hd,eS rfl⟩,fun hn=>(hn (bf _)).elim⟩
  ·split
   ·grind [Holds,rm,bf]
   ·have he:Holds a.tmps (x.gs.filter fun p=>p != (d,b))↔Holds a.tmps x.gs:=by
     constructor
     ·intro hh p hp;by_cases IC:p=(d,b)
      ·subst IC;exact hd
      ·exact hh p (by simp [List.mem_filter,hp,IC])
     ·intro hh p hp;exact hh p (List.mem_filter.1 hp).1
    simp only [he];exact ht
 cc:=h.cc
theorem oX {nt d:Nat} {b:Bool} {dst:Option Nat} (h:(fY nt st.sl dst && fY nt s0 dst)=true):(fY nt (st.resolve d b).sl dst && fY nt (s0.map (bB d b)) dst)=true:=by
 simp only [aS] at h ⊢;exact ⟨jK h.1,jK (st:=⟨s0,[],[]⟩) h.2⟩
theorem AP (hD:tB D.E0 D.d.kM.bx D.wr) (h:fV X D c E s0 st a w) {G:List (Nat × Bool)} (hG:Holds a.tmps G) {o:Oper} {b:Bool} {s:DV} (hp:pR X D.d c s0 st G o.op=some (b,s)) :
  isE o.op=false/\(qg o.op=true->c=true)/\∃ v,Rv E s v/\(b=true->Rv (D.wc E) s v)/\∀ w,(qg o.op=true->D.C w)->(execOp a.eval o).run X.P w = .ok (.value v) w:=by
 unfold pR at hp;split at hp
 ·cases hp
 ·rename_i hc;simp only [aS,Bool.not_eq_true',Bool.or_eq_true] at hc;refine ⟨hc.1,fun hL=>?_,?_⟩
  ·grind
  ·split at hp
   ·rename_i s' hs;simp only [oI,Prod.mk.injEq] at hp;obtain ⟨rfl,rfl⟩:=hp;obtain ⟨v,hv,hr⟩:=gI (st:=⟨s0,D.d.kM.bx,[]⟩) X.hT (h.Zo hD) hG hs;exact ⟨v,Rv.mono (Da h.x) hv,fun _=>hv,hr⟩
   ·split at hp
    ·cases hp
    ·rename_i hL;split at hp
     ·rename_i s' hs;simp only [oI,Prod.mk.injEq] at hp;obtain ⟨rfl,rfl⟩:=hp;obtain ⟨v,hv,hr⟩:=gI (st:=⟨st.sl,[],[]⟩) X.hT h.rlE hG hs
      grind
     ·cases hp
theorem Jw (hD:tB D.E0 D.d.kM.bx D.wr) (h:fV X D c E s0 st a w) {o:Oper} {K:Bool->DV->Prop} (hp:optP (eR X D.d c s0 st o.op K)) :
  isE o.op=false/\(qg o.op=true->c=true)/\∃ b s v,K b s/\Rv E s v/\(b=true->Rv (D.wc E) s v)/\∀ w,(qg o.op=true->D.C w)->(execOp a.eval o).run X.P w = .ok (.value v) w:=by
 unfold eR at hp;split at hp
 ·exact hp.elim
 ·rename_i hE;refine ⟨hE,?_⟩;split at hp
  ·rename_i hL;split at hp
   ·refine ⟨fun _=>rfl,?_⟩
    cases hs:effR X ⟨s0,D.d.kM.bx,[]⟩ o.op (K true) with
    | none=>rw [hs] at hp;exact hp.elim
    | some p=>
     rw [hs] at hp;obtain ⟨s,hk,v,hv,hr⟩:=kS (st:=⟨s0,D.d.kM.bx,[]⟩) (h.Zo hD) hs hp;exact ⟨true,s,v,hk,Rv.mono (Da h.x) hv,fun _=>hv,hr⟩
   ·exact hp.elim
  ·rename_i hL;have fM:∀ w':World,qg o.op=true->False:=fun w' h1=>by rw [hL] at h1;cases h1
   refine ⟨fun h1=>(by rw [hL] at h1;cases h1),?_⟩;split at hp
   ·rename_i p hs;obtain ⟨s,hk,v,hv,hr⟩:=kS (st:=⟨s0,[],[]⟩) (C:=D.C) ⟨h.t0,fun i cs hi=>by simp at hi,(h.Zo hD).cc⟩ hs hp;exact ⟨true,s,v,hk,Rv.mono (Da h.x) hv,fun _=>hv,fun w' _=>hr w' fun h1=>(fM w' h1).elim⟩
   ·cases hs:effR X ⟨st.sl,[],[]⟩ o.op (K false) with
    | none=>rw [hs] at hp;exact hp.elim
    | some p=>
     rw [hs] at hp;obtain ⟨s,hk,v,hv,hr⟩:=kS (st:=⟨st.sl,[],[]⟩) h.rlE hs hp
     grind
theorem M9 {P:Program} {o:Oper} {K:Act->World->Prop} (h:wq P o a w K):wq P o a w fun a' w'=>K a' w' /\ ∃ u,a'=a.put o.dst u:=by grind [wq]
theorem Fy (h:fV X D c E s0 st a w) {t:Option Nat} {E':En} {st':St} {a':Act} {w':World} (hs:fc t E w E' w') (hr:Rel X E' st' a' w') (ht:∀ j,t=some j->D.E0.β.length<=j∨D.d.kM.bx[j]? = some []):D.C w->D.C w':=fun hC=>
 ⟨fun i b cs hb cT bq=>by
  have iV:=h.x.β i b hb
  rw [hs.o i _ iV fun e=>by
   rcases ht i e with h1 | h1
   ·have:=(gS hb).1;omega
   ·rw [cT] at h1;simp only [oI] at h1;exact bq h1]
  exact hC.o i b cs hb cT bq,fun x v hx=>hr.env.sub x v (hs.x.c x v (h.x.c x v hx))⟩
theorem tC (h:fV X D c E s0 st a w) {t:Option Nat} {E':En} {st':St} {w':World} {c':Bool} {iz:List (Nat × Sl)} {dst:Option Nat} {u:Value} (hs:fc t E w E' w') (hr:Rel X E' st' (a.put dst u) w') (AB:c'=true->D.C w')
  (ht0:∀ i x,get iz i=some x->(∃ d,dst=some d/\i=d/\scal x.s=true/\get st'.sl d=some x)∨(get s0 i=some x/\∀ d,dst=some d->i≠d)) (hd:fY X.nt s0 dst=true):fV X D c' E' iz st' (a.put dst u) w' where
 rel:=hr
 x:=by
  refine ⟨fun y v hy=>hs.x.c y v (h.x.c y v hy),fun j b hb=>hs.x.β j b (h.x.β j b hb),fun k q hq=>?_⟩;obtain ⟨q1,h1,h2⟩:=h.x.tk k q hq;obtain ⟨q2,h3,h4⟩:=hs.x.tk k q1 h1
  grind
 β:=by
  obtain ⟨r1,h1⟩:=h.β;obtain ⟨r2,h2⟩:=hs.β
  grind
 t0:=fun i x hx=>by
  rcases ht0 i x hx with ⟨d,rfl,rfl,QL,hg⟩ | ⟨hg,bq⟩
  ·have:=hr.tm _ _ hg
   grind [Fx]
  ·have h1:=h.t0 i x hg
   cases dst with
   | none=>
    refine ⟨fun hh=>?_,h1.2⟩;obtain ⟨v,h2,h3⟩:=h1.1 hh;exact ⟨v,h2,Rv.mono (Fw hs.x) h3⟩
   | some d=>
    simp only [fY,aS,Nat.blt_eq] at hd;simp only [Act.put];rw [Array.getElem?_setIfInBounds_ne (Ne.symm (bq d rfl)),kf (kR hd.2 i x hg)];refine ⟨fun hh=>?_,h1.2⟩;obtain ⟨v,h2,h3⟩:=h1.1 hh;exact ⟨v,h2,Rv.mono (Fw hs.x) h3⟩
 cc:=AB
def Uf (X:Ctx) (D:Dw) (l:List Nat) (G:Bool->List (Nat × Sl)->St->Prop):Prop:=∀ c s0 st,G c s0 st->∀ E a w,fV X D c E s0 st a w->runT X.P D.d.ops D.d.W D.C (D.Q X) l a w
theorem Dc (hD:tB D.E0 D.d.kM.bx D.wr) {l:List (Nat × Oper)} (hl:∀ p∈l,D.d.ops[p.1]? = some p.2) {G:Bool->List (Nat × Sl)->St->Prop} (hG:Uf X D (l.map (·.1)) G) {o:Oper} (hd:(fY X.nt st.sl o.dst && fY X.nt s0 o.dst)=true) (h:fV X D c E s0 st a w)
  (he:effE X D.d c i l o s0 st G):wq X.P o a w fun a' w'=>(D.d.W i=false->D.C w->D.C w')/\runT X.P D.d.ops D.d.W D.C (D.Q X) (l.map (·.1)) a' w':=by
 have Na:=hd;simp only [aS] at Na;have hlen:D.E0.β.length=D.d.kM.bx.length:=hD.len
 have core:∀ (K:St->Prop) (p:Prop) (c1:Bool),effC X st o K=some p->p->(c1=true->c=true)->(c1=true∨D.d.W i=false->∀ j,stObj st o.op=some j->D.E0.β.length<=j∨D.d.kM.bx[j]? = some []) ->
   (∀ st',K st' -> ∃ iz,G c1 iz st' /\ ∀ i x,get iz i=some x->(∃ d,o.dst=some d/\i=d/\scal x.s=true/\get st'.sl d=some x)∨(get s0 i=some x/\∀ d,o.dst=some d->i≠d)) ->
   wq X.P o a w fun a' w'=>(D.d.W i=false->D.C w->D.C w')/\runT X.P D.d.ops D.d.W D.C (D.Q X) (l.map (·.1)) a' w':=by
  intro K p c1 hp hpp Ug bh hK;refine kT ?_ (M9 (kU Na.1 h.rel hp hpp));rintro a' w' ⟨⟨st',E',hk,hr,hs⟩,u,rfl⟩;refine ⟨fun hW=>Fy h hs hr (bh (.inr hW)),?_⟩;obtain ⟨iz,hg,ht0⟩:=hK st' hk;exact hG c1 iz st' hg E' _ w' (tC h hs hr (fun hc=>Fy h hs hr (bh (.inl hc)) (h.cc (Ug hc))) ht0 Na.2)
 have Pe:(∀ t x y,o.op ≠ .store t x y)->∀ j,stObj st o.op=some j->D.E0.β.length<=j∨D.d.kM.bx[j]? = some []:=by simp_all [stObj]
 have Uh:∀ (d:Nat) (st':St),o.dst=some d->∀ i x,get (s0.filter fun p=>!Nat.beq p.1 d) i=some x->(∃ d,o.dst=some d/\i=d/\scal x.s=true/\get st'.sl d=some x)∨(get s0 i=some x/\∀ d,o.dst=some d->i≠d):=by
  intro d st' jZ i x hx;obtain ⟨h1,h2⟩:=get_filter d s0 i x hx
  grind
 unfold effE at he;split at he
 ·rename_i t x y sB;split at he
  ·exact he.elim
  ·rename_i jZ;have Jh:∀ st':St,∀ i x,get s0 i=some x->(∃ d,o.dst=some d/\i=d/\scal x.s=true/\get st'.sl d=some x)∨(get s0 i=some x/\∀ d,o.dst=some d->i≠d):=fun st' i x hx=>.inr ⟨hx,fun d hd=>by rw [jZ] at hd;cases hd⟩;split at he
   ·rename_i hW
    cases hp:effC X st o (G false s0) with
    | none=>rw [hp] at he;exact he.elim
    | some p=>
     rw [hp] at he;exact core _ p false hp he (by intro h;cases h) (by rintro (h1 | h1);cases h1;rw [hW] at h1;cases h1) fun st' hk=>⟨s0,hk,Jh st'⟩
   ·split at he
    ·rename_i j hj;split at he
     ·rename_i eM
      have eM:D.d.kM.bx.length<=j∨D.d.kM.bx[j]? = some []:=by
       rcases Bool.or_eq_true _ _ |>.mp eM with h1 | h1
       ·exact .inl (sU h1)
       ·exact .inr (M8 h1)
      cases hp:effC X st o (G c s0) with
      | none=>rw [hp] at he;exact he.elim
      | some p=>
       rw [hp] at he;exact core _ p c hp he id (fun _ j' iV=>by rw [hj] at iV;cases iV;rw [hlen];exact eM) fun st' hk=>⟨s0,hk,Jh st'⟩
     ·exact he.elim
    ·exact he.elim
 ·rename_i cl sB;split at he
  ·rename_i f sc;split at he
   ·rename_i g first captured vs hf Af
    obtain ⟨kV,Ui⟩:=he;have gn:=h.rel.rl;have e1:=aW gn hf;unfold Rv at e1;obtain ⟨l1,r1,e1,Fv,hr1⟩:=e1;have hargs:=gH gn (bf _) _ _ Af;obtain ⟨dst,op,ty,pos,after,gu⟩:=o;obtain ⟨callee,args,argTypes⟩:=cl;simp only at sB sc;subst sB sc
    have hr:(execOp a.eval ⟨dst,.call ⟨.value f,args,argTypes⟩,ty,pos,after,gu⟩).run X.P w = .ok (.enter g (l1 ++ args.toList.map a.eval ++ r1).toArray) w:=by
     have e3:(l1.toArray ++ args.map a.eval ++ r1.toArray)=(l1 ++ args.toList.map a.eval ++ r1).toArray:=by apply Array.ext';simp
     simp only [execOp,resolve,e1,Deferred.ofValue,Sem.run_bind,Sem.run_pure,Result.andThen_ok,invoke,e3];exact kV _ _
    unfold wq;rw [hr];exact Ui hl D.E0 D.wr hD E a w _ h ((Fv.append hargs).append hr1)
   ·exact he.elim
  ·split at he
   ·rename_i d jZ
    cases hp:effC X st o (fun st'=>delF d s0 fun iz=>G c iz st') with
    | none=>rw [hp] at he;exact he.elim
    | some p=>
     rw [hp] at he;refine core _ p c hp he id (fun _=>Pe (fun t x y h1=>by rw [sB] at h1;cases h1)) fun st' hk=>?_;rw [oW] at hk;exact ⟨_,hk,Uh d st' jZ⟩
   ·exact he.elim
 ·rename_i CM O4;split at he
  ·rename_i d jZ
   cases hp:effC X st o (fun st'=>
    match get st'.sl d with
    | some ⟨[],.loc j off⟩=>G c ((d,⟨[],.loc j off⟩) :: s0) st'
    | _=>delF d s0 fun iz=>G c iz st') with
   | none=>rw [hp] at he;exact he hl D.E0 D.wr hD E a w h
   | some p=>
    rw [hp] at he;refine core _ p c hp he id (fun _=>Pe CM) fun st' hk=>?_;split at hk
    ·rename_i j off hg;refine ⟨_,hk,fun i x hx=>?_⟩;simp only [cR] at hx;split at hx
     ·rename_i Mw;simp only [oI] at hx;subst hx;exact .inl ⟨d,jZ,Mw.symm,rfl,hg⟩
     all_goals grind
    ·rw [oW] at hk;exact ⟨_,hk,Uh d st' jZ⟩
  ·exact he.elim
theorem gJ (hD:tB D.E0 D.d.kM.bx D.wr):∀ n c l s0 st,goD X D.d n c l s0 st->(∀ p∈l,D.d.ops[p.1]? = some p.2)->∀ E a w,fV X D c E s0 st a w->runT X.P D.d.ops D.d.W D.C (D.Q X) (l.map (·.1)) a w
 | n,c,[],s0,st,hg,hl=>by
  intro E a w h;have hg:(match D.d.fin with | none=>go X 4000 D.d.k st | some F=>F c s0 st):=by cases n<;>simpa only [goD] using hg
  show D.Q X a w;unfold Dw.Q
  cases hf:D.d.fin with
  | none=>
   rw [hf] at hg;exact go_sound 4000 _ _ hg E a w h.rel
  | some F=>
   rw [hf] at hg;exact ⟨c,E,s0,st,h,hg⟩
 | 0,c,_ :: _,s0,st,hg,_=>by exact hg.elim
 | n + 1,c,(i,o) :: r,s0,st,hg,hl=>by
  intro E a w h;have ho:D.d.ops[i]? = some o:=hl (i,o) (by simp);have Af:∀ p∈r,D.d.ops[p.1]? = some p.2:=fun p hp=>hl p (fK _ hp);simp only [List.map_cons];have ih:∀ c s0 st,goD X D.d n c r s0 st->∀ E a w,fV X D c E s0 st a w->runT X.P D.d.ops D.d.W D.C (D.Q X) (r.map (·.1)) a w:=fun c s0 st hg=>gJ hD n c r s0 st hg Af;have ihG:Uf X D (r.map (·.1)) (fun c s0 st=>goD X D.d n c r s0 st):=fun c s0 st hg=>ih c s0 st hg;simp only [goD,Fh,yz] at hg;split at hg
  ·exact hg.elim
  ·rename_i hd
   have fR:∀ (v:Value) iz st',isE o.op=false->Yl X.P D.d.ops D.C o v a->(qg o.op=true->c=true)->goD X D.d n c r iz st' -> fV X D c E iz st' (a.put o.dst v) w ->
     runT X.P D.d.ops D.d.W D.C (D.Q X) (i :: r.map (·.1)) a w:=by
    intro v iz st' hE hy j9 l7 cu;simp only [runT,ho];rw [ai (by simp [hE])];exact ⟨v,hy,fun hL=>h.cc (j9 hL),ih c iz st' l7 E _ w cu⟩
   have fS:∀ iz st',isE o.op=true->Region.wanted o (yielded D.d.ops a.tmps)=false->goD X D.d n c r iz st' -> fV X D c E iz st' (a.put o.dst undef) w ->
     runT X.P D.d.ops D.d.W D.C (D.Q X) (i :: r.map (·.1)) a w:=by
    intro iz st' hE hw l7 cu;simp only [runT,ho];rw [ap hE];unfold eo;rw [ai (by simp [hw])];exact ⟨fun _ h=>h,ih c iz st' l7 E _ w cu⟩
   have fE:∀ iz st',isE o.op=true->Region.wanted o (yielded D.d.ops a.tmps)=true->(fY X.nt st'.sl o.dst && fY X.nt iz o.dst)=true->effE X D.d c i r o iz st' (fun c' iz st'=>goD X D.d n c' r iz st')->fV X D c E iz st' a w ->
     runT X.P D.d.ops D.d.W D.C (D.Q X) (i :: r.map (·.1)) a w:=by
    intro iz st' hE hw Na he cu;simp only [runT,ho];rw [ap hE];unfold eo;rw [ap hw];exact Dc hD Af ihG Na cu he
   have fP:∀ iz st',Region.wanted o (yielded D.d.ops a.tmps)=true->(fY X.nt st'.sl o.dst && fY X.nt iz o.dst)=true->optP (eR X D.d c iz st' o.op fun b s=>put2 iz st' o.dst b [] s (goD X D.d n c r))->fV X D c E iz st' a w ->
     runT X.P D.d.ops D.d.W D.C (D.Q X) (i :: r.map (·.1)) a w:=by
    intro iz st' hw Na he cu;obtain ⟨hE,j9,b,s,v,hk,hv,sa,bU⟩:=Jw hD cu he;obtain ⟨s1,qu,ru,ep⟩:=jr cu Na b [] s v (fun _ _ p hp=>by cases hp) (fun _=>hv) (fun hb _=>sa hb) (fun hn=>(hn (bf _)).elim) hk;exact fR v s1 qu hE (.inl ⟨hw,bU⟩) j9 ru ep
   have udE:∀ iz st',(fY X.nt st'.sl o.dst && fY X.nt iz o.dst)=true->fV X D c E iz st' a w->put2 iz st' o.dst true [] .ud (goD X D.d n c r)->∃ s1 qu,goD X D.d n c r s1 qu/\fV X D c E s1 qu (a.put o.dst undef) w:=by
    intro iz st' Na cu hk;exact jr cu Na true [] .ud undef (fun _ _ p hp=>by cases hp) (fun _=>rm E) (fun _ _=>rm _) (fun hn=>(hn (bf _)).elim) hk
   split at hg
   ·rename_i M0;have hw:Region.wanted o (yielded D.d.ops a.tmps)=true:=by simp [Region.wanted,M0]
    split at hg
    ·rename_i hE;exact fE s0 st hE hw hd hg h
    ·split at hg
     ·rename_i b s hs;obtain ⟨hE,j9,v,hv,sa,bU⟩:=AP hD h (bf _) hs;obtain ⟨s1,qu,ru,ep⟩:=jr h hd b [] s v (fun _ _ p hp=>by cases hp) (fun _=>hv) (fun hb _=>sa hb) (fun hn=>(hn (bf _)).elim) hg;exact fR v s1 qu hE (.inl ⟨hw,bU⟩) j9 ru ep
     ·exact fP s0 st hw hd hg h
   ·rename_i j want M0;split at hg
    ·exact hg.elim
    ·rename_i d GK;split at hg
     ·exact hg.elim
     ·rename_i kK sd Pd;have tv:=wanted_spec h.rel M0 GK Pd;have Dd:¬ Holds a.tmps ((d,want) :: kK)->Region.wanted o (yielded D.d.ops a.tmps)=false:=by grind
      split at hg
      ·rename_i b s hs;split at hg
       case h_2=>exact hg.elim
       rename_i bL;have Uj:=tu bL;by_cases hh:Holds a.tmps ((d,want) :: kK)
       ·obtain ⟨hE,j9,v,hv,sa,bU⟩:=AP hD h hh hs;obtain ⟨s1,qu,ru,ep⟩:=jr h hd b _ s v Uj (fun _=>hv) (fun hb _=>sa hb) (fun hn=>(hn hh).elim) hg;exact fR v s1 qu hE (.inl ⟨tv.2 hh,bU⟩) j9 ru ep
       ·obtain ⟨s1,qu,ru,ep⟩:=jr h hd b _ s undef Uj (fun hn=>(hh hn).elim) (fun _ hn=>(hh hn).elim) (fun _=>rfl) hg;have j9:isE o.op=false/\(qg o.op=true->c=true):=by grind [pR]
        exact fR undef s1 qu j9.1 (.inr ⟨Dd hh,rfl⟩) j9.2 ru ep
      ·split at hg
       ·rename_i b iy;have ht0:=AF h.rel iy
        cases kK with
        | nil=>
         simp only [lastG] at iy ht0;cases GU:(b == want)
         ·have C7:b = !want:=by cases b<;>cases want<;>simp_all
          have hg:=hg.f GU
          have hn:Region.wanted o (yielded D.d.ops a.tmps)=false:=by
           refine Dd fun hh=>?_;have:=hh (d,want) (by simp)
           grind
          have hr:=kY (d:=d) (b:=!want) h (by rw [ht0,C7]);split at hg
          ·rename_i j9
           have Q5:qg o.op=true->c=true:=by
            intro hL;simpa [hL] using j9
           obtain ⟨s1,qu,ru,ep⟩:=udE _ _ (oX hd) hr hg;cases hE:isE o.op
           ·exact fR undef s1 qu hE (.inr ⟨hn,rfl⟩) Q5 ru ep
           ·exact fS s1 qu hE hn ru ep
          ·exact hg.elim
         ·have Jo:b=want:=sU GU;have hg:=hg.t GU
          grind [jj,bf,kY,oX]
        | cons g1 gr=>
         have key:∀ e,a.tmps[(lastG (d,want) (g1 :: gr)).1]? = some (.bool e)->goD X D.d n c ((i,o) :: r) (s0.map (bB (lastG (d,want) (g1 :: gr)).1 e)) (st.resolve (lastG (d,want) (g1 :: gr)).1 e)->_:=
          fun e Jb l7=>gJ hD n c ((i,o) :: r) _ _ l7 hl E a w (kY h Jb)
         cases GU:(b == (lastG (d,want) (g1 :: gr)).2)
         ·have hg:=hg.f GU;have C7:b = !(lastG (d,want) (g1 :: gr)).2:=by cases b<;>cases h0:(lastG (d,want) (g1 :: gr)).2<;>simp_all
          exact key _ (by rw [ht0,C7]) hg
         all_goals simp_all
       ·rename_i iy
        cases kK with
        | nil=>
         have ht0:=Jn h.rel iy;simp only [lastG] at ht0
         have hn:Region.wanted o (yielded D.d.ops a.tmps)=false:=by
          refine Dd fun hh=>?_;have:=hh (d,want) (by simp);simp only at this;rw [ht0] at this;simp [undef] at this
         simp only at hg;split at hg
         ·rename_i j9
          have Q5:qg o.op=true->c=true:=by
           intro hL;simpa [hL] using j9
          obtain ⟨s1,qu,ru,ep⟩:=udE _ _ hd h hg;cases hE:isE o.op
          ·exact fR undef s1 qu hE (.inr ⟨hn,rfl⟩) Q5 ru ep
          ·exact fS s1 qu hE hn ru ep
         ·exact hg.elim
        | cons g1 gr=>exact hg.elim
       ·exact hg.elim
def Zp (X:Ctx) (o:Oper) (st st':St):Prop:=∀ E a w,Rel X E st a w->wq X.P o a w fun a' w'=>∃ E',Rel X E' st' a' w' /\ fc none E w E' w'
theorem Zp.g {o:Oper} {k:List It} {st st':St} (h:Zp X o st st') (hk:go X 4000 k st'):I3 X o k st:=fun E a w hr=>by
 refine Az (kT ?_ (h E a w hr));rintro a' w' ⟨E',mS,_⟩;exact go_sound 4000 _ _ hk E' a' w' mS
def nOps:Nat->List Oper->List (Nat × Oper)
 | _,[]=>[]
 | i,o :: r=>(i,o) :: nOps (i + 1) r
theorem tD:∀ (l:List Oper) (i:Nat) (p:Nat × Oper),p∈nOps i l->i<=p.1/\l[p.1 - i]? = some p.2
 | [],_,_,h=>by cases h
 | o :: r,i,p,h=>by
  rcases cg h with h | h
  ·subst h;simp
  ·have:=tD r (i + 1) p h
   grind
theorem tE:∀ (l:List Oper) (i:Nat),(nOps i l).map (·.1)=List.range' i l.length
 | [],_=>rfl
 | o :: r,i=>by simp only [nOps,List.map_cons,tE r (i + 1),List.length_cons,List.range'_succ]
theorem tF (hr:Rel X E st a w) {ops:Array Oper} {W:Nat->Bool} {k:List It}:fV X ⟨⟨ops,W,k,st,none⟩,E,w⟩ true E st.sl st a w where
 rel:=hr
 x:=Ext.refl E
 β:=⟨[],by simp⟩
 t0:=hr.tm
 cc:=fun _=>⟨fun _ _ _ _ _ _=>rfl,hr.env.sub⟩
theorem yQ {id:Nat} {ops:Array Oper} {k:List It} {st:St} (W:Nat->Bool) (hm:X.P.follows .mixedOrders=true) (hc:C9 ops W=true)
  (h:goD X ⟨ops,W,k,st,none⟩ 3000 true (nOps 0 ops.toList) st.sl st):s9 X id ops k st:=by
 intro E a w hr;have mS:=l6 hr;have hs:=tF mS (ops:=ops) (W:=W) (k:=k);refine jY (C:=CC E st.bx w.drew) (W:=W) (Q:=kq X k .normal) hm hc (fun a w h=>h) (hs.cc rfl) ?_;have:=gJ (D:=⟨⟨ops,W,k,st,none⟩,E,w.drew⟩) mS.env.em 3000 true _ _ _ h (fun p hp=>by simpa using (tD _ _ p hp).2) E a w.drew hs;rw [tE] at this;rw [List.range_eq_range'];simp only [Array.length_toList] at this;exact this
def maskL:List Nat->Nat->List (List DV)->List (List DV)
 | _,_,[]=>[]
 | m,i,cs :: r=>(match m.contains i with | true=>[] | false=>cs) :: maskL m (i + 1) r
theorem qv (m:List Nat):∀ (l:List (List DV)) (i:Nat),(maskL m i l).length=l.length
 | [],_=>rfl
 | cs :: r,i=>by simp [maskL,qv m r]
theorem qw (m:List Nat):∀ (l:List (List DV)) (i j:Nat) cs,(maskL m i l)[j]? = some cs->cs=[]∨l[j]? = some cs
 | [],_,_,_,h=>by simp [maskL] at h
 | c :: r,i,0,cs,h=>by grind [maskL]
 | c :: r,i,j + 1,cs,h=>by
  simp only [maskL,List.getElem?_cons_succ] at h ⊢;exact qw m r (i + 1) j cs h
theorem sC {id:Nat} {ops:Array Oper} {k:List It} {st:St} (m:List Nat) (W:Nat->Bool) (hm:X.P.follows .mixedOrders=true) (hc:C9 ops W=true)
  (h:goD X ⟨ops,W,k,⟨st.sl,maskL m 0 st.bx,st.tk⟩,none⟩ 3000 true (nOps 0 ops.toList) st.sl st):s9 X id ops k st:=by
 intro E a w hr;have mS:=l6 hr;have hs:fV X ⟨⟨ops,W,k,⟨st.sl,maskL m 0 st.bx,st.tk⟩,none⟩,E,w.drew⟩ true E st.sl st a w.drew:=⟨mS,Ext.refl E,⟨[],by simp⟩,mS.tm,fun _=>⟨fun _ _ _ _ _ _=>rfl,mS.env.sub⟩⟩;refine jY (C:=CC E (maskL m 0 st.bx) w.drew) (W:=W) (Q:=kq X k .normal) hm hc (fun a w h=>h) (hs.cc rfl) ?_
 have Q6:tB E (maskL m 0 st.bx) w.drew:=⟨by rw [qv];exact mS.env.len,fun i cs hi bq=>by
  rcases qw m _ _ _ _ hi with h1 | h1
  ·exact (bq h1).elim
  ·exact mS.env.ey i cs h1⟩
 have:=gJ (D:=⟨⟨ops,W,k,⟨st.sl,maskL m 0 st.bx,st.tk⟩,none⟩,E,w.drew⟩) Q6 3000 true _ _ _ h (fun p hp=>by simpa using (tD _ _ p hp).2) E a w.drew hs;rw [tE] at this;rw [List.range_eq_range'];simp only [Array.length_toList] at this;exact this
def Uk (ops:Array Oper) (i:Nat):Bool:=
 match ops.toList[i]? with
 | some o=>
  match o.op with
  | .store ..=>true
  | _=>false
 | none=>false
theorem Nb {id:Nat} {ops:Array Oper} {k:List It} {st:St} (hm:X.P.follows .mixedOrders=true) (hc:C9 ops (Uk ops)=true)
  (h:goD X ⟨ops,Uk ops,k,st,none⟩ 3000 true (nOps 0 ops.toList) st.sl st):s9 X id ops k st:=yQ (Uk ops) hm hc h
theorem oY {D:Dr} {f:FuncId} {args bD:List DV} {d:Nat} {r:List (Nat × Oper)} (kV:Enters X.P f) (hd:(fY X.nt st.sl (some d) && fY X.nt s0 (some d))=true) {Φ:DV->List (List DV)->List TkE->Prop} (hc:Ev X.P f bD [] [] Φ) (ha:CcL [] 0 0 0 bD args)
  (hk:∀ De,Φ De [] []->put2 s0 st (some d) false [] De (goD X D 3000 c r)) (bh:X.still=false:=by exact rfl):AO X D c i r f args (some d) s0 st:=by
 refine ⟨kV,fun hl E0 wr hD E a w vs h hv=>(rr h.rel bh hc ha hv).mono ?_⟩;rintro e w' ⟨v,E',De,rfl,cu,hr,hΦ,hm,hx,hβ⟩
 have hh:∀ b,b < w.heap.size->w'.heap[b]? = w.heap[b]?:=fun b hb=>hm.block b hb (by
  rintro (h1 | ⟨y,h1,_⟩)
  ·simp [En.cl] at h1
  ·simp [En.cl] at h1)
 have hs:fc none E w E' w':=⟨hx,⟨[],by rw [hβ];simp⟩,fun j b hb _=>hh b (h.rel.env.bd (mG hb))⟩;have hC:=Fy h hs cu (fun j hj=>by cases hj);refine ⟨v,rfl,fun _=>hC,?_⟩;have Jx:fV X ⟨D,E0,wr⟩ c E' s0 st (a.put none v) w':=tC h hs cu (fun h1=>hC (h.cc h1)) (fun i x hx=>.inr ⟨hx,fun d hd=>by cases hd⟩) rfl;obtain ⟨s1,qu,ru,ep⟩:=jr Jx hd false [] De v (fun _ _ p hp=>by cases hp) (fun _=>hr) (fun hb=>by cases hb) (fun hn=>(hn (bf _)).elim) (hk De hΦ);exact gJ (D:=⟨D,E0,wr⟩) hD 3000 c r _ _ ru hl E' _ w' ep
theorem Nc {D:Dr} {f:FuncId} {args bD:List DV} {d:Nat} {r:List (Nat × Oper)} {De:DV} (kV:Enters X.P f) (hc:EvP X.P f bD De) (ha:CcL [] 0 0 0 bD args) (hd:(fY X.nt st.sl (some d) && fY X.nt s0 (some d))=true)
  (hk:put2 s0 st (some d) false [] De (goD X D 3000 c r)) (bh:X.still=false:=by exact rfl):AO X D c i r f args (some d) s0 st:=
 oY kV hd hc ha (fun _ hr=>hr ▸ hk) bh
end
end Dv
end Go.Proofs.YtphonmiflfhdbaaGreat
namespace Go.Proofs.YtphonmiflfhdbaaGreat
namespace Dv
open Go Go.RowKit
section
variable {P:Program} {ops:Array Oper} {C:World->Prop} {Q:Act->World->Prop} {W:Nat->Bool} {π π':Nat->Nat}
theorem GY {o:Oper} {i:Nat} {a:Act} {w:World} {K:Act->World->Prop} {Q':Exit->Act->World->Prop} (ho:ops[i]? = some o) (h:eo P ops o a w K):wpOp P ops Q' i K a w:=by
 unfold wpOp
 grind [eo,Az]
def chkT (ops:Array Oper) (x y:Nat):Bool:=
 (List.range ops.size).all fun i=>Nat.beq i x || Nat.beq i y ||
  match ops[i]? with
  | some o=>!isE o.op || ordB ops ops.size x i
  | none=>false
def se (x y:Nat):Nat->Nat->Bool:=fun j i=>Nat.beq j x && Nat.beq i y
theorem Df {x y:Nat} {Q':Exit->Act->World->Prop} (GZ:x≠y) (Tc:sb ops W π=true) (Ul:AM ops W π (se x y)=true) (X8:sb ops W π'=true) (Um:AM ops W π' (se y x)=true) (hT:chkT ops x y=true)
  (hQ:∀ a w,Q a w->Q' .normal a w):∀ (oV:Nat) (bH:Array Bool) (r1 r2:List Nat) (a:Act) (w:World),
  bH.size=ops.size->Dn ops bH->(∀ i,i∈r1↔i < ops.size/\bH.getD i true=false)->(∀ i,i∈r2↔i < ops.size/\bH.getD i true=false)->r1.Pairwise (fun a b=>π a < π b)->r2.Pairwise (fun a b=>π' a < π' b)->r1.length<=oV ->
   x∈r1->y∈r1->C w->runT P ops W C Q r1 a w->runT P ops W C Q r2 a w->wpAny P .any ops Q' oV bH a w:=by
 have n4:=AN Tc;have MB:=yO Tc;have Q7:=yO X8;have Zq:=Ul;have Zr:=Um;simp only [AM,List.all_eq_true,List.mem_range,Bool.or_eq_true,Bool.not_eq_true'] at Ul Um;intro oV
 induction oV with
 | zero=>grind
 | succ oV ih=>
  intro bH r1 r2 a w bY MC iI yG Nf Q8 hlen hx hy hC hr1 hr2;have X9:∀ i,i∈r1↔i∈r2:=fun i=>(iI i).trans (yG i).symm;have G0:r1.Nodup:=oF Nf;have v7:r2.Nodup:=oF Q8;have Ju:=wX Tc;refine ⟨fun h0=>?_,fun i hi=>?_⟩
  ·cases r1 with
   | nil=>cases hx
   | cons h rem=>
    have hh:=(iI h).1 (by simp);have hxx:ops[h]? = some ops[h]:=Array.getElem?_eq_getElem hh.1
    have:h∈Region.ready .any ops bH:=by
     refine mem_ready.2 ⟨hh.2,_,hxx,fun e he hb=>?_⟩;obtain ⟨ay,Zn⟩:=Ju h _ hxx e he hb;cases hg:bH.getD e.on false
     ·have IH:bH.getD e.on true=false:=by grind
      have hm:=(iI e.on).2 ⟨by omega,IH⟩;rcases cg hm with e1 | e1
      ·rw [e1] at ay;omega
      ·have:=(List.pairwise_cons.1 Nf).1 _ e1;omega
     ·rfl
    rw [h0] at this;cases this
  ·obtain ⟨M7,o,ho,iM⟩:=mem_ready.1 hi;have fX:=(Array.getElem?_eq_some_iff.1 ho).1;have II:i∈r1:=(iI i).2 ⟨fX,M7⟩;have Ng:i∈r2:=(X9 i).1 II;have iJ:∀ j,j∈r1->ordB ops ops.size j i=true->False:=by grind [mb]
   have Nh:i≠y->∀ j∈r1,j≠i->π j < π i->oU ops W j i=true:=by
    intro Td j hj _ ay;rcases Ul i fX j ((iI j).1 hj).1 with ((h1 | h1) | h1) | h1
    ·have:¬ Nat.blt (π j) (π i)=true:=by simp [h1]
     simp at this;omega
    ·simp [se] at h1;exact (Td h1.2).elim
    ·exact (iJ j hj h1).elim
    ·exact h1
   have Q9:i≠x->∀ j∈r2,j≠i->π' j < π' i->oU ops W j i=true:=by
    intro MD j hj _ ay;rcases Um i fX j ((yG j).1 hj).1 with ((h1 | h1) | h1) | h1
    ·have:¬ Nat.blt (π' j) (π' i)=true:=by simp [h1]
     simp at this;omega
    ·simp [se] at h1;exact (MD h1.2).elim
    all_goals grind
   have Ra:Dn ops (bH.setIfInBounds i true):=by
    intro k z hz hk e he hb;by_cases vW:k=i
    ·subst vW;rw [ho] at hz;simp only [oI] at hz;subst hz;exact getD_set_true (iM e he hb)
    ·rw [getD_set_ne true (Ne.symm vW)] at hk;exact getD_set_true (MC k z hz hk e he hb)
   have Fz:∀ (rem:List Nat),rem.Nodup->(∀ i,i∈rem↔i < ops.size/\bH.getD i true=false)->∀ k,k∈rem.erase i↔k < ops.size/\(bH.setIfInBounds i true).getD k true=false:=by
    intro rem hnd Jv k;rw [List.Nodup.mem_erase_iff hnd];by_cases vW:k=i
    ·subst vW;simp [bY,fX]
    ·rw [getD_set_ne true (Ne.symm vW)]
     grind
   refine GY ho ?_;by_cases MD:i=x
   ·subst MD;have bh:=jq n4 MB ho r1 a w (fun _=>hC) hr1 II (Nh GZ) Nf;refine jm ?_ bh;rintro a' w' ⟨Jt,mS⟩;refine n5 (C:=C) (se i y) Tc Zq hQ oV _ (r1.erase i) a' w' (by simp [bY]) Ra (Fz r1 G0 iI) (Nf.sublist List.erase_sublist) (by rw [List.length_erase_of_mem II];omega) ?_ ?_ mS
    ·intro j hj k _;cases iV:se i y j k
     ·rfl
     ·simp_all [se]
    ·rintro ⟨l,z,hl,hz,hL⟩;refine Jt ?_ hC;have Af:=List.mem_of_mem_erase hl;have bq:l≠i:=((List.Nodup.mem_erase_iff G0).1 hl).1;rcases yP Nf II Af bq.symm with h1 | h1
     ·exact MB i l z o h1 hz ho hL
     ·have:=Nh GZ l Af bq h1;obtain ⟨_,_,_,h4⟩:=jo this hz ho
      grind
   ·by_cases Td:i=y
    ·subst Td;have bh:=jq n4 Q7 ho r2 a w (fun _=>hC) hr2 Ng (Q9 (Ne.symm GZ)) Q8;refine jm ?_ bh;rintro a' w' ⟨Jt,mS⟩;refine n5 (C:=C) (se i x) X8 Zr hQ oV _ (r2.erase i) a' w' (by simp [bY]) Ra (Fz r2 v7 yG) (Q8.sublist List.erase_sublist) ?_ ?_ ?_ mS
     ·have e1:r1.length=r2.length:=(List.perm_iff_count.2 (fun z=>by rw [G0.count,v7.count];simp [X9 z])).length_eq;rw [List.length_erase_of_mem Ng];omega
     ·intro j hj k _;cases iV:se i x j k
      ·rfl
      ·simp_all [se]
     ·rintro ⟨l,z,hl,hz,hL⟩;refine Jt ?_ hC;have Af:=List.mem_of_mem_erase hl;have bq:l≠i:=((List.Nodup.mem_erase_iff v7).1 hl).1;rcases yP Q8 Ng Af bq.symm with h1 | h1
      ·exact Q7 i l z o h1 hz ho hL
      ·have:=Q9 (Ne.symm GZ) l Af bq h1;obtain ⟨_,_,_,h4⟩:=jo this hz ho
       grind
    ·have Zj:isE o.op=false:=by
      simp only [chkT,List.all_eq_true,List.mem_range,Bool.or_eq_true,Nat.beq_eq] at hT
      grind
     obtain ⟨v,Zs⟩:=nZ n4 ho Zj r1 a w hr1 II (Nh Td) Nf;have TH:=jq n4 MB ho r1 a w (fun _=>hC) hr1 II (Nh Td) Nf;have C0:=jq n4 Q7 ho r2 a w (fun _=>hC) hr2 Ng (Q9 MD) Q8;have ru:=ma Zs (fun _=>hC) TH;have G1:=ma Zs (fun _=>hC) C0;refine l9 Zs (fun _=>hC) ?_
     exact ih _ (r1.erase i) (r2.erase i) _ w (by simp [bY]) Ra (Fz r1 G0 iI) (Fz r2 v7 yG) (Nf.sublist List.erase_sublist) (Q8.sublist List.erase_sublist) (by rw [List.length_erase_of_mem II];omega)
      ((List.Nodup.mem_erase_iff G0).2 ⟨Ne.symm MD,hx⟩) ((List.Nodup.mem_erase_iff G0).2 ⟨Ne.symm Td,hy⟩) hC ru.2 G1.2
end
def selL (ops:List Oper):List Nat->List (Nat × Oper)
 | []=>[]
 | i :: r=>
  match ops[i]? with
  | some o=>(i,o) :: selL ops r
  | none=>selL ops r
theorem Jy {ops:List Oper} {l:List Nat} {p:Nat × Oper} (h:p∈selL ops l):ops[p.1]? = some p.2:=by
 induction l with
 | nil=>cases h
 | cons i r ih=>grind [selL]
def plc:List Nat->Nat->Nat
 | [],_=>0
 | x :: r,i=>if Nat.beq x i then 0 else plc r i + 1
def Jz (ops:Array Oper) (l:List Nat):Bool:=
 (selL ops.toList l).map (·.1) == l && (List.range ops.size).all (fun i=>l.contains i) && l.all (fun i=>Nat.blt i ops.size) && Nat.ble l.length ops.size && Ya (plc l) l
where Ya (f:Nat->Nat):List Nat->Bool
 | []=>true
 | x :: r=>r.all (fun y=>Nat.blt (f x) (f y)) && Ya f r
theorem tG {f:Nat->Nat}:∀ {l:List Nat},Jz.Ya f l=true->l.Pairwise (fun a b=>f a < f b)
 | [],_=>List.Pairwise.nil
 | x :: r,h=>by
  simp only [Jz.Ya,aS,List.all_eq_true,Nat.blt_eq] at h;exact List.pairwise_cons.2 ⟨h.1,tG h.2⟩
def Un (ops:Array Oper) (W:Nat->Bool) (l l':List Nat) (x y:Nat):Bool:=
 !Nat.beq x y && Nat.blt x ops.size && Nat.blt y ops.size && Jz ops l && Jz ops l' && sb ops W (plc l) && AM ops W (plc l) (se x y) && sb ops W (plc l') && AM ops W (plc l') (se y x) && chkT ops x y
def swp (i j k:Nat):Nat:=
 match Nat.beq k i with
 | true=>j
 | false=>
  match Nat.beq k j with
  | true=>i
  | false=>k
theorem kZ (i j k:Nat):swp i j (swp i j k)=k:=by
 have hb:∀ a b:Nat,Nat.beq a b=decide (a=b):=fun a b=>by
  by_cases h:a=b
  ·subst h;simp
  ·rw [decide_eq_false h];cases h1:Nat.beq a b
   ·rfl
   ·exact (h (sU h1)).elim
 grind [swp]
mutual
def renD (f:Nat->Nat):DV->DV
 | .v x=>.v x
 | .ud=>.ud
 | .agg l=>.agg (renL f l)
 | .tup l=>.tup (renL f l)
 | .sl e es tk=>.sl e es tk
 | .pt cs o=>.pt cs o
 | .loc i o=>.loc (f i) o
 | .el i o=>.el (f i) o
 | .ms i e o l c=>.ms (f i) e o l c
 | .fn g l r=>.fn g (renL f l) (renL f r)
 | .ri t x=>.ri t (renD f x)
def renL (f:Nat->Nat):List DV->List DV
 | []=>[]
 | d :: r=>renD f d :: renL f r
end
def renS (f:Nat->Nat):List (Nat × Sl)->List (Nat × Sl)
 | []=>[]
 | (k,⟨gs,s⟩) :: r=>(k,⟨gs,renD f s⟩) :: renS f r
def renO (f:Nat->Nat):List (List DV)->List (List DV)
 | []=>[]
 | cs :: r=>renL f cs :: renO f r
def swL {α:Type} (i j:Nat) (l:List α):List α:=
 match l[i]?,l[j]? with
 | some a,some b=>(l.set i b).set j a
 | _,_=>l
def ez (i j:Nat) (S:St):St:=⟨renS (swp i j) S.sl,swL i j (renO (swp i j) S.bx),S.tk⟩
theorem tH (f:Nat->Nat):∀ (l:List (List DV)) (k:Nat),(renO f l)[k]? = (l[k]?).map (renL f)
 | [],k=>by simp [renO]
 | c :: r,0=>by simp [renO]
 | c :: r,k + 1=>by simp only [renO,List.getElem?_cons_succ];exact tH f r k
theorem dK (f:Nat->Nat):∀ (l:List (List DV)),(renO f l).length=l.length
 | []=>rfl
 | c :: r=>by simp [renO,dK f r]
theorem AQ (f:Nat->Nat):∀ (l:List (Nat × Sl)) (k:Nat),get (renS f l) k=(get l k).map fun x=>⟨x.gs,renD f x.s⟩
 | [],k=>rfl
 | (i,⟨gs,s⟩) :: r,k=>by
  simp only [renS,cR];split
  ·rfl
  ·exact AQ f r k
theorem eA {α:Type} (i j:Nat) (l:List α):(swL i j l).length=l.length:=by
 unfold swL;split<;>simp
theorem fw {α:Type} {i j:Nat} {l:List α} (hi:i < l.length) (hj:j < l.length) (k:Nat):(swL i j l)[k]? = l[swp i j k]?:=by
 have hb:∀ a b:Nat,Nat.beq a b=true↔a=b:=fun a b=>by simp
 grind [swL,swp]
theorem Ni {α:Type} {i j:Nat} {l:List α} (hi:i < l.length) (hj:j < l.length):swL i j (swL i j l)=l:=by
 apply List.ext_getElem?
 grind [fw,eA,kZ]
section
variable {E:En} {i j:Nat}
mutual
theorem Rv.Dg (hi:i < E.β.length) (hj:j < E.β.length):∀ {d:DV} {v:Value},Rv E (renD (swp i j) d) v->Rv ⟨E.c,swL i j E.β,E.tk,E.τ⟩ d v
 | .v x,v,h=>by simp only [renD] at h;unfold Rv at h ⊢;exact h
 | .ud,v,h=>by simp only [renD] at h;unfold Rv at h ⊢;exact h
 | .sl e es tk,v,h=>by simp only [renD] at h;unfold Rv at h ⊢;exact h
 | .pt cs o,v,h=>by simp only [renD] at h;unfold Rv at h ⊢;exact h
 | .loc k o,v,h=>by grind [renD,Rv,swL,fw]
 | .el k o,v,h=>by grind [renD,Rv,swL,fw]
 | .ms k e o l c,v,h=>by grind [renD,Rv,swL,fw]
 | .agg l,v,h=>by
  simp only [renD] at h;unfold Rv at h ⊢;obtain ⟨vs,h1,h2,h3⟩:=h;exact ⟨vs,h1,RvL.Dg hi hj h2,h3⟩
 | .tup l,v,h=>by
  simp only [renD] at h;unfold Rv at h ⊢;obtain ⟨vs,h1,h2⟩:=h;exact ⟨vs,h1,RvL.Dg hi hj h2⟩
 | .fn g l r,v,h=>by
  simp only [renD] at h;unfold Rv at h ⊢;obtain ⟨l',r',h1,h2,h3⟩:=h;exact ⟨l',r',h1,RvL.Dg hi hj h2,RvL.Dg hi hj h3⟩
 | .ri t x,v,h=>by
  simp only [renD] at h;unfold Rv at h ⊢;obtain ⟨z,h1,h2⟩:=h;exact ⟨z,h1,Rv.Dg hi hj h2⟩
theorem RvL.Dg (hi:i < E.β.length) (hj:j < E.β.length):∀ {l:List DV} {vs:List Value},RvL E (renL (swp i j) l) vs->RvL ⟨E.c,swL i j E.β,E.tk,E.τ⟩ l vs
 | [],vs,h=>by simp only [renL,RvL] at h ⊢;exact h
 | d :: r,vs,h=>by
  simp only [renL,RvL] at h ⊢;obtain ⟨v,s,h1,h2,h3⟩:=h;exact ⟨v,s,h1,Rv.Dg hi hj h2,RvL.Dg hi hj h3⟩
end
end
theorem FA {α:Type} {i j:Nat} {l:List α} (hi:i < l.length) (hj:j < l.length) {x:α}:x∈swL i j l↔x∈l:=by grind [swL,fw,eA,Ni]
theorem G2 {i j:Nat} {l:List Nat} (hi:i < l.length) (hj:j < l.length) (h:l.Nodup):(swL i j l).Nodup:=by grind [swp,eA,swL,fw,kZ]
theorem qx {P:Program} {ops:Array Oper} {W:Nat->Bool} {C:World->Prop} {Q Q':Act->World->Prop} (hQ:∀ a w,Q a w->Q' a w):∀ {l:List Nat} {a:Act} {w:World},runT P ops W C Q l a w->runT P ops W C Q' l a w
 | [],a,w,h=>hQ _ _ h
 | i :: r,a,w,h=>by
  simp only [runT] at h ⊢;split at h
  ·exact h.elim
  ·split at h
   ·rename_i hE;rw [ap hE];exact jm (fun a w hk=>⟨hk.1,qx hQ hk.2⟩) h
   ·rename_i hE;rw [ai hE];obtain ⟨v,h1,h2,h3⟩:=h;exact ⟨v,h1,h2,qx hQ h3⟩
section
variable {X:Ctx} {E:En} {S:St} {a:Act} {w:World} {i j:Nat}
theorem AR (hX:X.bt=[]) (h:Rel X E (ez i j S) a w) (ID:X.n0<=i) (Ay:X.n0<=j) (hi:i < S.bx.length) (hj:j < S.bx.length):Rel X ⟨E.c,swL i j E.β,E.tk,E.τ⟩ S a w:=by
 have hlen:E.β.length=S.bx.length:=by
  rw [h.env.len];simp only [ez,eA,dK]
 have fX:i < E.β.length:=by rw [hlen];exact hi
 have iV:j < E.β.length:=by rw [hlen];exact hj
 have pY:∀ k,(ez i j S).bx[k]? = (S.bx[swp i j k]?).map (renL (swp i j)):=fun k=>by grind [ez,fw,dK,tH]
 exact {
  env:={
   len:=by rw [eA];exact hlen
   tl:=h.env.tl
   ey:=fun k cs hk=>by
    obtain ⟨b,ty,arr,hb,hw,hc⟩:=h.env.ey (swp i j k) (renL (swp i j) cs) (by rw [pY,kZ,hk];rfl);exact ⟨b,ty,arr,by rw [fw fX iV];exact hb,hw,RvL.Dg fX iV hc.1,hc.2⟩
   inj:=G2 fX iV h.env.inj
   sub:=h.env.sub
   pc:=fun x v hx hm=>h.env.pc x v hx ((FA fX iV).1 hm)
   cC:=fun k q y hq hy=>by
    rcases h.env.cC k q y hq hy with h1 | ⟨g,cap,cur,rfl,h1,h2,h3,h4,h5,h6⟩
    ·exact .inl h1
    ·exact .inr ⟨g,cap,cur,rfl,h1,h2,h3,h4,fun hm=>h5 ((FA fX iV).1 hm),h6⟩
   ji:=h.env.ji }
  tk:=h.tk
  sz:=h.sz
  tm:=fun k x hx=>by
   have:=h.tm k ⟨x.gs,renD (swp i j) x.s⟩ (by simp only [ez];rw [AQ,hx];rfl)
   grind [Rv.Dg]
  df:=h.df
  nw:={
   c:=h.nw.c
   cn:=h.nw.cn
   β:=by
    obtain ⟨r,hr,hl⟩:=h.nw.β;have hE0:X.E0.β.length=X.n0:=X.wJ;refine ⟨(swL i j E.β).drop X.n0,?_,fun b hb=>?_⟩
    ·grind [swL,fw,swp]
    ·have hnd:=h.env.inj;obtain ⟨k,hk⟩:=List.mem_iff_getElem?.1 hb;rw [List.getElem?_drop,fw fX iV] at hk;have hge:X.n0<=swp i j (X.n0 + k):=by grind [swp]
     rw [hr,List.getElem?_append_right (by omega)] at hk;exact hl b (mG hk)
   tk:=h.nw.tk
   tn:=h.nw.tn
   l0:=h.nw.l0 }
  fr:=h.fr
  sh:=h.sh
  bt:=.nil hX }
theorem FB (hX:X.bt=[]) (h:Rel X E (ez i j S) a w) (ID:X.n0<=i) (Ay:X.n0<=j) (hi:i < S.bx.length) (hj:j < S.bx.length):∃ E',Rel X E' S a w:=⟨_,AR hX h ID Ay hi hj⟩
end
def FC (sl:List (Nat × Sl)):List (Nat × Sl)->Prop
 | []=>True
 | p :: r=>get sl p.1=some p.2/\FC sl r
theorem tI {sl:List (Nat × Sl)}:∀ {l:List (Nat × Sl)},FC sl l->∀ i x,get l i=some x->get sl i=some x
 | [],_,i,x,hx=>by cases hx
 | (k,y) :: r,h,i,x,hx=>by
  simp only [cR] at hx;split at hx
  ·rename_i vW;subst vW;simp only [oI] at hx;subst hx;exact h.1
  ·exact tI h.2 i x hx
def uniqS:List Nat->List (Nat × Sl)->List (Nat × Sl)
 | _,[]=>[]
 | m,p :: r=>
  match muB m p.1 with
  | true=>uniqS m r
  | false=>p :: uniqS (p.1 :: m) r
theorem qy:∀ (l:List (Nat × Sl)) (m:List Nat) (i:Nat),muB m i=false->get (uniqS m l) i=get l i
 | [],_,_,_=>rfl
 | (k,x) :: r,m,i,h=>by
  simp only [uniqS]
  cases hm:muB m k with
  | true=>
   simp only;rw [qy r m i h,cR,ai];rintro rfl;rw [hm] at h;cases h
  | false=>
   simp only [cR];by_cases hk:k=i
   ·rw [ap hk,ap hk]
   ·rw [ai hk,ai hk]
    exact qy r (k :: m) i (by simp only [muB,h,Bool.or_false];cases hb:Nat.beq k i with
     | true=>exact (hk (Nat.eq_of_beq_eq_true hb)).elim
     | false=>rfl)
def n7 (s S:St):Prop:=s.bx=S.bx/\s.tk=S.tk/\FC s.sl (uniqS [] S.sl)
theorem JA {X:Ctx} {E:En} {s S:St} {a:Act} {w:World} (h:Rel X E s a w) (hs:n7 s S):Rel X E S a w where
 env:=by rw [<- hs.1];exact h.env
 tk:=by rw [<- hs.2.1];exact h.tk
 sz:=h.sz
 tm:=fun i x hx=>h.tm i x (tI hs.2.2 i x (by rw [qy _ _ _ rfl];exact hx))
 df:=h.df
 nw:=h.nw
 fr:=h.fr
 sh:=h.sh
 bt:=h.bt
theorem mT {X:Ctx} {id:Nat} {ops:Array Oper} {k:List It} {st:St} (W:Nat->Bool) (x y:Nat) (l l':List Nat) (i j:Nat) (hm:X.P.follows .mixedOrders=true) (hc:Un ops W l l' x y=true) (S:St)
  (h:goD X ⟨ops,W,[.CT fun s=>s=S],st,none⟩ 3000 true (selL ops.toList l) st.sl st) (h':goD X ⟨ops,W,[.CT fun s=>n7 s (ez i j S)],st,none⟩ 3000 true (selL ops.toList l') st.sl st)
  (Ad:(Nat.ble X.n0 i && Nat.ble X.n0 j && Nat.blt i S.bx.length && Nat.blt j S.bx.length)=true) (hk:go X 4000 k S) (hX:X.bt=[]:=by exact rfl):s9 X id ops k st:=by
 intro E a w hr;have mS:=l6 hr;simp only [aS,Nat.ble_eq,Nat.blt_eq] at Ad;simp only [Un,Jz,aS,List.all_eq_true,Nat.blt_eq,Nat.ble_eq,beq_iff_eq,List.mem_range,Bool.not_eq_true'] at hc;obtain ⟨⟨⟨⟨⟨⟨⟨⟨⟨GZ,CJ⟩,TI⟩,⟨⟨⟨h1a,Te⟩,h1c⟩,hlen⟩,h1d⟩,⟨⟨⟨h2a,Zt⟩,h2c⟩,_⟩,h2d⟩,Tc⟩,Ul⟩,X8⟩,Um⟩,hT⟩:=hc
 have hQ:∀ S',(S'=S∨S'=ez i j S)->∀ a w,(∃ st E,Rel X E st a w/\(st=S' ∨ n7 st S'))->kq X k .normal a w:=by
  rintro S' hS a w ⟨qu,E1,hrel0,Aw⟩;have cu:Rel X E1 S' a w:=by grind [JA]
  rcases hS with rfl | rfl
  ·exact go_sound 4000 _ _ hk E1 a w cu
  ·obtain ⟨E2,AK⟩:=FB hX cu Ad.1.1.1 Ad.1.1.2 Ad.1.2 Ad.2;exact go_sound 4000 _ _ hk E2 a w AK
 have key:∀ (S':St),(S'=S∨S'=ez i j S)->∀ (l:List Nat),(selL ops.toList l).map (·.1)=l->∀ J:St->Prop,(∀ s,J s->s=S' ∨ n7 s S')->(goD X ⟨ops,W,[.CT J],st,none⟩ 3000 true (selL ops.toList l) st.sl st) ->
   runT X.P ops W (CC E st.bx w.drew) (fun a w=>kq X k .normal a w) l a w.drew:=by
  intro S' hS l hl J hJ h;have hs:=tF mS (ops:=ops) (W:=W) (k:=[.CT J]);have:=gJ (D:=⟨⟨ops,W,[.CT J],st,none⟩,E,w.drew⟩) mS.env.em 3000 true _ _ _ h (fun p hp=>by simpa using Jy hp) E a w.drew hs;rw [hl] at this;exact qx (fun a w ⟨st,E1,h1,h2⟩=>hQ S' hS a w ⟨st,E1,h1,hJ st h2⟩) this
 have e1:=key S (.inl rfl) l h1a _ (fun s hs=>.inl hs) h;have e2:=key (ez i j S) (.inr rfl) l' h2a _ (fun s hs=>.inr hs) h';refine wp_region_any hm ?_
 have Dh:∀ (l:List Nat),(∀ i,i < ops.size->l.contains i=true)->(∀ i∈l,i < ops.size)->∀ i,i∈l↔i < ops.size/\(Array.replicate ops.size false).getD i true=false:=by
  intro l ha hb i;constructor
  all_goals simp_all
 have Zu:x≠y:=by
  intro e;subst e;simp at GZ
 refine Df (C:=CC E st.bx w.drew) (π:=plc l) (π':=plc l') (Q:=kq X k .normal) Zu Tc Ul X8 Um hT (fun a w h=>h) ops.size (Array.replicate ops.size false) l l' a _ (by simp) ?_ (Dh l Te h1c) (Dh l' Zt h2c) (tG h1d) (tG h2d) hlen
  (by simpa using Te x CJ) (by simpa using Te y TI) ⟨fun _ _ _ _ _ _=>rfl,mS.env.sub⟩ e1 e2
 intro i o ho hl;have:i < ops.size:=(Array.getElem?_eq_some_iff.1 ho).1;simp [this] at hl
end Dv
end Go.Proofs.YtphonmiflfhdbaaGreat
namespace Go.Proofs.YtphonmiflfhdbaaGreat
namespace Dv
open Go Go.RowKit
section
variable {X:Ctx} {st:St} {k:List It} {E:En} {a:Act} {w:World}
noncomputable def En.FD (E:En) (w:World):En:=⟨qp E 0 w,[],[],[]⟩
theorem Nj {bx:List (List DV)} (h:Env E bx w):Env (E.FD w) [] w where
 len:=rfl
 tl:=rfl
 ey:=by simp
 inj:=List.nodup_nil
 sub:=fun x u hx=>by
  rcases dN hx with ⟨_,h1⟩ | h1
  ·exact h1
  ·exact h.sub x u h1
 pc:=by simp [En.FD]
 cC:=by simp [En.FD]
 ji:=by simp [En.FD]
theorem Nk {bx:List (List DV)} (h:Env E bx w):IF E (E.FD w) bx 0 where
 c:=fun x u hx=>kW h hx
 fz:=fun i cs hi cT=>by
  obtain ⟨b,ty,arr,hb,hw,hc⟩:=h.ey i cs cT;refine ⟨b,arr,hb,hc,fun j u hj=>?_⟩;show qp E 0 w ⟨b,j,none⟩=some u;unfold qp;rw [ap ⟨i,hi,hb⟩,ch hw];simpa using hj
theorem iO {P:Program} {s:Bool} {bx:List (List DV)} (h:Env E bx w) {f:FuncId} {args bD:List DV} {vs:List Value} {y:DV} (hc:S9 s P f bD [] [] fun d _ _=>d=y) (ha:CcL bx 0 0 0 bD args) (hv:RvL E args vs) :
  Calls P f vs.toArray w fun e w'=>∃ v E2,e = .returned v/\Rv E2 y v/\r7 (fun _=>False) w w' /\ (s=true->∃ q,w'=w.drewN q):=by
 have TF:RvL (E.FD w) bD vs:=CcL.sound (Nk h) (GR.zero _ _) ha hv;refine (hc (E.FD w) w vs (Nj h) rfl TF).mono ?_;rintro e w' ⟨v,rfl,hm,hs,d,os,E2,he,hβ,l8,hn,QU,rfl⟩;refine ⟨v,E2,rfl,QU,⟨hm.os,hm.tape,hm.output,hm.size,fun i hi _=>hm.block i hi ?_⟩,hs⟩;rintro (h1 | ⟨y,h1,_⟩)
 ·simp [En.FD] at h1
 ·simp [En.FD] at h1
theorem yR {f:FuncId} {args bD:List DV} {d:Nat} {y:Value} (kV:Enters X.P f) (hc:EvP X.P f bD (.v y)) (ha:CcL st.bx 0 0 0 bD args) (hd:fY X.nt st.sl (some d)=true)
  (hk:go X 4000 k ⟨(d,⟨[],.v y⟩) :: st.sl,st.bx,st.tk⟩) (bh:X.still=false:=by exact rfl):CallG X f args (some d) k st:=by
 refine ⟨kV,bh,fun E a w vs h hv=>(iO h.env hc ha hv).mono ?_⟩;rintro e w' ⟨v,E2,rfl,hr,hm,_⟩;have hh:∀ i,i < w.heap.size->w'.heap[i]? = w.heap[i]?:=fun i hi=>hm.block i hi (fun h=>h);have cu:Rel X E st a w':=cV h (Ext.refl E) (h.env.jW hh) h.tk h.nw (h.fr.cm hm.os hm.tape hm.output hm.size fun i hi=>.inr (hh i hi)) (nQ bh) (h.bt.jW fun b hb=>hh b (h.env.bd hb));unfold Rv at hr;exact go_sound 4000 _ _ hk E _ w' (bu cu hd (.v y) v (by unfold Rv;exact hr))
end
end Dv
end Go.Proofs.YtphonmiflfhdbaaGreat
namespace Go.Proofs.YtphonmiflfhdbaaGreat
namespace Dv
open Go Go.RowKit
def JB (bx:List (List DV)) (N m:Nat) (sl:List (Nat × Sl)):List (Nat × Sl)->Prop
 | []=>True
 | p :: r=>(∃ x,get sl p.1=some ⟨p.2.gs,x⟩/\Cc bx N N m p.2.s x)/\JB bx N m sl r
theorem wY {bx:List (List DV)} {N m:Nat} {sl:List (Nat × Sl)}:∀ {l:List (Nat × Sl)},JB bx N m sl l->∀ i x',get l i=some x' -> ∃ x,get sl i=some ⟨x'.gs,x⟩/\Cc bx N N m x'.s x
 | [],_,i,x',hx=>by cases hx
 | (k,y) :: r,h,i,x',hx=>by
  simp only [cR] at hx;split at hx
  ·rename_i vW;subst vW;simp only [oI] at hx;subst hx;exact h.1
  ·exact wY h.2 i x' hx
section
variable {X:Ctx} {E:En} {st st':St} {a:Act} {w:World} {k:List It}
theorem FE (h:Rel X E st a w) (N:Nat) (hN:X.n0<=N) (FF:N<=st.bx.length) (pY:lQ st.bx N N st.tk.length st'.bx (st.bx.take N)) (l8:st'.tk=st.tk) (oP:JB st.bx N st.tk.length st.sl st'.sl):∃ E',Rel X E' st' a w:=by
 obtain ⟨r,QP,Ze⟩:=h.nw.β;have hlen:E.β.length=st.bx.length:=h.env.len
 have dM:∀ (i:Nat) b,X.n0<=i->E.β[i]? = some b->b∈r:=fun i b hi hb=>by
  rw [QP,List.getElem?_append_right (by rw [X.wJ];exact hi)] at hb;exact mG hb
 let E':En:=⟨qp E N w,E.β.take N,E.tk,E.τ⟩
 have MY:IF E E' st.bx N:={
  c:=fun x u hx=>kW h.env hx
  fz:=fun i cs hi cT=>by
   obtain ⟨b,ty,arr,hb,hw,hc⟩:=h.env.ey i cs cT;refine ⟨b,arr,hb,hc,fun j u hj=>?_⟩;show qp E N w ⟨b,j,none⟩=some u;unfold qp;rw [ap ⟨i,hi,hb⟩,ch hw]
   simpa using hj }
 have yK:GR E E' N st.tk.length:={
  β:=fun i b hi hb=>by show (E.β.take N)[i]? = _;rw [bT,ap hi];exact hb
  tk:=fun k hk=>⟨rfl,rfl⟩ }
 have QQ:∀ (i:Nat) b,N<=i->E.β[i]? = some b->b ∉ E.β.take N:=fun i b hi hb hm=>by
  obtain ⟨j,hj⟩:=List.getElem?_of_mem hm;rw [bT] at hj;split at hj
  ·rename_i hjN;have:=(List.getElem?_inj (gS hb).1 h.env.inj).1 (hb.trans hj.symm);omega
  ·cases hj
 obtain ⟨kL,T3⟩:=pY.get;refine ⟨E',?_⟩
 exact {
  env:={
   len:=by grind
   tl:=h.env.tl
   ey:=fun i cs' hi=>by
    obtain ⟨cs,cT,AB⟩:=T3 i cs' hi;rw [bT] at cT;split at cT
    ·rename_i ay;obtain ⟨b,ty,arr,hb,hw,hc⟩:=h.env.ey i cs cT;exact ⟨b,ty,arr,yK.β i b ay hb,hw,CcL.sound MY yK AB hc.1,hc.2⟩
    ·cases cT
   inj:=h.env.inj.sublist (List.take_sublist _ _)
   sub:=fun x u hx=>by
    rcases dN hx with ⟨_,h1⟩ | h1
    ·exact h1
    ·exact h.env.sub x u h1
   pc:=fun x u hx hm=>by
    rcases dN hx with ⟨⟨i,hi,hb⟩,_⟩ | h1
    ·exact QQ i _ hi hb hm
    ·exact h.env.pc x u h1 (List.mem_of_mem_take hm)
   cC:=fun k q y hq hy=>by
    rcases h.env.cC k q y hq hy with h1 | ⟨g,cap,cur,rfl,h1,h2,h3,h4,h5,h6⟩
    ·exact .inl h1
    ·refine .inr ⟨g,cap,cur,rfl,h1,⟨h2.1,h2.2.mono fun _ _ hx=>kW h.env hx⟩,h3,h4,fun hm=>h5 (List.mem_of_mem_take hm),fun x u hx hg=>?_⟩;rcases dN hx with ⟨⟨i,hi,hb⟩,_⟩ | h7
     all_goals grind
   ji:=h.env.ji }
  tk:=by rw [l8];exact h.tk
  sz:=h.sz
  tm:=fun i x' Ac=>by
   obtain ⟨x,hx,AB⟩:=wY oP i x' Ac;have:=h.tm i _ hx
   grind [Cc.sound]
  df:=h.df
  nw:={
   c:=fun x u hx=>kW h.env (h.nw.c x u hx)
   cn:=fun x u hx=>by
    rcases dN hx with ⟨⟨i,hi,hb⟩,_⟩ | h1
    ·grind
    ·exact h.nw.cn x u h1
   β:=by
    refine ⟨r.take (N - X.n0),?_,fun b hb=>Ze b (List.mem_of_mem_take hb)⟩;show E.β.take N=_;rw [QP,List.take_append,List.take_of_length_le (by rw [X.wJ];omega),X.wJ]
   tk:=h.nw.tk
   tn:=h.nw.tn
   l0:=h.nw.l0 }
  fr:=h.fr
  sh:=h.sh
  bt:=h.bt.sub _ }
theorem JC {c:Code} (N:Nat) (qu:St) (hN:Nat.ble X.n0 N=true) (FF:Nat.ble N st.bx.length=true) (l8:qu.tk=st.tk) (pY:lQ st.bx N N st.tk.length qu.bx (st.bx.take N)) (oP:JB st.bx N st.tk.length st.sl qu.sl)
  (hk:rj X c k qu):rj X c k st:=by
 intro E a w h;obtain ⟨E',h'⟩:=FE h N (nL hN) (nL FF) pY l8 oP;exact hk E' a w h'
theorem dA {n0 m0:Nat} {st st':St} (n:Nat) (q:TkE) (hq:q.new=true) (hn:Nat.ble n st.bx.length=true) (h3:st.tk ++ [q]=st'.tk) (h2:WeLL n st.tk.length st'.tk (st.bx.take n) st'.bx) (h4:Nat.ble n0 n=true) (h5:Nat.ble m0 st.tk.length=true)
  (h:nF n st.tk.length st'.tk st.sl st'.sl):oT n0 m0 st st':=by
 have hl:(st.bx.take n).length=n:=by simp_all
 exact ⟨st.tk,[],[q],st.bx.take n,st.bx.drop n,by simpa using h5,by rw [hl];simpa using h4,by simp,h3.symm,by simpa using hq,(List.take_append_drop n st.bx).symm,by rw [hl];exact h2,by rw [hl];exact h⟩
end
end Dv
end Go.Proofs.YtphonmiflfhdbaaGreat
namespace Go.Proofs.YtphonmiflfhdbaaGreat
namespace Dv
open Go Go.RowKit
section
variable {X:Ctx} {st:St} {k:List It} {E:En} {a:Act} {w:World}
theorem k0 {f:FuncId} {rest JD cs cs':List DV} {i d:Nat} (kV:Enters X.P f) (hd:fY X.nt st.sl (some d)=true) (pY:st.bx[i]? = some cs) (cT:CcL [] 0 0 0 cs' cs) (ha:CcL [] 0 0 0 JD rest)
  {Φ:DV->List (List DV)->List TkE->Prop} (hc:Ev X.P f (.loc 0 0 :: JD) [cs'] [] Φ) (j9:∀ r os tk,Φ r os tk->clB 0 0 r=true/\∀ qz∈os,clB.clL 0 0 qz=true)
  (hk:∀ r qz,Φ r [qz] []->go X 4000 k ⟨(d,⟨[],r⟩) :: st.sl,st.bx.set i qz,st.tk⟩) (bh:X.still=false:=by exact rfl) (hX:X.bt=[]:=by exact rfl):CallG X f (.loc i 0 :: rest) (some d) k st:=by
 refine ⟨kV,bh,fun E a w vs h hv=>?_⟩;simp only [RvL] at hv;obtain ⟨v1,vr,rfl,h1,hvr⟩:=hv;unfold Rv at h1;obtain ⟨b,hb,rfl⟩:=h1;obtain ⟨b',ty,arr,fv,hw,AB⟩:=h.env.ey i cs pY;rw [hb] at fv;simp only [oI] at fv;subst fv;have Ag:b∈E.β:=mG hb;have Rb:=h.env.bd Ag
 let E1:En:=⟨E.c,[b],[],[]⟩
 have hx1:Ext E.cl E1:=⟨fun _ _ h=>h,fun j b hj=>by simp [En.cl] at hj,fun k q hk=>by simp [En.cl] at hk⟩;have hfz:IF E E.cl [] 0:=⟨fun _ _ h=>h,fun i cs _ hi=>by simp at hi⟩
 have Zv:Env E1 [cs'] w:={
  len:=rfl
  tl:=rfl
  ey:=fun j Uo hj=>by
   cases j with
   | succ j=>simp at hj
   | zero=>
    simp only [List.getElem?_cons_zero,oI] at hj;subst hj;refine ⟨b,ty,arr,rfl,hw,RvL.mono hx1 (CcL.sound hfz (GR.zero _ _) cT AB.1),AB.2⟩
  inj:=by simp [E1]
  sub:=h.env.sub
  pc:=fun x v hx hm=>by
   simp only [E1,List.mem_singleton] at hm;exact h.env.pc x v hx (by rw [hm];exact Ag)
  cC:=by simp [E1]
  ji:=by simp [E1] }
 have sA:RvL E1 (.loc 0 0 :: JD) (.pointer (some ⟨b,0,none⟩) :: vr):=rvL_cons (by unfold Rv;exact ⟨b,rfl,rfl⟩) (RvL.mono hx1 (CcL.sound hfz (GR.zero _ _) ha hvr));refine (hc E1 w _ Zv rfl sA).mono ?_;rintro e w' ⟨v,rfl,hm,_,r,os,E2,he,hβ,l8,hn,QU,hΦ⟩;have ht0:E2.tk=[]:=List.eq_nil_of_length_eq_zero l8;rw [ht0] at hΦ
 obtain ⟨qz,rfl⟩:∃ qz,os=[qz]:=by
  have:=he.len;rw [hβ] at this
  match os,this with
  | [x],_=>exact ⟨x,rfl⟩
 obtain ⟨Zw,Zx⟩:=j9 _ _ _ hΦ
 have hh:∀ j,j < w.heap.size->j≠b->w'.heap[j]? = w.heap[j]?:=fun j hj bq=>hm.block j hj (by
  rintro (h1 | ⟨y,h1,_⟩)
  ·simp only [E1,List.mem_singleton] at h1;exact bq h1
  ·simp [E1] at h1)
 have dM:∀ x v,E2.c x=some v->E.c x=some v∨w.heap.size<=x.block:=fun x v hx=>by
  rcases hn.cn x v hx with h1 | h1 | ⟨y,h1,_⟩
  ·exact .inl h1
  ·exact .inr h1
  ·simp [E1] at h1
 let E':En:=⟨E2.c,E.β,E.tk,E.τ⟩
 have hx:Ext E E':=⟨hn.c,fun _ _ h=>h,fun _ q h=>⟨q,h,.inl ⟨rfl,rfl⟩⟩⟩;have FG:Ext (E2.cut 0 0) E':=⟨fun _ _ h=>h,fun j b hj=>by simp [En.cut] at hj,fun k q hk=>by simp [En.cut] at hk⟩
 have cu:Rel X E' ⟨st.sl,st.bx.set i qz,st.tk⟩ a w':=by
  refine cV h hx ?_ h.tk ?_ (h.fr.cm hm.os hm.tape hm.output hm.size fun j hj=>?_) (nQ bh) (.nil hX)
  ·exact {
    len:=by rw [List.length_set];exact h.env.len
    tl:=h.env.tl
    ey:=fun j Uo hj=>by
     by_cases QK:j=i
     ·subst QK;rw [ie (gS pY).1] at hj;simp only [oI] at hj;subst hj;obtain ⟨b2,Zy,Rc,lO,hw2,qf⟩:=he.ey 0 qz rfl;rw [hβ] at lO;simp only [E1,List.getElem?_cons_zero,oI] at lO;subst lO;exact ⟨b,Zy,Rc,hb,hw2,RvL.mono FG (RvL.cut qf.1 (Zx qz (by simp))),qf.2⟩
     ·rw [List.getElem?_set_ne (Ne.symm QK)] at hj;obtain ⟨bj,Zz,Re,Pf,Up,QD⟩:=h.env.ey j Uo hj
      have bq:bj≠b:=by
       rintro rfl;exact QK ((List.getElem?_inj (gS Pf).1 h.env.inj).1 (Pf.trans hb.symm))
      exact ⟨bj,Zz,Re,Pf,by rw [hh bj (cY Up) bq];exact Up,QD.mono hx⟩
    inj:=h.env.inj
    sub:=he.sub
    pc:=fun x v hc r8=>by
     rcases dM x v hc with h1 | h1
     ·exact h.env.pc x v h1 r8
     ·have:=h.env.bd r8;omega
    cC:=fun k q y hq hy=>by
     rcases h.env.cC k q y hq hy with h1 | ⟨g',cap,cur,rfl,h1,h2,h3,h4,h5,h6⟩
     ·exact .inl h1
     ·refine .inr ⟨g',cap,cur,rfl,by rw [hh g' (cY h1) (fun e=>h5 (by rw [e];exact Ag))];exact h1,⟨h2.1,h2.2.mono hn.c⟩,h3,h4,h5,fun x v hc hg=>?_⟩;rcases dM x v hc with h7 | h7
      ·exact h6 x v h7 hg
      ·have:=cY h1;omega
    ji:=h.env.ji }
  ·exact {
    c:=fun x v hc=>hn.c x v (h.nw.c x v hc)
    cn:=fun x v hc=>by
     rcases dM x v hc with h1 | h1
     ·exact h.nw.cn x v h1
     ·have:=h.fr.size;exact .inr (.inl (by omega))
    β:=h.nw.β
    tk:=h.nw.tk
    tn:=h.nw.tn
    l0:=h.nw.l0 }
  ·by_cases QE:j=b
   ·left;obtain ⟨r0,hr0,Dh⟩:=h.nw.β;rw [hr0] at Ag;rcases List.mem_append.1 Ag with Ag | Ag
    ·exact .inl (.inl (QE ▸ Ag))
    ·exact .inr (QE ▸ Dh b Ag)
   ·exact .inr (hh j hj QE)
 exact go_sound 4000 _ _ (hk r qz hΦ) E' _ w' (bu cu hd r v (Rv.mono FG (Rv.cut QU Zw)))
end
end Dv
end Go.Proofs.YtphonmiflfhdbaaGreat
namespace Go.Proofs.YtphonmiflfhdbaaGreat
namespace Dv
open Go
def tt:TT:=.aj 182 ⟨1,false,.fn,[.nilFunc]⟩ (.aj 90 ⟨11,true,.st [(0,27),(2,29)],[.string ByteArray.empty,.int .i64 0,.int .i64 0,.int .i64 0,.int .i64 0,.int .i64 0,.int .i64 0,.slice none 0 0,.slice none 0 0,.string ByteArray.empty,.int .i64 0]⟩ (.aj 43 ⟨2,true,.st [(0,42),(1,3)],[.int .i64 0,.int .i64 0]⟩ (.aj 22 ⟨1,false,.sl 27 2 24,[.slice none 0 0]⟩ (.aj 11 ⟨1,false,.str,[.string ByteArray.empty]⟩ (.aj 6 ⟨1,false,.int .u8,[.int .u8 0]⟩ (.aj 3 ⟨1,false,.int .i64,[.int .i64 0]⟩ (.aj 2 ⟨1,false,.int .i64,[.int .i64 0]⟩ (.aj 1 ⟨1,false,.fn,[.nilFunc]⟩ (.nil) (.nil)) (.nil)) (.aj 5 ⟨1,false,.int .u8,[.int .u8 0]⟩ (.aj 4 ⟨1,false,.bool,[.bool false]⟩ (.nil) (.nil)) (.nil))) (.aj 9 ⟨1,false,.str,[.string ByteArray.empty]⟩ (.aj 8 ⟨4,true,.st [(0,2),(1,3),(2,4),(3,6)],[.int .i64 0,.int .i64 0,.bool false,.int .u8 0]⟩ (.aj 7 ⟨4,true,.st [(0,2),(1,3),(2,4),(3,6)],[.int .i64 0,.int .i64 0,.bool false,.int .u8 0]⟩ (.nil) (.nil)) (.nil)) (.aj 10 ⟨1,false,.str,[.string ByteArray.empty]⟩ (.nil) (.nil)))) (.aj 17 ⟨1,false,.ptr 372,[.pointer none]⟩ (.aj 14 ⟨2,true,.st [(0,9),(1,12)],[.string ByteArray.empty,.int .u64 0]⟩ (.aj 13 ⟨2,true,.st [(0,9),(1,12)],[.string ByteArray.empty,.int .u64 0]⟩ (.aj 12 ⟨1,false,.int .u64,[.int .u64 0]⟩ (.nil) (.nil)) (.nil)) (.aj 16 ⟨1,false,.ptr 365,[.pointer none]⟩ (.aj 15 ⟨1,false,.ptr 362,[.pointer none]⟩ (.nil) (.nil)) (.nil))) (.aj 20 ⟨1,false,.ri,[.nilIface]⟩ (.aj 19 ⟨1,true,.st [(0,17)],[.pointer none]⟩ (.aj 18 ⟨1,true,.st [(0,17)],[.pointer none]⟩ (.nil) (.nil)) (.nil)) (.aj 21 ⟨1,false,.int .i32,[.int .i32 0]⟩ (.nil) (.nil))))) (.aj 33 ⟨4,true,.st [(0,3),(1,3),(2,9),(3,32)],[.int .i64 0,.int .i64 0,.string ByteArray.empty,.slice none 0 0]⟩ (.aj 28 ⟨9,true,.st [(0,3),(1,3),(2,3),(3,3),(4,3),(5,22),(6,25),(7,27)],[.int .i64 0,.int .i64 0,.int .i64 0,.int .i64 0,.int .i64 0,.slice none 0 0,.slice none 0 0,.string ByteArray.empty,.int .i64 0]⟩ (.aj 25 ⟨1,false,.sl 136 18 224,[.slice none 0 0]⟩ (.aj 24 ⟨1,false,.sl 91 11 136,[.slice none 0 0]⟩ (.aj 23 ⟨1,false,.sl 138 4 48,[.slice none 0 0]⟩ (.nil) (.nil)) (.nil)) (.aj 27 ⟨2,true,.st [(0,9),(1,3)],[.string ByteArray.empty,.int .i64 0]⟩ (.aj 26 ⟨2,true,.st [(0,9),(1,3)],[.string ByteArray.empty,.int .i64 0]⟩ (.nil) (.nil)) (.nil))) (.aj 31 ⟨12,true,.st [(0,22),(1,23),(2,24),(3,29)],[.slice none 0 0,.slice none 0 0,.slice none 0 0,.int .i64 0,.int .i64 0,.int .i64 0,.int .i64 0,.int .i64 0,.slice none 0 0,.slice none 0 0,.string ByteArray.empty,.int .i64 0]⟩ (.aj 30 ⟨12,true,.st [(0,22),(1,23),(2,24),(3,29)],[.slice none 0 0,.slice none 0 0,.slice none 0 0,.int .i64 0,.int .i64 0,.int .i64 0,.int .i64 0,.int .i64 0,.slice none 0 0,.slice none 0 0,.string ByteArray.empty,.int .i64 0]⟩ (.aj 29 ⟨9,true,.st [(0,3),(1,3),(2,3),(3,3),(4,3),(5,22),(6,25),(7,27)],[.int .i64 0,.int .i64 0,.int .i64 0,.int .i64 0,.int .i64 0,.slice none 0 0,.slice none 0 0,.string ByteArray.empty,.int .i64 0]⟩ (.nil) (.nil)) (.nil)) (.aj 32 ⟨1,false,.sl 34 4 56,[.slice none 0 0]⟩ (.nil) (.nil)))) (.aj 38 ⟨1,false,.fn,[.nilFunc]⟩ (.aj 36 ⟨2,true,.st [(0,3),(1,35)],[.int .i64 0,.slice none 0 0]⟩ (.aj 35 ⟨1,false,.sl 60 8 120,[.slice none 0 0]⟩ (.aj 34 ⟨4,true,.st [(0,3),(1,3),(2,9),(3,32)],[.int .i64 0,.int .i64 0,.string ByteArray.empty,.slice none 0 0]⟩ (.nil) (.nil)) (.nil)) (.aj 37 ⟨2,true,.st [(0,3),(1,35)],[.int .i64 0,.slice none 0 0]⟩ (.nil) (.nil))) (.aj 41 ⟨1,false,.ptr 84,[.pointer none]⟩ (.aj 40 ⟨1,false,.fn,[.nilFunc]⟩ (.aj 39 ⟨1,false,.fn,[.nilFunc]⟩ (.nil) (.nil)) (.nil)) (.aj 42 ⟨1,false,.int .i64,[.int .i64 0]⟩ (.nil) (.nil)))))) (.aj 66 ⟨1,false,.ptr 128,[.pointer none]⟩ (.aj 55 ⟨6,true,.st [(0,3),(1,3),(2,3),(3,9),(4,22),(5,54)],[.int .i64 0,.int .i64 0,.int .i64 0,.string ByteArray.empty,.slice none 0 0,.slice none 0 0]⟩ (.aj 50 ⟨4,true,.st [(0,22),(1,47),(2,48),(3,3)],[.slice none 0 0,.slice none 0 0,.slice none 0 0,.int .i64 0]⟩ (.aj 47 ⟨1,false,.sl 178 1 24,[.slice none 0 0]⟩ (.aj 46 ⟨1,false,.fn,[.nilFunc]⟩ (.aj 44 ⟨2,true,.st [(0,42),(1,3)],[.int .i64 0,.int .i64 0]⟩ (.nil) (.nil)) (.nil)) (.aj 49 ⟨4,true,.st [(0,22),(1,47),(2,48),(3,3)],[.slice none 0 0,.slice none 0 0,.slice none 0 0,.int .i64 0]⟩ (.aj 48 ⟨1,false,.sl 100 7 88,[.slice none 0 0]⟩ (.nil) (.nil)) (.nil))) (.aj 53 ⟨1,false,.sl 176 3 32,[.slice none 0 0]⟩ (.aj 52 ⟨1,false,.fn,[.nilFunc]⟩ (.aj 51 ⟨1,false,.fn,[.nilFunc]⟩ (.nil) (.nil)) (.nil)) (.aj 54 ⟨1,false,.sl 56 6 88,[.slice none 0 0]⟩ (.nil) (.nil)))) (.aj 60 ⟨8,true,.st [(0,53),(1,3),(2,56)],[.slice none 0 0,.int .i64 0,.int .i64 0,.int .i64 0,.int .i64 0,.string ByteArray.empty,.slice none 0 0,.slice none 0 0]⟩ (.aj 58 ⟨8,true,.st [(0,53),(1,3),(2,56)],[.slice none 0 0,.int .i64 0,.int .i64 0,.int .i64 0,.int .i64 0,.string ByteArray.empty,.slice none 0 0,.slice none 0 0]⟩ (.aj 57 ⟨8,true,.st [(0,53),(1,3),(2,56)],[.slice none 0 0,.int .i64 0,.int .i64 0,.int .i64 0,.int .i64 0,.string ByteArray.empty,.slice none 0 0,.slice none 0 0]⟩ (.aj 56 ⟨6,true,.st [(0,3),(1,3),(2,3),(3,9),(4,22),(5,54)],[.int .i64 0,.int .i64 0,.int .i64 0,.string ByteArray.empty,.slice none 0 0,.slice none 0 0]⟩ (.nil) (.nil)) (.nil)) (.aj 59 ⟨1,false,.fn,[.nilFunc]⟩ (.nil) (.nil))) (.aj 63 ⟨1,false,.fn,[.nilFunc]⟩ (.aj 62 ⟨1,false,.fn,[.nilFunc]⟩ (.aj 61 ⟨1,false,.fn,[.nilFunc]⟩ (.nil) (.nil)) (.nil)) (.aj 65 ⟨1,false,.fn,[.nilFunc]⟩ (.nil) (.nil))))) (.aj 80 ⟨1,false,.sl 165 7 88,[.slice none 0 0]⟩ (.aj 73 ⟨1,false,.fn,[.nilFunc]⟩ (.aj 69 ⟨1,false,.fn,[.nilFunc]⟩ (.aj 68 ⟨1,false,.fn,[.nilFunc]⟩ (.aj 67 ⟨1,false,.fn,[.nilFunc]⟩ (.nil) (.nil)) (.nil)) (.aj 72 ⟨1,false,.fn,[.nilFunc]⟩ (.aj 71 ⟨1,false,.fn,[.nilFunc]⟩ (.nil) (.nil)) (.nil))) (.aj 78 ⟨1,false,.fn,[.nilFunc]⟩ (.aj 76 ⟨1,false,.fn,[.nilFunc]⟩ (.aj 74 ⟨1,false,.fn,[.nilFunc]⟩ (.nil) (.nil)) (.nil)) (.aj 79 ⟨1,false,.ptr 86,[.pointer none]⟩ (.nil) (.nil)))) (.aj 85 ⟨15,true,.st [(0,31),(12,66),(13,41),(14,3)],[.slice none 0 0,.slice none 0 0,.slice none 0 0,.int .i64 0,.int .i64 0,.int .i64 0,.int .i64 0,.int .i64 0,.slice none 0 0,.slice none 0 0,.string ByteArray.empty,.int .i64 0,.pointer none,.pointer none,.int .i64 0]⟩ (.aj 83 ⟨5,true,.st [(0,66),(1,80),(2,3),(3,81),(4,82)],[.pointer none,.slice none 0 0,.int .i64 0,.pointer none,.slice none 0 0]⟩ (.aj 82 ⟨1,false,.sl 3 1 8,[.slice none 0 0]⟩ (.aj 81 ⟨1,false,.ptr 210,[.pointer none]⟩ (.nil) (.nil)) (.nil)) (.aj 84 ⟨5,true,.st [(0,66),(1,80),(2,3),(3,81),(4,82)],[.pointer none,.slice none 0 0,.int .i64 0,.pointer none,.slice none 0 0]⟩ (.nil) (.nil))) (.aj 88 ⟨1,false,.fn,[.nilFunc]⟩ (.aj 87 ⟨1,false,.fn,[.nilFunc]⟩ (.aj 86 ⟨15,true,.st [(0,31),(12,66),(13,41),(14,3)],[.slice none 0 0,.slice none 0 0,.slice none 0 0,.int .i64 0,.int .i64 0,.int .i64 0,.int .i64 0,.int .i64 0,.slice none 0 0,.slice none 0 0,.string ByteArray.empty,.int .i64 0,.pointer none,.pointer none,.int .i64 0]⟩ (.nil) (.nil)) (.nil)) (.aj 89 ⟨1,false,.fn,[.nilFunc]⟩ (.nil) (.nil))))))) (.aj 136 ⟨18,true,.st [(0,27),(2,4),(3,22),(4,3),(5,134),(9,29)],[.string ByteArray.empty,.int .i64 0,.bool false,.slice none 0 0,.int .i64 0,.int .i64 0,.int .i64 0,.int .i64 0,.slice none 0 0,.int .i64 0,.int .i64 0,.int .i64 0,.int .i64 0,.int .i64 0,.slice none 0 0,.slice none 0 0,.string ByteArray.empty,.int .i64 0]⟩ (.aj 113 ⟨1,false,.fn,[.nilFunc]⟩ (.aj 101 ⟨1,false,.fn,[.nilFunc]⟩ (.aj 96 ⟨1,false,.fn,[.nilFunc]⟩ (.aj 93 ⟨1,false,.fn,[.nilFunc]⟩ (.aj 92 ⟨1,false,.fn,[.nilFunc]⟩ (.aj 91 ⟨11,true,.st [(0,27),(2,29)],[.string ByteArray.empty,.int .i64 0,.int .i64 0,.int .i64 0,.int .i64 0,.int .i64 0,.int .i64 0,.slice none 0 0,.slice none 0 0,.string ByteArray.empty,.int .i64 0]⟩ (.nil) (.nil)) (.nil)) (.aj 95 ⟨1,false,.fn,[.nilFunc]⟩ (.aj 94 ⟨1,false,.sl 29 9 112,[.slice none 0 0]⟩ (.nil) (.nil)) (.nil))) (.aj 99 ⟨7,true,.st [(0,3),(1,3),(2,3),(3,3),(4,3),(5,97),(6,98)],[.int .i64 0,.int .i64 0,.int .i64 0,.int .i64 0,.int .i64 0,.slice none 0 0,.slice none 0 0]⟩ (.aj 98 ⟨1,false,.sl 109 10 88,[.slice none 0 0]⟩ (.aj 97 ⟨1,false,.sl 9 1 16,[.slice none 0 0]⟩ (.nil) (.nil)) (.nil)) (.aj 100 ⟨7,true,.st [(0,3),(1,3),(2,3),(3,3),(4,3),(5,97),(6,98)],[.int .i64 0,.int .i64 0,.int .i64 0,.int .i64 0,.int .i64 0,.slice none 0 0,.slice none 0 0]⟩ (.nil) (.nil)))) (.aj 107 ⟨1,false,.fn,[.nilFunc]⟩ (.aj 104 ⟨1,false,.fn,[.nilFunc]⟩ (.aj 103 ⟨1,false,.fn,[.nilFunc]⟩ (.aj 102 ⟨1,false,.fn,[.nilFunc]⟩ (.nil) (.nil)) (.nil)) (.aj 106 ⟨1,false,.fn,[.nilFunc]⟩ (.aj 105 ⟨1,false,.fn,[.nilFunc]⟩ (.nil) (.nil)) (.nil))) (.aj 110 ⟨1,false,.fn,[.nilFunc]⟩ (.aj 109 ⟨10,true,.st [(0,9),(1,4),(2,3),(3,3),(4,3),(5,3),(6,3),(7,3),(8,3),(9,3)],[.string ByteArray.empty,.bool false,.int .i64 0,.int .i64 0,.int .i64 0,.int .i64 0,.int .i64 0,.int .i64 0,.int .i64 0,.int .i64 0]⟩ (.aj 108 ⟨10,true,.st [(0,9),(1,4),(2,3),(3,3),(4,3),(5,3),(6,3),(7,3),(8,3),(9,3)],[.string ByteArray.empty,.bool false,.int .i64 0,.int .i64 0,.int .i64 0,.int .i64 0,.int .i64 0,.int .i64 0,.int .i64 0,.int .i64 0]⟩ (.nil) (.nil)) (.nil)) (.aj 111 ⟨1,false,.fn,[.nilFunc]⟩ (.nil) (.nil))))) (.aj 125 ⟨32,true,.ar 32 1,[.int .i64 0,.int .i64 0,.int .i64 0,.int .i64 0,.int .i64 0,.int .i64 0,.int .i64 0,.int .i64 0,.int .i64 0,.int .i64 0,.int .i64 0,.int .i64 0,.int .i64 0,.int .i64 0,.int .i64 0,.int .i64 0,.int .i64 0,.int .i64 0,.int .i64 0,.int .i64 0,.int .i64 0,.int .i64 0,.int .i64 0,.int .i64 0,.int .i64 0,.int .i64 0,.int .i64 0,.int .i64 0,.int .i64 0,.int .i64 0,.int .i64 0,.int .i64 0]⟩ (.aj 119 ⟨3,true,.st [(0,41),(1,66),(2,3)],[.pointer none,.pointer none,.int .i64 0]⟩ (.aj 116 ⟨15,true,.st [(0,3),(1,115),(11,34)],[.int .i64 0,.string ByteArray.empty,.bool false,.int .i64 0,.int .i64 0,.int .i64 0,.int .i64 0,.int .i64 0,.int .i64 0,.int .i64 0,.int .i64 0,.int .i64 0,.int .i64 0,.string ByteArray.empty,.slice none 0 0]⟩ (.aj 115 ⟨10,true,.st [(0,9),(1,4),(2,3),(3,3),(4,3),(5,3),(6,3),(7,3),(8,3),(9,3)],[.string ByteArray.empty,.bool false,.int .i64 0,.int .i64 0,.int .i64 0,.int .i64 0,.int .i64 0,.int .i64 0,.int .i64 0,.int .i64 0]⟩ (.aj 114 ⟨1,false,.fn,[.nilFunc]⟩ (.nil) (.nil)) (.nil)) (.aj 118 ⟨3,true,.st [(0,41),(1,66),(2,3)],[.pointer none,.pointer none,.int .i64 0]⟩ (.aj 117 ⟨15,true,.st [(0,3),(1,115),(11,34)],[.int .i64 0,.string ByteArray.empty,.bool false,.int .i64 0,.int .i64 0,.int .i64 0,.int .i64 0,.int .i64 0,.int .i64 0,.int .i64 0,.int .i64 0,.int .i64 0,.int .i64 0,.string ByteArray.empty,.slice none 0 0]⟩ (.nil) (.nil)) (.nil))) (.aj 123 ⟨1,false,.fn,[.nilFunc]⟩ (.aj 122 ⟨1,false,.fn,[.nilFunc]⟩ (.aj 121 ⟨1,false,.fn,[.nilFunc]⟩ (.nil) (.nil)) (.nil)) (.aj 124 ⟨1,false,.ptr 202,[.pointer none]⟩ (.nil) (.nil)))) (.aj 130 ⟨1,false,.fn,[.nilFunc]⟩ (.aj 128 ⟨2051,true,.st [(0,97),(1,81),(2,124),(3,126),(1027,126)],(.slice none 0 0 :: .pointer none :: .pointer none :: List.replicate 2048 (.int .i64 0))⟩ (.aj 127 ⟨2051,true,.st [(0,97),(1,81),(2,124),(3,126),(1027,126)],(.slice none 0 0 :: .pointer none :: .pointer none :: List.replicate 2048 (.int .i64 0))⟩ (.aj 126 ⟨1024,true,.ar 32 32,(List.replicate 1024 (.int .i64 0))⟩ (.nil) (.nil)) (.nil)) (.aj 129 ⟨1,false,.fn,[.nilFunc]⟩ (.nil) (.nil))) (.aj 134 ⟨4,true,.st [(0,3),(1,3),(2,3),(3,22)],[.int .i64 0,.int .i64 0,.int .i64 0,.slice none 0 0]⟩ (.aj 133 ⟨4,true,.st [(0,3),(1,3),(2,3),(3,22)],[.int .i64 0,.int .i64 0,.int .i64 0,.slice none 0 0]⟩ (.aj 132 ⟨1,false,.fn,[.nilFunc]⟩ (.nil) (.nil)) (.nil)) (.aj 135 ⟨18,true,.st [(0,27),(2,4),(3,22),(4,3),(5,134),(9,29)],[.string ByteArray.empty,.int .i64 0,.bool false,.slice none 0 0,.int .i64 0,.int .i64 0,.int .i64 0,.int .i64 0,.slice none 0 0,.int .i64 0,.int .i64 0,.int .i64 0,.int .i64 0,.int .i64 0,.slice none 0 0,.slice none 0 0,.string ByteArray.empty,.int .i64 0]⟩ (.nil) (.nil)))))) (.aj 161 ⟨1,false,.fn,[.nilFunc]⟩ (.aj 148 ⟨1,false,.fn,[.nilFunc]⟩ (.aj 142 ⟨1,false,.fn,[.nilFunc]⟩ (.aj 139 ⟨1,false,.ptr 141,[.pointer none]⟩ (.aj 138 ⟨4,true,.st [(0,27),(2,27)],[.string ByteArray.empty,.int .i64 0,.string ByteArray.empty,.int .i64 0]⟩ (.aj 137 ⟨4,true,.st [(0,27),(2,27)],[.string ByteArray.empty,.int .i64 0,.string ByteArray.empty,.int .i64 0]⟩ (.nil) (.nil)) (.nil)) (.aj 141 ⟨4,true,.st [(0,9),(1,3),(2,44)],[.string ByteArray.empty,.int .i64 0,.int .i64 0,.int .i64 0]⟩ (.aj 140 ⟨4,true,.st [(0,9),(1,3),(2,44)],[.string ByteArray.empty,.int .i64 0,.int .i64 0,.int .i64 0]⟩ (.nil) (.nil)) (.nil))) (.aj 145 ⟨1,false,.fn,[.nilFunc]⟩ (.aj 144 ⟨1,false,.fn,[.nilFunc]⟩ (.aj 143 ⟨1,false,.fn,[.nilFunc]⟩ (.nil) (.nil)) (.nil)) (.aj 147 ⟨1,false,.fn,[.nilFunc]⟩ (.nil) (.nil)))) (.aj 156 ⟨1,false,.fn,[.nilFunc]⟩ (.aj 153 ⟨1,false,.fn,[.nilFunc]⟩ (.aj 151 ⟨1,false,.fn,[.nilFunc]⟩ (.aj 149 ⟨1,false,.sl 212 2 16,[.slice none 0 0]⟩ (.nil) (.nil)) (.nil)) (.aj 155 ⟨1,false,.fn,[.nilFunc]⟩ (.nil) (.nil))) (.aj 159 ⟨1,false,.fn,[.nilFunc]⟩ (.aj 158 ⟨1,false,.fn,[.nilFunc]⟩ (.aj 157 ⟨1,false,.fn,[.nilFunc]⟩ (.nil) (.nil)) (.nil)) (.aj 160 ⟨1,false,.sl 22 1 24,[.slice none 0 0]⟩ (.nil) (.nil))))) (.aj 172 ⟨1,false,.fn,[.nilFunc]⟩ (.aj 167 ⟨1,false,.fn,[.nilFunc]⟩ (.aj 164 ⟨7,true,.st [(0,3),(1,3),(2,3),(3,3),(4,3),(5,97),(6,163)],[.int .i64 0,.int .i64 0,.int .i64 0,.int .i64 0,.int .i64 0,.slice none 0 0,.slice none 0 0]⟩ (.aj 163 ⟨1,false,.sl 115 10 88,[.slice none 0 0]⟩ (.aj 162 ⟨1,false,.fn,[.nilFunc]⟩ (.nil) (.nil)) (.nil)) (.aj 166 ⟨1,false,.fn,[.nilFunc]⟩ (.aj 165 ⟨7,true,.st [(0,3),(1,3),(2,3),(3,3),(4,3),(5,97),(6,163)],[.int .i64 0,.int .i64 0,.int .i64 0,.int .i64 0,.int .i64 0,.slice none 0 0,.slice none 0 0]⟩ (.nil) (.nil)) (.nil))) (.aj 170 ⟨1,false,.fn,[.nilFunc]⟩ (.aj 169 ⟨1,false,.fn,[.nilFunc]⟩ (.aj 168 ⟨1,false,.fn,[.nilFunc]⟩ (.nil) (.nil)) (.nil)) (.aj 171 ⟨1,false,.fn,[.nilFunc]⟩ (.nil) (.nil)))) (.aj 177 ⟨1,false,.fn,[.nilFunc]⟩ (.aj 175 ⟨3,true,.st [(0,3),(1,3),(2,9)],[.int .i64 0,.int .i64 0,.string ByteArray.empty]⟩ (.aj 174 ⟨1,false,.fn,[.nilFunc]⟩ (.aj 173 ⟨1,false,.fn,[.nilFunc]⟩ (.nil) (.nil)) (.nil)) (.aj 176 ⟨3,true,.st [(0,3),(1,3),(2,9)],[.int .i64 0,.int .i64 0,.string ByteArray.empty]⟩ (.nil) (.nil))) (.aj 180 ⟨1,false,.fn,[.nilFunc]⟩ (.aj 179 ⟨1,false,.fn,[.nilFunc]⟩ (.aj 178 ⟨1,false,.sl 4 1 1,[.slice none 0 0]⟩ (.nil) (.nil)) (.nil)) (.aj 181 ⟨1,false,.fn,[.nilFunc]⟩ (.nil) (.nil)))))))) (.aj 280 ⟨1,false,.fn,[.nilFunc]⟩ (.aj 231 ⟨1,false,.fn,[.nilFunc]⟩ (.aj 209 ⟨2,true,.st [(0,97),(1,82)],[.slice none 0 0,.slice none 0 0]⟩ (.aj 198 ⟨1,false,.fn,[.nilFunc]⟩ (.aj 191 ⟨1,false,.fn,[.nilFunc]⟩ (.aj 186 ⟨1,false,.fn,[.nilFunc]⟩ (.aj 184 ⟨2,true,.st [(0,3),(1,3)],[.int .i64 0,.int .i64 0]⟩ (.aj 183 ⟨2,true,.st [(0,3),(1,3)],[.int .i64 0,.int .i64 0]⟩ (.nil) (.nil)) (.nil)) (.aj 190 ⟨1,false,.fn,[.nilFunc]⟩ (.aj 188 ⟨1,false,.fn,[.nilFunc]⟩ (.nil) (.nil)) (.nil))) (.aj 196 ⟨1,false,.fn,[.nilFunc]⟩ (.aj 195 ⟨1,false,.fn,[.nilFunc]⟩ (.aj 193 ⟨1,false,.fn,[.nilFunc]⟩ (.nil) (.nil)) (.nil)) (.aj 197 ⟨1,false,.fn,[.nilFunc]⟩ (.nil) (.nil)))) (.aj 204 ⟨1,false,.fn,[.nilFunc]⟩ (.aj 201 ⟨1,true,.st [(0,200)],[.slice none 0 0]⟩ (.aj 200 ⟨1,false,.sl 199 1 8,[.slice none 0 0]⟩ (.aj 199 ⟨1,false,.int .u64,[.int .u64 0]⟩ (.nil) (.nil)) (.nil)) (.aj 203 ⟨1,false,.fn,[.nilFunc]⟩ (.aj 202 ⟨1,true,.st [(0,200)],[.slice none 0 0]⟩ (.nil) (.nil)) (.nil))) (.aj 207 ⟨1,false,.fn,[.nilFunc]⟩ (.aj 206 ⟨1,false,.fn,[.nilFunc]⟩ (.aj 205 ⟨1,false,.fn,[.nilFunc]⟩ (.nil) (.nil)) (.nil)) (.aj 208 ⟨1,false,.fn,[.nilFunc]⟩ (.nil) (.nil))))) (.aj 221 ⟨1,false,.fn,[.nilFunc]⟩ (.aj 215 ⟨1,false,.fn,[.nilFunc]⟩ (.aj 212 ⟨2,true,.ar 2 1,[.int .i64 0,.int .i64 0]⟩ (.aj 211 ⟨1,false,.fn,[.nilFunc]⟩ (.aj 210 ⟨2,true,.st [(0,97),(1,82)],[.slice none 0 0,.slice none 0 0]⟩ (.nil) (.nil)) (.nil)) (.aj 214 ⟨1,false,.fn,[.nilFunc]⟩ (.aj 213 ⟨1,false,.fn,[.nilFunc]⟩ (.nil) (.nil)) (.nil))) (.aj 219 ⟨1,true,.st [(0,3)],[.int .i64 0]⟩ (.aj 218 ⟨1,false,.ptr 220,[.pointer none]⟩ (.aj 217 ⟨1,false,.fn,[.nilFunc]⟩ (.nil) (.nil)) (.nil)) (.aj 220 ⟨1,true,.st [(0,3)],[.int .i64 0]⟩ (.nil) (.nil)))) (.aj 226 ⟨1,false,.fn,[.nilFunc]⟩ (.aj 224 ⟨1,false,.fn,[.nilFunc]⟩ (.aj 223 ⟨1,false,.fn,[.nilFunc]⟩ (.aj 222 ⟨1,false,.fn,[.nilFunc]⟩ (.nil) (.nil)) (.nil)) (.aj 225 ⟨1,false,.fn,[.nilFunc]⟩ (.nil) (.nil))) (.aj 229 ⟨1,false,.fn,[.nilFunc]⟩ (.aj 228 ⟨1,false,.fn,[.nilFunc]⟩ (.aj 227 ⟨1,false,.fn,[.nilFunc]⟩ (.nil) (.nil)) (.nil)) (.aj 230 ⟨1,false,.fn,[.nilFunc]⟩ (.nil) (.nil)))))) (.aj 254 ⟨1,false,.fn,[.nilFunc]⟩ (.aj 242 ⟨1,false,.fn,[.nilFunc]⟩ (.aj 237 ⟨1,false,.fn,[.nilFunc]⟩ (.aj 234 ⟨1,false,.fn,[.nilFunc]⟩ (.aj 233 ⟨1,false,.fn,[.nilFunc]⟩ (.aj 232 ⟨1,false,.fn,[.nilFunc]⟩ (.nil) (.nil)) (.nil)) (.aj 236 ⟨1,false,.fn,[.nilFunc]⟩ (.aj 235 ⟨1,false,.fn,[.nilFunc]⟩ (.nil) (.nil)) (.nil))) (.aj 240 ⟨1,false,.fn,[.nilFunc]⟩ (.aj 239 ⟨1,false,.fn,[.nilFunc]⟩ (.aj 238 ⟨1,false,.fn,[.nilFunc]⟩ (.nil) (.nil)) (.nil)) (.aj 241 ⟨1,false,.fn,[.nilFunc]⟩ (.nil) (.nil)))) (.aj 248 ⟨3,true,.st [(0,44),(2,3)],[.int .i64 0,.int .i64 0,.int .i64 0]⟩ (.aj 246 ⟨1,false,.fn,[.nilFunc]⟩ (.aj 245 ⟨1,false,.fn,[.nilFunc]⟩ (.aj 243 ⟨1,false,.fn,[.nilFunc]⟩ (.nil) (.nil)) (.nil)) (.aj 247 ⟨3,true,.st [(0,44),(2,3)],[.int .i64 0,.int .i64 0,.int .i64 0]⟩ (.nil) (.nil))) (.aj 251 ⟨1,false,.fn,[.nilFunc]⟩ (.aj 250 ⟨1,false,.fn,[.nilFunc]⟩ (.aj 249 ⟨1,false,.fn,[.nilFunc]⟩ (.nil) (.nil)) (.nil)) (.aj 253 ⟨1,false,.fn,[.nilFunc]⟩ (.nil) (.nil))))) (.aj 270 ⟨2,true,.st [(0,69),(1,264)],[.nilFunc,.nilFunc]⟩ (.aj 265 ⟨1,false,.fn,[.nilFunc]⟩ (.aj 260 ⟨1,false,.int .u64,[.int .u64 0]⟩ (.aj 258 ⟨1,false,.fn,[.nilFunc]⟩ (.aj 256 ⟨1,false,.fn,[.nilFunc]⟩ (.nil) (.nil)) (.nil)) (.aj 264 ⟨1,false,.fn,[.nilFunc]⟩ (.aj 263 ⟨1,false,.fn,[.nilFunc]⟩ (.nil) (.nil)) (.nil))) (.aj 268 ⟨1,false,.fn,[.nilFunc]⟩ (.aj 267 ⟨1,false,.int .u64,[.int .u64 0]⟩ (.aj 266 ⟨1,false,.fn,[.nilFunc]⟩ (.nil) (.nil)) (.nil)) (.aj 269 ⟨2,true,.st [(0,69),(1,264)],[.nilFunc,.nilFunc]⟩ (.nil) (.nil)))) (.aj 275 ⟨1,false,.fn,[.nilFunc]⟩ (.aj 273 ⟨1,false,.fn,[.nilFunc]⟩ (.aj 272 ⟨1,false,.fn,[.nilFunc]⟩ (.aj 271 ⟨1,false,.fn,[.nilFunc]⟩ (.nil) (.nil)) (.nil)) (.aj 274 ⟨1,false,.fn,[.nilFunc]⟩ (.nil) (.nil))) (.aj 278 ⟨1,false,.fn,[.nilFunc]⟩ (.aj 277 ⟨1,false,.fn,[.nilFunc]⟩ (.aj 276 ⟨1,false,.fn,[.nilFunc]⟩ (.nil) (.nil)) (.nil)) (.aj 279 ⟨1,false,.fn,[.nilFunc]⟩ (.nil) (.nil))))))) (.aj 330 ⟨1,false,.fn,[.nilFunc]⟩ (.aj 306 ⟨1,false,.ptr 374,[.pointer none]⟩ (.aj 292 ⟨2,true,.st [(0,290),(1,291)],[.pointer none,.slice none 0 0]⟩ (.aj 286 ⟨1,false,.fn,[.nilFunc]⟩ (.aj 283 ⟨1,false,.fn,[.nilFunc]⟩ (.aj 282 ⟨1,false,.fn,[.nilFunc]⟩ (.aj 281 ⟨1,false,.fn,[.nilFunc]⟩ (.nil) (.nil)) (.nil)) (.aj 285 ⟨1,false,.fn,[.nilFunc]⟩ (.aj 284 ⟨1,false,.fn,[.nilFunc]⟩ (.nil) (.nil)) (.nil))) (.aj 290 ⟨1,false,.ptr 293,[.pointer none]⟩ (.aj 289 ⟨1,false,.fn,[.nilFunc]⟩ (.aj 287 ⟨1,false,.fn,[.nilFunc]⟩ (.nil) (.nil)) (.nil)) (.aj 291 ⟨1,false,.sl 5 1 1,[.slice none 0 0]⟩ (.nil) (.nil)))) (.aj 300 ⟨1,false,.fn,[.nilFunc]⟩ (.aj 296 ⟨1,false,.fn,[.nilFunc]⟩ (.aj 294 ⟨1,false,.fn,[.nilFunc]⟩ (.aj 293 ⟨2,true,.st [(0,290),(1,291)],[.pointer none,.slice none 0 0]⟩ (.nil) (.nil)) (.nil)) (.aj 298 ⟨1,false,.ri,[.nilIface]⟩ (.aj 297 ⟨1,false,.ri,[.nilIface]⟩ (.nil) (.nil)) (.nil))) (.aj 304 ⟨1,true,.st [(0,17)],[.pointer none]⟩ (.aj 303 ⟨1,false,.fn,[.nilFunc]⟩ (.aj 302 ⟨1,false,.fn,[.nilFunc]⟩ (.nil) (.nil)) (.nil)) (.aj 305 ⟨1,true,.st [(0,17)],[.pointer none]⟩ (.nil) (.nil))))) (.aj 318 ⟨1,false,.fn,[.nilFunc]⟩ (.aj 313 ⟨1,false,.fn,[.nilFunc]⟩ (.aj 309 ⟨1,false,.fn,[.nilFunc]⟩ (.aj 308 ⟨1,false,.int .u32,[.int .u32 0]⟩ (.aj 307 ⟨1,false,.fn,[.nilFunc]⟩ (.nil) (.nil)) (.nil)) (.aj 312 ⟨1,false,.fn,[.nilFunc]⟩ (.aj 310 ⟨1,false,.int .i64,[.int .i64 0]⟩ (.nil) (.nil)) (.nil))) (.aj 316 ⟨1,false,.fn,[.nilFunc]⟩ (.aj 315 ⟨1,false,.fn,[.nilFunc]⟩ (.aj 314 ⟨1,false,.fn,[.nilFunc]⟩ (.nil) (.nil)) (.nil)) (.aj 317 ⟨1,false,.fn,[.nilFunc]⟩ (.nil) (.nil)))) (.aj 324 ⟨1,false,.fn,[.nilFunc]⟩ (.aj 322 ⟨1,false,.fn,[.nilFunc]⟩ (.aj 321 ⟨1,false,.fn,[.nilFunc]⟩ (.aj 320 ⟨1,false,.fn,[.nilFunc]⟩ (.nil) (.nil)) (.nil)) (.aj 323 ⟨1,false,.fn,[.nilFunc]⟩ (.nil) (.nil))) (.aj 327 ⟨1,false,.ptr 5,[.pointer none]⟩ (.aj 326 ⟨1,false,.fn,[.nilFunc]⟩ (.aj 325 ⟨1,false,.fn,[.nilFunc]⟩ (.nil) (.nil)) (.nil)) (.aj 329 ⟨1,false,.fn,[.nilFunc]⟩ (.nil) (.nil)))))) (.aj 352 ⟨2,true,.st [(0,21),(1,21)],[.int .i32 0,.int .i32 0]⟩ (.aj 341 ⟨1,false,.fn,[.nilFunc]⟩ (.aj 336 ⟨1,false,.ptr 3,[.pointer none]⟩ (.aj 333 ⟨1,false,.fn,[.nilFunc]⟩ (.aj 332 ⟨1,false,.int .u64,[.int .u64 0]⟩ (.aj 331 ⟨1,false,.fn,[.nilFunc]⟩ (.nil) (.nil)) (.nil)) (.aj 335 ⟨1,false,.fn,[.nilFunc]⟩ (.aj 334 ⟨1,false,.fn,[.nilFunc]⟩ (.nil) (.nil)) (.nil))) (.aj 339 ⟨1,false,.fn,[.nilFunc]⟩ (.aj 338 ⟨1,false,.fn,[.nilFunc]⟩ (.aj 337 ⟨1,false,.fn,[.nilFunc]⟩ (.nil) (.nil)) (.nil)) (.aj 340 ⟨1,false,.sl 352 2 8,[.slice none 0 0]⟩ (.nil) (.nil)))) (.aj 347 ⟨1,false,.ptr 332,[.pointer none]⟩ (.aj 345 ⟨1,false,.fn,[.nilFunc]⟩ (.aj 344 ⟨1,false,.fn,[.nilFunc]⟩ (.aj 343 ⟨1,false,.fn,[.nilFunc]⟩ (.nil) (.nil)) (.nil)) (.aj 346 ⟨1,false,.fn,[.nilFunc]⟩ (.nil) (.nil))) (.aj 350 ⟨1,false,.fn,[.nilFunc]⟩ (.aj 349 ⟨4,true,.ar 4 1,[.int .i64 0,.int .i64 0,.int .i64 0,.int .i64 0]⟩ (.aj 348 ⟨1,false,.fn,[.nilFunc]⟩ (.nil) (.nil)) (.nil)) (.aj 351 ⟨2,true,.st [(0,21),(1,21)],[.int .i32 0,.int .i32 0]⟩ (.nil) (.nil))))) (.aj 363 ⟨0,true,.ar 0 1,[]⟩ (.aj 358 ⟨1,false,.fn,[.nilFunc]⟩ (.aj 355 ⟨1,false,.fn,[.nilFunc]⟩ (.aj 354 ⟨1,false,.sl 360 2 8,[.slice none 0 0]⟩ (.aj 353 ⟨1,false,.fn,[.nilFunc]⟩ (.nil) (.nil)) (.nil)) (.aj 357 ⟨1,false,.fn,[.nilFunc]⟩ (.aj 356 ⟨1,false,.fn,[.nilFunc]⟩ (.nil) (.nil)) (.nil))) (.aj 361 ⟨4,true,.st [(0,17),(1,17),(2,17),(3,9)],[.pointer none,.pointer none,.pointer none,.string ByteArray.empty]⟩ (.aj 360 ⟨2,true,.st [(0,21),(1,21)],[.int .i32 0,.int .i32 0]⟩ (.aj 359 ⟨2,true,.st [(0,21),(1,21)],[.int .i32 0,.int .i32 0]⟩ (.nil) (.nil)) (.nil)) (.aj 362 ⟨4,true,.st [(0,17),(1,17),(2,17),(3,9)],[.pointer none,.pointer none,.pointer none,.string ByteArray.empty]⟩ (.nil) (.nil)))) (.aj 370 ⟨1,false,.int .i32,[.int .i32 0]⟩ (.aj 368 ⟨1,false,.fn,[.nilFunc]⟩ (.aj 367 ⟨1,false,.int .u8,[.int .u8 0]⟩ (.aj 366 ⟨1,false,.int .u8,[.int .u8 0]⟩ (.nil) (.nil)) (.nil)) (.aj 369 ⟨1,false,.int .i32,[.int .i32 0]⟩ (.nil) (.nil))) (.aj 373 ⟨2,true,.st [(0,9),(1,367)],[.string ByteArray.empty,.int .u8 0]⟩ (.aj 372 ⟨11,true,.st [(0,12),(1,12),(2,308),(3,366),(4,5),(5,5),(6,367),(7,368),(8,327),(9,369),(10,370)],[.int .u64 0,.int .u64 0,.int .u32 0,.int .u8 0,.int .u8 0,.int .u8 0,.int .u8 0,.nilFunc,.pointer none,.int .i32 0,.int .i32 0]⟩ (.aj 371 ⟨11,true,.st [(0,12),(1,12),(2,308),(3,366),(4,5),(5,5),(6,367),(7,368),(8,327),(9,369),(10,370)],[.int .u64 0,.int .u64 0,.int .u32 0,.int .u8 0,.int .u8 0,.int .u8 0,.int .u8 0,.nilFunc,.pointer none,.int .i32 0,.int .i32 0]⟩ (.nil) (.nil)) (.nil)) (.aj 374 ⟨2,true,.st [(0,9),(1,367)],[.string ByteArray.empty,.int .u8 0]⟩ (.nil) (.nil))))))))
theorem AS:tt.ok Tryz.prog=true:=by decide +kernel
theorem mo:Tryz.prog.follows .mixedOrders=true:=rfl
end Dv
end Go.Proofs.YtphonmiflfhdbaaGreat
namespace Go.Proofs.YtphonmiflfhdbaaGreat
namespace Dv
open Go
theorem eG {f:FuncId} {fn:Func} {c:Code} {args:List DV} {os:List (List DV)} {cC:List TkE} {Φ:DV->List (List DV)->List TkE->Prop} (nt:Nat) (rs:List ResultVar)
 (hf:Tryz.prog.funcs[f]? = some fn) (hb:fn.body=some c) (C8:fn.ntmps=nt) (vR:fn.results.toList=rs)
 (h:∀ (E:En) (w:World) (hn:E.β.length=os.length) (hm:E.tk.length=cC.length),go ⟨Tryz.prog,tt,AS,fn,nt,rs,vR,w,E,os.length,cC.length,hn,hm,false,Φ,[],[],false⟩ 5000 [.code c] ⟨argSl 0 args,os,cC⟩) (hlen:args.length<=nt:=by exact Nat.le_of_ble_eq_true rfl):Ev Tryz.prog f args os cC Φ:=T4 tt AS 5000 nt rs hf hb C8 vR hlen h
theorem cP {X:Ctx} {st:St} {k:List It} {f:FuncId} {args bD:List DV} {d:Nat} {r:DV} (kV:Enters X.P f) (hc:EvP X.P f bD r) (hk:go X 4000 k ⟨(d,⟨[],r⟩) :: st.sl,st.bx,st.tk⟩) (ha:CcL [] 0 0 0 bD args:=by exact ax) (hd:fY X.nt st.sl (some d)=true:=by exact rfl) (bh:X.still=false:=by exact rfl):CallG X f args (some d) k st:=Jq kV hc ha hd hk bh
theorem cD {X:Ctx} {st:St} {c:Bool} {s0:List (Nat×Sl)} {D:Dr} {i:Nat} {f:FuncId} {args bD:List DV} {d:Nat} {r:List (Nat×Oper)} {De:DV} (kV:Enters X.P f) (hc:EvP X.P f bD De) (hk:put2 s0 st (some d) false [] De (goD X D 3000 c r)) (ha:CcL [] 0 0 0 bD args:=by exact ax) (hd:(fY X.nt st.sl (some d) && fY X.nt s0 (some d))=true:=by exact rfl) (bh:X.still=false:=by exact rfl):AO X D c i r f args (some d) s0 st:=Nc kV hc ha hd hk bh
theorem dI {X:Ctx} {st:St} {k:List It} {id:Nat} {ops:Array Oper} (h:goD X ⟨ops,fun _=>false,k,st,none⟩ 3000 true (nOps 0 ops.toList) st.sl st) (hm:X.P.follows .mixedOrders=true:=by exact mo) (hc:C9 ops (fun _=>false)=true:=by decide +kernel):s9 X id ops k st:=yQ _ hm hc h
theorem dS {X:Ctx} {st:St} {k:List It} {id:Nat} {ops:Array Oper} (h:goD X ⟨ops,Uk ops,k,st,none⟩ 3000 true (nOps 0 ops.toList) st.sl st) (hm:X.P.follows .mixedOrders=true:=by exact mo) (hc:C9 ops (Uk ops)=true:=by decide +kernel):s9 X id ops k st:=Nb hm hc h
end Dv
end Go.Proofs.YtphonmiflfhdbaaGreat
set_option maxRecDepth 100000
namespace Go.Proofs.YtphonmiflfhdbaaGreat
open Go Go.RowKit Dv Go.Proofs.Tryz
theorem en5:Enters prog 5:=enters_of func5 (by decide +kernel) rfl
theorem en6:Enters prog 6:=enters_of func6 (by decide +kernel) rfl
theorem Yb:Enters prog 7:=enters_of func7 (by decide +kernel) rfl
theorem en8:Enters prog 8:=enters_of func8 (by decide +kernel) rfl
theorem en9:Enters prog 9:=enters_of func9 (by decide +kernel) rfl
theorem G3:Enters prog 12:=enters_of func12 (by decide +kernel) rfl
theorem ZA:Enters prog 13:=enters_of func13 (by decide +kernel) rfl
theorem Nl:Enters prog 14:=enters_of func14 (by decide +kernel) rfl
theorem Di:Enters prog 15:=enters_of func15 (by decide +kernel) rfl
theorem ZB:Enters prog 16:=enters_of func16 (by decide +kernel) rfl
theorem Dj:Enters prog 17:=enters_of func17 (by decide +kernel) rfl
theorem Rf:Enters prog 18:=enters_of func18 (by decide +kernel) rfl
theorem Uq:Enters prog 19:=enters_of func19 (by decide +kernel) rfl
theorem ZC:Enters prog 20:=enters_of func20 (by decide +kernel) rfl
theorem ZD:Enters prog 21:=enters_of func21 (by decide +kernel) rfl
theorem Ur:Enters prog 22:=enters_of func22 (by decide +kernel) rfl
theorem ZE:Enters prog 23:=enters_of func23 (by decide +kernel) rfl
theorem ZF:Enters prog 24:=enters_of func24 (by decide +kernel) rfl
theorem ZG:Enters prog 25:=enters_of func25 (by decide +kernel) rfl
theorem ZH:Enters prog 26:=enters_of func26 (by decide +kernel) rfl
theorem Us:Enters prog 27:=enters_of func27 (by decide +kernel) rfl
theorem Ut:Enters prog 28:=enters_of func28 (by decide +kernel) rfl
theorem Rg:Enters prog 29:=enters_of func29 (by decide +kernel) rfl
theorem ZI:Enters prog 30:=enters_of func30 (by decide +kernel) rfl
theorem ZJ:Enters prog 31:=enters_of func31 (by decide +kernel) rfl
theorem Nn:Enters prog 32:=enters_of func32 (by decide +kernel) rfl
theorem Rh:Enters prog 33:=enters_of func33 (by decide +kernel) rfl
theorem Uu:Enters prog 34:=enters_of func34 (by decide +kernel) rfl
theorem Np:Enters prog 35:=enters_of func35 (by decide +kernel) rfl
theorem ZK:Enters prog 36:=enters_of func36 (by decide +kernel) rfl
theorem Uv:Enters prog 37:=enters_of func37 (by decide +kernel) rfl
theorem Nq:Enters prog 43:=enters_of func43 (by decide +kernel) rfl
theorem Ri:Enters prog 44:=enters_of func44 (by decide +kernel) rfl
theorem Uw:Enters prog 45:=enters_of func45 (by decide +kernel) rfl
theorem ZL:Enters prog 46:=enters_of func46 (by decide +kernel) rfl
theorem JE:Enters prog 47:=enters_of func47 (by decide +kernel) rfl
theorem Nr:Enters prog 48:=enters_of func48 (by decide +kernel) rfl
theorem Rj:Enters prog 49:=enters_of func49 (by decide +kernel) rfl
theorem en50:Enters prog 50:=enters_of func50 (by decide +kernel) rfl
theorem Ns:Enters prog 51:=enters_of func51 (by decide +kernel) rfl
theorem JF:Enters prog 52:=enters_of func52 (by decide +kernel) rfl
theorem G4:Enters prog 53:=enters_of func53 (by decide +kernel) rfl
theorem JG:Enters prog 54:=enters_of func54 (by decide +kernel) rfl
theorem Nt:Enters prog 55:=enters_of func55 (by decide +kernel) rfl
theorem ZM:Enters prog 56:=enters_of func56 (by decide +kernel) rfl
theorem Ux:Enters prog 57:=enters_of func57 (by decide +kernel) rfl
theorem Uy:Enters prog 58:=enters_of func58 (by decide +kernel) rfl
theorem ZN:Enters prog 59:=enters_of func59 (by decide +kernel) rfl
theorem ZO:Enters prog 60:=enters_of func60 (by decide +kernel) rfl
theorem Uz:Enters prog 61:=enters_of func61 (by decide +kernel) rfl
theorem Rk:Enters prog 62:=enters_of func62 (by decide +kernel) rfl
theorem UA:Enters prog 63:=enters_of func63 (by decide +kernel) rfl
theorem ZP:Enters prog 64:=enters_of func64 (by decide +kernel) rfl
theorem UB:Enters prog 65:=enters_of func65 (by decide +kernel) rfl
theorem UC:Enters prog 66:=enters_of func66 (by decide +kernel) rfl
theorem ZQ:Enters prog 67:=enters_of func67 (by decide +kernel) rfl
theorem yS:Enters prog 68:=enters_of func68 (by decide +kernel) rfl
theorem Rm:Enters prog 69:=enters_of func69 (by decide +kernel) rfl
theorem ZR:Enters prog 70:=enters_of func70 (by decide +kernel) rfl
theorem UD:Enters prog 71:=enters_of func71 (by decide +kernel) rfl
theorem tJ:Enters prog 72:=enters_of func72 (by decide +kernel) rfl
theorem JH:Enters prog 73:=enters_of func73 (by decide +kernel) rfl
theorem en74:Enters prog 74:=enters_of func74 (by decide +kernel) rfl
theorem UE:Enters prog 75:=enters_of func75 (by decide +kernel) rfl
theorem ZS:Enters prog 76:=enters_of func76 (by decide +kernel) rfl
theorem ZT:Enters prog 77:=enters_of func77 (by decide +kernel) rfl
theorem ZU:Enters prog 78:=enters_of func78 (by decide +kernel) rfl
theorem UF:Enters prog 79:=enters_of func79 (by decide +kernel) rfl
theorem Rn:Enters prog 80:=enters_of func80 (by decide +kernel) rfl
theorem Nu:Enters prog 81:=enters_of func81 (by decide +kernel) rfl
theorem UG:Enters prog 86:=enters_of func86 (by decide +kernel) rfl
theorem Nv:Enters prog 90:=enters_of func90 (by decide +kernel) rfl
theorem ZV:Enters prog 91:=enters_of func91 (by decide +kernel) rfl
theorem UH:Enters prog 92:=enters_of func92 (by decide +kernel) rfl
theorem ZW:Enters prog 93:=enters_of func93 (by decide +kernel) rfl
theorem yT:Enters prog 94:=enters_of func94 (by decide +kernel) rfl
theorem UI:Enters prog 95:=enters_of func95 (by decide +kernel) rfl
theorem ZX:Enters prog 96:=enters_of func96 (by decide +kernel) rfl
theorem ZY:Enters prog 97:=enters_of func97 (by decide +kernel) rfl
theorem ZZ:Enters prog 98:=enters_of func98 (by decide +kernel) rfl
theorem UJ:Enters prog 99:=enters_of func99 (by decide +kernel) rfl
theorem JI:Enters prog 100:=enters_of func100 (by decide +kernel) rfl
theorem en101:Enters prog 101:=enters_of func101 (by decide +kernel) rfl
theorem en102:Enters prog 102:=enters_of func102 (by decide +kernel) rfl
theorem en103:Enters prog 103:=enters_of func103 (by decide +kernel) rfl
theorem UK:Enters prog 104:=enters_of func104 (by decide +kernel) rfl
theorem JJ:Enters prog 105:=enters_of func105 (by decide +kernel) rfl
theorem UL:Enters prog 106:=enters_of func106 (by decide +kernel) rfl
theorem UM:Enters prog 107:=enters_of func107 (by decide +kernel) rfl
theorem UN:Enters prog 108:=enters_of func108 (by decide +kernel) rfl
theorem UO:Enters prog 109:=enters_of func109 (by decide +kernel) rfl
theorem JK:Enters prog 110:=enters_of func110 (by decide +kernel) rfl
theorem UP:Enters prog 111:=enters_of func111 (by decide +kernel) rfl
theorem UQ:Enters prog 112:=enters_of func112 (by decide +kernel) rfl
theorem UR:Enters prog 113:=enters_of func113 (by decide +kernel) rfl
theorem US:Enters prog 115:=enters_of func115 (by decide +kernel) rfl
theorem UT:Enters prog 116:=enters_of func116 (by decide +kernel) rfl
theorem JL:Enters prog 117:=enters_of func117 (by decide +kernel) rfl
theorem JN:Enters prog 118:=enters_of func118 (by decide +kernel) rfl
theorem Pg:Enters prog 119:=enters_of func119 (by decide +kernel) rfl
theorem UU:Enters prog 120:=enters_of func120 (by decide +kernel) rfl
theorem UW:Enters prog 121:=enters_of func121 (by decide +kernel) rfl
theorem JO:Enters prog 122:=enters_of func122 (by decide +kernel) rfl
theorem JP:Enters prog 123:=enters_of func123 (by decide +kernel) rfl
theorem Pj:Enters prog 124:=enters_of func124 (by decide +kernel) rfl
theorem Pk:Enters prog 125:=enters_of func125 (by decide +kernel) rfl
theorem Pl:Enters prog 126:=enters_of func126 (by decide +kernel) rfl
theorem FH:Enters prog 127:=enters_of func127 (by decide +kernel) rfl
theorem tK:Enters prog 128:=enters_of func128 (by decide +kernel) rfl
theorem UX:Enters prog 129:=enters_of func129 (by decide +kernel) rfl
theorem FI:Enters prog 130:=enters_of func130 (by decide +kernel) rfl
theorem UY:Enters prog 144:=enters_of func144 (by decide +kernel) rfl
theorem UZ:Enters prog 145:=enters_of func145 (by decide +kernel) rfl
theorem Pm:Enters prog 146:=enters_of func146 (by decide +kernel) rfl
theorem Pn:Enters prog 147:=enters_of func147 (by decide +kernel) rfl
theorem Po:Enters prog 148:=enters_of func148 (by decide +kernel) rfl
theorem U0:Enters prog 149:=enters_of func149 (by decide +kernel) rfl
theorem Pp:Enters prog 150:=enters_of func150 (by decide +kernel) rfl
theorem U1:Enters prog 151:=enters_of func151 (by decide +kernel) rfl
theorem U2:Enters prog 152:=enters_of func152 (by decide +kernel) rfl
theorem AU:Enters prog 153:=enters_of func153 (by decide +kernel) rfl
theorem Pq:Enters prog 154:=enters_of func154 (by decide +kernel) rfl
theorem Pr:Enters prog 155:=enters_of func155 (by decide +kernel) rfl
theorem FJ:Enters prog 156:=enters_of func156 (by decide +kernel) rfl
theorem Ps:Enters prog 157:=enters_of func157 (by decide +kernel) rfl
theorem U3:Enters prog 158:=enters_of func158 (by decide +kernel) rfl
theorem U4:Enters prog 159:=enters_of func159 (by decide +kernel) rfl
theorem JQ:Enters prog 160:=enters_of func160 (by decide +kernel) rfl
theorem JR:Enters prog 161:=enters_of func161 (by decide +kernel) rfl
theorem U5:Enters prog 162:=enters_of func162 (by decide +kernel) rfl
theorem U6:Enters prog 163:=enters_of func163 (by decide +kernel) rfl
theorem U7:Enters prog 164:=enters_of func164 (by decide +kernel) rfl
theorem U8:Enters prog 166:=enters_of func166 (by decide +kernel) rfl
theorem Pt:Enters prog 172:=enters_of func172 (by decide +kernel) rfl
theorem U9:Enters prog 173:=enters_of func173 (by decide +kernel) rfl
theorem dD:Enters prog 174:=enters_of func174 (by decide +kernel) rfl
theorem Va:Enters prog 175:=enters_of func175 (by decide +kernel) rfl
theorem Vb:Enters prog 176:=enters_of func176 (by decide +kernel) rfl
theorem Pu:Enters prog 177:=enters_of func177 (by decide +kernel) rfl
theorem Pv:Enters prog 178:=enters_of func178 (by decide +kernel) rfl
theorem Pw:Enters prog 179:=enters_of func179 (by decide +kernel) rfl
theorem Vc:Enters prog 180:=enters_of func180 (by decide +kernel) rfl
theorem Vd:Enters prog 186:=enters_of func186 (by decide +kernel) rfl
theorem Px:Enters prog 187:=enters_of func187 (by decide +kernel) rfl
theorem JS:Enters prog 188:=enters_of func188 (by decide +kernel) rfl
theorem Py:Enters prog 189:=enters_of func189 (by decide +kernel) rfl
theorem Ve:Enters prog 190:=enters_of func190 (by decide +kernel) rfl
theorem JT:Enters prog 191:=enters_of func191 (by decide +kernel) rfl
theorem Vf:Enters prog 192:=enters_of func192 (by decide +kernel) rfl
theorem Vg:Enters prog 193:=enters_of func193 (by decide +kernel) rfl
theorem JU:Enters prog 194:=enters_of func194 (by decide +kernel) rfl
theorem fN:Enters prog 195:=enters_of func195 (by decide +kernel) rfl
theorem Vh:Enters prog 196:=enters_of func196 (by decide +kernel) rfl
theorem Pz:Enters prog 197:=enters_of func197 (by decide +kernel) rfl
theorem JV:Enters prog 198:=enters_of func198 (by decide +kernel) rfl
theorem Vi:Enters prog 199:=enters_of func199 (by decide +kernel) rfl
theorem PA:Enters prog 200:=enters_of func200 (by decide +kernel) rfl
theorem Vj:Enters prog 201:=enters_of func201 (by decide +kernel) rfl
theorem Vk:Enters prog 202:=enters_of func202 (by decide +kernel) rfl
theorem Vl:Enters prog 207:=enters_of func207 (by decide +kernel) rfl
theorem Vm:Enters prog 208:=enters_of func208 (by decide +kernel) rfl
theorem PB:Enters prog 228:=enters_of func228 (by decide +kernel) rfl
theorem Vn:Enters prog 229:=enters_of func229 (by decide +kernel) rfl
theorem Vo:Enters prog 230:=enters_of func230 (by decide +kernel) rfl
theorem PD:Enters prog 233:=enters_of func233 (by decide +kernel) rfl
theorem Vp:Enters prog 234:=enters_of func234 (by decide +kernel) rfl
theorem mc:Enters prog 235:=enters_of func235 (by decide +kernel) rfl
theorem JW:Enters prog 236:=enters_of func236 (by decide +kernel) rfl
theorem Vq:Enters prog 237:=enters_of func237 (by decide +kernel) rfl
theorem Vr:Enters prog 238:=enters_of func238 (by decide +kernel) rfl
theorem Vs:Enters prog 239:=enters_of func239 (by decide +kernel) rfl
theorem Vt:Enters prog 240:=enters_of func240 (by decide +kernel) rfl
theorem JX:Enters prog 252:=enters_of func252 (by decide +kernel) rfl
theorem AV:Enters prog 253:=enters_of func253 (by decide +kernel) rfl
theorem Vu:Enters prog 254:=enters_of func254 (by decide +kernel) rfl
theorem Vv:Enters prog 262:=enters_of func262 (by decide +kernel) rfl
theorem Vw:Enters prog 263:=enters_of func263 (by decide +kernel) rfl
theorem Vx:Enters prog 264:=enters_of func264 (by decide +kernel) rfl
theorem Vy:Enters prog 265:=enters_of func265 (by decide +kernel) rfl
theorem FK:Enters prog 271:=enters_of func271 (by decide +kernel) rfl
theorem Vz:Enters prog 272:=enters_of func272 (by decide +kernel) rfl
theorem PE:Enters prog 274:=enters_of func274 (by decide +kernel) rfl
theorem VA:Enters prog 275:=enters_of func275 (by decide +kernel) rfl
theorem VB:Enters prog 276:=enters_of func276 (by decide +kernel) rfl
theorem VC:Enters prog 283:=enters_of func283 (by decide +kernel) rfl
theorem PF:Enters prog 284:=enters_of func284 (by decide +kernel) rfl
theorem VD:Enters prog 285:=enters_of func285 (by decide +kernel) rfl
end Go.Proofs.YtphonmiflfhdbaaGreat
namespace Go.Proofs.YtphonmiflfhdbaaGreat
open Go Go.RowKit Dv
structure Wd where
 s:ByteArray
 a:Int
structure Hd where
 ag:Int
 aK:Int
 lo:Int
 hi:Int
 most:Int
 af:List Wd
 name:Wd
structure Ph where
 name:Wd
 bare:Bool
 label:List Wd
 wide:Int
 ck:Int
 cn:Int
 ca:Int
 cl:List Wd
mutual
inductive Ty where
 | mk (h:Hd) (ps:Pts)
inductive Pts where
 | nil
 | cons (p:Ph) (t:Ty) (r:Pts)
end
def Ty.h:Ty->Hd | .mk h _=>h
def Ty.ps:Ty->Pts | .mk _ ps=>ps
def Pts.toList:Pts->List (Ph × Ty)
 | .nil=>[]
 | .cons p t r=>(p,t) :: r.toList
def Pts.len:Pts->Nat
 | .nil=>0
 | .cons _ _ r=>r.len + 1
theorem Pts.JY:∀ ps:Pts,ps.len=ps.toList.length
 | .nil=>rfl
 | .cons _ _ r=>by simp [Pts.len,Pts.toList,Pts.JY r]
def Wd.wt (w:Wd):Nat:=w.s.size + 64
def wdsWt:List Wd->Nat
 | []=>0
 | w :: r=>w.wt + wdsWt r
def Hd.wt (h:Hd):Nat:=256 + wdsWt h.af + h.name.wt
def Ph.wt (p:Ph):Nat:=256 + p.name.wt + wdsWt p.label + wdsWt p.cl
mutual
def Ty.wt:Ty->Nat
 | .mk h ps=>h.wt + ps.wt
def Pts.wt:Pts->Nat
 | .nil=>0
 | .cons p t r=>p.wt + t.wt + r.wt
end
theorem bi:∀ l:List Wd,64 * l.length<=wdsWt l
 | []=>aU _
 | w :: r=>by have:=bi r;simp only [List.length_cons,wdsWt,Wd.wt];omega
theorem gK:∀ {l:List Wd} {w:Wd},w∈l->w.s.size + 64<=wdsWt l
 | x :: r,w,h=>by
  rcases cg h with h | h
  ·subst h;simp only [wdsWt,Wd.wt];omega
  ·have:=gK h;simp only [wdsWt];omega
theorem Pts.eV:∀ ps:Pts,256 * ps.len<=ps.wt
 | .nil=>aU _
 | .cons p t r=>by have:=Pts.eV r;simp only [Pts.len,Pts.wt,Ph.wt];omega
theorem Pts.fD:∀ {ps:Pts} {p:Ph} {t:Ty},(p,t)∈ps.toList->p.wt + t.wt<=ps.wt
 | .cons p t r,q,u,h=>by
  rcases cg h with h | h
  ·cases h;simp only [Pts.wt];omega
  ·have:=Pts.fD h;simp only [Pts.wt];omega
theorem Ty.dE (t:Ty):256<=t.wt:=by
 cases t;simp only [Ty.wt,Hd.wt];omega
def jt (w:Wd):List DV:=[.v (.string w.s),.v (.int .i64 w.a)]
def bw (l:List Wd):List (List DV):=l.map jt
def Dk (p:Ph) (tl:List DV):List DV:=
 .v (.string p.name.s) :: .v (.int .i64 p.name.a) :: .v (.bool p.bare) :: .sl 2 (bw p.label) none :: .v (.int .i64 p.wide) :: .v (.int .i64 p.ck) :: .v (.int .i64 p.cn) :: .v (.int .i64 p.ca) :: .sl 2 (bw p.cl) none :: tl
mutual
def dB:Ty->List DV
 | .mk h ps=>[.v (.int .i64 h.ag),.v (.int .i64 h.aK),.v (.int .i64 h.lo),.v (.int .i64 h.hi),.v (.int .i64 h.most),.sl 2 (bw h.af) none,.sl 18 (eW ps) none,.v (.string h.name.s),.v (.int .i64 h.name.a)]
def eW:Pts->List (List DV)
 | .nil=>[]
 | .cons p t r=>Dk p (dB t) :: eW r
end
theorem az (l:List Wd):(bw l).length=l.length:=by simp [bw]
theorem aJ:∀ ps:Pts,(eW ps).length=ps.len
 | .nil=>by simp [eW,Pts.len]
 | .cons p t r=>by simp [eW,Pts.len,aJ r]
theorem aR {l:List Wd} {j:Nat} {w:Wd} (h:l[j]? = some w):(bw l)[j]? = some (jt w):=by simp [bw,h]
theorem wZ {l:List Wd} {e:Nat} {x:Wd} (h:l[e]? = some x):bw (l.take e) ++ [jt x]=bw (l.take (e + 1)):=by
 rw [List.take_add_one,h];simp [bw]
theorem bI:∀ {ps:Pts} {j:Nat} {p:Ph} {t:Ty},ps.toList[j]? = some (p,t)->(eW ps)[j]? = some (Dk p (dB t))
 | .nil,j,p,t,h=>by simp [Pts.toList] at h
 | .cons q u r,0,p,t,h=>by grind [Pts.toList,eW]
 | .cons q u r,j + 1,p,t,h=>by
  simp only [Pts.toList,List.getElem?_cons_succ] at h;simp only [eW,List.getElem?_cons_succ];exact bI h
def Pts.drop:Nat->Pts->Pts
 | 0,ps=>ps
 | _ + 1,.nil=>.nil
 | e + 1,.cons _ _ r=>r.drop e
theorem Pts.drop_cons:∀ {e:Nat} {ps:Pts} {p:Ph} {t:Ty},ps.toList[e]? = some (p,t)->ps.drop e = .cons p t (ps.drop (e + 1))
 | 0,.cons q u r,p,t,h=>by
  simp only [Pts.toList,List.getElem?_cons_zero,oI,Prod.mk.injEq] at h;obtain ⟨rfl,rfl⟩:=h;rfl
 | e + 1,.cons q u r,p,t,h=>by
  simp only [Pts.toList,List.getElem?_cons_succ] at h;simp only [Pts.drop];exact Pts.drop_cons h
 | 0,.nil,p,t,h=>by simp [Pts.toList] at h
 | e + 1,.nil,p,t,h=>by simp [Pts.toList] at h
theorem Pts.cH:∀ (ps:Pts),ps.drop ps.len = .nil
 | .nil=>rfl
 | .cons _ _ r=>by simp only [Pts.len,Pts.drop];exact Pts.cH r
theorem Pts.dO {ps:Pts} {e:Nat} (h:e < ps.len):∃ p t,ps.toList[e]? = some (p,t):=by
 rw [Pts.JY] at h;exact ⟨_,_,gE h⟩
theorem drop_cons {α:Type} {l:List α} {e:Nat} {x:α} (h:l[e]? = some x):l.drop e=x :: l.drop (e + 1):=by
 obtain ⟨h1,h2⟩:=List.getElem?_eq_some_iff.1 h;rw [<- h2];exact List.drop_eq_getElem_cons h1
def au:ByteArray:=⟨#[]⟩
def JZ:Hd:=⟨0,0,0,0,0,[],⟨au,0⟩⟩
def cd:Ty:=.mk JZ .nil
def eB:Ph:=⟨⟨au,0⟩,false,[],0,0,0,0,[]⟩
def iD:Ph:=⟨⟨au,0⟩,true,[],0,0,0,0,[]⟩
theorem nxt {e n:Nat} (h:e < n) (hn:n<=4611686018427387904):IntKind.i64.wrap ((e:Int) + 1)=((e + 1:Nat):Int):=by
 rw [IntWalk.i64_in _ ⟨by omega,by omega⟩];omega
theorem wrap64 {n:Int} (h1 : -9223372036854775808<=n) (h2:n<=9223372036854775807):IntKind.i64.wrap n=n:=IntWalk.i64_in n ⟨h1,h2⟩
theorem ah (x a:Bool):pickB x a false=(x && a):=by cases x<;>rfl
theorem aq (x b:Bool):pickB x true b=(x || b):=by cases x<;>rfl
end Go.Proofs.YtphonmiflfhdbaaGreat
set_option maxRecDepth 100000
namespace Go.Proofs.YtphonmiflfhdbaaGreat
open Go Go.RowKit Dv Go.Proofs.Tryz
def isLet (c:Int):Bool:=decide (97<=c) && decide (c<=122)
def gL (c:Int):Bool:=(isLet c || (decide (48<=c) && decide (c<=57))) || decide (c=95)
def signs:List UInt8->Nat
 | []=>0
 | c :: r=>if gL c.toNat=true then signs r + 1 else 0
def cW:List UInt8->Nat
 | []=>0
 | c :: r=>if isLet c.toNat=true then signs r + 1 else 0
def aZ (s:ByteArray):Bool:=decide (0 < s.size) && (decide (s.size<=32) && decide (cW s.data.toList=s.size))
theorem AW {c:Int} (h:isLet c=true):gL c=true:=by simp [gL,h]
theorem AX:∀ l:List UInt8,signs l<=l.length
 | []=>aU _
 | c :: r=>by
  simp only [signs,List.length_cons];split
  ·have:=AX r;omega
  ·omega
theorem tM {c:UInt8} {r:List UInt8} (h:isLet c.toNat=true):cW (c :: r)=signs (c :: r):=by
 simp [cW,signs,h,AW h]
theorem iW {s:ByteArray} {k:Nat} (h:k < s.size):∃ c:UInt8,s.data.toList.drop k=c :: s.data.toList.drop (k + 1)/\bm s k=c.toNat:=by
 have hk:k < s.data.toList.length:=sU h;refine ⟨s.data.toList[k],by rw [<- List.drop_eq_getElem_cons hk],?_⟩
 grind [bm]
theorem oZ {s:ByteArray} {k:Nat} (h:s.size<=k):s.data.toList.drop k=[]:=List.drop_eq_nil_of_le (sU h)
theorem ry (c:Int):EvP prog 172 [.v (.int .u8 c)] (.v (.bool (isLet c))):=by
 refine eG 9 [.tmp 2] func172 rfl ntmps172 rfl fun _ _ _ _=>?_;exact (congrArg (fun b=>DV.v (.bool b)) (ah _ _):_=_)
theorem G5 (c:Int):EvP prog 173 [.v (.int .u8 c)] (.v (.bool (gL c))):=by
 refine eG 17 [.tmp 2] func173 rfl ntmps173 rfl fun _ _ _ _=>?_;refine cP Pt (ry c) ?_;refine (bA ?_:);simp only [ah,aq,gL]
abbrev Dl (s:ByteArray) (i e:Nat):St:=⟨[aw 5 e,(0,⟨[],.v (.string s)⟩),aw 1 i],[],[]⟩
theorem yU (s:ByteArray) (i:Nat):s.extract i (i + 0)=⟨#[]⟩:=by
 apply ByteArray.ext
 simp_all
theorem w9 (s:ByteArray) (i:Nat) (hi:i < s.size) (hs:s.size<=4611686018427387904):EvP prog 122 [.v (.string s),.v (.int .i64 i)]
  (.tup [.v (.string (s.extract i (i + cW (s.data.toList.drop i)))),.v (.int .i64 ((i + cW (s.data.toList.drop i):Nat):Int))]):=by
 obtain ⟨c0,xc,iy⟩:=iW hi;refine eG 38 [.tmp 4,.tmp 5] func122 rfl ntmps122 rfl fun _ _ _ _=>?_;refine br (fun h=>?_) (fun _=>?_)
 ·simp [aq] at h;omega
 refine ⟨⟨by omega,by omega⟩,?_⟩;refine cP Pt (ry _) ?_;refine br ?_ ?_<;>intro h
 ·have hl:isLet (c0.toNat:Int)=false:=by grind
  have hn:cW (s.data.toList.drop i)=0:=by rw [xc];simp [cW,hl]
  rw [hn,yU];exact ⟨_,ax,rfl⟩
 have hl:isLet (c0.toNat:Int)=true:=by grind
 have hn:cW (s.data.toList.drop i)=signs (s.data.toList.drop i):=by rw [xc];exact tM hl
 rw [hn]
 refine aY (fun j st=>∃ e:Nat,st=Dl s i e/\e<=s.size/\i<=e/\e + signs (s.data.toList.drop e)=i + signs (s.data.toList.drop i)/\j=s.size - e)
  (s.size - i) (Dl s i i) (bl wB) ⟨i,rfl,by omega,by omega,rfl,rfl⟩ ?_
 rintro j st ⟨e,rfl,he,IJ,hinv,rfl⟩;refine br ?_ ?_<;>intro h
 ·have ay:e < s.size:=sU h;refine ⟨⟨by omega,by omega⟩,?_⟩;refine cP U9 (G5 _) ?_;obtain ⟨c,hd,hb⟩:=iW ay;refine br ?_ ?_<;>intro h2
  ·have PG:gL (c.toNat:Int)=true:=by
    have:gL ((bm s e:Nat):Int)=true:=h2
    rwa [hb] at this
   refine ⟨Dl s i (e + 1),(bl (cQ (nxt ay (by omega)))),s.size - (e + 1),by omega,e + 1,rfl,by omega,by omega,?_,rfl⟩;rw [hd] at hinv;simp only [signs,PG,if_true] at hinv;omega
  ·have PG:gL (c.toNat:Int)=false:=by
    have:gL ((bm s e:Nat):Int)=false:=h2
    rwa [hb] at this
   rw [hd] at hinv;simp only [signs,PG] at hinv;refine ⟨⟨by omega,by omega,by omega⟩,?_⟩;have:i + signs (s.data.toList.drop i)=e:=by simp at hinv;omega
   rw [this];exact ⟨_,ax,rfl⟩
 ·have hge:e=s.size:=by simp at h;omega
  rw [oZ (by omega)] at hinv;simp only [signs] at hinv;refine ⟨⟨by omega,by omega,by omega⟩,?_⟩;have:i + signs (s.data.toList.drop i)=e:=by omega
  rw [this];exact ⟨_,ax,rfl⟩
theorem take_nil (s:ByteArray) (hs:s.size=0):EvP prog 122 [.v (.string s),.v (.int .i64 0)] (.tup [.v (.string ⟨#[]⟩),.v (.int .i64 0)]):=by
 refine eG 38 [.tmp 4,.tmp 5] func122 rfl ntmps122 rfl fun _ _ _ _=>?_;refine br (fun _=>?_) (fun h=>?_)
 ·exact ⟨_,ax,rfl⟩
 ·simp [aq,hs] at h
theorem Dm (l:List UInt8):cW l<=l.length:=by
 cases l with
 | nil=>exact aU _
 | cons c r=>grind [cW,AX]
theorem AY (s:ByteArray):decide (s=⟨#[]⟩)=decide (s.size=0):=by
 rw [Bool.eq_iff_iff];simp only [decide_eq_true_eq];constructor
 ·rintro rfl;rfl
 ·intro h;apply ByteArray.ext;exact Array.eq_empty_of_size_eq_zero h
theorem eC (s:ByteArray) (hs:s.size<=4611686018427387904):EvP prog 68 [.v (.string s)] (.v (.bool (aZ s))):=by
 refine eG 22 [.tmp 2] func68 rfl ntmps68 rfl fun _ _ _ _=>?_;by_cases h0:s.size=0
 ·refine cP JO (take_nil s h0) ?_;refine (bA ?_:);simp [ah,aZ,AY,h0]
 ·refine cP JO (w9 s 0 (by omega) hs) ?_;refine (bA ?_:);have hl:=Dm s.data.toList;simp only [Array.length_toList,ByteArray.size_data] at hl;simp only [ah,aZ,AY,List.drop_zero,Nat.zero_add];rw [Bool.eq_iff_iff];simp only [aS,decide_eq_true_eq,Bool.not_eq_true',decide_eq_false_iff_not];omega
abbrev yV (s:ByteArray) (i n e:Nat):St:=⟨[aw 5 n,aw 6 e,(0,⟨[],.v (.string s)⟩),aw 1 i],[],[]⟩
theorem AZ (s:ByteArray) (hs:s.size<=4611686018427387904):EvP prog 180 [.v (.string s),.v (.int .i64 0)] (.v (.int .i64 (cW s.data.toList))):=by
 refine eG 47 [.tmp 4] func180 rfl ntmps180 rfl fun _ _ _ _=>?_
 refine aY (fun j st=>∃ e:Nat,st=yV s 0 e e/\e<=s.size/\(e=0∨e + signs (s.data.toList.drop e)=cW s.data.toList)/\j=s.size - e)
  s.size (yV s 0 0 0) (bl wB) ⟨0,rfl,by omega,.inl rfl,rfl⟩ ?_
 rintro j st ⟨e,rfl,he,hinv,rfl⟩;refine br ?_ ?_<;>intro h
 ·have ay:e < s.size:=sU h;refine ⟨⟨by omega,by omega⟩,?_⟩;obtain ⟨c,hd,hb⟩:=iW ay;have key:cW s.data.toList=if (e=0/\isLet (c.toNat:Int)=true)∨(e≠0/\gL (c.toNat:Int)=true) then (e + 1) + signs (s.data.toList.drop (e + 1)) else e:=by grind [cW,isLet,signs,gL]
  refine br ?_ ?_<;>intro h2
  ·have lO:bm s ((e:Int).toNat)=c.toNat:=hb;rw [lO] at h2;have:cW s.data.toList=e:=by grind [ah,aq,gL,isLet]
   rw [this];exact (rfl:_=_)
  ·have lO:bm s ((e:Int).toNat)=c.toNat:=hb;rw [lO] at h2;refine ⟨yV s 0 (e + 1) (e + 1),(bl (cQ (nxt ay (by omega)))),s.size - (e + 1),by omega,e + 1,rfl,by omega,.inr ?_,rfl⟩;rw [key,ap];simp only [ah,aq,gL,isLet] at h2 ⊢;simp at h2 ⊢;omega
 ·have hge:e=s.size:=by simp at h;omega
  have:cW s.data.toList=e:=by
   rcases hinv with h0 | h0
   ·subst h0;have:s.data.toList=[]:=by rw [<- List.drop_zero (l:=s.data.toList)];exact oZ (by omega)
    rw [this];all_goals rfl
   ·grind [oZ,signs]
  rw [this];exact (rfl:_=_)
theorem jL (s:ByteArray) (hs:s.size<=4611686018427387904):EvP prog 130 [.v (.string s)] (.v (.bool (aZ s))):=by
 refine eG 18 [.tmp 2] func130 rfl ntmps130 rfl fun _ _ _ _=>?_;refine br ?_ ?_<;>intro h
 ·refine cP Vc (AZ s hs) ?_;refine (bA ?_:);rw [Bool.eq_iff_iff];simp [ah] at h;simp [ah,aZ];omega
 ·refine (bA ?_:);rw [Bool.eq_iff_iff];simp [ah] at h;simp [ah,aZ];omega
def ee (l:List ByteArray):List (List DV):=l.map fun s=>[.v (.string s)]
def dInts (l:List Nat):List (List DV):=l.map fun (i:Nat)=>[.v (.int .i64 (i:Int))]
theorem bQ (l:List ByteArray):(ee l).length=l.length:=by simp [ee]
theorem bo (l:List Nat):(dInts l).length=l.length:=by simp [dInts]
theorem fx {l:List ByteArray} {j:Nat} {x:ByteArray} (h:l[j]? = some x):(ee l)[j]? = some [.v (.string x)]:=by simp [ee,h]
theorem dF {l:List Nat} {j:Nat} {x:Nat} (h:l[j]? = some x):(dInts l)[j]? = some [.v (.int .i64 (x:Int))]:=by simp [dInts,h]
abbrev Dp (g:Nat) (cb:List DV) (i j:Nat):St:=⟨[(1,⟨[],.fn g [] cb⟩),aw 5 i,aw 6 j],[],[]⟩
theorem rz (g:Nat) (kV:Enters prog g) (cb:List DV) (n m:Nat) (hn:n<=1099511627776) (hm:m<=n) (VE:CcL [] 0 0 0 cb cb) (j9:clB.clL 0 0 cb=true)
  (hp:∀ i:Nat,i < n->EvP prog g (.v (.int .i64 i) :: cb) (.v (.bool (decide (m<=i))))) :
  EvP prog 124 [.v (.int .i64 n),.fn g [] cb] (.v (.int .i64 m)):=by
 refine eG 26 [.tmp 4] func124 rfl ntmps124 rfl fun _ _ _ _=>?_;have Ae:clB 0 0 (.fn g [] cb)=true:=by simp only [clB,aS];exact ⟨rfl,j9⟩
 refine lI (fun j st=>∃ a b:Nat,st=Dp g cb a b/\a<=m/\m<=b/\b<=n/\j=b - a) ⟨0,n,rfl,by omega,by omega,by omega,rfl⟩ (bl (cQ Ae)) ?_;rintro j st ⟨a,b,rfl,h1,h2,h3,rfl⟩;refine br ?_ ?_<;>intro h
 ·have ay:a < b:=sU h
  have Ro:IntKind.i64.wrap ((IntKind.u64.wrap (IntKind.i64.wrap ((a:Int) + (b:Int)))).fdiv (2 ^ (min ((1:Int).toNat) IntKind.u64.bits)))=(((a + b) / 2:Nat):Int):=by
   rw [wrap64 (n:=(a:Int) + (b:Int)) (by omega) (by omega),IntKind.wrap_u64];have e2:(2:Int) ^ (min ((1:Int).toNat) IntKind.u64.bits)=2:=by decide
   rw [e2,Int.fdiv_eq_ediv_of_nonneg _ (by decide),wrap64 (by omega) (by omega)];omega
  refine ⟨by decide,?_⟩;refine cP kV (hp ((a + b) / 2) (by omega)) ?_ ⟨_,_,rfl,congrArg (fun z=>DV.v (.int .i64 z)) Ro,VE⟩;refine br ?_ ?_<;>intro hq
  ·have hq:(a + b) / 2 < m:=sU hq;have CW:=nxt (e:=(a + b) / 2) (n:=n) (by omega) (by omega);rw [<- Ro] at CW;refine ⟨Dp g cb ((a + b) / 2 + 1) b,(bl (wB2 Ae CW)),b - ((a + b) / 2 + 1),by omega,(a + b) / 2 + 1,b,rfl,by omega,by omega,by omega,rfl⟩
  ·have hq:m<=(a + b) / 2:=sU hq;refine ⟨Dp g cb a ((a + b) / 2),(bl (wB2 Ae Ro)),(a + b) / 2 - a,by omega,a,(a + b) / 2,rfl,by omega,by omega,by omega,rfl⟩
 ·have hge:¬ a < b:=sU h;have:a=m:=by omega
  subst this;exact (rfl:_=_)
def yW (a b:ByteArray):Bool:=Op.bytesLess a.data.toList b.data.toList
theorem j1:∀ l:List UInt8,Op.bytesLess l l=false
 | []=>rfl
 | a :: r=>by simp [Op.bytesLess,j1 r]
theorem ju:∀ {a b:List UInt8},Op.bytesLess a b=true->Op.bytesLess b a=false
 | _,[],h=>by simp [Op.bytesLess] at h
 | [],b :: r,_=>rfl
 | a :: x,b :: y,h=>by
  simp only [Op.bytesLess,Bool.or_eq_true,decide_eq_true_eq,aS,beq_iff_eq] at h;simp only [Op.bytesLess,Bool.or_eq_false_iff,decide_eq_false_iff_not,Bool.and_eq_false_imp,beq_iff_eq];rcases h with h | ⟨rfl,h⟩
  ·grind
  ·exact ⟨UInt8.lt_irrefl _,fun _=>ju h⟩
structure gw (L:List ByteArray) (aH:List Nat):Prop where
 lt:∀ (i p:Nat),aH[i]? = some p->p < L.length
 Z0:∀ (i j p q:Nat) (s t:ByteArray),i < j->aH[i]? = some p->aH[j]? = some q->L[p]? = some s->L[q]? = some t->yW s t=true
 fst:∀ (i p j:Nat) (s:ByteArray),aH[i]? = some p->L[p]? = some s->L[j]? = some s->p<=j
 all:∀ (j:Nat) (s:ByteArray),L[j]? = some s->∃ i p:Nat,aH[i]? = some p/\L[p]? = some s
abbrev cw (L:List ByteArray) (aH:List Nat):List DV:=[.sl 1 (ee L) none,.sl 1 (dInts aH) none]
theorem tN (L:List ByteArray) (aH:List Nat) (s:ByteArray) (i p:Nat) (t:ByteArray) (hi:aH[i]? = some p) (hp:L[p]? = some t) :
  EvP prog 125 [.v (.int .i64 i),.pt [.pt (cw L aH) 0] 0,.pt [.v (.string s)] 0] (.v (.bool (!yW t s))):=by
 refine eG 20 [.tmp 4] func125 rfl ntmps125 rfl fun _ _ _ _=>?_;refine dI ?_;refine iX (dF hi) ?_;refine iX (fx hp) ?_;exact (rfl:_=_)
theorem find_spec (L:List ByteArray) (aH:List Nat) (s:ByteArray) (q p:Nat) (hT:gw L aH) (hl:aH.length<=1099511627776) (hq:aH[q]? = some p) (hp:L[p]? = some s) :
  EvP prog 72 [.pt (cw L aH) 0,.v (.string s)] (.tup [.v (.int .i64 p),.v (.bool true)]):=by
 have hqlt:=(gS hq).1;refine eG 47 [.tmp 4,.tmp 5] func72 rfl ntmps72 rfl fun _ _ _ _=>?_
 have j9:∀ i:Nat,i < aH.length->EvP prog 125 [.v (.int .i64 i),.pt [.pt (cw L aH) 0] 0,.pt [.v (.string s)] 0] (.v (.bool (decide (q<=i)))):=by
  intro i hi;obtain ⟨p',vZ⟩:∃ p',aH[i]? = some p':=⟨_,gE hi⟩;obtain ⟨t,ht⟩:∃ t,L[p']? = some t:=⟨_,gE (hT.lt i p' vZ)⟩;have:=tN L aH s i p' t vZ ht
  have e:(!yW t s)=decide (q<=i):=by
   rcases Nat.lt_trichotomy i q with h | h | h
   ·rw [hT.Z0 i q p' p t s h vZ hq ht hp];simp;omega
   ·grind [yW,j1]
   ·have h2:=hT.Z0 q i p p' s t h hq vZ hp ht;rw [yW,ju h2];simp;omega
  rw [e] at this;exact this
 have hS:=rz 125 Pk [.pt [.pt (cw L aH) 0] 0,.pt [.v (.string s)] 0] aH.length q hl (by omega) ax rfl j9;refine yR Pj hS (pZ (bo aH)) rfl ?_;refine dI ?_;refine br ?_ ?_<;>intro h
 ·refine iX (dF hq) ?_;refine iX (fx hp) ?_;refine br ?_ ?_<;>intro h2
  ·exfalso;simp [aq,bo] at h2
  ·refine iX (dF hq) ?_;exact ⟨_,ax,rfl⟩
 ·grind [dInts,bo]
end Go.Proofs.YtphonmiflfhdbaaGreat
set_option maxRecDepth 100000
namespace Go.Proofs
open Go.Shelf
def Tryz.laysGg6_ren:Go.Shelf.Ren:=⟨fun | 6=>113 | 10=>167 | 11=>168 | 12=>169 | 13=>170 | 14=>171 | 24=>218 | 25=>219 | 26=>220 | 27=>221 | 28=>222 | 29=>223 | 30=>224 | 31=>225 | 32=>226 | 33=>227 | 34=>247 | 35=>248 | 36=>249 | 37=>250 | 38=>251 | 39=>270 | n=>n,fun | 20=>20 | 26=>69 | 35=>262 | 0=>0 | 37=>264 | 3=>3 | 41=>267 | 44=>270 | 49=>308 | 51=>199 | 4=>4 | 54=>311 | 53=>310 | 58=>154 | 5=>5 | 9=>9 | 60=>332 | 64=>336 | 66=>347 | 67=>70 | 17=>17 | 32=>259 | 33=>260 | 82=>372 | 12=>12 | 75=>366 | 76=>367 | 77=>368 | 78=>327 | 79=>369 | 80=>370 | n=>n,fun | n=>n⟩
theorem Tryz.laysGg6:Go.Proofs.LaysGg.n6 prog Tryz.laysGg6_ren:={
 mixed:=by kernel_rfl
 f6:=func113.trans (congrArg some (by kernel_rfl))
 f10:=func167.trans (congrArg some (by kernel_rfl))
 f11:=func168.trans (congrArg some (by kernel_rfl))
 f12:=func169.trans (congrArg some (by kernel_rfl))
 f13:=func170.trans (congrArg some (by kernel_rfl))
 f14:=func171.trans (congrArg some (by kernel_rfl))
 f24:=func218.trans (congrArg some (by kernel_rfl))
 f25:=func219.trans (congrArg some (by kernel_rfl))
 f26:=func220.trans (congrArg some (by kernel_rfl))
 f27:=func221.trans (congrArg some (by kernel_rfl))
 f28:=func222.trans (congrArg some (by kernel_rfl))
 f29:=func223.trans (congrArg some (by kernel_rfl))
 f30:=func224.trans (congrArg some (by kernel_rfl))
 f31:=func225.trans (congrArg some (by kernel_rfl))
 f32:=func226.trans (congrArg some (by kernel_rfl))
 f33:=func227.trans (congrArg some (by kernel_rfl))
 f34:=func247.trans (congrArg some (by kernel_rfl))
 f35:=func248.trans (congrArg some (by kernel_rfl))
 f36:=func249.trans (congrArg some (by kernel_rfl))
 f37:=func250.trans (congrArg some (by kernel_rfl))
 f38:=func251.trans (congrArg some (by kernel_rfl))
 f39:=func270.trans (congrArg some (by kernel_rfl))
 t0:=Tryz.underlying0
 a0:=Tryz.isAgg0
 z0:=Tryz.sizeOf0
 v0:=Tryz.zeroValue0
 i0:=by kernel_rfl
 t3:=Tryz.underlying3
 a3:=Tryz.isAgg3
 z3:=Tryz.sizeOf3
 v3:=Tryz.zeroValue3
 i3:=by kernel_rfl
 t4:=Tryz.underlying4
 a4:=Tryz.isAgg4
 z4:=Tryz.sizeOf4
 v4:=Tryz.zeroValue4
 i4:=by kernel_rfl
 t5:=Tryz.underlying5
 a5:=Tryz.isAgg5
 z5:=Tryz.sizeOf5
 v5:=Tryz.zeroValue5
 i5:=by kernel_rfl
 t9:=Tryz.underlying9
 a9:=Tryz.isAgg9
 z9:=Tryz.sizeOf9
 v9:=Tryz.zeroValue9
 i9:=by kernel_rfl
 t12:=Tryz.underlying12
 a12:=Tryz.isAgg12
 z12:=Tryz.sizeOf12
 v12:=Tryz.zeroValue12
 i12:=by kernel_rfl
 t17:=Tryz.underlying17
 a17:=Tryz.isAgg17
 z17:=Tryz.sizeOf17
 v17:=Tryz.zeroValue17
 i17:=by kernel_rfl
 t20:=Tryz.underlying20
 a20:=Tryz.isAgg20
 z20:=Tryz.sizeOf20
 v20:=Tryz.zeroValue20
 i20:=by kernel_rfl
 t26:=Tryz.underlying69
 a26:=Tryz.isAgg69
 z26:=Tryz.sizeOf69
 v26:=Tryz.zeroValue69
 i26:=by kernel_rfl
 t32:=Tryz.underlying259
 a32:=Tryz.isAgg259
 z32:=Tryz.sizeOf259
 v32:=Tryz.zeroValue259
 i32:=by kernel_rfl
 t33:=Tryz.underlying260
 a33:=Tryz.isAgg260
 z33:=Tryz.sizeOf260
 v33:=Tryz.zeroValue260
 i33:=by kernel_rfl
 t35:=Tryz.underlying262
 a35:=Tryz.isAgg262
 z35:=Tryz.sizeOf262
 v35:=Tryz.zeroValue262
 i35:=by kernel_rfl
 t37:=Tryz.underlying264
 a37:=Tryz.isAgg264
 z37:=Tryz.sizeOf264
 v37:=Tryz.zeroValue264
 i37:=by kernel_rfl
 t41:=Tryz.underlying267
 a41:=Tryz.isAgg267
 z41:=Tryz.sizeOf267
 v41:=Tryz.zeroValue267
 i41:=by kernel_rfl
 t44:=Tryz.underlying270
 a44:=Tryz.isAgg270
 z44:=Tryz.sizeOf270
 v44:=Tryz.zeroValue270
 i44:=by kernel_rfl
 t49:=Tryz.underlying308
 a49:=Tryz.isAgg308
 z49:=Tryz.sizeOf308
 v49:=Tryz.zeroValue308
 i49:=by kernel_rfl
 t51:=Tryz.underlying199
 a51:=Tryz.isAgg199
 z51:=Tryz.sizeOf199
 v51:=Tryz.zeroValue199
 i51:=by kernel_rfl
 t53:=Tryz.underlying310
 a53:=Tryz.isAgg310
 z53:=Tryz.sizeOf310
 v53:=Tryz.zeroValue310
 i53:=by kernel_rfl
 t54:=Tryz.underlying311
 a54:=Tryz.isAgg311
 z54:=Tryz.sizeOf311
 v54:=Tryz.zeroValue311
 i54:=by kernel_rfl
 t58:=Tryz.underlying154
 a58:=Tryz.isAgg154
 z58:=Tryz.sizeOf154
 v58:=Tryz.zeroValue154
 i58:=by kernel_rfl
 t60:=Tryz.underlying332
 a60:=Tryz.isAgg332
 z60:=Tryz.sizeOf332
 v60:=Tryz.zeroValue332
 i60:=by kernel_rfl
 t64:=Tryz.underlying336
 a64:=Tryz.isAgg336
 z64:=Tryz.sizeOf336
 v64:=Tryz.zeroValue336
 i64:=by kernel_rfl
 t66:=Tryz.underlying347
 a66:=Tryz.isAgg347
 z66:=Tryz.sizeOf347
 v66:=Tryz.zeroValue347
 i66:=by kernel_rfl
 t67:=Tryz.underlying70
 a67:=Tryz.isAgg70
 z67:=Tryz.sizeOf70
 v67:=Tryz.zeroValue70
 i67:=by kernel_rfl
 t75:=Tryz.underlying366
 a75:=Tryz.isAgg366
 z75:=Tryz.sizeOf366
 v75:=Tryz.zeroValue366
 i75:=by kernel_rfl
 t76:=Tryz.underlying367
 a76:=Tryz.isAgg367
 z76:=Tryz.sizeOf367
 v76:=Tryz.zeroValue367
 i76:=by kernel_rfl
 t77:=Tryz.underlying368
 a77:=Tryz.isAgg368
 z77:=Tryz.sizeOf368
 v77:=Tryz.zeroValue368
 i77:=by kernel_rfl
 t78:=Tryz.underlying327
 a78:=Tryz.isAgg327
 z78:=Tryz.sizeOf327
 v78:=Tryz.zeroValue327
 i78:=by kernel_rfl
 t79:=Tryz.underlying369
 a79:=Tryz.isAgg369
 z79:=Tryz.sizeOf369
 v79:=Tryz.zeroValue369
 i79:=by kernel_rfl
 t80:=Tryz.underlying370
 a80:=Tryz.isAgg370
 z80:=Tryz.sizeOf370
 v80:=Tryz.zeroValue370
 i80:=by kernel_rfl
 t82:=Tryz.underlying372
 a82:=Tryz.isAgg372
 z82:=Tryz.sizeOf372
 v82:=Tryz.zeroValue372
 i82:=by kernel_rfl }
end Go.Proofs
namespace Go.Proofs.YtphonmiflfhdbaaGreat
open Go Go.RowKit Go.Lib Go.Sort Go.Proofs.Tryz
noncomputable def Z1:TypeInfo:=(prog.info? 82).get (by kernel_rfl)
noncomputable def Tf:TypeInfo:=(prog.info? 3).get (by kernel_rfl)
theorem siK (n:Nat) (h2:2<=n):Lib.swapperK n Tf 2=5:=by
 have a:Tf.hasPointers=false:=by kernel_rfl
 have b:Tf.bytes=8:=by kernel_rfl
 have c:(n == 0)=false:=by simp;omega
 have d:(n == 1)=false:=by simp;omega
 simp [Lib.swapperK,a,b,c,d]
theorem J0 {α:Type} [Inhabited α] (enc:α->Value) (h1:∀ x,(enc x).oneCell'=true) {lt:α->α->Bool} (hO:SWO lt) (lb:Array Value) (Ao c:Nat) (d:Array α) (h2:2<=d.size) (bY:d.size < 4611686018427387904) (w:World)
  (J1:LessReads prog 114 lb enc lt Ao 0 d.size w) (hH:Holds enc w Ao 0 d) (Z2:Ao < w.heap.size) :
  Calls prog 113 #[.iface 82 (.slice (some ⟨Ao,0,none⟩) d.size c),.func (.func 114) #[] lb] w fun e w'=>
   e = .returned (.tuple #[])/\∃ d' n os,PermIn 0 d.size d d' /\ SortedIn lt 0 d.size d' /\ w'=grow (putRow enc (Sort.ahead w n) Ao 0 d') os:=
 Any.sort_Slice_sorted Tryz.laysGg6 82 3 Z1 Tf (by kernel_rfl) (by kernel_rfl) (by kernel_rfl) (by kernel_rfl) 2 (fun _=>by kernel_rfl) (by kernel_rfl) (fun _=>by kernel_rfl) enc h1 lt hO 114 lb
  (enters_of func114 (by kernel_rfl) rfl) Ao 0 c d h2 bY 213 (by rw [siK _ h2];kernel_rfl) true
  (fun args W=>run_callFunc_extern func213 (by kernel_rfl) (by kernel_rfl) (by kernel_rfl) (e:=Extern.ReflectliteSwapper.swap true) (by kernel_rfl) args W) w J1 hH Z2
theorem G6 (lb:Array Value) (p:Option Addr) (n c:Nat) (h1:n<=1) (w:World) :
  Calls prog 113 #[.iface 82 (.slice p n c),.func (.func 114) #[] lb] w fun e w'=>e = .returned (.tuple #[])/\∃ os,w'=grow w os:=by
 have h:n=0∨n=1:=by omega
 rcases h with rfl | rfl
 ·exact Any.sort_Slice_tiny Tryz.laysGg6 82 3 Z1 Tf (by kernel_rfl) (by kernel_rfl) (by kernel_rfl) (by kernel_rfl) 2 (fun _=>by kernel_rfl) p 0 c h1 209 (by kernel_rfl) _ _ _ w
 ·exact Any.sort_Slice_tiny Tryz.laysGg6 82 3 Z1 Tf (by kernel_rfl) (by kernel_rfl) (by kernel_rfl) (by kernel_rfl) 2 (fun _=>by kernel_rfl) p 1 c h1 210 (by kernel_rfl) _ _ _ w
end Go.Proofs.YtphonmiflfhdbaaGreat
set_option maxRecDepth 100000
namespace Go.Proofs.YtphonmiflfhdbaaGreat
open Go Go.RowKit Dv Go.Proofs.Tryz
theorem nG:∀ {a b:List UInt8},Op.bytesLess a b=false->a=b∨Op.bytesLess b a=true
 | [],[],_=>.inl rfl
 | a :: x,[],_=>.inr rfl
 | [],b :: r,h=>by simp [Op.bytesLess] at h
 | a :: x,b :: y,h=>by
  simp only [Op.bytesLess,Bool.or_eq_false_iff,decide_eq_false_iff_not,Bool.and_eq_false_imp,beq_iff_eq] at h;simp only [Op.bytesLess,Bool.or_eq_true,decide_eq_true_eq,aS,beq_iff_eq];by_cases IK:a=b
  ·subst IK;rcases nG (h.2 rfl) with h2 | h2
   all_goals grind
  all_goals grind
theorem fy:∀ {a b c:List UInt8},Op.bytesLess a b=true->Op.bytesLess b c=true->Op.bytesLess a c=true
 | _,[],_,h,_=>by simp [Op.bytesLess] at h
 | _,_ :: _,[],_,h=>by simp [Op.bytesLess] at h
 | [],b :: y,c :: z,_,_=>rfl
 | a :: x,b :: y,c :: z,h1,h2=>by
  simp only [Op.bytesLess,Bool.or_eq_true,decide_eq_true_eq,aS,beq_iff_eq] at h1 h2 ⊢;rcases h1 with h1 | ⟨rfl,h1⟩
  ·grind
  ·rcases h2 with h2 | ⟨rfl,h2⟩
   ·exact .inl h2
   ·exact .inr ⟨rfl,fy h1 h2⟩
theorem FL {s t:ByteArray} (h:yW s t=false):s=t∨yW t s=true:=by
 rcases nG h with h | h
 ·exact .inl (ByteArray.ext (Array.ext' h))
 ·exact .inr h
def A0 (L:List ByteArray) (p q:Nat):Bool:=
 if L.getD p au=L.getD q au then decide (p < q) else yW (L.getD p au) (L.getD q au)
theorem Nx (L:List ByteArray):Sort.SWO (A0 L):=by
 have irr:∀ x,A0 L x x=false:=fun x=>by simp [A0]
 have tr:∀ x y z,A0 L x y=true->A0 L y z=true->A0 L x z=true:=by grind [A0,au,ju,yW,fy]
 have tot:∀ x y,A0 L x y=false->x=y∨A0 L y x=true:=by grind [A0,au,FL]
 refine ⟨irr,tr,fun x y z h1 h2=>?_⟩
 grind
theorem G7 (L:List ByteArray) (d:List Nat) (i j p q:Nat) (hi:d[i]? = some p) (hj:d[j]? = some q) (hp:p < L.length) (hq:q < L.length) :
  EvS prog 114 [.v (.int .i64 i),.v (.int .i64 j),.pt [.sl 1 (dInts d) none] 0,.pt [.pt [.sl 1 (ee L) none,.v (.slice none 0 0)] 0] 0] [] [] (fun r _ _=>r = .v (.bool (A0 L p q))):=by
 obtain ⟨s,hs⟩:∃ s,L[p]? = some s:=⟨_,gE hp⟩;obtain ⟨t,ht⟩:∃ t,L[q]? = some t:=⟨_,gE hq⟩;have e:A0 L p q=if s=t then decide (p < q) else yW s t:=by grind [A0]
 refine Jp (s:=true) (P:=prog) tt AS 5000 50 [.tmp 6] func114 rfl ntmps114 rfl (nL rfl) (fun _ _ _ _=>?_);refine dI ?_;refine iX (dF hi) ?_;refine iX (dF hj) ?_;refine dI ?_;refine iX (fx hs) ?_;refine iX (fx ht) ?_;refine br ?_ ?_<;>intro h
 ·have bq:s≠t:=sU h;refine dI ?_;refine iX (fx hs) ?_;refine iX (fx ht) ?_;refine (bA ?_:);rw [e,ai bq];rfl
 ·have aP:s=t:=sU h;refine (bA ?_:);rw [e,ap aP];simp
abbrev J2 (p:Nat):Value:=.int .i64 (p:Int)
theorem A1 {E:En}:∀ {ds:List Nat} {arr:List Value},RvL E (dInts ds).flatten arr->arr=ds.map J2
 | [],arr,h=>by simpa [dInts,RvL] using h
 | x :: r,arr,h=>by
  simp only [dInts,List.map_cons,List.flatten_cons,List.cons_append,List.nil_append,RvL] at h;obtain ⟨v,s,rfl,h1,h2⟩:=h;unfold Rv at h1;rw [h1.1,A1 (ds:=r) h2];rfl
theorem tO {E:En}:∀ ds:List Nat,RvC E (dInts ds).flatten (ds.map J2)
 | []=>⟨cf E,by simp⟩
 | x :: r=>by
  have ih:=tO (E:=E) r;refine ⟨?_,?_⟩
  ·simp only [dInts,List.map_cons,List.flatten_cons,List.cons_append,List.nil_append];exact rvL_cons (eS rfl) ih.1
  ·intro v hv;simp only [List.map_cons,List.mem_cons] at hv;rcases hv with rfl | hv
   ·rfl
   ·exact ih.2 v hv
theorem VF {m:Nat}:∀ ds:List Nat,(∀ p∈ds,p < m + 1)->∃ D:List (Fin (m + 1)),D.map (·.val)=ds
 | [],_=>⟨[],rfl⟩
 | x :: r,h=>by
  obtain ⟨D,hD⟩:=VF r fun p hp=>h p (fK _ hp);exact ⟨⟨x,h x (by simp)⟩ :: D,by simp [hD]⟩
theorem tP {α:Type} [Inhabited α] (enc:α->Value) (w:World) (b n:Nat) (dk:Array α) (os:Array Obj) (arr:List Value) (ty:TypeId) (hw:w.heap[b]? = some (.cells arr.toArray ty (0,0))) (hl:arr.length=dk.size) :
  ∀ k,k < w.heap.size->(Sort.grow (Sort.putRow enc (Sort.ahead w n) b 0 dk) os).heap[k]? = (World.dn w b (.cells (dk.toList.map enc).toArray ty (0,0))).heap[k]?:=by
 intro k hk;simp only [Sort.grow,Sort.putRow,Sort.mapBlock,Sort.ahead];rw [Array.getElem?_append_left (sU hk),Array.getElem?_modify];by_cases Z3:b=k
 ·subst Z3;rw [ap rfl,hw,ij hw];simp only [Option.map_some,Sort.onCells,oI,Obj.cells.injEq,and_true];apply Array.ext_getElem?;intro j;simp only [Sort.putCells,Array.getElem?_mapIdx]
  grind
 ·rw [ai Z3,cL (Ne.symm Z3)]
theorem J3 {α:Type} {l:List α} {i:Nat} {x:α} (h:l[i]? = some x):l.set i x=l:=by
 apply List.ext_getElem?
 grind
theorem G8 {X:Ctx} {st:St} {k:List It} (hP:X.P=prog) {i c len:Nat} {ds:List Nat} (hlen:len=ds.length) {Z4:List DV} {d:Nat} (N:Nat) (hN:∀ p∈ds,p < N) (lt:Nat->Nat->Bool) (hO:Sort.SWO lt)
  (pY:st.bx[i]? = some (dInts ds).flatten) (hn:ds.length<=1099511627776) (lbF:List Nat->List DV) (Ny:∀ dk:List Nat,dk.length=ds.length->CcL (st.bx.set i (dInts dk).flatten) 0 0 0 (lbF dk) Z4)
  (J1:∀ dk:List Nat,dk.length=ds.length->(∀ p∈dk,p < N)->∀ i j p q:Nat,dk[i]? = some p->dk[j]? = some q->EvS prog 114 (.v (.int .i64 i) :: .v (.int .i64 j) :: lbF dk) [] [] (fun r _ _=>r = .v (.bool (lt p q))))
  (hd:fY X.nt st.sl (some d)=true)
  (hk:∀ Rp:List Nat,Rp.Perm ds->(∀ i j p q:Nat,i < j->Rp[i]? = some p->Rp[j]? = some q->lt q p=false)->go X 4000 k ⟨(d,⟨[],.tup []⟩) :: st.sl,st.bx.set i (dInts Rp).flatten,st.tk⟩)
  (bh:X.still=false:=by exact rfl) (hX:X.bt=[]:=by exact rfl):CallG X 113 [.ri 82 (.ms i 1 0 len c),.fn 114 [] Z4] (some d) k st:=by
 subst hlen;refine ⟨?_,bh,fun E a w vs h hv=>?_⟩
 ·rw [hP];exact UR
 rw [hP];simp only [RvL] at hv;obtain ⟨v1,_,rfl,h1,v2,_,rfl,h2,rfl⟩:=hv;unfold Rv at h1;obtain ⟨z,rfl,h1⟩:=h1;unfold Rv at h1;obtain ⟨b,ad,hb,S5,rfl,hca⟩:=h1;unfold Rv at h2;obtain ⟨l,r,rfl,hl,hr⟩:=h2;simp only [RvL] at hl;subst hl;obtain ⟨b',ty,arr,fv,hw,AB⟩:=h.env.ey i _ pY;rw [hb] at fv;simp only [oI] at fv;subst fv;have J4:=A1 AB.1;have Rb:=cY hw;by_cases h1:ds.length<=1
 ·refine (G6 r.toArray ad ds.length c h1 w).mono ?_;rintro e w' ⟨rfl,os,rfl⟩
  have hh:∀ j,j < w.heap.size->(Sort.grow w os).heap[j]? = w.heap[j]?:=fun j hj=>by
   simp only [Sort.grow];rw [Array.getElem?_append_left hj]
  have cu:Rel X E st a (Sort.grow w os):=cV h (Ext.refl E) (h.env.jW hh) h.tk h.nw (h.fr.cm rfl rfl rfl (by simp [Sort.grow]) fun j hj=>.inr (hh j hj)) (nQ bh) (.nil hX);have G1:=hk ds (List.Perm.refl _) (fun i j p q Ad _ hj=>by have:=(gS hj).1;omega);rw [J3 pY] at G1;exact go_sound 4000 _ _ G1 E _ _ (bu cu hd (.tup []) (.tuple #[]) (by unfold Rv;exact ⟨[],rfl,cf E⟩))
 ·have h2:2<=ds.length:=by omega
  have TV:=hca (by omega);subst TV
  obtain ⟨m,rfl⟩:∃ m,N=m + 1:=by
   cases X3:ds with
   | nil=>rw [X3] at h2;simp at h2
   | cons x r=>have:=hN x (by rw [X3];simp);exact ⟨N - 1,by omega⟩
  obtain ⟨D,hD⟩:=VF ds hN;have J5:D.length=ds.length:=by rw [<- hD];simp
  let enc:Fin (m + 1)->Value:=fun x=>J2 x.val
  have hO':Sort.SWO (fun x y:Fin (m + 1)=>lt x.val y.val):=⟨fun x=>hO.irrefl _,fun x y z=>hO.trans _ _ _,fun x y z=>hO.ntrans _ _ _⟩;have VG:∀ l:List (Fin (m + 1)),l.map enc=(l.map (·.val)).map J2:=fun l=>by simp [enc]
  have hS:=J0 enc (fun _=>rfl) hO' r.toArray b c D.toArray (by simpa [J5] using h2) (by simp [J5];omega) w ?_ ?_ Rb
  ·simp only [List.size_toArray,J5] at hS;refine hS.mono ?_;rintro e w' ⟨rfl,d',n,os,hp,hs,rfl⟩;have bY:d'.size=ds.length:=by have:=hp.1;simpa [J5] using this
   have nH:(d'.toList.map (·.val)).Perm ds:=by
    have h3:=hp.2.2;have e1:d'.extract 0 ds.length=d':=Array.extract_eq_self_of_le (by omega);have e2:D.toArray.extract 0 ds.length=D.toArray:=Array.extract_eq_self_of_le (by simp [J5]);rw [e1,e2] at h3;rw [<- hD];exact h3.map _
   have J6:∀ i j p q:Nat,i < j->(d'.toList.map (·.val))[i]? = some p->(d'.toList.map (·.val))[j]? = some q->lt q p=false:=by
    intro i j p q Ad hi hj;have pX:j < d'.size:=by have:=(gS hj).1;simpa using this
    have h3:=hs i j (Nat.zero_le _) Ad (by omega);rw [getElem!_pos d' j pX,getElem!_pos d' i (by omega)] at h3;have IL:i < d'.size:=by omega
    simp [IL] at hi;simp [pX] at hj;rw [<- hi,<- hj];exact h3
   have hh:=tP enc w b n d' os arr ty hw (by rw [J4];simp [bY]);have ep:=qj (ty:=ty) h bh hb (cs':=(dInts (d'.toList.map (·.val))).flatten) (arr':=(d'.toList.map (·.val)).map J2) (tO _) ⟨_,hw⟩;rw [<- VG] at ep;have sY:(Sort.grow (Sort.putRow enc (Sort.ahead w n) b 0 d') os).heap.size=w.heap.size + os.size:=by simp [Sort.grow,Sort.putRow,Sort.mapBlock,Sort.ahead]
   have cu:=cV ep (Ext.refl E) (w':=Sort.grow (Sort.putRow enc (Sort.ahead w n) b 0 d') os) (ep.env.jW fun j hj=>hh j (by rwa [fL] at hj)) ep.tk ep.nw
    (ep.fr.cm rfl rfl rfl (by rw [fL,sY];omega) fun j hj=>.inr (hh j (by rwa [fL] at hj))) (nQ bh) (.nil hX)
   exact go_sound 4000 _ _ (hk _ nH J6) E _ _ (bu cu hd (.tup []) (.tuple #[]) (by unfold Rv;exact ⟨[],rfl,cf E⟩))
  ·intro mm os dk hs i' j' hi hj;have bY:dk.size=ds.length:=sV J5 hs;have hh:=tP enc w b mm dk os arr ty hw (by rw [J4];simp [bY]);have hE:=h.env.set hb Rb (ty:=ty) (tO (E:=E) (dk.toList.map (·.val)));rw [<- VG] at hE;have hE':=hE.jW (w':=Go.Proofs.sortWorld enc w b 0 mm dk os) fun j hj=>hh j (by rwa [fL] at hj);have IL:i' < dk.size:=by rw [bY,<- J5];simpa using hi
   have pX:j' < dk.size:=by rw [bY,<- J5];simpa using hj
   have hLL:(dk.toList.map (·.val)).length=ds.length:=sU bY
   have hc:=J1 (dk.toList.map (·.val)) hLL (fun p hp=>by
    obtain ⟨x,_,rfl⟩:=List.mem_map.1 hp
    exact x.isLt) i' j' (dk[i']!).val (dk[j']!).val (by rw [getElem!_pos dk i' IL];simp [IL]) (by rw [getElem!_pos dk j' pX];simp [pX])
   have hv:RvL E (.v (.int .i64 (i':Int)) :: .v (.int .i64 (j':Int)) :: Z4) (.int .i64 (i':Int) :: .int .i64 (j':Int) :: r):=rvL_cons (eS rfl) (rvL_cons (eS rfl) hr);have hb:=iO hE' hc ⟨_,_,rfl,rfl,_,_,rfl,rfl,Ny _ hLL⟩ hv;have hargs:(#[Value.int .i64 (i':Int),Value.int .i64 (j':Int)] ++ r.toArray)=(Value.int .i64 (i':Int) :: Value.int .i64 (j':Int) :: r).toArray:=by simp
   rw [hargs];refine hb.mono ?_;rintro e w' ⟨v,E2,rfl,Ah,_,C0⟩;have:=bK Ah;subst this;exact ⟨rfl,C0 rfl⟩
  ·intro j hj;have pX:j < D.length:=sU hj;rw [ch hw,Nat.zero_add,J4];refine ⟨?_,?_⟩
   ·rw [getElem!_pos D.toArray j hj,<- hD];simp [pX,enc]
   ·simp [World.frozen?,hw]
theorem xd {n m:Nat} {tk:List TkE}:∀ ds:List Nat,WeL n m tk (dInts ds).flatten (dInts ds).flatten
 | []=>rfl
 | b :: r=>⟨_,_,rfl,aE rfl,xd r⟩
theorem o0 {n m:Nat} {tk:List TkE} {l:List DV} {ds:List Nat} (h:l=(dInts ds).flatten):WeL n m tk l (dInts ds).flatten:=by rw [h];exact xd ds
def gx (n e:Nat):List Nat:=List.range e ++ List.replicate (n - e) 0
theorem G9 {n e:Nat} (h:e<=n):(gx n e).length=n:=by simp [gx];omega
theorem fillA_0 (n:Nat):(List.replicate n [DV.v (.int .i64 0)]).flatten=(dInts (gx n 0)).flatten:=by simp [gx,dInts]
theorem Nz (n:Nat):gx n n=List.range n:=by simp [gx]
theorem mU (ds:List Nat):(dInts ds).flatten=ds.map fun (i:Nat)=>DV.v (.int .i64 (i:Int)):=by
 induction ds with
 | nil=>rfl
 | cons x r ih=>simp only [dInts,List.map_cons,List.flatten_cons] at ih ⊢;rw [ih];all_goals rfl
theorem Dq {n e:Nat} (h:e < n):(dInts (gx n e)).flatten.take e ++ [DV.v (.int .i64 (e:Int))] ++ (dInts (gx n e)).flatten.drop (e + 1)=(dInts (gx n (e + 1))).flatten:=by
 simp only [mU,<- List.map_take,<- List.map_drop];have e1:(gx n e).take e=List.range e:=by simp [gx]
 have e2:(gx n e).drop (e + 1)=List.replicate (n - (e + 1)) 0:=by
  simp only [gx,List.drop_append,List.length_range];rw [List.drop_eq_nil_of_le (by simp),List.nil_append,List.drop_replicate];congr 1;omega
 rw [e1,e2];simp [gx,List.range_succ]
abbrev J7 (L:List ByteArray) (e:Nat):St:=
 ⟨[aF 3 1,aF 4 3,aw 16 ((ee L).length),aw 17 e],
  [[.sl 1 (ee L) (some 0),.v (.slice none 0 0)],[.loc 0 0],(dInts (gx (ee L).length e)).flatten,[.ms 2 1 0 (ee L).length (ee L).length]],[⟨(ee L).length,9,1,none⟩]⟩
def gd (L:List ByteArray) (ds:List Nat) (i:Nat):Bool:=decide (i=0) || !decide (L.getD (ds.getD i 0) au=L.getD (ds.getD (i - 1) 0) au)
def eD (L:List ByteArray) (ds:List Nat) (e:Nat):List Nat:=((List.range e).filter (gd L ds)).map fun i=>ds.getD i 0
theorem tQ (L:List ByteArray) (ds:List Nat) (e:Nat):eD L ds (e + 1)=eD L ds e ++ (if gd L ds e=true then [ds.getD e 0] else []):=by
 unfold eD;rw [List.range_succ,List.filter_append,List.map_append];congr 1;cases h:gd L ds e<;>simp [h]
theorem Ha (L:List ByteArray) (ds:List Nat) (e:Nat):(eD L ds e).length<=e:=by grind [eD]
abbrev Rq (L:List ByteArray) (ds:List Nat):St:=
 ⟨[aF 3 1,nA 4 [.sl 1 (dInts ds) none],bc 29 1 (dInts ds),aw 30 ((ee L).length),aw 31 0],
  [[.sl 1 (ee L) (some 0),.v (.slice none 0 0)],[.loc 0 0]],[⟨(ee L).length,9,1,none⟩]⟩
abbrev A2 (L:List ByteArray) (ds aH:List Nat) (m e:Nat):St:=
 ⟨[aF 3 1,nA 4 [.sl 1 (dInts ds) none],bc 29 1 (dInts ds),aw 30 ((ee L).length),aw 31 e],
  [[.sl 1 (ee L) (some 0),.sl 1 (dInts aH) (some 1)],[.loc 0 0]],[⟨(ee L).length,9,1,none⟩,⟨m,3,1,none⟩]⟩
theorem getD_some {α:Type} {l:List α} {i:Nat} {x d:α} (h:l[i]? = some x):l.getD i d=x:=by simp [ek,h]
theorem qA {α:Type} {l:List α} {i:Nat} {d:α} (h:i < l.length):l[i]? = some (l.getD i d):=by grind
theorem Rr {L:List ByteArray} {ds:List Nat} (nH:ds.Perm (List.range L.length)) (J6:∀ i j p q:Nat,i < j->ds[i]? = some p->ds[j]? = some q->A0 L q p=false):gw L (eD L ds L.length):=by
 have hlen:ds.length=L.length:=by rw [nH.length_eq,List.length_range]
 let D:Nat->Nat:=fun i=>ds.getD i 0
 let T:Nat->ByteArray:=fun i=>L.getD (D i) au
 have hD:∀ i,i < L.length->ds[i]? = some (D i):=fun i hi=>qA (by omega)
 have hDn:∀ i,i < L.length->D i < L.length:=fun i hi=>by
  have:=nH.mem_iff.1 (mG (hD i hi));exact List.mem_range.1 this
 have hT:∀ i,i < L.length->L[D i]? = some (T i):=fun i hi=>qA (hDn i hi);have eM:∀ i j,i < j->j < L.length->T i=T j∨yW (T i) (T j)=true:=by grind [A0,FL]
 have VH:∀ i,i < L.length->gd L ds i=true->∀ j,j < i->yW (T j) (T i)=true:=by
  intro i hi hh j QK;have bq:T i≠T (i - 1):=by grind [gd]
  grind [yW,fy]
 have wU:∀ j,j < L.length->∃ k,k < L.length/\D k=j:=by
  intro j hj;have:=nH.mem_iff.2 (List.mem_range.2 hj);obtain ⟨k,hk⟩:=List.getElem?_of_mem this
  grind
 let H:=(List.range L.length).filter (gd L ds)
 have hH:∀ (a i:Nat),H[a]? = some i->i < L.length/\gd L ds i=true:=fun a i h=>by
  have:=mG h
  grind
 have Hb:∀ (a p:Nat),(eD L ds L.length)[a]? = some p->∃ i,H[a]? = some i/\D i=p:=by grind [eD,gd]
 have hinc:∀ (a b i k:Nat),a < b->H[a]? = some i->H[b]? = some k->i < k:=by
  intro a b i k IK hi hk;have hp:List.Pairwise (·< ·) H:=List.Pairwise.filter _ List.pairwise_lt_range;obtain ⟨ha,rfl⟩:=List.getElem?_eq_some_iff.1 hi;obtain ⟨hb,rfl⟩:=List.getElem?_eq_some_iff.1 hk;exact List.pairwise_iff_getElem.1 hp a b ha hb IK
 refine ⟨?_,?_,?_,?_⟩
 ·intro a p h;obtain ⟨i,hi,rfl⟩:=Hb a p h;exact hDn i (hH a i hi).1
 ·intro a b p q s t IK hp hq hs ht;obtain ⟨i,hi,rfl⟩:=Hb a p hp;obtain ⟨k,hk,rfl⟩:=Hb b q hq;rw [hT i (hH a i hi).1] at hs;rw [hT k (hH b k hk).1] at ht
  grind
 ·intro a p j s hp hs hj;obtain ⟨i,hi,rfl⟩:=Hb a p hp;obtain ⟨v8,CL⟩:=hH a i hi;obtain ⟨k,hk,rfl⟩:=wU j (gS hj).1;rw [hT i v8] at hs;rw [hT k hk] at hj;simp only [oI] at hs hj;rcases Nat.lt_trichotomy k i with h | h | h
  ·have:=VH i v8 CL k h;rw [hs,hj,yW,j1] at this;cases this
  ·rw [h];exact aU _
  ·have h2:=J6 i k (D i) (D k) h (hD i v8) (hD k hk)
   grind [A0,au]
 ·intro j s hj;obtain ⟨k,hk,rfl⟩:=wU j (gS hj).1;rw [hT k hk] at hj;simp only [oI] at hj;obtain ⟨i,⟨v8,his⟩,hmin⟩:=least (p:=fun i=>i < L.length/\T i=s) ⟨k,hk,hj⟩;have CL:gd L ds i=true:=by grind [gd,au]
  have hm:i∈H:=by simp only [H,List.mem_filter,List.mem_range];exact ⟨v8,CL⟩
  obtain ⟨a,ha⟩:=List.getElem?_of_mem hm;refine ⟨a,D i,?_,by rw [hT i v8,his]⟩;unfold eD
  grind
theorem tR (L:List ByteArray) (hl:L.length<=1099511627776) :
  Ev prog 62 [.sl 1 (ee L) none] [] [] (fun r _ _=>∃ aH,gw L aH/\aH.length<=L.length/\r = .pt (cw L aH) 0):=by
 have hN:=bQ L;refine eG 71 [.tmp 2] func62 rfl ntmps62 rfl fun _ _ _ _=>?_;refine ⟨⟨by simp [hN,maxLen];omega,by simp [hN];omega⟩,?_⟩;refine ⟨⟨rfl,by omega,by omega,by omega⟩,?_⟩;refine lJ (fun e=>J7 L e) L.length (wkB 4 (by repeat' (first | exact rfl | exact aE rfl | exact o0 (fillA_0 _) | refine ⟨_,_,rfl,?_,?_⟩)) (by repeat' (first | exact trivial | exact aE rfl | exact o0 (fillA_0 _) | refine ⟨⟨_,rfl,?_⟩,?_⟩))) ?_;intro e he;refine br ?_ ?_<;>intro h
 ·have ay:e < (ee L).length:=sU h;refine ⟨⟨by omega,by omega⟩,?_⟩;have e1:(dInts (gx (ee L).length e)).flatten.length=(ee L).length:=by rw [mU,List.length_map,G9 (by omega)]
  refine ⟨by rw [e1];omega,?_⟩
  have cT:(dInts (gx (ee L).length e)).flatten.set (0 + (e:Int).toNat * 1) (DV.v (.int .i64 (e:Int)))=(dInts (gx (ee L).length (e + 1))).flatten:=by
   rw [show 0 + (e:Int).toNat * 1=e by omega,List.set_eq_take_append_cons_drop,ap (by rw [e1];omega),<- Dq ay];simp
  refine ⟨J7 L (e + 1),(wkB 4 (by repeat' (first | exact rfl | exact aE rfl | exact o0 cT | exact aD (nxt ay (by omega)) | refine ⟨_,_,rfl,?_,?_⟩)) (by repeat' (first | exact trivial | exact aE rfl | exact o0 cT | exact aD (nxt ay (by omega)) | refine ⟨⟨_,rfl,?_⟩,?_⟩))),L.length - (e + 1),by omega,e + 1,rfl,by omega,rfl⟩
 ·have hge:e=(ee L).length:=by grind
  subst hge;rw [Nz]
  have hms:∀ dk:List Nat,dk.length=(List.range (ee L).length).length->∀ bx:List (List DV),bx[2]? = some (dInts dk).flatten->∀ N0 n0 m0:Nat,N0<=2->Cc bx N0 n0 m0 (.sl 1 (dInts dk) none) (.ms 2 1 0 (ee L).length (ee L).length):=by
   intro dk Yc bx hb N0 n0 m0 Z5;simp only [Cc];refine Or.inr (Or.inr (Or.inl ⟨2,0,(ee L).length,_,?_,Z5,hb,?_,?_,?_⟩))
   ·rw [bo,Yc,List.length_range]
   ·rw [List.drop_zero,List.take_of_length_le];rw [mU,List.length_map,bo];omega
   ·grind [dInts]
   ·grind [mU]
  refine G8 (ds:=List.range (ee L).length) rfl (by simp) (ee L).length (fun p hp=>List.mem_range.1 hp) (A0 L) (Nx L) rfl (by simp [hN];omega)
   (fun dk=>[.pt [.sl 1 (dInts dk) none] 0,.pt [.pt [.sl 1 (ee L) none,.v (.slice none 0 0)] 0] 0])
   (fun dk Yc=>⟨_,_,rfl,Or.inr ⟨3,_,rfl,Nat.zero_le _,rfl,⟨_,_,rfl,hms dk Yc _ rfl 0 0 0 (Nat.zero_le _),rfl⟩⟩,ax⟩)
   (fun dk Yc hp i j p q hi hj=>G7 L dk i j p q hi hj (by have:=hp p (mG hi);omega) (by have:=hp q (mG hj);omega)) rfl (fun ds nH J6=>?_)
  have dq:ds.length=(ee L).length:=by rw [nH.length_eq,List.length_range]
  have VI:=hms ds (by rw [dq,List.length_range])
  refine JC 2 (Rq L ds) rfl rfl rfl ⟨_,_,rfl,⟨_,_,rfl,⟨nL rfl,rfl⟩,_,_,rfl,rfl,rfl⟩,_,_,rfl,⟨_,_,rfl,⟨nL rfl,rfl⟩,rfl⟩,rfl⟩
   ⟨⟨_,rfl,⟨nL rfl,rfl⟩⟩,⟨_,rfl,Or.inr ⟨3,_,rfl,by decide,rfl,⟨_,_,rfl,VI _ rfl 2 0 0 (by decide),rfl⟩⟩⟩,⟨_,rfl,VI _ rfl 2 2 1 (by decide)⟩,⟨_,rfl,rfl⟩,⟨_,rfl,rfl⟩,trivial⟩ ?_
  refine aY (fun j st=>∃ e m:Nat,st=A2 L ds (eD L ds e) m e/\m=(eD L ds e).length/\e<=(ee L).length/\j=(ee L).length - e) (ee L).length (A2 L ds [] 0 0)
   (dA 2 ⟨0,3,1,none⟩ rfl rfl rfl nY rfl rfl wB) ⟨0,0,rfl,rfl,by omega,by omega⟩ ?_
  rintro j st ⟨e,m,rfl,hm,he,rfl⟩;have kL:=Ha L ds e;refine br ?_ ?_<;>intro h
  ·have ay:e < (ee L).length:=sU h;obtain ⟨p,hp⟩:∃ p,ds[e]? = some p:=⟨_,gE (by omega)⟩
   have hpL:p < L.length:=by
    have:=nH.mem_iff.1 (mG hp);rw [List.mem_range] at this;omega
   obtain ⟨s,hs⟩:∃ s,L[p]? = some s:=⟨_,gE hpL⟩;refine iX (dF hp) ?_;have hgp:ds.getD e 0=p:=by simp [ek,hp]
   have GK:L.getD p au=s:=by simp [ek,hs]
   have dM:gd L ds e=true->eD L ds (e + 1)=eD L ds e ++ [p]:=fun hh=>by rw [tQ,ap hh,hgp]
   have hold:gd L ds e=false->eD L ds (e + 1)=eD L ds e:=fun hh=>by rw [tQ,ai (by rw [hh];decide),List.append_nil]
   have FM:gd L ds e=true->dInts (eD L ds e) ++ [[DV.v (.int .i64 (p:Int))]]=dInts (eD L ds (e + 1)):=fun hh=>by rw [dM hh];simp [dInts]
   by_cases h0:e=0
   ·subst h0;have hh:gd L ds 0=true:=by simp [gd]
    refine dI ?_;refine dS ?_;refine ⟨by rw [bo,hm],⟨by simp [bo,maxLen];omega,by simp [bo];omega⟩,?_⟩;refine ⟨A2 L ds (eD L ds 1) (m + 1) 1,(wkB 2 (by repeat' (first | exact rfl | exact aE rfl | exact aD (nxt ay (by omega)) | exact bS (FM hh) rfl | refine ⟨_,_,rfl,?_,?_⟩)) (by repeat' (first | exact trivial | exact aE rfl | exact aD (nxt ay (by omega)) | exact bS (FM hh) rfl | refine ⟨⟨_,rfl,?_⟩,?_⟩))),(ee L).length - 1,by omega,1,m + 1,rfl,by rw [dM hh,List.length_append,hm];rfl,by omega,rfl⟩
   ·obtain ⟨p',vZ⟩:∃ p',ds[e - 1]? = some p':=⟨_,gE (by omega)⟩
    have Z6:p' < L.length:=by
     have:=nH.mem_iff.1 (mG vZ);rw [List.mem_range] at this;omega
    obtain ⟨s',hs'⟩:∃ s',L[p']? = some s':=⟨_,gE Z6⟩;have hgp':ds.getD (e - 1) 0=p':=by simp [ek,vZ]
    have hgs':L.getD p' au=s':=by simp [ek,hs']
    have hhd:gd L ds e = !decide (s=s'):=by grind [gd]
    have hz:IntKind.i64.wrap ((e:Int) - 1)=((e - 1:Nat):Int):=by rw [wrap64 (by omega) (by omega)];omega
    refine dI ?_;refine br (fun _=>?_) (fun h=>?_)
    ·refine iX (fx hs) ?_;refine ⟨[.v (.int .i64 (p':Int))],⟨by rw [hz];omega,by rw [hz];exact dF vZ⟩,?_⟩;refine iX (fx hs') ?_;refine br ?_ ?_<;>intro h2
     ·have hh:gd L ds e=true:=by grind [aq]
      refine dS ?_;refine ⟨by rw [bo,hm],⟨by simp [bo,maxLen];omega,by simp [bo];omega⟩,?_⟩;refine ⟨A2 L ds (eD L ds (e + 1)) (m + 1) (e + 1),(wkB 2 (by repeat' (first | exact rfl | exact aE rfl | exact aD (nxt ay (by omega)) | exact bS (FM hh) rfl | refine ⟨_,_,rfl,?_,?_⟩)) (by repeat' (first | exact trivial | exact aE rfl | exact aD (nxt ay (by omega)) | exact bS (FM hh) rfl | refine ⟨⟨_,rfl,?_⟩,?_⟩))),(ee L).length - (e + 1),by omega,e + 1,m + 1,rfl,by rw [dM hh,List.length_append,hm];rfl,by omega,rfl⟩
     ·have hh:gd L ds e=false:=by grind [aq]
      have aP:dInts (eD L ds e)=dInts (eD L ds (e + 1)):=by rw [hold hh]
      refine ⟨A2 L ds (eD L ds (e + 1)) m (e + 1),(wkB 2 (wA2 (nxt ay (by omega)) aP) (wB2 (nxt ay (by omega)) aP)),(ee L).length - (e + 1),by omega,e + 1,m,rfl,by rw [hold hh,hm],by omega,rfl⟩
    ·grind
  ·have hge:e=L.length:=by grind
   subst hge;exact ⟨.pt (cw L (eD L ds L.length)) 0,Or.inr ⟨0,_,rfl,Nat.zero_le _,rfl,ax⟩,_,Rr (by rw [<- hN];exact nH) J6,kL,rfl⟩
abbrev VJ (L:List ByteArray) (aH:List Nat) (e:Nat):St:=
 ⟨[nA 3 (cw L aH),bc 10 1 (ee L),aw 11 ((ee L).length),aw 12 e],[],[]⟩
theorem J8 {α:Type}:∀ {l:List α},(∀ (i j:Nat) (x:α),j < i->l[i]? = some x->l[j]? ≠ some x)->l.Nodup
 | l,h=>by
  rw [List.nodup_iff_pairwise_ne,List.pairwise_iff_getElem];intro i j hi hj Ad he;exact h j i l[j] Ad (gE hj) (by rw [gE hi,he])
theorem n8 (L:List ByteArray) (hl:L.length<=1099511627776) :
  Ev prog 69 [.sl 1 (ee L) none] [] [] (fun r _ _=>∃ z:Int,r = .v (.int .i64 z)/\(0<=z↔¬ L.Nodup)):=by
 have hN:=bQ L;refine eG 28 [.tmp 2] func69 rfl ntmps69 rfl fun _ _ _ _=>?_;refine cp Rk rfl (tR L hl) ax (fun r hr=>?_);obtain ⟨aH,hT,kL,rfl⟩:=hr;refine lI (fun j st=>∃ e:Nat,st=VJ L aH e/\e<=L.length/\(∀ (i j:Nat) (x:ByteArray),i < e->j < i->L[i]? = some x->L[j]? ≠ some x)/\j=L.length - e) ⟨0,rfl,by omega,fun i j x hi=>by omega,rfl⟩ (bl wB) ?_;rintro j st ⟨e,rfl,he,hinv,rfl⟩;refine br ?_ ?_<;>intro h
 ·have ay:e < L.length:=sV hN h;obtain ⟨s,hs⟩:=gX ay;obtain ⟨q,p,hq,hp⟩:=hT.all e s hs;have de:=hT.fst q p e s hq hp hs;refine iX (fx hs) ?_;refine cP tJ (find_spec L aH s q p hT (by omega) hq hp) ?_;refine br ?_ ?_<;>intro h2
  ·have h2:p < e:=sU h2;refine ⟨(e:Int),rfl,⟨fun _ hnd=>?_,fun _=>by omega⟩⟩;rw [List.nodup_iff_pairwise_ne,List.pairwise_iff_getElem] at hnd;obtain ⟨h3,h4⟩:=List.getElem?_eq_some_iff.1 hp;obtain ⟨h5,h6⟩:=List.getElem?_eq_some_iff.1 hs;exact hnd p e h3 h5 h2 (by rw [h4,h6])
  ·have h2:¬ p < e:=sU h2;refine ⟨VJ L aH (e + 1),(bl (cQ (nxt ay (by omega)))),L.length - (e + 1),by omega,e + 1,rfl,by omega,fun i j x hi hj hx hjx=>?_,rfl⟩;by_cases IJ:i=e
   ·subst IJ;rw [hs] at hx;simp only [oI] at hx;subst hx;have:=hT.fst q p j s hq hp hjx;omega
   ·exact hinv i j x (by omega) hj hx hjx
 ·have hge:e=L.length:=by grind
  subst hge;refine ⟨-1,rfl,⟨fun h3=>by omega,fun h3=>?_⟩⟩;exact absurd (J8 fun i j x Ad hi hj=>hinv i j x (gS hi).1 Ad hi hj) h3
end Go.Proofs.YtphonmiflfhdbaaGreat
