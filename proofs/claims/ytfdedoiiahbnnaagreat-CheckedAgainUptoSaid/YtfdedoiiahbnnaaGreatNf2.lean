/- Part 2 of the proof: The evaluator 'go' is sound: the end of a call, the theorem; contracts; rules for branches, calls, loops; Rules for the evaluator: what is known made less, loops; A region that draws its order: where the operations with an effect are ordered among themselves, and what writes waits for all that reads, one run in the order of the text serves every order; The evaluator at regions that draw their order: one run in the order of the text; what is read is what was known at the region's beginning; A region that draws its order, in which two operations with an effect are not ordered: the run in either order of these two serves every order; Rules for the evaluator: a call that is handed the caller's own objects, to read them; Rules for the evaluator: objects that are written no more are frozen, ahead of a loop; Rules for the evaluator: a call that is handed one of the caller's objects, to write it; The table of this program's types, by which the evaluator goes; The program's functions are entered; The data of the document's types, plain, and as the evaluator has them; Names: the program's and the reference's functions say the same of a text; sort.Search; the program's table of texts: Find; The library's sort.Slice, laid at this program by the kit's tool (lay-plain; wip/tools/lay.sh); The order of the table; the closure handed to sort.Slice; sort.Slice of the table's places, at a call; names.New: the table; names.Twice: does a text stand earlier, too?; Contracts: the reference's words, Plain, Same, Zero, own; Contracts: the reference's Same, Zero, own. No condition. -/
import Derived.Scope
import Derived.Test.YtfdedoiiahbnnaaGreatProg
import Derived.Shelf.GgSortFunc.Whole
import Derived.Shelf.GgSortFunc.Tiny
import Derived.Test.YtfdedoiiahbnnaaGreatNf1
set_option linter.all false
namespace Go.Proofs.YtfdedoiiahbnnaaGreat
namespace Dv
open Go Go.RowKit
structure NN (E E':En) (bx:List (List DV)) (N:Nat):Prop where
 c:∀ a v,E.c a=some v->E'.c a=some v
 fz:∀ (i:Nat) cs,N<=i->bx[i]? = some cs->∃ b arr,E.β[i]? = some b/\RvC E cs arr/\∀ (j:Nat) u,arr[j]? = some u->E'.c ⟨b,j,none⟩=some u
theorem NN.cl {E E':En} {bx:List (List DV)} {N:Nat} (h:NN E E' bx N):NN E E'.cl bx N:=⟨h.c,h.fz⟩
structure Jz (E E':En) (n0 m0:Nat):Prop where
 β:∀ (i:Nat) b,i < n0->E.β[i]? = some b->E'.β[i]? = some b
 tk:∀ k,k < m0->E'.tk[k]? = E.tk[k]? /\ E'.τ[k]? = E.τ[k]?
theorem Jz.zero (E E':En):Jz E E' 0 0:=⟨fun _ _ h=>absurd h (Nat.not_lt_zero _),fun _ h=>absurd h (Nat.not_lt_zero _)⟩
theorem Ext.S0 (E:En):Ext E.cl E:=⟨fun _ _ h=>h,fun j b hj=>by simp [En.cl] at hj,fun k q hk=>by simp [En.cl] at hk⟩
theorem D1 {E E':En} (hm:∀ e b o es,RvEs E.cl e b o es->RvEs E'.cl e b o es):∀ {l:List DV} {arr:List Value},(∀ x∈l,(∃ y,x = .v y)∨∃ e' Dx,x = .sl e' Dx none)->RvL E l arr->RvL E' l arr
 | [],arr,_,h=>by simp only [RvL] at h ⊢;exact h
 | d :: r,arr,hs,h=>by
  simp only [RvL] at h ⊢;obtain ⟨v,s,rfl,h1,h2⟩:=h;refine ⟨v,s,rfl,?_,D1 hm (fun x hx=>hs x (fA _ hx)) h2⟩;rcases hs d (by simp) with ⟨y,rfl⟩ | ⟨e',Dx,rfl⟩
  ·unfold Rv at h1 ⊢;exact h1
  ·unfold Rv at h1 ⊢;obtain ⟨b,n,cap,h3,h4,h5,_⟩:=h1;exact ⟨b,n,cap,h3,h4,fun hn=>⟨(h5 hn).1,hm _ _ _ _ (h5 hn).2⟩,fun k hk=>by cases hk⟩
theorem CcL.length {bx:List (List DV)} {N n0 m0:Nat}:∀ {l' l:List DV},CcL bx N n0 m0 l' l->l'.length=l.length
 | [],l,h=>by simp only [CcL] at h;subst h;rfl
 | d' :: r',l,h=>by
  simp only [CcL] at h;obtain ⟨d,r,rfl,_,h2⟩:=h;simp [CcL.length h2]
theorem CcE.length {bx:List (List DV)} {N:Nat}:∀ {l' l:List (List DV)},CcE bx N l' l->l'.length=l.length
 | [],l,h=>by simp only [CcE] at h;subst h;rfl
 | d' :: r',l,h=>by
  simp only [CcE] at h;obtain ⟨d,r,rfl,_,h2⟩:=h;simp [CcE.length h2]
theorem q8 {bx:List (List DV)} {N:Nat}:∀ l:List (List DV),CcE bx N l l
 | []=>by simp only [CcE]
 | d :: r=>by simp only [CcE];exact ⟨d,r,rfl,.inl rfl,q8 r⟩
mutual
theorem Cc.sound {bx:List (List DV)} {N:Nat} {E:En}:∀ {d':DV} {E':En} {n0 m0:Nat} {d:DV} {v:Value},NN E E' bx N->Jz E E' n0 m0->Cc bx N n0 m0 d' d->Rv E d v->Rv E' d' v
 | .v y,E',n0,m0,d,v,hf,hl,h,hv=>by grind [Cc,Rv]
 | .ud,E',n0,m0,d,v,hf,hl,h,hv=>by grind [Cc,Rv]
 | .agg l',E',n0,m0,d,v,hf,hl,h,hv=>by
  simp only [Cc] at h;obtain ⟨l,rfl,h⟩:=h;unfold Rv at hv ⊢;obtain ⟨vs,h1,h2,h3⟩:=hv;exact ⟨vs,h1,CcL.sound hf hl h h2,h3⟩
 | .bK l',E',n0,m0,d,v,hf,hl,h,hv=>by
  simp only [Cc] at h;obtain ⟨l,rfl,h⟩:=h;unfold Rv at hv ⊢;obtain ⟨vs,h1,h2⟩:=hv;exact ⟨vs,h1,CcL.sound hf hl h h2⟩
 | .sl e es tk,E',n0,m0,d,v,hf,hl,h,hv=>by
  have hm:∀ b o,RvEs E.cl e b o es->RvEs E'.cl e b o es:=fun b o hr=>RvEs.mono (Ext.Jq hf.c) hr
  cases tk with
  | none=>
   simp only [Cc] at h;rcases h with ⟨rfl,rfl⟩ | ⟨cA,rfl⟩ | ⟨i,off,c,cs,rfl,hi,cx,JA,Hh,wh⟩ | ⟨es0,cA,rfl,h⟩
   ·have:=bL hv;subst this;unfold Rv;exact ⟨none,0,0,rfl,⟨rfl,bn _⟩,fun hn=>(hn rfl).elim,fun k hk=>by cases hk⟩
   ·unfold Rv at hv ⊢;obtain ⟨b,n,cap,h1,h2,h3,_⟩:=hv;exact ⟨b,n,cap,h1,h2,fun hn=>⟨(h3 hn).1,hm _ _ (h3 hn).2⟩,fun k hk=>by cases hk⟩
   ·obtain ⟨b,arr,hb,hc,hmm⟩:=hf.fz i cs hi cx;unfold Rv at hv ⊢;obtain ⟨b',ad,ef,Zy,rfl,hca⟩:=hv;rw [hb] at ef;simp only [oI] at ef;subst ef;refine ⟨ad,es.length,c,rfl,⟨rfl,Zy⟩,fun hn=>?_,fun k hk=>by cases hk⟩;have nK:0 < es.length:=List.length_pos_iff.2 hn;have had:=hca (by omega);subst had;refine ⟨rfl,?_⟩;have h1:=(hc.drop off).take (es.length * e);rw [<- JA] at h1;refine rvEs_flat ⟨D1 (E':=E'.cl) (fun e b o es hr=>(RvEs.mono (Ext.Jq hf.c) hr:RvEs E'.cl e b o es)) wh h1.1,h1.2⟩ Hh fun j u hj=>?_;rw [cQ] at hj;split at hj
    ·rw [List.getElem?_drop] at hj;exact hmm (off + j) u hj
    ·cases hj
   ·have hlen:=CcE.length h;have hs:=fun b o=>CcE.sound (e:=e) (b:=b) (o:=o) hf h;unfold Rv at hv ⊢;obtain ⟨b,n,cap,h1,h2,h3,_⟩:=hv;refine ⟨b,n,cap,h1,by omega,fun hn=>?_,fun k hk=>by cases hk⟩
    grind
  | some k=>
   simp only [Cc] at h;obtain ⟨hk,rfl⟩:=h;unfold Rv at hv ⊢;obtain ⟨b,n,cap,h1,h2,h3,h4⟩:=hv;refine ⟨b,n,cap,h1,h2,fun hn=>⟨(h3 hn).1,hm _ _ (h3 hn).2⟩,fun k' gU=>?_⟩;cases gU;obtain ⟨e1,e2⟩:=hl.tk k hk;obtain ⟨q,h5,h6,h7⟩:=h4 k rfl
   grind
 | .pt cs' o,E',n0,m0,d,v,hf,hl,h,hv=>by
  simp only [Cc] at h;rcases h with rfl | ⟨i,cs,rfl,hi,cx,h⟩
  ·unfold Rv at hv ⊢;obtain ⟨b,p,h1,h2⟩:=hv;exact ⟨b,p,h1,RvAt.mono (Ext.Jq hf.c) h2⟩
  ·obtain ⟨b,arr,hb,hc,hm⟩:=hf.fz i cs hi cx;unfold Rv at hv ⊢;obtain ⟨b',ef,rfl⟩:=hv;rw [hb] at ef;simp only [oI] at ef;subst ef;refine ⟨b,0,by simp,?_⟩;have:=CcL.sound hf.cl (Jz.zero E E'.cl) h hc.1;exact BX ⟨this,hc.2⟩ fun j u hj=>by rw [Nat.zero_add];exact hm j u hj
 | .loc i o,E',n0,m0,d,v,hf,hl,h,hv=>by
  simp only [Cc] at h;obtain ⟨hi,rfl⟩:=h;unfold Rv at hv ⊢;obtain ⟨b,hb,h1⟩:=hv;exact ⟨b,hl.β i b hi hb,h1⟩
 | .el i o,E',n0,m0,d,v,hf,hl,h,hv=>by
  simp only [Cc] at h;obtain ⟨hi,rfl⟩:=h;unfold Rv at hv ⊢;obtain ⟨b,hb,h1⟩:=hv;exact ⟨b,hl.β i b hi hb,h1⟩
 | .ms i e o l c,E',n0,m0,d,v,hf,hl,h,hv=>by
  simp only [Cc] at h;obtain ⟨hi,rfl⟩:=h;unfold Rv at hv ⊢;obtain ⟨b,ad,hb,h1⟩:=hv;exact ⟨b,ad,hl.β i b hi hb,h1⟩
 | .fn f a' b',E',n0,m0,d,v,hf,hl,h,hv=>by
  simp only [Cc] at h;obtain ⟨a,b,rfl,ha,hb⟩:=h;unfold Rv at hv ⊢;obtain ⟨l,r,h1,h2,h3⟩:=hv;exact ⟨l,r,h1,CcL.sound hf hl ha h2,CcL.sound hf hl hb h3⟩
 | .pY t x',E',n0,m0,d,v,hf,hl,h,hv=>by
  simp only [Cc] at h;obtain ⟨x,rfl,hx⟩:=h;unfold Rv at hv ⊢;obtain ⟨z,h1,h2⟩:=hv;exact ⟨z,h1,Cc.sound hf hl hx h2⟩
theorem CcL.sound {bx:List (List DV)} {N:Nat} {E:En}:∀ {l':List DV} {E':En} {n0 m0:Nat} {l:List DV} {vs:List Value},NN E E' bx N->Jz E E' n0 m0->CcL bx N n0 m0 l' l->RvL E l vs->RvL E' l' vs
 | [],E',n0,m0,l,vs,hf,hl,h,hv=>by grind [CcL,RvL]
 | d' :: r',E',n0,m0,l,vs,hf,hl,h,hv=>by
  simp only [CcL] at h;obtain ⟨d,r,rfl,h1,h2⟩:=h;simp only [RvL] at hv ⊢;obtain ⟨v,s,h3,h4,h5⟩:=hv;exact ⟨v,s,h3,Cc.sound hf hl h1 h4,CcL.sound hf hl h2 h5⟩
theorem CcA.sound {bx:List (List DV)} {N:Nat} {E:En}:∀ {l':List DV} {E':En} {l:List DV} {b p:Nat},NN E E' bx N->CcL bx N 0 0 l' l->RvAt E.cl b p l->RvAt E'.cl b p l'
 | [],E',l,b,p,hf,h,hv=>by simp only [RvAt]
 | d' :: r',E',l,b,p,hf,h,hv=>by
  simp only [CcL] at h;obtain ⟨d,r,rfl,h1,h2⟩:=h;simp only [RvAt] at hv ⊢;obtain ⟨⟨v,h3,h4,h5⟩,h6⟩:=hv;exact ⟨⟨v,hf.c _ _ h3,h4,Cc.sound hf.cl (Jz.zero E E'.cl) h1 (Rv.mono (Ext.S0 E) h5)⟩,CcA.sound hf h2 h6⟩
theorem CcE.sound {bx:List (List DV)} {N:Nat} {E:En}:∀ {l':List (List DV)} {E':En} {l:List (List DV)} {e b o:Nat},NN E E' bx N->CcE bx N l' l->RvEs E.cl e b o l->RvEs E'.cl e b o l'
 | [],E',l,e,b,o,hf,h,hv=>by simp only [RvEs]
 | a' :: r',E',l,e,b,o,hf,h,hv=>by
  simp only [CcE] at h;obtain ⟨a,r,rfl,h1,h2⟩:=h;simp only [RvEs] at hv ⊢;obtain ⟨h3,h4,h5⟩:=hv;refine ⟨?_,?_,CcE.sound hf h2 h5⟩
  ·grind [CcL.length]
  ·rcases h1 with rfl | h1
   ·exact RvAt.mono (Ext.Jq hf.c) h4
   ·exact CcA.sound hf h1 h4
end
theorem Vm {E:En} {e:Nat} {es Dx:List (List DV)} {tk:Option Nat} {v:Value} (h:CcE [] 0 Dx es) (hv:Rv E (.sl e es tk) v):Rv E (.sl e Dx tk) v:=by
 have hlen:=CcE.length h;have hs:=fun b o=>CcE.sound (E:=E) (E':=E) (bx:=[]) (N:=0) (e:=e) (b:=b) (o:=o) ⟨fun _ _ h=>h,fun i cs _ hi=>by simp at hi⟩ h
 grind [Rv]
theorem kZ.get {bx:List (List DV)} {N n0 m0:Nat}:∀ {l' l:List (List DV)},kZ bx N n0 m0 l' l->l'.length=l.length/\∀ (i:Nat) cs',l'[i]? = some cs' -> ∃ cs,l[i]? = some cs/\CcL bx N n0 m0 cs' cs
 | [],l,h=>by simp only [kZ] at h;subst h;exact ⟨rfl,by simp⟩
 | a' :: r',l,h=>by
  simp only [kZ] at h;obtain ⟨a,r,rfl,h1,h2⟩:=h;obtain ⟨h3,h4⟩:=kZ.get h2
  grind
open Classical in
noncomputable def sE (E:En) (n:Nat) (w:World):Addr->Option Value:=
 fun a=>if ∃ i:Nat,n<=i/\E.β[i]? = some a.block then w.cell? a else E.c a
section
variable {X:Ctx} {E:En} {st:St} {a:Act} {w:World}
theorem eL {n:Nat} {x:Addr} {v:Value} (h:sE E n w x=some v):((∃ i:Nat,n<=i/\E.β[i]? = some x.block)/\w.cell? x=some v)∨E.c x=some v:=by
 unfold sE at h;split at h
 all_goals grind
theorem mN {bx:List (List DV)} (h:Env E bx w) {n:Nat} {x:Addr} {v:Value} (hx:E.c x=some v):sE E n w x=some v:=by
 unfold sE;split
 ·exact h.sub x v hx
 ·exact hx
theorem Ca (h:Rel X E st a w) {d d':DV} {os:List (List DV)} {v:Value} (hv:Rv E d v) (M:Nat) (hM:(X.fr=false/\M=X.m0)∨(X.fr=true/\M=st.tk.length)) (hd:Cc st.bx X.n0 X.n0 M d' d) (qZ:kZ st.bx X.n0 X.n0 M os (st.bx.take X.n0)) (hΦ:X.Φ d' os (st.tk.take M)):DM X.still X.E0 X.w0 X.Φ v w X.fr:=by
 obtain ⟨r,Xn,hβl⟩:=h.nw.β;have iT:E.β.take X.n0=X.E0.β:=by rw [Xn,<- X.tX];simp
 have wo:∀ (i:Nat) b,i < X.n0->E.β[i]? = some b->X.E0.β[i]? = some b:=fun i b hi hb=>by grind
 have dB:∀ (i:Nat) b,X.n0<=i->E.β[i]? = some b->b∈r:=fun i b hi hb=>by grind
 have Xo:∀ b,b∈X.E0.β->b∈r->False:=fun b h1 h2=>by
  have:=h.env.inj
  grind
 have hE0l:X.E0.τ.length=X.m0:=by rw [h.nw.l0,X.pu]
 have hEt:X.m0<=E.tk.length:=by
  rcases Nat.lt_or_ge E.tk.length X.m0 with h1 | h1
  ·have hk:E.tk.length < X.E0.tk.length:=by rw [X.pu];exact h1
   have gU:E.tk.length < X.E0.τ.length:=by rw [h.nw.l0];exact hk
   obtain ⟨q',y',h2,_⟩:=h.nw.tk E.tk.length _ _ (gE hk) (gE gU)
   grind
  ·exact h1
 have hMm:X.m0<=M/\M<=E.tk.length:=by
  rcases hM with ⟨_,rfl⟩ | ⟨_,rfl⟩
  ·exact ⟨bn _,hEt⟩
  ·rw [<- h.tk];exact ⟨hEt,bn _⟩
 have ZD:tkL X.fr (E.tk.take M).length X.E0.tk.length:=by
  rw [zLenT];rcases hM with ⟨hf,rfl⟩ | ⟨hf,rfl⟩
  ·rw [hf];show min _ _=_;rw [X.pu];omega
  ·rw [hf];show _<=min _ _;rw [X.pu];omega
 let E':En:=⟨sE E X.n0 w,X.E0.β,E.tk.take M,E.τ.take M⟩
 have S3:NN E E' st.bx X.n0:={
  c:=fun x u hx=>mN h.env hx
  fz:=fun i cs hi cx=>by
   obtain ⟨b,ty,arr,hb,hw,hc⟩:=h.env.dY i cs cx;refine ⟨b,arr,hb,hc,fun j u hj=>?_⟩;show sE E X.n0 w ⟨b,j,none⟩=some u;unfold sE;rw [ah ⟨i,hi,hb⟩,cJ hw]
   simpa using hj }
 have Cb:Jz E E' X.n0 M:={
  β:=wo
  tk:=fun k hk=>⟨by show (E.tk.take M)[k]? = _;rw [cQ,ah hk],by show (E.τ.take M)[k]? = _;rw [cQ,ah hk]⟩ }
 obtain ⟨mB,hog⟩:=qZ.get;refine ⟨h.fr,h.sh,d',os,E',?_,rfl,ZD,?_,hd.sound S3 Cb hv,by show X.Φ d' os (E.tk.take M);rw [h.tk];exact hΦ⟩
 ·exact {
   len:=by
    show X.E0.β.length=os.length;rw [mB,X.tX,zLenT]
    have:X.n0<=st.bx.length:=by
     rw [<- h.env.len,Xn,List.length_append,X.tX];omega
    omega
   tl:=by simp only [E',zLenT];rw [h.env.tl]
   dY:=fun i cs' hi=>by
    obtain ⟨cs,cx,pJ⟩:=hog i cs' hi;rw [cQ] at cx;split at cx
    ·rename_i aE;obtain ⟨b,ty,arr,hb,hw,hc⟩:=h.env.dY i cs cx;exact ⟨b,ty,arr,wo i b aE hb,hw,CcL.sound S3 Cb pJ hc.1,hc.2⟩
    ·cases cx
   inj:=by rw [<- iT];exact h.env.inj.sublist (List.take_sublist _ _)
   sub:=fun x u hx=>by
    rcases eL hx with ⟨_,h1⟩ | h1
    ·exact h1
    ·exact h.env.sub x u h1
   pc:=fun x u hx hm=>by
    rcases eL hx with ⟨⟨i,hi,hb⟩,_⟩ | h1
    ·exact Xo _ hm (dB i _ hi hb)
    ·refine h.env.pc x u h1 ?_;rw [Xn];exact List.mem_append.2 (.inl hm)
   c9:=fun k q y hq hy=>by
    simp only [E',cQ] at hq hy;split at hq
    ·rename_i hk;rw [ah hk] at hy;rcases h.env.c9 k q y hq hy with h1 | ⟨g,cap,cur,rfl,h1,h2,h3,h4,h5,h6⟩
     ·exact .inl h1
     ·refine .inr ⟨g,cap,cur,rfl,h1,⟨h2.1,h2.2.mono fun _ _ hx=>mN h.env hx⟩,h3,h4,fun hm=>h5 (by rw [Xn];exact List.mem_append.2 (.inl hm)),fun x u hx hg=>?_⟩;rcases eL hx with ⟨⟨i,hi,hb⟩,_⟩ | h7
      all_goals grind
    ·cases hq
   iB:=fun k k' y y' g GY hy iv=>by
    simp only [E',cQ] at hy iv;split at hy
    ·split at iv
     ·exact h.env.iB k k' y y' g GY hy iv
     ·cases iv
    ·cases hy }
 ·exact {
   c:=fun x u hx=>mN h.env (h.nw.c x u hx)
   cn:=fun x u hx=>by
    rcases eL hx with ⟨⟨i,hi,hb⟩,_⟩ | h1
    ·exact .inr (.inl (hβl _ (dB i _ hi hb)))
    ·exact h.nw.cn x u h1
   β:=⟨[],by simp [E'],by simp⟩
   tk:=fun k q y hq hy=>by
    obtain ⟨q',y',h1,h2,h3⟩:=h.nw.tk k q y hq hy
    grind
   tn:=fun k y g hk hy hg=>by
    simp only [E',cQ] at hy;split at hy
    ·exact h.nw.tn k y g hk hy hg
    ·cases hy
   l0:=h.nw.l0 }
def resOf (tmps:Array Value):ResultVar->Sem Value
 | .tmp t=>pure (tmps.getD t undef)
 | .cell x t=>do loadVar t (<- asAddr (tmps.getD x undef))
theorem wu (fn:Func) (tmps:Array Value):results fn tmps=(do let vs <- fn.results.mapM (resOf tmps);pure (if h:vs.size=1 then vs[0] else .tuple vs)):=by
 unfold results;congr 2
theorem Hi (h:Rel X E st a w) {r:ResultVar} {d:DV} (hr:res1 X.T st r=some d):∃ v,Rv E d v/\(resOf a.tmps r).run X.P w = .ok v w:=by
 cases r with
 | tmp t=>
  simp only [res1] at hr;split at hr
  ·rename_i x hg;simp only [oI] at hr;subst hr;obtain ⟨v,h1,h2⟩:=(h.tm t _ hg).1 (aX _);exact ⟨v,h2,by simp [resOf,Array.getD_eq_getD_getElem?,h1]⟩
  ·cases hr
 | cell x t=>
  simp only [res1] at hr;split at hr
  ·rename_i i off hg;split at hr
   ·rename_i cs cx;obtain ⟨v,h1,h2⟩:=(h.tm x _ hg).1 (aX _);unfold Rv at h2;obtain ⟨b,hb,rfl⟩:=h2;obtain ⟨b',Dz,arr,ef,hw,hc⟩:=h.env.dY i cs cx;rw [hb] at ef;simp only [oI] at ef;subst ef;obtain ⟨v,hv,hl⟩:=mH X.hT hc (b:=b) (p:=0) hr;have hl:=hl w fun j u hj=>by rw [cJ hw];simpa using hj
    rw [Nat.zero_add] at hl;exact ⟨v,hv,by simp only [resOf,Array.getD_eq_getD_getElem?,h1,Option.getD_some,asAddr,Sem.run_bind,Sem.run_pure,Result.andThen_ok,hl]⟩
   ·cases hr
  ·cases hr
theorem ke (h:Rel X E st a w):∀ {rs:List ResultVar} {ds:List DV},resD X.T st rs=some ds->∃ vs,RvL E ds vs/\(rs.mapM (resOf a.tmps)).run X.P w = .ok vs w
 | [],ds,hr=>by
  simp only [resD,oI] at hr;subst hr;exact ⟨[],cO E,rfl⟩
 | r :: rs,ds,hr=>by
  simp only [resD] at hr;split at hr
  ·rename_i d l hd hl;simp only [oI] at hr;subst hr;obtain ⟨v,hv,h1⟩:=Hi h hd;obtain ⟨vs,va,h2⟩:=ke h hl;refine ⟨v :: vs,rvL_cons hv va,?_⟩
   simp_all
  ·cases hr
theorem qa (h:Rel X E st a w) {d:DV} {v:Value} (hv:Rv E d v) (hf:finD X st d):DM X.still X.E0 X.w0 X.Φ v w X.fr:=by
 unfold finD at hf;split at hf
 ·grind [Ca]
 ·rename_i hfr;split at hf
  ·rename_i hn hm
   have key:∀ d',Cc st.bx 0 0 0 d' d->X.Φ d' [] []->DM X.still X.E0 X.w0 X.Φ v w X.fr:=fun d' hd hΦ=>
    Ca h hv (d':=d') (os:=[]) X.m0 (.inl ⟨hfr,rfl⟩) (by rw [hn,hm];exact hd) (by rw [hn];simp [kZ]) (by rw [hm];exact hΦ)
   grind [Cc]
  ·grind [Ca]
theorem zU (h:Rel X E st a w) (hf:fin X st):kq X [] .ret a w:=by
 have wv:X.fn.results=X.rs.toArray:=by rw [<- X.tW]
 simp only [kq];refine ⟨h.df,?_⟩
 have hbt:pw X.bt X.E0.β w:=fun p hp b hb=>by
  obtain ⟨r,hr,_⟩:=h.nw.β;exact h.bt p hp b (by rw [hr,ei (gS hb).1];exact hb)
 unfold fin at hf
 have Hj:∀ (ds:List DV) (vs:List Value),(X.rs.mapM (resOf a.tmps)).run X.P w = .ok vs w->(results X.fn a.tmps).run X.P w = .ok (if h:vs.toArray.size=1 then vs.toArray[0] else .tuple vs.toArray) w:=by
  intro ds vs hv;rw [wu,wv]
  simp_all
 split at hf
 ·rename_i hr;obtain ⟨vs,va,h1⟩:=ke h hr;simp only [RvL] at va;subst va;exact ⟨_,Hj [] [] h1,qa h (v:=.tuple #[]) (by unfold Rv;exact ⟨[],rfl,cO E⟩) hf,hbt⟩
 ·rename_i d hr;obtain ⟨vs,va,h1⟩:=ke h hr;have hl:=va.length;simp only [RvL] at va;obtain ⟨v,s,rfl,hv,rfl⟩:=va;exact ⟨_,Hj [d] [v] h1,qa h (v:=v) hv hf,hbt⟩
 ·rename_i d e l hr;obtain ⟨vs,va,h1⟩:=ke h hr;have hl:=va.length;have bo:¬ vs.toArray.size=1:=by simp at hl ⊢;omega
  have h2:=Hj [] vs h1;rw [dif_neg bo] at h2;exact ⟨_,h2,qa h (v:=.tuple vs.toArray) (by unfold Rv;exact ⟨vs,rfl,va⟩) hf,hbt⟩
 ·exact hf.elim
theorem wx:∀ (k:List It) (a:Act) (w:World),kq X [] .ret a w->kq X k .ret a w
 | [],_,_,h=>h
 | .code _ :: k,a,w,h=>wx k a w h
 | .ops _ _ :: k,a,w,h=>wx k a w h
 | .DL _ :: k,a,w,h=>wx k a w h
 | .GX _ :: k,a,w,h=>wx k a w h
theorem ra {id:Nat}:∀ (k k':List It) (a:Act) (w:World),dropBlk id k=some k' -> kq X k' .normal a w->kq X k (.exit id) a w
 | [],k',a,w,hd,_=>by simp [dropBlk] at hd
 | .code _ :: k,k',a,w,hd,h=>by simp only [dropBlk] at hd;exact ra k k' a w hd h
 | .ops _ _ :: k,k',a,w,hd,h=>by simp only [dropBlk] at hd;exact ra k k' a w hd h
 | .GX _ :: k,k',a,w,hd,h=>by simp only [dropBlk] at hd;exact ra k k' a w hd h
 | .DL i :: k,k',a,w,hd,h=>by
  simp only [dropBlk] at hd;split at hd
  ·simp_all [kq]
  ·rename_i hi
   have hi:id≠i:=by
    rintro rfl;rw [Nat.beq_refl] at hi;cases hi
   simp only [kq];rw [ag hi];exact ra k k' a w hd h
theorem Lp {P:Program} {o:Oper} {a:Act} {K K':Act->World->Prop} {Q Q':Exit->Act->World->Prop} (hK:∀ a w,K a w->K' a w) (hQ:∀ e a w,Q e a w->Q' e a w)
  {r:Result Next} (h:o.upon P a K Q r):o.upon P a K' Q' r:=by
 unfold Oper.upon at *;split<;>simp_all
 ·refine h.mono ?_;intro e w' hq
  cases e with
  | returned v=>exact hK _ _ hq
  | panicked c=>exact hQ _ _ _ hq
  | outgrown=>obtain ⟨a,w,hq⟩:=hq;exact ⟨a,w,hQ _ _ _ hq⟩
 ·exact h.mono fun v w' hq=>hK _ _ hq
theorem D2 {P:Program} {o:Oper} {a:Act} {K K':Act->World->Prop} {Q Q':Exit->Act->World->Prop} {w:World} (hK:∀ a w,K a w->K' a w) (hQ:∀ e a w,Q e a w->Q' e a w)
  (h:o.wp P a w K Q):o.wp P a w K' Q':=Lp hK hQ h
theorem rb {l:Nat}:∀ (k:List It) (a:Act) (w:World),kq X k (.goto l) a w->False
 | [],a,w,h=>by simp [kq] at h
 | .code _ :: k,a,w,h=>rb k a w (by simpa only [kq] using h)
 | .ops _ _ :: k,a,w,h=>rb k a w (by simpa only [kq] using h)
 | .DL _ :: k,a,w,h=>rb k a w (by simpa only [kq] using h)
 | .GX _ :: k,a,w,h=>rb k a w (by simpa only [kq] using h)
theorem Oj (k:List It) (e:Exit) (a:Act) (w:World) (h:kq X k e a w):Exit.noGoto (kq X k) e a w:=by
 cases e with
 | goto l=>exact (rb k a w h).elim
 | _=>exact h
theorem ek (c:Code) (k:List It) (a:Act) (w:World):kq X (.code c :: k) .normal a w=c.wp X.P (kq X k) a w:=rfl
theorem S4 (c:Code) (k:List It):kq X (.code c :: k)=Exit.then (c.wp X.P (kq X k)) (kq X k):=by
 funext e a w;cases e<;>rfl
theorem Xp (id:Nat) (k:List It) (e:Exit) (a:Act) (w:World) (h:kq X (.DL id :: k) e a w):Exit.inBlock id (kq X k) e a w:=by
 cases e<;>exact h
theorem wanted_spec (h:Rel X E st a w) {all:Array Oper} {o:Oper} {j d:Nat} {want:Bool} {mz:List (Nat × Bool)} {sd:DV} (S5:o.guard=some (j,want)) (Lk:gslot all.toList j=some d) (Vn:get st.sl d=some ⟨mz,sd⟩) :
  Region.wanted o (yielded all a.tmps)=true↔Holds a.tmps ((d,want) :: mz):=by
 have Xq:yielded all a.tmps j=match a.tmps[d]? with | some (.bool b)=>some b | _=>none:=by
  unfold gslot at Lk;split at Lk
  ·rename_i oj hoj;have hoj':all[j]? = some oj:=sU hoj;simp only [yielded,hoj',Lk,Option.bind_some]
   grind
  ·cases Lk
 have htd:=h.tm d _ Vn;simp only [Region.wanted,S5,Xq];constructor
 ·intro hw;have hb:a.tmps[d]? = some (.bool want):=by grind
  refine j9 hb ?_;by_cases hh:Holds a.tmps mz
  ·exact hh
  ·have:=htd.2 hh;rw [hb] at this;simp [undef] at this
 ·intro hh;have:=hh (d,want) (by simp);simp only at this;rw [this];simp
theorem D3 (h:Rel X E st a w) {t:Nat} {b:Bool} (hg:get st.sl t=some ⟨[],.v (.bool b)⟩):a.tmps[t]? = some (.bool b):=by
 obtain ⟨v,h1,h2⟩:=(h.tm t _ hg).1 (aX _);rw [h1,ka h2]
theorem Ol (h:Rel X E st a w) {t:Nat} (hg:get st.sl t=some ⟨[],.ud⟩):a.tmps[t]? = some undef:=by
 obtain ⟨v,h1,h2⟩:=(h.tm t _ hg).1 (aX _);unfold Rv at h2;rw [h1,h2]
theorem wy {G:List (Nat × Bool)} {dst:Option Nat} (jh:okG G dst=true):∀ e,dst=some e->∀ p∈G,p.1≠e:=by
 intro e he p hp dV;rw [he] at jh;have:=(List.all_eq_true.1 jh) p hp;rw [dV] at this;simp at this
theorem go_sound:∀ n,Snd X (go X n)
 | 0=>fun k st hg=>hg.elim
 | n + 1=>by
  have ih:=go_sound n;intro k st hg E a w h
  match k with
  | []=>exact zU h (by simpa [go] using hg)
  | .DL id :: k=>exact ih k st (by simpa [go] using hg) E a w h
  | .GX J :: k=>exact ⟨st,E,h,by simpa [go] using hg⟩
  | .ops all [] :: k=>exact ih k st (by simpa [go] using hg) E a w h
  | .ops all (o :: r) :: k=>
   simp only [go,oJ,Jp] at hg;split at hg
   ·exact hg.elim
   ·rename_i hd;split at hg
    ·rename_i S5;simp only [kq,wpList,Region.wanted,S5,if_true];split at hg
     ·rename_i s hs;obtain ⟨v,hv,bS⟩:=fC X.hT h.rl (aX _) hs;exact .inl (lM (bS w fun _=>rfl) (ih _ _ hg E _ w (bh h hd s v hv)))
     ·exact .inl (D2 (fun a w hk=>hk) (fun e a w hq=>hq.elim) (zT ih hd h hg))
    ·rename_i j want S5;split at hg
     ·exact hg.elim
     ·rename_i d Lk;split at hg
      ·exact hg.elim
      ·rename_i mz sd Vn;have wz:=wanted_spec h S5 Lk Vn;simp only [kq,wpList];split at hg
       ·rename_i s hs;split at hg
        case h_2=>exact hg.elim
        rename_i jh;split
        ·rename_i hw;have hh:=wz.1 hw;obtain ⟨v,hv,bS⟩:=fC X.hT h.rl hh hs;exact .inl (lM (bS w fun _=>rfl) (ih _ _ hg E _ w (qW h hd _ s v (wy jh) (fun _=>hv) (fun hn=>(hn hh).elim))))
        ·rename_i hw;have hh:¬ Holds a.tmps ((d,want) :: mz):=fun hh=>hw (wz.2 hh);exact ih _ _ hg E _ w (qW h hd _ s undef (wy jh) (fun hn=>(hh hn).elim) (fun _=>rfl))
       ·split at hg
        ·rename_i b iT;have ht0:=D3 h iT
         cases mz with
         | nil=>
          simp only [lastG] at iT ht0;cases G2:(b == want)
          ·have Hk:b = !want:=by cases b<;>cases want<;>simp_all
           have hg:=hg.f G2
           have hn:¬ Region.wanted o (yielded all a.tmps)=true:=by
            intro hw;have:=(wz.1 hw) (d,want) (by simp)
            grind
           rw [ag hn];have hr:=kJ (d:=d) (b:=!want) h (by rw [ht0,Hk]);exact ih _ _ hg E _ w (bh hr (kK hd) .ud undef (ub E))
          ·have nV:b=want:=sU G2;have hg:=hg.t G2;subst nV;have hw:Region.wanted o (yielded all a.tmps)=true:=wz.2 (j9 ht0 (aX _));rw [ah hw];have hr:=kJ (d:=d) (b:=b) h ht0;exact .inl (D2 (fun a w hk=>hk) (fun e a w hq=>hq.elim) (zT ih (kK hd) hr hg))
         | cons g1 gr=>
          have key:∀ c,a.tmps[(lastG (d,want) (g1 :: gr)).1]? = some (.bool c)->go X n (.ops all (o :: r) :: k) (st.resolve (lastG (d,want) (g1 :: gr)).1 c)->wpList X.P all (kq X k) (o :: r) a w:=
           fun c hc zu=>ih _ _ zu E a w (kJ h hc)
          cases G2:(b == (lastG (d,want) (g1 :: gr)).2)
          ·have hg:=hg.f G2;have Hk:b = !(lastG (d,want) (g1 :: gr)).2:=by cases b<;>cases h0:(lastG (d,want) (g1 :: gr)).2<;>simp_all
           have:=key _ (by rw [ht0,Hk]) hg;simpa [wpList] using this
          ·have hg:=hg.t G2;have nV:b=(lastG (d,want) (g1 :: gr)).2:=sU G2;have:=key _ (by rw [ht0,nV]) hg;simpa [wpList] using this
        ·rename_i iT
         cases mz with
         | nil=>
          have ht0:=Ol h iT;simp only [lastG] at ht0
          have hn:¬ Region.wanted o (yielded all a.tmps)=true:=by
           intro hw;have:=(wz.1 hw) (d,want) (by simp);simp only at this;rw [ht0] at this;simp [undef] at this
          rw [ag hn];exact ih _ _ hg E _ w (bh h hd .ud undef (ub E))
         | cons g1 gr=>exact hg.elim
        ·exact hg.elim
  | .code c :: k=>
   rw [ek]
   cases c with
   | skip=>exact wp_skip (ih k st (by simpa [go] using hg) E a w h)
   | seq x y=>
    have:=ih (.code x :: .code y :: k) st (by simpa [go] using hg) E a w h;rw [ek,S4] at this;exact wp_seq this
   | block id b=>
    have:=ih (.code b :: .DL id :: k) st (by simpa [go] using hg) E a w h;rw [ek] at this;exact wp_block (wp_mono this (Xp id k))
   | exit id=>
    simp only [go] at hg;split at hg
    ·rename_i k' hk;exact wp_exit (ra k k' a w hk (ih k' st hg E a w h))
    ·exact hg.elim
   | cond x p q=>
    simp only [go] at hg;split at hg
    ·rename_i b hb;refine wp_cond (t:=b) (by rw [ka (bc h.rl hb)]) ?_;cases iT:b
     ·exact ih (.code q :: k) st (hg.f iT) E a w h
     ·exact ih (.code p :: k) st (hg.t iT) E a w h
    ·exact hg.elim
   | region id ops d=>
    simp only [go] at hg;cases d
    ·exact wp_region_list (ih (.ops ops ops.toList :: k) st hg E a w h)
    ·exact hg E a w h
   | loop b=>exact (by simpa [go] using hg:tY X b k st) E a w h
   | ret=>exact wp_ret (wx k a w (zU h (by simpa [go] using hg)))
   | scope c=>
    have:=ih (.code c :: k) st (by simpa [go] using hg) E a w h;rw [ek] at this;exact wp_scope_straight (wp_mono this (Oj k))
   | label l=>exact wp_label (ih k st (by simpa [go] using hg) E a w h)
   | _=>simp [go] at hg
theorem D4 {fn:Func} (wv:X.fn=fn) (e:Exit) (a:Act) (w:World) (h:kq X [] e a w):bodyPost X.P fn (fun e w'=>∃ v,e = .returned v/\DM X.still X.E0 X.w0 X.Φ v w' X.fr/\pw X.bt X.E0.β w') e a w:=by
 subst wv
 cases e with
 | normal=>obtain ⟨h1,v,h2,h3⟩:=h;exact ⟨h1,v,h2,v,rfl,h3⟩
 | ret=>obtain ⟨h1,v,h2,h3⟩:=h;exact ⟨h1,v,h2,v,rfl,h3⟩
 | exit _=>exact h.elim
 | goto _=>exact h.elim
 | panic _=>exact h.elim
 | outgrown=>exact h.elim
end
def ZE (s:Bool) (P:Program) (f:FuncId) (args:List DV) (os:List (List DV)) (c9:List TkE) (Φ:DV->List (List DV)->List TkE->Prop) (fr:Bool:=false):Prop:=
 ∀ (E:En) (w:World) (vs:List Value),Env E os w->E.tk=c9->RvL E args vs->Calls P f vs.toArray w fun e w'=>∃ v,e = .returned v/\DM s E w Φ v w' fr
def Ev (P:Program) (f:FuncId) (args:List DV) (os:List (List DV)) (c9:List TkE) (Φ:DV->List (List DV)->List TkE->Prop):Prop:=ZE false P f args os c9 Φ
def EvS (P:Program) (f:FuncId) (args:List DV) (os:List (List DV)) (c9:List TkE) (Φ:DV->List (List DV)->List TkE->Prop):Prop:=ZE true P f args os c9 Φ
def bA (P:Program) (f:FuncId) (args:List DV) (d:DV):Prop:=Ev P f args [] [] fun d' _ _=>d'=d
def argSl:Nat->List DV->List (Nat × Sl)
 | _,[]=>[]
 | i,v :: r=>(i,⟨[],v⟩) :: argSl (i + 1) r
theorem zV:∀ (l:List DV) (i j:Nat) (x:Sl),get (argSl i l) j=some x->∃ v,x=⟨[],v⟩/\i<=j/\l[j - i]? = some v
 | [],_,_,_,h=>by simp [argSl,get] at h
 | v :: r,i,j,x,h=>by
  simp only [argSl,dx] at h;split at h
  ·grind
  ·rename_i qX;obtain ⟨u,hu,jk,hg⟩:=zV r (i + 1) j x h
   grind
theorem Nw.refl {E:En} {bx:List (List DV)} {w:World} (h:Env E bx w):Nw E E w where
 c:=fun _ _ h=>h
 cn:=fun _ _ h=>.inl h
 β:=⟨[],by simp,by simp⟩
 tk:=fun k q y hq hy=>⟨q,y,hq,hy,rfl,rfl,.inl ⟨rfl,rfl⟩,.inl rfl⟩
 tn:=fun k y g hk hy=>by
  have:=(gS hy).1;rw [h.tl] at this;omega
 l0:=h.tl
def EvT (s:Bool) (P:Program) (f:FuncId) (args:List DV) (os:List (List DV)) (c9:List TkE) (bt:List (Nat × TypeId)) (Φ:DV->List (List DV)->List TkE->Prop) (fr:Bool:=false):Prop:=
 ∀ (E:En) (w:World) (vs:List Value),Env E os w->E.tk=c9->pw bt E.β w->RvL E args vs->Calls P f vs.toArray w fun e w'=>∃ v,e = .returned v/\DM s E w Φ v w' fr/\pw bt E.β w'
theorem S6 {s:Bool} {P:Program} {f:FuncId} {fn:Func} {c:Code} {args:List DV} {os:List (List DV)} {c9:List TkE} {Φ:DV->List (List DV)->List TkE->Prop} (bt:List (Nat × TypeId)) (mu:List Nat) (fr:Bool) (T:TT) (hT:T.ok P=true) (n nt:Nat) (rs:List ResultVar)
  (hf:P.funcs[f]? = some fn) (hb:fn.body=some c) (Om:fn.ntmps=nt) (tW:fn.results.toList=rs) (hlen:args.length<=nt)
  (h:∀ (E:En) (w:World) (hn:E.β.length=os.length) (hm:E.tk.length=c9.length),go ⟨P,T,hT,fn,nt,rs,tW,w,E,os.length,c9.length,hn,hm,s,Φ,bt,mu,fr⟩ n [.code c] ⟨argSl 0 args,os,c9⟩):EvT s P f args os c9 bt Φ fr:=by
 intro E w vs hE gj iT hv;have hl:=hv.length;have hg:=h E w hE.len (by rw [gj]);refine calls_of_wp hf hb ?_
 have hs:=go_sound (X:=⟨P,T,hT,fn,nt,rs,tW,w,E,os.length,c9.length,hE.len,by rw [gj],s,Φ,bt,mu,fr⟩) n _ _ hg E
  {tmps:=vs.toArray ++ Array.replicate (fn.ntmps - vs.toArray.size) undef,defers:=[] } w
  {env:=hE
   tk:=gj
   sz:=by simp [Om];omega
   tm:=by
    intro i x hx;obtain ⟨d,rfl,_,hd⟩:=zV args 0 i x hx;simp only [Nat.sub_zero] at hd;obtain ⟨v,Dy,Ss⟩:=hv.get hd
    grind [aX]
   df:=rfl
   nw:=Nw.refl hE
   fr:=⟨rfl,rfl,rfl,bn _,fun _ _ _=>rfl⟩
   sh:=fun _=>⟨0,rfl⟩
   bt:=iT }
 exact wp_mono hs (D4 rfl)
theorem Cd {s:Bool} {P:Program} {f:FuncId} {fn:Func} {c:Code} {args:List DV} {os:List (List DV)} {c9:List TkE} {Φ:DV->List (List DV)->List TkE->Prop} (bt:List (Nat × TypeId)) (mu:List Nat) (hbt:∀ p∈bt,os.length<=p.1) (fr:Bool) (T:TT) (hT:T.ok P=true) (n nt:Nat) (rs:List ResultVar)
  (hf:P.funcs[f]? = some fn) (hb:fn.body=some c) (Om:fn.ntmps=nt) (tW:fn.results.toList=rs) (hlen:args.length<=nt)
  (h:∀ (E:En) (w:World) (hn:E.β.length=os.length) (hm:E.tk.length=c9.length),go ⟨P,T,hT,fn,nt,rs,tW,w,E,os.length,c9.length,hn,hm,s,Φ,bt,mu,fr⟩ n [.code c] ⟨argSl 0 args,os,c9⟩):ZE s P f args os c9 Φ fr:=fun E w vs hE gj hv=>(S6 bt mu fr T hT n nt rs hf hb Om tW hlen h E w vs hE gj (fun p hp b hb=>by
  have h1:=hbt p hp;have h2:=(gS hb).1;have h3:=hE.len
  omega) hv).mono fun _ _ ⟨v,h1,h2,_⟩=>⟨v,h1,h2⟩
theorem Ce {s:Bool} {P:Program} {f:FuncId} {fn:Func} {c:Code} {args:List DV} {os:List (List DV)} {c9:List TkE} {Φ:DV->List (List DV)->List TkE->Prop} (bt:List (Nat × TypeId)) (hbt:∀ p∈bt,os.length<=p.1) (T:TT) (hT:T.ok P=true) (n nt:Nat) (rs:List ResultVar)
  (hf:P.funcs[f]? = some fn) (hb:fn.body=some c) (Om:fn.ntmps=nt) (tW:fn.results.toList=rs) (hlen:args.length<=nt)
  (h:∀ (E:En) (w:World) (hn:E.β.length=os.length) (hm:E.tk.length=c9.length),go ⟨P,T,hT,fn,nt,rs,tW,w,E,os.length,c9.length,hn,hm,s,Φ,bt,[],false⟩ n [.code c] ⟨argSl 0 args,os,c9⟩):ZE s P f args os c9 Φ:=
 Cd bt [] hbt false T hT n nt rs hf hb Om tW hlen h
theorem Oo {s:Bool} {P:Program} {f:FuncId} {fn:Func} {c:Code} {args:List DV} {os:List (List DV)} {c9:List TkE} {Φ:DV->List (List DV)->List TkE->Prop} (T:TT) (hT:T.ok P=true) (n nt:Nat) (rs:List ResultVar)
  (hf:P.funcs[f]? = some fn) (hb:fn.body=some c) (Om:fn.ntmps=nt) (tW:fn.results.toList=rs) (hlen:args.length<=nt)
  (h:∀ (E:En) (w:World) (hn:E.β.length=os.length) (hm:E.tk.length=c9.length),go ⟨P,T,hT,fn,nt,rs,tW,w,E,os.length,c9.length,hn,hm,s,Φ,[],[],false⟩ n [.code c] ⟨argSl 0 args,os,c9⟩):ZE s P f args os c9 Φ:=
 Ce [] (fun p hp=>by cases hp) T hT n nt rs hf hb Om tW hlen h
theorem aau {P:Program} {f:FuncId} {fn:Func} {c:Code} {args:List DV} {os:List (List DV)} {c9:List TkE} {Φ:DV->List (List DV)->List TkE->Prop} (T:TT) (hT:T.ok P=true) (n nt:Nat) (rs:List ResultVar)
  (hf:P.funcs[f]? = some fn) (hb:fn.body=some c) (Om:fn.ntmps=nt) (tW:fn.results.toList=rs) (hlen:args.length<=nt)
  (h:∀ (E:En) (w:World) (hn:E.β.length=os.length) (hm:E.tk.length=c9.length),go ⟨P,T,hT,fn,nt,rs,tW,w,E,os.length,c9.length,hn,hm,false,Φ,[],[],false⟩ n [.code c] ⟨argSl 0 args,os,c9⟩):Ev P f args os c9 Φ:=
 Oo T hT n nt rs hf hb Om tW hlen h
theorem Ev.mono {P:Program} {f:FuncId} {args:List DV} {os:List (List DV)} {c9:List TkE} {Φ Ψ:DV->List (List DV)->List TkE->Prop} (h:Ev P f args os c9 Φ) (hΦ:∀ d o t,Φ d o t->Ψ d o t):Ev P f args os c9 Ψ:=by
 intro E w vs h1 h2 h3;refine (h E w vs h1 h2 h3).mono ?_;rintro e w' ⟨v,rfl,h4,hs,d,o,E',h5,h6,h7,h8,h9,u9⟩;exact ⟨v,rfl,h4,hs,d,o,E',h5,h6,h7,h8,h9,hΦ _ _ _ u9⟩
theorem Ev.aav {P:Program} {f:FuncId} {args:List DV} {os:List (List DV)} {c9:List TkE} {Φ:DV->List (List DV)->List TkE->Prop} {bt:List (Nat × TypeId)} (h:Ev P f args os c9 Φ) (hb:bt=[]):EvT false P f args os c9 bt Φ:=fun E w vs h1 h2 _ h4=>
 (h E w vs h1 h2 h4).mono fun _ _ ⟨v,h5,h6⟩=>⟨v,h5,h6,.nil hb⟩
theorem br {b:Bool} {A B:Prop} (h1:b=true->A) (h2:b=false->B):@Bool.rec (fun _=>Prop) B A b:=by
 cases b
 ·exact h2 rfl
 ·exact h1 rfl
section
variable {X:Ctx} {st:St} {k:List It} {E:En} {a:Act} {w:World}
theorem Lq (h:Rel X E st a w) (bp:X.still=false) {E2:En} {w':World} (hm:qQ (E.cl).S w w') (he:Env E2 [] w') (hn:Nw E.cl E2 w):Rel X ⟨E2.c,E.β,E.tk,E.τ⟩ st a w':=by
 have hh:∀ i,i < w.heap.size->w'.heap[i]? = w.heap[i]?:=fun i hi=>hm.block i hi (by
  rintro (h1 | ⟨y,h1,_⟩)
  ·simp [En.cl] at h1
  ·simp [En.cl] at h1)
 have dB:∀ x v,E2.c x=some v->E.c x=some v∨w.heap.size<=x.block:=fun x v hx=>by
  rcases hn.cn x v hx with h1 | h1 | ⟨y,h1,_⟩
  ·exact .inl h1
  ·exact .inr h1
  ·simp [En.cl] at h1
 have hx:Ext E ⟨E2.c,E.β,E.tk,E.τ⟩:=⟨hn.c,fun _ _ h=>h,fun _ q h=>⟨q,h,.inl ⟨rfl,rfl⟩⟩⟩;have hk:=h.env.gW hh;refine dr h hx ?_ h.tk ?_ (h.fr.cu hm.os hm.tape hm.output hm.size fun i hi=>.inr (hh i hi)) (mJ bp) (h.bt.gW fun b hb=>hh b (h.env.bm hb))
 ·exact {
   len:=h.env.len
   tl:=h.env.tl
   dY:=fun i cs hi=>by
    obtain ⟨b,ty,arr,hb,hw,hc⟩:=hk.dY i cs hi;exact ⟨b,ty,arr,hb,hw,hc.mono hx⟩
   inj:=h.env.inj
   sub:=he.sub
   pc:=fun x v hc mA=>by
    rcases dB x v hc with h1 | h1
    ·exact h.env.pc x v h1 mA
    ·have:=h.env.bm mA;omega
   c9:=fun k q y hq hy=>by
    rcases hk.c9 k q y hq hy with h1 | ⟨g',cap,cur,rfl,h1,h2,h3,h4,h5,h6⟩
    ·exact .inl h1
    ·refine .inr ⟨g',cap,cur,rfl,h1,⟨h2.1,h2.2.mono hn.c⟩,h3,h4,h5,fun x v hc hg=>?_⟩;rcases dB x v hc with h7 | h7
     ·exact h6 x v h7 hg
     ·have:=(iD (h.env.c9 k q _ hq hy) (g:=g') rfl).1;omega
   iB:=h.env.iB }
 ·exact {
   c:=fun x v hc=>hn.c x v (h.nw.c x v hc)
   cn:=fun x v hc=>by
    rcases dB x v hc with h1 | h1
    ·exact h.nw.cn x v h1
    ·have:=h.fr.size;exact .inr (.inl (by omega))
   β:=h.nw.β
   tk:=h.nw.tk
   tn:=h.nw.tn
   l0:=h.nw.l0 }
theorem Hl {bx:List (List DV)} (h:Env E bx w):Env E.cl [] w where
 len:=rfl
 tl:=rfl
 dY:=by simp
 inj:=List.nodup_nil
 sub:=h.sub
 pc:=by simp [En.cl]
 c9:=by simp [En.cl]
 iB:=by simp [En.cl]
theorem uf {P:Program} (h:Rel X E st a w) (bp:X.still=false) {f:FuncId} {args bF:List DV} {vs:List Value} {Φ:DV->List (List DV)->List TkE->Prop} (hc:Ev P f bF [] [] Φ) (ha:CcL [] 0 0 0 bF args) (hv:RvL E args vs) :
  Calls P f vs.toArray w fun e w'=>∃ v E' d,e = .returned v/\Rel X E' st a w' /\ Rv E' d v/\Φ d [] []/\qQ E.cl.S w w' /\ Ext E E' /\ E'.β=E.β:=by
 have WZ:RvL E.cl bF vs:=CcL.sound (E:=E) (E':=E.cl) ⟨fun _ _ h=>h,fun i cs _ hi=>by simp at hi⟩ (Jz.zero _ _) ha hv;refine (hc E.cl w vs (Hl h.env) rfl WZ).mono ?_;rintro e w' ⟨v,rfl,hm,_,d,os,E2,he,hβ,gj,hn,Xr,hΦ⟩
 have qZ:os=[]:=by
  have:=he.len;rw [hβ] at this;exact List.eq_nil_of_length_eq_zero this.symm
 subst qZ;have ht0:E2.tk=[]:=List.eq_nil_of_length_eq_zero gj;refine ⟨v,⟨E2.c,E.β,E.tk,E.τ⟩,d,rfl,Lq h bp hm he hn,?_,by rw [ht0] at hΦ;exact hΦ,hm,⟨hn.c,fun _ _ h=>h,fun _ q h=>⟨q,h,.inl ⟨rfl,rfl⟩⟩⟩,rfl⟩;refine Rv.mono (E:=E2) (E':=⟨E2.c,E.β,E.tk,E.τ⟩) ⟨fun _ _ h=>h,fun i b hb=>?_,fun k q hq=>?_⟩ Xr
 ·rw [hβ] at hb;simp [En.cl] at hb
 ·rw [ht0] at hq;simp at hq
theorem eo {f:FuncId} {args bF:List DV} {d:Nat} (gh:Enters X.P f) (hd:eV X.nt st.sl (some d)=true) {Φ:DV->List (List DV)->List TkE->Prop} (hc:Ev X.P f bF [] [] Φ) (ha:CcL [] 0 0 0 bF args)
  (hk:∀ r,Φ r [] []->go X 4000 k ⟨(d,⟨[],r⟩) :: st.sl,st.bx,st.tk⟩) (bp:X.still=false:=by exact rfl):CallG X f args (some d) k st:=by
 refine ⟨gh,bp,fun E a w vs h hv=>(uf h bp hc ha hv).mono ?_⟩;rintro e w' ⟨v,E',r,rfl,cm,hr,hΦ,_⟩;exact go_sound 4000 _ _ (hk r hΦ) E' _ w' (bh cm hd r v hr)
theorem Xs {f:FuncId} {args bF:List DV} {d:Nat} {r:DV} (gh:Enters X.P f) (hc:bA X.P f bF r) (ha:CcL [] 0 0 0 bF args) (hd:eV X.nt st.sl (some d)=true)
  (hk:go X 4000 k ⟨(d,⟨[],r⟩) :: st.sl,st.bx,st.tk⟩) (bp:X.still=false:=by exact rfl):CallG X f args (some d) k st:=
 eo gh hd hc ha (fun _ hr=>hr ▸ hk) bp
def clB (n m:Nat):DV->Bool
 | .v _=>true
 | .ud=>true
 | .sl _ _ none=>true
 | .sl _ _ (some k)=>Nat.blt k m
 | .pt _ _=>true
 | .loc i _=>Nat.blt i n
 | .el i _=>Nat.blt i n
 | .ms i _ _ _ _=>Nat.blt i n
 | .agg l=>clL l
 | .bK l=>clL l
 | .fn _ l r=>clL l && clL r
 | .pY _ x=>clB n m x
where clL:List DV->Bool
 | []=>true
 | d :: r=>clB n m d && clL r
def En.cut (E:En) (n m:Nat):En:=⟨E.c,E.β.take n,E.tk.take m,E.τ.take m⟩
mutual
theorem Rv.cut {n m:Nat} {E:En}:∀ {d:DV} {v:Value},Rv E d v->clB n m d=true->Rv (E.cut n m) d v
 | .v x,v,h,_=>by unfold Rv at h ⊢;exact h
 | .ud,v,h,_=>by unfold Rv at h ⊢;exact h
 | .sl e es none,v,h,_=>by
  unfold Rv at h ⊢;obtain ⟨b,n,cap,h1,h2,h3,_⟩:=h;exact ⟨b,n,cap,h1,h2,h3,fun k hk=>by cases hk⟩
 | .sl e es (some k),v,h,hc=>by
  unfold Rv at h ⊢;obtain ⟨b,n',cap,h1,h2,h3,h4⟩:=h;refine ⟨b,n',cap,h1,h2,h3,fun k' gU=>?_⟩;cases gU;have hk:k < m:=by simpa [clB] using hc
  obtain ⟨q,h5,h6,h7⟩:=h4 k rfl;exact ⟨q,by show (E.tk.take m)[k]? = _;rw [cQ,ah hk];exact h5,h6,fun hh=>by show (E.τ.take m)[k]? = _;rw [cQ,ah hk];exact h7 hh⟩
 | .pt cs o,v,h,_=>by unfold Rv at h ⊢;exact h
 | .loc i o,v,h,hc=>by
  unfold Rv at h ⊢;obtain ⟨b,hb,h1⟩:=h;have hi:i < n:=by simpa [clB] using hc
  exact ⟨b,by show (E.β.take n)[i]? = _;rw [cQ,ah hi];exact hb,h1⟩
 | .el i o,v,h,hc=>by
  unfold Rv at h ⊢;obtain ⟨b,hb,h1⟩:=h;have hi:i < n:=by simpa [clB] using hc
  exact ⟨b,by show (E.β.take n)[i]? = _;rw [cQ,ah hi];exact hb,h1⟩
 | .ms i e o l c,v,h,hc=>by
  unfold Rv at h ⊢;obtain ⟨b,ad,hb,h1⟩:=h;have hi:i < n:=by simpa [clB] using hc
  exact ⟨b,ad,by show (E.β.take n)[i]? = _;rw [cQ,ah hi];exact hb,h1⟩
 | .agg l,v,h,hc=>by
  unfold Rv at h ⊢;obtain ⟨vs,h1,h2,h3⟩:=h;simp only [clB] at hc;exact ⟨vs,h1,RvL.cut h2 hc,h3⟩
 | .bK l,v,h,hc=>by
  unfold Rv at h ⊢;obtain ⟨vs,h1,h2⟩:=h;simp only [clB] at hc;exact ⟨vs,h1,RvL.cut h2 hc⟩
 | .fn f l r,v,h,hc=>by
  unfold Rv at h ⊢;obtain ⟨l',r',h1,h2,h3⟩:=h;simp only [clB,bg] at hc;exact ⟨l',r',h1,RvL.cut h2 hc.1,RvL.cut h3 hc.2⟩
 | .pY t x,v,h,hc=>by
  unfold Rv at h ⊢;obtain ⟨z,h1,h2⟩:=h;simp only [clB] at hc;exact ⟨z,h1,Rv.cut h2 hc⟩
theorem RvL.cut {n m:Nat} {E:En}:∀ {l:List DV} {vs:List Value},RvL E l vs->clB.clL n m l=true->RvL (E.cut n m) l vs
 | [],vs,h,_=>by simp only [RvL] at h ⊢;exact h
 | d :: r,vs,h,hc=>by
  simp only [RvL] at h ⊢;obtain ⟨v,s,h1,h2,h3⟩:=h;simp only [clB.clL,bg] at hc;exact ⟨v,s,h1,Rv.cut h2 hc.1,RvL.cut h3 hc.2⟩
end
end
end Dv
end Go.Proofs.YtfdedoiiahbnnaaGreat
namespace Go.Proofs.YtfdedoiiahbnnaaGreat
namespace Dv
open Go Go.RowKit
def We (n m:Nat) (cA:List TkE) (x x':DV):Prop:=
 (x=x' /\ clB n m x=true)∨(x = .v (.slice none 0 0)/\∃ e k q,x' = .sl e [] (some k)/\m<=k/\cA[k]? = some q)∨(x = .v (.slice none 0 0)/\∃ e,x' = .sl e [] none)∨(∃ e es tk,x = .sl e es tk/\x' = .sl e es none)∨(∃ e es Dx tk,x = .sl e es tk/\x' = .sl e Dx none/\CcE [] 0 Dx es)∨(∃ e es Dx k,x = .sl e es (some k)/\x' = .sl e Dx (some k)/\k < m/\CcE [] 0 Dx es)
def WeL (n m:Nat) (cA:List TkE):List DV->List DV->Prop
 | [],l=>l=[]
 | x :: r,l=>∃ x' r',l=x' :: r' /\ We n m cA x x' /\ WeL n m cA r r'
def WeLL (n m:Nat) (cA:List TkE):List (List DV)->List (List DV)->Prop
 | [],l=>l=[]
 | x :: r,l=>∃ x' r',l=x' :: r' /\ WeL n m cA x x' /\ WeLL n m cA r r'
def lO (n m:Nat) (cA:List TkE) (sl:List (Nat × Sl)):List (Nat × Sl)->Prop
 | []=>True
 | p :: r=>(∃ x,get sl p.1=some ⟨p.2.gs,x⟩/\We n m cA x p.2.s)/\lO n m cA sl r
structure pz (n0 m0:Nat) (st st':St):Prop where
 all:∃ kept dropped new b0 r,m0<=kept.length/\n0<=b0.length/\st.tk=kept ++ dropped/\st'.tk=kept ++ new/\(∀ q∈new,TkE.new q=true)/\st.bx=b0 ++ r/\WeLL b0.length kept.length st'.tk b0 st'.bx/\lO b0.length kept.length st'.tk st.sl st'.sl
theorem WeLL.length {n m:Nat} {cA:List TkE}:∀ {l l':List (List DV)},WeLL n m cA l l' -> l'.length=l.length
 | [],l',h=>by simp only [WeLL] at h;subst h;rfl
 | x :: r,l',h=>by
  simp only [WeLL] at h;obtain ⟨x',r',rfl,_,h2⟩:=h;simp [WeLL.length h2]
theorem WeLL.get {n m:Nat} {cA:List TkE}:∀ {l l':List (List DV)},WeLL n m cA l l' -> ∀ (i:Nat) cs',l'[i]? = some cs' -> ∃ cs,l[i]? = some cs/\WeL n m cA cs cs'
 | [],l',h,i,cs',hi=>by simp only [WeLL] at h;subst h;simp at hi
 | x :: r,l',h,i,cs',hi=>by
  simp only [WeLL] at h;obtain ⟨x',r',rfl,h1,h2⟩:=h
  cases i with
  | zero=>simp only [List.getElem?_cons_zero,oI] at hi;subst hi;exact ⟨x,rfl,h1⟩
  | succ i=>simp only [List.getElem?_cons_succ] at hi ⊢;exact WeLL.get h2 i cs' hi
theorem wC {n m:Nat} {cA:List TkE} {sl:List (Nat × Sl)}:∀ {l:List (Nat × Sl)},lO n m cA sl l->∀ i x',get l i=some x' -> ∃ x,get sl i=some ⟨x'.gs,x⟩/\We n m cA x x'.s
 | [],_,i,x',hx=>by cases hx
 | (k,y) :: r,h,i,x',hx=>by
  simp only [dx] at hx;split at hx
  ·rename_i ue;subst ue;simp only [oI] at hx;subst hx;exact h.1
  ·exact wC h.2 i x' hx
section
variable {X:Ctx} {E:En} {st st':St} {a:Act} {w:World} {k:List It}
def En.wk (E:En) (n:Nat) (kept new:List TkE):En:=⟨E.c,E.β.take n,kept ++ new,E.τ.take kept.length ++ List.replicate new.length (.slice none 0 0)⟩
theorem D5 {n:Nat} {kept dropped new:List TkE} (ht:E.tk=kept ++ dropped) (hl:E.τ.length=E.tk.length) (dB:∀ q∈new,TkE.new q=true) {x x':DV} {v:Value} (hx:We n kept.length (kept ++ new) x x') (hv:Rv E x v):Rv (E.wk n kept new) x' v:=by
 have D6:kept.length<=E.τ.length:=by rw [hl,ht];simp
 have first:∀ {x:DV},clB n kept.length x=true->Rv E x v->Rv (E.wk n kept new) x v:=by
  intro x hc hv;refine Rv.mono (E:=E.cut n kept.length) ⟨fun _ _ h=>h,fun _ _ h=>h,fun k q hq=>?_⟩ (Rv.cut hv hc);have nQ:(E.tk.take kept.length)[k]? = some q:=hq;rw [cQ] at nQ;split at nQ
  ·rename_i hk;refine ⟨q,?_,.inl ⟨rfl,?_⟩⟩
   ·show (kept ++ new)[k]? = _
    grind
   ·show (E.τ.take kept.length ++ _)[k]? = (E.τ.take kept.length)[k]?
    grind
  ·cases nQ
 rcases hx with ⟨rfl,hc⟩ | ⟨rfl,e,k,q,rfl,hk,hq⟩ | ⟨rfl,e,rfl⟩ | ⟨e,es,tk,rfl,rfl⟩ | ⟨e,es,Dx,tk,rfl,rfl,he⟩ | ⟨e,es,Dx,k,rfl,rfl,hk,he⟩
 ·exact first hc hv
 ·have:=bL hv;subst this;unfold Rv;refine ⟨none,0,0,rfl,⟨rfl,bn _⟩,fun hn=>(hn rfl).elim,fun k' gU=>?_⟩;cases gU;have hkn:(kept ++ new)[k]? = some q:=hq;rw [List.getElem?_append_right hk] at hkn;have DP:=TkE.N6 (dB q (mG hkn));refine ⟨q,hq,by omega,fun _=>?_⟩;have aE:=(gS hkn).1;show (E.τ.take kept.length ++ List.replicate new.length _)[k]? = _
  grind
 ·have:=bL hv;subst this;unfold Rv;exact ⟨none,0,0,rfl,⟨rfl,bn _⟩,fun hn=>(hn rfl).elim,fun k hk=>by cases hk⟩
 ·unfold Rv at hv ⊢;obtain ⟨b,n,cap,h1,h2,h3,_⟩:=hv;exact ⟨b,n,cap,h1,h2,h3,fun k hk=>by cases hk⟩
 ·have hv:=Vm he hv;unfold Rv at hv ⊢;obtain ⟨b,n,cap,h1,h2,h3,_⟩:=hv;exact ⟨b,n,cap,h1,h2,h3,fun k hk=>by cases hk⟩
 ·exact first (by simp only [clB];exact Nat.ble_eq_true_of_le hk) (Vm he hv)
theorem sF {n:Nat} {kept dropped new:List TkE} (ht:E.tk=kept ++ dropped) (hl:E.τ.length=E.tk.length) (dB:∀ q∈new,TkE.new q=true):∀ {l l':List DV} {vs:List Value},WeL n kept.length (kept ++ new) l l' -> RvL E l vs->RvL (E.wk n kept new) l' vs
 | [],l',vs,h,hv=>by grind [WeL,RvL]
 | x :: r,l',vs,h,hv=>by
  simp only [WeL] at h;obtain ⟨x',r',rfl,h1,h2⟩:=h;simp only [RvL] at hv ⊢;obtain ⟨v,s,h3,h4,h5⟩:=hv;exact ⟨v,s,h3,D5 ht hl dB h1 h4,sF ht hl dB h2 h5⟩
theorem sG (h:Rel X E st a w) {kept dropped new:List TkE} {b0 r:List (List DV)} (iV:X.m0<=kept.length/\X.n0<=b0.length/\st.tk=kept ++ dropped/\st'.tk=kept ++ new/\(∀ q∈new,TkE.new q=true)/\st.bx=b0 ++ r/\WeLL b0.length kept.length st'.tk b0 st'.bx/\lO b0.length kept.length st'.tk st.sl st'.sl):Rel X (E.wk b0.length kept new) st' a w:=by
 obtain ⟨pu,tX,ht,si,dB,hb,kN,v8⟩:=iV;rw [si] at kN v8;have htE:E.tk=kept ++ dropped:=by rw [h.tk,ht]
 have hbl:=kN.length;have D6:kept.length<=E.τ.length:=by rw [h.env.tl,htE];simp
 have iT:b0.length<=E.β.length:=by rw [h.env.len,hb];simp
 have hτ:∀ (k:Nat) y,(E.τ.take kept.length ++ List.replicate new.length (Value.slice none 0 0))[k]? = some y->(k < kept.length/\E.τ[k]? = some y)∨(kept.length<=k/\y = .slice none 0 0):=fun k y hy=>by grind
 exact {
  env:={
   len:=by simp only [En.wk,zLenT];omega
   tl:=by simp only [En.wk,List.length_append,zLenT,List.length_replicate];omega
   dY:=fun i cs' hi=>by
    obtain ⟨cs,cx,hwe⟩:=kN.get i cs' hi;have aE:=(gS cx).1;obtain ⟨b,ty,arr,SB,hwb,hc⟩:=h.env.dY i cs (by rw [hb,ei aE];exact cx);exact ⟨b,ty,arr,by simp only [En.wk];rw [cQ,ah aE];exact SB,hwb,sF htE h.env.tl dB hwe hc.1,hc.2⟩
   inj:=h.env.inj.sublist (List.take_sublist _ _)
   sub:=h.env.sub
   pc:=fun x v hx hm=>h.env.pc x v hx (List.mem_of_mem_take hm)
   c9:=fun k q y hq hy=>by
    rcases hτ k y hy with ⟨hk,iv⟩ | ⟨hk,rfl⟩
    ·have nQ:(kept ++ new)[k]? = some q:=hq;rw [ei hk] at nQ;rcases h.env.c9 k q y (by rw [htE,ei hk];exact nQ) iv with h1 | ⟨g,cap,cur,rfl,h1,h2,h3,h4,h5,h6⟩
     ·exact .inl h1
     ·exact .inr ⟨g,cap,cur,rfl,h1,h2,h3,h4,fun hm=>h5 (List.mem_of_mem_take hm),h6⟩
    ·have nQ:(kept ++ new)[k]? = some q:=hq;rw [List.getElem?_append_right hk] at nQ;exact .inl ⟨rfl,TkE.N6 (dB q (mG nQ)),TkE.Vh (dB q (mG nQ))⟩
   iB:=fun k k' y y' g GY hy iv hg vY=>by
    rcases hτ k y hy with ⟨_,zt⟩ | ⟨_,rfl⟩
    ·rcases hτ k' y' iv with ⟨_,mK⟩ | ⟨_,rfl⟩
     ·exact h.env.iB k k' y y' g GY zt mK hg vY
     ·simp [Value.ownBlock] at vY
    ·simp [Value.ownBlock] at hg }
  tk:=by simp only [En.wk];exact si.symm
  sz:=h.sz
  tm:=fun i x' zQ=>by
   obtain ⟨x,hx,hwe⟩:=wC v8 i x' zQ;have:=h.tm i _ hx;refine ⟨fun hh=>?_,this.2⟩;obtain ⟨v,h1,h2⟩:=this.1 hh;exact ⟨v,h1,D5 htE h.env.tl dB hwe h2⟩
  df:=h.df
  nw:={
   c:=h.nw.c
   cn:=h.nw.cn
   β:=by
    obtain ⟨r2,hr,hl⟩:=h.nw.β;refine ⟨r2.take (b0.length - X.n0),?_,fun b hb=>hl b (List.mem_of_mem_take hb)⟩;simp only [En.wk];rw [hr,List.take_append,List.take_of_length_le (by rw [X.tX];omega),X.tX]
   tk:=fun j q0 y0 DP Hc=>by
    obtain ⟨q',y',h1,h2,h3⟩:=h.nw.tk j q0 y0 DP Hc;have hj:j < X.m0:=by rw [<- X.pu];exact (gS DP).1
    grind [En.wk]
   tn:=fun j y g hj hy hg=>by
    rcases hτ j y hy with ⟨_,zt⟩ | ⟨_,rfl⟩
    ·exact h.nw.tn j y g hj zt hg
    ·simp [Value.ownBlock] at hg
   l0:=h.nw.l0 }
  fr:=h.fr
  sh:=h.sh
  bt:=h.bt.sub _ }
theorem rc (h:Rel X E st a w) (hw:pz X.n0 X.m0 st st'):∃ E',Rel X E' st' a w:=by
 obtain ⟨_,_,_,_,_,iV⟩:=hw.all;exact ⟨_,sG h iV⟩
theorem least {p:Nat->Prop} (h:∃ n,p n):∃ n,p n/\∀ m,p m->n<=m:=by
 obtain ⟨n,hn⟩:=h
 induction n using Nat.strongRecOn with
 | _ n ih=>grind
theorem cH {c:Code} (I:Nat->St->Prop) (j0:Nat) (kP:St) (hw:pz X.n0 X.m0 st kP) (h0:I j0 kP)
  (hr:∀ j s,I j s->go X 4000 (.code c :: .GX (fun s'=>∃ D7,pz X.n0 X.m0 s' D7 /\ ∃ j',j' < j/\I j' D7) :: k) s):tY X c k st:=by
 intro E a w h;obtain ⟨E0,hr0⟩:=rc h hw
 classical
 let Inv:Act->World->Prop:=fun a w=>∃ j s E,Rel X E s a w/\I j s
 let μ:Act->World->Nat:=fun a w=>if hI:Inv a w then Classical.choose (least hI) else 0
 refine wp_loop Inv μ ⟨j0,kP,E0,hr0,h0⟩ ?_;intro a1 w1 hI;have zW:=(Classical.choose_spec (least hI)).1;obtain ⟨s,E1,cm,hIs⟩:=zW;have hs:=go_sound 4000 _ _ (hr _ s hIs) E1 a1 w1 cm;rw [ek] at hs;refine wp_mono hs ?_;intro e a2 w2 hq
 cases e with
 | normal=>
  obtain ⟨s',E2,D8,D7,S7,j',jw,hI'⟩:=hq;obtain ⟨E3,D9⟩:=rc D8 S7;have Xt:Inv a2 w2:=⟨j',D7,E3,D9,hI'⟩;refine ⟨Xt,?_⟩;simp only [μ,dif_pos hI,dif_pos Xt];exact Nat.lt_of_le_of_lt ((Classical.choose_spec (least Xt)).2 j' ⟨D7,E3,D9,hI'⟩) jw
 | exit id=>exact hq
 | goto l=>exact hq
 | ret=>exact hq
 | panic c=>exact hq
 | outgrown=>exact hq
theorem az {n m:Nat} {cA:List TkE} {x:DV} (h:clB n m x=true):We n m cA x x:=.inl ⟨rfl,h⟩
theorem aP {n m:Nat} {cA:List TkE} {kd:IntKind} {x y:Int} (h:x=y):We n m cA (.v (.int kd x)) (.v (.int kd y)):=.inl ⟨by rw [h],rfl⟩
theorem dj {n m:Nat} {cA:List TkE} {e k:Nat} {q:TkE} (h1:m<=k) (h2:cA[k]? = some q):We n m cA (.v (.slice none 0 0)) (.sl e [] (some k)):=.inr (.inl ⟨rfl,e,k,q,rfl,h1,h2⟩)
theorem fq {n m:Nat} {cA:List TkE} {e k:Nat} {es Dx:List (List DV)} (h:es=Dx) (hk:Nat.blt k m=true):We n m cA (.sl e es (some k)) (.sl e Dx (some k)):=.inl ⟨by rw [h],hk⟩
theorem ax {p:Prop} (h:p:=by repeat' (first | exact rfl | exact trivial | exact Or.inr (Or.inl ⟨_,rfl⟩) | exact Or.inr ⟨_,rfl⟩ | exact Or.inl ⟨rfl,rfl⟩ | exact Or.inl rfl | refine Or.inr ⟨_,_,rfl,Nat.zero_le _,rfl,?_⟩ | refine ⟨_,_,rfl,?_,?_⟩ | refine ⟨_,rfl,?_⟩ | refine Or.inr (Or.inr (Or.inr ⟨_,_,rfl,?_⟩)) | exact Or.inl rfl | refine Or.inr ?_)):p:=h
theorem wA {p:Prop} (h:p:=by repeat' (first | exact rfl | exact az rfl | refine ⟨_,_,rfl,?_,?_⟩)):p:=h
theorem wB {p:Prop} (h:p:=by repeat' (first | exact trivial | exact az rfl | refine ⟨⟨_,rfl,?_⟩,?_⟩)):p:=h
theorem Cf {n0 m0:Nat} {st st':St} (h1:∃ r,st.bx=st'.bx ++ r) (h2:WeLL st'.bx.length st'.tk.length st'.tk st'.bx st'.bx) (h3:st.tk=st'.tk) (h4:Nat.ble n0 st'.bx.length=true) (h5:Nat.ble m0 st'.tk.length=true)
  (h:lO st'.bx.length st'.tk.length st'.tk st.sl st'.sl):pz n0 m0 st st':=by
 obtain ⟨r,hr⟩:=h1;exact ⟨st'.tk,[],[],st'.bx,r,by simpa using h5,by simpa using h4,by simp [h3],by simp,by simp,hr,h2,h⟩
theorem Xu {n0 m0:Nat} {st st':St} (n:Nat) (hn:Nat.ble n st.bx.length=true) (h2:WeLL n st'.tk.length st'.tk (st.bx.take n) st'.bx) (h3:st.tk=st'.tk) (h4:Nat.ble n0 n=true) (h5:Nat.ble m0 st'.tk.length=true)
  (h:lO n st'.tk.length st'.tk st.sl st'.sl):pz n0 m0 st st':=by
 have hl:(st.bx.take n).length=n:=by simp_all
 exact ⟨st'.tk,[],[],st.bx.take n,st.bx.drop n,by simpa using h5,by rw [hl];simpa using h4,by simp [h3],by simp,by simp,(List.take_append_drop n st.bx).symm,by rw [hl];exact h2,by rw [hl];exact h⟩
theorem gk {n0 m0:Nat} {st st':St} (q:TkE) (hq:q.new=true) (h1:∃ r,st.bx=st'.bx ++ r) (h3:st.tk ++ [q]=st'.tk) (h2:WeLL st'.bx.length st.tk.length st'.tk st'.bx st'.bx) (h4:Nat.ble n0 st'.bx.length=true) (h5:Nat.ble m0 st.tk.length=true)
  (h:lO st'.bx.length st.tk.length st'.tk st.sl st'.sl):pz n0 m0 st st':=by
 obtain ⟨r,hr⟩:=h1;exact ⟨st.tk,[],[q],st'.bx,r,by simpa using h5,by simpa using h4,by simp,h3.symm,by simpa using hq,hr,h2,h⟩
end
end Dv
end Go.Proofs.YtfdedoiiahbnnaaGreat
namespace Go.Proofs.YtfdedoiiahbnnaaGreat
namespace Dv
theorem aL {p : Prop} (h : p := by repeat' (first | exact rfl | exact trivial | exact Or.inr (Or.inl ⟨_,rfl⟩) | exact Or.inr ⟨_,rfl⟩ | exact Or.inl ⟨rfl,rfl⟩ | exact Or.inl rfl | refine Or.inr ⟨_,_,rfl,Nat.zero_le _,rfl,?_⟩ | refine ⟨_,_,rfl,?_,?_⟩ | refine ⟨_,rfl,?_⟩ | exact ⟨nL rfl,rfl⟩ | refine Or.inr (Or.inr (Or.inr ⟨_,_,rfl,?_⟩)) | exact Or.inl rfl | refine Or.inr ?_)) : p := h
theorem aI {p : Prop} {a b : Int} (q : a=b) (h : a=b -> p := by intro q;repeat' (first | exact rfl | exact trivial | exact Or.inr (Or.inl ⟨_,rfl⟩) | exact Or.inr ⟨_,rfl⟩ | exact Or.inl ⟨rfl,rfl⟩ | exact Or.inl rfl | refine Or.inr ⟨_,_,rfl,Nat.zero_le _,rfl,?_⟩ | refine ⟨_,_,rfl,?_,?_⟩ | refine ⟨_,rfl,?_⟩ | exact congrArg (fun z=>DV.v (.int .i64 z)) q | refine Or.inr (Or.inr (Or.inr ⟨_,_,rfl,?_⟩)) | exact Or.inl rfl | refine Or.inr ?_)) : p := h q
theorem aB {p : Prop} {a b : Bool} (q : a=b) (h : a=b -> p := by intro q;repeat' (first | exact rfl | exact trivial | exact Or.inr (Or.inl ⟨_,rfl⟩) | exact Or.inr ⟨_,rfl⟩ | exact Or.inl ⟨rfl,rfl⟩ | exact Or.inl rfl | refine Or.inr ⟨_,_,rfl,Nat.zero_le _,rfl,?_⟩ | refine ⟨_,_,rfl,?_,?_⟩ | refine ⟨_,rfl,?_⟩ | exact congrArg (fun b=>DV.v (.bool b)) q | refine Or.inr (Or.inr (Or.inr ⟨_,_,rfl,?_⟩)) | exact Or.inl rfl | refine Or.inr ?_)) : p := h q
theorem wNA {p : Prop} {a b : Nat} (q : a < b) (hn : b <= 4611686018427387904 := by omega) (h : a < b -> b <= 4611686018427387904 -> p := by intro q hn;repeat' (first | exact rfl | exact az rfl | exact aP (cR q hn) | refine ⟨_,_,rfl,?_,?_⟩)) : p := h q hn
theorem wNB {p : Prop} {a b : Nat} (q : a < b) (hn : b <= 4611686018427387904 := by omega) (h : a < b -> b <= 4611686018427387904 -> p := by intro q hn;repeat' (first | exact trivial | exact az rfl | exact aP (cR q hn) | refine ⟨⟨_,rfl,?_⟩,?_⟩)) : p := h q hn
theorem wSA {p r : Prop} {a b : Nat} (q : a < b) (s : r) (hn : b <= 4611686018427387904 := by omega) (h : a < b -> b <= 4611686018427387904 -> r -> p := by intro q hn s;repeat' (first | exact rfl | exact az rfl | exact aP (cR q hn) | exact fq s rfl | refine ⟨_,_,rfl,?_,?_⟩)) : p := h q hn s
theorem wSB {p r : Prop} {a b : Nat} (q : a < b) (s : r) (hn : b <= 4611686018427387904 := by omega) (h : a < b -> b <= 4611686018427387904 -> r -> p := by intro q hn s;repeat' (first | exact trivial | exact az rfl | exact aP (cR q hn) | exact fq s rfl | refine ⟨⟨_,rfl,?_⟩,?_⟩)) : p := h q hn s
theorem wTB {p : Prop} (h : p := by repeat' (first | exact trivial | exact az rfl | exact dj (Nat.le_refl _) rfl | refine ⟨⟨_,rfl,?_⟩,?_⟩)) : p := h
theorem wTA {p : Prop} (h : p := by repeat' (first | exact rfl | exact az rfl | exact dj (Nat.le_refl _) rfl | refine ⟨_,_,rfl,?_,?_⟩)) : p := h
theorem wRB {p : Prop} (h : p := by repeat' (first | exact trivial | exact az rfl | exact aP rfl | refine ⟨⟨_,rfl,?_⟩,?_⟩)) : p := h
theorem wRA {p : Prop} (h : p := by repeat' (first | exact rfl | exact az rfl | exact aP rfl | refine ⟨_,_,rfl,?_,?_⟩)) : p := h
theorem JB {p:Prop}   (h:p:=by repeat' (first | exact rfl | exact az rfl | exact dR rfl | exact eM rfl | exact sH _ | exact dj (Nat.le_refl _) rfl | exact dj (Nat.le_succ _) rfl | refine ⟨_,_,rfl,?_,?_⟩)):p:=h 
theorem Ea {p:Prop} {P0:Prop} (x0:P0) (h:P0->p:=by intro x0;repeat' (first | exact rfl | exact az rfl | exact aP x0 | exact dR x0 | exact fq x0 rfl | exact eh x0 | exact eM x0 | exact aP (congrArg Nat.cast x0) | exact az x0 | exact fZ x0 | exact x0 | exact dR rfl | exact eM rfl | exact sH _ | exact dj (Nat.le_refl _) rfl | exact dj (Nat.le_succ _) rfl | refine ⟨_,_,rfl,?_,?_⟩)):p:=h x0
theorem Vo {p:Prop} {P0:Prop} {P1:Prop} (x0:P0) (x1:P1) (h:P0->P1->p:=by intro x0 x1;repeat' (first | exact rfl | exact az rfl | exact aP x0 | exact dR x0 | exact fq x0 rfl | exact eh x0 | exact eM x0 | exact aP (congrArg Nat.cast x0) | exact az x0 | exact fZ x0 | exact x0 | exact aP x1 | exact dR x1 | exact fq x1 rfl | exact eh x1 | exact eM x1 | exact aP (congrArg Nat.cast x1) | exact az x1 | exact fZ x1 | exact x1 | exact dR rfl | exact eM rfl | exact sH _ | exact dj (Nat.le_refl _) rfl | exact dj (Nat.le_succ _) rfl | refine ⟨_,_,rfl,?_,?_⟩)):p:=h x0 x1
theorem wA3 {p:Prop} {P0:Prop} {P1:Prop} {P2:Prop} (x0:P0) (x1:P1) (x2:P2) (h:P0->P1->P2->p:=by intro x0 x1 x2;repeat' (first | exact rfl | exact az rfl | exact aP x0 | exact dR x0 | exact fq x0 rfl | exact eh x0 | exact eM x0 | exact aP (congrArg Nat.cast x0) | exact az x0 | exact fZ x0 | exact x0 | exact aP x1 | exact dR x1 | exact fq x1 rfl | exact eh x1 | exact eM x1 | exact aP (congrArg Nat.cast x1) | exact az x1 | exact fZ x1 | exact x1 | exact aP x2 | exact dR x2 | exact fq x2 rfl | exact eh x2 | exact eM x2 | exact aP (congrArg Nat.cast x2) | exact az x2 | exact fZ x2 | exact x2 | exact dR rfl | exact eM rfl | exact sH _ | exact dj (Nat.le_refl _) rfl | exact dj (Nat.le_succ _) rfl | refine ⟨_,_,rfl,?_,?_⟩)):p:=h x0 x1 x2
theorem vb {p:Prop}   (h:p:=by repeat' (first | exact trivial | exact az rfl | exact dj (Nat.le_refl _) rfl | exact dj (Nat.le_succ _) rfl | exact aP rfl | refine ⟨⟨_,rfl,?_⟩,?_⟩)):p:=h 
theorem gv {p:Prop} {P0:Prop} (x0:P0) (h:P0->p:=by intro x0;repeat' (first | exact trivial | exact az rfl | exact aP x0 | exact dR x0 | exact fq x0 rfl | exact eh x0 | exact eM x0 | exact aP (congrArg Nat.cast x0) | exact az x0 | exact fZ x0 | exact x0 | exact dj (Nat.le_refl _) rfl | exact dj (Nat.le_succ _) rfl | exact aP rfl | refine ⟨⟨_,rfl,?_⟩,?_⟩)):p:=h x0
theorem re {p:Prop} {P0:Prop} {P1:Prop} (x0:P0) (x1:P1) (h:P0->P1->p:=by intro x0 x1;repeat' (first | exact trivial | exact az rfl | exact aP x0 | exact dR x0 | exact fq x0 rfl | exact eh x0 | exact eM x0 | exact aP (congrArg Nat.cast x0) | exact az x0 | exact fZ x0 | exact x0 | exact aP x1 | exact dR x1 | exact fq x1 rfl | exact eh x1 | exact eM x1 | exact aP (congrArg Nat.cast x1) | exact az x1 | exact fZ x1 | exact x1 | exact dj (Nat.le_refl _) rfl | exact dj (Nat.le_succ _) rfl | exact aP rfl | refine ⟨⟨_,rfl,?_⟩,?_⟩)):p:=h x0 x1
theorem wB3 {p:Prop} {P0:Prop} {P1:Prop} {P2:Prop} (x0:P0) (x1:P1) (x2:P2) (h:P0->P1->P2->p:=by intro x0 x1 x2;repeat' (first | exact trivial | exact az rfl | exact aP x0 | exact dR x0 | exact fq x0 rfl | exact eh x0 | exact eM x0 | exact aP (congrArg Nat.cast x0) | exact az x0 | exact fZ x0 | exact x0 | exact aP x1 | exact dR x1 | exact fq x1 rfl | exact eh x1 | exact eM x1 | exact aP (congrArg Nat.cast x1) | exact az x1 | exact fZ x1 | exact x1 | exact aP x2 | exact dR x2 | exact fq x2 rfl | exact eh x2 | exact eM x2 | exact aP (congrArg Nat.cast x2) | exact az x2 | exact fZ x2 | exact x2 | exact dj (Nat.le_refl _) rfl | exact dj (Nat.le_succ _) rfl | exact aP rfl | refine ⟨⟨_,rfl,?_⟩,?_⟩)):p:=h x0 x1 x2
theorem wB4 {p:Prop} {P0:Prop} {P1:Prop} {P2:Prop} {P3:Prop} (x0:P0) (x1:P1) (x2:P2) (x3:P3) (h:P0->P1->P2->P3->p:=by intro x0 x1 x2 x3;repeat' (first | exact trivial | exact az rfl | exact aP x0 | exact dR x0 | exact fq x0 rfl | exact eh x0 | exact eM x0 | exact aP (congrArg Nat.cast x0) | exact az x0 | exact fZ x0 | exact x0 | exact aP x1 | exact dR x1 | exact fq x1 rfl | exact eh x1 | exact eM x1 | exact aP (congrArg Nat.cast x1) | exact az x1 | exact fZ x1 | exact x1 | exact aP x2 | exact dR x2 | exact fq x2 rfl | exact eh x2 | exact eM x2 | exact aP (congrArg Nat.cast x2) | exact az x2 | exact fZ x2 | exact x2 | exact aP x3 | exact dR x3 | exact fq x3 rfl | exact eh x3 | exact eM x3 | exact aP (congrArg Nat.cast x3) | exact az x3 | exact fZ x3 | exact x3 | exact dj (Nat.le_refl _) rfl | exact dj (Nat.le_succ _) rfl | exact aP rfl | refine ⟨⟨_,rfl,?_⟩,?_⟩)):p:=h x0 x1 x2 x3
theorem bB {p:Prop}   (h:p:=by repeat' (first | exact rfl | exact trivial | exact Or.inr (Or.inl ⟨_,rfl⟩) | exact Or.inr ⟨_,rfl⟩ | exact Or.inl ⟨rfl,rfl⟩ | exact Or.inl rfl | refine Or.inr ⟨_,_,rfl,Nat.zero_le _,rfl,?_⟩ | refine ⟨_,_,rfl,?_,?_⟩ | refine ⟨_,rfl,?_⟩ | exact ⟨nL rfl,rfl⟩ | refine Or.inr (Or.inr (Or.inr ⟨_,_,rfl,?_⟩)) | exact Or.inl rfl | refine Or.inr ?_)):p:=h 
theorem ug {p:Prop} {P0:Prop} (x0:P0) (h:P0->p:=by intro x0;repeat' (first | exact rfl | exact trivial | exact Or.inr (Or.inl ⟨_,rfl⟩) | exact Or.inr ⟨_,rfl⟩ | exact Or.inl ⟨rfl,rfl⟩ | exact Or.inl rfl | refine Or.inr ⟨_,_,rfl,Nat.zero_le _,rfl,?_⟩ | refine ⟨_,_,rfl,?_,?_⟩ | refine ⟨_,rfl,?_⟩ | exact congrArg (fun z=>DV.v (.int .i64 z)) x0 | exact congrArg (fun z=>DV.v (.int .i64 z)) (congrArg Nat.cast x0) | exact congrArg (fun b=>DV.v (.bool b)) x0 | exact x0 | exact Or.inr (Or.inl ⟨_,x0⟩) | apply x0 | exact ⟨nL rfl,rfl⟩ | refine Or.inr (Or.inr (Or.inr ⟨_,_,rfl,?_⟩)) | exact Or.inl rfl | refine Or.inr ?_)):p:=h x0
theorem wC2 {p:Prop} {P0:Prop} {P1:Prop} (x0:P0) (x1:P1) (h:P0->P1->p:=by intro x0 x1;repeat' (first | exact rfl | exact trivial | exact Or.inr (Or.inl ⟨_,rfl⟩) | exact Or.inr ⟨_,rfl⟩ | exact Or.inl ⟨rfl,rfl⟩ | exact Or.inl rfl | refine Or.inr ⟨_,_,rfl,Nat.zero_le _,rfl,?_⟩ | refine ⟨_,_,rfl,?_,?_⟩ | refine ⟨_,rfl,?_⟩ | exact congrArg (fun z=>DV.v (.int .i64 z)) x0 | exact congrArg (fun z=>DV.v (.int .i64 z)) (congrArg Nat.cast x0) | exact congrArg (fun b=>DV.v (.bool b)) x0 | exact x0 | exact Or.inr (Or.inl ⟨_,x0⟩) | apply x0 | exact congrArg (fun z=>DV.v (.int .i64 z)) x1 | exact congrArg (fun z=>DV.v (.int .i64 z)) (congrArg Nat.cast x1) | exact congrArg (fun b=>DV.v (.bool b)) x1 | exact x1 | exact Or.inr (Or.inl ⟨_,x1⟩) | apply x1 | exact ⟨nL rfl,rfl⟩ | refine Or.inr (Or.inr (Or.inr ⟨_,_,rfl,?_⟩)) | exact Or.inl rfl | refine Or.inr ?_)):p:=h x0 x1
theorem iX {α:Type _} {P:α->Prop} {cs:α} {i:Int} {l:List α} (g:l[i.toNat]? = some cs) (k:P cs) (h:0<=i:=by omega):∃ cs,(0<=i/\l[i.toNat]? = some cs)/\P cs:=⟨cs,⟨h,g⟩,k⟩
theorem lI {X:Ctx} {st:St} {k:List It} {c:Code} (I:Nat->St->Prop) {j0:Nat} {kP:St} (h0:I j0 kP) (hw:pz X.n0 X.m0 st kP)
 (hr:∀ j s,I j s->go X 4000 (.code c :: .GX (fun s'=>∃ D7,pz X.n0 X.m0 s' D7/\∃ j',j' < j/\I j' D7) :: k) s):tY X c k st:=cH I j0 kP hw h0 hr
theorem lJ {X:Ctx} {st:St} {k:List It} {c:Code} (S:Nat->St) (n:Nat) (hw:pz X.n0 X.m0 st (S 0))
 (hr:∀ e,e<=n->go X 4000 (.code c :: .GX (fun s'=>∃ D7,pz X.n0 X.m0 s' D7/\∃ j',j' < n - e/\∃ e:Nat,D7=S e/\e<=n/\j'=n - e) :: k) (S e)):tY X c k st:=cH (fun j st=>∃ e:Nat,st=S e/\e<=n/\j=n - e) (n - 0) (S 0) hw ⟨0,rfl,Nat.zero_le _,rfl⟩ fun j s h=>by
 obtain ⟨e,rfl,he,rfl⟩:=h;exact hr e he
theorem dP {a b : Bool} (h : a = b) : DV.v (.bool a) = .v (.bool b) := h ▸ rfl
theorem Eb {a b : Int} (h : a = b) : DV.v (.int .i64 a) = .v (.int .i64 b) := h ▸ rfl
theorem dg {n0 m0 : Nat} {st st' : St} (h : lO st'.bx.length st'.tk.length st'.tk st.sl st'.sl) (h1 : ∃ r,st.bx = st'.bx ++ r := by exact ⟨_,rfl⟩) (h2 : WeLL st'.bx.length st'.tk.length st'.tk st'.bx st'.bx := by exact wA) (h3 : st.tk = st'.tk := by exact rfl) (h4 : Nat.ble n0 st'.bx.length = true := by exact rfl) (h5 : Nat.ble m0 st'.tk.length = true := by exact rfl) : pz n0 m0 st st' := Cf h1 h2 h3 h4 h5 h
theorem kD {n0 m0 : Nat} {st st' : St} (n : Nat) (h2 : WeLL n st'.tk.length st'.tk (st.bx.take n) st'.bx) (h : lO n st'.tk.length st'.tk st.sl st'.sl) (hn : Nat.ble n st.bx.length = true := by exact rfl) (h3 : st.tk = st'.tk := by exact rfl) (h4 : Nat.ble n0 n = true := by exact rfl) (h5 : Nat.ble m0 st'.tk.length = true := by exact rfl) : pz n0 m0 st st' := Xu n hn h2 h3 h4 h5 h
abbrev aJ (k : Nat) (n : Int) : Nat × Sl := (k,⟨[],.v (.int .i64 n)⟩)
abbrev Oq (k : Nat) (b : Bool) : Nat × Sl := (k,⟨[],.v (.bool b)⟩)
abbrev bq (k i : Nat) : Nat × Sl := (k,⟨[],.loc i 0⟩)
abbrev wD (k : Nat) (c : List DV) : Nat × Sl := (k,⟨[],.pt c 0⟩)
abbrev dH (k e : Nat) (l : List (List DV)) : Nat × Sl := (k,⟨[],.sl e l none⟩)
end Dv
end Go.Proofs.YtfdedoiiahbnnaaGreat
namespace Go.Proofs.YtfdedoiiahbnnaaGreat
namespace Dv
open Go
section
variable {P:Program} {ops:Array Oper} {C:World->Prop} {Q:Act->World->Prop} {W:Nat->Bool} {π:Nat->Nat}
theorem aaz {o:Oper} {a:Act} {w:World} {K:Act->World->Prop} (h:wq P o a w K):∃ v w',K (a.put o.dst v) w':=by
 unfold wq at h;split at h
 ·exact ⟨_,_,h⟩
 ·exact ⟨_,_,h⟩
 ·obtain ⟨e,w',fr,⟨v,_,hv⟩,_⟩:=h [];exact ⟨v,w',hv⟩
 ·exact h.elim
theorem Xv {x y:Oper} {v:Value} (ZF:x.apart ops y=true) (hs:∀ cs b,y.op ≠ .select cs b) {a:Act} {w:World} {K:Act->World->Prop} :
  wq P y (a.put x.dst v) w K↔wq P y a w (fun a' w'=>K (a'.put x.dst v) w'):=by
 obtain ⟨h1,h2,h3⟩:=Oper.apart_spec ZF;unfold wq;rw [execOp_put y hs a x.dst v h1];have hc:∀ u,(a.put x.dst v).put y.dst u=(a.put y.dst u).put x.dst v:=fun u=>Act.put_comm a v u h2
 cases (execOp a.eval y).run P w with
 | halt h w'=>rfl
 | ok n w'=>cases n<;>simp [hc]
def Yl (P:Program) (ops:Array Oper) (C:World->Prop) (o:Oper) (v:Value) (a:Act):Prop:=
 (Region.wanted o (yielded ops a.tmps)=true/\∀ w,(isL o.op=true->C w)->(execOp a.eval o).run P w = .ok (.value v) w) ∨
 (Region.wanted o (yielded ops a.tmps)=false/\v=undef)
theorem Yl.same {x y:Oper} {v u:Value} (ZF:x.apart ops y=true) (hs:∀ cs b,y.op ≠ .select cs b) {a:Act}:Yl P ops C y v (a.put x.dst u)↔Yl P ops C y v a:=by
 obtain ⟨h1,h2,h3⟩:=Oper.apart_spec ZF;unfold Yl;rw [execOp_put y hs a x.dst u h1,wanted_put y a x.dst u h1]
def dQ (P:Program) (ops:Array Oper) (o:Oper) (a:Act) (w:World) (K:Act->World->Prop):Prop:=
 if Region.wanted o (yielded ops a.tmps)=true then wq P o a w K else K (a.put o.dst undef) w
theorem eN {o:Oper} {a:Act} {w:World} {K K':Act->World->Prop} (hk:∀ a w,K a w->K' a w) (h:dQ P ops o a w K):dQ P ops o a w K':=by grind [dQ,kM]
theorem sI {x y:Oper} {v:Value} (ZF:x.apart ops y=true) (hs:∀ cs b,y.op ≠ .select cs b) {a:Act} {w:World} {K:Act->World->Prop} :
  dQ P ops y (a.put x.dst v) w K↔dQ P ops y a w (fun a' w'=>K (a'.put x.dst v) w'):=by
 obtain ⟨h1,h2,h3⟩:=Oper.apart_spec ZF;unfold dQ;rw [wanted_put y a x.dst v h1];split
 ·exact Xv ZF hs
 ·rw [Act.put_comm a v undef h2]
theorem Ot {o:Oper} {a:Act} {w:World} {K:Act->World->Prop} (h:dQ P ops o a w K):∃ v w',K (a.put o.dst v) w':=by grind [dQ,aaz]
theorem qb {o:Oper} {a:Act} {w:World} {K:Act->World->Prop} (h:dQ P ops o a w K):dQ P ops o a w (fun a' w'=>K a' w' /\ ∃ u,a'=a.put o.dst u):=by grind [dQ,wq]
theorem kQ {o:Oper} {a:Act} {w:World} {v:Value} {K:Act->World->Prop} (hy:Yl P ops C o v a) (hc:isL o.op=true->C w) (hk:K (a.put o.dst v) w):dQ P ops o a w K:=by
 unfold dQ;rcases hy with ⟨hw,hv⟩ | ⟨hw,rfl⟩
 ·grind [wq]
 ·rw [ag (by simp [hw])];exact hk
theorem nW {o:Oper} {a:Act} {w:World} {v:Value} {K:Act->World->Prop} (hy:Yl P ops C o v a) (hc:isL o.op=true->C w) (h:dQ P ops o a w K):K (a.put o.dst v) w:=by
 unfold dQ at h;rcases hy with ⟨hw,hv⟩ | ⟨hw,rfl⟩
 ·grind [wq]
 ·rw [ag (by simp [hw])] at h;exact h
def runT (P:Program) (ops:Array Oper) (W:Nat->Bool) (C:World->Prop) (Q:Act->World->Prop):List Nat->Act->World->Prop
 | [],a,w=>Q a w
 | i :: r,a,w=>
  match ops[i]? with
  | none=>False
  | some o=>
   if isE o.op=true then dQ P ops o a w fun a' w'=>(W i=false->C w->C w')/\runT P ops W C Q r a' w'
   else ∃ v,Yl P ops C o v a/\(isL o.op=true->C w)/\runT P ops W C Q r (a.put o.dst v) w
def pK (ops:Array Oper) (W:Nat->Bool) (j i:Nat):Bool:=
 match ops[j]?,ops[i]? with
 | some x,some y=>x.apart ops y && y.apart ops x && !(isE x.op && isE y.op) && !(isL x.op && W i)
 | _,_=>false
def Ou (ops:Array Oper) (l:List Nat):Prop:=∃ i o,i∈l/\ops[i]? = some o/\isL o.op=true
theorem gA {j i:Nat} {x y:Oper} (h:pK ops W j i=true) (hj:ops[j]? = some x) (hi:ops[i]? = some y) :
  x.apart ops y=true/\y.apart ops x=true/\¬ (isE x.op=true/\isE y.op=true)/\¬ (isL x.op=true/\W i=true):=by
 unfold pK at h;rw [hj,hi] at h;simp only [bg,Bool.not_eq_true',Bool.and_eq_false_iff] at h;refine ⟨h.1.1.1,h.1.1.2,?_,?_⟩
 ·grind
 ·grind
theorem qc (jE:∀ (j:Nat) (o:Oper) cs b,ops[j]? = some o->o.op ≠ .select cs b) {i:Nat} {o:Oper} (hi:ops[i]? = some o) (hR:isE o.op=false) :
  ∀ (rem:List Nat) (a:Act) (w:World),runT P ops W C Q rem a w->i∈rem->(∀ j∈rem,j≠i->π j < π i->pK ops W j i=true)->rem.Pairwise (fun a b=>π a < π b)->∃ v,Yl P ops C o v a
 | [],_,_,_,hm,_,_=>by cases hm
 | h :: rem,a,w,hr,hm,Lr,hp=>by
  simp only [runT] at hr;by_cases NO:h=i
  ·grind
  ·have mA:i∈rem:=by grind
   have aE:π h < π i:=(List.pairwise_cons.1 hp).1 i mA;split at hr
   ·exact hr.elim
   ·rename_i x hx;obtain ⟨Vp,ap2,_,_⟩:=gA (Lr h (by simp) NO aE) hx hi;have ih:=fun a w hr=>qc jE hi hR rem a w hr mA (fun j hj=>Lr j (fA _ hj)) (List.pairwise_cons.1 hp).2
    grind [Ot,Yl.same]
theorem zX {h:Nat} {rem:List Nat} (hl:Ou ops rem):Ou ops (h :: rem):=by
 obtain ⟨i,o,hm,ho,hL⟩:=hl;exact ⟨i,o,fA _ hm,ho,hL⟩
theorem kg (jE:∀ (j:Nat) (o:Oper) cs b,ops[j]? = some o->o.op ≠ .select cs b) (SC:∀ j i x y,π j < π i->ops[i]? = some x->ops[j]? = some y->isL x.op=true->W j=false) {i:Nat} {o:Oper} (hi:ops[i]? = some o) :
  ∀ (rem:List Nat) (a:Act) (w:World),(Ou ops rem->C w)->runT P ops W C Q rem a w->i∈rem->(∀ j∈rem,j≠i->π j < π i->pK ops W j i=true)->rem.Pairwise (fun a b=>π a < π b) ->
   dQ P ops o a w (fun a' w'=>(W i=false->C w->C w')/\runT P ops W C Q (rem.erase i) a' w')
 | [],_,_,_,_,hm,_,_=>by cases hm
 | h :: rem,a,w,hC,hr,hm,Lr,hp=>by
  by_cases NO:h=i
  ·grind [runT,kQ]
  ·have mA:i∈rem:=by grind
   have aE:π h < π i:=(List.pairwise_cons.1 hp).1 i mA;have zx:=(List.pairwise_cons.1 hp).2;rw [List.erase_cons_tail (sU NO)];have hr0:=hr;simp only [runT] at hr;split at hr
   ·exact hr.elim
   ·rename_i x hx;obtain ⟨Vp,ap2,hEE,hLW⟩:=gA (Lr h (by simp) NO aE) hx hi;have hsx:=fun cs b=>jE h x cs b hx;have Vq:=fun cs b=>jE i o cs b hi;have aaB:∀ j∈rem,j≠i->π j < π i->pK ops W j i=true:=fun j hj=>Lr j (fA _ hj);split at hr
    ·-- the head has an effect: so o has none
     rename_i hEx;have hRo:isE o.op=false:=by grind
     obtain ⟨v,hy⟩:=qc (π:=π) jE hi hRo (h :: rem) a w hr0 hm Lr hp;have Xw:isL o.op=true->C w:=fun hL=>hC ⟨i,o,hm,hi,hL⟩;refine kQ hy Xw ⟨fun _ h=>h,?_⟩;simp only [runT,hx,hEx,if_true];refine (sI ap2 hsx).2 ?_;refine eN ?_ (qb hr);rintro a' w' ⟨⟨Ov,oP⟩,u,rfl⟩;refine ⟨Ov,?_⟩
     have hC':Ou ops rem->C w':=by
      intro hl;have wE:=hl;obtain ⟨l,z,hlm,hz,hL⟩:=hl;exact Ov (SC h l z x ((List.pairwise_cons.1 hp).1 l hlm) hz hx hL) (hC (zX wE))
     have ih:=kg jE SC hi rem _ w' hC' oP mA aaB zx;have iv:=(Yl.same (u:=u) Vp Vq).2 hy
     grind [nW]
    ·rename_i hEx;obtain ⟨v,hy,hc,oP⟩:=hr;have ih:=kg jE SC hi rem (a.put x.dst v) w (fun hl=>hC (zX hl)) oP mA aaB zx;refine eN ?_ (qb ((sI Vp Vq).1 ih))
     grind [runT,Yl.same]
def ordB (ops:Array Oper):Nat->Nat->Nat->Bool
 | 0,_,_=>false
 | n + 1,j,i=>
  match ops[i]? with
  | some o=>o.after.toList.any fun e=>Region.binds .any e && (Nat.beq e.on j || ordB ops n j e.on)
  | none=>false
def vc (ops:Array Oper) (W:Nat->Bool) (π:Nat->Nat):Bool:=
 Region.noSelect ops &&
 (List.range ops.size).all fun i=>
  match ops[i]? with
   | some o=>o.after.toList.all (fun e=>!Region.binds .any e || (Nat.blt (π e.on) (π i) && Nat.blt e.on ops.size)) && (!isL o.op || (List.range ops.size).all fun j=>!Nat.blt (π j) (π i) || !W j)
   | none=>false
def Ec (ops:Array Oper) (W:Nat->Bool) (π:Nat->Nat) (ex:Nat->Nat->Bool):Bool:=
 (List.range ops.size).all fun i=>(List.range ops.size).all fun j=>!Nat.blt (π j) (π i) || ex j i || ordB ops ops.size j i || pK ops W j i
def aaC:Nat->Nat->Bool:=fun _ _=>false
def Hm (ops:Array Oper) (W:Nat->Bool):Bool:=vc ops W (fun i=>i) && Ec ops W (fun i=>i) aaC
def Dn (ops:Array Oper) (bi:Array Bool):Prop:=
 ∀ i o,ops[i]? = some o->bi.getD i true=true->∀ e∈o.after,Region.binds .any e=true->bi.getD e.on false=true
theorem nX {bi:Array Bool} (hd:Dn ops bi):∀ (n:Nat) (j i:Nat) (o:Oper),ops[i]? = some o->(∀ e∈o.after,Region.binds .any e=true->bi.getD e.on false=true)->ordB ops n j i=true->bi.getD j false=true
 | 0,j,i,o,_,_,h=>by simp [ordB] at h
 | n + 1,j,i,o,ho,iV,h=>by
  simp only [ordB,ho,List.any_eq_true,bg,Bool.or_eq_true] at h;obtain ⟨e,he,hb,hj⟩:=h;have Xx:e∈o.after:=sU he;have h1:=iV e Xx hb;rcases hj with hj | hj
  ·have:e.on=j:=sU hj;rw [<- this];exact h1
  ·cases Xy:ops[e.on]? with
   | none=>
    cases n with
    | zero=>simp [ordB] at hj
    | succ n=>simp [ordB,Xy] at hj
   | some o'=>
    have hg:bi.getD e.on true=true:=by grind
    exact nX hd n j e.on o' Xy (hd e.on o' Xy hg) hj
theorem Cg (hc:vc ops W π=true):∀ j i x y,π j < π i->ops[i]? = some x->ops[j]? = some y->isL x.op=true->W j=false:=by
 simp only [vc,bg,List.all_eq_true,List.mem_range] at hc;intro j i x y Xh hx hy hL;have hj:=(Array.getElem?_eq_some_iff.1 hy).1;have:=hc.2 i (Array.getElem?_eq_some_iff.1 hx).1;simp only [hx,bg,Bool.or_eq_true,hL,Bool.not_true,Bool.false_eq_true,false_or,List.all_eq_true,List.mem_range,Bool.not_eq_true'] at this;rcases this.2 j hj with h1 | h1
 ·have:¬ Nat.blt (π j) (π i)=true:=by simp [h1]
  simp at this;omega
 ·exact h1
theorem zY (hc:vc ops W π=true):∀ i x,ops[i]? = some x->∀ e∈x.after,Region.binds .any e=true->π e.on < π i/\e.on < ops.size:=by
 simp only [vc,bg,List.all_eq_true,List.mem_range] at hc;intro i x hx e he hb;have:=hc.2 i (Array.getElem?_eq_some_iff.1 hx).1;simp only [hx,bg,List.all_eq_true,Bool.or_eq_true] at this;have h2:=this.1 e (sU he);rw [hb] at h2;simpa using h2
theorem Ee (hc:vc ops W π=true):∀ (j:Nat) (o:Oper) cs b,ops[j]? = some o->o.op ≠ .select cs b:=by
 simp only [vc,bg] at hc;exact Region.noSelect_spec hc.1
theorem Ch:∀ {l:List Nat},l.Pairwise (fun a b=>π a < π b)->∀ {x y:Nat},x∈l->y∈l->x≠y->π x < π y∨π y < π x
 | [],_,x,y,hx,_,_=>by cases hx
 | h :: r,hp,x,y,hx,hy,bo=>by
  have zx:=List.pairwise_cons.1 hp;rcases dM hx with e1 | e1
  ·grind
  ·rcases dM hy with e2 | e2
   ·subst e2;exact .inr (zx.1 _ e1)
   ·exact Ch zx.2 e1 e2 bo
theorem qd {Q':Exit->Act->World->Prop} (ex:Nat->Nat->Bool) (hcO:vc ops W π=true) (hcS:Ec ops W π ex=true) (hQ:∀ a w,Q a w->Q' .normal a w):∀ (lP:Nat) (bi:Array Bool) (rem:List Nat) (a:Act) (w:World),
  bi.size=ops.size->Dn ops bi->(∀ i,i∈rem↔i < ops.size/\bi.getD i true=false)->rem.Pairwise (fun a b=>π a < π b)->rem.length<=lP->(∀ j∈rem,∀ i∈rem,ex j i=false)->(Ou ops rem->C w)->runT P ops W C Q rem a w ->
   wpAny P .any ops Q' lP bi a w:=by
 have jE:=Ee hcO;have SC:=Cg hcO;have Ow:=zY hcO;simp only [Ec,List.all_eq_true,List.mem_range,Bool.or_eq_true,Bool.not_eq_true'] at hcS;intro lP
 induction lP with
 | zero=>
  intro bi rem a w di hdn vd hp hlen hex hC hr;have:rem=[]:=List.length_eq_zero_iff.1 (by omega);subst this;refine ⟨?_,hQ _ _ hr⟩;rw [List.eq_nil_iff_forall_not_mem];intro i hi;have:=(mem_ready.1 hi)
  grind
 | succ lP ih=>
  intro bi rem a w di hdn vd hp hlen hex hC hr
  have Xz:∀ i,i∈Region.ready .any ops bi->i∈rem:=by
   intro i hi;obtain ⟨h1,o,ho,_⟩:=mem_ready.1 hi
   grind
  refine ⟨fun h0=>?_,fun i hi=>?_⟩
  ·cases rem with
   | nil=>exact hQ _ _ hr
   | cons h rem=>
    have hh:=(vd h).1 (by simp);have hx:ops[h]? = some ops[h]:=Array.getElem?_eq_getElem hh.1
    have:h∈Region.ready .any ops bi:=by
     refine mem_ready.2 ⟨hh.2,_,hx,fun e he hb=>?_⟩;obtain ⟨aE,Ls⟩:=Ow h _ hx e he hb;cases hg:bi.getD e.on false
     ·have Vr:bi.getD e.on true=false:=by grind
      have hm:=(vd e.on).2 ⟨by omega,Vr⟩;rcases dM hm with e1 | e1
      ·rw [e1] at aE;omega
      ·have:=(List.pairwise_cons.1 hp).1 _ e1;omega
     ·rfl
    rw [h0] at this;cases this
  ·have ve:=Xz i hi;obtain ⟨DB,o,ho,iV⟩:=mem_ready.1 hi;have nB:=(Array.getElem?_eq_some_iff.1 ho).1
   have Lr:∀ j∈rem,j≠i->π j < π i->pK ops W j i=true:=by
    intro j hj _ aE;rcases hcS i nB j ((vd j).1 hj).1 with ((h1 | h1) | h1) | h1
    ·have:¬ Nat.blt (π j) (π i)=true:=by simp [h1]
     simp at this;omega
    ·rw [hex j hj i ve] at h1;cases h1
    ·grind [nX]
    ·exact h1
   have bp:=kg jE SC ho rem a w hC hr ve Lr hp;have hnd:rem.Nodup:=qN hp
   have key:∀ a' w',((W i=false->C w->C w')/\runT P ops W C Q (rem.erase i) a' w')->wpAny P .any ops Q' lP (bi.setIfInBounds i true) a' w':=by
    rintro a' w' ⟨Ov,oP⟩;refine ih (bi.setIfInBounds i true) (rem.erase i) a' w' (by simp [di]) ?_ ?_ (hp.sublist List.erase_sublist) (by rw [List.length_erase_of_mem ve];omega) (fun j hj i hi=>hex j (List.mem_of_mem_erase hj) i (List.mem_of_mem_erase hi)) ?_ oP
    ·intro k x hx hk e he hb;by_cases ue:k=i
     ·subst ue;rw [ho] at hx;simp only [oI] at hx;subst hx;exact getD_set_true (iV e he hb)
     ·rw [getD_set_ne true (Ne.symm ue)] at hk;exact getD_set_true (hdn k x hx hk e he hb)
    ·intro k;rw [List.Nodup.mem_erase_iff hnd];by_cases ue:k=i
     ·subst ue;simp [di,nB]
     ·rw [getD_set_ne true (Ne.symm ue)]
      grind
    ·rintro ⟨l,z,hl,hz,hL⟩;have wE:=List.mem_of_mem_erase hl;have bo:l≠i:=fun e=>by subst e;exact (List.Nodup.mem_erase_iff hnd).1 hl |>.1 rfl
     have XA:=hC ⟨l,z,wE,hz,hL⟩;refine Ov ?_ XA;rcases Nat.lt_or_ge (π i) (π l) with h1 | h1
     ·exact SC i l z o h1 hz ho hL
     ·have h0:π l≠π i:=by
       intro he;rcases Ch hp wE ve bo with h2 | h2<;>omega
      have:=Lr l wE bo (by omega);obtain ⟨_,_,_,h4⟩:=gA this hz ho
      grind
   unfold wpOp
   grind [dQ,Jw,kM]
theorem la {id:Nat} {Q':Exit->Act->World->Prop} {a:Act} {w:World} (hm:P.follows .mixedOrders=true) (hc:Hm ops W=true) (hQ:∀ a w,Q a w->Q' .normal a w)
  (hC:C w.drew) (h:runT P ops W C Q (List.range ops.size) a w.drew):(Code.region id ops true).wp P Q' a w:=by
 refine wp_region_any hm ?_;simp only [Hm,bg] at hc;refine qd (π:=fun i=>i) aaC hc.1 hc.2 hQ ops.size (Array.replicate ops.size false) (List.range ops.size) a _ (by simp) ?_ ?_ List.pairwise_lt_range (by simp) (fun _ _ _ _=>rfl) (fun _=>hC) h
 ·intro i o ho hl;have:i < ops.size:=(Array.getElem?_eq_some_iff.1 ho).1;simp [this] at hl
 ·simp_all
end
end Dv
end Go.Proofs.YtfdedoiiahbnnaaGreat
namespace Go.Proofs.YtfdedoiiahbnnaaGreat
namespace Dv
open Go Go.RowKit
structure Dr where
 ops:Array Oper
 W:Nat->Bool
 k:List It
 kP:St
 fin:Option (Bool->List (Nat × Sl)->St->Prop)
structure Dw where
 d:Dr
 E0:En
 wr:World
structure CC (E0:En) (bx:List (List DV)) (wr w:World):Prop where
 o:∀ (i:Nat) b cs,E0.β[i]? = some b->bx[i]? = some cs->cs ≠ []->w.heap[b]? = wr.heap[b]?
 c:∀ x v,E0.c x=some v->w.cell? x=some v
abbrev Dw.C (D:Dw) (w:World):Prop:=CC D.E0 D.d.kP.bx D.wr w
structure vf (E:En) (bx:List (List DV)) (w:World):Prop where
 len:E.β.length=bx.length
 dY:∀ (i:Nat) cs,bx[i]? = some cs->cs ≠ []->∃ b ty arr,E.β[i]? = some b/\w.heap[b]? = some (.cells (List.toArray arr) ty (0,0))/\RvC E cs arr
theorem Env.em {E:En} {bx:List (List DV)} {w:World} (h:Env E bx w):vf E bx w:=⟨h.len,fun i cs hi _=>h.dY i cs hi⟩
def aaD:Option (List DV)->Bool
 | some []=>true
 | _=>false
theorem S8 {o:Option (List DV)} (h:aaD o=true):o=some []:=by
 cases o with
 | none=>cases h
 | some l=>
  cases l with
  | nil=>rfl
  | cons _ _=>cases h
def Dw.wc (D:Dw) (E:En):En:=⟨D.E0.c,E.β,E.tk,E.τ⟩
structure gB (X:Ctx) (D:Dw) (c:Bool) (E:En) (s0:List (Nat × Sl)) (st:St) (a:Act) (w:World):Prop where
 rel:Rel X E st a w
 x:Ext D.E0 E
 β:∃ r,E.β=D.E0.β ++ r
 t0:∀ i x,get s0 i=some x->(Holds a.tmps x.gs->∃ v,a.tmps[i]? = some v/\Rv (D.wc E) x.s v)/\(¬ Holds a.tmps x.gs->a.tmps[i]? = some undef)
 cc:c=true->D.C w
def Dw.Q (D:Dw) (X:Ctx) (a:Act) (w:World):Prop:=
 match D.d.fin with
 | none=>kq X D.d.k .normal a w
 | some F=>∃ c E s0 st,gB X D c E s0 st a w/\F c s0 st
def delF {γ:Type _} (d:Nat):List (Nat × Sl)->(List (Nat × Sl)->γ)->γ
 | [],K=>K []
 | p :: r,K=>
  match Nat.beq p.1 d with
  | true=>delF d r K
  | false=>delF d r (fun r'=>K (p :: r'))
theorem rf {γ:Type _} (d:Nat):∀ (l:List (Nat × Sl)) (K:List (Nat × Sl)->γ),delF d l K=K (l.filter fun p=>!Nat.beq p.1 d)
 | [],K=>rfl
 | p :: r,K=>by
  simp only [delF,List.filter_cons];cases h:Nat.beq p.1 d
  ·simp only [Bool.not_false,if_true];rw [rf d r]
  ·simp only [Bool.not_true,Bool.false_eq_true,if_false];rw [rf d r K]
theorem get_filter (d:Nat):∀ (l:List (Nat × Sl)) (i:Nat) (x:Sl),get (l.filter fun p=>!Nat.beq p.1 d) i=some x->i≠d/\get l i=some x
 | [],i,x,h=>by cases h
 | (k,y) :: r,i,x,h=>by
  simp only [List.filter_cons] at h;split at h
  ·rename_i hk
   have hk:k≠d:=by
    rintro rfl;simp at hk
   simp only [dx] at h ⊢;split at h
   ·grind
   ·rename_i ue;rw [ag ue];exact get_filter d r i x h
  ·rename_i hk;have hk:k=d:=sU hk;obtain ⟨h1,h2⟩:=get_filter d r i x h
   grind [dx]
def scal:DV->Bool
 | .v _=>true
 | .ud=>true
 | .loc _ _=>true
 | .el _ _=>true
 | _=>false
def put2 (s0:List (Nat × Sl)) (st:St) (dst:Option Nat) (b:Bool) (gs:List (Nat × Bool)) (s:DV) (K:List (Nat × Sl)->St->Prop):Prop:=
 match dst with
 | none=>K s0 st
 | some d=>
  match st with
  | ⟨sl,bx,tk⟩=>
   match b || scal s with
   | true=>K ((d,⟨gs,s⟩) :: s0) ⟨(d,⟨gs,s⟩) :: sl,bx,tk⟩
   | false=>delF d s0 fun ji=>K ji ⟨(d,⟨gs,s⟩) :: sl,bx,tk⟩
def optP:Option Prop->Prop
 | some p=>p
 | none=>False
def pR (X:Ctx) (D:Dr) (c:Bool) (s0:List (Nat × Sl)) (st:St) (G:List (Nat × Bool)) (op:Op):Option (Bool × DV):=
 match !isE op && (!isL op || c) with
 | false=>none
 | true=>
  match pureT X.P X.T ⟨s0,D.kP.bx,[]⟩ G op with
  | some s=>some (true,s)
  | none=>
   match isL op with
   | true=>none
   | false=>
    match pureT X.P X.T ⟨st.sl,[],[]⟩ G op with
    | some s=>some (false,s)
    | none=>none
def eR (X:Ctx) (D:Dr) (c:Bool) (s0:List (Nat × Sl)) (st:St) (op:Op) (K:Bool->DV->Prop):Option Prop:=
 match isE op with
 | true=>none
 | false=>
  match isL op with
  | true=>
   match c with
   | true=>effR X ⟨s0,D.kP.bx,[]⟩ op (K true)
   | false=>none
  | false=>
   match effR X ⟨s0,[],[]⟩ op (K true) with
   | some p=>some p
   | none=>effR X ⟨st.sl,[],[]⟩ op (K false)
def wF (X:Ctx) (D:Dr) (c:Bool) (i:Nat) (l:List (Nat × Oper)) (f:FuncId) (args:List DV) (dst:Option Nat) (s0:List (Nat × Sl)) (st:St):Prop:=
 Go.Proofs.Enters X.P f/\((∀ p∈l,D.ops[p.1]? = some p.2)->∀ (E0:En) (wr:World),vf E0 D.kP.bx wr->∀ E a w vs,gB X ⟨D,E0,wr⟩ c E s0 st a w->RvL E args vs->Calls X.P f vs.toArray w fun e w'=>∃ v,e = .returned v /\
  (D.W i=false->CC E0 D.kP.bx wr w->CC E0 D.kP.bx wr w')/\runT X.P D.ops D.W (CC E0 D.kP.bx wr) (Dw.Q ⟨D,E0,wr⟩ X) (l.map (·.1)) (a.put dst v) w')
def OpD (X:Ctx) (D:Dr) (c:Bool) (i:Nat) (l:List (Nat × Oper)) (o:Oper) (s0:List (Nat × Sl)) (st:St):Prop:=
 (∀ p∈l,D.ops[p.1]? = some p.2)->∀ (E0:En) (wr:World),vf E0 D.kP.bx wr->∀ E a w,gB X ⟨D,E0,wr⟩ c E s0 st a w->wq X.P o a w fun a' w'=>
  (D.W i=false->CC E0 D.kP.bx wr w->CC E0 D.kP.bx wr w')/\runT X.P D.ops D.W (CC E0 D.kP.bx wr) (Dw.Q ⟨D,E0,wr⟩ X) (l.map (·.1)) a' w'
def effE (X:Ctx) (D:Dr) (c:Bool) (i:Nat) (l:List (Nat × Oper)) (o:Oper) (s0:List (Nat × Sl)) (st:St) (K:Bool->List (Nat × Sl)->St->Prop):Prop:=
 match o.op with
 | .store t x y=>
  match o.dst with
  | some _=>False
  | none=>
   match D.W i with
   | true=>optP (effC X st o (K false s0))
   | false=>
    match stObj st o.op with
    | some j=>
     match Nat.ble D.kP.bx.length j || aaD D.kP.bx[j]? with
     | true=>optP (effC X st o (K c s0))
     | false=>False
    | none=>False
 | .call cl=>
  match cl.callee with
  | .value f=>
   match rv st [] f,argsV st [] cl.args.toList with
   | some (.fn g first captured),some vs=>wF X D c i l g (first ++ vs ++ captured) o.dst s0 st
   | _,_=>False
  | _=>
   match o.dst with
   | some d=>optP (effC X st o fun st'=>delF d s0 fun ji=>K c ji st')
   | none=>False
 | _=>
  match o.dst with
  | some d=>
   match effC X st o fun st'=>
    match get st'.sl d with
    | some ⟨[],.loc j off⟩=>K c ((d,⟨[],.loc j off⟩) :: s0) st'
    | _=>delF d s0 fun ji=>K c ji st' with
   | some p=>p
   | none=>OpD X D c i l o s0 st
  | none=>False
def goD (X:Ctx) (D:Dr):Nat->Bool->List (Nat × Oper)->List (Nat × Sl)->St->Prop
 | _,c,[],s0,st=>
  match D.fin with
  | none=>go X 4000 D.k st
  | some F=>F c s0 st
 | 0,_,_ :: _,_,_=>False
 | n + 1,c,(i,o) :: r,s0,st=>
  match eV X.nt st.sl o.dst && eV X.nt s0 o.dst with
  | false=>False
  | true=>
   match o.guard with
   | none=>
    match isE o.op with
    | true=>effE X D c i r o s0 st fun c' ji st'=>goD X D n c' r ji st'
    | false=>
     match pR X D c s0 st [] o.op with
     | some (b,s)=>put2 s0 st o.dst b [] s (goD X D n c r)
     | none=>optP (eR X D c s0 st o.op fun b s=>put2 s0 st o.dst b [] s (goD X D n c r))
   | some (j,want)=>
    match gslot D.ops.toList j with
    | none=>False
    | some d=>
     match get st.sl d with
     | none=>False
     | some ⟨mz,_⟩=>
      match pR X D c s0 st ((d,want) :: mz) o.op with
      | some (b,s)=>
       match okG ((d,want) :: mz) o.dst with
       | true=>put2 s0 st o.dst b ((d,want) :: mz) s (goD X D n c r)
       | false=>False
      | none=>
       match get st.sl (lastG (d,want) mz).1 with
       | some ⟨[],.v (.bool b)⟩=>
        match mz with
        | []=>Br (b == want)
          (zq st d want fun NP=>resL d want s0 fun s2=>
           match isE o.op with
           | true=>effE X D c i r o s2 NP fun c' ji st'=>goD X D n c' r ji st'
           | false=>optP (eR X D c s2 NP o.op fun b s=>put2 s2 NP o.dst b [] s (goD X D n c r)))
          (match !isL o.op || c with
           | true=>zq st d (!want) fun NP=>resL d (!want) s0 fun s2=>put2 s2 NP o.dst true [] .ud (goD X D n c r)
           | false=>False)
        | _ :: _=>Br (b == (lastG (d,want) mz).2)
          (zq st (lastG (d,want) mz).1 (lastG (d,want) mz).2 fun NP=>resL (lastG (d,want) mz).1 (lastG (d,want) mz).2 s0 fun s2=>goD X D n c ((i,o) :: r) s2 NP)
          (zq st (lastG (d,want) mz).1 (!(lastG (d,want) mz).2) fun NP=>resL (lastG (d,want) mz).1 (!(lastG (d,want) mz).2) s0 fun s2=>goD X D n c ((i,o) :: r) s2 NP)
       | some ⟨[],.ud⟩=>
        match mz with
        | []=>
         match !isL o.op || c with
         | true=>put2 s0 st o.dst true [] .ud (goD X D n c r)
         | false=>False
        | _ :: _=>False
       | _=>False
section
variable {X:Ctx} {D:Dw} {c:Bool} {i:Nat} {s0:List (Nat × Sl)} {st:St} {E:En} {a:Act} {w:World}
theorem XB (h:Ext D.E0 E):Ext D.E0 (D.wc E):=⟨fun _ _ h=>h,h.β,h.tk⟩
theorem Hn (h:Ext D.E0 E):Ext (D.wc E) E:=⟨h.c,fun _ _ h=>h,fun k q hq=>⟨q,hq,.inl ⟨rfl,rfl⟩⟩⟩
theorem Ci {E':En} (h:Ext E E'):Ext (D.wc E) (D.wc E'):=⟨fun _ _ h=>h,h.β,h.tk⟩
theorem gB.rl0 (h:gB X D c E s0 st a w) (hD:vf D.E0 D.d.kP.bx D.wr):Rl (D.wc E) D.d.kP.bx D.C s0 a where
 tm:=h.t0
 dY:=fun i cs hi=>by
  by_cases bo:cs=[]
  ·subst bo;have aE:i < D.E0.β.length:=by rw [hD.len];exact (gS hi).1
   exact ⟨_,[],h.x.β i _ (gE aE),⟨cO _,by simp⟩,fun w' _ j u hj=>by simp at hj⟩
  ·obtain ⟨b,ty,arr,hb,hw,hc⟩:=hD.dY i cs hi bo;exact ⟨b,arr,h.x.β i b hb,hc.mono (XB h.x),fun w' hC j u hj=>by rw [cJ ((hC.o i b cs hb hi bo).trans hw)];simpa using hj⟩
 cc:=fun x v hx w' hC=>hC.c x v hx
theorem gB.rlE (h:gB X D c E s0 st a w):Rl E [] (fun w'=>∀ x v,E.c x=some v->w'.cell? x=some v) st.sl a where
 tm:=h.rel.tm
 dY:=fun i cs hi=>by simp at hi
 cc:=fun x v hx w' hC=>hC x v hx
theorem JC {s:DV} {v:Value} (hs:scal s=true) (hv:Rv E s v):Rv (D.wc E) s v:=by
 cases s<;>simp [scal] at hs
 ·unfold Rv at hv ⊢;exact hv
 ·unfold Rv at hv ⊢;exact hv
 ·unfold Rv at hv ⊢;exact hv
 ·unfold Rv at hv ⊢;exact hv
theorem iY (h:gB X D c E s0 st a w) {dst:Option Nat} (hd:(eV X.nt st.sl dst && eV X.nt s0 dst)=true) (b:Bool) (gs:List (Nat × Bool)) (s:DV) (v:Value) (Lk:∀ d,dst=some d->∀ p∈gs,p.1≠d)
  (Dy:Holds a.tmps gs->Rv E s v) (oN:b=true->Holds a.tmps gs->Rv (D.wc E) s v) (Ss:¬ Holds a.tmps gs->v=undef) {K:List (Nat × Sl)->St->Prop} (hk:put2 s0 st dst b gs s K) :
  ∃ ji st',K ji st' /\ gB X D c E ji st' (a.put dst v) w:=by
 simp only [bg] at hd;have h1:=qW h.rel hd.1 gs s v Lk Dy Ss
 cases dst with
 | none=>exact ⟨s0,st,hk,h1,h.x,h.β,h.t0,h.cc⟩
 | some d=>
  obtain ⟨sl,bx,tk⟩:=st;have XC:=hd.2;simp only [eV,bg,Nat.blt_eq] at XC
  have hold:∀ i x,i≠d->get s0 i=some x->(Holds (a.put (some d) v).tmps x.gs->∃ u,(a.put (some d) v).tmps[i]? = some u/\Rv (D.wc E) x.s u)/\(¬ Holds (a.put (some d) v).tmps x.gs->(a.put (some d) v).tmps[i]? = some undef):=by
   intro i x hi hx;simp only [Act.put];rw [Array.getElem?_setIfInBounds_ne (Ne.symm hi),lH (mI XC.2 i x hx)];exact h.t0 i x hx
  simp only [put2] at hk;split at hk
  ·rename_i hb;refine ⟨_,_,hk,h1,h.x,h.β,fun i x hx=>?_,h.cc⟩;simp only [dx] at hx;split at hx
   ·rename_i Ll;subst Ll;simp only [oI] at hx;subst hx;have h2:(a.tmps.setIfInBounds d v)[d]? = some v:=by simp [Array.getElem?_setIfInBounds,h.rel.sz,XC.1]
    simp only [Act.put]
    grind [lH,JC]
   all_goals grind
  ·rw [rf] at hk;refine ⟨_,_,hk,h1,h.x,h.β,fun i x hx=>?_,h.cc⟩;obtain ⟨h3,h4⟩:=get_filter d s0 i x hx;exact hold i x h3 h4
theorem mO (h:gB X D c E s0 st a w) {d:Nat} {b:Bool} (hd:a.tmps[d]? = some (.bool b)):gB X D c E (s0.map (cf d b)) (st.resolve d b) a w where
 rel:=kJ h.rel hd
 x:=h.x
 β:=h.β
 t0:=by
  intro i y hy;simp only [get_map,Option.map_eq_some_iff] at hy;obtain ⟨x,hx,rfl⟩:=hy;have ht:=h.t0 i x hx;unfold cf;split
  ·rename_i hi;have nB:i=d:=sU hi;subst nB;exact ⟨fun _=>⟨_,hd,fm rfl⟩,fun hn=>(hn (aX _)).elim⟩
  ·split
   ·grind [Holds,ub,aX]
   ·have he:Holds a.tmps (x.gs.filter fun p=>p != (d,b))↔Holds a.tmps x.gs:=by
     constructor
     ·intro hh p hp;by_cases W8:p=(d,b)
      ·subst W8;exact hd
      ·exact hh p (by simp [List.mem_filter,hp,W8])
     ·intro hh p hp;exact hh p (List.mem_filter.1 hp).1
    simp only [he];exact ht
 cc:=h.cc
theorem ri {nt d:Nat} {b:Bool} {dst:Option Nat} (h:(eV nt st.sl dst && eV nt s0 dst)=true):(eV nt (st.resolve d b).sl dst && eV nt (s0.map (cf d b)) dst)=true:=by
 simp only [bg] at h ⊢;exact ⟨kK h.1,kK (st:=⟨s0,[],[]⟩) h.2⟩
theorem Ef (hD:vf D.E0 D.d.kP.bx D.wr) (h:gB X D c E s0 st a w) {G:List (Nat × Bool)} (hG:Holds a.tmps G) {o:Oper} {b:Bool} {s:DV} (hp:pR X D.d c s0 st G o.op=some (b,s)) :
  isE o.op=false/\(isL o.op=true->c=true)/\∃ v,Rv E s v/\(b=true->Rv (D.wc E) s v)/\∀ w,(isL o.op=true->D.C w)->(execOp a.eval o).run X.P w = .ok (.value v) w:=by
 unfold pR at hp;split at hp
 ·cases hp
 ·rename_i hc;simp only [bg,Bool.not_eq_true',Bool.or_eq_true] at hc;refine ⟨hc.1,fun hL=>?_,?_⟩
  ·grind
  ·split at hp
   ·rename_i s' hs;simp only [oI,Prod.mk.injEq] at hp;obtain ⟨rfl,rfl⟩:=hp;obtain ⟨v,hv,hr⟩:=fC (st:=⟨s0,D.d.kP.bx,[]⟩) X.hT (h.rl0 hD) hG hs;exact ⟨v,Rv.mono (Hn h.x) hv,fun _=>hv,hr⟩
   ·split at hp
    ·cases hp
    ·rename_i hL;split at hp
     ·rename_i s' hs;simp only [oI,Prod.mk.injEq] at hp;obtain ⟨rfl,rfl⟩:=hp;obtain ⟨v,hv,hr⟩:=fC (st:=⟨st.sl,[],[]⟩) X.hT h.rlE hG hs
      grind
     ·cases hp
theorem Ox (hD:vf D.E0 D.d.kP.bx D.wr) (h:gB X D c E s0 st a w) {o:Oper} {K:Bool->DV->Prop} (hp:optP (eR X D.d c s0 st o.op K)) :
  isE o.op=false/\(isL o.op=true->c=true)/\∃ b s v,K b s/\Rv E s v/\(b=true->Rv (D.wc E) s v)/\∀ w,(isL o.op=true->D.C w)->(execOp a.eval o).run X.P w = .ok (.value v) w:=by
 unfold eR at hp;split at hp
 ·exact hp.elim
 ·rename_i hE;refine ⟨hE,?_⟩;split at hp
  ·rename_i hL;split at hp
   ·refine ⟨fun _=>rfl,?_⟩
    cases hs:effR X ⟨s0,D.d.kP.bx,[]⟩ o.op (K true) with
    | none=>rw [hs] at hp;exact hp.elim
    | some p=>
     rw [hs] at hp;obtain ⟨s,hk,v,hv,hr⟩:=mL (st:=⟨s0,D.d.kP.bx,[]⟩) (h.rl0 hD) hs hp;exact ⟨true,s,v,hk,Rv.mono (Hn h.x) hv,fun _=>hv,hr⟩
   ·exact hp.elim
  ·rename_i hL;have kG:∀ w':World,isL o.op=true->False:=fun w' h1=>by rw [hL] at h1;cases h1
   refine ⟨fun h1=>(by rw [hL] at h1;cases h1),?_⟩;split at hp
   ·rename_i p hs;obtain ⟨s,hk,v,hv,hr⟩:=mL (st:=⟨s0,[],[]⟩) (C:=D.C) ⟨h.t0,fun i cs hi=>by simp at hi,(h.rl0 hD).cc⟩ hs hp;exact ⟨true,s,v,hk,Rv.mono (Hn h.x) hv,fun _=>hv,fun w' _=>hr w' fun h1=>(kG w' h1).elim⟩
   ·cases hs:effR X ⟨st.sl,[],[]⟩ o.op (K false) with
    | none=>rw [hs] at hp;exact hp.elim
    | some p=>
     rw [hs] at hp;obtain ⟨s,hk,v,hv,hr⟩:=mL (st:=⟨st.sl,[],[]⟩) h.rlE hs hp
     grind
theorem S9 {P:Program} {o:Oper} {K:Act->World->Prop} (h:wq P o a w K):wq P o a w fun a' w'=>K a' w' /\ ∃ u,a'=a.put o.dst u:=by grind [wq]
theorem JD (h:gB X D c E s0 st a w) {t:Option Nat} {E':En} {st':St} {a':Act} {w':World} (hs:Hg t E w E' w') (hr:Rel X E' st' a' w') (ht:∀ j,t=some j->D.E0.β.length<=j∨D.d.kP.bx[j]? = some []):D.C w->D.C w':=fun hC=>
 ⟨fun i b cs hb cx bo=>by
  have jw:=h.x.β i b hb
  rw [hs.o i _ jw fun e=>by
   rcases ht i e with h1 | h1
   ·have:=(gS hb).1;omega
   ·rw [cx] at h1;simp only [oI] at h1;exact bo h1]
  exact hC.o i b cs hb cx bo,fun x v hx=>hr.env.sub x v (hs.x.c x v (h.x.c x v hx))⟩
theorem wG (h:gB X D c E s0 st a w) {t:Option Nat} {E':En} {st':St} {w':World} {c':Bool} {ji:List (Nat × Sl)} {dst:Option Nat} {u:Value} (hs:Hg t E w E' w') (hr:Rel X E' st' (a.put dst u) w') (pJ:c'=true->D.C w')
  (ht0:∀ i x,get ji i=some x->(∃ d,dst=some d/\i=d/\scal x.s=true/\get st'.sl d=some x)∨(get s0 i=some x/\∀ d,dst=some d->i≠d)) (hd:eV X.nt s0 dst=true):gB X D c' E' ji st' (a.put dst u) w' where
 rel:=hr
 x:=by
  refine ⟨fun y v hy=>hs.x.c y v (h.x.c y v hy),fun j b hb=>hs.x.β j b (h.x.β j b hb),fun k q hq=>?_⟩;obtain ⟨q1,h1,h2⟩:=h.x.tk k q hq;obtain ⟨q2,h3,h4⟩:=hs.x.tk k q1 h1
  grind
 β:=by
  obtain ⟨r1,h1⟩:=h.β;obtain ⟨r2,h2⟩:=hs.β
  grind
 t0:=fun i x hx=>by
  rcases ht0 i x hx with ⟨d,rfl,rfl,wh,hg⟩ | ⟨hg,bo⟩
  ·have:=hr.tm _ _ hg
   grind [JC]
  ·have h1:=h.t0 i x hg
   cases dst with
   | none=>
    refine ⟨fun hh=>?_,h1.2⟩;obtain ⟨v,h2,h3⟩:=h1.1 hh;exact ⟨v,h2,Rv.mono (Ci hs.x) h3⟩
   | some d=>
    simp only [eV,bg,Nat.blt_eq] at hd;simp only [Act.put];rw [Array.getElem?_setIfInBounds_ne (Ne.symm (bo d rfl)),lH (mI hd.2 i x hg)];refine ⟨fun hh=>?_,h1.2⟩;obtain ⟨v,h2,h3⟩:=h1.1 hh;exact ⟨v,h2,Rv.mono (Ci hs.x) h3⟩
 cc:=pJ
def aaE (X:Ctx) (D:Dw) (l:List Nat) (G:Bool->List (Nat × Sl)->St->Prop):Prop:=∀ c s0 st,G c s0 st->∀ E a w,gB X D c E s0 st a w->runT X.P D.d.ops D.d.W D.C (D.Q X) l a w
theorem Ho (hD:vf D.E0 D.d.kP.bx D.wr) {l:List (Nat × Oper)} (hl:∀ p∈l,D.d.ops[p.1]? = some p.2) {G:Bool->List (Nat × Sl)->St->Prop} (hG:aaE X D (l.map (·.1)) G) {o:Oper} (hd:(eV X.nt st.sl o.dst && eV X.nt s0 o.dst)=true) (h:gB X D c E s0 st a w)
  (he:effE X D.d c i l o s0 st G):wq X.P o a w fun a' w'=>(D.d.W i=false->D.C w->D.C w')/\runT X.P D.d.ops D.d.W D.C (D.Q X) (l.map (·.1)) a' w':=by
 have zl:=hd;simp only [bg] at zl;have hlen:D.E0.β.length=D.d.kP.bx.length:=hD.len
 have core:∀ (K:St->Prop) (p:Prop) (c1:Bool),effC X st o K=some p->p->(c1=true->c=true)->(c1=true∨D.d.W i=false->∀ j,stObj st o.op=some j->D.E0.β.length<=j∨D.d.kP.bx[j]? = some []) ->
   (∀ st',K st' -> ∃ ji,G c1 ji st' /\ ∀ i x,get ji i=some x->(∃ d,o.dst=some d/\i=d/\scal x.s=true/\get st'.sl d=some x)∨(get s0 i=some x/\∀ d,o.dst=some d->i≠d)) ->
   wq X.P o a w fun a' w'=>(D.d.W i=false->D.C w->D.C w')/\runT X.P D.d.ops D.d.W D.C (D.Q X) (l.map (·.1)) a' w':=by
  intro K p c1 hp ZG JE bp hK;refine kM ?_ (S9 (mM zl.1 h.rel hp ZG));rintro a' w' ⟨⟨st',E',hk,hr,hs⟩,u,rfl⟩;refine ⟨fun hW=>JD h hs hr (bp (.inr hW)),?_⟩;obtain ⟨ji,hg,ht0⟩:=hK st' hk;exact hG c1 ji st' hg E' _ w' (wG h hs hr (fun hc=>JD h hs hr (bp (.inl hc)) (h.cc (JE hc))) ht0 zl.2)
 have Vs:(∀ t x y,o.op ≠ .store t x y)->∀ j,stObj st o.op=some j->D.E0.β.length<=j∨D.d.kP.bx[j]? = some []:=by simp_all [stObj]
 have aaF:∀ (d:Nat) (st':St),o.dst=some d->∀ i x,get (s0.filter fun p=>!Nat.beq p.1 d) i=some x->(∃ d,o.dst=some d/\i=d/\scal x.s=true/\get st'.sl d=some x)∨(get s0 i=some x/\∀ d,o.dst=some d->i≠d):=by
  intro d st' kh i x hx;obtain ⟨h1,h2⟩:=get_filter d s0 i x hx
  grind
 unfold effE at he;split at he
 ·rename_i t x y hop;split at he
  ·exact he.elim
  ·rename_i kh;have q7:∀ st':St,∀ i x,get s0 i=some x->(∃ d,o.dst=some d/\i=d/\scal x.s=true/\get st'.sl d=some x)∨(get s0 i=some x/\∀ d,o.dst=some d->i≠d):=fun st' i x hx=>.inr ⟨hx,fun d hd=>by rw [kh] at hd;cases hd⟩;split at he
   ·rename_i hW
    cases hp:effC X st o (G false s0) with
    | none=>rw [hp] at he;exact he.elim
    | some p=>
     rw [hp] at he;exact core _ p false hp he (by intro h;cases h) (by rintro (h1 | h1);cases h1;rw [hW] at h1;cases h1) fun st' hk=>⟨s0,hk,q7 st'⟩
   ·split at he
    ·rename_i j hj;split at he
     ·rename_i jk
      have jk:D.d.kP.bx.length<=j∨D.d.kP.bx[j]? = some []:=by
       rcases Bool.or_eq_true _ _ |>.mp jk with h1 | h1
       ·exact .inl (sU h1)
       ·exact .inr (S8 h1)
      cases hp:effC X st o (G c s0) with
      | none=>rw [hp] at he;exact he.elim
      | some p=>
       rw [hp] at he;exact core _ p c hp he id (fun _ j' jw=>by rw [hj] at jw;cases jw;rw [hlen];exact jk) fun st' hk=>⟨s0,hk,q7 st'⟩
     ·exact he.elim
    ·exact he.elim
 ·rename_i cl hop;split at he
  ·rename_i f vg;split at he
   ·rename_i g first captured vs hf wE
    obtain ⟨gh,Oy⟩:=he;have gY:=h.rel.rl;have e1:=bc gY hf;unfold Rv at e1;obtain ⟨l1,r1,e1,py,hr1⟩:=e1;have hargs:=gz gY (aX _) _ _ wE;obtain ⟨dst,op,ty,pos,after,gu⟩:=o;obtain ⟨callee,args,argTypes⟩:=cl;simp only at hop vg;subst hop vg
    have hr:(execOp a.eval ⟨dst,.call ⟨.value f,args,argTypes⟩,ty,pos,after,gu⟩).run X.P w = .ok (.enter g (l1 ++ args.toList.map a.eval ++ r1).toArray) w:=by
     have e3:(l1.toArray ++ args.map a.eval ++ r1.toArray)=(l1 ++ args.toList.map a.eval ++ r1).toArray:=by apply Array.ext';simp
     simp only [execOp,resolve,e1,Deferred.ofValue,Sem.run_bind,Sem.run_pure,Result.andThen_ok,invoke,e3];exact gh _ _
    unfold wq;rw [hr];exact Oy hl D.E0 D.wr hD E a w _ h ((py.append hargs).append hr1)
   ·exact he.elim
  ·split at he
   ·rename_i d kh
    cases hp:effC X st o (fun st'=>delF d s0 fun ji=>G c ji st') with
    | none=>rw [hp] at he;exact he.elim
    | some p=>
     rw [hp] at he;refine core _ p c hp he id (fun _=>Vs (fun t x y h1=>by rw [hop] at h1;cases h1)) fun st' hk=>?_;rw [rf] at hk;exact ⟨_,hk,aaF d st' kh⟩
   ·exact he.elim
 ·rename_i DC zj;split at he
  ·rename_i d kh
   cases hp:effC X st o (fun st'=>
    match get st'.sl d with
    | some ⟨[],.loc j off⟩=>G c ((d,⟨[],.loc j off⟩) :: s0) st'
    | _=>delF d s0 fun ji=>G c ji st') with
   | none=>rw [hp] at he;exact he hl D.E0 D.wr hD E a w h
   | some p=>
    rw [hp] at he;refine core _ p c hp he id (fun _=>Vs DC) fun st' hk=>?_;split at hk
    ·rename_i j off hg;refine ⟨_,hk,fun i x hx=>?_⟩;simp only [dx] at hx;split at hx
     ·rename_i Ll;simp only [oI] at hx;subst hx;exact .inl ⟨d,kh,Ll.symm,rfl,hg⟩
     all_goals grind
    ·rw [rf] at hk;exact ⟨_,hk,aaF d st' kh⟩
  ·exact he.elim
theorem gK (hD:vf D.E0 D.d.kP.bx D.wr):∀ n c l s0 st,goD X D.d n c l s0 st->(∀ p∈l,D.d.ops[p.1]? = some p.2)->∀ E a w,gB X D c E s0 st a w->runT X.P D.d.ops D.d.W D.C (D.Q X) (l.map (·.1)) a w
 | n,c,[],s0,st,hg,hl=>by
  intro E a w h;have hg:(match D.d.fin with | none=>go X 4000 D.d.k st | some F=>F c s0 st):=by cases n<;>simpa only [goD] using hg
  show D.Q X a w;unfold Dw.Q
  cases hf:D.d.fin with
  | none=>
   rw [hf] at hg;exact go_sound 4000 _ _ hg E a w h.rel
  | some F=>
   rw [hf] at hg;exact ⟨c,E,s0,st,h,hg⟩
 | 0,c,_ :: _,s0,st,hg,_=>by exact hg.elim
 | n + 1,c,(i,o) :: r,s0,st,hg,hl=>by
  intro E a w h;have ho:D.d.ops[i]? = some o:=hl (i,o) (by simp);have wE:∀ p∈r,D.d.ops[p.1]? = some p.2:=fun p hp=>hl p (fA _ hp);simp only [List.map_cons];have ih:∀ c s0 st,goD X D.d n c r s0 st->∀ E a w,gB X D c E s0 st a w->runT X.P D.d.ops D.d.W D.C (D.Q X) (r.map (·.1)) a w:=fun c s0 st hg=>gK hD n c r s0 st hg wE;have ihG:aaE X D (r.map (·.1)) (fun c s0 st=>goD X D.d n c r s0 st):=fun c s0 st hg=>ih c s0 st hg;simp only [goD,Jp,BW] at hg;split at hg
  ·exact hg.elim
  ·rename_i hd
   have fR:∀ (v:Value) ji st',isE o.op=false->Yl X.P D.d.ops D.C o v a->(isL o.op=true->c=true)->goD X D.d n c r ji st' -> gB X D c E ji st' (a.put o.dst v) w ->
     runT X.P D.d.ops D.d.W D.C (D.Q X) (i :: r.map (·.1)) a w:=by
    intro v ji st' hE hy fD zu cm;simp only [runT,ho];rw [ag (by simp [hE])];exact ⟨v,hy,fun hL=>h.cc (fD hL),ih c ji st' zu E _ w cm⟩
   have fS:∀ ji st',isE o.op=true->Region.wanted o (yielded D.d.ops a.tmps)=false->goD X D.d n c r ji st' -> gB X D c E ji st' (a.put o.dst undef) w ->
     runT X.P D.d.ops D.d.W D.C (D.Q X) (i :: r.map (·.1)) a w:=by
    intro ji st' hE hw zu cm;simp only [runT,ho];rw [ah hE];unfold dQ;rw [ag (by simp [hw])];exact ⟨fun _ h=>h,ih c ji st' zu E _ w cm⟩
   have fE:∀ ji st',isE o.op=true->Region.wanted o (yielded D.d.ops a.tmps)=true->(eV X.nt st'.sl o.dst && eV X.nt ji o.dst)=true->effE X D.d c i r o ji st' (fun c' ji st'=>goD X D.d n c' r ji st')->gB X D c E ji st' a w ->
     runT X.P D.d.ops D.d.W D.C (D.Q X) (i :: r.map (·.1)) a w:=by
    intro ji st' hE hw zl he cm;simp only [runT,ho];rw [ah hE];unfold dQ;rw [ah hw];exact Ho hD wE ihG zl cm he
   have fP:∀ ji st',Region.wanted o (yielded D.d.ops a.tmps)=true->(eV X.nt st'.sl o.dst && eV X.nt ji o.dst)=true->optP (eR X D.d c ji st' o.op fun b s=>put2 ji st' o.dst b [] s (goD X D.d n c r))->gB X D c E ji st' a w ->
     runT X.P D.d.ops D.d.W D.C (D.Q X) (i :: r.map (·.1)) a w:=by
    intro ji st' hw zl he cm;obtain ⟨hE,fD,b,s,v,hk,hv,oN,bS⟩:=Ox hD cm he;obtain ⟨s1,sj,qL,eJ⟩:=iY cm zl b [] s v (fun _ _ p hp=>by cases hp) (fun _=>hv) (fun hb _=>oN hb) (fun hn=>(hn (aX _)).elim) hk;exact fR v s1 sj hE (.inl ⟨hw,bS⟩) fD qL eJ
   have udE:∀ ji st',(eV X.nt st'.sl o.dst && eV X.nt ji o.dst)=true->gB X D c E ji st' a w->put2 ji st' o.dst true [] .ud (goD X D.d n c r)->∃ s1 sj,goD X D.d n c r s1 sj/\gB X D c E s1 sj (a.put o.dst undef) w:=by
    intro ji st' zl cm hk;exact iY cm zl true [] .ud undef (fun _ _ p hp=>by cases hp) (fun _=>ub E) (fun _ _=>ub _) (fun hn=>(hn (aX _)).elim) hk
   split at hg
   ·rename_i S5;have hw:Region.wanted o (yielded D.d.ops a.tmps)=true:=by simp [Region.wanted,S5]
    split at hg
    ·rename_i hE;exact fE s0 st hE hw hd hg h
    ·split at hg
     ·rename_i b s hs;obtain ⟨hE,fD,v,hv,oN,bS⟩:=Ef hD h (aX _) hs;obtain ⟨s1,sj,qL,eJ⟩:=iY h hd b [] s v (fun _ _ p hp=>by cases hp) (fun _=>hv) (fun hb _=>oN hb) (fun hn=>(hn (aX _)).elim) hg;exact fR v s1 sj hE (.inl ⟨hw,bS⟩) fD qL eJ
     ·exact fP s0 st hw hd hg h
   ·rename_i j want S5;split at hg
    ·exact hg.elim
    ·rename_i d Lk;split at hg
     ·exact hg.elim
     ·rename_i mz sd Vn;have wz:=wanted_spec h.rel S5 Lk Vn;have Hp:¬ Holds a.tmps ((d,want) :: mz)->Region.wanted o (yielded D.d.ops a.tmps)=false:=by grind
      split at hg
      ·rename_i b s hs;split at hg
       case h_2=>exact hg.elim
       rename_i jh;have aaG:=wy jh;by_cases hh:Holds a.tmps ((d,want) :: mz)
       ·obtain ⟨hE,fD,v,hv,oN,bS⟩:=Ef hD h hh hs;obtain ⟨s1,sj,qL,eJ⟩:=iY h hd b _ s v aaG (fun _=>hv) (fun hb _=>oN hb) (fun hn=>(hn hh).elim) hg;exact fR v s1 sj hE (.inl ⟨wz.2 hh,bS⟩) fD qL eJ
       ·obtain ⟨s1,sj,qL,eJ⟩:=iY h hd b _ s undef aaG (fun hn=>(hh hn).elim) (fun _ hn=>(hh hn).elim) (fun _=>rfl) hg;have fD:isE o.op=false/\(isL o.op=true->c=true):=by grind [pR]
        exact fR undef s1 sj fD.1 (.inr ⟨Hp hh,rfl⟩) fD.2 qL eJ
      ·split at hg
       ·rename_i b iT;have ht0:=D3 h.rel iT
        cases mz with
        | nil=>
         simp only [lastG] at iT ht0;cases G2:(b == want)
         ·have Hk:b = !want:=by cases b<;>cases want<;>simp_all
          have hg:=hg.f G2
          have hn:Region.wanted o (yielded D.d.ops a.tmps)=false:=by
           refine Hp fun hh=>?_;have:=hh (d,want) (by simp)
           grind
          have hr:=mO (d:=d) (b:=!want) h (by rw [ht0,Hk]);split at hg
          ·rename_i fD
           have XD:isL o.op=true->c=true:=by
            intro hL;simpa [hL] using fD
           obtain ⟨s1,sj,qL,eJ⟩:=udE _ _ (ri hd) hr hg;cases hE:isE o.op
           ·exact fR undef s1 sj hE (.inr ⟨hn,rfl⟩) XD qL eJ
           ·exact fS s1 sj hE hn qL eJ
          ·exact hg.elim
         ·have nV:b=want:=sU G2;have hg:=hg.t G2
          grind [j9,aX,mO,ri]
        | cons g1 gr=>
         have key:∀ e,a.tmps[(lastG (d,want) (g1 :: gr)).1]? = some (.bool e)->goD X D.d n c ((i,o) :: r) (s0.map (cf (lastG (d,want) (g1 :: gr)).1 e)) (st.resolve (lastG (d,want) (g1 :: gr)).1 e)->_:=
          fun e zR zu=>gK hD n c ((i,o) :: r) _ _ zu hl E a w (mO h zR)
         cases G2:(b == (lastG (d,want) (g1 :: gr)).2)
         ·have hg:=hg.f G2;have Hk:b = !(lastG (d,want) (g1 :: gr)).2:=by cases b<;>cases h0:(lastG (d,want) (g1 :: gr)).2<;>simp_all
          exact key _ (by rw [ht0,Hk]) hg
         all_goals simp_all
       ·rename_i iT
        cases mz with
        | nil=>
         have ht0:=Ol h.rel iT;simp only [lastG] at ht0
         have hn:Region.wanted o (yielded D.d.ops a.tmps)=false:=by
          refine Hp fun hh=>?_;have:=hh (d,want) (by simp);simp only at this;rw [ht0] at this;simp [undef] at this
         simp only at hg;split at hg
         ·rename_i fD
          have XD:isL o.op=true->c=true:=by
           intro hL;simpa [hL] using fD
          obtain ⟨s1,sj,qL,eJ⟩:=udE _ _ hd h hg;cases hE:isE o.op
          ·exact fR undef s1 sj hE (.inr ⟨hn,rfl⟩) XD qL eJ
          ·exact fS s1 sj hE hn qL eJ
         ·exact hg.elim
        | cons g1 gr=>exact hg.elim
       ·exact hg.elim
def OpS (X:Ctx) (o:Oper) (st st':St):Prop:=∀ E a w,Rel X E st a w->wq X.P o a w fun a' w'=>∃ E',Rel X E' st' a' w' /\ Hg none E w E' w'
theorem OpS.g {o:Oper} {k:List It} {st st':St} (h:OpS X o st st') (hk:go X 4000 k st'):W0 X o k st:=fun E a w hr=>by
 refine Jw (kM ?_ (h E a w hr));rintro a' w' ⟨E',oP,_⟩;exact go_sound 4000 _ _ hk E' a' w' oP
def nOps:Nat->List Oper->List (Nat × Oper)
 | _,[]=>[]
 | i,o :: r=>(i,o) :: nOps (i + 1) r
theorem wH:∀ (l:List Oper) (i:Nat) (p:Nat × Oper),p∈nOps i l->i<=p.1/\l[p.1 - i]? = some p.2
 | [],_,_,h=>by cases h
 | o :: r,i,p,h=>by
  rcases dM h with h | h
  ·subst h;simp
  ·have:=wH r (i + 1) p h
   grind
theorem wI:∀ (l:List Oper) (i:Nat),(nOps i l).map (·.1)=List.range' i l.length
 | [],_=>rfl
 | o :: r,i=>by simp only [nOps,List.map_cons,wI r (i + 1),List.length_cons,List.range'_succ]
theorem wJ (hr:Rel X E st a w) {ops:Array Oper} {W:Nat->Bool} {k:List It}:gB X ⟨⟨ops,W,k,st,none⟩,E,w⟩ true E st.sl st a w where
 rel:=hr
 x:=Ext.refl E
 β:=⟨[],by simp⟩
 t0:=hr.tm
 cc:=fun _=>⟨fun _ _ _ _ _ _=>rfl,hr.env.sub⟩
theorem Cj {id:Nat} {ops:Array Oper} {k:List It} {st:St} (W:Nat->Bool) (hm:X.P.follows .mixedOrders=true) (hc:Hm ops W=true)
  (h:goD X ⟨ops,W,k,st,none⟩ 3000 true (nOps 0 ops.toList) st.sl st):tZ X id ops k st:=by
 intro E a w hr;have oP:=lK hr;have hs:=wJ oP (ops:=ops) (W:=W) (k:=k);refine la (C:=CC E st.bx w.drew) (W:=W) (Q:=kq X k .normal) hm hc (fun a w h=>h) (hs.cc rfl) ?_;have:=gK (D:=⟨⟨ops,W,k,st,none⟩,E,w.drew⟩) oP.env.em 3000 true _ _ _ h (fun p hp=>by simpa using (wH _ _ p hp).2) E a w.drew hs;rw [wI] at this;rw [List.range_eq_range'];simp only [Array.length_toList] at this;exact this
def maskL:List Nat->Nat->List (List DV)->List (List DV)
 | _,_,[]=>[]
 | m,i,cs :: r=>(match m.contains i with | true=>[] | false=>cs) :: maskL m (i + 1) r
theorem sJ (m:List Nat):∀ (l:List (List DV)) (i:Nat),(maskL m i l).length=l.length
 | [],_=>rfl
 | cs :: r,i=>by simp [maskL,sJ m r]
theorem sK (m:List Nat):∀ (l:List (List DV)) (i j:Nat) cs,(maskL m i l)[j]? = some cs->cs=[]∨l[j]? = some cs
 | [],_,_,_,h=>by simp [maskL] at h
 | c :: r,i,0,cs,h=>by grind [maskL]
 | c :: r,i,j + 1,cs,h=>by
  simp only [maskL,List.getElem?_cons_succ] at h ⊢;exact sK m r (i + 1) j cs h
theorem cr {id:Nat} {ops:Array Oper} {k:List It} {st:St} (m:List Nat) (W:Nat->Bool) (hm:X.P.follows .mixedOrders=true) (hc:Hm ops W=true)
  (h:goD X ⟨ops,W,k,⟨st.sl,maskL m 0 st.bx,st.tk⟩,none⟩ 3000 true (nOps 0 ops.toList) st.sl st):tZ X id ops k st:=by
 intro E a w hr;have oP:=lK hr;have hs:gB X ⟨⟨ops,W,k,⟨st.sl,maskL m 0 st.bx,st.tk⟩,none⟩,E,w.drew⟩ true E st.sl st a w.drew:=⟨oP,Ext.refl E,⟨[],by simp⟩,oP.tm,fun _=>⟨fun _ _ _ _ _ _=>rfl,oP.env.sub⟩⟩;refine la (C:=CC E (maskL m 0 st.bx) w.drew) (W:=W) (Q:=kq X k .normal) hm hc (fun a w h=>h) (hs.cc rfl) ?_
 have SD:vf E (maskL m 0 st.bx) w.drew:=⟨by rw [sJ];exact oP.env.len,fun i cs hi bo=>by
  rcases sK m _ _ _ _ hi with h1 | h1
  ·exact (bo h1).elim
  ·exact oP.env.dY i cs h1⟩
 have:=gK (D:=⟨⟨ops,W,k,⟨st.sl,maskL m 0 st.bx,st.tk⟩,none⟩,E,w.drew⟩) SD 3000 true _ _ _ h (fun p hp=>by simpa using (wH _ _ p hp).2) E a w.drew hs;rw [wI] at this;rw [List.range_eq_range'];simp only [Array.length_toList] at this;exact this
def stW (ops:Array Oper) (i:Nat):Bool:=
 match ops.toList[i]? with
 | some o=>
  match o.op with
  | .store ..=>true
  | _=>false
 | none=>false
theorem Ta {id:Nat} {ops:Array Oper} {k:List It} {st:St} (hm:X.P.follows .mixedOrders=true) (hc:Hm ops (stW ops)=true)
  (h:goD X ⟨ops,stW ops,k,st,none⟩ 3000 true (nOps 0 ops.toList) st.sl st):tZ X id ops k st:=Cj (stW ops) hm hc h
theorem rj {D:Dr} {f:FuncId} {args bF:List DV} {d:Nat} {r:List (Nat × Oper)} (gh:Enters X.P f) (hd:(eV X.nt st.sl (some d) && eV X.nt s0 (some d))=true) {Φ:DV->List (List DV)->List TkE->Prop} (hc:Ev X.P f bF [] [] Φ) (ha:CcL [] 0 0 0 bF args)
  (hk:∀ Hq,Φ Hq [] []->put2 s0 st (some d) false [] Hq (goD X D 3000 c r)) (bp:X.still=false:=by exact rfl):wF X D c i r f args (some d) s0 st:=by
 refine ⟨gh,fun hl E0 wr hD E a w vs h hv=>(uf h.rel bp hc ha hv).mono ?_⟩;rintro e w' ⟨v,E',Hq,rfl,cm,hr,hΦ,hm,hx,hβ⟩
 have hh:∀ b,b < w.heap.size->w'.heap[b]? = w.heap[b]?:=fun b hb=>hm.block b hb (by
  rintro (h1 | ⟨y,h1,_⟩)
  ·simp [En.cl] at h1
  ·simp [En.cl] at h1)
 have hs:Hg none E w E' w':=⟨hx,⟨[],by rw [hβ];simp⟩,fun j b hb _=>hh b (h.rel.env.bm (mG hb))⟩;have hC:=JD h hs cm (fun j hj=>by cases hj);refine ⟨v,rfl,fun _=>hC,?_⟩;have Eg:gB X ⟨D,E0,wr⟩ c E' s0 st (a.put none v) w':=wG h hs cm (fun h1=>hC (h.cc h1)) (fun i x hx=>.inr ⟨hx,fun d hd=>by cases hd⟩) rfl;obtain ⟨s1,sj,qL,eJ⟩:=iY Eg hd false [] Hq v (fun _ _ p hp=>by cases hp) (fun _=>hr) (fun hb=>by cases hb) (fun hn=>(hn (aX _)).elim) (hk Hq hΦ);exact gK (D:=⟨D,E0,wr⟩) hD 3000 c r _ _ qL hl E' _ w' eJ
theorem Tb {D:Dr} {f:FuncId} {args bF:List DV} {d:Nat} {r:List (Nat × Oper)} {Hq:DV} (gh:Enters X.P f) (hc:bA X.P f bF Hq) (ha:CcL [] 0 0 0 bF args) (hd:(eV X.nt st.sl (some d) && eV X.nt s0 (some d))=true)
  (hk:put2 s0 st (some d) false [] Hq (goD X D 3000 c r)) (bp:X.still=false:=by exact rfl):wF X D c i r f args (some d) s0 st:=
 rj gh hd hc ha (fun _ hr=>hr ▸ hk) bp
theorem Hr {D:Dr} {i:Nat} {f:FuncId} {args:List DV} {dst:Option Nat} (hW:D.W i=true) (h:CallG X f args dst D.k st) (hf:D.fin=none:=by exact rfl):wF X D c i [] f args dst s0 st:=by
 refine ⟨h.1,fun _ E0 wr _ E a w vs hr hv=>(h.2.2 E a w vs hr.rel hv).mono ?_⟩;intro e w' hq
 cases e with
 | returned v=>
  refine ⟨v,rfl,⟨(fun hw=>by rw [hW] at hw;cases hw),?_⟩⟩;show Dw.Q ⟨D,E0,wr⟩ X _ _;unfold Dw.Q;simp only [hf];exact hq
 | _=>exact hq.elim
end
end Dv
end Go.Proofs.YtfdedoiiahbnnaaGreat
namespace Go.Proofs.YtfdedoiiahbnnaaGreat
namespace Dv
open Go Go.RowKit
section
variable {P:Program} {ops:Array Oper} {C:World->Prop} {Q:Act->World->Prop} {W:Nat->Bool} {π π':Nat->Nat}
theorem zZ {o:Oper} {i:Nat} {a:Act} {w:World} {K:Act->World->Prop} {Q':Exit->Act->World->Prop} (ho:ops[i]? = some o) (h:dQ P ops o a w K):wpOp P ops Q' i K a w:=by
 unfold wpOp
 grind [dQ,Jw]
def chkT (ops:Array Oper) (x y:Nat):Bool:=
 (List.range ops.size).all fun i=>Nat.beq i x || Nat.beq i y ||
  match ops[i]? with
  | some o=>!isE o.op || ordB ops ops.size x i
  | none=>false
def vi (x y:Nat):Nat->Nat->Bool:=fun j i=>Nat.beq j x && Nat.beq i y
theorem Hs {x y:Nat} {Q':Exit->Act->World->Prop} (NQ:x≠y) (ZH:vc ops W π=true) (h1S:Ec ops W π (vi x y)=true) (h2O:vc ops W π'=true) (h2S:Ec ops W π' (vi y x)=true) (hT:chkT ops x y=true)
  (hQ:∀ a w,Q a w->Q' .normal a w):∀ (lP:Nat) (bi:Array Bool) (r1 r2:List Nat) (a:Act) (w:World),
  bi.size=ops.size->Dn ops bi->(∀ i,i∈r1↔i < ops.size/\bi.getD i true=false)->(∀ i,i∈r2↔i < ops.size/\bi.getD i true=false)->r1.Pairwise (fun a b=>π a < π b)->r2.Pairwise (fun a b=>π' a < π' b)->r1.length<=lP ->
   x∈r1->y∈r1->C w->runT P ops W C Q r1 a w->runT P ops W C Q r2 a w->wpAny P .any ops Q' lP bi a w:=by
 have jE:=Ee ZH;have SC:=Cg ZH;have XE:=Cg h2O;have h1S':=h1S;have h2S':=h2S;simp only [Ec,List.all_eq_true,List.mem_range,Bool.or_eq_true,Bool.not_eq_true'] at h1S h2S;intro lP
 induction lP with
 | zero=>grind
 | succ lP ih=>
  intro bi r1 r2 a w di hdn mC DR Oz ZI hlen hx hy hC hr1 j8;have h12:∀ i,i∈r1↔i∈r2:=fun i=>(mC i).trans (DR i).symm;have Lt:r1.Nodup:=qN Oz;have zy:r2.Nodup:=qN ZI;have Ow:=zY ZH;refine ⟨fun h0=>?_,fun i hi=>?_⟩
  ·cases r1 with
   | nil=>cases hx
   | cons h rem=>
    have hh:=(mC h).1 (by simp);have hxx:ops[h]? = some ops[h]:=Array.getElem?_eq_getElem hh.1
    have:h∈Region.ready .any ops bi:=by
     refine mem_ready.2 ⟨hh.2,_,hxx,fun e he hb=>?_⟩;obtain ⟨aE,Ls⟩:=Ow h _ hxx e he hb;cases hg:bi.getD e.on false
     ·have Vr:bi.getD e.on true=false:=by grind
      have hm:=(mC e.on).2 ⟨by omega,Vr⟩;rcases dM hm with e1 | e1
      ·rw [e1] at aE;omega
      ·have:=(List.pairwise_cons.1 Oz).1 _ e1;omega
     ·rfl
    rw [h0] at this;cases this
  ·obtain ⟨DB,o,ho,iV⟩:=mem_ready.1 hi;have nB:=(Array.getElem?_eq_some_iff.1 ho).1;have ve:i∈r1:=(mC i).2 ⟨nB,DB⟩;have Tc:i∈r2:=(h12 i).1 ve;have kR:∀ j,j∈r1->ordB ops ops.size j i=true->False:=by grind [nX]
   have Td:i≠y->∀ j∈r1,j≠i->π j < π i->pK ops W j i=true:=by
    intro ZJ j hj _ aE;rcases h1S i nB j ((mC j).1 hj).1 with ((h1 | h1) | h1) | h1
    ·have:¬ Nat.blt (π j) (π i)=true:=by simp [h1]
     simp at this;omega
    ·simp [vi] at h1;exact (ZJ h1.2).elim
    ·exact (kR j hj h1).elim
    ·exact h1
   have XF:i≠x->∀ j∈r2,j≠i->π' j < π' i->pK ops W j i=true:=by
    intro Vt j hj _ aE;rcases h2S i nB j ((DR j).1 hj).1 with ((h1 | h1) | h1) | h1
    ·have:¬ Nat.blt (π' j) (π' i)=true:=by simp [h1]
     simp at this;omega
    ·simp [vi] at h1;exact (Vt h1.2).elim
    all_goals grind
   have XG:Dn ops (bi.setIfInBounds i true):=by
    intro k z hz hk e he hb;by_cases ue:k=i
    ·subst ue;rw [ho] at hz;simp only [oI] at hz;subst hz;exact getD_set_true (iV e he hb)
    ·rw [getD_set_ne true (Ne.symm ue)] at hk;exact getD_set_true (hdn k z hz hk e he hb)
   have Eh:∀ (rem:List Nat),rem.Nodup->(∀ i,i∈rem↔i < ops.size/\bi.getD i true=false)->∀ k,k∈rem.erase i↔k < ops.size/\(bi.setIfInBounds i true).getD k true=false:=by
    intro rem hnd vd k;rw [List.Nodup.mem_erase_iff hnd];by_cases ue:k=i
    ·subst ue;simp [di,nB]
    ·rw [getD_set_ne true (Ne.symm ue)]
     grind
   refine zZ ho ?_;by_cases Vt:i=x
   ·subst Vt;have bp:=kg jE SC ho r1 a w (fun _=>hC) hr1 ve (Td NQ) Oz;refine eN ?_ bp;rintro a' w' ⟨Ov,oP⟩;refine qd (C:=C) (vi i y) ZH h1S' hQ lP _ (r1.erase i) a' w' (by simp [di]) XG (Eh r1 Lt mC) (Oz.sublist List.erase_sublist) (by rw [List.length_erase_of_mem ve];omega) ?_ ?_ oP
    ·intro j hj k _;cases jw:vi i y j k
     ·rfl
     ·simp_all [vi]
    ·rintro ⟨l,z,hl,hz,hL⟩;refine Ov ?_ hC;have wE:=List.mem_of_mem_erase hl;have bo:l≠i:=((List.Nodup.mem_erase_iff Lt).1 hl).1;rcases Ch Oz ve wE bo.symm with h1 | h1
     ·exact SC i l z o h1 hz ho hL
     ·have:=Td NQ l wE bo h1;obtain ⟨_,_,_,h4⟩:=gA this hz ho
      grind
   ·by_cases ZJ:i=y
    ·subst ZJ;have bp:=kg jE XE ho r2 a w (fun _=>hC) j8 Tc (XF (Ne.symm NQ)) ZI;refine eN ?_ bp;rintro a' w' ⟨Ov,oP⟩;refine qd (C:=C) (vi i x) h2O h2S' hQ lP _ (r2.erase i) a' w' (by simp [di]) XG (Eh r2 zy DR) (ZI.sublist List.erase_sublist) ?_ ?_ ?_ oP
     ·have e1:r1.length=r2.length:=(List.perm_iff_count.2 (fun z=>by rw [Lt.count,zy.count];simp [h12 z])).length_eq;rw [List.length_erase_of_mem Tc];omega
     ·intro j hj k _;cases jw:vi i x j k
      ·rfl
      ·simp_all [vi]
     ·rintro ⟨l,z,hl,hz,hL⟩;refine Ov ?_ hC;have wE:=List.mem_of_mem_erase hl;have bo:l≠i:=((List.Nodup.mem_erase_iff zy).1 hl).1;rcases Ch ZI Tc wE bo.symm with h1 | h1
      ·exact XE i l z o h1 hz ho hL
      ·have:=XF (Ne.symm NQ) l wE bo h1;obtain ⟨_,_,_,h4⟩:=gA this hz ho
       grind
    ·have hRo:isE o.op=false:=by
      simp only [chkT,List.all_eq_true,List.mem_range,Bool.or_eq_true,Nat.beq_eq] at hT
      grind
     obtain ⟨v,XH⟩:=qc jE ho hRo r1 a w hr1 ve (Td ZJ) Oz;have hs1:=kg jE SC ho r1 a w (fun _=>hC) hr1 ve (Td ZJ) Oz;have Su:=kg jE XE ho r2 a w (fun _=>hC) j8 Tc (XF Vt) ZI;have qL:=nW XH (fun _=>hC) hs1;have G3:=nW XH (fun _=>hC) Su;refine kQ XH (fun _=>hC) ?_
     exact ih _ (r1.erase i) (r2.erase i) _ w (by simp [di]) XG (Eh r1 Lt mC) (Eh r2 zy DR) (Oz.sublist List.erase_sublist) (ZI.sublist List.erase_sublist) (by rw [List.length_erase_of_mem ve];omega)
      ((List.Nodup.mem_erase_iff Lt).2 ⟨Ne.symm Vt,hx⟩) ((List.Nodup.mem_erase_iff Lt).2 ⟨Ne.symm ZJ,hy⟩) hC qL.2 G3.2
end
def selL (ops:List Oper):List Nat->List (Nat × Oper)
 | []=>[]
 | i :: r=>
  match ops[i]? with
  | some o=>(i,o) :: selL ops r
  | none=>selL ops r
theorem OA {ops:List Oper} {l:List Nat} {p:Nat × Oper} (h:p∈selL ops l):ops[p.1]? = some p.2:=by
 induction l with
 | nil=>cases h
 | cons i r ih=>grind [selL]
def plc:List Nat->Nat->Nat
 | [],_=>0
 | x :: r,i=>if Nat.beq x i then 0 else plc r i + 1
def OB (ops:Array Oper) (l:List Nat):Bool:=
 (selL ops.toList l).map (·.1) == l && (List.range ops.size).all (fun i=>l.contains i) && l.all (fun i=>Nat.blt i ops.size) && Nat.ble l.length ops.size && pwB (plc l) l
where pwB (f:Nat->Nat):List Nat->Bool
 | []=>true
 | x :: r=>r.all (fun y=>Nat.blt (f x) (f y)) && pwB f r
theorem wK {f:Nat->Nat}:∀ {l:List Nat},OB.pwB f l=true->l.Pairwise (fun a b=>f a < f b)
 | [],_=>List.Pairwise.nil
 | x :: r,h=>by
  simp only [OB.pwB,bg,List.all_eq_true,Nat.blt_eq] at h;exact List.pairwise_cons.2 ⟨h.1,wK h.2⟩
def aaM (ops:Array Oper) (W:Nat->Bool) (l l':List Nat) (x y:Nat):Bool:=
 !Nat.beq x y && Nat.blt x ops.size && Nat.blt y ops.size && OB ops l && OB ops l' && vc ops W (plc l) && Ec ops W (plc l) (vi x y) && vc ops W (plc l') && Ec ops W (plc l') (vi y x) && chkT ops x y
def swp (i j k:Nat):Nat:=
 match Nat.beq k i with
 | true=>j
 | false=>
  match Nat.beq k j with
  | true=>i
  | false=>k
theorem mP (i j k:Nat):swp i j (swp i j k)=k:=by
 have hb:∀ a b:Nat,Nat.beq a b=decide (a=b):=fun a b=>by
  by_cases h:a=b
  ·subst h;simp
  ·rw [decide_eq_false h];cases h1:Nat.beq a b
   ·rfl
   ·exact (h (sU h1)).elim
 grind [swp]
mutual
def renD (f:Nat->Nat):DV->DV
 | .v x=>.v x
 | .ud=>.ud
 | .agg l=>.agg (renL f l)
 | .bK l=>.bK (renL f l)
 | .sl e es tk=>.sl e es tk
 | .pt cs o=>.pt cs o
 | .loc i o=>.loc (f i) o
 | .el i o=>.el (f i) o
 | .ms i e o l c=>.ms (f i) e o l c
 | .fn g l r=>.fn g (renL f l) (renL f r)
 | .pY t x=>.pY t (renD f x)
def renL (f:Nat->Nat):List DV->List DV
 | []=>[]
 | d :: r=>renD f d :: renL f r
end
def renS (f:Nat->Nat):List (Nat × Sl)->List (Nat × Sl)
 | []=>[]
 | (k,⟨gs,s⟩) :: r=>(k,⟨gs,renD f s⟩) :: renS f r
def renO (f:Nat->Nat):List (List DV)->List (List DV)
 | []=>[]
 | cs :: r=>renL f cs :: renO f r
def swL {α:Type} (i j:Nat) (l:List α):List α:=
 match l[i]?,l[j]? with
 | some a,some b=>(l.set i b).set j a
 | _,_=>l
def gl (i j:Nat) (S:St):St:=⟨renS (swp i j) S.sl,swL i j (renO (swp i j) S.bx),S.tk⟩
theorem wL (f:Nat->Nat):∀ (l:List (List DV)) (k:Nat),(renO f l)[k]? = (l[k]?).map (renL f)
 | [],k=>by simp [renO]
 | c :: r,0=>by simp [renO]
 | c :: r,k + 1=>by simp only [renO,List.getElem?_cons_succ];exact wL f r k
theorem eK (f:Nat->Nat):∀ (l:List (List DV)),(renO f l).length=l.length
 | []=>rfl
 | c :: r=>by simp [renO,eK f r]
theorem Ei (f:Nat->Nat):∀ (l:List (Nat × Sl)) (k:Nat),get (renS f l) k=(get l k).map fun x=>⟨x.gs,renD f x.s⟩
 | [],k=>rfl
 | (i,⟨gs,s⟩) :: r,k=>by
  simp only [renS,dx];split
  ·rfl
  ·exact Ei f r k
theorem fF {α:Type} (i j:Nat) (l:List α):(swL i j l).length=l.length:=by
 unfold swL;split<;>simp
theorem gw {α:Type} {i j:Nat} {l:List α} (hi:i < l.length) (hj:j < l.length) (k:Nat):(swL i j l)[k]? = l[swp i j k]?:=by
 have hb:∀ a b:Nat,Nat.beq a b=true↔a=b:=fun a b=>by simp
 grind [swL,swp]
theorem Te {α:Type} {i j:Nat} {l:List α} (hi:i < l.length) (hj:j < l.length):swL i j (swL i j l)=l:=by
 apply List.ext_getElem?
 grind [gw,fF,mP]
section
variable {E:En} {i j:Nat}
mutual
theorem Rv.Ht (hi:i < E.β.length) (hj:j < E.β.length):∀ {d:DV} {v:Value},Rv E (renD (swp i j) d) v->Rv ⟨E.c,swL i j E.β,E.tk,E.τ⟩ d v
 | .v x,v,h=>by simp only [renD] at h;unfold Rv at h ⊢;exact h
 | .ud,v,h=>by simp only [renD] at h;unfold Rv at h ⊢;exact h
 | .sl e es tk,v,h=>by simp only [renD] at h;unfold Rv at h ⊢;exact h
 | .pt cs o,v,h=>by simp only [renD] at h;unfold Rv at h ⊢;exact h
 | .loc k o,v,h=>by grind [renD,Rv,swL,gw]
 | .el k o,v,h=>by grind [renD,Rv,swL,gw]
 | .ms k e o l c,v,h=>by grind [renD,Rv,swL,gw]
 | .agg l,v,h=>by
  simp only [renD] at h;unfold Rv at h ⊢;obtain ⟨vs,h1,h2,h3⟩:=h;exact ⟨vs,h1,RvL.Ht hi hj h2,h3⟩
 | .bK l,v,h=>by
  simp only [renD] at h;unfold Rv at h ⊢;obtain ⟨vs,h1,h2⟩:=h;exact ⟨vs,h1,RvL.Ht hi hj h2⟩
 | .fn g l r,v,h=>by
  simp only [renD] at h;unfold Rv at h ⊢;obtain ⟨l',r',h1,h2,h3⟩:=h;exact ⟨l',r',h1,RvL.Ht hi hj h2,RvL.Ht hi hj h3⟩
 | .pY t x,v,h=>by
  simp only [renD] at h;unfold Rv at h ⊢;obtain ⟨z,h1,h2⟩:=h;exact ⟨z,h1,Rv.Ht hi hj h2⟩
theorem RvL.Ht (hi:i < E.β.length) (hj:j < E.β.length):∀ {l:List DV} {vs:List Value},RvL E (renL (swp i j) l) vs->RvL ⟨E.c,swL i j E.β,E.tk,E.τ⟩ l vs
 | [],vs,h=>by simp only [renL,RvL] at h ⊢;exact h
 | d :: r,vs,h=>by
  simp only [renL,RvL] at h ⊢;obtain ⟨v,s,h1,h2,h3⟩:=h;exact ⟨v,s,h1,Rv.Ht hi hj h2,RvL.Ht hi hj h3⟩
end
end
theorem JF {α:Type} {i j:Nat} {l:List α} (hi:i < l.length) (hj:j < l.length) {x:α}:x∈swL i j l↔x∈l:=by grind [swL,gw,fF,Te]
theorem Lu {i j:Nat} {l:List Nat} (hi:i < l.length) (hj:j < l.length) (h:l.Nodup):(swL i j l).Nodup:=by grind [swp,fF,swL,gw,mP]
theorem sL {P:Program} {ops:Array Oper} {W:Nat->Bool} {C:World->Prop} {Q Q':Act->World->Prop} (hQ:∀ a w,Q a w->Q' a w):∀ {l:List Nat} {a:Act} {w:World},runT P ops W C Q l a w->runT P ops W C Q' l a w
 | [],a,w,h=>hQ _ _ h
 | i :: r,a,w,h=>by
  simp only [runT] at h ⊢;split at h
  ·exact h.elim
  ·split at h
   ·rename_i hE;rw [ah hE];exact eN (fun a w hk=>⟨hk.1,sL hQ hk.2⟩) h
   ·rename_i hE;rw [ag hE];obtain ⟨v,h1,h2,h3⟩:=h;exact ⟨v,h1,h2,sL hQ h3⟩
section
variable {X:Ctx} {E:En} {S:St} {a:Act} {w:World} {i j:Nat}
theorem Ej (hX:X.bt=[]) (h:Rel X E (gl i j S) a w) (Od:X.n0<=i) (DU:X.n0<=j) (hi:i < S.bx.length) (hj:j < S.bx.length):Rel X ⟨E.c,swL i j E.β,E.tk,E.τ⟩ S a w:=by
 have hlen:E.β.length=S.bx.length:=by
  rw [h.env.len];simp only [gl,fF,eK]
 have nB:i < E.β.length:=by rw [hlen];exact hi
 have jw:j < E.β.length:=by rw [hlen];exact hj
 have kN:∀ k,(gl i j S).bx[k]? = (S.bx[swp i j k]?).map (renL (swp i j)):=fun k=>by grind [gl,gw,eK,wL]
 exact {
  env:={
   len:=by rw [fF];exact hlen
   tl:=h.env.tl
   dY:=fun k cs hk=>by
    obtain ⟨b,ty,arr,hb,hw,hc⟩:=h.env.dY (swp i j k) (renL (swp i j) cs) (by rw [kN,mP,hk];rfl);exact ⟨b,ty,arr,by rw [gw nB jw];exact hb,hw,RvL.Ht nB jw hc.1,hc.2⟩
   inj:=Lu nB jw h.env.inj
   sub:=h.env.sub
   pc:=fun x v hx hm=>h.env.pc x v hx ((JF nB jw).1 hm)
   c9:=fun k q y hq hy=>by
    rcases h.env.c9 k q y hq hy with h1 | ⟨g,cap,cur,rfl,h1,h2,h3,h4,h5,h6⟩
    ·exact .inl h1
    ·exact .inr ⟨g,cap,cur,rfl,h1,h2,h3,h4,fun hm=>h5 ((JF nB jw).1 hm),h6⟩
   iB:=h.env.iB }
  tk:=h.tk
  sz:=h.sz
  tm:=fun k x hx=>by
   have:=h.tm k ⟨x.gs,renD (swp i j) x.s⟩ (by simp only [gl];rw [Ei,hx];rfl)
   grind [Rv.Ht]
  df:=h.df
  nw:={
   c:=h.nw.c
   cn:=h.nw.cn
   β:=by
    obtain ⟨r,hr,hl⟩:=h.nw.β;have ZK:X.E0.β.length=X.n0:=X.tX;refine ⟨(swL i j E.β).drop X.n0,?_,fun b hb=>?_⟩
    ·grind [swL,gw,swp]
    ·have hnd:=h.env.inj;obtain ⟨k,hk⟩:=List.mem_iff_getElem?.1 hb;rw [List.getElem?_drop,gw nB jw] at hk;have hge:X.n0<=swp i j (X.n0 + k):=by grind [swp]
     rw [hr,List.getElem?_append_right (by omega)] at hk;exact hl b (mG hk)
   tk:=h.nw.tk
   tn:=h.nw.tn
   l0:=h.nw.l0 }
  fr:=h.fr
  sh:=h.sh
  bt:=.nil hX }
theorem JG (hX:X.bt=[]) (h:Rel X E (gl i j S) a w) (Od:X.n0<=i) (DU:X.n0<=j) (hi:i < S.bx.length) (hj:j < S.bx.length):∃ E',Rel X E' S a w:=⟨_,Ej hX h Od DU hi hj⟩
end
def JH (sl:List (Nat × Sl)):List (Nat × Sl)->Prop
 | []=>True
 | p :: r=>get sl p.1=some p.2/\JH sl r
theorem wM {sl:List (Nat × Sl)}:∀ {l:List (Nat × Sl)},JH sl l->∀ i x,get l i=some x->get sl i=some x
 | [],_,i,x,hx=>by cases hx
 | (k,y) :: r,h,i,x,hx=>by
  simp only [dx] at hx;split at hx
  ·rename_i ue;subst ue;simp only [oI] at hx;subst hx;exact h.1
  ·exact wM h.2 i x hx
def uniqS:List Nat->List (Nat × Sl)->List (Nat × Sl)
 | _,[]=>[]
 | m,p :: r=>
  match muB m p.1 with
  | true=>uniqS m r
  | false=>p :: uniqS (p.1 :: m) r
theorem sM:∀ (l:List (Nat × Sl)) (m:List Nat) (i:Nat),muB m i=false->get (uniqS m l) i=get l i
 | [],_,_,_=>rfl
 | (k,x) :: r,m,i,h=>by
  simp only [uniqS]
  cases hm:muB m k with
  | true=>
   simp only;rw [sM r m i h,dx,ag];rintro rfl;rw [hm] at h;cases h
  | false=>
   simp only [dx];by_cases hk:k=i
   ·rw [ah hk,ah hk]
   ·rw [ag hk,ag hk]
    exact sM r (k :: m) i (by simp only [muB,h,Bool.or_false];cases hb:Nat.beq k i with
     | true=>exact (hk (Nat.eq_of_beq_eq_true hb)).elim
     | false=>rfl)
def Ck (s S:St):Prop:=s.bx=S.bx/\s.tk=S.tk/\JH s.sl (uniqS [] S.sl)
theorem OC {X:Ctx} {E:En} {s S:St} {a:Act} {w:World} (h:Rel X E s a w) (hs:Ck s S):Rel X E S a w where
 env:=by rw [<- hs.1];exact h.env
 tk:=by rw [<- hs.2.1];exact h.tk
 sz:=h.sz
 tm:=fun i x hx=>h.tm i x (wM hs.2.2 i x (by rw [sM _ _ _ rfl];exact hx))
 df:=h.df
 nw:=h.nw
 fr:=h.fr
 sh:=h.sh
 bt:=h.bt
theorem Lv {X:Ctx} {id:Nat} {ops:Array Oper} {k:List It} {st:St} (W:Nat->Bool) (x y:Nat) (l l':List Nat) (i j:Nat) (hm:X.P.follows .mixedOrders=true) (hc:aaM ops W l l' x y=true) (S:St)
  (h:goD X ⟨ops,W,[.GX fun s=>s=S],st,none⟩ 3000 true (selL ops.toList l) st.sl st) (h':goD X ⟨ops,W,[.GX fun s=>Ck s (gl i j S)],st,none⟩ 3000 true (selL ops.toList l') st.sl st)
  (qX:(Nat.ble X.n0 i && Nat.ble X.n0 j && Nat.blt i S.bx.length && Nat.blt j S.bx.length)=true) (hk:go X 4000 k S) (hX:X.bt=[]:=by exact rfl):tZ X id ops k st:=by
 intro E a w hr;have oP:=lK hr;simp only [bg,Nat.ble_eq,Nat.blt_eq] at qX;simp only [aaM,OB,bg,List.all_eq_true,Nat.blt_eq,Nat.ble_eq,beq_iff_eq,List.mem_range,Bool.not_eq_true'] at hc;obtain ⟨⟨⟨⟨⟨⟨⟨⟨⟨NQ,Jx⟩,hys⟩,⟨⟨⟨h1a,ZL⟩,h1c⟩,hlen⟩,h1d⟩,⟨⟨⟨h2a,h2b⟩,h2c⟩,_⟩,h2d⟩,ZH⟩,h1S⟩,h2O⟩,h2S⟩,hT⟩:=hc
 have hQ:∀ S',(S'=S∨S'=gl i j S)->∀ a w,(∃ st E,Rel X E st a w/\(st=S' ∨ Ck st S'))->kq X k .normal a w:=by
  rintro S' hS a w ⟨sj,E1,hrel0,DS⟩;have cm:Rel X E1 S' a w:=by grind [OC]
  rcases hS with rfl | rfl
  ·exact go_sound 4000 _ _ hk E1 a w cm
  ·obtain ⟨E2,D8⟩:=JG hX cm qX.1.1.1 qX.1.1.2 qX.1.2 qX.2;exact go_sound 4000 _ _ hk E2 a w D8
 have key:∀ (S':St),(S'=S∨S'=gl i j S)->∀ (l:List Nat),(selL ops.toList l).map (·.1)=l->∀ J:St->Prop,(∀ s,J s->s=S' ∨ Ck s S')->(goD X ⟨ops,W,[.GX J],st,none⟩ 3000 true (selL ops.toList l) st.sl st) ->
   runT X.P ops W (CC E st.bx w.drew) (fun a w=>kq X k .normal a w) l a w.drew:=by
  intro S' hS l hl J hJ h;have hs:=wJ oP (ops:=ops) (W:=W) (k:=[.GX J]);have:=gK (D:=⟨⟨ops,W,[.GX J],st,none⟩,E,w.drew⟩) oP.env.em 3000 true _ _ _ h (fun p hp=>by simpa using OA hp) E a w.drew hs;rw [hl] at this;exact sL (fun a w ⟨st,E1,h1,h2⟩=>hQ S' hS a w ⟨st,E1,h1,hJ st h2⟩) this
 have e1:=key S (.inl rfl) l h1a _ (fun s hs=>.inl hs) h;have e2:=key (gl i j S) (.inr rfl) l' h2a _ (fun s hs=>.inr hs) h';refine wp_region_any hm ?_
 have zm:∀ (l:List Nat),(∀ i,i < ops.size->l.contains i=true)->(∀ i∈l,i < ops.size)->∀ i,i∈l↔i < ops.size/\(Array.replicate ops.size false).getD i true=false:=by
  intro l ha hb i;constructor
  all_goals simp_all
 have hxy':x≠y:=by
  intro e;subst e;simp at NQ
 refine Hs (C:=CC E st.bx w.drew) (π:=plc l) (π':=plc l') (Q:=kq X k .normal) hxy' ZH h1S h2O h2S hT (fun a w h=>h) ops.size (Array.replicate ops.size false) l l' a _ (by simp) ?_ (zm l ZL h1c) (zm l' h2b h2c) (wK h1d) (wK h2d) hlen
  (by simpa using ZL x Jx) (by simpa using ZL y hys) ⟨fun _ _ _ _ _ _=>rfl,oP.env.sub⟩ e1 e2
 intro i o ho hl;have:i < ops.size:=(Array.getElem?_eq_some_iff.1 ho).1;simp [this] at hl
end Dv
end Go.Proofs.YtfdedoiiahbnnaaGreat
namespace Go.Proofs.YtfdedoiiahbnnaaGreat
namespace Dv
open Go Go.RowKit
section
variable {X:Ctx} {st:St} {k:List It} {E:En} {a:Act} {w:World}
noncomputable def En.NR (E:En) (w:World):En:=⟨sE E 0 w,[],[],[]⟩
theorem Tf {bx:List (List DV)} (h:Env E bx w):Env (E.NR w) [] w where
 len:=rfl
 tl:=rfl
 dY:=by simp
 inj:=List.nodup_nil
 sub:=fun x u hx=>by
  rcases eL hx with ⟨_,h1⟩ | h1
  ·exact h1
  ·exact h.sub x u h1
 pc:=by simp [En.NR]
 c9:=by simp [En.NR]
 iB:=by simp [En.NR]
theorem Tg {bx:List (List DV)} (h:Env E bx w):NN E (E.NR w) bx 0 where
 c:=fun x u hx=>mN h hx
 fz:=fun i cs hi cx=>by
  obtain ⟨b,ty,arr,hb,hw,hc⟩:=h.dY i cs cx;refine ⟨b,arr,hb,hc,fun j u hj=>?_⟩;show sE E 0 w ⟨b,j,none⟩=some u;unfold sE;rw [ah ⟨i,hi,hb⟩,cJ hw];simpa using hj
theorem jF {P:Program} {s:Bool} {bx:List (List DV)} (h:Env E bx w) {f:FuncId} {args bF:List DV} {vs:List Value} {y:DV} (hc:ZE s P f bF [] [] fun d _ _=>d=y) (ha:CcL bx 0 0 0 bF args) (hv:RvL E args vs) :
  Calls P f vs.toArray w fun e w'=>∃ v E2,e = .returned v/\Rv E2 y v/\qQ (fun _=>False) w w' /\ (s=true->∃ q,w'=w.drewN q):=by
 have WZ:RvL (E.NR w) bF vs:=CcL.sound (Tg h) (Jz.zero _ _) ha hv;refine (hc (E.NR w) w vs (Tf h) rfl WZ).mono ?_;rintro e w' ⟨v,rfl,hm,hs,d,os,E2,he,hβ,gj,hn,Xr,rfl⟩;refine ⟨v,E2,rfl,Xr,⟨hm.os,hm.tape,hm.output,hm.size,fun i hi _=>hm.block i hi ?_⟩,hs⟩;rintro (h1 | ⟨y,h1,_⟩)
 ·simp [En.NR] at h1
 ·simp [En.NR] at h1
theorem Cm {f:FuncId} {args bF:List DV} {d:Nat} {y:Value} (gh:Enters X.P f) (hc:bA X.P f bF (.v y)) (ha:CcL st.bx 0 0 0 bF args) (hd:eV X.nt st.sl (some d)=true)
  (hk:go X 4000 k ⟨(d,⟨[],.v y⟩) :: st.sl,st.bx,st.tk⟩) (bp:X.still=false:=by exact rfl):CallG X f args (some d) k st:=by
 refine ⟨gh,bp,fun E a w vs h hv=>(jF h.env hc ha hv).mono ?_⟩;rintro e w' ⟨v,E2,rfl,hr,hm,_⟩;have hh:∀ i,i < w.heap.size->w'.heap[i]? = w.heap[i]?:=fun i hi=>hm.block i hi (fun h=>h);have cm:Rel X E st a w':=dr h (Ext.refl E) (h.env.gW hh) h.tk h.nw (h.fr.cu hm.os hm.tape hm.output hm.size fun i hi=>.inr (hh i hi)) (mJ bp) (h.bt.gW fun b hb=>hh b (h.env.bm hb));unfold Rv at hr;exact go_sound 4000 _ _ hk E _ w' (bh cm hd (.v y) v (by unfold Rv;exact hr))
end
end Dv
end Go.Proofs.YtfdedoiiahbnnaaGreat
namespace Go.Proofs.YtfdedoiiahbnnaaGreat
namespace Dv
open Go Go.RowKit
def OD (bx:List (List DV)) (N m:Nat) (sl:List (Nat × Sl)):List (Nat × Sl)->Prop
 | []=>True
 | p :: r=>(∃ x,get sl p.1=some ⟨p.2.gs,x⟩/\Cc bx N N m p.2.s x)/\OD bx N m sl r
theorem z7 {bx:List (List DV)} {N m:Nat} {sl:List (Nat × Sl)}:∀ {l:List (Nat × Sl)},OD bx N m sl l->∀ i x',get l i=some x' -> ∃ x,get sl i=some ⟨x'.gs,x⟩/\Cc bx N N m x'.s x
 | [],_,i,x',hx=>by cases hx
 | (k,y) :: r,h,i,x',hx=>by
  simp only [dx] at hx;split at hx
  ·rename_i ue;subst ue;simp only [oI] at hx;subst hx;exact h.1
  ·exact z7 h.2 i x' hx
section
variable {X:Ctx} {E:En} {st st':St} {a:Act} {w:World} {k:List It}
theorem JI (h:Rel X E st a w) (N:Nat) (hN:X.n0<=N) (hNl:N<=st.bx.length) (kN:kZ st.bx N N st.tk.length st'.bx (st.bx.take N)) (gj:st'.tk=st.tk) (v8:OD st.bx N st.tk.length st.sl st'.sl):∃ E',Rel X E' st' a w:=by
 obtain ⟨r,Xn,hβl⟩:=h.nw.β;have hlen:E.β.length=st.bx.length:=h.env.len
 have dB:∀ (i:Nat) b,X.n0<=i->E.β[i]? = some b->b∈r:=fun i b hi hb=>by
  rw [Xn,List.getElem?_append_right (by rw [X.tX];exact hi)] at hb;exact mG hb
 let E':En:=⟨sE E N w,E.β.take N,E.tk,E.τ⟩
 have S3:NN E E' st.bx N:={
  c:=fun x u hx=>mN h.env hx
  fz:=fun i cs hi cx=>by
   obtain ⟨b,ty,arr,hb,hw,hc⟩:=h.env.dY i cs cx;refine ⟨b,arr,hb,hc,fun j u hj=>?_⟩;show sE E N w ⟨b,j,none⟩=some u;unfold sE;rw [ah ⟨i,hi,hb⟩,cJ hw]
   simpa using hj }
 have Cb:Jz E E' N st.tk.length:={
  β:=fun i b hi hb=>by show (E.β.take N)[i]? = _;rw [cQ,ah hi];exact hb
  tk:=fun k hk=>⟨rfl,rfl⟩ }
 have Xo:∀ (i:Nat) b,N<=i->E.β[i]? = some b->b ∉ E.β.take N:=fun i b hi hb hm=>by
  obtain ⟨j,hj⟩:=List.getElem?_of_mem hm;rw [cQ] at hj;split at hj
  ·rename_i hjN;have:=(List.getElem?_inj (gS hb).1 h.env.inj).1 (hb.trans hj.symm);omega
  ·cases hj
 obtain ⟨mB,hog⟩:=kN.get;refine ⟨E',?_⟩
 exact {
  env:={
   len:=by grind
   tl:=h.env.tl
   dY:=fun i cs' hi=>by
    obtain ⟨cs,cx,pJ⟩:=hog i cs' hi;rw [cQ] at cx;split at cx
    ·rename_i aE;obtain ⟨b,ty,arr,hb,hw,hc⟩:=h.env.dY i cs cx;exact ⟨b,ty,arr,Cb.β i b aE hb,hw,CcL.sound S3 Cb pJ hc.1,hc.2⟩
    ·cases cx
   inj:=h.env.inj.sublist (List.take_sublist _ _)
   sub:=fun x u hx=>by
    rcases eL hx with ⟨_,h1⟩ | h1
    ·exact h1
    ·exact h.env.sub x u h1
   pc:=fun x u hx hm=>by
    rcases eL hx with ⟨⟨i,hi,hb⟩,_⟩ | h1
    ·exact Xo i _ hi hb hm
    ·exact h.env.pc x u h1 (List.mem_of_mem_take hm)
   c9:=fun k q y hq hy=>by
    rcases h.env.c9 k q y hq hy with h1 | ⟨g,cap,cur,rfl,h1,h2,h3,h4,h5,h6⟩
    ·exact .inl h1
    ·refine .inr ⟨g,cap,cur,rfl,h1,⟨h2.1,h2.2.mono fun _ _ hx=>mN h.env hx⟩,h3,h4,fun hm=>h5 (List.mem_of_mem_take hm),fun x u hx hg=>?_⟩;rcases eL hx with ⟨⟨i,hi,hb⟩,_⟩ | h7
     all_goals grind
   iB:=h.env.iB }
  tk:=by rw [gj];exact h.tk
  sz:=h.sz
  tm:=fun i x' zQ=>by
   obtain ⟨x,hx,pJ⟩:=z7 v8 i x' zQ;have:=h.tm i _ hx
   grind [Cc.sound]
  df:=h.df
  nw:={
   c:=fun x u hx=>mN h.env (h.nw.c x u hx)
   cn:=fun x u hx=>by
    rcases eL hx with ⟨⟨i,hi,hb⟩,_⟩ | h1
    ·grind
    ·exact h.nw.cn x u h1
   β:=by
    refine ⟨r.take (N - X.n0),?_,fun b hb=>hβl b (List.mem_of_mem_take hb)⟩;show E.β.take N=_;rw [Xn,List.take_append,List.take_of_length_le (by rw [X.tX];omega),X.tX]
   tk:=h.nw.tk
   tn:=h.nw.tn
   l0:=h.nw.l0 }
  fr:=h.fr
  sh:=h.sh
  bt:=h.bt.sub _ }
theorem OE {c:Code} (N:Nat) (sj:St) (hN:Nat.ble X.n0 N=true) (hNl:Nat.ble N st.bx.length=true) (gj:sj.tk=st.tk) (kN:kZ st.bx N N st.tk.length sj.bx (st.bx.take N)) (v8:OD st.bx N st.tk.length st.sl sj.sl)
  (hk:tY X c k sj):tY X c k st:=by
 intro E a w h;obtain ⟨E',h'⟩:=JI h N (nL hN) (nL hNl) kN gj v8;exact hk E' a w h'
theorem jG {n0 m0:Nat} {st st':St} (n:Nat) (q:TkE) (hq:q.new=true) (hn:Nat.ble n st.bx.length=true) (h3:st.tk ++ [q]=st'.tk) (h2:WeLL n st.tk.length st'.tk (st.bx.take n) st'.bx) (h4:Nat.ble n0 n=true) (h5:Nat.ble m0 st.tk.length=true)
  (h:lO n st.tk.length st'.tk st.sl st'.sl):pz n0 m0 st st':=by
 have hl:(st.bx.take n).length=n:=by simp_all
 exact ⟨st.tk,[],[q],st.bx.take n,st.bx.drop n,by simpa using h5,by rw [hl];simpa using h4,by simp,h3.symm,by simpa using hq,(List.take_append_drop n st.bx).symm,by rw [hl];exact h2,by rw [hl];exact h⟩
end
end Dv
end Go.Proofs.YtfdedoiiahbnnaaGreat
namespace Go.Proofs.YtfdedoiiahbnnaaGreat
namespace Dv
open Go Go.RowKit
section
variable {X:Ctx} {st:St} {k:List It} {E:En} {a:Act} {w:World}
theorem mQ {f:FuncId} {rest OG cs cs':List DV} {i d:Nat} (gh:Enters X.P f) (hd:eV X.nt st.sl (some d)=true) (kN:st.bx[i]? = some cs) (cx:CcL [] 0 0 0 cs' cs) (ha:CcL [] 0 0 0 OG rest)
  {Φ:DV->List (List DV)->List TkE->Prop} (hc:Ev X.P f (.loc 0 0 :: OG) [cs'] [] Φ) (fD:∀ r os tk,Φ r os tk->clB 0 0 r=true/\∀ sk∈os,clB.clL 0 0 sk=true)
  (hk:∀ r sk,Φ r [sk] []->go X 4000 k ⟨(d,⟨[],r⟩) :: st.sl,st.bx.set i sk,st.tk⟩) (bp:X.still=false:=by exact rfl) (hX:X.bt=[]:=by exact rfl):CallG X f (.loc i 0 :: rest) (some d) k st:=by
 refine ⟨gh,bp,fun E a w vs h hv=>?_⟩;simp only [RvL] at hv;obtain ⟨v1,vr,rfl,h1,hvr⟩:=hv;unfold Rv at h1;obtain ⟨b,hb,rfl⟩:=h1;obtain ⟨b',ty,arr,ef,hw,pJ⟩:=h.env.dY i cs kN;rw [hb] at ef;simp only [oI] at ef;subst ef;have z8:b∈E.β:=mG hb;have XI:=h.env.bm z8
 let E1:En:=⟨E.c,[b],[],[]⟩
 have hx1:Ext E.cl E1:=⟨fun _ _ h=>h,fun j b hj=>by simp [En.cl] at hj,fun k q hk=>by simp [En.cl] at hk⟩;have hfz:NN E E.cl [] 0:=⟨fun _ _ h=>h,fun i cs _ hi=>by simp at hi⟩
 have hE1:Env E1 [cs'] w:={
  len:=rfl
  tl:=rfl
  dY:=fun j Th hj=>by
   cases j with
   | succ j=>simp at hj
   | zero=>
    simp only [List.getElem?_cons_zero,oI] at hj;subst hj;refine ⟨b,ty,arr,rfl,hw,RvL.mono hx1 (CcL.sound hfz (Jz.zero _ _) cx pJ.1),pJ.2⟩
  inj:=by simp [E1]
  sub:=h.env.sub
  pc:=fun x v hx hm=>by
   simp only [E1,List.mem_singleton] at hm;exact h.env.pc x v hx (by rw [hm];exact z8)
  c9:=by simp [E1]
  iB:=by simp [E1] }
 have Dy:RvL E1 (.loc 0 0 :: OG) (.pointer (some ⟨b,0,none⟩) :: vr):=rvL_cons (by unfold Rv;exact ⟨b,rfl,rfl⟩) (RvL.mono hx1 (CcL.sound hfz (Jz.zero _ _) ha hvr));refine (hc E1 w _ hE1 rfl Dy).mono ?_;rintro e w' ⟨v,rfl,hm,_,r,os,E2,he,hβ,gj,hn,Xr,hΦ⟩;have ht0:E2.tk=[]:=List.eq_nil_of_length_eq_zero gj;rw [ht0] at hΦ
 obtain ⟨sk,rfl⟩:∃ sk,os=[sk]:=by
  have:=he.len;rw [hβ] at this
  match os,this with
  | [x],_=>exact ⟨x,rfl⟩
 obtain ⟨hclr,hclc⟩:=fD _ _ _ hΦ
 have hh:∀ j,j < w.heap.size->j≠b->w'.heap[j]? = w.heap[j]?:=fun j hj bo=>hm.block j hj (by
  rintro (h1 | ⟨y,h1,_⟩)
  ·simp only [E1,List.mem_singleton] at h1;exact bo h1
  ·simp [E1] at h1)
 have dB:∀ x v,E2.c x=some v->E.c x=some v∨w.heap.size<=x.block:=fun x v hx=>by
  rcases hn.cn x v hx with h1 | h1 | ⟨y,h1,_⟩
  ·exact .inl h1
  ·exact .inr h1
  ·simp [E1] at h1
 let E':En:=⟨E2.c,E.β,E.tk,E.τ⟩
 have hx:Ext E E':=⟨hn.c,fun _ _ h=>h,fun _ q h=>⟨q,h,.inl ⟨rfl,rfl⟩⟩⟩;have Aa:Ext (E2.cut 0 0) E':=⟨fun _ _ h=>h,fun j b hj=>by simp [En.cut] at hj,fun k q hk=>by simp [En.cut] at hk⟩
 have cm:Rel X E' ⟨st.sl,st.bx.set i sk,st.tk⟩ a w':=by
  refine dr h hx ?_ h.tk ?_ (h.fr.cu hm.os hm.tape hm.output hm.size fun j hj=>?_) (mJ bp) (.nil hX)
  ·exact {
    len:=by rw [List.length_set];exact h.env.len
    tl:=h.env.tl
    dY:=fun j Th hj=>by
     by_cases Xh:j=i
     ·subst Xh;rw [j5 (gS kN).1] at hj;simp only [oI] at hj;subst hj;obtain ⟨b2,ty2,XJ,iW,lL,qU⟩:=he.dY 0 sk rfl;rw [hβ] at iW;simp only [E1,List.getElem?_cons_zero,oI] at iW;subst iW;exact ⟨b,ty2,XJ,hb,lL,RvL.mono Aa (RvL.cut qU.1 (hclc sk (by simp))),qU.2⟩
     ·rw [List.getElem?_set_ne (Ne.symm Xh)] at hj;obtain ⟨bj,tyj,XK,Vu,hwj,Xa⟩:=h.env.dY j Th hj
      have bo:bj≠b:=by
       rintro rfl;exact Xh ((List.getElem?_inj (gS Vu).1 h.env.inj).1 (Vu.trans hb.symm))
      exact ⟨bj,tyj,XK,Vu,by rw [hh bj (dq hwj) bo];exact hwj,Xa.mono hx⟩
    inj:=h.env.inj
    sub:=he.sub
    pc:=fun x v hc mA=>by
     rcases dB x v hc with h1 | h1
     ·exact h.env.pc x v h1 mA
     ·have:=h.env.bm mA;omega
    c9:=fun k q y hq hy=>by
     rcases h.env.c9 k q y hq hy with h1 | ⟨g',cap,cur,rfl,h1,h2,h3,h4,h5,h6⟩
     ·exact .inl h1
     ·refine .inr ⟨g',cap,cur,rfl,by rw [hh g' (dq h1) (fun e=>h5 (by rw [e];exact z8))];exact h1,⟨h2.1,h2.2.mono hn.c⟩,h3,h4,h5,fun x v hc hg=>?_⟩;rcases dB x v hc with h7 | h7
      ·exact h6 x v h7 hg
      ·have:=dq h1;omega
    iB:=h.env.iB }
  ·exact {
    c:=fun x v hc=>hn.c x v (h.nw.c x v hc)
    cn:=fun x v hc=>by
     rcases dB x v hc with h1 | h1
     ·exact h.nw.cn x v h1
     ·have:=h.fr.size;exact .inr (.inl (by omega))
    β:=h.nw.β
    tk:=h.nw.tk
    tn:=h.nw.tn
    l0:=h.nw.l0 }
  ·by_cases Xb:j=b
   ·left;obtain ⟨r0,hr0,zm⟩:=h.nw.β;rw [hr0] at z8;rcases List.mem_append.1 z8 with z8 | z8
    ·exact .inl (.inl (Xb ▸ z8))
    ·exact .inr (Xb ▸ zm b z8)
   ·exact .inr (hh j hj Xb)
 exact go_sound 4000 _ _ (hk r sk hΦ) E' _ w' (bh cm hd r v (Rv.mono Aa (Rv.cut Xr hclr)))
end
end Dv
end Go.Proofs.YtfdedoiiahbnnaaGreat
namespace Go.Proofs.YtfdedoiiahbnnaaGreat
namespace Dv
open Go
def tt:TT:=.aj 210 ⟨1,false,.sl 29 1 24,[.slice none 0 0]⟩ (.aj 105 ⟨1,false,.sl 36 9 112,[.slice none 0 0]⟩ (.aj 51 ⟨4,true,.st [(0,29),(1,49),(2,50),(3,3)],[.slice none 0 0,.slice none 0 0,.slice none 0 0,.int .i64 0]⟩ (.aj 24 ⟨1,false,.int .i64,[.int .i64 0]⟩ (.aj 12 ⟨1,false,.int .u64,[.int .u64 0]⟩ (.aj 6 ⟨1,false,.int .u8,[.int .u8 0]⟩ (.aj 3 ⟨1,false,.int .i64,[.int .i64 0]⟩ (.aj 2 ⟨1,false,.int .i64,[.int .i64 0]⟩ (.aj 1 ⟨1,false,.fn,[.nilFunc]⟩ (.nil) (.nil)) (.nil)) (.aj 5 ⟨1,false,.int .u8,[.int .u8 0]⟩ (.aj 4 ⟨1,false,.bool,[.bool false]⟩ (.nil) (.nil)) (.nil))) (.aj 9 ⟨1,false,.str,[.string ByteArray.empty]⟩ (.aj 8 ⟨4,true,.st [(0,2),(1,3),(2,4),(3,6)],[.int .i64 0,.int .i64 0,.bool false,.int .u8 0]⟩ (.aj 7 ⟨4,true,.st [(0,2),(1,3),(2,4),(3,6)],[.int .i64 0,.int .i64 0,.bool false,.int .u8 0]⟩ (.nil) (.nil)) (.nil)) (.aj 11 ⟨1,false,.str,[.string ByteArray.empty]⟩ (.aj 10 ⟨1,false,.str,[.string ByteArray.empty]⟩ (.nil) (.nil)) (.nil)))) (.aj 18 ⟨1,true,.st [(0,17)],[.pointer none]⟩ (.aj 15 ⟨1,false,.ptr 418,[.pointer none]⟩ (.aj 14 ⟨2,true,.st [(0,9),(1,12)],[.string ByteArray.empty,.int .u64 0]⟩ (.aj 13 ⟨2,true,.st [(0,9),(1,12)],[.string ByteArray.empty,.int .u64 0]⟩ (.nil) (.nil)) (.nil)) (.aj 17 ⟨1,false,.ptr 428,[.pointer none]⟩ (.aj 16 ⟨1,false,.ptr 421,[.pointer none]⟩ (.nil) (.nil)) (.nil))) (.aj 21 ⟨1,false,.int .i32,[.int .i32 0]⟩ (.aj 20 ⟨1,false,.pY,[.nilIface]⟩ (.aj 19 ⟨1,true,.st [(0,17)],[.pointer none]⟩ (.nil) (.nil)) (.nil)) (.aj 23 ⟨1,false,.ptr 129,[.pointer none]⟩ (.aj 22 ⟨1,false,.fn,[.nilFunc]⟩ (.nil) (.nil)) (.nil))))) (.aj 37 ⟨12,true,.st [(0,29),(1,30),(2,31),(3,36)],[.slice none 0 0,.slice none 0 0,.slice none 0 0,.int .i64 0,.int .i64 0,.int .i64 0,.int .i64 0,.int .i64 0,.slice none 0 0,.slice none 0 0,.string ByteArray.empty,.int .i64 0]⟩ (.aj 31 ⟨1,false,.sl 93 11 136,[.slice none 0 0]⟩ (.aj 28 ⟨1,false,.fn,[.nilFunc]⟩ (.aj 26 ⟨2,true,.st [(0,24),(1,3)],[.int .i64 0,.int .i64 0]⟩ (.aj 25 ⟨2,true,.st [(0,24),(1,3)],[.int .i64 0,.int .i64 0]⟩ (.nil) (.nil)) (.nil)) (.aj 30 ⟨1,false,.sl 122 4 48,[.slice none 0 0]⟩ (.aj 29 ⟨1,false,.sl 34 2 24,[.slice none 0 0]⟩ (.nil) (.nil)) (.nil))) (.aj 34 ⟨2,true,.st [(0,9),(1,3)],[.string ByteArray.empty,.int .i64 0]⟩ (.aj 33 ⟨2,true,.st [(0,9),(1,3)],[.string ByteArray.empty,.int .i64 0]⟩ (.aj 32 ⟨1,false,.sl 133 18 224,[.slice none 0 0]⟩ (.nil) (.nil)) (.nil)) (.aj 36 ⟨9,true,.st [(0,3),(1,3),(2,3),(3,3),(4,3),(5,29),(6,32),(7,34)],[.int .i64 0,.int .i64 0,.int .i64 0,.int .i64 0,.int .i64 0,.slice none 0 0,.slice none 0 0,.string ByteArray.empty,.int .i64 0]⟩ (.aj 35 ⟨9,true,.st [(0,3),(1,3),(2,3),(3,3),(4,3),(5,29),(6,32),(7,34)],[.int .i64 0,.int .i64 0,.int .i64 0,.int .i64 0,.int .i64 0,.slice none 0 0,.slice none 0 0,.string ByteArray.empty,.int .i64 0]⟩ (.nil) (.nil)) (.nil)))) (.aj 44 ⟨1,false,.fn,[.nilFunc]⟩ (.aj 41 ⟨1,false,.fn,[.nilFunc]⟩ (.aj 40 ⟨1,false,.fn,[.nilFunc]⟩ (.aj 38 ⟨12,true,.st [(0,29),(1,30),(2,31),(3,36)],[.slice none 0 0,.slice none 0 0,.slice none 0 0,.int .i64 0,.int .i64 0,.int .i64 0,.int .i64 0,.int .i64 0,.slice none 0 0,.slice none 0 0,.string ByteArray.empty,.int .i64 0]⟩ (.nil) (.nil)) (.nil)) (.aj 43 ⟨1,false,.fn,[.nilFunc]⟩ (.aj 42 ⟨1,false,.fn,[.nilFunc]⟩ (.nil) (.nil)) (.nil))) (.aj 48 ⟨1,false,.fn,[.nilFunc]⟩ (.aj 47 ⟨1,false,.fn,[.nilFunc]⟩ (.aj 46 ⟨1,false,.fn,[.nilFunc]⟩ (.nil) (.nil)) (.nil)) (.aj 50 ⟨1,false,.sl 87 7 88,[.slice none 0 0]⟩ (.aj 49 ⟨1,false,.sl 183 1 24,[.slice none 0 0]⟩ (.nil) (.nil)) (.nil)))))) (.aj 79 ⟨1,false,.sl 9 1 16,[.slice none 0 0]⟩ (.aj 65 ⟨6,true,.st [(0,61),(4,26)],[.int .i64 0,.int .i64 0,.string ByteArray.empty,.slice none 0 0,.int .i64 0,.int .i64 0]⟩ (.aj 58 ⟨1,false,.fn,[.nilFunc]⟩ (.aj 54 ⟨1,false,.fn,[.nilFunc]⟩ (.aj 53 ⟨1,false,.fn,[.nilFunc]⟩ (.aj 52 ⟨4,true,.st [(0,29),(1,49),(2,50),(3,3)],[.slice none 0 0,.slice none 0 0,.slice none 0 0,.int .i64 0]⟩ (.nil) (.nil)) (.nil)) (.aj 56 ⟨1,false,.fn,[.nilFunc]⟩ (.aj 55 ⟨1,false,.fn,[.nilFunc]⟩ (.nil) (.nil)) (.nil))) (.aj 61 ⟨4,true,.st [(0,3),(1,3),(2,9),(3,59)],[.int .i64 0,.int .i64 0,.string ByteArray.empty,.slice none 0 0]⟩ (.aj 60 ⟨4,true,.st [(0,3),(1,3),(2,9),(3,59)],[.int .i64 0,.int .i64 0,.string ByteArray.empty,.slice none 0 0]⟩ (.aj 59 ⟨1,false,.sl 61 4 56,[.slice none 0 0]⟩ (.nil) (.nil)) (.nil)) (.aj 64 ⟨6,true,.st [(0,61),(4,26)],[.int .i64 0,.int .i64 0,.string ByteArray.empty,.slice none 0 0,.int .i64 0,.int .i64 0]⟩ (.aj 63 ⟨1,false,.fn,[.nilFunc]⟩ (.nil) (.nil)) (.nil)))) (.aj 72 ⟨1,false,.fn,[.nilFunc]⟩ (.aj 68 ⟨1,false,.sl 70 6 88,[.slice none 0 0]⟩ (.aj 67 ⟨1,false,.fn,[.nilFunc]⟩ (.aj 66 ⟨1,false,.fn,[.nilFunc]⟩ (.nil) (.nil)) (.nil)) (.aj 70 ⟨6,true,.st [(0,3),(1,3),(2,3),(3,9),(4,29),(5,68)],[.int .i64 0,.int .i64 0,.int .i64 0,.string ByteArray.empty,.slice none 0 0,.slice none 0 0]⟩ (.aj 69 ⟨6,true,.st [(0,3),(1,3),(2,3),(3,9),(4,29),(5,68)],[.int .i64 0,.int .i64 0,.int .i64 0,.string ByteArray.empty,.slice none 0 0,.slice none 0 0]⟩ (.nil) (.nil)) (.nil))) (.aj 75 ⟨1,false,.fn,[.nilFunc]⟩ (.aj 74 ⟨1,false,.fn,[.nilFunc]⟩ (.aj 73 ⟨1,false,.fn,[.nilFunc]⟩ (.nil) (.nil)) (.nil)) (.aj 78 ⟨1,false,.fn,[.nilFunc]⟩ (.aj 77 ⟨1,false,.fn,[.nilFunc]⟩ (.nil) (.nil)) (.nil))))) (.aj 92 ⟨11,true,.st [(0,34),(2,36)],[.string ByteArray.empty,.int .i64 0,.int .i64 0,.int .i64 0,.int .i64 0,.int .i64 0,.int .i64 0,.slice none 0 0,.slice none 0 0,.string ByteArray.empty,.int .i64 0]⟩ (.aj 86 ⟨7,true,.st [(0,3),(1,3),(2,3),(3,3),(4,3),(5,79),(6,85)],[.int .i64 0,.int .i64 0,.int .i64 0,.int .i64 0,.int .i64 0,.slice none 0 0,.slice none 0 0]⟩ (.aj 82 ⟨7,true,.st [(0,3),(1,3),(2,3),(3,3),(4,3),(5,79),(6,80)],[.int .i64 0,.int .i64 0,.int .i64 0,.int .i64 0,.int .i64 0,.slice none 0 0,.slice none 0 0]⟩ (.aj 81 ⟨7,true,.st [(0,3),(1,3),(2,3),(3,3),(4,3),(5,79),(6,80)],[.int .i64 0,.int .i64 0,.int .i64 0,.int .i64 0,.int .i64 0,.slice none 0 0,.slice none 0 0]⟩ (.aj 80 ⟨1,false,.sl 90 10 88,[.slice none 0 0]⟩ (.nil) (.nil)) (.nil)) (.aj 85 ⟨1,false,.sl 89 10 88,[.slice none 0 0]⟩ (.aj 84 ⟨1,false,.fn,[.nilFunc]⟩ (.nil) (.nil)) (.nil))) (.aj 89 ⟨10,true,.st [(0,9),(1,4),(2,3),(3,3),(4,3),(5,3),(6,3),(7,3),(8,3),(9,3)],[.string ByteArray.empty,.bool false,.int .i64 0,.int .i64 0,.int .i64 0,.int .i64 0,.int .i64 0,.int .i64 0,.int .i64 0,.int .i64 0]⟩ (.aj 88 ⟨10,true,.st [(0,9),(1,4),(2,3),(3,3),(4,3),(5,3),(6,3),(7,3),(8,3),(9,3)],[.string ByteArray.empty,.bool false,.int .i64 0,.int .i64 0,.int .i64 0,.int .i64 0,.int .i64 0,.int .i64 0,.int .i64 0,.int .i64 0]⟩ (.aj 87 ⟨7,true,.st [(0,3),(1,3),(2,3),(3,3),(4,3),(5,79),(6,85)],[.int .i64 0,.int .i64 0,.int .i64 0,.int .i64 0,.int .i64 0,.slice none 0 0,.slice none 0 0]⟩ (.nil) (.nil)) (.nil)) (.aj 91 ⟨1,false,.fn,[.nilFunc]⟩ (.aj 90 ⟨10,true,.st [(0,9),(1,4),(2,3),(3,3),(4,3),(5,3),(6,3),(7,3),(8,3),(9,3)],[.string ByteArray.empty,.bool false,.int .i64 0,.int .i64 0,.int .i64 0,.int .i64 0,.int .i64 0,.int .i64 0,.int .i64 0,.int .i64 0]⟩ (.nil) (.nil)) (.nil)))) (.aj 98 ⟨1,false,.fn,[.nilFunc]⟩ (.aj 95 ⟨1,false,.fn,[.nilFunc]⟩ (.aj 94 ⟨1,false,.fn,[.nilFunc]⟩ (.aj 93 ⟨11,true,.st [(0,34),(2,36)],[.string ByteArray.empty,.int .i64 0,.int .i64 0,.int .i64 0,.int .i64 0,.int .i64 0,.int .i64 0,.slice none 0 0,.slice none 0 0,.string ByteArray.empty,.int .i64 0]⟩ (.nil) (.nil)) (.nil)) (.aj 97 ⟨1,false,.fn,[.nilFunc]⟩ (.aj 96 ⟨1,false,.sl 3 1 8,[.slice none 0 0]⟩ (.nil) (.nil)) (.nil))) (.aj 102 ⟨1,false,.fn,[.nilFunc]⟩ (.aj 100 ⟨1,false,.fn,[.nilFunc]⟩ (.aj 99 ⟨1,false,.ptr 190,[.pointer none]⟩ (.nil) (.nil)) (.nil)) (.aj 104 ⟨1,false,.fn,[.nilFunc]⟩ (.aj 103 ⟨1,false,.fn,[.nilFunc]⟩ (.nil) (.nil)) (.nil))))))) (.aj 157 ⟨1,false,.fn,[.nilFunc]⟩ (.aj 130 ⟨4,true,.st [(0,3),(1,3),(2,3),(3,29)],[.int .i64 0,.int .i64 0,.int .i64 0,.slice none 0 0]⟩ (.aj 118 ⟨1,false,.fn,[.nilFunc]⟩ (.aj 111 ⟨1,false,.sl 5 1 1,[.slice none 0 0]⟩ (.aj 108 ⟨1,false,.fn,[.nilFunc]⟩ (.aj 107 ⟨1,false,.fn,[.nilFunc]⟩ (.aj 106 ⟨1,false,.fn,[.nilFunc]⟩ (.nil) (.nil)) (.nil)) (.aj 110 ⟨1,false,.ptr 113,[.pointer none]⟩ (.aj 109 ⟨1,false,.fn,[.nilFunc]⟩ (.nil) (.nil)) (.nil))) (.aj 114 ⟨1,false,.pY,[.nilIface]⟩ (.aj 113 ⟨2,true,.st [(0,110),(1,111)],[.pointer none,.slice none 0 0]⟩ (.aj 112 ⟨2,true,.st [(0,110),(1,111)],[.pointer none,.slice none 0 0]⟩ (.nil) (.nil)) (.nil)) (.aj 117 ⟨1,false,.fn,[.nilFunc]⟩ (.aj 115 ⟨1,false,.pY,[.nilIface]⟩ (.nil) (.nil)) (.nil)))) (.aj 124 ⟨1,false,.fn,[.nilFunc]⟩ (.aj 121 ⟨4,true,.st [(0,34),(2,34)],[.string ByteArray.empty,.int .i64 0,.string ByteArray.empty,.int .i64 0]⟩ (.aj 120 ⟨1,false,.fn,[.nilFunc]⟩ (.aj 119 ⟨1,false,.fn,[.nilFunc]⟩ (.nil) (.nil)) (.nil)) (.aj 123 ⟨1,false,.fn,[.nilFunc]⟩ (.aj 122 ⟨4,true,.st [(0,34),(2,34)],[.string ByteArray.empty,.int .i64 0,.string ByteArray.empty,.int .i64 0]⟩ (.nil) (.nil)) (.nil))) (.aj 127 ⟨1,false,.ptr 284,[.pointer none]⟩ (.aj 126 ⟨1,false,.sl 82 7 88,[.slice none 0 0]⟩ (.aj 125 ⟨1,false,.fn,[.nilFunc]⟩ (.nil) (.nil)) (.nil)) (.aj 129 ⟨5,true,.st [(0,99),(1,126),(2,3),(3,127),(4,96)],[.pointer none,.slice none 0 0,.int .i64 0,.pointer none,.slice none 0 0]⟩ (.aj 128 ⟨5,true,.st [(0,99),(1,126),(2,3),(3,127),(4,96)],[.pointer none,.slice none 0 0,.int .i64 0,.pointer none,.slice none 0 0]⟩ (.nil) (.nil)) (.nil))))) (.aj 144 ⟨1,false,.fn,[.nilFunc]⟩ (.aj 137 ⟨15,true,.st [(0,38),(12,99),(13,23),(14,3)],[.slice none 0 0,.slice none 0 0,.slice none 0 0,.int .i64 0,.int .i64 0,.int .i64 0,.int .i64 0,.int .i64 0,.slice none 0 0,.slice none 0 0,.string ByteArray.empty,.int .i64 0,.pointer none,.pointer none,.int .i64 0]⟩ (.aj 133 ⟨18,true,.st [(0,34),(2,4),(3,29),(4,3),(5,131),(9,36)],[.string ByteArray.empty,.int .i64 0,.bool false,.slice none 0 0,.int .i64 0,.int .i64 0,.int .i64 0,.int .i64 0,.slice none 0 0,.int .i64 0,.int .i64 0,.int .i64 0,.int .i64 0,.int .i64 0,.slice none 0 0,.slice none 0 0,.string ByteArray.empty,.int .i64 0]⟩ (.aj 132 ⟨18,true,.st [(0,34),(2,4),(3,29),(4,3),(5,131),(9,36)],[.string ByteArray.empty,.int .i64 0,.bool false,.slice none 0 0,.int .i64 0,.int .i64 0,.int .i64 0,.int .i64 0,.slice none 0 0,.int .i64 0,.int .i64 0,.int .i64 0,.int .i64 0,.int .i64 0,.slice none 0 0,.slice none 0 0,.string ByteArray.empty,.int .i64 0]⟩ (.aj 131 ⟨4,true,.st [(0,3),(1,3),(2,3),(3,29)],[.int .i64 0,.int .i64 0,.int .i64 0,.slice none 0 0]⟩ (.nil) (.nil)) (.nil)) (.aj 136 ⟨1,false,.ptr 138,[.pointer none]⟩ (.aj 135 ⟨1,false,.fn,[.nilFunc]⟩ (.nil) (.nil)) (.nil))) (.aj 140 ⟨1,false,.fn,[.nilFunc]⟩ (.aj 139 ⟨1,false,.fn,[.nilFunc]⟩ (.aj 138 ⟨15,true,.st [(0,38),(12,99),(13,23),(14,3)],[.slice none 0 0,.slice none 0 0,.slice none 0 0,.int .i64 0,.int .i64 0,.int .i64 0,.int .i64 0,.int .i64 0,.slice none 0 0,.slice none 0 0,.string ByteArray.empty,.int .i64 0,.pointer none,.pointer none,.int .i64 0]⟩ (.nil) (.nil)) (.nil)) (.aj 142 ⟨1,false,.fn,[.nilFunc]⟩ (.aj 141 ⟨1,false,.fn,[.nilFunc]⟩ (.nil) (.nil)) (.nil)))) (.aj 150 ⟨1,false,.fn,[.nilFunc]⟩ (.aj 147 ⟨1,false,.fn,[.nilFunc]⟩ (.aj 146 ⟨1,false,.fn,[.nilFunc]⟩ (.aj 145 ⟨1,false,.fn,[.nilFunc]⟩ (.nil) (.nil)) (.nil)) (.aj 149 ⟨1,false,.fn,[.nilFunc]⟩ (.aj 148 ⟨1,false,.fn,[.nilFunc]⟩ (.nil) (.nil)) (.nil))) (.aj 154 ⟨1,true,.st [(0,151)],[.pointer none]⟩ (.aj 153 ⟨1,false,.fn,[.nilFunc]⟩ (.aj 151 ⟨1,false,.ptr 244,[.pointer none]⟩ (.nil) (.nil)) (.nil)) (.aj 156 ⟨1,false,.fn,[.nilFunc]⟩ (.aj 155 ⟨1,true,.st [(0,151)],[.pointer none]⟩ (.nil) (.nil)) (.nil)))))) (.aj 183 ⟨1,false,.sl 4 1 1,[.slice none 0 0]⟩ (.aj 171 ⟨1,false,.fn,[.nilFunc]⟩ (.aj 163 ⟨1,false,.sl 218 5 48,[.slice none 0 0]⟩ (.aj 160 ⟨1,false,.fn,[.nilFunc]⟩ (.aj 159 ⟨1,false,.fn,[.nilFunc]⟩ (.aj 158 ⟨1,false,.fn,[.nilFunc]⟩ (.nil) (.nil)) (.nil)) (.aj 162 ⟨1,false,.fn,[.nilFunc]⟩ (.aj 161 ⟨1,false,.fn,[.nilFunc]⟩ (.nil) (.nil)) (.nil))) (.aj 167 ⟨3,true,.st [(0,163),(1,26)],[.slice none 0 0,.int .i64 0,.int .i64 0]⟩ (.aj 166 ⟨3,true,.st [(0,163),(1,26)],[.slice none 0 0,.int .i64 0,.int .i64 0]⟩ (.aj 165 ⟨1,false,.fn,[.nilFunc]⟩ (.nil) (.nil)) (.nil)) (.aj 170 ⟨1,false,.fn,[.nilFunc]⟩ (.aj 169 ⟨1,false,.fn,[.nilFunc]⟩ (.nil) (.nil)) (.nil)))) (.aj 177 ⟨1,false,.fn,[.nilFunc]⟩ (.aj 174 ⟨1,false,.fn,[.nilFunc]⟩ (.aj 173 ⟨1,false,.fn,[.nilFunc]⟩ (.aj 172 ⟨1,false,.fn,[.nilFunc]⟩ (.nil) (.nil)) (.nil)) (.aj 176 ⟨1,false,.fn,[.nilFunc]⟩ (.aj 175 ⟨1,false,.fn,[.nilFunc]⟩ (.nil) (.nil)) (.nil))) (.aj 180 ⟨1,false,.fn,[.nilFunc]⟩ (.aj 179 ⟨3,true,.st [(0,26),(2,3)],[.int .i64 0,.int .i64 0,.int .i64 0]⟩ (.aj 178 ⟨3,true,.st [(0,26),(2,3)],[.int .i64 0,.int .i64 0,.int .i64 0]⟩ (.nil) (.nil)) (.nil)) (.aj 182 ⟨1,false,.fn,[.nilFunc]⟩ (.aj 181 ⟨1,false,.fn,[.nilFunc]⟩ (.nil) (.nil)) (.nil))))) (.aj 195 ⟨1,false,.fn,[.nilFunc]⟩ (.aj 189 ⟨2051,true,.st [(0,79),(1,127),(2,186),(3,188),(1027,188)],(.slice none 0 0 :: .pointer none :: .pointer none :: List.replicate 2048 (.int .i64 0))⟩ (.aj 186 ⟨1,false,.ptr 295,[.pointer none]⟩ (.aj 185 ⟨1,false,.fn,[.nilFunc]⟩ (.aj 184 ⟨1,false,.fn,[.nilFunc]⟩ (.nil) (.nil)) (.nil)) (.aj 188 ⟨1024,true,.ar 32 32,(List.replicate 1024 (.int .i64 0))⟩ (.aj 187 ⟨32,true,.ar 32 1,[.int .i64 0,.int .i64 0,.int .i64 0,.int .i64 0,.int .i64 0,.int .i64 0,.int .i64 0,.int .i64 0,.int .i64 0,.int .i64 0,.int .i64 0,.int .i64 0,.int .i64 0,.int .i64 0,.int .i64 0,.int .i64 0,.int .i64 0,.int .i64 0,.int .i64 0,.int .i64 0,.int .i64 0,.int .i64 0,.int .i64 0,.int .i64 0,.int .i64 0,.int .i64 0,.int .i64 0,.int .i64 0,.int .i64 0,.int .i64 0,.int .i64 0,.int .i64 0]⟩ (.nil) (.nil)) (.nil))) (.aj 192 ⟨1,false,.sl 285 2 16,[.slice none 0 0]⟩ (.aj 191 ⟨1,false,.fn,[.nilFunc]⟩ (.aj 190 ⟨2051,true,.st [(0,79),(1,127),(2,186),(3,188),(1027,188)],(.slice none 0 0 :: .pointer none :: .pointer none :: List.replicate 2048 (.int .i64 0))⟩ (.nil) (.nil)) (.nil)) (.aj 194 ⟨1,false,.fn,[.nilFunc]⟩ (.aj 193 ⟨1,false,.fn,[.nilFunc]⟩ (.nil) (.nil)) (.nil)))) (.aj 202 ⟨1,false,.fn,[.nilFunc]⟩ (.aj 198 ⟨1,false,.fn,[.nilFunc]⟩ (.aj 197 ⟨1,false,.fn,[.nilFunc]⟩ (.aj 196 ⟨1,false,.fn,[.nilFunc]⟩ (.nil) (.nil)) (.nil)) (.aj 201 ⟨1,false,.fn,[.nilFunc]⟩ (.aj 199 ⟨1,false,.ptr 5,[.pointer none]⟩ (.nil) (.nil)) (.nil))) (.aj 207 ⟨1,false,.fn,[.nilFunc]⟩ (.aj 206 ⟨1,false,.fn,[.nilFunc]⟩ (.aj 204 ⟨1,false,.fn,[.nilFunc]⟩ (.nil) (.nil)) (.nil)) (.aj 209 ⟨1,false,.fn,[.nilFunc]⟩ (.aj 208 ⟨1,false,.fn,[.nilFunc]⟩ (.nil) (.nil)) (.nil)))))))) (.aj 319 ⟨1,false,.fn,[.nilFunc]⟩ (.aj 266 ⟨1,false,.fn,[.nilFunc]⟩ (.aj 238 ⟨1,false,.fn,[.nilFunc]⟩ (.aj 223 ⟨1,false,.fn,[.nilFunc]⟩ (.aj 216 ⟨1,false,.fn,[.nilFunc]⟩ (.aj 213 ⟨1,false,.ptr 215,[.pointer none]⟩ (.aj 212 ⟨1,false,.fn,[.nilFunc]⟩ (.aj 211 ⟨1,false,.fn,[.nilFunc]⟩ (.nil) (.nil)) (.nil)) (.aj 215 ⟨2,true,.st [(0,151),(1,3)],[.pointer none,.int .i64 0]⟩ (.aj 214 ⟨2,true,.st [(0,151),(1,3)],[.pointer none,.int .i64 0]⟩ (.nil) (.nil)) (.nil))) (.aj 219 ⟨1,false,.fn,[.nilFunc]⟩ (.aj 218 ⟨5,true,.st [(0,3),(1,3),(2,3),(3,9),(4,3)],[.int .i64 0,.int .i64 0,.int .i64 0,.string ByteArray.empty,.int .i64 0]⟩ (.aj 217 ⟨5,true,.st [(0,3),(1,3),(2,3),(3,9),(4,3)],[.int .i64 0,.int .i64 0,.int .i64 0,.string ByteArray.empty,.int .i64 0]⟩ (.nil) (.nil)) (.nil)) (.aj 221 ⟨4,true,.st [(0,163),(1,3),(2,26)],[.slice none 0 0,.int .i64 0,.int .i64 0,.int .i64 0]⟩ (.aj 220 ⟨4,true,.st [(0,163),(1,3),(2,26)],[.slice none 0 0,.int .i64 0,.int .i64 0,.int .i64 0]⟩ (.nil) (.nil)) (.nil)))) (.aj 231 ⟨1,false,.fn,[.nilFunc]⟩ (.aj 227 ⟨1,false,.fn,[.nilFunc]⟩ (.aj 226 ⟨1,false,.fn,[.nilFunc]⟩ (.aj 225 ⟨1,false,.fn,[.nilFunc]⟩ (.nil) (.nil)) (.nil)) (.aj 230 ⟨1,false,.fn,[.nilFunc]⟩ (.aj 228 ⟨1,false,.fn,[.nilFunc]⟩ (.nil) (.nil)) (.nil))) (.aj 234 ⟨1,false,.fn,[.nilFunc]⟩ (.aj 233 ⟨1,false,.fn,[.nilFunc]⟩ (.aj 232 ⟨1,false,.fn,[.nilFunc]⟩ (.nil) (.nil)) (.nil)) (.aj 237 ⟨1,false,.fn,[.nilFunc]⟩ (.aj 235 ⟨1,false,.fn,[.nilFunc]⟩ (.nil) (.nil)) (.nil))))) (.aj 250 ⟨1,false,.fn,[.nilFunc]⟩ (.aj 244 ⟨5,true,.st [(0,163),(1,3),(2,3),(3,26)],[.slice none 0 0,.int .i64 0,.int .i64 0,.int .i64 0,.int .i64 0]⟩ (.aj 241 ⟨1,true,.st [(0,3)],[.int .i64 0]⟩ (.aj 240 ⟨1,true,.st [(0,3)],[.int .i64 0]⟩ (.aj 239 ⟨1,false,.ptr 241,[.pointer none]⟩ (.nil) (.nil)) (.nil)) (.aj 243 ⟨5,true,.st [(0,163),(1,3),(2,3),(3,26)],[.slice none 0 0,.int .i64 0,.int .i64 0,.int .i64 0,.int .i64 0]⟩ (.aj 242 ⟨1,false,.fn,[.nilFunc]⟩ (.nil) (.nil)) (.nil))) (.aj 247 ⟨1,false,.fn,[.nilFunc]⟩ (.aj 246 ⟨1,false,.fn,[.nilFunc]⟩ (.aj 245 ⟨1,false,.fn,[.nilFunc]⟩ (.nil) (.nil)) (.nil)) (.aj 249 ⟨1,false,.fn,[.nilFunc]⟩ (.aj 248 ⟨1,false,.fn,[.nilFunc]⟩ (.nil) (.nil)) (.nil)))) (.aj 257 ⟨1,false,.fn,[.nilFunc]⟩ (.aj 253 ⟨1,false,.fn,[.nilFunc]⟩ (.aj 252 ⟨1,false,.fn,[.nilFunc]⟩ (.aj 251 ⟨1,false,.fn,[.nilFunc]⟩ (.nil) (.nil)) (.nil)) (.aj 256 ⟨1,false,.fn,[.nilFunc]⟩ (.aj 255 ⟨1,false,.fn,[.nilFunc]⟩ (.nil) (.nil)) (.nil))) (.aj 262 ⟨1,false,.fn,[.nilFunc]⟩ (.aj 261 ⟨1,false,.fn,[.nilFunc]⟩ (.aj 259 ⟨1,false,.fn,[.nilFunc]⟩ (.nil) (.nil)) (.nil)) (.aj 265 ⟨1,false,.fn,[.nilFunc]⟩ (.aj 263 ⟨1,false,.fn,[.nilFunc]⟩ (.nil) (.nil)) (.nil)))))) (.aj 293 ⟨1,false,.sl 290 1 8,[.slice none 0 0]⟩ (.aj 280 ⟨1,false,.fn,[.nilFunc]⟩ (.aj 274 ⟨1,false,.fn,[.nilFunc]⟩ (.aj 271 ⟨1,false,.fn,[.nilFunc]⟩ (.aj 270 ⟨1,false,.fn,[.nilFunc]⟩ (.aj 268 ⟨1,false,.fn,[.nilFunc]⟩ (.nil) (.nil)) (.nil)) (.aj 273 ⟨1,false,.fn,[.nilFunc]⟩ (.aj 272 ⟨1,false,.fn,[.nilFunc]⟩ (.nil) (.nil)) (.nil))) (.aj 277 ⟨1,false,.fn,[.nilFunc]⟩ (.aj 276 ⟨1,false,.fn,[.nilFunc]⟩ (.aj 275 ⟨1,false,.fn,[.nilFunc]⟩ (.nil) (.nil)) (.nil)) (.aj 279 ⟨1,false,.fn,[.nilFunc]⟩ (.aj 278 ⟨1,false,.fn,[.nilFunc]⟩ (.nil) (.nil)) (.nil)))) (.aj 286 ⟨1,false,.fn,[.nilFunc]⟩ (.aj 283 ⟨2,true,.st [(0,79),(1,96)],[.slice none 0 0,.slice none 0 0]⟩ (.aj 282 ⟨1,false,.fn,[.nilFunc]⟩ (.aj 281 ⟨1,false,.fn,[.nilFunc]⟩ (.nil) (.nil)) (.nil)) (.aj 285 ⟨2,true,.ar 2 1,[.int .i64 0,.int .i64 0]⟩ (.aj 284 ⟨2,true,.st [(0,79),(1,96)],[.slice none 0 0,.slice none 0 0]⟩ (.nil) (.nil)) (.nil))) (.aj 290 ⟨1,false,.int .u64,[.int .u64 0]⟩ (.aj 289 ⟨1,false,.fn,[.nilFunc]⟩ (.aj 288 ⟨1,false,.fn,[.nilFunc]⟩ (.nil) (.nil)) (.nil)) (.aj 292 ⟨1,false,.fn,[.nilFunc]⟩ (.aj 291 ⟨20,true,.ar 20 1,[.int .u8 0,.int .u8 0,.int .u8 0,.int .u8 0,.int .u8 0,.int .u8 0,.int .u8 0,.int .u8 0,.int .u8 0,.int .u8 0,.int .u8 0,.int .u8 0,.int .u8 0,.int .u8 0,.int .u8 0,.int .u8 0,.int .u8 0,.int .u8 0,.int .u8 0,.int .u8 0]⟩ (.nil) (.nil)) (.nil))))) (.aj 306 ⟨1,false,.fn,[.nilFunc]⟩ (.aj 299 ⟨1,false,.fn,[.nilFunc]⟩ (.aj 296 ⟨1,false,.fn,[.nilFunc]⟩ (.aj 295 ⟨1,true,.st [(0,293)],[.slice none 0 0]⟩ (.aj 294 ⟨1,true,.st [(0,293)],[.slice none 0 0]⟩ (.nil) (.nil)) (.nil)) (.aj 298 ⟨1,false,.fn,[.nilFunc]⟩ (.aj 297 ⟨1,false,.fn,[.nilFunc]⟩ (.nil) (.nil)) (.nil))) (.aj 302 ⟨1,false,.fn,[.nilFunc]⟩ (.aj 301 ⟨1,false,.ptr 70,[.pointer none]⟩ (.aj 300 ⟨1,false,.fn,[.nilFunc]⟩ (.nil) (.nil)) (.nil)) (.aj 305 ⟨1,false,.fn,[.nilFunc]⟩ (.aj 304 ⟨1,false,.fn,[.nilFunc]⟩ (.nil) (.nil)) (.nil)))) (.aj 312 ⟨1,false,.fn,[.nilFunc]⟩ (.aj 309 ⟨1,false,.fn,[.nilFunc]⟩ (.aj 308 ⟨1,false,.fn,[.nilFunc]⟩ (.aj 307 ⟨1,false,.fn,[.nilFunc]⟩ (.nil) (.nil)) (.nil)) (.aj 311 ⟨1,false,.fn,[.nilFunc]⟩ (.aj 310 ⟨1,false,.fn,[.nilFunc]⟩ (.nil) (.nil)) (.nil))) (.aj 316 ⟨1,false,.fn,[.nilFunc]⟩ (.aj 314 ⟨1,false,.fn,[.nilFunc]⟩ (.aj 313 ⟨1,false,.fn,[.nilFunc]⟩ (.nil) (.nil)) (.nil)) (.aj 318 ⟨1,false,.ptr 36,[.pointer none]⟩ (.aj 317 ⟨1,false,.fn,[.nilFunc]⟩ (.nil) (.nil)) (.nil))))))) (.aj 376 ⟨1,false,.int .i64,[.int .i64 0]⟩ (.aj 351 ⟨1,false,.fn,[.nilFunc]⟩ (.aj 334 ⟨1,false,.fn,[.nilFunc]⟩ (.aj 325 ⟨1,false,.sl 365 2 8,[.slice none 0 0]⟩ (.aj 322 ⟨1,false,.fn,[.nilFunc]⟩ (.aj 321 ⟨1,false,.fn,[.nilFunc]⟩ (.aj 320 ⟨1,false,.fn,[.nilFunc]⟩ (.nil) (.nil)) (.nil)) (.aj 324 ⟨1,false,.fn,[.nilFunc]⟩ (.aj 323 ⟨1,false,.fn,[.nilFunc]⟩ (.nil) (.nil)) (.nil))) (.aj 329 ⟨1,false,.fn,[.nilFunc]⟩ (.aj 327 ⟨1,false,.fn,[.nilFunc]⟩ (.aj 326 ⟨1,false,.fn,[.nilFunc]⟩ (.nil) (.nil)) (.nil)) (.aj 332 ⟨1,false,.fn,[.nilFunc]⟩ (.aj 331 ⟨1,false,.fn,[.nilFunc]⟩ (.nil) (.nil)) (.nil)))) (.aj 343 ⟨1,false,.int .u64,[.int .u64 0]⟩ (.aj 340 ⟨1,false,.fn,[.nilFunc]⟩ (.aj 338 ⟨1,false,.fn,[.nilFunc]⟩ (.aj 336 ⟨1,false,.fn,[.nilFunc]⟩ (.nil) (.nil)) (.nil)) (.aj 342 ⟨1,false,.fn,[.nilFunc]⟩ (.aj 341 ⟨1,false,.fn,[.nilFunc]⟩ (.nil) (.nil)) (.nil))) (.aj 346 ⟨1,false,.int .u64,[.int .u64 0]⟩ (.aj 345 ⟨1,false,.fn,[.nilFunc]⟩ (.aj 344 ⟨1,false,.fn,[.nilFunc]⟩ (.nil) (.nil)) (.nil)) (.aj 350 ⟨1,false,.fn,[.nilFunc]⟩ (.aj 349 ⟨1,false,.fn,[.nilFunc]⟩ (.nil) (.nil)) (.nil))))) (.aj 363 ⟨4,true,.ar 4 1,[.int .i64 0,.int .i64 0,.int .i64 0,.int .i64 0]⟩ (.aj 357 ⟨1,false,.fn,[.nilFunc]⟩ (.aj 354 ⟨2,true,.st [(0,272),(1,350)],[.nilFunc,.nilFunc]⟩ (.aj 353 ⟨1,false,.fn,[.nilFunc]⟩ (.aj 352 ⟨1,false,.fn,[.nilFunc]⟩ (.nil) (.nil)) (.nil)) (.aj 356 ⟨1,false,.fn,[.nilFunc]⟩ (.aj 355 ⟨2,true,.st [(0,272),(1,350)],[.nilFunc,.nilFunc]⟩ (.nil) (.nil)) (.nil))) (.aj 360 ⟨1,false,.fn,[.nilFunc]⟩ (.aj 359 ⟨1,false,.fn,[.nilFunc]⟩ (.aj 358 ⟨1,false,.fn,[.nilFunc]⟩ (.nil) (.nil)) (.nil)) (.aj 362 ⟨1,false,.fn,[.nilFunc]⟩ (.aj 361 ⟨1,false,.fn,[.nilFunc]⟩ (.nil) (.nil)) (.nil)))) (.aj 370 ⟨1,true,.st [(0,17)],[.pointer none]⟩ (.aj 366 ⟨1,false,.fn,[.nilFunc]⟩ (.aj 365 ⟨2,true,.st [(0,21),(1,21)],[.int .i32 0,.int .i32 0]⟩ (.aj 364 ⟨2,true,.st [(0,21),(1,21)],[.int .i32 0,.int .i32 0]⟩ (.nil) (.nil)) (.nil)) (.aj 369 ⟨1,false,.fn,[.nilFunc]⟩ (.aj 368 ⟨1,false,.fn,[.nilFunc]⟩ (.nil) (.nil)) (.nil))) (.aj 373 ⟨1,false,.fn,[.nilFunc]⟩ (.aj 372 ⟨1,false,.ptr 430,[.pointer none]⟩ (.aj 371 ⟨1,true,.st [(0,17)],[.pointer none]⟩ (.nil) (.nil)) (.nil)) (.aj 375 ⟨1,false,.fn,[.nilFunc]⟩ (.aj 374 ⟨1,false,.int .u32,[.int .u32 0]⟩ (.nil) (.nil)) (.nil)))))) (.aj 405 ⟨1,false,.fn,[.nilFunc]⟩ (.aj 392 ⟨1,false,.ptr 133,[.pointer none]⟩ (.aj 384 ⟨1,false,.fn,[.nilFunc]⟩ (.aj 380 ⟨1,false,.fn,[.nilFunc]⟩ (.aj 379 ⟨1,false,.fn,[.nilFunc]⟩ (.aj 378 ⟨1,false,.fn,[.nilFunc]⟩ (.nil) (.nil)) (.nil)) (.aj 383 ⟨1,false,.fn,[.nilFunc]⟩ (.aj 381 ⟨1,false,.fn,[.nilFunc]⟩ (.nil) (.nil)) (.nil))) (.aj 388 ⟨1,false,.fn,[.nilFunc]⟩ (.aj 386 ⟨1,false,.fn,[.nilFunc]⟩ (.aj 385 ⟨1,false,.fn,[.nilFunc]⟩ (.nil) (.nil)) (.nil)) (.aj 391 ⟨1,false,.fn,[.nilFunc]⟩ (.aj 390 ⟨1,false,.fn,[.nilFunc]⟩ (.nil) (.nil)) (.nil)))) (.aj 398 ⟨1,false,.ptr 3,[.pointer none]⟩ (.aj 395 ⟨1,false,.fn,[.nilFunc]⟩ (.aj 394 ⟨1,false,.int .u64,[.int .u64 0]⟩ (.aj 393 ⟨1,false,.fn,[.nilFunc]⟩ (.nil) (.nil)) (.nil)) (.aj 397 ⟨1,false,.fn,[.nilFunc]⟩ (.aj 396 ⟨1,false,.fn,[.nilFunc]⟩ (.nil) (.nil)) (.nil))) (.aj 401 ⟨1,false,.sl 414 2 8,[.slice none 0 0]⟩ (.aj 400 ⟨1,false,.fn,[.nilFunc]⟩ (.aj 399 ⟨1,false,.fn,[.nilFunc]⟩ (.nil) (.nil)) (.nil)) (.aj 404 ⟨1,false,.fn,[.nilFunc]⟩ (.aj 402 ⟨1,false,.fn,[.nilFunc]⟩ (.nil) (.nil)) (.nil))))) (.aj 418 ⟨4,true,.st [(0,17),(1,17),(2,17),(3,9)],[.pointer none,.pointer none,.pointer none,.string ByteArray.empty]⟩ (.aj 412 ⟨1,false,.fn,[.nilFunc]⟩ (.aj 408 ⟨1,false,.fn,[.nilFunc]⟩ (.aj 407 ⟨1,false,.fn,[.nilFunc]⟩ (.aj 406 ⟨1,false,.fn,[.nilFunc]⟩ (.nil) (.nil)) (.nil)) (.aj 411 ⟨1,false,.ptr 394,[.pointer none]⟩ (.aj 410 ⟨1,false,.fn,[.nilFunc]⟩ (.nil) (.nil)) (.nil))) (.aj 415 ⟨1,false,.fn,[.nilFunc]⟩ (.aj 414 ⟨2,true,.st [(0,21),(1,21)],[.int .i32 0,.int .i32 0]⟩ (.aj 413 ⟨2,true,.st [(0,21),(1,21)],[.int .i32 0,.int .i32 0]⟩ (.nil) (.nil)) (.nil)) (.aj 417 ⟨4,true,.st [(0,17),(1,17),(2,17),(3,9)],[.pointer none,.pointer none,.pointer none,.string ByteArray.empty]⟩ (.aj 416 ⟨1,false,.fn,[.nilFunc]⟩ (.nil) (.nil)) (.nil)))) (.aj 426 ⟨1,false,.int .i32,[.int .i32 0]⟩ (.aj 423 ⟨1,false,.int .u8,[.int .u8 0]⟩ (.aj 422 ⟨1,false,.int .u8,[.int .u8 0]⟩ (.aj 419 ⟨0,true,.ar 0 1,[]⟩ (.nil) (.nil)) (.nil)) (.aj 425 ⟨1,false,.int .i32,[.int .i32 0]⟩ (.aj 424 ⟨1,false,.fn,[.nilFunc]⟩ (.nil) (.nil)) (.nil))) (.aj 429 ⟨2,true,.st [(0,9),(1,423)],[.string ByteArray.empty,.int .u8 0]⟩ (.aj 428 ⟨11,true,.st [(0,12),(1,12),(2,374),(3,422),(4,5),(5,5),(6,423),(7,424),(8,199),(9,425),(10,426)],[.int .u64 0,.int .u64 0,.int .u32 0,.int .u8 0,.int .u8 0,.int .u8 0,.int .u8 0,.nilFunc,.pointer none,.int .i32 0,.int .i32 0]⟩ (.aj 427 ⟨11,true,.st [(0,12),(1,12),(2,374),(3,422),(4,5),(5,5),(6,423),(7,424),(8,199),(9,425),(10,426)],[.int .u64 0,.int .u64 0,.int .u32 0,.int .u8 0,.int .u8 0,.int .u8 0,.int .u8 0,.nilFunc,.pointer none,.int .i32 0,.int .i32 0]⟩ (.nil) (.nil)) (.nil)) (.aj 430 ⟨2,true,.st [(0,9),(1,423)],[.string ByteArray.empty,.int .u8 0]⟩ (.nil) (.nil))))))))
theorem ui:tt.ok Tryz.prog=true:=by decide +kernel
theorem mo:Tryz.prog.follows .mixedOrders=true:=rfl
end Dv
end Go.Proofs.YtfdedoiiahbnnaaGreat
namespace Go.Proofs.YtfdedoiiahbnnaaGreat
namespace Dv
open Go
theorem eG {f:FuncId} {fn:Func} {c:Code} {args:List DV} {os:List (List DV)} {c9:List TkE} {Φ:DV->List (List DV)->List TkE->Prop} (nt:Nat) (rs:List ResultVar)
 (hf:Tryz.prog.funcs[f]? = some fn) (hb:fn.body=some c) (Om:fn.ntmps=nt) (tW:fn.results.toList=rs)
 (h:∀ (E:En) (w:World) (hn:E.β.length=os.length) (hm:E.tk.length=c9.length),go ⟨Tryz.prog,tt,ui,fn,nt,rs,tW,w,E,os.length,c9.length,hn,hm,false,Φ,[],[],false⟩ 5000 [.code c] ⟨argSl 0 args,os,c9⟩) (hlen:args.length<=nt:=by exact Nat.le_of_ble_eq_true rfl):Ev Tryz.prog f args os c9 Φ:=aau tt ui 5000 nt rs hf hb Om tW hlen h
theorem cP {X:Ctx} {st:St} {k:List It} {f:FuncId} {args bF:List DV} {d:Nat} {r:DV} (gh:Enters X.P f) (hc:bA X.P f bF r) (hk:go X 4000 k ⟨(d,⟨[],r⟩) :: st.sl,st.bx,st.tk⟩) (ha:CcL [] 0 0 0 bF args:=by exact ax) (hd:eV X.nt st.sl (some d)=true:=by exact rfl) (bp:X.still=false:=by exact rfl):CallG X f args (some d) k st:=Xs gh hc ha hd hk bp
theorem cD {X:Ctx} {st:St} {c:Bool} {s0:List (Nat×Sl)} {D:Dr} {i:Nat} {f:FuncId} {args bF:List DV} {d:Nat} {r:List (Nat×Oper)} {Hq:DV} (gh:Enters X.P f) (hc:bA X.P f bF Hq) (hk:put2 s0 st (some d) false [] Hq (goD X D 3000 c r)) (ha:CcL [] 0 0 0 bF args:=by exact ax) (hd:(eV X.nt st.sl (some d) && eV X.nt s0 (some d))=true:=by exact rfl) (bp:X.still=false:=by exact rfl):wF X D c i r f args (some d) s0 st:=Tb gh hc ha hd hk bp
theorem dI {X:Ctx} {st:St} {k:List It} {id:Nat} {ops:Array Oper} (h:goD X ⟨ops,fun _=>false,k,st,none⟩ 3000 true (nOps 0 ops.toList) st.sl st) (hm:X.P.follows .mixedOrders=true:=by exact mo) (hc:Hm ops (fun _=>false)=true:=by decide +kernel):tZ X id ops k st:=Cj _ hm hc h
theorem dS {X:Ctx} {st:St} {k:List It} {id:Nat} {ops:Array Oper} (h:goD X ⟨ops,stW ops,k,st,none⟩ 3000 true (nOps 0 ops.toList) st.sl st) (hm:X.P.follows .mixedOrders=true:=by exact mo) (hc:Hm ops (stW ops)=true:=by decide +kernel):tZ X id ops k st:=Ta hm hc h
end Dv
end Go.Proofs.YtfdedoiiahbnnaaGreat
set_option maxRecDepth 100000
namespace Go.Proofs.YtfdedoiiahbnnaaGreat
open Go Go.RowKit Dv Go.Proofs.Tryz
theorem XL:Enters prog 10:=enters_of func10 (by decide +kernel) rfl
theorem XM:Enters prog 11:=enters_of func11 (by decide +kernel) rfl
theorem en14:Enters prog 14:=enters_of func14 (by decide +kernel) rfl
theorem XN:Enters prog 15:=enters_of func15 (by decide +kernel) rfl
theorem en21:Enters prog 21:=enters_of func21 (by decide +kernel) rfl
theorem Lw:Enters prog 22:=enters_of func22 (by decide +kernel) rfl
theorem aaP:Enters prog 23:=enters_of func23 (by decide +kernel) rfl
theorem en26:Enters prog 26:=enters_of func26 (by decide +kernel) rfl
theorem en34:Enters prog 34:=enters_of func34 (by decide +kernel) rfl
theorem Ti:Enters prog 35:=enters_of func35 (by decide +kernel) rfl
theorem XO:Enters prog 38:=enters_of func38 (by decide +kernel) rfl
theorem XP:Enters prog 39:=enters_of func39 (by decide +kernel) rfl
theorem en40:Enters prog 40:=enters_of func40 (by decide +kernel) rfl
theorem en41:Enters prog 41:=enters_of func41 (by decide +kernel) rfl
theorem en45:Enters prog 45:=enters_of func45 (by decide +kernel) rfl
theorem en46:Enters prog 46:=enters_of func46 (by decide +kernel) rfl
theorem aaQ:Enters prog 47:=enters_of func47 (by decide +kernel) rfl
theorem en54:Enters prog 54:=enters_of func54 (by decide +kernel) rfl
theorem aaR:Enters prog 55:=enters_of func55 (by decide +kernel) rfl
theorem en56:Enters prog 56:=enters_of func56 (by decide +kernel) rfl
theorem en57:Enters prog 57:=enters_of func57 (by decide +kernel) rfl
theorem en58:Enters prog 58:=enters_of func58 (by decide +kernel) rfl
theorem Ly:Enters prog 59:=enters_of func59 (by decide +kernel) rfl
theorem XQ:Enters prog 60:=enters_of func60 (by decide +kernel) rfl
theorem en61:Enters prog 61:=enters_of func61 (by decide +kernel) rfl
theorem en62:Enters prog 62:=enters_of func62 (by decide +kernel) rfl
theorem aaS:Enters prog 63:=enters_of func63 (by decide +kernel) rfl
theorem aaT:Enters prog 64:=enters_of func64 (by decide +kernel) rfl
theorem XR:Enters prog 65:=enters_of func65 (by decide +kernel) rfl
theorem en66:Enters prog 66:=enters_of func66 (by decide +kernel) rfl
theorem en67:Enters prog 67:=enters_of func67 (by decide +kernel) rfl
theorem Tj:Enters prog 68:=enters_of func68 (by decide +kernel) rfl
theorem Tk:Enters prog 81:=enters_of func81 (by decide +kernel) rfl
theorem Ek:Enters prog 82:=enters_of func82 (by decide +kernel) rfl
theorem en83:Enters prog 83:=enters_of func83 (by decide +kernel) rfl
theorem XS:Enters prog 84:=enters_of func84 (by decide +kernel) rfl
theorem en85:Enters prog 85:=enters_of func85 (by decide +kernel) rfl
theorem en86:Enters prog 86:=enters_of func86 (by decide +kernel) rfl
theorem en87:Enters prog 87:=enters_of func87 (by decide +kernel) rfl
theorem en89:Enters prog 89:=enters_of func89 (by decide +kernel) rfl
theorem en91:Enters prog 91:=enters_of func91 (by decide +kernel) rfl
theorem en98:Enters prog 98:=enters_of func98 (by decide +kernel) rfl
theorem aaU:Enters prog 99:=enters_of func99 (by decide +kernel) rfl
theorem Vv:Enters prog 100:=enters_of func100 (by decide +kernel) rfl
theorem aaV:Enters prog 101:=enters_of func101 (by decide +kernel) rfl
theorem aaW:Enters prog 102:=enters_of func102 (by decide +kernel) rfl
theorem aaX:Enters prog 103:=enters_of func103 (by decide +kernel) rfl
theorem OH:Enters prog 110:=enters_of func110 (by decide +kernel) rfl
theorem aaY:Enters prog 111:=enters_of func111 (by decide +kernel) rfl
theorem nY:Enters prog 112:=enters_of func112 (by decide +kernel) rfl
theorem JJ:Enters prog 118:=enters_of func118 (by decide +kernel) rfl
theorem jx:Enters prog 119:=enters_of func119 (by decide +kernel) rfl
theorem Vw:Enters prog 120:=enters_of func120 (by decide +kernel) rfl
theorem aaZ:Enters prog 121:=enters_of func121 (by decide +kernel) rfl
theorem aa0:Enters prog 122:=enters_of func122 (by decide +kernel) rfl
theorem aa1:Enters prog 123:=enters_of func123 (by decide +kernel) rfl
theorem Vx:Enters prog 124:=enters_of func124 (by decide +kernel) rfl
theorem OI:Enters prog 125:=enters_of func125 (by decide +kernel) rfl
theorem Vy:Enters prog 126:=enters_of func126 (by decide +kernel) rfl
theorem aa2:Enters prog 127:=enters_of func127 (by decide +kernel) rfl
theorem Vz:Enters prog 128:=enters_of func128 (by decide +kernel) rfl
theorem VA:Enters prog 129:=enters_of func129 (by decide +kernel) rfl
theorem aa3:Enters prog 130:=enters_of func130 (by decide +kernel) rfl
theorem OJ:Enters prog 131:=enters_of func131 (by decide +kernel) rfl
theorem VB:Enters prog 132:=enters_of func132 (by decide +kernel) rfl
theorem El:Enters prog 133:=enters_of func133 (by decide +kernel) rfl
theorem en134:Enters prog 134:=enters_of func134 (by decide +kernel) rfl
theorem VC:Enters prog 135:=enters_of func135 (by decide +kernel) rfl
theorem aa4:Enters prog 136:=enters_of func136 (by decide +kernel) rfl
theorem JK:Enters prog 138:=enters_of func138 (by decide +kernel) rfl
theorem iw:Enters prog 139:=enters_of func139 (by decide +kernel) rfl
theorem uj:Enters prog 154:=enters_of func154 (by decide +kernel) rfl
theorem aa5:Enters prog 155:=enters_of func155 (by decide +kernel) rfl
theorem OL:Enters prog 156:=enters_of func156 (by decide +kernel) rfl
theorem JL:Enters prog 158:=enters_of func158 (by decide +kernel) rfl
theorem fX:Enters prog 159:=enters_of func159 (by decide +kernel) rfl
theorem Em:Enters prog 160:=enters_of func160 (by decide +kernel) rfl
theorem aa6:Enters prog 161:=enters_of func161 (by decide +kernel) rfl
theorem nZ:Enters prog 162:=enters_of func162 (by decide +kernel) rfl
theorem gL:Enters prog 163:=enters_of func163 (by decide +kernel) rfl
theorem aa7:Enters prog 164:=enters_of func164 (by decide +kernel) rfl
theorem aa8:Enters prog 165:=enters_of func165 (by decide +kernel) rfl
theorem wN:Enters prog 166:=enters_of func166 (by decide +kernel) rfl
theorem JN:Enters prog 167:=enters_of func167 (by decide +kernel) rfl
theorem wO:Enters prog 168:=enters_of func168 (by decide +kernel) rfl
theorem JO:Enters prog 170:=enters_of func170 (by decide +kernel) rfl
theorem aa9:Enters prog 171:=enters_of func171 (by decide +kernel) rfl
theorem OM:Enters prog 172:=enters_of func172 (by decide +kernel) rfl
theorem aba:Enters prog 185:=enters_of func185 (by decide +kernel) rfl
theorem abb:Enters prog 186:=enters_of func186 (by decide +kernel) rfl
theorem Ab:Enters prog 199:=enters_of func199 (by decide +kernel) rfl
theorem VD:Enters prog 200:=enters_of func200 (by decide +kernel) rfl
theorem VE:Enters prog 201:=enters_of func201 (by decide +kernel) rfl
theorem VF:Enters prog 205:=enters_of func205 (by decide +kernel) rfl
theorem abc:Enters prog 206:=enters_of func206 (by decide +kernel) rfl
theorem ON:Enters prog 208:=enters_of func208 (by decide +kernel) rfl
theorem abd:Enters prog 209:=enters_of func209 (by decide +kernel) rfl
theorem abe:Enters prog 210:=enters_of func210 (by decide +kernel) rfl
theorem OO:Enters prog 211:=enters_of func211 (by decide +kernel) rfl
theorem Eo:Enters prog 212:=enters_of func212 (by decide +kernel) rfl
theorem OP:Enters prog 213:=enters_of func213 (by decide +kernel) rfl
theorem VG:Enters prog 214:=enters_of func214 (by decide +kernel) rfl
theorem abf:Enters prog 215:=enters_of func215 (by decide +kernel) rfl
theorem abg:Enters prog 216:=enters_of func216 (by decide +kernel) rfl
theorem abh:Enters prog 217:=enters_of func217 (by decide +kernel) rfl
theorem JP:Enters prog 218:=enters_of func218 (by decide +kernel) rfl
theorem gZ:Enters prog 220:=enters_of func220 (by decide +kernel) rfl
theorem Er:Enters prog 225:=enters_of func225 (by decide +kernel) rfl
theorem VH:Enters prog 235:=enters_of func235 (by decide +kernel) rfl
theorem abj:Enters prog 236:=enters_of func236 (by decide +kernel) rfl
theorem ep:Enters prog 237:=enters_of func237 (by decide +kernel) rfl
theorem abk:Enters prog 238:=enters_of func238 (by decide +kernel) rfl
theorem abl:Enters prog 239:=enters_of func239 (by decide +kernel) rfl
theorem VI:Enters prog 240:=enters_of func240 (by decide +kernel) rfl
theorem VJ:Enters prog 241:=enters_of func241 (by decide +kernel) rfl
theorem wP:Enters prog 242:=enters_of func242 (by decide +kernel) rfl
theorem VK:Enters prog 243:=enters_of func243 (by decide +kernel) rfl
theorem OQ:Enters prog 244:=enters_of func244 (by decide +kernel) rfl
theorem Ac:Enters prog 245:=enters_of func245 (by decide +kernel) rfl
theorem uk:Enters prog 246:=enters_of func246 (by decide +kernel) rfl
theorem VL:Enters prog 247:=enters_of func247 (by decide +kernel) rfl
theorem Et:Enters prog 248:=enters_of func248 (by decide +kernel) rfl
theorem VM:Enters prog 249:=enters_of func249 (by decide +kernel) rfl
theorem VN:Enters prog 250:=enters_of func250 (by decide +kernel) rfl
theorem VO:Enters prog 251:=enters_of func251 (by decide +kernel) rfl
theorem nC:Enters prog 275:=enters_of func275 (by decide +kernel) rfl
theorem VP:Enters prog 284:=enters_of func284 (by decide +kernel) rfl
theorem VQ:Enters prog 285:=enters_of func285 (by decide +kernel) rfl
theorem abm:Enters prog 286:=enters_of func286 (by decide +kernel) rfl
theorem abn:Enters prog 287:=enters_of func287 (by decide +kernel) rfl
theorem OR:Enters prog 288:=enters_of func288 (by decide +kernel) rfl
theorem VR:Enters prog 289:=enters_of func289 (by decide +kernel) rfl
theorem JQ:Enters prog 290:=enters_of func290 (by decide +kernel) rfl
theorem VS:Enters prog 291:=enters_of func291 (by decide +kernel) rfl
theorem abo:Enters prog 292:=enters_of func292 (by decide +kernel) rfl
theorem abp:Enters prog 293:=enters_of func293 (by decide +kernel) rfl
theorem Eu:Enters prog 294:=enters_of func294 (by decide +kernel) rfl
theorem OS:Enters prog 295:=enters_of func295 (by decide +kernel) rfl
theorem abq:Enters prog 296:=enters_of func296 (by decide +kernel) rfl
theorem VT:Enters prog 297:=enters_of func297 (by decide +kernel) rfl
theorem abr:Enters prog 298:=enters_of func298 (by decide +kernel) rfl
theorem abt:Enters prog 299:=enters_of func299 (by decide +kernel) rfl
theorem Ew:Enters prog 327:=enters_of func327 (by decide +kernel) rfl
theorem abu:Enters prog 328:=enters_of func328 (by decide +kernel) rfl
theorem abv:Enters prog 329:=enters_of func329 (by decide +kernel) rfl
theorem abw:Enters prog 330:=enters_of func330 (by decide +kernel) rfl
theorem abx:Enters prog 331:=enters_of func331 (by decide +kernel) rfl
theorem aby:Enters prog 332:=enters_of func332 (by decide +kernel) rfl
theorem VU:Enters prog 333:=enters_of func333 (by decide +kernel) rfl
theorem OT:Enters prog 334:=enters_of func334 (by decide +kernel) rfl
theorem OU:Enters prog 335:=enters_of func335 (by decide +kernel) rfl
theorem JR:Enters prog 336:=enters_of func336 (by decide +kernel) rfl
theorem Ad:Enters prog 337:=enters_of func337 (by decide +kernel) rfl
theorem VV:Enters prog 338:=enters_of func338 (by decide +kernel) rfl
theorem VW:Enters prog 339:=enters_of func339 (by decide +kernel) rfl
theorem JS:Enters prog 347:=enters_of func347 (by decide +kernel) rfl
theorem abz:Enters prog 348:=enters_of func348 (by decide +kernel) rfl
theorem abA:Enters prog 349:=enters_of func349 (by decide +kernel) rfl
theorem abB:Enters prog 350:=enters_of func350 (by decide +kernel) rfl
theorem abC:Enters prog 351:=enters_of func351 (by decide +kernel) rfl
theorem abD:Enters prog 352:=enters_of func352 (by decide +kernel) rfl
theorem abE:Enters prog 353:=enters_of func353 (by decide +kernel) rfl
theorem JT:Enters prog 354:=enters_of func354 (by decide +kernel) rfl
theorem abF:Enters prog 355:=enters_of func355 (by decide +kernel) rfl
theorem VX:Enters prog 356:=enters_of func356 (by decide +kernel) rfl
theorem abG:Enters prog 357:=enters_of func357 (by decide +kernel) rfl
theorem abH:Enters prog 362:=enters_of func362 (by decide +kernel) rfl
theorem abI:Enters prog 363:=enters_of func363 (by decide +kernel) rfl
theorem abJ:Enters prog 364:=enters_of func364 (by decide +kernel) rfl
theorem Ae:Enters prog 365:=enters_of func365 (by decide +kernel) rfl
end Go.Proofs.YtfdedoiiahbnnaaGreat
namespace Go.Proofs.YtfdedoiiahbnnaaGreat
open Go Go.RowKit Dv
structure Wd where
 s:ByteArray
 a:Int
structure Hd where
 al:Int
 dA:Int
 lo:Int
 hi:Int
 most:Int
 af:List Wd
 name:Wd
structure Ph where
 name:Wd
 bare:Bool
 label:List Wd
 wide:Int
 ck:Int
 cn:Int
 ca:Int
 cl:List Wd
mutual
inductive Ty where
 | mk (h:Hd) (ps:Pts)
inductive Pts where
 | nil
 | cons (p:Ph) (t:Ty) (r:Pts)
end
def Ty.h:Ty->Hd | .mk h _=>h
def Ty.ps:Ty->Pts | .mk _ ps=>ps
def Pts.toList:Pts->List (Ph × Ty)
 | .nil=>[]
 | .cons p t r=>(p,t) :: r.toList
def Pts.len:Pts->Nat
 | .nil=>0
 | .cons _ _ r=>r.len + 1
theorem Pts.OV:∀ ps:Pts,ps.len=ps.toList.length
 | .nil=>rfl
 | .cons _ _ r=>by simp [Pts.len,Pts.toList,Pts.OV r]
def Wd.wt (w:Wd):Nat:=w.s.size + 64
def wdsWt:List Wd->Nat
 | []=>0
 | w :: r=>w.wt + wdsWt r
def Hd.wt (h:Hd):Nat:=256 + wdsWt h.af + h.name.wt
def Ph.wt (p:Ph):Nat:=256 + p.name.wt + wdsWt p.label + wdsWt p.cl
mutual
def Ty.wt:Ty->Nat
 | .mk h ps=>h.wt + ps.wt
def Pts.wt:Pts->Nat
 | .nil=>0
 | .cons p t r=>p.wt + t.wt + r.wt
end
theorem cE:∀ l:List Wd,64 * l.length<=wdsWt l
 | []=>bn _
 | w :: r=>by have:=cE r;simp only [List.length_cons,wdsWt,Wd.wt];omega
theorem lQ:∀ {l:List Wd} {w:Wd},w∈l->w.s.size + 64<=wdsWt l
 | x :: r,w,h=>by
  rcases dM h with h | h
  ·subst h;simp only [wdsWt,Wd.wt];omega
  ·have:=lQ h;simp only [wdsWt];omega
theorem Pts.ki:∀ ps:Pts,256 * ps.len<=ps.wt
 | .nil=>bn _
 | .cons p t r=>by have:=Pts.ki r;simp only [Pts.len,Pts.wt,Ph.wt];omega
theorem Pts.kj:∀ {ps:Pts} {p:Ph} {t:Ty},(p,t)∈ps.toList->p.wt + t.wt<=ps.wt
 | .cons p t r,q,u,h=>by
  rcases dM h with h | h
  ·cases h;simp only [Pts.wt];omega
  ·have:=Pts.kj h;simp only [Pts.wt];omega
theorem Ty.mR (t:Ty):256<=t.wt:=by
 cases t;simp only [Ty.wt,Hd.wt];omega
def nD (w:Wd):List DV:=[.v (.string w.s),.v (.int .i64 w.a)]
def cd (l:List Wd):List (List DV):=l.map nD
def lR (p:Ph) (tl:List DV):List DV:=
 .v (.string p.name.s) :: .v (.int .i64 p.name.a) :: .v (.bool p.bare) :: .sl 2 (cd p.label) none :: .v (.int .i64 p.wide) :: .v (.int .i64 p.ck) :: .v (.int .i64 p.cn) :: .v (.int .i64 p.ca) :: .sl 2 (cd p.cl) none :: tl
mutual
def dC:Ty->List DV
 | .mk h ps=>[.v (.int .i64 h.al),.v (.int .i64 h.dA),.v (.int .i64 h.lo),.v (.int .i64 h.hi),.v (.int .i64 h.most),.sl 2 (cd h.af) none,.sl 18 (eX ps) none,.v (.string h.name.s),.v (.int .i64 h.name.a)]
def eX:Pts->List (List DV)
 | .nil=>[]
 | .cons p t r=>lR p (dC t) :: eX r
end
theorem aM (l:List Wd):(cd l).length=l.length:=by simp [cd]
theorem bG:∀ ps:Pts,(eX ps).length=ps.len
 | .nil=>by simp [eX,Pts.len]
 | .cons p t r=>by simp [eX,Pts.len,bG r]
theorem dy {l:List Wd} {j:Nat} {w:Wd} (h:l[j]? = some w):(cd l)[j]? = some (nD w):=by simp [cd,h]
theorem Lz {l:List Wd} {e:Nat} {x:Wd} (h:l[e]? = some x):cd (l.take e) ++ [nD x]=cd (l.take (e + 1)):=by
 rw [List.take_add_one,h];simp [cd]
theorem er:∀ {ps:Pts} {j:Nat} {p:Ph} {t:Ty},ps.toList[j]? = some (p,t)->(eX ps)[j]? = some (lR p (dC t))
 | .nil,j,p,t,h=>by simp [Pts.toList] at h
 | .cons q u r,0,p,t,h=>by grind [Pts.toList,eX]
 | .cons q u r,j + 1,p,t,h=>by
  simp only [Pts.toList,List.getElem?_cons_succ] at h;simp only [eX,List.getElem?_cons_succ];exact er h
def Pts.drop:Nat->Pts->Pts
 | 0,ps=>ps
 | _ + 1,.nil=>.nil
 | e + 1,.cons _ _ r=>r.drop e
theorem Pts.drop_cons:∀ {e:Nat} {ps:Pts} {p:Ph} {t:Ty},ps.toList[e]? = some (p,t)->ps.drop e = .cons p t (ps.drop (e + 1))
 | 0,.cons q u r,p,t,h=>by
  simp only [Pts.toList,List.getElem?_cons_zero,oI,Prod.mk.injEq] at h;obtain ⟨rfl,rfl⟩:=h;rfl
 | e + 1,.cons q u r,p,t,h=>by
  simp only [Pts.toList,List.getElem?_cons_succ] at h;simp only [Pts.drop];exact Pts.drop_cons h
 | 0,.nil,p,t,h=>by simp [Pts.toList] at h
 | e + 1,.nil,p,t,h=>by simp [Pts.toList] at h
theorem Pts.gm:∀ (ps:Pts),ps.drop ps.len = .nil
 | .nil=>rfl
 | .cons _ _ r=>by simp only [Pts.len,Pts.drop];exact Pts.gm r
theorem Pts.jm {ps:Pts} {e:Nat} (h:e < ps.len):∃ p t,ps.toList[e]? = some (p,t):=by
 rw [Pts.OV] at h;exact ⟨_,_,gE h⟩
theorem drop_cons {α:Type} {l:List α} {e:Nat} {x:α} (h:l[e]? = some x):l.drop e=x :: l.drop (e + 1):=by
 obtain ⟨h1,h2⟩:=List.getElem?_eq_some_iff.1 h;rw [<- h2];exact List.drop_eq_getElem_cons h1
def aZ:ByteArray:=⟨#[]⟩
def Hu:Hd:=⟨0,0,0,0,0,[],⟨aZ,0⟩⟩
def bX:Ty:=.mk Hu .nil
def cp:Ph:=⟨⟨aZ,0⟩,false,[],0,0,0,0,[]⟩
def hU:Ph:=⟨⟨aZ,0⟩,true,[],0,0,0,0,[]⟩
theorem cR {e n:Nat} (h:e < n) (hn:n<=4611686018427387904):IntKind.i64.wrap ((e:Int) + 1)=((e + 1:Nat):Int):=by
 rw [IntWalk.i64_in _ ⟨by omega,by omega⟩];omega
theorem wrap64 {n:Int} (h1 : -9223372036854775808<=n) (h2:n<=9223372036854775807):IntKind.i64.wrap n=n:=IntWalk.i64_in n ⟨h1,h2⟩
theorem aC (x a:Bool):pickB x a false=(x && a):=by cases x<;>rfl
theorem aD (x b:Bool):pickB x true b=(x || b):=by cases x<;>rfl
end Go.Proofs.YtfdedoiiahbnnaaGreat
set_option maxRecDepth 100000
namespace Go.Proofs.YtfdedoiiahbnnaaGreat
open Go Go.RowKit Dv Go.Proofs.Tryz
def isLet (c:Int):Bool:=decide (97<=c) && decide (c<=122)
def gC (c:Int):Bool:=(isLet c || (decide (48<=c) && decide (c<=57))) || decide (c=95)
def signs:List UInt8->Nat
 | []=>0
 | c :: r=>if gC c.toNat=true then signs r + 1 else 0
def bu:List UInt8->Nat
 | []=>0
 | c :: r=>if isLet c.toNat=true then signs r + 1 else 0
def ay (s:ByteArray):Bool:=decide (0 < s.size) && (decide (s.size<=32) && decide (bu s.data.toList=s.size))
theorem um {c:Int} (h:isLet c=true):gC c=true:=by simp [gC,h]
theorem Ex:∀ l:List UInt8,signs l<=l.length
 | []=>bn _
 | c :: r=>by
  simp only [signs,List.length_cons];split
  ·have:=Ex r;omega
  ·omega
theorem n7 {c:UInt8} {r:List UInt8} (h:isLet c.toNat=true):bu (c :: r)=signs (c :: r):=by
 simp [bu,signs,h,um h]
theorem bJ {s:ByteArray} {k:Nat} (h:k < s.size):∃ c:UInt8,s.data.toList.drop k=c :: s.data.toList.drop (k + 1)/\aA s k=c.toNat:=by
 have hk:k < s.data.toList.length:=sU h;refine ⟨s.data.toList[k],by rw [<- List.drop_eq_getElem_cons hk],?_⟩
 grind [aA]
theorem Ey {s:ByteArray} {k:Nat} (h:s.size<=k):s.data.toList.drop k=[]:=List.drop_eq_nil_of_le (sU h)
theorem uo (c:Int):bA prog 235 [.v (.int .u8 c)] (.v (.bool (isLet c))):=by
 refine eG 9 [.tmp 2] func235 rfl ntmps235 rfl fun _ _ _ _=>?_;exact (congrArg (fun b=>DV.v (.bool b)) (aC _ _):_=_)
theorem LA (c:Int):bA prog 236 [.v (.int .u8 c)] (.v (.bool (gC c))):=by
 refine eG 17 [.tmp 2] func236 rfl ntmps236 rfl fun _ _ _ _=>?_;refine cP VH (uo c) ?_;refine (dP ?_:);simp only [aC,aD,gC]
abbrev Hv (s:ByteArray) (i e:Nat):St:=⟨[aJ 5 e,(0,⟨[],.v (.string s)⟩),aJ 1 i],[],[]⟩
theorem jH (s:ByteArray) (i:Nat):s.extract i (i + 0)=⟨#[]⟩:=by
 apply ByteArray.ext
 simp_all
theorem lS (s:ByteArray) (i:Nat) (hi:i < s.size) (hs:s.size<=4611686018427387904):bA prog 154 [.v (.string s),.v (.int .i64 i)]
  (.bK [.v (.string (s.extract i (i + bu (s.data.toList.drop i)))),.v (.int .i64 ((i + bu (s.data.toList.drop i):Nat):Int))]):=by
 obtain ⟨c0,Hw,iT⟩:=bJ hi;refine eG 38 [.tmp 4,.tmp 5] func154 rfl ntmps154 rfl fun _ _ _ _=>?_;refine br (fun h=>?_) (fun _=>?_)
 ·simp [aD] at h;omega
 refine ⟨⟨by omega,by omega⟩,?_⟩;refine cP VH (uo _) ?_;refine br ?_ ?_<;>intro h
 ·have hl:isLet (c0.toNat:Int)=false:=by grind
  have hn:bu (s.data.toList.drop i)=0:=by rw [Hw];simp [bu,hl]
  rw [hn,jH];exact ⟨_,ax,rfl⟩
 have hl:isLet (c0.toNat:Int)=true:=by grind
 have hn:bu (s.data.toList.drop i)=signs (s.data.toList.drop i):=by rw [Hw];exact n7 hl
 rw [hn]
 refine cH (fun j st=>∃ e:Nat,st=Hv s i e/\e<=s.size/\i<=e/\e + signs (s.data.toList.drop e)=i + signs (s.data.toList.drop i)/\j=s.size - e)
  (s.size - i) (Hv s i i) (dg wB) ⟨i,rfl,by omega,by omega,rfl,rfl⟩ ?_
 rintro j st ⟨e,rfl,he,ZM,hinv,rfl⟩;refine br ?_ ?_<;>intro h
 ·have aE:e < s.size:=sU h;refine ⟨⟨by omega,by omega⟩,?_⟩;refine cP abj (LA _) ?_;obtain ⟨c,hd,hb⟩:=bJ aE;refine br ?_ ?_<;>intro h2
  ·have hsg:gC (c.toNat:Int)=true:=by
    have:gC ((aA s e:Nat):Int)=true:=h2
    rwa [hb] at this
   refine ⟨Hv s i (e + 1),(dg (gv (cR aE (by omega)))),s.size - (e + 1),by omega,e + 1,rfl,by omega,by omega,?_,rfl⟩;rw [hd] at hinv;simp only [signs,hsg,if_true] at hinv;omega
  ·have hsg:gC (c.toNat:Int)=false:=by
    have:gC ((aA s e:Nat):Int)=false:=h2
    rwa [hb] at this
   rw [hd] at hinv;simp only [signs,hsg] at hinv;refine ⟨⟨by omega,by omega,by omega⟩,?_⟩;have:i + signs (s.data.toList.drop i)=e:=by simp at hinv;omega
   rw [this];exact ⟨_,ax,rfl⟩
 ·have hge:e=s.size:=by simp at h;omega
  rw [Ey (by omega)] at hinv;simp only [signs] at hinv;refine ⟨⟨by omega,by omega,by omega⟩,?_⟩;have:i + signs (s.data.toList.drop i)=e:=by omega
  rw [this];exact ⟨_,ax,rfl⟩
theorem take_nil (s:ByteArray) (hs:s.size=0):bA prog 154 [.v (.string s),.v (.int .i64 0)] (.bK [.v (.string ⟨#[]⟩),.v (.int .i64 0)]):=by
 refine eG 38 [.tmp 4,.tmp 5] func154 rfl ntmps154 rfl fun _ _ _ _=>?_;refine br (fun _=>?_) (fun h=>?_)
 ·exact ⟨_,ax,rfl⟩
 ·simp [aD,hs] at h
theorem kk (l:List UInt8):bu l<=l.length:=by
 cases l with
 | nil=>exact bn _
 | cons c r=>grind [bu,Ex]
theorem Ez (s:ByteArray):decide (s=⟨#[]⟩)=decide (s.size=0):=by
 rw [Bool.eq_iff_iff];simp only [decide_eq_true_eq];constructor
 ·rintro rfl;rfl
 ·intro h;apply ByteArray.ext;exact Array.eq_empty_of_size_eq_zero h
theorem fG (s:ByteArray) (hs:s.size<=4611686018427387904):bA prog 82 [.v (.string s)] (.v (.bool (ay s))):=by
 refine eG 22 [.tmp 2] func82 rfl ntmps82 rfl fun _ _ _ _=>?_;by_cases h0:s.size=0
 ·refine cP uj (take_nil s h0) ?_;refine (dP ?_:);simp [aC,ay,Ez,h0]
 ·refine cP uj (lS s 0 (by omega) hs) ?_;refine (dP ?_:);have hl:=kk s.data.toList;simp only [Array.length_toList,ByteArray.size_data] at hl;simp only [aC,ay,Ez,List.drop_zero,Nat.zero_add];rw [Bool.eq_iff_iff];simp only [bg,decide_eq_true_eq,Bool.not_eq_true',decide_eq_false_iff_not];omega
def fN (l:List ByteArray):List (List DV):=l.map fun s=>[.v (.string s)]
def dInts (l:List Nat):List (List DV):=l.map fun (i:Nat)=>[.v (.int .i64 (i:Int))]
theorem cT (l:List ByteArray):(fN l).length=l.length:=by simp [fN]
theorem cy (l:List Nat):(dInts l).length=l.length:=by simp [dInts]
theorem hZ {l:List ByteArray} {j:Nat} {x:ByteArray} (h:l[j]? = some x):(fN l)[j]? = some [.v (.string x)]:=by simp [fN,h]
theorem dJ {l:List Nat} {j:Nat} {x:Nat} (h:l[j]? = some x):(dInts l)[j]? = some [.v (.int .i64 (x:Int))]:=by simp [dInts,h]
abbrev Hx (g:Nat) (cb:List DV) (i j:Nat):St:=⟨[(1,⟨[],.fn g [] cb⟩),aJ 5 i,aJ 6 j],[],[]⟩
theorem uq (g:Nat) (gh:Enters prog g) (cb:List DV) (n m:Nat) (hn:n<=1099511627776) (hm:m<=n) (hcb:CcL [] 0 0 0 cb cb) (fD:clB.clL 0 0 cb=true)
  (hp:∀ i:Nat,i < n->bA prog g (.v (.int .i64 i) :: cb) (.v (.bool (decide (m<=i))))) :
  bA prog 200 [.v (.int .i64 n),.fn g [] cb] (.v (.int .i64 m)):=by
 refine eG 26 [.tmp 4] func200 rfl ntmps200 rfl fun _ _ _ _=>?_;have wv:clB 0 0 (.fn g [] cb)=true:=by simp only [clB,bg];exact ⟨rfl,fD⟩
 refine lI (fun j st=>∃ a b:Nat,st=Hx g cb a b/\a<=m/\m<=b/\b<=n/\j=b - a) ⟨0,n,rfl,by omega,by omega,by omega,rfl⟩ (dg (gv wv)) ?_;rintro j st ⟨a,b,rfl,h1,h2,h3,rfl⟩;refine br ?_ ?_<;>intro h
 ·have aE:a < b:=sU h
  have XT:IntKind.i64.wrap ((IntKind.u64.wrap (IntKind.i64.wrap ((a:Int) + (b:Int)))).fdiv (2 ^ (min ((1:Int).toNat) IntKind.u64.bits)))=(((a + b) / 2:Nat):Int):=by
   rw [wrap64 (n:=(a:Int) + (b:Int)) (by omega) (by omega),IntKind.wrap_u64];have e2:(2:Int) ^ (min ((1:Int).toNat) IntKind.u64.bits)=2:=by decide
   rw [e2,Int.fdiv_eq_ediv_of_nonneg _ (by decide),wrap64 (by omega) (by omega)];omega
  refine ⟨by decide,?_⟩;refine cP gh (hp ((a + b) / 2) (by omega)) ?_ ⟨_,_,rfl,congrArg (fun z=>DV.v (.int .i64 z)) XT,hcb⟩;refine br ?_ ?_<;>intro hq
  ·have hq:(a + b) / 2 < m:=sU hq;have uZ:=cR (e:=(a + b) / 2) (n:=n) (by omega) (by omega);rw [<- XT] at uZ;refine ⟨Hx g cb ((a + b) / 2 + 1) b,(dg (re wv uZ)),b - ((a + b) / 2 + 1),by omega,(a + b) / 2 + 1,b,rfl,by omega,by omega,by omega,rfl⟩
  ·have hq:m<=(a + b) / 2:=sU hq;refine ⟨Hx g cb a ((a + b) / 2),(dg (re wv XT)),(a + b) / 2 - a,by omega,a,(a + b) / 2,rfl,by omega,by omega,by omega,rfl⟩
 ·have hge:¬ a < b:=sU h;have:a=m:=by omega
  subst this;exact (rfl:_=_)
def Cn (a b:ByteArray):Bool:=Op.bytesLess a.data.toList b.data.toList
theorem lf:∀ l:List UInt8,Op.bytesLess l l=false
 | []=>rfl
 | a :: r=>by simp [Op.bytesLess,lf r]
theorem km:∀ {a b:List UInt8},Op.bytesLess a b=true->Op.bytesLess b a=false
 | _,[],h=>by simp [Op.bytesLess] at h
 | [],b :: r,_=>rfl
 | a :: x,b :: y,h=>by
  simp only [Op.bytesLess,Bool.or_eq_true,decide_eq_true_eq,bg,beq_iff_eq] at h;simp only [Op.bytesLess,Bool.or_eq_false_iff,decide_eq_false_iff_not,Bool.and_eq_false_imp,beq_iff_eq];rcases h with h | ⟨rfl,h⟩
  ·grind
  ·exact ⟨UInt8.lt_irrefl _,fun _=>km h⟩
structure iy (L:List ByteArray) (aN:List Nat):Prop where
 lt:∀ (i p:Nat),aN[i]? = some p->p < L.length
 srt:∀ (i j p q:Nat) (s t:ByteArray),i < j->aN[i]? = some p->aN[j]? = some q->L[p]? = some s->L[q]? = some t->Cn s t=true
 fst:∀ (i p j:Nat) (s:ByteArray),aN[i]? = some p->L[p]? = some s->L[j]? = some s->p<=j
 all:∀ (j:Nat) (s:ByteArray),L[j]? = some s->∃ i p:Nat,aN[i]? = some p/\L[p]? = some s
abbrev dm (L:List ByteArray) (aN:List Nat):List DV:=[.sl 1 (fN L) none,.sl 1 (dInts aN) none]
theorem wQ (L:List ByteArray) (aN:List Nat) (s:ByteArray) (i p:Nat) (t:ByteArray) (hi:aN[i]? = some p) (hp:L[p]? = some t) :
  bA prog 201 [.v (.int .i64 i),.pt [.pt (dm L aN) 0] 0,.pt [.v (.string s)] 0] (.v (.bool (!Cn t s))):=by
 refine eG 20 [.tmp 4] func201 rfl ntmps201 rfl fun _ _ _ _=>?_;refine dI ?_;refine iX (dJ hi) ?_;refine iX (hZ hp) ?_;exact (rfl:_=_)
theorem find_spec (L:List ByteArray) (aN:List Nat) (s:ByteArray) (q p:Nat) (hT:iy L aN) (hl:aN.length<=1099511627776) (hq:aN[q]? = some p) (hp:L[p]? = some s) :
  bA prog 112 [.pt (dm L aN) 0,.v (.string s)] (.bK [.v (.int .i64 p),.v (.bool true)]):=by
 have hqlt:=(gS hq).1;refine eG 47 [.tmp 4,.tmp 5] func112 rfl ntmps112 rfl fun _ _ _ _=>?_
 have fD:∀ i:Nat,i < aN.length->bA prog 201 [.v (.int .i64 i),.pt [.pt (dm L aN) 0] 0,.pt [.v (.string s)] 0] (.v (.bool (decide (q<=i)))):=by
  intro i hi;obtain ⟨p',zx⟩:∃ p',aN[i]? = some p':=⟨_,gE hi⟩;obtain ⟨t,ht⟩:∃ t,L[p']? = some t:=⟨_,gE (hT.lt i p' zx)⟩;have:=wQ L aN s i p' t zx ht
  have e:(!Cn t s)=decide (q<=i):=by
   rcases Nat.lt_trichotomy i q with h | h | h
   ·rw [hT.srt i q p' p t s h zx hq ht hp];simp;omega
   ·grind [Cn,lf]
   ·have h2:=hT.srt q i p p' s t h hq zx hp ht;rw [Cn,km h2];simp;omega
  rw [e] at this;exact this
 have hS:=uq 201 VE [.pt [.pt (dm L aN) 0] 0,.pt [.v (.string s)] 0] aN.length q hl (by omega) ax rfl fD;refine Cm VD hS (ug (cy aN)) rfl ?_;refine dI ?_;refine br ?_ ?_<;>intro h
 ·refine iX (dJ hq) ?_;refine iX (hZ hp) ?_;refine br ?_ ?_<;>intro h2
  ·exfalso;simp [aD,cy] at h2
  ·refine iX (dJ hq) ?_;exact ⟨_,ax,rfl⟩
 ·grind [dInts,cy]
end Go.Proofs.YtfdedoiiahbnnaaGreat
set_option maxRecDepth 100000
namespace Go.Proofs
open Go.Shelf
def Tryz.laysGg6_ren:Go.Shelf.Ren:=⟨fun | 6=>206 | 10=>276 | 11=>277 | 12=>278 | 13=>279 | 14=>280 | 24=>317 | 25=>318 | 26=>319 | 27=>320 | 28=>321 | 29=>322 | 30=>323 | 31=>324 | 32=>325 | 33=>326 | 34=>342 | 35=>343 | 36=>344 | 37=>345 | 38=>346 | 39=>360 | n=>n,fun | 20=>20 | 26=>272 | 35=>348 | 0=>0 | 37=>350 | 3=>3 | 41=>343 | 44=>355 | 49=>374 | 51=>290 | 4=>4 | 54=>377 | 53=>376 | 58=>101 | 5=>5 | 9=>9 | 60=>394 | 64=>398 | 66=>411 | 67=>71 | 17=>17 | 32=>287 | 33=>346 | 82=>428 | 12=>12 | 75=>422 | 76=>423 | 77=>424 | 78=>199 | 79=>425 | 80=>426 | n=>n,fun | n=>n⟩
theorem Tryz.laysGg6:Go.Proofs.LaysGg.n6 prog Tryz.laysGg6_ren:={
 mixed:=by kernel_rfl
 f6:=func206.trans (congrArg some (by kernel_rfl))
 f10:=func276.trans (congrArg some (by kernel_rfl))
 f11:=func277.trans (congrArg some (by kernel_rfl))
 f12:=func278.trans (congrArg some (by kernel_rfl))
 f13:=func279.trans (congrArg some (by kernel_rfl))
 f14:=func280.trans (congrArg some (by kernel_rfl))
 f24:=func317.trans (congrArg some (by kernel_rfl))
 f25:=func318.trans (congrArg some (by kernel_rfl))
 f26:=func319.trans (congrArg some (by kernel_rfl))
 f27:=func320.trans (congrArg some (by kernel_rfl))
 f28:=func321.trans (congrArg some (by kernel_rfl))
 f29:=func322.trans (congrArg some (by kernel_rfl))
 f30:=func323.trans (congrArg some (by kernel_rfl))
 f31:=func324.trans (congrArg some (by kernel_rfl))
 f32:=func325.trans (congrArg some (by kernel_rfl))
 f33:=func326.trans (congrArg some (by kernel_rfl))
 f34:=func342.trans (congrArg some (by kernel_rfl))
 f35:=func343.trans (congrArg some (by kernel_rfl))
 f36:=func344.trans (congrArg some (by kernel_rfl))
 f37:=func345.trans (congrArg some (by kernel_rfl))
 f38:=func346.trans (congrArg some (by kernel_rfl))
 f39:=func360.trans (congrArg some (by kernel_rfl))
 t0:=Tryz.underlying0
 a0:=Tryz.isAgg0
 z0:=Tryz.sizeOf0
 v0:=Tryz.zeroValue0
 i0:=by kernel_rfl
 t3:=Tryz.underlying3
 a3:=Tryz.isAgg3
 z3:=Tryz.sizeOf3
 v3:=Tryz.zeroValue3
 i3:=by kernel_rfl
 t4:=Tryz.underlying4
 a4:=Tryz.isAgg4
 z4:=Tryz.sizeOf4
 v4:=Tryz.zeroValue4
 i4:=by kernel_rfl
 t5:=Tryz.underlying5
 a5:=Tryz.isAgg5
 z5:=Tryz.sizeOf5
 v5:=Tryz.zeroValue5
 i5:=by kernel_rfl
 t9:=Tryz.underlying9
 a9:=Tryz.isAgg9
 z9:=Tryz.sizeOf9
 v9:=Tryz.zeroValue9
 i9:=by kernel_rfl
 t12:=Tryz.underlying12
 a12:=Tryz.isAgg12
 z12:=Tryz.sizeOf12
 v12:=Tryz.zeroValue12
 i12:=by kernel_rfl
 t17:=Tryz.underlying17
 a17:=Tryz.isAgg17
 z17:=Tryz.sizeOf17
 v17:=Tryz.zeroValue17
 i17:=by kernel_rfl
 t20:=Tryz.underlying20
 a20:=Tryz.isAgg20
 z20:=Tryz.sizeOf20
 v20:=Tryz.zeroValue20
 i20:=by kernel_rfl
 t26:=Tryz.underlying272
 a26:=Tryz.isAgg272
 z26:=Tryz.sizeOf272
 v26:=Tryz.zeroValue272
 i26:=by kernel_rfl
 t32:=Tryz.underlying287
 a32:=Tryz.isAgg287
 z32:=Tryz.sizeOf287
 v32:=Tryz.zeroValue287
 i32:=by kernel_rfl
 t33:=Tryz.underlying346
 a33:=Tryz.isAgg346
 z33:=Tryz.sizeOf346
 v33:=Tryz.zeroValue346
 i33:=by kernel_rfl
 t35:=Tryz.underlying348
 a35:=Tryz.isAgg348
 z35:=Tryz.sizeOf348
 v35:=Tryz.zeroValue348
 i35:=by kernel_rfl
 t37:=Tryz.underlying350
 a37:=Tryz.isAgg350
 z37:=Tryz.sizeOf350
 v37:=Tryz.zeroValue350
 i37:=by kernel_rfl
 t41:=Tryz.underlying343
 a41:=Tryz.isAgg343
 z41:=Tryz.sizeOf343
 v41:=Tryz.zeroValue343
 i41:=by kernel_rfl
 t44:=Tryz.underlying355
 a44:=Tryz.isAgg355
 z44:=Tryz.sizeOf355
 v44:=Tryz.zeroValue355
 i44:=by kernel_rfl
 t49:=Tryz.underlying374
 a49:=Tryz.isAgg374
 z49:=Tryz.sizeOf374
 v49:=Tryz.zeroValue374
 i49:=by kernel_rfl
 t51:=Tryz.underlying290
 a51:=Tryz.isAgg290
 z51:=Tryz.sizeOf290
 v51:=Tryz.zeroValue290
 i51:=by kernel_rfl
 t53:=Tryz.underlying376
 a53:=Tryz.isAgg376
 z53:=Tryz.sizeOf376
 v53:=Tryz.zeroValue376
 i53:=by kernel_rfl
 t54:=Tryz.underlying377
 a54:=Tryz.isAgg377
 z54:=Tryz.sizeOf377
 v54:=Tryz.zeroValue377
 i54:=by kernel_rfl
 t58:=Tryz.underlying101
 a58:=Tryz.isAgg101
 z58:=Tryz.sizeOf101
 v58:=Tryz.zeroValue101
 i58:=by kernel_rfl
 t60:=Tryz.underlying394
 a60:=Tryz.isAgg394
 z60:=Tryz.sizeOf394
 v60:=Tryz.zeroValue394
 i60:=by kernel_rfl
 t64:=Tryz.underlying398
 a64:=Tryz.isAgg398
 z64:=Tryz.sizeOf398
 v64:=Tryz.zeroValue398
 i64:=by kernel_rfl
 t66:=Tryz.underlying411
 a66:=Tryz.isAgg411
 z66:=Tryz.sizeOf411
 v66:=Tryz.zeroValue411
 i66:=by kernel_rfl
 t67:=Tryz.underlying71
 a67:=Tryz.isAgg71
 z67:=Tryz.sizeOf71
 v67:=Tryz.zeroValue71
 i67:=by kernel_rfl
 t75:=Tryz.underlying422
 a75:=Tryz.isAgg422
 z75:=Tryz.sizeOf422
 v75:=Tryz.zeroValue422
 i75:=by kernel_rfl
 t76:=Tryz.underlying423
 a76:=Tryz.isAgg423
 z76:=Tryz.sizeOf423
 v76:=Tryz.zeroValue423
 i76:=by kernel_rfl
 t77:=Tryz.underlying424
 a77:=Tryz.isAgg424
 z77:=Tryz.sizeOf424
 v77:=Tryz.zeroValue424
 i77:=by kernel_rfl
 t78:=Tryz.underlying199
 a78:=Tryz.isAgg199
 z78:=Tryz.sizeOf199
 v78:=Tryz.zeroValue199
 i78:=by kernel_rfl
 t79:=Tryz.underlying425
 a79:=Tryz.isAgg425
 z79:=Tryz.sizeOf425
 v79:=Tryz.zeroValue425
 i79:=by kernel_rfl
 t80:=Tryz.underlying426
 a80:=Tryz.isAgg426
 z80:=Tryz.sizeOf426
 v80:=Tryz.zeroValue426
 i80:=by kernel_rfl
 t82:=Tryz.underlying428
 a82:=Tryz.isAgg428
 z82:=Tryz.sizeOf428
 v82:=Tryz.zeroValue428
 i82:=by kernel_rfl }
end Go.Proofs
namespace Go.Proofs.YtfdedoiiahbnnaaGreat
open Go Go.RowKit Go.Lib Go.Sort Go.Proofs.Tryz
noncomputable def siT:TypeInfo:=(prog.info? 96).get (by kernel_rfl)
noncomputable def ZN:TypeInfo:=(prog.info? 3).get (by kernel_rfl)
theorem siK (n:Nat) (h2:2<=n):Lib.swapperK n ZN 2=5:=by
 have a:ZN.hasPointers=false:=by kernel_rfl
 have b:ZN.bytes=8:=by kernel_rfl
 have c:(n == 0)=false:=by simp;omega
 have d:(n == 1)=false:=by simp;omega
 simp [Lib.swapperK,a,b,c,d]
theorem OW {α:Type} [Inhabited α] (enc:α->Value) (h1:∀ x,(enc x).oneCell'=true) {lt:α->α->Bool} (hO:SWO lt) (lb:Array Value) (DL c:Nat) (d:Array α) (h2:2<=d.size) (di:d.size < 4611686018427387904) (w:World)
  (OX:LessReads prog 207 lb enc lt DL 0 d.size w) (hH:Holds enc w DL 0 d) (hblk:DL < w.heap.size) :
  Calls prog 206 #[.iface 96 (.slice (some ⟨DL,0,none⟩) d.size c),.func (.func 207) #[] lb] w fun e w'=>
   e = .returned (.tuple #[])/\∃ d' n os,PermIn 0 d.size d d' /\ SortedIn lt 0 d.size d' /\ w'=grow (putRow enc (Sort.ahead w n) DL 0 d') os:=
 Any.sort_Slice_sorted Tryz.laysGg6 96 3 siT ZN (by kernel_rfl) (by kernel_rfl) (by kernel_rfl) (by kernel_rfl) 2 (fun _=>by kernel_rfl) (by kernel_rfl) (fun _=>by kernel_rfl) enc h1 lt hO 207 lb
  (enters_of func207 (by kernel_rfl) rfl) DL 0 c d h2 di 312 (by rw [siK _ h2];kernel_rfl) true
  (fun args W=>run_callFunc_extern func312 (by kernel_rfl) (by kernel_rfl) (by kernel_rfl) (e:=Extern.ReflectliteSwapper.swap true) (by kernel_rfl) args W) w OX hH hblk
theorem LB (lb:Array Value) (p:Option Addr) (n c:Nat) (h1:n<=1) (w:World) :
  Calls prog 206 #[.iface 96 (.slice p n c),.func (.func 207) #[] lb] w fun e w'=>e = .returned (.tuple #[])/\∃ os,w'=grow w os:=by
 have h:n=0∨n=1:=by omega
 rcases h with rfl | rfl
 ·exact Any.sort_Slice_tiny Tryz.laysGg6 96 3 siT ZN (by kernel_rfl) (by kernel_rfl) (by kernel_rfl) (by kernel_rfl) 2 (fun _=>by kernel_rfl) p 0 c h1 308 (by kernel_rfl) _ _ _ w
 ·exact Any.sort_Slice_tiny Tryz.laysGg6 96 3 siT ZN (by kernel_rfl) (by kernel_rfl) (by kernel_rfl) (by kernel_rfl) 2 (fun _=>by kernel_rfl) p 1 c h1 309 (by kernel_rfl) _ _ _ w
end Go.Proofs.YtfdedoiiahbnnaaGreat
set_option maxRecDepth 100000
namespace Go.Proofs.YtfdedoiiahbnnaaGreat
open Go Go.RowKit Dv Go.Proofs.Tryz
theorem pL:∀ {a b:List UInt8},Op.bytesLess a b=false->a=b∨Op.bytesLess b a=true
 | [],[],_=>.inl rfl
 | a :: x,[],_=>.inr rfl
 | [],b :: r,h=>by simp [Op.bytesLess] at h
 | a :: x,b :: y,h=>by
  simp only [Op.bytesLess,Bool.or_eq_false_iff,decide_eq_false_iff_not,Bool.and_eq_false_imp,beq_iff_eq] at h;simp only [Op.bytesLess,Bool.or_eq_true,decide_eq_true_eq,bg,beq_iff_eq];by_cases Af:a=b
  ·subst Af;rcases pL (h.2 rfl) with h2 | h2
   all_goals grind
  all_goals grind
theorem gx:∀ {a b c:List UInt8},Op.bytesLess a b=true->Op.bytesLess b c=true->Op.bytesLess a c=true
 | _,[],_,h,_=>by simp [Op.bytesLess] at h
 | _,_ :: _,[],_,h=>by simp [Op.bytesLess] at h
 | [],b :: y,c :: z,_,_=>rfl
 | a :: x,b :: y,c :: z,h1,h2=>by
  simp only [Op.bytesLess,Bool.or_eq_true,decide_eq_true_eq,bg,beq_iff_eq] at h1 h2 ⊢;rcases h1 with h1 | ⟨rfl,h1⟩
  ·grind
  ·rcases h2 with h2 | ⟨rfl,h2⟩
   ·exact .inl h2
   ·exact .inr ⟨rfl,gx h1 h2⟩
theorem JU {s t:ByteArray} (h:Cn s t=false):s=t∨Cn t s=true:=by
 rcases pL h with h | h
 ·exact .inl (ByteArray.ext (Array.ext' h))
 ·exact .inr h
def EA (L:List ByteArray) (p q:Nat):Bool:=
 if L.getD p aZ=L.getD q aZ then decide (p < q) else Cn (L.getD p aZ) (L.getD q aZ)
theorem Tl (L:List ByteArray):Sort.SWO (EA L):=by
 have irr:∀ x,EA L x x=false:=fun x=>by simp [EA]
 have tr:∀ x y z,EA L x y=true->EA L y z=true->EA L x z=true:=by grind [EA,aZ,km,Cn,gx]
 have tot:∀ x y,EA L x y=false->x=y∨EA L y x=true:=by grind [EA,aZ,JU]
 refine ⟨irr,tr,fun x y z h1 h2=>?_⟩
 grind
theorem LD (L:List ByteArray) (d:List Nat) (i j p q:Nat) (hi:d[i]? = some p) (hj:d[j]? = some q) (hp:p < L.length) (hq:q < L.length) :
  EvS prog 207 [.v (.int .i64 i),.v (.int .i64 j),.pt [.sl 1 (dInts d) none] 0,.pt [.pt [.sl 1 (fN L) none,.v (.slice none 0 0)] 0] 0] [] [] (fun r _ _=>r = .v (.bool (EA L p q))):=by
 obtain ⟨s,hs⟩:∃ s,L[p]? = some s:=⟨_,gE hp⟩;obtain ⟨t,ht⟩:∃ t,L[q]? = some t:=⟨_,gE hq⟩;have e:EA L p q=if s=t then decide (p < q) else Cn s t:=by grind [EA]
 refine Oo (s:=true) (P:=prog) tt ui 5000 50 [.tmp 6] func207 rfl ntmps207 rfl (nL rfl) (fun _ _ _ _=>?_);refine dI ?_;refine iX (dJ hi) ?_;refine iX (dJ hj) ?_;refine dI ?_;refine iX (hZ hs) ?_;refine iX (hZ ht) ?_;refine br ?_ ?_<;>intro h
 ·have bo:s≠t:=sU h;refine dI ?_;refine iX (hZ hs) ?_;refine iX (hZ ht) ?_;refine (dP ?_:);rw [e,ag bo];rfl
 ·have bN:s=t:=sU h;refine (dP ?_:);rw [e,ah bN];simp
abbrev OY (p:Nat):Value:=.int .i64 (p:Int)
theorem EB {E:En}:∀ {ds:List Nat} {arr:List Value},RvL E (dInts ds).flatten arr->arr=ds.map OY
 | [],arr,h=>by simpa [dInts,RvL] using h
 | x :: r,arr,h=>by
  simp only [dInts,List.map_cons,List.flatten_cons,List.cons_append,List.nil_append,RvL] at h;obtain ⟨v,s,rfl,h1,h2⟩:=h;unfold Rv at h1;rw [h1.1,EB (ds:=r) h2];rfl
theorem wR {E:En}:∀ ds:List Nat,RvC E (dInts ds).flatten (ds.map OY)
 | []=>⟨cO E,by simp⟩
 | x :: r=>by
  have ih:=wR (E:=E) r;refine ⟨?_,?_⟩
  ·simp only [dInts,List.map_cons,List.flatten_cons,List.cons_append,List.nil_append];exact rvL_cons (fm rfl) ih.1
  ·intro v hv;simp only [List.map_cons,List.mem_cons] at hv;rcases hv with rfl | hv
   ·rfl
   ·exact ih.2 v hv
theorem abL {m:Nat}:∀ ds:List Nat,(∀ p∈ds,p < m + 1)->∃ D:List (Fin (m + 1)),D.map (·.val)=ds
 | [],_=>⟨[],rfl⟩
 | x :: r,h=>by
  obtain ⟨D,hD⟩:=abL r fun p hp=>h p (fA _ hp);exact ⟨⟨x,h x (by simp)⟩ :: D,by simp [hD]⟩
theorem wS {α:Type} [Inhabited α] (enc:α->Value) (w:World) (b n:Nat) (dk:Array α) (os:Array Obj) (arr:List Value) (ty:TypeId) (hw:w.heap[b]? = some (.cells arr.toArray ty (0,0))) (hl:arr.length=dk.size) :
  ∀ k,k < w.heap.size->(Sort.grow (Sort.putRow enc (Sort.ahead w n) b 0 dk) os).heap[k]? = (World.c8 w b (.cells (dk.toList.map enc).toArray ty (0,0))).heap[k]?:=by
 intro k hk;simp only [Sort.grow,Sort.putRow,Sort.mapBlock,Sort.ahead];rw [Array.getElem?_append_left (sU hk),Array.getElem?_modify];by_cases hkb:b=k
 ·subst hkb;rw [ah rfl,hw,eI hw];simp only [Option.map_some,Sort.onCells,oI,Obj.cells.injEq,and_true];apply Array.ext_getElem?;intro j;simp only [Sort.putCells,Array.getElem?_mapIdx]
  grind
 ·rw [ag hkb,cS (Ne.symm hkb)]
theorem OZ {α:Type} {l:List α} {i:Nat} {x:α} (h:l[i]? = some x):l.set i x=l:=by
 apply List.ext_getElem?
 grind
theorem LF {X:Ctx} {st:St} {k:List It} (hP:X.P=prog) {i c len:Nat} {ds:List Nat} (hlen:len=ds.length) {lbD:List DV} {d:Nat} (N:Nat) (hN:∀ p∈ds,p < N) (lt:Nat->Nat->Bool) (hO:Sort.SWO lt)
  (kN:st.bx[i]? = some (dInts ds).flatten) (hn:ds.length<=1099511627776) (lbF:List Nat->List DV) (LG:∀ dk:List Nat,dk.length=ds.length->CcL (st.bx.set i (dInts dk).flatten) 0 0 0 (lbF dk) lbD)
  (OX:∀ dk:List Nat,dk.length=ds.length->(∀ p∈dk,p < N)->∀ i j p q:Nat,dk[i]? = some p->dk[j]? = some q->EvS prog 207 (.v (.int .i64 i) :: .v (.int .i64 j) :: lbF dk) [] [] (fun r _ _=>r = .v (.bool (lt p q))))
  (hd:eV X.nt st.sl (some d)=true)
  (hk:∀ XU:List Nat,XU.Perm ds->(∀ i j p q:Nat,i < j->XU[i]? = some p->XU[j]? = some q->lt q p=false)->go X 4000 k ⟨(d,⟨[],.bK []⟩) :: st.sl,st.bx.set i (dInts XU).flatten,st.tk⟩)
  (bp:X.still=false:=by exact rfl) (hX:X.bt=[]:=by exact rfl):CallG X 206 [.pY 96 (.ms i 1 0 len c),.fn 207 [] lbD] (some d) k st:=by
 subst hlen;refine ⟨?_,bp,fun E a w vs h hv=>?_⟩
 ·rw [hP];exact abc
 rw [hP];simp only [RvL] at hv;obtain ⟨v1,_,rfl,h1,v2,_,rfl,h2,rfl⟩:=hv;unfold Rv at h1;obtain ⟨z,rfl,h1⟩:=h1;unfold Rv at h1;obtain ⟨b,ad,hb,Zy,rfl,hca⟩:=h1;unfold Rv at h2;obtain ⟨l,r,rfl,hl,hr⟩:=h2;simp only [RvL] at hl;subst hl;obtain ⟨b',ty,arr,ef,hw,pJ⟩:=h.env.dY i _ kN;rw [hb] at ef;simp only [oI] at ef;subst ef;have Hy:=EB pJ.1;have XI:=dq hw;by_cases h1:ds.length<=1
 ·refine (LB r.toArray ad ds.length c h1 w).mono ?_;rintro e w' ⟨rfl,os,rfl⟩
  have hh:∀ j,j < w.heap.size->(Sort.grow w os).heap[j]? = w.heap[j]?:=fun j hj=>by
   simp only [Sort.grow];rw [Array.getElem?_append_left hj]
  have cm:Rel X E st a (Sort.grow w os):=dr h (Ext.refl E) (h.env.gW hh) h.tk h.nw (h.fr.cu rfl rfl rfl (by simp [Sort.grow]) fun j hj=>.inr (hh j hj)) (mJ bp) (.nil hX);have G3:=hk ds (List.Perm.refl _) (fun i j p q qX _ hj=>by have:=(gS hj).1;omega);rw [OZ kN] at G3;exact go_sound 4000 _ _ G3 E _ _ (bh cm hd (.bK []) (.tuple #[]) (by unfold Rv;exact ⟨[],rfl,cO E⟩))
 ·have h2:2<=ds.length:=by omega
  have had:=hca (by omega);subst had
  obtain ⟨m,rfl⟩:∃ m,N=m + 1:=by
   cases SS:ds with
   | nil=>rw [SS] at h2;simp at h2
   | cons x r=>have:=hN x (by rw [SS];simp);exact ⟨N - 1,by omega⟩
  obtain ⟨D,hD⟩:=abL ds hN;have VY:D.length=ds.length:=by rw [<- hD];simp
  let enc:Fin (m + 1)->Value:=fun x=>OY x.val
  have hO':Sort.SWO (fun x y:Fin (m + 1)=>lt x.val y.val):=⟨fun x=>hO.irrefl _,fun x y z=>hO.trans _ _ _,fun x y z=>hO.ntrans _ _ _⟩;have abM:∀ l:List (Fin (m + 1)),l.map enc=(l.map (·.val)).map OY:=fun l=>by simp [enc]
  have hS:=OW enc (fun _=>rfl) hO' r.toArray b c D.toArray (by simpa [VY] using h2) (by simp [VY];omega) w ?_ ?_ XI
  ·simp only [List.size_toArray,VY] at hS;refine hS.mono ?_;rintro e w' ⟨rfl,d',n,os,hp,hs,rfl⟩;have di:d'.size=ds.length:=by have:=hp.1;simpa [VY] using this
   have pM:(d'.toList.map (·.val)).Perm ds:=by
    have h3:=hp.2.2;have e1:d'.extract 0 ds.length=d':=Array.extract_eq_self_of_le (by omega);have e2:D.toArray.extract 0 ds.length=D.toArray:=Array.extract_eq_self_of_le (by simp [VY]);rw [e1,e2] at h3;rw [<- hD];exact h3.map _
   have O0:∀ i j p q:Nat,i < j->(d'.toList.map (·.val))[i]? = some p->(d'.toList.map (·.val))[j]? = some q->lt q p=false:=by
    intro i j p q qX hi hj;have vZ:j < d'.size:=by have:=(gS hj).1;simpa using this
    have h3:=hs i j (Nat.zero_le _) qX (by omega);rw [getElem!_pos d' j vZ,getElem!_pos d' i (by omega)] at h3;have ZO:i < d'.size:=by omega
    simp [ZO] at hi;simp [vZ] at hj;rw [<- hi,<- hj];exact h3
   have hh:=wS enc w b n d' os arr ty hw (by rw [Hy];simp [di]);have eJ:=jT (ty:=ty) h bp hb (cs':=(dInts (d'.toList.map (·.val))).flatten) (arr':=(d'.toList.map (·.val)).map OY) (wR _) ⟨_,hw⟩;rw [<- abM] at eJ;have lF:(Sort.grow (Sort.putRow enc (Sort.ahead w n) b 0 d') os).heap.size=w.heap.size + os.size:=by simp [Sort.grow,Sort.putRow,Sort.mapBlock,Sort.ahead]
   have cm:=dr eJ (Ext.refl E) (w':=Sort.grow (Sort.putRow enc (Sort.ahead w n) b 0 d') os) (eJ.env.gW fun j hj=>hh j (by rwa [fB] at hj)) eJ.tk eJ.nw
    (eJ.fr.cu rfl rfl rfl (by rw [fB,lF];omega) fun j hj=>.inr (hh j (by rwa [fB] at hj))) (mJ bp) (.nil hX)
   exact go_sound 4000 _ _ (hk _ pM O0) E _ _ (bh cm hd (.bK []) (.tuple #[]) (by unfold Rv;exact ⟨[],rfl,cO E⟩))
  ·intro mm os dk hs i' j' hi hj;have di:dk.size=ds.length:=sV VY hs;have hh:=wS enc w b mm dk os arr ty hw (by rw [Hy];simp [di]);have hE:=h.env.set hb XI (ty:=ty) (wR (E:=E) (dk.toList.map (·.val)));rw [<- abM] at hE;have hE':=hE.gW (w':=Go.Proofs.sortWorld enc w b 0 mm dk os) fun j hj=>hh j (by rwa [fB] at hj);have ZO:i' < dk.size:=by rw [di,<- VY];simpa using hi
   have vZ:j' < dk.size:=by rw [di,<- VY];simpa using hj
   have hLL:(dk.toList.map (·.val)).length=ds.length:=sU di
   have hc:=OX (dk.toList.map (·.val)) hLL (fun p hp=>by
    obtain ⟨x,_,rfl⟩:=List.mem_map.1 hp
    exact x.isLt) i' j' (dk[i']!).val (dk[j']!).val (by rw [getElem!_pos dk i' ZO];simp [ZO]) (by rw [getElem!_pos dk j' vZ];simp [vZ])
   have hv:RvL E (.v (.int .i64 (i':Int)) :: .v (.int .i64 (j':Int)) :: lbD) (.int .i64 (i':Int) :: .int .i64 (j':Int) :: r):=rvL_cons (fm rfl) (rvL_cons (fm rfl) hr);have hb:=jF hE' hc ⟨_,_,rfl,rfl,_,_,rfl,rfl,LG _ hLL⟩ hv;have hargs:(#[Value.int .i64 (i':Int),Value.int .i64 (j':Int)] ++ r.toArray)=(Value.int .i64 (i':Int) :: Value.int .i64 (j':Int) :: r).toArray:=by simp
   rw [hargs];refine hb.mono ?_;rintro e w' ⟨v,E2,rfl,NS,_,Su⟩;have:=bL NS;subst this;exact ⟨rfl,Su rfl⟩
  ·intro j hj;have vZ:j < D.length:=sU hj;rw [cJ hw,Nat.zero_add,Hy];refine ⟨?_,?_⟩
   ·rw [getElem!_pos D.toArray j hj,<- hD];simp [vZ,enc]
   ·simp [World.frozen?,hw]
theorem Ag {n m:Nat} {tk:List TkE}:∀ ds:List Nat,WeL n m tk (dInts ds).flatten (dInts ds).flatten
 | []=>rfl
 | b :: r=>⟨_,_,rfl,az rfl,Ag r⟩
theorem rk {n m:Nat} {tk:List TkE} {l:List DV} {ds:List Nat} (h:l=(dInts ds).flatten):WeL n m tk l (dInts ds).flatten:=by rw [h];exact Ag ds
def iz (n e:Nat):List Nat:=List.range e ++ List.replicate (n - e) 0
theorem LH {n e:Nat} (h:e<=n):(iz n e).length=n:=by simp [iz];omega
theorem fillA_0 (n:Nat):(List.replicate n [DV.v (.int .i64 0)]).flatten=(dInts (iz n 0)).flatten:=by simp [iz,dInts]
theorem Tm (n:Nat):iz n n=List.range n:=by simp [iz]
theorem oQ (ds:List Nat):(dInts ds).flatten=ds.map fun (i:Nat)=>DV.v (.int .i64 (i:Int)):=by
 induction ds with
 | nil=>rfl
 | cons x r ih=>simp only [dInts,List.map_cons,List.flatten_cons] at ih ⊢;rw [ih];all_goals rfl
theorem Hz {n e:Nat} (h:e < n):(dInts (iz n e)).flatten.take e ++ [DV.v (.int .i64 (e:Int))] ++ (dInts (iz n e)).flatten.drop (e + 1)=(dInts (iz n (e + 1))).flatten:=by
 simp only [oQ,<- List.map_take,<- List.map_drop];have e1:(iz n e).take e=List.range e:=by simp [iz]
 have e2:(iz n e).drop (e + 1)=List.replicate (n - (e + 1)) 0:=by
  simp only [iz,List.drop_append,List.length_range];rw [List.drop_eq_nil_of_le (by simp),List.nil_append,List.drop_replicate];congr 1;omega
 rw [e1,e2];simp [iz,List.range_succ]
abbrev O4 (L:List ByteArray) (e:Nat):St:=
 ⟨[bq 3 1,bq 4 3,aJ 16 ((fN L).length),aJ 17 e],
  [[.sl 1 (fN L) (some 0),.v (.slice none 0 0)],[.loc 0 0],(dInts (iz (fN L).length e)).flatten,[.ms 2 1 0 (fN L).length (fN L).length]],[⟨(fN L).length,9,1,none⟩]⟩
def ia (L:List ByteArray) (ds:List Nat) (i:Nat):Bool:=decide (i=0) || !decide (L.getD (ds.getD i 0) aZ=L.getD (ds.getD (i - 1) 0) aZ)
def fH (L:List ByteArray) (ds:List Nat) (e:Nat):List Nat:=((List.range e).filter (ia L ds)).map fun i=>ds.getD i 0
theorem wT (L:List ByteArray) (ds:List Nat) (e:Nat):fH L ds (e + 1)=fH L ds e ++ (if ia L ds e=true then [ds.getD e 0] else []):=by
 unfold fH;rw [List.range_succ,List.filter_append,List.map_append];congr 1;cases h:ia L ds e<;>simp [h]
theorem LI (L:List ByteArray) (ds:List Nat) (e:Nat):(fH L ds e).length<=e:=by grind [fH]
abbrev XV (L:List ByteArray) (ds:List Nat):St:=
 ⟨[bq 3 1,wD 4 [.sl 1 (dInts ds) none],dH 29 1 (dInts ds),aJ 30 ((fN L).length),aJ 31 0],
  [[.sl 1 (fN L) (some 0),.v (.slice none 0 0)],[.loc 0 0]],[⟨(fN L).length,9,1,none⟩]⟩
abbrev EC (L:List ByteArray) (ds aN:List Nat) (m e:Nat):St:=
 ⟨[bq 3 1,wD 4 [.sl 1 (dInts ds) none],dH 29 1 (dInts ds),aJ 30 ((fN L).length),aJ 31 e],
  [[.sl 1 (fN L) (some 0),.sl 1 (dInts aN) (some 1)],[.loc 0 0]],[⟨(fN L).length,9,1,none⟩,⟨m,3,1,none⟩]⟩
theorem getD_some {α:Type} {l:List α} {i:Nat} {x d:α} (h:l[i]? = some x):l.getD i d=x:=by simp [nz,h]
theorem sN {α:Type} {l:List α} {i:Nat} {d:α} (h:i < l.length):l[i]? = some (l.getD i d):=by grind
theorem XW {L:List ByteArray} {ds:List Nat} (pM:ds.Perm (List.range L.length)) (O0:∀ i j p q:Nat,i < j->ds[i]? = some p->ds[j]? = some q->EA L q p=false):iy L (fH L ds L.length):=by
 have hlen:ds.length=L.length:=by rw [pM.length_eq,List.length_range]
 let D:Nat->Nat:=fun i=>ds.getD i 0
 let T:Nat->ByteArray:=fun i=>L.getD (D i) aZ
 have hD:∀ i,i < L.length->ds[i]? = some (D i):=fun i hi=>sN (by omega)
 have hDn:∀ i,i < L.length->D i < L.length:=fun i hi=>by
  have:=pM.mem_iff.1 (mG (hD i hi));exact List.mem_range.1 this
 have hT:∀ i,i < L.length->L[D i]? = some (T i):=fun i hi=>sN (hDn i hi);have jk:∀ i j,i < j->j < L.length->T i=T j∨Cn (T i) (T j)=true:=by grind [EA,JU]
 have abN:∀ i,i < L.length->ia L ds i=true->∀ j,j < i->Cn (T j) (T i)=true:=by
  intro i hi hh j Xh;have bo:T i≠T (i - 1):=by grind [ia]
  grind [Cn,gx]
 have zW:∀ j,j < L.length->∃ k,k < L.length/\D k=j:=by
  intro j hj;have:=pM.mem_iff.2 (List.mem_range.2 hj);obtain ⟨k,hk⟩:=List.getElem?_of_mem this
  grind
 let H:=(List.range L.length).filter (ia L ds)
 have hH:∀ (a i:Nat),H[a]? = some i->i < L.length/\ia L ds i=true:=fun a i h=>by
  have:=mG h
  grind
 have LJ:∀ (a p:Nat),(fH L ds L.length)[a]? = some p->∃ i,H[a]? = some i/\D i=p:=by grind [fH,ia]
 have hinc:∀ (a b i k:Nat),a < b->H[a]? = some i->H[b]? = some k->i < k:=by
  intro a b i k Af hi hk;have hp:List.Pairwise (·< ·) H:=List.Pairwise.filter _ List.pairwise_lt_range;obtain ⟨ha,rfl⟩:=List.getElem?_eq_some_iff.1 hi;obtain ⟨hb,rfl⟩:=List.getElem?_eq_some_iff.1 hk;exact List.pairwise_iff_getElem.1 hp a b ha hb Af
 refine ⟨?_,?_,?_,?_⟩
 ·intro a p h;obtain ⟨i,hi,rfl⟩:=LJ a p h;exact hDn i (hH a i hi).1
 ·intro a b p q s t Af hp hq hs ht;obtain ⟨i,hi,rfl⟩:=LJ a p hp;obtain ⟨k,hk,rfl⟩:=LJ b q hq;rw [hT i (hH a i hi).1] at hs;rw [hT k (hH b k hk).1] at ht
  grind
 ·intro a p j s hp hs hj;obtain ⟨i,hi,rfl⟩:=LJ a p hp;obtain ⟨JV,NO⟩:=hH a i hi;obtain ⟨k,hk,rfl⟩:=zW j (gS hj).1;rw [hT i JV] at hs;rw [hT k hk] at hj;simp only [oI] at hs hj;rcases Nat.lt_trichotomy k i with h | h | h
  ·have:=abN i JV NO k h;rw [hs,hj,Cn,lf] at this;cases this
  ·rw [h];exact bn _
  ·have h2:=O0 i k (D i) (D k) h (hD i JV) (hD k hk)
   grind [EA,aZ]
 ·intro j s hj;obtain ⟨k,hk,rfl⟩:=zW j (gS hj).1;rw [hT k hk] at hj;simp only [oI] at hj;obtain ⟨i,⟨JV,his⟩,hmin⟩:=least (p:=fun i=>i < L.length/\T i=s) ⟨k,hk,hj⟩;have NO:ia L ds i=true:=by grind [ia,aZ]
  have hm:i∈H:=by simp only [H,List.mem_filter,List.mem_range];exact ⟨JV,NO⟩
  obtain ⟨a,ha⟩:=List.getElem?_of_mem hm;refine ⟨a,D i,?_,by rw [hT i JV,his]⟩;unfold fH
  grind
theorem wU (L:List ByteArray) (hl:L.length<=1099511627776) :
  Ev prog 125 [.sl 1 (fN L) none] [] [] (fun r _ _=>∃ aN,iy L aN/\aN.length<=L.length/\r = .pt (dm L aN) 0):=by
 have hN:=cT L;refine eG 71 [.tmp 2] func125 rfl ntmps125 rfl fun _ _ _ _=>?_;refine ⟨⟨by simp [hN,maxLen];omega,by simp [hN];omega⟩,?_⟩;refine ⟨⟨rfl,by omega,by omega,by omega⟩,?_⟩;refine lJ (fun e=>O4 L e) L.length (kD 4 (by repeat' (first | exact rfl | exact az rfl | exact rk (fillA_0 _) | refine ⟨_,_,rfl,?_,?_⟩)) (by repeat' (first | exact trivial | exact az rfl | exact rk (fillA_0 _) | refine ⟨⟨_,rfl,?_⟩,?_⟩))) ?_;intro e he;refine br ?_ ?_<;>intro h
 ·have aE:e < (fN L).length:=sU h;refine ⟨⟨by omega,by omega⟩,?_⟩;have e1:(dInts (iz (fN L).length e)).flatten.length=(fN L).length:=by rw [oQ,List.length_map,LH (by omega)]
  refine ⟨by rw [e1];omega,?_⟩
  have cx:(dInts (iz (fN L).length e)).flatten.set (0 + (e:Int).toNat * 1) (DV.v (.int .i64 (e:Int)))=(dInts (iz (fN L).length (e + 1))).flatten:=by
   rw [show 0 + (e:Int).toNat * 1=e by omega,List.set_eq_take_append_cons_drop,ah (by rw [e1];omega),<- Hz aE];simp
  refine ⟨O4 L (e + 1),(kD 4 (by repeat' (first | exact rfl | exact az rfl | exact rk cx | exact aP (cR aE (by omega)) | refine ⟨_,_,rfl,?_,?_⟩)) (by repeat' (first | exact trivial | exact az rfl | exact rk cx | exact aP (cR aE (by omega)) | refine ⟨⟨_,rfl,?_⟩,?_⟩))),L.length - (e + 1),by omega,e + 1,rfl,by omega,rfl⟩
 ·have hge:e=(fN L).length:=by grind
  subst hge;rw [Tm]
  have hms:∀ dk:List Nat,dk.length=(List.range (fN L).length).length->∀ bx:List (List DV),bx[2]? = some (dInts dk).flatten->∀ N0 n0 m0:Nat,N0<=2->Cc bx N0 n0 m0 (.sl 1 (dInts dk) none) (.ms 2 1 0 (fN L).length (fN L).length):=by
   intro dk hdk bx hb N0 n0 m0 hN0;simp only [Cc];refine Or.inr (Or.inr (Or.inl ⟨2,0,(fN L).length,_,?_,hN0,hb,?_,?_,?_⟩))
   ·rw [cy,hdk,List.length_range]
   ·rw [List.drop_zero,List.take_of_length_le];rw [oQ,List.length_map,cy];omega
   ·grind [dInts]
   ·grind [oQ]
  refine LF (ds:=List.range (fN L).length) rfl (by simp) (fN L).length (fun p hp=>List.mem_range.1 hp) (EA L) (Tl L) rfl (by simp [hN];omega)
   (fun dk=>[.pt [.sl 1 (dInts dk) none] 0,.pt [.pt [.sl 1 (fN L) none,.v (.slice none 0 0)] 0] 0])
   (fun dk hdk=>⟨_,_,rfl,Or.inr ⟨3,_,rfl,Nat.zero_le _,rfl,⟨_,_,rfl,hms dk hdk _ rfl 0 0 0 (Nat.zero_le _),rfl⟩⟩,ax⟩)
   (fun dk hdk hp i j p q hi hj=>LD L dk i j p q hi hj (by have:=hp p (mG hi);omega) (by have:=hp q (mG hj);omega)) rfl (fun ds pM O0=>?_)
  have qM:ds.length=(fN L).length:=by rw [pM.length_eq,List.length_range]
  have abP:=hms ds (by rw [qM,List.length_range])
  refine OE 2 (XV L ds) rfl rfl rfl ⟨_,_,rfl,⟨_,_,rfl,⟨nL rfl,rfl⟩,_,_,rfl,rfl,rfl⟩,_,_,rfl,⟨_,_,rfl,⟨nL rfl,rfl⟩,rfl⟩,rfl⟩
   ⟨⟨_,rfl,⟨nL rfl,rfl⟩⟩,⟨_,rfl,Or.inr ⟨3,_,rfl,by decide,rfl,⟨_,_,rfl,abP _ rfl 2 0 0 (by decide),rfl⟩⟩⟩,⟨_,rfl,abP _ rfl 2 2 1 (by decide)⟩,⟨_,rfl,rfl⟩,⟨_,rfl,rfl⟩,trivial⟩ ?_
  refine cH (fun j st=>∃ e m:Nat,st=EC L ds (fH L ds e) m e/\m=(fH L ds e).length/\e<=(fN L).length/\j=(fN L).length - e) (fN L).length (EC L ds [] 0 0)
   (jG 2 ⟨0,3,1,none⟩ rfl rfl rfl JB rfl rfl wB) ⟨0,0,rfl,rfl,by omega,by omega⟩ ?_
  rintro j st ⟨e,m,rfl,hm,he,rfl⟩;have mB:=LI L ds e;refine br ?_ ?_<;>intro h
  ·have aE:e < (fN L).length:=sU h;obtain ⟨p,hp⟩:∃ p,ds[e]? = some p:=⟨_,gE (by omega)⟩
   have hpL:p < L.length:=by
    have:=pM.mem_iff.1 (mG hp);rw [List.mem_range] at this;omega
   obtain ⟨s,hs⟩:∃ s,L[p]? = some s:=⟨_,gE hpL⟩;refine iX (dJ hp) ?_;have hgp:ds.getD e 0=p:=by simp [nz,hp]
   have Lk:L.getD p aZ=s:=by simp [nz,hs]
   have dB:ia L ds e=true->fH L ds (e + 1)=fH L ds e ++ [p]:=fun hh=>by rw [wT,ah hh,hgp]
   have hold:ia L ds e=false->fH L ds (e + 1)=fH L ds e:=fun hh=>by rw [wT,ag (by rw [hh];decide),List.append_nil]
   have JW:ia L ds e=true->dInts (fH L ds e) ++ [[DV.v (.int .i64 (p:Int))]]=dInts (fH L ds (e + 1)):=fun hh=>by rw [dB hh];simp [dInts]
   by_cases h0:e=0
   ·subst h0;have hh:ia L ds 0=true:=by simp [ia]
    refine dI ?_;refine dS ?_;refine ⟨by rw [cy,hm],⟨by simp [cy,maxLen];omega,by simp [cy];omega⟩,?_⟩;refine ⟨EC L ds (fH L ds 1) (m + 1) 1,(kD 2 (by repeat' (first | exact rfl | exact az rfl | exact aP (cR aE (by omega)) | exact fq (JW hh) rfl | refine ⟨_,_,rfl,?_,?_⟩)) (by repeat' (first | exact trivial | exact az rfl | exact aP (cR aE (by omega)) | exact fq (JW hh) rfl | refine ⟨⟨_,rfl,?_⟩,?_⟩))),(fN L).length - 1,by omega,1,m + 1,rfl,by rw [dB hh,List.length_append,hm];rfl,by omega,rfl⟩
   ·obtain ⟨p',zx⟩:∃ p',ds[e - 1]? = some p':=⟨_,gE (by omega)⟩
    have hpL':p' < L.length:=by
     have:=pM.mem_iff.1 (mG zx);rw [List.mem_range] at this;omega
    obtain ⟨s',hs'⟩:∃ s',L[p']? = some s':=⟨_,gE hpL'⟩;have hgp':ds.getD (e - 1) 0=p':=by simp [nz,zx]
    have hgs':L.getD p' aZ=s':=by simp [nz,hs']
    have hhd:ia L ds e = !decide (s=s'):=by grind [ia]
    have hz:IntKind.i64.wrap ((e:Int) - 1)=((e - 1:Nat):Int):=by rw [wrap64 (by omega) (by omega)];omega
    refine dI ?_;refine br (fun _=>?_) (fun h=>?_)
    ·refine iX (hZ hs) ?_;refine ⟨[.v (.int .i64 (p':Int))],⟨by rw [hz];omega,by rw [hz];exact dJ zx⟩,?_⟩;refine iX (hZ hs') ?_;refine br ?_ ?_<;>intro h2
     ·have hh:ia L ds e=true:=by grind [aD]
      refine dS ?_;refine ⟨by rw [cy,hm],⟨by simp [cy,maxLen];omega,by simp [cy];omega⟩,?_⟩;refine ⟨EC L ds (fH L ds (e + 1)) (m + 1) (e + 1),(kD 2 (by repeat' (first | exact rfl | exact az rfl | exact aP (cR aE (by omega)) | exact fq (JW hh) rfl | refine ⟨_,_,rfl,?_,?_⟩)) (by repeat' (first | exact trivial | exact az rfl | exact aP (cR aE (by omega)) | exact fq (JW hh) rfl | refine ⟨⟨_,rfl,?_⟩,?_⟩))),(fN L).length - (e + 1),by omega,e + 1,m + 1,rfl,by rw [dB hh,List.length_append,hm];rfl,by omega,rfl⟩
     ·have hh:ia L ds e=false:=by grind [aD]
      have bN:dInts (fH L ds e)=dInts (fH L ds (e + 1)):=by rw [hold hh]
      refine ⟨EC L ds (fH L ds (e + 1)) m (e + 1),(kD 2 (Vo (cR aE (by omega)) bN) (re (cR aE (by omega)) bN)),(fN L).length - (e + 1),by omega,e + 1,m,rfl,by rw [hold hh,hm],by omega,rfl⟩
    ·grind
  ·have hge:e=L.length:=by grind
   subst hge;exact ⟨.pt (dm L (fH L ds L.length)) 0,Or.inr ⟨0,_,rfl,Nat.zero_le _,rfl,ax⟩,_,XW (by rw [<- hN];exact pM) O0,mB,rfl⟩
abbrev abQ (L:List ByteArray) (aN:List Nat) (e:Nat):St:=
 ⟨[wD 3 (dm L aN),dH 10 1 (fN L),aJ 11 ((fN L).length),aJ 12 e],[],[]⟩
theorem O5 {α:Type}:∀ {l:List α},(∀ (i j:Nat) (x:α),j < i->l[i]? = some x->l[j]? ≠ some x)->l.Nodup
 | l,h=>by
  rw [List.nodup_iff_pairwise_ne,List.pairwise_iff_getElem];intro i j hi hj qX he;exact h j i l[j] qX (gE hj) (by rw [gE hi,he])
theorem qf (L:List ByteArray) (hl:L.length<=1099511627776) :
  Ev prog 131 [.sl 1 (fN L) none] [] [] (fun r _ _=>∃ z:Int,r = .v (.int .i64 z)/\(0<=z↔¬ L.Nodup)):=by
 have hN:=cT L;refine eG 28 [.tmp 2] func131 rfl ntmps131 rfl fun _ _ _ _=>?_;refine eo OI rfl (wU L hl) ax (fun r hr=>?_);obtain ⟨aN,hT,mB,rfl⟩:=hr;refine lI (fun j st=>∃ e:Nat,st=abQ L aN e/\e<=L.length/\(∀ (i j:Nat) (x:ByteArray),i < e->j < i->L[i]? = some x->L[j]? ≠ some x)/\j=L.length - e) ⟨0,rfl,by omega,fun i j x hi=>by omega,rfl⟩ (dg wB) ?_;rintro j st ⟨e,rfl,he,hinv,rfl⟩;refine br ?_ ?_<;>intro h
 ·have aE:e < L.length:=sV hN h;obtain ⟨s,hs⟩:=gX aE;obtain ⟨q,p,hq,hp⟩:=hT.all e s hs;have dV:=hT.fst q p e s hq hp hs;refine iX (hZ hs) ?_;refine cP nY (find_spec L aN s q p hT (by omega) hq hp) ?_;refine br ?_ ?_<;>intro h2
  ·have h2:p < e:=sU h2;refine ⟨(e:Int),rfl,⟨fun _ hnd=>?_,fun _=>by omega⟩⟩;rw [List.nodup_iff_pairwise_ne,List.pairwise_iff_getElem] at hnd;obtain ⟨h3,h4⟩:=List.getElem?_eq_some_iff.1 hp;obtain ⟨h5,h6⟩:=List.getElem?_eq_some_iff.1 hs;exact hnd p e h3 h5 h2 (by rw [h4,h6])
  ·have h2:¬ p < e:=sU h2;refine ⟨abQ L aN (e + 1),(dg (gv (cR aE (by omega)))),L.length - (e + 1),by omega,e + 1,rfl,by omega,fun i j x hi hj hx hjx=>?_,rfl⟩;by_cases ZM:i=e
   ·subst ZM;rw [hs] at hx;simp only [oI] at hx;subst hx;have:=hT.fst q p j s hq hp hjx;omega
   ·exact hinv i j x (by omega) hj hx hjx
 ·have hge:e=L.length:=by grind
  subst hge;refine ⟨-1,rfl,⟨fun h3=>by omega,fun h3=>?_⟩⟩;exact absurd (O5 fun i j x qX hi hj=>hinv i j x (gS hi).1 qX hi hj) h3
def sameWds:List Wd->List Wd->Bool
 | [],[]=>true
 | x :: r,y :: s=>decide (x.s=y.s) && sameWds r s
 | _,_=>false
def cw (p q:Ph):Bool:=(p.bare == q.bare) && decide (p.wide=q.wide) && sameWds p.label q.label && decide (p.ck=q.ck) && decide (p.cn=q.cn) && sameWds p.cl q.cl
def lg (h k:Hd):Bool:=decide (h.al=k.al) && decide (h.lo=k.lo) && decide (h.hi=k.hi) && decide (h.most=k.most) && decide (h.name.s=k.name.s) && sameWds h.af k.af
mutual
def sameTy:Ty->Ty->Bool
 | .mk h ps,.mk k qs=>lg h k && samePts ps qs
def samePts:Pts->Pts->Bool
 | .nil,.nil=>true
 | .cons p t r,.cons q u s=>decide (p.name.s=q.name.s) && cw p q && sameTy t u && samePts r s
 | _,_=>false
end
def HA (h:Hd):Hd:=
 ⟨h.al,0,if h.al=2 then h.lo else 0,if h.al=2 then h.hi else 0,if h.al=3∨h.al=5 then h.most else 0,if h.al=4 then h.af else [],if h.al=9 then h.name else ⟨aZ,0⟩⟩
def mask:Ty->Ty
 | .mk h ps=>.mk (HA h) (if 4 < h.al/\h.al < 9 then ps else .nil)
end Go.Proofs.YtfdedoiiahbnnaaGreat
