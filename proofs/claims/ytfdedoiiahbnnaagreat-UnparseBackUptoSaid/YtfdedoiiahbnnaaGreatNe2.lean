/- Part 2 of the proof: The evaluator 'go' is sound: the end of a call, the theorem; contracts; rules for branches, calls, loops; Rules for the evaluator: what is known made less, loops; A region that draws its order: where the operations with an effect are ordered among themselves, and what writes waits for all that reads, one run in the order of the text serves every order; The evaluator at regions that draw their order: one run in the order of the text; what is read is what was known at the region's beginning; A region that draws its order, in which two operations with an effect are not ordered: the run in either order of these two serves every order; Rules for the evaluator: a call that is handed the caller's own objects, to read them; Rules for the evaluator: objects that are written no more are frozen, ahead of a loop; Rules for the evaluator: a call that is handed one of the caller's objects, to write it; The table of this program's types, by which the evaluator goes; The program's functions are entered; The data of the document's types, plain, and as the evaluator has them; Names: the program's and the reference's functions say the same of a text; sort.Search; the program's table of texts: Find; The library's sort.Slice, laid at this program by the kit's tool (lay-plain; wip/tools/lay.sh); The order of the table; the closure handed to sort.Slice; sort.Slice of the table's places, at a call; names.New: the table; names.Twice: does a text stand earlier, too?; Contracts: the reference's words, Plain, Same, Zero, own; Contracts: the reference's Same, Zero, own; Contracts: the reference's Label, listed, names, Size, with, coarse; What is wrong with a type: the plain function; the reference's Wrong and parts return it; The program's checks of types: bad, listed, label, words. No condition. -/
import Derived.Scope
import Derived.Test.YtfdedoiiahbnnaaGreatProg
import Derived.Shelf.GgSortFunc.Whole
import Derived.Shelf.GgSortFunc.Tiny
import Derived.Test.YtfdedoiiahbnnaaGreatNe1
set_option linter.all false
namespace Go.Proofs.YtfdedoiiahbnnaaGreat
namespace Dv
open Go Go.RowKit
structure GM (E E':En) (bx:List (List DV)) (N:Nat):Prop where
 c:∀ a v,E.c a=some v->E'.c a=some v
 fz:∀ (i:Nat) cs,N<=i->bx[i]? = some cs->∃ b arr,E.β[i]? = some b/\RvC E cs arr/\∀ (j:Nat) u,arr[j]? = some u->E'.c ⟨b,j,none⟩=some u
theorem GM.cl {E E':En} {bx:List (List DV)} {N:Nat} (h:GM E E' bx N):GM E E'.cl bx N:=⟨h.c,h.fz⟩
structure DD (E E':En) (n0 m0:Nat):Prop where
 β:∀ (i:Nat) b,i < n0->E.β[i]? = some b->E'.β[i]? = some b
 tk:∀ k,k < m0->E'.tk[k]? = E.tk[k]? /\ E'.τ[k]? = E.τ[k]?
theorem DD.zero (E E':En):DD E E' 0 0:=⟨fun _ _ h=>absurd h (Nat.not_lt_zero _),fun _ h=>absurd h (Nat.not_lt_zero _)⟩
theorem Ext.Ke (E:En):Ext E.cl E:=⟨fun _ _ h=>h,fun j b hj=>by simp [En.cl] at hj,fun k q hk=>by simp [En.cl] at hk⟩
theorem yz {E E':En} (hm:∀ e b o es,RvEs E.cl e b o es->RvEs E'.cl e b o es):∀ {l:List DV} {arr:List Value},(∀ x∈l,(∃ y,x = .v y)∨∃ e' xX,x = .sl e' xX none)->RvL E l arr->RvL E' l arr
 | [],arr,_,h=>by simp only [RvL] at h ⊢;exact h
 | d :: r,arr,hs,h=>by
  simp only [RvL] at h ⊢;obtain ⟨v,s,rfl,h1,h2⟩:=h;refine ⟨v,s,rfl,?_,yz hm (fun x hx=>hs x (eB _ hx)) h2⟩;rcases hs d (by simp) with ⟨y,rfl⟩ | ⟨e',xX,rfl⟩
  ·unfold Rv at h1 ⊢;exact h1
  ·unfold Rv at h1 ⊢;obtain ⟨b,n,cap,h3,h4,h5,_⟩:=h1;exact ⟨b,n,cap,h3,h4,fun hn=>⟨(h5 hn).1,hm _ _ _ _ (h5 hn).2⟩,fun k hk=>by cases hk⟩
theorem CcL.length {bx:List (List DV)} {N n0 m0:Nat}:∀ {l' l:List DV},CcL bx N n0 m0 l' l->l'.length=l.length
 | [],l,h=>by simp only [CcL] at h;subst h;rfl
 | d' :: r',l,h=>by
  simp only [CcL] at h;obtain ⟨d,r,rfl,_,h2⟩:=h;simp [CcL.length h2]
theorem CcE.length {bx:List (List DV)} {N:Nat}:∀ {l' l:List (List DV)},CcE bx N l' l->l'.length=l.length
 | [],l,h=>by simp only [CcE] at h;subst h;rfl
 | d' :: r',l,h=>by
  simp only [CcE] at h;obtain ⟨d,r,rfl,_,h2⟩:=h;simp [CcE.length h2]
theorem oe {bx:List (List DV)} {N:Nat}:∀ l:List (List DV),CcE bx N l l
 | []=>by simp only [CcE]
 | d :: r=>by simp only [CcE];exact ⟨d,r,rfl,.inl rfl,oe r⟩
mutual
theorem Cc.sound {bx:List (List DV)} {N:Nat} {E:En}:∀ {d':DV} {E':En} {n0 m0:Nat} {d:DV} {v:Value},GM E E' bx N->DD E E' n0 m0->Cc bx N n0 m0 d' d->Rv E d v->Rv E' d' v
 | .v y,E',n0,m0,d,v,hf,hl,h,hv=>by grind [Cc,Rv]
 | .ud,E',n0,m0,d,v,hf,hl,h,hv=>by grind [Cc,Rv]
 | .agg l',E',n0,m0,d,v,hf,hl,h,hv=>by
  simp only [Cc] at h;obtain ⟨l,rfl,h⟩:=h;unfold Rv at hv ⊢;obtain ⟨vs,h1,h2,h3⟩:=hv;exact ⟨vs,h1,CcL.sound hf hl h h2,h3⟩
 | .cp l',E',n0,m0,d,v,hf,hl,h,hv=>by
  simp only [Cc] at h;obtain ⟨l,rfl,h⟩:=h;unfold Rv at hv ⊢;obtain ⟨vs,h1,h2⟩:=hv;exact ⟨vs,h1,CcL.sound hf hl h h2⟩
 | .sl e es tk,E',n0,m0,d,v,hf,hl,h,hv=>by
  have hm:∀ b o,RvEs E.cl e b o es->RvEs E'.cl e b o es:=fun b o hr=>RvEs.mono (Ext.Dt hf.c) hr
  cases tk with
  | none=>
   simp only [Cc] at h;rcases h with ⟨rfl,rfl⟩ | ⟨cK,rfl⟩ | ⟨i,off,c,cs,rfl,hi,cr,DE,Ha,qg⟩ | ⟨Ub,cK,rfl,h⟩
   ·have:=bC hv;subst this;unfold Rv;exact ⟨none,0,0,rfl,⟨rfl,bn _⟩,fun hn=>(hn rfl).elim,fun k hk=>by cases hk⟩
   ·unfold Rv at hv ⊢;obtain ⟨b,n,cap,h1,h2,h3,_⟩:=hv;exact ⟨b,n,cap,h1,h2,fun hn=>⟨(h3 hn).1,hm _ _ (h3 hn).2⟩,fun k hk=>by cases hk⟩
   ·obtain ⟨b,arr,hb,hc,hmm⟩:=hf.fz i cs hi cr;unfold Rv at hv ⊢;obtain ⟨b',ad,dZ,Pz,rfl,hca⟩:=hv;rw [hb] at dZ;simp only [oI] at dZ;subst dZ;refine ⟨ad,es.length,c,rfl,⟨rfl,Pz⟩,fun hn=>?_,fun k hk=>by cases hk⟩;have pk:0 < es.length:=List.length_pos_iff.2 hn;have Qi:=hca (by omega);subst Qi;refine ⟨rfl,?_⟩;have h1:=(hc.drop off).take (es.length * e);rw [<- DE] at h1;refine rvEs_flat ⟨yz (E':=E'.cl) (fun e b o es hr=>(RvEs.mono (Ext.Dt hf.c) hr:RvEs E'.cl e b o es)) qg h1.1,h1.2⟩ Ha fun j u hj=>?_;rw [cC] at hj;split at hj
    ·rw [List.getElem?_drop] at hj;exact hmm (off + j) u hj
    ·cases hj
   ·have hlen:=CcE.length h;have hs:=fun b o=>CcE.sound (e:=e) (b:=b) (o:=o) hf h;unfold Rv at hv ⊢;obtain ⟨b,n,cap,h1,h2,h3,_⟩:=hv;refine ⟨b,n,cap,h1,by omega,fun hn=>?_,fun k hk=>by cases hk⟩
    grind
  | some k=>
   simp only [Cc] at h;obtain ⟨hk,rfl⟩:=h;unfold Rv at hv ⊢;obtain ⟨b,n,cap,h1,h2,h3,h4⟩:=hv;refine ⟨b,n,cap,h1,h2,fun hn=>⟨(h3 hn).1,hm _ _ (h3 hn).2⟩,fun k' gD=>?_⟩;cases gD;obtain ⟨e1,e2⟩:=hl.tk k hk;obtain ⟨q,h5,h6,h7⟩:=h4 k rfl
   grind
 | .pt cs' o,E',n0,m0,d,v,hf,hl,h,hv=>by
  simp only [Cc] at h;rcases h with rfl | ⟨i,cs,rfl,hi,cr,h⟩
  ·unfold Rv at hv ⊢;obtain ⟨b,p,h1,h2⟩:=hv;exact ⟨b,p,h1,RvAt.mono (Ext.Dt hf.c) h2⟩
  ·obtain ⟨b,arr,hb,hc,hm⟩:=hf.fz i cs hi cr;unfold Rv at hv ⊢;obtain ⟨b',dZ,rfl⟩:=hv;rw [hb] at dZ;simp only [oI] at dZ;subst dZ;refine ⟨b,0,by simp,?_⟩;have:=CcL.sound hf.cl (DD.zero E E'.cl) h hc.1;exact wV ⟨this,hc.2⟩ fun j u hj=>by rw [Nat.zero_add];exact hm j u hj
 | .loc i o,E',n0,m0,d,v,hf,hl,h,hv=>by
  simp only [Cc] at h;obtain ⟨hi,rfl⟩:=h;unfold Rv at hv ⊢;obtain ⟨b,hb,h1⟩:=hv;exact ⟨b,hl.β i b hi hb,h1⟩
 | .el i o,E',n0,m0,d,v,hf,hl,h,hv=>by
  simp only [Cc] at h;obtain ⟨hi,rfl⟩:=h;unfold Rv at hv ⊢;obtain ⟨b,hb,h1⟩:=hv;exact ⟨b,hl.β i b hi hb,h1⟩
 | .ms i e o l c,E',n0,m0,d,v,hf,hl,h,hv=>by
  simp only [Cc] at h;obtain ⟨hi,rfl⟩:=h;unfold Rv at hv ⊢;obtain ⟨b,ad,hb,h1⟩:=hv;exact ⟨b,ad,hl.β i b hi hb,h1⟩
 | .fn f a' b',E',n0,m0,d,v,hf,hl,h,hv=>by
  simp only [Cc] at h;obtain ⟨a,b,rfl,ha,hb⟩:=h;unfold Rv at hv ⊢;obtain ⟨l,r,h1,h2,h3⟩:=hv;exact ⟨l,r,h1,CcL.sound hf hl ha h2,CcL.sound hf hl hb h3⟩
 | .nR t x',E',n0,m0,d,v,hf,hl,h,hv=>by
  simp only [Cc] at h;obtain ⟨x,rfl,hx⟩:=h;unfold Rv at hv ⊢;obtain ⟨z,h1,h2⟩:=hv;exact ⟨z,h1,Cc.sound hf hl hx h2⟩
theorem CcL.sound {bx:List (List DV)} {N:Nat} {E:En}:∀ {l':List DV} {E':En} {n0 m0:Nat} {l:List DV} {vs:List Value},GM E E' bx N->DD E E' n0 m0->CcL bx N n0 m0 l' l->RvL E l vs->RvL E' l' vs
 | [],E',n0,m0,l,vs,hf,hl,h,hv=>by grind [CcL,RvL]
 | d' :: r',E',n0,m0,l,vs,hf,hl,h,hv=>by
  simp only [CcL] at h;obtain ⟨d,r,rfl,h1,h2⟩:=h;simp only [RvL] at hv ⊢;obtain ⟨v,s,h3,h4,h5⟩:=hv;exact ⟨v,s,h3,Cc.sound hf hl h1 h4,CcL.sound hf hl h2 h5⟩
theorem WI.sound {bx:List (List DV)} {N:Nat} {E:En}:∀ {l':List DV} {E':En} {l:List DV} {b p:Nat},GM E E' bx N->CcL bx N 0 0 l' l->RvAt E.cl b p l->RvAt E'.cl b p l'
 | [],E',l,b,p,hf,h,hv=>by simp only [RvAt]
 | d' :: r',E',l,b,p,hf,h,hv=>by
  simp only [CcL] at h;obtain ⟨d,r,rfl,h1,h2⟩:=h;simp only [RvAt] at hv ⊢;obtain ⟨⟨v,h3,h4,h5⟩,h6⟩:=hv;exact ⟨⟨v,hf.c _ _ h3,h4,Cc.sound hf.cl (DD.zero E E'.cl) h1 (Rv.mono (Ext.Ke E) h5)⟩,WI.sound hf h2 h6⟩
theorem CcE.sound {bx:List (List DV)} {N:Nat} {E:En}:∀ {l':List (List DV)} {E':En} {l:List (List DV)} {e b o:Nat},GM E E' bx N->CcE bx N l' l->RvEs E.cl e b o l->RvEs E'.cl e b o l'
 | [],E',l,e,b,o,hf,h,hv=>by simp only [RvEs]
 | a' :: r',E',l,e,b,o,hf,h,hv=>by
  simp only [CcE] at h;obtain ⟨a,r,rfl,h1,h2⟩:=h;simp only [RvEs] at hv ⊢;obtain ⟨h3,h4,h5⟩:=hv;refine ⟨?_,?_,CcE.sound hf h2 h5⟩
  ·grind [CcL.length]
  ·rcases h1 with rfl | h1
   ·exact RvAt.mono (Ext.Dt hf.c) h4
   ·exact WI.sound hf h1 h4
end
theorem Mi {E:En} {e:Nat} {es xX:List (List DV)} {tk:Option Nat} {v:Value} (h:CcE [] 0 xX es) (hv:Rv E (.sl e es tk) v):Rv E (.sl e xX tk) v:=by
 have hlen:=CcE.length h;have hs:=fun b o=>CcE.sound (E:=E) (E':=E) (bx:=[]) (N:=0) (e:=e) (b:=b) (o:=o) ⟨fun _ _ h=>h,fun i cs _ hi=>by simp at hi⟩ h
 grind [Rv]
theorem ki.get {bx:List (List DV)} {N n0 m0:Nat}:∀ {l' l:List (List DV)},ki bx N n0 m0 l' l->l'.length=l.length/\∀ (i:Nat) cs',l'[i]? = some cs' -> ∃ cs,l[i]? = some cs/\CcL bx N n0 m0 cs' cs
 | [],l,h=>by simp only [ki] at h;subst h;exact ⟨rfl,by simp⟩
 | a' :: r',l,h=>by
  simp only [ki] at h;obtain ⟨a,r,rfl,h1,h2⟩:=h;obtain ⟨h3,h4⟩:=ki.get h2
  grind
open Classical in
noncomputable def po (E:En) (n:Nat) (w:World):Addr->Option Value:=
 fun a=>if ∃ i:Nat,n<=i/\E.β[i]? = some a.block then w.cell? a else E.c a
section
variable {X:Ctx} {E:En} {st:St} {a:Act} {w:World}
theorem dW {n:Nat} {x:Addr} {v:Value} (h:po E n w x=some v):((∃ i:Nat,n<=i/\E.β[i]? = some x.block)/\w.cell? x=some v)∨E.c x=some v:=by
 unfold po at h;split at h
 all_goals grind
theorem kr {bx:List (List DV)} (h:Env E bx w) {n:Nat} {x:Addr} {v:Value} (hx:E.c x=some v):po E n w x=some v:=by
 unfold po;split
 ·exact h.sub x v hx
 ·exact hx
theorem xh (h:Rel X E st a w) {d d':DV} {os:List (List DV)} {v:Value} (hv:Rv E d v) (M:Nat) (hM:(X.fr=false/\M=X.m0)∨(X.fr=true/\M=st.tk.length)) (hd:Cc st.bx X.n0 X.n0 M d' d) (pg:ki st.bx X.n0 X.n0 M os (st.bx.take X.n0)) (hΦ:X.Φ d' os (st.tk.take M)):yn X.still X.E0 X.w0 X.Φ v w X.fr:=by
 obtain ⟨r,NP,Uw⟩:=h.nw.β;have nT:E.β.take X.n0=X.E0.β:=by rw [NP,<- X.rF];simp
 have Qp:∀ (i:Nat) b,i < X.n0->E.β[i]? = some b->X.E0.β[i]? = some b:=fun i b hi hb=>by grind
 have dn:∀ (i:Nat) b,X.n0<=i->E.β[i]? = some b->b∈r:=fun i b hi hb=>by grind
 have NQ:∀ b,b∈X.E0.β->b∈r->False:=fun b h1 h2=>by
  have:=h.env.inj
  grind
 have hE0l:X.E0.τ.length=X.m0:=by rw [h.nw.l0,X.oW]
 have WJ:X.m0<=E.tk.length:=by
  rcases Nat.lt_or_ge E.tk.length X.m0 with h1 | h1
  ·have hk:E.tk.length < X.E0.tk.length:=by rw [X.oW];exact h1
   have gD:E.tk.length < X.E0.τ.length:=by rw [h.nw.l0];exact hk
   obtain ⟨q',y',h2,_⟩:=h.nw.tk E.tk.length _ _ (gE hk) (gE gD)
   grind
  ·exact h1
 have hMm:X.m0<=M/\M<=E.tk.length:=by
  rcases hM with ⟨_,rfl⟩ | ⟨_,rfl⟩
  ·exact ⟨bn _,WJ⟩
  ·rw [<- h.tk];exact ⟨WJ,bn _⟩
 have hEl:WA X.fr (E.tk.take M).length X.E0.tk.length:=by
  rw [zLenT];rcases hM with ⟨hf,rfl⟩ | ⟨hf,rfl⟩
  ·rw [hf];show min _ _=_;rw [X.oW];omega
  ·rw [hf];show _<=min _ _;rw [X.oW];omega
 let E':En:=⟨po E X.n0 w,X.E0.β,E.tk.take M,E.τ.take M⟩
 have Kf:GM E E' st.bx X.n0:={
  c:=fun x u hx=>kr h.env hx
  fz:=fun i cs hi cr=>by
   obtain ⟨b,ty,arr,hb,hw,hc⟩:=h.env.dQ i cs cr;refine ⟨b,arr,hb,hc,fun j u hj=>?_⟩;show po E X.n0 w ⟨b,j,none⟩=some u;unfold po;rw [aj ⟨i,hi,hb⟩,cJ hw]
   simpa using hj }
 have xi:DD E E' X.n0 M:={
  β:=Qp
  tk:=fun k hk=>⟨by show (E.tk.take M)[k]? = _;rw [cC,aj hk],by show (E.τ.take M)[k]? = _;rw [cC,aj hk]⟩ }
 obtain ⟨Kg,Qq⟩:=pg.get;refine ⟨h.fr,h.sh,d',os,E',?_,rfl,hEl,?_,hd.sound Kf xi hv,by show X.Φ d' os (E.tk.take M);rw [h.tk];exact hΦ⟩
 ·exact {
   len:=by
    show X.E0.β.length=os.length;rw [Kg,X.rF,zLenT]
    have:X.n0<=st.bx.length:=by
     rw [<- h.env.len,NP,List.length_append,X.rF];omega
    omega
   tl:=by simp only [E',zLenT];rw [h.env.tl]
   dQ:=fun i cs' hi=>by
    obtain ⟨cs,cr,rR⟩:=Qq i cs' hi;rw [cC] at cr;split at cr
    ·rename_i aS;obtain ⟨b,ty,arr,hb,hw,hc⟩:=h.env.dQ i cs cr;exact ⟨b,ty,arr,Qp i b aS hb,hw,CcL.sound Kf xi rR hc.1,hc.2⟩
    ·cases cr
   inj:=by rw [<- nT];exact h.env.inj.sublist (List.take_sublist _ _)
   sub:=fun x u hx=>by
    rcases dW hx with ⟨_,h1⟩ | h1
    ·exact h1
    ·exact h.env.sub x u h1
   pc:=fun x u hx hm=>by
    rcases dW hx with ⟨⟨i,hi,hb⟩,_⟩ | h1
    ·exact NQ _ hm (dn i _ hi hb)
    ·refine h.env.pc x u h1 ?_;rw [NP];exact List.mem_append.2 (.inl hm)
   cN:=fun k q y hq hy=>by
    simp only [E',cC] at hq hy;split at hq
    ·rename_i hk;rw [aj hk] at hy;rcases h.env.cN k q y hq hy with h1 | ⟨g,cap,cur,rfl,h1,h2,h3,h4,h5,h6⟩
     ·exact .inl h1
     ·refine .inr ⟨g,cap,cur,rfl,h1,⟨h2.1,h2.2.mono fun _ _ hx=>kr h.env hx⟩,h3,h4,fun hm=>h5 (by rw [NP];exact List.mem_append.2 (.inl hm)),fun x u hx hg=>?_⟩;rcases dW hx with ⟨⟨i,hi,hb⟩,_⟩ | h7
      all_goals grind
    ·cases hq
   gC:=fun k k' y y' g G7 hy gP=>by
    simp only [E',cC] at hy gP;split at hy
    ·split at gP
     ·exact h.env.gC k k' y y' g G7 hy gP
     ·cases gP
    ·cases hy }
 ·exact {
   c:=fun x u hx=>kr h.env (h.nw.c x u hx)
   cn:=fun x u hx=>by
    rcases dW hx with ⟨⟨i,hi,hb⟩,_⟩ | h1
    ·exact .inr (.inl (Uw _ (dn i _ hi hb)))
    ·exact h.nw.cn x u h1
   β:=⟨[],by simp [E'],by simp⟩
   tk:=fun k q y hq hy=>by
    obtain ⟨q',y',h1,h2,h3⟩:=h.nw.tk k q y hq hy
    grind
   tn:=fun k y g hk hy hg=>by
    simp only [E',cC] at hy;split at hy
    ·exact h.nw.tn k y g hk hy hg
    ·cases hy
   l0:=h.nw.l0 }
def resOf (tmps:Array Value):ResultVar->Sem Value
 | .tmp t=>pure (tmps.getD t undef)
 | .cell x t=>do loadVar t (<- asAddr (tmps.getD x undef))
theorem rS (fn:Func) (tmps:Array Value):results fn tmps=(do let vs <- fn.results.mapM (resOf tmps);pure (if h:vs.size=1 then vs[0] else .tuple vs)):=by
 unfold results;congr 2
theorem BD (h:Rel X E st a w) {r:ResultVar} {d:DV} (hr:res1 X.T st r=some d):∃ v,Rv E d v/\(resOf a.tmps r).run X.P w = .ok v w:=by
 cases r with
 | tmp t=>
  simp only [res1] at hr;split at hr
  ·rename_i x hg;simp only [oI] at hr;subst hr;obtain ⟨v,h1,h2⟩:=(h.tm t _ hg).1 (aV _);exact ⟨v,h2,by simp [resOf,Array.getD_eq_getD_getElem?,h1]⟩
  ·cases hr
 | cell x t=>
  simp only [res1] at hr;split at hr
  ·rename_i i off hg;split at hr
   ·rename_i cs cr;obtain ⟨v,h1,h2⟩:=(h.tm x _ hg).1 (aV _);unfold Rv at h2;obtain ⟨b,hb,rfl⟩:=h2;obtain ⟨b',x7,arr,dZ,hw,hc⟩:=h.env.dQ i cs cr;rw [hb] at dZ;simp only [oI] at dZ;subst dZ;obtain ⟨v,hv,hl⟩:=kj X.hT hc (b:=b) (p:=0) hr;have hl:=hl w fun j u hj=>by rw [cJ hw];simpa using hj
    rw [Nat.zero_add] at hl;exact ⟨v,hv,by simp only [resOf,Array.getD_eq_getD_getElem?,h1,Option.getD_some,asAddr,Sem.run_bind,Sem.run_pure,Result.andThen_ok,hl]⟩
   ·cases hr
  ·cases hr
theorem iI (h:Rel X E st a w):∀ {rs:List ResultVar} {ds:List DV},resD X.T st rs=some ds->∃ vs,RvL E ds vs/\(rs.mapM (resOf a.tmps)).run X.P w = .ok vs w
 | [],ds,hr=>by
  simp only [resD,oI] at hr;subst hr;exact ⟨[],cy E,rfl⟩
 | r :: rs,ds,hr=>by
  simp only [resD] at hr;split at hr
  ·rename_i d l hd hl;simp only [oI] at hr;subst hr;obtain ⟨v,hv,h1⟩:=BD h hd;obtain ⟨vs,qR,h2⟩:=iI h hl;refine ⟨v :: vs,rvL_cons hv qR,?_⟩
   simp_all
  ·cases hr
theorem mZ (h:Rel X E st a w) {d:DV} {v:Value} (hv:Rv E d v) (hf:finD X st d):yn X.still X.E0 X.w0 X.Φ v w X.fr:=by
 unfold finD at hf;split at hf
 ·grind [xh]
 ·rename_i Tk;split at hf
  ·rename_i hn hm
   have key:∀ d',Cc st.bx 0 0 0 d' d->X.Φ d' [] []->yn X.still X.E0 X.w0 X.Φ v w X.fr:=fun d' hd hΦ=>
    xh h hv (d':=d') (os:=[]) X.m0 (.inl ⟨Tk,rfl⟩) (by rw [hn,hm];exact hd) (by rw [hn];simp [ki]) (by rw [hm];exact hΦ)
   grind [Cc]
  ·grind [xh]
theorem u9 (h:Rel X E st a w) (hf:fin X st):kq X [] .ret a w:=by
 have ya:X.fn.results=X.rs.toArray:=by rw [<- X.qb]
 simp only [kq];refine ⟨h.df,?_⟩
 have hbt:mv X.bt X.E0.β w:=fun p hp b hb=>by
  obtain ⟨r,hr,_⟩:=h.nw.β;exact h.bt p hp b (by rw [hr,eT (gS hb).1];exact hb)
 unfold fin at hf
 have BE:∀ (ds:List DV) (vs:List Value),(X.rs.mapM (resOf a.tmps)).run X.P w = .ok vs w->(results X.fn a.tmps).run X.P w = .ok (if h:vs.toArray.size=1 then vs.toArray[0] else .tuple vs.toArray) w:=by
  intro ds vs hv;rw [rS,ya]
  simp_all
 split at hf
 ·rename_i hr;obtain ⟨vs,qR,h1⟩:=iI h hr;simp only [RvL] at qR;subst qR;exact ⟨_,BE [] [] h1,mZ h (v:=.tuple #[]) (by unfold Rv;exact ⟨[],rfl,cy E⟩) hf,hbt⟩
 ·rename_i d hr;obtain ⟨vs,qR,h1⟩:=iI h hr;have hl:=qR.length;simp only [RvL] at qR;obtain ⟨v,s,rfl,hv,rfl⟩:=qR;exact ⟨_,BE [d] [v] h1,mZ h (v:=v) hv hf,hbt⟩
 ·rename_i d e l hr;obtain ⟨vs,qR,h1⟩:=iI h hr;have hl:=qR.length;have bM:¬ vs.toArray.size=1:=by simp at hl ⊢;omega
  have h2:=BE [] vs h1;rw [dif_neg bM] at h2;exact ⟨_,h2,mZ h (v:=.tuple vs.toArray) (by unfold Rv;exact ⟨vs,rfl,qR⟩) hf,hbt⟩
 ·exact hf.elim
theorem rT:∀ (k:List It) (a:Act) (w:World),kq X [] .ret a w->kq X k .ret a w
 | [],_,_,h=>h
 | .code _ :: k,a,w,h=>rT k a w h
 | .ops _ _ :: k,a,w,h=>rT k a w h
 | .ym _ :: k,a,w,h=>rT k a w h
 | .JM _ :: k,a,w,h=>rT k a w h
theorem og {id:Nat}:∀ (k k':List It) (a:Act) (w:World),dropBlk id k=some k' -> kq X k' .normal a w->kq X k (.exit id) a w
 | [],k',a,w,hd,_=>by simp [dropBlk] at hd
 | .code _ :: k,k',a,w,hd,h=>by simp only [dropBlk] at hd;exact og k k' a w hd h
 | .ops _ _ :: k,k',a,w,hd,h=>by simp only [dropBlk] at hd;exact og k k' a w hd h
 | .JM _ :: k,k',a,w,hd,h=>by simp only [dropBlk] at hd;exact og k k' a w hd h
 | .ym i :: k,k',a,w,hd,h=>by
  simp only [dropBlk] at hd;split at hd
  ·simp_all [kq]
  ·rename_i hi
   have hi:id≠i:=by
    rintro rfl;rw [Nat.beq_refl] at hi;cases hi
   simp only [kq];rw [af hi];exact og k k' a w hd h
theorem Fb {P:Program} {o:Oper} {a:Act} {K K':Act->World->Prop} {Q Q':Exit->Act->World->Prop} (hK:∀ a w,K a w->K' a w) (hQ:∀ e a w,Q e a w->Q' e a w)
  {r:Result Next} (h:o.upon P a K Q r):o.upon P a K' Q' r:=by
 unfold Oper.upon at *;split<;>simp_all
 ·refine h.mono ?_;intro e w' hq
  cases e with
  | returned v=>exact hK _ _ hq
  | panicked c=>exact hQ _ _ _ hq
  | outgrown=>obtain ⟨a,w,hq⟩:=hq;exact ⟨a,w,hQ _ _ _ hq⟩
 ·exact h.mono fun v w' hq=>hK _ _ hq
theorem yA {P:Program} {o:Oper} {a:Act} {K K':Act->World->Prop} {Q Q':Exit->Act->World->Prop} {w:World} (hK:∀ a w,K a w->K' a w) (hQ:∀ e a w,Q e a w->Q' e a w)
  (h:o.wp P a w K Q):o.wp P a w K' Q':=Fb hK hQ h
theorem oh {l:Nat}:∀ (k:List It) (a:Act) (w:World),kq X k (.goto l) a w->False
 | [],a,w,h=>by simp [kq] at h
 | .code _ :: k,a,w,h=>oh k a w (by simpa only [kq] using h)
 | .ops _ _ :: k,a,w,h=>oh k a w (by simpa only [kq] using h)
 | .ym _ :: k,a,w,h=>oh k a w (by simpa only [kq] using h)
 | .JM _ :: k,a,w,h=>oh k a w (by simpa only [kq] using h)
theorem Hg (k:List It) (e:Exit) (a:Act) (w:World) (h:kq X k e a w):Exit.noGoto (kq X k) e a w:=by
 cases e with
 | goto l=>exact (oh k a w h).elim
 | _=>exact h
theorem eD (c:Code) (k:List It) (a:Act) (w:World):kq X (.code c :: k) .normal a w=c.wp X.P (kq X k) a w:=rfl
theorem Kh (c:Code) (k:List It):kq X (.code c :: k)=Exit.then (c.wp X.P (kq X k)) (kq X k):=by
 funext e a w;cases e<;>rfl
theorem NR (id:Nat) (k:List It) (e:Exit) (a:Act) (w:World) (h:kq X (.ym id :: k) e a w):Exit.inBlock id (kq X k) e a w:=by
 cases e<;>exact h
theorem wanted_spec (h:Rel X E st a w) {all:Array Oper} {o:Oper} {j d:Nat} {want:Bool} {j7:List (Nat × Bool)} {sd:DV} (Ki:o.guard=some (j,want)) (EZ:gslot all.toList j=some d) (NS:get st.sl d=some ⟨j7,sd⟩) :
  Region.wanted o (yielded all a.tmps)=true↔Holds a.tmps ((d,want) :: j7):=by
 have NT:yielded all a.tmps j=match a.tmps[d]? with | some (.bool b)=>some b | _=>none:=by
  unfold gslot at EZ;split at EZ
  ·rename_i oj hoj;have Ux:all[j]? = some oj:=sU hoj;simp only [yielded,Ux,EZ,Option.bind_some]
   grind
  ·cases EZ
 have htd:=h.tm d _ NS;simp only [Region.wanted,Ki,NT];constructor
 ·intro hw;have hb:a.tmps[d]? = some (.bool want):=by grind
  refine iF hb ?_;by_cases hh:Holds a.tmps j7
  ·exact hh
  ·have:=htd.2 hh;rw [hb] at this;simp [undef] at this
 ·intro hh;have:=hh (d,want) (by simp);simp only at this;rw [this];simp
theorem yB (h:Rel X E st a w) {t:Nat} {b:Bool} (hg:get st.sl t=some ⟨[],.v (.bool b)⟩):a.tmps[t]? = some (.bool b):=by
 obtain ⟨v,h1,h2⟩:=(h.tm t _ hg).1 (aV _);rw [h1,iG h2]
theorem Hh (h:Rel X E st a w) {t:Nat} (hg:get st.sl t=some ⟨[],.ud⟩):a.tmps[t]? = some undef:=by
 obtain ⟨v,h1,h2⟩:=(h.tm t _ hg).1 (aV _);unfold Rv at h2;rw [h1,h2]
theorem rU {G:List (Nat × Bool)} {dst:Option Nat} (kp:Ud G dst=true):∀ e,dst=some e->∀ p∈G,p.1≠e:=by
 intro e he p hp dD;rw [he] at kp;have:=(List.all_eq_true.1 kp) p hp;rw [dD] at this;simp at this
theorem go_sound:∀ n,WH X (go X n)
 | 0=>fun k st hg=>hg.elim
 | n + 1=>by
  have ih:=go_sound n;intro k st hg E a w h
  match k with
  | []=>exact u9 h (by simpa [go] using hg)
  | .ym id :: k=>exact ih k st (by simpa [go] using hg) E a w h
  | .JM J :: k=>exact ⟨st,E,h,by simpa [go] using hg⟩
  | .ops all [] :: k=>exact ih k st (by simpa [go] using hg) E a w h
  | .ops all (o :: r) :: k=>
   simp only [go,lT,Ds] at hg;split at hg
   ·exact hg.elim
   ·rename_i hd;split at hg
    ·rename_i Ki;simp only [kq,wpList,Region.wanted,Ki,if_true];split at hg
     ·rename_i s hs;obtain ⟨v,hv,cf⟩:=gf X.hT h.rl (aV _) hs;exact .inl (rQ (cf w fun _=>rfl) (ih _ _ hg E _ w (bF h hd s v hv)))
     ·exact .inl (yA (fun a w hk=>hk) (fun e a w hq=>hq.elim) (u7 ih hd h hg))
    ·rename_i j want Ki;split at hg
     ·exact hg.elim
     ·rename_i d EZ;split at hg
      ·exact hg.elim
      ·rename_i j7 sd NS;have rV:=wanted_spec h Ki EZ NS;simp only [kq,wpList];split at hg
       ·rename_i s hs;split at hg
        case h_2=>exact hg.elim
        rename_i kp;split
        ·rename_i hw;have hh:=rV.1 hw;obtain ⟨v,hv,cf⟩:=gf X.hT h.rl hh hs;exact .inl (rQ (cf w fun _=>rfl) (ih _ _ hg E _ w (n7 h hd _ s v (rU kp) (fun _=>hv) (fun hn=>(hn hh).elim))))
        ·rename_i hw;have hh:¬ Holds a.tmps ((d,want) :: j7):=fun hh=>hw (rV.2 hh);exact ih _ _ hg E _ w (n7 h hd _ s undef (rU kp) (fun hn=>(hh hn).elim) (fun _=>rfl))
       ·split at hg
        ·rename_i b nT;have ht0:=yB h nT
         cases j7 with
         | nil=>
          simp only [lastG] at nT ht0;cases Bc:(b == want)
          ·have BF:b = !want:=by cases b<;>cases want<;>simp_all
           have hg:=hg.f Bc
           have hn:¬ Region.wanted o (yielded all a.tmps)=true:=by
            intro hw;have:=(rV.1 hw) (d,want) (by simp)
            grind
           rw [af hn];have hr:=jd (d:=d) (b:=!want) h (by rw [ht0,BF]);exact ih _ _ hg E _ w (bF hr (je hd) .ud undef (qd E))
          ·have mF:b=want:=sU Bc;have hg:=hg.t Bc;subst mF;have hw:Region.wanted o (yielded all a.tmps)=true:=rV.2 (iF ht0 (aV _));rw [aj hw];have hr:=jd (d:=d) (b:=b) h ht0;exact .inl (yA (fun a w hk=>hk) (fun e a w hq=>hq.elim) (u7 ih (je hd) hr hg))
         | cons g1 gr=>
          have key:∀ c,a.tmps[(lastG (d,want) (g1 :: gr)).1]? = some (.bool c)->go X n (.ops all (o :: r) :: k) (st.resolve (lastG (d,want) (g1 :: gr)).1 c)->wpList X.P all (kq X k) (o :: r) a w:=
           fun c hc xf=>ih _ _ xf E a w (jd h hc)
          cases Bc:(b == (lastG (d,want) (g1 :: gr)).2)
          ·have hg:=hg.f Bc;have BF:b = !(lastG (d,want) (g1 :: gr)).2:=by cases b<;>cases h0:(lastG (d,want) (g1 :: gr)).2<;>simp_all
           have:=key _ (by rw [ht0,BF]) hg;simpa [wpList] using this
          ·have hg:=hg.t Bc;have mF:b=(lastG (d,want) (g1 :: gr)).2:=sU Bc;have:=key _ (by rw [ht0,mF]) hg;simpa [wpList] using this
        ·rename_i nT
         cases j7 with
         | nil=>
          have ht0:=Hh h nT;simp only [lastG] at ht0
          have hn:¬ Region.wanted o (yielded all a.tmps)=true:=by
           intro hw;have:=(rV.1 hw) (d,want) (by simp);simp only at this;rw [ht0] at this;simp [undef] at this
          rw [af hn];exact ih _ _ hg E _ w (bF h hd .ud undef (qd E))
         | cons g1 gr=>exact hg.elim
        ·exact hg.elim
  | .code c :: k=>
   rw [eD]
   cases c with
   | skip=>exact wp_skip (ih k st (by simpa [go] using hg) E a w h)
   | seq x y=>
    have:=ih (.code x :: .code y :: k) st (by simpa [go] using hg) E a w h;rw [eD,Kh] at this;exact wp_seq this
   | block id b=>
    have:=ih (.code b :: .ym id :: k) st (by simpa [go] using hg) E a w h;rw [eD] at this;exact wp_block (wp_mono this (NR id k))
   | exit id=>
    simp only [go] at hg;split at hg
    ·rename_i k' hk;exact wp_exit (og k k' a w hk (ih k' st hg E a w h))
    ·exact hg.elim
   | cond x p q=>
    simp only [go] at hg;split at hg
    ·rename_i b hb;refine wp_cond (t:=b) (by rw [iG (aW h.rl hb)]) ?_;cases nT:b
     ·exact ih (.code q :: k) st (hg.f nT) E a w h
     ·exact ih (.code p :: k) st (hg.t nT) E a w h
    ·exact hg.elim
   | region id ops d=>
    simp only [go] at hg;cases d
    ·exact wp_region_list (ih (.ops ops ops.toList :: k) st hg E a w h)
    ·exact hg E a w h
   | loop b=>exact (by simpa [go] using hg:rG X b k st) E a w h
   | ret=>exact wp_ret (rT k a w (u9 h (by simpa [go] using hg)))
   | scope c=>
    have:=ih (.code c :: k) st (by simpa [go] using hg) E a w h;rw [eD] at this;exact wp_scope_straight (wp_mono this (Hg k))
   | label l=>exact wp_label (ih k st (by simpa [go] using hg) E a w h)
   | _=>simp [go] at hg
theorem yC {fn:Func} (ya:X.fn=fn) (e:Exit) (a:Act) (w:World) (h:kq X [] e a w):bodyPost X.P fn (fun e w'=>∃ v,e = .returned v/\yn X.still X.E0 X.w0 X.Φ v w' X.fr/\mv X.bt X.E0.β w') e a w:=by
 subst ya
 cases e with
 | normal=>obtain ⟨h1,v,h2,h3⟩:=h;exact ⟨h1,v,h2,v,rfl,h3⟩
 | ret=>obtain ⟨h1,v,h2,h3⟩:=h;exact ⟨h1,v,h2,v,rfl,h3⟩
 | exit _=>exact h.elim
 | goto _=>exact h.elim
 | panic _=>exact h.elim
 | outgrown=>exact h.elim
end
def PC (s:Bool) (P:Program) (f:FuncId) (args:List DV) (os:List (List DV)) (cN:List TkE) (Φ:DV->List (List DV)->List TkE->Prop) (fr:Bool:=false):Prop:=
 ∀ (E:En) (w:World) (vs:List Value),Env E os w->E.tk=cN->RvL E args vs->Calls P f vs.toArray w fun e w'=>∃ v,e = .returned v/\yn s E w Φ v w' fr
def Ev (P:Program) (f:FuncId) (args:List DV) (os:List (List DV)) (cN:List TkE) (Φ:DV->List (List DV)->List TkE->Prop):Prop:=PC false P f args os cN Φ
def WK (P:Program) (f:FuncId) (args:List DV) (os:List (List DV)) (cN:List TkE) (Φ:DV->List (List DV)->List TkE->Prop):Prop:=PC true P f args os cN Φ
def cw (P:Program) (f:FuncId) (args:List DV) (d:DV):Prop:=Ev P f args [] [] fun d' _ _=>d'=d
def argSl:Nat->List DV->List (Nat × Sl)
 | _,[]=>[]
 | i,v :: r=>(i,⟨[],v⟩) :: argSl (i + 1) r
theorem va:∀ (l:List DV) (i j:Nat) (x:Sl),get (argSl i l) j=some x->∃ v,x=⟨[],v⟩/\i<=j/\l[j - i]? = some v
 | [],_,_,_,h=>by simp [argSl,get] at h
 | v :: r,i,j,x,h=>by
  simp only [argSl,dF] at h;split at h
  ·grind
  ·rename_i rP;obtain ⟨u,hu,lk,hg⟩:=va r (i + 1) j x h
   grind
theorem Nw.refl {E:En} {bx:List (List DV)} {w:World} (h:Env E bx w):Nw E E w where
 c:=fun _ _ h=>h
 cn:=fun _ _ h=>.inl h
 β:=⟨[],by simp,by simp⟩
 tk:=fun k q y hq hy=>⟨q,y,hq,hy,rfl,rfl,.inl ⟨rfl,rfl⟩,.inl rfl⟩
 tn:=fun k y g hk hy=>by
  have:=(gS hy).1;rw [h.tl] at this;omega
 l0:=h.tl
def Uy (s:Bool) (P:Program) (f:FuncId) (args:List DV) (os:List (List DV)) (cN:List TkE) (bt:List (Nat × TypeId)) (Φ:DV->List (List DV)->List TkE->Prop) (fr:Bool:=false):Prop:=
 ∀ (E:En) (w:World) (vs:List Value),Env E os w->E.tk=cN->mv bt E.β w->RvL E args vs->Calls P f vs.toArray w fun e w'=>∃ v,e = .returned v/\yn s E w Φ v w' fr/\mv bt E.β w'
theorem Kj {s:Bool} {P:Program} {f:FuncId} {fn:Func} {c:Code} {args:List DV} {os:List (List DV)} {cN:List TkE} {Φ:DV->List (List DV)->List TkE->Prop} (bt:List (Nat × TypeId)) (mu:List Nat) (fr:Bool) (T:TT) (hT:T.ok P=true) (n nt:Nat) (rs:List ResultVar)
  (hf:P.funcs[f]? = some fn) (hb:fn.body=some c) (Hj:fn.ntmps=nt) (qb:fn.results.toList=rs) (hlen:args.length<=nt)
  (h:∀ (E:En) (w:World) (hn:E.β.length=os.length) (hm:E.tk.length=cN.length),go ⟨P,T,hT,fn,nt,rs,qb,w,E,os.length,cN.length,hn,hm,s,Φ,bt,mu,fr⟩ n [.code c] ⟨argSl 0 args,os,cN⟩):Uy s P f args os cN bt Φ fr:=by
 intro E w vs hE fl nT hv;have hl:=hv.length;have hg:=h E w hE.len (by rw [fl]);refine calls_of_wp hf hb ?_
 have hs:=go_sound (X:=⟨P,T,hT,fn,nt,rs,qb,w,E,os.length,cN.length,hE.len,by rw [fl],s,Φ,bt,mu,fr⟩) n _ _ hg E
  {tmps:=vs.toArray ++ Array.replicate (fn.ntmps - vs.toArray.size) undef,defers:=[] } w
  {env:=hE
   tk:=fl
   sz:=by simp [Hj];omega
   tm:=by
    intro i x hx;obtain ⟨d,rfl,_,hd⟩:=va args 0 i x hx;simp only [Nat.sub_zero] at hd;obtain ⟨v,xY,JO⟩:=hv.get hd
    grind [aV]
   df:=rfl
   nw:=Nw.refl hE
   fr:=⟨rfl,rfl,rfl,bn _,fun _ _ _=>rfl⟩
   sh:=fun _=>⟨0,rfl⟩
   bt:=nT }
 exact wp_mono hs (yC rfl)
theorem DF {s:Bool} {P:Program} {f:FuncId} {fn:Func} {c:Code} {args:List DV} {os:List (List DV)} {cN:List TkE} {Φ:DV->List (List DV)->List TkE->Prop} (bt:List (Nat × TypeId)) (mu:List Nat) (hbt:∀ p∈bt,os.length<=p.1) (fr:Bool) (T:TT) (hT:T.ok P=true) (n nt:Nat) (rs:List ResultVar)
  (hf:P.funcs[f]? = some fn) (hb:fn.body=some c) (Hj:fn.ntmps=nt) (qb:fn.results.toList=rs) (hlen:args.length<=nt)
  (h:∀ (E:En) (w:World) (hn:E.β.length=os.length) (hm:E.tk.length=cN.length),go ⟨P,T,hT,fn,nt,rs,qb,w,E,os.length,cN.length,hn,hm,s,Φ,bt,mu,fr⟩ n [.code c] ⟨argSl 0 args,os,cN⟩):PC s P f args os cN Φ fr:=fun E w vs hE fl hv=>(Kj bt mu fr T hT n nt rs hf hb Hj qb hlen h E w vs hE fl (fun p hp b hb=>by
  have h1:=hbt p hp;have h2:=(gS hb).1;have h3:=hE.len
  omega) hv).mono fun _ _ ⟨v,h1,h2,_⟩=>⟨v,h1,h2⟩
theorem xj {s:Bool} {P:Program} {f:FuncId} {fn:Func} {c:Code} {args:List DV} {os:List (List DV)} {cN:List TkE} {Φ:DV->List (List DV)->List TkE->Prop} (bt:List (Nat × TypeId)) (hbt:∀ p∈bt,os.length<=p.1) (T:TT) (hT:T.ok P=true) (n nt:Nat) (rs:List ResultVar)
  (hf:P.funcs[f]? = some fn) (hb:fn.body=some c) (Hj:fn.ntmps=nt) (qb:fn.results.toList=rs) (hlen:args.length<=nt)
  (h:∀ (E:En) (w:World) (hn:E.β.length=os.length) (hm:E.tk.length=cN.length),go ⟨P,T,hT,fn,nt,rs,qb,w,E,os.length,cN.length,hn,hm,s,Φ,bt,[],false⟩ n [.code c] ⟨argSl 0 args,os,cN⟩):PC s P f args os cN Φ:=
 DF bt [] hbt false T hT n nt rs hf hb Hj qb hlen h
theorem Hk {s:Bool} {P:Program} {f:FuncId} {fn:Func} {c:Code} {args:List DV} {os:List (List DV)} {cN:List TkE} {Φ:DV->List (List DV)->List TkE->Prop} (T:TT) (hT:T.ok P=true) (n nt:Nat) (rs:List ResultVar)
  (hf:P.funcs[f]? = some fn) (hb:fn.body=some c) (Hj:fn.ntmps=nt) (qb:fn.results.toList=rs) (hlen:args.length<=nt)
  (h:∀ (E:En) (w:World) (hn:E.β.length=os.length) (hm:E.tk.length=cN.length),go ⟨P,T,hT,fn,nt,rs,qb,w,E,os.length,cN.length,hn,hm,s,Φ,[],[],false⟩ n [.code c] ⟨argSl 0 args,os,cN⟩):PC s P f args os cN Φ:=
 xj [] (fun p hp=>by cases hp) T hT n nt rs hf hb Hj qb hlen h
theorem Qr {P:Program} {f:FuncId} {fn:Func} {c:Code} {args:List DV} {os:List (List DV)} {cN:List TkE} {Φ:DV->List (List DV)->List TkE->Prop} (T:TT) (hT:T.ok P=true) (n nt:Nat) (rs:List ResultVar)
  (hf:P.funcs[f]? = some fn) (hb:fn.body=some c) (Hj:fn.ntmps=nt) (qb:fn.results.toList=rs) (hlen:args.length<=nt)
  (h:∀ (E:En) (w:World) (hn:E.β.length=os.length) (hm:E.tk.length=cN.length),go ⟨P,T,hT,fn,nt,rs,qb,w,E,os.length,cN.length,hn,hm,false,Φ,[],[],false⟩ n [.code c] ⟨argSl 0 args,os,cN⟩):Ev P f args os cN Φ:=
 Hk T hT n nt rs hf hb Hj qb hlen h
theorem Ev.mono {P:Program} {f:FuncId} {args:List DV} {os:List (List DV)} {cN:List TkE} {Φ Ψ:DV->List (List DV)->List TkE->Prop} (h:Ev P f args os cN Φ) (hΦ:∀ d o t,Φ d o t->Ψ d o t):Ev P f args os cN Ψ:=by
 intro E w vs h1 h2 h3;refine (h E w vs h1 h2 h3).mono ?_;rintro e w' ⟨v,rfl,h4,hs,d,o,E',h5,h6,h7,h8,h9,uX⟩;exact ⟨v,rfl,h4,hs,d,o,E',h5,h6,h7,h8,h9,hΦ _ _ _ uX⟩
theorem Ev.Qs {P:Program} {f:FuncId} {args:List DV} {os:List (List DV)} {cN:List TkE} {Φ:DV->List (List DV)->List TkE->Prop} {bt:List (Nat × TypeId)} (h:Ev P f args os cN Φ) (hb:bt=[]):Uy false P f args os cN bt Φ:=fun E w vs h1 h2 _ h4=>
 (h E w vs h1 h2 h4).mono fun _ _ ⟨v,h5,h6⟩=>⟨v,h5,h6,.nil hb⟩
theorem br {b:Bool} {A B:Prop} (h1:b=true->A) (h2:b=false->B):@Bool.rec (fun _=>Prop) B A b:=by
 cases b
 ·exact h2 rfl
 ·exact h1 rfl
section
variable {X:Ctx} {st:St} {k:List It} {E:En} {a:Act} {w:World}
theorem Fc (h:Rel X E st a w) (bV:X.still=false) {E2:En} {w':World} (hm:nW (E.cl).S w w') (he:Env E2 [] w') (hn:Nw E.cl E2 w):Rel X ⟨E2.c,E.β,E.tk,E.τ⟩ st a w':=by
 have hh:∀ i,i < w.heap.size->w'.heap[i]? = w.heap[i]?:=fun i hi=>hm.block i hi (by
  rintro (h1 | ⟨y,h1,_⟩)
  ·simp [En.cl] at h1
  ·simp [En.cl] at h1)
 have dn:∀ x v,E2.c x=some v->E.c x=some v∨w.heap.size<=x.block:=fun x v hx=>by
  rcases hn.cn x v hx with h1 | h1 | ⟨y,h1,_⟩
  ·exact .inl h1
  ·exact .inr h1
  ·simp [En.cl] at h1
 have hx:Ext E ⟨E2.c,E.β,E.tk,E.τ⟩:=⟨hn.c,fun _ _ h=>h,fun _ q h=>⟨q,h,.inl ⟨rfl,rfl⟩⟩⟩;have hk:=h.env.jo hh;refine dt h hx ?_ h.tk ?_ (h.fr.ct hm.os hm.tape hm.output hm.size fun i hi=>.inr (hh i hi)) (my bV) (h.bt.jo fun b hb=>hh b (h.env.bu hb))
 ·exact {
   len:=h.env.len
   tl:=h.env.tl
   dQ:=fun i cs hi=>by
    obtain ⟨b,ty,arr,hb,hw,hc⟩:=hk.dQ i cs hi;exact ⟨b,ty,arr,hb,hw,hc.mono hx⟩
   inj:=h.env.inj
   sub:=he.sub
   pc:=fun x v hc lf=>by
    rcases dn x v hc with h1 | h1
    ·exact h.env.pc x v h1 lf
    ·have:=h.env.bu lf;omega
   cN:=fun k q y hq hy=>by
    rcases hk.cN k q y hq hy with h1 | ⟨g',cap,cur,rfl,h1,h2,h3,h4,h5,h6⟩
    ·exact .inl h1
    ·refine .inr ⟨g',cap,cur,rfl,h1,⟨h2.1,h2.2.mono hn.c⟩,h3,h4,h5,fun x v hc hg=>?_⟩;rcases dn x v hc with h7 | h7
     ·exact h6 x v h7 hg
     ·have:=(gg (h.env.cN k q _ hq hy) (g:=g') rfl).1;omega
   gC:=h.env.gC }
 ·exact {
   c:=fun x v hc=>hn.c x v (h.nw.c x v hc)
   cn:=fun x v hc=>by
    rcases dn x v hc with h1 | h1
    ·exact h.nw.cn x v h1
    ·have:=h.fr.size;exact .inr (.inl (by omega))
   β:=h.nw.β
   tk:=h.nw.tk
   tn:=h.nw.tn
   l0:=h.nw.l0 }
theorem BG {bx:List (List DV)} (h:Env E bx w):Env E.cl [] w where
 len:=rfl
 tl:=rfl
 dQ:=by simp
 inj:=List.nodup_nil
 sub:=h.sub
 pc:=by simp [En.cl]
 cN:=by simp [En.cl]
 gC:=by simp [En.cl]
theorem qi {P:Program} (h:Rel X E st a w) (bV:X.still=false) {f:FuncId} {args bE:List DV} {vs:List Value} {Φ:DV->List (List DV)->List TkE->Prop} (hc:Ev P f bE [] [] Φ) (ha:CcL [] 0 0 0 bE args) (hv:RvL E args vs) :
  Calls P f vs.toArray w fun e w'=>∃ v E' d,e = .returned v/\Rel X E' st a w' /\ Rv E' d v/\Φ d [] []/\nW E.cl.S w w' /\ Ext E E' /\ E'.β=E.β:=by
 have Nr:RvL E.cl bE vs:=CcL.sound (E:=E) (E':=E.cl) ⟨fun _ _ h=>h,fun i cs _ hi=>by simp at hi⟩ (DD.zero _ _) ha hv;refine (hc E.cl w vs (BG h.env) rfl Nr).mono ?_;rintro e w' ⟨v,rfl,hm,_,d,os,E2,he,hβ,fl,hn,NU,hΦ⟩
 have pg:os=[]:=by
  have:=he.len;rw [hβ] at this;exact List.eq_nil_of_length_eq_zero this.symm
 subst pg;have ht0:E2.tk=[]:=List.eq_nil_of_length_eq_zero fl;refine ⟨v,⟨E2.c,E.β,E.tk,E.τ⟩,d,rfl,Fc h bV hm he hn,?_,by rw [ht0] at hΦ;exact hΦ,hm,⟨hn.c,fun _ _ h=>h,fun _ q h=>⟨q,h,.inl ⟨rfl,rfl⟩⟩⟩,rfl⟩;refine Rv.mono (E:=E2) (E':=⟨E2.c,E.β,E.tk,E.τ⟩) ⟨fun _ _ h=>h,fun i b hb=>?_,fun k q hq=>?_⟩ NU
 ·rw [hβ] at hb;simp [En.cl] at hb
 ·rw [ht0] at hq;simp at hq
theorem jt {f:FuncId} {args bE:List DV} {d:Nat} (fN:Enters X.P f) (hd:eZ X.nt st.sl (some d)=true) {Φ:DV->List (List DV)->List TkE->Prop} (hc:Ev X.P f bE [] [] Φ) (ha:CcL [] 0 0 0 bE args)
  (hk:∀ r,Φ r [] []->go X 4000 k ⟨(d,⟨[],r⟩) :: st.sl,st.bx,st.tk⟩) (bV:X.still=false:=by exact rfl):CallG X f args (some d) k st:=by
 refine ⟨fN,bV,fun E a w vs h hv=>(qi h bV hc ha hv).mono ?_⟩;rintro e w' ⟨v,E',r,rfl,cO,hr,hΦ,_⟩;exact go_sound 4000 _ _ (hk r hΦ) E' _ w' (bF cO hd r v hr)
theorem NV {f:FuncId} {args bE:List DV} {d:Nat} {r:DV} (fN:Enters X.P f) (hc:cw X.P f bE r) (ha:CcL [] 0 0 0 bE args) (hd:eZ X.nt st.sl (some d)=true)
  (hk:go X 4000 k ⟨(d,⟨[],r⟩) :: st.sl,st.bx,st.tk⟩) (bV:X.still=false:=by exact rfl):CallG X f args (some d) k st:=
 jt fN hd hc ha (fun _ hr=>hr ▸ hk) bV
def clB (n m:Nat):DV->Bool
 | .v _=>true
 | .ud=>true
 | .sl _ _ none=>true
 | .sl _ _ (some k)=>Nat.blt k m
 | .pt _ _=>true
 | .loc i _=>Nat.blt i n
 | .el i _=>Nat.blt i n
 | .ms i _ _ _ _=>Nat.blt i n
 | .agg l=>clL l
 | .cp l=>clL l
 | .fn _ l r=>clL l && clL r
 | .nR _ x=>clB n m x
where clL:List DV->Bool
 | []=>true
 | d :: r=>clB n m d && clL r
def En.cut (E:En) (n m:Nat):En:=⟨E.c,E.β.take n,E.tk.take m,E.τ.take m⟩
mutual
theorem Rv.cut {n m:Nat} {E:En}:∀ {d:DV} {v:Value},Rv E d v->clB n m d=true->Rv (E.cut n m) d v
 | .v x,v,h,_=>by unfold Rv at h ⊢;exact h
 | .ud,v,h,_=>by unfold Rv at h ⊢;exact h
 | .sl e es none,v,h,_=>by
  unfold Rv at h ⊢;obtain ⟨b,n,cap,h1,h2,h3,_⟩:=h;exact ⟨b,n,cap,h1,h2,h3,fun k hk=>by cases hk⟩
 | .sl e es (some k),v,h,hc=>by
  unfold Rv at h ⊢;obtain ⟨b,n',cap,h1,h2,h3,h4⟩:=h;refine ⟨b,n',cap,h1,h2,h3,fun k' gD=>?_⟩;cases gD;have hk:k < m:=by simpa [clB] using hc
  obtain ⟨q,h5,h6,h7⟩:=h4 k rfl;exact ⟨q,by show (E.tk.take m)[k]? = _;rw [cC,aj hk];exact h5,h6,fun hh=>by show (E.τ.take m)[k]? = _;rw [cC,aj hk];exact h7 hh⟩
 | .pt cs o,v,h,_=>by unfold Rv at h ⊢;exact h
 | .loc i o,v,h,hc=>by
  unfold Rv at h ⊢;obtain ⟨b,hb,h1⟩:=h;have hi:i < n:=by simpa [clB] using hc
  exact ⟨b,by show (E.β.take n)[i]? = _;rw [cC,aj hi];exact hb,h1⟩
 | .el i o,v,h,hc=>by
  unfold Rv at h ⊢;obtain ⟨b,hb,h1⟩:=h;have hi:i < n:=by simpa [clB] using hc
  exact ⟨b,by show (E.β.take n)[i]? = _;rw [cC,aj hi];exact hb,h1⟩
 | .ms i e o l c,v,h,hc=>by
  unfold Rv at h ⊢;obtain ⟨b,ad,hb,h1⟩:=h;have hi:i < n:=by simpa [clB] using hc
  exact ⟨b,ad,by show (E.β.take n)[i]? = _;rw [cC,aj hi];exact hb,h1⟩
 | .agg l,v,h,hc=>by
  unfold Rv at h ⊢;obtain ⟨vs,h1,h2,h3⟩:=h;simp only [clB] at hc;exact ⟨vs,h1,RvL.cut h2 hc,h3⟩
 | .cp l,v,h,hc=>by
  unfold Rv at h ⊢;obtain ⟨vs,h1,h2⟩:=h;simp only [clB] at hc;exact ⟨vs,h1,RvL.cut h2 hc⟩
 | .fn f l r,v,h,hc=>by
  unfold Rv at h ⊢;obtain ⟨l',r',h1,h2,h3⟩:=h;simp only [clB,aZ] at hc;exact ⟨l',r',h1,RvL.cut h2 hc.1,RvL.cut h3 hc.2⟩
 | .nR t x,v,h,hc=>by
  unfold Rv at h ⊢;obtain ⟨z,h1,h2⟩:=h;simp only [clB] at hc;exact ⟨z,h1,Rv.cut h2 hc⟩
theorem RvL.cut {n m:Nat} {E:En}:∀ {l:List DV} {vs:List Value},RvL E l vs->clB.clL n m l=true->RvL (E.cut n m) l vs
 | [],vs,h,_=>by simp only [RvL] at h ⊢;exact h
 | d :: r,vs,h,hc=>by
  simp only [RvL] at h ⊢;obtain ⟨v,s,h1,h2,h3⟩:=h;simp only [clB.clL,aZ] at hc;exact ⟨v,s,h1,Rv.cut h2 hc.1,RvL.cut h3 hc.2⟩
end
end
end Dv
end Go.Proofs.YtfdedoiiahbnnaaGreat
namespace Go.Proofs.YtfdedoiiahbnnaaGreat
namespace Dv
open Go Go.RowKit
def We (n m:Nat) (cK:List TkE) (x x':DV):Prop:=
 (x=x' /\ clB n m x=true)∨(x = .v (.slice none 0 0)/\∃ e k q,x' = .sl e [] (some k)/\m<=k/\cK[k]? = some q)∨(x = .v (.slice none 0 0)/\∃ e,x' = .sl e [] none)∨(∃ e es tk,x = .sl e es tk/\x' = .sl e es none)∨(∃ e es xX tk,x = .sl e es tk/\x' = .sl e xX none/\CcE [] 0 xX es)∨(∃ e es xX k,x = .sl e es (some k)/\x' = .sl e xX (some k)/\k < m/\CcE [] 0 xX es)
def WeL (n m:Nat) (cK:List TkE):List DV->List DV->Prop
 | [],l=>l=[]
 | x :: r,l=>∃ x' r',l=x' :: r' /\ We n m cK x x' /\ WeL n m cK r r'
def WeLL (n m:Nat) (cK:List TkE):List (List DV)->List (List DV)->Prop
 | [],l=>l=[]
 | x :: r,l=>∃ x' r',l=x' :: r' /\ WeL n m cK x x' /\ WeLL n m cK r r'
def jJ (n m:Nat) (cK:List TkE) (sl:List (Nat × Sl)):List (Nat × Sl)->Prop
 | []=>True
 | p :: r=>(∃ x,get sl p.1=some ⟨p.2.gs,x⟩/\We n m cK x p.2.s)/\jJ n m cK sl r
structure nb (n0 m0:Nat) (st st':St):Prop where
 all:∃ kept dropped new b0 r,m0<=kept.length/\n0<=b0.length/\st.tk=kept ++ dropped/\st'.tk=kept ++ new/\(∀ q∈new,TkE.new q=true)/\st.bx=b0 ++ r/\WeLL b0.length kept.length st'.tk b0 st'.bx/\jJ b0.length kept.length st'.tk st.sl st'.sl
theorem WeLL.length {n m:Nat} {cK:List TkE}:∀ {l l':List (List DV)},WeLL n m cK l l' -> l'.length=l.length
 | [],l',h=>by simp only [WeLL] at h;subst h;rfl
 | x :: r,l',h=>by
  simp only [WeLL] at h;obtain ⟨x',r',rfl,_,h2⟩:=h;simp [WeLL.length h2]
theorem WeLL.get {n m:Nat} {cK:List TkE}:∀ {l l':List (List DV)},WeLL n m cK l l' -> ∀ (i:Nat) cs',l'[i]? = some cs' -> ∃ cs,l[i]? = some cs/\WeL n m cK cs cs'
 | [],l',h,i,cs',hi=>by simp only [WeLL] at h;subst h;simp at hi
 | x :: r,l',h,i,cs',hi=>by
  simp only [WeLL] at h;obtain ⟨x',r',rfl,h1,h2⟩:=h
  cases i with
  | zero=>simp only [List.getElem?_cons_zero,oI] at hi;subst hi;exact ⟨x,rfl,h1⟩
  | succ i=>simp only [List.getElem?_cons_succ] at hi ⊢;exact WeLL.get h2 i cs' hi
theorem rW {n m:Nat} {cK:List TkE} {sl:List (Nat × Sl)}:∀ {l:List (Nat × Sl)},jJ n m cK sl l->∀ i x',get l i=some x' -> ∃ x,get sl i=some ⟨x'.gs,x⟩/\We n m cK x x'.s
 | [],_,i,x',hx=>by cases hx
 | (k,y) :: r,h,i,x',hx=>by
  simp only [dF] at hx;split at hx
  ·rename_i xZ;subst xZ;simp only [oI] at hx;subst hx;exact h.1
  ·exact rW h.2 i x' hx
section
variable {X:Ctx} {E:En} {st st':St} {a:Act} {w:World} {k:List It}
def En.wk (E:En) (n:Nat) (kept new:List TkE):En:=⟨E.c,E.β.take n,kept ++ new,E.τ.take kept.length ++ List.replicate new.length (.slice none 0 0)⟩
theorem yD {n:Nat} {kept dropped new:List TkE} (ht:E.tk=kept ++ dropped) (hl:E.τ.length=E.tk.length) (dn:∀ q∈new,TkE.new q=true) {x x':DV} {v:Value} (hx:We n kept.length (kept ++ new) x x') (hv:Rv E x v):Rv (E.wk n kept new) x' v:=by
 have Qt:kept.length<=E.τ.length:=by rw [hl,ht];simp
 have first:∀ {x:DV},clB n kept.length x=true->Rv E x v->Rv (E.wk n kept new) x v:=by
  intro x hc hv;refine Rv.mono (E:=E.cut n kept.length) ⟨fun _ _ h=>h,fun _ _ h=>h,fun k q hq=>?_⟩ (Rv.cut hv hc);have mD:(E.tk.take kept.length)[k]? = some q:=hq;rw [cC] at mD;split at mD
  ·rename_i hk;refine ⟨q,?_,.inl ⟨rfl,?_⟩⟩
   ·show (kept ++ new)[k]? = _
    grind
   ·show (E.τ.take kept.length ++ _)[k]? = (E.τ.take kept.length)[k]?
    grind
  ·cases mD
 rcases hx with ⟨rfl,hc⟩ | ⟨rfl,e,k,q,rfl,hk,hq⟩ | ⟨rfl,e,rfl⟩ | ⟨e,es,tk,rfl,rfl⟩ | ⟨e,es,xX,tk,rfl,rfl,he⟩ | ⟨e,es,xX,k,rfl,rfl,hk,he⟩
 ·exact first hc hv
 ·have:=bC hv;subst this;unfold Rv;refine ⟨none,0,0,rfl,⟨rfl,bn _⟩,fun hn=>(hn rfl).elim,fun k' gD=>?_⟩;cases gD;have Uz:(kept ++ new)[k]? = some q:=hq;rw [List.getElem?_append_right hk] at Uz;have Bq:=TkE.G0 (dn q (mG Uz));refine ⟨q,hq,by omega,fun _=>?_⟩;have aS:=(gS Uz).1;show (E.τ.take kept.length ++ List.replicate new.length _)[k]? = _
  grind
 ·have:=bC hv;subst this;unfold Rv;exact ⟨none,0,0,rfl,⟨rfl,bn _⟩,fun hn=>(hn rfl).elim,fun k hk=>by cases hk⟩
 ·unfold Rv at hv ⊢;obtain ⟨b,n,cap,h1,h2,h3,_⟩:=hv;exact ⟨b,n,cap,h1,h2,h3,fun k hk=>by cases hk⟩
 ·have hv:=Mi he hv;unfold Rv at hv ⊢;obtain ⟨b,n,cap,h1,h2,h3,_⟩:=hv;exact ⟨b,n,cap,h1,h2,h3,fun k hk=>by cases hk⟩
 ·exact first (by simp only [clB];exact Nat.ble_eq_true_of_le hk) (Mi he hv)
theorem pq {n:Nat} {kept dropped new:List TkE} (ht:E.tk=kept ++ dropped) (hl:E.τ.length=E.tk.length) (dn:∀ q∈new,TkE.new q=true):∀ {l l':List DV} {vs:List Value},WeL n kept.length (kept ++ new) l l' -> RvL E l vs->RvL (E.wk n kept new) l' vs
 | [],l',vs,h,hv=>by grind [WeL,RvL]
 | x :: r,l',vs,h,hv=>by
  simp only [WeL] at h;obtain ⟨x',r',rfl,h1,h2⟩:=h;simp only [RvL] at hv ⊢;obtain ⟨v,s,h3,h4,h5⟩:=hv;exact ⟨v,s,h3,yD ht hl dn h1 h4,pq ht hl dn h2 h5⟩
theorem pu (h:Rel X E st a w) {kept dropped new:List TkE} {b0 r:List (List DV)} (kk:X.m0<=kept.length/\X.n0<=b0.length/\st.tk=kept ++ dropped/\st'.tk=kept ++ new/\(∀ q∈new,TkE.new q=true)/\st.bx=b0 ++ r/\WeLL b0.length kept.length st'.tk b0 st'.bx/\jJ b0.length kept.length st'.tk st.sl st'.sl):Rel X (E.wk b0.length kept new) st' a w:=by
 obtain ⟨oW,rF,ht,oX,dn,hb,kT,Bb⟩:=kk;rw [oX] at kT Bb;have Tl:E.tk=kept ++ dropped:=by rw [h.tk,ht]
 have hbl:=kT.length;have Qt:kept.length<=E.τ.length:=by rw [h.env.tl,Tl];simp
 have nT:b0.length<=E.β.length:=by rw [h.env.len,hb];simp
 have hτ:∀ (k:Nat) y,(E.τ.take kept.length ++ List.replicate new.length (Value.slice none 0 0))[k]? = some y->(k < kept.length/\E.τ[k]? = some y)∨(kept.length<=k/\y = .slice none 0 0):=fun k y hy=>by grind
 exact {
  env:={
   len:=by simp only [En.wk,zLenT];omega
   tl:=by simp only [En.wk,List.length_append,zLenT,List.length_replicate];omega
   dQ:=fun i cs' hi=>by
    obtain ⟨cs,cr,UA⟩:=kT.get i cs' hi;have aS:=(gS cr).1;obtain ⟨b,ty,arr,Hl,Ti,hc⟩:=h.env.dQ i cs (by rw [hb,eT aS];exact cr);exact ⟨b,ty,arr,by simp only [En.wk];rw [cC,aj aS];exact Hl,Ti,pq Tl h.env.tl dn UA hc.1,hc.2⟩
   inj:=h.env.inj.sublist (List.take_sublist _ _)
   sub:=h.env.sub
   pc:=fun x v hx hm=>h.env.pc x v hx (List.mem_of_mem_take hm)
   cN:=fun k q y hq hy=>by
    rcases hτ k y hy with ⟨hk,gP⟩ | ⟨hk,rfl⟩
    ·have mD:(kept ++ new)[k]? = some q:=hq;rw [eT hk] at mD;rcases h.env.cN k q y (by rw [Tl,eT hk];exact mD) gP with h1 | ⟨g,cap,cur,rfl,h1,h2,h3,h4,h5,h6⟩
     ·exact .inl h1
     ·exact .inr ⟨g,cap,cur,rfl,h1,h2,h3,h4,fun hm=>h5 (List.mem_of_mem_take hm),h6⟩
    ·have mD:(kept ++ new)[k]? = some q:=hq;rw [List.getElem?_append_right hk] at mD;exact .inl ⟨rfl,TkE.G0 (dn q (mG mD)),TkE.Md (dn q (mG mD))⟩
   gC:=fun k k' y y' g G7 hy gP hg wY=>by
    rcases hτ k y hy with ⟨_,A9⟩ | ⟨_,rfl⟩
    ·rcases hτ k' y' gP with ⟨_,mz⟩ | ⟨_,rfl⟩
     ·exact h.env.gC k k' y y' g G7 A9 mz hg wY
     ·simp [Value.ownBlock] at wY
    ·simp [Value.ownBlock] at hg }
  tk:=by simp only [En.wk];exact oX.symm
  sz:=h.sz
  tm:=fun i x' uW=>by
   obtain ⟨x,hx,UA⟩:=rW Bb i x' uW;have:=h.tm i _ hx;refine ⟨fun hh=>?_,this.2⟩;obtain ⟨v,h1,h2⟩:=this.1 hh;exact ⟨v,h1,yD Tl h.env.tl dn UA h2⟩
  df:=h.df
  nw:={
   c:=h.nw.c
   cn:=h.nw.cn
   β:=by
    obtain ⟨r2,hr,hl⟩:=h.nw.β;refine ⟨r2.take (b0.length - X.n0),?_,fun b hb=>hl b (List.mem_of_mem_take hb)⟩;simp only [En.wk];rw [hr,List.take_append,List.take_of_length_le (by rw [X.rF];omega),X.rF]
   tk:=fun j q0 y0 Bq E6=>by
    obtain ⟨q',y',h1,h2,h3⟩:=h.nw.tk j q0 y0 Bq E6;have hj:j < X.m0:=by rw [<- X.oW];exact (gS Bq).1
    grind [En.wk]
   tn:=fun j y g hj hy hg=>by
    rcases hτ j y hy with ⟨_,A9⟩ | ⟨_,rfl⟩
    ·exact h.nw.tn j y g hj A9 hg
    ·simp [Value.ownBlock] at hg
   l0:=h.nw.l0 }
  fr:=h.fr
  sh:=h.sh
  bt:=h.bt.sub _ }
theorem rX (h:Rel X E st a w) (hw:nb X.n0 X.m0 st st'):∃ E',Rel X E' st' a w:=by
 obtain ⟨_,_,_,_,_,kk⟩:=hw.all;exact ⟨_,pu h kk⟩
theorem least {p:Nat->Prop} (h:∃ n,p n):∃ n,p n/\∀ m,p m->n<=m:=by
 obtain ⟨n,hn⟩:=h
 induction n using Nat.strongRecOn with
 | _ n ih=>grind
theorem de {c:Code} (I:Nat->St->Prop) (j0:Nat) (j8:St) (hw:nb X.n0 X.m0 st j8) (h0:I j0 j8)
  (hr:∀ j s,I j s->go X 4000 (.code c :: .JM (fun s'=>∃ Hm,nb X.n0 X.m0 s' Hm /\ ∃ j',j' < j/\I j' Hm) :: k) s):rG X c k st:=by
 intro E a w h;obtain ⟨E0,hr0⟩:=rX h hw
 classical
 let Inv:Act->World->Prop:=fun a w=>∃ j s E,Rel X E s a w/\I j s
 let μ:Act->World->Nat:=fun a w=>if hI:Inv a w then Classical.choose (least hI) else 0
 refine wp_loop Inv μ ⟨j0,j8,E0,hr0,h0⟩ ?_;intro a1 w1 hI;have DG:=(Classical.choose_spec (least hI)).1;obtain ⟨s,E1,cO,hIs⟩:=DG;have hs:=go_sound 4000 _ _ (hr _ s hIs) E1 a1 w1 cO;rw [eD] at hs;refine wp_mono hs ?_;intro e a2 w2 hq
 cases e with
 | normal=>
  obtain ⟨s',E2,Qu,Hm,NW,j',jf,WL⟩:=hq;obtain ⟨E3,Mj⟩:=rX Qu NW;have UB:Inv a2 w2:=⟨j',Hm,E3,Mj,WL⟩;refine ⟨UB,?_⟩;simp only [μ,dif_pos hI,dif_pos UB];exact Nat.lt_of_le_of_lt ((Classical.choose_spec (least UB)).2 j' ⟨Hm,E3,Mj,WL⟩) jf
 | exit id=>exact hq
 | goto l=>exact hq
 | ret=>exact hq
 | panic c=>exact hq
 | outgrown=>exact hq
theorem aQ {n m:Nat} {cK:List TkE} {x:DV} (h:clB n m x=true):We n m cK x x:=.inl ⟨rfl,h⟩
theorem ch {n m:Nat} {cK:List TkE} {kd:IntKind} {x y:Int} (h:x=y):We n m cK (.v (.int kd x)) (.v (.int kd y)):=.inl ⟨by rw [h],rfl⟩
theorem dz {n m:Nat} {cK:List TkE} {e k:Nat} {q:TkE} (h1:m<=k) (h2:cK[k]? = some q):We n m cK (.v (.slice none 0 0)) (.sl e [] (some k)):=.inr (.inl ⟨rfl,e,k,q,rfl,h1,h2⟩)
theorem gY {n m:Nat} {cK:List TkE} {e k:Nat} {es xX:List (List DV)} (h:es=xX) (hk:Nat.blt k m=true):We n m cK (.sl e es (some k)) (.sl e xX (some k)):=.inl ⟨by rw [h],hk⟩
theorem ax {p:Prop} (h:p:=by repeat' (first | exact rfl | exact trivial | exact Or.inr (Or.inl ⟨_,rfl⟩) | exact Or.inr ⟨_,rfl⟩ | exact Or.inl ⟨rfl,rfl⟩ | exact Or.inl rfl | refine Or.inr ⟨_,_,rfl,Nat.zero_le _,rfl,?_⟩ | refine ⟨_,_,rfl,?_,?_⟩ | refine ⟨_,rfl,?_⟩ | refine Or.inr (Or.inr (Or.inr ⟨_,_,rfl,?_⟩)) | exact Or.inl rfl | refine Or.inr ?_)):p:=h
theorem wA {p:Prop} (h:p:=by repeat' (first | exact rfl | exact aQ rfl | refine ⟨_,_,rfl,?_,?_⟩)):p:=h
theorem wB {p:Prop} (h:p:=by repeat' (first | exact trivial | exact aQ rfl | refine ⟨⟨_,rfl,?_⟩,?_⟩)):p:=h
theorem xk {n0 m0:Nat} {st st':St} (h1:∃ r,st.bx=st'.bx ++ r) (h2:WeLL st'.bx.length st'.tk.length st'.tk st'.bx st'.bx) (h3:st.tk=st'.tk) (h4:Nat.ble n0 st'.bx.length=true) (h5:Nat.ble m0 st'.tk.length=true)
  (h:jJ st'.bx.length st'.tk.length st'.tk st.sl st'.sl):nb n0 m0 st st':=by
 obtain ⟨r,hr⟩:=h1;exact ⟨st'.tk,[],[],st'.bx,r,by simpa using h5,by simpa using h4,by simp [h3],by simp,by simp,hr,h2,h⟩
theorem NX {n0 m0:Nat} {st st':St} (n:Nat) (hn:Nat.ble n st.bx.length=true) (h2:WeLL n st'.tk.length st'.tk (st.bx.take n) st'.bx) (h3:st.tk=st'.tk) (h4:Nat.ble n0 n=true) (h5:Nat.ble m0 st'.tk.length=true)
  (h:jJ n st'.tk.length st'.tk st.sl st'.sl):nb n0 m0 st st':=by
 have hl:(st.bx.take n).length=n:=by simp_all
 exact ⟨st'.tk,[],[],st.bx.take n,st.bx.drop n,by simpa using h5,by rw [hl];simpa using h4,by simp [h3],by simp,by simp,(List.take_append_drop n st.bx).symm,by rw [hl];exact h2,by rw [hl];exact h⟩
theorem gF {n0 m0:Nat} {st st':St} (q:TkE) (hq:q.new=true) (h1:∃ r,st.bx=st'.bx ++ r) (h3:st.tk ++ [q]=st'.tk) (h2:WeLL st'.bx.length st.tk.length st'.tk st'.bx st'.bx) (h4:Nat.ble n0 st'.bx.length=true) (h5:Nat.ble m0 st.tk.length=true)
  (h:jJ st'.bx.length st.tk.length st'.tk st.sl st'.sl):nb n0 m0 st st':=by
 obtain ⟨r,hr⟩:=h1;exact ⟨st.tk,[],[q],st'.bx,r,by simpa using h5,by simpa using h4,by simp,h3.symm,by simpa using hq,hr,h2,h⟩
end
end Dv
end Go.Proofs.YtfdedoiiahbnnaaGreat
namespace Go.Proofs.YtfdedoiiahbnnaaGreat
namespace Dv
theorem aL {p : Prop} (h : p := by repeat' (first | exact rfl | exact trivial | exact Or.inr (Or.inl ⟨_,rfl⟩) | exact Or.inr ⟨_,rfl⟩ | exact Or.inl ⟨rfl,rfl⟩ | exact Or.inl rfl | refine Or.inr ⟨_,_,rfl,Nat.zero_le _,rfl,?_⟩ | refine ⟨_,_,rfl,?_,?_⟩ | refine ⟨_,rfl,?_⟩ | exact ⟨nL rfl,rfl⟩ | refine Or.inr (Or.inr (Or.inr ⟨_,_,rfl,?_⟩)) | exact Or.inl rfl | refine Or.inr ?_)) : p := h
theorem aI {p : Prop} {a b : Int} (q : a=b) (h : a=b -> p := by intro q;repeat' (first | exact rfl | exact trivial | exact Or.inr (Or.inl ⟨_,rfl⟩) | exact Or.inr ⟨_,rfl⟩ | exact Or.inl ⟨rfl,rfl⟩ | exact Or.inl rfl | refine Or.inr ⟨_,_,rfl,Nat.zero_le _,rfl,?_⟩ | refine ⟨_,_,rfl,?_,?_⟩ | refine ⟨_,rfl,?_⟩ | exact congrArg (fun z=>DV.v (.int .i64 z)) q | refine Or.inr (Or.inr (Or.inr ⟨_,_,rfl,?_⟩)) | exact Or.inl rfl | refine Or.inr ?_)) : p := h q
theorem aB {p : Prop} {a b : Bool} (q : a=b) (h : a=b -> p := by intro q;repeat' (first | exact rfl | exact trivial | exact Or.inr (Or.inl ⟨_,rfl⟩) | exact Or.inr ⟨_,rfl⟩ | exact Or.inl ⟨rfl,rfl⟩ | exact Or.inl rfl | refine Or.inr ⟨_,_,rfl,Nat.zero_le _,rfl,?_⟩ | refine ⟨_,_,rfl,?_,?_⟩ | refine ⟨_,rfl,?_⟩ | exact congrArg (fun b=>DV.v (.bool b)) q | refine Or.inr (Or.inr (Or.inr ⟨_,_,rfl,?_⟩)) | exact Or.inl rfl | refine Or.inr ?_)) : p := h q
theorem wNA {p : Prop} {a b : Nat} (q : a < b) (hn : b <= 4611686018427387904 := by omega) (h : a < b -> b <= 4611686018427387904 -> p := by intro q hn;repeat' (first | exact rfl | exact aQ rfl | exact ch (gy q hn) | refine ⟨_,_,rfl,?_,?_⟩)) : p := h q hn
theorem wNB {p : Prop} {a b : Nat} (q : a < b) (hn : b <= 4611686018427387904 := by omega) (h : a < b -> b <= 4611686018427387904 -> p := by intro q hn;repeat' (first | exact trivial | exact aQ rfl | exact ch (gy q hn) | refine ⟨⟨_,rfl,?_⟩,?_⟩)) : p := h q hn
theorem wSA {p r : Prop} {a b : Nat} (q : a < b) (s : r) (hn : b <= 4611686018427387904 := by omega) (h : a < b -> b <= 4611686018427387904 -> r -> p := by intro q hn s;repeat' (first | exact rfl | exact aQ rfl | exact ch (gy q hn) | exact gY s rfl | refine ⟨_,_,rfl,?_,?_⟩)) : p := h q hn s
theorem wSB {p r : Prop} {a b : Nat} (q : a < b) (s : r) (hn : b <= 4611686018427387904 := by omega) (h : a < b -> b <= 4611686018427387904 -> r -> p := by intro q hn s;repeat' (first | exact trivial | exact aQ rfl | exact ch (gy q hn) | exact gY s rfl | refine ⟨⟨_,rfl,?_⟩,?_⟩)) : p := h q hn s
theorem wTB {p : Prop} (h : p := by repeat' (first | exact trivial | exact aQ rfl | exact dz (Nat.le_refl _) rfl | refine ⟨⟨_,rfl,?_⟩,?_⟩)) : p := h
theorem wTA {p : Prop} (h : p := by repeat' (first | exact rfl | exact aQ rfl | exact dz (Nat.le_refl _) rfl | refine ⟨_,_,rfl,?_,?_⟩)) : p := h
theorem wRB {p : Prop} (h : p := by repeat' (first | exact trivial | exact aQ rfl | exact ch rfl | refine ⟨⟨_,rfl,?_⟩,?_⟩)) : p := h
theorem wRA {p : Prop} (h : p := by repeat' (first | exact rfl | exact aQ rfl | exact ch rfl | refine ⟨_,_,rfl,?_,?_⟩)) : p := h
theorem PD {p:Prop}   (h:p:=by repeat' (first | exact rfl | exact aQ rfl | exact ln rfl | exact lq rfl | exact Hn _ | exact dz (Nat.le_refl _) rfl | exact dz (Nat.le_succ _) rfl | refine ⟨_,_,rfl,?_,?_⟩)):p:=h 
theorem Qv {p:Prop} {P0:Prop} (x0:P0) (h:P0->p:=by intro x0;repeat' (first | exact rfl | exact aQ rfl | exact ch x0 | exact ln x0 | exact gY x0 rfl | exact oi x0 | exact lq x0 | exact ch (congrArg Nat.cast x0) | exact aQ x0 | exact rY x0 | exact x0 | exact ln rfl | exact lq rfl | exact Hn _ | exact dz (Nat.le_refl _) rfl | exact dz (Nat.le_succ _) rfl | refine ⟨_,_,rfl,?_,?_⟩)):p:=h x0
theorem Tm {p:Prop} {P0:Prop} {P1:Prop} (x0:P0) (x1:P1) (h:P0->P1->p:=by intro x0 x1;repeat' (first | exact rfl | exact aQ rfl | exact ch x0 | exact ln x0 | exact gY x0 rfl | exact oi x0 | exact lq x0 | exact ch (congrArg Nat.cast x0) | exact aQ x0 | exact rY x0 | exact x0 | exact ch x1 | exact ln x1 | exact gY x1 rfl | exact oi x1 | exact lq x1 | exact ch (congrArg Nat.cast x1) | exact aQ x1 | exact rY x1 | exact x1 | exact ln rfl | exact lq rfl | exact Hn _ | exact dz (Nat.le_refl _) rfl | exact dz (Nat.le_succ _) rfl | refine ⟨_,_,rfl,?_,?_⟩)):p:=h x0 x1
theorem DH {p:Prop}   (h:p:=by repeat' (first | exact trivial | exact aQ rfl | exact dz (Nat.le_refl _) rfl | exact dz (Nat.le_succ _) rfl | exact ch rfl | refine ⟨⟨_,rfl,?_⟩,?_⟩)):p:=h 
theorem nc {p:Prop} {P0:Prop} (x0:P0) (h:P0->p:=by intro x0;repeat' (first | exact trivial | exact aQ rfl | exact ch x0 | exact ln x0 | exact gY x0 rfl | exact oi x0 | exact lq x0 | exact ch (congrArg Nat.cast x0) | exact aQ x0 | exact rY x0 | exact x0 | exact dz (Nat.le_refl _) rfl | exact dz (Nat.le_succ _) rfl | exact ch rfl | refine ⟨⟨_,rfl,?_⟩,?_⟩)):p:=h x0
theorem yb {p:Prop} {P0:Prop} {P1:Prop} (x0:P0) (x1:P1) (h:P0->P1->p:=by intro x0 x1;repeat' (first | exact trivial | exact aQ rfl | exact ch x0 | exact ln x0 | exact gY x0 rfl | exact oi x0 | exact lq x0 | exact ch (congrArg Nat.cast x0) | exact aQ x0 | exact rY x0 | exact x0 | exact ch x1 | exact ln x1 | exact gY x1 rfl | exact oi x1 | exact lq x1 | exact ch (congrArg Nat.cast x1) | exact aQ x1 | exact rY x1 | exact x1 | exact dz (Nat.le_refl _) rfl | exact dz (Nat.le_succ _) rfl | exact ch rfl | refine ⟨⟨_,rfl,?_⟩,?_⟩)):p:=h x0 x1
theorem bU {p:Prop}   (h:p:=by repeat' (first | exact rfl | exact trivial | exact Or.inr (Or.inl ⟨_,rfl⟩) | exact Or.inr ⟨_,rfl⟩ | exact Or.inl ⟨rfl,rfl⟩ | exact Or.inl rfl | refine Or.inr ⟨_,_,rfl,Nat.zero_le _,rfl,?_⟩ | refine ⟨_,_,rfl,?_,?_⟩ | refine ⟨_,rfl,?_⟩ | exact ⟨nL rfl,rfl⟩ | refine Or.inr (Or.inr (Or.inr ⟨_,_,rfl,?_⟩)) | exact Or.inl rfl | refine Or.inr ?_)):p:=h 
theorem rZ {p:Prop} {P0:Prop} (x0:P0) (h:P0->p:=by intro x0;repeat' (first | exact rfl | exact trivial | exact Or.inr (Or.inl ⟨_,rfl⟩) | exact Or.inr ⟨_,rfl⟩ | exact Or.inl ⟨rfl,rfl⟩ | exact Or.inl rfl | refine Or.inr ⟨_,_,rfl,Nat.zero_le _,rfl,?_⟩ | refine ⟨_,_,rfl,?_,?_⟩ | refine ⟨_,rfl,?_⟩ | exact congrArg (fun z=>DV.v (.int .i64 z)) x0 | exact congrArg (fun z=>DV.v (.int .i64 z)) (congrArg Nat.cast x0) | exact congrArg (fun b=>DV.v (.bool b)) x0 | exact x0 | exact Or.inr (Or.inl ⟨_,x0⟩) | apply x0 | exact ⟨nL rfl,rfl⟩ | refine Or.inr (Or.inr (Or.inr ⟨_,_,rfl,?_⟩)) | exact Or.inl rfl | refine Or.inr ?_)):p:=h x0
theorem iX {α:Type _} {P:α->Prop} {cs:α} {i:Int} {l:List α} (g:l[i.toNat]? = some cs) (k:P cs) (h:0<=i:=by omega):∃ cs,(0<=i/\l[i.toNat]? = some cs)/\P cs:=⟨cs,⟨h,g⟩,k⟩
theorem lI {X:Ctx} {st:St} {k:List It} {c:Code} (I:Nat->St->Prop) {j0:Nat} {j8:St} (h0:I j0 j8) (hw:nb X.n0 X.m0 st j8)
 (hr:∀ j s,I j s->go X 4000 (.code c :: .JM (fun s'=>∃ Hm,nb X.n0 X.m0 s' Hm/\∃ j',j' < j/\I j' Hm) :: k) s):rG X c k st:=de I j0 j8 hw h0 hr
theorem lJ {X:Ctx} {st:St} {k:List It} {c:Code} (S:Nat->St) (n:Nat) (hw:nb X.n0 X.m0 st (S 0))
 (hr:∀ e,e<=n->go X 4000 (.code c :: .JM (fun s'=>∃ Hm,nb X.n0 X.m0 s' Hm/\∃ j',j' < n - e/\∃ e:Nat,Hm=S e/\e<=n/\j'=n - e) :: k) (S e)):rG X c k st:=de (fun j st=>∃ e:Nat,st=S e/\e<=n/\j=n - e) (n - 0) (S 0) hw ⟨0,rfl,Nat.zero_le _,rfl⟩ fun j s h=>by
 obtain ⟨e,rfl,he,rfl⟩:=h;exact hr e he
theorem dA {a b : Bool} (h : a = b) : DV.v (.bool a) = .v (.bool b) := h ▸ rfl
theorem cstI {a b : Int} (h : a = b) : DV.v (.int .i64 a) = .v (.int .i64 b) := h ▸ rfl
theorem fC {n0 m0 : Nat} {st st' : St} (h : jJ st'.bx.length st'.tk.length st'.tk st.sl st'.sl) (h1 : ∃ r,st.bx = st'.bx ++ r := by exact ⟨_,rfl⟩) (h2 : WeLL st'.bx.length st'.tk.length st'.tk st'.bx st'.bx := by exact wA) (h3 : st.tk = st'.tk := by exact rfl) (h4 : Nat.ble n0 st'.bx.length = true := by exact rfl) (h5 : Nat.ble m0 st'.tk.length = true := by exact rfl) : nb n0 m0 st st' := xk h1 h2 h3 h4 h5 h
theorem yc {n0 m0 : Nat} {st st' : St} (n : Nat) (h2 : WeLL n st'.tk.length st'.tk (st.bx.take n) st'.bx) (h : jJ n st'.tk.length st'.tk st.sl st'.sl) (hn : Nat.ble n st.bx.length = true := by exact rfl) (h3 : st.tk = st'.tk := by exact rfl) (h4 : Nat.ble n0 n = true := by exact rfl) (h5 : Nat.ble m0 st'.tk.length = true := by exact rfl) : nb n0 m0 st st' := NX n hn h2 h3 h4 h5 h
abbrev bQ (k : Nat) (n : Int) : Nat × Sl := (k,⟨[],.v (.int .i64 n)⟩)
abbrev NY (k : Nat) (b : Bool) : Nat × Sl := (k,⟨[],.v (.bool b)⟩)
abbrev cE (k i : Nat) : Nat × Sl := (k,⟨[],.loc i 0⟩)
abbrev NZ (k : Nat) (c : List DV) : Nat × Sl := (k,⟨[],.pt c 0⟩)
abbrev gh (k e : Nat) (l : List (List DV)) : Nat × Sl := (k,⟨[],.sl e l none⟩)
end Dv
end Go.Proofs.YtfdedoiiahbnnaaGreat
namespace Go.Proofs.YtfdedoiiahbnnaaGreat
namespace Dv
open Go
section
variable {P:Program} {ops:Array Oper} {C:World->Prop} {Q:Act->World->Prop} {W:Nat->Bool} {π:Nat->Nat}
theorem Qw {o:Oper} {a:Act} {w:World} {K:Act->World->Prop} (h:wq P o a w K):∃ v w',K (a.put o.dst v) w':=by
 unfold wq at h;split at h
 ·exact ⟨_,_,h⟩
 ·exact ⟨_,_,h⟩
 ·obtain ⟨e,w',fr,⟨v,_,hv⟩,_⟩:=h [];exact ⟨v,w',hv⟩
 ·exact h.elim
theorem N1 {x y:Oper} {v:Value} (PE:x.apart ops y=true) (hs:∀ cs b,y.op ≠ .select cs b) {a:Act} {w:World} {K:Act->World->Prop} :
  wq P y (a.put x.dst v) w K↔wq P y a w (fun a' w'=>K (a'.put x.dst v) w'):=by
 obtain ⟨h1,h2,h3⟩:=Oper.apart_spec PE;unfold wq;rw [execOp_put y hs a x.dst v h1];have hc:∀ u,(a.put x.dst v).put y.dst u=(a.put y.dst u).put x.dst v:=fun u=>Act.put_comm a v u h2
 cases (execOp a.eval y).run P w with
 | halt h w'=>rfl
 | ok n w'=>cases n<;>simp [hc]
def Yl (P:Program) (ops:Array Oper) (C:World->Prop) (o:Oper) (v:Value) (a:Act):Prop:=
 (Region.wanted o (yielded ops a.tmps)=true/\∀ w,(isL o.op=true->C w)->(execOp a.eval o).run P w = .ok (.value v) w) ∨
 (Region.wanted o (yielded ops a.tmps)=false/\v=undef)
theorem Yl.same {x y:Oper} {v u:Value} (PE:x.apart ops y=true) (hs:∀ cs b,y.op ≠ .select cs b) {a:Act}:Yl P ops C y v (a.put x.dst u)↔Yl P ops C y v a:=by
 obtain ⟨h1,h2,h3⟩:=Oper.apart_spec PE;unfold Yl;rw [execOp_put y hs a x.dst u h1,wanted_put y a x.dst u h1]
def dC (P:Program) (ops:Array Oper) (o:Oper) (a:Act) (w:World) (K:Act->World->Prop):Prop:=
 if Region.wanted o (yielded ops a.tmps)=true then wq P o a w K else K (a.put o.dst undef) w
theorem gi {o:Oper} {a:Act} {w:World} {K K':Act->World->Prop} (hk:∀ a w,K a w->K' a w) (h:dC P ops o a w K):dC P ops o a w K':=by grind [dC,lX]
theorem px {x y:Oper} {v:Value} (PE:x.apart ops y=true) (hs:∀ cs b,y.op ≠ .select cs b) {a:Act} {w:World} {K:Act->World->Prop} :
  dC P ops y (a.put x.dst v) w K↔dC P ops y a w (fun a' w'=>K (a'.put x.dst v) w'):=by
 obtain ⟨h1,h2,h3⟩:=Oper.apart_spec PE;unfold dC;rw [wanted_put y a x.dst v h1];split
 ·exact N1 PE hs
 ·rw [Act.put_comm a v undef h2]
theorem Ho {o:Oper} {a:Act} {w:World} {K:Act->World->Prop} (h:dC P ops o a w K):∃ v w',K (a.put o.dst v) w':=by grind [dC,Qw]
theorem nf {o:Oper} {a:Act} {w:World} {K:Act->World->Prop} (h:dC P ops o a w K):dC P ops o a w (fun a' w'=>K a' w' /\ ∃ u,a'=a.put o.dst u):=by grind [dC,wq]
theorem lr {o:Oper} {a:Act} {w:World} {v:Value} {K:Act->World->Prop} (hy:Yl P ops C o v a) (hc:isL o.op=true->C w) (hk:K (a.put o.dst v) w):dC P ops o a w K:=by
 unfold dC;rcases hy with ⟨hw,hv⟩ | ⟨hw,rfl⟩
 ·grind [wq]
 ·rw [af (by simp [hw])];exact hk
theorem yE {o:Oper} {a:Act} {w:World} {v:Value} {K:Act->World->Prop} (hy:Yl P ops C o v a) (hc:isL o.op=true->C w) (h:dC P ops o a w K):K (a.put o.dst v) w:=by
 unfold dC at h;rcases hy with ⟨hw,hv⟩ | ⟨hw,rfl⟩
 ·grind [wq]
 ·rw [af (by simp [hw])] at h;exact h
def runT (P:Program) (ops:Array Oper) (W:Nat->Bool) (C:World->Prop) (Q:Act->World->Prop):List Nat->Act->World->Prop
 | [],a,w=>Q a w
 | i :: r,a,w=>
  match ops[i]? with
  | none=>False
  | some o=>
   if isE o.op=true then dC P ops o a w fun a' w'=>(W i=false->C w->C w')/\runT P ops W C Q r a' w'
   else ∃ v,Yl P ops C o v a/\(isL o.op=true->C w)/\runT P ops W C Q r (a.put o.dst v) w
def qj (ops:Array Oper) (W:Nat->Bool) (j i:Nat):Bool:=
 match ops[j]?,ops[i]? with
 | some x,some y=>x.apart ops y && y.apart ops x && !(isE x.op && isE y.op) && !(isL x.op && W i)
 | _,_=>false
def Hp (ops:Array Oper) (l:List Nat):Prop:=∃ i o,i∈l/\ops[i]? = some o/\isL o.op=true
theorem iJ {j i:Nat} {x y:Oper} (h:qj ops W j i=true) (hj:ops[j]? = some x) (hi:ops[i]? = some y) :
  x.apart ops y=true/\y.apart ops x=true/\¬ (isE x.op=true/\isE y.op=true)/\¬ (isL x.op=true/\W i=true):=by
 unfold qj at h;rw [hj,hi] at h;simp only [aZ,Bool.not_eq_true',Bool.and_eq_false_iff] at h;refine ⟨h.1.1.1,h.1.1.2,?_,?_⟩
 ·grind
 ·grind
theorem r8 (kU:∀ (j:Nat) (o:Oper) cs b,ops[j]? = some o->o.op ≠ .select cs b) {i:Nat} {o:Oper} (hi:ops[i]? = some o) (hR:isE o.op=false) :
  ∀ (rem:List Nat) (a:Act) (w:World),runT P ops W C Q rem a w->i∈rem->(∀ j∈rem,j≠i->π j < π i->qj ops W j i=true)->rem.Pairwise (fun a b=>π a < π b)->∃ v,Yl P ops C o v a
 | [],_,_,_,hm,_,_=>by cases hm
 | h :: rem,a,w,hr,hm,Fe,hp=>by
  simp only [runT] at hr;by_cases BH:h=i
  ·grind
  ·have lf:i∈rem:=by grind
   have aS:π h < π i:=(List.pairwise_cons.1 hp).1 i lf;split at hr
   ·exact hr.elim
   ·rename_i x hx;obtain ⟨Mk,Qx,_,_⟩:=iJ (Fe h (by simp) BH aS) hx hi;have ih:=fun a w hr=>r8 kU hi hR rem a w hr lf (fun j hj=>Fe j (eB _ hj)) (List.pairwise_cons.1 hp).2
    grind [Ho,Yl.same]
theorem vb {h:Nat} {rem:List Nat} (hl:Hp ops rem):Hp ops (h :: rem):=by
 obtain ⟨i,o,hm,ho,hL⟩:=hl;exact ⟨i,o,eB _ hm,ho,hL⟩
theorem r9 (kU:∀ (j:Nat) (o:Oper) cs b,ops[j]? = some o->o.op ≠ .select cs b) (PF:∀ j i x y,π j < π i->ops[i]? = some x->ops[j]? = some y->isL x.op=true->W j=false) {i:Nat} {o:Oper} (hi:ops[i]? = some o) :
  ∀ (rem:List Nat) (a:Act) (w:World),(Hp ops rem->C w)->runT P ops W C Q rem a w->i∈rem->(∀ j∈rem,j≠i->π j < π i->qj ops W j i=true)->rem.Pairwise (fun a b=>π a < π b) ->
   dC P ops o a w (fun a' w'=>(W i=false->C w->C w')/\runT P ops W C Q (rem.erase i) a' w')
 | [],_,_,_,_,hm,_,_=>by cases hm
 | h :: rem,a,w,hC,hr,hm,Fe,hp=>by
  by_cases BH:h=i
  ·grind [runT,lr]
  ·have lf:i∈rem:=by grind
   have aS:π h < π i:=(List.pairwise_cons.1 hp).1 i lf;have yF:=(List.pairwise_cons.1 hp).2;rw [List.erase_cons_tail (sU BH)];have hr0:=hr;simp only [runT] at hr;split at hr
   ·exact hr.elim
   ·rename_i x hx;obtain ⟨Mk,Qx,hEE,hLW⟩:=iJ (Fe h (by simp) BH aS) hx hi;have hsx:=fun cs b=>kU h x cs b hx;have PG:=fun cs b=>kU i o cs b hi;have Qy:∀ j∈rem,j≠i->π j < π i->qj ops W j i=true:=fun j hj=>Fe j (eB _ hj);split at hr
    ·-- the head has an effect: so o has none
     rename_i WM;have hRo:isE o.op=false:=by grind
     obtain ⟨v,hy⟩:=r8 (π:=π) kU hi hRo (h :: rem) a w hr0 hm Fe hp;have N2:isL o.op=true->C w:=fun hL=>hC ⟨i,o,hm,hi,hL⟩;refine lr hy N2 ⟨fun _ h=>h,?_⟩;simp only [runT,hx,WM,if_true];refine (px Qx hsx).2 ?_;refine gi ?_ (nf hr);rintro a' w' ⟨⟨PH,Bd⟩,u,rfl⟩;refine ⟨PH,?_⟩
     have hC':Hp ops rem->C w':=by
      intro hl;have BI:=hl;obtain ⟨l,z,hlm,hz,hL⟩:=hl;exact PH (PF h l z x ((List.pairwise_cons.1 hp).1 l hlm) hz hx hL) (hC (vb BI))
     have ih:=r9 kU PF hi rem _ w' hC' Bd lf Qy yF;have gP:=(Yl.same (u:=u) Mk PG).2 hy
     grind [yE]
    ·rename_i WM;obtain ⟨v,hy,hc,Bd⟩:=hr;have ih:=r9 kU PF hi rem (a.put x.dst v) w (fun hl=>hC (vb hl)) Bd lf Qy yF;refine gi ?_ (nf ((px Mk PG).1 ih))
     grind [runT,Yl.same]
def ordB (ops:Array Oper):Nat->Nat->Nat->Bool
 | 0,_,_=>false
 | n + 1,j,i=>
  match ops[i]? with
  | some o=>o.after.toList.any fun e=>Region.binds .any e && (Nat.beq e.on j || ordB ops n j e.on)
  | none=>false
def yG (ops:Array Oper) (W:Nat->Bool) (π:Nat->Nat):Bool:=
 Region.noSelect ops &&
 (List.range ops.size).all fun i=>
  match ops[i]? with
   | some o=>o.after.toList.all (fun e=>!Region.binds .any e || (Nat.blt (π e.on) (π i) && Nat.blt e.on ops.size)) && (!isL o.op || (List.range ops.size).all fun j=>!Nat.blt (π j) (π i) || !W j)
   | none=>false
def N3 (ops:Array Oper) (W:Nat->Bool) (π:Nat->Nat) (ex:Nat->Nat->Bool):Bool:=
 (List.range ops.size).all fun i=>(List.range ops.size).all fun j=>!Nat.blt (π j) (π i) || ex j i || ordB ops ops.size j i || qj ops W j i
def Qz:Nat->Nat->Bool:=fun _ _=>false
def BJ (ops:Array Oper) (W:Nat->Bool):Bool:=yG ops W (fun i=>i) && N3 ops W (fun i=>i) Qz
def Dn (ops:Array Oper) (listed:Array Bool):Prop:=
 ∀ i o,ops[i]? = some o->listed.getD i true=true->∀ e∈o.after,Region.binds .any e=true->listed.getD e.on false=true
theorem qk {listed:Array Bool} (hd:Dn ops listed):∀ (n:Nat) (j i:Nat) (o:Oper),ops[i]? = some o->(∀ e∈o.after,Region.binds .any e=true->listed.getD e.on false=true)->ordB ops n j i=true->listed.getD j false=true
 | 0,j,i,o,_,_,h=>by simp [ordB] at h
 | n + 1,j,i,o,ho,kk,h=>by
  simp only [ordB,ho,List.any_eq_true,aZ,Bool.or_eq_true] at h;obtain ⟨e,he,hb,hj⟩:=h;have N4:e∈o.after:=sU he;have h1:=kk e N4 hb;rcases hj with hj | hj
  ·have:e.on=j:=sU hj;rw [<- this];exact h1
  ·cases N5:ops[e.on]? with
   | none=>
    cases n with
    | zero=>simp [ordB] at hj
    | succ n=>simp [ordB,N5] at hj
   | some o'=>
    have hg:listed.getD e.on true=true:=by grind
    exact qk hd n j e.on o' N5 (hd e.on o' N5 hg) hj
theorem Kk (hc:yG ops W π=true):∀ j i x y,π j < π i->ops[i]? = some x->ops[j]? = some y->isL x.op=true->W j=false:=by
 simp only [yG,aZ,List.all_eq_true,List.mem_range] at hc;intro j i x y NI hx hy hL;have hj:=(Array.getElem?_eq_some_iff.1 hy).1;have:=hc.2 i (Array.getElem?_eq_some_iff.1 hx).1;simp only [hx,aZ,Bool.or_eq_true,hL,Bool.not_true,Bool.false_eq_true,false_or,List.all_eq_true,List.mem_range,Bool.not_eq_true'] at this;rcases this.2 j hj with h1 | h1
 ·have:¬ Nat.blt (π j) (π i)=true:=by simp [h1]
  simp at this;omega
 ·exact h1
theorem Ff (hc:yG ops W π=true):∀ i x,ops[i]? = some x->∀ e∈x.after,Region.binds .any e=true->π e.on < π i/\e.on < ops.size:=by
 simp only [yG,aZ,List.all_eq_true,List.mem_range] at hc;intro i x hx e he hb;have:=hc.2 i (Array.getElem?_eq_some_iff.1 hx).1;simp only [hx,aZ,List.all_eq_true,Bool.or_eq_true] at this;have h2:=this.1 e (sU he);rw [hb] at h2;simpa using h2
theorem Hq (hc:yG ops W π=true):∀ (j:Nat) (o:Oper) cs b,ops[j]? = some o->o.op ≠ .select cs b:=by
 simp only [yG,aZ] at hc;exact Region.noSelect_spec hc.1
theorem Hr:∀ {l:List Nat},l.Pairwise (fun a b=>π a < π b)->∀ {x y:Nat},x∈l->y∈l->x≠y->π x < π y∨π y < π x
 | [],_,x,y,hx,_,_=>by cases hx
 | h :: r,hp,x,y,hx,hy,bM=>by
  have yF:=List.pairwise_cons.1 hp;rcases fp hx with e1 | e1
  ·grind
  ·rcases fp hy with e2 | e2
   ·subst e2;exact .inr (yF.1 _ e1)
   ·exact Hr yF.2 e1 e2 bM
theorem BK {Q':Exit->Act->World->Prop} (ex:Nat->Nat->Bool) (UC:yG ops W π=true) (WN:N3 ops W π ex=true) (hQ:∀ a w,Q a w->Q' .normal a w):∀ (qS:Nat) (listed:Array Bool) (rem:List Nat) (a:Act) (w:World),
  listed.size=ops.size->Dn ops listed->(∀ i,i∈rem↔i < ops.size/\listed.getD i true=false)->rem.Pairwise (fun a b=>π a < π b)->rem.length<=qS->(∀ j∈rem,∀ i∈rem,ex j i=false)->(Hp ops rem->C w)->runT P ops W C Q rem a w ->
   wpAny P .any ops Q' qS listed a w:=by
 have kU:=Hq UC;have PF:=Kk UC;have QA:=Ff UC;simp only [N3,List.all_eq_true,List.mem_range,Bool.or_eq_true,Bool.not_eq_true'] at WN;intro qS
 induction qS with
 | zero=>
  intro listed rem a w dp WO sc hp hlen hex hC hr;have:rem=[]:=List.length_eq_zero_iff.1 (by omega);subst this;refine ⟨?_,hQ _ _ hr⟩;rw [List.eq_nil_iff_forall_not_mem];intro i hi;have:=(mem_ready.1 hi)
  grind
 | succ qS ih=>
  intro listed rem a w dp WO sc hp hlen hex hC hr
  have N6:∀ i,i∈Region.ready .any ops listed->i∈rem:=by
   intro i hi;obtain ⟨h1,o,ho,_⟩:=mem_ready.1 hi
   grind
  refine ⟨fun h0=>?_,fun i hi=>?_⟩
  ·cases rem with
   | nil=>exact hQ _ _ hr
   | cons h rem=>
    have hh:=(sc h).1 (by simp);have hx:ops[h]? = some ops[h]:=Array.getElem?_eq_getElem hh.1
    have:h∈Region.ready .any ops listed:=by
     refine mem_ready.2 ⟨hh.2,_,hx,fun e he hb=>?_⟩;obtain ⟨aS,Hs⟩:=QA h _ hx e he hb;cases hg:listed.getD e.on false
     ·have PI:listed.getD e.on true=false:=by grind
      have hm:=(sc e.on).2 ⟨by omega,PI⟩;rcases fp hm with e1 | e1
      ·rw [e1] at aS;omega
      ·have:=(List.pairwise_cons.1 hp).1 _ e1;omega
     ·rfl
    rw [h0] at this;cases this
  ·have yH:=N6 i hi;obtain ⟨BL,o,ho,kk⟩:=mem_ready.1 hi;have mw:=(Array.getElem?_eq_some_iff.1 ho).1
   have Fe:∀ j∈rem,j≠i->π j < π i->qj ops W j i=true:=by
    intro j hj _ aS;rcases WN i mw j ((sc j).1 hj).1 with ((h1 | h1) | h1) | h1
    ·have:¬ Nat.blt (π j) (π i)=true:=by simp [h1]
     simp at this;omega
    ·rw [hex j hj i yH] at h1;cases h1
    ·grind [qk]
    ·exact h1
   have bV:=r9 kU PF ho rem a w hC hr yH Fe hp;have hnd:rem.Nodup:=yh hp
   have key:∀ a' w',((W i=false->C w->C w')/\runT P ops W C Q (rem.erase i) a' w')->wpAny P .any ops Q' qS (listed.setIfInBounds i true) a' w':=by
    rintro a' w' ⟨PH,Bd⟩;refine ih (listed.setIfInBounds i true) (rem.erase i) a' w' (by simp [dp]) ?_ ?_ (hp.sublist List.erase_sublist) (by rw [List.length_erase_of_mem yH];omega) (fun j hj i hi=>hex j (List.mem_of_mem_erase hj) i (List.mem_of_mem_erase hi)) ?_ Bd
    ·intro k x hx hk e he hb;by_cases xZ:k=i
     ·subst xZ;rw [ho] at hx;simp only [oI] at hx;subst hx;exact getD_set_true (kk e he hb)
     ·rw [getD_set_ne true (Ne.symm xZ)] at hk;exact getD_set_true (WO k x hx hk e he hb)
    ·intro k;rw [List.Nodup.mem_erase_iff hnd];by_cases xZ:k=i
     ·subst xZ;simp [dp,mw]
     ·rw [getD_set_ne true (Ne.symm xZ)]
      grind
    ·rintro ⟨l,z,hl,hz,hL⟩;have BI:=List.mem_of_mem_erase hl;have bM:l≠i:=fun e=>by subst e;exact (List.Nodup.mem_erase_iff hnd).1 hl |>.1 rfl
     have UD:=hC ⟨l,z,BI,hz,hL⟩;refine PH ?_ UD;rcases Nat.lt_or_ge (π i) (π l) with h1 | h1
     ·exact PF i l z o h1 hz ho hL
     ·have h0:π l≠π i:=by
       intro he;rcases Hr hp BI yH bM with h2 | h2<;>omega
      have:=Fe l BI bM (by omega);obtain ⟨_,_,_,h4⟩:=iJ this hz ho
      grind
   unfold wpOp
   grind [dC,G9,lX]
theorem mH {id:Nat} {Q':Exit->Act->World->Prop} {a:Act} {w:World} (hm:P.follows .mixedOrders=true) (hc:BJ ops W=true) (hQ:∀ a w,Q a w->Q' .normal a w)
  (hC:C w.drew) (h:runT P ops W C Q (List.range ops.size) a w.drew):(Code.region id ops true).wp P Q' a w:=by
 refine wp_region_any hm ?_;simp only [BJ,aZ] at hc;refine BK (π:=fun i=>i) Qz hc.1 hc.2 hQ ops.size (Array.replicate ops.size false) (List.range ops.size) a _ (by simp) ?_ ?_ List.pairwise_lt_range (by simp) (fun _ _ _ _=>rfl) (fun _=>hC) h
 ·intro i o ho hl;have:i < ops.size:=(Array.getElem?_eq_some_iff.1 ho).1;simp [this] at hl
 ·simp_all
end
end Dv
end Go.Proofs.YtfdedoiiahbnnaaGreat
namespace Go.Proofs.YtfdedoiiahbnnaaGreat
namespace Dv
open Go Go.RowKit
structure Dr where
 ops:Array Oper
 W:Nat->Bool
 k:List It
 j8:St
 fin:Option (Bool->List (Nat × Sl)->St->Prop)
structure Dw where
 d:Dr
 E0:En
 wr:World
structure CC (E0:En) (bx:List (List DV)) (wr w:World):Prop where
 o:∀ (i:Nat) b cs,E0.β[i]? = some b->bx[i]? = some cs->cs ≠ []->w.heap[b]? = wr.heap[b]?
 c:∀ x v,E0.c x=some v->w.cell? x=some v
abbrev Dw.C (D:Dw) (w:World):Prop:=CC D.E0 D.d.j8.bx D.wr w
structure qT (E:En) (bx:List (List DV)) (w:World):Prop where
 len:E.β.length=bx.length
 dQ:∀ (i:Nat) cs,bx[i]? = some cs->cs ≠ []->∃ b ty arr,E.β[i]? = some b/\w.heap[b]? = some (.cells (List.toArray arr) ty (0,0))/\RvC E cs arr
theorem Env.em {E:En} {bx:List (List DV)} {w:World} (h:Env E bx w):qT E bx w:=⟨h.len,fun i cs hi _=>h.dQ i cs hi⟩
def QB:Option (List DV)->Bool
 | some []=>true
 | _=>false
theorem Kl {o:Option (List DV)} (h:QB o=true):o=some []:=by
 cases o with
 | none=>cases h
 | some l=>
  cases l with
  | nil=>rfl
  | cons _ _=>cases h
def Dw.wc (D:Dw) (E:En):En:=⟨D.E0.c,E.β,E.tk,E.τ⟩
structure fx (X:Ctx) (D:Dw) (c:Bool) (E:En) (s0:List (Nat × Sl)) (st:St) (a:Act) (w:World):Prop where
 rel:Rel X E st a w
 x:Ext D.E0 E
 β:∃ r,E.β=D.E0.β ++ r
 t0:∀ i x,get s0 i=some x->(Holds a.tmps x.gs->∃ v,a.tmps[i]? = some v/\Rv (D.wc E) x.s v)/\(¬ Holds a.tmps x.gs->a.tmps[i]? = some undef)
 cc:c=true->D.C w
def Dw.Q (D:Dw) (X:Ctx) (a:Act) (w:World):Prop:=
 match D.d.fin with
 | none=>kq X D.d.k .normal a w
 | some F=>∃ c E s0 st,fx X D c E s0 st a w/\F c s0 st
def delF {γ:Type _} (d:Nat):List (Nat × Sl)->(List (Nat × Sl)->γ)->γ
 | [],K=>K []
 | p :: r,K=>
  match Nat.beq p.1 d with
  | true=>delF d r K
  | false=>delF d r (fun r'=>K (p :: r'))
theorem om {γ:Type _} (d:Nat):∀ (l:List (Nat × Sl)) (K:List (Nat × Sl)->γ),delF d l K=K (l.filter fun p=>!Nat.beq p.1 d)
 | [],K=>rfl
 | p :: r,K=>by
  simp only [delF,List.filter_cons];cases h:Nat.beq p.1 d
  ·simp only [Bool.not_false,if_true];rw [om d r]
  ·simp only [Bool.not_true,Bool.false_eq_true,if_false];rw [om d r K]
theorem get_filter (d:Nat):∀ (l:List (Nat × Sl)) (i:Nat) (x:Sl),get (l.filter fun p=>!Nat.beq p.1 d) i=some x->i≠d/\get l i=some x
 | [],i,x,h=>by cases h
 | (k,y) :: r,i,x,h=>by
  simp only [List.filter_cons] at h;split at h
  ·rename_i hk
   have hk:k≠d:=by
    rintro rfl;simp at hk
   simp only [dF] at h ⊢;split at h
   ·grind
   ·rename_i xZ;rw [af xZ];exact get_filter d r i x h
  ·rename_i hk;have hk:k=d:=sU hk;obtain ⟨h1,h2⟩:=get_filter d r i x h
   grind [dF]
def scal:DV->Bool
 | .v _=>true
 | .ud=>true
 | .loc _ _=>true
 | .el _ _=>true
 | _=>false
def put2 (s0:List (Nat × Sl)) (st:St) (dst:Option Nat) (b:Bool) (gs:List (Nat × Bool)) (s:DV) (K:List (Nat × Sl)->St->Prop):Prop:=
 match dst with
 | none=>K s0 st
 | some d=>
  match st with
  | ⟨sl,bx,tk⟩=>
   match b || scal s with
   | true=>K ((d,⟨gs,s⟩) :: s0) ⟨(d,⟨gs,s⟩) :: sl,bx,tk⟩
   | false=>delF d s0 fun gM=>K gM ⟨(d,⟨gs,s⟩) :: sl,bx,tk⟩
def optP:Option Prop->Prop
 | some p=>p
 | none=>False
def pR (X:Ctx) (D:Dr) (c:Bool) (s0:List (Nat × Sl)) (st:St) (G:List (Nat × Bool)) (op:Op):Option (Bool × DV):=
 match !isE op && (!isL op || c) with
 | false=>none
 | true=>
  match pureT X.P X.T ⟨s0,D.j8.bx,[]⟩ G op with
  | some s=>some (true,s)
  | none=>
   match isL op with
   | true=>none
   | false=>
    match pureT X.P X.T ⟨st.sl,[],[]⟩ G op with
    | some s=>some (false,s)
    | none=>none
def eR (X:Ctx) (D:Dr) (c:Bool) (s0:List (Nat × Sl)) (st:St) (op:Op) (K:Bool->DV->Prop):Option Prop:=
 match isE op with
 | true=>none
 | false=>
  match isL op with
  | true=>
   match c with
   | true=>effR X ⟨s0,D.j8.bx,[]⟩ op (K true)
   | false=>none
  | false=>
   match effR X ⟨s0,[],[]⟩ op (K true) with
   | some p=>some p
   | none=>effR X ⟨st.sl,[],[]⟩ op (K false)
def vc (X:Ctx) (D:Dr) (c:Bool) (i:Nat) (l:List (Nat × Oper)) (f:FuncId) (args:List DV) (dst:Option Nat) (s0:List (Nat × Sl)) (st:St):Prop:=
 Go.Proofs.Enters X.P f/\((∀ p∈l,D.ops[p.1]? = some p.2)->∀ (E0:En) (wr:World),qT E0 D.j8.bx wr->∀ E a w vs,fx X ⟨D,E0,wr⟩ c E s0 st a w->RvL E args vs->Calls X.P f vs.toArray w fun e w'=>∃ v,e = .returned v /\
  (D.W i=false->CC E0 D.j8.bx wr w->CC E0 D.j8.bx wr w')/\runT X.P D.ops D.W (CC E0 D.j8.bx wr) (Dw.Q ⟨D,E0,wr⟩ X) (l.map (·.1)) (a.put dst v) w')
def OpD (X:Ctx) (D:Dr) (c:Bool) (i:Nat) (l:List (Nat × Oper)) (o:Oper) (s0:List (Nat × Sl)) (st:St):Prop:=
 (∀ p∈l,D.ops[p.1]? = some p.2)->∀ (E0:En) (wr:World),qT E0 D.j8.bx wr->∀ E a w,fx X ⟨D,E0,wr⟩ c E s0 st a w->wq X.P o a w fun a' w'=>
  (D.W i=false->CC E0 D.j8.bx wr w->CC E0 D.j8.bx wr w')/\runT X.P D.ops D.W (CC E0 D.j8.bx wr) (Dw.Q ⟨D,E0,wr⟩ X) (l.map (·.1)) a' w'
def effE (X:Ctx) (D:Dr) (c:Bool) (i:Nat) (l:List (Nat × Oper)) (o:Oper) (s0:List (Nat × Sl)) (st:St) (K:Bool->List (Nat × Sl)->St->Prop):Prop:=
 match o.op with
 | .store t x y=>
  match o.dst with
  | some _=>False
  | none=>
   match D.W i with
   | true=>optP (effC X st o (K false s0))
   | false=>
    match stObj st o.op with
    | some j=>
     match Nat.ble D.j8.bx.length j || QB D.j8.bx[j]? with
     | true=>optP (effC X st o (K c s0))
     | false=>False
    | none=>False
 | .call cl=>
  match cl.callee with
  | .value f=>
   match rv st [] f,argsV st [] cl.args.toList with
   | some (.fn g first captured),some vs=>vc X D c i l g (first ++ vs ++ captured) o.dst s0 st
   | _,_=>False
  | _=>
   match o.dst with
   | some d=>optP (effC X st o fun st'=>delF d s0 fun gM=>K c gM st')
   | none=>False
 | _=>
  match o.dst with
  | some d=>
   match effC X st o fun st'=>
    match get st'.sl d with
    | some ⟨[],.loc j off⟩=>K c ((d,⟨[],.loc j off⟩) :: s0) st'
    | _=>delF d s0 fun gM=>K c gM st' with
   | some p=>p
   | none=>OpD X D c i l o s0 st
  | none=>False
def goD (X:Ctx) (D:Dr):Nat->Bool->List (Nat × Oper)->List (Nat × Sl)->St->Prop
 | _,c,[],s0,st=>
  match D.fin with
  | none=>go X 4000 D.k st
  | some F=>F c s0 st
 | 0,_,_ :: _,_,_=>False
 | n + 1,c,(i,o) :: r,s0,st=>
  match eZ X.nt st.sl o.dst && eZ X.nt s0 o.dst with
  | false=>False
  | true=>
   match o.guard with
   | none=>
    match isE o.op with
    | true=>effE X D c i r o s0 st fun c' gM st'=>goD X D n c' r gM st'
    | false=>
     match pR X D c s0 st [] o.op with
     | some (b,s)=>put2 s0 st o.dst b [] s (goD X D n c r)
     | none=>optP (eR X D c s0 st o.op fun b s=>put2 s0 st o.dst b [] s (goD X D n c r))
   | some (j,want)=>
    match gslot D.ops.toList j with
    | none=>False
    | some d=>
     match get st.sl d with
     | none=>False
     | some ⟨j7,_⟩=>
      match pR X D c s0 st ((d,want) :: j7) o.op with
      | some (b,s)=>
       match Ud ((d,want) :: j7) o.dst with
       | true=>put2 s0 st o.dst b ((d,want) :: j7) s (goD X D n c r)
       | false=>False
      | none=>
       match get st.sl (lastG (d,want) j7).1 with
       | some ⟨[],.v (.bool b)⟩=>
        match j7 with
        | []=>Br (b == want)
          (uH st d want fun Km=>resL d want s0 fun s2=>
           match isE o.op with
           | true=>effE X D c i r o s2 Km fun c' gM st'=>goD X D n c' r gM st'
           | false=>optP (eR X D c s2 Km o.op fun b s=>put2 s2 Km o.dst b [] s (goD X D n c r)))
          (match !isL o.op || c with
           | true=>uH st d (!want) fun Km=>resL d (!want) s0 fun s2=>put2 s2 Km o.dst true [] .ud (goD X D n c r)
           | false=>False)
        | _ :: _=>Br (b == (lastG (d,want) j7).2)
          (uH st (lastG (d,want) j7).1 (lastG (d,want) j7).2 fun Km=>resL (lastG (d,want) j7).1 (lastG (d,want) j7).2 s0 fun s2=>goD X D n c ((i,o) :: r) s2 Km)
          (uH st (lastG (d,want) j7).1 (!(lastG (d,want) j7).2) fun Km=>resL (lastG (d,want) j7).1 (!(lastG (d,want) j7).2) s0 fun s2=>goD X D n c ((i,o) :: r) s2 Km)
       | some ⟨[],.ud⟩=>
        match j7 with
        | []=>
         match !isL o.op || c with
         | true=>put2 s0 st o.dst true [] .ud (goD X D n c r)
         | false=>False
        | _ :: _=>False
       | _=>False
section
variable {X:Ctx} {D:Dw} {c:Bool} {i:Nat} {s0:List (Nat × Sl)} {st:St} {E:En} {a:Act} {w:World}
theorem N7 (h:Ext D.E0 E):Ext D.E0 (D.wc E):=⟨fun _ _ h=>h,h.β,h.tk⟩
theorem BM (h:Ext D.E0 E):Ext (D.wc E) E:=⟨h.c,fun _ _ h=>h,fun k q hq=>⟨q,hq,.inl ⟨rfl,rfl⟩⟩⟩
theorem xl {E':En} (h:Ext E E'):Ext (D.wc E) (D.wc E'):=⟨fun _ _ h=>h,h.β,h.tk⟩
theorem fx.UE (h:fx X D c E s0 st a w) (hD:qT D.E0 D.d.j8.bx D.wr):Rl (D.wc E) D.d.j8.bx D.C s0 a where
 tm:=h.t0
 dQ:=fun i cs hi=>by
  by_cases bM:cs=[]
  ·subst bM;have aS:i < D.E0.β.length:=by rw [hD.len];exact (gS hi).1
   exact ⟨_,[],h.x.β i _ (gE aS),⟨cy _,by simp⟩,fun w' _ j u hj=>by simp at hj⟩
  ·obtain ⟨b,ty,arr,hb,hw,hc⟩:=hD.dQ i cs hi bM;exact ⟨b,arr,h.x.β i b hb,hc.mono (N7 h.x),fun w' hC j u hj=>by rw [cJ ((hC.o i b cs hb hi bM).trans hw)];simpa using hj⟩
 cc:=fun x v hx w' hC=>hC.c x v hx
theorem fx.WQ (h:fx X D c E s0 st a w):Rl E [] (fun w'=>∀ x v,E.c x=some v->w'.cell? x=some v) st.sl a where
 tm:=h.rel.tm
 dQ:=fun i cs hi=>by simp at hi
 cc:=fun x v hx w' hC=>hC x v hx
theorem DI {s:DV} {v:Value} (hs:scal s=true) (hv:Rv E s v):Rv (D.wc E) s v:=by
 cases s<;>simp [scal] at hs
 ·unfold Rv at hv ⊢;exact hv
 ·unfold Rv at hv ⊢;exact hv
 ·unfold Rv at hv ⊢;exact hv
 ·unfold Rv at hv ⊢;exact hv
theorem iK (h:fx X D c E s0 st a w) {dst:Option Nat} (hd:(eZ X.nt st.sl dst && eZ X.nt s0 dst)=true) (b:Bool) (gs:List (Nat × Bool)) (s:DV) (v:Value) (EZ:∀ d,dst=some d->∀ p∈gs,p.1≠d)
  (xY:Holds a.tmps gs->Rv E s v) (mT:b=true->Holds a.tmps gs->Rv (D.wc E) s v) (JO:¬ Holds a.tmps gs->v=undef) {K:List (Nat × Sl)->St->Prop} (hk:put2 s0 st dst b gs s K) :
  ∃ gM st',K gM st' /\ fx X D c E gM st' (a.put dst v) w:=by
 simp only [aZ] at hd;have h1:=n7 h.rel hd.1 gs s v EZ xY JO
 cases dst with
 | none=>exact ⟨s0,st,hk,h1,h.x,h.β,h.t0,h.cc⟩
 | some d=>
  obtain ⟨sl,bx,tk⟩:=st;have UF:=hd.2;simp only [eZ,aZ,Nat.blt_eq] at UF
  have hold:∀ i x,i≠d->get s0 i=some x->(Holds (a.put (some d) v).tmps x.gs->∃ u,(a.put (some d) v).tmps[i]? = some u/\Rv (D.wc E) x.s u)/\(¬ Holds (a.put (some d) v).tmps x.gs->(a.put (some d) v).tmps[i]? = some undef):=by
   intro i x hi hx;simp only [Act.put];rw [Array.getElem?_setIfInBounds_ne (Ne.symm hi),jH (km UF.2 i x hx)];exact h.t0 i x hx
  simp only [put2] at hk;split at hk
  ·rename_i hb;refine ⟨_,_,hk,h1,h.x,h.β,fun i x hx=>?_,h.cc⟩;simp only [dF] at hx;split at hx
   ·rename_i G6;subst G6;simp only [oI] at hx;subst hx;have h2:(a.tmps.setIfInBounds d v)[d]? = some v:=by simp [Array.getElem?_setIfInBounds,h.rel.sz,UF.1]
    simp only [Act.put]
    grind [jH,DI]
   all_goals grind
  ·rw [om] at hk;refine ⟨_,_,hk,h1,h.x,h.β,fun i x hx=>?_,h.cc⟩;obtain ⟨h3,h4⟩:=get_filter d s0 i x hx;exact hold i x h3 h4
theorem ku (h:fx X D c E s0 st a w) {d:Nat} {b:Bool} (hd:a.tmps[d]? = some (.bool b)):fx X D c E (s0.map (bT d b)) (st.resolve d b) a w where
 rel:=jd h.rel hd
 x:=h.x
 β:=h.β
 t0:=by
  intro i y hy;simp only [get_map,Option.map_eq_some_iff] at hy;obtain ⟨x,hx,rfl⟩:=hy;have ht:=h.t0 i x hx;unfold bT;split
  ·rename_i hi;have mw:i=d:=sU hi;subst mw;exact ⟨fun _=>⟨_,hd,eo rfl⟩,fun hn=>(hn (aV _)).elim⟩
  ·split
   ·grind [Holds,qd,aV]
   ·have he:Holds a.tmps (x.gs.filter fun p=>p != (d,b))↔Holds a.tmps x.gs:=by
     constructor
     ·intro hh p hp;by_cases Qb:p=(d,b)
      ·subst Qb;exact hd
      ·exact hh p (by simp [List.mem_filter,hp,Qb])
     ·intro hh p hp;exact hh p (List.mem_filter.1 hp).1
    simp only [he];exact ht
 cc:=h.cc
theorem oo {nt d:Nat} {b:Bool} {dst:Option Nat} (h:(eZ nt st.sl dst && eZ nt s0 dst)=true):(eZ nt (st.resolve d b).sl dst && eZ nt (s0.map (bT d b)) dst)=true:=by
 simp only [aZ] at h ⊢;exact ⟨je h.1,je (st:=⟨s0,[],[]⟩) h.2⟩
theorem yI (hD:qT D.E0 D.d.j8.bx D.wr) (h:fx X D c E s0 st a w) {G:List (Nat × Bool)} (hG:Holds a.tmps G) {o:Oper} {b:Bool} {s:DV} (hp:pR X D.d c s0 st G o.op=some (b,s)) :
  isE o.op=false/\(isL o.op=true->c=true)/\∃ v,Rv E s v/\(b=true->Rv (D.wc E) s v)/\∀ w,(isL o.op=true->D.C w)->(execOp a.eval o).run X.P w = .ok (.value v) w:=by
 unfold pR at hp;split at hp
 ·cases hp
 ·rename_i hc;simp only [aZ,Bool.not_eq_true',Bool.or_eq_true] at hc;refine ⟨hc.1,fun hL=>?_,?_⟩
  ·grind
  ·split at hp
   ·rename_i s' hs;simp only [oI,Prod.mk.injEq] at hp;obtain ⟨rfl,rfl⟩:=hp;obtain ⟨v,hv,hr⟩:=gf (st:=⟨s0,D.d.j8.bx,[]⟩) X.hT (h.UE hD) hG hs;exact ⟨v,Rv.mono (BM h.x) hv,fun _=>hv,hr⟩
   ·split at hp
    ·cases hp
    ·rename_i hL;split at hp
     ·rename_i s' hs;simp only [oI,Prod.mk.injEq] at hp;obtain ⟨rfl,rfl⟩:=hp;obtain ⟨v,hv,hr⟩:=gf (st:=⟨st.sl,[],[]⟩) X.hT h.WQ hG hs
      grind
     ·cases hp
theorem Ht (hD:qT D.E0 D.d.j8.bx D.wr) (h:fx X D c E s0 st a w) {o:Oper} {K:Bool->DV->Prop} (hp:optP (eR X D.d c s0 st o.op K)) :
  isE o.op=false/\(isL o.op=true->c=true)/\∃ b s v,K b s/\Rv E s v/\(b=true->Rv (D.wc E) s v)/\∀ w,(isL o.op=true->D.C w)->(execOp a.eval o).run X.P w = .ok (.value v) w:=by
 unfold eR at hp;split at hp
 ·exact hp.elim
 ·rename_i hE;refine ⟨hE,?_⟩;split at hp
  ·rename_i hL;split at hp
   ·refine ⟨fun _=>rfl,?_⟩
    cases hs:effR X ⟨s0,D.d.j8.bx,[]⟩ o.op (K true) with
    | none=>rw [hs] at hp;exact hp.elim
    | some p=>
     rw [hs] at hp;obtain ⟨s,hk,v,hv,hr⟩:=ko (st:=⟨s0,D.d.j8.bx,[]⟩) (h.UE hD) hs hp;exact ⟨true,s,v,hk,Rv.mono (BM h.x) hv,fun _=>hv,hr⟩
   ·exact hp.elim
  ·rename_i hL;have se:∀ w':World,isL o.op=true->False:=fun w' h1=>by rw [hL] at h1;cases h1
   refine ⟨fun h1=>(by rw [hL] at h1;cases h1),?_⟩;split at hp
   ·rename_i p hs;obtain ⟨s,hk,v,hv,hr⟩:=ko (st:=⟨s0,[],[]⟩) (C:=D.C) ⟨h.t0,fun i cs hi=>by simp at hi,(h.UE hD).cc⟩ hs hp;exact ⟨true,s,v,hk,Rv.mono (BM h.x) hv,fun _=>hv,fun w' _=>hr w' fun h1=>(se w' h1).elim⟩
   ·cases hs:effR X ⟨st.sl,[],[]⟩ o.op (K false) with
    | none=>rw [hs] at hp;exact hp.elim
    | some p=>
     rw [hs] at hp;obtain ⟨s,hk,v,hv,hr⟩:=ko (st:=⟨st.sl,[],[]⟩) h.WQ hs hp
     grind
theorem Kn {P:Program} {o:Oper} {K:Act->World->Prop} (h:wq P o a w K):wq P o a w fun a' w'=>K a' w' /\ ∃ u,a'=a.put o.dst u:=by grind [wq]
theorem Hu (h:fx X D c E s0 st a w) {t:Option Nat} {E':En} {st':St} {a':Act} {w':World} (hs:DC t E w E' w') (hr:Rel X E' st' a' w') (ht:∀ j,t=some j->D.E0.β.length<=j∨D.d.j8.bx[j]? = some []):D.C w->D.C w':=fun hC=>
 ⟨fun i b cs hb cr bM=>by
  have jf:=h.x.β i b hb
  rw [hs.o i _ jf fun e=>by
   rcases ht i e with h1 | h1
   ·have:=(gS hb).1;omega
   ·rw [cr] at h1;simp only [oI] at h1;exact bM h1]
  exact hC.o i b cs hb cr bM,fun x v hx=>hr.env.sub x v (hs.x.c x v (h.x.c x v hx))⟩
theorem yJ (h:fx X D c E s0 st a w) {t:Option Nat} {E':En} {st':St} {w':World} {c':Bool} {gM:List (Nat × Sl)} {dst:Option Nat} {u:Value} (hs:DC t E w E' w') (hr:Rel X E' st' (a.put dst u) w') (rR:c'=true->D.C w')
  (ht0:∀ i x,get gM i=some x->(∃ d,dst=some d/\i=d/\scal x.s=true/\get st'.sl d=some x)∨(get s0 i=some x/\∀ d,dst=some d->i≠d)) (hd:eZ X.nt s0 dst=true):fx X D c' E' gM st' (a.put dst u) w' where
 rel:=hr
 x:=by
  refine ⟨fun y v hy=>hs.x.c y v (h.x.c y v hy),fun j b hb=>hs.x.β j b (h.x.β j b hb),fun k q hq=>?_⟩;obtain ⟨q1,h1,h2⟩:=h.x.tk k q hq;obtain ⟨q2,h3,h4⟩:=hs.x.tk k q1 h1
  grind
 β:=by
  obtain ⟨r1,h1⟩:=h.β;obtain ⟨r2,h2⟩:=hs.β
  grind
 t0:=fun i x hx=>by
  rcases ht0 i x hx with ⟨d,rfl,rfl,qg,hg⟩ | ⟨hg,bM⟩
  ·have:=hr.tm _ _ hg
   grind [DI]
  ·have h1:=h.t0 i x hg
   cases dst with
   | none=>
    refine ⟨fun hh=>?_,h1.2⟩;obtain ⟨v,h2,h3⟩:=h1.1 hh;exact ⟨v,h2,Rv.mono (xl hs.x) h3⟩
   | some d=>
    simp only [eZ,aZ,Nat.blt_eq] at hd;simp only [Act.put];rw [Array.getElem?_setIfInBounds_ne (Ne.symm (bM d rfl)),jH (km hd.2 i x hg)];refine ⟨fun hh=>?_,h1.2⟩;obtain ⟨v,h2,h3⟩:=h1.1 hh;exact ⟨v,h2,Rv.mono (xl hs.x) h3⟩
 cc:=rR
def QC (X:Ctx) (D:Dw) (l:List Nat) (G:Bool->List (Nat × Sl)->St->Prop):Prop:=∀ c s0 st,G c s0 st->∀ E a w,fx X D c E s0 st a w->runT X.P D.d.ops D.d.W D.C (D.Q X) l a w
theorem BN (hD:qT D.E0 D.d.j8.bx D.wr) {l:List (Nat × Oper)} (hl:∀ p∈l,D.d.ops[p.1]? = some p.2) {G:Bool->List (Nat × Sl)->St->Prop} (hG:QC X D (l.map (·.1)) G) {o:Oper} (hd:(eZ X.nt st.sl o.dst && eZ X.nt s0 o.dst)=true) (h:fx X D c E s0 st a w)
  (he:effE X D.d c i l o s0 st G):wq X.P o a w fun a' w'=>(D.d.W i=false->D.C w->D.C w')/\runT X.P D.d.ops D.d.W D.C (D.Q X) (l.map (·.1)) a' w':=by
 have uF:=hd;simp only [aZ] at uF;have hlen:D.E0.β.length=D.d.j8.bx.length:=hD.len
 have core:∀ (K:St->Prop) (p:Prop) (c1:Bool),effC X st o K=some p->p->(c1=true->c=true)->(c1=true∨D.d.W i=false->∀ j,stObj st o.op=some j->D.E0.β.length<=j∨D.d.j8.bx[j]? = some []) ->
   (∀ st',K st' -> ∃ gM,G c1 gM st' /\ ∀ i x,get gM i=some x->(∃ d,o.dst=some d/\i=d/\scal x.s=true/\get st'.sl d=some x)∨(get s0 i=some x/\∀ d,o.dst=some d->i≠d)) ->
   wq X.P o a w fun a' w'=>(D.d.W i=false->D.C w->D.C w')/\runT X.P D.d.ops D.d.W D.C (D.Q X) (l.map (·.1)) a' w':=by
  intro K p c1 hp Tn Ko bV hK;refine lX ?_ (Kn (mY uF.1 h.rel hp Tn));rintro a' w' ⟨⟨st',E',hk,hr,hs⟩,u,rfl⟩;refine ⟨fun hW=>Hu h hs hr (bV (.inr hW)),?_⟩;obtain ⟨gM,hg,ht0⟩:=hK st' hk;exact hG c1 gM st' hg E' _ w' (yJ h hs hr (fun hc=>Hu h hs hr (bV (.inl hc)) (h.cc (Ko hc))) ht0 uF.2)
 have Ml:(∀ t x y,o.op ≠ .store t x y)->∀ j,stObj st o.op=some j->D.E0.β.length<=j∨D.d.j8.bx[j]? = some []:=by simp_all [stObj]
 have QD:∀ (d:Nat) (st':St),o.dst=some d->∀ i x,get (s0.filter fun p=>!Nat.beq p.1 d) i=some x->(∃ d,o.dst=some d/\i=d/\scal x.s=true/\get st'.sl d=some x)∨(get s0 i=some x/\∀ d,o.dst=some d->i≠d):=by
  intro d st' sf i x hx;obtain ⟨h1,h2⟩:=get_filter d s0 i x hx
  grind
 unfold effE at he;split at he
 ·rename_i t x y hop;split at he
  ·exact he.elim
  ·rename_i sf;have uE:∀ st':St,∀ i x,get s0 i=some x->(∃ d,o.dst=some d/\i=d/\scal x.s=true/\get st'.sl d=some x)∨(get s0 i=some x/\∀ d,o.dst=some d->i≠d):=fun st' i x hx=>.inr ⟨hx,fun d hd=>by rw [sf] at hd;cases hd⟩;split at he
   ·rename_i hW
    cases hp:effC X st o (G false s0) with
    | none=>rw [hp] at he;exact he.elim
    | some p=>
     rw [hp] at he;exact core _ p false hp he (by intro h;cases h) (by rintro (h1 | h1);cases h1;rw [hW] at h1;cases h1) fun st' hk=>⟨s0,hk,uE st'⟩
   ·split at he
    ·rename_i j hj;split at he
     ·rename_i lk
      have lk:D.d.j8.bx.length<=j∨D.d.j8.bx[j]? = some []:=by
       rcases Bool.or_eq_true _ _ |>.mp lk with h1 | h1
       ·exact .inl (sU h1)
       ·exact .inr (Kl h1)
      cases hp:effC X st o (G c s0) with
      | none=>rw [hp] at he;exact he.elim
      | some p=>
       rw [hp] at he;exact core _ p c hp he id (fun _ j' jf=>by rw [hj] at jf;cases jf;rw [hlen];exact lk) fun st' hk=>⟨s0,hk,uE st'⟩
     ·exact he.elim
    ·exact he.elim
 ·rename_i cl hop;split at he
  ·rename_i f QE;split at he
   ·rename_i g first captured vs hf BI
    obtain ⟨fN,Hv⟩:=he;have kS:=h.rel.rl;have e1:=aW kS hf;unfold Rv at e1;obtain ⟨l1,r1,e1,qh,hr1⟩:=e1;have hargs:=gd kS (aV _) _ _ BI;obtain ⟨dst,op,ty,pos,after,gu⟩:=o;obtain ⟨callee,args,argTypes⟩:=cl;simp only at hop QE;subst hop QE
    have hr:(execOp a.eval ⟨dst,.call ⟨.value f,args,argTypes⟩,ty,pos,after,gu⟩).run X.P w = .ok (.enter g (l1 ++ args.toList.map a.eval ++ r1).toArray) w:=by
     have e3:(l1.toArray ++ args.map a.eval ++ r1.toArray)=(l1 ++ args.toList.map a.eval ++ r1).toArray:=by apply Array.ext';simp
     simp only [execOp,resolve,e1,Deferred.ofValue,Sem.run_bind,Sem.run_pure,Result.andThen_ok,invoke,e3];exact fN _ _
    unfold wq;rw [hr];exact Hv hl D.E0 D.wr hD E a w _ h ((qh.append hargs).append hr1)
   ·exact he.elim
  ·split at he
   ·rename_i d sf
    cases hp:effC X st o (fun st'=>delF d s0 fun gM=>G c gM st') with
    | none=>rw [hp] at he;exact he.elim
    | some p=>
     rw [hp] at he;refine core _ p c hp he id (fun _=>Ml (fun t x y h1=>by rw [hop] at h1;cases h1)) fun st' hk=>?_;rw [om] at hk;exact ⟨_,hk,QD d st' sf⟩
   ·exact he.elim
 ·rename_i Kp uC;split at he
  ·rename_i d sf
   cases hp:effC X st o (fun st'=>
    match get st'.sl d with
    | some ⟨[],.loc j off⟩=>G c ((d,⟨[],.loc j off⟩) :: s0) st'
    | _=>delF d s0 fun gM=>G c gM st') with
   | none=>rw [hp] at he;exact he hl D.E0 D.wr hD E a w h
   | some p=>
    rw [hp] at he;refine core _ p c hp he id (fun _=>Ml Kp) fun st' hk=>?_;split at hk
    ·rename_i j off hg;refine ⟨_,hk,fun i x hx=>?_⟩;simp only [dF] at hx;split at hx
     ·rename_i G6;simp only [oI] at hx;subst hx;exact .inl ⟨d,sf,G6.symm,rfl,hg⟩
     all_goals grind
    ·rw [om] at hk;exact ⟨_,hk,QD d st' sf⟩
  ·exact he.elim
theorem iw (hD:qT D.E0 D.d.j8.bx D.wr):∀ n c l s0 st,goD X D.d n c l s0 st->(∀ p∈l,D.d.ops[p.1]? = some p.2)->∀ E a w,fx X D c E s0 st a w->runT X.P D.d.ops D.d.W D.C (D.Q X) (l.map (·.1)) a w
 | n,c,[],s0,st,hg,hl=>by
  intro E a w h;have hg:(match D.d.fin with | none=>go X 4000 D.d.k st | some F=>F c s0 st):=by cases n<;>simpa only [goD] using hg
  show D.Q X a w;unfold Dw.Q
  cases hf:D.d.fin with
  | none=>
   rw [hf] at hg;exact go_sound 4000 _ _ hg E a w h.rel
  | some F=>
   rw [hf] at hg;exact ⟨c,E,s0,st,h,hg⟩
 | 0,c,_ :: _,s0,st,hg,_=>by exact hg.elim
 | n + 1,c,(i,o) :: r,s0,st,hg,hl=>by
  intro E a w h;have ho:D.d.ops[i]? = some o:=hl (i,o) (by simp);have BI:∀ p∈r,D.d.ops[p.1]? = some p.2:=fun p hp=>hl p (eB _ hp);simp only [List.map_cons];have ih:∀ c s0 st,goD X D.d n c r s0 st->∀ E a w,fx X D c E s0 st a w->runT X.P D.d.ops D.d.W D.C (D.Q X) (r.map (·.1)) a w:=fun c s0 st hg=>iw hD n c r s0 st hg BI;have ihG:QC X D (r.map (·.1)) (fun c s0 st=>goD X D.d n c r s0 st):=fun c s0 st hg=>ih c s0 st hg;simp only [goD,Ds,wU] at hg;split at hg
  ·exact hg.elim
  ·rename_i hd
   have fR:∀ (v:Value) gM st',isE o.op=false->Yl X.P D.d.ops D.C o v a->(isL o.op=true->c=true)->goD X D.d n c r gM st' -> fx X D c E gM st' (a.put o.dst v) w ->
     runT X.P D.d.ops D.d.W D.C (D.Q X) (i :: r.map (·.1)) a w:=by
    intro v gM st' hE hy fB xf cO;simp only [runT,ho];rw [af (by simp [hE])];exact ⟨v,hy,fun hL=>h.cc (fB hL),ih c gM st' xf E _ w cO⟩
   have fS:∀ gM st',isE o.op=true->Region.wanted o (yielded D.d.ops a.tmps)=false->goD X D.d n c r gM st' -> fx X D c E gM st' (a.put o.dst undef) w ->
     runT X.P D.d.ops D.d.W D.C (D.Q X) (i :: r.map (·.1)) a w:=by
    intro gM st' hE hw xf cO;simp only [runT,ho];rw [aj hE];unfold dC;rw [af (by simp [hw])];exact ⟨fun _ h=>h,ih c gM st' xf E _ w cO⟩
   have fE:∀ gM st',isE o.op=true->Region.wanted o (yielded D.d.ops a.tmps)=true->(eZ X.nt st'.sl o.dst && eZ X.nt gM o.dst)=true->effE X D.d c i r o gM st' (fun c' gM st'=>goD X D.d n c' r gM st')->fx X D c E gM st' a w ->
     runT X.P D.d.ops D.d.W D.C (D.Q X) (i :: r.map (·.1)) a w:=by
    intro gM st' hE hw uF he cO;simp only [runT,ho];rw [aj hE];unfold dC;rw [aj hw];exact BN hD BI ihG uF cO he
   have fP:∀ gM st',Region.wanted o (yielded D.d.ops a.tmps)=true->(eZ X.nt st'.sl o.dst && eZ X.nt gM o.dst)=true->optP (eR X D.d c gM st' o.op fun b s=>put2 gM st' o.dst b [] s (goD X D.d n c r))->fx X D c E gM st' a w ->
     runT X.P D.d.ops D.d.W D.C (D.Q X) (i :: r.map (·.1)) a w:=by
    intro gM st' hw uF he cO;obtain ⟨hE,fB,b,s,v,hk,hv,mT,cf⟩:=Ht hD cO he;obtain ⟨s1,sg,vd,eu⟩:=iK cO uF b [] s v (fun _ _ p hp=>by cases hp) (fun _=>hv) (fun hb _=>mT hb) (fun hn=>(hn (aV _)).elim) hk;exact fR v s1 sg hE (.inl ⟨hw,cf⟩) fB vd eu
   have WR:∀ gM st',(eZ X.nt st'.sl o.dst && eZ X.nt gM o.dst)=true->fx X D c E gM st' a w->put2 gM st' o.dst true [] .ud (goD X D.d n c r)->∃ s1 sg,goD X D.d n c r s1 sg/\fx X D c E s1 sg (a.put o.dst undef) w:=by
    intro gM st' uF cO hk;exact iK cO uF true [] .ud undef (fun _ _ p hp=>by cases hp) (fun _=>qd E) (fun _ _=>qd _) (fun hn=>(hn (aV _)).elim) hk
   split at hg
   ·rename_i Ki;have hw:Region.wanted o (yielded D.d.ops a.tmps)=true:=by simp [Region.wanted,Ki]
    split at hg
    ·rename_i hE;exact fE s0 st hE hw hd hg h
    ·split at hg
     ·rename_i b s hs;obtain ⟨hE,fB,v,hv,mT,cf⟩:=yI hD h (aV _) hs;obtain ⟨s1,sg,vd,eu⟩:=iK h hd b [] s v (fun _ _ p hp=>by cases hp) (fun _=>hv) (fun hb _=>mT hb) (fun hn=>(hn (aV _)).elim) hg;exact fR v s1 sg hE (.inl ⟨hw,cf⟩) fB vd eu
     ·exact fP s0 st hw hd hg h
   ·rename_i j want Ki;split at hg
    ·exact hg.elim
    ·rename_i d EZ;split at hg
     ·exact hg.elim
     ·rename_i j7 sd NS;have rV:=wanted_spec h.rel Ki EZ NS;have BO:¬ Holds a.tmps ((d,want) :: j7)->Region.wanted o (yielded D.d.ops a.tmps)=false:=by grind
      split at hg
      ·rename_i b s hs;split at hg
       case h_2=>exact hg.elim
       rename_i kp;have QF:=rU kp;by_cases hh:Holds a.tmps ((d,want) :: j7)
       ·obtain ⟨hE,fB,v,hv,mT,cf⟩:=yI hD h hh hs;obtain ⟨s1,sg,vd,eu⟩:=iK h hd b _ s v QF (fun _=>hv) (fun hb _=>mT hb) (fun hn=>(hn hh).elim) hg;exact fR v s1 sg hE (.inl ⟨rV.2 hh,cf⟩) fB vd eu
       ·obtain ⟨s1,sg,vd,eu⟩:=iK h hd b _ s undef QF (fun hn=>(hh hn).elim) (fun _ hn=>(hh hn).elim) (fun _=>rfl) hg;have fB:isE o.op=false/\(isL o.op=true->c=true):=by grind [pR]
        exact fR undef s1 sg fB.1 (.inr ⟨BO hh,rfl⟩) fB.2 vd eu
      ·split at hg
       ·rename_i b nT;have ht0:=yB h.rel nT
        cases j7 with
        | nil=>
         simp only [lastG] at nT ht0;cases Bc:(b == want)
         ·have BF:b = !want:=by cases b<;>cases want<;>simp_all
          have hg:=hg.f Bc
          have hn:Region.wanted o (yielded D.d.ops a.tmps)=false:=by
           refine BO fun hh=>?_;have:=hh (d,want) (by simp)
           grind
          have hr:=ku (d:=d) (b:=!want) h (by rw [ht0,BF]);split at hg
          ·rename_i fB
           have N8:isL o.op=true->c=true:=by
            intro hL;simpa [hL] using fB
           obtain ⟨s1,sg,vd,eu⟩:=WR _ _ (oo hd) hr hg;cases hE:isE o.op
           ·exact fR undef s1 sg hE (.inr ⟨hn,rfl⟩) N8 vd eu
           ·exact fS s1 sg hE hn vd eu
          ·exact hg.elim
         ·have mF:b=want:=sU Bc;have hg:=hg.t Bc
          grind [iF,aV,ku,oo]
        | cons g1 gr=>
         have key:∀ e,a.tmps[(lastG (d,want) (g1 :: gr)).1]? = some (.bool e)->goD X D.d n c ((i,o) :: r) (s0.map (bT (lastG (d,want) (g1 :: gr)).1 e)) (st.resolve (lastG (d,want) (g1 :: gr)).1 e)->_:=
          fun e yr xf=>iw hD n c ((i,o) :: r) _ _ xf hl E a w (ku h yr)
         cases Bc:(b == (lastG (d,want) (g1 :: gr)).2)
         ·have hg:=hg.f Bc;have BF:b = !(lastG (d,want) (g1 :: gr)).2:=by cases b<;>cases h0:(lastG (d,want) (g1 :: gr)).2<;>simp_all
          exact key _ (by rw [ht0,BF]) hg
         all_goals simp_all
       ·rename_i nT
        cases j7 with
        | nil=>
         have ht0:=Hh h.rel nT;simp only [lastG] at ht0
         have hn:Region.wanted o (yielded D.d.ops a.tmps)=false:=by
          refine BO fun hh=>?_;have:=hh (d,want) (by simp);simp only at this;rw [ht0] at this;simp [undef] at this
         simp only at hg;split at hg
         ·rename_i fB
          have N8:isL o.op=true->c=true:=by
           intro hL;simpa [hL] using fB
          obtain ⟨s1,sg,vd,eu⟩:=WR _ _ hd h hg;cases hE:isE o.op
          ·exact fR undef s1 sg hE (.inr ⟨hn,rfl⟩) N8 vd eu
          ·exact fS s1 sg hE hn vd eu
         ·exact hg.elim
        | cons g1 gr=>exact hg.elim
       ·exact hg.elim
def WS (X:Ctx) (o:Oper) (st st':St):Prop:=∀ E a w,Rel X E st a w->wq X.P o a w fun a' w'=>∃ E',Rel X E' st' a' w' /\ DC none E w E' w'
def nOps:Nat->List Oper->List (Nat × Oper)
 | _,[]=>[]
 | i,o :: r=>(i,o) :: nOps (i + 1) r
theorem si:∀ (l:List Oper) (i:Nat) (p:Nat × Oper),p∈nOps i l->i<=p.1/\l[p.1 - i]? = some p.2
 | [],_,_,h=>by cases h
 | o :: r,i,p,h=>by
  rcases fp h with h | h
  ·subst h;simp
  ·have:=si r (i + 1) p h
   grind
theorem sj:∀ (l:List Oper) (i:Nat),(nOps i l).map (·.1)=List.range' i l.length
 | [],_=>rfl
 | o :: r,i=>by simp only [nOps,List.map_cons,sj r (i + 1),List.length_cons,List.range'_succ]
theorem BP (hr:Rel X E st a w) {ops:Array Oper} {W:Nat->Bool} {k:List It}:fx X ⟨⟨ops,W,k,st,none⟩,E,w⟩ true E st.sl st a w where
 rel:=hr
 x:=Ext.refl E
 β:=⟨[],by simp⟩
 t0:=hr.tm
 cc:=fun _=>⟨fun _ _ _ _ _ _=>rfl,hr.env.sub⟩
theorem xm {id:Nat} {ops:Array Oper} {k:List It} {st:St} (W:Nat->Bool) (hm:X.P.follows .mixedOrders=true) (hc:BJ ops W=true)
  (h:goD X ⟨ops,W,k,st,none⟩ 3000 true (nOps 0 ops.toList) st.sl st):rH X id ops k st:=by
 intro E a w hr;have Bd:=n9 hr;have hs:=BP Bd (ops:=ops) (W:=W) (k:=k);refine mH (C:=CC E st.bx w.drew) (W:=W) (Q:=kq X k .normal) hm hc (fun a w h=>h) (hs.cc rfl) ?_;have:=iw (D:=⟨⟨ops,W,k,st,none⟩,E,w.drew⟩) Bd.env.em 3000 true _ _ _ h (fun p hp=>by simpa using (si _ _ p hp).2) E a w.drew hs;rw [sj] at this;rw [List.range_eq_range'];simp only [Array.length_toList] at this;exact this
def maskL:List Nat->Nat->List (List DV)->List (List DV)
 | _,_,[]=>[]
 | m,i,cs :: r=>(match m.contains i with | true=>[] | false=>cs) :: maskL m (i + 1) r
theorem py (m:List Nat):∀ (l:List (List DV)) (i:Nat),(maskL m i l).length=l.length
 | [],_=>rfl
 | cs :: r,i=>by simp [maskL,py m r]
theorem pz (m:List Nat):∀ (l:List (List DV)) (i j:Nat) cs,(maskL m i l)[j]? = some cs->cs=[]∨l[j]? = some cs
 | [],_,_,_,h=>by simp [maskL] at h
 | c :: r,i,0,cs,h=>by grind [maskL]
 | c :: r,i,j + 1,cs,h=>by
  simp only [maskL,List.getElem?_cons_succ] at h ⊢;exact pz m r (i + 1) j cs h
theorem cz {id:Nat} {ops:Array Oper} {k:List It} {st:St} (m:List Nat) (W:Nat->Bool) (hm:X.P.follows .mixedOrders=true) (hc:BJ ops W=true)
  (h:goD X ⟨ops,W,k,⟨st.sl,maskL m 0 st.bx,st.tk⟩,none⟩ 3000 true (nOps 0 ops.toList) st.sl st):rH X id ops k st:=by
 intro E a w hr;have Bd:=n9 hr;have hs:fx X ⟨⟨ops,W,k,⟨st.sl,maskL m 0 st.bx,st.tk⟩,none⟩,E,w.drew⟩ true E st.sl st a w.drew:=⟨Bd,Ext.refl E,⟨[],by simp⟩,Bd.tm,fun _=>⟨fun _ _ _ _ _ _=>rfl,Bd.env.sub⟩⟩;refine mH (C:=CC E (maskL m 0 st.bx) w.drew) (W:=W) (Q:=kq X k .normal) hm hc (fun a w h=>h) (hs.cc rfl) ?_
 have N9:qT E (maskL m 0 st.bx) w.drew:=⟨by rw [py];exact Bd.env.len,fun i cs hi bM=>by
  rcases pz m _ _ _ _ hi with h1 | h1
  ·exact (bM h1).elim
  ·exact Bd.env.dQ i cs h1⟩
 have:=iw (D:=⟨⟨ops,W,k,⟨st.sl,maskL m 0 st.bx,st.tk⟩,none⟩,E,w.drew⟩) N9 3000 true _ _ _ h (fun p hp=>by simpa using (si _ _ p hp).2) E a w.drew hs;rw [sj] at this;rw [List.range_eq_range'];simp only [Array.length_toList] at this;exact this
def QG (ops:Array Oper) (i:Nat):Bool:=
 match ops.toList[i]? with
 | some o=>
  match o.op with
  | .store ..=>true
  | _=>false
 | none=>false
theorem Kq {id:Nat} {ops:Array Oper} {k:List It} {st:St} (hm:X.P.follows .mixedOrders=true) (hc:BJ ops (QG ops)=true)
  (h:goD X ⟨ops,QG ops,k,st,none⟩ 3000 true (nOps 0 ops.toList) st.sl st):rH X id ops k st:=xm (QG ops) hm hc h
theorem Kr {D:Dr} {f:FuncId} {args bE:List DV} {d:Nat} {r:List (Nat × Oper)} (fN:Enters X.P f) (hd:(eZ X.nt st.sl (some d) && eZ X.nt s0 (some d))=true) {Φ:DV->List (List DV)->List TkE->Prop} (hc:Ev X.P f bE [] [] Φ) (ha:CcL [] 0 0 0 bE args)
  (hk:∀ DJ,Φ DJ [] []->put2 s0 st (some d) false [] DJ (goD X D 3000 c r)) (bV:X.still=false:=by exact rfl):vc X D c i r f args (some d) s0 st:=by
 refine ⟨fN,fun hl E0 wr hD E a w vs h hv=>(qi h.rel bV hc ha hv).mono ?_⟩;rintro e w' ⟨v,E',DJ,rfl,cO,hr,hΦ,hm,hx,hβ⟩
 have hh:∀ b,b < w.heap.size->w'.heap[b]? = w.heap[b]?:=fun b hb=>hm.block b hb (by
  rintro (h1 | ⟨y,h1,_⟩)
  ·simp [En.cl] at h1
  ·simp [En.cl] at h1)
 have hs:DC none E w E' w':=⟨hx,⟨[],by rw [hβ];simp⟩,fun j b hb _=>hh b (h.rel.env.bu (mG hb))⟩;have hC:=Hu h hs cO (fun j hj=>by cases hj);refine ⟨v,rfl,fun _=>hC,?_⟩;have Hw:fx X ⟨D,E0,wr⟩ c E' s0 st (a.put none v) w':=yJ h hs cO (fun h1=>hC (h.cc h1)) (fun i x hx=>.inr ⟨hx,fun d hd=>by cases hd⟩) rfl;obtain ⟨s1,sg,vd,eu⟩:=iK Hw hd false [] DJ v (fun _ _ p hp=>by cases hp) (fun _=>hr) (fun hb=>by cases hb) (fun hn=>(hn (aV _)).elim) (hk DJ hΦ);exact iw (D:=⟨D,E0,wr⟩) hD 3000 c r _ _ vd hl E' _ w' eu
theorem Ks {D:Dr} {f:FuncId} {args bE:List DV} {d:Nat} {r:List (Nat × Oper)} {DJ:DV} (fN:Enters X.P f) (hc:cw X.P f bE DJ) (ha:CcL [] 0 0 0 bE args) (hd:(eZ X.nt st.sl (some d) && eZ X.nt s0 (some d))=true)
  (hk:put2 s0 st (some d) false [] DJ (goD X D 3000 c r)) (bV:X.still=false:=by exact rfl):vc X D c i r f args (some d) s0 st:=
 Kr fN hd hc ha (fun _ hr=>hr ▸ hk) bV
theorem BQ {D:Dr} {i:Nat} {f:FuncId} {args:List DV} {dst:Option Nat} (hW:D.W i=true) (h:CallG X f args dst D.k st) (hf:D.fin=none:=by exact rfl):vc X D c i [] f args dst s0 st:=by
 refine ⟨h.1,fun _ E0 wr _ E a w vs hr hv=>(h.2.2 E a w vs hr.rel hv).mono ?_⟩;intro e w' hq
 cases e with
 | returned v=>
  refine ⟨v,rfl,⟨(fun hw=>by rw [hW] at hw;cases hw),?_⟩⟩;show Dw.Q ⟨D,E0,wr⟩ X _ _;unfold Dw.Q;simp only [hf];exact hq
 | _=>exact hq.elim
end
end Dv
end Go.Proofs.YtfdedoiiahbnnaaGreat
namespace Go.Proofs.YtfdedoiiahbnnaaGreat
namespace Dv
open Go Go.RowKit
section
variable {P:Program} {ops:Array Oper} {C:World->Prop} {Q:Act->World->Prop} {W:Nat->Bool} {π π':Nat->Nat}
theorem Fg {o:Oper} {i:Nat} {a:Act} {w:World} {K:Act->World->Prop} {Q':Exit->Act->World->Prop} (ho:ops[i]? = some o) (h:dC P ops o a w K):wpOp P ops Q' i K a w:=by
 unfold wpOp
 grind [dC,G9]
end
def swp (i j k:Nat):Nat:=
 match Nat.beq k i with
 | true=>j
 | false=>
  match Nat.beq k j with
  | true=>i
  | false=>k
theorem kv (i j k:Nat):swp i j (swp i j k)=k:=by
 have hb:∀ a b:Nat,Nat.beq a b=decide (a=b):=fun a b=>by
  by_cases h:a=b
  ·subst h;simp
  ·rw [decide_eq_false h];cases h1:Nat.beq a b
   ·rfl
   ·exact (h (sU h1)).elim
 grind [swp]
mutual
def renD (f:Nat->Nat):DV->DV
 | .v x=>.v x
 | .ud=>.ud
 | .agg l=>.agg (renL f l)
 | .cp l=>.cp (renL f l)
 | .sl e es tk=>.sl e es tk
 | .pt cs o=>.pt cs o
 | .loc i o=>.loc (f i) o
 | .el i o=>.el (f i) o
 | .ms i e o l c=>.ms (f i) e o l c
 | .fn g l r=>.fn g (renL f l) (renL f r)
 | .nR t x=>.nR t (renD f x)
def renL (f:Nat->Nat):List DV->List DV
 | []=>[]
 | d :: r=>renD f d :: renL f r
end
def renS (f:Nat->Nat):List (Nat × Sl)->List (Nat × Sl)
 | []=>[]
 | (k,⟨gs,s⟩) :: r=>(k,⟨gs,renD f s⟩) :: renS f r
def renO (f:Nat->Nat):List (List DV)->List (List DV)
 | []=>[]
 | cs :: r=>renL f cs :: renO f r
def swL {α:Type} (i j:Nat) (l:List α):List α:=
 match l[i]?,l[j]? with
 | some a,some b=>(l.set i b).set j a
 | _,_=>l
def jK (i j:Nat) (S:St):St:=⟨renS (swp i j) S.sl,swL i j (renO (swp i j) S.bx),S.tk⟩
theorem sk (f:Nat->Nat):∀ (l:List (List DV)) (k:Nat),(renO f l)[k]? = (l[k]?).map (renL f)
 | [],k=>by simp [renO]
 | c :: r,0=>by simp [renO]
 | c :: r,k + 1=>by simp only [renO,List.getElem?_cons_succ];exact sk f r k
theorem dU (f:Nat->Nat):∀ (l:List (List DV)),(renO f l).length=l.length
 | []=>rfl
 | c :: r=>by simp [renO,dU f r]
theorem yK (f:Nat->Nat):∀ (l:List (Nat × Sl)) (k:Nat),get (renS f l) k=(get l k).map fun x=>⟨x.gs,renD f x.s⟩
 | [],k=>rfl
 | (i,⟨gs,s⟩) :: r,k=>by
  simp only [renS,dF];split
  ·rfl
  ·exact yK f r k
theorem eE {α:Type} (i j:Nat) (l:List α):(swL i j l).length=l.length:=by
 unfold swL;split<;>simp
theorem fg {α:Type} {i j:Nat} {l:List α} (hi:i < l.length) (hj:j < l.length) (k:Nat):(swL i j l)[k]? = l[swp i j k]?:=by
 have hb:∀ a b:Nat,Nat.beq a b=true↔a=b:=fun a b=>by simp
 grind [swL,swp]
theorem Kt {α:Type} {i j:Nat} {l:List α} (hi:i < l.length) (hj:j < l.length):swL i j (swL i j l)=l:=by
 apply List.ext_getElem?
 grind [fg,eE,kv]
section
variable {E:En} {i j:Nat}
mutual
theorem Rv.Fh (hi:i < E.β.length) (hj:j < E.β.length):∀ {d:DV} {v:Value},Rv E (renD (swp i j) d) v->Rv ⟨E.c,swL i j E.β,E.tk,E.τ⟩ d v
 | .v x,v,h=>by simp only [renD] at h;unfold Rv at h ⊢;exact h
 | .ud,v,h=>by simp only [renD] at h;unfold Rv at h ⊢;exact h
 | .sl e es tk,v,h=>by simp only [renD] at h;unfold Rv at h ⊢;exact h
 | .pt cs o,v,h=>by simp only [renD] at h;unfold Rv at h ⊢;exact h
 | .loc k o,v,h=>by grind [renD,Rv,swL,fg]
 | .el k o,v,h=>by grind [renD,Rv,swL,fg]
 | .ms k e o l c,v,h=>by grind [renD,Rv,swL,fg]
 | .agg l,v,h=>by
  simp only [renD] at h;unfold Rv at h ⊢;obtain ⟨vs,h1,h2,h3⟩:=h;exact ⟨vs,h1,RvL.Fh hi hj h2,h3⟩
 | .cp l,v,h=>by
  simp only [renD] at h;unfold Rv at h ⊢;obtain ⟨vs,h1,h2⟩:=h;exact ⟨vs,h1,RvL.Fh hi hj h2⟩
 | .fn g l r,v,h=>by
  simp only [renD] at h;unfold Rv at h ⊢;obtain ⟨l',r',h1,h2,h3⟩:=h;exact ⟨l',r',h1,RvL.Fh hi hj h2,RvL.Fh hi hj h3⟩
 | .nR t x,v,h=>by
  simp only [renD] at h;unfold Rv at h ⊢;obtain ⟨z,h1,h2⟩:=h;exact ⟨z,h1,Rv.Fh hi hj h2⟩
theorem RvL.Fh (hi:i < E.β.length) (hj:j < E.β.length):∀ {l:List DV} {vs:List Value},RvL E (renL (swp i j) l) vs->RvL ⟨E.c,swL i j E.β,E.tk,E.τ⟩ l vs
 | [],vs,h=>by simp only [renL,RvL] at h ⊢;exact h
 | d :: r,vs,h=>by
  simp only [renL,RvL] at h ⊢;obtain ⟨v,s,h1,h2,h3⟩:=h;exact ⟨v,s,h1,Rv.Fh hi hj h2,RvL.Fh hi hj h3⟩
end
end
theorem DK {α:Type} {i j:Nat} {l:List α} (hi:i < l.length) (hj:j < l.length) {x:α}:x∈swL i j l↔x∈l:=by grind [swL,fg,eE,Kt]
theorem Fi {i j:Nat} {l:List Nat} (hi:i < l.length) (hj:j < l.length) (h:l.Nodup):(swL i j l).Nodup:=by grind [swp,eE,swL,fg,kv]
section
variable {X:Ctx} {E:En} {S:St} {a:Act} {w:World} {i j:Nat}
theorem Hx (hX:X.bt=[]) (h:Rel X E (jK i j S) a w) (Ny:X.n0<=i) (E8:X.n0<=j) (hi:i < S.bx.length) (hj:j < S.bx.length):Rel X ⟨E.c,swL i j E.β,E.tk,E.τ⟩ S a w:=by
 have hlen:E.β.length=S.bx.length:=by
  rw [h.env.len];simp only [jK,eE,dU]
 have mw:i < E.β.length:=by rw [hlen];exact hi
 have jf:j < E.β.length:=by rw [hlen];exact hj
 have kT:∀ k,(jK i j S).bx[k]? = (S.bx[swp i j k]?).map (renL (swp i j)):=fun k=>by grind [jK,fg,dU,sk]
 exact {
  env:={
   len:=by rw [eE];exact hlen
   tl:=h.env.tl
   dQ:=fun k cs hk=>by
    obtain ⟨b,ty,arr,hb,hw,hc⟩:=h.env.dQ (swp i j k) (renL (swp i j) cs) (by rw [kT,kv,hk];rfl);exact ⟨b,ty,arr,by rw [fg mw jf];exact hb,hw,RvL.Fh mw jf hc.1,hc.2⟩
   inj:=Fi mw jf h.env.inj
   sub:=h.env.sub
   pc:=fun x v hx hm=>h.env.pc x v hx ((DK mw jf).1 hm)
   cN:=fun k q y hq hy=>by
    rcases h.env.cN k q y hq hy with h1 | ⟨g,cap,cur,rfl,h1,h2,h3,h4,h5,h6⟩
    ·exact .inl h1
    ·exact .inr ⟨g,cap,cur,rfl,h1,h2,h3,h4,fun hm=>h5 ((DK mw jf).1 hm),h6⟩
   gC:=h.env.gC }
  tk:=h.tk
  sz:=h.sz
  tm:=fun k x hx=>by
   have:=h.tm k ⟨x.gs,renD (swp i j) x.s⟩ (by simp only [jK];rw [yK,hx];rfl)
   grind [Rv.Fh]
  df:=h.df
  nw:={
   c:=h.nw.c
   cn:=h.nw.cn
   β:=by
    obtain ⟨r,hr,hl⟩:=h.nw.β;have PJ:X.E0.β.length=X.n0:=X.rF;refine ⟨(swL i j E.β).drop X.n0,?_,fun b hb=>?_⟩
    ·grind [swL,fg,swp]
    ·have hnd:=h.env.inj;obtain ⟨k,hk⟩:=List.mem_iff_getElem?.1 hb;rw [List.getElem?_drop,fg mw jf] at hk;have hge:X.n0<=swp i j (X.n0 + k):=by grind [swp]
     rw [hr,List.getElem?_append_right (by omega)] at hk;exact hl b (mG hk)
   tk:=h.nw.tk
   tn:=h.nw.tn
   l0:=h.nw.l0 }
  fr:=h.fr
  sh:=h.sh
  bt:=.nil hX }
end
def oq (sl:List (Nat × Sl)):List (Nat × Sl)->Prop
 | []=>True
 | p :: r=>get sl p.1=some p.2/\oq sl r
end Dv
end Go.Proofs.YtfdedoiiahbnnaaGreat
namespace Go.Proofs.YtfdedoiiahbnnaaGreat
namespace Dv
open Go Go.RowKit
section
variable {X:Ctx} {st:St} {k:List It} {E:En} {a:Act} {w:World}
noncomputable def En.Ku (E:En) (w:World):En:=⟨po E 0 w,[],[],[]⟩
theorem Kv {bx:List (List DV)} (h:Env E bx w):Env (E.Ku w) [] w where
 len:=rfl
 tl:=rfl
 dQ:=by simp
 inj:=List.nodup_nil
 sub:=fun x u hx=>by
  rcases dW hx with ⟨_,h1⟩ | h1
  ·exact h1
  ·exact h.sub x u h1
 pc:=by simp [En.Ku]
 cN:=by simp [En.Ku]
 gC:=by simp [En.Ku]
theorem Kw {bx:List (List DV)} (h:Env E bx w):GM E (E.Ku w) bx 0 where
 c:=fun x u hx=>kr h hx
 fz:=fun i cs hi cr=>by
  obtain ⟨b,ty,arr,hb,hw,hc⟩:=h.dQ i cs cr;refine ⟨b,arr,hb,hc,fun j u hj=>?_⟩;show po E 0 w ⟨b,j,none⟩=some u;unfold po;rw [aj ⟨i,hi,hb⟩,cJ hw];simpa using hj
theorem ou {P:Program} {s:Bool} {bx:List (List DV)} (h:Env E bx w) {f:FuncId} {args bE:List DV} {vs:List Value} {y:DV} (hc:PC s P f bE [] [] fun d _ _=>d=y) (ha:CcL bx 0 0 0 bE args) (hv:RvL E args vs) :
  Calls P f vs.toArray w fun e w'=>∃ v E2,e = .returned v/\Rv E2 y v/\nW (fun _=>False) w w' /\ (s=true->∃ q,w'=w.drewN q):=by
 have Nr:RvL (E.Ku w) bE vs:=CcL.sound (Kw h) (DD.zero _ _) ha hv;refine (hc (E.Ku w) w vs (Kv h) rfl Nr).mono ?_;rintro e w' ⟨v,rfl,hm,hs,d,os,E2,he,hβ,fl,hn,NU,rfl⟩;refine ⟨v,E2,rfl,NU,⟨hm.os,hm.tape,hm.output,hm.size,fun i hi _=>hm.block i hi ?_⟩,hs⟩;rintro (h1 | ⟨y,h1,_⟩)
 ·simp [En.Ku] at h1
 ·simp [En.Ku] at h1
theorem Oa {f:FuncId} {args bE:List DV} {d:Nat} {y:Value} (fN:Enters X.P f) (hc:cw X.P f bE (.v y)) (ha:CcL st.bx 0 0 0 bE args) (hd:eZ X.nt st.sl (some d)=true)
  (hk:go X 4000 k ⟨(d,⟨[],.v y⟩) :: st.sl,st.bx,st.tk⟩) (bV:X.still=false:=by exact rfl):CallG X f args (some d) k st:=by
 refine ⟨fN,bV,fun E a w vs h hv=>(ou h.env hc ha hv).mono ?_⟩;rintro e w' ⟨v,E2,rfl,hr,hm,_⟩;have hh:∀ i,i < w.heap.size->w'.heap[i]? = w.heap[i]?:=fun i hi=>hm.block i hi (fun h=>h);have cO:Rel X E st a w':=dt h (Ext.refl E) (h.env.jo hh) h.tk h.nw (h.fr.ct hm.os hm.tape hm.output hm.size fun i hi=>.inr (hh i hi)) (my bV) (h.bt.jo fun b hb=>hh b (h.env.bu hb));unfold Rv at hr;exact go_sound 4000 _ _ hk E _ w' (bF cO hd (.v y) v (by unfold Rv;exact hr))
end
end Dv
end Go.Proofs.YtfdedoiiahbnnaaGreat
namespace Go.Proofs.YtfdedoiiahbnnaaGreat
namespace Dv
open Go Go.RowKit
def Kx (bx:List (List DV)) (N m:Nat) (sl:List (Nat × Sl)):List (Nat × Sl)->Prop
 | []=>True
 | p :: r=>(∃ x,get sl p.1=some ⟨p.2.gs,x⟩/\Cc bx N N m p.2.s x)/\Kx bx N m sl r
theorem ve {bx:List (List DV)} {N m:Nat} {sl:List (Nat × Sl)}:∀ {l:List (Nat × Sl)},Kx bx N m sl l->∀ i x',get l i=some x' -> ∃ x,get sl i=some ⟨x'.gs,x⟩/\Cc bx N N m x'.s x
 | [],_,i,x',hx=>by cases hx
 | (k,y) :: r,h,i,x',hx=>by
  simp only [dF] at hx;split at hx
  ·rename_i xZ;subst xZ;simp only [oI] at hx;subst hx;exact h.1
  ·exact ve h.2 i x' hx
section
variable {X:Ctx} {E:En} {st st':St} {a:Act} {w:World} {k:List It}
theorem Ky (h:Rel X E st a w) (N:Nat) (hN:X.n0<=N) (hNl:N<=st.bx.length) (kT:ki st.bx N N st.tk.length st'.bx (st.bx.take N)) (fl:st'.tk=st.tk) (Bb:Kx st.bx N st.tk.length st.sl st'.sl):∃ E',Rel X E' st' a w:=by
 obtain ⟨r,NP,Uw⟩:=h.nw.β;have hlen:E.β.length=st.bx.length:=h.env.len
 have dn:∀ (i:Nat) b,X.n0<=i->E.β[i]? = some b->b∈r:=fun i b hi hb=>by
  rw [NP,List.getElem?_append_right (by rw [X.rF];exact hi)] at hb;exact mG hb
 let E':En:=⟨po E N w,E.β.take N,E.tk,E.τ⟩
 have Kf:GM E E' st.bx N:={
  c:=fun x u hx=>kr h.env hx
  fz:=fun i cs hi cr=>by
   obtain ⟨b,ty,arr,hb,hw,hc⟩:=h.env.dQ i cs cr;refine ⟨b,arr,hb,hc,fun j u hj=>?_⟩;show po E N w ⟨b,j,none⟩=some u;unfold po;rw [aj ⟨i,hi,hb⟩,cJ hw]
   simpa using hj }
 have xi:DD E E' N st.tk.length:={
  β:=fun i b hi hb=>by show (E.β.take N)[i]? = _;rw [cC,aj hi];exact hb
  tk:=fun k hk=>⟨rfl,rfl⟩ }
 have NQ:∀ (i:Nat) b,N<=i->E.β[i]? = some b->b ∉ E.β.take N:=fun i b hi hb hm=>by
  obtain ⟨j,hj⟩:=List.getElem?_of_mem hm;rw [cC] at hj;split at hj
  ·rename_i hjN;have:=(List.getElem?_inj (gS hb).1 h.env.inj).1 (hb.trans hj.symm);omega
  ·cases hj
 obtain ⟨Kg,Qq⟩:=kT.get;refine ⟨E',?_⟩
 exact {
  env:={
   len:=by grind
   tl:=h.env.tl
   dQ:=fun i cs' hi=>by
    obtain ⟨cs,cr,rR⟩:=Qq i cs' hi;rw [cC] at cr;split at cr
    ·rename_i aS;obtain ⟨b,ty,arr,hb,hw,hc⟩:=h.env.dQ i cs cr;exact ⟨b,ty,arr,xi.β i b aS hb,hw,CcL.sound Kf xi rR hc.1,hc.2⟩
    ·cases cr
   inj:=h.env.inj.sublist (List.take_sublist _ _)
   sub:=fun x u hx=>by
    rcases dW hx with ⟨_,h1⟩ | h1
    ·exact h1
    ·exact h.env.sub x u h1
   pc:=fun x u hx hm=>by
    rcases dW hx with ⟨⟨i,hi,hb⟩,_⟩ | h1
    ·exact NQ i _ hi hb hm
    ·exact h.env.pc x u h1 (List.mem_of_mem_take hm)
   cN:=fun k q y hq hy=>by
    rcases h.env.cN k q y hq hy with h1 | ⟨g,cap,cur,rfl,h1,h2,h3,h4,h5,h6⟩
    ·exact .inl h1
    ·refine .inr ⟨g,cap,cur,rfl,h1,⟨h2.1,h2.2.mono fun _ _ hx=>kr h.env hx⟩,h3,h4,fun hm=>h5 (List.mem_of_mem_take hm),fun x u hx hg=>?_⟩;rcases dW hx with ⟨⟨i,hi,hb⟩,_⟩ | h7
     all_goals grind
   gC:=h.env.gC }
  tk:=by rw [fl];exact h.tk
  sz:=h.sz
  tm:=fun i x' uW=>by
   obtain ⟨x,hx,rR⟩:=ve Bb i x' uW;have:=h.tm i _ hx
   grind [Cc.sound]
  df:=h.df
  nw:={
   c:=fun x u hx=>kr h.env (h.nw.c x u hx)
   cn:=fun x u hx=>by
    rcases dW hx with ⟨⟨i,hi,hb⟩,_⟩ | h1
    ·grind
    ·exact h.nw.cn x u h1
   β:=by
    refine ⟨r.take (N - X.n0),?_,fun b hb=>Uw b (List.mem_of_mem_take hb)⟩;show E.β.take N=_;rw [NP,List.take_append,List.take_of_length_le (by rw [X.rF];omega),X.rF]
   tk:=h.nw.tk
   tn:=h.nw.tn
   l0:=h.nw.l0 }
  fr:=h.fr
  sh:=h.sh
  bt:=h.bt.sub _ }
theorem Hy {c:Code} (N:Nat) (sg:St) (hN:Nat.ble X.n0 N=true) (hNl:Nat.ble N st.bx.length=true) (fl:sg.tk=st.tk) (kT:ki st.bx N N st.tk.length sg.bx (st.bx.take N)) (Bb:Kx st.bx N st.tk.length st.sl sg.sl)
  (hk:rG X c k sg):rG X c k st:=by
 intro E a w h;obtain ⟨E',h'⟩:=Ky h N (nL hN) (nL hNl) kT fl Bb;exact hk E' a w h'
theorem lZ {n0 m0:Nat} {st st':St} (n:Nat) (q:TkE) (hq:q.new=true) (hn:Nat.ble n st.bx.length=true) (h3:st.tk ++ [q]=st'.tk) (h2:WeLL n st.tk.length st'.tk (st.bx.take n) st'.bx) (h4:Nat.ble n0 n=true) (h5:Nat.ble m0 st.tk.length=true)
  (h:jJ n st.tk.length st'.tk st.sl st'.sl):nb n0 m0 st st':=by
 have hl:(st.bx.take n).length=n:=by simp_all
 exact ⟨st.tk,[],[q],st.bx.take n,st.bx.drop n,by simpa using h5,by rw [hl];simpa using h4,by simp,h3.symm,by simpa using hq,(List.take_append_drop n st.bx).symm,by rw [hl];exact h2,by rw [hl];exact h⟩
end
end Dv
end Go.Proofs.YtfdedoiiahbnnaaGreat
namespace Go.Proofs.YtfdedoiiahbnnaaGreat
namespace Dv
open Go Go.RowKit
section
variable {X:Ctx} {st:St} {k:List It} {E:En} {a:Act} {w:World}
theorem lu {f:FuncId} {rest Hz cs cs':List DV} {i d:Nat} (fN:Enters X.P f) (hd:eZ X.nt st.sl (some d)=true) (kT:st.bx[i]? = some cs) (cr:CcL [] 0 0 0 cs' cs) (ha:CcL [] 0 0 0 Hz rest)
  {Φ:DV->List (List DV)->List TkE->Prop} (hc:Ev X.P f (.loc 0 0 :: Hz) [cs'] [] Φ) (fB:∀ r os tk,Φ r os tk->clB 0 0 r=true/\∀ ql∈os,clB.clL 0 0 ql=true)
  (hk:∀ r ql,Φ r [ql] []->go X 4000 k ⟨(d,⟨[],r⟩) :: st.sl,st.bx.set i ql,st.tk⟩) (bV:X.still=false:=by exact rfl) (hX:X.bt=[]:=by exact rfl):CallG X f (.loc i 0 :: rest) (some d) k st:=by
 refine ⟨fN,bV,fun E a w vs h hv=>?_⟩;simp only [RvL] at hv;obtain ⟨v1,vr,rfl,h1,hvr⟩:=hv;unfold Rv at h1;obtain ⟨b,hb,rfl⟩:=h1;obtain ⟨b',ty,arr,dZ,hw,rR⟩:=h.env.dQ i cs kT;rw [hb] at dZ;simp only [oI] at dZ;subst dZ;have yd:b∈E.β:=mG hb;have Ob:=h.env.bu yd
 let E1:En:=⟨E.c,[b],[],[]⟩
 have hx1:Ext E.cl E1:=⟨fun _ _ h=>h,fun j b hj=>by simp [En.cl] at hj,fun k q hk=>by simp [En.cl] at hk⟩;have hfz:GM E E.cl [] 0:=⟨fun _ _ h=>h,fun i cs _ hi=>by simp at hi⟩
 have QH:Env E1 [cs'] w:={
  len:=rfl
  tl:=rfl
  dQ:=fun j Kz hj=>by
   cases j with
   | succ j=>simp at hj
   | zero=>
    simp only [List.getElem?_cons_zero,oI] at hj;subst hj;refine ⟨b,ty,arr,rfl,hw,RvL.mono hx1 (CcL.sound hfz (DD.zero _ _) cr rR.1),rR.2⟩
  inj:=by simp [E1]
  sub:=h.env.sub
  pc:=fun x v hx hm=>by
   simp only [E1,List.mem_singleton] at hm;exact h.env.pc x v hx (by rw [hm];exact yd)
  cN:=by simp [E1]
  gC:=by simp [E1] }
 have xY:RvL E1 (.loc 0 0 :: Hz) (.pointer (some ⟨b,0,none⟩) :: vr):=rvL_cons (by unfold Rv;exact ⟨b,rfl,rfl⟩) (RvL.mono hx1 (CcL.sound hfz (DD.zero _ _) ha hvr));refine (hc E1 w _ QH rfl xY).mono ?_;rintro e w' ⟨v,rfl,hm,_,r,os,E2,he,hβ,fl,hn,NU,hΦ⟩;have ht0:E2.tk=[]:=List.eq_nil_of_length_eq_zero fl;rw [ht0] at hΦ
 obtain ⟨ql,rfl⟩:∃ ql,os=[ql]:=by
  have:=he.len;rw [hβ] at this
  match os,this with
  | [x],_=>exact ⟨x,rfl⟩
 obtain ⟨UG,UH⟩:=fB _ _ _ hΦ
 have hh:∀ j,j < w.heap.size->j≠b->w'.heap[j]? = w.heap[j]?:=fun j hj bM=>hm.block j hj (by
  rintro (h1 | ⟨y,h1,_⟩)
  ·simp only [E1,List.mem_singleton] at h1;exact bM h1
  ·simp [E1] at h1)
 have dn:∀ x v,E2.c x=some v->E.c x=some v∨w.heap.size<=x.block:=fun x v hx=>by
  rcases hn.cn x v hx with h1 | h1 | ⟨y,h1,_⟩
  ·exact .inl h1
  ·exact .inr h1
  ·simp [E1] at h1
 let E':En:=⟨E2.c,E.β,E.tk,E.τ⟩
 have hx:Ext E E':=⟨hn.c,fun _ _ h=>h,fun _ q h=>⟨q,h,.inl ⟨rfl,rfl⟩⟩⟩;have Be:Ext (E2.cut 0 0) E':=⟨fun _ _ h=>h,fun j b hj=>by simp [En.cut] at hj,fun k q hk=>by simp [En.cut] at hk⟩
 have cO:Rel X E' ⟨st.sl,st.bx.set i ql,st.tk⟩ a w':=by
  refine dt h hx ?_ h.tk ?_ (h.fr.ct hm.os hm.tape hm.output hm.size fun j hj=>?_) (my bV) (.nil hX)
  ·exact {
    len:=by rw [List.length_set];exact h.env.len
    tl:=h.env.tl
    dQ:=fun j Kz hj=>by
     by_cases NI:j=i
     ·subst NI;rw [iD (gS kT).1] at hj;simp only [oI] at hj;subst hj;obtain ⟨b2,UI,Oc,jr,kQ,rK⟩:=he.dQ 0 ql rfl;rw [hβ] at jr;simp only [E1,List.getElem?_cons_zero,oI] at jr;subst jr;exact ⟨b,UI,Oc,hb,kQ,RvL.mono Be (RvL.cut rK.1 (UH ql (by simp))),rK.2⟩
     ·rw [List.getElem?_set_ne (Ne.symm NI)] at hj;obtain ⟨bj,UJ,Od,Mm,QI,NA⟩:=h.env.dQ j Kz hj
      have bM:bj≠b:=by
       rintro rfl;exact NI ((List.getElem?_inj (gS Mm).1 h.env.inj).1 (Mm.trans hb.symm))
      exact ⟨bj,UJ,Od,Mm,by rw [hh bj (cV QI) bM];exact QI,NA.mono hx⟩
    inj:=h.env.inj
    sub:=he.sub
    pc:=fun x v hc lf=>by
     rcases dn x v hc with h1 | h1
     ·exact h.env.pc x v h1 lf
     ·have:=h.env.bu lf;omega
    cN:=fun k q y hq hy=>by
     rcases h.env.cN k q y hq hy with h1 | ⟨g',cap,cur,rfl,h1,h2,h3,h4,h5,h6⟩
     ·exact .inl h1
     ·refine .inr ⟨g',cap,cur,rfl,by rw [hh g' (cV h1) (fun e=>h5 (by rw [e];exact yd))];exact h1,⟨h2.1,h2.2.mono hn.c⟩,h3,h4,h5,fun x v hc hg=>?_⟩;rcases dn x v hc with h7 | h7
      ·exact h6 x v h7 hg
      ·have:=cV h1;omega
    gC:=h.env.gC }
  ·exact {
    c:=fun x v hc=>hn.c x v (h.nw.c x v hc)
    cn:=fun x v hc=>by
     rcases dn x v hc with h1 | h1
     ·exact h.nw.cn x v h1
     ·have:=h.fr.size;exact .inr (.inl (by omega))
    β:=h.nw.β
    tk:=h.nw.tk
    tn:=h.nw.tn
    l0:=h.nw.l0 }
  ·by_cases NB:j=b
   ·left;obtain ⟨r0,hr0,BR⟩:=h.nw.β;rw [hr0] at yd;rcases List.mem_append.1 yd with yd | yd
    ·exact .inl (.inl (NB ▸ yd))
    ·exact .inr (NB ▸ BR b yd)
   ·exact .inr (hh j hj NB)
 exact go_sound 4000 _ _ (hk r ql hΦ) E' _ w' (bF cO hd r v (Rv.mono Be (Rv.cut NU UG)))
end
end Dv
end Go.Proofs.YtfdedoiiahbnnaaGreat
namespace Go.Proofs.YtfdedoiiahbnnaaGreat
namespace Dv
open Go
def tt:TT:=.ag 210 ⟨1,false,.sl 29 1 24,[.slice none 0 0]⟩ (.ag 105 ⟨1,false,.sl 36 9 112,[.slice none 0 0]⟩ (.ag 51 ⟨4,true,.st [(0,29),(1,49),(2,50),(3,3)],[.slice none 0 0,.slice none 0 0,.slice none 0 0,.int .i64 0]⟩ (.ag 24 ⟨1,false,.int .i64,[.int .i64 0]⟩ (.ag 12 ⟨1,false,.int .u64,[.int .u64 0]⟩ (.ag 6 ⟨1,false,.int .u8,[.int .u8 0]⟩ (.ag 3 ⟨1,false,.int .i64,[.int .i64 0]⟩ (.ag 2 ⟨1,false,.int .i64,[.int .i64 0]⟩ (.ag 1 ⟨1,false,.fn,[.nilFunc]⟩ (.nil) (.nil)) (.nil)) (.ag 5 ⟨1,false,.int .u8,[.int .u8 0]⟩ (.ag 4 ⟨1,false,.bool,[.bool false]⟩ (.nil) (.nil)) (.nil))) (.ag 9 ⟨1,false,.str,[.string ByteArray.empty]⟩ (.ag 8 ⟨4,true,.st [(0,2),(1,3),(2,4),(3,6)],[.int .i64 0,.int .i64 0,.bool false,.int .u8 0]⟩ (.ag 7 ⟨4,true,.st [(0,2),(1,3),(2,4),(3,6)],[.int .i64 0,.int .i64 0,.bool false,.int .u8 0]⟩ (.nil) (.nil)) (.nil)) (.ag 11 ⟨1,false,.str,[.string ByteArray.empty]⟩ (.ag 10 ⟨1,false,.str,[.string ByteArray.empty]⟩ (.nil) (.nil)) (.nil)))) (.ag 18 ⟨1,true,.st [(0,17)],[.pointer none]⟩ (.ag 15 ⟨1,false,.ptr 418,[.pointer none]⟩ (.ag 14 ⟨2,true,.st [(0,9),(1,12)],[.string ByteArray.empty,.int .u64 0]⟩ (.ag 13 ⟨2,true,.st [(0,9),(1,12)],[.string ByteArray.empty,.int .u64 0]⟩ (.nil) (.nil)) (.nil)) (.ag 17 ⟨1,false,.ptr 428,[.pointer none]⟩ (.ag 16 ⟨1,false,.ptr 421,[.pointer none]⟩ (.nil) (.nil)) (.nil))) (.ag 21 ⟨1,false,.int .i32,[.int .i32 0]⟩ (.ag 20 ⟨1,false,.nR,[.nilIface]⟩ (.ag 19 ⟨1,true,.st [(0,17)],[.pointer none]⟩ (.nil) (.nil)) (.nil)) (.ag 23 ⟨1,false,.ptr 129,[.pointer none]⟩ (.ag 22 ⟨1,false,.fn,[.nilFunc]⟩ (.nil) (.nil)) (.nil))))) (.ag 37 ⟨12,true,.st [(0,29),(1,30),(2,31),(3,36)],[.slice none 0 0,.slice none 0 0,.slice none 0 0,.int .i64 0,.int .i64 0,.int .i64 0,.int .i64 0,.int .i64 0,.slice none 0 0,.slice none 0 0,.string ByteArray.empty,.int .i64 0]⟩ (.ag 31 ⟨1,false,.sl 93 11 136,[.slice none 0 0]⟩ (.ag 28 ⟨1,false,.fn,[.nilFunc]⟩ (.ag 26 ⟨2,true,.st [(0,24),(1,3)],[.int .i64 0,.int .i64 0]⟩ (.ag 25 ⟨2,true,.st [(0,24),(1,3)],[.int .i64 0,.int .i64 0]⟩ (.nil) (.nil)) (.nil)) (.ag 30 ⟨1,false,.sl 122 4 48,[.slice none 0 0]⟩ (.ag 29 ⟨1,false,.sl 34 2 24,[.slice none 0 0]⟩ (.nil) (.nil)) (.nil))) (.ag 34 ⟨2,true,.st [(0,9),(1,3)],[.string ByteArray.empty,.int .i64 0]⟩ (.ag 33 ⟨2,true,.st [(0,9),(1,3)],[.string ByteArray.empty,.int .i64 0]⟩ (.ag 32 ⟨1,false,.sl 133 18 224,[.slice none 0 0]⟩ (.nil) (.nil)) (.nil)) (.ag 36 ⟨9,true,.st [(0,3),(1,3),(2,3),(3,3),(4,3),(5,29),(6,32),(7,34)],[.int .i64 0,.int .i64 0,.int .i64 0,.int .i64 0,.int .i64 0,.slice none 0 0,.slice none 0 0,.string ByteArray.empty,.int .i64 0]⟩ (.ag 35 ⟨9,true,.st [(0,3),(1,3),(2,3),(3,3),(4,3),(5,29),(6,32),(7,34)],[.int .i64 0,.int .i64 0,.int .i64 0,.int .i64 0,.int .i64 0,.slice none 0 0,.slice none 0 0,.string ByteArray.empty,.int .i64 0]⟩ (.nil) (.nil)) (.nil)))) (.ag 44 ⟨1,false,.fn,[.nilFunc]⟩ (.ag 41 ⟨1,false,.fn,[.nilFunc]⟩ (.ag 40 ⟨1,false,.fn,[.nilFunc]⟩ (.ag 38 ⟨12,true,.st [(0,29),(1,30),(2,31),(3,36)],[.slice none 0 0,.slice none 0 0,.slice none 0 0,.int .i64 0,.int .i64 0,.int .i64 0,.int .i64 0,.int .i64 0,.slice none 0 0,.slice none 0 0,.string ByteArray.empty,.int .i64 0]⟩ (.nil) (.nil)) (.nil)) (.ag 43 ⟨1,false,.fn,[.nilFunc]⟩ (.ag 42 ⟨1,false,.fn,[.nilFunc]⟩ (.nil) (.nil)) (.nil))) (.ag 48 ⟨1,false,.fn,[.nilFunc]⟩ (.ag 47 ⟨1,false,.fn,[.nilFunc]⟩ (.ag 46 ⟨1,false,.fn,[.nilFunc]⟩ (.nil) (.nil)) (.nil)) (.ag 50 ⟨1,false,.sl 87 7 88,[.slice none 0 0]⟩ (.ag 49 ⟨1,false,.sl 183 1 24,[.slice none 0 0]⟩ (.nil) (.nil)) (.nil)))))) (.ag 79 ⟨1,false,.sl 9 1 16,[.slice none 0 0]⟩ (.ag 65 ⟨6,true,.st [(0,61),(4,26)],[.int .i64 0,.int .i64 0,.string ByteArray.empty,.slice none 0 0,.int .i64 0,.int .i64 0]⟩ (.ag 58 ⟨1,false,.fn,[.nilFunc]⟩ (.ag 54 ⟨1,false,.fn,[.nilFunc]⟩ (.ag 53 ⟨1,false,.fn,[.nilFunc]⟩ (.ag 52 ⟨4,true,.st [(0,29),(1,49),(2,50),(3,3)],[.slice none 0 0,.slice none 0 0,.slice none 0 0,.int .i64 0]⟩ (.nil) (.nil)) (.nil)) (.ag 56 ⟨1,false,.fn,[.nilFunc]⟩ (.ag 55 ⟨1,false,.fn,[.nilFunc]⟩ (.nil) (.nil)) (.nil))) (.ag 61 ⟨4,true,.st [(0,3),(1,3),(2,9),(3,59)],[.int .i64 0,.int .i64 0,.string ByteArray.empty,.slice none 0 0]⟩ (.ag 60 ⟨4,true,.st [(0,3),(1,3),(2,9),(3,59)],[.int .i64 0,.int .i64 0,.string ByteArray.empty,.slice none 0 0]⟩ (.ag 59 ⟨1,false,.sl 61 4 56,[.slice none 0 0]⟩ (.nil) (.nil)) (.nil)) (.ag 64 ⟨6,true,.st [(0,61),(4,26)],[.int .i64 0,.int .i64 0,.string ByteArray.empty,.slice none 0 0,.int .i64 0,.int .i64 0]⟩ (.ag 63 ⟨1,false,.fn,[.nilFunc]⟩ (.nil) (.nil)) (.nil)))) (.ag 72 ⟨1,false,.fn,[.nilFunc]⟩ (.ag 68 ⟨1,false,.sl 70 6 88,[.slice none 0 0]⟩ (.ag 67 ⟨1,false,.fn,[.nilFunc]⟩ (.ag 66 ⟨1,false,.fn,[.nilFunc]⟩ (.nil) (.nil)) (.nil)) (.ag 70 ⟨6,true,.st [(0,3),(1,3),(2,3),(3,9),(4,29),(5,68)],[.int .i64 0,.int .i64 0,.int .i64 0,.string ByteArray.empty,.slice none 0 0,.slice none 0 0]⟩ (.ag 69 ⟨6,true,.st [(0,3),(1,3),(2,3),(3,9),(4,29),(5,68)],[.int .i64 0,.int .i64 0,.int .i64 0,.string ByteArray.empty,.slice none 0 0,.slice none 0 0]⟩ (.nil) (.nil)) (.nil))) (.ag 75 ⟨1,false,.fn,[.nilFunc]⟩ (.ag 74 ⟨1,false,.fn,[.nilFunc]⟩ (.ag 73 ⟨1,false,.fn,[.nilFunc]⟩ (.nil) (.nil)) (.nil)) (.ag 78 ⟨1,false,.fn,[.nilFunc]⟩ (.ag 77 ⟨1,false,.fn,[.nilFunc]⟩ (.nil) (.nil)) (.nil))))) (.ag 92 ⟨11,true,.st [(0,34),(2,36)],[.string ByteArray.empty,.int .i64 0,.int .i64 0,.int .i64 0,.int .i64 0,.int .i64 0,.int .i64 0,.slice none 0 0,.slice none 0 0,.string ByteArray.empty,.int .i64 0]⟩ (.ag 86 ⟨7,true,.st [(0,3),(1,3),(2,3),(3,3),(4,3),(5,79),(6,85)],[.int .i64 0,.int .i64 0,.int .i64 0,.int .i64 0,.int .i64 0,.slice none 0 0,.slice none 0 0]⟩ (.ag 82 ⟨7,true,.st [(0,3),(1,3),(2,3),(3,3),(4,3),(5,79),(6,80)],[.int .i64 0,.int .i64 0,.int .i64 0,.int .i64 0,.int .i64 0,.slice none 0 0,.slice none 0 0]⟩ (.ag 81 ⟨7,true,.st [(0,3),(1,3),(2,3),(3,3),(4,3),(5,79),(6,80)],[.int .i64 0,.int .i64 0,.int .i64 0,.int .i64 0,.int .i64 0,.slice none 0 0,.slice none 0 0]⟩ (.ag 80 ⟨1,false,.sl 90 10 88,[.slice none 0 0]⟩ (.nil) (.nil)) (.nil)) (.ag 85 ⟨1,false,.sl 89 10 88,[.slice none 0 0]⟩ (.ag 84 ⟨1,false,.fn,[.nilFunc]⟩ (.nil) (.nil)) (.nil))) (.ag 89 ⟨10,true,.st [(0,9),(1,4),(2,3),(3,3),(4,3),(5,3),(6,3),(7,3),(8,3),(9,3)],[.string ByteArray.empty,.bool false,.int .i64 0,.int .i64 0,.int .i64 0,.int .i64 0,.int .i64 0,.int .i64 0,.int .i64 0,.int .i64 0]⟩ (.ag 88 ⟨10,true,.st [(0,9),(1,4),(2,3),(3,3),(4,3),(5,3),(6,3),(7,3),(8,3),(9,3)],[.string ByteArray.empty,.bool false,.int .i64 0,.int .i64 0,.int .i64 0,.int .i64 0,.int .i64 0,.int .i64 0,.int .i64 0,.int .i64 0]⟩ (.ag 87 ⟨7,true,.st [(0,3),(1,3),(2,3),(3,3),(4,3),(5,79),(6,85)],[.int .i64 0,.int .i64 0,.int .i64 0,.int .i64 0,.int .i64 0,.slice none 0 0,.slice none 0 0]⟩ (.nil) (.nil)) (.nil)) (.ag 91 ⟨1,false,.fn,[.nilFunc]⟩ (.ag 90 ⟨10,true,.st [(0,9),(1,4),(2,3),(3,3),(4,3),(5,3),(6,3),(7,3),(8,3),(9,3)],[.string ByteArray.empty,.bool false,.int .i64 0,.int .i64 0,.int .i64 0,.int .i64 0,.int .i64 0,.int .i64 0,.int .i64 0,.int .i64 0]⟩ (.nil) (.nil)) (.nil)))) (.ag 98 ⟨1,false,.fn,[.nilFunc]⟩ (.ag 95 ⟨1,false,.fn,[.nilFunc]⟩ (.ag 94 ⟨1,false,.fn,[.nilFunc]⟩ (.ag 93 ⟨11,true,.st [(0,34),(2,36)],[.string ByteArray.empty,.int .i64 0,.int .i64 0,.int .i64 0,.int .i64 0,.int .i64 0,.int .i64 0,.slice none 0 0,.slice none 0 0,.string ByteArray.empty,.int .i64 0]⟩ (.nil) (.nil)) (.nil)) (.ag 97 ⟨1,false,.fn,[.nilFunc]⟩ (.ag 96 ⟨1,false,.sl 3 1 8,[.slice none 0 0]⟩ (.nil) (.nil)) (.nil))) (.ag 102 ⟨1,false,.fn,[.nilFunc]⟩ (.ag 100 ⟨1,false,.fn,[.nilFunc]⟩ (.ag 99 ⟨1,false,.ptr 190,[.pointer none]⟩ (.nil) (.nil)) (.nil)) (.ag 104 ⟨1,false,.fn,[.nilFunc]⟩ (.ag 103 ⟨1,false,.fn,[.nilFunc]⟩ (.nil) (.nil)) (.nil))))))) (.ag 157 ⟨1,false,.fn,[.nilFunc]⟩ (.ag 130 ⟨4,true,.st [(0,3),(1,3),(2,3),(3,29)],[.int .i64 0,.int .i64 0,.int .i64 0,.slice none 0 0]⟩ (.ag 118 ⟨1,false,.fn,[.nilFunc]⟩ (.ag 111 ⟨1,false,.sl 5 1 1,[.slice none 0 0]⟩ (.ag 108 ⟨1,false,.fn,[.nilFunc]⟩ (.ag 107 ⟨1,false,.fn,[.nilFunc]⟩ (.ag 106 ⟨1,false,.fn,[.nilFunc]⟩ (.nil) (.nil)) (.nil)) (.ag 110 ⟨1,false,.ptr 113,[.pointer none]⟩ (.ag 109 ⟨1,false,.fn,[.nilFunc]⟩ (.nil) (.nil)) (.nil))) (.ag 114 ⟨1,false,.nR,[.nilIface]⟩ (.ag 113 ⟨2,true,.st [(0,110),(1,111)],[.pointer none,.slice none 0 0]⟩ (.ag 112 ⟨2,true,.st [(0,110),(1,111)],[.pointer none,.slice none 0 0]⟩ (.nil) (.nil)) (.nil)) (.ag 117 ⟨1,false,.fn,[.nilFunc]⟩ (.ag 115 ⟨1,false,.nR,[.nilIface]⟩ (.nil) (.nil)) (.nil)))) (.ag 124 ⟨1,false,.fn,[.nilFunc]⟩ (.ag 121 ⟨4,true,.st [(0,34),(2,34)],[.string ByteArray.empty,.int .i64 0,.string ByteArray.empty,.int .i64 0]⟩ (.ag 120 ⟨1,false,.fn,[.nilFunc]⟩ (.ag 119 ⟨1,false,.fn,[.nilFunc]⟩ (.nil) (.nil)) (.nil)) (.ag 123 ⟨1,false,.fn,[.nilFunc]⟩ (.ag 122 ⟨4,true,.st [(0,34),(2,34)],[.string ByteArray.empty,.int .i64 0,.string ByteArray.empty,.int .i64 0]⟩ (.nil) (.nil)) (.nil))) (.ag 127 ⟨1,false,.ptr 284,[.pointer none]⟩ (.ag 126 ⟨1,false,.sl 82 7 88,[.slice none 0 0]⟩ (.ag 125 ⟨1,false,.fn,[.nilFunc]⟩ (.nil) (.nil)) (.nil)) (.ag 129 ⟨5,true,.st [(0,99),(1,126),(2,3),(3,127),(4,96)],[.pointer none,.slice none 0 0,.int .i64 0,.pointer none,.slice none 0 0]⟩ (.ag 128 ⟨5,true,.st [(0,99),(1,126),(2,3),(3,127),(4,96)],[.pointer none,.slice none 0 0,.int .i64 0,.pointer none,.slice none 0 0]⟩ (.nil) (.nil)) (.nil))))) (.ag 144 ⟨1,false,.fn,[.nilFunc]⟩ (.ag 137 ⟨15,true,.st [(0,38),(12,99),(13,23),(14,3)],[.slice none 0 0,.slice none 0 0,.slice none 0 0,.int .i64 0,.int .i64 0,.int .i64 0,.int .i64 0,.int .i64 0,.slice none 0 0,.slice none 0 0,.string ByteArray.empty,.int .i64 0,.pointer none,.pointer none,.int .i64 0]⟩ (.ag 133 ⟨18,true,.st [(0,34),(2,4),(3,29),(4,3),(5,131),(9,36)],[.string ByteArray.empty,.int .i64 0,.bool false,.slice none 0 0,.int .i64 0,.int .i64 0,.int .i64 0,.int .i64 0,.slice none 0 0,.int .i64 0,.int .i64 0,.int .i64 0,.int .i64 0,.int .i64 0,.slice none 0 0,.slice none 0 0,.string ByteArray.empty,.int .i64 0]⟩ (.ag 132 ⟨18,true,.st [(0,34),(2,4),(3,29),(4,3),(5,131),(9,36)],[.string ByteArray.empty,.int .i64 0,.bool false,.slice none 0 0,.int .i64 0,.int .i64 0,.int .i64 0,.int .i64 0,.slice none 0 0,.int .i64 0,.int .i64 0,.int .i64 0,.int .i64 0,.int .i64 0,.slice none 0 0,.slice none 0 0,.string ByteArray.empty,.int .i64 0]⟩ (.ag 131 ⟨4,true,.st [(0,3),(1,3),(2,3),(3,29)],[.int .i64 0,.int .i64 0,.int .i64 0,.slice none 0 0]⟩ (.nil) (.nil)) (.nil)) (.ag 136 ⟨1,false,.ptr 138,[.pointer none]⟩ (.ag 135 ⟨1,false,.fn,[.nilFunc]⟩ (.nil) (.nil)) (.nil))) (.ag 140 ⟨1,false,.fn,[.nilFunc]⟩ (.ag 139 ⟨1,false,.fn,[.nilFunc]⟩ (.ag 138 ⟨15,true,.st [(0,38),(12,99),(13,23),(14,3)],[.slice none 0 0,.slice none 0 0,.slice none 0 0,.int .i64 0,.int .i64 0,.int .i64 0,.int .i64 0,.int .i64 0,.slice none 0 0,.slice none 0 0,.string ByteArray.empty,.int .i64 0,.pointer none,.pointer none,.int .i64 0]⟩ (.nil) (.nil)) (.nil)) (.ag 142 ⟨1,false,.fn,[.nilFunc]⟩ (.ag 141 ⟨1,false,.fn,[.nilFunc]⟩ (.nil) (.nil)) (.nil)))) (.ag 150 ⟨1,false,.fn,[.nilFunc]⟩ (.ag 147 ⟨1,false,.fn,[.nilFunc]⟩ (.ag 146 ⟨1,false,.fn,[.nilFunc]⟩ (.ag 145 ⟨1,false,.fn,[.nilFunc]⟩ (.nil) (.nil)) (.nil)) (.ag 149 ⟨1,false,.fn,[.nilFunc]⟩ (.ag 148 ⟨1,false,.fn,[.nilFunc]⟩ (.nil) (.nil)) (.nil))) (.ag 154 ⟨1,true,.st [(0,151)],[.pointer none]⟩ (.ag 153 ⟨1,false,.fn,[.nilFunc]⟩ (.ag 151 ⟨1,false,.ptr 244,[.pointer none]⟩ (.nil) (.nil)) (.nil)) (.ag 156 ⟨1,false,.fn,[.nilFunc]⟩ (.ag 155 ⟨1,true,.st [(0,151)],[.pointer none]⟩ (.nil) (.nil)) (.nil)))))) (.ag 183 ⟨1,false,.sl 4 1 1,[.slice none 0 0]⟩ (.ag 171 ⟨1,false,.fn,[.nilFunc]⟩ (.ag 163 ⟨1,false,.sl 218 5 48,[.slice none 0 0]⟩ (.ag 160 ⟨1,false,.fn,[.nilFunc]⟩ (.ag 159 ⟨1,false,.fn,[.nilFunc]⟩ (.ag 158 ⟨1,false,.fn,[.nilFunc]⟩ (.nil) (.nil)) (.nil)) (.ag 162 ⟨1,false,.fn,[.nilFunc]⟩ (.ag 161 ⟨1,false,.fn,[.nilFunc]⟩ (.nil) (.nil)) (.nil))) (.ag 167 ⟨3,true,.st [(0,163),(1,26)],[.slice none 0 0,.int .i64 0,.int .i64 0]⟩ (.ag 166 ⟨3,true,.st [(0,163),(1,26)],[.slice none 0 0,.int .i64 0,.int .i64 0]⟩ (.ag 165 ⟨1,false,.fn,[.nilFunc]⟩ (.nil) (.nil)) (.nil)) (.ag 170 ⟨1,false,.fn,[.nilFunc]⟩ (.ag 169 ⟨1,false,.fn,[.nilFunc]⟩ (.nil) (.nil)) (.nil)))) (.ag 177 ⟨1,false,.fn,[.nilFunc]⟩ (.ag 174 ⟨1,false,.fn,[.nilFunc]⟩ (.ag 173 ⟨1,false,.fn,[.nilFunc]⟩ (.ag 172 ⟨1,false,.fn,[.nilFunc]⟩ (.nil) (.nil)) (.nil)) (.ag 176 ⟨1,false,.fn,[.nilFunc]⟩ (.ag 175 ⟨1,false,.fn,[.nilFunc]⟩ (.nil) (.nil)) (.nil))) (.ag 180 ⟨1,false,.fn,[.nilFunc]⟩ (.ag 179 ⟨3,true,.st [(0,26),(2,3)],[.int .i64 0,.int .i64 0,.int .i64 0]⟩ (.ag 178 ⟨3,true,.st [(0,26),(2,3)],[.int .i64 0,.int .i64 0,.int .i64 0]⟩ (.nil) (.nil)) (.nil)) (.ag 182 ⟨1,false,.fn,[.nilFunc]⟩ (.ag 181 ⟨1,false,.fn,[.nilFunc]⟩ (.nil) (.nil)) (.nil))))) (.ag 195 ⟨1,false,.fn,[.nilFunc]⟩ (.ag 189 ⟨2051,true,.st [(0,79),(1,127),(2,186),(3,188),(1027,188)],(.slice none 0 0 :: .pointer none :: .pointer none :: List.replicate 2048 (.int .i64 0))⟩ (.ag 186 ⟨1,false,.ptr 295,[.pointer none]⟩ (.ag 185 ⟨1,false,.fn,[.nilFunc]⟩ (.ag 184 ⟨1,false,.fn,[.nilFunc]⟩ (.nil) (.nil)) (.nil)) (.ag 188 ⟨1024,true,.ar 32 32,(List.replicate 1024 (.int .i64 0))⟩ (.ag 187 ⟨32,true,.ar 32 1,[.int .i64 0,.int .i64 0,.int .i64 0,.int .i64 0,.int .i64 0,.int .i64 0,.int .i64 0,.int .i64 0,.int .i64 0,.int .i64 0,.int .i64 0,.int .i64 0,.int .i64 0,.int .i64 0,.int .i64 0,.int .i64 0,.int .i64 0,.int .i64 0,.int .i64 0,.int .i64 0,.int .i64 0,.int .i64 0,.int .i64 0,.int .i64 0,.int .i64 0,.int .i64 0,.int .i64 0,.int .i64 0,.int .i64 0,.int .i64 0,.int .i64 0,.int .i64 0]⟩ (.nil) (.nil)) (.nil))) (.ag 192 ⟨1,false,.sl 285 2 16,[.slice none 0 0]⟩ (.ag 191 ⟨1,false,.fn,[.nilFunc]⟩ (.ag 190 ⟨2051,true,.st [(0,79),(1,127),(2,186),(3,188),(1027,188)],(.slice none 0 0 :: .pointer none :: .pointer none :: List.replicate 2048 (.int .i64 0))⟩ (.nil) (.nil)) (.nil)) (.ag 194 ⟨1,false,.fn,[.nilFunc]⟩ (.ag 193 ⟨1,false,.fn,[.nilFunc]⟩ (.nil) (.nil)) (.nil)))) (.ag 202 ⟨1,false,.fn,[.nilFunc]⟩ (.ag 198 ⟨1,false,.fn,[.nilFunc]⟩ (.ag 197 ⟨1,false,.fn,[.nilFunc]⟩ (.ag 196 ⟨1,false,.fn,[.nilFunc]⟩ (.nil) (.nil)) (.nil)) (.ag 201 ⟨1,false,.fn,[.nilFunc]⟩ (.ag 199 ⟨1,false,.ptr 5,[.pointer none]⟩ (.nil) (.nil)) (.nil))) (.ag 207 ⟨1,false,.fn,[.nilFunc]⟩ (.ag 206 ⟨1,false,.fn,[.nilFunc]⟩ (.ag 204 ⟨1,false,.fn,[.nilFunc]⟩ (.nil) (.nil)) (.nil)) (.ag 209 ⟨1,false,.fn,[.nilFunc]⟩ (.ag 208 ⟨1,false,.fn,[.nilFunc]⟩ (.nil) (.nil)) (.nil)))))))) (.ag 319 ⟨1,false,.fn,[.nilFunc]⟩ (.ag 266 ⟨1,false,.fn,[.nilFunc]⟩ (.ag 238 ⟨1,false,.fn,[.nilFunc]⟩ (.ag 223 ⟨1,false,.fn,[.nilFunc]⟩ (.ag 216 ⟨1,false,.fn,[.nilFunc]⟩ (.ag 213 ⟨1,false,.ptr 215,[.pointer none]⟩ (.ag 212 ⟨1,false,.fn,[.nilFunc]⟩ (.ag 211 ⟨1,false,.fn,[.nilFunc]⟩ (.nil) (.nil)) (.nil)) (.ag 215 ⟨2,true,.st [(0,151),(1,3)],[.pointer none,.int .i64 0]⟩ (.ag 214 ⟨2,true,.st [(0,151),(1,3)],[.pointer none,.int .i64 0]⟩ (.nil) (.nil)) (.nil))) (.ag 219 ⟨1,false,.fn,[.nilFunc]⟩ (.ag 218 ⟨5,true,.st [(0,3),(1,3),(2,3),(3,9),(4,3)],[.int .i64 0,.int .i64 0,.int .i64 0,.string ByteArray.empty,.int .i64 0]⟩ (.ag 217 ⟨5,true,.st [(0,3),(1,3),(2,3),(3,9),(4,3)],[.int .i64 0,.int .i64 0,.int .i64 0,.string ByteArray.empty,.int .i64 0]⟩ (.nil) (.nil)) (.nil)) (.ag 221 ⟨4,true,.st [(0,163),(1,3),(2,26)],[.slice none 0 0,.int .i64 0,.int .i64 0,.int .i64 0]⟩ (.ag 220 ⟨4,true,.st [(0,163),(1,3),(2,26)],[.slice none 0 0,.int .i64 0,.int .i64 0,.int .i64 0]⟩ (.nil) (.nil)) (.nil)))) (.ag 231 ⟨1,false,.fn,[.nilFunc]⟩ (.ag 227 ⟨1,false,.fn,[.nilFunc]⟩ (.ag 226 ⟨1,false,.fn,[.nilFunc]⟩ (.ag 225 ⟨1,false,.fn,[.nilFunc]⟩ (.nil) (.nil)) (.nil)) (.ag 230 ⟨1,false,.fn,[.nilFunc]⟩ (.ag 228 ⟨1,false,.fn,[.nilFunc]⟩ (.nil) (.nil)) (.nil))) (.ag 234 ⟨1,false,.fn,[.nilFunc]⟩ (.ag 233 ⟨1,false,.fn,[.nilFunc]⟩ (.ag 232 ⟨1,false,.fn,[.nilFunc]⟩ (.nil) (.nil)) (.nil)) (.ag 237 ⟨1,false,.fn,[.nilFunc]⟩ (.ag 235 ⟨1,false,.fn,[.nilFunc]⟩ (.nil) (.nil)) (.nil))))) (.ag 250 ⟨1,false,.fn,[.nilFunc]⟩ (.ag 244 ⟨5,true,.st [(0,163),(1,3),(2,3),(3,26)],[.slice none 0 0,.int .i64 0,.int .i64 0,.int .i64 0,.int .i64 0]⟩ (.ag 241 ⟨1,true,.st [(0,3)],[.int .i64 0]⟩ (.ag 240 ⟨1,true,.st [(0,3)],[.int .i64 0]⟩ (.ag 239 ⟨1,false,.ptr 241,[.pointer none]⟩ (.nil) (.nil)) (.nil)) (.ag 243 ⟨5,true,.st [(0,163),(1,3),(2,3),(3,26)],[.slice none 0 0,.int .i64 0,.int .i64 0,.int .i64 0,.int .i64 0]⟩ (.ag 242 ⟨1,false,.fn,[.nilFunc]⟩ (.nil) (.nil)) (.nil))) (.ag 247 ⟨1,false,.fn,[.nilFunc]⟩ (.ag 246 ⟨1,false,.fn,[.nilFunc]⟩ (.ag 245 ⟨1,false,.fn,[.nilFunc]⟩ (.nil) (.nil)) (.nil)) (.ag 249 ⟨1,false,.fn,[.nilFunc]⟩ (.ag 248 ⟨1,false,.fn,[.nilFunc]⟩ (.nil) (.nil)) (.nil)))) (.ag 257 ⟨1,false,.fn,[.nilFunc]⟩ (.ag 253 ⟨1,false,.fn,[.nilFunc]⟩ (.ag 252 ⟨1,false,.fn,[.nilFunc]⟩ (.ag 251 ⟨1,false,.fn,[.nilFunc]⟩ (.nil) (.nil)) (.nil)) (.ag 256 ⟨1,false,.fn,[.nilFunc]⟩ (.ag 255 ⟨1,false,.fn,[.nilFunc]⟩ (.nil) (.nil)) (.nil))) (.ag 262 ⟨1,false,.fn,[.nilFunc]⟩ (.ag 261 ⟨1,false,.fn,[.nilFunc]⟩ (.ag 259 ⟨1,false,.fn,[.nilFunc]⟩ (.nil) (.nil)) (.nil)) (.ag 265 ⟨1,false,.fn,[.nilFunc]⟩ (.ag 263 ⟨1,false,.fn,[.nilFunc]⟩ (.nil) (.nil)) (.nil)))))) (.ag 293 ⟨1,false,.sl 290 1 8,[.slice none 0 0]⟩ (.ag 280 ⟨1,false,.fn,[.nilFunc]⟩ (.ag 274 ⟨1,false,.fn,[.nilFunc]⟩ (.ag 271 ⟨1,false,.fn,[.nilFunc]⟩ (.ag 270 ⟨1,false,.fn,[.nilFunc]⟩ (.ag 268 ⟨1,false,.fn,[.nilFunc]⟩ (.nil) (.nil)) (.nil)) (.ag 273 ⟨1,false,.fn,[.nilFunc]⟩ (.ag 272 ⟨1,false,.fn,[.nilFunc]⟩ (.nil) (.nil)) (.nil))) (.ag 277 ⟨1,false,.fn,[.nilFunc]⟩ (.ag 276 ⟨1,false,.fn,[.nilFunc]⟩ (.ag 275 ⟨1,false,.fn,[.nilFunc]⟩ (.nil) (.nil)) (.nil)) (.ag 279 ⟨1,false,.fn,[.nilFunc]⟩ (.ag 278 ⟨1,false,.fn,[.nilFunc]⟩ (.nil) (.nil)) (.nil)))) (.ag 286 ⟨1,false,.fn,[.nilFunc]⟩ (.ag 283 ⟨2,true,.st [(0,79),(1,96)],[.slice none 0 0,.slice none 0 0]⟩ (.ag 282 ⟨1,false,.fn,[.nilFunc]⟩ (.ag 281 ⟨1,false,.fn,[.nilFunc]⟩ (.nil) (.nil)) (.nil)) (.ag 285 ⟨2,true,.ar 2 1,[.int .i64 0,.int .i64 0]⟩ (.ag 284 ⟨2,true,.st [(0,79),(1,96)],[.slice none 0 0,.slice none 0 0]⟩ (.nil) (.nil)) (.nil))) (.ag 290 ⟨1,false,.int .u64,[.int .u64 0]⟩ (.ag 289 ⟨1,false,.fn,[.nilFunc]⟩ (.ag 288 ⟨1,false,.fn,[.nilFunc]⟩ (.nil) (.nil)) (.nil)) (.ag 292 ⟨1,false,.fn,[.nilFunc]⟩ (.ag 291 ⟨20,true,.ar 20 1,[.int .u8 0,.int .u8 0,.int .u8 0,.int .u8 0,.int .u8 0,.int .u8 0,.int .u8 0,.int .u8 0,.int .u8 0,.int .u8 0,.int .u8 0,.int .u8 0,.int .u8 0,.int .u8 0,.int .u8 0,.int .u8 0,.int .u8 0,.int .u8 0,.int .u8 0,.int .u8 0]⟩ (.nil) (.nil)) (.nil))))) (.ag 306 ⟨1,false,.fn,[.nilFunc]⟩ (.ag 299 ⟨1,false,.fn,[.nilFunc]⟩ (.ag 296 ⟨1,false,.fn,[.nilFunc]⟩ (.ag 295 ⟨1,true,.st [(0,293)],[.slice none 0 0]⟩ (.ag 294 ⟨1,true,.st [(0,293)],[.slice none 0 0]⟩ (.nil) (.nil)) (.nil)) (.ag 298 ⟨1,false,.fn,[.nilFunc]⟩ (.ag 297 ⟨1,false,.fn,[.nilFunc]⟩ (.nil) (.nil)) (.nil))) (.ag 302 ⟨1,false,.fn,[.nilFunc]⟩ (.ag 301 ⟨1,false,.ptr 70,[.pointer none]⟩ (.ag 300 ⟨1,false,.fn,[.nilFunc]⟩ (.nil) (.nil)) (.nil)) (.ag 305 ⟨1,false,.fn,[.nilFunc]⟩ (.ag 304 ⟨1,false,.fn,[.nilFunc]⟩ (.nil) (.nil)) (.nil)))) (.ag 312 ⟨1,false,.fn,[.nilFunc]⟩ (.ag 309 ⟨1,false,.fn,[.nilFunc]⟩ (.ag 308 ⟨1,false,.fn,[.nilFunc]⟩ (.ag 307 ⟨1,false,.fn,[.nilFunc]⟩ (.nil) (.nil)) (.nil)) (.ag 311 ⟨1,false,.fn,[.nilFunc]⟩ (.ag 310 ⟨1,false,.fn,[.nilFunc]⟩ (.nil) (.nil)) (.nil))) (.ag 316 ⟨1,false,.fn,[.nilFunc]⟩ (.ag 314 ⟨1,false,.fn,[.nilFunc]⟩ (.ag 313 ⟨1,false,.fn,[.nilFunc]⟩ (.nil) (.nil)) (.nil)) (.ag 318 ⟨1,false,.ptr 36,[.pointer none]⟩ (.ag 317 ⟨1,false,.fn,[.nilFunc]⟩ (.nil) (.nil)) (.nil))))))) (.ag 376 ⟨1,false,.int .i64,[.int .i64 0]⟩ (.ag 351 ⟨1,false,.fn,[.nilFunc]⟩ (.ag 334 ⟨1,false,.fn,[.nilFunc]⟩ (.ag 325 ⟨1,false,.sl 365 2 8,[.slice none 0 0]⟩ (.ag 322 ⟨1,false,.fn,[.nilFunc]⟩ (.ag 321 ⟨1,false,.fn,[.nilFunc]⟩ (.ag 320 ⟨1,false,.fn,[.nilFunc]⟩ (.nil) (.nil)) (.nil)) (.ag 324 ⟨1,false,.fn,[.nilFunc]⟩ (.ag 323 ⟨1,false,.fn,[.nilFunc]⟩ (.nil) (.nil)) (.nil))) (.ag 329 ⟨1,false,.fn,[.nilFunc]⟩ (.ag 327 ⟨1,false,.fn,[.nilFunc]⟩ (.ag 326 ⟨1,false,.fn,[.nilFunc]⟩ (.nil) (.nil)) (.nil)) (.ag 332 ⟨1,false,.fn,[.nilFunc]⟩ (.ag 331 ⟨1,false,.fn,[.nilFunc]⟩ (.nil) (.nil)) (.nil)))) (.ag 343 ⟨1,false,.int .u64,[.int .u64 0]⟩ (.ag 340 ⟨1,false,.fn,[.nilFunc]⟩ (.ag 338 ⟨1,false,.fn,[.nilFunc]⟩ (.ag 336 ⟨1,false,.fn,[.nilFunc]⟩ (.nil) (.nil)) (.nil)) (.ag 342 ⟨1,false,.fn,[.nilFunc]⟩ (.ag 341 ⟨1,false,.fn,[.nilFunc]⟩ (.nil) (.nil)) (.nil))) (.ag 346 ⟨1,false,.int .u64,[.int .u64 0]⟩ (.ag 345 ⟨1,false,.fn,[.nilFunc]⟩ (.ag 344 ⟨1,false,.fn,[.nilFunc]⟩ (.nil) (.nil)) (.nil)) (.ag 350 ⟨1,false,.fn,[.nilFunc]⟩ (.ag 349 ⟨1,false,.fn,[.nilFunc]⟩ (.nil) (.nil)) (.nil))))) (.ag 363 ⟨4,true,.ar 4 1,[.int .i64 0,.int .i64 0,.int .i64 0,.int .i64 0]⟩ (.ag 357 ⟨1,false,.fn,[.nilFunc]⟩ (.ag 354 ⟨2,true,.st [(0,272),(1,350)],[.nilFunc,.nilFunc]⟩ (.ag 353 ⟨1,false,.fn,[.nilFunc]⟩ (.ag 352 ⟨1,false,.fn,[.nilFunc]⟩ (.nil) (.nil)) (.nil)) (.ag 356 ⟨1,false,.fn,[.nilFunc]⟩ (.ag 355 ⟨2,true,.st [(0,272),(1,350)],[.nilFunc,.nilFunc]⟩ (.nil) (.nil)) (.nil))) (.ag 360 ⟨1,false,.fn,[.nilFunc]⟩ (.ag 359 ⟨1,false,.fn,[.nilFunc]⟩ (.ag 358 ⟨1,false,.fn,[.nilFunc]⟩ (.nil) (.nil)) (.nil)) (.ag 362 ⟨1,false,.fn,[.nilFunc]⟩ (.ag 361 ⟨1,false,.fn,[.nilFunc]⟩ (.nil) (.nil)) (.nil)))) (.ag 370 ⟨1,true,.st [(0,17)],[.pointer none]⟩ (.ag 366 ⟨1,false,.fn,[.nilFunc]⟩ (.ag 365 ⟨2,true,.st [(0,21),(1,21)],[.int .i32 0,.int .i32 0]⟩ (.ag 364 ⟨2,true,.st [(0,21),(1,21)],[.int .i32 0,.int .i32 0]⟩ (.nil) (.nil)) (.nil)) (.ag 369 ⟨1,false,.fn,[.nilFunc]⟩ (.ag 368 ⟨1,false,.fn,[.nilFunc]⟩ (.nil) (.nil)) (.nil))) (.ag 373 ⟨1,false,.fn,[.nilFunc]⟩ (.ag 372 ⟨1,false,.ptr 430,[.pointer none]⟩ (.ag 371 ⟨1,true,.st [(0,17)],[.pointer none]⟩ (.nil) (.nil)) (.nil)) (.ag 375 ⟨1,false,.fn,[.nilFunc]⟩ (.ag 374 ⟨1,false,.int .u32,[.int .u32 0]⟩ (.nil) (.nil)) (.nil)))))) (.ag 405 ⟨1,false,.fn,[.nilFunc]⟩ (.ag 392 ⟨1,false,.ptr 133,[.pointer none]⟩ (.ag 384 ⟨1,false,.fn,[.nilFunc]⟩ (.ag 380 ⟨1,false,.fn,[.nilFunc]⟩ (.ag 379 ⟨1,false,.fn,[.nilFunc]⟩ (.ag 378 ⟨1,false,.fn,[.nilFunc]⟩ (.nil) (.nil)) (.nil)) (.ag 383 ⟨1,false,.fn,[.nilFunc]⟩ (.ag 381 ⟨1,false,.fn,[.nilFunc]⟩ (.nil) (.nil)) (.nil))) (.ag 388 ⟨1,false,.fn,[.nilFunc]⟩ (.ag 386 ⟨1,false,.fn,[.nilFunc]⟩ (.ag 385 ⟨1,false,.fn,[.nilFunc]⟩ (.nil) (.nil)) (.nil)) (.ag 391 ⟨1,false,.fn,[.nilFunc]⟩ (.ag 390 ⟨1,false,.fn,[.nilFunc]⟩ (.nil) (.nil)) (.nil)))) (.ag 398 ⟨1,false,.ptr 3,[.pointer none]⟩ (.ag 395 ⟨1,false,.fn,[.nilFunc]⟩ (.ag 394 ⟨1,false,.int .u64,[.int .u64 0]⟩ (.ag 393 ⟨1,false,.fn,[.nilFunc]⟩ (.nil) (.nil)) (.nil)) (.ag 397 ⟨1,false,.fn,[.nilFunc]⟩ (.ag 396 ⟨1,false,.fn,[.nilFunc]⟩ (.nil) (.nil)) (.nil))) (.ag 401 ⟨1,false,.sl 414 2 8,[.slice none 0 0]⟩ (.ag 400 ⟨1,false,.fn,[.nilFunc]⟩ (.ag 399 ⟨1,false,.fn,[.nilFunc]⟩ (.nil) (.nil)) (.nil)) (.ag 404 ⟨1,false,.fn,[.nilFunc]⟩ (.ag 402 ⟨1,false,.fn,[.nilFunc]⟩ (.nil) (.nil)) (.nil))))) (.ag 418 ⟨4,true,.st [(0,17),(1,17),(2,17),(3,9)],[.pointer none,.pointer none,.pointer none,.string ByteArray.empty]⟩ (.ag 412 ⟨1,false,.fn,[.nilFunc]⟩ (.ag 408 ⟨1,false,.fn,[.nilFunc]⟩ (.ag 407 ⟨1,false,.fn,[.nilFunc]⟩ (.ag 406 ⟨1,false,.fn,[.nilFunc]⟩ (.nil) (.nil)) (.nil)) (.ag 411 ⟨1,false,.ptr 394,[.pointer none]⟩ (.ag 410 ⟨1,false,.fn,[.nilFunc]⟩ (.nil) (.nil)) (.nil))) (.ag 415 ⟨1,false,.fn,[.nilFunc]⟩ (.ag 414 ⟨2,true,.st [(0,21),(1,21)],[.int .i32 0,.int .i32 0]⟩ (.ag 413 ⟨2,true,.st [(0,21),(1,21)],[.int .i32 0,.int .i32 0]⟩ (.nil) (.nil)) (.nil)) (.ag 417 ⟨4,true,.st [(0,17),(1,17),(2,17),(3,9)],[.pointer none,.pointer none,.pointer none,.string ByteArray.empty]⟩ (.ag 416 ⟨1,false,.fn,[.nilFunc]⟩ (.nil) (.nil)) (.nil)))) (.ag 426 ⟨1,false,.int .i32,[.int .i32 0]⟩ (.ag 423 ⟨1,false,.int .u8,[.int .u8 0]⟩ (.ag 422 ⟨1,false,.int .u8,[.int .u8 0]⟩ (.ag 419 ⟨0,true,.ar 0 1,[]⟩ (.nil) (.nil)) (.nil)) (.ag 425 ⟨1,false,.int .i32,[.int .i32 0]⟩ (.ag 424 ⟨1,false,.fn,[.nilFunc]⟩ (.nil) (.nil)) (.nil))) (.ag 429 ⟨2,true,.st [(0,9),(1,423)],[.string ByteArray.empty,.int .u8 0]⟩ (.ag 428 ⟨11,true,.st [(0,12),(1,12),(2,374),(3,422),(4,5),(5,5),(6,423),(7,424),(8,199),(9,425),(10,426)],[.int .u64 0,.int .u64 0,.int .u32 0,.int .u8 0,.int .u8 0,.int .u8 0,.int .u8 0,.nilFunc,.pointer none,.int .i32 0,.int .i32 0]⟩ (.ag 427 ⟨11,true,.st [(0,12),(1,12),(2,374),(3,422),(4,5),(5,5),(6,423),(7,424),(8,199),(9,425),(10,426)],[.int .u64 0,.int .u64 0,.int .u32 0,.int .u8 0,.int .u8 0,.int .u8 0,.int .u8 0,.nilFunc,.pointer none,.int .i32 0,.int .i32 0]⟩ (.nil) (.nil)) (.nil)) (.ag 430 ⟨2,true,.st [(0,9),(1,423)],[.string ByteArray.empty,.int .u8 0]⟩ (.nil) (.nil))))))))
theorem sn:tt.ok Tryz.prog=true:=by decide +kernel
theorem mo:Tryz.prog.follows .mixedOrders=true:=rfl
end Dv
end Go.Proofs.YtfdedoiiahbnnaaGreat
namespace Go.Proofs.YtfdedoiiahbnnaaGreat
namespace Dv
open Go
theorem eG {f:FuncId} {fn:Func} {c:Code} {args:List DV} {os:List (List DV)} {cN:List TkE} {Φ:DV->List (List DV)->List TkE->Prop} (nt:Nat) (rs:List ResultVar)
 (hf:Tryz.prog.funcs[f]? = some fn) (hb:fn.body=some c) (Hj:fn.ntmps=nt) (qb:fn.results.toList=rs)
 (h:∀ (E:En) (w:World) (hn:E.β.length=os.length) (hm:E.tk.length=cN.length),go ⟨Tryz.prog,tt,sn,fn,nt,rs,qb,w,E,os.length,cN.length,hn,hm,false,Φ,[],[],false⟩ 5000 [.code c] ⟨argSl 0 args,os,cN⟩) (hlen:args.length<=nt:=by exact Nat.le_of_ble_eq_true rfl):Ev Tryz.prog f args os cN Φ:=Qr tt sn 5000 nt rs hf hb Hj qb hlen h
theorem cP {X:Ctx} {st:St} {k:List It} {f:FuncId} {args bE:List DV} {d:Nat} {r:DV} (fN:Enters X.P f) (hc:cw X.P f bE r) (hk:go X 4000 k ⟨(d,⟨[],r⟩) :: st.sl,st.bx,st.tk⟩) (ha:CcL [] 0 0 0 bE args:=by exact ax) (hd:eZ X.nt st.sl (some d)=true:=by exact rfl) (bV:X.still=false:=by exact rfl):CallG X f args (some d) k st:=NV fN hc ha hd hk bV
theorem cD {X:Ctx} {st:St} {c:Bool} {s0:List (Nat×Sl)} {D:Dr} {i:Nat} {f:FuncId} {args bE:List DV} {d:Nat} {r:List (Nat×Oper)} {DJ:DV} (fN:Enters X.P f) (hc:cw X.P f bE DJ) (hk:put2 s0 st (some d) false [] DJ (goD X D 3000 c r)) (ha:CcL [] 0 0 0 bE args:=by exact ax) (hd:(eZ X.nt st.sl (some d) && eZ X.nt s0 (some d))=true:=by exact rfl) (bV:X.still=false:=by exact rfl):vc X D c i r f args (some d) s0 st:=Ks fN hc ha hd hk bV
theorem dI {X:Ctx} {st:St} {k:List It} {id:Nat} {ops:Array Oper} (h:goD X ⟨ops,fun _=>false,k,st,none⟩ 3000 true (nOps 0 ops.toList) st.sl st) (hm:X.P.follows .mixedOrders=true:=by exact mo) (hc:BJ ops (fun _=>false)=true:=by decide +kernel):rH X id ops k st:=xm _ hm hc h
theorem dS {X:Ctx} {st:St} {k:List It} {id:Nat} {ops:Array Oper} (h:goD X ⟨ops,QG ops,k,st,none⟩ 3000 true (nOps 0 ops.toList) st.sl st) (hm:X.P.follows .mixedOrders=true:=by exact mo) (hc:BJ ops (QG ops)=true:=by decide +kernel):rH X id ops k st:=Kq hm hc h
end Dv
end Go.Proofs.YtfdedoiiahbnnaaGreat
set_option maxRecDepth 100000
namespace Go.Proofs.YtfdedoiiahbnnaaGreat
open Go Go.RowKit Dv Go.Proofs.Tryz
theorem UK:Enters prog 14:=enters_of func14 (by decide +kernel) rfl
theorem KA:Enters prog 21:=enters_of func21 (by decide +kernel) rfl
theorem Fj:Enters prog 33:=enters_of func33 (by decide +kernel) rfl
theorem Oe:Enters prog 34:=enters_of func34 (by decide +kernel) rfl
theorem Og:Enters prog 35:=enters_of func35 (by decide +kernel) rfl
theorem QJ:Enters prog 36:=enters_of func36 (by decide +kernel) rfl
theorem Oh:Enters prog 39:=enters_of func39 (by decide +kernel) rfl
theorem UL:Enters prog 54:=enters_of func54 (by decide +kernel) rfl
theorem QK:Enters prog 55:=enters_of func55 (by decide +kernel) rfl
theorem UM:Enters prog 56:=enters_of func56 (by decide +kernel) rfl
theorem UN:Enters prog 57:=enters_of func57 (by decide +kernel) rfl
theorem UO:Enters prog 58:=enters_of func58 (by decide +kernel) rfl
theorem BS:Enters prog 59:=enters_of func59 (by decide +kernel) rfl
theorem Oi:Enters prog 60:=enters_of func60 (by decide +kernel) rfl
theorem UP:Enters prog 80:=enters_of func80 (by decide +kernel) rfl
theorem KB:Enters prog 81:=enters_of func81 (by decide +kernel) rfl
theorem HA:Enters prog 82:=enters_of func82 (by decide +kernel) rfl
theorem UQ:Enters prog 83:=enters_of func83 (by decide +kernel) rfl
theorem Oj:Enters prog 84:=enters_of func84 (by decide +kernel) rfl
theorem QL:Enters prog 85:=enters_of func85 (by decide +kernel) rfl
theorem UR:Enters prog 86:=enters_of func86 (by decide +kernel) rfl
theorem US:Enters prog 87:=enters_of func87 (by decide +kernel) rfl
theorem QM:Enters prog 88:=enters_of func88 (by decide +kernel) rfl
theorem QN:Enters prog 89:=enters_of func89 (by decide +kernel) rfl
theorem UT:Enters prog 90:=enters_of func90 (by decide +kernel) rfl
theorem Ol:Enters prog 91:=enters_of func91 (by decide +kernel) rfl
theorem UU:Enters prog 92:=enters_of func92 (by decide +kernel) rfl
theorem UW:Enters prog 93:=enters_of func93 (by decide +kernel) rfl
theorem QO:Enters prog 112:=enters_of func112 (by decide +kernel) rfl
theorem DL:Enters prog 118:=enters_of func118 (by decide +kernel) rfl
theorem gZ:Enters prog 119:=enters_of func119 (by decide +kernel) rfl
theorem Mn:Enters prog 120:=enters_of func120 (by decide +kernel) rfl
theorem QP:Enters prog 121:=enters_of func121 (by decide +kernel) rfl
theorem QQ:Enters prog 122:=enters_of func122 (by decide +kernel) rfl
theorem QR:Enters prog 125:=enters_of func125 (by decide +kernel) rfl
theorem QS:Enters prog 131:=enters_of func131 (by decide +kernel) rfl
theorem DM:Enters prog 138:=enters_of func138 (by decide +kernel) rfl
theorem hU:Enters prog 139:=enters_of func139 (by decide +kernel) rfl
theorem yL:Enters prog 154:=enters_of func154 (by decide +kernel) rfl
theorem QT:Enters prog 155:=enters_of func155 (by decide +kernel) rfl
theorem HB:Enters prog 156:=enters_of func156 (by decide +kernel) rfl
theorem QU:Enters prog 157:=enters_of func157 (by decide +kernel) rfl
theorem Mo:Enters prog 158:=enters_of func158 (by decide +kernel) rfl
theorem eV:Enters prog 159:=enters_of func159 (by decide +kernel) rfl
theorem DN:Enters prog 160:=enters_of func160 (by decide +kernel) rfl
theorem QV:Enters prog 161:=enters_of func161 (by decide +kernel) rfl
theorem lx:Enters prog 162:=enters_of func162 (by decide +kernel) rfl
theorem fU:Enters prog 163:=enters_of func163 (by decide +kernel) rfl
theorem QW:Enters prog 164:=enters_of func164 (by decide +kernel) rfl
theorem QX:Enters prog 165:=enters_of func165 (by decide +kernel) rfl
theorem vf:Enters prog 166:=enters_of func166 (by decide +kernel) rfl
theorem DO:Enters prog 167:=enters_of func167 (by decide +kernel) rfl
theorem sq:Enters prog 168:=enters_of func168 (by decide +kernel) rfl
theorem HC:Enters prog 169:=enters_of func169 (by decide +kernel) rfl
theorem DP:Enters prog 170:=enters_of func170 (by decide +kernel) rfl
theorem QY:Enters prog 171:=enters_of func171 (by decide +kernel) rfl
theorem HD:Enters prog 172:=enters_of func172 (by decide +kernel) rfl
theorem QZ:Enters prog 200:=enters_of func200 (by decide +kernel) rfl
theorem Q0:Enters prog 201:=enters_of func201 (by decide +kernel) rfl
theorem Mp:Enters prog 205:=enters_of func205 (by decide +kernel) rfl
theorem Q5:Enters prog 206:=enters_of func206 (by decide +kernel) rfl
theorem fD:Enters prog 220:=enters_of func220 (by decide +kernel) rfl
theorem HE:Enters prog 225:=enters_of func225 (by decide +kernel) rfl
theorem Mq:Enters prog 235:=enters_of func235 (by decide +kernel) rfl
theorem Q6:Enters prog 236:=enters_of func236 (by decide +kernel) rfl
theorem dG:Enters prog 237:=enters_of func237 (by decide +kernel) rfl
theorem Q7:Enters prog 238:=enters_of func238 (by decide +kernel) rfl
theorem Q8:Enters prog 239:=enters_of func239 (by decide +kernel) rfl
theorem Mr:Enters prog 240:=enters_of func240 (by decide +kernel) rfl
theorem Ms:Enters prog 241:=enters_of func241 (by decide +kernel) rfl
theorem yM:Enters prog 242:=enters_of func242 (by decide +kernel) rfl
theorem Mt:Enters prog 243:=enters_of func243 (by decide +kernel) rfl
theorem Mu:Enters prog 244:=enters_of func244 (by decide +kernel) rfl
theorem yN:Enters prog 245:=enters_of func245 (by decide +kernel) rfl
theorem vg:Enters prog 246:=enters_of func246 (by decide +kernel) rfl
theorem Mv:Enters prog 247:=enters_of func247 (by decide +kernel) rfl
theorem HF:Enters prog 248:=enters_of func248 (by decide +kernel) rfl
theorem Q9:Enters prog 249:=enters_of func249 (by decide +kernel) rfl
theorem Mw:Enters prog 250:=enters_of func250 (by decide +kernel) rfl
theorem yO:Enters prog 251:=enters_of func251 (by decide +kernel) rfl
theorem kL:Enters prog 275:=enters_of func275 (by decide +kernel) rfl
theorem Mx:Enters prog 284:=enters_of func284 (by decide +kernel) rfl
theorem My:Enters prog 285:=enters_of func285 (by decide +kernel) rfl
theorem Ra:Enters prog 286:=enters_of func286 (by decide +kernel) rfl
theorem Rb:Enters prog 287:=enters_of func287 (by decide +kernel) rfl
theorem HG:Enters prog 288:=enters_of func288 (by decide +kernel) rfl
theorem Mz:Enters prog 289:=enters_of func289 (by decide +kernel) rfl
theorem MA:Enters prog 290:=enters_of func290 (by decide +kernel) rfl
theorem Rc:Enters prog 291:=enters_of func291 (by decide +kernel) rfl
theorem Re:Enters prog 292:=enters_of func292 (by decide +kernel) rfl
theorem Rf:Enters prog 293:=enters_of func293 (by decide +kernel) rfl
theorem yP:Enters prog 294:=enters_of func294 (by decide +kernel) rfl
theorem HH:Enters prog 295:=enters_of func295 (by decide +kernel) rfl
theorem Rg:Enters prog 296:=enters_of func296 (by decide +kernel) rfl
theorem MB:Enters prog 297:=enters_of func297 (by decide +kernel) rfl
theorem Rh:Enters prog 298:=enters_of func298 (by decide +kernel) rfl
theorem Ri:Enters prog 299:=enters_of func299 (by decide +kernel) rfl
theorem yQ:Enters prog 327:=enters_of func327 (by decide +kernel) rfl
theorem Rj:Enters prog 328:=enters_of func328 (by decide +kernel) rfl
theorem Rk:Enters prog 329:=enters_of func329 (by decide +kernel) rfl
theorem Rm:Enters prog 330:=enters_of func330 (by decide +kernel) rfl
theorem Rn:Enters prog 331:=enters_of func331 (by decide +kernel) rfl
theorem Ro:Enters prog 332:=enters_of func332 (by decide +kernel) rfl
theorem MC:Enters prog 333:=enters_of func333 (by decide +kernel) rfl
theorem MD:Enters prog 334:=enters_of func334 (by decide +kernel) rfl
theorem ME:Enters prog 335:=enters_of func335 (by decide +kernel) rfl
theorem DQ:Enters prog 336:=enters_of func336 (by decide +kernel) rfl
theorem vh:Enters prog 337:=enters_of func337 (by decide +kernel) rfl
theorem MF:Enters prog 338:=enters_of func338 (by decide +kernel) rfl
theorem MG:Enters prog 339:=enters_of func339 (by decide +kernel) rfl
theorem DR:Enters prog 347:=enters_of func347 (by decide +kernel) rfl
theorem Rp:Enters prog 348:=enters_of func348 (by decide +kernel) rfl
theorem Rq:Enters prog 349:=enters_of func349 (by decide +kernel) rfl
theorem Rr:Enters prog 350:=enters_of func350 (by decide +kernel) rfl
theorem Rs:Enters prog 351:=enters_of func351 (by decide +kernel) rfl
theorem Rt:Enters prog 352:=enters_of func352 (by decide +kernel) rfl
theorem Ru:Enters prog 353:=enters_of func353 (by decide +kernel) rfl
theorem DS:Enters prog 354:=enters_of func354 (by decide +kernel) rfl
theorem Rw:Enters prog 355:=enters_of func355 (by decide +kernel) rfl
theorem MH:Enters prog 356:=enters_of func356 (by decide +kernel) rfl
theorem Rx:Enters prog 357:=enters_of func357 (by decide +kernel) rfl
theorem Ry:Enters prog 362:=enters_of func362 (by decide +kernel) rfl
theorem Rz:Enters prog 363:=enters_of func363 (by decide +kernel) rfl
theorem RA:Enters prog 364:=enters_of func364 (by decide +kernel) rfl
theorem vi:Enters prog 365:=enters_of func365 (by decide +kernel) rfl
end Go.Proofs.YtfdedoiiahbnnaaGreat
namespace Go.Proofs.YtfdedoiiahbnnaaGreat
open Go Go.RowKit Dv
structure Wd where
 s:ByteArray
 a:Int
structure Hd where
 au:Int
 dR:Int
 lo:Int
 hi:Int
 most:Int
 aD:List Wd
 name:Wd
structure Ph where
 name:Wd
 bare:Bool
 label:List Wd
 wide:Int
 ck:Int
 cn:Int
 ca:Int
 cl:List Wd
mutual
inductive Ty where
 | mk (h:Hd) (ps:Pts)
inductive Pts where
 | nil
 | cons (p:Ph) (t:Ty) (r:Pts)
end
def Ty.h:Ty->Hd | .mk h _=>h
def Ty.ps:Ty->Pts | .mk _ ps=>ps
def Pts.toList:Pts->List (Ph × Ty)
 | .nil=>[]
 | .cons p t r=>(p,t) :: r.toList
def Pts.len:Pts->Nat
 | .nil=>0
 | .cons _ _ r=>r.len + 1
theorem Pts.HI:∀ ps:Pts,ps.len=ps.toList.length
 | .nil=>rfl
 | .cons _ _ r=>by simp [Pts.len,Pts.toList,Pts.HI r]
def Wd.wt (w:Wd):Nat:=w.s.size + 64
def wdsWt:List Wd->Nat
 | []=>0
 | w :: r=>w.wt + wdsWt r
def Hd.wt (h:Hd):Nat:=256 + wdsWt h.aD + h.name.wt
def Ph.wt (p:Ph):Nat:=256 + p.name.wt + wdsWt p.label + wdsWt p.cl
mutual
def Ty.wt:Ty->Nat
 | .mk h ps=>h.wt + ps.wt
def Pts.wt:Pts->Nat
 | .nil=>0
 | .cons p t r=>p.wt + t.wt + r.wt
end
theorem cW:∀ l:List Wd,64 * l.length<=wdsWt l
 | []=>bn _
 | w :: r=>by have:=cW r;simp only [List.length_cons,wdsWt,Wd.wt];omega
theorem l7:∀ {l:List Wd} {w:Wd},w∈l->w.s.size + 64<=wdsWt l
 | x :: r,w,h=>by
  rcases fp h with h | h
  ·subst h;simp only [wdsWt,Wd.wt];omega
  ·have:=l7 h;simp only [wdsWt];omega
theorem Pts.ng:∀ ps:Pts,256 * ps.len<=ps.wt
 | .nil=>bn _
 | .cons p t r=>by have:=Pts.ng r;simp only [Pts.len,Pts.wt,Ph.wt];omega
theorem Pts.nh:∀ {ps:Pts} {p:Ph} {t:Ty},(p,t)∈ps.toList->p.wt + t.wt<=ps.wt
 | .cons p t r,q,u,h=>by
  rcases fp h with h | h
  ·cases h;simp only [Pts.wt];omega
  ·have:=Pts.nh h;simp only [Pts.wt];omega
theorem Ty.pA (t:Ty):256<=t.wt:=by
 cases t;simp only [Ty.wt,Hd.wt];omega
def lg (w:Wd):List DV:=[.v (.string w.s),.v (.int .i64 w.a)]
def bZ (l:List Wd):List (List DV):=l.map lg
def j9 (p:Ph) (tl:List DV):List DV:=
 .v (.string p.name.s) :: .v (.int .i64 p.name.a) :: .v (.bool p.bare) :: .sl 2 (bZ p.label) none :: .v (.int .i64 p.wide) :: .v (.int .i64 p.ck) :: .v (.int .i64 p.cn) :: .v (.int .i64 p.ca) :: .sl 2 (bZ p.cl) none :: tl
mutual
def di:Ty->List DV
 | .mk h ps=>[.v (.int .i64 h.au),.v (.int .i64 h.dR),.v (.int .i64 h.lo),.v (.int .i64 h.hi),.v (.int .i64 h.most),.sl 2 (bZ h.aD) none,.sl 18 (eF ps) none,.v (.string h.name.s),.v (.int .i64 h.name.a)]
def eF:Pts->List (List DV)
 | .nil=>[]
 | .cons p t r=>j9 p (di t) :: eF r
end
theorem aM (l:List Wd):(bZ l).length=l.length:=by simp [bZ]
theorem bN:∀ ps:Pts,(eF ps).length=ps.len
 | .nil=>by simp [eF,Pts.len]
 | .cons p t r=>by simp [eF,Pts.len,bN r]
theorem eH {l:List Wd} {j:Nat} {w:Wd} (h:l[j]? = some w):(bZ l)[j]? = some (lg w):=by simp [bZ,h]
theorem Fk {l:List Wd} {e:Nat} {x:Wd} (h:l[e]? = some x):bZ (l.take e) ++ [lg x]=bZ (l.take (e + 1)):=by
 rw [List.take_add_one,h];simp [bZ]
theorem fF:∀ {ps:Pts} {j:Nat} {p:Ph} {t:Ty},ps.toList[j]? = some (p,t)->(eF ps)[j]? = some (j9 p (di t))
 | .nil,j,p,t,h=>by simp [Pts.toList] at h
 | .cons q u r,0,p,t,h=>by grind [Pts.toList,eF]
 | .cons q u r,j + 1,p,t,h=>by
  simp only [Pts.toList,List.getElem?_cons_succ] at h;simp only [eF,List.getElem?_cons_succ];exact fF h
def Pts.drop:Nat->Pts->Pts
 | 0,ps=>ps
 | _ + 1,.nil=>.nil
 | e + 1,.cons _ _ r=>r.drop e
theorem Pts.drop_cons:∀ {e:Nat} {ps:Pts} {p:Ph} {t:Ty},ps.toList[e]? = some (p,t)->ps.drop e = .cons p t (ps.drop (e + 1))
 | 0,.cons q u r,p,t,h=>by
  simp only [Pts.toList,List.getElem?_cons_zero,oI,Prod.mk.injEq] at h;obtain ⟨rfl,rfl⟩:=h;rfl
 | e + 1,.cons q u r,p,t,h=>by
  simp only [Pts.toList,List.getElem?_cons_succ] at h;simp only [Pts.drop];exact Pts.drop_cons h
 | 0,.nil,p,t,h=>by simp [Pts.toList] at h
 | e + 1,.nil,p,t,h=>by simp [Pts.toList] at h
theorem Pts.ly:∀ (ps:Pts),ps.drop ps.len = .nil
 | .nil=>rfl
 | .cons _ _ r=>by simp only [Pts.len,Pts.drop];exact Pts.ly r
theorem Pts.ni {ps:Pts} {e:Nat} (h:e < ps.len):∃ p t,ps.toList[e]? = some (p,t):=by
 rw [Pts.HI] at h;exact ⟨_,_,gE h⟩
theorem drop_cons {α:Type} {l:List α} {e:Nat} {x:α} (h:l[e]? = some x):l.drop e=x :: l.drop (e + 1):=by
 obtain ⟨h1,h2⟩:=List.getElem?_eq_some_iff.1 h;rw [<- h2];exact List.drop_eq_getElem_cons h1
def aY:ByteArray:=⟨#[]⟩
def BT:Hd:=⟨0,0,0,0,0,[],⟨aY,0⟩⟩
def bO:Ty:=.mk BT .nil
def cj:Ph:=⟨⟨aY,0⟩,false,[],0,0,0,0,[]⟩
def kx:Ph:=⟨⟨aY,0⟩,true,[],0,0,0,0,[]⟩
theorem gy {e n:Nat} (h:e < n) (hn:n<=4611686018427387904):IntKind.i64.wrap ((e:Int) + 1)=((e + 1:Nat):Int):=by
 rw [IntWalk.i64_in _ ⟨by omega,by omega⟩];omega
theorem wrap64 {n:Int} (h1 : -9223372036854775808<=n) (h2:n<=9223372036854775807):IntKind.i64.wrap n=n:=IntWalk.i64_in n ⟨h1,h2⟩
theorem aC (x a:Bool):pickB x a false=(x && a):=by cases x<;>rfl
theorem aG (x b:Bool):pickB x true b=(x || b):=by cases x<;>rfl
end Go.Proofs.YtfdedoiiahbnnaaGreat
set_option maxRecDepth 100000
namespace Go.Proofs.YtfdedoiiahbnnaaGreat
open Go Go.RowKit Dv Go.Proofs.Tryz
def isLet (c:Int):Bool:=decide (97<=c) && decide (c<=122)
def fm (c:Int):Bool:=(isLet c || (decide (48<=c) && decide (c<=57))) || decide (c=95)
def signs:List UInt8->Nat
 | []=>0
 | c :: r=>if fm c.toNat=true then signs r + 1 else 0
def bw:List UInt8->Nat
 | []=>0
 | c :: r=>if isLet c.toNat=true then signs r + 1 else 0
def az (s:ByteArray):Bool:=decide (0 < s.size) && (decide (s.size<=32) && decide (bw s.data.toList=s.size))
theorem qm {c:Int} (h:isLet c=true):fm c=true:=by simp [fm,h]
theorem yR:∀ l:List UInt8,signs l<=l.length
 | []=>bn _
 | c :: r=>by
  simp only [signs,List.length_cons];split
  ·have:=yR r;omega
  ·omega
theorem lz {c:UInt8} {r:List UInt8} (h:isLet c.toNat=true):bw (c :: r)=signs (c :: r):=by
 simp [bw,signs,h,qm h]
theorem bp {s:ByteArray} {k:Nat} (h:k < s.size):∃ c:UInt8,s.data.toList.drop k=c :: s.data.toList.drop (k + 1)/\aE s k=c.toNat:=by
 have hk:k < s.data.toList.length:=sU h;refine ⟨s.data.toList[k],by rw [<- List.drop_eq_getElem_cons hk],?_⟩
 grind [aE]
theorem yS {s:ByteArray} {k:Nat} (h:s.size<=k):s.data.toList.drop k=[]:=List.drop_eq_nil_of_le (sU h)
theorem qq (c:Int):cw prog 235 [.v (.int .u8 c)] (.v (.bool (isLet c))):=by
 refine eG 9 [.tmp 2] func235 rfl ntmps235 rfl fun _ _ _ _=>?_;exact (congrArg (fun b=>DV.v (.bool b)) (aC _ _):_=_)
theorem Fl (c:Int):cw prog 236 [.v (.int .u8 c)] (.v (.bool (fm c))):=by
 refine eG 17 [.tmp 2] func236 rfl ntmps236 rfl fun _ _ _ _=>?_;refine cP Mq (qq c) ?_;refine (dA ?_:);simp only [aC,aG,fm]
abbrev BU (s:ByteArray) (i e:Nat):St:=⟨[bQ 5 e,(0,⟨[],.v (.string s)⟩),bQ 1 i],[],[]⟩
theorem ov (s:ByteArray) (i:Nat):s.extract i (i + 0)=⟨#[]⟩:=by
 apply ByteArray.ext
 simp_all
theorem vj (s:ByteArray) (i:Nat) (hi:i < s.size) (hs:s.size<=4611686018427387904):cw prog 154 [.v (.string s),.v (.int .i64 i)]
  (.cp [.v (.string (s.extract i (i + bw (s.data.toList.drop i)))),.v (.int .i64 ((i + bw (s.data.toList.drop i):Nat):Int))]):=by
 obtain ⟨c0,BV,nT⟩:=bp hi;refine eG 38 [.tmp 4,.tmp 5] func154 rfl ntmps154 rfl fun _ _ _ _=>?_;refine br (fun h=>?_) (fun _=>?_)
 ·simp [aG] at h;omega
 refine ⟨⟨by omega,by omega⟩,?_⟩;refine cP Mq (qq _) ?_;refine br ?_ ?_<;>intro h
 ·have hl:isLet (c0.toNat:Int)=false:=by grind
  have hn:bw (s.data.toList.drop i)=0:=by rw [BV];simp [bw,hl]
  rw [hn,ov];exact ⟨_,ax,rfl⟩
 have hl:isLet (c0.toNat:Int)=true:=by grind
 have hn:bw (s.data.toList.drop i)=signs (s.data.toList.drop i):=by rw [BV];exact lz hl
 rw [hn]
 refine de (fun j st=>∃ e:Nat,st=BU s i e/\e<=s.size/\i<=e/\e + signs (s.data.toList.drop e)=i + signs (s.data.toList.drop i)/\j=s.size - e)
  (s.size - i) (BU s i i) (fC wB) ⟨i,rfl,by omega,by omega,rfl,rfl⟩ ?_
 rintro j st ⟨e,rfl,he,RB,hinv,rfl⟩;refine br ?_ ?_<;>intro h
 ·have aS:e < s.size:=sU h;refine ⟨⟨by omega,by omega⟩,?_⟩;refine cP Q6 (Fl _) ?_;obtain ⟨c,hd,hb⟩:=bp aS;refine br ?_ ?_<;>intro h2
  ·have UX:fm (c.toNat:Int)=true:=by
    have:fm ((aE s e:Nat):Int)=true:=h2
    rwa [hb] at this
   refine ⟨BU s i (e + 1),(fC (nc (gy aS (by omega)))),s.size - (e + 1),by omega,e + 1,rfl,by omega,by omega,?_,rfl⟩;rw [hd] at hinv;simp only [signs,UX,if_true] at hinv;omega
  ·have UX:fm (c.toNat:Int)=false:=by
    have:fm ((aE s e:Nat):Int)=false:=h2
    rwa [hb] at this
   rw [hd] at hinv;simp only [signs,UX] at hinv;refine ⟨⟨by omega,by omega,by omega⟩,?_⟩;have:i + signs (s.data.toList.drop i)=e:=by simp at hinv;omega
   rw [this];exact ⟨_,ax,rfl⟩
 ·have hge:e=s.size:=by simp at h;omega
  rw [yS (by omega)] at hinv;simp only [signs] at hinv;refine ⟨⟨by omega,by omega,by omega⟩,?_⟩;have:i + signs (s.data.toList.drop i)=e:=by omega
  rw [this];exact ⟨_,ax,rfl⟩
theorem take_nil (s:ByteArray) (hs:s.size=0):cw prog 154 [.v (.string s),.v (.int .i64 0)] (.cp [.v (.string ⟨#[]⟩),.v (.int .i64 0)]):=by
 refine eG 38 [.tmp 4,.tmp 5] func154 rfl ntmps154 rfl fun _ _ _ _=>?_;refine br (fun _=>?_) (fun h=>?_)
 ·exact ⟨_,ax,rfl⟩
 ·simp [aG,hs] at h
theorem ky (l:List UInt8):bw l<=l.length:=by
 cases l with
 | nil=>exact bn _
 | cons c r=>grind [bw,yR]
theorem yT (s:ByteArray):decide (s=⟨#[]⟩)=decide (s.size=0):=by
 rw [Bool.eq_iff_iff];simp only [decide_eq_true_eq];constructor
 ·rintro rfl;rfl
 ·intro h;apply ByteArray.ext;exact Array.eq_empty_of_size_eq_zero h
theorem iL (s:ByteArray) (hs:s.size<=4611686018427387904):cw prog 82 [.v (.string s)] (.v (.bool (az s))):=by
 refine eG 22 [.tmp 2] func82 rfl ntmps82 rfl fun _ _ _ _=>?_;by_cases h0:s.size=0
 ·refine cP yL (take_nil s h0) ?_;refine (dA ?_:);simp [aC,az,yT,h0]
 ·refine cP yL (vj s 0 (by omega) hs) ?_;refine (dA ?_:);have hl:=ky s.data.toList;simp only [Array.length_toList,ByteArray.size_data] at hl;simp only [aC,az,yT,List.drop_zero,Nat.zero_add];rw [Bool.eq_iff_iff];simp only [aZ,decide_eq_true_eq,Bool.not_eq_true',decide_eq_false_iff_not];omega
def hZ (l:List ByteArray):List (List DV):=l.map fun s=>[.v (.string s)]
def cg (l:List Nat):List (List DV):=l.map fun (i:Nat)=>[.v (.int .i64 (i:Int))]
theorem ij (l:List ByteArray):(hZ l).length=l.length:=by simp [hZ]
theorem dH (l:List Nat):(cg l).length=l.length:=by simp [cg]
theorem gz {l:List ByteArray} {j:Nat} {x:ByteArray} (h:l[j]? = some x):(hZ l)[j]? = some [.v (.string x)]:=by simp [hZ,h]
theorem gj {l:List Nat} {j:Nat} {x:Nat} (h:l[j]? = some x):(cg l)[j]? = some [.v (.int .i64 (x:Int))]:=by simp [cg,h]
abbrev BW (g:Nat) (cb:List DV) (i j:Nat):St:=⟨[(1,⟨[],.fn g [] cb⟩),bQ 5 i,bQ 6 j],[],[]⟩
theorem yU (g:Nat) (fN:Enters prog g) (cb:List DV) (n m:Nat) (hn:n<=1099511627776) (hm:m<=n) (RC:CcL [] 0 0 0 cb cb) (fB:clB.clL 0 0 cb=true)
  (hp:∀ i:Nat,i < n->cw prog g (.v (.int .i64 i) :: cb) (.v (.bool (decide (m<=i))))) :
  cw prog 200 [.v (.int .i64 n),.fn g [] cb] (.v (.int .i64 m)):=by
 refine eG 26 [.tmp 4] func200 rfl ntmps200 rfl fun _ _ _ _=>?_;have ya:clB 0 0 (.fn g [] cb)=true:=by simp only [clB,aZ];exact ⟨rfl,fB⟩
 refine lI (fun j st=>∃ a b:Nat,st=BW g cb a b/\a<=m/\m<=b/\b<=n/\j=b - a) ⟨0,n,rfl,by omega,by omega,by omega,rfl⟩ (fC (nc ya)) ?_;rintro j st ⟨a,b,rfl,h1,h2,h3,rfl⟩;refine br ?_ ?_<;>intro h
 ·have aS:a < b:=sU h
  have Om:IntKind.i64.wrap ((IntKind.u64.wrap (IntKind.i64.wrap ((a:Int) + (b:Int)))).fdiv (2 ^ (min ((1:Int).toNat) IntKind.u64.bits)))=(((a + b) / 2:Nat):Int):=by
   rw [wrap64 (n:=(a:Int) + (b:Int)) (by omega) (by omega),IntKind.wrap_u64];have e2:(2:Int) ^ (min ((1:Int).toNat) IntKind.u64.bits)=2:=by decide
   rw [e2,Int.fdiv_eq_ediv_of_nonneg _ (by decide),wrap64 (by omega) (by omega)];omega
  refine ⟨by decide,?_⟩;refine cP fN (hp ((a + b) / 2) (by omega)) ?_ ⟨_,_,rfl,congrArg (fun z=>DV.v (.int .i64 z)) Om,RC⟩;refine br ?_ ?_<;>intro hq
  ·have hq:(a + b) / 2 < m:=sU hq;have rN:=gy (e:=(a + b) / 2) (n:=n) (by omega) (by omega);rw [<- Om] at rN;refine ⟨BW g cb ((a + b) / 2 + 1) b,(fC (yb ya rN)),b - ((a + b) / 2 + 1),by omega,(a + b) / 2 + 1,b,rfl,by omega,by omega,by omega,rfl⟩
  ·have hq:m<=(a + b) / 2:=sU hq;refine ⟨BW g cb a ((a + b) / 2),(fC (yb ya Om)),(a + b) / 2 - a,by omega,a,(a + b) / 2,rfl,by omega,by omega,by omega,rfl⟩
 ·have hge:¬ a < b:=sU h;have:a=m:=by omega
  subst this;exact (rfl:_=_)
def DT (a b:ByteArray):Bool:=Op.bytesLess a.data.toList b.data.toList
theorem ju:∀ l:List UInt8,Op.bytesLess l l=false
 | []=>rfl
 | a :: r=>by simp [Op.bytesLess,ju r]
theorem iM:∀ {a b:List UInt8},Op.bytesLess a b=true->Op.bytesLess b a=false
 | _,[],h=>by simp [Op.bytesLess] at h
 | [],b :: r,_=>rfl
 | a :: x,b :: y,h=>by
  simp only [Op.bytesLess,Bool.or_eq_true,decide_eq_true_eq,aZ,beq_iff_eq] at h;simp only [Op.bytesLess,Bool.or_eq_false_iff,decide_eq_false_iff_not,Bool.and_eq_false_imp,beq_iff_eq];rcases h with h | ⟨rfl,h⟩
  ·grind
  ·exact ⟨UInt8.lt_irrefl _,fun _=>iM h⟩
structure HJ (L:List ByteArray) (lA:List Nat):Prop where
 lt:∀ (i p:Nat),lA[i]? = some p->p < L.length
 WT:∀ (i j p q:Nat) (s t:ByteArray),i < j->lA[i]? = some p->lA[j]? = some q->L[p]? = some s->L[q]? = some t->DT s t=true
 fst:∀ (i p j:Nat) (s:ByteArray),lA[i]? = some p->L[p]? = some s->L[j]? = some s->p<=j
 all:∀ (j:Nat) (s:ByteArray),L[j]? = some s->∃ i p:Nat,lA[i]? = some p/\L[p]? = some s
abbrev BX (L:List ByteArray) (lA:List Nat):List DV:=[.sl 1 (hZ L) none,.sl 1 (cg lA) none]
theorem BZ (L:List ByteArray) (lA:List Nat) (s:ByteArray) (i p:Nat) (t:ByteArray) (hi:lA[i]? = some p) (hp:L[p]? = some t) :
  cw prog 201 [.v (.int .i64 i),.pt [.pt (BX L lA) 0] 0,.pt [.v (.string s)] 0] (.v (.bool (!DT t s))):=by
 refine eG 20 [.tmp 4] func201 rfl ntmps201 rfl fun _ _ _ _=>?_;refine dI ?_;refine iX (gj hi) ?_;refine iX (gz hp) ?_;exact (rfl:_=_)
theorem find_spec (L:List ByteArray) (lA:List Nat) (s:ByteArray) (q p:Nat) (hT:HJ L lA) (hl:lA.length<=1099511627776) (hq:lA[q]? = some p) (hp:L[p]? = some s) :
  cw prog 112 [.pt (BX L lA) 0,.v (.string s)] (.cp [.v (.int .i64 p),.v (.bool true)]):=by
 have hqlt:=(gS hq).1;refine eG 47 [.tmp 4,.tmp 5] func112 rfl ntmps112 rfl fun _ _ _ _=>?_
 have fB:∀ i:Nat,i < lA.length->cw prog 201 [.v (.int .i64 i),.pt [.pt (BX L lA) 0] 0,.pt [.v (.string s)] 0] (.v (.bool (decide (q<=i)))):=by
  intro i hi;obtain ⟨p',yF⟩:∃ p',lA[i]? = some p':=⟨_,gE hi⟩;obtain ⟨t,ht⟩:∃ t,L[p']? = some t:=⟨_,gE (hT.lt i p' yF)⟩;have:=BZ L lA s i p' t yF ht
  have e:(!DT t s)=decide (q<=i):=by
   rcases Nat.lt_trichotomy i q with h | h | h
   ·rw [hT.WT i q p' p t s h yF hq ht hp];simp;omega
   ·grind [DT,ju]
   ·have h2:=hT.WT q i p p' s t h hq yF hp ht;rw [DT,iM h2];simp;omega
  rw [e] at this;exact this
 have hS:=yU 201 Q0 [.pt [.pt (BX L lA) 0] 0,.pt [.v (.string s)] 0] lA.length q hl (by omega) ax rfl fB;refine Oa QZ hS (rZ (dH lA)) rfl ?_;refine dI ?_;refine br ?_ ?_<;>intro h
 ·refine iX (gj hq) ?_;refine iX (gz hp) ?_;refine br ?_ ?_<;>intro h2
  ·exfalso;simp [aG,dH] at h2
  ·refine iX (gj hq) ?_;exact ⟨_,ax,rfl⟩
 ·grind [cg,dH]
end Go.Proofs.YtfdedoiiahbnnaaGreat
set_option maxRecDepth 100000
namespace Go.Proofs
open Go.Shelf
def Tryz.laysGg6_ren:Go.Shelf.Ren:=⟨fun | 6=>206 | 10=>276 | 11=>277 | 12=>278 | 13=>279 | 14=>280 | 24=>317 | 25=>318 | 26=>319 | 27=>320 | 28=>321 | 29=>322 | 30=>323 | 31=>324 | 32=>325 | 33=>326 | 34=>342 | 35=>343 | 36=>344 | 37=>345 | 38=>346 | 39=>360 | n=>n,fun | 20=>20 | 26=>272 | 35=>348 | 0=>0 | 37=>350 | 3=>3 | 41=>343 | 44=>355 | 49=>374 | 51=>290 | 4=>4 | 54=>377 | 53=>376 | 58=>101 | 5=>5 | 9=>9 | 60=>394 | 64=>398 | 66=>411 | 67=>71 | 17=>17 | 32=>287 | 33=>346 | 82=>428 | 12=>12 | 75=>422 | 76=>423 | 77=>424 | 78=>199 | 79=>425 | 80=>426 | n=>n,fun | n=>n⟩
theorem Tryz.laysGg6:Go.Proofs.LaysGg.n6 prog Tryz.laysGg6_ren:={
 mixed:=by kernel_rfl
 f6:=func206.trans (congrArg some (by kernel_rfl))
 f10:=func276.trans (congrArg some (by kernel_rfl))
 f11:=func277.trans (congrArg some (by kernel_rfl))
 f12:=func278.trans (congrArg some (by kernel_rfl))
 f13:=func279.trans (congrArg some (by kernel_rfl))
 f14:=func280.trans (congrArg some (by kernel_rfl))
 f24:=func317.trans (congrArg some (by kernel_rfl))
 f25:=func318.trans (congrArg some (by kernel_rfl))
 f26:=func319.trans (congrArg some (by kernel_rfl))
 f27:=func320.trans (congrArg some (by kernel_rfl))
 f28:=func321.trans (congrArg some (by kernel_rfl))
 f29:=func322.trans (congrArg some (by kernel_rfl))
 f30:=func323.trans (congrArg some (by kernel_rfl))
 f31:=func324.trans (congrArg some (by kernel_rfl))
 f32:=func325.trans (congrArg some (by kernel_rfl))
 f33:=func326.trans (congrArg some (by kernel_rfl))
 f34:=func342.trans (congrArg some (by kernel_rfl))
 f35:=func343.trans (congrArg some (by kernel_rfl))
 f36:=func344.trans (congrArg some (by kernel_rfl))
 f37:=func345.trans (congrArg some (by kernel_rfl))
 f38:=func346.trans (congrArg some (by kernel_rfl))
 f39:=func360.trans (congrArg some (by kernel_rfl))
 t0:=Tryz.underlying0
 a0:=Tryz.isAgg0
 z0:=Tryz.sizeOf0
 v0:=Tryz.zeroValue0
 i0:=by kernel_rfl
 t3:=Tryz.underlying3
 a3:=Tryz.isAgg3
 z3:=Tryz.sizeOf3
 v3:=Tryz.zeroValue3
 i3:=by kernel_rfl
 t4:=Tryz.underlying4
 a4:=Tryz.isAgg4
 z4:=Tryz.sizeOf4
 v4:=Tryz.zeroValue4
 i4:=by kernel_rfl
 t5:=Tryz.underlying5
 a5:=Tryz.isAgg5
 z5:=Tryz.sizeOf5
 v5:=Tryz.zeroValue5
 i5:=by kernel_rfl
 t9:=Tryz.underlying9
 a9:=Tryz.isAgg9
 z9:=Tryz.sizeOf9
 v9:=Tryz.zeroValue9
 i9:=by kernel_rfl
 t12:=Tryz.underlying12
 a12:=Tryz.isAgg12
 z12:=Tryz.sizeOf12
 v12:=Tryz.zeroValue12
 i12:=by kernel_rfl
 t17:=Tryz.underlying17
 a17:=Tryz.isAgg17
 z17:=Tryz.sizeOf17
 v17:=Tryz.zeroValue17
 i17:=by kernel_rfl
 t20:=Tryz.underlying20
 a20:=Tryz.isAgg20
 z20:=Tryz.sizeOf20
 v20:=Tryz.zeroValue20
 i20:=by kernel_rfl
 t26:=Tryz.underlying272
 a26:=Tryz.isAgg272
 z26:=Tryz.sizeOf272
 v26:=Tryz.zeroValue272
 i26:=by kernel_rfl
 t32:=Tryz.underlying287
 a32:=Tryz.isAgg287
 z32:=Tryz.sizeOf287
 v32:=Tryz.zeroValue287
 i32:=by kernel_rfl
 t33:=Tryz.underlying346
 a33:=Tryz.isAgg346
 z33:=Tryz.sizeOf346
 v33:=Tryz.zeroValue346
 i33:=by kernel_rfl
 t35:=Tryz.underlying348
 a35:=Tryz.isAgg348
 z35:=Tryz.sizeOf348
 v35:=Tryz.zeroValue348
 i35:=by kernel_rfl
 t37:=Tryz.underlying350
 a37:=Tryz.isAgg350
 z37:=Tryz.sizeOf350
 v37:=Tryz.zeroValue350
 i37:=by kernel_rfl
 t41:=Tryz.underlying343
 a41:=Tryz.isAgg343
 z41:=Tryz.sizeOf343
 v41:=Tryz.zeroValue343
 i41:=by kernel_rfl
 t44:=Tryz.underlying355
 a44:=Tryz.isAgg355
 z44:=Tryz.sizeOf355
 v44:=Tryz.zeroValue355
 i44:=by kernel_rfl
 t49:=Tryz.underlying374
 a49:=Tryz.isAgg374
 z49:=Tryz.sizeOf374
 v49:=Tryz.zeroValue374
 i49:=by kernel_rfl
 t51:=Tryz.underlying290
 a51:=Tryz.isAgg290
 z51:=Tryz.sizeOf290
 v51:=Tryz.zeroValue290
 i51:=by kernel_rfl
 t53:=Tryz.underlying376
 a53:=Tryz.isAgg376
 z53:=Tryz.sizeOf376
 v53:=Tryz.zeroValue376
 i53:=by kernel_rfl
 t54:=Tryz.underlying377
 a54:=Tryz.isAgg377
 z54:=Tryz.sizeOf377
 v54:=Tryz.zeroValue377
 i54:=by kernel_rfl
 t58:=Tryz.underlying101
 a58:=Tryz.isAgg101
 z58:=Tryz.sizeOf101
 v58:=Tryz.zeroValue101
 i58:=by kernel_rfl
 t60:=Tryz.underlying394
 a60:=Tryz.isAgg394
 z60:=Tryz.sizeOf394
 v60:=Tryz.zeroValue394
 i60:=by kernel_rfl
 t64:=Tryz.underlying398
 a64:=Tryz.isAgg398
 z64:=Tryz.sizeOf398
 v64:=Tryz.zeroValue398
 i64:=by kernel_rfl
 t66:=Tryz.underlying411
 a66:=Tryz.isAgg411
 z66:=Tryz.sizeOf411
 v66:=Tryz.zeroValue411
 i66:=by kernel_rfl
 t67:=Tryz.underlying71
 a67:=Tryz.isAgg71
 z67:=Tryz.sizeOf71
 v67:=Tryz.zeroValue71
 i67:=by kernel_rfl
 t75:=Tryz.underlying422
 a75:=Tryz.isAgg422
 z75:=Tryz.sizeOf422
 v75:=Tryz.zeroValue422
 i75:=by kernel_rfl
 t76:=Tryz.underlying423
 a76:=Tryz.isAgg423
 z76:=Tryz.sizeOf423
 v76:=Tryz.zeroValue423
 i76:=by kernel_rfl
 t77:=Tryz.underlying424
 a77:=Tryz.isAgg424
 z77:=Tryz.sizeOf424
 v77:=Tryz.zeroValue424
 i77:=by kernel_rfl
 t78:=Tryz.underlying199
 a78:=Tryz.isAgg199
 z78:=Tryz.sizeOf199
 v78:=Tryz.zeroValue199
 i78:=by kernel_rfl
 t79:=Tryz.underlying425
 a79:=Tryz.isAgg425
 z79:=Tryz.sizeOf425
 v79:=Tryz.zeroValue425
 i79:=by kernel_rfl
 t80:=Tryz.underlying426
 a80:=Tryz.isAgg426
 z80:=Tryz.sizeOf426
 v80:=Tryz.zeroValue426
 i80:=by kernel_rfl
 t82:=Tryz.underlying428
 a82:=Tryz.isAgg428
 z82:=Tryz.sizeOf428
 v82:=Tryz.zeroValue428
 i82:=by kernel_rfl }
end Go.Proofs
namespace Go.Proofs.YtfdedoiiahbnnaaGreat
open Go Go.RowKit Go.Lib Go.Sort Go.Proofs.Tryz
noncomputable def UY:TypeInfo:=(prog.info? 96).get (by kernel_rfl)
noncomputable def PK:TypeInfo:=(prog.info? 3).get (by kernel_rfl)
theorem siK (n:Nat) (h2:2<=n):Lib.swapperK n PK 2=5:=by
 have a:PK.hasPointers=false:=by kernel_rfl
 have b:PK.bytes=8:=by kernel_rfl
 have c:(n == 0)=false:=by simp;omega
 have d:(n == 1)=false:=by simp;omega
 simp [Lib.swapperK,a,b,c,d]
theorem HK {α:Type} [Inhabited α] (enc:α->Value) (h1:∀ x,(enc x).oneCell'=true) {lt:α->α->Bool} (hO:SWO lt) (lb:Array Value) (ym c:Nat) (d:Array α) (h2:2<=d.size) (dp:d.size < 4611686018427387904) (w:World)
  (HL:LessReads prog 207 lb enc lt ym 0 d.size w) (hH:Holds enc w ym 0 d) (UZ:ym < w.heap.size) :
  Calls prog 206 #[.iface 96 (.slice (some ⟨ym,0,none⟩) d.size c),.func (.func 207) #[] lb] w fun e w'=>
   e = .returned (.tuple #[])/\∃ d' n os,PermIn 0 d.size d d' /\ SortedIn lt 0 d.size d' /\ w'=grow (putRow enc (Sort.ahead w n) ym 0 d') os:=
 Any.sort_Slice_sorted Tryz.laysGg6 96 3 UY PK (by kernel_rfl) (by kernel_rfl) (by kernel_rfl) (by kernel_rfl) 2 (fun _=>by kernel_rfl) (by kernel_rfl) (fun _=>by kernel_rfl) enc h1 lt hO 207 lb
  (enters_of func207 (by kernel_rfl) rfl) ym 0 c d h2 dp 312 (by rw [siK _ h2];kernel_rfl) true
  (fun args W=>run_callFunc_extern func312 (by kernel_rfl) (by kernel_rfl) (by kernel_rfl) (e:=Extern.ReflectliteSwapper.swap true) (by kernel_rfl) args W) w HL hH UZ
theorem Fm (lb:Array Value) (p:Option Addr) (n c:Nat) (h1:n<=1) (w:World) :
  Calls prog 206 #[.iface 96 (.slice p n c),.func (.func 207) #[] lb] w fun e w'=>e = .returned (.tuple #[])/\∃ os,w'=grow w os:=by
 have h:n=0∨n=1:=by omega
 rcases h with rfl | rfl
 ·exact Any.sort_Slice_tiny Tryz.laysGg6 96 3 UY PK (by kernel_rfl) (by kernel_rfl) (by kernel_rfl) (by kernel_rfl) 2 (fun _=>by kernel_rfl) p 0 c h1 308 (by kernel_rfl) _ _ _ w
 ·exact Any.sort_Slice_tiny Tryz.laysGg6 96 3 UY PK (by kernel_rfl) (by kernel_rfl) (by kernel_rfl) (by kernel_rfl) 2 (fun _=>by kernel_rfl) p 1 c h1 309 (by kernel_rfl) _ _ _ w
end Go.Proofs.YtfdedoiiahbnnaaGreat
set_option maxRecDepth 100000
namespace Go.Proofs.YtfdedoiiahbnnaaGreat
open Go Go.RowKit Dv Go.Proofs.Tryz
theorem mI:∀ {a b:List UInt8},Op.bytesLess a b=false->a=b∨Op.bytesLess b a=true
 | [],[],_=>.inl rfl
 | a :: x,[],_=>.inr rfl
 | [],b :: r,h=>by simp [Op.bytesLess] at h
 | a :: x,b :: y,h=>by
  simp only [Op.bytesLess,Bool.or_eq_false_iff,decide_eq_false_iff_not,Bool.and_eq_false_imp,beq_iff_eq] at h;simp only [Op.bytesLess,Bool.or_eq_true,decide_eq_true_eq,aZ,beq_iff_eq];by_cases HM:a=b
  ·subst HM;rcases mI (h.2 rfl) with h2 | h2
   all_goals grind
  all_goals grind
theorem gQ:∀ {a b c:List UInt8},Op.bytesLess a b=true->Op.bytesLess b c=true->Op.bytesLess a c=true
 | _,[],_,h,_=>by simp [Op.bytesLess] at h
 | _,_ :: _,[],_,h=>by simp [Op.bytesLess] at h
 | [],b :: y,c :: z,_,_=>rfl
 | a :: x,b :: y,c :: z,h1,h2=>by
  simp only [Op.bytesLess,Bool.or_eq_true,decide_eq_true_eq,aZ,beq_iff_eq] at h1 h2 ⊢;rcases h1 with h1 | ⟨rfl,h1⟩
  ·grind
  ·rcases h2 with h2 | ⟨rfl,h2⟩
   ·exact .inl h2
   ·exact .inr ⟨rfl,gQ h1 h2⟩
theorem DU {s t:ByteArray} (h:DT s t=false):s=t∨DT t s=true:=by
 rcases mI h with h | h
 ·exact .inl (ByteArray.ext (Array.ext' h))
 ·exact .inr h
def yV (L:List ByteArray) (p q:Nat):Bool:=
 if L.getD p aY=L.getD q aY then decide (p < q) else DT (L.getD p aY) (L.getD q aY)
theorem KC (L:List ByteArray):Sort.SWO (yV L):=by
 have irr:∀ x,yV L x x=false:=fun x=>by simp [yV]
 have tr:∀ x y z,yV L x y=true->yV L y z=true->yV L x z=true:=by grind [yV,aY,iM,DT,gQ]
 have tot:∀ x y,yV L x y=false->x=y∨yV L y x=true:=by grind [yV,aY,DU]
 refine ⟨irr,tr,fun x y z h1 h2=>?_⟩
 grind
theorem Fo (L:List ByteArray) (d:List Nat) (i j p q:Nat) (hi:d[i]? = some p) (hj:d[j]? = some q) (hp:p < L.length) (hq:q < L.length) :
  WK prog 207 [.v (.int .i64 i),.v (.int .i64 j),.pt [.sl 1 (cg d) none] 0,.pt [.pt [.sl 1 (hZ L) none,.v (.slice none 0 0)] 0] 0] [] [] (fun r _ _=>r = .v (.bool (yV L p q))):=by
 obtain ⟨s,hs⟩:∃ s,L[p]? = some s:=⟨_,gE hp⟩;obtain ⟨t,ht⟩:∃ t,L[q]? = some t:=⟨_,gE hq⟩;have e:yV L p q=if s=t then decide (p < q) else DT s t:=by grind [yV]
 refine Hk (s:=true) (P:=prog) tt sn 5000 50 [.tmp 6] func207 rfl ntmps207 rfl (nL rfl) (fun _ _ _ _=>?_);refine dI ?_;refine iX (gj hi) ?_;refine iX (gj hj) ?_;refine dI ?_;refine iX (gz hs) ?_;refine iX (gz ht) ?_;refine br ?_ ?_<;>intro h
 ·have bM:s≠t:=sU h;refine dI ?_;refine iX (gz hs) ?_;refine iX (gz ht) ?_;refine (dA ?_:);rw [e,af bM];rfl
 ·have dT:s=t:=sU h;refine (dA ?_:);rw [e,aj dT];simp
abbrev HN (p:Nat):Value:=.int .i64 (p:Int)
theorem yW {E:En}:∀ {ds:List Nat} {arr:List Value},RvL E (cg ds).flatten arr->arr=ds.map HN
 | [],arr,h=>by simpa [cg,RvL] using h
 | x :: r,arr,h=>by
  simp only [cg,List.map_cons,List.flatten_cons,List.cons_append,List.nil_append,RvL] at h;obtain ⟨v,s,rfl,h1,h2⟩:=h;unfold Rv at h1;rw [h1.1,yW (ds:=r) h2];rfl
theorem sr {E:En}:∀ ds:List Nat,RvC E (cg ds).flatten (ds.map HN)
 | []=>⟨cy E,by simp⟩
 | x :: r=>by
  have ih:=sr (E:=E) r;refine ⟨?_,?_⟩
  ·simp only [cg,List.map_cons,List.flatten_cons,List.cons_append,List.nil_append];exact rvL_cons (eo rfl) ih.1
  ·intro v hv;simp only [List.map_cons,List.mem_cons] at hv;rcases hv with rfl | hv
   ·rfl
   ·exact ih.2 v hv
theorem RD {m:Nat}:∀ ds:List Nat,(∀ p∈ds,p < m + 1)->∃ D:List (Fin (m + 1)),D.map (·.val)=ds
 | [],_=>⟨[],rfl⟩
 | x :: r,h=>by
  obtain ⟨D,hD⟩:=RD r fun p hp=>h p (eB _ hp);exact ⟨⟨x,h x (by simp)⟩ :: D,by simp [hD]⟩
theorem ss {α:Type} [Inhabited α] (enc:α->Value) (w:World) (b n:Nat) (dk:Array α) (os:Array Obj) (arr:List Value) (ty:TypeId) (hw:w.heap[b]? = some (.cells arr.toArray ty (0,0))) (hl:arr.length=dk.size) :
  ∀ k,k < w.heap.size->(Sort.grow (Sort.putRow enc (Sort.ahead w n) b 0 dk) os).heap[k]? = (World.c7 w b (.cells (dk.toList.map enc).toArray ty (0,0))).heap[k]?:=by
 intro k hk;simp only [Sort.grow,Sort.putRow,Sort.mapBlock,Sort.ahead];rw [Array.getElem?_append_left (sU hk),Array.getElem?_modify];by_cases U0:b=k
 ·subst U0;rw [aj rfl,hw,eC hw];simp only [Option.map_some,Sort.onCells,oI,Obj.cells.injEq,and_true];apply Array.ext_getElem?;intro j;simp only [Sort.putCells,Array.getElem?_mapIdx]
  grind
 ·rw [af U0,cR (Ne.symm U0)]
theorem HO {α:Type} {l:List α} {i:Nat} {x:α} (h:l[i]? = some x):l.set i x=l:=by
 apply List.ext_getElem?
 grind
theorem Fp {X:Ctx} {st:St} {k:List It} (hP:X.P=prog) {i c len:Nat} {ds:List Nat} (hlen:len=ds.length) {U1:List DV} {d:Nat} (N:Nat) (hN:∀ p∈ds,p < N) (lt:Nat->Nat->Bool) (hO:Sort.SWO lt)
  (kT:st.bx[i]? = some (cg ds).flatten) (hn:ds.length<=1099511627776) (WU:List Nat->List DV) (RE:∀ dk:List Nat,dk.length=ds.length->CcL (st.bx.set i (cg dk).flatten) 0 0 0 (WU dk) U1)
  (HL:∀ dk:List Nat,dk.length=ds.length->(∀ p∈dk,p < N)->∀ i j p q:Nat,dk[i]? = some p->dk[j]? = some q->WK prog 207 (.v (.int .i64 i) :: .v (.int .i64 j) :: WU dk) [] [] (fun r _ _=>r = .v (.bool (lt p q))))
  (hd:eZ X.nt st.sl (some d)=true)
  (hk:∀ Tp:List Nat,Tp.Perm ds->(∀ i j p q:Nat,i < j->Tp[i]? = some p->Tp[j]? = some q->lt q p=false)->go X 4000 k ⟨(d,⟨[],.cp []⟩) :: st.sl,st.bx.set i (cg Tp).flatten,st.tk⟩)
  (bV:X.still=false:=by exact rfl) (hX:X.bt=[]:=by exact rfl):CallG X 206 [.nR 96 (.ms i 1 0 len c),.fn 207 [] U1] (some d) k st:=by
 subst hlen;refine ⟨?_,bV,fun E a w vs h hv=>?_⟩
 ·rw [hP];exact Q5
 rw [hP];simp only [RvL] at hv;obtain ⟨v1,_,rfl,h1,v2,_,rfl,h2,rfl⟩:=hv;unfold Rv at h1;obtain ⟨z,rfl,h1⟩:=h1;unfold Rv at h1;obtain ⟨b,ad,hb,Pz,rfl,hca⟩:=h1;unfold Rv at h2;obtain ⟨l,r,rfl,hl,hr⟩:=h2;simp only [RvL] at hl;subst hl;obtain ⟨b',ty,arr,dZ,hw,rR⟩:=h.env.dQ i _ kT;rw [hb] at dZ;simp only [oI] at dZ;subst dZ;have B0:=yW rR.1;have Ob:=cV hw;by_cases h1:ds.length<=1
 ·refine (Fm r.toArray ad ds.length c h1 w).mono ?_;rintro e w' ⟨rfl,os,rfl⟩
  have hh:∀ j,j < w.heap.size->(Sort.grow w os).heap[j]? = w.heap[j]?:=fun j hj=>by
   simp only [Sort.grow];rw [Array.getElem?_append_left hj]
  have cO:Rel X E st a (Sort.grow w os):=dt h (Ext.refl E) (h.env.jo hh) h.tk h.nw (h.fr.ct rfl rfl rfl (by simp [Sort.grow]) fun j hj=>.inr (hh j hj)) (my bV) (.nil hX);have GN:=hk ds (List.Perm.refl _) (fun i j p q rP _ hj=>by have:=(gS hj).1;omega);rw [HO kT] at GN;exact go_sound 4000 _ _ GN E _ _ (bF cO hd (.cp []) (.tuple #[]) (by unfold Rv;exact ⟨[],rfl,cy E⟩))
 ·have h2:2<=ds.length:=by omega
  have Qi:=hca (by omega);subst Qi
  obtain ⟨m,rfl⟩:∃ m,N=m + 1:=by
   cases Ka:ds with
   | nil=>rw [Ka] at h2;simp at h2
   | cons x r=>have:=hN x (by rw [Ka];simp);exact ⟨N - 1,by omega⟩
  obtain ⟨D,hD⟩:=RD ds hN;have MI:D.length=ds.length:=by rw [<- hD];simp
  let enc:Fin (m + 1)->Value:=fun x=>HN x.val
  have hO':Sort.SWO (fun x y:Fin (m + 1)=>lt x.val y.val):=⟨fun x=>hO.irrefl _,fun x y z=>hO.trans _ _ _,fun x y z=>hO.ntrans _ _ _⟩;have RF:∀ l:List (Fin (m + 1)),l.map enc=(l.map (·.val)).map HN:=fun l=>by simp [enc]
  have hS:=HK enc (fun _=>rfl) hO' r.toArray b c D.toArray (by simpa [MI] using h2) (by simp [MI];omega) w ?_ ?_ Ob
  ·simp only [List.size_toArray,MI] at hS;refine hS.mono ?_;rintro e w' ⟨rfl,d',n,os,hp,hs,rfl⟩;have dp:d'.size=ds.length:=by have:=hp.1;simpa [MI] using this
   have mJ:(d'.toList.map (·.val)).Perm ds:=by
    have h3:=hp.2.2;have e1:d'.extract 0 ds.length=d':=Array.extract_eq_self_of_le (by omega);have e2:D.toArray.extract 0 ds.length=D.toArray:=Array.extract_eq_self_of_le (by simp [MI]);rw [e1,e2] at h3;rw [<- hD];exact h3.map _
   have HP:∀ i j p q:Nat,i < j->(d'.toList.map (·.val))[i]? = some p->(d'.toList.map (·.val))[j]? = some q->lt q p=false:=by
    intro i j p q rP hi hj;have xa:j < d'.size:=by have:=(gS hj).1;simpa using this
    have h3:=hs i j (Nat.zero_le _) rP (by omega);rw [getElem!_pos d' j xa,getElem!_pos d' i (by omega)] at h3;have RG:i < d'.size:=by omega
    simp [RG] at hi;simp [xa] at hj;rw [<- hi,<- hj];exact h3
   have hh:=ss enc w b n d' os arr ty hw (by rw [B0];simp [dp]);have eu:=iv (ty:=ty) h bV hb (cs':=(cg (d'.toList.map (·.val))).flatten) (arr':=(d'.toList.map (·.val)).map HN) (sr _) ⟨_,hw⟩;rw [<- RF] at eu;have jF:(Sort.grow (Sort.putRow enc (Sort.ahead w n) b 0 d') os).heap.size=w.heap.size + os.size:=by simp [Sort.grow,Sort.putRow,Sort.mapBlock,Sort.ahead]
   have cO:=dt eu (Ext.refl E) (w':=Sort.grow (Sort.putRow enc (Sort.ahead w n) b 0 d') os) (eu.env.jo fun j hj=>hh j (by rwa [fq] at hj)) eu.tk eu.nw
    (eu.fr.ct rfl rfl rfl (by rw [fq,jF];omega) fun j hj=>.inr (hh j (by rwa [fq] at hj))) (my bV) (.nil hX)
   exact go_sound 4000 _ _ (hk _ mJ HP) E _ _ (bF cO hd (.cp []) (.tuple #[]) (by unfold Rv;exact ⟨[],rfl,cy E⟩))
  ·intro mm os dk hs i' j' hi hj;have dp:dk.size=ds.length:=sV MI hs;have hh:=ss enc w b mm dk os arr ty hw (by rw [B0];simp [dp]);have hE:=h.env.set hb Ob (ty:=ty) (sr (E:=E) (dk.toList.map (·.val)));rw [<- RF] at hE;have hE':=hE.jo (w':=Go.Proofs.sortWorld enc w b 0 mm dk os) fun j hj=>hh j (by rwa [fq] at hj);have RG:i' < dk.size:=by rw [dp,<- MI];simpa using hi
   have xa:j' < dk.size:=by rw [dp,<- MI];simpa using hj
   have WV:(dk.toList.map (·.val)).length=ds.length:=sU dp
   have hc:=HL (dk.toList.map (·.val)) WV (fun p hp=>by
    obtain ⟨x,_,rfl⟩:=List.mem_map.1 hp
    exact x.isLt) i' j' (dk[i']!).val (dk[j']!).val (by rw [getElem!_pos dk i' RG];simp [RG]) (by rw [getElem!_pos dk j' xa];simp [xa])
   have hv:RvL E (.v (.int .i64 (i':Int)) :: .v (.int .i64 (j':Int)) :: U1) (.int .i64 (i':Int) :: .int .i64 (j':Int) :: r):=rvL_cons (eo rfl) (rvL_cons (eo rfl) hr);have hb:=ou hE' hc ⟨_,_,rfl,rfl,_,_,rfl,rfl,RE _ WV⟩ hv;have hargs:(#[Value.int .i64 (i':Int),Value.int .i64 (j':Int)] ++ r.toArray)=(Value.int .i64 (i':Int) :: Value.int .i64 (j':Int) :: r).toArray:=by simp
   rw [hargs];refine hb.mono ?_;rintro e w' ⟨v,E2,rfl,JT,_,Py⟩;have:=bC JT;subst this;exact ⟨rfl,Py rfl⟩
  ·intro j hj;have xa:j < D.length:=sU hj;rw [cJ hw,Nat.zero_add,B0];refine ⟨?_,?_⟩
   ·rw [getElem!_pos D.toArray j hj,<- hD];simp [xa,enc]
   ·simp [World.frozen?,hw]
theorem vk {n m:Nat} {tk:List TkE}:∀ ds:List Nat,WeL n m tk (cg ds).flatten (cg ds).flatten
 | []=>rfl
 | b :: r=>⟨_,_,rfl,aQ rfl,vk r⟩
theorem ow {n m:Nat} {tk:List TkE} {l:List DV} {ds:List Nat} (h:l=(cg ds).flatten):WeL n m tk l (cg ds).flatten:=by rw [h];exact vk ds
def fV (n e:Nat):List Nat:=List.range e ++ List.replicate (n - e) 0
theorem Fq {n e:Nat} (h:e<=n):(fV n e).length=n:=by simp [fV];omega
theorem fillA_0 (n:Nat):(List.replicate n [DV.v (.int .i64 0)]).flatten=(cg (fV n 0)).flatten:=by simp [fV,cg]
theorem KD (n:Nat):fV n n=List.range n:=by simp [fV]
theorem l8 (ds:List Nat):(cg ds).flatten=ds.map fun (i:Nat)=>DV.v (.int .i64 (i:Int)):=by
 induction ds with
 | nil=>rfl
 | cons x r ih=>simp only [cg,List.map_cons,List.flatten_cons] at ih ⊢;rw [ih];all_goals rfl
theorem B6 {n e:Nat} (h:e < n):(cg (fV n e)).flatten.take e ++ [DV.v (.int .i64 (e:Int))] ++ (cg (fV n e)).flatten.drop (e + 1)=(cg (fV n (e + 1))).flatten:=by
 simp only [l8,<- List.map_take,<- List.map_drop];have e1:(fV n e).take e=List.range e:=by simp [fV]
 have e2:(fV n e).drop (e + 1)=List.replicate (n - (e + 1)) 0:=by
  simp only [fV,List.drop_append,List.length_range];rw [List.drop_eq_nil_of_le (by simp),List.nil_append,List.drop_replicate];congr 1;omega
 rw [e1,e2];simp [fV,List.range_succ]
abbrev HQ (L:List ByteArray) (e:Nat):St:=
 ⟨[cE 3 1,cE 4 3,bQ 16 ((hZ L).length),bQ 17 e],
  [[.sl 1 (hZ L) (some 0),.v (.slice none 0 0)],[.loc 0 0],(cg (fV (hZ L).length e)).flatten,[.ms 2 1 0 (hZ L).length (hZ L).length]],[⟨(hZ L).length,9,1,none⟩]⟩
def fG (L:List ByteArray) (ds:List Nat) (i:Nat):Bool:=decide (i=0) || !decide (L.getD (ds.getD i 0) aY=L.getD (ds.getD (i - 1) 0) aY)
def eI (L:List ByteArray) (ds:List Nat) (e:Nat):List Nat:=((List.range e).filter (fG L ds)).map fun i=>ds.getD i 0
theorem su (L:List ByteArray) (ds:List Nat) (e:Nat):eI L ds (e + 1)=eI L ds e ++ (if fG L ds e=true then [ds.getD e 0] else []):=by
 unfold eI;rw [List.range_succ,List.filter_append,List.map_append];congr 1;cases h:fG L ds e<;>simp [h]
theorem Fs (L:List ByteArray) (ds:List Nat) (e:Nat):(eI L ds e).length<=e:=by grind [eI]
abbrev Oo (L:List ByteArray) (ds:List Nat):St:=
 ⟨[cE 3 1,NZ 4 [.sl 1 (cg ds) none],gh 29 1 (cg ds),bQ 30 ((hZ L).length),bQ 31 0],
  [[.sl 1 (hZ L) (some 0),.v (.slice none 0 0)],[.loc 0 0]],[⟨(hZ L).length,9,1,none⟩]⟩
abbrev yX (L:List ByteArray) (ds lA:List Nat) (m e:Nat):St:=
 ⟨[cE 3 1,NZ 4 [.sl 1 (cg ds) none],gh 29 1 (cg ds),bQ 30 ((hZ L).length),bQ 31 e],
  [[.sl 1 (hZ L) (some 0),.sl 1 (cg lA) (some 1)],[.loc 0 0]],[⟨(hZ L).length,9,1,none⟩,⟨m,3,1,none⟩]⟩
theorem vl {α:Type} {l:List α} {i:Nat} {d:α} (h:i < l.length):l[i]? = some (l.getD i d):=by grind
theorem Oq {L:List ByteArray} {ds:List Nat} (mJ:ds.Perm (List.range L.length)) (HP:∀ i j p q:Nat,i < j->ds[i]? = some p->ds[j]? = some q->yV L q p=false):HJ L (eI L ds L.length):=by
 have hlen:ds.length=L.length:=by rw [mJ.length_eq,List.length_range]
 let D:Nat->Nat:=fun i=>ds.getD i 0
 let T:Nat->ByteArray:=fun i=>L.getD (D i) aY
 have hD:∀ i,i < L.length->ds[i]? = some (D i):=fun i hi=>vl (by omega)
 have WW:∀ i,i < L.length->D i < L.length:=fun i hi=>by
  have:=mJ.mem_iff.1 (mG (hD i hi));exact List.mem_range.1 this
 have hT:∀ i,i < L.length->L[D i]? = some (T i):=fun i hi=>vl (WW i hi);have lk:∀ i j,i < j->j < L.length->T i=T j∨DT (T i) (T j)=true:=by grind [yV,DU]
 have RH:∀ i,i < L.length->fG L ds i=true->∀ j,j < i->DT (T j) (T i)=true:=by
  intro i hi hh j NI;have bM:T i≠T (i - 1):=by grind [fG]
  grind [DT,gQ]
 have DG:∀ j,j < L.length->∃ k,k < L.length/\D k=j:=by
  intro j hj;have:=mJ.mem_iff.2 (List.mem_range.2 hj);obtain ⟨k,hk⟩:=List.getElem?_of_mem this
  grind
 let H:=(List.range L.length).filter (fG L ds)
 have hH:∀ (a i:Nat),H[a]? = some i->i < L.length/\fG L ds i=true:=fun a i h=>by
  have:=mG h
  grind
 have KE:∀ (a p:Nat),(eI L ds L.length)[a]? = some p->∃ i,H[a]? = some i/\D i=p:=by grind [eI,fG]
 have hinc:∀ (a b i k:Nat),a < b->H[a]? = some i->H[b]? = some k->i < k:=by
  intro a b i k HM hi hk;have hp:List.Pairwise (·< ·) H:=List.Pairwise.filter _ List.pairwise_lt_range;obtain ⟨ha,rfl⟩:=List.getElem?_eq_some_iff.1 hi;obtain ⟨hb,rfl⟩:=List.getElem?_eq_some_iff.1 hk;exact List.pairwise_iff_getElem.1 hp a b ha hb HM
 refine ⟨?_,?_,?_,?_⟩
 ·intro a p h;obtain ⟨i,hi,rfl⟩:=KE a p h;exact WW i (hH a i hi).1
 ·intro a b p q s t HM hp hq hs ht;obtain ⟨i,hi,rfl⟩:=KE a p hp;obtain ⟨k,hk,rfl⟩:=KE b q hq;rw [hT i (hH a i hi).1] at hs;rw [hT k (hH b k hk).1] at ht
  grind
 ·intro a p j s hp hs hj;obtain ⟨i,hi,rfl⟩:=KE a p hp;obtain ⟨HR,BH⟩:=hH a i hi;obtain ⟨k,hk,rfl⟩:=DG j (gS hj).1;rw [hT i HR] at hs;rw [hT k hk] at hj;simp only [oI] at hs hj;rcases Nat.lt_trichotomy k i with h | h | h
  ·have:=RH i HR BH k h;rw [hs,hj,DT,ju] at this;cases this
  ·rw [h];exact bn _
  ·have h2:=HP i k (D i) (D k) h (hD i HR) (hD k hk)
   grind [yV,aY]
 ·intro j s hj;obtain ⟨k,hk,rfl⟩:=DG j (gS hj).1;rw [hT k hk] at hj;simp only [oI] at hj;obtain ⟨i,⟨HR,Tq⟩,hmin⟩:=least (p:=fun i=>i < L.length/\T i=s) ⟨k,hk,hj⟩;have BH:fG L ds i=true:=by grind [fG,aY]
  have hm:i∈H:=by simp only [H,List.mem_filter,List.mem_range];exact ⟨HR,BH⟩
  obtain ⟨a,ha⟩:=List.getElem?_of_mem hm;refine ⟨a,D i,?_,by rw [hT i HR,Tq]⟩;unfold eI
  grind
theorem HS (L:List ByteArray) (hl:L.length<=1099511627776) :
  Ev prog 125 [.sl 1 (hZ L) none] [] [] (fun r _ _=>∃ lA,HJ L lA/\lA.length<=L.length/\r = .pt (BX L lA) 0):=by
 have hN:=ij L;refine eG 71 [.tmp 2] func125 rfl ntmps125 rfl fun _ _ _ _=>?_;refine ⟨⟨by simp [hN,maxLen];omega,by simp [hN];omega⟩,?_⟩;refine ⟨⟨rfl,by omega,by omega,by omega⟩,?_⟩;refine lJ (fun e=>HQ L e) L.length (yc 4 (by repeat' (first | exact rfl | exact aQ rfl | exact ow (fillA_0 _) | refine ⟨_,_,rfl,?_,?_⟩)) (by repeat' (first | exact trivial | exact aQ rfl | exact ow (fillA_0 _) | refine ⟨⟨_,rfl,?_⟩,?_⟩))) ?_;intro e he;refine br ?_ ?_<;>intro h
 ·have aS:e < (hZ L).length:=sU h;refine ⟨⟨by omega,by omega⟩,?_⟩;have e1:(cg (fV (hZ L).length e)).flatten.length=(hZ L).length:=by rw [l8,List.length_map,Fq (by omega)]
  refine ⟨by rw [e1];omega,?_⟩
  have cr:(cg (fV (hZ L).length e)).flatten.set (0 + (e:Int).toNat * 1) (DV.v (.int .i64 (e:Int)))=(cg (fV (hZ L).length (e + 1))).flatten:=by
   rw [show 0 + (e:Int).toNat * 1=e by omega,List.set_eq_take_append_cons_drop,aj (by rw [e1];omega),<- B6 aS];simp
  refine ⟨HQ L (e + 1),(yc 4 (by repeat' (first | exact rfl | exact aQ rfl | exact ow cr | exact ch (gy aS (by omega)) | refine ⟨_,_,rfl,?_,?_⟩)) (by repeat' (first | exact trivial | exact aQ rfl | exact ow cr | exact ch (gy aS (by omega)) | refine ⟨⟨_,rfl,?_⟩,?_⟩))),L.length - (e + 1),by omega,e + 1,rfl,by omega,rfl⟩
 ·have hge:e=(hZ L).length:=by grind
  subst hge;rw [KD]
  have U2:∀ dk:List Nat,dk.length=(List.range (hZ L).length).length->∀ bx:List (List DV),bx[2]? = some (cg dk).flatten->∀ N0 n0 m0:Nat,N0<=2->Cc bx N0 n0 m0 (.sl 1 (cg dk) none) (.ms 2 1 0 (hZ L).length (hZ L).length):=by
   intro dk Tr bx hb N0 n0 m0 hN0;simp only [Cc];refine Or.inr (Or.inr (Or.inl ⟨2,0,(hZ L).length,_,?_,hN0,hb,?_,?_,?_⟩))
   ·rw [dH,Tr,List.length_range]
   ·rw [List.drop_zero,List.take_of_length_le];rw [l8,List.length_map,dH];omega
   ·grind [cg]
   ·grind [l8]
  refine Fp (ds:=List.range (hZ L).length) rfl (by simp) (hZ L).length (fun p hp=>List.mem_range.1 hp) (yV L) (KC L) rfl (by simp [hN];omega)
   (fun dk=>[.pt [.sl 1 (cg dk) none] 0,.pt [.pt [.sl 1 (hZ L) none,.v (.slice none 0 0)] 0] 0])
   (fun dk Tr=>⟨_,_,rfl,Or.inr ⟨3,_,rfl,Nat.zero_le _,rfl,⟨_,_,rfl,U2 dk Tr _ rfl 0 0 0 (Nat.zero_le _),rfl⟩⟩,ax⟩)
   (fun dk Tr hp i j p q hi hj=>Fo L dk i j p q hi hj (by have:=hp p (mG hi);omega) (by have:=hp q (mG hj);omega)) rfl (fun ds mJ HP=>?_)
  have MJ:ds.length=(hZ L).length:=by rw [mJ.length_eq,List.length_range]
  have RI:=U2 ds (by rw [MJ,List.length_range])
  refine Hy 2 (Oo L ds) rfl rfl rfl ⟨_,_,rfl,⟨_,_,rfl,⟨nL rfl,rfl⟩,_,_,rfl,rfl,rfl⟩,_,_,rfl,⟨_,_,rfl,⟨nL rfl,rfl⟩,rfl⟩,rfl⟩
   ⟨⟨_,rfl,⟨nL rfl,rfl⟩⟩,⟨_,rfl,Or.inr ⟨3,_,rfl,by decide,rfl,⟨_,_,rfl,RI _ rfl 2 0 0 (by decide),rfl⟩⟩⟩,⟨_,rfl,RI _ rfl 2 2 1 (by decide)⟩,⟨_,rfl,rfl⟩,⟨_,rfl,rfl⟩,trivial⟩ ?_
  refine de (fun j st=>∃ e m:Nat,st=yX L ds (eI L ds e) m e/\m=(eI L ds e).length/\e<=(hZ L).length/\j=(hZ L).length - e) (hZ L).length (yX L ds [] 0 0)
   (lZ 2 ⟨0,3,1,none⟩ rfl rfl rfl PD rfl rfl wB) ⟨0,0,rfl,rfl,by omega,by omega⟩ ?_
  rintro j st ⟨e,m,rfl,hm,he,rfl⟩;have Kg:=Fs L ds e;refine br ?_ ?_<;>intro h
  ·have aS:e < (hZ L).length:=sU h;obtain ⟨p,hp⟩:∃ p,ds[e]? = some p:=⟨_,gE (by omega)⟩
   have hpL:p < L.length:=by
    have:=mJ.mem_iff.1 (mG hp);rw [List.mem_range] at this;omega
   obtain ⟨s,hs⟩:∃ s,L[p]? = some s:=⟨_,gE hpL⟩;refine iX (gj hp) ?_;have hgp:ds.getD e 0=p:=by simp [uQ,hp]
   have EZ:L.getD p aY=s:=by simp [uQ,hs]
   have dn:fG L ds e=true->eI L ds (e + 1)=eI L ds e ++ [p]:=fun hh=>by rw [su,aj hh,hgp]
   have hold:fG L ds e=false->eI L ds (e + 1)=eI L ds e:=fun hh=>by rw [su,af (by rw [hh];decide),List.append_nil]
   have DW:fG L ds e=true->cg (eI L ds e) ++ [[DV.v (.int .i64 (p:Int))]]=cg (eI L ds (e + 1)):=fun hh=>by rw [dn hh];simp [cg]
   by_cases h0:e=0
   ·subst h0;have hh:fG L ds 0=true:=by simp [fG]
    refine dI ?_;refine dS ?_;refine ⟨by rw [dH,hm],⟨by simp [dH,maxLen];omega,by simp [dH];omega⟩,?_⟩;refine ⟨yX L ds (eI L ds 1) (m + 1) 1,(yc 2 (by repeat' (first | exact rfl | exact aQ rfl | exact ch (gy aS (by omega)) | exact gY (DW hh) rfl | refine ⟨_,_,rfl,?_,?_⟩)) (by repeat' (first | exact trivial | exact aQ rfl | exact ch (gy aS (by omega)) | exact gY (DW hh) rfl | refine ⟨⟨_,rfl,?_⟩,?_⟩))),(hZ L).length - 1,by omega,1,m + 1,rfl,by rw [dn hh,List.length_append,hm];rfl,by omega,rfl⟩
   ·obtain ⟨p',yF⟩:∃ p',ds[e - 1]? = some p':=⟨_,gE (by omega)⟩
    have U3:p' < L.length:=by
     have:=mJ.mem_iff.1 (mG yF);rw [List.mem_range] at this;omega
    obtain ⟨s',RJ⟩:∃ s',L[p']? = some s':=⟨_,gE U3⟩;have hgp':ds.getD (e - 1) 0=p':=by simp [uQ,yF]
    have hgs':L.getD p' aY=s':=by simp [uQ,RJ]
    have hhd:fG L ds e = !decide (s=s'):=by grind [fG]
    have hz:IntKind.i64.wrap ((e:Int) - 1)=((e - 1:Nat):Int):=by rw [wrap64 (by omega) (by omega)];omega
    refine dI ?_;refine br (fun _=>?_) (fun h=>?_)
    ·refine iX (gz hs) ?_;refine ⟨[.v (.int .i64 (p':Int))],⟨by rw [hz];omega,by rw [hz];exact gj yF⟩,?_⟩;refine iX (gz RJ) ?_;refine br ?_ ?_<;>intro h2
     ·have hh:fG L ds e=true:=by grind [aG]
      refine dS ?_;refine ⟨by rw [dH,hm],⟨by simp [dH,maxLen];omega,by simp [dH];omega⟩,?_⟩;refine ⟨yX L ds (eI L ds (e + 1)) (m + 1) (e + 1),(yc 2 (by repeat' (first | exact rfl | exact aQ rfl | exact ch (gy aS (by omega)) | exact gY (DW hh) rfl | refine ⟨_,_,rfl,?_,?_⟩)) (by repeat' (first | exact trivial | exact aQ rfl | exact ch (gy aS (by omega)) | exact gY (DW hh) rfl | refine ⟨⟨_,rfl,?_⟩,?_⟩))),(hZ L).length - (e + 1),by omega,e + 1,m + 1,rfl,by rw [dn hh,List.length_append,hm];rfl,by omega,rfl⟩
     ·have hh:fG L ds e=false:=by grind [aG]
      have dT:cg (eI L ds e)=cg (eI L ds (e + 1)):=by rw [hold hh]
      refine ⟨yX L ds (eI L ds (e + 1)) m (e + 1),(yc 2 (Tm (gy aS (by omega)) dT) (yb (gy aS (by omega)) dT)),(hZ L).length - (e + 1),by omega,e + 1,m,rfl,by rw [hold hh,hm],by omega,rfl⟩
    ·grind
  ·have hge:e=L.length:=by grind
   subst hge;exact ⟨.pt (BX L (eI L ds L.length)) 0,Or.inr ⟨0,_,rfl,Nat.zero_le _,rfl,ax⟩,_,Oq (by rw [<- hN];exact mJ) HP,Kg,rfl⟩
abbrev RL (L:List ByteArray) (lA:List Nat) (e:Nat):St:=
 ⟨[NZ 3 (BX L lA),gh 10 1 (hZ L),bQ 11 ((hZ L).length),bQ 12 e],[],[]⟩
theorem HT {α:Type}:∀ {l:List α},(∀ (i j:Nat) (x:α),j < i->l[i]? = some x->l[j]? ≠ some x)->l.Nodup
 | l,h=>by
  rw [List.nodup_iff_pairwise_ne,List.pairwise_iff_getElem];intro i j hi hj rP he;exact h j i l[j] rP (gE hj) (by rw [gE hi,he])
theorem B7 (L:List ByteArray) (hl:L.length<=1099511627776) :
  Ev prog 131 [.sl 1 (hZ L) none] [] [] (fun r _ _=>∃ z:Int,r = .v (.int .i64 z)/\(0<=z↔¬ L.Nodup)):=by
 have hN:=ij L;refine eG 28 [.tmp 2] func131 rfl ntmps131 rfl fun _ _ _ _=>?_;refine jt QR rfl (HS L hl) ax (fun r hr=>?_);obtain ⟨lA,hT,Kg,rfl⟩:=hr;refine lI (fun j st=>∃ e:Nat,st=RL L lA e/\e<=L.length/\(∀ (i j:Nat) (x:ByteArray),i < e->j < i->L[i]? = some x->L[j]? ≠ some x)/\j=L.length - e) ⟨0,rfl,by omega,fun i j x hi=>by omega,rfl⟩ (fC wB) ?_;rintro j st ⟨e,rfl,he,hinv,rfl⟩;refine br ?_ ?_<;>intro h
 ·have aS:e < L.length:=sV hN h;obtain ⟨s,hs⟩:=gX aS;obtain ⟨q,p,hq,hp⟩:=hT.all e s hs;have dD:=hT.fst q p e s hq hp hs;refine iX (gz hs) ?_;refine cP QO (find_spec L lA s q p hT (by omega) hq hp) ?_;refine br ?_ ?_<;>intro h2
  ·have h2:p < e:=sU h2;refine ⟨(e:Int),rfl,⟨fun _ hnd=>?_,fun _=>by omega⟩⟩;rw [List.nodup_iff_pairwise_ne,List.pairwise_iff_getElem] at hnd;obtain ⟨h3,h4⟩:=List.getElem?_eq_some_iff.1 hp;obtain ⟨h5,h6⟩:=List.getElem?_eq_some_iff.1 hs;exact hnd p e h3 h5 h2 (by rw [h4,h6])
  ·have h2:¬ p < e:=sU h2;refine ⟨RL L lA (e + 1),(fC (nc (gy aS (by omega)))),L.length - (e + 1),by omega,e + 1,rfl,by omega,fun i j x hi hj hx WX=>?_,rfl⟩;by_cases RB:i=e
   ·subst RB;rw [hs] at hx;simp only [oI] at hx;subst hx;have:=hT.fst q p j s hq hp WX;omega
   ·exact hinv i j x (by omega) hj hx WX
 ·have hge:e=L.length:=by grind
  subst hge;refine ⟨-1,rfl,⟨fun h3=>by omega,fun h3=>?_⟩⟩;exact absurd (HT fun i j x rP hi hj=>hinv i j x (gS hi).1 rP hi hj) h3
def sameWds:List Wd->List Wd->Bool
 | [],[]=>true
 | x :: r,y :: s=>decide (x.s=y.s) && sameWds r s
 | _,_=>false
def cu (p q:Ph):Bool:=(p.bare == q.bare) && decide (p.wide=q.wide) && sameWds p.label q.label && decide (p.ck=q.ck) && decide (p.cn=q.cn) && sameWds p.cl q.cl
def gk (h k:Hd):Bool:=decide (h.au=k.au) && decide (h.lo=k.lo) && decide (h.hi=k.hi) && decide (h.most=k.most) && decide (h.name.s=k.name.s) && sameWds h.aD k.aD
mutual
def sameTy:Ty->Ty->Bool
 | .mk h ps,.mk k qs=>gk h k && samePts ps qs
def samePts:Pts->Pts->Bool
 | .nil,.nil=>true
 | .cons p t r,.cons q u s=>decide (p.name.s=q.name.s) && cu p q && sameTy t u && samePts r s
 | _,_=>false
end
def xn (h:Hd):Hd:=
 ⟨h.au,0,if h.au=2 then h.lo else 0,if h.au=2 then h.hi else 0,if h.au=3∨h.au=5 then h.most else 0,if h.au=4 then h.aD else [],if h.au=9 then h.name else ⟨aY,0⟩⟩
def mask:Ty->Ty
 | .mk h ps=>.mk (xn h) (if 4 < h.au/\h.au < 9 then ps else .nil)
abbrev Ft:Type:=Int × Int
def Ft.d (f:Ft):DV:=.agg [.v (.int .i64 f.1),.v (.int .i64 f.2)]
def badWd:List Wd->Ft
 | []=>(0,0)
 | w :: r=>if az w.s then badWd r else (9,w.a)
def dg (l:List Wd):Ft:=
 if l.length<=32 then badWd l else (8,((l[32]?).getD (⟨aY,0⟩:Wd)).a)
def eO (l:List Wd) (s:ByteArray):Bool:=l.any fun w=>decide (w.s=s)
def cS (l:List Wd) (i:Nat) (x:Wd):Int:=
 if az x.s then (if eO (l.take i) x.s then 10 else 0) else 9
def pNames:Pts->List Wd
 | .nil=>[]
 | .cons p _ r=>p.name :: pNames r
theorem sv:∀ ps:Pts,(pNames ps).length=ps.len
 | .nil=>rfl
 | .cons p t r=>by simp [pNames,Pts.len,sv r]
theorem nj:∀ {ps:Pts} {j:Nat} {p:Ph} {t:Ty},ps.toList[j]? = some (p,t)->(pNames ps)[j]? = some p.name
 | .nil,j,p,t,h=>by simp [Pts.toList] at h
 | .cons q u r,0,p,t,h=>by grind [Pts.toList,pNames]
 | .cons q u r,j + 1,p,t,h=>by
  simp only [Pts.toList,List.getElem?_cons_succ] at h;simp only [pNames,List.getElem?_cons_succ];exact nj h
theorem vm:∀ ps:Pts,wdsWt (pNames ps)<=ps.wt
 | .nil=>bn _
 | .cons p t r=>by
  have:=vm r
  grind [pNames,wdsWt,Pts.wt,Ph.wt]
mutual
def Ty.cnt:Ty->Nat
 | .mk _ ps=>1 + ps.cnt
def Pts.cnt:Pts->Nat
 | .nil=>0
 | .cons p t r=>(if p.bare then 0 else t.cnt) + r.cnt
end
mutual
def Ty.deep:Ty->Nat
 | .mk _ ps=>ps.deep + 1
def Pts.deep:Pts->Nat
 | .nil=>0
 | .cons p t r=>max (if p.bare then 0 else t.deep) r.deep
end
mutual
theorem Ty.pB:∀ t:Ty,t.cnt<=t.wt
 | .mk h ps=>by have:=Pts.pB ps;simp only [Ty.cnt,Ty.wt,Hd.wt];omega
theorem Pts.pB:∀ ps:Pts,ps.cnt<=ps.wt
 | .nil=>bn _
 | .cons p t r=>by
  have:=Ty.pB t;have:=Pts.pB r;simp only [Pts.cnt,Pts.wt];split<;>omega
end
mutual
theorem Ty.l9:∀ t:Ty,t.deep<=t.wt
 | .mk h ps=>by have:=Pts.l9 ps;simp only [Ty.deep,Ty.wt,Hd.wt];omega
theorem Pts.l9:∀ ps:Pts,ps.deep<=ps.wt
 | .nil=>bn _
 | .cons p t r=>by
  have:=Ty.l9 t;have:=Pts.l9 r
  grind [Pts.deep,Pts.wt]
end
abbrev xp (t:Ty) (e n d:Nat):St:=
 ⟨[cE 1 0,bQ 4 n,bQ 5 d,bQ 6 e],[di t],[]⟩
theorem lB:∀ (k:Nat) (t:Ty),t.wt<=k->t.wt<=1099511627776 ->
  cw prog 39 [.agg (di t)] (.cp [.v (.int .i64 t.cnt),.v (.int .i64 t.deep)])
 | 0,t,hn,_=>by have:=t.pA;omega
 | k + 1,.mk h ps,hn,cL=>by
  simp only [Ty.wt,Hd.wt] at hn cL;have nS:=ps.ng;have hc:=ps.pB;have U4:=ps.l9;refine eG 42 [.tmp 2,.tmp 3] func39 rfl ntmps39 rfl fun _ _ _ _=>?_
  refine de (fun j st=>∃ (e n d:Nat),st=xp (.mk h ps) e n d/\e<=ps.len/\n + (ps.drop e).cnt=1 + ps.cnt/\max d (ps.drop e).deep=ps.deep/\j=ps.len - e) ps.len
   (xp (.mk h ps) 0 1 0) (fC wB) ⟨0,1,0,rfl,by omega,rfl,by simp [Pts.drop],by omega⟩ ?_
  rintro j st ⟨e,n,d,rfl,he,bM,PL,rfl⟩;refine br ?_ ?_<;>intro hL
  ·have aS:e < ps.len:=by simpa [bN] using hL
   obtain ⟨p,t,hx⟩:=Pts.ni aS;have B8:=Pts.nh (mG hx);rw [Pts.drop_cons hx] at bM PL;simp only [Pts.cnt,Pts.deep] at bM PL;have Ot:=t.pB;have hdt:=t.l9;refine iX (fF hx) ?_;refine br ?_ ?_<;>intro hB
   ·rw [aj hB] at bM PL;exact rE ⟨_,by omega,e + 1,n,d,rfl,by omega,by omega,by omega,rfl⟩ (fC (nc (gy aS (by omega))))
   ·rw [af (by simp [hB])] at bM PL;obtain ⟨u,us⟩:=t;refine iX (fF hx) ?_;refine cP Oh (lB k (.mk u us) (by omega) (by omega)) ?_;have Ts:IntKind.i64.wrap ((n:Int) + (Ty.mk u us).cnt)=((n + (Ty.mk u us).cnt:Nat):Int):=by rw [wrap64 (by omega) (by omega)];omega
    refine br ?_ ?_<;>intro hD
    ·have hD:d < (Ty.mk u us).deep:=sU hD;exact ⟨xp (.mk h ps) (e + 1) (n + (Ty.mk u us).cnt) (Ty.mk u us).deep,(fC (yb Ts (gy aS (by omega)))),ps.len - (e + 1),by omega,e + 1,_,_,rfl,by omega,by omega,by omega,rfl⟩
    ·have hD:¬ d < (Ty.mk u us).deep:=sU hD;exact ⟨xp (.mk h ps) (e + 1) (n + (Ty.mk u us).cnt) d,(fC (yb Ts (gy aS (by omega)))),ps.len - (e + 1),by omega,e + 1,_,_,rfl,by omega,by omega,by omega,rfl⟩
  ·have hge:e=ps.len:=by simp [bN] at hL;omega
   rw [hge,Pts.ly] at bM PL;simp only [Pts.cnt,Pts.deep] at bM PL;have e1:IntKind.i64.wrap ((d:Int) + 1)=((Ty.mk h ps).deep:Int):=by rw [wrap64 (by omega) (by omega)];simp only [Ty.deep];omega
   have e2:(n:Int)=((Ty.mk h ps).cnt:Int):=by simp only [Ty.cnt];omega
   refine ⟨_,?_,rfl⟩;rw [<- e1,<- e2];exact ax
def bW (p:Ph):Ft:=
 if p.ck=0 then (if p.cn=0/\p.cl=[] then (0,0) else (19,p.name.a))
 else if p.ck < 0∨3 < p.ck then (14,p.ca)
 else if (p.ck=1/\p.cn < 1)∨(p.ck=2/\(p.cn < 0∨4096 < p.cn))∨(p.ck=3/\p.cn≠0) then (20,p.ca)
 else dg p.cl
def enumL (all:List Wd):Nat->List Wd->Ft
 | _,[]=>(0,0)
 | i,x :: r=>if cS all i x≠0 then (cS all i x,x.a) else enumL all (i + 1) r
def jv (h:Hd):Ft:=
 if h.aD=[] then (15,h.dR)
 else if 64 < h.aD.length then (8,((h.aD[64]?).getD (⟨aY,0⟩:Wd)).a)
 else enumL h.aD 0 h.aD
def eJ (p:Ph):Ft:=
 if p.wide < 0∨64 < p.wide then (20,p.name.a)
 else if (dg p.label).1≠0 then dg p.label
 else bW p
def nk (t:Ty):Bool:=sameTy t (mask t)
mutual
def wrong:Ty->Int->Int->Ft × Int
 | .mk h ps,depth,m=>
  if 24 < depth then ((6,h.dR),m + 1)
  else if 512 < m + 1 then ((8,h.dR),m + 1)
  else if h.au < 1∨9 < h.au then ((14,h.dR),m + 1)
  else if nk (.mk h ps)=false then ((19,h.dR),m + 1)
  else if (h.au=2/\h.hi < h.lo)∨(h.au=3/\(h.most < 0∨4096 < h.most)) then ((20,h.dR),m + 1)
  else if h.au=9/\az h.name.s=false then ((9,h.name.a),m + 1)
  else if h.au=4 then (jv h,m + 1)
  else if h.au=5∨h.au=6 then wrongOne h ps depth (m + 1)
  else if h.au=7∨h.au=8 then
   if h.au=8/\ps.len=0 then ((15,h.dR),m + 1)
   else if 64 < ps.len then ((8,(((pNames ps)[64]?).getD (⟨aY,0⟩:Wd)).a),m + 1)
   else wrongPts h.au (pNames ps) 0 ps depth (m + 1)
  else ((0,0),m + 1)
def wrongOne:Hd->Pts->Int->Int->Ft × Int
 | h,.cons p t .nil,depth,m=>
  if p.name.s≠aY∨cu p cj=false then ((19,h.dR),m)
  else if h.most < 0∨1024 < h.most then ((20,h.dR),m)
  else wrong t (depth + 1) m
 | h,_,_,m=>((19,h.dR),m)
def wrongPts (au:Int) (all:List Wd):Nat->Pts->Int->Int->Ft × Int
 | _,.nil,_,m=>((0,0),m)
 | i,.cons p t r,depth,m=>
  if cS all i p.name≠0 then ((cS all i p.name,p.name.a),m)
  else if p.bare=true then
   if au=7∨sameTy t bO=false∨cu p kx=false then ((19,p.name.a),m) else wrongPts au all (i + 1) r depth m
  else if (eJ p).1≠0 then (eJ p,m)
  else if (wrong t (depth + 1) m).1.1≠0 then wrong t (depth + 1) m
  else wrongPts au all (i + 1) r depth (wrong t (depth + 1) m).2
end
def lC (h:Hd) (ps:Pts) (depth m:Int):Ft × Int:=
 if h.au=8/\ps.len=0 then ((15,h.dR),m)
 else if 64 < ps.len then ((8,(((pNames ps)[64]?).getD (⟨aY,0⟩:Wd)).a),m)
 else wrongPts h.au (pNames ps) 0 ps depth m
theorem yY (all:List Wd):∀ (l:List Wd) (i:Nat),(enumL all i l).1=0->enumL all i l=(0,0)
 | [],_,_=>rfl
 | x :: r,i,h=>by
  have ih:=yY all r (i + 1)
  grind [enumL]
theorem Fu (h:Hd) (he:(jv h).1=0):jv h=(0,0):=by grind [jv,yY]
mutual
theorem sw:∀ (t:Ty) (depth m:Int),0<=m->(wrong t depth m).1.1=0->(wrong t depth m).1=(0,0)/\0<=(wrong t depth m).2/\(wrong t depth m).2<=512
 | .mk h ps,depth,m,hm,he=>by
  have i1:=yZ h ps depth (m + 1) (by omega);have i2:=lD h.au (pNames ps) ps 0 depth (m + 1) (by omega);have i3:=Fu h;simp only [wrong] at he ⊢;by_cases c0:24 < depth
  ·rw [aj c0] at he;simp at he
  rw [af c0] at he ⊢;by_cases c1:512 < m + 1
  ·rw [aj c1] at he;simp at he
  rw [af c1] at he ⊢;by_cases c2:h.au < 1∨9 < h.au
  all_goals grind
theorem yZ:∀ (h:Hd) (ps:Pts) (depth m:Int),0<=m->m<=512->(wrongOne h ps depth m).1.1=0->(wrongOne h ps depth m).1=(0,0)/\0<=(wrongOne h ps depth m).2/\(wrongOne h ps depth m).2<=512
 | h,.nil,depth,m,hm,_,he=>by simp [wrongOne] at he
 | h,.cons p t .nil,depth,m,hm,h5,he=>by
  have ih:=sw t (depth + 1) m hm
  grind [wrongOne]
 | h,.cons p t (.cons _ _ _),depth,m,hm,_,he=>by simp [wrongOne] at he
theorem lD (au:Int) (all:List Wd):∀ (ps:Pts) (i:Nat) (depth m:Int),0<=m->m<=512->(wrongPts au all i ps depth m).1.1=0->(wrongPts au all i ps depth m).1=(0,0)/\0<=(wrongPts au all i ps depth m).2/\(wrongPts au all i ps depth m).2<=512
 | .nil,i,depth,m,hm,h5,he=>by simp only [wrongPts];exact ⟨trivial,hm,h5⟩
 | .cons p t r,i,depth,m,hm,h5,he=>by
  have i1:=sw t (depth + 1) m hm;simp only [wrongPts] at he ⊢;split at he
  ·rename_i h1;exact (h1 he).elim
  ·rename_i h1;rw [af h1];split at he
   ·rename_i h2;rw [aj h2];split at he
    ·simp at he
    ·rename_i h3;rw [af h3];exact lD au all r (i + 1) depth m hm h5 he
   ·rename_i h2;rw [af h2];split at he
    ·rename_i h3;exact (h3 he).elim
    ·rename_i h3;rw [af h3];split at he
     ·rename_i h4;exact (h4 he).elim
     ·rename_i h4;rw [af h4];have i2:=i1 (sU h4);exact lD au all r (i + 1) depth _ i2.2.1 i2.2.2 he
end
theorem bH (e a:Int):cw prog 237 [.v (.int .i64 e),.v (.int .i64 a)] (Ft.d (e,a)):=by
 refine eG 8 [.cell 4 26] func237 rfl ntmps237 rfl fun _ _ _ _=>?_;exact ⟨_,ax,rfl⟩
noncomputable def fH (L:List ByteArray) (x:ByteArray) (a:Int):Ft:=if az x=true then (if L.Nodup then (0,0) else (10,a)) else (9,a)
theorem qu (L:List ByteArray) (x:ByteArray) (a:Int) (hx:L[L.length - 1]? = some x) (hl:L.length<=1099511627776) (GJ:x.size<=4611686018427387904) :
  cw prog 285 [.sl 1 (hZ L) none,.v (.int .i64 a)] (fH L x a).d:=by
 have hN:=ij L;have pk:=(gS hx).1;have hz:IntKind.i64.wrap (((hZ L).length:Int) - 1)=((L.length - 1:Nat):Int):=by rw [hN,wrap64 (by omega) (by omega)];omega
 refine eG 23 [.cell 4 26] func285 rfl ntmps285 rfl fun _ _ _ _=>?_;refine ⟨[.v (.string x)],⟨by rw [hz];omega,by rw [hz];exact gz hx⟩,?_⟩;refine cP HA (iL x GJ) ?_;refine br ?_ ?_<;>intro h
 ·have h:az x=false:=sU h;refine cP dG (bH 9 a) ?_;refine ⟨_,?_,rfl⟩;rw [fH,af (by rw [h];decide)];exact ax
 ·have h:az x=true:=sU h;refine jt QS rfl (B7 L hl) ax (fun r hr=>?_);obtain ⟨z,rfl,hz⟩:=hr;refine br ?_ ?_<;>intro h2
  ·have h2:0<=z:=sU h2;refine cP dG (bH 10 a) ?_;refine ⟨_,?_,rfl⟩;rw [fH,aj h,af (hz.1 h2)];exact ax
  ·have h2:¬ 0<=z:=sU h2;refine ⟨_,?_,rfl⟩;rw [fH,aj h,aj (Classical.byContradiction fun hn=>h2 (hz.2 hn))];exact ax
theorem B9 {l:List Wd} {e:Nat} {x:Wd} (h:l[e]? = some x):bZ ((l.map fun w=>(⟨w.s,0⟩:Wd)).take e) ++ [[.v (.string x.s),.v (.int .i64 0)]]=bZ ((l.map fun w=>(⟨w.s,0⟩:Wd)).take (e + 1)):=by
 have h2:(l.map fun w=>(⟨w.s,0⟩:Wd))[e]? = some ⟨x.s,0⟩:=by simp [h]
 exact Fk h2
def aw (l:List Wd):List Wd:=l.map fun w=>⟨w.s,0⟩
abbrev HU (l l':List Wd) (n e:Nat):St:=
 ⟨[gh 6 2 (bZ l),bQ 7 ((bZ l).length),bQ 8 e,(3,⟨[],.sl 2 (bZ l') (some 0)⟩)],[],[⟨n,34,2,none⟩]⟩
theorem iN (l:List Wd) (hs:wdsWt l<=1099511627776):cw prog 251 [.sl 2 (bZ l) none] (.sl 2 (bZ (aw l)) none):=by
 have hl:=cW l;refine eG 20 [.tmp 2] func251 rfl ntmps251 rfl fun _ _ _ _=>?_;refine de (fun j st=>∃ e:Nat,st=HU l ((aw l).take e) e e/\e<=l.length/\j=l.length - e) l.length (HU l [] 0 0) (gF ⟨0,34,2,none⟩ rfl ⟨_,rfl⟩ rfl wA rfl rfl DH) ⟨0,by simp,by omega,by omega⟩ ?_;rintro j st ⟨e,rfl,he,rfl⟩;refine br ?_ ?_<;>intro h
 ·have aS:e < l.length:=by simpa [aM] using h
  obtain ⟨w,hw⟩:=gX aS;refine ⟨lg w,⟨by omega,eH hw⟩,?_⟩;refine ⟨by simp [aM,aw];omega,⟨by simp [aM,aw,maxLen];omega,by simp [aM,aw];omega⟩,?_⟩;refine ⟨HU l ((aw l).take (e + 1)) (e + 1) (e + 1),(fC (yb (gy aS (by omega)) (B9 hw))),l.length - (e + 1),by omega,e + 1,rfl,by omega,rfl⟩
 ·have hge:e=l.length:=by
   have:=h;simp [aM] at this;omega
  rw [hge,List.take_of_length_le (by simp [aw])];exact ⟨_,ax,rfl⟩
end Go.Proofs.YtfdedoiiahbnnaaGreat
