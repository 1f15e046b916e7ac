/- Part 2 of the proof: The evaluator 'go' is sound: the end of a call, the theorem; contracts; rules for branches, calls, loops; Rules for the evaluator: what is known made less, loops; A region that draws its order: where the operations with an effect are ordered among themselves, and what writes waits for all that reads, one run in the order of the text serves every order; The evaluator at regions that draw their order: one run in the order of the text; what is read is what was known at the region's beginning; A region that draws its order, in which two operations with an effect are not ordered: the run in either order of these two serves every order; Rules for the evaluator: a call that is handed the caller's own objects, to read them; Rules for the evaluator: objects that are written no more are frozen, ahead of a loop; Rules for the evaluator: a call that is handed one of the caller's objects, to write it; The table of this program's types, by which the evaluator goes; The program's functions are entered; The data of the document's types, plain, and as the evaluator has them; Names: the program's and the reference's functions say the same of a text; sort.Search; the program's table of texts: Find; The library's sort.Slice, laid at this program by the kit's tool (lay-plain; wip/tools/lay.sh); The order of the table; the closure handed to sort.Slice; sort.Slice of the table's places, at a call. No condition. -/
import Derived.Scope
import Derived.Test.YtfdedoiiahbnnaaGreatProg
import Derived.Shelf.GgSortFunc.Whole
import Derived.Shelf.GgSortFunc.Tiny
import Derived.Test.YtfdedoiiahbnnaaGreatNd1
set_option linter.all false
namespace Go.Proofs.YtfdedoiiahbnnaaGreat
namespace Dv
open Go Go.RowKit
structure QT (E E':En) (bx:List (List DV)) (N:Nat):Prop where
 c:∀ a v,E.c a=some v->E'.c a=some v
 fz:∀ (i:Nat) cs,N<=i->bx[i]? = some cs->∃ b arr,E.β[i]? = some b/\RvC E cs arr/\∀ (j:Nat) u,arr[j]? = some u->E'.c ⟨b,j,none⟩=some u
theorem QT.cl {E E':En} {bx:List (List DV)} {N:Nat} (h:QT E E' bx N):QT E E'.cl bx N:=⟨h.c,h.fz⟩
structure MF (E E':En) (n0 m0:Nat):Prop where
 β:∀ (i:Nat) b,i < n0->E.β[i]? = some b->E'.β[i]? = some b
 tk:∀ k,k < m0->E'.tk[k]? = E.tk[k]? /\ E'.τ[k]? = E.τ[k]?
theorem MF.zero (E E':En):MF E E' 0 0:=⟨fun _ _ h=>absurd h (Nat.not_lt_zero _),fun _ h=>absurd h (Nat.not_lt_zero _)⟩
theorem Ext.V0 (E:En):Ext E.cl E:=⟨fun _ _ h=>h,fun j b hj=>by simp [En.cl] at hj,fun k q hk=>by simp [En.cl] at hk⟩
theorem G4 {E E':En} (hm:∀ e b o es,RvEs E.cl e b o es->RvEs E'.cl e b o es):∀ {l:List DV} {arr:List Value},(∀ x∈l,(∃ y,x = .v y)∨∃ e' Gv,x = .sl e' Gv none)->RvL E l arr->RvL E' l arr
 | [],arr,_,h=>by simp only [RvL] at h ⊢;exact h
 | d :: r,arr,hs,h=>by
  simp only [RvL] at h ⊢;obtain ⟨v,s,rfl,h1,h2⟩:=h;refine ⟨v,s,rfl,?_,G4 hm (fun x hx=>hs x (iS _ hx)) h2⟩;rcases hs d (by simp) with ⟨y,rfl⟩ | ⟨e',Gv,rfl⟩
  ·unfold Rv at h1 ⊢;exact h1
  ·unfold Rv at h1 ⊢;obtain ⟨b,n,cap,h3,h4,h5,_⟩:=h1;exact ⟨b,n,cap,h3,h4,fun hn=>⟨(h5 hn).1,hm _ _ _ _ (h5 hn).2⟩,fun k hk=>by cases hk⟩
theorem CcL.length {bx:List (List DV)} {N n0 m0:Nat}:∀ {l' l:List DV},CcL bx N n0 m0 l' l->l'.length=l.length
 | [],l,h=>by simp only [CcL] at h;subst h;rfl
 | d' :: r',l,h=>by
  simp only [CcL] at h;obtain ⟨d,r,rfl,_,h2⟩:=h;simp [CcL.length h2]
theorem CcE.length {bx:List (List DV)} {N:Nat}:∀ {l' l:List (List DV)},CcE bx N l' l->l'.length=l.length
 | [],l,h=>by simp only [CcE] at h;subst h;rfl
 | d' :: r',l,h=>by
  simp only [CcE] at h;obtain ⟨d,r,rfl,_,h2⟩:=h;simp [CcE.length h2]
theorem fK {bx:List (List DV)} {N:Nat}:∀ l:List (List DV),CcE bx N l l
 | []=>by simp only [CcE]
 | d :: r=>by simp only [CcE];exact ⟨d,r,rfl,.inl rfl,fK r⟩
mutual
theorem Cc.sound {bx:List (List DV)} {N:Nat} {E:En}:∀ {d':DV} {E':En} {n0 m0:Nat} {d:DV} {v:Value},QT E E' bx N->MF E E' n0 m0->Cc bx N n0 m0 d' d->Rv E d v->Rv E' d' v
 | .v y,E',n0,m0,d,v,hf,hl,h,hv=>by grind [Cc,Rv]
 | .ud,E',n0,m0,d,v,hf,hl,h,hv=>by grind [Cc,Rv]
 | .agg l',E',n0,m0,d,v,hf,hl,h,hv=>by
  simp only [Cc] at h;obtain ⟨l,rfl,h⟩:=h;unfold Rv at hv ⊢;obtain ⟨vs,h1,h2,h3⟩:=hv;exact ⟨vs,h1,CcL.sound hf hl h h2,h3⟩
 | .bo l',E',n0,m0,d,v,hf,hl,h,hv=>by
  simp only [Cc] at h;obtain ⟨l,rfl,h⟩:=h;unfold Rv at hv ⊢;obtain ⟨vs,h1,h2⟩:=hv;exact ⟨vs,h1,CcL.sound hf hl h h2⟩
 | .sl e es tk,E',n0,m0,d,v,hf,hl,h,hv=>by
  have hm:∀ b o,RvEs E.cl e b o es->RvEs E'.cl e b o es:=fun b o hr=>RvEs.mono (Ext.Mw hf.c) hr
  cases tk with
  | none=>
   simp only [Cc] at h;rcases h with ⟨rfl,rfl⟩ | ⟨Zi,rfl⟩ | ⟨i,off,c,cs,rfl,hi,cx,GA,Gz,nc⟩ | ⟨es0,Zi,rfl,h⟩
   ·have:=bN hv;subst this;unfold Rv;exact ⟨none,0,0,rfl,⟨rfl,zLeR _⟩,fun hn=>(hn rfl).elim,fun k hk=>by cases hk⟩
   ·unfold Rv at hv ⊢;obtain ⟨b,n,cap,h1,h2,h3,_⟩:=hv;exact ⟨b,n,cap,h1,h2,fun hn=>⟨(h3 hn).1,hm _ _ (h3 hn).2⟩,fun k hk=>by cases hk⟩
   ·obtain ⟨b,arr,hb,hc,hmm⟩:=hf.fz i cs hi cx;unfold Rv at hv ⊢;obtain ⟨b',ad,fj,hlc,rfl,hca⟩:=hv;rw [hb] at fj;simp only [oI] at fj;subst fj;refine ⟨ad,es.length,c,rfl,⟨rfl,hlc⟩,fun hn=>?_,fun k hk=>by cases hk⟩;have lk:0 < es.length:=List.length_pos_iff.2 hn;have had:=hca (by omega);subst had;refine ⟨rfl,?_⟩;have h1:=(hc.drop off).take (es.length * e);rw [<- GA] at h1;refine rvEs_flat ⟨G4 (E':=E'.cl) (fun e b o es hr=>(RvEs.mono (Ext.Mw hf.c) hr:RvEs E'.cl e b o es)) nc h1.1,h1.2⟩ Gz fun j u hj=>?_;rw [cJ] at hj;split at hj
    ·rw [List.getElem?_drop] at hj;exact hmm (off + j) u hj
    ·cases hj
   ·have hlen:=CcE.length h;have hs:=fun b o=>CcE.sound (e:=e) (b:=b) (o:=o) hf h;unfold Rv at hv ⊢;obtain ⟨b,n,cap,h1,h2,h3,_⟩:=hv;refine ⟨b,n,cap,h1,by omega,fun hn=>?_,fun k hk=>by cases hk⟩
    grind
  | some k=>
   simp only [Cc] at h;obtain ⟨hk,rfl⟩:=h;unfold Rv at hv ⊢;obtain ⟨b,n,cap,h1,h2,h3,h4⟩:=hv;refine ⟨b,n,cap,h1,h2,fun hn=>⟨(h3 hn).1,hm _ _ (h3 hn).2⟩,fun k' iH=>?_⟩;cases iH;obtain ⟨e1,e2⟩:=hl.tk k hk;obtain ⟨q,h5,h6,h7⟩:=h4 k rfl
   grind
 | .pt cs' o,E',n0,m0,d,v,hf,hl,h,hv=>by
  simp only [Cc] at h;rcases h with rfl | ⟨i,cs,rfl,hi,cx,h⟩
  ·unfold Rv at hv ⊢;obtain ⟨b,p,h1,h2⟩:=hv;exact ⟨b,p,h1,RvAt.mono (Ext.Mw hf.c) h2⟩
  ·obtain ⟨b,arr,hb,hc,hm⟩:=hf.fz i cs hi cx;unfold Rv at hv ⊢;obtain ⟨b',fj,rfl⟩:=hv;rw [hb] at fj;simp only [oI] at fj;subst fj;refine ⟨b,0,by simp,?_⟩;have:=CcL.sound hf.cl (MF.zero E E'.cl) h hc.1;exact EL ⟨this,hc.2⟩ fun j u hj=>by rw [Nat.zero_add];exact hm j u hj
 | .loc i o,E',n0,m0,d,v,hf,hl,h,hv=>by
  simp only [Cc] at h;obtain ⟨hi,rfl⟩:=h;unfold Rv at hv ⊢;obtain ⟨b,hb,h1⟩:=hv;exact ⟨b,hl.β i b hi hb,h1⟩
 | .el i o,E',n0,m0,d,v,hf,hl,h,hv=>by
  simp only [Cc] at h;obtain ⟨hi,rfl⟩:=h;unfold Rv at hv ⊢;obtain ⟨b,hb,h1⟩:=hv;exact ⟨b,hl.β i b hi hb,h1⟩
 | .ms i e o l c,E',n0,m0,d,v,hf,hl,h,hv=>by
  simp only [Cc] at h;obtain ⟨hi,rfl⟩:=h;unfold Rv at hv ⊢;obtain ⟨b,ad,hb,h1⟩:=hv;exact ⟨b,ad,hl.β i b hi hb,h1⟩
 | .fn f a' b',E',n0,m0,d,v,hf,hl,h,hv=>by
  simp only [Cc] at h;obtain ⟨a,b,rfl,ha,hb⟩:=h;unfold Rv at hv ⊢;obtain ⟨l,r,h1,h2,h3⟩:=hv;exact ⟨l,r,h1,CcL.sound hf hl ha h2,CcL.sound hf hl hb h3⟩
 | .rR t x',E',n0,m0,d,v,hf,hl,h,hv=>by
  simp only [Cc] at h;obtain ⟨x,rfl,hx⟩:=h;unfold Rv at hv ⊢;obtain ⟨z,h1,h2⟩:=hv;exact ⟨z,h1,Cc.sound hf hl hx h2⟩
theorem CcL.sound {bx:List (List DV)} {N:Nat} {E:En}:∀ {l':List DV} {E':En} {n0 m0:Nat} {l:List DV} {vs:List Value},QT E E' bx N->MF E E' n0 m0->CcL bx N n0 m0 l' l->RvL E l vs->RvL E' l' vs
 | [],E',n0,m0,l,vs,hf,hl,h,hv=>by grind [CcL,RvL]
 | d' :: r',E',n0,m0,l,vs,hf,hl,h,hv=>by
  simp only [CcL] at h;obtain ⟨d,r,rfl,h1,h2⟩:=h;simp only [RvL] at hv ⊢;obtain ⟨v,s,h3,h4,h5⟩:=hv;exact ⟨v,s,h3,Cc.sound hf hl h1 h4,CcL.sound hf hl h2 h5⟩
theorem CcA.sound {bx:List (List DV)} {N:Nat} {E:En}:∀ {l':List DV} {E':En} {l:List DV} {b p:Nat},QT E E' bx N->CcL bx N 0 0 l' l->RvAt E.cl b p l->RvAt E'.cl b p l'
 | [],E',l,b,p,hf,h,hv=>by simp only [RvAt]
 | d' :: r',E',l,b,p,hf,h,hv=>by
  simp only [CcL] at h;obtain ⟨d,r,rfl,h1,h2⟩:=h;simp only [RvAt] at hv ⊢;obtain ⟨⟨v,h3,h4,h5⟩,h6⟩:=hv;exact ⟨⟨v,hf.c _ _ h3,h4,Cc.sound hf.cl (MF.zero E E'.cl) h1 (Rv.mono (Ext.V0 E) h5)⟩,CcA.sound hf h2 h6⟩
theorem CcE.sound {bx:List (List DV)} {N:Nat} {E:En}:∀ {l':List (List DV)} {E':En} {l:List (List DV)} {e b o:Nat},QT E E' bx N->CcE bx N l' l->RvEs E.cl e b o l->RvEs E'.cl e b o l'
 | [],E',l,e,b,o,hf,h,hv=>by simp only [RvEs]
 | a' :: r',E',l,e,b,o,hf,h,hv=>by
  simp only [CcE] at h;obtain ⟨a,r,rfl,h1,h2⟩:=h;simp only [RvEs] at hv ⊢;obtain ⟨h3,h4,h5⟩:=hv;refine ⟨?_,?_,CcE.sound hf h2 h5⟩
  ·grind [CcL.length]
  ·rcases h1 with rfl | h1
   ·exact RvAt.mono (Ext.Mw hf.c) h4
   ·exact CcA.sound hf h1 h4
end
theorem Ys {E:En} {e:Nat} {es Gv:List (List DV)} {tk:Option Nat} {v:Value} (h:CcE [] 0 Gv es) (hv:Rv E (.sl e es tk) v):Rv E (.sl e Gv tk) v:=by
 have hlen:=CcE.length h;have hs:=fun b o=>CcE.sound (E:=E) (E':=E) (bx:=[]) (N:=0) (e:=e) (b:=b) (o:=o) ⟨fun _ _ h=>h,fun i cs _ hi=>by simp at hi⟩ h
 grind [Rv]
theorem mU.get {bx:List (List DV)} {N n0 m0:Nat}:∀ {l' l:List (List DV)},mU bx N n0 m0 l' l->l'.length=l.length/\∀ (i:Nat) cs',l'[i]? = some cs' -> ∃ cs,l[i]? = some cs/\CcL bx N n0 m0 cs' cs
 | [],l,h=>by simp only [mU] at h;subst h;exact ⟨rfl,by simp⟩
 | a' :: r',l,h=>by
  simp only [mU] at h;obtain ⟨a,r,rfl,h1,h2⟩:=h;obtain ⟨h3,h4⟩:=mU.get h2
  grind
open Classical in
noncomputable def vx (E:En) (n:Nat) (w:World):Addr->Option Value:=
 fun a=>if ∃ i:Nat,n<=i/\E.β[i]? = some a.block then w.cell? a else E.c a
section
variable {X:Ctx} {E:En} {st:St} {a:Act} {w:World}
theorem fv {n:Nat} {x:Addr} {v:Value} (h:vx E n w x=some v):((∃ i:Nat,n<=i/\E.β[i]? = some x.block)/\w.cell? x=some v)∨E.c x=some v:=by
 unfold vx at h;split at h
 all_goals grind
theorem oi {bx:List (List DV)} (h:Env E bx w) {n:Nat} {x:Addr} {v:Value} (hx:E.c x=some v):vx E n w x=some v:=by
 unfold vx;split
 ·exact h.sub x v hx
 ·exact hx
theorem ES (h:Rel X E st a w) {d d':DV} {os:List (List DV)} {v:Value} (hv:Rv E d v) (M:Nat) (hM:(X.fr=false/\M=X.m0)∨(X.fr=true/\M=st.tk.length)) (hd:Cc st.bx X.n0 X.n0 M d' d) (rT:mU st.bx X.n0 X.n0 M os (st.bx.take X.n0)) (hΦ:X.Φ d' os (st.tk.take M)):GR X.still X.E0 X.w0 X.Φ v w X.fr:=by
 obtain ⟨r,hβr,hβl⟩:=h.nw.β;have ib:E.β.take X.n0=X.E0.β:=by rw [hβr,<- X.tj];simp
 have kB:∀ (i:Nat) b,i < X.n0->E.β[i]? = some b->X.E0.β[i]? = some b:=fun i b hi hb=>by grind
 have dO:∀ (i:Nat) b,X.n0<=i->E.β[i]? = some b->b∈r:=fun i b hi hb=>by grind
 have aat:∀ b,b∈X.E0.β->b∈r->False:=fun b h1 h2=>by
  have:=h.env.inj
  grind
 have hE0l:X.E0.τ.length=X.m0:=by rw [h.nw.l0,X.oZ]
 have hEt:X.m0<=E.tk.length:=by
  rcases Nat.lt_or_ge E.tk.length X.m0 with h1 | h1
  ·have hk:E.tk.length < X.E0.tk.length:=by rw [X.oZ];exact h1
   have iH:E.tk.length < X.E0.τ.length:=by rw [h.nw.l0];exact hk
   obtain ⟨q',y',h2,_⟩:=h.nw.tk E.tk.length _ _ (gE hk) (gE iH)
   grind
  ·exact h1
 have hMm:X.m0<=M/\M<=E.tk.length:=by
  rcases hM with ⟨_,rfl⟩ | ⟨_,rfl⟩
  ·exact ⟨zLeR _,hEt⟩
  ·rw [<- h.tk];exact ⟨hEt,zLeR _⟩
 have hEl:tkL X.fr (E.tk.take M).length X.E0.tk.length:=by
  rw [zLenT];rcases hM with ⟨hf,rfl⟩ | ⟨hf,rfl⟩
  ·rw [hf];show min _ _=_;rw [X.oZ];omega
  ·rw [hf];show _<=min _ _;rw [X.oZ];omega
 let E':En:=⟨vx E X.n0 w,X.E0.β,E.tk.take M,E.τ.take M⟩
 have V3:QT E E' st.bx X.n0:={
  c:=fun x u hx=>oi h.env hx
  fz:=fun i cs hi cx=>by
   obtain ⟨b,ty,arr,hb,hw,hc⟩:=h.env.eQ i cs cx;refine ⟨b,arr,hb,hc,fun j u hj=>?_⟩;show vx E X.n0 w ⟨b,j,none⟩=some u;unfold vx;rw [zIfP ⟨i,hi,hb⟩,cO hw]
   simpa using hj }
 have ET:MF E E' X.n0 M:={
  β:=kB
  tk:=fun k hk=>⟨by show (E.tk.take M)[k]? = _;rw [cJ,zIfP hk],by show (E.τ.take M)[k]? = _;rw [cJ,zIfP hk]⟩ }
 obtain ⟨nZ,hog⟩:=rT.get;refine ⟨h.fr,h.sh,d',os,E',?_,rfl,hEl,?_,hd.sound V3 ET hv,by show X.Φ d' os (E.tk.take M);rw [h.tk];exact hΦ⟩
 ·exact {
   len:=by
    show X.E0.β.length=os.length;rw [nZ,X.tj,zLenT]
    have:X.n0<=st.bx.length:=by
     rw [<- h.env.len,hβr,List.length_append,X.tj];omega
    omega
   tl:=by simp only [E',zLenT];rw [h.env.tl]
   eQ:=fun i cs' hi=>by
    obtain ⟨cs,cx,sY⟩:=hog i cs' hi;rw [cJ] at cx;split at cx
    ·rename_i az;obtain ⟨b,ty,arr,hb,hw,hc⟩:=h.env.eQ i cs cx;exact ⟨b,ty,arr,kB i b az hb,hw,CcL.sound V3 ET sY hc.1,hc.2⟩
    ·cases cx
   inj:=by rw [<- ib];exact h.env.inj.sublist (List.take_sublist _ _)
   sub:=fun x u hx=>by
    rcases fv hx with ⟨_,h1⟩ | h1
    ·exact h1
    ·exact h.env.sub x u h1
   pc:=fun x u hx hm=>by
    rcases fv hx with ⟨⟨i,hi,hb⟩,_⟩ | h1
    ·exact aat _ hm (dO i _ hi hb)
    ·refine h.env.pc x u h1 ?_;rw [hβr];exact List.mem_append.2 (.inl hm)
   dh:=fun k q y hq hy=>by
    simp only [E',cJ] at hq hy;split at hq
    ·rename_i hk;rw [zIfP hk] at hy;rcases h.env.dh k q y hq hy with h1 | ⟨g,cap,cur,rfl,h1,h2,h3,h4,h5,h6⟩
     ·exact .inl h1
     ·refine .inr ⟨g,cap,cur,rfl,h1,⟨h2.1,h2.2.mono fun _ _ hx=>oi h.env hx⟩,h3,h4,fun hm=>h5 (by rw [hβr];exact List.mem_append.2 (.inl hm)),fun x u hx hg=>?_⟩;rcases fv hx with ⟨⟨i,hi,hb⟩,_⟩ | h7
      all_goals grind
    ·cases hq
   jY:=fun k k' y y' g BN hy jw=>by
    simp only [E',cJ] at hy jw;split at hy
    ·split at jw
     ·exact h.env.jY k k' y y' g BN hy jw
     ·cases jw
    ·cases hy }
 ·exact {
   c:=fun x u hx=>oi h.env (h.nw.c x u hx)
   cn:=fun x u hx=>by
    rcases fv hx with ⟨⟨i,hi,hb⟩,_⟩ | h1
    ·exact .inr (.inl (hβl _ (dO i _ hi hb)))
    ·exact h.nw.cn x u h1
   β:=⟨[],by simp [E'],by simp⟩
   tk:=fun k q y hq hy=>by
    obtain ⟨q',y',h1,h2,h3⟩:=h.nw.tk k q y hq hy
    grind
   tn:=fun k y g hk hy hg=>by
    simp only [E',cJ] at hy;split at hy
    ·exact h.nw.tn k y g hk hy hg
    ·cases hy
   l0:=h.nw.l0 }
def resOf (tmps:Array Value):ResultVar->Sem Value
 | .tmp t=>pure (tmps.getD t undef)
 | .cell x t=>do loadVar t (<- asAddr (tmps.getD x undef))
theorem zl (fn:Func) (tmps:Array Value):results fn tmps=(do let vs <- fn.results.mapM (resOf tmps);pure (if h:vs.size=1 then vs[0] else .tuple vs)):=by
 unfold results;congr 2
theorem J5 (h:Rel X E st a w) {r:ResultVar} {d:DV} (hr:res1 X.T st r=some d):∃ v,Rv E d v/\(resOf a.tmps r).run X.P w = .ok v w:=by
 cases r with
 | tmp t=>
  simp only [res1] at hr;split at hr
  ·rename_i x hg;simp only [oI] at hr;subst hr;obtain ⟨v,h1,h2⟩:=(h.tm t _ hg).1 (bi _);exact ⟨v,h2,by simp [resOf,Array.getD_eq_getD_getElem?,h1]⟩
  ·cases hr
 | cell x t=>
  simp only [res1] at hr;split at hr
  ·rename_i i off hg;split at hr
   ·rename_i cs cx;obtain ⟨v,h1,h2⟩:=(h.tm x _ hg).1 (bi _);unfold Rv at h2;obtain ⟨b,hb,rfl⟩:=h2;obtain ⟨b',Gy,arr,fj,hw,hc⟩:=h.env.eQ i cs cx;rw [hb] at fj;simp only [oI] at fj;subst fj;obtain ⟨v,hv,hl⟩:=oc X.hT hc (b:=b) (p:=0) hr;have hl:=hl w fun j u hj=>by rw [cO hw];simpa using hj
    rw [Nat.zero_add] at hl;exact ⟨v,hv,by simp only [resOf,Array.getD_eq_getD_getElem?,h1,Option.getD_some,asAddr,Sem.run_bind,Sem.run_pure,Result.andThen_ok,hl]⟩
   ·cases hr
  ·cases hr
theorem lm (h:Rel X E st a w):∀ {rs:List ResultVar} {ds:List DV},resD X.T st rs=some ds->∃ vs,RvL E ds vs/\(rs.mapM (resOf a.tmps)).run X.P w = .ok vs w
 | [],ds,hr=>by
  simp only [resD,oI] at hr;subst hr;exact ⟨[],cW E,rfl⟩
 | r :: rs,ds,hr=>by
  simp only [resD] at hr;split at hr
  ·rename_i d l hd hl;simp only [oI] at hr;subst hr;obtain ⟨v,hv,h1⟩:=J5 h hd;obtain ⟨vs,vu,h2⟩:=lm h hl;refine ⟨v :: vs,rvL_cons hv vu,?_⟩
   simp_all
  ·cases hr
theorem rX (h:Rel X E st a w) {d:DV} {v:Value} (hv:Rv E d v) (hf:finD X st d):GR X.still X.E0 X.w0 X.Φ v w X.fr:=by
 unfold finD at hf;split at hf
 ·grind [ES]
 ·rename_i hfr;split at hf
  ·rename_i hn hm
   have key:∀ d',Cc st.bx 0 0 0 d' d->X.Φ d' [] []->GR X.still X.E0 X.w0 X.Φ v w X.fr:=fun d' hd hΦ=>
    ES h hv (d':=d') (os:=[]) X.m0 (.inl ⟨hfr,rfl⟩) (by rw [hn,hm];exact hd) (by rw [hn];simp [mU]) (by rw [hm];exact hΦ)
   grind [Cc]
  ·grind [ES]
theorem CD (h:Rel X E st a w) (hf:fin X st):kq X [] .ret a w:=by
 have s6:X.fn.results=X.rs.toArray:=by rw [<- X.ti]
 simp only [kq];refine ⟨h.df,?_⟩
 have hbt:rj X.bt X.E0.β w:=fun p hp b hb=>by
  obtain ⟨r,hr,_⟩:=h.nw.β;exact h.bt p hp b (by rw [hr,eT (gS hb).1];exact hb)
 unfold fin at hf
 have zm:∀ (ds:List DV) (vs:List Value),(X.rs.mapM (resOf a.tmps)).run X.P w = .ok vs w->(results X.fn a.tmps).run X.P w = .ok (if h:vs.toArray.size=1 then vs.toArray[0] else .tuple vs.toArray) w:=by
  intro ds vs hv;rw [zl,s6]
  simp_all
 split at hf
 ·rename_i hr;obtain ⟨vs,vu,h1⟩:=lm h hr;simp only [RvL] at vu;subst vu;exact ⟨_,zm [] [] h1,rX h (v:=.tuple #[]) (by unfold Rv;exact ⟨[],rfl,cW E⟩) hf,hbt⟩
 ·rename_i d hr;obtain ⟨vs,vu,h1⟩:=lm h hr;have hl:=vu.length;simp only [RvL] at vu;obtain ⟨v,s,rfl,hv,rfl⟩:=vu;exact ⟨_,zm [d] [v] h1,rX h (v:=v) hv hf,hbt⟩
 ·rename_i d e l hr;obtain ⟨vs,vu,h1⟩:=lm h hr;have hl:=vu.length;have bF:¬ vs.toArray.size=1:=by simp at hl ⊢;omega
  have h2:=zm [] vs h1;rw [dif_neg bF] at h2;exact ⟨_,h2,rX h (v:=.tuple vs.toArray) (by unfold Rv;exact ⟨vs,rfl,vu⟩) hf,hbt⟩
 ·exact hf.elim
theorem vy:∀ (k:List It) (a:Act) (w:World),kq X [] .ret a w->kq X k .ret a w
 | [],_,_,h=>h
 | .code _ :: k,a,w,h=>vy k a w h
 | .ops _ _ :: k,a,w,h=>vy k a w h
 | .Cr _ :: k,a,w,h=>vy k a w h
 | .Gw _ :: k,a,w,h=>vy k a w h
theorem tH {id:Nat}:∀ (k k':List It) (a:Act) (w:World),dropBlk id k=some k' -> kq X k' .normal a w->kq X k (.exit id) a w
 | [],k',a,w,hd,_=>by simp [dropBlk] at hd
 | .code _ :: k,k',a,w,hd,h=>by simp only [dropBlk] at hd;exact tH k k' a w hd h
 | .ops _ _ :: k,k',a,w,hd,h=>by simp only [dropBlk] at hd;exact tH k k' a w hd h
 | .Gw _ :: k,k',a,w,hd,h=>by simp only [dropBlk] at hd;exact tH k k' a w hd h
 | .Cr i :: k,k',a,w,hd,h=>by
  simp only [dropBlk] at hd;split at hd
  ·simp_all [kq]
  ·rename_i hi
   have hi:id≠i:=by
    rintro rfl;rw [Nat.beq_refl] at hi;cases hi
   simp only [kq];rw [af hi];exact tH k k' a w hd h
theorem ON {P:Program} {o:Oper} {a:Act} {K K':Act->World->Prop} {Q Q':Exit->Act->World->Prop} (hK:∀ a w,K a w->K' a w) (hQ:∀ e a w,Q e a w->Q' e a w)
  {r:Result Next} (h:o.upon P a K Q r):o.upon P a K' Q' r:=by
 unfold Oper.upon at *;split<;>simp_all
 ·refine h.mono ?_;intro e w' hq
  cases e with
  | returned v=>exact hK _ _ hq
  | panicked c=>exact hQ _ _ _ hq
  | outgrown=>obtain ⟨a,w,hq⟩:=hq;exact ⟨a,w,hQ _ _ _ hq⟩
 ·exact h.mono fun v w' hq=>hK _ _ hq
theorem G5 {P:Program} {o:Oper} {a:Act} {K K':Act->World->Prop} {Q Q':Exit->Act->World->Prop} {w:World} (hK:∀ a w,K a w->K' a w) (hQ:∀ e a w,Q e a w->Q' e a w)
  (h:o.wp P a w K Q):o.wp P a w K' Q':=ON hK hQ h
theorem tI {l:Nat}:∀ (k:List It) (a:Act) (w:World),kq X k (.goto l) a w->False
 | [],a,w,h=>by simp [kq] at h
 | .code _ :: k,a,w,h=>tI k a w (by simpa only [kq] using h)
 | .ops _ _ :: k,a,w,h=>tI k a w (by simpa only [kq] using h)
 | .Cr _ :: k,a,w,h=>tI k a w (by simpa only [kq] using h)
 | .Gw _ :: k,a,w,h=>tI k a w (by simpa only [kq] using h)
theorem Rr (k:List It) (e:Exit) (a:Act) (w:World) (h:kq X k e a w):Exit.noGoto (kq X k) e a w:=by
 cases e with
 | goto l=>exact (tI k a w h).elim
 | _=>exact h
theorem eW (c:Code) (k:List It) (a:Act) (w:World):kq X (.code c :: k) .normal a w=c.wp X.P (kq X k) a w:=rfl
theorem V4 (c:Code) (k:List It):kq X (.code c :: k)=Exit.then (c.wp X.P (kq X k)) (kq X k):=by
 funext e a w;cases e<;>rfl
theorem aau (id:Nat) (k:List It) (e:Exit) (a:Act) (w:World) (h:kq X (.Cr id :: k) e a w):Exit.inBlock id (kq X k) e a w:=by
 cases e<;>exact h
theorem wanted_spec (h:Rel X E st a w) {all:Array Oper} {o:Oper} {j d:Nat} {want:Bool} {nX:List (Nat × Bool)} {sd:DV} (V5:o.guard=some (j,want)) (Gx:gslot all.toList j=some d) (BZ:get st.sl d=some ⟨nX,sd⟩) :
  Region.wanted o (yielded all a.tmps)=true↔Holds a.tmps ((d,want) :: nX):=by
 have aav:yielded all a.tmps j=match a.tmps[d]? with | some (.bool b)=>some b | _=>none:=by
  unfold gslot at Gx;split at Gx
  ·rename_i oj hoj;have hoj':all[j]? = some oj:=sU hoj;simp only [yielded,hoj',Gx,Option.bind_some]
   grind
  ·cases Gx
 have htd:=h.tm d _ BZ;simp only [Region.wanted,V5,aav];constructor
 ·intro hw;have hb:a.tmps[d]? = some (.bool want):=by grind
  refine lf hb ?_;by_cases hh:Holds a.tmps nX
  ·exact hh
  ·have:=htd.2 hh;rw [hb] at this;simp [undef] at this
 ·intro hh;have:=hh (d,want) (by simp);simp only at this;rw [this];simp
theorem G6 (h:Rel X E st a w) {t:Nat} {b:Bool} (hg:get st.sl t=some ⟨[],.v (.bool b)⟩):a.tmps[t]? = some (.bool b):=by
 obtain ⟨v,h1,h2⟩:=(h.tm t _ hg).1 (bi _);rw [h1,lg h2]
theorem Rs (h:Rel X E st a w) {t:Nat} (hg:get st.sl t=some ⟨[],.ud⟩):a.tmps[t]? = some undef:=by
 obtain ⟨v,h1,h2⟩:=(h.tm t _ hg).1 (bi _);unfold Rv at h2;rw [h1,h2]
theorem zo {G:List (Nat × Bool)} {dst:Option Nat} (fh:okG G dst=true):∀ e,dst=some e->∀ p∈G,p.1≠e:=by
 intro e he p hp eC;rw [he] at fh;have:=(List.all_eq_true.1 fh) p hp;rw [eC] at this;simp at this
theorem go_sound:∀ n,Snd X (go X n)
 | 0=>fun k st hg=>hg.elim
 | n + 1=>by
  have ih:=go_sound n;intro k st hg E a w h
  match k with
  | []=>exact CD h (by simpa [go] using hg)
  | .Cr id :: k=>exact ih k st (by simpa [go] using hg) E a w h
  | .Gw J :: k=>exact ⟨st,E,h,by simpa [go] using hg⟩
  | .ops all [] :: k=>exact ih k st (by simpa [go] using hg) E a w h
  | .ops all (o :: r) :: k=>
   simp only [go,qE,Mv] at hg;split at hg
   ·exact hg.elim
   ·rename_i hd;split at hg
    ·rename_i V5;simp only [kq,wpList,Region.wanted,V5,if_true];split at hg
     ·rename_i s hs;obtain ⟨v,hv,bV⟩:=gv X.hT h.rl (bi _) hs;exact .inl (mZ (bV w fun _=>rfl) (ih _ _ hg E _ w (bu h hd s v hv)))
     ·exact .inl (G5 (fun a w hk=>hk) (fun e a w hq=>hq.elim) (CB ih hd h hg))
    ·rename_i j want V5;split at hg
     ·exact hg.elim
     ·rename_i d Gx;split at hg
      ·exact hg.elim
      ·rename_i nX sd BZ;have zp:=wanted_spec h V5 Gx BZ;simp only [kq,wpList];split at hg
       ·rename_i s hs;split at hg
        case h_2=>exact hg.elim
        rename_i fh;split
        ·rename_i hw;have hh:=zp.1 hw;obtain ⟨v,hv,bV⟩:=gv X.hT h.rl hh hs;exact .inl (mZ (bV w fun _=>rfl) (ih _ _ hg E _ w (tC h hd _ s v (zo fh) (fun _=>hv) (fun hn=>(hn hh).elim))))
        ·rename_i hw;have hh:¬ Holds a.tmps ((d,want) :: nX):=fun hh=>hw (zp.2 hh);exact ih _ _ hg E _ w (tC h hd _ s undef (zo fh) (fun hn=>(hh hn).elim) (fun _=>rfl))
       ·split at hg
        ·rename_i b ib;have x9:=G6 h ib
         cases nX with
         | nil=>
          simp only [lastG] at ib x9;cases MG:(b == want)
          ·have J6:b = !want:=by cases b<;>cases want<;>simp_all
           have hg:=hg.f MG
           have hn:¬ Region.wanted o (yielded all a.tmps)=true:=by
            intro hw;have:=(zp.1 hw) (d,want) (by simp)
            grind
           rw [af hn];have hr:=l8 (d:=d) (b:=!want) h (by rw [x9,J6]);exact ih _ _ hg E _ w (bu hr (l9 hd) .ud undef (xj E))
          ·have jI:b=want:=sU MG;have hg:=hg.t MG;subst jI;have hw:Region.wanted o (yielded all a.tmps)=true:=zp.2 (lf x9 (bi _));rw [zIfP hw];have hr:=l8 (d:=d) (b:=b) h x9;exact .inl (G5 (fun a w hk=>hk) (fun e a w hq=>hq.elim) (CB ih (l9 hd) hr hg))
         | cons g1 gr=>
          have key:∀ c,a.tmps[(lastG (d,want) (g1 :: gr)).1]? = some (.bool c)->go X n (.ops all (o :: r) :: k) (st.resolve (lastG (d,want) (g1 :: gr)).1 c)->wpList X.P all (kq X k) (o :: r) a w:=
           fun c hc vv=>ih _ _ vv E a w (l8 h hc)
          cases MG:(b == (lastG (d,want) (g1 :: gr)).2)
          ·have hg:=hg.f MG;have J6:b = !(lastG (d,want) (g1 :: gr)).2:=by cases b<;>cases h0:(lastG (d,want) (g1 :: gr)).2<;>simp_all
           have:=key _ (by rw [x9,J6]) hg;simpa [wpList] using this
          ·have hg:=hg.t MG;have jI:b=(lastG (d,want) (g1 :: gr)).2:=sU MG;have:=key _ (by rw [x9,jI]) hg;simpa [wpList] using this
        ·rename_i ib
         cases nX with
         | nil=>
          have x9:=Rs h ib;simp only [lastG] at x9
          have hn:¬ Region.wanted o (yielded all a.tmps)=true:=by
           intro hw;have:=(zp.1 hw) (d,want) (by simp);simp only at this;rw [x9] at this;simp [undef] at this
          rw [af hn];exact ih _ _ hg E _ w (bu h hd .ud undef (xj E))
         | cons g1 gr=>exact hg.elim
        ·exact hg.elim
  | .code c :: k=>
   rw [eW]
   cases c with
   | skip=>exact wp_skip (ih k st (by simpa [go] using hg) E a w h)
   | seq x y=>
    have:=ih (.code x :: .code y :: k) st (by simpa [go] using hg) E a w h;rw [eW,V4] at this;exact wp_seq this
   | block id b=>
    have:=ih (.code b :: .Cr id :: k) st (by simpa [go] using hg) E a w h;rw [eW] at this;exact wp_block (wp_mono this (aau id k))
   | exit id=>
    simp only [go] at hg;split at hg
    ·rename_i k' hk;exact wp_exit (tH k k' a w hk (ih k' st hg E a w h))
    ·exact hg.elim
   | cond x p q=>
    simp only [go] at hg;split at hg
    ·rename_i b hb;refine wp_cond (t:=b) (by rw [lg (bm h.rl hb)]) ?_;cases ib:b
     ·exact ih (.code q :: k) st (hg.f ib) E a w h
     ·exact ih (.code p :: k) st (hg.t ib) E a w h
    ·exact hg.elim
   | region id ops d=>
    simp only [go] at hg;cases d
    ·exact wp_region_list (ih (.ops ops ops.toList :: k) st hg E a w h)
    ·exact hg E a w h
   | loop b=>exact (by simpa [go] using hg:ru X b k st) E a w h
   | ret=>exact wp_ret (vy k a w (CD h (by simpa [go] using hg)))
   | scope c=>
    have:=ih (.code c :: k) st (by simpa [go] using hg) E a w h;rw [eW] at this;exact wp_scope_straight (wp_mono this (Rr k))
   | label l=>exact wp_label (ih k st (by simpa [go] using hg) E a w h)
   | _=>simp [go] at hg
theorem G7 {fn:Func} (s6:X.fn=fn) (e:Exit) (a:Act) (w:World) (h:kq X [] e a w):bodyPost X.P fn (fun e w'=>∃ v,e = .returned v/\GR X.still X.E0 X.w0 X.Φ v w' X.fr/\rj X.bt X.E0.β w') e a w:=by
 subst s6
 cases e with
 | normal=>obtain ⟨h1,v,h2,h3⟩:=h;exact ⟨h1,v,h2,v,rfl,h3⟩
 | ret=>obtain ⟨h1,v,h2,h3⟩:=h;exact ⟨h1,v,h2,v,rfl,h3⟩
 | exit _=>exact h.elim
 | goto _=>exact h.elim
 | panic _=>exact h.elim
 | outgrown=>exact h.elim
end
def EvB (s:Bool) (P:Program) (f:FuncId) (args:List DV) (os:List (List DV)) (dh:List TkE) (Φ:DV->List (List DV)->List TkE->Prop) (fr:Bool:=false):Prop:=
 ∀ (E:En) (w:World) (vs:List Value),Env E os w->E.tk=dh->RvL E args vs->Calls P f vs.toArray w fun e w'=>∃ v,e = .returned v/\GR s E w Φ v w' fr
def Ev (P:Program) (f:FuncId) (args:List DV) (os:List (List DV)) (dh:List TkE) (Φ:DV->List (List DV)->List TkE->Prop):Prop:=EvB false P f args os dh Φ
def EvS (P:Program) (f:FuncId) (args:List DV) (os:List (List DV)) (dh:List TkE) (Φ:DV->List (List DV)->List TkE->Prop):Prop:=EvB true P f args os dh Φ
def aR (P:Program) (f:FuncId) (args:List DV) (d:DV):Prop:=Ev P f args [] [] fun d' _ _=>d'=d
def argSl:Nat->List DV->List (Nat × Sl)
 | _,[]=>[]
 | i,v :: r=>(i,⟨[],v⟩) :: argSl (i + 1) r
theorem CE:∀ (l:List DV) (i j:Nat) (x:Sl),get (argSl i l) j=some x->∃ v,x=⟨[],v⟩/\i<=j/\l[j - i]? = some v
 | [],_,_,_,h=>by simp [argSl,get] at h
 | v :: r,i,j,x,h=>by
  simp only [argSl,dJ] at h;split at h
  ·grind
  ·rename_i tD;obtain ⟨u,hu,fO,hg⟩:=CE r (i + 1) j x h
   grind
theorem Nw.refl {E:En} {bx:List (List DV)} {w:World} (h:Env E bx w):Nw E E w where
 c:=fun _ _ h=>h
 cn:=fun _ _ h=>.inl h
 β:=⟨[],by simp,by simp⟩
 tk:=fun k q y hq hy=>⟨q,y,hq,hy,rfl,rfl,.inl ⟨rfl,rfl⟩,.inl rfl⟩
 tn:=fun k y g hk hy=>by
  have:=(gS hy).1;rw [h.tl] at this;omega
 l0:=h.tl
def EvT (s:Bool) (P:Program) (f:FuncId) (args:List DV) (os:List (List DV)) (dh:List TkE) (bt:List (Nat × TypeId)) (Φ:DV->List (List DV)->List TkE->Prop) (fr:Bool:=false):Prop:=
 ∀ (E:En) (w:World) (vs:List Value),Env E os w->E.tk=dh->rj bt E.β w->RvL E args vs->Calls P f vs.toArray w fun e w'=>∃ v,e = .returned v/\GR s E w Φ v w' fr/\rj bt E.β w'
theorem V6 {s:Bool} {P:Program} {f:FuncId} {fn:Func} {c:Code} {args:List DV} {os:List (List DV)} {dh:List TkE} {Φ:DV->List (List DV)->List TkE->Prop} (bt:List (Nat × TypeId)) (mu:List Nat) (fr:Bool) (T:TT) (hT:T.ok P=true) (n nt:Nat) (rs:List ResultVar)
  (hf:P.funcs[f]? = some fn) (hb:fn.body=some c) (J7:fn.ntmps=nt) (ti:fn.results.toList=rs) (hlen:args.length<=nt)
  (h:∀ (E:En) (w:World) (hn:E.β.length=os.length) (hm:E.tk.length=dh.length),go ⟨P,T,hT,fn,nt,rs,ti,w,E,os.length,dh.length,hn,hm,s,Φ,bt,mu,fr⟩ n [.code c] ⟨argSl 0 args,os,dh⟩):EvT s P f args os dh bt Φ fr:=by
 intro E w vs hE jt ib hv;have hl:=hv.length;have hg:=h E w hE.len (by rw [jt]);refine calls_of_wp hf hb ?_
 have hs:=go_sound (X:=⟨P,T,hT,fn,nt,rs,ti,w,E,os.length,dh.length,hE.len,by rw [jt],s,Φ,bt,mu,fr⟩) n _ _ hg E
  {tmps:=vs.toArray ++ Array.replicate (fn.ntmps - vs.toArray.size) undef,defers:=[] } w
  {env:=hE
   tk:=jt
   sz:=by simp [J7];omega
   tm:=by
    intro i x hx;obtain ⟨d,rfl,_,hd⟩:=CE args 0 i x hx;simp only [Nat.sub_zero] at hd;obtain ⟨v,yx,JY⟩:=hv.get hd
    grind [bi]
   df:=rfl
   nw:=Nw.refl hE
   fr:=⟨rfl,rfl,rfl,zLeR _,fun _ _ _=>rfl⟩
   sh:=fun _=>⟨0,rfl⟩
   bt:=ib }
 exact wp_mono hs (G7 rfl)
theorem yz {s:Bool} {P:Program} {f:FuncId} {fn:Func} {c:Code} {args:List DV} {os:List (List DV)} {dh:List TkE} {Φ:DV->List (List DV)->List TkE->Prop} (bt:List (Nat × TypeId)) (mu:List Nat) (hbt:∀ p∈bt,os.length<=p.1) (fr:Bool) (T:TT) (hT:T.ok P=true) (n nt:Nat) (rs:List ResultVar)
  (hf:P.funcs[f]? = some fn) (hb:fn.body=some c) (J7:fn.ntmps=nt) (ti:fn.results.toList=rs) (hlen:args.length<=nt)
  (h:∀ (E:En) (w:World) (hn:E.β.length=os.length) (hm:E.tk.length=dh.length),go ⟨P,T,hT,fn,nt,rs,ti,w,E,os.length,dh.length,hn,hm,s,Φ,bt,mu,fr⟩ n [.code c] ⟨argSl 0 args,os,dh⟩):EvB s P f args os dh Φ fr:=fun E w vs hE jt hv=>(V6 bt mu fr T hT n nt rs hf hb J7 ti hlen h E w vs hE jt (fun p hp b hb=>by
  have h1:=hbt p hp;have h2:=(gS hb).1;have h3:=hE.len
  omega) hv).mono fun _ _ ⟨v,h1,h2,_⟩=>⟨v,h1,h2⟩
theorem MH {s:Bool} {P:Program} {f:FuncId} {fn:Func} {c:Code} {args:List DV} {os:List (List DV)} {dh:List TkE} {Φ:DV->List (List DV)->List TkE->Prop} (bt:List (Nat × TypeId)) (hbt:∀ p∈bt,os.length<=p.1) (T:TT) (hT:T.ok P=true) (n nt:Nat) (rs:List ResultVar)
  (hf:P.funcs[f]? = some fn) (hb:fn.body=some c) (J7:fn.ntmps=nt) (ti:fn.results.toList=rs) (hlen:args.length<=nt)
  (h:∀ (E:En) (w:World) (hn:E.β.length=os.length) (hm:E.tk.length=dh.length),go ⟨P,T,hT,fn,nt,rs,ti,w,E,os.length,dh.length,hn,hm,s,Φ,bt,[],false⟩ n [.code c] ⟨argSl 0 args,os,dh⟩):EvB s P f args os dh Φ:=
 yz bt [] hbt false T hT n nt rs hf hb J7 ti hlen h
theorem Rt {s:Bool} {P:Program} {f:FuncId} {fn:Func} {c:Code} {args:List DV} {os:List (List DV)} {dh:List TkE} {Φ:DV->List (List DV)->List TkE->Prop} (T:TT) (hT:T.ok P=true) (n nt:Nat) (rs:List ResultVar)
  (hf:P.funcs[f]? = some fn) (hb:fn.body=some c) (J7:fn.ntmps=nt) (ti:fn.results.toList=rs) (hlen:args.length<=nt)
  (h:∀ (E:En) (w:World) (hn:E.β.length=os.length) (hm:E.tk.length=dh.length),go ⟨P,T,hT,fn,nt,rs,ti,w,E,os.length,dh.length,hn,hm,s,Φ,[],[],false⟩ n [.code c] ⟨argSl 0 args,os,dh⟩):EvB s P f args os dh Φ:=
 MH [] (fun p hp=>by cases hp) T hT n nt rs hf hb J7 ti hlen h
theorem adN {P:Program} {f:FuncId} {fn:Func} {c:Code} {args:List DV} {os:List (List DV)} {dh:List TkE} {Φ:DV->List (List DV)->List TkE->Prop} (T:TT) (hT:T.ok P=true) (n nt:Nat) (rs:List ResultVar)
  (hf:P.funcs[f]? = some fn) (hb:fn.body=some c) (J7:fn.ntmps=nt) (ti:fn.results.toList=rs) (hlen:args.length<=nt)
  (h:∀ (E:En) (w:World) (hn:E.β.length=os.length) (hm:E.tk.length=dh.length),go ⟨P,T,hT,fn,nt,rs,ti,w,E,os.length,dh.length,hn,hm,false,Φ,[],[],false⟩ n [.code c] ⟨argSl 0 args,os,dh⟩):Ev P f args os dh Φ:=
 Rt T hT n nt rs hf hb J7 ti hlen h
theorem Ev.mono {P:Program} {f:FuncId} {args:List DV} {os:List (List DV)} {dh:List TkE} {Φ Ψ:DV->List (List DV)->List TkE->Prop} (h:Ev P f args os dh Φ) (hΦ:∀ d o t,Φ d o t->Ψ d o t):Ev P f args os dh Ψ:=by
 intro E w vs h1 h2 h3;refine (h E w vs h1 h2 h3).mono ?_;rintro e w' ⟨v,rfl,h4,hs,d,o,E',h5,h6,h7,h8,h9,u7⟩;exact ⟨v,rfl,h4,hs,d,o,E',h5,h6,h7,h8,h9,hΦ _ _ _ u7⟩
theorem Ev.adO {P:Program} {f:FuncId} {args:List DV} {os:List (List DV)} {dh:List TkE} {Φ:DV->List (List DV)->List TkE->Prop} {bt:List (Nat × TypeId)} (h:Ev P f args os dh Φ) (hb:bt=[]):EvT false P f args os dh bt Φ:=fun E w vs h1 h2 _ h4=>
 (h E w vs h1 h2 h4).mono fun _ _ ⟨v,h5,h6⟩=>⟨v,h5,h6,.nil hb⟩
theorem br {b:Bool} {A B:Prop} (h1:b=true->A) (h2:b=false->B):@Bool.rec (fun _=>Prop) B A b:=by
 cases b
 ·exact h2 rfl
 ·exact h1 rfl
section
variable {X:Ctx} {st:St} {k:List It} {E:En} {a:Act} {w:World}
theorem OO (h:Rel X E st a w) (hst:X.still=false) {E2:En} {w':World} (hm:tg (E.cl).S w w') (he:Env E2 [] w') (hn:Nw E.cl E2 w):Rel X ⟨E2.c,E.β,E.tk,E.τ⟩ st a w':=by
 have hh:∀ i,i < w.heap.size->w'.heap[i]? = w.heap[i]?:=fun i hi=>hm.block i hi (by
  rintro (h1 | ⟨y,h1,_⟩)
  ·simp [En.cl] at h1
  ·simp [En.cl] at h1)
 have dO:∀ x v,E2.c x=some v->E.c x=some v∨w.heap.size<=x.block:=fun x v hx=>by
  rcases hn.cn x v hx with h1 | h1 | ⟨y,h1,_⟩
  ·exact .inl h1
  ·exact .inr h1
  ·simp [En.cl] at h1
 have hx:Ext E ⟨E2.c,E.β,E.tk,E.τ⟩:=⟨hn.c,fun _ _ h=>h,fun _ q h=>⟨q,h,.inl ⟨rfl,rfl⟩⟩⟩;have hk:=h.env.iU hh;refine dF h hx ?_ h.tk ?_ (h.fr.cy hm.os hm.tape hm.output hm.size fun i hi=>.inr (hh i hi)) (pj hst) (h.bt.iU fun b hb=>hh b (h.env.bw hb))
 ·exact {
   len:=h.env.len
   tl:=h.env.tl
   eQ:=fun i cs hi=>by
    obtain ⟨b,ty,arr,hb,hw,hc⟩:=hk.eQ i cs hi;exact ⟨b,ty,arr,hb,hw,hc.mono hx⟩
   inj:=h.env.inj
   sub:=he.sub
   pc:=fun x v hc nY=>by
    rcases dO x v hc with h1 | h1
    ·exact h.env.pc x v h1 nY
    ·have:=h.env.bw nY;omega
   dh:=fun k q y hq hy=>by
    rcases hk.dh k q y hq hy with h1 | ⟨g',cap,cur,rfl,h1,h2,h3,h4,h5,h6⟩
    ·exact .inl h1
    ·refine .inr ⟨g',cap,cur,rfl,h1,⟨h2.1,h2.2.mono hn.c⟩,h3,h4,h5,fun x v hc hg=>?_⟩;rcases dO x v hc with h7 | h7
     ·exact h6 x v h7 hg
     ·have:=(jH (h.env.dh k q _ hq hy) (g:=g') rfl).1;omega
   jY:=h.env.jY }
 ·exact {
   c:=fun x v hc=>hn.c x v (h.nw.c x v hc)
   cn:=fun x v hc=>by
    rcases dO x v hc with h1 | h1
    ·exact h.nw.cn x v h1
    ·have:=h.fr.size;exact .inr (.inl (by omega))
   β:=h.nw.β
   tk:=h.nw.tk
   tn:=h.nw.tn
   l0:=h.nw.l0 }
theorem J8 {bx:List (List DV)} (h:Env E bx w):Env E.cl [] w where
 len:=rfl
 tl:=rfl
 eQ:=by simp
 inj:=List.nodup_nil
 sub:=h.sub
 pc:=by simp [En.cl]
 dh:=by simp [En.cl]
 jY:=by simp [En.cl]
theorem xn {P:Program} (h:Rel X E st a w) (hst:X.still=false) {f:FuncId} {args bO:List DV} {vs:List Value} {Φ:DV->List (List DV)->List TkE->Prop} (hc:Ev P f bO [] [] Φ) (ha:CcL [] 0 0 0 bO args) (hv:RvL E args vs) :
  Calls P f vs.toArray w fun e w'=>∃ v E' d,e = .returned v/\Rel X E' st a w' /\ Rv E' d v/\Φ d [] []/\tg E.cl.S w w' /\ Ext E E' /\ E'.β=E.β:=by
 have Z8:RvL E.cl bO vs:=CcL.sound (E:=E) (E':=E.cl) ⟨fun _ _ h=>h,fun i cs _ hi=>by simp at hi⟩ (MF.zero _ _) ha hv;refine (hc E.cl w vs (J8 h.env) rfl Z8).mono ?_;rintro e w' ⟨v,rfl,hm,_,d,os,E2,he,hβ,jt,hn,hvd,hΦ⟩
 have rT:os=[]:=by
  have:=he.len;rw [hβ] at this;exact List.eq_nil_of_length_eq_zero this.symm
 subst rT;have x9:E2.tk=[]:=List.eq_nil_of_length_eq_zero jt;refine ⟨v,⟨E2.c,E.β,E.tk,E.τ⟩,d,rfl,OO h hst hm he hn,?_,by rw [x9] at hΦ;exact hΦ,hm,⟨hn.c,fun _ _ h=>h,fun _ q h=>⟨q,h,.inl ⟨rfl,rfl⟩⟩⟩,rfl⟩;refine Rv.mono (E:=E2) (E':=⟨E2.c,E.β,E.tk,E.τ⟩) ⟨fun _ _ h=>h,fun i b hb=>?_,fun k q hq=>?_⟩ hvd
 ·rw [hβ] at hb;simp [En.cl] at hb
 ·rw [x9] at hq;simp at hq
theorem bZ {f:FuncId} {args bO:List DV} {d:Nat} (gY:Enters X.P f) (hd:fU X.nt st.sl (some d)=true) {Φ:DV->List (List DV)->List TkE->Prop} (hc:Ev X.P f bO [] [] Φ) (ha:CcL [] 0 0 0 bO args)
  (hk:∀ r,Φ r [] []->go X 4000 k ⟨(d,⟨[],r⟩) :: st.sl,st.bx,st.tk⟩) (hst:X.still=false:=by exact rfl):CallG X f args (some d) k st:=by
 refine ⟨gY,hst,fun E a w vs h hv=>(xn h hst hc ha hv).mono ?_⟩;rintro e w' ⟨v,E',r,rfl,cg,hr,hΦ,_⟩;exact go_sound 4000 _ _ (hk r hΦ) E' _ w' (bu cg hd r v hr)
theorem Ru {f:FuncId} {args bO:List DV} {d:Nat} {r:DV} (gY:Enters X.P f) (hc:aR X.P f bO r) (ha:CcL [] 0 0 0 bO args) (hd:fU X.nt st.sl (some d)=true)
  (hk:go X 4000 k ⟨(d,⟨[],r⟩) :: st.sl,st.bx,st.tk⟩) (hst:X.still=false:=by exact rfl):CallG X f args (some d) k st:=
 bZ gY hd hc ha (fun _ hr=>hr ▸ hk) hst
def clB (n m:Nat):DV->Bool
 | .v _=>true
 | .ud=>true
 | .sl _ _ none=>true
 | .sl _ _ (some k)=>Nat.blt k m
 | .pt _ _=>true
 | .loc i _=>Nat.blt i n
 | .el i _=>Nat.blt i n
 | .ms i _ _ _ _=>Nat.blt i n
 | .agg l=>clL l
 | .bo l=>clL l
 | .fn _ l r=>clL l && clL r
 | .rR _ x=>clB n m x
where clL:List DV->Bool
 | []=>true
 | d :: r=>clB n m d && clL r
def En.cut (E:En) (n m:Nat):En:=⟨E.c,E.β.take n,E.tk.take m,E.τ.take m⟩
mutual
theorem Rv.cut {n m:Nat} {E:En}:∀ {d:DV} {v:Value},Rv E d v->clB n m d=true->Rv (E.cut n m) d v
 | .v x,v,h,_=>by unfold Rv at h ⊢;exact h
 | .ud,v,h,_=>by unfold Rv at h ⊢;exact h
 | .sl e es none,v,h,_=>by
  unfold Rv at h ⊢;obtain ⟨b,n,cap,h1,h2,h3,_⟩:=h;exact ⟨b,n,cap,h1,h2,h3,fun k hk=>by cases hk⟩
 | .sl e es (some k),v,h,hc=>by
  unfold Rv at h ⊢;obtain ⟨b,n',cap,h1,h2,h3,h4⟩:=h;refine ⟨b,n',cap,h1,h2,h3,fun k' iH=>?_⟩;cases iH;have hk:k < m:=by simpa [clB] using hc
  obtain ⟨q,h5,h6,h7⟩:=h4 k rfl;exact ⟨q,by show (E.tk.take m)[k]? = _;rw [cJ,zIfP hk];exact h5,h6,fun hh=>by show (E.τ.take m)[k]? = _;rw [cJ,zIfP hk];exact h7 hh⟩
 | .pt cs o,v,h,_=>by unfold Rv at h ⊢;exact h
 | .loc i o,v,h,hc=>by
  unfold Rv at h ⊢;obtain ⟨b,hb,h1⟩:=h;have hi:i < n:=by simpa [clB] using hc
  exact ⟨b,by show (E.β.take n)[i]? = _;rw [cJ,zIfP hi];exact hb,h1⟩
 | .el i o,v,h,hc=>by
  unfold Rv at h ⊢;obtain ⟨b,hb,h1⟩:=h;have hi:i < n:=by simpa [clB] using hc
  exact ⟨b,by show (E.β.take n)[i]? = _;rw [cJ,zIfP hi];exact hb,h1⟩
 | .ms i e o l c,v,h,hc=>by
  unfold Rv at h ⊢;obtain ⟨b,ad,hb,h1⟩:=h;have hi:i < n:=by simpa [clB] using hc
  exact ⟨b,ad,by show (E.β.take n)[i]? = _;rw [cJ,zIfP hi];exact hb,h1⟩
 | .agg l,v,h,hc=>by
  unfold Rv at h ⊢;obtain ⟨vs,h1,h2,h3⟩:=h;simp only [clB] at hc;exact ⟨vs,h1,RvL.cut h2 hc,h3⟩
 | .bo l,v,h,hc=>by
  unfold Rv at h ⊢;obtain ⟨vs,h1,h2⟩:=h;simp only [clB] at hc;exact ⟨vs,h1,RvL.cut h2 hc⟩
 | .fn f l r,v,h,hc=>by
  unfold Rv at h ⊢;obtain ⟨l',r',h1,h2,h3⟩:=h;simp only [clB,bh] at hc;exact ⟨l',r',h1,RvL.cut h2 hc.1,RvL.cut h3 hc.2⟩
 | .rR t x,v,h,hc=>by
  unfold Rv at h ⊢;obtain ⟨z,h1,h2⟩:=h;simp only [clB] at hc;exact ⟨z,h1,Rv.cut h2 hc⟩
theorem RvL.cut {n m:Nat} {E:En}:∀ {l:List DV} {vs:List Value},RvL E l vs->clB.clL n m l=true->RvL (E.cut n m) l vs
 | [],vs,h,_=>by simp only [RvL] at h ⊢;exact h
 | d :: r,vs,h,hc=>by
  simp only [RvL] at h ⊢;obtain ⟨v,s,h1,h2,h3⟩:=h;simp only [clB.clL,bh] at hc;exact ⟨v,s,h1,Rv.cut h2 hc.1,RvL.cut h3 hc.2⟩
end
end
end Dv
end Go.Proofs.YtfdedoiiahbnnaaGreat
namespace Go.Proofs.YtfdedoiiahbnnaaGreat
namespace Dv
open Go Go.RowKit
def We (n m:Nat) (Zi:List TkE) (x x':DV):Prop:=
 (x=x' /\ clB n m x=true)∨(x = .v (.slice none 0 0)/\∃ e k q,x' = .sl e [] (some k)/\m<=k/\Zi[k]? = some q)∨(x = .v (.slice none 0 0)/\∃ e,x' = .sl e [] none)∨(∃ e es tk,x = .sl e es tk/\x' = .sl e es none)∨(∃ e es Gv tk,x = .sl e es tk/\x' = .sl e Gv none/\CcE [] 0 Gv es)∨(∃ e es Gv k,x = .sl e es (some k)/\x' = .sl e Gv (some k)/\k < m/\CcE [] 0 Gv es)
def WeL (n m:Nat) (Zi:List TkE):List DV->List DV->Prop
 | [],l=>l=[]
 | x :: r,l=>∃ x' r',l=x' :: r' /\ We n m Zi x x' /\ WeL n m Zi r r'
def WeLL (n m:Nat) (Zi:List TkE):List (List DV)->List (List DV)->Prop
 | [],l=>l=[]
 | x :: r,l=>∃ x' r',l=x' :: r' /\ WeL n m Zi x x' /\ WeLL n m Zi r r'
def nf (n m:Nat) (Zi:List TkE) (sl:List (Nat × Sl)):List (Nat × Sl)->Prop
 | []=>True
 | p :: r=>(∃ x,get sl p.1=some ⟨p.2.gs,x⟩/\We n m Zi x p.2.s)/\nf n m Zi sl r
structure po (n0 m0:Nat) (st st':St):Prop where
 all:∃ kept dropped new b0 r,m0<=kept.length/\n0<=b0.length/\st.tk=kept ++ dropped/\st'.tk=kept ++ new/\(∀ q∈new,TkE.new q=true)/\st.bx=b0 ++ r/\WeLL b0.length kept.length st'.tk b0 st'.bx/\nf b0.length kept.length st'.tk st.sl st'.sl
theorem WeLL.length {n m:Nat} {Zi:List TkE}:∀ {l l':List (List DV)},WeLL n m Zi l l' -> l'.length=l.length
 | [],l',h=>by simp only [WeLL] at h;subst h;rfl
 | x :: r,l',h=>by
  simp only [WeLL] at h;obtain ⟨x',r',rfl,_,h2⟩:=h;simp [WeLL.length h2]
theorem WeLL.get {n m:Nat} {Zi:List TkE}:∀ {l l':List (List DV)},WeLL n m Zi l l' -> ∀ (i:Nat) cs',l'[i]? = some cs' -> ∃ cs,l[i]? = some cs/\WeL n m Zi cs cs'
 | [],l',h,i,cs',hi=>by simp only [WeLL] at h;subst h;simp at hi
 | x :: r,l',h,i,cs',hi=>by
  simp only [WeLL] at h;obtain ⟨x',r',rfl,h1,h2⟩:=h
  cases i with
  | zero=>simp only [List.getElem?_cons_zero,oI] at hi;subst hi;exact ⟨x,rfl,h1⟩
  | succ i=>simp only [List.getElem?_cons_succ] at hi ⊢;exact WeLL.get h2 i cs' hi
theorem zq {n m:Nat} {Zi:List TkE} {sl:List (Nat × Sl)}:∀ {l:List (Nat × Sl)},nf n m Zi sl l->∀ i x',get l i=some x' -> ∃ x,get sl i=some ⟨x'.gs,x⟩/\We n m Zi x x'.s
 | [],_,i,x',hx=>by cases hx
 | (k,y) :: r,h,i,x',hx=>by
  simp only [dJ] at hx;split at hx
  ·rename_i xl;subst xl;simp only [oI] at hx;subst hx;exact h.1
  ·exact zq h.2 i x' hx
section
variable {X:Ctx} {E:En} {st st':St} {a:Act} {w:World} {k:List It}
def En.wk (E:En) (n:Nat) (kept new:List TkE):En:=⟨E.c,E.β.take n,kept ++ new,E.τ.take kept.length ++ List.replicate new.length (.slice none 0 0)⟩
theorem G8 {n:Nat} {kept dropped new:List TkE} (ht:E.tk=kept ++ dropped) (hl:E.τ.length=E.tk.length) (dO:∀ q∈new,TkE.new q=true) {x x':DV} {v:Value} (hx:We n kept.length (kept ++ new) x x') (hv:Rv E x v):Rv (E.wk n kept new) x' v:=by
 have BO:kept.length<=E.τ.length:=by rw [hl,ht];simp
 have first:∀ {x:DV},clB n kept.length x=true->Rv E x v->Rv (E.wk n kept new) x v:=by
  intro x hc hv;refine Rv.mono (E:=E.cut n kept.length) ⟨fun _ _ h=>h,fun _ _ h=>h,fun k q hq=>?_⟩ (Rv.cut hv hc);have mY:(E.tk.take kept.length)[k]? = some q:=hq;rw [cJ] at mY;split at mY
  ·rename_i hk;refine ⟨q,?_,.inl ⟨rfl,?_⟩⟩
   ·show (kept ++ new)[k]? = _
    grind
   ·show (E.τ.take kept.length ++ _)[k]? = (E.τ.take kept.length)[k]?
    grind
  ·cases mY
 rcases hx with ⟨rfl,hc⟩ | ⟨rfl,e,k,q,rfl,hk,hq⟩ | ⟨rfl,e,rfl⟩ | ⟨e,es,tk,rfl,rfl⟩ | ⟨e,es,Gv,tk,rfl,rfl,he⟩ | ⟨e,es,Gv,k,rfl,rfl,hk,he⟩
 ·exact first hc hv
 ·have:=bN hv;subst this;unfold Rv;refine ⟨none,0,0,rfl,⟨rfl,zLeR _⟩,fun hn=>(hn rfl).elim,fun k' iH=>?_⟩;cases iH;have Rw:(kept ++ new)[k]? = some q:=hq;rw [List.getElem?_append_right hk] at Rw;have vq:=TkE.Re (dO q (mG Rw));refine ⟨q,hq,by omega,fun _=>?_⟩;have az:=(gS Rw).1;show (E.τ.take kept.length ++ List.replicate new.length _)[k]? = _
  grind
 ·have:=bN hv;subst this;unfold Rv;exact ⟨none,0,0,rfl,⟨rfl,zLeR _⟩,fun hn=>(hn rfl).elim,fun k hk=>by cases hk⟩
 ·unfold Rv at hv ⊢;obtain ⟨b,n,cap,h1,h2,h3,_⟩:=hv;exact ⟨b,n,cap,h1,h2,h3,fun k hk=>by cases hk⟩
 ·have hv:=Ys he hv;unfold Rv at hv ⊢;obtain ⟨b,n,cap,h1,h2,h3,_⟩:=hv;exact ⟨b,n,cap,h1,h2,h3,fun k hk=>by cases hk⟩
 ·exact first (by simp only [clB];exact Nat.ble_eq_true_of_le hk) (Ys he hv)
theorem vz {n:Nat} {kept dropped new:List TkE} (ht:E.tk=kept ++ dropped) (hl:E.τ.length=E.tk.length) (dO:∀ q∈new,TkE.new q=true):∀ {l l':List DV} {vs:List Value},WeL n kept.length (kept ++ new) l l' -> RvL E l vs->RvL (E.wk n kept new) l' vs
 | [],l',vs,h,hv=>by grind [WeL,RvL]
 | x :: r,l',vs,h,hv=>by
  simp only [WeL] at h;obtain ⟨x',r',rfl,h1,h2⟩:=h;simp only [RvL] at hv ⊢;obtain ⟨v,s,h3,h4,h5⟩:=hv;exact ⟨v,s,h3,G8 ht hl dO h1 h4,vz ht hl dO h2 h5⟩
theorem vA (h:Rel X E st a w) {kept dropped new:List TkE} {b0 r:List (List DV)} (fW:X.m0<=kept.length/\X.n0<=b0.length/\st.tk=kept ++ dropped/\st'.tk=kept ++ new/\(∀ q∈new,TkE.new q=true)/\st.bx=b0 ++ r/\WeLL b0.length kept.length st'.tk b0 st'.bx/\nf b0.length kept.length st'.tk st.sl st'.sl):Rel X (E.wk b0.length kept new) st' a w:=by
 obtain ⟨oZ,tj,ht,tE,dO,hb,lV,qJ⟩:=fW;rw [tE] at lV qJ;have htE:E.tk=kept ++ dropped:=by rw [h.tk,ht]
 have hbl:=lV.length;have BO:kept.length<=E.τ.length:=by rw [h.env.tl,htE];simp
 have ib:b0.length<=E.β.length:=by rw [h.env.len,hb];simp
 have hτ:∀ (k:Nat) y,(E.τ.take kept.length ++ List.replicate new.length (Value.slice none 0 0))[k]? = some y->(k < kept.length/\E.τ[k]? = some y)∨(kept.length<=k/\y = .slice none 0 0):=fun k y hy=>by grind
 exact {
  env:={
   len:=by simp only [En.wk,zLenT];omega
   tl:=by simp only [En.wk,List.length_append,zLenT,List.length_replicate];omega
   eQ:=fun i cs' hi=>by
    obtain ⟨cs,cx,hwe⟩:=lV.get i cs' hi;have az:=(gS cx).1;obtain ⟨b,ty,arr,JJ,hwb,hc⟩:=h.env.eQ i cs (by rw [hb,eT az];exact cx);exact ⟨b,ty,arr,by simp only [En.wk];rw [cJ,zIfP az];exact JJ,hwb,vz htE h.env.tl dO hwe hc.1,hc.2⟩
   inj:=h.env.inj.sublist (List.take_sublist _ _)
   sub:=h.env.sub
   pc:=fun x v hx hm=>h.env.pc x v hx (List.mem_of_mem_take hm)
   dh:=fun k q y hq hy=>by
    rcases hτ k y hy with ⟨hk,jw⟩ | ⟨hk,rfl⟩
    ·have mY:(kept ++ new)[k]? = some q:=hq;rw [eT hk] at mY;rcases h.env.dh k q y (by rw [htE,eT hk];exact mY) jw with h1 | ⟨g,cap,cur,rfl,h1,h2,h3,h4,h5,h6⟩
     ·exact .inl h1
     ·exact .inr ⟨g,cap,cur,rfl,h1,h2,h3,h4,fun hm=>h5 (List.mem_of_mem_take hm),h6⟩
    ·have mY:(kept ++ new)[k]? = some q:=hq;rw [List.getElem?_append_right hk] at mY;exact .inl ⟨rfl,TkE.Re (dO q (mG mY)),TkE.Yk (dO q (mG mY))⟩
   jY:=fun k k' y y' g BN hy jw hg za=>by
    rcases hτ k y hy with ⟨_,BU⟩ | ⟨_,rfl⟩
    ·rcases hτ k' y' jw with ⟨_,og⟩ | ⟨_,rfl⟩
     ·exact h.env.jY k k' y y' g BN BU og hg za
     ·simp [Value.ownBlock] at za
    ·simp [Value.ownBlock] at hg }
  tk:=by simp only [En.wk];exact tE.symm
  sz:=h.sz
  tm:=fun i x' Cw=>by
   obtain ⟨x,hx,hwe⟩:=zq qJ i x' Cw;have:=h.tm i _ hx;refine ⟨fun hh=>?_,this.2⟩;obtain ⟨v,h1,h2⟩:=this.1 hh;exact ⟨v,h1,G8 htE h.env.tl dO hwe h2⟩
  df:=h.df
  nw:={
   c:=h.nw.c
   cn:=h.nw.cn
   β:=by
    obtain ⟨r2,hr,hl⟩:=h.nw.β;refine ⟨r2.take (b0.length - X.n0),?_,fun b hb=>hl b (List.mem_of_mem_take hb)⟩;simp only [En.wk];rw [hr,List.take_append,List.take_of_length_le (by rw [X.tj];omega),X.tj]
   tk:=fun j q0 y0 vq J0=>by
    obtain ⟨q',y',h1,h2,h3⟩:=h.nw.tk j q0 y0 vq J0;have hj:j < X.m0:=by rw [<- X.oZ];exact (gS vq).1
    grind [En.wk]
   tn:=fun j y g hj hy hg=>by
    rcases hτ j y hy with ⟨_,BU⟩ | ⟨_,rfl⟩
    ·exact h.nw.tn j y g hj BU hg
    ·simp [Value.ownBlock] at hg
   l0:=h.nw.l0 }
  fr:=h.fr
  sh:=h.sh
  bt:=h.bt.sub _ }
theorem pE (h:Rel X E st a w) (hw:po X.n0 X.m0 st st'):∃ E',Rel X E' st' a w:=by
 obtain ⟨_,_,_,_,_,fW⟩:=hw.all;exact ⟨_,vA h fW⟩
theorem least {p:Nat->Prop} (h:∃ n,p n):∃ n,p n/\∀ m,p m->n<=m:=by
 obtain ⟨n,hn⟩:=h
 induction n using Nat.strongRecOn with
 | _ n ih=>grind
theorem aY {c:Code} (I:Nat->St->Prop) (j0:Nat) (mc:St) (hw:po X.n0 X.m0 st mc) (h0:I j0 mc)
  (hr:∀ j s,I j s->go X 4000 (.code c :: .Gw (fun s'=>∃ G9,po X.n0 X.m0 s' G9 /\ ∃ j',j' < j/\I j' G9) :: k) s):ru X c k st:=by
 intro E a w h;obtain ⟨E0,QU⟩:=pE h hw
 classical
 let Inv:Act->World->Prop:=fun a w=>∃ j s E,Rel X E s a w/\I j s
 let μ:Act->World->Nat:=fun a w=>if hI:Inv a w then Classical.choose (least hI) else 0
 refine wp_loop Inv μ ⟨j0,mc,E0,QU,h0⟩ ?_;intro a1 w1 hI;have CF:=(Classical.choose_spec (least hI)).1;obtain ⟨s,E1,cg,hIs⟩:=CF;have hs:=go_sound 4000 _ _ (hr _ s hIs) E1 a1 w1 cg;rw [eW] at hs;refine wp_mono hs ?_;intro e a2 w2 hq
 cases e with
 | normal=>
  obtain ⟨s',E2,Ha,G9,OP,j',ku,hI'⟩:=hq;obtain ⟨E3,Hb⟩:=pE Ha OP;have hI2:Inv a2 w2:=⟨j',G9,E3,Hb,hI'⟩;refine ⟨hI2,?_⟩;simp only [μ,dif_pos hI,dif_pos hI2];exact Nat.lt_of_le_of_lt ((Classical.choose_spec (least hI2)).2 j' ⟨G9,E3,Hb,hI'⟩) ku
 | exit id=>exact hq
 | goto l=>exact hq
 | ret=>exact hq
 | panic c=>exact hq
 | outgrown=>exact hq
theorem aA {n m:Nat} {Zi:List TkE} {x:DV} (h:clB n m x=true):We n m Zi x x:=.inl ⟨rfl,h⟩
theorem aG {n m:Nat} {Zi:List TkE} {kd:IntKind} {x y:Int} (h:x=y):We n m Zi (.v (.int kd x)) (.v (.int kd y)):=.inl ⟨by rw [h],rfl⟩
theorem cz {n m:Nat} {Zi:List TkE} {e k:Nat} {q:TkE} (h1:m<=k) (h2:Zi[k]? = some q):We n m Zi (.v (.slice none 0 0)) (.sl e [] (some k)):=.inr (.inl ⟨rfl,e,k,q,rfl,h1,h2⟩)
theorem cS {n m:Nat} {Zi:List TkE} {e k:Nat} {es Gv:List (List DV)} (h:es=Gv) (hk:Nat.blt k m=true):We n m Zi (.sl e es (some k)) (.sl e Gv (some k)):=.inl ⟨by rw [h],hk⟩
theorem EU {n m:Nat} {Zi:List TkE} {e:Nat}:We n m Zi (.v (.slice none 0 0)) (.sl e [] none):=.inr (.inr (.inl ⟨rfl,e,rfl⟩))
theorem ax {p:Prop} (h:p:=by repeat' (first | exact rfl | exact trivial | exact Or.inr (Or.inl ⟨_,rfl⟩) | exact Or.inr ⟨_,rfl⟩ | exact Or.inl ⟨rfl,rfl⟩ | exact Or.inl rfl | refine Or.inr ⟨_,_,rfl,Nat.zero_le _,rfl,?_⟩ | refine ⟨_,_,rfl,?_,?_⟩ | refine ⟨_,rfl,?_⟩ | refine Or.inr (Or.inr (Or.inr ⟨_,_,rfl,?_⟩)) | exact Or.inl rfl | refine Or.inr ?_)):p:=h
theorem wA {p:Prop} (h:p:=by repeat' (first | exact rfl | exact aA rfl | refine ⟨_,_,rfl,?_,?_⟩)):p:=h
theorem wB {p:Prop} (h:p:=by repeat' (first | exact trivial | exact aA rfl | refine ⟨⟨_,rfl,?_⟩,?_⟩)):p:=h
theorem V7 {n0 m0:Nat} {st st':St} (h1:∃ r,st.bx=st'.bx ++ r) (h2:WeLL st'.bx.length st'.tk.length st'.tk st'.bx st'.bx) (h3:st.tk=st'.tk) (h4:Nat.ble n0 st'.bx.length=true) (h5:Nat.ble m0 st'.tk.length=true)
  (h:nf st'.bx.length st'.tk.length st'.tk st.sl st'.sl):po n0 m0 st st':=by
 obtain ⟨r,hr⟩:=h1;exact ⟨st'.tk,[],[],st'.bx,r,by simpa using h5,by simpa using h4,by simp [h3],by simp,by simp,hr,h2,h⟩
theorem aay {n0 m0:Nat} {st st':St} (n:Nat) (hn:Nat.ble n st.bx.length=true) (h2:WeLL n st'.tk.length st'.tk (st.bx.take n) st'.bx) (h3:st.tk=st'.tk) (h4:Nat.ble n0 n=true) (h5:Nat.ble m0 st'.tk.length=true)
  (h:nf n st'.tk.length st'.tk st.sl st'.sl):po n0 m0 st st':=by
 have hl:(st.bx.take n).length=n:=by simp_all
 exact ⟨st'.tk,[],[],st.bx.take n,st.bx.drop n,by simpa using h5,by rw [hl];simpa using h4,by simp [h3],by simp,by simp,(List.take_append_drop n st.bx).symm,by rw [hl];exact h2,by rw [hl];exact h⟩
theorem gw {n0 m0:Nat} {st st':St} (q:TkE) (hq:q.new=true) (h1:∃ r,st.bx=st'.bx ++ r) (h3:st.tk ++ [q]=st'.tk) (h2:WeLL st'.bx.length st.tk.length st'.tk st'.bx st'.bx) (h4:Nat.ble n0 st'.bx.length=true) (h5:Nat.ble m0 st.tk.length=true)
  (h:nf st'.bx.length st.tk.length st'.tk st.sl st'.sl):po n0 m0 st st':=by
 obtain ⟨r,hr⟩:=h1;exact ⟨st.tk,[],[q],st'.bx,r,by simpa using h5,by simpa using h4,by simp,h3.symm,by simpa using hq,hr,h2,h⟩
end
end Dv
end Go.Proofs.YtfdedoiiahbnnaaGreat
namespace Go.Proofs.YtfdedoiiahbnnaaGreat
namespace Dv
theorem aL {p : Prop} (h : p := by repeat' (first | exact rfl | exact trivial | exact Or.inr (Or.inl ⟨_,rfl⟩) | exact Or.inr ⟨_,rfl⟩ | exact Or.inl ⟨rfl,rfl⟩ | exact Or.inl rfl | refine Or.inr ⟨_,_,rfl,Nat.zero_le _,rfl,?_⟩ | refine ⟨_,_,rfl,?_,?_⟩ | refine ⟨_,rfl,?_⟩ | exact ⟨nL rfl,rfl⟩ | refine Or.inr (Or.inr (Or.inr ⟨_,_,rfl,?_⟩)) | exact Or.inl rfl | refine Or.inr ?_)) : p := h
theorem aI {p : Prop} {a b : Int} (q : a=b) (h : a=b -> p := by intro q;repeat' (first | exact rfl | exact trivial | exact Or.inr (Or.inl ⟨_,rfl⟩) | exact Or.inr ⟨_,rfl⟩ | exact Or.inl ⟨rfl,rfl⟩ | exact Or.inl rfl | refine Or.inr ⟨_,_,rfl,Nat.zero_le _,rfl,?_⟩ | refine ⟨_,_,rfl,?_,?_⟩ | refine ⟨_,rfl,?_⟩ | exact congrArg (fun z=>DV.v (.int .i64 z)) q | refine Or.inr (Or.inr (Or.inr ⟨_,_,rfl,?_⟩)) | exact Or.inl rfl | refine Or.inr ?_)) : p := h q
theorem aB {p : Prop} {a b : Bool} (q : a=b) (h : a=b -> p := by intro q;repeat' (first | exact rfl | exact trivial | exact Or.inr (Or.inl ⟨_,rfl⟩) | exact Or.inr ⟨_,rfl⟩ | exact Or.inl ⟨rfl,rfl⟩ | exact Or.inl rfl | refine Or.inr ⟨_,_,rfl,Nat.zero_le _,rfl,?_⟩ | refine ⟨_,_,rfl,?_,?_⟩ | refine ⟨_,rfl,?_⟩ | exact congrArg (fun b=>DV.v (.bool b)) q | refine Or.inr (Or.inr (Or.inr ⟨_,_,rfl,?_⟩)) | exact Or.inl rfl | refine Or.inr ?_)) : p := h q
theorem wNA {p : Prop} {a b : Nat} (q : a < b) (hn : b <= 4611686018427387904 := by omega) (h : a < b -> b <= 4611686018427387904 -> p := by intro q hn;repeat' (first | exact rfl | exact aA rfl | exact aG (nxt q hn) | refine ⟨_,_,rfl,?_,?_⟩)) : p := h q hn
theorem wNB {p : Prop} {a b : Nat} (q : a < b) (hn : b <= 4611686018427387904 := by omega) (h : a < b -> b <= 4611686018427387904 -> p := by intro q hn;repeat' (first | exact trivial | exact aA rfl | exact aG (nxt q hn) | refine ⟨⟨_,rfl,?_⟩,?_⟩)) : p := h q hn
theorem wSA {p r : Prop} {a b : Nat} (q : a < b) (s : r) (hn : b <= 4611686018427387904 := by omega) (h : a < b -> b <= 4611686018427387904 -> r -> p := by intro q hn s;repeat' (first | exact rfl | exact aA rfl | exact aG (nxt q hn) | exact cS s rfl | refine ⟨_,_,rfl,?_,?_⟩)) : p := h q hn s
theorem wSB {p r : Prop} {a b : Nat} (q : a < b) (s : r) (hn : b <= 4611686018427387904 := by omega) (h : a < b -> b <= 4611686018427387904 -> r -> p := by intro q hn s;repeat' (first | exact trivial | exact aA rfl | exact aG (nxt q hn) | exact cS s rfl | refine ⟨⟨_,rfl,?_⟩,?_⟩)) : p := h q hn s
theorem wTB {p : Prop} (h : p := by repeat' (first | exact trivial | exact aA rfl | exact cz (Nat.le_refl _) rfl | refine ⟨⟨_,rfl,?_⟩,?_⟩)) : p := h
theorem wTA {p : Prop} (h : p := by repeat' (first | exact rfl | exact aA rfl | exact cz (Nat.le_refl _) rfl | refine ⟨_,_,rfl,?_,?_⟩)) : p := h
theorem wRB {p : Prop} (h : p := by repeat' (first | exact trivial | exact aA rfl | exact aG rfl | refine ⟨⟨_,rfl,?_⟩,?_⟩)) : p := h
theorem wRA {p : Prop} (h : p := by repeat' (first | exact rfl | exact aA rfl | exact aG rfl | refine ⟨_,_,rfl,?_,?_⟩)) : p := h
theorem tJ {p:Prop}   (h:p:=by repeat' (first | exact rfl | exact aA rfl | exact de rfl | exact cR rfl | exact vB _ | exact cz (Nat.le_refl _) rfl | exact cz (Nat.le_succ _) rfl | refine ⟨_,_,rfl,?_,?_⟩)):p:=h 
theorem ng {p:Prop} {P0:Prop} (x0:P0) (h:P0->p:=by intro x0;repeat' (first | exact rfl | exact aA rfl | exact aG x0 | exact de x0 | exact cS x0 rfl | exact ei x0 | exact cR x0 | exact aG (congrArg Nat.cast x0) | exact aA x0 | exact gO x0 | exact x0 | exact de rfl | exact cR rfl | exact vB _ | exact cz (Nat.le_refl _) rfl | exact cz (Nat.le_succ _) rfl | refine ⟨_,_,rfl,?_,?_⟩)):p:=h x0
theorem J9 {p:Prop} {P0:Prop} {P1:Prop} (x0:P0) (x1:P1) (h:P0->P1->p:=by intro x0 x1;repeat' (first | exact rfl | exact aA rfl | exact aG x0 | exact de x0 | exact cS x0 rfl | exact ei x0 | exact cR x0 | exact aG (congrArg Nat.cast x0) | exact aA x0 | exact gO x0 | exact x0 | exact aG x1 | exact de x1 | exact cS x1 rfl | exact ei x1 | exact cR x1 | exact aG (congrArg Nat.cast x1) | exact aA x1 | exact gO x1 | exact x1 | exact de rfl | exact cR rfl | exact vB _ | exact cz (Nat.le_refl _) rfl | exact cz (Nat.le_succ _) rfl | refine ⟨_,_,rfl,?_,?_⟩)):p:=h x0 x1
theorem wA3 {p:Prop} {P0:Prop} {P1:Prop} {P2:Prop} (x0:P0) (x1:P1) (x2:P2) (h:P0->P1->P2->p:=by intro x0 x1 x2;repeat' (first | exact rfl | exact aA rfl | exact aG x0 | exact de x0 | exact cS x0 rfl | exact ei x0 | exact cR x0 | exact aG (congrArg Nat.cast x0) | exact aA x0 | exact gO x0 | exact x0 | exact aG x1 | exact de x1 | exact cS x1 rfl | exact ei x1 | exact cR x1 | exact aG (congrArg Nat.cast x1) | exact aA x1 | exact gO x1 | exact x1 | exact aG x2 | exact de x2 | exact cS x2 rfl | exact ei x2 | exact cR x2 | exact aG (congrArg Nat.cast x2) | exact aA x2 | exact gO x2 | exact x2 | exact de rfl | exact cR rfl | exact vB _ | exact cz (Nat.le_refl _) rfl | exact cz (Nat.le_succ _) rfl | refine ⟨_,_,rfl,?_,?_⟩)):p:=h x0 x1 x2
theorem lW {p:Prop}   (h:p:=by repeat' (first | exact trivial | exact aA rfl | exact cz (Nat.le_refl _) rfl | exact cz (Nat.le_succ _) rfl | exact aG rfl | refine ⟨⟨_,rfl,?_⟩,?_⟩)):p:=h 
theorem wB1 {p:Prop} {P0:Prop} (x0:P0) (h:P0->p:=by intro x0;repeat' (first | exact trivial | exact aA rfl | exact aG x0 | exact de x0 | exact cS x0 rfl | exact ei x0 | exact cR x0 | exact aG (congrArg Nat.cast x0) | exact aA x0 | exact gO x0 | exact x0 | exact cz (Nat.le_refl _) rfl | exact cz (Nat.le_succ _) rfl | exact aG rfl | refine ⟨⟨_,rfl,?_⟩,?_⟩)):p:=h x0
theorem wB2 {p:Prop} {P0:Prop} {P1:Prop} (x0:P0) (x1:P1) (h:P0->P1->p:=by intro x0 x1;repeat' (first | exact trivial | exact aA rfl | exact aG x0 | exact de x0 | exact cS x0 rfl | exact ei x0 | exact cR x0 | exact aG (congrArg Nat.cast x0) | exact aA x0 | exact gO x0 | exact x0 | exact aG x1 | exact de x1 | exact cS x1 rfl | exact ei x1 | exact cR x1 | exact aG (congrArg Nat.cast x1) | exact aA x1 | exact gO x1 | exact x1 | exact cz (Nat.le_refl _) rfl | exact cz (Nat.le_succ _) rfl | exact aG rfl | refine ⟨⟨_,rfl,?_⟩,?_⟩)):p:=h x0 x1
theorem wB3 {p:Prop} {P0:Prop} {P1:Prop} {P2:Prop} (x0:P0) (x1:P1) (x2:P2) (h:P0->P1->P2->p:=by intro x0 x1 x2;repeat' (first | exact trivial | exact aA rfl | exact aG x0 | exact de x0 | exact cS x0 rfl | exact ei x0 | exact cR x0 | exact aG (congrArg Nat.cast x0) | exact aA x0 | exact gO x0 | exact x0 | exact aG x1 | exact de x1 | exact cS x1 rfl | exact ei x1 | exact cR x1 | exact aG (congrArg Nat.cast x1) | exact aA x1 | exact gO x1 | exact x1 | exact aG x2 | exact de x2 | exact cS x2 rfl | exact ei x2 | exact cR x2 | exact aG (congrArg Nat.cast x2) | exact aA x2 | exact gO x2 | exact x2 | exact cz (Nat.le_refl _) rfl | exact cz (Nat.le_succ _) rfl | exact aG rfl | refine ⟨⟨_,rfl,?_⟩,?_⟩)):p:=h x0 x1 x2
theorem wB4 {p:Prop} {P0:Prop} {P1:Prop} {P2:Prop} {P3:Prop} (x0:P0) (x1:P1) (x2:P2) (x3:P3) (h:P0->P1->P2->P3->p:=by intro x0 x1 x2 x3;repeat' (first | exact trivial | exact aA rfl | exact aG x0 | exact de x0 | exact cS x0 rfl | exact ei x0 | exact cR x0 | exact aG (congrArg Nat.cast x0) | exact aA x0 | exact gO x0 | exact x0 | exact aG x1 | exact de x1 | exact cS x1 rfl | exact ei x1 | exact cR x1 | exact aG (congrArg Nat.cast x1) | exact aA x1 | exact gO x1 | exact x1 | exact aG x2 | exact de x2 | exact cS x2 rfl | exact ei x2 | exact cR x2 | exact aG (congrArg Nat.cast x2) | exact aA x2 | exact gO x2 | exact x2 | exact aG x3 | exact de x3 | exact cS x3 rfl | exact ei x3 | exact cR x3 | exact aG (congrArg Nat.cast x3) | exact aA x3 | exact gO x3 | exact x3 | exact cz (Nat.le_refl _) rfl | exact cz (Nat.le_succ _) rfl | exact aG rfl | refine ⟨⟨_,rfl,?_⟩,?_⟩)):p:=h x0 x1 x2 x3
theorem av {p:Prop}   (h:p:=by repeat' (first | exact rfl | exact trivial | exact Or.inr (Or.inl ⟨_,rfl⟩) | exact Or.inr ⟨_,rfl⟩ | exact Or.inl ⟨rfl,rfl⟩ | exact Or.inl rfl | refine Or.inr ⟨_,_,rfl,Nat.zero_le _,rfl,?_⟩ | refine ⟨_,_,rfl,?_,?_⟩ | refine ⟨_,rfl,?_⟩ | exact ⟨nL rfl,rfl⟩ | refine Or.inr (Or.inr (Or.inr ⟨_,_,rfl,?_⟩)) | exact Or.inl rfl | refine Or.inr ?_)):p:=h 
theorem o9 {p:Prop} {P0:Prop} (x0:P0) (h:P0->p:=by intro x0;repeat' (first | exact rfl | exact trivial | exact Or.inr (Or.inl ⟨_,rfl⟩) | exact Or.inr ⟨_,rfl⟩ | exact Or.inl ⟨rfl,rfl⟩ | exact Or.inl rfl | refine Or.inr ⟨_,_,rfl,Nat.zero_le _,rfl,?_⟩ | refine ⟨_,_,rfl,?_,?_⟩ | refine ⟨_,rfl,?_⟩ | exact congrArg (fun z=>DV.v (.int .i64 z)) x0 | exact congrArg (fun z=>DV.v (.int .i64 z)) (congrArg Nat.cast x0) | exact congrArg (fun b=>DV.v (.bool b)) x0 | exact x0 | exact Or.inr (Or.inl ⟨_,x0⟩) | apply x0 | exact ⟨nL rfl,rfl⟩ | refine Or.inr (Or.inr (Or.inr ⟨_,_,rfl,?_⟩)) | exact Or.inl rfl | refine Or.inr ?_)):p:=h x0
theorem wC2 {p:Prop} {P0:Prop} {P1:Prop} (x0:P0) (x1:P1) (h:P0->P1->p:=by intro x0 x1;repeat' (first | exact rfl | exact trivial | exact Or.inr (Or.inl ⟨_,rfl⟩) | exact Or.inr ⟨_,rfl⟩ | exact Or.inl ⟨rfl,rfl⟩ | exact Or.inl rfl | refine Or.inr ⟨_,_,rfl,Nat.zero_le _,rfl,?_⟩ | refine ⟨_,_,rfl,?_,?_⟩ | refine ⟨_,rfl,?_⟩ | exact congrArg (fun z=>DV.v (.int .i64 z)) x0 | exact congrArg (fun z=>DV.v (.int .i64 z)) (congrArg Nat.cast x0) | exact congrArg (fun b=>DV.v (.bool b)) x0 | exact x0 | exact Or.inr (Or.inl ⟨_,x0⟩) | apply x0 | exact congrArg (fun z=>DV.v (.int .i64 z)) x1 | exact congrArg (fun z=>DV.v (.int .i64 z)) (congrArg Nat.cast x1) | exact congrArg (fun b=>DV.v (.bool b)) x1 | exact x1 | exact Or.inr (Or.inl ⟨_,x1⟩) | apply x1 | exact ⟨nL rfl,rfl⟩ | refine Or.inr (Or.inr (Or.inr ⟨_,_,rfl,?_⟩)) | exact Or.inl rfl | refine Or.inr ?_)):p:=h x0 x1
theorem iX {α:Type _} {P:α->Prop} {cs:α} {i:Int} {l:List α} (g:l[i.toNat]? = some cs) (k:P cs) (h:0<=i:=by omega):∃ cs,(0<=i/\l[i.toNat]? = some cs)/\P cs:=⟨cs,⟨h,g⟩,k⟩
theorem lI {X:Ctx} {st:St} {k:List It} {c:Code} (I:Nat->St->Prop) {j0:Nat} {mc:St} (h0:I j0 mc) (hw:po X.n0 X.m0 st mc)
 (hr:∀ j s,I j s->go X 4000 (.code c :: .Gw (fun s'=>∃ G9,po X.n0 X.m0 s' G9/\∃ j',j' < j/\I j' G9) :: k) s):ru X c k st:=aY I j0 mc hw h0 hr
theorem lJ {X:Ctx} {st:St} {k:List It} {c:Code} (S:Nat->St) (n:Nat) (hw:po X.n0 X.m0 st (S 0))
 (hr:∀ e,e<=n->go X 4000 (.code c :: .Gw (fun s'=>∃ G9,po X.n0 X.m0 s' G9/\∃ j',j' < n - e/\∃ e:Nat,G9=S e/\e<=n/\j'=n - e) :: k) (S e)):ru X c k st:=aY (fun j st=>∃ e:Nat,st=S e/\e<=n/\j=n - e) (n - 0) (S 0) hw ⟨0,rfl,Nat.zero_le _,rfl⟩ fun j s h=>by
 obtain ⟨e,rfl,he,rfl⟩:=h;exact hr e he
theorem dq {a b : Bool} (h : a = b) : DV.v (.bool a) = .v (.bool b) := h ▸ rfl
theorem rY {a b : Int} (h : a = b) : DV.v (.int .i64 a) = .v (.int .i64 b) := h ▸ rfl
theorem wkM {n0 m0 : Nat} {st st' : St} (h : nf st'.bx.length st'.tk.length st'.tk st.sl st'.sl) (h1 : ∃ r,st.bx = st'.bx ++ r := by exact ⟨_,rfl⟩) (h2 : WeLL st'.bx.length st'.tk.length st'.tk st'.bx st'.bx := by exact wA) (h3 : st.tk = st'.tk := by exact rfl) (h4 : Nat.ble n0 st'.bx.length = true := by exact rfl) (h5 : Nat.ble m0 st'.tk.length = true := by exact rfl) : po n0 m0 st st' := V7 h1 h2 h3 h4 h5 h
theorem ej {n0 m0 : Nat} {st st' : St} (n : Nat) (h2 : WeLL n st'.tk.length st'.tk (st.bx.take n) st'.bx) (h : nf n st'.tk.length st'.tk st.sl st'.sl) (hn : Nat.ble n st.bx.length = true := by exact rfl) (h3 : st.tk = st'.tk := by exact rfl) (h4 : Nat.ble n0 n = true := by exact rfl) (h5 : Nat.ble m0 st'.tk.length = true := by exact rfl) : po n0 m0 st st' := aay n hn h2 h3 h4 h5 h
abbrev aC (k : Nat) (n : Int) : Nat × Sl := (k,⟨[],.v (.int .i64 n)⟩)
abbrev zt (k : Nat) (b : Bool) : Nat × Sl := (k,⟨[],.v (.bool b)⟩)
abbrev aJ (k i : Nat) : Nat × Sl := (k,⟨[],.loc i 0⟩)
abbrev vC (k : Nat) (c : List DV) : Nat × Sl := (k,⟨[],.pt c 0⟩)
abbrev bJ (k e : Nat) (l : List (List DV)) : Nat × Sl := (k,⟨[],.sl e l none⟩)
end Dv
end Go.Proofs.YtfdedoiiahbnnaaGreat
namespace Go.Proofs.YtfdedoiiahbnnaaGreat
namespace Dv
open Go
section
variable {P:Program} {ops:Array Oper} {C:World->Prop} {Q:Act->World->Prop} {W:Nat->Bool} {π:Nat->Nat}
theorem adR {o:Oper} {a:Act} {w:World} {K:Act->World->Prop} (h:wq P o a w K):∃ v w',K (a.put o.dst v) w':=by
 unfold wq at h;split at h
 ·exact ⟨_,_,h⟩
 ·exact ⟨_,_,h⟩
 ·obtain ⟨e,w',fr,⟨v,_,hv⟩,_⟩:=h [];exact ⟨v,w',hv⟩
 ·exact h.elim
theorem aaA {x y:Oper} {v:Value} (hap:x.apart ops y=true) (hs:∀ cs b,y.op ≠ .select cs b) {a:Act} {w:World} {K:Act->World->Prop} :
  wq P y (a.put x.dst v) w K↔wq P y a w (fun a' w'=>K (a'.put x.dst v) w'):=by
 obtain ⟨h1,h2,h3⟩:=Oper.apart_spec hap;unfold wq;rw [execOp_put y hs a x.dst v h1];have hc:∀ u,(a.put x.dst v).put y.dst u=(a.put y.dst u).put x.dst v:=fun u=>Act.put_comm a v u h2
 cases (execOp a.eval y).run P w with
 | halt h w'=>rfl
 | ok n w'=>cases n<;>simp [hc]
def Yl (P:Program) (ops:Array Oper) (C:World->Prop) (o:Oper) (v:Value) (a:Act):Prop:=
 (Region.wanted o (yielded ops a.tmps)=true/\∀ w,(isL o.op=true->C w)->(execOp a.eval o).run P w = .ok (.value v) w) ∨
 (Region.wanted o (yielded ops a.tmps)=false/\v=undef)
theorem Yl.same {x y:Oper} {v u:Value} (hap:x.apart ops y=true) (hs:∀ cs b,y.op ≠ .select cs b) {a:Act}:Yl P ops C y v (a.put x.dst u)↔Yl P ops C y v a:=by
 obtain ⟨h1,h2,h3⟩:=Oper.apart_spec hap;unfold Yl;rw [execOp_put y hs a x.dst u h1,wanted_put y a x.dst u h1]
def ep (P:Program) (ops:Array Oper) (o:Oper) (a:Act) (w:World) (K:Act->World->Prop):Prop:=
 if Region.wanted o (yielded ops a.tmps)=true then wq P o a w K else K (a.put o.dst undef) w
theorem fw {o:Oper} {a:Act} {w:World} {K K':Act->World->Prop} (hk:∀ a w,K a w->K' a w) (h:ep P ops o a w K):ep P ops o a w K':=by grind [ep,kA]
theorem vD {x y:Oper} {v:Value} (hap:x.apart ops y=true) (hs:∀ cs b,y.op ≠ .select cs b) {a:Act} {w:World} {K:Act->World->Prop} :
  ep P ops y (a.put x.dst v) w K↔ep P ops y a w (fun a' w'=>K (a'.put x.dst v) w'):=by
 obtain ⟨h1,h2,h3⟩:=Oper.apart_spec hap;unfold ep;rw [wanted_put y a x.dst v h1];split
 ·exact aaA hap hs
 ·rw [Act.put_comm a v undef h2]
theorem Rx {o:Oper} {a:Act} {w:World} {K:Act->World->Prop} (h:ep P ops o a w K):∃ v w',K (a.put o.dst v) w':=by grind [ep,adR]
theorem rZ {o:Oper} {a:Act} {w:World} {K:Act->World->Prop} (h:ep P ops o a w K):ep P ops o a w (fun a' w'=>K a' w' /\ ∃ u,a'=a.put o.dst u):=by grind [ep,wq]
theorem mf {o:Oper} {a:Act} {w:World} {v:Value} {K:Act->World->Prop} (hy:Yl P ops C o v a) (hc:isL o.op=true->C w) (hk:K (a.put o.dst v) w):ep P ops o a w K:=by
 unfold ep;rcases hy with ⟨hw,hv⟩ | ⟨hw,rfl⟩
 ·grind [wq]
 ·rw [af (by simp [hw])];exact hk
theorem pF {o:Oper} {a:Act} {w:World} {v:Value} {K:Act->World->Prop} (hy:Yl P ops C o v a) (hc:isL o.op=true->C w) (h:ep P ops o a w K):K (a.put o.dst v) w:=by
 unfold ep at h;rcases hy with ⟨hw,hv⟩ | ⟨hw,rfl⟩
 ·grind [wq]
 ·rw [af (by simp [hw])] at h;exact h
def runT (P:Program) (ops:Array Oper) (W:Nat->Bool) (C:World->Prop) (Q:Act->World->Prop):List Nat->Act->World->Prop
 | [],a,w=>Q a w
 | i :: r,a,w=>
  match ops[i]? with
  | none=>False
  | some o=>
   if isE o.op=true then ep P ops o a w fun a' w'=>(W i=false->C w->C w')/\runT P ops W C Q r a' w'
   else ∃ v,Yl P ops C o v a/\(isL o.op=true->C w)/\runT P ops W C Q r (a.put o.dst v) w
def rz (ops:Array Oper) (W:Nat->Bool) (j i:Nat):Bool:=
 match ops[j]?,ops[i]? with
 | some x,some y=>x.apart ops y && y.apart ops x && !(isE x.op && isE y.op) && !(isL x.op && W i)
 | _,_=>false
def Ry (ops:Array Oper) (l:List Nat):Prop:=∃ i o,i∈l/\ops[i]? = some o/\isL o.op=true
theorem im {j i:Nat} {x y:Oper} (h:rz ops W j i=true) (hj:ops[j]? = some x) (hi:ops[i]? = some y) :
  x.apart ops y=true/\y.apart ops x=true/\¬ (isE x.op=true/\isE y.op=true)/\¬ (isL x.op=true/\W i=true):=by
 unfold rz at h;rw [hj,hi] at h;simp only [bh,Bool.not_eq_true',Bool.and_eq_false_iff] at h;refine ⟨h.1.1.1,h.1.1.2,?_,?_⟩
 ·grind
 ·grind
theorem r8 (kC:∀ (j:Nat) (o:Oper) cs b,ops[j]? = some o->o.op ≠ .select cs b) {i:Nat} {o:Oper} (hi:ops[i]? = some o) (hR:isE o.op=false) :
  ∀ (rem:List Nat) (a:Act) (w:World),runT P ops W C Q rem a w->i∈rem->(∀ j∈rem,j≠i->π j < π i->rz ops W j i=true)->rem.Pairwise (fun a b=>π a < π b)->∃ v,Yl P ops C o v a
 | [],_,_,_,hm,_,_=>by cases hm
 | h :: rem,a,w,hr,hm,OQ,hp=>by
  simp only [runT] at hr;by_cases JK:h=i
  ·grind
  ·have nY:i∈rem:=by grind
   have az:π h < π i:=(List.pairwise_cons.1 hp).1 i nY;split at hr
   ·exact hr.elim
   ·rename_i x hx;obtain ⟨Yt,ap2,_,_⟩:=im (OQ h (by simp) JK az) hx hi;have ih:=fun a w hr=>r8 kC hi hR rem a w hr nY (fun j hj=>OQ j (iS _ hj)) (List.pairwise_cons.1 hp).2
    grind [Rx,Yl.same]
theorem CG {h:Nat} {rem:List Nat} (hl:Ry ops rem):Ry ops (h :: rem):=by
 obtain ⟨i,o,hm,ho,hL⟩:=hl;exact ⟨i,o,iS _ hm,ho,hL⟩
theorem ln (kC:∀ (j:Nat) (o:Oper) cs b,ops[j]? = some o->o.op ≠ .select cs b) (Vw:∀ j i x y,π j < π i->ops[i]? = some x->ops[j]? = some y->isL x.op=true->W j=false) {i:Nat} {o:Oper} (hi:ops[i]? = some o) :
  ∀ (rem:List Nat) (a:Act) (w:World),(Ry ops rem->C w)->runT P ops W C Q rem a w->i∈rem->(∀ j∈rem,j≠i->π j < π i->rz ops W j i=true)->rem.Pairwise (fun a b=>π a < π b) ->
   ep P ops o a w (fun a' w'=>(W i=false->C w->C w')/\runT P ops W C Q (rem.erase i) a' w')
 | [],_,_,_,_,hm,_,_=>by cases hm
 | h :: rem,a,w,hC,hr,hm,OQ,hp=>by
  by_cases JK:h=i
  ·grind [runT,mf]
  ·have nY:i∈rem:=by grind
   have az:π h < π i:=(List.pairwise_cons.1 hp).1 i nY;have B0:=(List.pairwise_cons.1 hp).2;rw [List.erase_cons_tail (sU JK)];have QU:=hr;simp only [runT] at hr;split at hr
   ·exact hr.elim
   ·rename_i x hx;obtain ⟨Yt,ap2,hEE,hLW⟩:=im (OQ h (by simp) JK az) hx hi;have hsx:=fun cs b=>kC h x cs b hx;have Rz:=fun cs b=>kC i o cs b hi;have adT:∀ j∈rem,j≠i->π j < π i->rz ops W j i=true:=fun j hj=>OQ j (iS _ hj);split at hr
    ·-- the head has an effect: so o has none
     rename_i hEx;have hRo:isE o.op=false:=by grind
     obtain ⟨v,hy⟩:=r8 (π:=π) kC hi hRo (h :: rem) a w QU hm OQ hp;have V8:isL o.op=true->C w:=fun hL=>hC ⟨i,o,hm,hi,hL⟩;refine mf hy V8 ⟨fun _ h=>h,?_⟩;simp only [runT,hx,hEx,if_true];refine (vD ap2 hsx).2 ?_;refine fw ?_ (rZ hr);rintro a' w' ⟨⟨QV,py⟩,u,rfl⟩;refine ⟨QV,?_⟩
     have hC':Ry ops rem->C w':=by
      intro hl;have B6:=hl;obtain ⟨l,z,hlm,hz,hL⟩:=hl;exact QV (Vw h l z x ((List.pairwise_cons.1 hp).1 l hlm) hz hx hL) (hC (CG B6))
     have ih:=ln kC Vw hi rem _ w' hC' py nY adT B0;have jw:=(Yl.same (u:=u) Yt Rz).2 hy
     grind [pF]
    ·rename_i hEx;obtain ⟨v,hy,hc,py⟩:=hr;have ih:=ln kC Vw hi rem (a.put x.dst v) w (fun hl=>hC (CG hl)) py nY adT B0;refine fw ?_ (rZ ((vD Yt Rz).1 ih))
     grind [runT,Yl.same]
def ordB (ops:Array Oper):Nat->Nat->Nat->Bool
 | 0,_,_=>false
 | n + 1,j,i=>
  match ops[i]? with
  | some o=>o.after.toList.any fun e=>Region.binds .any e && (Nat.beq e.on j || ordB ops n j e.on)
  | none=>false
def ya (ops:Array Oper) (W:Nat->Bool) (π:Nat->Nat):Bool:=
 Region.noSelect ops &&
 (List.range ops.size).all fun i=>
  match ops[i]? with
   | some o=>o.after.toList.all (fun e=>!Region.binds .any e || (Nat.blt (π e.on) (π i) && Nat.blt e.on ops.size)) && (!isL o.op || (List.range ops.size).all fun j=>!Nat.blt (π j) (π i) || !W j)
   | none=>false
def Hc (ops:Array Oper) (W:Nat->Bool) (π:Nat->Nat) (ex:Nat->Nat->Bool):Bool:=
 (List.range ops.size).all fun i=>(List.range ops.size).all fun j=>!Nat.blt (π j) (π i) || ex j i || ordB ops ops.size j i || rz ops W j i
def adU:Nat->Nat->Bool:=fun _ _=>false
def Ka (ops:Array Oper) (W:Nat->Bool):Bool:=ya ops W (fun i=>i) && Hc ops W (fun i=>i) adU
def Dn (ops:Array Oper) (bq:Array Bool):Prop:=
 ∀ i o,ops[i]? = some o->bq.getD i true=true->∀ e∈o.after,Region.binds .any e=true->bq.getD e.on false=true
theorem pG {bq:Array Bool} (hd:Dn ops bq):∀ (n:Nat) (j i:Nat) (o:Oper),ops[i]? = some o->(∀ e∈o.after,Region.binds .any e=true->bq.getD e.on false=true)->ordB ops n j i=true->bq.getD j false=true
 | 0,j,i,o,_,_,h=>by simp [ordB] at h
 | n + 1,j,i,o,ho,fW,h=>by
  simp only [ordB,ho,List.any_eq_true,bh,Bool.or_eq_true] at h;obtain ⟨e,he,hb,hj⟩:=h;have V9:e∈o.after:=sU he;have h1:=fW e V9 hb;rcases hj with hj | hj
  ·have:e.on=j:=sU hj;rw [<- this];exact h1
  ·cases hoe:ops[e.on]? with
   | none=>
    cases n with
    | zero=>simp [ordB] at hj
    | succ n=>simp [ordB,hoe] at hj
   | some o'=>
    have hg:bq.getD e.on true=true:=by grind
    exact pG hd n j e.on o' hoe (hd e.on o' hoe hg) hj
theorem EV (hc:ya ops W π=true):∀ j i x y,π j < π i->ops[i]? = some x->ops[j]? = some y->isL x.op=true->W j=false:=by
 simp only [ya,bh,List.all_eq_true,List.mem_range] at hc;intro j i x y hji hx hy hL;have hj:=(Array.getElem?_eq_some_iff.1 hy).1;have:=hc.2 i (Array.getElem?_eq_some_iff.1 hx).1;simp only [hx,bh,Bool.or_eq_true,hL,Bool.not_true,Bool.false_eq_true,false_or,List.all_eq_true,List.mem_range,Bool.not_eq_true'] at this;rcases this.2 j hj with h1 | h1
 ·have:¬ Nat.blt (π j) (π i)=true:=by simp [h1]
  simp at this;omega
 ·exact h1
theorem CH (hc:ya ops W π=true):∀ i x,ops[i]? = some x->∀ e∈x.after,Region.binds .any e=true->π e.on < π i/\e.on < ops.size:=by
 simp only [ya,bh,List.all_eq_true,List.mem_range] at hc;intro i x hx e he hb;have:=hc.2 i (Array.getElem?_eq_some_iff.1 hx).1;simp only [hx,bh,List.all_eq_true,Bool.or_eq_true] at this;have h2:=this.1 e (sU he);rw [hb] at h2;simpa using h2
theorem He (hc:ya ops W π=true):∀ (j:Nat) (o:Oper) cs b,ops[j]? = some o->o.op ≠ .select cs b:=by
 simp only [ya,bh] at hc;exact Region.noSelect_spec hc.1
theorem EW:∀ {l:List Nat},l.Pairwise (fun a b=>π a < π b)->∀ {x y:Nat},x∈l->y∈l->x≠y->π x < π y∨π y < π x
 | [],_,x,y,hx,_,_=>by cases hx
 | h :: r,hp,x,y,hx,hy,bF=>by
  have B0:=List.pairwise_cons.1 hp;rcases eU hx with e1 | e1
  ·grind
  ·rcases eU hy with e2 | e2
   ·subst e2;exact .inr (B0.1 _ e1)
   ·exact EW B0.2 e1 e2 bF
theorem sa {Q':Exit->Act->World->Prop} (ex:Nat->Nat->Bool) (hcO:ya ops W π=true) (hcS:Hc ops W π ex=true) (hQ:∀ a w,Q a w->Q' .normal a w):∀ (nh:Nat) (bq:Array Bool) (rem:List Nat) (a:Act) (w:World),
  bq.size=ops.size->Dn ops bq->(∀ i,i∈rem↔i < ops.size/\bq.getD i true=false)->rem.Pairwise (fun a b=>π a < π b)->rem.length<=nh->(∀ j∈rem,∀ i∈rem,ex j i=false)->(Ry ops rem->C w)->runT P ops W C Q rem a w ->
   wpAny P .any ops Q' nh bq a w:=by
 have kC:=He hcO;have Vw:=EV hcO;have RA:=CH hcO;simp only [Hc,List.all_eq_true,List.mem_range,Bool.or_eq_true,Bool.not_eq_true'] at hcS;intro nh
 induction nh with
 | zero=>
  intro bq rem a w cK hdn yb hp hlen hex hC hr;have:rem=[]:=List.length_eq_zero_iff.1 (by omega);subst this;refine ⟨?_,hQ _ _ hr⟩;rw [List.eq_nil_iff_forall_not_mem];intro i hi;have:=(mem_ready.1 hi)
  grind
 | succ nh ih=>
  intro bq rem a w cK hdn yb hp hlen hex hC hr
  have aaC:∀ i,i∈Region.ready .any ops bq->i∈rem:=by
   intro i hi;obtain ⟨h1,o,ho,_⟩:=mem_ready.1 hi
   grind
  refine ⟨fun h0=>?_,fun i hi=>?_⟩
  ·cases rem with
   | nil=>exact hQ _ _ hr
   | cons h rem=>
    have hh:=(yb h).1 (by simp);have hx:ops[h]? = some ops[h]:=Array.getElem?_eq_getElem hh.1
    have:h∈Region.ready .any ops bq:=by
     refine mem_ready.2 ⟨hh.2,_,hx,fun e he hb=>?_⟩;obtain ⟨az,RB⟩:=RA h _ hx e he hb;cases hg:bq.getD e.on false
     ·have Yu:bq.getD e.on true=false:=by grind
      have hm:=(yb e.on).2 ⟨by omega,Yu⟩;rcases eU hm with e1 | e1
      ·rw [e1] at az;omega
      ·have:=(List.pairwise_cons.1 hp).1 _ e1;omega
     ·rfl
    rw [h0] at this;cases this
  ·have yc:=aaC i hi;obtain ⟨sc,o,ho,fW⟩:=mem_ready.1 hi;have o0:=(Array.getElem?_eq_some_iff.1 ho).1
   have OQ:∀ j∈rem,j≠i->π j < π i->rz ops W j i=true:=by
    intro j hj _ az;rcases hcS i o0 j ((yb j).1 hj).1 with ((h1 | h1) | h1) | h1
    ·have:¬ Nat.blt (π j) (π i)=true:=by simp [h1]
     simp at this;omega
    ·rw [hex j hj i yc] at h1;cases h1
    ·grind [pG]
    ·exact h1
   have hst:=ln kC Vw ho rem a w hC hr yc OQ hp;have hnd:rem.Nodup:=s9 hp
   have key:∀ a' w',((W i=false->C w->C w')/\runT P ops W C Q (rem.erase i) a' w')->wpAny P .any ops Q' nh (bq.setIfInBounds i true) a' w':=by
    rintro a' w' ⟨QV,py⟩;refine ih (bq.setIfInBounds i true) (rem.erase i) a' w' (by simp [cK]) ?_ ?_ (hp.sublist List.erase_sublist) (by rw [List.length_erase_of_mem yc];omega) (fun j hj i hi=>hex j (List.mem_of_mem_erase hj) i (List.mem_of_mem_erase hi)) ?_ py
    ·intro k x hx hk e he hb;by_cases xl:k=i
     ·subst xl;rw [ho] at hx;simp only [oI] at hx;subst hx;exact getD_set_true (fW e he hb)
     ·rw [getD_set_ne true (Ne.symm xl)] at hk;exact getD_set_true (hdn k x hx hk e he hb)
    ·intro k;rw [List.Nodup.mem_erase_iff hnd];by_cases xl:k=i
     ·subst xl;simp [cK,o0]
     ·rw [getD_set_ne true (Ne.symm xl)]
      grind
    ·rintro ⟨l,z,hl,hz,hL⟩;have B6:=List.mem_of_mem_erase hl;have bF:l≠i:=fun e=>by subst e;exact (List.Nodup.mem_erase_iff hnd).1 hl |>.1 rfl
     have hCw:=hC ⟨l,z,B6,hz,hL⟩;refine QV ?_ hCw;rcases Nat.lt_or_ge (π i) (π l) with h1 | h1
     ·exact Vw i l z o h1 hz ho hL
     ·have h0:π l≠π i:=by
       intro he;rcases EW hp B6 yc bF with h2 | h2<;>omega
      have:=OQ l B6 bF (by omega);obtain ⟨_,_,_,h4⟩:=im this hz ho
      grind
   unfold wpOp
   grind [ep,G1,kA]
theorem mB {id:Nat} {Q':Exit->Act->World->Prop} {a:Act} {w:World} (hm:P.follows .mixedOrders=true) (hc:Ka ops W=true) (hQ:∀ a w,Q a w->Q' .normal a w)
  (hC:C w.drew) (h:runT P ops W C Q (List.range ops.size) a w.drew):(Code.region id ops true).wp P Q' a w:=by
 refine wp_region_any hm ?_;simp only [Ka,bh] at hc;refine sa (π:=fun i=>i) adU hc.1 hc.2 hQ ops.size (Array.replicate ops.size false) (List.range ops.size) a _ (by simp) ?_ ?_ List.pairwise_lt_range (by simp) (fun _ _ _ _=>rfl) (fun _=>hC) h
 ·intro i o ho hl;have:i < ops.size:=(Array.getElem?_eq_some_iff.1 ho).1;simp [this] at hl
 ·simp_all
end
end Dv
end Go.Proofs.YtfdedoiiahbnnaaGreat
namespace Go.Proofs.YtfdedoiiahbnnaaGreat
namespace Dv
open Go Go.RowKit
structure Dr where
 ops:Array Oper
 W:Nat->Bool
 k:List It
 mc:St
 fin:Option (Bool->List (Nat × Sl)->St->Prop)
structure Dw where
 d:Dr
 E0:En
 wr:World
structure CC (E0:En) (bx:List (List DV)) (wr w:World):Prop where
 o:∀ (i:Nat) b cs,E0.β[i]? = some b->bx[i]? = some cs->cs ≠ []->w.heap[b]? = wr.heap[b]?
 c:∀ x v,E0.c x=some v->w.cell? x=some v
abbrev Dw.C (D:Dw) (w:World):Prop:=CC D.E0 D.d.mc.bx D.wr w
structure yd (E:En) (bx:List (List DV)) (w:World):Prop where
 len:E.β.length=bx.length
 eQ:∀ (i:Nat) cs,bx[i]? = some cs->cs ≠ []->∃ b ty arr,E.β[i]? = some b/\w.heap[b]? = some (.cells (List.toArray arr) ty (0,0))/\RvC E cs arr
theorem Env.em {E:En} {bx:List (List DV)} {w:World} (h:Env E bx w):yd E bx w:=⟨h.len,fun i cs hi _=>h.eQ i cs hi⟩
def adV:Option (List DV)->Bool
 | some []=>true
 | _=>false
theorem Wa {o:Option (List DV)} (h:adV o=true):o=some []:=by
 cases o with
 | none=>cases h
 | some l=>
  cases l with
  | nil=>rfl
  | cons _ _=>cases h
def Dw.wc (D:Dw) (E:En):En:=⟨D.E0.c,E.β,E.tk,E.τ⟩
structure iq (X:Ctx) (D:Dw) (c:Bool) (E:En) (s0:List (Nat × Sl)) (st:St) (a:Act) (w:World):Prop where
 rel:Rel X E st a w
 x:Ext D.E0 E
 β:∃ r,E.β=D.E0.β ++ r
 t0:∀ i x,get s0 i=some x->(Holds a.tmps x.gs->∃ v,a.tmps[i]? = some v/\Rv (D.wc E) x.s v)/\(¬ Holds a.tmps x.gs->a.tmps[i]? = some undef)
 cc:c=true->D.C w
def Dw.Q (D:Dw) (X:Ctx) (a:Act) (w:World):Prop:=
 match D.d.fin with
 | none=>kq X D.d.k .normal a w
 | some F=>∃ c E s0 st,iq X D c E s0 st a w/\F c s0 st
def delF {γ:Type _} (d:Nat):List (Nat × Sl)->(List (Nat × Sl)->γ)->γ
 | [],K=>K []
 | p :: r,K=>
  match Nat.beq p.1 d with
  | true=>delF d r K
  | false=>delF d r (fun r'=>K (p :: r'))
theorem tK {γ:Type _} (d:Nat):∀ (l:List (Nat × Sl)) (K:List (Nat × Sl)->γ),delF d l K=K (l.filter fun p=>!Nat.beq p.1 d)
 | [],K=>rfl
 | p :: r,K=>by
  simp only [delF,List.filter_cons];cases h:Nat.beq p.1 d
  ·simp only [Bool.not_false,if_true];rw [tK d r]
  ·simp only [Bool.not_true,Bool.false_eq_true,if_false];rw [tK d r K]
theorem get_filter (d:Nat):∀ (l:List (Nat × Sl)) (i:Nat) (x:Sl),get (l.filter fun p=>!Nat.beq p.1 d) i=some x->i≠d/\get l i=some x
 | [],i,x,h=>by cases h
 | (k,y) :: r,i,x,h=>by
  simp only [List.filter_cons] at h;split at h
  ·rename_i hk
   have hk:k≠d:=by
    rintro rfl;simp at hk
   simp only [dJ] at h ⊢;split at h
   ·grind
   ·rename_i xl;rw [af xl];exact get_filter d r i x h
  ·rename_i hk;have hk:k=d:=sU hk;obtain ⟨h1,h2⟩:=get_filter d r i x h
   grind [dJ]
def scal:DV->Bool
 | .v _=>true
 | .ud=>true
 | .loc _ _=>true
 | .el _ _=>true
 | _=>false
def put2 (s0:List (Nat × Sl)) (st:St) (dst:Option Nat) (b:Bool) (gs:List (Nat × Bool)) (s:DV) (K:List (Nat × Sl)->St->Prop):Prop:=
 match dst with
 | none=>K s0 st
 | some d=>
  match st with
  | ⟨sl,bx,tk⟩=>
   match b || scal s with
   | true=>K ((d,⟨gs,s⟩) :: s0) ⟨(d,⟨gs,s⟩) :: sl,bx,tk⟩
   | false=>delF d s0 fun kg=>K kg ⟨(d,⟨gs,s⟩) :: sl,bx,tk⟩
def optP:Option Prop->Prop
 | some p=>p
 | none=>False
def pR (X:Ctx) (D:Dr) (c:Bool) (s0:List (Nat × Sl)) (st:St) (G:List (Nat × Bool)) (op:Op):Option (Bool × DV):=
 match !isE op && (!isL op || c) with
 | false=>none
 | true=>
  match pureT X.P X.T ⟨s0,D.mc.bx,[]⟩ G op with
  | some s=>some (true,s)
  | none=>
   match isL op with
   | true=>none
   | false=>
    match pureT X.P X.T ⟨st.sl,[],[]⟩ G op with
    | some s=>some (false,s)
    | none=>none
def eR (X:Ctx) (D:Dr) (c:Bool) (s0:List (Nat × Sl)) (st:St) (op:Op) (K:Bool->DV->Prop):Option Prop:=
 match isE op with
 | true=>none
 | false=>
  match isL op with
  | true=>
   match c with
   | true=>effR X ⟨s0,D.mc.bx,[]⟩ op (K true)
   | false=>none
  | false=>
   match effR X ⟨s0,[],[]⟩ op (K true) with
   | some p=>some p
   | none=>effR X ⟨st.sl,[],[]⟩ op (K false)
def CI (X:Ctx) (D:Dr) (c:Bool) (i:Nat) (l:List (Nat × Oper)) (f:FuncId) (args:List DV) (dst:Option Nat) (s0:List (Nat × Sl)) (st:St):Prop:=
 Go.Proofs.Enters X.P f/\((∀ p∈l,D.ops[p.1]? = some p.2)->∀ (E0:En) (wr:World),yd E0 D.mc.bx wr->∀ E a w vs,iq X ⟨D,E0,wr⟩ c E s0 st a w->RvL E args vs->Calls X.P f vs.toArray w fun e w'=>∃ v,e = .returned v /\
  (D.W i=false->CC E0 D.mc.bx wr w->CC E0 D.mc.bx wr w')/\runT X.P D.ops D.W (CC E0 D.mc.bx wr) (Dw.Q ⟨D,E0,wr⟩ X) (l.map (·.1)) (a.put dst v) w')
def OpD (X:Ctx) (D:Dr) (c:Bool) (i:Nat) (l:List (Nat × Oper)) (o:Oper) (s0:List (Nat × Sl)) (st:St):Prop:=
 (∀ p∈l,D.ops[p.1]? = some p.2)->∀ (E0:En) (wr:World),yd E0 D.mc.bx wr->∀ E a w,iq X ⟨D,E0,wr⟩ c E s0 st a w->wq X.P o a w fun a' w'=>
  (D.W i=false->CC E0 D.mc.bx wr w->CC E0 D.mc.bx wr w')/\runT X.P D.ops D.W (CC E0 D.mc.bx wr) (Dw.Q ⟨D,E0,wr⟩ X) (l.map (·.1)) a' w'
def effE (X:Ctx) (D:Dr) (c:Bool) (i:Nat) (l:List (Nat × Oper)) (o:Oper) (s0:List (Nat × Sl)) (st:St) (K:Bool->List (Nat × Sl)->St->Prop):Prop:=
 match o.op with
 | .store t x y=>
  match o.dst with
  | some _=>False
  | none=>
   match D.W i with
   | true=>optP (effC X st o (K false s0))
   | false=>
    match stObj st o.op with
    | some j=>
     match Nat.ble D.mc.bx.length j || adV D.mc.bx[j]? with
     | true=>optP (effC X st o (K c s0))
     | false=>False
    | none=>False
 | .call cl=>
  match cl.callee with
  | .value f=>
   match rv st [] f,argsV st [] cl.args.toList with
   | some (.fn g first captured),some vs=>CI X D c i l g (first ++ vs ++ captured) o.dst s0 st
   | _,_=>False
  | _=>
   match o.dst with
   | some d=>optP (effC X st o fun st'=>delF d s0 fun kg=>K c kg st')
   | none=>False
 | _=>
  match o.dst with
  | some d=>
   match effC X st o fun st'=>
    match get st'.sl d with
    | some ⟨[],.loc j off⟩=>K c ((d,⟨[],.loc j off⟩) :: s0) st'
    | _=>delF d s0 fun kg=>K c kg st' with
   | some p=>p
   | none=>OpD X D c i l o s0 st
  | none=>False
def goD (X:Ctx) (D:Dr):Nat->Bool->List (Nat × Oper)->List (Nat × Sl)->St->Prop
 | _,c,[],s0,st=>
  match D.fin with
  | none=>go X 4000 D.k st
  | some F=>F c s0 st
 | 0,_,_ :: _,_,_=>False
 | n + 1,c,(i,o) :: r,s0,st=>
  match fU X.nt st.sl o.dst && fU X.nt s0 o.dst with
  | false=>False
  | true=>
   match o.guard with
   | none=>
    match isE o.op with
    | true=>effE X D c i r o s0 st fun c' kg st'=>goD X D n c' r kg st'
    | false=>
     match pR X D c s0 st [] o.op with
     | some (b,s)=>put2 s0 st o.dst b [] s (goD X D n c r)
     | none=>optP (eR X D c s0 st o.op fun b s=>put2 s0 st o.dst b [] s (goD X D n c r))
   | some (j,want)=>
    match gslot D.ops.toList j with
    | none=>False
    | some d=>
     match get st.sl d with
     | none=>False
     | some ⟨nX,_⟩=>
      match pR X D c s0 st ((d,want) :: nX) o.op with
      | some (b,s)=>
       match okG ((d,want) :: nX) o.dst with
       | true=>put2 s0 st o.dst b ((d,want) :: nX) s (goD X D n c r)
       | false=>False
      | none=>
       match get st.sl (lastG (d,want) nX).1 with
       | some ⟨[],.v (.bool b)⟩=>
        match nX with
        | []=>Br (b == want)
          (BT st d want fun OR=>resL d want s0 fun s2=>
           match isE o.op with
           | true=>effE X D c i r o s2 OR fun c' kg st'=>goD X D n c' r kg st'
           | false=>optP (eR X D c s2 OR o.op fun b s=>put2 s2 OR o.dst b [] s (goD X D n c r)))
          (match !isL o.op || c with
           | true=>BT st d (!want) fun OR=>resL d (!want) s0 fun s2=>put2 s2 OR o.dst true [] .ud (goD X D n c r)
           | false=>False)
        | _ :: _=>Br (b == (lastG (d,want) nX).2)
          (BT st (lastG (d,want) nX).1 (lastG (d,want) nX).2 fun OR=>resL (lastG (d,want) nX).1 (lastG (d,want) nX).2 s0 fun s2=>goD X D n c ((i,o) :: r) s2 OR)
          (BT st (lastG (d,want) nX).1 (!(lastG (d,want) nX).2) fun OR=>resL (lastG (d,want) nX).1 (!(lastG (d,want) nX).2) s0 fun s2=>goD X D n c ((i,o) :: r) s2 OR)
       | some ⟨[],.ud⟩=>
        match nX with
        | []=>
         match !isL o.op || c with
         | true=>put2 s0 st o.dst true [] .ud (goD X D n c r)
         | false=>False
        | _ :: _=>False
       | _=>False
section
variable {X:Ctx} {D:Dw} {c:Bool} {i:Nat} {s0:List (Nat × Sl)} {st:St} {E:En} {a:Act} {w:World}
theorem aaE (h:Ext D.E0 E):Ext D.E0 (D.wc E):=⟨fun _ _ h=>h,h.β,h.tk⟩
theorem Kb (h:Ext D.E0 E):Ext (D.wc E) E:=⟨h.c,fun _ _ h=>h,fun k q hq=>⟨q,hq,.inl ⟨rfl,rfl⟩⟩⟩
theorem EY {E':En} (h:Ext E E'):Ext (D.wc E) (D.wc E'):=⟨fun _ _ h=>h,h.β,h.tk⟩
theorem iq.rl0 (h:iq X D c E s0 st a w) (hD:yd D.E0 D.d.mc.bx D.wr):Rl (D.wc E) D.d.mc.bx D.C s0 a where
 tm:=h.t0
 eQ:=fun i cs hi=>by
  by_cases bF:cs=[]
  ·subst bF;have az:i < D.E0.β.length:=by rw [hD.len];exact (gS hi).1
   exact ⟨_,[],h.x.β i _ (gE az),⟨cW _,by simp⟩,fun w' _ j u hj=>by simp at hj⟩
  ·obtain ⟨b,ty,arr,hb,hw,hc⟩:=hD.eQ i cs hi bF;exact ⟨b,arr,h.x.β i b hb,hc.mono (aaE h.x),fun w' hC j u hj=>by rw [cO ((hC.o i b cs hb hi bF).trans hw)];simpa using hj⟩
 cc:=fun x v hx w' hC=>hC.c x v hx
theorem iq.rlE (h:iq X D c E s0 st a w):Rl E [] (fun w'=>∀ x v,E.c x=some v->w'.cell? x=some v) st.sl a where
 tm:=h.rel.tm
 eQ:=fun i cs hi=>by simp at hi
 cc:=fun x v hx w' hC=>hC x v hx
theorem MI {s:DV} {v:Value} (hs:scal s=true) (hv:Rv E s v):Rv (D.wc E) s v:=by
 cases s<;>simp [scal] at hs
 ·unfold Rv at hv ⊢;exact hv
 ·unfold Rv at hv ⊢;exact hv
 ·unfold Rv at hv ⊢;exact hv
 ·unfold Rv at hv ⊢;exact hv
theorem j3 (h:iq X D c E s0 st a w) {dst:Option Nat} (hd:(fU X.nt st.sl dst && fU X.nt s0 dst)=true) (b:Bool) (gs:List (Nat × Bool)) (s:DV) (v:Value) (Gx:∀ d,dst=some d->∀ p∈gs,p.1≠d)
  (yx:Holds a.tmps gs->Rv E s v) (qI:b=true->Holds a.tmps gs->Rv (D.wc E) s v) (JY:¬ Holds a.tmps gs->v=undef) {K:List (Nat × Sl)->St->Prop} (hk:put2 s0 st dst b gs s K) :
  ∃ kg st',K kg st' /\ iq X D c E kg st' (a.put dst v) w:=by
 simp only [bh] at hd;have h1:=tC h.rel hd.1 gs s v Gx yx JY
 cases dst with
 | none=>exact ⟨s0,st,hk,h1,h.x,h.β,h.t0,h.cc⟩
 | some d=>
  obtain ⟨sl,bx,tk⟩:=st;have hd2:=hd.2;simp only [fU,bh,Nat.blt_eq] at hd2
  have hold:∀ i x,i≠d->get s0 i=some x->(Holds (a.put (some d) v).tmps x.gs->∃ u,(a.put (some d) v).tmps[i]? = some u/\Rv (D.wc E) x.s u)/\(¬ Holds (a.put (some d) v).tmps x.gs->(a.put (some d) v).tmps[i]? = some undef):=by
   intro i x hi hx;simp only [Act.put];rw [Array.getElem?_setIfInBounds_ne (Ne.symm hi),mW (oe hd2.2 i x hx)];exact h.t0 i x hx
  simp only [put2] at hk;split at hk
  ·rename_i hb;refine ⟨_,_,hk,h1,h.x,h.β,fun i x hx=>?_,h.cc⟩;simp only [dJ] at hx;split at hx
   ·rename_i JG;subst JG;simp only [oI] at hx;subst hx;have h2:(a.tmps.setIfInBounds d v)[d]? = some v:=by simp [Array.getElem?_setIfInBounds,h.rel.sz,hd2.1]
    simp only [Act.put]
    grind [mW,MI]
   all_goals grind
  ·rw [tK] at hk;refine ⟨_,_,hk,h1,h.x,h.β,fun i x hx=>?_,h.cc⟩;obtain ⟨h3,h4⟩:=get_filter d s0 i x hx;exact hold i x h3 h4
theorem om (h:iq X D c E s0 st a w) {d:Nat} {b:Bool} (hd:a.tmps[d]? = some (.bool b)):iq X D c E (s0.map (b6 d b)) (st.resolve d b) a w where
 rel:=l8 h.rel hd
 x:=h.x
 β:=h.β
 t0:=by
  intro i y hy;simp only [get_map,Option.map_eq_some_iff] at hy;obtain ⟨x,hx,rfl⟩:=hy;have ht:=h.t0 i x hx;unfold b6;split
  ·rename_i hi;have o0:i=d:=sU hi;subst o0;exact ⟨fun _=>⟨_,hd,gl rfl⟩,fun hn=>(hn (bi _)).elim⟩
  ·split
   ·grind [Holds,xj,bi]
   ·have he:Holds a.tmps (x.gs.filter fun p=>p != (d,b))↔Holds a.tmps x.gs:=by
     constructor
     ·intro hh p hp;by_cases QO:p=(d,b)
      ·subst QO;exact hd
      ·exact hh p (by simp [List.mem_filter,hp,QO])
     ·intro hh p hp;exact hh p (List.mem_filter.1 hp).1
    simp only [he];exact ht
 cc:=h.cc
theorem tM {nt d:Nat} {b:Bool} {dst:Option Nat} (h:(fU nt st.sl dst && fU nt s0 dst)=true):(fU nt (st.resolve d b).sl dst && fU nt (s0.map (b6 d b)) dst)=true:=by
 simp only [bh] at h ⊢;exact ⟨l9 h.1,l9 (st:=⟨s0,[],[]⟩) h.2⟩
theorem Hf (hD:yd D.E0 D.d.mc.bx D.wr) (h:iq X D c E s0 st a w) {G:List (Nat × Bool)} (hG:Holds a.tmps G) {o:Oper} {b:Bool} {s:DV} (hp:pR X D.d c s0 st G o.op=some (b,s)) :
  isE o.op=false/\(isL o.op=true->c=true)/\∃ v,Rv E s v/\(b=true->Rv (D.wc E) s v)/\∀ w,(isL o.op=true->D.C w)->(execOp a.eval o).run X.P w = .ok (.value v) w:=by
 unfold pR at hp;split at hp
 ·cases hp
 ·rename_i hc;simp only [bh,Bool.not_eq_true',Bool.or_eq_true] at hc;refine ⟨hc.1,fun hL=>?_,?_⟩
  ·grind
  ·split at hp
   ·rename_i s' hs;simp only [oI,Prod.mk.injEq] at hp;obtain ⟨rfl,rfl⟩:=hp;obtain ⟨v,hv,hr⟩:=gv (st:=⟨s0,D.d.mc.bx,[]⟩) X.hT (h.rl0 hD) hG hs;exact ⟨v,Rv.mono (Kb h.x) hv,fun _=>hv,hr⟩
   ·split at hp
    ·cases hp
    ·rename_i hL;split at hp
     ·rename_i s' hs;simp only [oI,Prod.mk.injEq] at hp;obtain ⟨rfl,rfl⟩:=hp;obtain ⟨v,hv,hr⟩:=gv (st:=⟨st.sl,[],[]⟩) X.hT h.rlE hG hs
      grind
     ·cases hp
theorem RC (hD:yd D.E0 D.d.mc.bx D.wr) (h:iq X D c E s0 st a w) {o:Oper} {K:Bool->DV->Prop} (hp:optP (eR X D.d c s0 st o.op K)) :
  isE o.op=false/\(isL o.op=true->c=true)/\∃ b s v,K b s/\Rv E s v/\(b=true->Rv (D.wc E) s v)/\∀ w,(isL o.op=true->D.C w)->(execOp a.eval o).run X.P w = .ok (.value v) w:=by
 unfold eR at hp;split at hp
 ·exact hp.elim
 ·rename_i hE;refine ⟨hE,?_⟩;split at hp
  ·rename_i hL;split at hp
   ·refine ⟨fun _=>rfl,?_⟩
    cases hs:effR X ⟨s0,D.d.mc.bx,[]⟩ o.op (K true) with
    | none=>rw [hs] at hp;exact hp.elim
    | some p=>
     rw [hs] at hp;obtain ⟨s,hk,v,hv,hr⟩:=oh (st:=⟨s0,D.d.mc.bx,[]⟩) (h.rl0 hD) hs hp;exact ⟨true,s,v,hk,Rv.mono (Kb h.x) hv,fun _=>hv,hr⟩
   ·exact hp.elim
  ·rename_i hL;have hno:∀ w':World,isL o.op=true->False:=fun w' h1=>by rw [hL] at h1;cases h1
   refine ⟨fun h1=>(by rw [hL] at h1;cases h1),?_⟩;split at hp
   ·rename_i p hs;obtain ⟨s,hk,v,hv,hr⟩:=oh (st:=⟨s0,[],[]⟩) (C:=D.C) ⟨h.t0,fun i cs hi=>by simp at hi,(h.rl0 hD).cc⟩ hs hp;exact ⟨true,s,v,hk,Rv.mono (Kb h.x) hv,fun _=>hv,fun w' _=>hr w' fun h1=>(hno w' h1).elim⟩
   ·cases hs:effR X ⟨st.sl,[],[]⟩ o.op (K false) with
    | none=>rw [hs] at hp;exact hp.elim
    | some p=>
     rw [hs] at hp;obtain ⟨s,hk,v,hv,hr⟩:=oh (st:=⟨st.sl,[],[]⟩) h.rlE hs hp
     grind
theorem Wb {P:Program} {o:Oper} {K:Act->World->Prop} (h:wq P o a w K):wq P o a w fun a' w'=>K a' w' /\ ∃ u,a'=a.put o.dst u:=by grind [wq]
theorem MJ (h:iq X D c E s0 st a w) {t:Option Nat} {E':En} {st':St} {a':Act} {w':World} (hs:J3 t E w E' w') (hr:Rel X E' st' a' w') (ht:∀ j,t=some j->D.E0.β.length<=j∨D.d.mc.bx[j]? = some []):D.C w->D.C w':=fun hC=>
 ⟨fun i b cs hb cx bF=>by
  have ku:=h.x.β i b hb
  rw [hs.o i _ ku fun e=>by
   rcases ht i e with h1 | h1
   ·have:=(gS hb).1;omega
   ·rw [cx] at h1;simp only [oI] at h1;exact bF h1]
  exact hC.o i b cs hb cx bF,fun x v hx=>hr.env.sub x v (hs.x.c x v (h.x.c x v hx))⟩
theorem zu (h:iq X D c E s0 st a w) {t:Option Nat} {E':En} {st':St} {w':World} {c':Bool} {kg:List (Nat × Sl)} {dst:Option Nat} {u:Value} (hs:J3 t E w E' w') (hr:Rel X E' st' (a.put dst u) w') (sY:c'=true->D.C w')
  (x9:∀ i x,get kg i=some x->(∃ d,dst=some d/\i=d/\scal x.s=true/\get st'.sl d=some x)∨(get s0 i=some x/\∀ d,dst=some d->i≠d)) (hd:fU X.nt s0 dst=true):iq X D c' E' kg st' (a.put dst u) w' where
 rel:=hr
 x:=by
  refine ⟨fun y v hy=>hs.x.c y v (h.x.c y v hy),fun j b hb=>hs.x.β j b (h.x.β j b hb),fun k q hq=>?_⟩;obtain ⟨q1,h1,h2⟩:=h.x.tk k q hq;obtain ⟨q2,h3,h4⟩:=hs.x.tk k q1 h1
  grind
 β:=by
  obtain ⟨r1,h1⟩:=h.β;obtain ⟨r2,h2⟩:=hs.β
  grind
 t0:=fun i x hx=>by
  rcases x9 i x hx with ⟨d,rfl,rfl,nc,hg⟩ | ⟨hg,bF⟩
  ·have:=hr.tm _ _ hg
   grind [MI]
  ·have h1:=h.t0 i x hg
   cases dst with
   | none=>
    refine ⟨fun hh=>?_,h1.2⟩;obtain ⟨v,h2,h3⟩:=h1.1 hh;exact ⟨v,h2,Rv.mono (EY hs.x) h3⟩
   | some d=>
    simp only [fU,bh,Nat.blt_eq] at hd;simp only [Act.put];rw [Array.getElem?_setIfInBounds_ne (Ne.symm (bF d rfl)),mW (oe hd.2 i x hg)];refine ⟨fun hh=>?_,h1.2⟩;obtain ⟨v,h2,h3⟩:=h1.1 hh;exact ⟨v,h2,Rv.mono (EY hs.x) h3⟩
 cc:=sY
def adW (X:Ctx) (D:Dw) (l:List Nat) (G:Bool->List (Nat × Sl)->St->Prop):Prop:=∀ c s0 st,G c s0 st->∀ E a w,iq X D c E s0 st a w->runT X.P D.d.ops D.d.W D.C (D.Q X) l a w
theorem Kc (hD:yd D.E0 D.d.mc.bx D.wr) {l:List (Nat × Oper)} (hl:∀ p∈l,D.d.ops[p.1]? = some p.2) {G:Bool->List (Nat × Sl)->St->Prop} (hG:adW X D (l.map (·.1)) G) {o:Oper} (hd:(fU X.nt st.sl o.dst && fU X.nt s0 o.dst)=true) (h:iq X D c E s0 st a w)
  (he:effE X D.d c i l o s0 st G):wq X.P o a w fun a' w'=>(D.d.W i=false->D.C w->D.C w')/\runT X.P D.d.ops D.d.W D.C (D.Q X) (l.map (·.1)) a' w':=by
 have Wc:=hd;simp only [bh] at Wc;have hlen:D.E0.β.length=D.d.mc.bx.length:=hD.len
 have core:∀ (K:St->Prop) (p:Prop) (c1:Bool),effC X st o K=some p->p->(c1=true->c=true)->(c1=true∨D.d.W i=false->∀ j,stObj st o.op=some j->D.E0.β.length<=j∨D.d.mc.bx[j]? = some []) ->
   (∀ st',K st' -> ∃ kg,G c1 kg st' /\ ∀ i x,get kg i=some x->(∃ d,o.dst=some d/\i=d/\scal x.s=true/\get st'.sl d=some x)∨(get s0 i=some x/\∀ d,o.dst=some d->i≠d)) ->
   wq X.P o a w fun a' w'=>(D.d.W i=false->D.C w->D.C w')/\runT X.P D.d.ops D.d.W D.C (D.Q X) (l.map (·.1)) a' w':=by
  intro K p c1 hp Wf MK hst hK;refine kA ?_ (Wb (lj Wc.1 h.rel hp Wf));rintro a' w' ⟨⟨st',E',hk,hr,hs⟩,u,rfl⟩;refine ⟨fun hW=>MJ h hs hr (hst (.inr hW)),?_⟩;obtain ⟨kg,hg,x9⟩:=hK st' hk;exact hG c1 kg st' hg E' _ w' (zu h hs hr (fun hc=>MJ h hs hr (hst (.inl hc)) (h.cc (MK hc))) x9 Wc.2)
 have Yv:(∀ t x y,o.op ≠ .store t x y)->∀ j,stObj st o.op=some j->D.E0.β.length<=j∨D.d.mc.bx[j]? = some []:=by simp_all [stObj]
 have adX:∀ (d:Nat) (st':St),o.dst=some d->∀ i x,get (s0.filter fun p=>!Nat.beq p.1 d) i=some x->(∃ d,o.dst=some d/\i=d/\scal x.s=true/\get st'.sl d=some x)∨(get s0 i=some x/\∀ d,o.dst=some d->i≠d):=by
  intro d st' lr i x hx;obtain ⟨h1,h2⟩:=get_filter d s0 i x hx
  grind
 unfold effE at he;split at he
 ·rename_i t x y hop;split at he
  ·exact he.elim
  ·rename_i lr;have xm:∀ st':St,∀ i x,get s0 i=some x->(∃ d,o.dst=some d/\i=d/\scal x.s=true/\get st'.sl d=some x)∨(get s0 i=some x/\∀ d,o.dst=some d->i≠d):=fun st' i x hx=>.inr ⟨hx,fun d hd=>by rw [lr] at hd;cases hd⟩;split at he
   ·rename_i hW
    cases hp:effC X st o (G false s0) with
    | none=>rw [hp] at he;exact he.elim
    | some p=>
     rw [hp] at he;exact core _ p false hp he (by intro h;cases h) (by rintro (h1 | h1);cases h1;rw [hW] at h1;cases h1) fun st' hk=>⟨s0,hk,xm st'⟩
   ·split at he
    ·rename_i j hj;split at he
     ·rename_i fO
      have fO:D.d.mc.bx.length<=j∨D.d.mc.bx[j]? = some []:=by
       rcases Bool.or_eq_true _ _ |>.mp fO with h1 | h1
       ·exact .inl (sU h1)
       ·exact .inr (Wa h1)
      cases hp:effC X st o (G c s0) with
      | none=>rw [hp] at he;exact he.elim
      | some p=>
       rw [hp] at he;exact core _ p c hp he id (fun _ j' ku=>by rw [hj] at ku;cases ku;rw [hlen];exact fO) fun st' hk=>⟨s0,hk,xm st'⟩
     ·exact he.elim
    ·exact he.elim
 ·rename_i cl hop;split at he
  ·rename_i f ye;split at he
   ·rename_i g first captured vs hf B6
    obtain ⟨gY,RD⟩:=he;have gW:=h.rel.rl;have e1:=bm gW hf;unfold Rv at e1;obtain ⟨l1,r1,e1,jr,hr1⟩:=e1;have hargs:=ik gW (bi _) _ _ B6;obtain ⟨dst,op,ty,pos,after,gu⟩:=o;obtain ⟨callee,args,argTypes⟩:=cl;simp only at hop ye;subst hop ye
    have hr:(execOp a.eval ⟨dst,.call ⟨.value f,args,argTypes⟩,ty,pos,after,gu⟩).run X.P w = .ok (.enter g (l1 ++ args.toList.map a.eval ++ r1).toArray) w:=by
     have e3:(l1.toArray ++ args.map a.eval ++ r1.toArray)=(l1 ++ args.toList.map a.eval ++ r1).toArray:=by apply Array.ext';simp
     simp only [execOp,resolve,e1,Deferred.ofValue,Sem.run_bind,Sem.run_pure,Result.andThen_ok,invoke,e3];exact gY _ _
    unfold wq;rw [hr];exact RD hl D.E0 D.wr hD E a w _ h ((jr.append hargs).append hr1)
   ·exact he.elim
  ·split at he
   ·rename_i d lr
    cases hp:effC X st o (fun st'=>delF d s0 fun kg=>G c kg st') with
    | none=>rw [hp] at he;exact he.elim
    | some p=>
     rw [hp] at he;refine core _ p c hp he id (fun _=>Yv (fun t x y h1=>by rw [hop] at h1;cases h1)) fun st' hk=>?_;rw [tK] at hk;exact ⟨_,hk,adX d st' lr⟩
   ·exact he.elim
 ·rename_i GB Cq;split at he
  ·rename_i d lr
   cases hp:effC X st o (fun st'=>
    match get st'.sl d with
    | some ⟨[],.loc j off⟩=>G c ((d,⟨[],.loc j off⟩) :: s0) st'
    | _=>delF d s0 fun kg=>G c kg st') with
   | none=>rw [hp] at he;exact he hl D.E0 D.wr hD E a w h
   | some p=>
    rw [hp] at he;refine core _ p c hp he id (fun _=>Yv GB) fun st' hk=>?_;split at hk
    ·rename_i j off hg;refine ⟨_,hk,fun i x hx=>?_⟩;simp only [dJ] at hx;split at hx
     ·rename_i JG;simp only [oI] at hx;subst hx;exact .inl ⟨d,lr,JG.symm,rfl,hg⟩
     all_goals grind
    ·rw [tK] at hk;exact ⟨_,hk,adX d st' lr⟩
  ·exact he.elim
theorem iJ (hD:yd D.E0 D.d.mc.bx D.wr):∀ n c l s0 st,goD X D.d n c l s0 st->(∀ p∈l,D.d.ops[p.1]? = some p.2)->∀ E a w,iq X D c E s0 st a w->runT X.P D.d.ops D.d.W D.C (D.Q X) (l.map (·.1)) a w
 | n,c,[],s0,st,hg,hl=>by
  intro E a w h;have hg:(match D.d.fin with | none=>go X 4000 D.d.k st | some F=>F c s0 st):=by cases n<;>simpa only [goD] using hg
  show D.Q X a w;unfold Dw.Q
  cases hf:D.d.fin with
  | none=>
   rw [hf] at hg;exact go_sound 4000 _ _ hg E a w h.rel
  | some F=>
   rw [hf] at hg;exact ⟨c,E,s0,st,h,hg⟩
 | 0,c,_ :: _,s0,st,hg,_=>by exact hg.elim
 | n + 1,c,(i,o) :: r,s0,st,hg,hl=>by
  intro E a w h;have ho:D.d.ops[i]? = some o:=hl (i,o) (by simp);have B6:∀ p∈r,D.d.ops[p.1]? = some p.2:=fun p hp=>hl p (iS _ hp);simp only [List.map_cons];have ih:∀ c s0 st,goD X D.d n c r s0 st->∀ E a w,iq X D c E s0 st a w->runT X.P D.d.ops D.d.W D.C (D.Q X) (r.map (·.1)) a w:=fun c s0 st hg=>iJ hD n c r s0 st hg B6;have ihG:adW X D (r.map (·.1)) (fun c s0 st=>goD X D.d n c r s0 st):=fun c s0 st hg=>ih c s0 st hg;simp only [goD,Mv,EK] at hg;split at hg
  ·exact hg.elim
  ·rename_i hd
   have fR:∀ (v:Value) kg st',isE o.op=false->Yl X.P D.d.ops D.C o v a->(isL o.op=true->c=true)->goD X D.d n c r kg st' -> iq X D c E kg st' (a.put o.dst v) w ->
     runT X.P D.d.ops D.d.W D.C (D.Q X) (i :: r.map (·.1)) a w:=by
    intro v kg st' hE hy fX vv cg;simp only [runT,ho];rw [af (by simp [hE])];exact ⟨v,hy,fun hL=>h.cc (fX hL),ih c kg st' vv E _ w cg⟩
   have fS:∀ kg st',isE o.op=true->Region.wanted o (yielded D.d.ops a.tmps)=false->goD X D.d n c r kg st' -> iq X D c E kg st' (a.put o.dst undef) w ->
     runT X.P D.d.ops D.d.W D.C (D.Q X) (i :: r.map (·.1)) a w:=by
    intro kg st' hE hw vv cg;simp only [runT,ho];rw [zIfP hE];unfold ep;rw [af (by simp [hw])];exact ⟨fun _ h=>h,ih c kg st' vv E _ w cg⟩
   have fE:∀ kg st',isE o.op=true->Region.wanted o (yielded D.d.ops a.tmps)=true->(fU X.nt st'.sl o.dst && fU X.nt kg o.dst)=true->effE X D.d c i r o kg st' (fun c' kg st'=>goD X D.d n c' r kg st')->iq X D c E kg st' a w ->
     runT X.P D.d.ops D.d.W D.C (D.Q X) (i :: r.map (·.1)) a w:=by
    intro kg st' hE hw Wc he cg;simp only [runT,ho];rw [zIfP hE];unfold ep;rw [zIfP hw];exact Kc hD B6 ihG Wc cg he
   have fP:∀ kg st',Region.wanted o (yielded D.d.ops a.tmps)=true->(fU X.nt st'.sl o.dst && fU X.nt kg o.dst)=true->optP (eR X D.d c kg st' o.op fun b s=>put2 kg st' o.dst b [] s (goD X D.d n c r))->iq X D c E kg st' a w ->
     runT X.P D.d.ops D.d.W D.C (D.Q X) (i :: r.map (·.1)) a w:=by
    intro kg st' hw Wc he cg;obtain ⟨hE,fX,b,s,v,hk,hv,qI,bV⟩:=RC hD cg he;obtain ⟨s1,u9,lX,fm⟩:=j3 cg Wc b [] s v (fun _ _ p hp=>by cases hp) (fun _=>hv) (fun hb _=>qI hb) (fun hn=>(hn (bi _)).elim) hk;exact fR v s1 u9 hE (.inl ⟨hw,bV⟩) fX lX fm
   have udE:∀ kg st',(fU X.nt st'.sl o.dst && fU X.nt kg o.dst)=true->iq X D c E kg st' a w->put2 kg st' o.dst true [] .ud (goD X D.d n c r)->∃ s1 u9,goD X D.d n c r s1 u9/\iq X D c E s1 u9 (a.put o.dst undef) w:=by
    intro kg st' Wc cg hk;exact j3 cg Wc true [] .ud undef (fun _ _ p hp=>by cases hp) (fun _=>xj E) (fun _ _=>xj _) (fun hn=>(hn (bi _)).elim) hk
   split at hg
   ·rename_i V5;have hw:Region.wanted o (yielded D.d.ops a.tmps)=true:=by simp [Region.wanted,V5]
    split at hg
    ·rename_i hE;exact fE s0 st hE hw hd hg h
    ·split at hg
     ·rename_i b s hs;obtain ⟨hE,fX,v,hv,qI,bV⟩:=Hf hD h (bi _) hs;obtain ⟨s1,u9,lX,fm⟩:=j3 h hd b [] s v (fun _ _ p hp=>by cases hp) (fun _=>hv) (fun hb _=>qI hb) (fun hn=>(hn (bi _)).elim) hg;exact fR v s1 u9 hE (.inl ⟨hw,bV⟩) fX lX fm
     ·exact fP s0 st hw hd hg h
   ·rename_i j want V5;split at hg
    ·exact hg.elim
    ·rename_i d Gx;split at hg
     ·exact hg.elim
     ·rename_i nX sd BZ;have zp:=wanted_spec h.rel V5 Gx BZ;have Kd:¬ Holds a.tmps ((d,want) :: nX)->Region.wanted o (yielded D.d.ops a.tmps)=false:=by grind
      split at hg
      ·rename_i b s hs;split at hg
       case h_2=>exact hg.elim
       rename_i fh;have adY:=zo fh;by_cases hh:Holds a.tmps ((d,want) :: nX)
       ·obtain ⟨hE,fX,v,hv,qI,bV⟩:=Hf hD h hh hs;obtain ⟨s1,u9,lX,fm⟩:=j3 h hd b _ s v adY (fun _=>hv) (fun hb _=>qI hb) (fun hn=>(hn hh).elim) hg;exact fR v s1 u9 hE (.inl ⟨zp.2 hh,bV⟩) fX lX fm
       ·obtain ⟨s1,u9,lX,fm⟩:=j3 h hd b _ s undef adY (fun hn=>(hh hn).elim) (fun _ hn=>(hh hn).elim) (fun _=>rfl) hg;have fX:isE o.op=false/\(isL o.op=true->c=true):=by grind [pR]
        exact fR undef s1 u9 fX.1 (.inr ⟨Kd hh,rfl⟩) fX.2 lX fm
      ·split at hg
       ·rename_i b ib;have x9:=G6 h.rel ib
        cases nX with
        | nil=>
         simp only [lastG] at ib x9;cases MG:(b == want)
         ·have J6:b = !want:=by cases b<;>cases want<;>simp_all
          have hg:=hg.f MG
          have hn:Region.wanted o (yielded D.d.ops a.tmps)=false:=by
           refine Kd fun hh=>?_;have:=hh (d,want) (by simp)
           grind
          have hr:=om (d:=d) (b:=!want) h (by rw [x9,J6]);split at hg
          ·rename_i fX
           have aaG:isL o.op=true->c=true:=by
            intro hL;simpa [hL] using fX
           obtain ⟨s1,u9,lX,fm⟩:=udE _ _ (tM hd) hr hg;cases hE:isE o.op
           ·exact fR undef s1 u9 hE (.inr ⟨hn,rfl⟩) aaG lX fm
           ·exact fS s1 u9 hE hn lX fm
          ·exact hg.elim
         ·have jI:b=want:=sU MG;have hg:=hg.t MG
          grind [lf,bi,om,tM]
        | cons g1 gr=>
         have key:∀ e,a.tmps[(lastG (d,want) (g1 :: gr)).1]? = some (.bool e)->goD X D.d n c ((i,o) :: r) (s0.map (b6 (lastG (d,want) (g1 :: gr)).1 e)) (st.resolve (lastG (d,want) (g1 :: gr)).1 e)->_:=
          fun e Cx vv=>iJ hD n c ((i,o) :: r) _ _ vv hl E a w (om h Cx)
         cases MG:(b == (lastG (d,want) (g1 :: gr)).2)
         ·have hg:=hg.f MG;have J6:b = !(lastG (d,want) (g1 :: gr)).2:=by cases b<;>cases h0:(lastG (d,want) (g1 :: gr)).2<;>simp_all
          exact key _ (by rw [x9,J6]) hg
         all_goals simp_all
       ·rename_i ib
        cases nX with
        | nil=>
         have x9:=Rs h.rel ib;simp only [lastG] at x9
         have hn:Region.wanted o (yielded D.d.ops a.tmps)=false:=by
          refine Kd fun hh=>?_;have:=hh (d,want) (by simp);simp only at this;rw [x9] at this;simp [undef] at this
         simp only at hg;split at hg
         ·rename_i fX
          have aaG:isL o.op=true->c=true:=by
           intro hL;simpa [hL] using fX
          obtain ⟨s1,u9,lX,fm⟩:=udE _ _ hd h hg;cases hE:isE o.op
          ·exact fR undef s1 u9 hE (.inr ⟨hn,rfl⟩) aaG lX fm
          ·exact fS s1 u9 hE hn lX fm
         ·exact hg.elim
        | cons g1 gr=>exact hg.elim
       ·exact hg.elim
def OpS (X:Ctx) (o:Oper) (st st':St):Prop:=∀ E a w,Rel X E st a w->wq X.P o a w fun a' w'=>∃ E',Rel X E' st' a' w' /\ J3 none E w E' w'
theorem OpS.g {o:Oper} {k:List It} {st st':St} (h:OpS X o st st') (hk:go X 4000 k st'):Rf X o k st:=fun E a w hr=>by
 refine G1 (kA ?_ (h E a w hr));rintro a' w' ⟨E',py,_⟩;exact go_sound 4000 _ _ hk E' a' w' py
def nOps:Nat->List Oper->List (Nat × Oper)
 | _,[]=>[]
 | i,o :: r=>(i,o) :: nOps (i + 1) r
theorem zw:∀ (l:List Oper) (i:Nat) (p:Nat × Oper),p∈nOps i l->i<=p.1/\l[p.1 - i]? = some p.2
 | [],_,_,h=>by cases h
 | o :: r,i,p,h=>by
  rcases eU h with h | h
  ·subst h;simp
  ·have:=zw r (i + 1) p h
   grind
theorem zA:∀ (l:List Oper) (i:Nat),(nOps i l).map (·.1)=List.range' i l.length
 | [],_=>rfl
 | o :: r,i=>by simp only [nOps,List.map_cons,zA r (i + 1),List.length_cons,List.range'_succ]
theorem zB (hr:Rel X E st a w) {ops:Array Oper} {W:Nat->Bool} {k:List It}:iq X ⟨⟨ops,W,k,st,none⟩,E,w⟩ true E st.sl st a w where
 rel:=hr
 x:=Ext.refl E
 β:=⟨[],by simp⟩
 t0:=hr.tm
 cc:=fun _=>⟨fun _ _ _ _ _ _=>rfl,hr.env.sub⟩
theorem EZ {id:Nat} {ops:Array Oper} {k:List It} {st:St} (W:Nat->Bool) (hm:X.P.follows .mixedOrders=true) (hc:Ka ops W=true)
  (h:goD X ⟨ops,W,k,st,none⟩ 3000 true (nOps 0 ops.toList) st.sl st):xi X id ops k st:=by
 intro E a w hr;have py:=mX hr;have hs:=zB py (ops:=ops) (W:=W) (k:=k);refine mB (C:=CC E st.bx w.drew) (W:=W) (Q:=kq X k .normal) hm hc (fun a w h=>h) (hs.cc rfl) ?_;have:=iJ (D:=⟨⟨ops,W,k,st,none⟩,E,w.drew⟩) py.env.em 3000 true _ _ _ h (fun p hp=>by simpa using (zw _ _ p hp).2) E a w.drew hs;rw [zA] at this;rw [List.range_eq_range'];simp only [Array.length_toList] at this;exact this
def maskL:List Nat->Nat->List (List DV)->List (List DV)
 | _,_,[]=>[]
 | m,i,cs :: r=>(match m.contains i with | true=>[] | false=>cs) :: maskL m (i + 1) r
theorem vE (m:List Nat):∀ (l:List (List DV)) (i:Nat),(maskL m i l).length=l.length
 | [],_=>rfl
 | cs :: r,i=>by simp [maskL,vE m r]
theorem vF (m:List Nat):∀ (l:List (List DV)) (i j:Nat) cs,(maskL m i l)[j]? = some cs->cs=[]∨l[j]? = some cs
 | [],_,_,_,h=>by simp [maskL] at h
 | c :: r,i,0,cs,h=>by grind [maskL]
 | c :: r,i,j + 1,cs,h=>by
  simp only [maskL,List.getElem?_cons_succ] at h ⊢;exact vF m r (i + 1) j cs h
theorem aE {id:Nat} {ops:Array Oper} {k:List It} {st:St} (m:List Nat) (W:Nat->Bool) (hm:X.P.follows .mixedOrders=true) (hc:Ka ops W=true)
  (h:goD X ⟨ops,W,k,⟨st.sl,maskL m 0 st.bx,st.tk⟩,none⟩ 3000 true (nOps 0 ops.toList) st.sl st):xi X id ops k st:=by
 intro E a w hr;have py:=mX hr;have hs:iq X ⟨⟨ops,W,k,⟨st.sl,maskL m 0 st.bx,st.tk⟩,none⟩,E,w.drew⟩ true E st.sl st a w.drew:=⟨py,Ext.refl E,⟨[],by simp⟩,py.tm,fun _=>⟨fun _ _ _ _ _ _=>rfl,py.env.sub⟩⟩;refine mB (C:=CC E (maskL m 0 st.bx) w.drew) (W:=W) (Q:=kq X k .normal) hm hc (fun a w h=>h) (hs.cc rfl) ?_
 have Vx:yd E (maskL m 0 st.bx) w.drew:=⟨by rw [vE];exact py.env.len,fun i cs hi bF=>by
  rcases vF m _ _ _ _ hi with h1 | h1
  ·exact (bF h1).elim
  ·exact py.env.eQ i cs h1⟩
 have:=iJ (D:=⟨⟨ops,W,k,⟨st.sl,maskL m 0 st.bx,st.tk⟩,none⟩,E,w.drew⟩) Vx 3000 true _ _ _ h (fun p hp=>by simpa using (zw _ _ p hp).2) E a w.drew hs;rw [zA] at this;rw [List.range_eq_range'];simp only [Array.length_toList] at this;exact this
def stW (ops:Array Oper) (i:Nat):Bool:=
 match ops.toList[i]? with
 | some o=>
  match o.op with
  | .store ..=>true
  | _=>false
 | none=>false
theorem Wg {id:Nat} {ops:Array Oper} {k:List It} {st:St} (hm:X.P.follows .mixedOrders=true) (hc:Ka ops (stW ops)=true)
  (h:goD X ⟨ops,stW ops,k,st,none⟩ 3000 true (nOps 0 ops.toList) st.sl st):xi X id ops k st:=EZ (stW ops) hm hc h
theorem tN {D:Dr} {f:FuncId} {args bO:List DV} {d:Nat} {r:List (Nat × Oper)} (gY:Enters X.P f) (hd:(fU X.nt st.sl (some d) && fU X.nt s0 (some d))=true) {Φ:DV->List (List DV)->List TkE->Prop} (hc:Ev X.P f bO [] [] Φ) (ha:CcL [] 0 0 0 bO args)
  (hk:∀ Ke,Φ Ke [] []->put2 s0 st (some d) false [] Ke (goD X D 3000 c r)) (hst:X.still=false:=by exact rfl):CI X D c i r f args (some d) s0 st:=by
 refine ⟨gY,fun hl E0 wr hD E a w vs h hv=>(xn h.rel hst hc ha hv).mono ?_⟩;rintro e w' ⟨v,E',Ke,rfl,cg,hr,hΦ,hm,hx,hβ⟩
 have hh:∀ b,b < w.heap.size->w'.heap[b]? = w.heap[b]?:=fun b hb=>hm.block b hb (by
  rintro (h1 | ⟨y,h1,_⟩)
  ·simp [En.cl] at h1
  ·simp [En.cl] at h1)
 have hs:J3 none E w E' w':=⟨hx,⟨[],by rw [hβ];simp⟩,fun j b hb _=>hh b (h.rel.env.bw (mG hb))⟩;have hC:=MJ h hs cg (fun j hj=>by cases hj);refine ⟨v,rfl,fun _=>hC,?_⟩;have Hg:iq X ⟨D,E0,wr⟩ c E' s0 st (a.put none v) w':=zu h hs cg (fun h1=>hC (h.cc h1)) (fun i x hx=>.inr ⟨hx,fun d hd=>by cases hd⟩) rfl;obtain ⟨s1,u9,lX,fm⟩:=j3 Hg hd false [] Ke v (fun _ _ p hp=>by cases hp) (fun _=>hr) (fun hb=>by cases hb) (fun hn=>(hn (bi _)).elim) (hk Ke hΦ);exact iJ (D:=⟨D,E0,wr⟩) hD 3000 c r _ _ lX hl E' _ w' fm
theorem Wh {D:Dr} {f:FuncId} {args bO:List DV} {d:Nat} {r:List (Nat × Oper)} {Ke:DV} (gY:Enters X.P f) (hc:aR X.P f bO Ke) (ha:CcL [] 0 0 0 bO args) (hd:(fU X.nt st.sl (some d) && fU X.nt s0 (some d))=true)
  (hk:put2 s0 st (some d) false [] Ke (goD X D 3000 c r)) (hst:X.still=false:=by exact rfl):CI X D c i r f args (some d) s0 st:=
 tN gY hd hc ha (fun _ hr=>hr ▸ hk) hst
end
end Dv
end Go.Proofs.YtfdedoiiahbnnaaGreat
namespace Go.Proofs.YtfdedoiiahbnnaaGreat
namespace Dv
open Go Go.RowKit
section
variable {P:Program} {ops:Array Oper} {C:World->Prop} {Q:Act->World->Prop} {W:Nat->Bool} {π π':Nat->Nat}
theorem CJ {o:Oper} {i:Nat} {a:Act} {w:World} {K:Act->World->Prop} {Q':Exit->Act->World->Prop} (ho:ops[i]? = some o) (h:ep P ops o a w K):wpOp P ops Q' i K a w:=by
 unfold wpOp
 grind [ep,G1]
def chkT (ops:Array Oper) (x y:Nat):Bool:=
 (List.range ops.size).all fun i=>Nat.beq i x || Nat.beq i y ||
  match ops[i]? with
  | some o=>!isE o.op || ordB ops ops.size x i
  | none=>false
def yf (x y:Nat):Nat->Nat->Bool:=fun j i=>Nat.beq j x && Nat.beq i y
theorem Kf {x y:Nat} {Q':Exit->Act->World->Prop} (ML:x≠y) (h1O:ya ops W π=true) (h1S:Hc ops W π (yf x y)=true) (h2O:ya ops W π'=true) (h2S:Hc ops W π' (yf y x)=true) (hT:chkT ops x y=true)
  (hQ:∀ a w,Q a w->Q' .normal a w):∀ (nh:Nat) (bq:Array Bool) (r1 r2:List Nat) (a:Act) (w:World),
  bq.size=ops.size->Dn ops bq->(∀ i,i∈r1↔i < ops.size/\bq.getD i true=false)->(∀ i,i∈r2↔i < ops.size/\bq.getD i true=false)->r1.Pairwise (fun a b=>π a < π b)->r2.Pairwise (fun a b=>π' a < π' b)->r1.length<=nh ->
   x∈r1->y∈r1->C w->runT P ops W C Q r1 a w->runT P ops W C Q r2 a w->wpAny P .any ops Q' nh bq a w:=by
 have kC:=He h1O;have Vw:=EV h1O;have aaH:=EV h2O;have h1S':=h1S;have h2S':=h2S;simp only [Hc,List.all_eq_true,List.mem_range,Bool.or_eq_true,Bool.not_eq_true'] at h1S h2S;intro nh
 induction nh with
 | zero=>grind
 | succ nh ih=>
  intro bq r1 r2 a w cK hdn kO GX Kg hp2 hlen hx hy hC hr1 ki;have h12:∀ i,i∈r1↔i∈r2:=fun i=>(kO i).trans (GX i).symm;have OS:r1.Nodup:=s9 Kg;have B7:r2.Nodup:=s9 hp2;have RA:=CH h1O;refine ⟨fun h0=>?_,fun i hi=>?_⟩
  ·cases r1 with
   | nil=>cases hx
   | cons h rem=>
    have hh:=(kO h).1 (by simp);have hxx:ops[h]? = some ops[h]:=Array.getElem?_eq_getElem hh.1
    have:h∈Region.ready .any ops bq:=by
     refine mem_ready.2 ⟨hh.2,_,hxx,fun e he hb=>?_⟩;obtain ⟨az,RB⟩:=RA h _ hxx e he hb;cases hg:bq.getD e.on false
     ·have Yu:bq.getD e.on true=false:=by grind
      have hm:=(kO e.on).2 ⟨by omega,Yu⟩;rcases eU hm with e1 | e1
      ·rw [e1] at az;omega
      ·have:=(List.pairwise_cons.1 Kg).1 _ e1;omega
     ·rfl
    rw [h0] at this;cases this
  ·obtain ⟨sc,o,ho,fW⟩:=mem_ready.1 hi;have o0:=(Array.getElem?_eq_some_iff.1 ho).1;have yc:i∈r1:=(kO i).2 ⟨o0,sc⟩;have Wi:i∈r2:=(h12 i).1 yc;have ir:∀ j,j∈r1->ordB ops ops.size j i=true->False:=by grind [pG]
   have Wj:i≠y->∀ j∈r1,j≠i->π j < π i->rz ops W j i=true:=by
    intro hiy j hj _ az;rcases h1S i o0 j ((kO j).1 hj).1 with ((h1 | h1) | h1) | h1
    ·have:¬ Nat.blt (π j) (π i)=true:=by simp [h1]
     simp at this;omega
    ·simp [yf] at h1;exact (hiy h1.2).elim
    ·exact (ir j hj h1).elim
    ·exact h1
   have aaJ:i≠x->∀ j∈r2,j≠i->π' j < π' i->rz ops W j i=true:=by
    intro Vy j hj _ az;rcases h2S i o0 j ((GX j).1 hj).1 with ((h1 | h1) | h1) | h1
    ·have:¬ Nat.blt (π' j) (π' i)=true:=by simp [h1]
     simp at this;omega
    ·simp [yf] at h1;exact (Vy h1.2).elim
    all_goals grind
   have aaK:Dn ops (bq.setIfInBounds i true):=by
    intro k z hz hk e he hb;by_cases xl:k=i
    ·subst xl;rw [ho] at hz;simp only [oI] at hz;subst hz;exact getD_set_true (fW e he hb)
    ·rw [getD_set_ne true (Ne.symm xl)] at hk;exact getD_set_true (hdn k z hz hk e he hb)
   have Hh:∀ (rem:List Nat),rem.Nodup->(∀ i,i∈rem↔i < ops.size/\bq.getD i true=false)->∀ k,k∈rem.erase i↔k < ops.size/\(bq.setIfInBounds i true).getD k true=false:=by
    intro rem hnd yb k;rw [List.Nodup.mem_erase_iff hnd];by_cases xl:k=i
    ·subst xl;simp [cK,o0]
    ·rw [getD_set_ne true (Ne.symm xl)]
     grind
   refine CJ ho ?_;by_cases Vy:i=x
   ·subst Vy;have hst:=ln kC Vw ho r1 a w (fun _=>hC) hr1 yc (Wj ML) Kg;refine fw ?_ hst;rintro a' w' ⟨QV,py⟩;refine sa (C:=C) (yf i y) h1O h1S' hQ nh _ (r1.erase i) a' w' (by simp [cK]) aaK (Hh r1 OS kO) (Kg.sublist List.erase_sublist) (by rw [List.length_erase_of_mem yc];omega) ?_ ?_ py
    ·intro j hj k _;cases ku:yf i y j k
     ·rfl
     ·simp_all [yf]
    ·rintro ⟨l,z,hl,hz,hL⟩;refine QV ?_ hC;have B6:=List.mem_of_mem_erase hl;have bF:l≠i:=((List.Nodup.mem_erase_iff OS).1 hl).1;rcases EW Kg yc B6 bF.symm with h1 | h1
     ·exact Vw i l z o h1 hz ho hL
     ·have:=Wj ML l B6 bF h1;obtain ⟨_,_,_,h4⟩:=im this hz ho
      grind
   ·by_cases hiy:i=y
    ·subst hiy;have hst:=ln kC aaH ho r2 a w (fun _=>hC) ki Wi (aaJ (Ne.symm ML)) hp2;refine fw ?_ hst;rintro a' w' ⟨QV,py⟩;refine sa (C:=C) (yf i x) h2O h2S' hQ nh _ (r2.erase i) a' w' (by simp [cK]) aaK (Hh r2 B7 GX) (hp2.sublist List.erase_sublist) ?_ ?_ ?_ py
     ·have e1:r1.length=r2.length:=(List.perm_iff_count.2 (fun z=>by rw [OS.count,B7.count];simp [h12 z])).length_eq;rw [List.length_erase_of_mem Wi];omega
     ·intro j hj k _;cases ku:yf i x j k
      ·rfl
      ·simp_all [yf]
     ·rintro ⟨l,z,hl,hz,hL⟩;refine QV ?_ hC;have B6:=List.mem_of_mem_erase hl;have bF:l≠i:=((List.Nodup.mem_erase_iff B7).1 hl).1;rcases EW hp2 Wi B6 bF.symm with h1 | h1
      ·exact aaH i l z o h1 hz ho hL
      ·have:=aaJ (Ne.symm ML) l B6 bF h1;obtain ⟨_,_,_,h4⟩:=im this hz ho
       grind
    ·have hRo:isE o.op=false:=by
      simp only [chkT,List.all_eq_true,List.mem_range,Bool.or_eq_true,Nat.beq_eq] at hT
      grind
     obtain ⟨v,hyv⟩:=r8 kC ho hRo r1 a w hr1 yc (Wj hiy) Kg;have hs1:=ln kC Vw ho r1 a w (fun _=>hC) hr1 yc (Wj hiy) Kg;have Cy:=ln kC aaH ho r2 a w (fun _=>hC) ki Wi (aaJ Vy) hp2;have lX:=pF hyv (fun _=>hC) hs1;have vG:=pF hyv (fun _=>hC) Cy;refine mf hyv (fun _=>hC) ?_
     exact ih _ (r1.erase i) (r2.erase i) _ w (by simp [cK]) aaK (Hh r1 OS kO) (Hh r2 B7 GX) (Kg.sublist List.erase_sublist) (hp2.sublist List.erase_sublist) (by rw [List.length_erase_of_mem yc];omega)
      ((List.Nodup.mem_erase_iff OS).2 ⟨Ne.symm Vy,hx⟩) ((List.Nodup.mem_erase_iff OS).2 ⟨Ne.symm hiy,hy⟩) hC lX.2 vG.2
end
def selL (ops:List Oper):List Nat->List (Nat × Oper)
 | []=>[]
 | i :: r=>
  match ops[i]? with
  | some o=>(i,o) :: selL ops r
  | none=>selL ops r
theorem RE {ops:List Oper} {l:List Nat} {p:Nat × Oper} (h:p∈selL ops l):ops[p.1]? = some p.2:=by
 induction l with
 | nil=>cases h
 | cons i r ih=>grind [selL]
def plc:List Nat->Nat->Nat
 | [],_=>0
 | x :: r,i=>if Nat.beq x i then 0 else plc r i + 1
def RF (ops:Array Oper) (l:List Nat):Bool:=
 (selL ops.toList l).map (·.1) == l && (List.range ops.size).all (fun i=>l.contains i) && l.all (fun i=>Nat.blt i ops.size) && Nat.ble l.length ops.size && pwB (plc l) l
where pwB (f:Nat->Nat):List Nat->Bool
 | []=>true
 | x :: r=>r.all (fun y=>Nat.blt (f x) (f y)) && pwB f r
theorem zC {f:Nat->Nat}:∀ {l:List Nat},RF.pwB f l=true->l.Pairwise (fun a b=>f a < f b)
 | [],_=>List.Pairwise.nil
 | x :: r,h=>by
  simp only [RF.pwB,bh,List.all_eq_true,Nat.blt_eq] at h;exact List.pairwise_cons.2 ⟨h.1,zC h.2⟩
def ad4 (ops:Array Oper) (W:Nat->Bool) (l l':List Nat) (x y:Nat):Bool:=
 !Nat.beq x y && Nat.blt x ops.size && Nat.blt y ops.size && RF ops l && RF ops l' && ya ops W (plc l) && Hc ops W (plc l) (yf x y) && ya ops W (plc l') && Hc ops W (plc l') (yf y x) && chkT ops x y
def swp (i j k:Nat):Nat:=
 match Nat.beq k i with
 | true=>j
 | false=>
  match Nat.beq k j with
  | true=>i
  | false=>k
theorem oo (i j k:Nat):swp i j (swp i j k)=k:=by
 have hb:∀ a b:Nat,Nat.beq a b=decide (a=b):=fun a b=>by
  by_cases h:a=b
  ·subst h;simp
  ·rw [decide_eq_false h];cases h1:Nat.beq a b
   ·rfl
   ·exact (h (sU h1)).elim
 grind [swp]
mutual
def renD (f:Nat->Nat):DV->DV
 | .v x=>.v x
 | .ud=>.ud
 | .agg l=>.agg (renL f l)
 | .bo l=>.bo (renL f l)
 | .sl e es tk=>.sl e es tk
 | .pt cs o=>.pt cs o
 | .loc i o=>.loc (f i) o
 | .el i o=>.el (f i) o
 | .ms i e o l c=>.ms (f i) e o l c
 | .fn g l r=>.fn g (renL f l) (renL f r)
 | .rR t x=>.rR t (renD f x)
def renL (f:Nat->Nat):List DV->List DV
 | []=>[]
 | d :: r=>renD f d :: renL f r
end
def renS (f:Nat->Nat):List (Nat × Sl)->List (Nat × Sl)
 | []=>[]
 | (k,⟨gs,s⟩) :: r=>(k,⟨gs,renD f s⟩) :: renS f r
def renO (f:Nat->Nat):List (List DV)->List (List DV)
 | []=>[]
 | cs :: r=>renL f cs :: renO f r
def swL {α:Type} (i j:Nat) (l:List α):List α:=
 match l[i]?,l[j]? with
 | some a,some b=>(l.set i b).set j a
 | _,_=>l
def gx (i j:Nat) (S:St):St:=⟨renS (swp i j) S.sl,swL i j (renO (swp i j) S.bx),S.tk⟩
theorem zD (f:Nat->Nat):∀ (l:List (List DV)) (k:Nat),(renO f l)[k]? = (l[k]?).map (renL f)
 | [],k=>by simp [renO]
 | c :: r,0=>by simp [renO]
 | c :: r,k + 1=>by simp only [renO,List.getElem?_cons_succ];exact zD f r k
theorem fo (f:Nat->Nat):∀ (l:List (List DV)),(renO f l).length=l.length
 | []=>rfl
 | c :: r=>by simp [renO,fo f r]
theorem Hi (f:Nat->Nat):∀ (l:List (Nat × Sl)) (k:Nat),get (renS f l) k=(get l k).map fun x=>⟨x.gs,renD f x.s⟩
 | [],k=>rfl
 | (i,⟨gs,s⟩) :: r,k=>by
  simp only [renS,dJ];split
  ·rfl
  ·exact Hi f r k
theorem gy {α:Type} (i j:Nat) (l:List α):(swL i j l).length=l.length:=by
 unfold swL;split<;>simp
theorem ic {α:Type} {i j:Nat} {l:List α} (hi:i < l.length) (hj:j < l.length) (k:Nat):(swL i j l)[k]? = l[swp i j k]?:=by
 have hb:∀ a b:Nat,Nat.beq a b=true↔a=b:=fun a b=>by simp
 grind [swL,swp]
theorem Wl {α:Type} {i j:Nat} {l:List α} (hi:i < l.length) (hj:j < l.length):swL i j (swL i j l)=l:=by
 apply List.ext_getElem?
 grind [ic,gy,oo]
section
variable {E:En} {i j:Nat}
mutual
theorem Rv.Kh (hi:i < E.β.length) (hj:j < E.β.length):∀ {d:DV} {v:Value},Rv E (renD (swp i j) d) v->Rv ⟨E.c,swL i j E.β,E.tk,E.τ⟩ d v
 | .v x,v,h=>by simp only [renD] at h;unfold Rv at h ⊢;exact h
 | .ud,v,h=>by simp only [renD] at h;unfold Rv at h ⊢;exact h
 | .sl e es tk,v,h=>by simp only [renD] at h;unfold Rv at h ⊢;exact h
 | .pt cs o,v,h=>by simp only [renD] at h;unfold Rv at h ⊢;exact h
 | .loc k o,v,h=>by grind [renD,Rv,swL,ic]
 | .el k o,v,h=>by grind [renD,Rv,swL,ic]
 | .ms k e o l c,v,h=>by grind [renD,Rv,swL,ic]
 | .agg l,v,h=>by
  simp only [renD] at h;unfold Rv at h ⊢;obtain ⟨vs,h1,h2,h3⟩:=h;exact ⟨vs,h1,RvL.Kh hi hj h2,h3⟩
 | .bo l,v,h=>by
  simp only [renD] at h;unfold Rv at h ⊢;obtain ⟨vs,h1,h2⟩:=h;exact ⟨vs,h1,RvL.Kh hi hj h2⟩
 | .fn g l r,v,h=>by
  simp only [renD] at h;unfold Rv at h ⊢;obtain ⟨l',r',h1,h2,h3⟩:=h;exact ⟨l',r',h1,RvL.Kh hi hj h2,RvL.Kh hi hj h3⟩
 | .rR t x,v,h=>by
  simp only [renD] at h;unfold Rv at h ⊢;obtain ⟨z,h1,h2⟩:=h;exact ⟨z,h1,Rv.Kh hi hj h2⟩
theorem RvL.Kh (hi:i < E.β.length) (hj:j < E.β.length):∀ {l:List DV} {vs:List Value},RvL E (renL (swp i j) l) vs->RvL ⟨E.c,swL i j E.β,E.tk,E.τ⟩ l vs
 | [],vs,h=>by simp only [renL,RvL] at h ⊢;exact h
 | d :: r,vs,h=>by
  simp only [renL,RvL] at h ⊢;obtain ⟨v,s,h1,h2,h3⟩:=h;exact ⟨v,s,h1,Rv.Kh hi hj h2,RvL.Kh hi hj h3⟩
end
end
theorem MM {α:Type} {i j:Nat} {l:List α} (hi:i < l.length) (hj:j < l.length) {x:α}:x∈swL i j l↔x∈l:=by grind [swL,ic,gy,Wl]
theorem OT {i j:Nat} {l:List Nat} (hi:i < l.length) (hj:j < l.length) (h:l.Nodup):(swL i j l).Nodup:=by grind [swp,gy,swL,ic,oo]
theorem vH {P:Program} {ops:Array Oper} {W:Nat->Bool} {C:World->Prop} {Q Q':Act->World->Prop} (hQ:∀ a w,Q a w->Q' a w):∀ {l:List Nat} {a:Act} {w:World},runT P ops W C Q l a w->runT P ops W C Q' l a w
 | [],a,w,h=>hQ _ _ h
 | i :: r,a,w,h=>by
  simp only [runT] at h ⊢;split at h
  ·exact h.elim
  ·split at h
   ·rename_i hE;rw [zIfP hE];exact fw (fun a w hk=>⟨hk.1,vH hQ hk.2⟩) h
   ·rename_i hE;rw [af hE];obtain ⟨v,h1,h2,h3⟩:=h;exact ⟨v,h1,h2,vH hQ h3⟩
section
variable {X:Ctx} {E:En} {S:St} {a:Act} {w:World} {i j:Nat}
theorem Hj (hX:X.bt=[]) (h:Rel X E (gx i j S) a w) (Rm:X.n0<=i) (G0:X.n0<=j) (hi:i < S.bx.length) (hj:j < S.bx.length):Rel X ⟨E.c,swL i j E.β,E.tk,E.τ⟩ S a w:=by
 have hlen:E.β.length=S.bx.length:=by
  rw [h.env.len];simp only [gx,gy,fo]
 have o0:i < E.β.length:=by rw [hlen];exact hi
 have ku:j < E.β.length:=by rw [hlen];exact hj
 have lV:∀ k,(gx i j S).bx[k]? = (S.bx[swp i j k]?).map (renL (swp i j)):=fun k=>by grind [gx,ic,fo,zD]
 exact {
  env:={
   len:=by rw [gy];exact hlen
   tl:=h.env.tl
   eQ:=fun k cs hk=>by
    obtain ⟨b,ty,arr,hb,hw,hc⟩:=h.env.eQ (swp i j k) (renL (swp i j) cs) (by rw [lV,oo,hk];rfl);exact ⟨b,ty,arr,by rw [ic o0 ku];exact hb,hw,RvL.Kh o0 ku hc.1,hc.2⟩
   inj:=OT o0 ku h.env.inj
   sub:=h.env.sub
   pc:=fun x v hx hm=>h.env.pc x v hx ((MM o0 ku).1 hm)
   dh:=fun k q y hq hy=>by
    rcases h.env.dh k q y hq hy with h1 | ⟨g,cap,cur,rfl,h1,h2,h3,h4,h5,h6⟩
    ·exact .inl h1
    ·exact .inr ⟨g,cap,cur,rfl,h1,h2,h3,h4,fun hm=>h5 ((MM o0 ku).1 hm),h6⟩
   jY:=h.env.jY }
  tk:=h.tk
  sz:=h.sz
  tm:=fun k x hx=>by
   have:=h.tm k ⟨x.gs,renD (swp i j) x.s⟩ (by simp only [gx];rw [Hi,hx];rfl)
   grind [Rv.Kh]
  df:=h.df
  nw:={
   c:=h.nw.c
   cn:=h.nw.cn
   β:=by
    obtain ⟨r,hr,hl⟩:=h.nw.β;have hE0:X.E0.β.length=X.n0:=X.tj;refine ⟨(swL i j E.β).drop X.n0,?_,fun b hb=>?_⟩
    ·grind [swL,ic,swp]
    ·have hnd:=h.env.inj;obtain ⟨k,hk⟩:=List.mem_iff_getElem?.1 hb;rw [List.getElem?_drop,ic o0 ku] at hk;have hge:X.n0<=swp i j (X.n0 + k):=by grind [swp]
     rw [hr,List.getElem?_append_right (by omega)] at hk;exact hl b (mG hk)
   tk:=h.nw.tk
   tn:=h.nw.tn
   l0:=h.nw.l0 }
  fr:=h.fr
  sh:=h.sh
  bt:=.nil hX }
theorem MN (hX:X.bt=[]) (h:Rel X E (gx i j S) a w) (Rm:X.n0<=i) (G0:X.n0<=j) (hi:i < S.bx.length) (hj:j < S.bx.length):∃ E',Rel X E' S a w:=⟨_,Hj hX h Rm G0 hi hj⟩
end
def MO (sl:List (Nat × Sl)):List (Nat × Sl)->Prop
 | []=>True
 | p :: r=>get sl p.1=some p.2/\MO sl r
theorem zE {sl:List (Nat × Sl)}:∀ {l:List (Nat × Sl)},MO sl l->∀ i x,get l i=some x->get sl i=some x
 | [],_,i,x,hx=>by cases hx
 | (k,y) :: r,h,i,x,hx=>by
  simp only [dJ] at hx;split at hx
  ·rename_i xl;subst xl;simp only [oI] at hx;subst hx;exact h.1
  ·exact zE h.2 i x hx
def uniqS:List Nat->List (Nat × Sl)->List (Nat × Sl)
 | _,[]=>[]
 | m,p :: r=>
  match muB m p.1 with
  | true=>uniqS m r
  | false=>p :: uniqS (p.1 :: m) r
theorem vI:∀ (l:List (Nat × Sl)) (m:List Nat) (i:Nat),muB m i=false->get (uniqS m l) i=get l i
 | [],_,_,_=>rfl
 | (k,x) :: r,m,i,h=>by
  simp only [uniqS]
  cases hm:muB m k with
  | true=>
   simp only;rw [vI r m i h,dJ,af];rintro rfl;rw [hm] at h;cases h
  | false=>
   simp only [dJ];by_cases hk:k=i
   ·rw [zIfP hk,zIfP hk]
   ·rw [af hk,af hk]
    exact vI r (k :: m) i (by simp only [muB,h,Bool.or_false];cases hb:Nat.beq k i with
     | true=>exact (hk (Nat.eq_of_beq_eq_true hb)).elim
     | false=>rfl)
def se (s S:St):Prop:=s.bx=S.bx/\s.tk=S.tk/\MO s.sl (uniqS [] S.sl)
theorem RG {X:Ctx} {E:En} {s S:St} {a:Act} {w:World} (h:Rel X E s a w) (hs:se s S):Rel X E S a w where
 env:=by rw [<- hs.1];exact h.env
 tk:=by rw [<- hs.2.1];exact h.tk
 sz:=h.sz
 tm:=fun i x hx=>h.tm i x (zE hs.2.2 i x (by rw [vI _ _ _ rfl];exact hx))
 df:=h.df
 nw:=h.nw
 fr:=h.fr
 sh:=h.sh
 bt:=h.bt
theorem qL {X:Ctx} {id:Nat} {ops:Array Oper} {k:List It} {st:St} (W:Nat->Bool) (x y:Nat) (l l':List Nat) (i j:Nat) (hm:X.P.follows .mixedOrders=true) (hc:ad4 ops W l l' x y=true) (S:St)
  (h:goD X ⟨ops,W,[.Gw fun s=>s=S],st,none⟩ 3000 true (selL ops.toList l) st.sl st) (h':goD X ⟨ops,W,[.Gw fun s=>se s (gx i j S)],st,none⟩ 3000 true (selL ops.toList l') st.sl st)
  (tD:(Nat.ble X.n0 i && Nat.ble X.n0 j && Nat.blt i S.bx.length && Nat.blt j S.bx.length)=true) (hk:go X 4000 k S) (hX:X.bt=[]:=by exact rfl):xi X id ops k st:=by
 intro E a w hr;have py:=mX hr;simp only [bh,Nat.ble_eq,Nat.blt_eq] at tD;simp only [ad4,RF,bh,List.all_eq_true,Nat.blt_eq,Nat.ble_eq,beq_iff_eq,List.mem_range,Bool.not_eq_true'] at hc;obtain ⟨⟨⟨⟨⟨⟨⟨⟨⟨ML,CA⟩,hys⟩,⟨⟨⟨h1a,h1b⟩,h1c⟩,hlen⟩,h1d⟩,⟨⟨⟨h2a,h2b⟩,h2c⟩,_⟩,h2d⟩,h1O⟩,h1S⟩,h2O⟩,h2S⟩,hT⟩:=hc
 have hQ:∀ S',(S'=S∨S'=gx i j S)->∀ a w,(∃ st E,Rel X E st a w/\(st=S' ∨ se st S'))->kq X k .normal a w:=by
  rintro S' hS a w ⟨u9,E1,hrel0,GY⟩;have cg:Rel X E1 S' a w:=by grind [RG]
  rcases hS with rfl | rfl
  ·exact go_sound 4000 _ _ hk E1 a w cg
  ·obtain ⟨E2,Ha⟩:=MN hX cg tD.1.1.1 tD.1.1.2 tD.1.2 tD.2;exact go_sound 4000 _ _ hk E2 a w Ha
 have key:∀ (S':St),(S'=S∨S'=gx i j S)->∀ (l:List Nat),(selL ops.toList l).map (·.1)=l->∀ J:St->Prop,(∀ s,J s->s=S' ∨ se s S')->(goD X ⟨ops,W,[.Gw J],st,none⟩ 3000 true (selL ops.toList l) st.sl st) ->
   runT X.P ops W (CC E st.bx w.drew) (fun a w=>kq X k .normal a w) l a w.drew:=by
  intro S' hS l hl J hJ h;have hs:=zB py (ops:=ops) (W:=W) (k:=[.Gw J]);have:=iJ (D:=⟨⟨ops,W,[.Gw J],st,none⟩,E,w.drew⟩) py.env.em 3000 true _ _ _ h (fun p hp=>by simpa using RE hp) E a w.drew hs;rw [hl] at this;exact vH (fun a w ⟨st,E1,h1,h2⟩=>hQ S' hS a w ⟨st,E1,h1,hJ st h2⟩) this
 have e1:=key S (.inl rfl) l h1a _ (fun s hs=>.inl hs) h;have e2:=key (gx i j S) (.inr rfl) l' h2a _ (fun s hs=>.inr hs) h';refine wp_region_any hm ?_
 have Hk:∀ (l:List Nat),(∀ i,i < ops.size->l.contains i=true)->(∀ i∈l,i < ops.size)->∀ i,i∈l↔i < ops.size/\(Array.replicate ops.size false).getD i true=false:=by
  intro l ha hb i;constructor
  all_goals simp_all
 have hxy':x≠y:=by
  intro e;subst e;simp at ML
 refine Kf (C:=CC E st.bx w.drew) (π:=plc l) (π':=plc l') (Q:=kq X k .normal) hxy' h1O h1S h2O h2S hT (fun a w h=>h) ops.size (Array.replicate ops.size false) l l' a _ (by simp) ?_ (Hk l h1b h1c) (Hk l' h2b h2c) (zC h1d) (zC h2d) hlen
  (by simpa using h1b x CA) (by simpa using h1b y hys) ⟨fun _ _ _ _ _ _=>rfl,py.env.sub⟩ e1 e2
 intro i o ho hl;have:i < ops.size:=(Array.getElem?_eq_some_iff.1 ho).1;simp [this] at hl
end Dv
end Go.Proofs.YtfdedoiiahbnnaaGreat
namespace Go.Proofs.YtfdedoiiahbnnaaGreat
namespace Dv
open Go Go.RowKit
section
variable {X:Ctx} {st:St} {k:List It} {E:En} {a:Act} {w:World}
noncomputable def En.JL (E:En) (w:World):En:=⟨vx E 0 w,[],[],[]⟩
theorem Wm {bx:List (List DV)} (h:Env E bx w):Env (E.JL w) [] w where
 len:=rfl
 tl:=rfl
 eQ:=by simp
 inj:=List.nodup_nil
 sub:=fun x u hx=>by
  rcases fv hx with ⟨_,h1⟩ | h1
  ·exact h1
  ·exact h.sub x u h1
 pc:=by simp [En.JL]
 dh:=by simp [En.JL]
 jY:=by simp [En.JL]
theorem Wn {bx:List (List DV)} (h:Env E bx w):QT E (E.JL w) bx 0 where
 c:=fun x u hx=>oi h hx
 fz:=fun i cs hi cx=>by
  obtain ⟨b,ty,arr,hb,hw,hc⟩:=h.eQ i cs cx;refine ⟨b,arr,hb,hc,fun j u hj=>?_⟩;show vx E 0 w ⟨b,j,none⟩=some u;unfold vx;rw [zIfP ⟨i,hi,hb⟩,cO hw];simpa using hj
theorem kD {P:Program} {s:Bool} {bx:List (List DV)} (h:Env E bx w) {f:FuncId} {args bO:List DV} {vs:List Value} {y:DV} (hc:EvB s P f bO [] [] fun d _ _=>d=y) (ha:CcL bx 0 0 0 bO args) (hv:RvL E args vs) :
  Calls P f vs.toArray w fun e w'=>∃ v E2,e = .returned v/\Rv E2 y v/\tg (fun _=>False) w w' /\ (s=true->∃ q,w'=w.drewN q):=by
 have Z8:RvL (E.JL w) bO vs:=CcL.sound (Wn h) (MF.zero _ _) ha hv;refine (hc (E.JL w) w vs (Wm h) rfl Z8).mono ?_;rintro e w' ⟨v,rfl,hm,hs,d,os,E2,he,hβ,jt,hn,hvd,rfl⟩;refine ⟨v,E2,rfl,hvd,⟨hm.os,hm.tape,hm.output,hm.size,fun i hi _=>hm.block i hi ?_⟩,hs⟩;rintro (h1 | ⟨y,h1,_⟩)
 ·simp [En.JL] at h1
 ·simp [En.JL] at h1
theorem E6 {f:FuncId} {args bO:List DV} {d:Nat} {y:Value} (gY:Enters X.P f) (hc:aR X.P f bO (.v y)) (ha:CcL st.bx 0 0 0 bO args) (hd:fU X.nt st.sl (some d)=true)
  (hk:go X 4000 k ⟨(d,⟨[],.v y⟩) :: st.sl,st.bx,st.tk⟩) (hst:X.still=false:=by exact rfl):CallG X f args (some d) k st:=by
 refine ⟨gY,hst,fun E a w vs h hv=>(kD h.env hc ha hv).mono ?_⟩;rintro e w' ⟨v,E2,rfl,hr,hm,_⟩;have hh:∀ i,i < w.heap.size->w'.heap[i]? = w.heap[i]?:=fun i hi=>hm.block i hi (fun h=>h);have cg:Rel X E st a w':=dF h (Ext.refl E) (h.env.iU hh) h.tk h.nw (h.fr.cy hm.os hm.tape hm.output hm.size fun i hi=>.inr (hh i hi)) (pj hst) (h.bt.iU fun b hb=>hh b (h.env.bw hb));unfold Rv at hr;exact go_sound 4000 _ _ hk E _ w' (bu cg hd (.v y) v (by unfold Rv;exact hr))
end
end Dv
end Go.Proofs.YtfdedoiiahbnnaaGreat
namespace Go.Proofs.YtfdedoiiahbnnaaGreat
namespace Dv
open Go Go.RowKit
def RH (bx:List (List DV)) (N m:Nat) (sl:List (Nat × Sl)):List (Nat × Sl)->Prop
 | []=>True
 | p :: r=>(∃ x,get sl p.1=some ⟨p.2.gs,x⟩/\Cc bx N N m p.2.s x)/\RH bx N m sl r
theorem CK {bx:List (List DV)} {N m:Nat} {sl:List (Nat × Sl)}:∀ {l:List (Nat × Sl)},RH bx N m sl l->∀ i x',get l i=some x' -> ∃ x,get sl i=some ⟨x'.gs,x⟩/\Cc bx N N m x'.s x
 | [],_,i,x',hx=>by cases hx
 | (k,y) :: r,h,i,x',hx=>by
  simp only [dJ] at hx;split at hx
  ·rename_i xl;subst xl;simp only [oI] at hx;subst hx;exact h.1
  ·exact CK h.2 i x' hx
section
variable {X:Ctx} {E:En} {st st':St} {a:Act} {w:World} {k:List It}
theorem MP (h:Rel X E st a w) (N:Nat) (hN:X.n0<=N) (hNl:N<=st.bx.length) (lV:mU st.bx N N st.tk.length st'.bx (st.bx.take N)) (jt:st'.tk=st.tk) (qJ:RH st.bx N st.tk.length st.sl st'.sl):∃ E',Rel X E' st' a w:=by
 obtain ⟨r,hβr,hβl⟩:=h.nw.β;have hlen:E.β.length=st.bx.length:=h.env.len
 have dO:∀ (i:Nat) b,X.n0<=i->E.β[i]? = some b->b∈r:=fun i b hi hb=>by
  rw [hβr,List.getElem?_append_right (by rw [X.tj];exact hi)] at hb;exact mG hb
 let E':En:=⟨vx E N w,E.β.take N,E.tk,E.τ⟩
 have V3:QT E E' st.bx N:={
  c:=fun x u hx=>oi h.env hx
  fz:=fun i cs hi cx=>by
   obtain ⟨b,ty,arr,hb,hw,hc⟩:=h.env.eQ i cs cx;refine ⟨b,arr,hb,hc,fun j u hj=>?_⟩;show vx E N w ⟨b,j,none⟩=some u;unfold vx;rw [zIfP ⟨i,hi,hb⟩,cO hw]
   simpa using hj }
 have ET:MF E E' N st.tk.length:={
  β:=fun i b hi hb=>by show (E.β.take N)[i]? = _;rw [cJ,zIfP hi];exact hb
  tk:=fun k hk=>⟨rfl,rfl⟩ }
 have aat:∀ (i:Nat) b,N<=i->E.β[i]? = some b->b ∉ E.β.take N:=fun i b hi hb hm=>by
  obtain ⟨j,hj⟩:=List.getElem?_of_mem hm;rw [cJ] at hj;split at hj
  ·rename_i hjN;have:=(List.getElem?_inj (gS hb).1 h.env.inj).1 (hb.trans hj.symm);omega
  ·cases hj
 obtain ⟨nZ,hog⟩:=lV.get;refine ⟨E',?_⟩
 exact {
  env:={
   len:=by grind
   tl:=h.env.tl
   eQ:=fun i cs' hi=>by
    obtain ⟨cs,cx,sY⟩:=hog i cs' hi;rw [cJ] at cx;split at cx
    ·rename_i az;obtain ⟨b,ty,arr,hb,hw,hc⟩:=h.env.eQ i cs cx;exact ⟨b,ty,arr,ET.β i b az hb,hw,CcL.sound V3 ET sY hc.1,hc.2⟩
    ·cases cx
   inj:=h.env.inj.sublist (List.take_sublist _ _)
   sub:=fun x u hx=>by
    rcases fv hx with ⟨_,h1⟩ | h1
    ·exact h1
    ·exact h.env.sub x u h1
   pc:=fun x u hx hm=>by
    rcases fv hx with ⟨⟨i,hi,hb⟩,_⟩ | h1
    ·exact aat i _ hi hb hm
    ·exact h.env.pc x u h1 (List.mem_of_mem_take hm)
   dh:=fun k q y hq hy=>by
    rcases h.env.dh k q y hq hy with h1 | ⟨g,cap,cur,rfl,h1,h2,h3,h4,h5,h6⟩
    ·exact .inl h1
    ·refine .inr ⟨g,cap,cur,rfl,h1,⟨h2.1,h2.2.mono fun _ _ hx=>oi h.env hx⟩,h3,h4,fun hm=>h5 (List.mem_of_mem_take hm),fun x u hx hg=>?_⟩;rcases fv hx with ⟨⟨i,hi,hb⟩,_⟩ | h7
     all_goals grind
   jY:=h.env.jY }
  tk:=by rw [jt];exact h.tk
  sz:=h.sz
  tm:=fun i x' Cw=>by
   obtain ⟨x,hx,sY⟩:=CK qJ i x' Cw;have:=h.tm i _ hx
   grind [Cc.sound]
  df:=h.df
  nw:={
   c:=fun x u hx=>oi h.env (h.nw.c x u hx)
   cn:=fun x u hx=>by
    rcases fv hx with ⟨⟨i,hi,hb⟩,_⟩ | h1
    ·grind
    ·exact h.nw.cn x u h1
   β:=by
    refine ⟨r.take (N - X.n0),?_,fun b hb=>hβl b (List.mem_of_mem_take hb)⟩;show E.β.take N=_;rw [hβr,List.take_append,List.take_of_length_le (by rw [X.tj];omega),X.tj]
   tk:=h.nw.tk
   tn:=h.nw.tn
   l0:=h.nw.l0 }
  fr:=h.fr
  sh:=h.sh
  bt:=h.bt.sub _ }
theorem RI {c:Code} (N:Nat) (u9:St) (hN:Nat.ble X.n0 N=true) (hNl:Nat.ble N st.bx.length=true) (jt:u9.tk=st.tk) (lV:mU st.bx N N st.tk.length u9.bx (st.bx.take N)) (qJ:RH st.bx N st.tk.length st.sl u9.sl)
  (hk:ru X c k u9):ru X c k st:=by
 intro E a w h;obtain ⟨E',h'⟩:=MP h N (nL hN) (nL hNl) lV jt qJ;exact hk E' a w h'
theorem di {n0 m0:Nat} {st st':St} (n:Nat) (q:TkE) (hq:q.new=true) (hn:Nat.ble n st.bx.length=true) (h3:st.tk ++ [q]=st'.tk) (h2:WeLL n st.tk.length st'.tk (st.bx.take n) st'.bx) (h4:Nat.ble n0 n=true) (h5:Nat.ble m0 st.tk.length=true)
  (h:nf n st.tk.length st'.tk st.sl st'.sl):po n0 m0 st st':=by
 have hl:(st.bx.take n).length=n:=by simp_all
 exact ⟨st.tk,[],[q],st.bx.take n,st.bx.drop n,by simpa using h5,by rw [hl];simpa using h4,by simp,h3.symm,by simpa using hq,(List.take_append_drop n st.bx).symm,by rw [hl];exact h2,by rw [hl];exact h⟩
end
end Dv
end Go.Proofs.YtfdedoiiahbnnaaGreat
namespace Go.Proofs.YtfdedoiiahbnnaaGreat
namespace Dv
open Go Go.RowKit
section
variable {X:Ctx} {st:St} {k:List It} {E:En} {a:Act} {w:World}
theorem oq {f:FuncId} {rest RJ cs cs':List DV} {i d:Nat} (gY:Enters X.P f) (hd:fU X.nt st.sl (some d)=true) (lV:st.bx[i]? = some cs) (cx:CcL [] 0 0 0 cs' cs) (ha:CcL [] 0 0 0 RJ rest)
  {Φ:DV->List (List DV)->List TkE->Prop} (hc:Ev X.P f (.loc 0 0 :: RJ) [cs'] [] Φ) (fX:∀ r os tk,Φ r os tk->clB 0 0 r=true/\∀ va∈os,clB.clL 0 0 va=true)
  (hk:∀ r va,Φ r [va] []->go X 4000 k ⟨(d,⟨[],r⟩) :: st.sl,st.bx.set i va,st.tk⟩) (hst:X.still=false:=by exact rfl) (hX:X.bt=[]:=by exact rfl):CallG X f (.loc i 0 :: rest) (some d) k st:=by
 refine ⟨gY,hst,fun E a w vs h hv=>?_⟩;simp only [RvL] at hv;obtain ⟨v1,vr,rfl,h1,hvr⟩:=hv;unfold Rv at h1;obtain ⟨b,hb,rfl⟩:=h1;obtain ⟨b',ty,arr,fj,hw,sY⟩:=h.env.eQ i cs lV;rw [hb] at fj;simp only [oI] at fj;subst fj;have CL:b∈E.β:=mG hb;have aaM:=h.env.bw CL
 let E1:En:=⟨E.c,[b],[],[]⟩
 have hx1:Ext E.cl E1:=⟨fun _ _ h=>h,fun j b hj=>by simp [En.cl] at hj,fun k q hk=>by simp [En.cl] at hk⟩;have hfz:QT E E.cl [] 0:=⟨fun _ _ h=>h,fun i cs _ hi=>by simp at hi⟩
 have hE1:Env E1 [cs'] w:={
  len:=rfl
  tl:=rfl
  eQ:=fun j Yw hj=>by
   cases j with
   | succ j=>simp at hj
   | zero=>
    simp only [List.getElem?_cons_zero,oI] at hj;subst hj;refine ⟨b,ty,arr,rfl,hw,RvL.mono hx1 (CcL.sound hfz (MF.zero _ _) cx sY.1),sY.2⟩
  inj:=by simp [E1]
  sub:=h.env.sub
  pc:=fun x v hx hm=>by
   simp only [E1,List.mem_singleton] at hm;exact h.env.pc x v hx (by rw [hm];exact CL)
  dh:=by simp [E1]
  jY:=by simp [E1] }
 have yx:RvL E1 (.loc 0 0 :: RJ) (.pointer (some ⟨b,0,none⟩) :: vr):=rvL_cons (by unfold Rv;exact ⟨b,rfl,rfl⟩) (RvL.mono hx1 (CcL.sound hfz (MF.zero _ _) ha hvr));refine (hc E1 w _ hE1 rfl yx).mono ?_;rintro e w' ⟨v,rfl,hm,_,r,os,E2,he,hβ,jt,hn,hvd,hΦ⟩;have x9:E2.tk=[]:=List.eq_nil_of_length_eq_zero jt;rw [x9] at hΦ
 obtain ⟨va,rfl⟩:∃ va,os=[va]:=by
  have:=he.len;rw [hβ] at this
  match os,this with
  | [x],_=>exact ⟨x,rfl⟩
 obtain ⟨hclr,hclc⟩:=fX _ _ _ hΦ
 have hh:∀ j,j < w.heap.size->j≠b->w'.heap[j]? = w.heap[j]?:=fun j hj bF=>hm.block j hj (by
  rintro (h1 | ⟨y,h1,_⟩)
  ·simp only [E1,List.mem_singleton] at h1;exact bF h1
  ·simp [E1] at h1)
 have dO:∀ x v,E2.c x=some v->E.c x=some v∨w.heap.size<=x.block:=fun x v hx=>by
  rcases hn.cn x v hx with h1 | h1 | ⟨y,h1,_⟩
  ·exact .inl h1
  ·exact .inr h1
  ·simp [E1] at h1
 let E':En:=⟨E2.c,E.β,E.tk,E.τ⟩
 have hx:Ext E E':=⟨hn.c,fun _ _ h=>h,fun _ q h=>⟨q,h,.inl ⟨rfl,rfl⟩⟩⟩;have GC:Ext (E2.cut 0 0) E':=⟨fun _ _ h=>h,fun j b hj=>by simp [En.cut] at hj,fun k q hk=>by simp [En.cut] at hk⟩
 have cg:Rel X E' ⟨st.sl,st.bx.set i va,st.tk⟩ a w':=by
  refine dF h hx ?_ h.tk ?_ (h.fr.cy hm.os hm.tape hm.output hm.size fun j hj=>?_) (pj hst) (.nil hX)
  ·exact {
    len:=by rw [List.length_set];exact h.env.len
    tl:=h.env.tl
    eQ:=fun j Yw hj=>by
     by_cases hji:j=i
     ·subst hji;rw [iR (gS lV).1] at hj;simp only [oI] at hj;subst hj;obtain ⟨b2,ty2,aaN,iI,rk,tw⟩:=he.eQ 0 va rfl;rw [hβ] at iI;simp only [E1,List.getElem?_cons_zero,oI] at iI;subst iI;exact ⟨b,ty2,aaN,hb,rk,RvL.mono GC (RvL.cut tw.1 (hclc va (by simp))),tw.2⟩
     ·rw [List.getElem?_set_ne (Ne.symm hji)] at hj;obtain ⟨bj,tyj,aaO,Yx,hwj,hcj⟩:=h.env.eQ j Yw hj
      have bF:bj≠b:=by
       rintro rfl;exact hji ((List.getElem?_inj (gS Yx).1 h.env.inj).1 (Yx.trans hb.symm))
      exact ⟨bj,tyj,aaO,Yx,by rw [hh bj (dE hwj) bF];exact hwj,hcj.mono hx⟩
    inj:=h.env.inj
    sub:=he.sub
    pc:=fun x v hc nY=>by
     rcases dO x v hc with h1 | h1
     ·exact h.env.pc x v h1 nY
     ·have:=h.env.bw nY;omega
    dh:=fun k q y hq hy=>by
     rcases h.env.dh k q y hq hy with h1 | ⟨g',cap,cur,rfl,h1,h2,h3,h4,h5,h6⟩
     ·exact .inl h1
     ·refine .inr ⟨g',cap,cur,rfl,by rw [hh g' (dE h1) (fun e=>h5 (by rw [e];exact CL))];exact h1,⟨h2.1,h2.2.mono hn.c⟩,h3,h4,h5,fun x v hc hg=>?_⟩;rcases dO x v hc with h7 | h7
      ·exact h6 x v h7 hg
      ·have:=dE h1;omega
    jY:=h.env.jY }
  ·exact {
    c:=fun x v hc=>hn.c x v (h.nw.c x v hc)
    cn:=fun x v hc=>by
     rcases dO x v hc with h1 | h1
     ·exact h.nw.cn x v h1
     ·have:=h.fr.size;exact .inr (.inl (by omega))
    β:=h.nw.β
    tk:=h.nw.tk
    tn:=h.nw.tn
    l0:=h.nw.l0 }
  ·by_cases hjb:j=b
   ·left;obtain ⟨r0,QU,Hk⟩:=h.nw.β;rw [QU] at CL;rcases List.mem_append.1 CL with CL | CL
    ·exact .inl (.inl (hjb ▸ CL))
    ·exact .inr (hjb ▸ Hk b CL)
   ·exact .inr (hh j hj hjb)
 exact go_sound 4000 _ _ (hk r va hΦ) E' _ w' (bu cg hd r v (Rv.mono GC (Rv.cut hvd hclr)))
end
end Dv
end Go.Proofs.YtfdedoiiahbnnaaGreat
namespace Go.Proofs.YtfdedoiiahbnnaaGreat
namespace Dv
open Go
def tt:TT:=.aj 210 ⟨1,false,.sl 29 1 24,[.slice none 0 0]⟩ (.aj 105 ⟨1,false,.sl 36 9 112,[.slice none 0 0]⟩ (.aj 51 ⟨4,true,.st [(0,29),(1,49),(2,50),(3,3)],[.slice none 0 0,.slice none 0 0,.slice none 0 0,.int .i64 0]⟩ (.aj 24 ⟨1,false,.int .i64,[.int .i64 0]⟩ (.aj 12 ⟨1,false,.int .u64,[.int .u64 0]⟩ (.aj 6 ⟨1,false,.int .u8,[.int .u8 0]⟩ (.aj 3 ⟨1,false,.int .i64,[.int .i64 0]⟩ (.aj 2 ⟨1,false,.int .i64,[.int .i64 0]⟩ (.aj 1 ⟨1,false,.fn,[.nilFunc]⟩ (.nil) (.nil)) (.nil)) (.aj 5 ⟨1,false,.int .u8,[.int .u8 0]⟩ (.aj 4 ⟨1,false,.bool,[.bool false]⟩ (.nil) (.nil)) (.nil))) (.aj 9 ⟨1,false,.str,[.string ByteArray.empty]⟩ (.aj 8 ⟨4,true,.st [(0,2),(1,3),(2,4),(3,6)],[.int .i64 0,.int .i64 0,.bool false,.int .u8 0]⟩ (.aj 7 ⟨4,true,.st [(0,2),(1,3),(2,4),(3,6)],[.int .i64 0,.int .i64 0,.bool false,.int .u8 0]⟩ (.nil) (.nil)) (.nil)) (.aj 11 ⟨1,false,.str,[.string ByteArray.empty]⟩ (.aj 10 ⟨1,false,.str,[.string ByteArray.empty]⟩ (.nil) (.nil)) (.nil)))) (.aj 18 ⟨1,true,.st [(0,17)],[.pointer none]⟩ (.aj 15 ⟨1,false,.ptr 418,[.pointer none]⟩ (.aj 14 ⟨2,true,.st [(0,9),(1,12)],[.string ByteArray.empty,.int .u64 0]⟩ (.aj 13 ⟨2,true,.st [(0,9),(1,12)],[.string ByteArray.empty,.int .u64 0]⟩ (.nil) (.nil)) (.nil)) (.aj 17 ⟨1,false,.ptr 428,[.pointer none]⟩ (.aj 16 ⟨1,false,.ptr 421,[.pointer none]⟩ (.nil) (.nil)) (.nil))) (.aj 21 ⟨1,false,.int .i32,[.int .i32 0]⟩ (.aj 20 ⟨1,false,.rR,[.nilIface]⟩ (.aj 19 ⟨1,true,.st [(0,17)],[.pointer none]⟩ (.nil) (.nil)) (.nil)) (.aj 23 ⟨1,false,.ptr 129,[.pointer none]⟩ (.aj 22 ⟨1,false,.fn,[.nilFunc]⟩ (.nil) (.nil)) (.nil))))) (.aj 37 ⟨12,true,.st [(0,29),(1,30),(2,31),(3,36)],[.slice none 0 0,.slice none 0 0,.slice none 0 0,.int .i64 0,.int .i64 0,.int .i64 0,.int .i64 0,.int .i64 0,.slice none 0 0,.slice none 0 0,.string ByteArray.empty,.int .i64 0]⟩ (.aj 31 ⟨1,false,.sl 93 11 136,[.slice none 0 0]⟩ (.aj 28 ⟨1,false,.fn,[.nilFunc]⟩ (.aj 26 ⟨2,true,.st [(0,24),(1,3)],[.int .i64 0,.int .i64 0]⟩ (.aj 25 ⟨2,true,.st [(0,24),(1,3)],[.int .i64 0,.int .i64 0]⟩ (.nil) (.nil)) (.nil)) (.aj 30 ⟨1,false,.sl 122 4 48,[.slice none 0 0]⟩ (.aj 29 ⟨1,false,.sl 34 2 24,[.slice none 0 0]⟩ (.nil) (.nil)) (.nil))) (.aj 34 ⟨2,true,.st [(0,9),(1,3)],[.string ByteArray.empty,.int .i64 0]⟩ (.aj 33 ⟨2,true,.st [(0,9),(1,3)],[.string ByteArray.empty,.int .i64 0]⟩ (.aj 32 ⟨1,false,.sl 133 18 224,[.slice none 0 0]⟩ (.nil) (.nil)) (.nil)) (.aj 36 ⟨9,true,.st [(0,3),(1,3),(2,3),(3,3),(4,3),(5,29),(6,32),(7,34)],[.int .i64 0,.int .i64 0,.int .i64 0,.int .i64 0,.int .i64 0,.slice none 0 0,.slice none 0 0,.string ByteArray.empty,.int .i64 0]⟩ (.aj 35 ⟨9,true,.st [(0,3),(1,3),(2,3),(3,3),(4,3),(5,29),(6,32),(7,34)],[.int .i64 0,.int .i64 0,.int .i64 0,.int .i64 0,.int .i64 0,.slice none 0 0,.slice none 0 0,.string ByteArray.empty,.int .i64 0]⟩ (.nil) (.nil)) (.nil)))) (.aj 44 ⟨1,false,.fn,[.nilFunc]⟩ (.aj 41 ⟨1,false,.fn,[.nilFunc]⟩ (.aj 40 ⟨1,false,.fn,[.nilFunc]⟩ (.aj 38 ⟨12,true,.st [(0,29),(1,30),(2,31),(3,36)],[.slice none 0 0,.slice none 0 0,.slice none 0 0,.int .i64 0,.int .i64 0,.int .i64 0,.int .i64 0,.int .i64 0,.slice none 0 0,.slice none 0 0,.string ByteArray.empty,.int .i64 0]⟩ (.nil) (.nil)) (.nil)) (.aj 43 ⟨1,false,.fn,[.nilFunc]⟩ (.aj 42 ⟨1,false,.fn,[.nilFunc]⟩ (.nil) (.nil)) (.nil))) (.aj 48 ⟨1,false,.fn,[.nilFunc]⟩ (.aj 47 ⟨1,false,.fn,[.nilFunc]⟩ (.aj 46 ⟨1,false,.fn,[.nilFunc]⟩ (.nil) (.nil)) (.nil)) (.aj 50 ⟨1,false,.sl 87 7 88,[.slice none 0 0]⟩ (.aj 49 ⟨1,false,.sl 183 1 24,[.slice none 0 0]⟩ (.nil) (.nil)) (.nil)))))) (.aj 79 ⟨1,false,.sl 9 1 16,[.slice none 0 0]⟩ (.aj 65 ⟨6,true,.st [(0,61),(4,26)],[.int .i64 0,.int .i64 0,.string ByteArray.empty,.slice none 0 0,.int .i64 0,.int .i64 0]⟩ (.aj 58 ⟨1,false,.fn,[.nilFunc]⟩ (.aj 54 ⟨1,false,.fn,[.nilFunc]⟩ (.aj 53 ⟨1,false,.fn,[.nilFunc]⟩ (.aj 52 ⟨4,true,.st [(0,29),(1,49),(2,50),(3,3)],[.slice none 0 0,.slice none 0 0,.slice none 0 0,.int .i64 0]⟩ (.nil) (.nil)) (.nil)) (.aj 56 ⟨1,false,.fn,[.nilFunc]⟩ (.aj 55 ⟨1,false,.fn,[.nilFunc]⟩ (.nil) (.nil)) (.nil))) (.aj 61 ⟨4,true,.st [(0,3),(1,3),(2,9),(3,59)],[.int .i64 0,.int .i64 0,.string ByteArray.empty,.slice none 0 0]⟩ (.aj 60 ⟨4,true,.st [(0,3),(1,3),(2,9),(3,59)],[.int .i64 0,.int .i64 0,.string ByteArray.empty,.slice none 0 0]⟩ (.aj 59 ⟨1,false,.sl 61 4 56,[.slice none 0 0]⟩ (.nil) (.nil)) (.nil)) (.aj 64 ⟨6,true,.st [(0,61),(4,26)],[.int .i64 0,.int .i64 0,.string ByteArray.empty,.slice none 0 0,.int .i64 0,.int .i64 0]⟩ (.aj 63 ⟨1,false,.fn,[.nilFunc]⟩ (.nil) (.nil)) (.nil)))) (.aj 72 ⟨1,false,.fn,[.nilFunc]⟩ (.aj 68 ⟨1,false,.sl 70 6 88,[.slice none 0 0]⟩ (.aj 67 ⟨1,false,.fn,[.nilFunc]⟩ (.aj 66 ⟨1,false,.fn,[.nilFunc]⟩ (.nil) (.nil)) (.nil)) (.aj 70 ⟨6,true,.st [(0,3),(1,3),(2,3),(3,9),(4,29),(5,68)],[.int .i64 0,.int .i64 0,.int .i64 0,.string ByteArray.empty,.slice none 0 0,.slice none 0 0]⟩ (.aj 69 ⟨6,true,.st [(0,3),(1,3),(2,3),(3,9),(4,29),(5,68)],[.int .i64 0,.int .i64 0,.int .i64 0,.string ByteArray.empty,.slice none 0 0,.slice none 0 0]⟩ (.nil) (.nil)) (.nil))) (.aj 75 ⟨1,false,.fn,[.nilFunc]⟩ (.aj 74 ⟨1,false,.fn,[.nilFunc]⟩ (.aj 73 ⟨1,false,.fn,[.nilFunc]⟩ (.nil) (.nil)) (.nil)) (.aj 78 ⟨1,false,.fn,[.nilFunc]⟩ (.aj 77 ⟨1,false,.fn,[.nilFunc]⟩ (.nil) (.nil)) (.nil))))) (.aj 92 ⟨11,true,.st [(0,34),(2,36)],[.string ByteArray.empty,.int .i64 0,.int .i64 0,.int .i64 0,.int .i64 0,.int .i64 0,.int .i64 0,.slice none 0 0,.slice none 0 0,.string ByteArray.empty,.int .i64 0]⟩ (.aj 86 ⟨7,true,.st [(0,3),(1,3),(2,3),(3,3),(4,3),(5,79),(6,85)],[.int .i64 0,.int .i64 0,.int .i64 0,.int .i64 0,.int .i64 0,.slice none 0 0,.slice none 0 0]⟩ (.aj 82 ⟨7,true,.st [(0,3),(1,3),(2,3),(3,3),(4,3),(5,79),(6,80)],[.int .i64 0,.int .i64 0,.int .i64 0,.int .i64 0,.int .i64 0,.slice none 0 0,.slice none 0 0]⟩ (.aj 81 ⟨7,true,.st [(0,3),(1,3),(2,3),(3,3),(4,3),(5,79),(6,80)],[.int .i64 0,.int .i64 0,.int .i64 0,.int .i64 0,.int .i64 0,.slice none 0 0,.slice none 0 0]⟩ (.aj 80 ⟨1,false,.sl 90 10 88,[.slice none 0 0]⟩ (.nil) (.nil)) (.nil)) (.aj 85 ⟨1,false,.sl 89 10 88,[.slice none 0 0]⟩ (.aj 84 ⟨1,false,.fn,[.nilFunc]⟩ (.nil) (.nil)) (.nil))) (.aj 89 ⟨10,true,.st [(0,9),(1,4),(2,3),(3,3),(4,3),(5,3),(6,3),(7,3),(8,3),(9,3)],[.string ByteArray.empty,.bool false,.int .i64 0,.int .i64 0,.int .i64 0,.int .i64 0,.int .i64 0,.int .i64 0,.int .i64 0,.int .i64 0]⟩ (.aj 88 ⟨10,true,.st [(0,9),(1,4),(2,3),(3,3),(4,3),(5,3),(6,3),(7,3),(8,3),(9,3)],[.string ByteArray.empty,.bool false,.int .i64 0,.int .i64 0,.int .i64 0,.int .i64 0,.int .i64 0,.int .i64 0,.int .i64 0,.int .i64 0]⟩ (.aj 87 ⟨7,true,.st [(0,3),(1,3),(2,3),(3,3),(4,3),(5,79),(6,85)],[.int .i64 0,.int .i64 0,.int .i64 0,.int .i64 0,.int .i64 0,.slice none 0 0,.slice none 0 0]⟩ (.nil) (.nil)) (.nil)) (.aj 91 ⟨1,false,.fn,[.nilFunc]⟩ (.aj 90 ⟨10,true,.st [(0,9),(1,4),(2,3),(3,3),(4,3),(5,3),(6,3),(7,3),(8,3),(9,3)],[.string ByteArray.empty,.bool false,.int .i64 0,.int .i64 0,.int .i64 0,.int .i64 0,.int .i64 0,.int .i64 0,.int .i64 0,.int .i64 0]⟩ (.nil) (.nil)) (.nil)))) (.aj 98 ⟨1,false,.fn,[.nilFunc]⟩ (.aj 95 ⟨1,false,.fn,[.nilFunc]⟩ (.aj 94 ⟨1,false,.fn,[.nilFunc]⟩ (.aj 93 ⟨11,true,.st [(0,34),(2,36)],[.string ByteArray.empty,.int .i64 0,.int .i64 0,.int .i64 0,.int .i64 0,.int .i64 0,.int .i64 0,.slice none 0 0,.slice none 0 0,.string ByteArray.empty,.int .i64 0]⟩ (.nil) (.nil)) (.nil)) (.aj 97 ⟨1,false,.fn,[.nilFunc]⟩ (.aj 96 ⟨1,false,.sl 3 1 8,[.slice none 0 0]⟩ (.nil) (.nil)) (.nil))) (.aj 102 ⟨1,false,.fn,[.nilFunc]⟩ (.aj 100 ⟨1,false,.fn,[.nilFunc]⟩ (.aj 99 ⟨1,false,.ptr 190,[.pointer none]⟩ (.nil) (.nil)) (.nil)) (.aj 104 ⟨1,false,.fn,[.nilFunc]⟩ (.aj 103 ⟨1,false,.fn,[.nilFunc]⟩ (.nil) (.nil)) (.nil))))))) (.aj 157 ⟨1,false,.fn,[.nilFunc]⟩ (.aj 130 ⟨4,true,.st [(0,3),(1,3),(2,3),(3,29)],[.int .i64 0,.int .i64 0,.int .i64 0,.slice none 0 0]⟩ (.aj 118 ⟨1,false,.fn,[.nilFunc]⟩ (.aj 111 ⟨1,false,.sl 5 1 1,[.slice none 0 0]⟩ (.aj 108 ⟨1,false,.fn,[.nilFunc]⟩ (.aj 107 ⟨1,false,.fn,[.nilFunc]⟩ (.aj 106 ⟨1,false,.fn,[.nilFunc]⟩ (.nil) (.nil)) (.nil)) (.aj 110 ⟨1,false,.ptr 113,[.pointer none]⟩ (.aj 109 ⟨1,false,.fn,[.nilFunc]⟩ (.nil) (.nil)) (.nil))) (.aj 114 ⟨1,false,.rR,[.nilIface]⟩ (.aj 113 ⟨2,true,.st [(0,110),(1,111)],[.pointer none,.slice none 0 0]⟩ (.aj 112 ⟨2,true,.st [(0,110),(1,111)],[.pointer none,.slice none 0 0]⟩ (.nil) (.nil)) (.nil)) (.aj 117 ⟨1,false,.fn,[.nilFunc]⟩ (.aj 115 ⟨1,false,.rR,[.nilIface]⟩ (.nil) (.nil)) (.nil)))) (.aj 124 ⟨1,false,.fn,[.nilFunc]⟩ (.aj 121 ⟨4,true,.st [(0,34),(2,34)],[.string ByteArray.empty,.int .i64 0,.string ByteArray.empty,.int .i64 0]⟩ (.aj 120 ⟨1,false,.fn,[.nilFunc]⟩ (.aj 119 ⟨1,false,.fn,[.nilFunc]⟩ (.nil) (.nil)) (.nil)) (.aj 123 ⟨1,false,.fn,[.nilFunc]⟩ (.aj 122 ⟨4,true,.st [(0,34),(2,34)],[.string ByteArray.empty,.int .i64 0,.string ByteArray.empty,.int .i64 0]⟩ (.nil) (.nil)) (.nil))) (.aj 127 ⟨1,false,.ptr 284,[.pointer none]⟩ (.aj 126 ⟨1,false,.sl 82 7 88,[.slice none 0 0]⟩ (.aj 125 ⟨1,false,.fn,[.nilFunc]⟩ (.nil) (.nil)) (.nil)) (.aj 129 ⟨5,true,.st [(0,99),(1,126),(2,3),(3,127),(4,96)],[.pointer none,.slice none 0 0,.int .i64 0,.pointer none,.slice none 0 0]⟩ (.aj 128 ⟨5,true,.st [(0,99),(1,126),(2,3),(3,127),(4,96)],[.pointer none,.slice none 0 0,.int .i64 0,.pointer none,.slice none 0 0]⟩ (.nil) (.nil)) (.nil))))) (.aj 144 ⟨1,false,.fn,[.nilFunc]⟩ (.aj 137 ⟨15,true,.st [(0,38),(12,99),(13,23),(14,3)],[.slice none 0 0,.slice none 0 0,.slice none 0 0,.int .i64 0,.int .i64 0,.int .i64 0,.int .i64 0,.int .i64 0,.slice none 0 0,.slice none 0 0,.string ByteArray.empty,.int .i64 0,.pointer none,.pointer none,.int .i64 0]⟩ (.aj 133 ⟨18,true,.st [(0,34),(2,4),(3,29),(4,3),(5,131),(9,36)],[.string ByteArray.empty,.int .i64 0,.bool false,.slice none 0 0,.int .i64 0,.int .i64 0,.int .i64 0,.int .i64 0,.slice none 0 0,.int .i64 0,.int .i64 0,.int .i64 0,.int .i64 0,.int .i64 0,.slice none 0 0,.slice none 0 0,.string ByteArray.empty,.int .i64 0]⟩ (.aj 132 ⟨18,true,.st [(0,34),(2,4),(3,29),(4,3),(5,131),(9,36)],[.string ByteArray.empty,.int .i64 0,.bool false,.slice none 0 0,.int .i64 0,.int .i64 0,.int .i64 0,.int .i64 0,.slice none 0 0,.int .i64 0,.int .i64 0,.int .i64 0,.int .i64 0,.int .i64 0,.slice none 0 0,.slice none 0 0,.string ByteArray.empty,.int .i64 0]⟩ (.aj 131 ⟨4,true,.st [(0,3),(1,3),(2,3),(3,29)],[.int .i64 0,.int .i64 0,.int .i64 0,.slice none 0 0]⟩ (.nil) (.nil)) (.nil)) (.aj 136 ⟨1,false,.ptr 138,[.pointer none]⟩ (.aj 135 ⟨1,false,.fn,[.nilFunc]⟩ (.nil) (.nil)) (.nil))) (.aj 140 ⟨1,false,.fn,[.nilFunc]⟩ (.aj 139 ⟨1,false,.fn,[.nilFunc]⟩ (.aj 138 ⟨15,true,.st [(0,38),(12,99),(13,23),(14,3)],[.slice none 0 0,.slice none 0 0,.slice none 0 0,.int .i64 0,.int .i64 0,.int .i64 0,.int .i64 0,.int .i64 0,.slice none 0 0,.slice none 0 0,.string ByteArray.empty,.int .i64 0,.pointer none,.pointer none,.int .i64 0]⟩ (.nil) (.nil)) (.nil)) (.aj 142 ⟨1,false,.fn,[.nilFunc]⟩ (.aj 141 ⟨1,false,.fn,[.nilFunc]⟩ (.nil) (.nil)) (.nil)))) (.aj 150 ⟨1,false,.fn,[.nilFunc]⟩ (.aj 147 ⟨1,false,.fn,[.nilFunc]⟩ (.aj 146 ⟨1,false,.fn,[.nilFunc]⟩ (.aj 145 ⟨1,false,.fn,[.nilFunc]⟩ (.nil) (.nil)) (.nil)) (.aj 149 ⟨1,false,.fn,[.nilFunc]⟩ (.aj 148 ⟨1,false,.fn,[.nilFunc]⟩ (.nil) (.nil)) (.nil))) (.aj 154 ⟨1,true,.st [(0,151)],[.pointer none]⟩ (.aj 153 ⟨1,false,.fn,[.nilFunc]⟩ (.aj 151 ⟨1,false,.ptr 244,[.pointer none]⟩ (.nil) (.nil)) (.nil)) (.aj 156 ⟨1,false,.fn,[.nilFunc]⟩ (.aj 155 ⟨1,true,.st [(0,151)],[.pointer none]⟩ (.nil) (.nil)) (.nil)))))) (.aj 183 ⟨1,false,.sl 4 1 1,[.slice none 0 0]⟩ (.aj 171 ⟨1,false,.fn,[.nilFunc]⟩ (.aj 163 ⟨1,false,.sl 218 5 48,[.slice none 0 0]⟩ (.aj 160 ⟨1,false,.fn,[.nilFunc]⟩ (.aj 159 ⟨1,false,.fn,[.nilFunc]⟩ (.aj 158 ⟨1,false,.fn,[.nilFunc]⟩ (.nil) (.nil)) (.nil)) (.aj 162 ⟨1,false,.fn,[.nilFunc]⟩ (.aj 161 ⟨1,false,.fn,[.nilFunc]⟩ (.nil) (.nil)) (.nil))) (.aj 167 ⟨3,true,.st [(0,163),(1,26)],[.slice none 0 0,.int .i64 0,.int .i64 0]⟩ (.aj 166 ⟨3,true,.st [(0,163),(1,26)],[.slice none 0 0,.int .i64 0,.int .i64 0]⟩ (.aj 165 ⟨1,false,.fn,[.nilFunc]⟩ (.nil) (.nil)) (.nil)) (.aj 170 ⟨1,false,.fn,[.nilFunc]⟩ (.aj 169 ⟨1,false,.fn,[.nilFunc]⟩ (.nil) (.nil)) (.nil)))) (.aj 177 ⟨1,false,.fn,[.nilFunc]⟩ (.aj 174 ⟨1,false,.fn,[.nilFunc]⟩ (.aj 173 ⟨1,false,.fn,[.nilFunc]⟩ (.aj 172 ⟨1,false,.fn,[.nilFunc]⟩ (.nil) (.nil)) (.nil)) (.aj 176 ⟨1,false,.fn,[.nilFunc]⟩ (.aj 175 ⟨1,false,.fn,[.nilFunc]⟩ (.nil) (.nil)) (.nil))) (.aj 180 ⟨1,false,.fn,[.nilFunc]⟩ (.aj 179 ⟨3,true,.st [(0,26),(2,3)],[.int .i64 0,.int .i64 0,.int .i64 0]⟩ (.aj 178 ⟨3,true,.st [(0,26),(2,3)],[.int .i64 0,.int .i64 0,.int .i64 0]⟩ (.nil) (.nil)) (.nil)) (.aj 182 ⟨1,false,.fn,[.nilFunc]⟩ (.aj 181 ⟨1,false,.fn,[.nilFunc]⟩ (.nil) (.nil)) (.nil))))) (.aj 195 ⟨1,false,.fn,[.nilFunc]⟩ (.aj 189 ⟨2051,true,.st [(0,79),(1,127),(2,186),(3,188),(1027,188)],(.slice none 0 0 :: .pointer none :: .pointer none :: List.replicate 2048 (.int .i64 0))⟩ (.aj 186 ⟨1,false,.ptr 295,[.pointer none]⟩ (.aj 185 ⟨1,false,.fn,[.nilFunc]⟩ (.aj 184 ⟨1,false,.fn,[.nilFunc]⟩ (.nil) (.nil)) (.nil)) (.aj 188 ⟨1024,true,.ar 32 32,(List.replicate 1024 (.int .i64 0))⟩ (.aj 187 ⟨32,true,.ar 32 1,[.int .i64 0,.int .i64 0,.int .i64 0,.int .i64 0,.int .i64 0,.int .i64 0,.int .i64 0,.int .i64 0,.int .i64 0,.int .i64 0,.int .i64 0,.int .i64 0,.int .i64 0,.int .i64 0,.int .i64 0,.int .i64 0,.int .i64 0,.int .i64 0,.int .i64 0,.int .i64 0,.int .i64 0,.int .i64 0,.int .i64 0,.int .i64 0,.int .i64 0,.int .i64 0,.int .i64 0,.int .i64 0,.int .i64 0,.int .i64 0,.int .i64 0,.int .i64 0]⟩ (.nil) (.nil)) (.nil))) (.aj 192 ⟨1,false,.sl 285 2 16,[.slice none 0 0]⟩ (.aj 191 ⟨1,false,.fn,[.nilFunc]⟩ (.aj 190 ⟨2051,true,.st [(0,79),(1,127),(2,186),(3,188),(1027,188)],(.slice none 0 0 :: .pointer none :: .pointer none :: List.replicate 2048 (.int .i64 0))⟩ (.nil) (.nil)) (.nil)) (.aj 194 ⟨1,false,.fn,[.nilFunc]⟩ (.aj 193 ⟨1,false,.fn,[.nilFunc]⟩ (.nil) (.nil)) (.nil)))) (.aj 202 ⟨1,false,.fn,[.nilFunc]⟩ (.aj 198 ⟨1,false,.fn,[.nilFunc]⟩ (.aj 197 ⟨1,false,.fn,[.nilFunc]⟩ (.aj 196 ⟨1,false,.fn,[.nilFunc]⟩ (.nil) (.nil)) (.nil)) (.aj 201 ⟨1,false,.fn,[.nilFunc]⟩ (.aj 199 ⟨1,false,.ptr 5,[.pointer none]⟩ (.nil) (.nil)) (.nil))) (.aj 207 ⟨1,false,.fn,[.nilFunc]⟩ (.aj 206 ⟨1,false,.fn,[.nilFunc]⟩ (.aj 204 ⟨1,false,.fn,[.nilFunc]⟩ (.nil) (.nil)) (.nil)) (.aj 209 ⟨1,false,.fn,[.nilFunc]⟩ (.aj 208 ⟨1,false,.fn,[.nilFunc]⟩ (.nil) (.nil)) (.nil)))))))) (.aj 319 ⟨1,false,.fn,[.nilFunc]⟩ (.aj 266 ⟨1,false,.fn,[.nilFunc]⟩ (.aj 238 ⟨1,false,.fn,[.nilFunc]⟩ (.aj 223 ⟨1,false,.fn,[.nilFunc]⟩ (.aj 216 ⟨1,false,.fn,[.nilFunc]⟩ (.aj 213 ⟨1,false,.ptr 215,[.pointer none]⟩ (.aj 212 ⟨1,false,.fn,[.nilFunc]⟩ (.aj 211 ⟨1,false,.fn,[.nilFunc]⟩ (.nil) (.nil)) (.nil)) (.aj 215 ⟨2,true,.st [(0,151),(1,3)],[.pointer none,.int .i64 0]⟩ (.aj 214 ⟨2,true,.st [(0,151),(1,3)],[.pointer none,.int .i64 0]⟩ (.nil) (.nil)) (.nil))) (.aj 219 ⟨1,false,.fn,[.nilFunc]⟩ (.aj 218 ⟨5,true,.st [(0,3),(1,3),(2,3),(3,9),(4,3)],[.int .i64 0,.int .i64 0,.int .i64 0,.string ByteArray.empty,.int .i64 0]⟩ (.aj 217 ⟨5,true,.st [(0,3),(1,3),(2,3),(3,9),(4,3)],[.int .i64 0,.int .i64 0,.int .i64 0,.string ByteArray.empty,.int .i64 0]⟩ (.nil) (.nil)) (.nil)) (.aj 221 ⟨4,true,.st [(0,163),(1,3),(2,26)],[.slice none 0 0,.int .i64 0,.int .i64 0,.int .i64 0]⟩ (.aj 220 ⟨4,true,.st [(0,163),(1,3),(2,26)],[.slice none 0 0,.int .i64 0,.int .i64 0,.int .i64 0]⟩ (.nil) (.nil)) (.nil)))) (.aj 231 ⟨1,false,.fn,[.nilFunc]⟩ (.aj 227 ⟨1,false,.fn,[.nilFunc]⟩ (.aj 226 ⟨1,false,.fn,[.nilFunc]⟩ (.aj 225 ⟨1,false,.fn,[.nilFunc]⟩ (.nil) (.nil)) (.nil)) (.aj 230 ⟨1,false,.fn,[.nilFunc]⟩ (.aj 228 ⟨1,false,.fn,[.nilFunc]⟩ (.nil) (.nil)) (.nil))) (.aj 234 ⟨1,false,.fn,[.nilFunc]⟩ (.aj 233 ⟨1,false,.fn,[.nilFunc]⟩ (.aj 232 ⟨1,false,.fn,[.nilFunc]⟩ (.nil) (.nil)) (.nil)) (.aj 237 ⟨1,false,.fn,[.nilFunc]⟩ (.aj 235 ⟨1,false,.fn,[.nilFunc]⟩ (.nil) (.nil)) (.nil))))) (.aj 250 ⟨1,false,.fn,[.nilFunc]⟩ (.aj 244 ⟨5,true,.st [(0,163),(1,3),(2,3),(3,26)],[.slice none 0 0,.int .i64 0,.int .i64 0,.int .i64 0,.int .i64 0]⟩ (.aj 241 ⟨1,true,.st [(0,3)],[.int .i64 0]⟩ (.aj 240 ⟨1,true,.st [(0,3)],[.int .i64 0]⟩ (.aj 239 ⟨1,false,.ptr 241,[.pointer none]⟩ (.nil) (.nil)) (.nil)) (.aj 243 ⟨5,true,.st [(0,163),(1,3),(2,3),(3,26)],[.slice none 0 0,.int .i64 0,.int .i64 0,.int .i64 0,.int .i64 0]⟩ (.aj 242 ⟨1,false,.fn,[.nilFunc]⟩ (.nil) (.nil)) (.nil))) (.aj 247 ⟨1,false,.fn,[.nilFunc]⟩ (.aj 246 ⟨1,false,.fn,[.nilFunc]⟩ (.aj 245 ⟨1,false,.fn,[.nilFunc]⟩ (.nil) (.nil)) (.nil)) (.aj 249 ⟨1,false,.fn,[.nilFunc]⟩ (.aj 248 ⟨1,false,.fn,[.nilFunc]⟩ (.nil) (.nil)) (.nil)))) (.aj 257 ⟨1,false,.fn,[.nilFunc]⟩ (.aj 253 ⟨1,false,.fn,[.nilFunc]⟩ (.aj 252 ⟨1,false,.fn,[.nilFunc]⟩ (.aj 251 ⟨1,false,.fn,[.nilFunc]⟩ (.nil) (.nil)) (.nil)) (.aj 256 ⟨1,false,.fn,[.nilFunc]⟩ (.aj 255 ⟨1,false,.fn,[.nilFunc]⟩ (.nil) (.nil)) (.nil))) (.aj 262 ⟨1,false,.fn,[.nilFunc]⟩ (.aj 261 ⟨1,false,.fn,[.nilFunc]⟩ (.aj 259 ⟨1,false,.fn,[.nilFunc]⟩ (.nil) (.nil)) (.nil)) (.aj 265 ⟨1,false,.fn,[.nilFunc]⟩ (.aj 263 ⟨1,false,.fn,[.nilFunc]⟩ (.nil) (.nil)) (.nil)))))) (.aj 293 ⟨1,false,.sl 290 1 8,[.slice none 0 0]⟩ (.aj 280 ⟨1,false,.fn,[.nilFunc]⟩ (.aj 274 ⟨1,false,.fn,[.nilFunc]⟩ (.aj 271 ⟨1,false,.fn,[.nilFunc]⟩ (.aj 270 ⟨1,false,.fn,[.nilFunc]⟩ (.aj 268 ⟨1,false,.fn,[.nilFunc]⟩ (.nil) (.nil)) (.nil)) (.aj 273 ⟨1,false,.fn,[.nilFunc]⟩ (.aj 272 ⟨1,false,.fn,[.nilFunc]⟩ (.nil) (.nil)) (.nil))) (.aj 277 ⟨1,false,.fn,[.nilFunc]⟩ (.aj 276 ⟨1,false,.fn,[.nilFunc]⟩ (.aj 275 ⟨1,false,.fn,[.nilFunc]⟩ (.nil) (.nil)) (.nil)) (.aj 279 ⟨1,false,.fn,[.nilFunc]⟩ (.aj 278 ⟨1,false,.fn,[.nilFunc]⟩ (.nil) (.nil)) (.nil)))) (.aj 286 ⟨1,false,.fn,[.nilFunc]⟩ (.aj 283 ⟨2,true,.st [(0,79),(1,96)],[.slice none 0 0,.slice none 0 0]⟩ (.aj 282 ⟨1,false,.fn,[.nilFunc]⟩ (.aj 281 ⟨1,false,.fn,[.nilFunc]⟩ (.nil) (.nil)) (.nil)) (.aj 285 ⟨2,true,.ar 2 1,[.int .i64 0,.int .i64 0]⟩ (.aj 284 ⟨2,true,.st [(0,79),(1,96)],[.slice none 0 0,.slice none 0 0]⟩ (.nil) (.nil)) (.nil))) (.aj 290 ⟨1,false,.int .u64,[.int .u64 0]⟩ (.aj 289 ⟨1,false,.fn,[.nilFunc]⟩ (.aj 288 ⟨1,false,.fn,[.nilFunc]⟩ (.nil) (.nil)) (.nil)) (.aj 292 ⟨1,false,.fn,[.nilFunc]⟩ (.aj 291 ⟨20,true,.ar 20 1,[.int .u8 0,.int .u8 0,.int .u8 0,.int .u8 0,.int .u8 0,.int .u8 0,.int .u8 0,.int .u8 0,.int .u8 0,.int .u8 0,.int .u8 0,.int .u8 0,.int .u8 0,.int .u8 0,.int .u8 0,.int .u8 0,.int .u8 0,.int .u8 0,.int .u8 0,.int .u8 0]⟩ (.nil) (.nil)) (.nil))))) (.aj 306 ⟨1,false,.fn,[.nilFunc]⟩ (.aj 299 ⟨1,false,.fn,[.nilFunc]⟩ (.aj 296 ⟨1,false,.fn,[.nilFunc]⟩ (.aj 295 ⟨1,true,.st [(0,293)],[.slice none 0 0]⟩ (.aj 294 ⟨1,true,.st [(0,293)],[.slice none 0 0]⟩ (.nil) (.nil)) (.nil)) (.aj 298 ⟨1,false,.fn,[.nilFunc]⟩ (.aj 297 ⟨1,false,.fn,[.nilFunc]⟩ (.nil) (.nil)) (.nil))) (.aj 302 ⟨1,false,.fn,[.nilFunc]⟩ (.aj 301 ⟨1,false,.ptr 70,[.pointer none]⟩ (.aj 300 ⟨1,false,.fn,[.nilFunc]⟩ (.nil) (.nil)) (.nil)) (.aj 305 ⟨1,false,.fn,[.nilFunc]⟩ (.aj 304 ⟨1,false,.fn,[.nilFunc]⟩ (.nil) (.nil)) (.nil)))) (.aj 312 ⟨1,false,.fn,[.nilFunc]⟩ (.aj 309 ⟨1,false,.fn,[.nilFunc]⟩ (.aj 308 ⟨1,false,.fn,[.nilFunc]⟩ (.aj 307 ⟨1,false,.fn,[.nilFunc]⟩ (.nil) (.nil)) (.nil)) (.aj 311 ⟨1,false,.fn,[.nilFunc]⟩ (.aj 310 ⟨1,false,.fn,[.nilFunc]⟩ (.nil) (.nil)) (.nil))) (.aj 316 ⟨1,false,.fn,[.nilFunc]⟩ (.aj 314 ⟨1,false,.fn,[.nilFunc]⟩ (.aj 313 ⟨1,false,.fn,[.nilFunc]⟩ (.nil) (.nil)) (.nil)) (.aj 318 ⟨1,false,.ptr 36,[.pointer none]⟩ (.aj 317 ⟨1,false,.fn,[.nilFunc]⟩ (.nil) (.nil)) (.nil))))))) (.aj 376 ⟨1,false,.int .i64,[.int .i64 0]⟩ (.aj 351 ⟨1,false,.fn,[.nilFunc]⟩ (.aj 334 ⟨1,false,.fn,[.nilFunc]⟩ (.aj 325 ⟨1,false,.sl 365 2 8,[.slice none 0 0]⟩ (.aj 322 ⟨1,false,.fn,[.nilFunc]⟩ (.aj 321 ⟨1,false,.fn,[.nilFunc]⟩ (.aj 320 ⟨1,false,.fn,[.nilFunc]⟩ (.nil) (.nil)) (.nil)) (.aj 324 ⟨1,false,.fn,[.nilFunc]⟩ (.aj 323 ⟨1,false,.fn,[.nilFunc]⟩ (.nil) (.nil)) (.nil))) (.aj 329 ⟨1,false,.fn,[.nilFunc]⟩ (.aj 327 ⟨1,false,.fn,[.nilFunc]⟩ (.aj 326 ⟨1,false,.fn,[.nilFunc]⟩ (.nil) (.nil)) (.nil)) (.aj 332 ⟨1,false,.fn,[.nilFunc]⟩ (.aj 331 ⟨1,false,.fn,[.nilFunc]⟩ (.nil) (.nil)) (.nil)))) (.aj 343 ⟨1,false,.int .u64,[.int .u64 0]⟩ (.aj 340 ⟨1,false,.fn,[.nilFunc]⟩ (.aj 338 ⟨1,false,.fn,[.nilFunc]⟩ (.aj 336 ⟨1,false,.fn,[.nilFunc]⟩ (.nil) (.nil)) (.nil)) (.aj 342 ⟨1,false,.fn,[.nilFunc]⟩ (.aj 341 ⟨1,false,.fn,[.nilFunc]⟩ (.nil) (.nil)) (.nil))) (.aj 346 ⟨1,false,.int .u64,[.int .u64 0]⟩ (.aj 345 ⟨1,false,.fn,[.nilFunc]⟩ (.aj 344 ⟨1,false,.fn,[.nilFunc]⟩ (.nil) (.nil)) (.nil)) (.aj 350 ⟨1,false,.fn,[.nilFunc]⟩ (.aj 349 ⟨1,false,.fn,[.nilFunc]⟩ (.nil) (.nil)) (.nil))))) (.aj 363 ⟨4,true,.ar 4 1,[.int .i64 0,.int .i64 0,.int .i64 0,.int .i64 0]⟩ (.aj 357 ⟨1,false,.fn,[.nilFunc]⟩ (.aj 354 ⟨2,true,.st [(0,272),(1,350)],[.nilFunc,.nilFunc]⟩ (.aj 353 ⟨1,false,.fn,[.nilFunc]⟩ (.aj 352 ⟨1,false,.fn,[.nilFunc]⟩ (.nil) (.nil)) (.nil)) (.aj 356 ⟨1,false,.fn,[.nilFunc]⟩ (.aj 355 ⟨2,true,.st [(0,272),(1,350)],[.nilFunc,.nilFunc]⟩ (.nil) (.nil)) (.nil))) (.aj 360 ⟨1,false,.fn,[.nilFunc]⟩ (.aj 359 ⟨1,false,.fn,[.nilFunc]⟩ (.aj 358 ⟨1,false,.fn,[.nilFunc]⟩ (.nil) (.nil)) (.nil)) (.aj 362 ⟨1,false,.fn,[.nilFunc]⟩ (.aj 361 ⟨1,false,.fn,[.nilFunc]⟩ (.nil) (.nil)) (.nil)))) (.aj 370 ⟨1,true,.st [(0,17)],[.pointer none]⟩ (.aj 366 ⟨1,false,.fn,[.nilFunc]⟩ (.aj 365 ⟨2,true,.st [(0,21),(1,21)],[.int .i32 0,.int .i32 0]⟩ (.aj 364 ⟨2,true,.st [(0,21),(1,21)],[.int .i32 0,.int .i32 0]⟩ (.nil) (.nil)) (.nil)) (.aj 369 ⟨1,false,.fn,[.nilFunc]⟩ (.aj 368 ⟨1,false,.fn,[.nilFunc]⟩ (.nil) (.nil)) (.nil))) (.aj 373 ⟨1,false,.fn,[.nilFunc]⟩ (.aj 372 ⟨1,false,.ptr 430,[.pointer none]⟩ (.aj 371 ⟨1,true,.st [(0,17)],[.pointer none]⟩ (.nil) (.nil)) (.nil)) (.aj 375 ⟨1,false,.fn,[.nilFunc]⟩ (.aj 374 ⟨1,false,.int .u32,[.int .u32 0]⟩ (.nil) (.nil)) (.nil)))))) (.aj 405 ⟨1,false,.fn,[.nilFunc]⟩ (.aj 392 ⟨1,false,.ptr 133,[.pointer none]⟩ (.aj 384 ⟨1,false,.fn,[.nilFunc]⟩ (.aj 380 ⟨1,false,.fn,[.nilFunc]⟩ (.aj 379 ⟨1,false,.fn,[.nilFunc]⟩ (.aj 378 ⟨1,false,.fn,[.nilFunc]⟩ (.nil) (.nil)) (.nil)) (.aj 383 ⟨1,false,.fn,[.nilFunc]⟩ (.aj 381 ⟨1,false,.fn,[.nilFunc]⟩ (.nil) (.nil)) (.nil))) (.aj 388 ⟨1,false,.fn,[.nilFunc]⟩ (.aj 386 ⟨1,false,.fn,[.nilFunc]⟩ (.aj 385 ⟨1,false,.fn,[.nilFunc]⟩ (.nil) (.nil)) (.nil)) (.aj 391 ⟨1,false,.fn,[.nilFunc]⟩ (.aj 390 ⟨1,false,.fn,[.nilFunc]⟩ (.nil) (.nil)) (.nil)))) (.aj 398 ⟨1,false,.ptr 3,[.pointer none]⟩ (.aj 395 ⟨1,false,.fn,[.nilFunc]⟩ (.aj 394 ⟨1,false,.int .u64,[.int .u64 0]⟩ (.aj 393 ⟨1,false,.fn,[.nilFunc]⟩ (.nil) (.nil)) (.nil)) (.aj 397 ⟨1,false,.fn,[.nilFunc]⟩ (.aj 396 ⟨1,false,.fn,[.nilFunc]⟩ (.nil) (.nil)) (.nil))) (.aj 401 ⟨1,false,.sl 414 2 8,[.slice none 0 0]⟩ (.aj 400 ⟨1,false,.fn,[.nilFunc]⟩ (.aj 399 ⟨1,false,.fn,[.nilFunc]⟩ (.nil) (.nil)) (.nil)) (.aj 404 ⟨1,false,.fn,[.nilFunc]⟩ (.aj 402 ⟨1,false,.fn,[.nilFunc]⟩ (.nil) (.nil)) (.nil))))) (.aj 418 ⟨4,true,.st [(0,17),(1,17),(2,17),(3,9)],[.pointer none,.pointer none,.pointer none,.string ByteArray.empty]⟩ (.aj 412 ⟨1,false,.fn,[.nilFunc]⟩ (.aj 408 ⟨1,false,.fn,[.nilFunc]⟩ (.aj 407 ⟨1,false,.fn,[.nilFunc]⟩ (.aj 406 ⟨1,false,.fn,[.nilFunc]⟩ (.nil) (.nil)) (.nil)) (.aj 411 ⟨1,false,.ptr 394,[.pointer none]⟩ (.aj 410 ⟨1,false,.fn,[.nilFunc]⟩ (.nil) (.nil)) (.nil))) (.aj 415 ⟨1,false,.fn,[.nilFunc]⟩ (.aj 414 ⟨2,true,.st [(0,21),(1,21)],[.int .i32 0,.int .i32 0]⟩ (.aj 413 ⟨2,true,.st [(0,21),(1,21)],[.int .i32 0,.int .i32 0]⟩ (.nil) (.nil)) (.nil)) (.aj 417 ⟨4,true,.st [(0,17),(1,17),(2,17),(3,9)],[.pointer none,.pointer none,.pointer none,.string ByteArray.empty]⟩ (.aj 416 ⟨1,false,.fn,[.nilFunc]⟩ (.nil) (.nil)) (.nil)))) (.aj 426 ⟨1,false,.int .i32,[.int .i32 0]⟩ (.aj 423 ⟨1,false,.int .u8,[.int .u8 0]⟩ (.aj 422 ⟨1,false,.int .u8,[.int .u8 0]⟩ (.aj 419 ⟨0,true,.ar 0 1,[]⟩ (.nil) (.nil)) (.nil)) (.aj 425 ⟨1,false,.int .i32,[.int .i32 0]⟩ (.aj 424 ⟨1,false,.fn,[.nilFunc]⟩ (.nil) (.nil)) (.nil))) (.aj 429 ⟨2,true,.st [(0,9),(1,423)],[.string ByteArray.empty,.int .u8 0]⟩ (.aj 428 ⟨11,true,.st [(0,12),(1,12),(2,374),(3,422),(4,5),(5,5),(6,423),(7,424),(8,199),(9,425),(10,426)],[.int .u64 0,.int .u64 0,.int .u32 0,.int .u8 0,.int .u8 0,.int .u8 0,.int .u8 0,.nilFunc,.pointer none,.int .i32 0,.int .i32 0]⟩ (.aj 427 ⟨11,true,.st [(0,12),(1,12),(2,374),(3,422),(4,5),(5,5),(6,423),(7,424),(8,199),(9,425),(10,426)],[.int .u64 0,.int .u64 0,.int .u32 0,.int .u8 0,.int .u8 0,.int .u8 0,.int .u8 0,.nilFunc,.pointer none,.int .i32 0,.int .i32 0]⟩ (.nil) (.nil)) (.nil)) (.aj 430 ⟨2,true,.st [(0,9),(1,423)],[.string ByteArray.empty,.int .u8 0]⟩ (.nil) (.nil))))))))
theorem xq:tt.ok Tryz.prog=true:=by decide +kernel
theorem mo:Tryz.prog.follows .mixedOrders=true:=rfl
end Dv
end Go.Proofs.YtfdedoiiahbnnaaGreat
namespace Go.Proofs.YtfdedoiiahbnnaaGreat
namespace Dv
open Go
theorem eG {f:FuncId} {fn:Func} {c:Code} {args:List DV} {os:List (List DV)} {dh:List TkE} {Φ:DV->List (List DV)->List TkE->Prop} (nt:Nat) (rs:List ResultVar)
 (hf:Tryz.prog.funcs[f]? = some fn) (hb:fn.body=some c) (J7:fn.ntmps=nt) (ti:fn.results.toList=rs)
 (h:∀ (E:En) (w:World) (hn:E.β.length=os.length) (hm:E.tk.length=dh.length),go ⟨Tryz.prog,tt,xq,fn,nt,rs,ti,w,E,os.length,dh.length,hn,hm,false,Φ,[],[],false⟩ 5000 [.code c] ⟨argSl 0 args,os,dh⟩) (hlen:args.length<=nt:=by exact Nat.le_of_ble_eq_true rfl):Ev Tryz.prog f args os dh Φ:=adN tt xq 5000 nt rs hf hb J7 ti hlen h
theorem cP {X:Ctx} {st:St} {k:List It} {f:FuncId} {args bO:List DV} {d:Nat} {r:DV} (gY:Enters X.P f) (hc:aR X.P f bO r) (hk:go X 4000 k ⟨(d,⟨[],r⟩) :: st.sl,st.bx,st.tk⟩) (ha:CcL [] 0 0 0 bO args:=by exact ax) (hd:fU X.nt st.sl (some d)=true:=by exact rfl) (hst:X.still=false:=by exact rfl):CallG X f args (some d) k st:=Ru gY hc ha hd hk hst
theorem cD {X:Ctx} {st:St} {c:Bool} {s0:List (Nat×Sl)} {D:Dr} {i:Nat} {f:FuncId} {args bO:List DV} {d:Nat} {r:List (Nat×Oper)} {Ke:DV} (gY:Enters X.P f) (hc:aR X.P f bO Ke) (hk:put2 s0 st (some d) false [] Ke (goD X D 3000 c r)) (ha:CcL [] 0 0 0 bO args:=by exact ax) (hd:(fU X.nt st.sl (some d) && fU X.nt s0 (some d))=true:=by exact rfl) (hst:X.still=false:=by exact rfl):CI X D c i r f args (some d) s0 st:=Wh gY hc ha hd hk hst
theorem dI {X:Ctx} {st:St} {k:List It} {id:Nat} {ops:Array Oper} (h:goD X ⟨ops,fun _=>false,k,st,none⟩ 3000 true (nOps 0 ops.toList) st.sl st) (hm:X.P.follows .mixedOrders=true:=by exact mo) (hc:Ka ops (fun _=>false)=true:=by decide +kernel):xi X id ops k st:=EZ _ hm hc h
theorem dS {X:Ctx} {st:St} {k:List It} {id:Nat} {ops:Array Oper} (h:goD X ⟨ops,stW ops,k,st,none⟩ 3000 true (nOps 0 ops.toList) st.sl st) (hm:X.P.follows .mixedOrders=true:=by exact mo) (hc:Ka ops (stW ops)=true:=by decide +kernel):xi X id ops k st:=Wg hm hc h
end Dv
end Go.Proofs.YtfdedoiiahbnnaaGreat
set_option maxRecDepth 100000
namespace Go.Proofs.YtfdedoiiahbnnaaGreat
open Go Go.RowKit Dv Go.Proofs.Tryz
theorem aaP:Enters prog 10:=enters_of func10 (by decide +kernel) rfl
theorem aaQ:Enters prog 11:=enters_of func11 (by decide +kernel) rfl
theorem en12:Enters prog 12:=enters_of func12 (by decide +kernel) rfl
theorem en13:Enters prog 13:=enters_of func13 (by decide +kernel) rfl
theorem ad7:Enters prog 15:=enters_of func15 (by decide +kernel) rfl
theorem en16:Enters prog 16:=enters_of func16 (by decide +kernel) rfl
theorem ad8:Enters prog 20:=enters_of func20 (by decide +kernel) rfl
theorem RL:Enters prog 22:=enters_of func22 (by decide +kernel) rfl
theorem en23:Enters prog 23:=enters_of func23 (by decide +kernel) rfl
theorem en26:Enters prog 26:=enters_of func26 (by decide +kernel) rfl
theorem Wo:Enters prog 35:=enters_of func35 (by decide +kernel) rfl
theorem ad9:Enters prog 37:=enters_of func37 (by decide +kernel) rfl
theorem Wp:Enters prog 38:=enters_of func38 (by decide +kernel) rfl
theorem aea:Enters prog 39:=enters_of func39 (by decide +kernel) rfl
theorem en40:Enters prog 40:=enters_of func40 (by decide +kernel) rfl
theorem en41:Enters prog 41:=enters_of func41 (by decide +kernel) rfl
theorem en42:Enters prog 42:=enters_of func42 (by decide +kernel) rfl
theorem en43:Enters prog 43:=enters_of func43 (by decide +kernel) rfl
theorem en44:Enters prog 44:=enters_of func44 (by decide +kernel) rfl
theorem en45:Enters prog 45:=enters_of func45 (by decide +kernel) rfl
theorem en46:Enters prog 46:=enters_of func46 (by decide +kernel) rfl
theorem aeb:Enters prog 47:=enters_of func47 (by decide +kernel) rfl
theorem aaR:Enters prog 49:=enters_of func49 (by decide +kernel) rfl
theorem aec:Enters prog 50:=enters_of func50 (by decide +kernel) rfl
theorem Wq:Enters prog 51:=enters_of func51 (by decide +kernel) rfl
theorem en52:Enters prog 52:=enters_of func52 (by decide +kernel) rfl
theorem aed:Enters prog 53:=enters_of func53 (by decide +kernel) rfl
theorem en54:Enters prog 54:=enters_of func54 (by decide +kernel) rfl
theorem aee:Enters prog 60:=enters_of func60 (by decide +kernel) rfl
theorem en61:Enters prog 61:=enters_of func61 (by decide +kernel) rfl
theorem en62:Enters prog 62:=enters_of func62 (by decide +kernel) rfl
theorem aef:Enters prog 63:=enters_of func63 (by decide +kernel) rfl
theorem aeg:Enters prog 64:=enters_of func64 (by decide +kernel) rfl
theorem aaS:Enters prog 65:=enters_of func65 (by decide +kernel) rfl
theorem en66:Enters prog 66:=enters_of func66 (by decide +kernel) rfl
theorem en67:Enters prog 67:=enters_of func67 (by decide +kernel) rfl
theorem Wr:Enters prog 68:=enters_of func68 (by decide +kernel) rfl
theorem Ki:Enters prog 82:=enters_of func82 (by decide +kernel) rfl
theorem en84:Enters prog 84:=enters_of func84 (by decide +kernel) rfl
theorem aeh:Enters prog 85:=enters_of func85 (by decide +kernel) rfl
theorem en86:Enters prog 86:=enters_of func86 (by decide +kernel) rfl
theorem en87:Enters prog 87:=enters_of func87 (by decide +kernel) rfl
theorem en89:Enters prog 89:=enters_of func89 (by decide +kernel) rfl
theorem en91:Enters prog 91:=enters_of func91 (by decide +kernel) rfl
theorem aaT:Enters prog 94:=enters_of func94 (by decide +kernel) rfl
theorem aei:Enters prog 95:=enters_of func95 (by decide +kernel) rfl
theorem yg:Enters prog 96:=enters_of func96 (by decide +kernel) rfl
theorem gI:Enters prog 97:=enters_of func97 (by decide +kernel) rfl
theorem en98:Enters prog 98:=enters_of func98 (by decide +kernel) rfl
theorem aej:Enters prog 99:=enters_of func99 (by decide +kernel) rfl
theorem Yy:Enters prog 100:=enters_of func100 (by decide +kernel) rfl
theorem aek:Enters prog 101:=enters_of func101 (by decide +kernel) rfl
theorem ael:Enters prog 102:=enters_of func102 (by decide +kernel) rfl
theorem aem:Enters prog 103:=enters_of func103 (by decide +kernel) rfl
theorem aen:Enters prog 104:=enters_of func104 (by decide +kernel) rfl
theorem aeo:Enters prog 105:=enters_of func105 (by decide +kernel) rfl
theorem RM:Enters prog 106:=enters_of func106 (by decide +kernel) rfl
theorem RN:Enters prog 107:=enters_of func107 (by decide +kernel) rfl
theorem RO:Enters prog 108:=enters_of func108 (by decide +kernel) rfl
theorem aep:Enters prog 109:=enters_of func109 (by decide +kernel) rfl
theorem RP:Enters prog 110:=enters_of func110 (by decide +kernel) rfl
theorem aeq:Enters prog 111:=enters_of func111 (by decide +kernel) rfl
theorem pH:Enters prog 112:=enters_of func112 (by decide +kernel) rfl
theorem aer:Enters prog 113:=enters_of func113 (by decide +kernel) rfl
theorem aes:Enters prog 114:=enters_of func114 (by decide +kernel) rfl
theorem Yz:Enters prog 115:=enters_of func115 (by decide +kernel) rfl
theorem MQ:Enters prog 116:=enters_of func116 (by decide +kernel) rfl
theorem aet:Enters prog 123:=enters_of func123 (by decide +kernel) rfl
theorem YA:Enters prog 124:=enters_of func124 (by decide +kernel) rfl
theorem RQ:Enters prog 125:=enters_of func125 (by decide +kernel) rfl
theorem YB:Enters prog 126:=enters_of func126 (by decide +kernel) rfl
theorem aeu:Enters prog 127:=enters_of func127 (by decide +kernel) rfl
theorem YC:Enters prog 128:=enters_of func128 (by decide +kernel) rfl
theorem YD:Enters prog 129:=enters_of func129 (by decide +kernel) rfl
theorem aev:Enters prog 130:=enters_of func130 (by decide +kernel) rfl
theorem RR:Enters prog 131:=enters_of func131 (by decide +kernel) rfl
theorem YE:Enters prog 132:=enters_of func132 (by decide +kernel) rfl
theorem Hl:Enters prog 133:=enters_of func133 (by decide +kernel) rfl
theorem en134:Enters prog 134:=enters_of func134 (by decide +kernel) rfl
theorem YF:Enters prog 135:=enters_of func135 (by decide +kernel) rfl
theorem aew:Enters prog 136:=enters_of func136 (by decide +kernel) rfl
theorem MR:Enters prog 138:=enters_of func138 (by decide +kernel) rfl
theorem jx:Enters prog 139:=enters_of func139 (by decide +kernel) rfl
theorem xr:Enters prog 154:=enters_of func154 (by decide +kernel) rfl
theorem RT:Enters prog 156:=enters_of func156 (by decide +kernel) rfl
theorem aex:Enters prog 157:=enters_of func157 (by decide +kernel) rfl
theorem Hm:Enters prog 158:=enters_of func158 (by decide +kernel) rfl
theorem gj:Enters prog 159:=enters_of func159 (by decide +kernel) rfl
theorem Hn:Enters prog 160:=enters_of func160 (by decide +kernel) rfl
theorem aey:Enters prog 161:=enters_of func161 (by decide +kernel) rfl
theorem pe:Enters prog 162:=enters_of func162 (by decide +kernel) rfl
theorem gL:Enters prog 163:=enters_of func163 (by decide +kernel) rfl
theorem aez:Enters prog 164:=enters_of func164 (by decide +kernel) rfl
theorem aeA:Enters prog 165:=enters_of func165 (by decide +kernel) rfl
theorem tO:Enters prog 166:=enters_of func166 (by decide +kernel) rfl
theorem Ho:Enters prog 167:=enters_of func167 (by decide +kernel) rfl
theorem zF:Enters prog 168:=enters_of func168 (by decide +kernel) rfl
theorem MS:Enters prog 170:=enters_of func170 (by decide +kernel) rfl
theorem aeB:Enters prog 171:=enters_of func171 (by decide +kernel) rfl
theorem RU:Enters prog 172:=enters_of func172 (by decide +kernel) rfl
theorem Hp:Enters prog 173:=enters_of func173 (by decide +kernel) rfl
theorem RV:Enters prog 174:=enters_of func174 (by decide +kernel) rfl
theorem MT:Enters prog 175:=enters_of func175 (by decide +kernel) rfl
theorem YG:Enters prog 176:=enters_of func176 (by decide +kernel) rfl
theorem eF:Enters prog 177:=enters_of func177 (by decide +kernel) rfl
theorem MU:Enters prog 178:=enters_of func178 (by decide +kernel) rfl
theorem rA:Enters prog 179:=enters_of func179 (by decide +kernel) rfl
theorem pI:Enters prog 180:=enters_of func180 (by decide +kernel) rfl
theorem aeC:Enters prog 181:=enters_of func181 (by decide +kernel) rfl
theorem pJ:Enters prog 182:=enters_of func182 (by decide +kernel) rfl
theorem ni:Enters prog 183:=enters_of func183 (by decide +kernel) rfl
theorem MV:Enters prog 184:=enters_of func184 (by decide +kernel) rfl
theorem aeD:Enters prog 185:=enters_of func185 (by decide +kernel) rfl
theorem aeE:Enters prog 186:=enters_of func186 (by decide +kernel) rfl
theorem MW:Enters prog 187:=enters_of func187 (by decide +kernel) rfl
theorem zG:Enters prog 188:=enters_of func188 (by decide +kernel) rfl
theorem aeF:Enters prog 189:=enters_of func189 (by decide +kernel) rfl
theorem aeG:Enters prog 190:=enters_of func190 (by decide +kernel) rfl
theorem YH:Enters prog 191:=enters_of func191 (by decide +kernel) rfl
theorem RW:Enters prog 192:=enters_of func192 (by decide +kernel) rfl
theorem iK:Enters prog 193:=enters_of func193 (by decide +kernel) rfl
theorem aeH:Enters prog 194:=enters_of func194 (by decide +kernel) rfl
theorem YI:Enters prog 195:=enters_of func195 (by decide +kernel) rfl
theorem RX:Enters prog 196:=enters_of func196 (by decide +kernel) rfl
theorem aeI:Enters prog 197:=enters_of func197 (by decide +kernel) rfl
theorem YJ:Enters prog 198:=enters_of func198 (by decide +kernel) rfl
theorem CM:Enters prog 199:=enters_of func199 (by decide +kernel) rfl
theorem YK:Enters prog 200:=enters_of func200 (by decide +kernel) rfl
theorem YL:Enters prog 201:=enters_of func201 (by decide +kernel) rfl
theorem aeJ:Enters prog 202:=enters_of func202 (by decide +kernel) rfl
theorem aeK:Enters prog 206:=enters_of func206 (by decide +kernel) rfl
theorem RY:Enters prog 208:=enters_of func208 (by decide +kernel) rfl
theorem aeL:Enters prog 209:=enters_of func209 (by decide +kernel) rfl
theorem aeM:Enters prog 210:=enters_of func210 (by decide +kernel) rfl
theorem RZ:Enters prog 211:=enters_of func211 (by decide +kernel) rfl
theorem Hq:Enters prog 212:=enters_of func212 (by decide +kernel) rfl
theorem R0:Enters prog 213:=enters_of func213 (by decide +kernel) rfl
theorem YM:Enters prog 214:=enters_of func214 (by decide +kernel) rfl
theorem aeN:Enters prog 215:=enters_of func215 (by decide +kernel) rfl
theorem aeO:Enters prog 216:=enters_of func216 (by decide +kernel) rfl
theorem aeP:Enters prog 217:=enters_of func217 (by decide +kernel) rfl
theorem MX:Enters prog 218:=enters_of func218 (by decide +kernel) rfl
theorem dw:Enters prog 220:=enters_of func220 (by decide +kernel) rfl
theorem Hr:Enters prog 225:=enters_of func225 (by decide +kernel) rfl
theorem YN:Enters prog 235:=enters_of func235 (by decide +kernel) rfl
theorem aeQ:Enters prog 236:=enters_of func236 (by decide +kernel) rfl
theorem eX:Enters prog 237:=enters_of func237 (by decide +kernel) rfl
theorem aeR:Enters prog 238:=enters_of func238 (by decide +kernel) rfl
theorem aeS:Enters prog 239:=enters_of func239 (by decide +kernel) rfl
theorem YO:Enters prog 240:=enters_of func240 (by decide +kernel) rfl
theorem YP:Enters prog 241:=enters_of func241 (by decide +kernel) rfl
theorem zH:Enters prog 242:=enters_of func242 (by decide +kernel) rfl
theorem YQ:Enters prog 243:=enters_of func243 (by decide +kernel) rfl
theorem R4:Enters prog 244:=enters_of func244 (by decide +kernel) rfl
theorem CN:Enters prog 245:=enters_of func245 (by decide +kernel) rfl
theorem xu:Enters prog 246:=enters_of func246 (by decide +kernel) rfl
theorem YR:Enters prog 247:=enters_of func247 (by decide +kernel) rfl
theorem Hs:Enters prog 248:=enters_of func248 (by decide +kernel) rfl
theorem YS:Enters prog 249:=enters_of func249 (by decide +kernel) rfl
theorem YT:Enters prog 250:=enters_of func250 (by decide +kernel) rfl
theorem YU:Enters prog 251:=enters_of func251 (by decide +kernel) rfl
theorem R5:Enters prog 252:=enters_of func252 (by decide +kernel) rfl
theorem R6:Enters prog 253:=enters_of func253 (by decide +kernel) rfl
theorem R7:Enters prog 254:=enters_of func254 (by decide +kernel) rfl
theorem aeT:Enters prog 255:=enters_of func255 (by decide +kernel) rfl
theorem MY:Enters prog 256:=enters_of func256 (by decide +kernel) rfl
theorem aeU:Enters prog 257:=enters_of func257 (by decide +kernel) rfl
theorem aeV:Enters prog 258:=enters_of func258 (by decide +kernel) rfl
theorem aeW:Enters prog 259:=enters_of func259 (by decide +kernel) rfl
theorem YV:Enters prog 260:=enters_of func260 (by decide +kernel) rfl
theorem aeX:Enters prog 261:=enters_of func261 (by decide +kernel) rfl
theorem aeY:Enters prog 262:=enters_of func262 (by decide +kernel) rfl
theorem aeZ:Enters prog 263:=enters_of func263 (by decide +kernel) rfl
theorem c9:Enters prog 264:=enters_of func264 (by decide +kernel) rfl
theorem zI:Enters prog 265:=enters_of func265 (by decide +kernel) rfl
theorem R8:Enters prog 266:=enters_of func266 (by decide +kernel) rfl
theorem YW:Enters prog 267:=enters_of func267 (by decide +kernel) rfl
theorem pK:Enters prog 268:=enters_of func268 (by decide +kernel) rfl
theorem R9:Enters prog 269:=enters_of func269 (by decide +kernel) rfl
theorem ae0:Enters prog 270:=enters_of func270 (by decide +kernel) rfl
theorem ae1:Enters prog 271:=enters_of func271 (by decide +kernel) rfl
theorem ae2:Enters prog 272:=enters_of func272 (by decide +kernel) rfl
theorem YX:Enters prog 273:=enters_of func273 (by decide +kernel) rfl
theorem YY:Enters prog 284:=enters_of func284 (by decide +kernel) rfl
theorem YZ:Enters prog 285:=enters_of func285 (by decide +kernel) rfl
theorem ae3:Enters prog 286:=enters_of func286 (by decide +kernel) rfl
theorem ae4:Enters prog 287:=enters_of func287 (by decide +kernel) rfl
theorem Sa:Enters prog 288:=enters_of func288 (by decide +kernel) rfl
theorem Y0:Enters prog 289:=enters_of func289 (by decide +kernel) rfl
theorem MZ:Enters prog 290:=enters_of func290 (by decide +kernel) rfl
theorem Y1:Enters prog 291:=enters_of func291 (by decide +kernel) rfl
theorem ae5:Enters prog 292:=enters_of func292 (by decide +kernel) rfl
theorem ae6:Enters prog 293:=enters_of func293 (by decide +kernel) rfl
theorem CO:Enters prog 294:=enters_of func294 (by decide +kernel) rfl
theorem Sb:Enters prog 295:=enters_of func295 (by decide +kernel) rfl
theorem ae7:Enters prog 296:=enters_of func296 (by decide +kernel) rfl
theorem Y2:Enters prog 297:=enters_of func297 (by decide +kernel) rfl
theorem ae8:Enters prog 298:=enters_of func298 (by decide +kernel) rfl
theorem ae9:Enters prog 299:=enters_of func299 (by decide +kernel) rfl
theorem Y3:Enters prog 300:=enters_of func300 (by decide +kernel) rfl
theorem afa:Enters prog 301:=enters_of func301 (by decide +kernel) rfl
theorem afb:Enters prog 302:=enters_of func302 (by decide +kernel) rfl
theorem Y4:Enters prog 303:=enters_of func303 (by decide +kernel) rfl
theorem afc:Enters prog 304:=enters_of func304 (by decide +kernel) rfl
theorem afd:Enters prog 305:=enters_of func305 (by decide +kernel) rfl
theorem Y5:Enters prog 306:=enters_of func306 (by decide +kernel) rfl
theorem Ht:Enters prog 327:=enters_of func327 (by decide +kernel) rfl
theorem afe:Enters prog 328:=enters_of func328 (by decide +kernel) rfl
theorem aff:Enters prog 329:=enters_of func329 (by decide +kernel) rfl
theorem afg:Enters prog 330:=enters_of func330 (by decide +kernel) rfl
theorem afh:Enters prog 331:=enters_of func331 (by decide +kernel) rfl
theorem afi:Enters prog 332:=enters_of func332 (by decide +kernel) rfl
theorem Y6:Enters prog 333:=enters_of func333 (by decide +kernel) rfl
theorem Sc:Enters prog 334:=enters_of func334 (by decide +kernel) rfl
theorem Sd:Enters prog 335:=enters_of func335 (by decide +kernel) rfl
theorem M0:Enters prog 336:=enters_of func336 (by decide +kernel) rfl
theorem CP:Enters prog 337:=enters_of func337 (by decide +kernel) rfl
theorem Y7:Enters prog 338:=enters_of func338 (by decide +kernel) rfl
theorem Y8:Enters prog 339:=enters_of func339 (by decide +kernel) rfl
theorem zJ:Enters prog 340:=enters_of func340 (by decide +kernel) rfl
theorem Y9:Enters prog 341:=enters_of func341 (by decide +kernel) rfl
theorem M1:Enters prog 347:=enters_of func347 (by decide +kernel) rfl
theorem afj:Enters prog 348:=enters_of func348 (by decide +kernel) rfl
theorem afk:Enters prog 349:=enters_of func349 (by decide +kernel) rfl
theorem afl:Enters prog 350:=enters_of func350 (by decide +kernel) rfl
theorem afm:Enters prog 351:=enters_of func351 (by decide +kernel) rfl
theorem afn:Enters prog 352:=enters_of func352 (by decide +kernel) rfl
theorem afo:Enters prog 353:=enters_of func353 (by decide +kernel) rfl
theorem M3:Enters prog 354:=enters_of func354 (by decide +kernel) rfl
theorem afp:Enters prog 355:=enters_of func355 (by decide +kernel) rfl
theorem CQ:Enters prog 356:=enters_of func356 (by decide +kernel) rfl
theorem M4:Enters prog 357:=enters_of func357 (by decide +kernel) rfl
theorem M5:Enters prog 358:=enters_of func358 (by decide +kernel) rfl
theorem M6:Enters prog 359:=enters_of func359 (by decide +kernel) rfl
theorem afq:Enters prog 362:=enters_of func362 (by decide +kernel) rfl
theorem afr:Enters prog 363:=enters_of func363 (by decide +kernel) rfl
theorem afs:Enters prog 364:=enters_of func364 (by decide +kernel) rfl
theorem CR:Enters prog 365:=enters_of func365 (by decide +kernel) rfl
end Go.Proofs.YtfdedoiiahbnnaaGreat
namespace Go.Proofs.YtfdedoiiahbnnaaGreat
open Go Go.RowKit Dv
structure Wd where
 s:ByteArray
 a:Int
structure Hd where
 ay:Int
 cT:Int
 lo:Int
 hi:Int
 most:Int
 ag:List Wd
 name:Wd
structure Ph where
 name:Wd
 bare:Bool
 label:List Wd
 wide:Int
 ck:Int
 cn:Int
 ca:Int
 cl:List Wd
mutual
inductive Ty where
 | mk (h:Hd) (ps:Pts)
inductive Pts where
 | nil
 | cons (p:Ph) (t:Ty) (r:Pts)
end
def Ty.h:Ty->Hd | .mk h _=>h
def Ty.ps:Ty->Pts | .mk _ ps=>ps
def Pts.toList:Pts->List (Ph × Ty)
 | .nil=>[]
 | .cons p t r=>(p,t) :: r.toList
def Pts.len:Pts->Nat
 | .nil=>0
 | .cons _ _ r=>r.len + 1
theorem Pts.Se:∀ ps:Pts,ps.len=ps.toList.length
 | .nil=>rfl
 | .cons _ _ r=>by simp [Pts.len,Pts.toList,Pts.Se r]
def Wd.wt (w:Wd):Nat:=w.s.size + 64
def wdsWt:List Wd->Nat
 | []=>0
 | w :: r=>w.wt + wdsWt r
def Hd.wt (h:Hd):Nat:=256 + wdsWt h.ag + h.name.wt
def Ph.wt (p:Ph):Nat:=256 + p.name.wt + wdsWt p.label + wdsWt p.cl
mutual
def Ty.wt:Ty->Nat
 | .mk h ps=>h.wt + ps.wt
def Pts.wt:Pts->Nat
 | .nil=>0
 | .cons p t r=>p.wt + t.wt + r.wt
end
theorem bW:∀ l:List Wd,64 * l.length<=wdsWt l
 | []=>zLeR _
 | w :: r=>by have:=bW r;simp only [List.length_cons,wdsWt,Wd.wt];omega
theorem jJ:∀ {l:List Wd} {w:Wd},w∈l->w.s.size + 64<=wdsWt l
 | x :: r,w,h=>by
  rcases eU h with h | h
  ·subst h;simp only [wdsWt,Wd.wt];omega
  ·have:=jJ h;simp only [wdsWt];omega
theorem Pts.gP:∀ ps:Pts,256 * ps.len<=ps.wt
 | .nil=>zLeR _
 | .cons p t r=>by have:=Pts.gP r;simp only [Pts.len,Pts.wt,Ph.wt];omega
theorem Pts.iu:∀ {ps:Pts} {p:Ph} {t:Ty},(p,t)∈ps.toList->p.wt + t.wt<=ps.wt
 | .cons p t r,q,u,h=>by
  rcases eU h with h | h
  ·cases h;simp only [Pts.wt];omega
  ·have:=Pts.iu h;simp only [Pts.wt];omega
theorem Ty.kj (t:Ty):256<=t.wt:=by
 cases t;simp only [Ty.wt,Hd.wt];omega
def jK (w:Wd):List DV:=[.v (.string w.s),.v (.int .i64 w.a)]
def bA (l:List Wd):List (List DV):=l.map jK
def kv (p:Ph) (tl:List DV):List DV:=
 .v (.string p.name.s) :: .v (.int .i64 p.name.a) :: .v (.bool p.bare) :: .sl 2 (bA p.label) none :: .v (.int .i64 p.wide) :: .v (.int .i64 p.ck) :: .v (.int .i64 p.cn) :: .v (.int .i64 p.ca) :: .sl 2 (bA p.cl) none :: tl
mutual
def cL:Ty->List DV
 | .mk h ps=>[.v (.int .i64 h.ay),.v (.int .i64 h.cT),.v (.int .i64 h.lo),.v (.int .i64 h.hi),.v (.int .i64 h.most),.sl 2 (bA h.ag) none,.sl 18 (gm ps) none,.v (.string h.name.s),.v (.int .i64 h.name.a)]
def gm:Pts->List (List DV)
 | .nil=>[]
 | .cons p t r=>kv p (cL t) :: gm r
end
theorem aD (l:List Wd):(bA l).length=l.length:=by simp [bA]
theorem aP:∀ ps:Pts,(gm ps).length=ps.len
 | .nil=>by simp [gm,Pts.len]
 | .cons p t r=>by simp [gm,Pts.len,aP r]
theorem bn {l:List Wd} {j:Nat} {w:Wd} (h:l[j]? = some w):(bA l)[j]? = some (jK w):=by simp [bA,h]
theorem CS {l:List Wd} {e:Nat} {x:Wd} (h:l[e]? = some x):bA (l.take e) ++ [jK x]=bA (l.take (e + 1)):=by
 rw [List.take_add_one,h];simp [bA]
theorem ch:∀ {ps:Pts} {j:Nat} {p:Ph} {t:Ty},ps.toList[j]? = some (p,t)->(gm ps)[j]? = some (kv p (cL t))
 | .nil,j,p,t,h=>by simp [Pts.toList] at h
 | .cons q u r,0,p,t,h=>by grind [Pts.toList,gm]
 | .cons q u r,j + 1,p,t,h=>by
  simp only [Pts.toList,List.getElem?_cons_succ] at h;simp only [gm,List.getElem?_cons_succ];exact ch h
def Pts.drop:Nat->Pts->Pts
 | 0,ps=>ps
 | _ + 1,.nil=>.nil
 | e + 1,.cons _ _ r=>r.drop e
theorem Pts.drop_cons:∀ {e:Nat} {ps:Pts} {p:Ph} {t:Ty},ps.toList[e]? = some (p,t)->ps.drop e = .cons p t (ps.drop (e + 1))
 | 0,.cons q u r,p,t,h=>by
  simp only [Pts.toList,List.getElem?_cons_zero,oI,Prod.mk.injEq] at h;obtain ⟨rfl,rfl⟩:=h;rfl
 | e + 1,.cons q u r,p,t,h=>by
  simp only [Pts.toList,List.getElem?_cons_succ] at h;simp only [Pts.drop];exact Pts.drop_cons h
 | 0,.nil,p,t,h=>by simp [Pts.toList] at h
 | e + 1,.nil,p,t,h=>by simp [Pts.toList] at h
theorem Pts.dK:∀ (ps:Pts),ps.drop ps.len = .nil
 | .nil=>rfl
 | .cons _ _ r=>by simp only [Pts.len,Pts.drop];exact Pts.dK r
theorem Pts.fx {ps:Pts} {e:Nat} (h:e < ps.len):∃ p t,ps.toList[e]? = some (p,t):=by
 rw [Pts.Se] at h;exact ⟨_,_,gE h⟩
theorem drop_cons {α:Type} {l:List α} {e:Nat} {x:α} (h:l[e]? = some x):l.drop e=x :: l.drop (e + 1):=by
 obtain ⟨h1,h2⟩:=List.getElem?_eq_some_iff.1 h;rw [<- h2];exact List.drop_eq_getElem_cons h1
def aM:ByteArray:=⟨#[]⟩
def Sf:Hd:=⟨0,0,0,0,0,[],⟨aM,0⟩⟩
def cp:Ty:=.mk Sf .nil
def dP:Ph:=⟨⟨aM,0⟩,false,[],0,0,0,0,[]⟩
def km:Ph:=⟨⟨aM,0⟩,true,[],0,0,0,0,[]⟩
theorem nxt {e n:Nat} (h:e < n) (hn:n<=4611686018427387904):IntKind.i64.wrap ((e:Int) + 1)=((e + 1:Nat):Int):=by
 rw [IntWalk.i64_in _ ⟨by omega,by omega⟩];omega
theorem wrap64 {n:Int} (h1 : -9223372036854775808<=n) (h2:n<=9223372036854775807):IntKind.i64.wrap n=n:=IntWalk.i64_in n ⟨h1,h2⟩
theorem pickB_and (x a:Bool):pickB x a false=(x && a):=by cases x<;>rfl
theorem ak (x b:Bool):pickB x true b=(x || b):=by cases x<;>rfl
end Go.Proofs.YtfdedoiiahbnnaaGreat
set_option maxRecDepth 100000
namespace Go.Proofs.YtfdedoiiahbnnaaGreat
open Go Go.RowKit Dv Go.Proofs.Tryz
def isLet (c:Int):Bool:=decide (97<=c) && decide (c<=122)
def fY (c:Int):Bool:=(isLet c || (decide (48<=c) && decide (c<=57))) || decide (c=95)
def signs:List UInt8->Nat
 | []=>0
 | c :: r=>if fY c.toNat=true then signs r + 1 else 0
def bc:List UInt8->Nat
 | []=>0
 | c :: r=>if isLet c.toNat=true then signs r + 1 else 0
def bM (s:ByteArray):Bool:=decide (0 < s.size) && (decide (s.size<=32) && decide (bc s.data.toList=s.size))
theorem xx {c:Int} (h:isLet c=true):fY c=true:=by simp [fY,h]
theorem Hu:∀ l:List UInt8,signs l<=l.length
 | []=>zLeR _
 | c :: r=>by
  simp only [signs,List.length_cons];split
  ·have:=Hu r;omega
  ·omega
theorem lu {c:UInt8} {r:List UInt8} (h:isLet c.toNat=true):bc (c :: r)=signs (c :: r):=by
 simp [bc,signs,h,xx h]
theorem bl {s:ByteArray} {k:Nat} (h:k < s.size):∃ c:UInt8,s.data.toList.drop k=c :: s.data.toList.drop (k + 1)/\aq s k=c.toNat:=by
 have hk:k < s.data.toList.length:=sU h;refine ⟨s.data.toList[k],by rw [<- List.drop_eq_getElem_cons hk],?_⟩
 grind [aq]
theorem tP {s:ByteArray} {k:Nat} (h:s.size<=k):s.data.toList.drop k=[]:=List.drop_eq_nil_of_le (sU h)
theorem xy (c:Int):aR prog 235 [.v (.int .u8 c)] (.v (.bool (isLet c))):=by
 refine eG 9 [.tmp 2] func235 rfl ntmps235 rfl fun _ _ _ _=>?_;exact (congrArg (fun b=>DV.v (.bool b)) (pickB_and _ _):_=_)
theorem OU (c:Int):aR prog 236 [.v (.int .u8 c)] (.v (.bool (fY c))):=by
 refine eG 17 [.tmp 2] func236 rfl ntmps236 rfl fun _ _ _ _=>?_;refine cP YN (xy c) ?_;refine (dq ?_:);simp only [pickB_and,ak,fY]
abbrev Kj (s:ByteArray) (i e:Nat):St:=⟨[aC 5 e,(0,⟨[],.v (.string s)⟩),aC 1 i],[],[]⟩
theorem kE (s:ByteArray) (i:Nat):s.extract i (i + 0)=⟨#[]⟩:=by
 apply ByteArray.ext
 simp_all
theorem nj (s:ByteArray) (i:Nat) (hi:i < s.size) (hs:s.size<=4611686018427387904):aR prog 154 [.v (.string s),.v (.int .i64 i)]
  (.bo [.v (.string (s.extract i (i + bc (s.data.toList.drop i)))),.v (.int .i64 ((i + bc (s.data.toList.drop i):Nat):Int))]):=by
 obtain ⟨c0,BP,ib⟩:=bl hi;refine eG 38 [.tmp 4,.tmp 5] func154 rfl ntmps154 rfl fun _ _ _ _=>?_;refine br (fun h=>?_) (fun _=>?_)
 ·simp [ak] at h;omega
 refine ⟨⟨by omega,by omega⟩,?_⟩;refine cP YN (xy _) ?_;refine br ?_ ?_<;>intro h
 ·have hl:isLet (c0.toNat:Int)=false:=by grind
  have hn:bc (s.data.toList.drop i)=0:=by rw [BP];simp [bc,hl]
  rw [hn,kE];exact ⟨_,ax,rfl⟩
 have hl:isLet (c0.toNat:Int)=true:=by grind
 have hn:bc (s.data.toList.drop i)=signs (s.data.toList.drop i):=by rw [BP];exact lu hl
 rw [hn]
 refine aY (fun j st=>∃ e:Nat,st=Kj s i e/\e<=s.size/\i<=e/\e + signs (s.data.toList.drop e)=i + signs (s.data.toList.drop i)/\j=s.size - e)
  (s.size - i) (Kj s i i) (wkM wB) ⟨i,rfl,by omega,by omega,rfl,rfl⟩ ?_
 rintro j st ⟨e,rfl,he,Kk,hinv,rfl⟩;refine br ?_ ?_<;>intro h
 ·have az:e < s.size:=sU h;refine ⟨⟨by omega,by omega⟩,?_⟩;refine cP aeQ (OU _) ?_;obtain ⟨c,hd,hb⟩:=bl az;refine br ?_ ?_<;>intro h2
  ·have Vz:fY (c.toNat:Int)=true:=by
    have:fY ((aq s e:Nat):Int)=true:=h2
    rwa [hb] at this
   refine ⟨Kj s i (e + 1),(wkM (wB1 (nxt az (by omega)))),s.size - (e + 1),by omega,e + 1,rfl,by omega,by omega,?_,rfl⟩;rw [hd] at hinv;simp only [signs,Vz,if_true] at hinv;omega
  ·have Vz:fY (c.toNat:Int)=false:=by
    have:fY ((aq s e:Nat):Int)=false:=h2
    rwa [hb] at this
   rw [hd] at hinv;simp only [signs,Vz] at hinv;refine ⟨⟨by omega,by omega,by omega⟩,?_⟩;have:i + signs (s.data.toList.drop i)=e:=by simp at hinv;omega
   rw [this];exact ⟨_,ax,rfl⟩
 ·have hge:e=s.size:=by simp at h;omega
  rw [tP (by omega)] at hinv;simp only [signs] at hinv;refine ⟨⟨by omega,by omega,by omega⟩,?_⟩;have:i + signs (s.data.toList.drop i)=e:=by omega
  rw [this];exact ⟨_,ax,rfl⟩
theorem take_nil (s:ByteArray) (hs:s.size=0):aR prog 154 [.v (.string s),.v (.int .i64 0)] (.bo [.v (.string ⟨#[]⟩),.v (.int .i64 0)]):=by
 refine eG 38 [.tmp 4,.tmp 5] func154 rfl ntmps154 rfl fun _ _ _ _=>?_;refine br (fun _=>?_) (fun h=>?_)
 ·exact ⟨_,ax,rfl⟩
 ·simp [ak,hs] at h
theorem jL (l:List UInt8):bc l<=l.length:=by
 cases l with
 | nil=>exact zLeR _
 | cons c r=>grind [bc,Hu]
theorem Hv (s:ByteArray):decide (s=⟨#[]⟩)=decide (s.size=0):=by
 rw [Bool.eq_iff_iff];simp only [decide_eq_true_eq];constructor
 ·rintro rfl;rfl
 ·intro h;apply ByteArray.ext;exact Array.eq_empty_of_size_eq_zero h
theorem iv (s:ByteArray) (hs:s.size<=4611686018427387904):aR prog 82 [.v (.string s)] (.v (.bool (bM s))):=by
 refine eG 22 [.tmp 2] func82 rfl ntmps82 rfl fun _ _ _ _=>?_;by_cases h0:s.size=0
 ·refine cP xr (take_nil s h0) ?_;refine (dq ?_:);simp [pickB_and,bM,Hv,h0]
 ·refine cP xr (nj s 0 (by omega) hs) ?_;refine (dq ?_:);have hl:=jL s.data.toList;simp only [Array.length_toList,ByteArray.size_data] at hl;simp only [pickB_and,bM,Hv,List.drop_zero,Nat.zero_add];rw [Bool.eq_iff_iff];simp only [bh,decide_eq_true_eq,Bool.not_eq_true',decide_eq_false_iff_not];omega
abbrev E7 (s:ByteArray) (i n e:Nat):St:=⟨[aC 5 n,aC 6 e,(0,⟨[],.v (.string s)⟩),aC 1 i],[],[]⟩
theorem Hw (s:ByteArray) (hs:s.size<=4611686018427387904):aR prog 260 [.v (.string s),.v (.int .i64 0)] (.v (.int .i64 (bc s.data.toList))):=by
 refine eG 47 [.tmp 4] func260 rfl ntmps260 rfl fun _ _ _ _=>?_
 refine aY (fun j st=>∃ e:Nat,st=E7 s 0 e e/\e<=s.size/\(e=0∨e + signs (s.data.toList.drop e)=bc s.data.toList)/\j=s.size - e)
  s.size (E7 s 0 0 0) (wkM wB) ⟨0,rfl,by omega,.inl rfl,rfl⟩ ?_
 rintro j st ⟨e,rfl,he,hinv,rfl⟩;refine br ?_ ?_<;>intro h
 ·have az:e < s.size:=sU h;refine ⟨⟨by omega,by omega⟩,?_⟩;obtain ⟨c,hd,hb⟩:=bl az;have key:bc s.data.toList=if (e=0/\isLet (c.toNat:Int)=true)∨(e≠0/\fY (c.toNat:Int)=true) then (e + 1) + signs (s.data.toList.drop (e + 1)) else e:=by grind [bc,isLet,signs,fY]
  refine br ?_ ?_<;>intro h2
  ·have iI:aq s ((e:Int).toNat)=c.toNat:=hb;rw [iI] at h2;have:bc s.data.toList=e:=by grind [pickB_and,ak,fY,isLet]
   rw [this];exact (rfl:_=_)
  ·have iI:aq s ((e:Int).toNat)=c.toNat:=hb;rw [iI] at h2;refine ⟨E7 s 0 (e + 1) (e + 1),(wkM (wB1 (nxt az (by omega)))),s.size - (e + 1),by omega,e + 1,rfl,by omega,.inr ?_,rfl⟩;rw [key,zIfP];simp only [pickB_and,ak,fY,isLet] at h2 ⊢;simp at h2 ⊢;omega
 ·have hge:e=s.size:=by simp at h;omega
  have:bc s.data.toList=e:=by
   rcases hinv with h0 | h0
   ·subst h0;have:s.data.toList=[]:=by rw [<- List.drop_zero (l:=s.data.toList)];exact tP (by omega)
    rw [this];all_goals rfl
   ·grind [tP,signs]
  rw [this];exact (rfl:_=_)
theorem mg (s:ByteArray) (hs:s.size<=4611686018427387904):aR prog 187 [.v (.string s)] (.v (.bool (bM s))):=by
 refine eG 18 [.tmp 2] func187 rfl ntmps187 rfl fun _ _ _ _=>?_;refine br ?_ ?_<;>intro h
 ·refine cP YV (Hw s hs) ?_;refine (dq ?_:);rw [Bool.eq_iff_iff];simp [pickB_and] at h;simp [pickB_and,bM];omega
 ·refine (dq ?_:);rw [Bool.eq_iff_iff];simp [pickB_and] at h;simp [pickB_and,bM];omega
def fQ (l:List ByteArray):List (List DV):=l.map fun s=>[.v (.string s)]
def dInts (l:List Nat):List (List DV):=l.map fun (i:Nat)=>[.v (.int .i64 (i:Int))]
theorem cX (l:List ByteArray):(fQ l).length=l.length:=by simp [fQ]
theorem bQ (l:List Nat):(dInts l).length=l.length:=by simp [dInts]
theorem iV {l:List ByteArray} {j:Nat} {x:ByteArray} (h:l[j]? = some x):(fQ l)[j]? = some [.v (.string x)]:=by simp [fQ,h]
theorem dr {l:List Nat} {j:Nat} {x:Nat} (h:l[j]? = some x):(dInts l)[j]? = some [.v (.int .i64 (x:Int))]:=by simp [dInts,h]
abbrev Kl (g:Nat) (cb:List DV) (i j:Nat):St:=⟨[(1,⟨[],.fn g [] cb⟩),aC 5 i,aC 6 j],[],[]⟩
theorem xz (g:Nat) (gY:Enters prog g) (cb:List DV) (n m:Nat) (hn:n<=1099511627776) (hm:m<=n) (hcb:CcL [] 0 0 0 cb cb) (fX:clB.clL 0 0 cb=true)
  (hp:∀ i:Nat,i < n->aR prog g (.v (.int .i64 i) :: cb) (.v (.bool (decide (m<=i))))) :
  aR prog 200 [.v (.int .i64 n),.fn g [] cb] (.v (.int .i64 m)):=by
 refine eG 26 [.tmp 4] func200 rfl ntmps200 rfl fun _ _ _ _=>?_;have s6:clB 0 0 (.fn g [] cb)=true:=by simp only [clB,bh];exact ⟨rfl,fX⟩
 refine lI (fun j st=>∃ a b:Nat,st=Kl g cb a b/\a<=m/\m<=b/\b<=n/\j=b - a) ⟨0,n,rfl,by omega,by omega,by omega,rfl⟩ (wkM (wB1 s6)) ?_;rintro j st ⟨a,b,rfl,h1,h2,h3,rfl⟩;refine br ?_ ?_<;>intro h
 ·have az:a < b:=sU h
  have aaU:IntKind.i64.wrap ((IntKind.u64.wrap (IntKind.i64.wrap ((a:Int) + (b:Int)))).fdiv (2 ^ (min ((1:Int).toNat) IntKind.u64.bits)))=(((a + b) / 2:Nat):Int):=by
   rw [wrap64 (n:=(a:Int) + (b:Int)) (by omega) (by omega),IntKind.wrap_u64];have e2:(2:Int) ^ (min ((1:Int).toNat) IntKind.u64.bits)=2:=by decide
   rw [e2,Int.fdiv_eq_ediv_of_nonneg _ (by decide),wrap64 (by omega) (by omega)];omega
  refine ⟨by decide,?_⟩;refine cP gY (hp ((a + b) / 2) (by omega)) ?_ ⟨_,_,rfl,congrArg (fun z=>DV.v (.int .i64 z)) aaU,hcb⟩;refine br ?_ ?_<;>intro hq
  ·have hq:(a + b) / 2 < m:=sU hq;have BM:=nxt (e:=(a + b) / 2) (n:=n) (by omega) (by omega);rw [<- aaU] at BM;refine ⟨Kl g cb ((a + b) / 2 + 1) b,(wkM (wB2 s6 BM)),b - ((a + b) / 2 + 1),by omega,(a + b) / 2 + 1,b,rfl,by omega,by omega,by omega,rfl⟩
  ·have hq:m<=(a + b) / 2:=sU hq;refine ⟨Kl g cb a ((a + b) / 2),(wkM (wB2 s6 aaU)),(a + b) / 2 - a,by omega,a,(a + b) / 2,rfl,by omega,by omega,by omega,rfl⟩
 ·have hge:¬ a < b:=sU h;have:a=m:=by omega
  subst this;exact (rfl:_=_)
def E8 (a b:ByteArray):Bool:=Op.bytesLess a.data.toList b.data.toList
theorem mC:∀ l:List UInt8,Op.bytesLess l l=false
 | []=>rfl
 | a :: r=>by simp [Op.bytesLess,mC r]
theorem lx:∀ {a b:List UInt8},Op.bytesLess a b=true->Op.bytesLess b a=false
 | _,[],h=>by simp [Op.bytesLess] at h
 | [],b :: r,_=>rfl
 | a :: x,b :: y,h=>by
  simp only [Op.bytesLess,Bool.or_eq_true,decide_eq_true_eq,bh,beq_iff_eq] at h;simp only [Op.bytesLess,Bool.or_eq_false_iff,decide_eq_false_iff_not,Bool.and_eq_false_imp,beq_iff_eq];rcases h with h | ⟨rfl,h⟩
  ·grind
  ·exact ⟨UInt8.lt_irrefl _,fun _=>lx h⟩
structure jy (L:List ByteArray) (aN:List Nat):Prop where
 lt:∀ (i p:Nat),aN[i]? = some p->p < L.length
 srt:∀ (i j p q:Nat) (s t:ByteArray),i < j->aN[i]? = some p->aN[j]? = some q->L[p]? = some s->L[q]? = some t->E8 s t=true
 fst:∀ (i p j:Nat) (s:ByteArray),aN[i]? = some p->L[p]? = some s->L[j]? = some s->p<=j
 all:∀ (j:Nat) (s:ByteArray),L[j]? = some s->∃ i p:Nat,aN[i]? = some p/\L[p]? = some s
abbrev dB (L:List ByteArray) (aN:List Nat):List DV:=[.sl 1 (fQ L) none,.sl 1 (dInts aN) none]
theorem zK (L:List ByteArray) (aN:List Nat) (s:ByteArray) (i p:Nat) (t:ByteArray) (hi:aN[i]? = some p) (hp:L[p]? = some t) :
  aR prog 201 [.v (.int .i64 i),.pt [.pt (dB L aN) 0] 0,.pt [.v (.string s)] 0] (.v (.bool (!E8 t s))):=by
 refine eG 20 [.tmp 4] func201 rfl ntmps201 rfl fun _ _ _ _=>?_;refine dI ?_;refine iX (dr hi) ?_;refine iX (iV hp) ?_;exact (rfl:_=_)
theorem find_spec (L:List ByteArray) (aN:List Nat) (s:ByteArray) (q p:Nat) (hT:jy L aN) (hl:aN.length<=1099511627776) (hq:aN[q]? = some p) (hp:L[p]? = some s) :
  aR prog 112 [.pt (dB L aN) 0,.v (.string s)] (.bo [.v (.int .i64 p),.v (.bool true)]):=by
 have hqlt:=(gS hq).1;refine eG 47 [.tmp 4,.tmp 5] func112 rfl ntmps112 rfl fun _ _ _ _=>?_
 have fX:∀ i:Nat,i < aN.length->aR prog 201 [.v (.int .i64 i),.pt [.pt (dB L aN) 0] 0,.pt [.v (.string s)] 0] (.v (.bool (decide (q<=i)))):=by
  intro i hi;obtain ⟨p',B0⟩:∃ p',aN[i]? = some p':=⟨_,gE hi⟩;obtain ⟨t,ht⟩:∃ t,L[p']? = some t:=⟨_,gE (hT.lt i p' B0)⟩;have:=zK L aN s i p' t B0 ht
  have e:(!E8 t s)=decide (q<=i):=by
   rcases Nat.lt_trichotomy i q with h | h | h
   ·rw [hT.srt i q p' p t s h B0 hq ht hp];simp;omega
   ·grind [E8,mC]
   ·have h2:=hT.srt q i p p' s t h hq B0 hp ht;rw [E8,lx h2];simp;omega
  rw [e] at this;exact this
 have hS:=xz 201 YL [.pt [.pt (dB L aN) 0] 0,.pt [.v (.string s)] 0] aN.length q hl (by omega) ax rfl fX;refine E6 YK hS (o9 (bQ aN)) rfl ?_;refine dI ?_;refine br ?_ ?_<;>intro h
 ·refine iX (dr hq) ?_;refine iX (iV hp) ?_;refine br ?_ ?_<;>intro h2
  ·exfalso;simp [ak,bQ] at h2
  ·refine iX (dr hq) ?_;exact ⟨_,ax,rfl⟩
 ·grind [dInts,bQ]
end Go.Proofs.YtfdedoiiahbnnaaGreat
set_option maxRecDepth 100000
namespace Go.Proofs
open Go.Shelf
def Tryz.laysGg6_ren:Go.Shelf.Ren:=⟨fun | 6=>206 | 10=>276 | 11=>277 | 12=>278 | 13=>279 | 14=>280 | 24=>317 | 25=>318 | 26=>319 | 27=>320 | 28=>321 | 29=>322 | 30=>323 | 31=>324 | 32=>325 | 33=>326 | 34=>342 | 35=>343 | 36=>344 | 37=>345 | 38=>346 | 39=>360 | n=>n,fun | 20=>20 | 26=>272 | 35=>348 | 0=>0 | 37=>350 | 3=>3 | 41=>343 | 44=>355 | 49=>374 | 51=>290 | 4=>4 | 54=>377 | 53=>376 | 58=>101 | 5=>5 | 9=>9 | 60=>394 | 64=>398 | 66=>411 | 67=>71 | 17=>17 | 32=>287 | 33=>346 | 82=>428 | 12=>12 | 75=>422 | 76=>423 | 77=>424 | 78=>199 | 79=>425 | 80=>426 | n=>n,fun | n=>n⟩
theorem Tryz.laysGg6:Go.Proofs.LaysGg.n6 prog Tryz.laysGg6_ren:={
 mixed:=by kernel_rfl
 f6:=func206.trans (congrArg some (by kernel_rfl))
 f10:=func276.trans (congrArg some (by kernel_rfl))
 f11:=func277.trans (congrArg some (by kernel_rfl))
 f12:=func278.trans (congrArg some (by kernel_rfl))
 f13:=func279.trans (congrArg some (by kernel_rfl))
 f14:=func280.trans (congrArg some (by kernel_rfl))
 f24:=func317.trans (congrArg some (by kernel_rfl))
 f25:=func318.trans (congrArg some (by kernel_rfl))
 f26:=func319.trans (congrArg some (by kernel_rfl))
 f27:=func320.trans (congrArg some (by kernel_rfl))
 f28:=func321.trans (congrArg some (by kernel_rfl))
 f29:=func322.trans (congrArg some (by kernel_rfl))
 f30:=func323.trans (congrArg some (by kernel_rfl))
 f31:=func324.trans (congrArg some (by kernel_rfl))
 f32:=func325.trans (congrArg some (by kernel_rfl))
 f33:=func326.trans (congrArg some (by kernel_rfl))
 f34:=func342.trans (congrArg some (by kernel_rfl))
 f35:=func343.trans (congrArg some (by kernel_rfl))
 f36:=func344.trans (congrArg some (by kernel_rfl))
 f37:=func345.trans (congrArg some (by kernel_rfl))
 f38:=func346.trans (congrArg some (by kernel_rfl))
 f39:=func360.trans (congrArg some (by kernel_rfl))
 t0:=Tryz.underlying0
 a0:=Tryz.isAgg0
 z0:=Tryz.sizeOf0
 v0:=Tryz.zeroValue0
 i0:=by kernel_rfl
 t3:=Tryz.underlying3
 a3:=Tryz.isAgg3
 z3:=Tryz.sizeOf3
 v3:=Tryz.zeroValue3
 i3:=by kernel_rfl
 t4:=Tryz.underlying4
 a4:=Tryz.isAgg4
 z4:=Tryz.sizeOf4
 v4:=Tryz.zeroValue4
 i4:=by kernel_rfl
 t5:=Tryz.underlying5
 a5:=Tryz.isAgg5
 z5:=Tryz.sizeOf5
 v5:=Tryz.zeroValue5
 i5:=by kernel_rfl
 t9:=Tryz.underlying9
 a9:=Tryz.isAgg9
 z9:=Tryz.sizeOf9
 v9:=Tryz.zeroValue9
 i9:=by kernel_rfl
 t12:=Tryz.underlying12
 a12:=Tryz.isAgg12
 z12:=Tryz.sizeOf12
 v12:=Tryz.zeroValue12
 i12:=by kernel_rfl
 t17:=Tryz.underlying17
 a17:=Tryz.isAgg17
 z17:=Tryz.sizeOf17
 v17:=Tryz.zeroValue17
 i17:=by kernel_rfl
 t20:=Tryz.underlying20
 a20:=Tryz.isAgg20
 z20:=Tryz.sizeOf20
 v20:=Tryz.zeroValue20
 i20:=by kernel_rfl
 t26:=Tryz.underlying272
 a26:=Tryz.isAgg272
 z26:=Tryz.sizeOf272
 v26:=Tryz.zeroValue272
 i26:=by kernel_rfl
 t32:=Tryz.underlying287
 a32:=Tryz.isAgg287
 z32:=Tryz.sizeOf287
 v32:=Tryz.zeroValue287
 i32:=by kernel_rfl
 t33:=Tryz.underlying346
 a33:=Tryz.isAgg346
 z33:=Tryz.sizeOf346
 v33:=Tryz.zeroValue346
 i33:=by kernel_rfl
 t35:=Tryz.underlying348
 a35:=Tryz.isAgg348
 z35:=Tryz.sizeOf348
 v35:=Tryz.zeroValue348
 i35:=by kernel_rfl
 t37:=Tryz.underlying350
 a37:=Tryz.isAgg350
 z37:=Tryz.sizeOf350
 v37:=Tryz.zeroValue350
 i37:=by kernel_rfl
 t41:=Tryz.underlying343
 a41:=Tryz.isAgg343
 z41:=Tryz.sizeOf343
 v41:=Tryz.zeroValue343
 i41:=by kernel_rfl
 t44:=Tryz.underlying355
 a44:=Tryz.isAgg355
 z44:=Tryz.sizeOf355
 v44:=Tryz.zeroValue355
 i44:=by kernel_rfl
 t49:=Tryz.underlying374
 a49:=Tryz.isAgg374
 z49:=Tryz.sizeOf374
 v49:=Tryz.zeroValue374
 i49:=by kernel_rfl
 t51:=Tryz.underlying290
 a51:=Tryz.isAgg290
 z51:=Tryz.sizeOf290
 v51:=Tryz.zeroValue290
 i51:=by kernel_rfl
 t53:=Tryz.underlying376
 a53:=Tryz.isAgg376
 z53:=Tryz.sizeOf376
 v53:=Tryz.zeroValue376
 i53:=by kernel_rfl
 t54:=Tryz.underlying377
 a54:=Tryz.isAgg377
 z54:=Tryz.sizeOf377
 v54:=Tryz.zeroValue377
 i54:=by kernel_rfl
 t58:=Tryz.underlying101
 a58:=Tryz.isAgg101
 z58:=Tryz.sizeOf101
 v58:=Tryz.zeroValue101
 i58:=by kernel_rfl
 t60:=Tryz.underlying394
 a60:=Tryz.isAgg394
 z60:=Tryz.sizeOf394
 v60:=Tryz.zeroValue394
 i60:=by kernel_rfl
 t64:=Tryz.underlying398
 a64:=Tryz.isAgg398
 z64:=Tryz.sizeOf398
 v64:=Tryz.zeroValue398
 i64:=by kernel_rfl
 t66:=Tryz.underlying411
 a66:=Tryz.isAgg411
 z66:=Tryz.sizeOf411
 v66:=Tryz.zeroValue411
 i66:=by kernel_rfl
 t67:=Tryz.underlying71
 a67:=Tryz.isAgg71
 z67:=Tryz.sizeOf71
 v67:=Tryz.zeroValue71
 i67:=by kernel_rfl
 t75:=Tryz.underlying422
 a75:=Tryz.isAgg422
 z75:=Tryz.sizeOf422
 v75:=Tryz.zeroValue422
 i75:=by kernel_rfl
 t76:=Tryz.underlying423
 a76:=Tryz.isAgg423
 z76:=Tryz.sizeOf423
 v76:=Tryz.zeroValue423
 i76:=by kernel_rfl
 t77:=Tryz.underlying424
 a77:=Tryz.isAgg424
 z77:=Tryz.sizeOf424
 v77:=Tryz.zeroValue424
 i77:=by kernel_rfl
 t78:=Tryz.underlying199
 a78:=Tryz.isAgg199
 z78:=Tryz.sizeOf199
 v78:=Tryz.zeroValue199
 i78:=by kernel_rfl
 t79:=Tryz.underlying425
 a79:=Tryz.isAgg425
 z79:=Tryz.sizeOf425
 v79:=Tryz.zeroValue425
 i79:=by kernel_rfl
 t80:=Tryz.underlying426
 a80:=Tryz.isAgg426
 z80:=Tryz.sizeOf426
 v80:=Tryz.zeroValue426
 i80:=by kernel_rfl
 t82:=Tryz.underlying428
 a82:=Tryz.isAgg428
 z82:=Tryz.sizeOf428
 v82:=Tryz.zeroValue428
 i82:=by kernel_rfl }
end Go.Proofs
namespace Go.Proofs.YtfdedoiiahbnnaaGreat
open Go Go.RowKit Go.Lib Go.Sort Go.Proofs.Tryz
noncomputable def siT:TypeInfo:=(prog.info? 96).get (by kernel_rfl)
noncomputable def siE:TypeInfo:=(prog.info? 3).get (by kernel_rfl)
theorem siK (n:Nat) (h2:2<=n):Lib.swapperK n siE 2=5:=by
 have a:siE.hasPointers=false:=by kernel_rfl
 have b:siE.bytes=8:=by kernel_rfl
 have c:(n == 0)=false:=by simp;omega
 have d:(n == 1)=false:=by simp;omega
 simp [Lib.swapperK,a,b,c,d]
theorem Sg {α:Type} [Inhabited α] (enc:α->Value) (h1:∀ x,(enc x).oneCell'=true) {lt:α->α->Bool} (hO:SWO lt) (lb:Array Value) (Cr c:Nat) (d:Array α) (h2:2<=d.size) (cK:d.size < 4611686018427387904) (w:World)
  (Sh:LessReads prog 207 lb enc lt Cr 0 d.size w) (hH:Holds enc w Cr 0 d) (hblk:Cr < w.heap.size) :
  Calls prog 206 #[.iface 96 (.slice (some ⟨Cr,0,none⟩) d.size c),.func (.func 207) #[] lb] w fun e w'=>
   e = .returned (.tuple #[])/\∃ d' n os,PermIn 0 d.size d d' /\ SortedIn lt 0 d.size d' /\ w'=grow (putRow enc (Sort.ahead w n) Cr 0 d') os:=
 Any.sort_Slice_sorted Tryz.laysGg6 96 3 siT siE (by kernel_rfl) (by kernel_rfl) (by kernel_rfl) (by kernel_rfl) 2 (fun _=>by kernel_rfl) (by kernel_rfl) (fun _=>by kernel_rfl) enc h1 lt hO 207 lb
  (enters_of func207 (by kernel_rfl) rfl) Cr 0 c d h2 cK 312 (by rw [siK _ h2];kernel_rfl) true
  (fun args W=>run_callFunc_extern func312 (by kernel_rfl) (by kernel_rfl) (by kernel_rfl) (e:=Extern.ReflectliteSwapper.swap true) (by kernel_rfl) args W) w Sh hH hblk
theorem OV (lb:Array Value) (p:Option Addr) (n c:Nat) (h1:n<=1) (w:World) :
  Calls prog 206 #[.iface 96 (.slice p n c),.func (.func 207) #[] lb] w fun e w'=>e = .returned (.tuple #[])/\∃ os,w'=grow w os:=by
 have h:n=0∨n=1:=by omega
 rcases h with rfl | rfl
 ·exact Any.sort_Slice_tiny Tryz.laysGg6 96 3 siT siE (by kernel_rfl) (by kernel_rfl) (by kernel_rfl) (by kernel_rfl) 2 (fun _=>by kernel_rfl) p 0 c h1 308 (by kernel_rfl) _ _ _ w
 ·exact Any.sort_Slice_tiny Tryz.laysGg6 96 3 siT siE (by kernel_rfl) (by kernel_rfl) (by kernel_rfl) (by kernel_rfl) 2 (fun _=>by kernel_rfl) p 1 c h1 309 (by kernel_rfl) _ _ _ w
end Go.Proofs.YtfdedoiiahbnnaaGreat
set_option maxRecDepth 100000
namespace Go.Proofs.YtfdedoiiahbnnaaGreat
open Go Go.RowKit Dv Go.Proofs.Tryz
theorem rB:∀ {a b:List UInt8},Op.bytesLess a b=false->a=b∨Op.bytesLess b a=true
 | [],[],_=>.inl rfl
 | a :: x,[],_=>.inr rfl
 | [],b :: r,h=>by simp [Op.bytesLess] at h
 | a :: x,b :: y,h=>by
  simp only [Op.bytesLess,Bool.or_eq_false_iff,decide_eq_false_iff_not,Bool.and_eq_false_imp,beq_iff_eq] at h;simp only [Op.bytesLess,Bool.or_eq_true,decide_eq_true_eq,bh,beq_iff_eq];by_cases yh:a=b
  ·subst yh;rcases rB (h.2 rfl) with h2 | h2
   all_goals grind
  all_goals grind
theorem ie:∀ {a b c:List UInt8},Op.bytesLess a b=true->Op.bytesLess b c=true->Op.bytesLess a c=true
 | _,[],_,h,_=>by simp [Op.bytesLess] at h
 | _,_ :: _,[],_,h=>by simp [Op.bytesLess] at h
 | [],b :: y,c :: z,_,_=>rfl
 | a :: x,b :: y,c :: z,h1,h2=>by
  simp only [Op.bytesLess,Bool.or_eq_true,decide_eq_true_eq,bh,beq_iff_eq] at h1 h2 ⊢;rcases h1 with h1 | ⟨rfl,h1⟩
  ·grind
  ·rcases h2 with h2 | ⟨rfl,h2⟩
   ·exact .inl h2
   ·exact .inr ⟨rfl,ie h1 h2⟩
theorem M7 {s t:ByteArray} (h:E8 s t=false):s=t∨E8 t s=true:=by
 rcases rB h with h | h
 ·exact .inl (ByteArray.ext (Array.ext' h))
 ·exact .inr h
def Hx (L:List ByteArray) (p q:Nat):Bool:=
 if L.getD p aM=L.getD q aM then decide (p < q) else E8 (L.getD p aM) (L.getD q aM)
theorem Ws (L:List ByteArray):Sort.SWO (Hx L):=by
 have irr:∀ x,Hx L x x=false:=fun x=>by simp [Hx]
 have tr:∀ x y z,Hx L x y=true->Hx L y z=true->Hx L x z=true:=by grind [Hx,aM,lx,E8,ie]
 have tot:∀ x y,Hx L x y=false->x=y∨Hx L y x=true:=by grind [Hx,aM,M7]
 refine ⟨irr,tr,fun x y z h1 h2=>?_⟩
 grind
theorem OW (L:List ByteArray) (d:List Nat) (i j p q:Nat) (hi:d[i]? = some p) (hj:d[j]? = some q) (hp:p < L.length) (hq:q < L.length) :
  EvS prog 207 [.v (.int .i64 i),.v (.int .i64 j),.pt [.sl 1 (dInts d) none] 0,.pt [.pt [.sl 1 (fQ L) none,.v (.slice none 0 0)] 0] 0] [] [] (fun r _ _=>r = .v (.bool (Hx L p q))):=by
 obtain ⟨s,hs⟩:∃ s,L[p]? = some s:=⟨_,gE hp⟩;obtain ⟨t,ht⟩:∃ t,L[q]? = some t:=⟨_,gE hq⟩;have e:Hx L p q=if s=t then decide (p < q) else E8 s t:=by grind [Hx]
 refine Rt (s:=true) (P:=prog) tt xq 5000 50 [.tmp 6] func207 rfl ntmps207 rfl (nL rfl) (fun _ _ _ _=>?_);refine dI ?_;refine iX (dr hi) ?_;refine iX (dr hj) ?_;refine dI ?_;refine iX (iV hs) ?_;refine iX (iV ht) ?_;refine br ?_ ?_<;>intro h
 ·have bF:s≠t:=sU h;refine dI ?_;refine iX (iV hs) ?_;refine iX (iV ht) ?_;refine (dq ?_:);rw [e,af bF];rfl
 ·have aQ:s=t:=sU h;refine (dq ?_:);rw [e,zIfP aQ];simp
abbrev Si (p:Nat):Value:=.int .i64 (p:Int)
theorem Hy {E:En}:∀ {ds:List Nat} {arr:List Value},RvL E (dInts ds).flatten arr->arr=ds.map Si
 | [],arr,h=>by simpa [dInts,RvL] using h
 | x :: r,arr,h=>by
  simp only [dInts,List.map_cons,List.flatten_cons,List.cons_append,List.nil_append,RvL] at h;obtain ⟨v,s,rfl,h1,h2⟩:=h;unfold Rv at h1;rw [h1.1,Hy (ds:=r) h2];rfl
theorem zL {E:En}:∀ ds:List Nat,RvC E (dInts ds).flatten (ds.map Si)
 | []=>⟨cW E,by simp⟩
 | x :: r=>by
  have ih:=zL (E:=E) r;refine ⟨?_,?_⟩
  ·simp only [dInts,List.map_cons,List.flatten_cons,List.cons_append,List.nil_append];exact rvL_cons (gl rfl) ih.1
  ·intro v hv;simp only [List.map_cons,List.mem_cons] at hv;rcases hv with rfl | hv
   ·rfl
   ·exact ih.2 v hv
theorem afu {m:Nat}:∀ ds:List Nat,(∀ p∈ds,p < m + 1)->∃ D:List (Fin (m + 1)),D.map (·.val)=ds
 | [],_=>⟨[],rfl⟩
 | x :: r,h=>by
  obtain ⟨D,hD⟩:=afu r fun p hp=>h p (iS _ hp);exact ⟨⟨x,h x (by simp)⟩ :: D,by simp [hD]⟩
theorem zM {α:Type} [Inhabited α] (enc:α->Value) (w:World) (b n:Nat) (dk:Array α) (os:Array Obj) (arr:List Value) (ty:TypeId) (hw:w.heap[b]? = some (.cells arr.toArray ty (0,0))) (hl:arr.length=dk.size) :
  ∀ k,k < w.heap.size->(Sort.grow (Sort.putRow enc (Sort.ahead w n) b 0 dk) os).heap[k]? = (World.dc w b (.cells (dk.toList.map enc).toArray ty (0,0))).heap[k]?:=by
 intro k hk;simp only [Sort.grow,Sort.putRow,Sort.mapBlock,Sort.ahead];rw [Array.getElem?_append_left (sU hk),Array.getElem?_modify];by_cases hkb:b=k
 ·subst hkb;rw [zIfP rfl,hw,fl hw];simp only [Option.map_some,Sort.onCells,oI,Obj.cells.injEq,and_true];apply Array.ext_getElem?;intro j;simp only [Sort.putCells,Array.getElem?_mapIdx]
  grind
 ·rw [af hkb,cV (Ne.symm hkb)]
theorem Sj {α:Type} {l:List α} {i:Nat} {x:α} (h:l[i]? = some x):l.set i x=l:=by
 apply List.ext_getElem?
 grind
theorem OX {X:Ctx} {st:St} {k:List It} (hP:X.P=prog) {i c len:Nat} {ds:List Nat} (hlen:len=ds.length) {lbD:List DV} {d:Nat} (N:Nat) (hN:∀ p∈ds,p < N) (lt:Nat->Nat->Bool) (hO:Sort.SWO lt)
  (lV:st.bx[i]? = some (dInts ds).flatten) (hn:ds.length<=1099511627776) (lbF:List Nat->List DV) (tQ:∀ dk:List Nat,dk.length=ds.length->CcL (st.bx.set i (dInts dk).flatten) 0 0 0 (lbF dk) lbD)
  (Sh:∀ dk:List Nat,dk.length=ds.length->(∀ p∈dk,p < N)->∀ i j p q:Nat,dk[i]? = some p->dk[j]? = some q->EvS prog 207 (.v (.int .i64 i) :: .v (.int .i64 j) :: lbF dk) [] [] (fun r _ _=>r = .v (.bool (lt p q))))
  (hd:fU X.nt st.sl (some d)=true)
  (hk:∀ ds':List Nat,ds'.Perm ds->(∀ i j p q:Nat,i < j->ds'[i]? = some p->ds'[j]? = some q->lt q p=false)->go X 4000 k ⟨(d,⟨[],.bo []⟩) :: st.sl,st.bx.set i (dInts ds').flatten,st.tk⟩)
  (hst:X.still=false:=by exact rfl) (hX:X.bt=[]:=by exact rfl):CallG X 206 [.rR 96 (.ms i 1 0 len c),.fn 207 [] lbD] (some d) k st:=by
 subst hlen;refine ⟨?_,hst,fun E a w vs h hv=>?_⟩
 ·rw [hP];exact aeK
 rw [hP];simp only [RvL] at hv;obtain ⟨v1,_,rfl,h1,v2,_,rfl,h2,rfl⟩:=hv;unfold Rv at h1;obtain ⟨z,rfl,h1⟩:=h1;unfold Rv at h1;obtain ⟨b,ad,hb,hlc,rfl,hca⟩:=h1;unfold Rv at h2;obtain ⟨l,r,rfl,hl,hr⟩:=h2;simp only [RvL] at hl;subst hl;obtain ⟨b',ty,arr,fj,hw,sY⟩:=h.env.eQ i _ lV;rw [hb] at fj;simp only [oI] at fj;subst fj;have Sk:=Hy sY.1;have aaM:=dE hw;by_cases h1:ds.length<=1
 ·refine (OV r.toArray ad ds.length c h1 w).mono ?_;rintro e w' ⟨rfl,os,rfl⟩
  have hh:∀ j,j < w.heap.size->(Sort.grow w os).heap[j]? = w.heap[j]?:=fun j hj=>by
   simp only [Sort.grow];rw [Array.getElem?_append_left hj]
  have cg:Rel X E st a (Sort.grow w os):=dF h (Ext.refl E) (h.env.iU hh) h.tk h.nw (h.fr.cy rfl rfl rfl (by simp [Sort.grow]) fun j hj=>.inr (hh j hj)) (pj hst) (.nil hX);have vG:=hk ds (List.Perm.refl _) (fun i j p q tD _ hj=>by have:=(gS hj).1;omega);rw [Sj lV] at vG;exact go_sound 4000 _ _ vG E _ _ (bu cg hd (.bo []) (.tuple #[]) (by unfold Rv;exact ⟨[],rfl,cW E⟩))
 ·have h2:2<=ds.length:=by omega
  have had:=hca (by omega);subst had
  obtain ⟨m,rfl⟩:∃ m,N=m + 1:=by
   cases hds:ds with
   | nil=>rw [hds] at h2;simp at h2
   | cons x r=>have:=hN x (by rw [hds];simp);exact ⟨N - 1,by omega⟩
  obtain ⟨D,hD⟩:=afu ds hN;have Sn:D.length=ds.length:=by rw [<- hD];simp
  let enc:Fin (m + 1)->Value:=fun x=>Si x.val
  have hO':Sort.SWO (fun x y:Fin (m + 1)=>lt x.val y.val):=⟨fun x=>hO.irrefl _,fun x y z=>hO.trans _ _ _,fun x y z=>hO.ntrans _ _ _⟩;have afv:∀ l:List (Fin (m + 1)),l.map enc=(l.map (·.val)).map Si:=fun l=>by simp [enc]
  have hS:=Sg enc (fun _=>rfl) hO' r.toArray b c D.toArray (by simpa [Sn] using h2) (by simp [Sn];omega) w ?_ ?_ aaM
  ·simp only [List.size_toArray,Sn] at hS;refine hS.mono ?_;rintro e w' ⟨rfl,d',n,os,hp,hs,rfl⟩;have cK:d'.size=ds.length:=by have:=hp.1;simpa [Sn] using this
   have rC:(d'.toList.map (·.val)).Perm ds:=by
    have h3:=hp.2.2;have e1:d'.extract 0 ds.length=d':=Array.extract_eq_self_of_le (by omega);have e2:D.toArray.extract 0 ds.length=D.toArray:=Array.extract_eq_self_of_le (by simp [Sn]);rw [e1,e2] at h3;rw [<- hD];exact h3.map _
   have Sp:∀ i j p q:Nat,i < j->(d'.toList.map (·.val))[i]? = some p->(d'.toList.map (·.val))[j]? = some q->lt q p=false:=by
    intro i j p q tD hi hj;have zc:j < d'.size:=by have:=(gS hj).1;simpa using this
    have h3:=hs i j (Nat.zero_le _) tD (by omega);rw [getElem!_pos d' j zc,getElem!_pos d' i (by omega)] at h3;have OY:i < d'.size:=by omega
    simp [OY] at hi;simp [zc] at hj;rw [<- hi,<- hj];exact h3
   have hh:=zM enc w b n d' os arr ty hw (by rw [Sk];simp [cK]);have fm:=kM (ty:=ty) h hst hb (cs':=(dInts (d'.toList.map (·.val))).flatten) (arr':=(d'.toList.map (·.val)).map Si) (zL _) ⟨_,hw⟩;rw [<- afv] at fm;have mT:(Sort.grow (Sort.putRow enc (Sort.ahead w n) b 0 d') os).heap.size=w.heap.size + os.size:=by simp [Sort.grow,Sort.putRow,Sort.mapBlock,Sort.ahead]
   have cg:=dF fm (Ext.refl E) (w':=Sort.grow (Sort.putRow enc (Sort.ahead w n) b 0 d') os) (fm.env.iU fun j hj=>hh j (by rwa [gq] at hj)) fm.tk fm.nw
    (fm.fr.cy rfl rfl rfl (by rw [gq,mT];omega) fun j hj=>.inr (hh j (by rwa [gq] at hj))) (pj hst) (.nil hX)
   exact go_sound 4000 _ _ (hk _ rC Sp) E _ _ (bu cg hd (.bo []) (.tuple #[]) (by unfold Rv;exact ⟨[],rfl,cW E⟩))
  ·intro mm os dk hs i' j' hi hj;have cK:dk.size=ds.length:=sV Sn hs;have hh:=zM enc w b mm dk os arr ty hw (by rw [Sk];simp [cK]);have hE:=h.env.set hb aaM (ty:=ty) (zL (E:=E) (dk.toList.map (·.val)));rw [<- afv] at hE;have hE':=hE.iU (w':=Go.Proofs.sortWorld enc w b 0 mm dk os) fun j hj=>hh j (by rwa [gq] at hj);have OY:i' < dk.size:=by rw [cK,<- Sn];simpa using hi
   have zc:j' < dk.size:=by rw [cK,<- Sn];simpa using hj
   have hLL:(dk.toList.map (·.val)).length=ds.length:=sU cK
   have hc:=Sh (dk.toList.map (·.val)) hLL (fun p hp=>by
    obtain ⟨x,_,rfl⟩:=List.mem_map.1 hp
    exact x.isLt) i' j' (dk[i']!).val (dk[j']!).val (by rw [getElem!_pos dk i' OY];simp [OY]) (by rw [getElem!_pos dk j' zc];simp [zc])
   have hv:RvL E (.v (.int .i64 (i':Int)) :: .v (.int .i64 (j':Int)) :: lbD) (.int .i64 (i':Int) :: .int .i64 (j':Int) :: r):=rvL_cons (gl rfl) (rvL_cons (gl rfl) hr);have hb:=kD hE' hc ⟨_,_,rfl,rfl,_,_,rfl,rfl,tQ _ hLL⟩ hv;have hargs:(#[Value.int .i64 (i':Int),Value.int .i64 (j':Int)] ++ r.toArray)=(Value.int .i64 (i':Int) :: Value.int .i64 (j':Int) :: r).toArray:=by simp
   rw [hargs];refine hb.mono ?_;rintro e w' ⟨v,E2,rfl,QW,_,Cy⟩;have:=bN QW;subst this;exact ⟨rfl,Cy rfl⟩
  ·intro j hj;have zc:j < D.length:=sU hj;rw [cO hw,Nat.zero_add,Sk];refine ⟨?_,?_⟩
   ·rw [getElem!_pos D.toArray j hj,<- hD];simp [zc,enc]
   ·simp [World.frozen?,hw]
end Go.Proofs.YtfdedoiiahbnnaaGreat
