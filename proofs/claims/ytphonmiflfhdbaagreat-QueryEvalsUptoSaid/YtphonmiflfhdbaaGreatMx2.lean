/- Part 2 of the proof: The evaluator 'go' is sound: the end of a call, the theorem; contracts; rules for branches, calls, loops; Rules for the evaluator: what is known made less, loops; A region that draws its order: where the operations with an effect are ordered among themselves, and what writes waits for all that reads, one run in the order of the text serves every order; The evaluator at regions that draw their order: one run in the order of the text; what is read is what was known at the region's beginning; A region that draws its order, in which two operations with an effect are not ordered: the run in either order of these two serves every order; Rules for the evaluator: a call that is handed the caller's own objects, to read them; Rules for the evaluator: objects that are written no more are frozen, ahead of a loop; Rules for the evaluator: a call that is handed one of the caller's objects, to write it; The table of this program's types, by which the evaluator goes; The program's functions are entered; The data of the document's types, plain, and as the evaluator has them; Names: the program's and the reference's functions say the same of a text; sort.Search; the program's table of texts: Find; The library's sort.Slice, laid at this program by the kit's tool (lay-plain; wip/tools/lay.sh); The order of the table; the closure handed to sort.Slice; sort.Slice of the table's places, at a call; names.New: the table. No condition. -/
import Derived.Scope
import Derived.Test.YtphonmiflfhdbaaGreatProg
import Derived.Shelf.GgSortFunc.Whole
import Derived.Shelf.GgSortFunc.Tiny
import Derived.Test.YtphonmiflfhdbaaGreatMx1
set_option linter.all false
namespace Go.Proofs.YtphonmiflfhdbaaGreat
namespace Dv
open Go Go.RowKit
structure Kc (E E':En) (bx:List (List DV)) (N:Nat):Prop where
 c:∀ a v,E.c a=some v->E'.c a=some v
 fz:∀ (i:Nat) cs,N<=i->bx[i]? = some cs->∃ b arr,E.β[i]? = some b/\RvC E cs arr/\∀ (j:Nat) u,arr[j]? = some u->E'.c ⟨b,j,none⟩=some u
theorem Kc.cl {E E':En} {bx:List (List DV)} {N:Nat} (h:Kc E E' bx N):Kc E E'.cl bx N:=⟨h.c,h.fz⟩
structure Iq (E E':En) (n0 m0:Nat):Prop where
 β:∀ (i:Nat) b,i < n0->E.β[i]? = some b->E'.β[i]? = some b
 tk:∀ k,k < m0->E'.tk[k]? = E.tk[k]? /\ E'.τ[k]? = E.τ[k]?
theorem Iq.zero (E E':En):Iq E E' 0 0:=⟨fun _ _ h=>absurd h (Nat.not_lt_zero _),fun _ h=>absurd h (Nat.not_lt_zero _)⟩
theorem Ext.OO (E:En):Ext E.cl E:=⟨fun _ _ h=>h,fun j b hj=>by simp [En.cl] at hj,fun k q hk=>by simp [En.cl] at hk⟩
theorem BJ {E E':En} (hm:∀ e b o es,RvEs E.cl e b o es->RvEs E'.cl e b o es):∀ {l:List DV} {arr:List Value},(∀ x∈l,(∃ y,x = .v y)∨∃ e' Bg,x = .sl e' Bg none)->RvL E l arr->RvL E' l arr
 | [],arr,_,h=>by simp only [RvL] at h ⊢;exact h
 | d :: r,arr,hs,h=>by
  simp only [RvL] at h ⊢;obtain ⟨v,s,rfl,h1,h2⟩:=h;refine ⟨v,s,rfl,?_,BJ hm (fun x hx=>hs x (gh _ hx)) h2⟩;rcases hs d (by simp) with ⟨y,rfl⟩ | ⟨e',Bg,rfl⟩
  ·unfold Rv at h1 ⊢;exact h1
  ·unfold Rv at h1 ⊢;obtain ⟨b,n,cap,h3,h4,h5,_⟩:=h1;exact ⟨b,n,cap,h3,h4,fun hn=>⟨(h5 hn).1,hm _ _ _ _ (h5 hn).2⟩,fun k hk=>by cases hk⟩
theorem CcL.length {bx:List (List DV)} {N n0 m0:Nat}:∀ {l' l:List DV},CcL bx N n0 m0 l' l->l'.length=l.length
 | [],l,h=>by simp only [CcL] at h;subst h;rfl
 | d' :: r',l,h=>by
  simp only [CcL] at h;obtain ⟨d,r,rfl,_,h2⟩:=h;simp [CcL.length h2]
theorem CcE.length {bx:List (List DV)} {N:Nat}:∀ {l' l:List (List DV)},CcE bx N l' l->l'.length=l.length
 | [],l,h=>by simp only [CcE] at h;subst h;rfl
 | d' :: r',l,h=>by
  simp only [CcE] at h;obtain ⟨d,r,rfl,_,h2⟩:=h;simp [CcE.length h2]
mutual
theorem Cc.sound {bx:List (List DV)} {N:Nat} {E:En}:∀ {d':DV} {E':En} {n0 m0:Nat} {d:DV} {v:Value},Kc E E' bx N->Iq E E' n0 m0->Cc bx N n0 m0 d' d->Rv E d v->Rv E' d' v
 | .v y,E',n0,m0,d,v,hf,hl,h,hv=>by grind [Cc,Rv]
 | .ud,E',n0,m0,d,v,hf,hl,h,hv=>by grind [Cc,Rv]
 | .agg l',E',n0,m0,d,v,hf,hl,h,hv=>by
  simp only [Cc] at h;obtain ⟨l,rfl,h⟩:=h;unfold Rv at hv ⊢;obtain ⟨vs,h1,h2,h3⟩:=hv;exact ⟨vs,h1,CcL.sound hf hl h h2,h3⟩
 | .tup l',E',n0,m0,d,v,hf,hl,h,hv=>by
  simp only [Cc] at h;obtain ⟨l,rfl,h⟩:=h;unfold Rv at hv ⊢;obtain ⟨vs,h1,h2⟩:=hv;exact ⟨vs,h1,CcL.sound hf hl h h2⟩
 | .sl e es tk,E',n0,m0,d,v,hf,hl,h,hv=>by
  have hm:∀ b o,RvEs E.cl e b o es->RvEs E'.cl e b o es:=fun b o hr=>RvEs.mono (Ext.GK hf.c) hr
  cases tk with
  | none=>
   simp only [Cc] at h;rcases h with ⟨rfl,rfl⟩ | ⟨cI,rfl⟩ | ⟨i,off,c,cs,rfl,hi,cV,Ir,mb,Od⟩ | ⟨es0,cI,rfl,h⟩
   ·have:=bQ hv;subst this;unfold Rv;exact ⟨none,0,0,rfl,⟨rfl,aW _⟩,fun hn=>(hn rfl).elim,fun k hk=>by cases hk⟩
   ·unfold Rv at hv ⊢;obtain ⟨b,n,cap,h1,h2,h3,_⟩:=hv;exact ⟨b,n,cap,h1,h2,fun hn=>⟨(h3 hn).1,hm _ _ (h3 hn).2⟩,fun k hk=>by cases hk⟩
   ·obtain ⟨b,arr,hb,hc,hmm⟩:=hf.fz i cs hi cV;unfold Rv at hv ⊢;obtain ⟨b',ad,fx,Vi,rfl,hca⟩:=hv;rw [hb] at fx;simp only [oI] at fx;subst fx;refine ⟨ad,es.length,c,rfl,⟨rfl,Vi⟩,fun hn=>?_,fun k hk=>by cases hk⟩;have pq:0 < es.length:=List.length_pos_iff.2 hn;have V9:=hca (by omega);subst V9;refine ⟨rfl,?_⟩;have h1:=(hc.drop off).take (es.length * e);rw [<- Ir] at h1;refine rvEs_flat ⟨BJ (E':=E'.cl) (fun e b o es hr=>(RvEs.mono (Ext.GK hf.c) hr:RvEs E'.cl e b o es)) Od h1.1,h1.2⟩ mb fun j u hj=>?_;rw [cg] at hj;split at hj
    ·rw [List.getElem?_drop] at hj;exact hmm (off + j) u hj
    ·cases hj
   ·have hlen:=CcE.length h;have hs:=fun b o=>CcE.sound (e:=e) (b:=b) (o:=o) hf h;unfold Rv at hv ⊢;obtain ⟨b,n,cap,h1,h2,h3,_⟩:=hv;refine ⟨b,n,cap,h1,by omega,fun hn=>?_,fun k hk=>by cases hk⟩
    grind
  | some k=>
   simp only [Cc] at h;obtain ⟨hk,rfl⟩:=h;unfold Rv at hv ⊢;obtain ⟨b,n,cap,h1,h2,h3,h4⟩:=hv;refine ⟨b,n,cap,h1,h2,fun hn=>⟨(h3 hn).1,hm _ _ (h3 hn).2⟩,fun k' gP=>?_⟩;cases gP;obtain ⟨e1,e2⟩:=hl.tk k hk;obtain ⟨q,h5,h6,h7⟩:=h4 k rfl
   grind
 | .pt cs' o,E',n0,m0,d,v,hf,hl,h,hv=>by
  simp only [Cc] at h;rcases h with rfl | ⟨i,cs,rfl,hi,cV,h⟩
  ·unfold Rv at hv ⊢;obtain ⟨b,p,h1,h2⟩:=hv;exact ⟨b,p,h1,RvAt.mono (Ext.GK hf.c) h2⟩
  ·obtain ⟨b,arr,hb,hc,hm⟩:=hf.fz i cs hi cV;unfold Rv at hv ⊢;obtain ⟨b',fx,rfl⟩:=hv;rw [hb] at fx;simp only [oI] at fx;subst fx;refine ⟨b,0,by simp,?_⟩;have:=CcL.sound hf.cl (Iq.zero E E'.cl) h hc.1;exact zI ⟨this,hc.2⟩ fun j u hj=>by rw [Nat.zero_add];exact hm j u hj
 | .loc i o,E',n0,m0,d,v,hf,hl,h,hv=>by
  simp only [Cc] at h;obtain ⟨hi,rfl⟩:=h;unfold Rv at hv ⊢;obtain ⟨b,hb,h1⟩:=hv;exact ⟨b,hl.β i b hi hb,h1⟩
 | .el i o,E',n0,m0,d,v,hf,hl,h,hv=>by
  simp only [Cc] at h;obtain ⟨hi,rfl⟩:=h;unfold Rv at hv ⊢;obtain ⟨b,hb,h1⟩:=hv;exact ⟨b,hl.β i b hi hb,h1⟩
 | .ms i e o l c,E',n0,m0,d,v,hf,hl,h,hv=>by
  simp only [Cc] at h;obtain ⟨hi,rfl⟩:=h;unfold Rv at hv ⊢;obtain ⟨b,ad,hb,h1⟩:=hv;exact ⟨b,ad,hl.β i b hi hb,h1⟩
 | .fn f a' b',E',n0,m0,d,v,hf,hl,h,hv=>by
  simp only [Cc] at h;obtain ⟨a,b,rfl,ha,hb⟩:=h;unfold Rv at hv ⊢;obtain ⟨l,r,h1,h2,h3⟩:=hv;exact ⟨l,r,h1,CcL.sound hf hl ha h2,CcL.sound hf hl hb h3⟩
 | .sj t x',E',n0,m0,d,v,hf,hl,h,hv=>by
  simp only [Cc] at h;obtain ⟨x,rfl,hx⟩:=h;unfold Rv at hv ⊢;obtain ⟨z,h1,h2⟩:=hv;exact ⟨z,h1,Cc.sound hf hl hx h2⟩
theorem CcL.sound {bx:List (List DV)} {N:Nat} {E:En}:∀ {l':List DV} {E':En} {n0 m0:Nat} {l:List DV} {vs:List Value},Kc E E' bx N->Iq E E' n0 m0->CcL bx N n0 m0 l' l->RvL E l vs->RvL E' l' vs
 | [],E',n0,m0,l,vs,hf,hl,h,hv=>by grind [CcL,RvL]
 | d' :: r',E',n0,m0,l,vs,hf,hl,h,hv=>by
  simp only [CcL] at h;obtain ⟨d,r,rfl,h1,h2⟩:=h;simp only [RvL] at hv ⊢;obtain ⟨v,s,h3,h4,h5⟩:=hv;exact ⟨v,s,h3,Cc.sound hf hl h1 h4,CcL.sound hf hl h2 h5⟩
theorem CcA.sound {bx:List (List DV)} {N:Nat} {E:En}:∀ {l':List DV} {E':En} {l:List DV} {b p:Nat},Kc E E' bx N->CcL bx N 0 0 l' l->RvAt E.cl b p l->RvAt E'.cl b p l'
 | [],E',l,b,p,hf,h,hv=>by simp only [RvAt]
 | d' :: r',E',l,b,p,hf,h,hv=>by
  simp only [CcL] at h;obtain ⟨d,r,rfl,h1,h2⟩:=h;simp only [RvAt] at hv ⊢;obtain ⟨⟨v,h3,h4,h5⟩,h6⟩:=hv;exact ⟨⟨v,hf.c _ _ h3,h4,Cc.sound hf.cl (Iq.zero E E'.cl) h1 (Rv.mono (Ext.OO E) h5)⟩,CcA.sound hf h2 h6⟩
theorem CcE.sound {bx:List (List DV)} {N:Nat} {E:En}:∀ {l':List (List DV)} {E':En} {l:List (List DV)} {e b o:Nat},Kc E E' bx N->CcE bx N l' l->RvEs E.cl e b o l->RvEs E'.cl e b o l'
 | [],E',l,e,b,o,hf,h,hv=>by simp only [RvEs]
 | a' :: r',E',l,e,b,o,hf,h,hv=>by
  simp only [CcE] at h;obtain ⟨a,r,rfl,h1,h2⟩:=h;simp only [RvEs] at hv ⊢;obtain ⟨h3,h4,h5⟩:=hv;refine ⟨?_,?_,CcE.sound hf h2 h5⟩
  ·grind [CcL.length]
  ·rcases h1 with rfl | h1
   ·exact RvAt.mono (Ext.GK hf.c) h4
   ·exact CcA.sound hf h1 h4
end
theorem Q5 {E:En} {e:Nat} {es Bg:List (List DV)} {tk:Option Nat} {v:Value} (h:CcE [] 0 Bg es) (hv:Rv E (.sl e es tk) v):Rv E (.sl e Bg tk) v:=by
 have hlen:=CcE.length h;have hs:=fun b o=>CcE.sound (E:=E) (E':=E) (bx:=[]) (N:=0) (e:=e) (b:=b) (o:=o) ⟨fun _ _ h=>h,fun i cs _ hi=>by simp at hi⟩ h
 grind [Rv]
theorem l7.get {bx:List (List DV)} {N n0 m0:Nat}:∀ {l' l:List (List DV)},l7 bx N n0 m0 l' l->l'.length=l.length/\∀ (i:Nat) cs',l'[i]? = some cs' -> ∃ cs,l[i]? = some cs/\CcL bx N n0 m0 cs' cs
 | [],l,h=>by simp only [l7] at h;subst h;exact ⟨rfl,by simp⟩
 | a' :: r',l,h=>by
  simp only [l7] at h;obtain ⟨a,r,rfl,h1,h2⟩:=h;obtain ⟨h3,h4⟩:=l7.get h2
  grind
open Classical in
noncomputable def qW (E:En) (n:Nat) (w:World):Addr->Option Value:=
 fun a=>if ∃ i:Nat,n<=i/\E.β[i]? = some a.block then w.cell? a else E.c a
section
variable {X:Ctx} {E:En} {st:St} {a:Act} {w:World}
theorem ei {n:Nat} {x:Addr} {v:Value} (h:qW E n w x=some v):((∃ i:Nat,n<=i/\E.β[i]? = some x.block)/\w.cell? x=some v)∨E.c x=some v:=by
 unfold qW at h;split at h
 all_goals grind
theorem lm {bx:List (List DV)} (h:Env E bx w) {n:Nat} {x:Addr} {v:Value} (hx:E.c x=some v):qW E n w x=some v:=by
 unfold qW;split
 ·exact h.sub x v hx
 ·exact hx
theorem zQ (h:Rel X E st a w) {d d':DV} {os:List (List DV)} {v:Value} (hv:Rv E d v) (M:Nat) (hM:(X.fr=false/\M=X.m0)∨(X.fr=true/\M=st.tk.length)) (hd:Cc st.bx X.n0 X.n0 M d' d) (Et:l7 st.bx X.n0 X.n0 M os (st.bx.take X.n0)) (hΦ:X.Φ d' os (st.tk.take M)):BA X.still X.E0 X.w0 X.Φ v w X.fr:=by
 obtain ⟨r,S3,hβl⟩:=h.nw.β;have iP:E.β.take X.n0=X.E0.β:=by rw [S3,<- X.mj];simp
 have ji:∀ (i:Nat) b,i < X.n0->E.β[i]? = some b->X.E0.β[i]? = some b:=fun i b hi hb=>by grind
 have ef:∀ (i:Nat) b,X.n0<=i->E.β[i]? = some b->b∈r:=fun i b hi hb=>by grind
 have S4:∀ b,b∈X.E0.β->b∈r->False:=fun b h1 h2=>by
  have:=h.env.inj
  grind
 have hE0l:X.E0.τ.length=X.m0:=by rw [h.nw.l0,X.l8]
 have hEt:X.m0<=E.tk.length:=by
  rcases Nat.lt_or_ge E.tk.length X.m0 with h1 | h1
  ·have hk:E.tk.length < X.E0.tk.length:=by rw [X.l8];exact h1
   have gP:E.tk.length < X.E0.τ.length:=by rw [h.nw.l0];exact hk
   obtain ⟨q',y',h2,_⟩:=h.nw.tk E.tk.length _ _ (gE hk) (gE gP)
   grind
  ·exact h1
 have hMm:X.m0<=M/\M<=E.tk.length:=by
  rcases hM with ⟨_,rfl⟩ | ⟨_,rfl⟩
  ·exact ⟨aW _,hEt⟩
  ·rw [<- h.tk];exact ⟨hEt,aW _⟩
 have Vl:tkL X.fr (E.tk.take M).length X.E0.tk.length:=by
  rw [ez];rcases hM with ⟨hf,rfl⟩ | ⟨hf,rfl⟩
  ·rw [hf];show min _ _=_;rw [X.l8];omega
  ·rw [hf];show _<=min _ _;rw [X.l8];omega
 let E':En:=⟨qW E X.n0 w,X.E0.β,E.tk.take M,E.τ.take M⟩
 have OP:Kc E E' st.bx X.n0:={
  c:=fun x u hx=>lm h.env hx
  fz:=fun i cs hi cV=>by
   obtain ⟨b,ty,arr,hb,hw,hc⟩:=h.env.eQ i cs cV;refine ⟨b,arr,hb,hc,fun j u hj=>?_⟩;show qW E X.n0 w ⟨b,j,none⟩=some u;unfold qW;rw [ai ⟨i,hi,hb⟩,cy hw]
   simpa using hj }
 have zR:Iq E E' X.n0 M:={
  β:=ji
  tk:=fun k hk=>⟨by show (E.tk.take M)[k]? = _;rw [cg,ai hk],by show (E.τ.take M)[k]? = _;rw [cg,ai hk]⟩ }
 obtain ⟨kX,Wi⟩:=Et.get;refine ⟨h.fr,h.sh,d',os,E',?_,rfl,Vl,?_,hd.sound OP zR hv,by show X.Φ d' os (E.tk.take M);rw [h.tk];exact hΦ⟩
 ·exact {
   len:=by
    show X.E0.β.length=os.length;rw [kX,X.mj,ez]
    have:X.n0<=st.bx.length:=by
     rw [<- h.env.len,S3,List.length_append,X.mj];omega
    omega
   tl:=by simp only [E',ez];rw [h.env.tl]
   eQ:=fun i cs' hi=>by
    obtain ⟨cs,cV,uz⟩:=Wi i cs' hi;rw [cg] at cV;split at cV
    ·rename_i av;obtain ⟨b,ty,arr,hb,hw,hc⟩:=h.env.eQ i cs cV;exact ⟨b,ty,arr,ji i b av hb,hw,CcL.sound OP zR uz hc.1,hc.2⟩
    ·cases cV
   inj:=by rw [<- iP];exact h.env.inj.sublist (List.take_sublist _ _)
   sub:=fun x u hx=>by
    rcases ei hx with ⟨_,h1⟩ | h1
    ·exact h1
    ·exact h.env.sub x u h1
   pc:=fun x u hx hm=>by
    rcases ei hx with ⟨⟨i,hi,hb⟩,_⟩ | h1
    ·exact S4 _ hm (ef i _ hi hb)
    ·refine h.env.pc x u h1 ?_;rw [S3];exact List.mem_append.2 (.inl hm)
   cQ:=fun k q y hq hy=>by
    simp only [E',cg] at hq hy;split at hq
    ·rename_i hk;rw [ai hk] at hy;rcases h.env.cQ k q y hq hy with h1 | ⟨g,cap,cur,rfl,h1,h2,h3,h4,h5,h6⟩
     ·exact .inl h1
     ·refine .inr ⟨g,cap,cur,rfl,h1,⟨h2.1,h2.2.mono fun _ _ hx=>lm h.env hx⟩,h3,h4,fun hm=>h5 (by rw [S3];exact List.mem_append.2 (.inl hm)),fun x u hx hg=>?_⟩;rcases ei hx with ⟨⟨i,hi,hb⟩,_⟩ | h7
      all_goals grind
    ·cases hq
   jD:=fun k k' y y' g xC hy gQ=>by
    simp only [E',cg] at hy gQ;split at hy
    ·split at gQ
     ·exact h.env.jD k k' y y' g xC hy gQ
     ·cases gQ
    ·cases hy }
 ·exact {
   c:=fun x u hx=>lm h.env (h.nw.c x u hx)
   cn:=fun x u hx=>by
    rcases ei hx with ⟨⟨i,hi,hb⟩,_⟩ | h1
    ·exact .inr (.inl (hβl _ (ef i _ hi hb)))
    ·exact h.nw.cn x u h1
   β:=⟨[],by simp [E'],by simp⟩
   tk:=fun k q y hq hy=>by
    obtain ⟨q',y',h1,h2,h3⟩:=h.nw.tk k q y hq hy
    grind
   tn:=fun k y g hk hy hg=>by
    simp only [E',cg] at hy;split at hy
    ·exact h.nw.tn k y g hk hy hg
    ·cases hy
   l0:=h.nw.l0 }
def resOf (tmps:Array Value):ResultVar->Sem Value
 | .tmp t=>pure (tmps.getD t undef)
 | .cell x t=>do loadVar t (<- asAddr (tmps.getD x undef))
theorem Ex (fn:Func) (tmps:Array Value):results fn tmps=(do let vs <- fn.results.mapM (resOf tmps);pure (if h:vs.size=1 then vs[0] else .tuple vs)):=by
 unfold results;congr 2
theorem Ey (h:Rel X E st a w) {r:ResultVar} {d:DV} (hr:res1 X.T st r=some d):∃ v,Rv E d v/\(resOf a.tmps r).run X.P w = .ok v w:=by
 cases r with
 | tmp t=>
  simp only [res1] at hr;split at hr
  ·rename_i x hg;simp only [oI] at hr;subst hr;obtain ⟨v,h1,h2⟩:=(h.tm t _ hg).1 (bh _);exact ⟨v,h2,by simp [resOf,Array.getD_eq_getD_getElem?,h1]⟩
  ·cases hr
 | cell x t=>
  simp only [res1] at hr;split at hr
  ·rename_i i off hg;split at hr
   ·rename_i cs cV;obtain ⟨v,h1,h2⟩:=(h.tm x _ hg).1 (bh _);unfold Rv at h2;obtain ⟨b,hb,rfl⟩:=h2;obtain ⟨b',Ek,arr,fx,hw,hc⟩:=h.env.eQ i cs cV;rw [hb] at fx;simp only [oI] at fx;subst fx;obtain ⟨v,hv,hl⟩:=lf X.hT hc (b:=b) (p:=0) hr;have hl:=hl w fun j u hj=>by rw [cy hw];simpa using hj
    rw [Nat.zero_add] at hl;exact ⟨v,hv,by simp only [resOf,Array.getD_eq_getD_getElem?,h1,Option.getD_some,asAddr,Sem.run_bind,Sem.run_pure,Result.andThen_ok,hl]⟩
   ·cases hr
  ·cases hr
theorem ln (h:Rel X E st a w):∀ {rs:List ResultVar} {ds:List DV},resD X.T st rs=some ds->∃ vs,RvL E ds vs/\(rs.mapM (resOf a.tmps)).run X.P w = .ok vs w
 | [],ds,hr=>by
  simp only [resD,oI] at hr;subst hr;exact ⟨[],cx E,rfl⟩
 | r :: rs,ds,hr=>by
  simp only [resD] at hr;split at hr
  ·rename_i d l hd hl;simp only [oI] at hr;subst hr;obtain ⟨v,hv,h1⟩:=Ey h hd;obtain ⟨vs,xD,h2⟩:=ln h hl;refine ⟨v :: vs,rvL_cons hv xD,?_⟩
   simp_all
  ·cases hr
theorem oq (h:Rel X E st a w) {d:DV} {v:Value} (hv:Rv E d v) (hf:finD X st d):BA X.still X.E0 X.w0 X.Φ v w X.fr:=by
 unfold finD at hf;split at hf
 ·grind [zQ]
 ·rename_i hfr;split at hf
  ·rename_i hn hm
   have key:∀ d',Cc st.bx 0 0 0 d' d->X.Φ d' [] []->BA X.still X.E0 X.w0 X.Φ v w X.fr:=fun d' hd hΦ=>
    zQ h hv (d':=d') (os:=[]) X.m0 (.inl ⟨hfr,rfl⟩) (by rw [hn,hm];exact hd) (by rw [hn];simp [l7]) (by rw [hm];exact hΦ)
   grind [Cc]
  ·grind [zQ]
theorem ye (h:Rel X E st a w) (hf:fin X st):kq X [] .ret a w:=by
 have Bl:X.fn.results=X.rs.toArray:=by rw [<- X.xB]
 simp only [kq];refine ⟨h.df,?_⟩
 have hbt:nK X.bt X.E0.β w:=fun p hp b hb=>by
  obtain ⟨r,hr,_⟩:=h.nw.β;exact h.bt p hp b (by rw [hr,fk (gS hb).1];exact hb)
 unfold fin at hf
 have KL:∀ (ds:List DV) (vs:List Value),(X.rs.mapM (resOf a.tmps)).run X.P w = .ok vs w->(results X.fn a.tmps).run X.P w = .ok (if h:vs.toArray.size=1 then vs.toArray[0] else .tuple vs.toArray) w:=by
  intro ds vs hv;rw [Ex,Bl]
  simp_all
 split at hf
 ·rename_i hr;obtain ⟨vs,xD,h1⟩:=ln h hr;simp only [RvL] at xD;subst xD;exact ⟨_,KL [] [] h1,oq h (v:=.tuple #[]) (by unfold Rv;exact ⟨[],rfl,cx E⟩) hf,hbt⟩
 ·rename_i d hr;obtain ⟨vs,xD,h1⟩:=ln h hr;have hl:=xD.length;simp only [RvL] at xD;obtain ⟨v,s,rfl,hv,rfl⟩:=xD;exact ⟨_,KL [d] [v] h1,oq h (v:=v) hv hf,hbt⟩
 ·rename_i d e l hr;obtain ⟨vs,xD,h1⟩:=ln h hr;have hl:=xD.length;have bg:¬ vs.toArray.size=1:=by simp at hl ⊢;omega
  have h2:=KL [] vs h1;rw [dif_neg bg] at h2;exact ⟨_,h2,oq h (v:=.tuple vs.toArray) (by unfold Rv;exact ⟨vs,rfl,xD⟩) hf,hbt⟩
 ·exact hf.elim
theorem uA:∀ (k:List It) (a:Act) (w:World),kq X [] .ret a w->kq X k .ret a w
 | [],_,_,h=>h
 | .code _ :: k,a,w,h=>uA k a w h
 | .ops _ _ :: k,a,w,h=>uA k a w h
 | .Bz _ :: k,a,w,h=>uA k a w h
 | .Eh _ :: k,a,w,h=>uA k a w h
theorem pv {id:Nat}:∀ (k k':List It) (a:Act) (w:World),dropBlk id k=some k' -> kq X k' .normal a w->kq X k (.exit id) a w
 | [],k',a,w,hd,_=>by simp [dropBlk] at hd
 | .code _ :: k,k',a,w,hd,h=>by simp only [dropBlk] at hd;exact pv k k' a w hd h
 | .ops _ _ :: k,k',a,w,hd,h=>by simp only [dropBlk] at hd;exact pv k k' a w hd h
 | .Eh _ :: k,k',a,w,hd,h=>by simp only [dropBlk] at hd;exact pv k k' a w hd h
 | .Bz i :: k,k',a,w,hd,h=>by
  simp only [dropBlk] at hd;split at hd
  ·simp_all [kq]
  ·rename_i hi
   have hi:id≠i:=by
    rintro rfl;rw [Nat.beq_refl] at hi;cases hi
   simp only [kq];rw [ah hi];exact pv k k' a w hd h
theorem Is {P:Program} {o:Oper} {a:Act} {K K':Act->World->Prop} {Q Q':Exit->Act->World->Prop} (hK:∀ a w,K a w->K' a w) (hQ:∀ e a w,Q e a w->Q' e a w)
  {r:Result Next} (h:o.upon P a K Q r):o.upon P a K' Q' r:=by
 unfold Oper.upon at *;split<;>simp_all
 ·refine h.mono ?_;intro e w' hq
  cases e with
  | returned v=>exact hK _ _ hq
  | panicked c=>exact hQ _ _ _ hq
  | outgrown=>obtain ⟨a,w,hq⟩:=hq;exact ⟨a,w,hQ _ _ _ hq⟩
 ·exact h.mono fun v w' hq=>hK _ _ hq
theorem BK {P:Program} {o:Oper} {a:Act} {K K':Act->World->Prop} {Q Q':Exit->Act->World->Prop} {w:World} (hK:∀ a w,K a w->K' a w) (hQ:∀ e a w,Q e a w->Q' e a w)
  (h:o.wp P a w K Q):o.wp P a w K' Q':=Is hK hQ h
theorem pw {l:Nat}:∀ (k:List It) (a:Act) (w:World),kq X k (.goto l) a w->False
 | [],a,w,h=>by simp [kq] at h
 | .code _ :: k,a,w,h=>pw k a w (by simpa only [kq] using h)
 | .ops _ _ :: k,a,w,h=>pw k a w (by simpa only [kq] using h)
 | .Bz _ :: k,a,w,h=>pw k a w (by simpa only [kq] using h)
 | .Eh _ :: k,a,w,h=>pw k a w (by simpa only [kq] using h)
theorem KM (k:List It) (e:Exit) (a:Act) (w:World) (h:kq X k e a w):Exit.noGoto (kq X k) e a w:=by
 cases e with
 | goto l=>exact (pw k a w h).elim
 | _=>exact h
theorem dN (c:Code) (k:List It) (a:Act) (w:World):kq X (.code c :: k) .normal a w=c.wp X.P (kq X k) a w:=rfl
theorem OQ (c:Code) (k:List It):kq X (.code c :: k)=Exit.then (c.wp X.P (kq X k)) (kq X k):=by
 funext e a w;cases e<;>rfl
theorem S5 (id:Nat) (k:List It) (e:Exit) (a:Act) (w:World) (h:kq X (.Bz id :: k) e a w):Exit.inBlock id (kq X k) e a w:=by
 cases e<;>exact h
theorem wanted_spec (h:Rel X E st a w) {all:Array Oper} {o:Oper} {j d:Nat} {want:Bool} {kV:List (Nat × Bool)} {sd:DV} (OR:o.guard=some (j,want)) (Ii:gslot all.toList j=some d) (Q6:get st.sl d=some ⟨kV,sd⟩) :
  Region.wanted o (yielded all a.tmps)=true↔Holds a.tmps ((d,want) :: kV):=by
 have S6:yielded all a.tmps j=match a.tmps[d]? with | some (.bool b)=>some b | _=>none:=by
  unfold gslot at Ii;split at Ii
  ·rename_i oj hoj;have hoj':all[j]? = some oj:=sU hoj;simp only [yielded,hoj',Ii,Option.bind_some]
   grind
  ·cases Ii
 have htd:=h.tm d _ Q6;simp only [Region.wanted,OR,S6];constructor
 ·intro hw;have hb:a.tmps[d]? = some (.bool want):=by grind
  refine jE hb ?_;by_cases hh:Holds a.tmps kV
  ·exact hh
  ·have:=htd.2 hh;rw [hb] at this;simp [undef] at this
 ·intro hh;have:=hh (d,want) (by simp);simp only at this;rw [this];simp
theorem BL (h:Rel X E st a w) {t:Nat} {b:Bool} (hg:get st.sl t=some ⟨[],.v (.bool b)⟩):a.tmps[t]? = some (.bool b):=by
 obtain ⟨v,h1,h2⟩:=(h.tm t _ hg).1 (bh _);rw [h1,jF h2]
theorem KN (h:Rel X E st a w) {t:Nat} (hg:get st.sl t=some ⟨[],.ud⟩):a.tmps[t]? = some undef:=by
 obtain ⟨v,h1,h2⟩:=(h.tm t _ hg).1 (bh _);unfold Rv at h2;rw [h1,h2]
theorem uB {G:List (Nat × Bool)} {dst:Option Nat} (bF:okG G dst=true):∀ e,dst=some e->∀ p∈G,p.1≠e:=by
 intro e he p hp dx;rw [he] at bF;have:=(List.all_eq_true.1 bF) p hp;rw [dx] at this;simp at this
theorem go_sound:∀ n,Snd X (go X n)
 | 0=>fun k st hg=>hg.elim
 | n + 1=>by
  have ih:=go_sound n;intro k st hg E a w h
  match k with
  | []=>exact ye h (by simpa [go] using hg)
  | .Bz id :: k=>exact ih k st (by simpa [go] using hg) E a w h
  | .Eh J :: k=>exact ⟨st,E,h,by simpa [go] using hg⟩
  | .ops all [] :: k=>exact ih k st (by simpa [go] using hg) E a w h
  | .ops all (o :: r) :: k=>
   simp only [go,nh,GJ] at hg;split at hg
   ·exact hg.elim
   ·rename_i hd;split at hg
    ·rename_i OR;simp only [kq,wpList,Region.wanted,OR,if_true];split at hg
     ·rename_i s hs;obtain ⟨v,hv,ch⟩:=ic X.hT h.rl (bh _) hs;exact .inl (kB (ch w fun _=>rfl) (ih _ _ hg E _ w (bB h hd s v hv)))
     ·exact .inl (BK (fun a w hk=>hk) (fun e a w hq=>hq.elim) (yd ih hd h hg))
    ·rename_i j want OR;split at hg
     ·exact hg.elim
     ·rename_i d Ii;split at hg
      ·exact hg.elim
      ·rename_i kV sd Q6;have uC:=wanted_spec h OR Ii Q6;simp only [kq,wpList];split at hg
       ·rename_i s hs;split at hg
        case h_2=>exact hg.elim
        rename_i bF;split
        ·rename_i hw;have hh:=uC.1 hw;obtain ⟨v,hv,ch⟩:=ic X.hT h.rl hh hs;exact .inl (kB (ch w fun _=>rfl) (ih _ _ hg E _ w (pk h hd _ s v (uB bF) (fun _=>hv) (fun hn=>(hn hh).elim))))
        ·rename_i hw;have hh:¬ Holds a.tmps ((d,want) :: kV):=fun hh=>hw (uC.2 hh);exact ih _ _ hg E _ w (pk h hd _ s undef (uB bF) (fun hn=>(hh hn).elim) (fun _=>rfl))
       ·split at hg
        ·rename_i b iP;have ht0:=BL h iP
         cases kV with
         | nil=>
          simp only [lastG] at iP ht0;cases Iu:(b == want)
          ·have Ez:b = !want:=by cases b<;>cases want<;>simp_all
           have hg:=hg.f Iu
           have hn:¬ Region.wanted o (yielded all a.tmps)=true:=by
            intro hw;have:=(uC.1 hw) (d,want) (by simp)
            grind
           rw [ah hn];have hr:=j2 (d:=d) (b:=!want) h (by rw [ht0,Ez]);exact ih _ _ hg E _ w (bB hr (j3 hd) .ud undef (sm E))
          ·have Q7:b=want:=sU Iu;have hg:=hg.t Iu;subst Q7;have hw:Region.wanted o (yielded all a.tmps)=true:=uC.2 (jE ht0 (bh _));rw [ai hw];have hr:=j2 (d:=d) (b:=b) h ht0;exact .inl (BK (fun a w hk=>hk) (fun e a w hq=>hq.elim) (yd ih (j3 hd) hr hg))
         | cons g1 gr=>
          have key:∀ c,a.tmps[(lastG (d,want) (g1 :: gr)).1]? = some (.bool c)->go X n (.ops all (o :: r) :: k) (st.resolve (lastG (d,want) (g1 :: gr)).1 c)->wpList X.P all (kq X k) (o :: r) a w:=
           fun c hc jc=>ih _ _ jc E a w (j2 h hc)
          cases Iu:(b == (lastG (d,want) (g1 :: gr)).2)
          ·have hg:=hg.f Iu;have Ez:b = !(lastG (d,want) (g1 :: gr)).2:=by cases b<;>cases h0:(lastG (d,want) (g1 :: gr)).2<;>simp_all
           have:=key _ (by rw [ht0,Ez]) hg;simpa [wpList] using this
          ·have hg:=hg.t Iu;have Q7:b=(lastG (d,want) (g1 :: gr)).2:=sU Iu;have:=key _ (by rw [ht0,Q7]) hg;simpa [wpList] using this
        ·rename_i iP
         cases kV with
         | nil=>
          have ht0:=KN h iP;simp only [lastG] at ht0
          have hn:¬ Region.wanted o (yielded all a.tmps)=true:=by
           intro hw;have:=(uC.1 hw) (d,want) (by simp);simp only at this;rw [ht0] at this;simp [undef] at this
          rw [ah hn];exact ih _ _ hg E _ w (bB h hd .ud undef (sm E))
         | cons g1 gr=>exact hg.elim
        ·exact hg.elim
  | .code c :: k=>
   rw [dN]
   cases c with
   | skip=>exact wp_skip (ih k st (by simpa [go] using hg) E a w h)
   | seq x y=>
    have:=ih (.code x :: .code y :: k) st (by simpa [go] using hg) E a w h;rw [dN,OQ] at this;exact wp_seq this
   | block id b=>
    have:=ih (.code b :: .Bz id :: k) st (by simpa [go] using hg) E a w h;rw [dN] at this;exact wp_block (wp_mono this (S5 id k))
   | exit id=>
    simp only [go] at hg;split at hg
    ·rename_i k' hk;exact wp_exit (pv k k' a w hk (ih k' st hg E a w h))
    ·exact hg.elim
   | cond x p q=>
    simp only [go] at hg;split at hg
    ·rename_i b hb;refine wp_cond (t:=b) (by rw [jF (aX h.rl hb)]) ?_;cases iP:b
     ·exact ih (.code q :: k) st (hg.f iP) E a w h
     ·exact ih (.code p :: k) st (hg.t iP) E a w h
    ·exact hg.elim
   | region id ops d=>
    simp only [go] at hg;cases d
    ·exact wp_region_list (ih (.ops ops ops.toList :: k) st hg E a w h)
    ·exact hg E a w h
   | loop b=>exact (by simpa [go] using hg:nS X b k st) E a w h
   | ret=>exact wp_ret (uA k a w (ye h (by simpa [go] using hg)))
   | scope c=>
    have:=ih (.code c :: k) st (by simpa [go] using hg) E a w h;rw [dN] at this;exact wp_scope_straight (wp_mono this (KM k))
   | label l=>exact wp_label (ih k st (by simpa [go] using hg) E a w h)
   | _=>simp [go] at hg
theorem BM {fn:Func} (Bl:X.fn=fn) (e:Exit) (a:Act) (w:World) (h:kq X [] e a w):bodyPost X.P fn (fun e w'=>∃ v,e = .returned v/\BA X.still X.E0 X.w0 X.Φ v w' X.fr/\nK X.bt X.E0.β w') e a w:=by
 subst Bl
 cases e with
 | normal=>obtain ⟨h1,v,h2,h3⟩:=h;exact ⟨h1,v,h2,v,rfl,h3⟩
 | ret=>obtain ⟨h1,v,h2,h3⟩:=h;exact ⟨h1,v,h2,v,rfl,h3⟩
 | exit _=>exact h.elim
 | goto _=>exact h.elim
 | panic _=>exact h.elim
 | outgrown=>exact h.elim
end
def Vm (s:Bool) (P:Program) (f:FuncId) (args:List DV) (os:List (List DV)) (cQ:List TkE) (Φ:DV->List (List DV)->List TkE->Prop) (fr:Bool:=false):Prop:=
 ∀ (E:En) (w:World) (vs:List Value),Env E os w->E.tk=cQ->RvL E args vs->Calls P f vs.toArray w fun e w'=>∃ v,e = .returned v/\BA s E w Φ v w' fr
def Ev (P:Program) (f:FuncId) (args:List DV) (os:List (List DV)) (cQ:List TkE) (Φ:DV->List (List DV)->List TkE->Prop):Prop:=Vm false P f args os cQ Φ
def EvS (P:Program) (f:FuncId) (args:List DV) (os:List (List DV)) (cQ:List TkE) (Φ:DV->List (List DV)->List TkE->Prop):Prop:=Vm true P f args os cQ Φ
def EvP (P:Program) (f:FuncId) (args:List DV) (d:DV):Prop:=Ev P f args [] [] fun d' _ _=>d'=d
def argSl:Nat->List DV->List (Nat × Sl)
 | _,[]=>[]
 | i,v :: r=>(i,⟨[],v⟩) :: argSl (i + 1) r
theorem yf:∀ (l:List DV) (i j:Nat) (x:Sl),get (argSl i l) j=some x->∃ v,x=⟨[],v⟩/\i<=j/\l[j - i]? = some v
 | [],_,_,_,h=>by simp [argSl,get] at h
 | v :: r,i,j,x,h=>by
  simp only [argSl,dh] at h;split at h
  ·grind
  ·rename_i Bi;obtain ⟨u,hu,fN,hg⟩:=yf r (i + 1) j x h
   grind
theorem Nw.refl {E:En} {bx:List (List DV)} {w:World} (h:Env E bx w):Nw E E w where
 c:=fun _ _ h=>h
 cn:=fun _ _ h=>.inl h
 β:=⟨[],by simp,by simp⟩
 tk:=fun k q y hq hy=>⟨q,y,hq,hy,rfl,rfl,.inl ⟨rfl,rfl⟩,.inl rfl⟩
 tn:=fun k y g hk hy=>by
  have:=(gS hy).1;rw [h.tl] at this;omega
 l0:=h.tl
def EvT (s:Bool) (P:Program) (f:FuncId) (args:List DV) (os:List (List DV)) (cQ:List TkE) (bt:List (Nat × TypeId)) (Φ:DV->List (List DV)->List TkE->Prop) (fr:Bool:=false):Prop:=
 ∀ (E:En) (w:World) (vs:List Value),Env E os w->E.tk=cQ->nK bt E.β w->RvL E args vs->Calls P f vs.toArray w fun e w'=>∃ v,e = .returned v/\BA s E w Φ v w' fr/\nK bt E.β w'
theorem OS {s:Bool} {P:Program} {f:FuncId} {fn:Func} {c:Code} {args:List DV} {os:List (List DV)} {cQ:List TkE} {Φ:DV->List (List DV)->List TkE->Prop} (bt:List (Nat × TypeId)) (mu:List Nat) (fr:Bool) (T:TT) (hT:T.ok P=true) (n nt:Nat) (rs:List ResultVar)
  (hf:P.funcs[f]? = some fn) (hb:fn.body=some c) (EA:fn.ntmps=nt) (xB:fn.results.toList=rs) (hlen:args.length<=nt)
  (h:∀ (E:En) (w:World) (hn:E.β.length=os.length) (hm:E.tk.length=cQ.length),go ⟨P,T,hT,fn,nt,rs,xB,w,E,os.length,cQ.length,hn,hm,s,Φ,bt,mu,fr⟩ n [.code c] ⟨argSl 0 args,os,cQ⟩):EvT s P f args os cQ bt Φ fr:=by
 intro E w vs hE mc iP hv;have hl:=hv.length;have hg:=h E w hE.len (by rw [mc]);refine calls_of_wp hf hb ?_
 have hs:=go_sound (X:=⟨P,T,hT,fn,nt,rs,xB,w,E,os.length,cQ.length,hE.len,by rw [mc],s,Φ,bt,mu,fr⟩) n _ _ hg E
  {tmps:=vs.toArray ++ Array.replicate (fn.ntmps - vs.toArray.size) undef,defers:=[] } w
  {env:=hE
   tk:=mc
   sz:=by simp [EA];omega
   tm:=by
    intro i x hx;obtain ⟨d,rfl,_,hd⟩:=yf args 0 i x hx;simp only [Nat.sub_zero] at hd;obtain ⟨v,tH,N9⟩:=hv.get hd
    grind [bh]
   df:=rfl
   nw:=Nw.refl hE
   fr:=⟨rfl,rfl,rfl,aW _,fun _ _ _=>rfl⟩
   sh:=fun _=>⟨0,rfl⟩
   bt:=iP }
 exact wp_mono hs (BM rfl)
theorem zS {s:Bool} {P:Program} {f:FuncId} {fn:Func} {c:Code} {args:List DV} {os:List (List DV)} {cQ:List TkE} {Φ:DV->List (List DV)->List TkE->Prop} (bt:List (Nat × TypeId)) (mu:List Nat) (hbt:∀ p∈bt,os.length<=p.1) (fr:Bool) (T:TT) (hT:T.ok P=true) (n nt:Nat) (rs:List ResultVar)
  (hf:P.funcs[f]? = some fn) (hb:fn.body=some c) (EA:fn.ntmps=nt) (xB:fn.results.toList=rs) (hlen:args.length<=nt)
  (h:∀ (E:En) (w:World) (hn:E.β.length=os.length) (hm:E.tk.length=cQ.length),go ⟨P,T,hT,fn,nt,rs,xB,w,E,os.length,cQ.length,hn,hm,s,Φ,bt,mu,fr⟩ n [.code c] ⟨argSl 0 args,os,cQ⟩):Vm s P f args os cQ Φ fr:=fun E w vs hE mc hv=>(OS bt mu fr T hT n nt rs hf hb EA xB hlen h E w vs hE mc (fun p hp b hb=>by
  have h1:=hbt p hp;have h2:=(gS hb).1;have h3:=hE.len
  omega) hv).mono fun _ _ ⟨v,h1,h2,_⟩=>⟨v,h1,h2⟩
theorem OT {s:Bool} {P:Program} {f:FuncId} {fn:Func} {c:Code} {args:List DV} {os:List (List DV)} {cQ:List TkE} {Φ:DV->List (List DV)->List TkE->Prop} (bt:List (Nat × TypeId)) (hbt:∀ p∈bt,os.length<=p.1) (T:TT) (hT:T.ok P=true) (n nt:Nat) (rs:List ResultVar)
  (hf:P.funcs[f]? = some fn) (hb:fn.body=some c) (EA:fn.ntmps=nt) (xB:fn.results.toList=rs) (hlen:args.length<=nt)
  (h:∀ (E:En) (w:World) (hn:E.β.length=os.length) (hm:E.tk.length=cQ.length),go ⟨P,T,hT,fn,nt,rs,xB,w,E,os.length,cQ.length,hn,hm,s,Φ,bt,[],false⟩ n [.code c] ⟨argSl 0 args,os,cQ⟩):Vm s P f args os cQ Φ:=
 zS bt [] hbt false T hT n nt rs hf hb EA xB hlen h
theorem KO {s:Bool} {P:Program} {f:FuncId} {fn:Func} {c:Code} {args:List DV} {os:List (List DV)} {cQ:List TkE} {Φ:DV->List (List DV)->List TkE->Prop} (T:TT) (hT:T.ok P=true) (n nt:Nat) (rs:List ResultVar)
  (hf:P.funcs[f]? = some fn) (hb:fn.body=some c) (EA:fn.ntmps=nt) (xB:fn.results.toList=rs) (hlen:args.length<=nt)
  (h:∀ (E:En) (w:World) (hn:E.β.length=os.length) (hm:E.tk.length=cQ.length),go ⟨P,T,hT,fn,nt,rs,xB,w,E,os.length,cQ.length,hn,hm,s,Φ,[],[],false⟩ n [.code c] ⟨argSl 0 args,os,cQ⟩):Vm s P f args os cQ Φ:=
 OT [] (fun p hp=>by cases hp) T hT n nt rs hf hb EA xB hlen h
theorem Wj {P:Program} {f:FuncId} {fn:Func} {c:Code} {args:List DV} {os:List (List DV)} {cQ:List TkE} {Φ:DV->List (List DV)->List TkE->Prop} (T:TT) (hT:T.ok P=true) (n nt:Nat) (rs:List ResultVar)
  (hf:P.funcs[f]? = some fn) (hb:fn.body=some c) (EA:fn.ntmps=nt) (xB:fn.results.toList=rs) (hlen:args.length<=nt)
  (h:∀ (E:En) (w:World) (hn:E.β.length=os.length) (hm:E.tk.length=cQ.length),go ⟨P,T,hT,fn,nt,rs,xB,w,E,os.length,cQ.length,hn,hm,false,Φ,[],[],false⟩ n [.code c] ⟨argSl 0 args,os,cQ⟩):Ev P f args os cQ Φ:=
 KO T hT n nt rs hf hb EA xB hlen h
theorem Ev.mono {P:Program} {f:FuncId} {args:List DV} {os:List (List DV)} {cQ:List TkE} {Φ Ψ:DV->List (List DV)->List TkE->Prop} (h:Ev P f args os cQ Φ) (hΦ:∀ d o t,Φ d o t->Ψ d o t):Ev P f args os cQ Ψ:=by
 intro E w vs h1 h2 h3;refine (h E w vs h1 h2 h3).mono ?_;rintro e w' ⟨v,rfl,h4,hs,d,o,E',h5,h6,h7,h8,h9,kA⟩;exact ⟨v,rfl,h4,hs,d,o,E',h5,h6,h7,h8,h9,hΦ _ _ _ kA⟩
theorem Ev.Wl {P:Program} {f:FuncId} {args:List DV} {os:List (List DV)} {cQ:List TkE} {Φ:DV->List (List DV)->List TkE->Prop} {bt:List (Nat × TypeId)} (h:Ev P f args os cQ Φ) (hb:bt=[]):EvT false P f args os cQ bt Φ:=fun E w vs h1 h2 _ h4=>
 (h E w vs h1 h2 h4).mono fun _ _ ⟨v,h5,h6⟩=>⟨v,h5,h6,.nil hb⟩
theorem br {b:Bool} {A B:Prop} (h1:b=true->A) (h2:b=false->B):@Bool.rec (fun _=>Prop) B A b:=by
 cases b
 ·exact h2 rfl
 ·exact h1 rfl
section
variable {X:Ctx} {st:St} {k:List It} {E:En} {a:Act} {w:World}
theorem Iv (h:Rel X E st a w) (bi:X.still=false) {E2:En} {w':World} (hm:ta (E.cl).S w w') (he:Env E2 [] w') (hn:Nw E.cl E2 w):Rel X ⟨E2.c,E.β,E.tk,E.τ⟩ st a w':=by
 have hh:∀ i,i < w.heap.size->w'.heap[i]? = w.heap[i]?:=fun i hi=>hm.block i hi (by
  rintro (h1 | ⟨y,h1,_⟩)
  ·simp [En.cl] at h1
  ·simp [En.cl] at h1)
 have ef:∀ x v,E2.c x=some v->E.c x=some v∨w.heap.size<=x.block:=fun x v hx=>by
  rcases hn.cn x v hx with h1 | h1 | ⟨y,h1,_⟩
  ·exact .inl h1
  ·exact .inr h1
  ·simp [En.cl] at h1
 have hx:Ext E ⟨E2.c,E.β,E.tk,E.τ⟩:=⟨hn.c,fun _ _ h=>h,fun _ q h=>⟨q,h,.inl ⟨rfl,rfl⟩⟩⟩;have hk:=h.env.ke hh;refine dm h hx ?_ h.tk ?_ (h.fr.cz hm.os hm.tape hm.output hm.size fun i hi=>.inr (hh i hi)) (od bi) (h.bt.ke fun b hb=>hh b (h.env.bf hb))
 ·exact {
   len:=h.env.len
   tl:=h.env.tl
   eQ:=fun i cs hi=>by
    obtain ⟨b,ty,arr,hb,hw,hc⟩:=hk.eQ i cs hi;exact ⟨b,ty,arr,hb,hw,hc.mono hx⟩
   inj:=h.env.inj
   sub:=he.sub
   pc:=fun x v hc te=>by
    rcases ef x v hc with h1 | h1
    ·exact h.env.pc x v h1 te
    ·have:=h.env.bf te;omega
   cQ:=fun k q y hq hy=>by
    rcases hk.cQ k q y hq hy with h1 | ⟨g',cap,cur,rfl,h1,h2,h3,h4,h5,h6⟩
    ·exact .inl h1
    ·refine .inr ⟨g',cap,cur,rfl,h1,⟨h2.1,h2.2.mono hn.c⟩,h3,h4,h5,fun x v hc hg=>?_⟩;rcases ef x v hc with h7 | h7
     ·exact h6 x v h7 hg
     ·have:=(iV (h.env.cQ k q _ hq hy) (g:=g') rfl).1;omega
   jD:=h.env.jD }
 ·exact {
   c:=fun x v hc=>hn.c x v (h.nw.c x v hc)
   cn:=fun x v hc=>by
    rcases ef x v hc with h1 | h1
    ·exact h.nw.cn x v h1
    ·have:=h.fr.size;exact .inr (.inl (by omega))
   β:=h.nw.β
   tk:=h.nw.tk
   tn:=h.nw.tn
   l0:=h.nw.l0 }
theorem S7 {bx:List (List DV)} (h:Env E bx w):Env E.cl [] w where
 len:=rfl
 tl:=rfl
 eQ:=by simp
 inj:=List.nodup_nil
 sub:=h.sub
 pc:=by simp [En.cl]
 cQ:=by simp [En.cl]
 jD:=by simp [En.cl]
theorem sr {P:Program} (h:Rel X E st a w) (bi:X.still=false) {f:FuncId} {args bI:List DV} {vs:List Value} {Φ:DV->List (List DV)->List TkE->Prop} (hc:Ev P f bI [] [] Φ) (ha:CcL [] 0 0 0 bI args) (hv:RvL E args vs) :
  Calls P f vs.toArray w fun e w'=>∃ v E' d,e = .returned v/\Rel X E' st a w' /\ Rv E' d v/\Φ d [] []/\ta E.cl.S w w' /\ Ext E E' /\ E'.β=E.β:=by
 have VV:RvL E.cl bI vs:=CcL.sound (E:=E) (E':=E.cl) ⟨fun _ _ h=>h,fun i cs _ hi=>by simp at hi⟩ (Iq.zero _ _) ha hv;refine (hc E.cl w vs (S7 h.env) rfl VV).mono ?_;rintro e w' ⟨v,rfl,hm,_,d,os,E2,he,hβ,mc,hn,S8,hΦ⟩
 have Et:os=[]:=by
  have:=he.len;rw [hβ] at this;exact List.eq_nil_of_length_eq_zero this.symm
 subst Et;have ht0:E2.tk=[]:=List.eq_nil_of_length_eq_zero mc;refine ⟨v,⟨E2.c,E.β,E.tk,E.τ⟩,d,rfl,Iv h bi hm he hn,?_,by rw [ht0] at hΦ;exact hΦ,hm,⟨hn.c,fun _ _ h=>h,fun _ q h=>⟨q,h,.inl ⟨rfl,rfl⟩⟩⟩,rfl⟩;refine Rv.mono (E:=E2) (E':=⟨E2.c,E.β,E.tk,E.τ⟩) ⟨fun _ _ h=>h,fun i b hb=>?_,fun k q hq=>?_⟩ S8
 ·rw [hβ] at hb;simp [En.cl] at hb
 ·rw [ht0] at hq;simp at hq
theorem bG {f:FuncId} {args bI:List DV} {d:Nat} (kv:Enters X.P f) (hd:gw X.nt st.sl (some d)=true) {Φ:DV->List (List DV)->List TkE->Prop} (hc:Ev X.P f bI [] [] Φ) (ha:CcL [] 0 0 0 bI args)
  (hk:∀ r,Φ r [] []->go X 4000 k ⟨(d,⟨[],r⟩) :: st.sl,st.bx,st.tk⟩) (bi:X.still=false:=by exact rfl):CallG X f args (some d) k st:=by
 refine ⟨kv,bi,fun E a w vs h hv=>(sr h bi hc ha hv).mono ?_⟩;rintro e w' ⟨v,E',r,rfl,cJ,hr,hΦ,_⟩;exact go_sound 4000 _ _ (hk r hΦ) E' _ w' (bB cJ hd r v hr)
theorem KQ {f:FuncId} {args bI:List DV} {d:Nat} {r:DV} (kv:Enters X.P f) (hc:EvP X.P f bI r) (ha:CcL [] 0 0 0 bI args) (hd:gw X.nt st.sl (some d)=true)
  (hk:go X 4000 k ⟨(d,⟨[],r⟩) :: st.sl,st.bx,st.tk⟩) (bi:X.still=false:=by exact rfl):CallG X f args (some d) k st:=
 bG kv hd hc ha (fun _ hr=>hr ▸ hk) bi
def clB (n m:Nat):DV->Bool
 | .v _=>true
 | .ud=>true
 | .sl _ _ none=>true
 | .sl _ _ (some k)=>Nat.blt k m
 | .pt _ _=>true
 | .loc i _=>Nat.blt i n
 | .el i _=>Nat.blt i n
 | .ms i _ _ _ _=>Nat.blt i n
 | .agg l=>clL l
 | .tup l=>clL l
 | .fn _ l r=>clL l && clL r
 | .sj _ x=>clB n m x
where clL:List DV->Bool
 | []=>true
 | d :: r=>clB n m d && clL r
def En.cut (E:En) (n m:Nat):En:=⟨E.c,E.β.take n,E.tk.take m,E.τ.take m⟩
mutual
theorem Rv.cut {n m:Nat} {E:En}:∀ {d:DV} {v:Value},Rv E d v->clB n m d=true->Rv (E.cut n m) d v
 | .v x,v,h,_=>by unfold Rv at h ⊢;exact h
 | .ud,v,h,_=>by unfold Rv at h ⊢;exact h
 | .sl e es none,v,h,_=>by
  unfold Rv at h ⊢;obtain ⟨b,n,cap,h1,h2,h3,_⟩:=h;exact ⟨b,n,cap,h1,h2,h3,fun k hk=>by cases hk⟩
 | .sl e es (some k),v,h,hc=>by
  unfold Rv at h ⊢;obtain ⟨b,n',cap,h1,h2,h3,h4⟩:=h;refine ⟨b,n',cap,h1,h2,h3,fun k' gP=>?_⟩;cases gP;have hk:k < m:=by simpa [clB] using hc
  obtain ⟨q,h5,h6,h7⟩:=h4 k rfl;exact ⟨q,by show (E.tk.take m)[k]? = _;rw [cg,ai hk];exact h5,h6,fun hh=>by show (E.τ.take m)[k]? = _;rw [cg,ai hk];exact h7 hh⟩
 | .pt cs o,v,h,_=>by unfold Rv at h ⊢;exact h
 | .loc i o,v,h,hc=>by
  unfold Rv at h ⊢;obtain ⟨b,hb,h1⟩:=h;have hi:i < n:=by simpa [clB] using hc
  exact ⟨b,by show (E.β.take n)[i]? = _;rw [cg,ai hi];exact hb,h1⟩
 | .el i o,v,h,hc=>by
  unfold Rv at h ⊢;obtain ⟨b,hb,h1⟩:=h;have hi:i < n:=by simpa [clB] using hc
  exact ⟨b,by show (E.β.take n)[i]? = _;rw [cg,ai hi];exact hb,h1⟩
 | .ms i e o l c,v,h,hc=>by
  unfold Rv at h ⊢;obtain ⟨b,ad,hb,h1⟩:=h;have hi:i < n:=by simpa [clB] using hc
  exact ⟨b,ad,by show (E.β.take n)[i]? = _;rw [cg,ai hi];exact hb,h1⟩
 | .agg l,v,h,hc=>by
  unfold Rv at h ⊢;obtain ⟨vs,h1,h2,h3⟩:=h;simp only [clB] at hc;exact ⟨vs,h1,RvL.cut h2 hc,h3⟩
 | .tup l,v,h,hc=>by
  unfold Rv at h ⊢;obtain ⟨vs,h1,h2⟩:=h;simp only [clB] at hc;exact ⟨vs,h1,RvL.cut h2 hc⟩
 | .fn f l r,v,h,hc=>by
  unfold Rv at h ⊢;obtain ⟨l',r',h1,h2,h3⟩:=h;simp only [clB,aO] at hc;exact ⟨l',r',h1,RvL.cut h2 hc.1,RvL.cut h3 hc.2⟩
 | .sj t x,v,h,hc=>by
  unfold Rv at h ⊢;obtain ⟨z,h1,h2⟩:=h;simp only [clB] at hc;exact ⟨z,h1,Rv.cut h2 hc⟩
theorem RvL.cut {n m:Nat} {E:En}:∀ {l:List DV} {vs:List Value},RvL E l vs->clB.clL n m l=true->RvL (E.cut n m) l vs
 | [],vs,h,_=>by simp only [RvL] at h ⊢;exact h
 | d :: r,vs,h,hc=>by
  simp only [RvL] at h ⊢;obtain ⟨v,s,h1,h2,h3⟩:=h;simp only [clB.clL,aO] at hc;exact ⟨v,s,h1,Rv.cut h2 hc.1,RvL.cut h3 hc.2⟩
end
end
end Dv
end Go.Proofs.YtphonmiflfhdbaaGreat
namespace Go.Proofs.YtphonmiflfhdbaaGreat
namespace Dv
open Go Go.RowKit
def We (n m:Nat) (cI:List TkE) (x x':DV):Prop:=
 (x=x' /\ clB n m x=true)∨(x = .v (.slice none 0 0)/\∃ e k q,x' = .sl e [] (some k)/\m<=k/\cI[k]? = some q)∨(x = .v (.slice none 0 0)/\∃ e,x' = .sl e [] none)∨(∃ e es tk,x = .sl e es tk/\x' = .sl e es none)∨(∃ e es Bg tk,x = .sl e es tk/\x' = .sl e Bg none/\CcE [] 0 Bg es)∨(∃ e es Bg k,x = .sl e es (some k)/\x' = .sl e Bg (some k)/\k < m/\CcE [] 0 Bg es)
def WeL (n m:Nat) (cI:List TkE):List DV->List DV->Prop
 | [],l=>l=[]
 | x :: r,l=>∃ x' r',l=x' :: r' /\ We n m cI x x' /\ WeL n m cI r r'
def WeLL (n m:Nat) (cI:List TkE):List (List DV)->List (List DV)->Prop
 | [],l=>l=[]
 | x :: r,l=>∃ x' r',l=x' :: r' /\ WeL n m cI x x' /\ WeLL n m cI r r'
def nU (n m:Nat) (cI:List TkE) (sl:List (Nat × Sl)):List (Nat × Sl)->Prop
 | []=>True
 | p :: r=>(∃ x,get sl p.1=some ⟨p.2.gs,x⟩/\We n m cI x p.2.s)/\nU n m cI sl r
structure px (n0 m0:Nat) (st st':St):Prop where
 all:∃ kept dropped new b0 r,m0<=kept.length/\n0<=b0.length/\st.tk=kept ++ dropped/\st'.tk=kept ++ new/\(∀ q∈new,TkE.new q=true)/\st.bx=b0 ++ r/\WeLL b0.length kept.length st'.tk b0 st'.bx/\nU b0.length kept.length st'.tk st.sl st'.sl
theorem WeLL.length {n m:Nat} {cI:List TkE}:∀ {l l':List (List DV)},WeLL n m cI l l' -> l'.length=l.length
 | [],l',h=>by simp only [WeLL] at h;subst h;rfl
 | x :: r,l',h=>by
  simp only [WeLL] at h;obtain ⟨x',r',rfl,_,h2⟩:=h;simp [WeLL.length h2]
theorem WeLL.get {n m:Nat} {cI:List TkE}:∀ {l l':List (List DV)},WeLL n m cI l l' -> ∀ (i:Nat) cs',l'[i]? = some cs' -> ∃ cs,l[i]? = some cs/\WeL n m cI cs cs'
 | [],l',h,i,cs',hi=>by simp only [WeLL] at h;subst h;simp at hi
 | x :: r,l',h,i,cs',hi=>by
  simp only [WeLL] at h;obtain ⟨x',r',rfl,h1,h2⟩:=h
  cases i with
  | zero=>simp only [List.getElem?_cons_zero,oI] at hi;subst hi;exact ⟨x,rfl,h1⟩
  | succ i=>simp only [List.getElem?_cons_succ] at hi ⊢;exact WeLL.get h2 i cs' hi
theorem uD {n m:Nat} {cI:List TkE} {sl:List (Nat × Sl)}:∀ {l:List (Nat × Sl)},nU n m cI sl l->∀ i x',get l i=some x' -> ∃ x,get sl i=some ⟨x'.gs,x⟩/\We n m cI x x'.s
 | [],_,i,x',hx=>by cases hx
 | (k,y) :: r,h,i,x',hx=>by
  simp only [dh] at hx;split at hx
  ·rename_i xI;subst xI;simp only [oI] at hx;subst hx;exact h.1
  ·exact uD h.2 i x' hx
section
variable {X:Ctx} {E:En} {st st':St} {a:Act} {w:World} {k:List It}
def En.wk (E:En) (n:Nat) (kept new:List TkE):En:=⟨E.c,E.β.take n,kept ++ new,E.τ.take kept.length ++ List.replicate new.length (.slice none 0 0)⟩
theorem BN {n:Nat} {kept dropped new:List TkE} (ht:E.tk=kept ++ dropped) (hl:E.τ.length=E.tk.length) (ef:∀ q∈new,TkE.new q=true) {x x':DV} {v:Value} (hx:We n kept.length (kept ++ new) x x') (hv:Rv E x v):Rv (E.wk n kept new) x' v:=by
 have nN:kept.length<=E.τ.length:=by rw [hl,ht];simp
 have first:∀ {x:DV},clB n kept.length x=true->Rv E x v->Rv (E.wk n kept new) x v:=by
  intro x hc hv;refine Rv.mono (E:=E.cut n kept.length) ⟨fun _ _ h=>h,fun _ _ h=>h,fun k q hq=>?_⟩ (Rv.cut hv hc);have ma:(E.tk.take kept.length)[k]? = some q:=hq;rw [cg] at ma;split at ma
  ·rename_i hk;refine ⟨q,?_,.inl ⟨rfl,?_⟩⟩
   ·show (kept ++ new)[k]? = _
    grind
   ·show (E.τ.take kept.length ++ _)[k]? = (E.τ.take kept.length)[k]?
    grind
  ·cases ma
 rcases hx with ⟨rfl,hc⟩ | ⟨rfl,e,k,q,rfl,hk,hq⟩ | ⟨rfl,e,rfl⟩ | ⟨e,es,tk,rfl,rfl⟩ | ⟨e,es,Bg,tk,rfl,rfl,he⟩ | ⟨e,es,Bg,k,rfl,rfl,hk,he⟩
 ·exact first hc hv
 ·have:=bQ hv;subst this;unfold Rv;refine ⟨none,0,0,rfl,⟨rfl,aW _⟩,fun hn=>(hn rfl).elim,fun k' gP=>?_⟩;cases gP;have KR:(kept ++ new)[k]? = some q:=hq;rw [List.getElem?_append_right hk] at KR;have tf:=TkE.Kq (ef q (mG KR));refine ⟨q,hq,by omega,fun _=>?_⟩;have av:=(gS KR).1;show (E.τ.take kept.length ++ List.replicate new.length _)[k]? = _
  grind
 ·have:=bQ hv;subst this;unfold Rv;exact ⟨none,0,0,rfl,⟨rfl,aW _⟩,fun hn=>(hn rfl).elim,fun k hk=>by cases hk⟩
 ·unfold Rv at hv ⊢;obtain ⟨b,n,cap,h1,h2,h3,_⟩:=hv;exact ⟨b,n,cap,h1,h2,h3,fun k hk=>by cases hk⟩
 ·have hv:=Q5 he hv;unfold Rv at hv ⊢;obtain ⟨b,n,cap,h1,h2,h3,_⟩:=hv;exact ⟨b,n,cap,h1,h2,h3,fun k hk=>by cases hk⟩
 ·exact first (by simp only [clB];exact Nat.ble_eq_true_of_le hk) (Q5 he hv)
theorem yg {n:Nat} {kept dropped new:List TkE} (ht:E.tk=kept ++ dropped) (hl:E.τ.length=E.tk.length) (ef:∀ q∈new,TkE.new q=true):∀ {l l':List DV} {vs:List Value},WeL n kept.length (kept ++ new) l l' -> RvL E l vs->RvL (E.wk n kept new) l' vs
 | [],l',vs,h,hv=>by grind [WeL,RvL]
 | x :: r,l',vs,h,hv=>by
  simp only [WeL] at h;obtain ⟨x',r',rfl,h1,h2⟩:=h;simp only [RvL] at hv ⊢;obtain ⟨v,s,h3,h4,h5⟩:=hv;exact ⟨v,s,h3,BN ht hl ef h1 h4,yg ht hl ef h2 h5⟩
theorem Iw (h:Rel X E st a w) {kept dropped new:List TkE} {b0 r:List (List DV)} (jg:X.m0<=kept.length/\X.n0<=b0.length/\st.tk=kept ++ dropped/\st'.tk=kept ++ new/\(∀ q∈new,TkE.new q=true)/\st.bx=b0 ++ r/\WeLL b0.length kept.length st'.tk b0 st'.bx/\nU b0.length kept.length st'.tk st.sl st'.sl):Rel X (E.wk b0.length kept new) st' a w:=by
 obtain ⟨l8,mj,ht,tg,ef,hb,qH,oZ⟩:=jg;rw [tg] at qH oZ;have htE:E.tk=kept ++ dropped:=by rw [h.tk,ht]
 have hbl:=qH.length;have nN:kept.length<=E.τ.length:=by rw [h.env.tl,htE];simp
 have iP:b0.length<=E.β.length:=by rw [h.env.len,hb];simp
 have hτ:∀ (k:Nat) y,(E.τ.take kept.length ++ List.replicate new.length (Value.slice none 0 0))[k]? = some y->(k < kept.length/\E.τ[k]? = some y)∨(kept.length<=k/\y = .slice none 0 0):=fun k y hy=>by grind
 exact {
  env:={
   len:=by simp only [En.wk,ez];omega
   tl:=by simp only [En.wk,List.length_append,ez,List.length_replicate];omega
   eQ:=fun i cs' hi=>by
    obtain ⟨cs,cV,Wm⟩:=qH.get i cs' hi;have av:=(gS cV).1;obtain ⟨b,ty,arr,Vn,hwb,hc⟩:=h.env.eQ i cs (by rw [hb,fk av];exact cV);exact ⟨b,ty,arr,by simp only [En.wk];rw [cg,ai av];exact Vn,hwb,yg htE h.env.tl ef Wm hc.1,hc.2⟩
   inj:=h.env.inj.sublist (List.take_sublist _ _)
   sub:=h.env.sub
   pc:=fun x v hx hm=>h.env.pc x v hx (List.mem_of_mem_take hm)
   cQ:=fun k q y hq hy=>by
    rcases hτ k y hy with ⟨hk,gQ⟩ | ⟨hk,rfl⟩
    ·have ma:(kept ++ new)[k]? = some q:=hq;rw [fk hk] at ma;rcases h.env.cQ k q y (by rw [htE,fk hk];exact ma) gQ with h1 | ⟨g,cap,cur,rfl,h1,h2,h3,h4,h5,h6⟩
     ·exact .inl h1
     ·exact .inr ⟨g,cap,cur,rfl,h1,h2,h3,h4,fun hm=>h5 (List.mem_of_mem_take hm),h6⟩
    ·have ma:(kept ++ new)[k]? = some q:=hq;rw [List.getElem?_append_right hk] at ma;exact .inl ⟨rfl,TkE.Kq (ef q (mG ma)),TkE.QW (ef q (mG ma))⟩
   jD:=fun k k' y y' g xC hy gQ hg zM=>by
    rcases hτ k y hy with ⟨_,BD⟩ | ⟨_,rfl⟩
    ·rcases hτ k' y' gQ with ⟨_,l9⟩ | ⟨_,rfl⟩
     ·exact h.env.jD k k' y y' g xC BD l9 hg zM
     ·simp [Value.ownBlock] at zM
    ·simp [Value.ownBlock] at hg }
  tk:=by simp only [En.wk];exact tg.symm
  sz:=h.sz
  tm:=fun i x' Bh=>by
   obtain ⟨x,hx,Wm⟩:=uD oZ i x' Bh;have:=h.tm i _ hx;refine ⟨fun hh=>?_,this.2⟩;obtain ⟨v,h1,h2⟩:=this.1 hh;exact ⟨v,h1,BN htE h.env.tl ef Wm h2⟩
  df:=h.df
  nw:={
   c:=h.nw.c
   cn:=h.nw.cn
   β:=by
    obtain ⟨r2,hr,hl⟩:=h.nw.β;refine ⟨r2.take (b0.length - X.n0),?_,fun b hb=>hl b (List.mem_of_mem_take hb)⟩;simp only [En.wk];rw [hr,List.take_append,List.take_of_length_le (by rw [X.mj];omega),X.mj]
   tk:=fun j q0 y0 tf Em=>by
    obtain ⟨q',y',h1,h2,h3⟩:=h.nw.tk j q0 y0 tf Em;have hj:j < X.m0:=by rw [<- X.l8];exact (gS tf).1
    grind [En.wk]
   tn:=fun j y g hj hy hg=>by
    rcases hτ j y hy with ⟨_,BD⟩ | ⟨_,rfl⟩
    ·exact h.nw.tn j y g hj BD hg
    ·simp [Value.ownBlock] at hg
   l0:=h.nw.l0 }
  fr:=h.fr
  sh:=h.sh
  bt:=h.bt.sub _ }
theorem uE (h:Rel X E st a w) (hw:px X.n0 X.m0 st st'):∃ E',Rel X E' st' a w:=by
 obtain ⟨_,_,_,_,_,jg⟩:=hw.all;exact ⟨_,Iw h jg⟩
theorem least {p:Nat->Prop} (h:∃ n,p n):∃ n,p n/\∀ m,p m->n<=m:=by
 obtain ⟨n,hn⟩:=h
 induction n using Nat.strongRecOn with
 | _ n ih=>grind
theorem aP {c:Code} (I:Nat->St->Prop) (j0:Nat) (kY:St) (hw:px X.n0 X.m0 st kY) (h0:I j0 kY)
  (hr:∀ j s,I j s->go X 4000 (.code c :: .Eh (fun s'=>∃ BO,px X.n0 X.m0 s' BO /\ ∃ j',j' < j/\I j' BO) :: k) s):nS X c k st:=by
 intro E a w h;obtain ⟨E0,hr0⟩:=uE h hw
 classical
 let Inv:Act->World->Prop:=fun a w=>∃ j s E,Rel X E s a w/\I j s
 let μ:Act->World->Nat:=fun a w=>if hI:Inv a w then Classical.choose (least hI) else 0
 refine wp_loop Inv μ ⟨j0,kY,E0,hr0,h0⟩ ?_;intro a1 w1 hI;have yh:=(Classical.choose_spec (least hI)).1;obtain ⟨s,E1,cJ,hIs⟩:=yh;have hs:=go_sound 4000 _ _ (hr _ s hIs) E1 a1 w1 cJ;rw [dN] at hs;refine wp_mono hs ?_;intro e a2 w2 hq
 cases e with
 | normal=>
  obtain ⟨s',E2,BP,BO,Og,j',jo,Wn⟩:=hq;obtain ⟨E3,BQ⟩:=uE BP Og;have S9:Inv a2 w2:=⟨j',BO,E3,BQ,Wn⟩;refine ⟨S9,?_⟩;simp only [μ,dif_pos hI,dif_pos S9];exact Nat.lt_of_le_of_lt ((Classical.choose_spec (least S9)).2 j' ⟨BO,E3,BQ,Wn⟩) jo
 | exit id=>exact hq
 | goto l=>exact hq
 | ret=>exact hq
 | panic c=>exact hq
 | outgrown=>exact hq
theorem aA {n m:Nat} {cI:List TkE} {x:DV} (h:clB n m x=true):We n m cI x x:=.inl ⟨rfl,h⟩
theorem aC {n m:Nat} {cI:List TkE} {kd:IntKind} {x y:Int} (h:x=y):We n m cI (.v (.int kd x)) (.v (.int kd y)):=.inl ⟨by rw [h],rfl⟩
theorem cj {n m:Nat} {cI:List TkE} {e k:Nat} {q:TkE} (h1:m<=k) (h2:cI[k]? = some q):We n m cI (.v (.slice none 0 0)) (.sl e [] (some k)):=.inr (.inl ⟨rfl,e,k,q,rfl,h1,h2⟩)
theorem cf {n m:Nat} {cI:List TkE} {e k:Nat} {es Bg:List (List DV)} (h:es=Bg) (hk:Nat.blt k m=true):We n m cI (.sl e es (some k)) (.sl e Bg (some k)):=.inl ⟨by rw [h],hk⟩
theorem ax {p:Prop} (h:p:=by repeat' (first | exact rfl | exact trivial | exact Or.inr (Or.inl ⟨_,rfl⟩) | exact Or.inr ⟨_,rfl⟩ | exact Or.inl ⟨rfl,rfl⟩ | exact Or.inl rfl | refine Or.inr ⟨_,_,rfl,Nat.zero_le _,rfl,?_⟩ | refine ⟨_,_,rfl,?_,?_⟩ | refine ⟨_,rfl,?_⟩ | refine Or.inr (Or.inr (Or.inr ⟨_,_,rfl,?_⟩)) | exact Or.inl rfl | refine Or.inr ?_)):p:=h
theorem wA {p:Prop} (h:p:=by repeat' (first | exact rfl | exact aA rfl | refine ⟨_,_,rfl,?_,?_⟩)):p:=h
theorem wB {p:Prop} (h:p:=by repeat' (first | exact trivial | exact aA rfl | refine ⟨⟨_,rfl,?_⟩,?_⟩)):p:=h
theorem OU {n0 m0:Nat} {st st':St} (h1:∃ r,st.bx=st'.bx ++ r) (h2:WeLL st'.bx.length st'.tk.length st'.tk st'.bx st'.bx) (h3:st.tk=st'.tk) (h4:Nat.ble n0 st'.bx.length=true) (h5:Nat.ble m0 st'.tk.length=true)
  (h:nU st'.bx.length st'.tk.length st'.tk st.sl st'.sl):px n0 m0 st st':=by
 obtain ⟨r,hr⟩:=h1;exact ⟨st'.tk,[],[],st'.bx,r,by simpa using h5,by simpa using h4,by simp [h3],by simp,by simp,hr,h2,h⟩
theorem Ta {n0 m0:Nat} {st st':St} (n:Nat) (hn:Nat.ble n st.bx.length=true) (h2:WeLL n st'.tk.length st'.tk (st.bx.take n) st'.bx) (h3:st.tk=st'.tk) (h4:Nat.ble n0 n=true) (h5:Nat.ble m0 st'.tk.length=true)
  (h:nU n st'.tk.length st'.tk st.sl st'.sl):px n0 m0 st st':=by
 have hl:(st.bx.take n).length=n:=by simp_all
 exact ⟨st'.tk,[],[],st.bx.take n,st.bx.drop n,by simpa using h5,by rw [hl];simpa using h4,by simp [h3],by simp,by simp,(List.take_append_drop n st.bx).symm,by rw [hl];exact h2,by rw [hl];exact h⟩
theorem fA {n0 m0:Nat} {st st':St} (q:TkE) (hq:q.new=true) (h1:∃ r,st.bx=st'.bx ++ r) (h3:st.tk ++ [q]=st'.tk) (h2:WeLL st'.bx.length st.tk.length st'.tk st'.bx st'.bx) (h4:Nat.ble n0 st'.bx.length=true) (h5:Nat.ble m0 st.tk.length=true)
  (h:nU st'.bx.length st.tk.length st'.tk st.sl st'.sl):px n0 m0 st st':=by
 obtain ⟨r,hr⟩:=h1;exact ⟨st.tk,[],[q],st'.bx,r,by simpa using h5,by simpa using h4,by simp,h3.symm,by simpa using hq,hr,h2,h⟩
end
end Dv
end Go.Proofs.YtphonmiflfhdbaaGreat
namespace Go.Proofs.YtphonmiflfhdbaaGreat
namespace Dv
theorem aL {p : Prop} (h : p := by repeat' (first | exact rfl | exact trivial | exact Or.inr (Or.inl ⟨_,rfl⟩) | exact Or.inr ⟨_,rfl⟩ | exact Or.inl ⟨rfl,rfl⟩ | exact Or.inl rfl | refine Or.inr ⟨_,_,rfl,Nat.zero_le _,rfl,?_⟩ | refine ⟨_,_,rfl,?_,?_⟩ | refine ⟨_,rfl,?_⟩ | exact ⟨nL rfl,rfl⟩ | refine Or.inr (Or.inr (Or.inr ⟨_,_,rfl,?_⟩)) | exact Or.inl rfl | refine Or.inr ?_)) : p := h
theorem aI {p : Prop} {a b : Int} (q : a=b) (h : a=b -> p := by intro q;repeat' (first | exact rfl | exact trivial | exact Or.inr (Or.inl ⟨_,rfl⟩) | exact Or.inr ⟨_,rfl⟩ | exact Or.inl ⟨rfl,rfl⟩ | exact Or.inl rfl | refine Or.inr ⟨_,_,rfl,Nat.zero_le _,rfl,?_⟩ | refine ⟨_,_,rfl,?_,?_⟩ | refine ⟨_,rfl,?_⟩ | exact congrArg (fun z=>DV.v (.int .i64 z)) q | refine Or.inr (Or.inr (Or.inr ⟨_,_,rfl,?_⟩)) | exact Or.inl rfl | refine Or.inr ?_)) : p := h q
theorem aB {p : Prop} {a b : Bool} (q : a=b) (h : a=b -> p := by intro q;repeat' (first | exact rfl | exact trivial | exact Or.inr (Or.inl ⟨_,rfl⟩) | exact Or.inr ⟨_,rfl⟩ | exact Or.inl ⟨rfl,rfl⟩ | exact Or.inl rfl | refine Or.inr ⟨_,_,rfl,Nat.zero_le _,rfl,?_⟩ | refine ⟨_,_,rfl,?_,?_⟩ | refine ⟨_,rfl,?_⟩ | exact congrArg (fun b=>DV.v (.bool b)) q | refine Or.inr (Or.inr (Or.inr ⟨_,_,rfl,?_⟩)) | exact Or.inl rfl | refine Or.inr ?_)) : p := h q
theorem wNA {p : Prop} {a b : Nat} (q : a < b) (hn : b <= 4611686018427387904 := by omega) (h : a < b -> b <= 4611686018427387904 -> p := by intro q hn;repeat' (first | exact rfl | exact aA rfl | exact aC (nxt q hn) | refine ⟨_,_,rfl,?_,?_⟩)) : p := h q hn
theorem wNB {p : Prop} {a b : Nat} (q : a < b) (hn : b <= 4611686018427387904 := by omega) (h : a < b -> b <= 4611686018427387904 -> p := by intro q hn;repeat' (first | exact trivial | exact aA rfl | exact aC (nxt q hn) | refine ⟨⟨_,rfl,?_⟩,?_⟩)) : p := h q hn
theorem wSA {p r : Prop} {a b : Nat} (q : a < b) (s : r) (hn : b <= 4611686018427387904 := by omega) (h : a < b -> b <= 4611686018427387904 -> r -> p := by intro q hn s;repeat' (first | exact rfl | exact aA rfl | exact aC (nxt q hn) | exact cf s rfl | refine ⟨_,_,rfl,?_,?_⟩)) : p := h q hn s
theorem wSB {p r : Prop} {a b : Nat} (q : a < b) (s : r) (hn : b <= 4611686018427387904 := by omega) (h : a < b -> b <= 4611686018427387904 -> r -> p := by intro q hn s;repeat' (first | exact trivial | exact aA rfl | exact aC (nxt q hn) | exact cf s rfl | refine ⟨⟨_,rfl,?_⟩,?_⟩)) : p := h q hn s
theorem wTB {p : Prop} (h : p := by repeat' (first | exact trivial | exact aA rfl | exact cj (Nat.le_refl _) rfl | refine ⟨⟨_,rfl,?_⟩,?_⟩)) : p := h
theorem wTA {p : Prop} (h : p := by repeat' (first | exact rfl | exact aA rfl | exact cj (Nat.le_refl _) rfl | refine ⟨_,_,rfl,?_,?_⟩)) : p := h
theorem wRB {p : Prop} (h : p := by repeat' (first | exact trivial | exact aA rfl | exact aC rfl | refine ⟨⟨_,rfl,?_⟩,?_⟩)) : p := h
theorem wRA {p : Prop} (h : p := by repeat' (first | exact rfl | exact aA rfl | exact aC rfl | refine ⟨_,_,rfl,?_,?_⟩)) : p := h
theorem kZ {p:Prop}   (h:p:=by repeat' (first | exact rfl | exact aA rfl | exact cK rfl | exact b9 rfl | exact qX _ | exact cj (Nat.le_refl _) rfl | exact cj (Nat.le_succ _) rfl | refine ⟨_,_,rfl,?_,?_⟩)):p:=h 
theorem mw {p:Prop} {P0:Prop} (x0:P0) (h:P0->p:=by intro x0;repeat' (first | exact rfl | exact aA rfl | exact aC x0 | exact cK x0 | exact cf x0 rfl | exact bV x0 | exact b9 x0 | exact aC (congrArg Nat.cast x0) | exact aA x0 | exact fp x0 | exact x0 | exact cK rfl | exact b9 rfl | exact qX _ | exact cj (Nat.le_refl _) rfl | exact cj (Nat.le_succ _) rfl | refine ⟨_,_,rfl,?_,?_⟩)):p:=h x0
theorem wA2 {p:Prop} {P0:Prop} {P1:Prop} (x0:P0) (x1:P1) (h:P0->P1->p:=by intro x0 x1;repeat' (first | exact rfl | exact aA rfl | exact aC x0 | exact cK x0 | exact cf x0 rfl | exact bV x0 | exact b9 x0 | exact aC (congrArg Nat.cast x0) | exact aA x0 | exact fp x0 | exact x0 | exact aC x1 | exact cK x1 | exact cf x1 rfl | exact bV x1 | exact b9 x1 | exact aC (congrArg Nat.cast x1) | exact aA x1 | exact fp x1 | exact x1 | exact cK rfl | exact b9 rfl | exact qX _ | exact cj (Nat.le_refl _) rfl | exact cj (Nat.le_succ _) rfl | refine ⟨_,_,rfl,?_,?_⟩)):p:=h x0 x1
theorem wA3 {p:Prop} {P0:Prop} {P1:Prop} {P2:Prop} (x0:P0) (x1:P1) (x2:P2) (h:P0->P1->P2->p:=by intro x0 x1 x2;repeat' (first | exact rfl | exact aA rfl | exact aC x0 | exact cK x0 | exact cf x0 rfl | exact bV x0 | exact b9 x0 | exact aC (congrArg Nat.cast x0) | exact aA x0 | exact fp x0 | exact x0 | exact aC x1 | exact cK x1 | exact cf x1 rfl | exact bV x1 | exact b9 x1 | exact aC (congrArg Nat.cast x1) | exact aA x1 | exact fp x1 | exact x1 | exact aC x2 | exact cK x2 | exact cf x2 rfl | exact bV x2 | exact b9 x2 | exact aC (congrArg Nat.cast x2) | exact aA x2 | exact fp x2 | exact x2 | exact cK rfl | exact b9 rfl | exact qX _ | exact cj (Nat.le_refl _) rfl | exact cj (Nat.le_succ _) rfl | refine ⟨_,_,rfl,?_,?_⟩)):p:=h x0 x1 x2
theorem gR {p:Prop}   (h:p:=by repeat' (first | exact trivial | exact aA rfl | exact cj (Nat.le_refl _) rfl | exact cj (Nat.le_succ _) rfl | exact aC rfl | refine ⟨⟨_,rfl,?_⟩,?_⟩)):p:=h 
theorem wB1 {p:Prop} {P0:Prop} (x0:P0) (h:P0->p:=by intro x0;repeat' (first | exact trivial | exact aA rfl | exact aC x0 | exact cK x0 | exact cf x0 rfl | exact bV x0 | exact b9 x0 | exact aC (congrArg Nat.cast x0) | exact aA x0 | exact fp x0 | exact x0 | exact cj (Nat.le_refl _) rfl | exact cj (Nat.le_succ _) rfl | exact aC rfl | refine ⟨⟨_,rfl,?_⟩,?_⟩)):p:=h x0
theorem wB2 {p:Prop} {P0:Prop} {P1:Prop} (x0:P0) (x1:P1) (h:P0->P1->p:=by intro x0 x1;repeat' (first | exact trivial | exact aA rfl | exact aC x0 | exact cK x0 | exact cf x0 rfl | exact bV x0 | exact b9 x0 | exact aC (congrArg Nat.cast x0) | exact aA x0 | exact fp x0 | exact x0 | exact aC x1 | exact cK x1 | exact cf x1 rfl | exact bV x1 | exact b9 x1 | exact aC (congrArg Nat.cast x1) | exact aA x1 | exact fp x1 | exact x1 | exact cj (Nat.le_refl _) rfl | exact cj (Nat.le_succ _) rfl | exact aC rfl | refine ⟨⟨_,rfl,?_⟩,?_⟩)):p:=h x0 x1
theorem Oh {p:Prop} {P0:Prop} {P1:Prop} {P2:Prop} (x0:P0) (x1:P1) (x2:P2) (h:P0->P1->P2->p:=by intro x0 x1 x2;repeat' (first | exact trivial | exact aA rfl | exact aC x0 | exact cK x0 | exact cf x0 rfl | exact bV x0 | exact b9 x0 | exact aC (congrArg Nat.cast x0) | exact aA x0 | exact fp x0 | exact x0 | exact aC x1 | exact cK x1 | exact cf x1 rfl | exact bV x1 | exact b9 x1 | exact aC (congrArg Nat.cast x1) | exact aA x1 | exact fp x1 | exact x1 | exact aC x2 | exact cK x2 | exact cf x2 rfl | exact bV x2 | exact b9 x2 | exact aC (congrArg Nat.cast x2) | exact aA x2 | exact fp x2 | exact x2 | exact cj (Nat.le_refl _) rfl | exact cj (Nat.le_succ _) rfl | exact aC rfl | refine ⟨⟨_,rfl,?_⟩,?_⟩)):p:=h x0 x1 x2
theorem Wo {p:Prop} {P0:Prop} {P1:Prop} {P2:Prop} {P3:Prop} (x0:P0) (x1:P1) (x2:P2) (x3:P3) (h:P0->P1->P2->P3->p:=by intro x0 x1 x2 x3;repeat' (first | exact trivial | exact aA rfl | exact aC x0 | exact cK x0 | exact cf x0 rfl | exact bV x0 | exact b9 x0 | exact aC (congrArg Nat.cast x0) | exact aA x0 | exact fp x0 | exact x0 | exact aC x1 | exact cK x1 | exact cf x1 rfl | exact bV x1 | exact b9 x1 | exact aC (congrArg Nat.cast x1) | exact aA x1 | exact fp x1 | exact x1 | exact aC x2 | exact cK x2 | exact cf x2 rfl | exact bV x2 | exact b9 x2 | exact aC (congrArg Nat.cast x2) | exact aA x2 | exact fp x2 | exact x2 | exact aC x3 | exact cK x3 | exact cf x3 rfl | exact bV x3 | exact b9 x3 | exact aC (congrArg Nat.cast x3) | exact aA x3 | exact fp x3 | exact x3 | exact cj (Nat.le_refl _) rfl | exact cj (Nat.le_succ _) rfl | exact aC rfl | refine ⟨⟨_,rfl,?_⟩,?_⟩)):p:=h x0 x1 x2 x3
theorem gp {p:Prop}   (h:p:=by repeat' (first | exact rfl | exact trivial | exact Or.inr (Or.inl ⟨_,rfl⟩) | exact Or.inr ⟨_,rfl⟩ | exact Or.inl ⟨rfl,rfl⟩ | exact Or.inl rfl | refine Or.inr ⟨_,_,rfl,Nat.zero_le _,rfl,?_⟩ | refine ⟨_,_,rfl,?_,?_⟩ | refine ⟨_,rfl,?_⟩ | exact ⟨nL rfl,rfl⟩ | refine Or.inr (Or.inr (Or.inr ⟨_,_,rfl,?_⟩)) | exact Or.inl rfl | refine Or.inr ?_)):p:=h 
theorem o0 {p:Prop} {P0:Prop} (x0:P0) (h:P0->p:=by intro x0;repeat' (first | exact rfl | exact trivial | exact Or.inr (Or.inl ⟨_,rfl⟩) | exact Or.inr ⟨_,rfl⟩ | exact Or.inl ⟨rfl,rfl⟩ | exact Or.inl rfl | refine Or.inr ⟨_,_,rfl,Nat.zero_le _,rfl,?_⟩ | refine ⟨_,_,rfl,?_,?_⟩ | refine ⟨_,rfl,?_⟩ | exact congrArg (fun z=>DV.v (.int .i64 z)) x0 | exact congrArg (fun z=>DV.v (.int .i64 z)) (congrArg Nat.cast x0) | exact congrArg (fun b=>DV.v (.bool b)) x0 | exact x0 | exact Or.inr (Or.inl ⟨_,x0⟩) | apply x0 | exact ⟨nL rfl,rfl⟩ | refine Or.inr (Or.inr (Or.inr ⟨_,_,rfl,?_⟩)) | exact Or.inl rfl | refine Or.inr ?_)):p:=h x0
theorem wC2 {p:Prop} {P0:Prop} {P1:Prop} (x0:P0) (x1:P1) (h:P0->P1->p:=by intro x0 x1;repeat' (first | exact rfl | exact trivial | exact Or.inr (Or.inl ⟨_,rfl⟩) | exact Or.inr ⟨_,rfl⟩ | exact Or.inl ⟨rfl,rfl⟩ | exact Or.inl rfl | refine Or.inr ⟨_,_,rfl,Nat.zero_le _,rfl,?_⟩ | refine ⟨_,_,rfl,?_,?_⟩ | refine ⟨_,rfl,?_⟩ | exact congrArg (fun z=>DV.v (.int .i64 z)) x0 | exact congrArg (fun z=>DV.v (.int .i64 z)) (congrArg Nat.cast x0) | exact congrArg (fun b=>DV.v (.bool b)) x0 | exact x0 | exact Or.inr (Or.inl ⟨_,x0⟩) | apply x0 | exact congrArg (fun z=>DV.v (.int .i64 z)) x1 | exact congrArg (fun z=>DV.v (.int .i64 z)) (congrArg Nat.cast x1) | exact congrArg (fun b=>DV.v (.bool b)) x1 | exact x1 | exact Or.inr (Or.inl ⟨_,x1⟩) | apply x1 | exact ⟨nL rfl,rfl⟩ | refine Or.inr (Or.inr (Or.inr ⟨_,_,rfl,?_⟩)) | exact Or.inl rfl | refine Or.inr ?_)):p:=h x0 x1
theorem iX {α:Type _} {P:α->Prop} {cs:α} {i:Int} {l:List α} (g:l[i.toNat]? = some cs) (k:P cs) (h:0<=i:=by omega):∃ cs,(0<=i/\l[i.toNat]? = some cs)/\P cs:=⟨cs,⟨h,g⟩,k⟩
theorem lI {X:Ctx} {st:St} {k:List It} {c:Code} (I:Nat->St->Prop) {j0:Nat} {kY:St} (h0:I j0 kY) (hw:px X.n0 X.m0 st kY)
 (hr:∀ j s,I j s->go X 4000 (.code c :: .Eh (fun s'=>∃ BO,px X.n0 X.m0 s' BO/\∃ j',j' < j/\I j' BO) :: k) s):nS X c k st:=aP I j0 kY hw h0 hr
theorem lJ {X:Ctx} {st:St} {k:List It} {c:Code} (S:Nat->St) (n:Nat) (hw:px X.n0 X.m0 st (S 0))
 (hr:∀ e,e<=n->go X 4000 (.code c :: .Eh (fun s'=>∃ BO,px X.n0 X.m0 s' BO/\∃ j',j' < n - e/\∃ e:Nat,BO=S e/\e<=n/\j'=n - e) :: k) (S e)):nS X c k st:=aP (fun j st=>∃ e:Nat,st=S e/\e<=n/\j=n - e) (n - 0) (S 0) hw ⟨0,rfl,Nat.zero_le _,rfl⟩ fun j s h=>by
 obtain ⟨e,rfl,he,rfl⟩:=h;exact hr e he
theorem bo {a b : Bool} (h : a = b) : DV.v (.bool a) = .v (.bool b) := h ▸ rfl
theorem qY {a b : Int} (h : a = b) : DV.v (.int .i64 a) = .v (.int .i64 b) := h ▸ rfl
theorem wkM {n0 m0 : Nat} {st st' : St} (h : nU st'.bx.length st'.tk.length st'.tk st.sl st'.sl) (h1 : ∃ r,st.bx = st'.bx ++ r := by exact ⟨_,rfl⟩) (h2 : WeLL st'.bx.length st'.tk.length st'.tk st'.bx st'.bx := by exact wA) (h3 : st.tk = st'.tk := by exact rfl) (h4 : Nat.ble n0 st'.bx.length = true := by exact rfl) (h5 : Nat.ble m0 st'.tk.length = true := by exact rfl) : px n0 m0 st st' := OU h1 h2 h3 h4 h5 h
theorem wkB {n0 m0 : Nat} {st st' : St} (n : Nat) (h2 : WeLL n st'.tk.length st'.tk (st.bx.take n) st'.bx) (h : nU n st'.tk.length st'.tk st.sl st'.sl) (hn : Nat.ble n st.bx.length = true := by exact rfl) (h3 : st.tk = st'.tk := by exact rfl) (h4 : Nat.ble n0 n = true := by exact rfl) (h5 : Nat.ble m0 st'.tk.length = true := by exact rfl) : px n0 m0 st st' := Ta n hn h2 h3 h4 h5 h
abbrev au (k : Nat) (n : Int) : Nat × Sl := (k,⟨[],.v (.int .i64 n)⟩)
abbrev uF (k : Nat) (b : Bool) : Nat × Sl := (k,⟨[],.v (.bool b)⟩)
abbrev aD (k i : Nat) : Nat × Sl := (k,⟨[],.loc i 0⟩)
abbrev pz (k : Nat) (c : List DV) : Nat × Sl := (k,⟨[],.pt c 0⟩)
abbrev aZ (k e : Nat) (l : List (List DV)) : Nat × Sl := (k,⟨[],.sl e l none⟩)
end Dv
end Go.Proofs.YtphonmiflfhdbaaGreat
namespace Go.Proofs.YtphonmiflfhdbaaGreat
namespace Dv
open Go
section
variable {P:Program} {ops:Array Oper} {C:World->Prop} {Q:Act->World->Prop} {W:Nat->Bool} {π:Nat->Nat}
theorem Wp {o:Oper} {a:Act} {w:World} {K:Act->World->Prop} (h:wq P o a w K):∃ v w',K (a.put o.dst v) w':=by
 unfold wq at h;split at h
 ·exact ⟨_,_,h⟩
 ·exact ⟨_,_,h⟩
 ·obtain ⟨e,w',fr,⟨v,_,hv⟩,_⟩:=h [];exact ⟨v,w',hv⟩
 ·exact h.elim
theorem Tb {x y:Oper} {v:Value} (Vo:x.apart ops y=true) (hs:∀ cs b,y.op ≠ .select cs b) {a:Act} {w:World} {K:Act->World->Prop} :
  wq P y (a.put x.dst v) w K↔wq P y a w (fun a' w'=>K (a'.put x.dst v) w'):=by
 obtain ⟨h1,h2,h3⟩:=Oper.apart_spec Vo;unfold wq;rw [execOp_put y hs a x.dst v h1];have hc:∀ u,(a.put x.dst v).put y.dst u=(a.put y.dst u).put x.dst v:=fun u=>Act.put_comm a v u h2
 cases (execOp a.eval y).run P w with
 | halt h w'=>rfl
 | ok n w'=>cases n<;>simp [hc]
def Yl (P:Program) (ops:Array Oper) (C:World->Prop) (o:Oper) (v:Value) (a:Act):Prop:=
 (Region.wanted o (yielded ops a.tmps)=true/\∀ w,(qQ o.op=true->C w)->(execOp a.eval o).run P w = .ok (.value v) w) ∨
 (Region.wanted o (yielded ops a.tmps)=false/\v=undef)
theorem Yl.same {x y:Oper} {v u:Value} (Vo:x.apart ops y=true) (hs:∀ cs b,y.op ≠ .select cs b) {a:Act}:Yl P ops C y v (a.put x.dst u)↔Yl P ops C y v a:=by
 obtain ⟨h1,h2,h3⟩:=Oper.apart_spec Vo;unfold Yl;rw [execOp_put y hs a x.dst u h1,wanted_put y a x.dst u h1]
def eN (P:Program) (ops:Array Oper) (o:Oper) (a:Act) (w:World) (K:Act->World->Prop):Prop:=
 if Region.wanted o (yielded ops a.tmps)=true then wq P o a w K else K (a.put o.dst undef) w
theorem jH {o:Oper} {a:Act} {w:World} {K K':Act->World->Prop} (hk:∀ a w,K a w->K' a w) (h:eN P ops o a w K):eN P ops o a w K':=by grind [eN,lk]
theorem yi {x y:Oper} {v:Value} (Vo:x.apart ops y=true) (hs:∀ cs b,y.op ≠ .select cs b) {a:Act} {w:World} {K:Act->World->Prop} :
  eN P ops y (a.put x.dst v) w K↔eN P ops y a w (fun a' w'=>K (a'.put x.dst v) w'):=by
 obtain ⟨h1,h2,h3⟩:=Oper.apart_spec Vo;unfold eN;rw [wanted_put y a x.dst v h1];split
 ·exact Tb Vo hs
 ·rw [Act.put_comm a v undef h2]
theorem KT {o:Oper} {a:Act} {w:World} {K:Act->World->Prop} (h:eN P ops o a w K):∃ v w',K (a.put o.dst v) w':=by grind [eN,Wp]
theorem uG {o:Oper} {a:Act} {w:World} {K:Act->World->Prop} (h:eN P ops o a w K):eN P ops o a w (fun a' w'=>K a' w' /\ ∃ u,a'=a.put o.dst u):=by grind [eN,wq]
theorem my {o:Oper} {a:Act} {w:World} {v:Value} {K:Act->World->Prop} (hy:Yl P ops C o v a) (hc:qQ o.op=true->C w) (hk:K (a.put o.dst v) w):eN P ops o a w K:=by
 unfold eN;rcases hy with ⟨hw,hv⟩ | ⟨hw,rfl⟩
 ·grind [wq]
 ·rw [ah (by simp [hw])];exact hk
theorem mz {o:Oper} {a:Act} {w:World} {v:Value} {K:Act->World->Prop} (hy:Yl P ops C o v a) (hc:qQ o.op=true->C w) (h:eN P ops o a w K):K (a.put o.dst v) w:=by
 unfold eN at h;rcases hy with ⟨hw,hv⟩ | ⟨hw,rfl⟩
 ·grind [wq]
 ·rw [ah (by simp [hw])] at h;exact h
def runT (P:Program) (ops:Array Oper) (W:Nat->Bool) (C:World->Prop) (Q:Act->World->Prop):List Nat->Act->World->Prop
 | [],a,w=>Q a w
 | i :: r,a,w=>
  match ops[i]? with
  | none=>False
  | some o=>
   if isE o.op=true then eN P ops o a w fun a' w'=>(W i=false->C w->C w')/\runT P ops W C Q r a' w'
   else ∃ v,Yl P ops C o v a/\(qQ o.op=true->C w)/\runT P ops W C Q r (a.put o.dst v) w
def pA (ops:Array Oper) (W:Nat->Bool) (j i:Nat):Bool:=
 match ops[j]?,ops[i]? with
 | some x,some y=>x.apart ops y && y.apart ops x && !(isE x.op && isE y.op) && !(qQ x.op && W i)
 | _,_=>false
def KU (ops:Array Oper) (l:List Nat):Prop:=∃ i o,i∈l/\ops[i]? = some o/\qQ o.op=true
theorem jI {j i:Nat} {x y:Oper} (h:pA ops W j i=true) (hj:ops[j]? = some x) (hi:ops[i]? = some y) :
  x.apart ops y=true/\y.apart ops x=true/\¬ (isE x.op=true/\isE y.op=true)/\¬ (qQ x.op=true/\W i=true):=by
 unfold pA at h;rw [hj,hi] at h;simp only [aO,Bool.not_eq_true',Bool.and_eq_false_iff] at h;refine ⟨h.1.1.1,h.1.1.2,?_,?_⟩
 ·grind
 ·grind
theorem ou (ov:∀ (j:Nat) (o:Oper) cs b,ops[j]? = some o->o.op ≠ .select cs b) {i:Nat} {o:Oper} (hi:ops[i]? = some o) (hR:isE o.op=false) :
  ∀ (rem:List Nat) (a:Act) (w:World),runT P ops W C Q rem a w->i∈rem->(∀ j∈rem,j≠i->π j < π i->pA ops W j i=true)->rem.Pairwise (fun a b=>π a < π b)->∃ v,Yl P ops C o v a
 | [],_,_,_,hm,_,_=>by cases hm
 | h :: rem,a,w,hr,hm,OV,hp=>by
  simp only [runT] at hr;by_cases D8:h=i
  ·grind
  ·have te:i∈rem:=by grind
   have av:π h < π i:=(List.pairwise_cons.1 hp).1 i te;split at hr
   ·exact hr.elim
   ·rename_i x hx;obtain ⟨ap1,ap2,_,_⟩:=jI (OV h (by simp) D8 av) hx hi;have ih:=fun a w hr=>ou ov hi hR rem a w hr te (fun j hj=>OV j (gh _ hj)) (List.pairwise_cons.1 hp).2
    grind [KT,Yl.same]
theorem yj {h:Nat} {rem:List Nat} (hl:KU ops rem):KU ops (h :: rem):=by
 obtain ⟨i,o,hm,ho,hL⟩:=hl;exact ⟨i,o,gh _ hm,ho,hL⟩
theorem jJ (ov:∀ (j:Nat) (o:Oper) cs b,ops[j]? = some o->o.op ≠ .select cs b) (Oi:∀ j i x y,π j < π i->ops[i]? = some x->ops[j]? = some y->qQ x.op=true->W j=false) {i:Nat} {o:Oper} (hi:ops[i]? = some o) :
  ∀ (rem:List Nat) (a:Act) (w:World),(KU ops rem->C w)->runT P ops W C Q rem a w->i∈rem->(∀ j∈rem,j≠i->π j < π i->pA ops W j i=true)->rem.Pairwise (fun a b=>π a < π b) ->
   eN P ops o a w (fun a' w'=>(W i=false->C w->C w')/\runT P ops W C Q (rem.erase i) a' w')
 | [],_,_,_,_,hm,_,_=>by cases hm
 | h :: rem,a,w,hC,hr,hm,OV,hp=>by
  by_cases D8:h=i
  ·grind [runT,my]
  ·have te:i∈rem:=by grind
   have av:π h < π i:=(List.pairwise_cons.1 hp).1 i te;have xK:=(List.pairwise_cons.1 hp).2;rw [List.erase_cons_tail (sU D8)];have hr0:=hr;simp only [runT] at hr;split at hr
   ·exact hr.elim
   ·rename_i x hx;obtain ⟨ap1,ap2,hEE,hLW⟩:=jI (OV h (by simp) D8 av) hx hi;have hsx:=fun cs b=>ov h x cs b hx;have Tc:=fun cs b=>ov i o cs b hi;have Wq:∀ j∈rem,j≠i->π j < π i->pA ops W j i=true:=fun j hj=>OV j (gh _ hj);split at hr
    ·-- the head has an effect: so o has none
     rename_i hEx;have hRo:isE o.op=false:=by grind
     obtain ⟨v,hy⟩:=ou (π:=π) ov hi hRo (h :: rem) a w hr0 hm OV hp;have hci:qQ o.op=true->C w:=fun hL=>hC ⟨i,o,hm,hi,hL⟩;refine my hy hci ⟨fun _ h=>h,?_⟩;simp only [runT,hx,hEx,if_true];refine (yi ap2 hsx).2 ?_;refine jH ?_ (uG hr);rintro a' w' ⟨⟨KV,nk⟩,u,rfl⟩;refine ⟨KV,?_⟩
     have hC':KU ops rem->C w':=by
      intro hl;have Bm:=hl;obtain ⟨l,z,hlm,hz,hL⟩:=hl;exact KV (Oi h l z x ((List.pairwise_cons.1 hp).1 l hlm) hz hx hL) (hC (yj Bm))
     have ih:=jJ ov Oi hi rem _ w' hC' nk te Wq xK;have gQ:=(Yl.same (u:=u) ap1 Tc).2 hy
     grind [mz]
    ·rename_i hEx;obtain ⟨v,hy,hc,nk⟩:=hr;have ih:=jJ ov Oi hi rem (a.put x.dst v) w (fun hl=>hC (yj hl)) nk te Wq xK;refine jH ?_ (uG ((yi ap1 Tc).1 ih))
     grind [runT,Yl.same]
def ordB (ops:Array Oper):Nat->Nat->Nat->Bool
 | 0,_,_=>false
 | n + 1,j,i=>
  match ops[i]? with
  | some o=>o.after.toList.any fun e=>Region.binds .any e && (Nat.beq e.on j || ordB ops n j e.on)
  | none=>false
def tj (ops:Array Oper) (W:Nat->Bool) (π:Nat->Nat):Bool:=
 Region.noSelect ops &&
 (List.range ops.size).all fun i=>
  match ops[i]? with
   | some o=>o.after.toList.all (fun e=>!Region.binds .any e || (Nat.blt (π e.on) (π i) && Nat.blt e.on ops.size)) && (!qQ o.op || (List.range ops.size).all fun j=>!Nat.blt (π j) (π i) || !W j)
   | none=>false
def BR (ops:Array Oper) (W:Nat->Bool) (π:Nat->Nat) (ex:Nat->Nat->Bool):Bool:=
 (List.range ops.size).all fun i=>(List.range ops.size).all fun j=>!Nat.blt (π j) (π i) || ex j i || ordB ops ops.size j i || pA ops W j i
def Wr:Nat->Nat->Bool:=fun _ _=>false
def EB (ops:Array Oper) (W:Nat->Bool):Bool:=tj ops W (fun i=>i) && BR ops W (fun i=>i) Wr
def Dn (ops:Array Oper) (bN:Array Bool):Prop:=
 ∀ i o,ops[i]? = some o->bN.getD i true=true->∀ e∈o.after,Region.binds .any e=true->bN.getD e.on false=true
theorem mA {bN:Array Bool} (hd:Dn ops bN):∀ (n:Nat) (j i:Nat) (o:Oper),ops[i]? = some o->(∀ e∈o.after,Region.binds .any e=true->bN.getD e.on false=true)->ordB ops n j i=true->bN.getD j false=true
 | 0,j,i,o,_,_,h=>by simp [ordB] at h
 | n + 1,j,i,o,ho,jg,h=>by
  simp only [ordB,ho,List.any_eq_true,aO,Bool.or_eq_true] at h;obtain ⟨e,he,hb,hj⟩:=h;have Td:e∈o.after:=sU he;have h1:=jg e Td hb;rcases hj with hj | hj
  ·have:e.on=j:=sU hj;rw [<- this];exact h1
  ·cases hoe:ops[e.on]? with
   | none=>
    cases n with
    | zero=>simp [ordB] at hj
    | succ n=>simp [ordB,hoe] at hj
   | some o'=>
    have hg:bN.getD e.on true=true:=by grind
    exact mA hd n j e.on o' hoe (hd e.on o' hoe hg) hj
theorem zT (hc:tj ops W π=true):∀ j i x y,π j < π i->ops[i]? = some x->ops[j]? = some y->qQ x.op=true->W j=false:=by
 simp only [tj,aO,List.all_eq_true,List.mem_range] at hc;intro j i x y SZ hx hy hL;have hj:=(Array.getElem?_eq_some_iff.1 hy).1;have:=hc.2 i (Array.getElem?_eq_some_iff.1 hx).1;simp only [hx,aO,Bool.or_eq_true,hL,Bool.not_true,Bool.false_eq_true,false_or,List.all_eq_true,List.mem_range,Bool.not_eq_true'] at this;rcases this.2 j hj with h1 | h1
 ·have:¬ Nat.blt (π j) (π i)=true:=by simp [h1]
  simp at this;omega
 ·exact h1
theorem yl (hc:tj ops W π=true):∀ i x,ops[i]? = some x->∀ e∈x.after,Region.binds .any e=true->π e.on < π i/\e.on < ops.size:=by
 simp only [tj,aO,List.all_eq_true,List.mem_range] at hc;intro i x hx e he hb;have:=hc.2 i (Array.getElem?_eq_some_iff.1 hx).1;simp only [hx,aO,List.all_eq_true,Bool.or_eq_true] at this;have h2:=this.1 e (sU he);rw [hb] at h2;simpa using h2
theorem BS (hc:tj ops W π=true):∀ (j:Nat) (o:Oper) cs b,ops[j]? = some o->o.op ≠ .select cs b:=by
 simp only [tj,aO] at hc;exact Region.noSelect_spec hc.1
theorem zU:∀ {l:List Nat},l.Pairwise (fun a b=>π a < π b)->∀ {x y:Nat},x∈l->y∈l->x≠y->π x < π y∨π y < π x
 | [],_,x,y,hx,_,_=>by cases hx
 | h :: r,hp,x,y,hx,hy,bg=>by
  have xK:=List.pairwise_cons.1 hp;rcases cr hx with e1 | e1
  ·grind
  ·rcases cr hy with e2 | e2
   ·subst e2;exact .inr (xK.1 _ e1)
   ·exact zU xK.2 e1 e2 bg
theorem ow {Q':Exit->Act->World->Prop} (ex:Nat->Nat->Bool) (hcO:tj ops W π=true) (hcS:BR ops W π ex=true) (hQ:∀ a w,Q a w->Q' .normal a w):∀ (pB:Nat) (bN:Array Bool) (rem:List Nat) (a:Act) (w:World),
  bN.size=ops.size->Dn ops bN->(∀ i,i∈rem↔i < ops.size/\bN.getD i true=false)->rem.Pairwise (fun a b=>π a < π b)->rem.length<=pB->(∀ j∈rem,∀ i∈rem,ex j i=false)->(KU ops rem->C w)->runT P ops W C Q rem a w ->
   wpAny P .any ops Q' pB bN a w:=by
 have ov:=BS hcO;have Oi:=zT hcO;have KW:=yl hcO;simp only [BR,List.all_eq_true,List.mem_range,Bool.or_eq_true,Bool.not_eq_true'] at hcS;intro pB
 induction pB with
 | zero=>
  intro bN rem a w bL Oj KX hp hlen hex hC hr;have:rem=[]:=List.length_eq_zero_iff.1 (by omega);subst this;refine ⟨?_,hQ _ _ hr⟩;rw [List.eq_nil_iff_forall_not_mem];intro i hi;have:=(mem_ready.1 hi)
  grind
 | succ pB ih=>
  intro bN rem a w bL Oj KX hp hlen hex hC hr
  have Te:∀ i,i∈Region.ready .any ops bN->i∈rem:=by
   intro i hi;obtain ⟨h1,o,ho,_⟩:=mem_ready.1 hi
   grind
  refine ⟨fun h0=>?_,fun i hi=>?_⟩
  ·cases rem with
   | nil=>exact hQ _ _ hr
   | cons h rem=>
    have hh:=(KX h).1 (by simp);have hx:ops[h]? = some ops[h]:=Array.getElem?_eq_getElem hh.1
    have:h∈Region.ready .any ops bN:=by
     refine mem_ready.2 ⟨hh.2,_,hx,fun e he hb=>?_⟩;obtain ⟨av,hlt2⟩:=KW h _ hx e he hb;cases hg:bN.getD e.on false
     ·have D9:bN.getD e.on true=false:=by grind
      have hm:=(KX e.on).2 ⟨by omega,D9⟩;rcases cr hm with e1 | e1
      ·rw [e1] at av;omega
      ·have:=(List.pairwise_cons.1 hp).1 _ e1;omega
     ·rfl
    rw [h0] at this;cases this
  ·have Kd:=Te i hi;obtain ⟨Bn,o,ho,jg⟩:=mem_ready.1 hi;have dz:=(Array.getElem?_eq_some_iff.1 ho).1
   have OV:∀ j∈rem,j≠i->π j < π i->pA ops W j i=true:=by
    intro j hj _ av;rcases hcS i dz j ((KX j).1 hj).1 with ((h1 | h1) | h1) | h1
    ·have:¬ Nat.blt (π j) (π i)=true:=by simp [h1]
     simp at this;omega
    ·rw [hex j hj i Kd] at h1;cases h1
    ·grind [mA]
    ·exact h1
   have bi:=jJ ov Oi ho rem a w hC hr Kd OV hp;have hnd:rem.Nodup:=o9 hp
   have key:∀ a' w',((W i=false->C w->C w')/\runT P ops W C Q (rem.erase i) a' w')->wpAny P .any ops Q' pB (bN.setIfInBounds i true) a' w':=by
    rintro a' w' ⟨KV,nk⟩;refine ih (bN.setIfInBounds i true) (rem.erase i) a' w' (by simp [bL]) ?_ ?_ (hp.sublist List.erase_sublist) (by rw [List.length_erase_of_mem Kd];omega) (fun j hj i hi=>hex j (List.mem_of_mem_erase hj) i (List.mem_of_mem_erase hi)) ?_ nk
    ·intro k x hx hk e he hb;by_cases xI:k=i
     ·subst xI;rw [ho] at hx;simp only [oI] at hx;subst hx;exact getD_set_true (jg e he hb)
     ·rw [getD_set_ne true (Ne.symm xI)] at hk;exact getD_set_true (Oj k x hx hk e he hb)
    ·intro k;rw [List.Nodup.mem_erase_iff hnd];by_cases xI:k=i
     ·subst xI;simp [bL,dz]
     ·rw [getD_set_ne true (Ne.symm xI)]
      grind
    ·rintro ⟨l,z,hl,hz,hL⟩;have Bm:=List.mem_of_mem_erase hl;have bg:l≠i:=fun e=>by subst e;exact (List.Nodup.mem_erase_iff hnd).1 hl |>.1 rfl
     have Ws:=hC ⟨l,z,Bm,hz,hL⟩;refine KV ?_ Ws;rcases Nat.lt_or_ge (π i) (π l) with h1 | h1
     ·exact Oi i l z o h1 hz ho hL
     ·have h0:π l≠π i:=by
       intro he;rcases zU hp Bm Kd bg with h2 | h2<;>omega
      have:=OV l Bm bg (by omega);obtain ⟨_,_,_,h4⟩:=jI this hz ho
      grind
   unfold wpOp
   grind [eN,BH,lk]
theorem kf {id:Nat} {Q':Exit->Act->World->Prop} {a:Act} {w:World} (hm:P.follows .mixedOrders=true) (hc:EB ops W=true) (hQ:∀ a w,Q a w->Q' .normal a w)
  (hC:C w.drew) (h:runT P ops W C Q (List.range ops.size) a w.drew):(Code.region id ops true).wp P Q' a w:=by
 refine wp_region_any hm ?_;simp only [EB,aO] at hc;refine ow (π:=fun i=>i) Wr hc.1 hc.2 hQ ops.size (Array.replicate ops.size false) (List.range ops.size) a _ (by simp) ?_ ?_ List.pairwise_lt_range (by simp) (fun _ _ _ _=>rfl) (fun _=>hC) h
 ·intro i o ho hl;have:i < ops.size:=(Array.getElem?_eq_some_iff.1 ho).1;simp [this] at hl
 ·simp_all
end
end Dv
end Go.Proofs.YtphonmiflfhdbaaGreat
namespace Go.Proofs.YtphonmiflfhdbaaGreat
namespace Dv
open Go Go.RowKit
structure Dr where
 ops:Array Oper
 W:Nat->Bool
 k:List It
 kY:St
 fin:Option (Bool->List (Nat × Sl)->St->Prop)
structure Dw where
 d:Dr
 E0:En
 wr:World
structure CC (E0:En) (bx:List (List DV)) (wr w:World):Prop where
 o:∀ (i:Nat) b cs,E0.β[i]? = some b->bx[i]? = some cs->cs ≠ []->w.heap[b]? = wr.heap[b]?
 c:∀ x v,E0.c x=some v->w.cell? x=some v
abbrev Dw.C (D:Dw) (w:World):Prop:=CC D.E0 D.d.kY.bx D.wr w
structure uH (E:En) (bx:List (List DV)) (w:World):Prop where
 len:E.β.length=bx.length
 eQ:∀ (i:Nat) cs,bx[i]? = some cs->cs ≠ []->∃ b ty arr,E.β[i]? = some b/\w.heap[b]? = some (.cells (List.toArray arr) ty (0,0))/\RvC E cs arr
theorem Env.em {E:En} {bx:List (List DV)} {w:World} (h:Env E bx w):uH E bx w:=⟨h.len,fun i cs hi _=>h.eQ i cs hi⟩
def Wt:Option (List DV)->Bool
 | some []=>true
 | _=>false
theorem OW {o:Option (List DV)} (h:Wt o=true):o=some []:=by
 cases o with
 | none=>cases h
 | some l=>
  cases l with
  | nil=>rfl
  | cons _ _=>cases h
def Dw.wc (D:Dw) (E:En):En:=⟨D.E0.c,E.β,E.tk,E.τ⟩
structure gq (X:Ctx) (D:Dw) (c:Bool) (E:En) (s0:List (Nat × Sl)) (st:St) (a:Act) (w:World):Prop where
 rel:Rel X E st a w
 x:Ext D.E0 E
 β:∃ r,E.β=D.E0.β ++ r
 t0:∀ i x,get s0 i=some x->(Holds a.tmps x.gs->∃ v,a.tmps[i]? = some v/\Rv (D.wc E) x.s v)/\(¬ Holds a.tmps x.gs->a.tmps[i]? = some undef)
 cc:c=true->D.C w
def Dw.Q (D:Dw) (X:Ctx) (a:Act) (w:World):Prop:=
 match D.d.fin with
 | none=>kq X D.d.k .normal a w
 | some F=>∃ c E s0 st,gq X D c E s0 st a w/\F c s0 st
def delF {γ:Type _} (d:Nat):List (Nat × Sl)->(List (Nat × Sl)->γ)->γ
 | [],K=>K []
 | p :: r,K=>
  match Nat.beq p.1 d with
  | true=>delF d r K
  | false=>delF d r (fun r'=>K (p :: r'))
theorem pD {γ:Type _} (d:Nat):∀ (l:List (Nat × Sl)) (K:List (Nat × Sl)->γ),delF d l K=K (l.filter fun p=>!Nat.beq p.1 d)
 | [],K=>rfl
 | p :: r,K=>by
  simp only [delF,List.filter_cons];cases h:Nat.beq p.1 d
  ·simp only [Bool.not_false,if_true];rw [pD d r]
  ·simp only [Bool.not_true,Bool.false_eq_true,if_false];rw [pD d r K]
theorem get_filter (d:Nat):∀ (l:List (Nat × Sl)) (i:Nat) (x:Sl),get (l.filter fun p=>!Nat.beq p.1 d) i=some x->i≠d/\get l i=some x
 | [],i,x,h=>by cases h
 | (k,y) :: r,i,x,h=>by
  simp only [List.filter_cons] at h;split at h
  ·rename_i hk
   have hk:k≠d:=by
    rintro rfl;simp at hk
   simp only [dh] at h ⊢;split at h
   ·grind
   ·rename_i xI;rw [ah xI];exact get_filter d r i x h
  ·rename_i hk;have hk:k=d:=sU hk;obtain ⟨h1,h2⟩:=get_filter d r i x h
   grind [dh]
def scal:DV->Bool
 | .v _=>true
 | .ud=>true
 | .loc _ _=>true
 | .el _ _=>true
 | _=>false
def put2 (s0:List (Nat × Sl)) (st:St) (dst:Option Nat) (b:Bool) (gs:List (Nat × Bool)) (s:DV) (K:List (Nat × Sl)->St->Prop):Prop:=
 match dst with
 | none=>K s0 st
 | some d=>
  match st with
  | ⟨sl,bx,tk⟩=>
   match b || scal s with
   | true=>K ((d,⟨gs,s⟩) :: s0) ⟨(d,⟨gs,s⟩) :: sl,bx,tk⟩
   | false=>delF d s0 fun iQ=>K iQ ⟨(d,⟨gs,s⟩) :: sl,bx,tk⟩
def optP:Option Prop->Prop
 | some p=>p
 | none=>False
def pR (X:Ctx) (D:Dr) (c:Bool) (s0:List (Nat × Sl)) (st:St) (G:List (Nat × Bool)) (op:Op):Option (Bool × DV):=
 match !isE op && (!qQ op || c) with
 | false=>none
 | true=>
  match pureT X.P X.T ⟨s0,D.kY.bx,[]⟩ G op with
  | some s=>some (true,s)
  | none=>
   match qQ op with
   | true=>none
   | false=>
    match pureT X.P X.T ⟨st.sl,[],[]⟩ G op with
    | some s=>some (false,s)
    | none=>none
def eR (X:Ctx) (D:Dr) (c:Bool) (s0:List (Nat × Sl)) (st:St) (op:Op) (K:Bool->DV->Prop):Option Prop:=
 match isE op with
 | true=>none
 | false=>
  match qQ op with
  | true=>
   match c with
   | true=>effR X ⟨s0,D.kY.bx,[]⟩ op (K true)
   | false=>none
  | false=>
   match effR X ⟨s0,[],[]⟩ op (K true) with
   | some p=>some p
   | none=>effR X ⟨st.sl,[],[]⟩ op (K false)
def BT (X:Ctx) (D:Dr) (c:Bool) (i:Nat) (l:List (Nat × Oper)) (f:FuncId) (args:List DV) (dst:Option Nat) (s0:List (Nat × Sl)) (st:St):Prop:=
 Go.Proofs.Enters X.P f/\((∀ p∈l,D.ops[p.1]? = some p.2)->∀ (E0:En) (wr:World),uH E0 D.kY.bx wr->∀ E a w vs,gq X ⟨D,E0,wr⟩ c E s0 st a w->RvL E args vs->Calls X.P f vs.toArray w fun e w'=>∃ v,e = .returned v /\
  (D.W i=false->CC E0 D.kY.bx wr w->CC E0 D.kY.bx wr w')/\runT X.P D.ops D.W (CC E0 D.kY.bx wr) (Dw.Q ⟨D,E0,wr⟩ X) (l.map (·.1)) (a.put dst v) w')
def OpD (X:Ctx) (D:Dr) (c:Bool) (i:Nat) (l:List (Nat × Oper)) (o:Oper) (s0:List (Nat × Sl)) (st:St):Prop:=
 (∀ p∈l,D.ops[p.1]? = some p.2)->∀ (E0:En) (wr:World),uH E0 D.kY.bx wr->∀ E a w,gq X ⟨D,E0,wr⟩ c E s0 st a w->wq X.P o a w fun a' w'=>
  (D.W i=false->CC E0 D.kY.bx wr w->CC E0 D.kY.bx wr w')/\runT X.P D.ops D.W (CC E0 D.kY.bx wr) (Dw.Q ⟨D,E0,wr⟩ X) (l.map (·.1)) a' w'
def effE (X:Ctx) (D:Dr) (c:Bool) (i:Nat) (l:List (Nat × Oper)) (o:Oper) (s0:List (Nat × Sl)) (st:St) (K:Bool->List (Nat × Sl)->St->Prop):Prop:=
 match o.op with
 | .store t x y=>
  match o.dst with
  | some _=>False
  | none=>
   match D.W i with
   | true=>optP (effC X st o (K false s0))
   | false=>
    match stObj st o.op with
    | some j=>
     match Nat.ble D.kY.bx.length j || Wt D.kY.bx[j]? with
     | true=>optP (effC X st o (K c s0))
     | false=>False
    | none=>False
 | .call cl=>
  match cl.callee with
  | .value f=>
   match rv st [] f,argsV st [] cl.args.toList with
   | some (.fn g first captured),some vs=>BT X D c i l g (first ++ vs ++ captured) o.dst s0 st
   | _,_=>False
  | _=>
   match o.dst with
   | some d=>optP (effC X st o fun st'=>delF d s0 fun iQ=>K c iQ st')
   | none=>False
 | _=>
  match o.dst with
  | some d=>
   match effC X st o fun st'=>
    match get st'.sl d with
    | some ⟨[],.loc j off⟩=>K c ((d,⟨[],.loc j off⟩) :: s0) st'
    | _=>delF d s0 fun iQ=>K c iQ st' with
   | some p=>p
   | none=>OpD X D c i l o s0 st
  | none=>False
def goD (X:Ctx) (D:Dr):Nat->Bool->List (Nat × Oper)->List (Nat × Sl)->St->Prop
 | _,c,[],s0,st=>
  match D.fin with
  | none=>go X 4000 D.k st
  | some F=>F c s0 st
 | 0,_,_ :: _,_,_=>False
 | n + 1,c,(i,o) :: r,s0,st=>
  match gw X.nt st.sl o.dst && gw X.nt s0 o.dst with
  | false=>False
  | true=>
   match o.guard with
   | none=>
    match isE o.op with
    | true=>effE X D c i r o s0 st fun c' iQ st'=>goD X D n c' r iQ st'
    | false=>
     match pR X D c s0 st [] o.op with
     | some (b,s)=>put2 s0 st o.dst b [] s (goD X D n c r)
     | none=>optP (eR X D c s0 st o.op fun b s=>put2 s0 st o.dst b [] s (goD X D n c r))
   | some (j,want)=>
    match gslot D.ops.toList j with
    | none=>False
    | some d=>
     match get st.sl d with
     | none=>False
     | some ⟨kV,_⟩=>
      match pR X D c s0 st ((d,want) :: kV) o.op with
      | some (b,s)=>
       match okG ((d,want) :: kV) o.dst with
       | true=>put2 s0 st o.dst b ((d,want) :: kV) s (goD X D n c r)
       | false=>False
      | none=>
       match get st.sl (lastG (d,want) kV).1 with
       | some ⟨[],.v (.bool b)⟩=>
        match kV with
        | []=>Br (b == want)
          (xG st d want fun Ix=>resL d want s0 fun s2=>
           match isE o.op with
           | true=>effE X D c i r o s2 Ix fun c' iQ st'=>goD X D n c' r iQ st'
           | false=>optP (eR X D c s2 Ix o.op fun b s=>put2 s2 Ix o.dst b [] s (goD X D n c r)))
          (match !qQ o.op || c with
           | true=>xG st d (!want) fun Ix=>resL d (!want) s0 fun s2=>put2 s2 Ix o.dst true [] .ud (goD X D n c r)
           | false=>False)
        | _ :: _=>Br (b == (lastG (d,want) kV).2)
          (xG st (lastG (d,want) kV).1 (lastG (d,want) kV).2 fun Ix=>resL (lastG (d,want) kV).1 (lastG (d,want) kV).2 s0 fun s2=>goD X D n c ((i,o) :: r) s2 Ix)
          (xG st (lastG (d,want) kV).1 (!(lastG (d,want) kV).2) fun Ix=>resL (lastG (d,want) kV).1 (!(lastG (d,want) kV).2) s0 fun s2=>goD X D n c ((i,o) :: r) s2 Ix)
       | some ⟨[],.ud⟩=>
        match kV with
        | []=>
         match !qQ o.op || c with
         | true=>put2 s0 st o.dst true [] .ud (goD X D n c r)
         | false=>False
        | _ :: _=>False
       | _=>False
section
variable {X:Ctx} {D:Dw} {c:Bool} {i:Nat} {s0:List (Nat × Sl)} {st:St} {E:En} {a:Act} {w:World}
theorem Tf (h:Ext D.E0 E):Ext D.E0 (D.wc E):=⟨fun _ _ h=>h,h.β,h.tk⟩
theorem EC (h:Ext D.E0 E):Ext (D.wc E) E:=⟨h.c,fun _ _ h=>h,fun k q hq=>⟨q,hq,.inl ⟨rfl,rfl⟩⟩⟩
theorem GU {E':En} (h:Ext E E'):Ext (D.wc E) (D.wc E'):=⟨fun _ _ h=>h,h.β,h.tk⟩
theorem gq.rl0 (h:gq X D c E s0 st a w) (hD:uH D.E0 D.d.kY.bx D.wr):Rl (D.wc E) D.d.kY.bx D.C s0 a where
 tm:=h.t0
 eQ:=fun i cs hi=>by
  by_cases bg:cs=[]
  ·subst bg;have av:i < D.E0.β.length:=by rw [hD.len];exact (gS hi).1
   exact ⟨_,[],h.x.β i _ (gE av),⟨cx _,by simp⟩,fun w' _ j u hj=>by simp at hj⟩
  ·obtain ⟨b,ty,arr,hb,hw,hc⟩:=hD.eQ i cs hi bg;exact ⟨b,arr,h.x.β i b hb,hc.mono (Tf h.x),fun w' hC j u hj=>by rw [cy ((hC.o i b cs hb hi bg).trans hw)];simpa using hj⟩
 cc:=fun x v hx w' hC=>hC.c x v hx
theorem gq.rlE (h:gq X D c E s0 st a w):Rl E [] (fun w'=>∀ x v,E.c x=some v->w'.cell? x=some v) st.sl a where
 tm:=h.rel.tm
 eQ:=fun i cs hi=>by simp at hi
 cc:=fun x v hx w' hC=>hC x v hx
theorem GV {s:DV} {v:Value} (hs:scal s=true) (hv:Rv E s v):Rv (D.wc E) s v:=by
 cases s<;>simp [scal] at hs
 ·unfold Rv at hv ⊢;exact hv
 ·unfold Rv at hv ⊢;exact hv
 ·unfold Rv at hv ⊢;exact hv
 ·unfold Rv at hv ⊢;exact hv
theorem jK (h:gq X D c E s0 st a w) {dst:Option Nat} (hd:(gw X.nt st.sl dst && gw X.nt s0 dst)=true) (b:Bool) (gs:List (Nat × Bool)) (s:DV) (v:Value) (Ii:∀ d,dst=some d->∀ p∈gs,p.1≠d)
  (tH:Holds a.tmps gs->Rv E s v) (ti:b=true->Holds a.tmps gs->Rv (D.wc E) s v) (N9:¬ Holds a.tmps gs->v=undef) {K:List (Nat × Sl)->St->Prop} (hk:put2 s0 st dst b gs s K) :
  ∃ iQ st',K iQ st' /\ gq X D c E iQ st' (a.put dst v) w:=by
 simp only [aO] at hd;have h1:=pk h.rel hd.1 gs s v Ii tH N9
 cases dst with
 | none=>exact ⟨s0,st,hk,h1,h.x,h.β,h.t0,h.cc⟩
 | some d=>
  obtain ⟨sl,bx,tk⟩:=st;have ED:=hd.2;simp only [gw,aO,Nat.blt_eq] at ED
  have hold:∀ i x,i≠d->get s0 i=some x->(Holds (a.put (some d) v).tmps x.gs->∃ u,(a.put (some d) v).tmps[i]? = some u/\Rv (D.wc E) x.s u)/\(¬ Holds (a.put (some d) v).tmps x.gs->(a.put (some d) v).tmps[i]? = some undef):=by
   intro i x hi hx;simp only [Act.put];rw [Array.getElem?_setIfInBounds_ne (Ne.symm hi),kz (lg ED.2 i x hx)];exact h.t0 i x hx
  simp only [put2] at hk;split at hk
  ·rename_i hb;refine ⟨_,_,hk,h1,h.x,h.β,fun i x hx=>?_,h.cc⟩;simp only [dh] at hx;split at hx
   ·rename_i Oa;subst Oa;simp only [oI] at hx;subst hx;have h2:(a.tmps.setIfInBounds d v)[d]? = some v:=by simp [Array.getElem?_setIfInBounds,h.rel.sz,ED.1]
    simp only [Act.put]
    grind [kz,GV]
   all_goals grind
  ·rw [pD] at hk;refine ⟨_,_,hk,h1,h.x,h.β,fun i x hx=>?_,h.cc⟩;obtain ⟨h3,h4⟩:=get_filter d s0 i x hx;exact hold i x h3 h4
theorem lp (h:gq X D c E s0 st a w) {d:Nat} {b:Bool} (hd:a.tmps[d]? = some (.bool b)):gq X D c E (s0.map (bH d b)) (st.resolve d b) a w where
 rel:=j2 h.rel hd
 x:=h.x
 β:=h.β
 t0:=by
  intro i y hy;simp only [get_map,Option.map_eq_some_iff] at hy;obtain ⟨x,hx,rfl⟩:=hy;have ht:=h.t0 i x hx;unfold bH;split
  ·rename_i hi;have dz:i=d:=sU hi;subst dz;exact ⟨fun _=>⟨_,hd,fm rfl⟩,fun hn=>(hn (bh _)).elim⟩
  ·split
   ·grind [Holds,sm,bh]
   ·have he:Holds a.tmps (x.gs.filter fun p=>p != (d,b))↔Holds a.tmps x.gs:=by
     constructor
     ·intro hh p hp;by_cases J9:p=(d,b)
      ·subst J9;exact hd
      ·exact hh p (by simp [List.mem_filter,hp,J9])
     ·intro hh p hp;exact hh p (List.mem_filter.1 hp).1
    simp only [he];exact ht
 cc:=h.cc
theorem pF {nt d:Nat} {b:Bool} {dst:Option Nat} (h:(gw nt st.sl dst && gw nt s0 dst)=true):(gw nt (st.resolve d b).sl dst && gw nt (s0.map (bH d b)) dst)=true:=by
 simp only [aO] at h ⊢;exact ⟨j3 h.1,j3 (st:=⟨s0,[],[]⟩) h.2⟩
theorem BU (hD:uH D.E0 D.d.kY.bx D.wr) (h:gq X D c E s0 st a w) {G:List (Nat × Bool)} (hG:Holds a.tmps G) {o:Oper} {b:Bool} {s:DV} (hp:pR X D.d c s0 st G o.op=some (b,s)) :
  isE o.op=false/\(qQ o.op=true->c=true)/\∃ v,Rv E s v/\(b=true->Rv (D.wc E) s v)/\∀ w,(qQ o.op=true->D.C w)->(execOp a.eval o).run X.P w = .ok (.value v) w:=by
 unfold pR at hp;split at hp
 ·cases hp
 ·rename_i hc;simp only [aO,Bool.not_eq_true',Bool.or_eq_true] at hc;refine ⟨hc.1,fun hL=>?_,?_⟩
  ·grind
  ·split at hp
   ·rename_i s' hs;simp only [oI,Prod.mk.injEq] at hp;obtain ⟨rfl,rfl⟩:=hp;obtain ⟨v,hv,hr⟩:=ic (st:=⟨s0,D.d.kY.bx,[]⟩) X.hT (h.rl0 hD) hG hs;exact ⟨v,Rv.mono (EC h.x) hv,fun _=>hv,hr⟩
   ·split at hp
    ·cases hp
    ·rename_i hL;split at hp
     ·rename_i s' hs;simp only [oI,Prod.mk.injEq] at hp;obtain ⟨rfl,rfl⟩:=hp;obtain ⟨v,hv,hr⟩:=ic (st:=⟨st.sl,[],[]⟩) X.hT h.rlE hG hs
      grind
     ·cases hp
theorem KY (hD:uH D.E0 D.d.kY.bx D.wr) (h:gq X D c E s0 st a w) {o:Oper} {K:Bool->DV->Prop} (hp:optP (eR X D.d c s0 st o.op K)) :
  isE o.op=false/\(qQ o.op=true->c=true)/\∃ b s v,K b s/\Rv E s v/\(b=true->Rv (D.wc E) s v)/\∀ w,(qQ o.op=true->D.C w)->(execOp a.eval o).run X.P w = .ok (.value v) w:=by
 unfold eR at hp;split at hp
 ·exact hp.elim
 ·rename_i hE;refine ⟨hE,?_⟩;split at hp
  ·rename_i hL;split at hp
   ·refine ⟨fun _=>rfl,?_⟩
    cases hs:effR X ⟨s0,D.d.kY.bx,[]⟩ o.op (K true) with
    | none=>rw [hs] at hp;exact hp.elim
    | some p=>
     rw [hs] at hp;obtain ⟨s,hk,v,hv,hr⟩:=lj (st:=⟨s0,D.d.kY.bx,[]⟩) (h.rl0 hD) hs hp;exact ⟨true,s,v,hk,Rv.mono (EC h.x) hv,fun _=>hv,hr⟩
   ·exact hp.elim
  ·rename_i hL;have dE:∀ w':World,qQ o.op=true->False:=fun w' h1=>by rw [hL] at h1;cases h1
   refine ⟨fun h1=>(by rw [hL] at h1;cases h1),?_⟩;split at hp
   ·rename_i p hs;obtain ⟨s,hk,v,hv,hr⟩:=lj (st:=⟨s0,[],[]⟩) (C:=D.C) ⟨h.t0,fun i cs hi=>by simp at hi,(h.rl0 hD).cc⟩ hs hp;exact ⟨true,s,v,hk,Rv.mono (EC h.x) hv,fun _=>hv,fun w' _=>hr w' fun h1=>(dE w' h1).elim⟩
   ·cases hs:effR X ⟨st.sl,[],[]⟩ o.op (K false) with
    | none=>rw [hs] at hp;exact hp.elim
    | some p=>
     rw [hs] at hp;obtain ⟨s,hk,v,hv,hr⟩:=lj (st:=⟨st.sl,[],[]⟩) h.rlE hs hp
     grind
theorem OX {P:Program} {o:Oper} {K:Act->World->Prop} (h:wq P o a w K):wq P o a w fun a' w'=>K a' w' /\ ∃ u,a'=a.put o.dst u:=by grind [wq]
theorem GW (h:gq X D c E s0 st a w) {t:Option Nat} {E':En} {st':St} {a':Act} {w':World} (hs:dX t E w E' w') (hr:Rel X E' st' a' w') (ht:∀ j,t=some j->D.E0.β.length<=j∨D.d.kY.bx[j]? = some []):D.C w->D.C w':=fun hC=>
 ⟨fun i b cs hb cV bg=>by
  have jo:=h.x.β i b hb
  rw [hs.o i _ jo fun e=>by
   rcases ht i e with h1 | h1
   ·have:=(gS hb).1;omega
   ·rw [cV] at h1;simp only [oI] at h1;exact bg h1]
  exact hC.o i b cs hb cV bg,fun x v hx=>hr.env.sub x v (hs.x.c x v (h.x.c x v hx))⟩
theorem uI (h:gq X D c E s0 st a w) {t:Option Nat} {E':En} {st':St} {w':World} {c':Bool} {iQ:List (Nat × Sl)} {dst:Option Nat} {u:Value} (hs:dX t E w E' w') (hr:Rel X E' st' (a.put dst u) w') (uz:c'=true->D.C w')
  (ht0:∀ i x,get iQ i=some x->(∃ d,dst=some d/\i=d/\scal x.s=true/\get st'.sl d=some x)∨(get s0 i=some x/\∀ d,dst=some d->i≠d)) (hd:gw X.nt s0 dst=true):gq X D c' E' iQ st' (a.put dst u) w' where
 rel:=hr
 x:=by
  refine ⟨fun y v hy=>hs.x.c y v (h.x.c y v hy),fun j b hb=>hs.x.β j b (h.x.β j b hb),fun k q hq=>?_⟩;obtain ⟨q1,h1,h2⟩:=h.x.tk k q hq;obtain ⟨q2,h3,h4⟩:=hs.x.tk k q1 h1
  grind
 β:=by
  obtain ⟨r1,h1⟩:=h.β;obtain ⟨r2,h2⟩:=hs.β
  grind
 t0:=fun i x hx=>by
  rcases ht0 i x hx with ⟨d,rfl,rfl,Od,hg⟩ | ⟨hg,bg⟩
  ·have:=hr.tm _ _ hg
   grind [GV]
  ·have h1:=h.t0 i x hg
   cases dst with
   | none=>
    refine ⟨fun hh=>?_,h1.2⟩;obtain ⟨v,h2,h3⟩:=h1.1 hh;exact ⟨v,h2,Rv.mono (GU hs.x) h3⟩
   | some d=>
    simp only [gw,aO,Nat.blt_eq] at hd;simp only [Act.put];rw [Array.getElem?_setIfInBounds_ne (Ne.symm (bg d rfl)),kz (lg hd.2 i x hg)];refine ⟨fun hh=>?_,h1.2⟩;obtain ⟨v,h2,h3⟩:=h1.1 hh;exact ⟨v,h2,Rv.mono (GU hs.x) h3⟩
 cc:=uz
def Wu (X:Ctx) (D:Dw) (l:List Nat) (G:Bool->List (Nat × Sl)->St->Prop):Prop:=∀ c s0 st,G c s0 st->∀ E a w,gq X D c E s0 st a w->runT X.P D.d.ops D.d.W D.C (D.Q X) l a w
theorem EE (hD:uH D.E0 D.d.kY.bx D.wr) {l:List (Nat × Oper)} (hl:∀ p∈l,D.d.ops[p.1]? = some p.2) {G:Bool->List (Nat × Sl)->St->Prop} (hG:Wu X D (l.map (·.1)) G) {o:Oper} (hd:(gw X.nt st.sl o.dst && gw X.nt s0 o.dst)=true) (h:gq X D c E s0 st a w)
  (he:effE X D.d c i l o s0 st G):wq X.P o a w fun a' w'=>(D.d.W i=false->D.C w->D.C w')/\runT X.P D.d.ops D.d.W D.C (D.Q X) (l.map (·.1)) a' w':=by
 have EF:=hd;simp only [aO] at EF;have hlen:D.E0.β.length=D.d.kY.bx.length:=hD.len
 have core:∀ (K:St->Prop) (p:Prop) (c1:Bool),effC X st o K=some p->p->(c1=true->c=true)->(c1=true∨D.d.W i=false->∀ j,stObj st o.op=some j->D.E0.β.length<=j∨D.d.kY.bx[j]? = some []) ->
   (∀ st',K st' -> ∃ iQ,G c1 iQ st' /\ ∀ i x,get iQ i=some x->(∃ d,o.dst=some d/\i=d/\scal x.s=true/\get st'.sl d=some x)∨(get s0 i=some x/\∀ d,o.dst=some d->i≠d)) ->
   wq X.P o a w fun a' w'=>(D.d.W i=false->D.C w->D.C w')/\runT X.P D.d.ops D.d.W D.C (D.Q X) (l.map (·.1)) a' w':=by
  intro K p c1 hp hpp Tg bi hK;refine lk ?_ (OX (ll EF.1 h.rel hp hpp));rintro a' w' ⟨⟨st',E',hk,hr,hs⟩,u,rfl⟩;refine ⟨fun hW=>GW h hs hr (bi (.inr hW)),?_⟩;obtain ⟨iQ,hg,ht0⟩:=hK st' hk;exact hG c1 iQ st' hg E' _ w' (uI h hs hr (fun hc=>GW h hs hr (bi (.inl hc)) (h.cc (Tg hc))) ht0 EF.2)
 have Q8:(∀ t x y,o.op ≠ .store t x y)->∀ j,stObj st o.op=some j->D.E0.β.length<=j∨D.d.kY.bx[j]? = some []:=by simp_all [stObj]
 have Wv:∀ (d:Nat) (st':St),o.dst=some d->∀ i x,get (s0.filter fun p=>!Nat.beq p.1 d) i=some x->(∃ d,o.dst=some d/\i=d/\scal x.s=true/\get st'.sl d=some x)∨(get s0 i=some x/\∀ d,o.dst=some d->i≠d):=by
  intro d st' kg i x hx;obtain ⟨h1,h2⟩:=get_filter d s0 i x hx
  grind
 unfold effE at he;split at he
 ·rename_i t x y tJ;split at he
  ·exact he.elim
  ·rename_i kg;have KH:∀ st':St,∀ i x,get s0 i=some x->(∃ d,o.dst=some d/\i=d/\scal x.s=true/\get st'.sl d=some x)∨(get s0 i=some x/\∀ d,o.dst=some d->i≠d):=fun st' i x hx=>.inr ⟨hx,fun d hd=>by rw [kg] at hd;cases hd⟩;split at he
   ·rename_i hW
    cases hp:effC X st o (G false s0) with
    | none=>rw [hp] at he;exact he.elim
    | some p=>
     rw [hp] at he;exact core _ p false hp he (by intro h;cases h) (by rintro (h1 | h1);cases h1;rw [hW] at h1;cases h1) fun st' hk=>⟨s0,hk,KH st'⟩
   ·split at he
    ·rename_i j hj;split at he
     ·rename_i fN
      have fN:D.d.kY.bx.length<=j∨D.d.kY.bx[j]? = some []:=by
       rcases Bool.or_eq_true _ _ |>.mp fN with h1 | h1
       ·exact .inl (sU h1)
       ·exact .inr (OW h1)
      cases hp:effC X st o (G c s0) with
      | none=>rw [hp] at he;exact he.elim
      | some p=>
       rw [hp] at he;exact core _ p c hp he id (fun _ j' jo=>by rw [hj] at jo;cases jo;rw [hlen];exact fN) fun st' hk=>⟨s0,hk,KH st'⟩
     ·exact he.elim
    ·exact he.elim
 ·rename_i cl tJ;split at he
  ·rename_i f tp;split at he
   ·rename_i g first captured vs hf Bm
    obtain ⟨kv,Ww⟩:=he;have fy:=h.rel.rl;have e1:=aX fy hf;unfold Rv at e1;obtain ⟨l1,r1,e1,GS,hr1⟩:=e1;have hargs:=ib fy (bh _) _ _ Bm;obtain ⟨dst,op,ty,pos,after,gu⟩:=o;obtain ⟨callee,args,argTypes⟩:=cl;simp only at tJ tp;subst tJ tp
    have hr:(execOp a.eval ⟨dst,.call ⟨.value f,args,argTypes⟩,ty,pos,after,gu⟩).run X.P w = .ok (.enter g (l1 ++ args.toList.map a.eval ++ r1).toArray) w:=by
     have e3:(l1.toArray ++ args.map a.eval ++ r1.toArray)=(l1 ++ args.toList.map a.eval ++ r1).toArray:=by apply Array.ext';simp
     simp only [execOp,resolve,e1,Deferred.ofValue,Sem.run_bind,Sem.run_pure,Result.andThen_ok,invoke,e3];exact kv _ _
    unfold wq;rw [hr];exact Ww hl D.E0 D.wr hD E a w _ h ((GS.append hargs).append hr1)
   ·exact he.elim
  ·split at he
   ·rename_i d kg
    cases hp:effC X st o (fun st'=>delF d s0 fun iQ=>G c iQ st') with
    | none=>rw [hp] at he;exact he.elim
    | some p=>
     rw [hp] at he;refine core _ p c hp he id (fun _=>Q8 (fun t x y h1=>by rw [tJ] at h1;cases h1)) fun st' hk=>?_;rw [pD] at hk;exact ⟨_,hk,Wv d st' kg⟩
   ·exact he.elim
 ·rename_i Ea QU;split at he
  ·rename_i d kg
   cases hp:effC X st o (fun st'=>
    match get st'.sl d with
    | some ⟨[],.loc j off⟩=>G c ((d,⟨[],.loc j off⟩) :: s0) st'
    | _=>delF d s0 fun iQ=>G c iQ st') with
   | none=>rw [hp] at he;exact he hl D.E0 D.wr hD E a w h
   | some p=>
    rw [hp] at he;refine core _ p c hp he id (fun _=>Q8 Ea) fun st' hk=>?_;split at hk
    ·rename_i j off hg;refine ⟨_,hk,fun i x hx=>?_⟩;simp only [dh] at hx;split at hx
     ·rename_i Oa;simp only [oI] at hx;subst hx;exact .inl ⟨d,kg,Oa.symm,rfl,hg⟩
     all_goals grind
    ·rw [pD] at hk;exact ⟨_,hk,Wv d st' kg⟩
  ·exact he.elim
theorem ig (hD:uH D.E0 D.d.kY.bx D.wr):∀ n c l s0 st,goD X D.d n c l s0 st->(∀ p∈l,D.d.ops[p.1]? = some p.2)->∀ E a w,gq X D c E s0 st a w->runT X.P D.d.ops D.d.W D.C (D.Q X) (l.map (·.1)) a w
 | n,c,[],s0,st,hg,hl=>by
  intro E a w h;have hg:(match D.d.fin with | none=>go X 4000 D.d.k st | some F=>F c s0 st):=by cases n<;>simpa only [goD] using hg
  show D.Q X a w;unfold Dw.Q
  cases hf:D.d.fin with
  | none=>
   rw [hf] at hg;exact go_sound 4000 _ _ hg E a w h.rel
  | some F=>
   rw [hf] at hg;exact ⟨c,E,s0,st,h,hg⟩
 | 0,c,_ :: _,s0,st,hg,_=>by exact hg.elim
 | n + 1,c,(i,o) :: r,s0,st,hg,hl=>by
  intro E a w h;have ho:D.d.ops[i]? = some o:=hl (i,o) (by simp);have Bm:∀ p∈r,D.d.ops[p.1]? = some p.2:=fun p hp=>hl p (gh _ hp);simp only [List.map_cons];have ih:∀ c s0 st,goD X D.d n c r s0 st->∀ E a w,gq X D c E s0 st a w->runT X.P D.d.ops D.d.W D.C (D.Q X) (r.map (·.1)) a w:=fun c s0 st hg=>ig hD n c r s0 st hg Bm;have ihG:Wu X D (r.map (·.1)) (fun c s0 st=>goD X D.d n c r s0 st):=fun c s0 st hg=>ih c s0 st hg;simp only [goD,GJ,zH] at hg;split at hg
  ·exact hg.elim
  ·rename_i hd
   have fR:∀ (v:Value) iQ st',isE o.op=false->Yl X.P D.d.ops D.C o v a->(qQ o.op=true->c=true)->goD X D.d n c r iQ st' -> gq X D c E iQ st' (a.put o.dst v) w ->
     runT X.P D.d.ops D.d.W D.C (D.Q X) (i :: r.map (·.1)) a w:=by
    intro v iQ st' hE hy kr jc cJ;simp only [runT,ho];rw [ah (by simp [hE])];exact ⟨v,hy,fun hL=>h.cc (kr hL),ih c iQ st' jc E _ w cJ⟩
   have fS:∀ iQ st',isE o.op=true->Region.wanted o (yielded D.d.ops a.tmps)=false->goD X D.d n c r iQ st' -> gq X D c E iQ st' (a.put o.dst undef) w ->
     runT X.P D.d.ops D.d.W D.C (D.Q X) (i :: r.map (·.1)) a w:=by
    intro iQ st' hE hw jc cJ;simp only [runT,ho];rw [ai hE];unfold eN;rw [ah (by simp [hw])];exact ⟨fun _ h=>h,ih c iQ st' jc E _ w cJ⟩
   have fE:∀ iQ st',isE o.op=true->Region.wanted o (yielded D.d.ops a.tmps)=true->(gw X.nt st'.sl o.dst && gw X.nt iQ o.dst)=true->effE X D.d c i r o iQ st' (fun c' iQ st'=>goD X D.d n c' r iQ st')->gq X D c E iQ st' a w ->
     runT X.P D.d.ops D.d.W D.C (D.Q X) (i :: r.map (·.1)) a w:=by
    intro iQ st' hE hw EF he cJ;simp only [runT,ho];rw [ai hE];unfold eN;rw [ai hw];exact EE hD Bm ihG EF cJ he
   have fP:∀ iQ st',Region.wanted o (yielded D.d.ops a.tmps)=true->(gw X.nt st'.sl o.dst && gw X.nt iQ o.dst)=true->optP (eR X D.d c iQ st' o.op fun b s=>put2 iQ st' o.dst b [] s (goD X D.d n c r))->gq X D c E iQ st' a w ->
     runT X.P D.d.ops D.d.W D.C (D.Q X) (i :: r.map (·.1)) a w:=by
    intro iQ st' hw EF he cJ;obtain ⟨hE,kr,b,s,v,hk,hv,ti,ch⟩:=KY hD cJ he;obtain ⟨s1,qZ,o6,eO⟩:=jK cJ EF b [] s v (fun _ _ p hp=>by cases hp) (fun _=>hv) (fun hb _=>ti hb) (fun hn=>(hn (bh _)).elim) hk;exact fR v s1 qZ hE (.inl ⟨hw,ch⟩) kr o6 eO
   have udE:∀ iQ st',(gw X.nt st'.sl o.dst && gw X.nt iQ o.dst)=true->gq X D c E iQ st' a w->put2 iQ st' o.dst true [] .ud (goD X D.d n c r)->∃ s1 qZ,goD X D.d n c r s1 qZ/\gq X D c E s1 qZ (a.put o.dst undef) w:=by
    intro iQ st' EF cJ hk;exact jK cJ EF true [] .ud undef (fun _ _ p hp=>by cases hp) (fun _=>sm E) (fun _ _=>sm _) (fun hn=>(hn (bh _)).elim) hk
   split at hg
   ·rename_i OR;have hw:Region.wanted o (yielded D.d.ops a.tmps)=true:=by simp [Region.wanted,OR]
    split at hg
    ·rename_i hE;exact fE s0 st hE hw hd hg h
    ·split at hg
     ·rename_i b s hs;obtain ⟨hE,kr,v,hv,ti,ch⟩:=BU hD h (bh _) hs;obtain ⟨s1,qZ,o6,eO⟩:=jK h hd b [] s v (fun _ _ p hp=>by cases hp) (fun _=>hv) (fun hb _=>ti hb) (fun hn=>(hn (bh _)).elim) hg;exact fR v s1 qZ hE (.inl ⟨hw,ch⟩) kr o6 eO
     ·exact fP s0 st hw hd hg h
   ·rename_i j want OR;split at hg
    ·exact hg.elim
    ·rename_i d Ii;split at hg
     ·exact hg.elim
     ·rename_i kV sd Q6;have uC:=wanted_spec h.rel OR Ii Q6;have EG:¬ Holds a.tmps ((d,want) :: kV)->Region.wanted o (yielded D.d.ops a.tmps)=false:=by grind
      split at hg
      ·rename_i b s hs;split at hg
       case h_2=>exact hg.elim
       rename_i bF;have Wx:=uB bF;by_cases hh:Holds a.tmps ((d,want) :: kV)
       ·obtain ⟨hE,kr,v,hv,ti,ch⟩:=BU hD h hh hs;obtain ⟨s1,qZ,o6,eO⟩:=jK h hd b _ s v Wx (fun _=>hv) (fun hb _=>ti hb) (fun hn=>(hn hh).elim) hg;exact fR v s1 qZ hE (.inl ⟨uC.2 hh,ch⟩) kr o6 eO
       ·obtain ⟨s1,qZ,o6,eO⟩:=jK h hd b _ s undef Wx (fun hn=>(hh hn).elim) (fun _ hn=>(hh hn).elim) (fun _=>rfl) hg;have kr:isE o.op=false/\(qQ o.op=true->c=true):=by grind [pR]
        exact fR undef s1 qZ kr.1 (.inr ⟨EG hh,rfl⟩) kr.2 o6 eO
      ·split at hg
       ·rename_i b iP;have ht0:=BL h.rel iP
        cases kV with
        | nil=>
         simp only [lastG] at iP ht0;cases Iu:(b == want)
         ·have Ez:b = !want:=by cases b<;>cases want<;>simp_all
          have hg:=hg.f Iu
          have hn:Region.wanted o (yielded D.d.ops a.tmps)=false:=by
           refine EG fun hh=>?_;have:=hh (d,want) (by simp)
           grind
          have hr:=lp (d:=d) (b:=!want) h (by rw [ht0,Ez]);split at hg
          ·rename_i kr
           have Th:qQ o.op=true->c=true:=by
            intro hL;simpa [hL] using kr
           obtain ⟨s1,qZ,o6,eO⟩:=udE _ _ (pF hd) hr hg;cases hE:isE o.op
           ·exact fR undef s1 qZ hE (.inr ⟨hn,rfl⟩) Th o6 eO
           ·exact fS s1 qZ hE hn o6 eO
          ·exact hg.elim
         ·have Q7:b=want:=sU Iu;have hg:=hg.t Iu
          grind [jE,bh,lp,pF]
        | cons g1 gr=>
         have key:∀ e,a.tmps[(lastG (d,want) (g1 :: gr)).1]? = some (.bool e)->goD X D.d n c ((i,o) :: r) (s0.map (bH (lastG (d,want) (g1 :: gr)).1 e)) (st.resolve (lastG (d,want) (g1 :: gr)).1 e)->_:=
          fun e KA jc=>ig hD n c ((i,o) :: r) _ _ jc hl E a w (lp h KA)
         cases Iu:(b == (lastG (d,want) (g1 :: gr)).2)
         ·have hg:=hg.f Iu;have Ez:b = !(lastG (d,want) (g1 :: gr)).2:=by cases b<;>cases h0:(lastG (d,want) (g1 :: gr)).2<;>simp_all
          exact key _ (by rw [ht0,Ez]) hg
         all_goals simp_all
       ·rename_i iP
        cases kV with
        | nil=>
         have ht0:=KN h.rel iP;simp only [lastG] at ht0
         have hn:Region.wanted o (yielded D.d.ops a.tmps)=false:=by
          refine EG fun hh=>?_;have:=hh (d,want) (by simp);simp only at this;rw [ht0] at this;simp [undef] at this
         simp only at hg;split at hg
         ·rename_i kr
          have Th:qQ o.op=true->c=true:=by
           intro hL;simpa [hL] using kr
          obtain ⟨s1,qZ,o6,eO⟩:=udE _ _ hd h hg;cases hE:isE o.op
          ·exact fR undef s1 qZ hE (.inr ⟨hn,rfl⟩) Th o6 eO
          ·exact fS s1 qZ hE hn o6 eO
         ·exact hg.elim
        | cons g1 gr=>exact hg.elim
       ·exact hg.elim
def OpS (X:Ctx) (o:Oper) (st st':St):Prop:=∀ E a w,Rel X E st a w->wq X.P o a w fun a' w'=>∃ E',Rel X E' st' a' w' /\ dX none E w E' w'
theorem OpS.g {o:Oper} {k:List It} {st st':St} (h:OpS X o st st') (hk:go X 4000 k st'):Ks X o k st:=fun E a w hr=>by
 refine BH (lk ?_ (h E a w hr));rintro a' w' ⟨E',nk,_⟩;exact go_sound 4000 _ _ hk E' a' w' nk
def nOps:Nat->List Oper->List (Nat × Oper)
 | _,[]=>[]
 | i,o :: r=>(i,o) :: nOps (i + 1) r
theorem uJ:∀ (l:List Oper) (i:Nat) (p:Nat × Oper),p∈nOps i l->i<=p.1/\l[p.1 - i]? = some p.2
 | [],_,_,h=>by cases h
 | o :: r,i,p,h=>by
  rcases cr h with h | h
  ·subst h;simp
  ·have:=uJ r (i + 1) p h
   grind
theorem uK:∀ (l:List Oper) (i:Nat),(nOps i l).map (·.1)=List.range' i l.length
 | [],_=>rfl
 | o :: r,i=>by simp only [nOps,List.map_cons,uK r (i + 1),List.length_cons,List.range'_succ]
theorem uL (hr:Rel X E st a w) {ops:Array Oper} {W:Nat->Bool} {k:List It}:gq X ⟨⟨ops,W,k,st,none⟩,E,w⟩ true E st.sl st a w where
 rel:=hr
 x:=Ext.refl E
 β:=⟨[],by simp⟩
 t0:=hr.tm
 cc:=fun _=>⟨fun _ _ _ _ _ _=>rfl,hr.env.sub⟩
theorem zV {id:Nat} {ops:Array Oper} {k:List It} {st:St} (W:Nat->Bool) (hm:X.P.follows .mixedOrders=true) (hc:EB ops W=true)
  (h:goD X ⟨ops,W,k,st,none⟩ 3000 true (nOps 0 ops.toList) st.sl st):uo X id ops k st:=by
 intro E a w hr;have nk:=mr hr;have hs:=uL nk (ops:=ops) (W:=W) (k:=k);refine kf (C:=CC E st.bx w.drew) (W:=W) (Q:=kq X k .normal) hm hc (fun a w h=>h) (hs.cc rfl) ?_;have:=ig (D:=⟨⟨ops,W,k,st,none⟩,E,w.drew⟩) nk.env.em 3000 true _ _ _ h (fun p hp=>by simpa using (uJ _ _ p hp).2) E a w.drew hs;rw [uK] at this;rw [List.range_eq_range'];simp only [Array.length_toList] at this;exact this
def maskL:List Nat->Nat->List (List DV)->List (List DV)
 | _,_,[]=>[]
 | m,i,cs :: r=>(match m.contains i with | true=>[] | false=>cs) :: maskL m (i + 1) r
theorem q7 (m:List Nat):∀ (l:List (List DV)) (i:Nat),(maskL m i l).length=l.length
 | [],_=>rfl
 | cs :: r,i=>by simp [maskL,q7 m r]
theorem q8 (m:List Nat):∀ (l:List (List DV)) (i j:Nat) cs,(maskL m i l)[j]? = some cs->cs=[]∨l[j]? = some cs
 | [],_,_,_,h=>by simp [maskL] at h
 | c :: r,i,0,cs,h=>by grind [maskL]
 | c :: r,i,j + 1,cs,h=>by
  simp only [maskL,List.getElem?_cons_succ] at h ⊢;exact q8 m r (i + 1) j cs h
theorem tK {id:Nat} {ops:Array Oper} {k:List It} {st:St} (m:List Nat) (W:Nat->Bool) (hm:X.P.follows .mixedOrders=true) (hc:EB ops W=true)
  (h:goD X ⟨ops,W,k,⟨st.sl,maskL m 0 st.bx,st.tk⟩,none⟩ 3000 true (nOps 0 ops.toList) st.sl st):uo X id ops k st:=by
 intro E a w hr;have nk:=mr hr;have hs:gq X ⟨⟨ops,W,k,⟨st.sl,maskL m 0 st.bx,st.tk⟩,none⟩,E,w.drew⟩ true E st.sl st a w.drew:=⟨nk,Ext.refl E,⟨[],by simp⟩,nk.tm,fun _=>⟨fun _ _ _ _ _ _=>rfl,nk.env.sub⟩⟩;refine kf (C:=CC E (maskL m 0 st.bx) w.drew) (W:=W) (Q:=kq X k .normal) hm hc (fun a w h=>h) (hs.cc rfl) ?_
 have Ti:uH E (maskL m 0 st.bx) w.drew:=⟨by rw [q7];exact nk.env.len,fun i cs hi bg=>by
  rcases q8 m _ _ _ _ hi with h1 | h1
  ·exact (bg h1).elim
  ·exact nk.env.eQ i cs h1⟩
 have:=ig (D:=⟨⟨ops,W,k,⟨st.sl,maskL m 0 st.bx,st.tk⟩,none⟩,E,w.drew⟩) Ti 3000 true _ _ _ h (fun p hp=>by simpa using (uJ _ _ p hp).2) E a w.drew hs;rw [uK] at this;rw [List.range_eq_range'];simp only [Array.length_toList] at this;exact this
def Wy (ops:Array Oper) (i:Nat):Bool:=
 match ops.toList[i]? with
 | some o=>
  match o.op with
  | .store ..=>true
  | _=>false
 | none=>false
theorem OY {id:Nat} {ops:Array Oper} {k:List It} {st:St} (hm:X.P.follows .mixedOrders=true) (hc:EB ops (Wy ops)=true)
  (h:goD X ⟨ops,Wy ops,k,st,none⟩ 3000 true (nOps 0 ops.toList) st.sl st):uo X id ops k st:=zV (Wy ops) hm hc h
theorem pG {D:Dr} {f:FuncId} {args bI:List DV} {d:Nat} {r:List (Nat × Oper)} (kv:Enters X.P f) (hd:(gw X.nt st.sl (some d) && gw X.nt s0 (some d))=true) {Φ:DV->List (List DV)->List TkE->Prop} (hc:Ev X.P f bI [] [] Φ) (ha:CcL [] 0 0 0 bI args)
  (hk:∀ EH,Φ EH [] []->put2 s0 st (some d) false [] EH (goD X D 3000 c r)) (bi:X.still=false:=by exact rfl):BT X D c i r f args (some d) s0 st:=by
 refine ⟨kv,fun hl E0 wr hD E a w vs h hv=>(sr h.rel bi hc ha hv).mono ?_⟩;rintro e w' ⟨v,E',EH,rfl,cJ,hr,hΦ,hm,hx,hβ⟩
 have hh:∀ b,b < w.heap.size->w'.heap[b]? = w.heap[b]?:=fun b hb=>hm.block b hb (by
  rintro (h1 | ⟨y,h1,_⟩)
  ·simp [En.cl] at h1
  ·simp [En.cl] at h1)
 have hs:dX none E w E' w':=⟨hx,⟨[],by rw [hβ];simp⟩,fun j b hb _=>hh b (h.rel.env.bf (mG hb))⟩;have hC:=GW h hs cJ (fun j hj=>by cases hj);refine ⟨v,rfl,fun _=>hC,?_⟩;have KZ:gq X ⟨D,E0,wr⟩ c E' s0 st (a.put none v) w':=uI h hs cJ (fun h1=>hC (h.cc h1)) (fun i x hx=>.inr ⟨hx,fun d hd=>by cases hd⟩) rfl;obtain ⟨s1,qZ,o6,eO⟩:=jK KZ hd false [] EH v (fun _ _ p hp=>by cases hp) (fun _=>hr) (fun hb=>by cases hb) (fun hn=>(hn (bh _)).elim) (hk EH hΦ);exact ig (D:=⟨D,E0,wr⟩) hD 3000 c r _ _ o6 hl E' _ w' eO
theorem OZ {D:Dr} {f:FuncId} {args bI:List DV} {d:Nat} {r:List (Nat × Oper)} {EH:DV} (kv:Enters X.P f) (hc:EvP X.P f bI EH) (ha:CcL [] 0 0 0 bI args) (hd:(gw X.nt st.sl (some d) && gw X.nt s0 (some d))=true)
  (hk:put2 s0 st (some d) false [] EH (goD X D 3000 c r)) (bi:X.still=false:=by exact rfl):BT X D c i r f args (some d) s0 st:=
 pG kv hd hc ha (fun _ hr=>hr ▸ hk) bi
end
end Dv
end Go.Proofs.YtphonmiflfhdbaaGreat
namespace Go.Proofs.YtphonmiflfhdbaaGreat
namespace Dv
open Go Go.RowKit
section
variable {P:Program} {ops:Array Oper} {C:World->Prop} {Q:Act->World->Prop} {W:Nat->Bool} {π π':Nat->Nat}
theorem Iy {o:Oper} {i:Nat} {a:Act} {w:World} {K:Act->World->Prop} {Q':Exit->Act->World->Prop} (ho:ops[i]? = some o) (h:eN P ops o a w K):wpOp P ops Q' i K a w:=by
 unfold wpOp
 grind [eN,BH]
def chkT (ops:Array Oper) (x y:Nat):Bool:=
 (List.range ops.size).all fun i=>Nat.beq i x || Nat.beq i y ||
  match ops[i]? with
  | some o=>!isE o.op || ordB ops ops.size x i
  | none=>false
def tq (x y:Nat):Nat->Nat->Bool:=fun j i=>Nat.beq j x && Nat.beq i y
theorem EI {x y:Nat} {Q':Exit->Act->World->Prop} (K0:x≠y) (Vp:tj ops W π=true) (Wz:BR ops W π (tq x y)=true) (h2O:tj ops W π'=true) (WA:BR ops W π' (tq y x)=true) (hT:chkT ops x y=true)
  (hQ:∀ a w,Q a w->Q' .normal a w):∀ (pB:Nat) (bN:Array Bool) (r1 r2:List Nat) (a:Act) (w:World),
  bN.size=ops.size->Dn ops bN->(∀ i,i∈r1↔i < ops.size/\bN.getD i true=false)->(∀ i,i∈r2↔i < ops.size/\bN.getD i true=false)->r1.Pairwise (fun a b=>π a < π b)->r2.Pairwise (fun a b=>π' a < π' b)->r1.length<=pB ->
   x∈r1->y∈r1->C w->runT P ops W C Q r1 a w->runT P ops W C Q r2 a w->wpAny P .any ops Q' pB bN a w:=by
 have ov:=BS Vp;have Oi:=zT Vp;have Tj:=zT h2O;have h1S':=Wz;have h2S':=WA;simp only [BR,List.all_eq_true,List.mem_range,Bool.or_eq_true,Bool.not_eq_true'] at Wz WA;intro pB
 induction pB with
 | zero=>grind
 | succ pB ih=>
  intro bN r1 r2 a w bL Oj gM tI O0 Tk hlen hx hy hC hr1 hr2;have h12:∀ i,i∈r1↔i∈r2:=fun i=>(gM i).trans (tI i).symm;have Iz:r1.Nodup:=o9 O0;have xL:r2.Nodup:=o9 Tk;have KW:=yl Vp;refine ⟨fun h0=>?_,fun i hi=>?_⟩
  ·cases r1 with
   | nil=>cases hx
   | cons h rem=>
    have hh:=(gM h).1 (by simp);have hxx:ops[h]? = some ops[h]:=Array.getElem?_eq_getElem hh.1
    have:h∈Region.ready .any ops bN:=by
     refine mem_ready.2 ⟨hh.2,_,hxx,fun e he hb=>?_⟩;obtain ⟨av,hlt2⟩:=KW h _ hxx e he hb;cases hg:bN.getD e.on false
     ·have D9:bN.getD e.on true=false:=by grind
      have hm:=(gM e.on).2 ⟨by omega,D9⟩;rcases cr hm with e1 | e1
      ·rw [e1] at av;omega
      ·have:=(List.pairwise_cons.1 O0).1 _ e1;omega
     ·rfl
    rw [h0] at this;cases this
  ·obtain ⟨Bn,o,ho,jg⟩:=mem_ready.1 hi;have dz:=(Array.getElem?_eq_some_iff.1 ho).1;have Kd:i∈r1:=(gM i).2 ⟨dz,Bn⟩;have O1:i∈r2:=(h12 i).1 Kd;have jd:∀ j,j∈r1->ordB ops ops.size j i=true->False:=by grind [mA]
   have O2:i≠y->∀ j∈r1,j≠i->π j < π i->pA ops W j i=true:=by
    intro Vq j hj _ av;rcases Wz i dz j ((gM j).1 hj).1 with ((h1 | h1) | h1) | h1
    ·have:¬ Nat.blt (π j) (π i)=true:=by simp [h1]
     simp at this;omega
    ·simp [tq] at h1;exact (Vq h1.2).elim
    ·exact (jd j hj h1).elim
    ·exact h1
   have Tl:i≠x->∀ j∈r2,j≠i->π' j < π' i->pA ops W j i=true:=by
    intro Ol j hj _ av;rcases WA i dz j ((tI j).1 hj).1 with ((h1 | h1) | h1) | h1
    ·have:¬ Nat.blt (π' j) (π' i)=true:=by simp [h1]
     simp at this;omega
    ·simp [tq] at h1;exact (Ol h1.2).elim
    all_goals grind
   have Tm:Dn ops (bN.setIfInBounds i true):=by
    intro k z hz hk e he hb;by_cases xI:k=i
    ·subst xI;rw [ho] at hz;simp only [oI] at hz;subst hz;exact getD_set_true (jg e he hb)
    ·rw [getD_set_ne true (Ne.symm xI)] at hk;exact getD_set_true (Oj k z hz hk e he hb)
   have GX:∀ (rem:List Nat),rem.Nodup->(∀ i,i∈rem↔i < ops.size/\bN.getD i true=false)->∀ k,k∈rem.erase i↔k < ops.size/\(bN.setIfInBounds i true).getD k true=false:=by
    intro rem hnd KX k;rw [List.Nodup.mem_erase_iff hnd];by_cases xI:k=i
    ·subst xI;simp [bL,dz]
    ·rw [getD_set_ne true (Ne.symm xI)]
     grind
   refine Iy ho ?_;by_cases Ol:i=x
   ·subst Ol;have bi:=jJ ov Oi ho r1 a w (fun _=>hC) hr1 Kd (O2 K0) O0;refine jH ?_ bi;rintro a' w' ⟨KV,nk⟩;refine ow (C:=C) (tq i y) Vp h1S' hQ pB _ (r1.erase i) a' w' (by simp [bL]) Tm (GX r1 Iz gM) (O0.sublist List.erase_sublist) (by rw [List.length_erase_of_mem Kd];omega) ?_ ?_ nk
    ·intro j hj k _;cases jo:tq i y j k
     ·rfl
     ·simp_all [tq]
    ·rintro ⟨l,z,hl,hz,hL⟩;refine KV ?_ hC;have Bm:=List.mem_of_mem_erase hl;have bg:l≠i:=((List.Nodup.mem_erase_iff Iz).1 hl).1;rcases zU O0 Kd Bm bg.symm with h1 | h1
     ·exact Oi i l z o h1 hz ho hL
     ·have:=O2 K0 l Bm bg h1;obtain ⟨_,_,_,h4⟩:=jI this hz ho
      grind
   ·by_cases Vq:i=y
    ·subst Vq;have bi:=jJ ov Tj ho r2 a w (fun _=>hC) hr2 O1 (Tl (Ne.symm K0)) Tk;refine jH ?_ bi;rintro a' w' ⟨KV,nk⟩;refine ow (C:=C) (tq i x) h2O h2S' hQ pB _ (r2.erase i) a' w' (by simp [bL]) Tm (GX r2 xL tI) (Tk.sublist List.erase_sublist) ?_ ?_ ?_ nk
     ·have e1:r1.length=r2.length:=(List.perm_iff_count.2 (fun z=>by rw [Iz.count,xL.count];simp [h12 z])).length_eq;rw [List.length_erase_of_mem O1];omega
     ·intro j hj k _;cases jo:tq i x j k
      ·rfl
      ·simp_all [tq]
     ·rintro ⟨l,z,hl,hz,hL⟩;refine KV ?_ hC;have Bm:=List.mem_of_mem_erase hl;have bg:l≠i:=((List.Nodup.mem_erase_iff xL).1 hl).1;rcases zU Tk O1 Bm bg.symm with h1 | h1
      ·exact Tj i l z o h1 hz ho hL
      ·have:=Tl (Ne.symm K0) l Bm bg h1;obtain ⟨_,_,_,h4⟩:=jI this hz ho
       grind
    ·have hRo:isE o.op=false:=by
      simp only [chkT,List.all_eq_true,List.mem_range,Bool.or_eq_true,Nat.beq_eq] at hT
      grind
     obtain ⟨v,hyv⟩:=ou ov ho hRo r1 a w hr1 Kd (O2 Vq) O0;have VX:=jJ ov Oi ho r1 a w (fun _=>hC) hr1 Kd (O2 Vq) O0;have Eo:=jJ ov Tj ho r2 a w (fun _=>hC) hr2 O1 (Tl Ol) Tk;have o6:=mz hyv (fun _=>hC) VX;have K1:=mz hyv (fun _=>hC) Eo;refine my hyv (fun _=>hC) ?_
     exact ih _ (r1.erase i) (r2.erase i) _ w (by simp [bL]) Tm (GX r1 Iz gM) (GX r2 xL tI) (O0.sublist List.erase_sublist) (Tk.sublist List.erase_sublist) (by rw [List.length_erase_of_mem Kd];omega)
      ((List.Nodup.mem_erase_iff Iz).2 ⟨Ne.symm Ol,hx⟩) ((List.Nodup.mem_erase_iff Iz).2 ⟨Ne.symm Vq,hy⟩) hC o6.2 K1.2
end
def selL (ops:List Oper):List Nat->List (Nat × Oper)
 | []=>[]
 | i :: r=>
  match ops[i]? with
  | some o=>(i,o) :: selL ops r
  | none=>selL ops r
theorem K2 {ops:List Oper} {l:List Nat} {p:Nat × Oper} (h:p∈selL ops l):ops[p.1]? = some p.2:=by
 induction l with
 | nil=>cases h
 | cons i r ih=>grind [selL]
def plc:List Nat->Nat->Nat
 | [],_=>0
 | x :: r,i=>if Nat.beq x i then 0 else plc r i + 1
def K3 (ops:Array Oper) (l:List Nat):Bool:=
 (selL ops.toList l).map (·.1) == l && (List.range ops.size).all (fun i=>l.contains i) && l.all (fun i=>Nat.blt i ops.size) && Nat.ble l.length ops.size && pwB (plc l) l
where pwB (f:Nat->Nat):List Nat->Bool
 | []=>true
 | x :: r=>r.all (fun y=>Nat.blt (f x) (f y)) && pwB f r
theorem uM {f:Nat->Nat}:∀ {l:List Nat},K3.pwB f l=true->l.Pairwise (fun a b=>f a < f b)
 | [],_=>List.Pairwise.nil
 | x :: r,h=>by
  simp only [K3.pwB,aO,List.all_eq_true,Nat.blt_eq] at h;exact List.pairwise_cons.2 ⟨h.1,uM h.2⟩
def WB (ops:Array Oper) (W:Nat->Bool) (l l':List Nat) (x y:Nat):Bool:=
 !Nat.beq x y && Nat.blt x ops.size && Nat.blt y ops.size && K3 ops l && K3 ops l' && tj ops W (plc l) && BR ops W (plc l) (tq x y) && tj ops W (plc l') && BR ops W (plc l') (tq y x) && chkT ops x y
def swp (i j k:Nat):Nat:=
 match Nat.beq k i with
 | true=>j
 | false=>
  match Nat.beq k j with
  | true=>i
  | false=>k
theorem lr (i j k:Nat):swp i j (swp i j k)=k:=by
 have hb:∀ a b:Nat,Nat.beq a b=decide (a=b):=fun a b=>by
  by_cases h:a=b
  ·subst h;simp
  ·rw [decide_eq_false h];cases h1:Nat.beq a b
   ·rfl
   ·exact (h (sU h1)).elim
 grind [swp]
mutual
def renD (f:Nat->Nat):DV->DV
 | .v x=>.v x
 | .ud=>.ud
 | .agg l=>.agg (renL f l)
 | .tup l=>.tup (renL f l)
 | .sl e es tk=>.sl e es tk
 | .pt cs o=>.pt cs o
 | .loc i o=>.loc (f i) o
 | .el i o=>.el (f i) o
 | .ms i e o l c=>.ms (f i) e o l c
 | .fn g l r=>.fn g (renL f l) (renL f r)
 | .sj t x=>.sj t (renD f x)
def renL (f:Nat->Nat):List DV->List DV
 | []=>[]
 | d :: r=>renD f d :: renL f r
end
def renS (f:Nat->Nat):List (Nat × Sl)->List (Nat × Sl)
 | []=>[]
 | (k,⟨gs,s⟩) :: r=>(k,⟨gs,renD f s⟩) :: renS f r
def renO (f:Nat->Nat):List (List DV)->List (List DV)
 | []=>[]
 | cs :: r=>renL f cs :: renO f r
def swL {α:Type} (i j:Nat) (l:List α):List α:=
 match l[i]?,l[j]? with
 | some a,some b=>(l.set i b).set j a
 | _,_=>l
def eS (i j:Nat) (S:St):St:=⟨renS (swp i j) S.sl,swL i j (renO (swp i j) S.bx),S.tk⟩
theorem uN (f:Nat->Nat):∀ (l:List (List DV)) (k:Nat),(renO f l)[k]? = (l[k]?).map (renL f)
 | [],k=>by simp [renO]
 | c :: r,0=>by simp [renO]
 | c :: r,k + 1=>by simp only [renO,List.getElem?_cons_succ];exact uN f r k
theorem dY (f:Nat->Nat):∀ (l:List (List DV)),(renO f l).length=l.length
 | []=>rfl
 | c :: r=>by simp [renO,dY f r]
theorem BV (f:Nat->Nat):∀ (l:List (Nat × Sl)) (k:Nat),get (renS f l) k=(get l k).map fun x=>⟨x.gs,renD f x.s⟩
 | [],k=>rfl
 | (i,⟨gs,s⟩) :: r,k=>by
  simp only [renS,dh];split
  ·rfl
  ·exact BV f r k
theorem eT {α:Type} (i j:Nat) (l:List α):(swL i j l).length=l.length:=by
 unfold swL;split<;>simp
theorem fO {α:Type} {i j:Nat} {l:List α} (hi:i < l.length) (hj:j < l.length) (k:Nat):(swL i j l)[k]? = l[swp i j k]?:=by
 have hb:∀ a b:Nat,Nat.beq a b=true↔a=b:=fun a b=>by simp
 grind [swL,swp]
theorem O3 {α:Type} {i j:Nat} {l:List α} (hi:i < l.length) (hj:j < l.length):swL i j (swL i j l)=l:=by
 apply List.ext_getElem?
 grind [fO,eT,lr]
section
variable {E:En} {i j:Nat}
mutual
theorem Rv.EJ (hi:i < E.β.length) (hj:j < E.β.length):∀ {d:DV} {v:Value},Rv E (renD (swp i j) d) v->Rv ⟨E.c,swL i j E.β,E.tk,E.τ⟩ d v
 | .v x,v,h=>by simp only [renD] at h;unfold Rv at h ⊢;exact h
 | .ud,v,h=>by simp only [renD] at h;unfold Rv at h ⊢;exact h
 | .sl e es tk,v,h=>by simp only [renD] at h;unfold Rv at h ⊢;exact h
 | .pt cs o,v,h=>by simp only [renD] at h;unfold Rv at h ⊢;exact h
 | .loc k o,v,h=>by grind [renD,Rv,swL,fO]
 | .el k o,v,h=>by grind [renD,Rv,swL,fO]
 | .ms k e o l c,v,h=>by grind [renD,Rv,swL,fO]
 | .agg l,v,h=>by
  simp only [renD] at h;unfold Rv at h ⊢;obtain ⟨vs,h1,h2,h3⟩:=h;exact ⟨vs,h1,RvL.EJ hi hj h2,h3⟩
 | .tup l,v,h=>by
  simp only [renD] at h;unfold Rv at h ⊢;obtain ⟨vs,h1,h2⟩:=h;exact ⟨vs,h1,RvL.EJ hi hj h2⟩
 | .fn g l r,v,h=>by
  simp only [renD] at h;unfold Rv at h ⊢;obtain ⟨l',r',h1,h2,h3⟩:=h;exact ⟨l',r',h1,RvL.EJ hi hj h2,RvL.EJ hi hj h3⟩
 | .sj t x,v,h=>by
  simp only [renD] at h;unfold Rv at h ⊢;obtain ⟨z,h1,h2⟩:=h;exact ⟨z,h1,Rv.EJ hi hj h2⟩
theorem RvL.EJ (hi:i < E.β.length) (hj:j < E.β.length):∀ {l:List DV} {vs:List Value},RvL E (renL (swp i j) l) vs->RvL ⟨E.c,swL i j E.β,E.tk,E.τ⟩ l vs
 | [],vs,h=>by simp only [renL,RvL] at h ⊢;exact h
 | d :: r,vs,h=>by
  simp only [renL,RvL] at h ⊢;obtain ⟨v,s,h1,h2,h3⟩:=h;exact ⟨v,s,h1,Rv.EJ hi hj h2,RvL.EJ hi hj h3⟩
end
end
theorem GY {α:Type} {i j:Nat} {l:List α} (hi:i < l.length) (hj:j < l.length) {x:α}:x∈swL i j l↔x∈l:=by grind [swL,fO,eT,O3]
theorem IA {i j:Nat} {l:List Nat} (hi:i < l.length) (hj:j < l.length) (h:l.Nodup):(swL i j l).Nodup:=by grind [swp,eT,swL,fO,lr]
theorem rb {P:Program} {ops:Array Oper} {W:Nat->Bool} {C:World->Prop} {Q Q':Act->World->Prop} (hQ:∀ a w,Q a w->Q' a w):∀ {l:List Nat} {a:Act} {w:World},runT P ops W C Q l a w->runT P ops W C Q' l a w
 | [],a,w,h=>hQ _ _ h
 | i :: r,a,w,h=>by
  simp only [runT] at h ⊢;split at h
  ·exact h.elim
  ·split at h
   ·rename_i hE;rw [ai hE];exact jH (fun a w hk=>⟨hk.1,rb hQ hk.2⟩) h
   ·rename_i hE;rw [ah hE];obtain ⟨v,h1,h2,h3⟩:=h;exact ⟨v,h1,h2,rb hQ h3⟩
section
variable {X:Ctx} {E:En} {S:St} {a:Act} {w:World} {i j:Nat}
theorem BW (hX:X.bt=[]) (h:Rel X E (eS i j S) a w) (Ka:X.n0<=i) (BG:X.n0<=j) (hi:i < S.bx.length) (hj:j < S.bx.length):Rel X ⟨E.c,swL i j E.β,E.tk,E.τ⟩ S a w:=by
 have hlen:E.β.length=S.bx.length:=by
  rw [h.env.len];simp only [eS,eT,dY]
 have dz:i < E.β.length:=by rw [hlen];exact hi
 have jo:j < E.β.length:=by rw [hlen];exact hj
 have qH:∀ k,(eS i j S).bx[k]? = (S.bx[swp i j k]?).map (renL (swp i j)):=fun k=>by grind [eS,fO,dY,uN]
 exact {
  env:={
   len:=by rw [eT];exact hlen
   tl:=h.env.tl
   eQ:=fun k cs hk=>by
    obtain ⟨b,ty,arr,hb,hw,hc⟩:=h.env.eQ (swp i j k) (renL (swp i j) cs) (by rw [qH,lr,hk];rfl);exact ⟨b,ty,arr,by rw [fO dz jo];exact hb,hw,RvL.EJ dz jo hc.1,hc.2⟩
   inj:=IA dz jo h.env.inj
   sub:=h.env.sub
   pc:=fun x v hx hm=>h.env.pc x v hx ((GY dz jo).1 hm)
   cQ:=fun k q y hq hy=>by
    rcases h.env.cQ k q y hq hy with h1 | ⟨g,cap,cur,rfl,h1,h2,h3,h4,h5,h6⟩
    ·exact .inl h1
    ·exact .inr ⟨g,cap,cur,rfl,h1,h2,h3,h4,fun hm=>h5 ((GY dz jo).1 hm),h6⟩
   jD:=h.env.jD }
  tk:=h.tk
  sz:=h.sz
  tm:=fun k x hx=>by
   have:=h.tm k ⟨x.gs,renD (swp i j) x.s⟩ (by simp only [eS];rw [BV,hx];rfl)
   grind [Rv.EJ]
  df:=h.df
  nw:={
   c:=h.nw.c
   cn:=h.nw.cn
   β:=by
    obtain ⟨r,hr,hl⟩:=h.nw.β;have hE0:X.E0.β.length=X.n0:=X.mj;refine ⟨(swL i j E.β).drop X.n0,?_,fun b hb=>?_⟩
    ·grind [swL,fO,swp]
    ·have hnd:=h.env.inj;obtain ⟨k,hk⟩:=List.mem_iff_getElem?.1 hb;rw [List.getElem?_drop,fO dz jo] at hk;have hge:X.n0<=swp i j (X.n0 + k):=by grind [swp]
     rw [hr,List.getElem?_append_right (by omega)] at hk;exact hl b (mG hk)
   tk:=h.nw.tk
   tn:=h.nw.tn
   l0:=h.nw.l0 }
  fr:=h.fr
  sh:=h.sh
  bt:=.nil hX }
theorem GZ (hX:X.bt=[]) (h:Rel X E (eS i j S) a w) (Ka:X.n0<=i) (BG:X.n0<=j) (hi:i < S.bx.length) (hj:j < S.bx.length):∃ E',Rel X E' S a w:=⟨_,BW hX h Ka BG hi hj⟩
end
def G0 (sl:List (Nat × Sl)):List (Nat × Sl)->Prop
 | []=>True
 | p :: r=>get sl p.1=some p.2/\G0 sl r
theorem uO {sl:List (Nat × Sl)}:∀ {l:List (Nat × Sl)},G0 sl l->∀ i x,get l i=some x->get sl i=some x
 | [],_,i,x,hx=>by cases hx
 | (k,y) :: r,h,i,x,hx=>by
  simp only [dh] at hx;split at hx
  ·rename_i xI;subst xI;simp only [oI] at hx;subst hx;exact h.1
  ·exact uO h.2 i x hx
def uniqS:List Nat->List (Nat × Sl)->List (Nat × Sl)
 | _,[]=>[]
 | m,p :: r=>
  match muB m p.1 with
  | true=>uniqS m r
  | false=>p :: uniqS (p.1 :: m) r
theorem rc:∀ (l:List (Nat × Sl)) (m:List Nat) (i:Nat),muB m i=false->get (uniqS m l) i=get l i
 | [],_,_,_=>rfl
 | (k,x) :: r,m,i,h=>by
  simp only [uniqS]
  cases hm:muB m k with
  | true=>
   simp only;rw [rc r m i h,dh,ah];rintro rfl;rw [hm] at h;cases h
  | false=>
   simp only [dh];by_cases hk:k=i
   ·rw [ai hk,ai hk]
   ·rw [ah hk,ah hk]
    exact rc r (k :: m) i (by simp only [muB,h,Bool.or_false];cases hb:Nat.beq k i with
     | true=>exact (hk (Nat.eq_of_beq_eq_true hb)).elim
     | false=>rfl)
def ox (s S:St):Prop:=s.bx=S.bx/\s.tk=S.tk/\G0 s.sl (uniqS [] S.sl)
theorem K4 {X:Ctx} {E:En} {s S:St} {a:Act} {w:World} (h:Rel X E s a w) (hs:ox s S):Rel X E S a w where
 env:=by rw [<- hs.1];exact h.env
 tk:=by rw [<- hs.2.1];exact h.tk
 sz:=h.sz
 tm:=fun i x hx=>h.tm i x (uO hs.2.2 i x (by rw [rc _ _ _ rfl];exact hx))
 df:=h.df
 nw:=h.nw
 fr:=h.fr
 sh:=h.sh
 bt:=h.bt
theorem np {X:Ctx} {id:Nat} {ops:Array Oper} {k:List It} {st:St} (W:Nat->Bool) (x y:Nat) (l l':List Nat) (i j:Nat) (hm:X.P.follows .mixedOrders=true) (hc:WB ops W l l' x y=true) (S:St)
  (h:goD X ⟨ops,W,[.Eh fun s=>s=S],st,none⟩ 3000 true (selL ops.toList l) st.sl st) (h':goD X ⟨ops,W,[.Eh fun s=>ox s (eS i j S)],st,none⟩ 3000 true (selL ops.toList l') st.sl st)
  (Bi:(Nat.ble X.n0 i && Nat.ble X.n0 j && Nat.blt i S.bx.length && Nat.blt j S.bx.length)=true) (hk:go X 4000 k S) (hX:X.bt=[]:=by exact rfl):uo X id ops k st:=by
 intro E a w hr;have nk:=mr hr;simp only [aO,Nat.ble_eq,Nat.blt_eq] at Bi;simp only [WB,K3,aO,List.all_eq_true,Nat.blt_eq,Nat.ble_eq,beq_iff_eq,List.mem_range,Bool.not_eq_true'] at hc;obtain ⟨⟨⟨⟨⟨⟨⟨⟨⟨K0,D7⟩,VY⟩,⟨⟨⟨h1a,Vr⟩,h1c⟩,hlen⟩,h1d⟩,⟨⟨⟨h2a,h2b⟩,h2c⟩,_⟩,h2d⟩,Vp⟩,Wz⟩,h2O⟩,WA⟩,hT⟩:=hc
 have hQ:∀ S',(S'=S∨S'=eS i j S)->∀ a w,(∃ st E,Rel X E st a w/\(st=S' ∨ ox st S'))->kq X k .normal a w:=by
  rintro S' hS a w ⟨qZ,E1,hrel0,BE⟩;have cJ:Rel X E1 S' a w:=by grind [K4]
  rcases hS with rfl | rfl
  ·exact go_sound 4000 _ _ hk E1 a w cJ
  ·obtain ⟨E2,BP⟩:=GZ hX cJ Bi.1.1.1 Bi.1.1.2 Bi.1.2 Bi.2;exact go_sound 4000 _ _ hk E2 a w BP
 have key:∀ (S':St),(S'=S∨S'=eS i j S)->∀ (l:List Nat),(selL ops.toList l).map (·.1)=l->∀ J:St->Prop,(∀ s,J s->s=S' ∨ ox s S')->(goD X ⟨ops,W,[.Eh J],st,none⟩ 3000 true (selL ops.toList l) st.sl st) ->
   runT X.P ops W (CC E st.bx w.drew) (fun a w=>kq X k .normal a w) l a w.drew:=by
  intro S' hS l hl J hJ h;have hs:=uL nk (ops:=ops) (W:=W) (k:=[.Eh J]);have:=ig (D:=⟨⟨ops,W,[.Eh J],st,none⟩,E,w.drew⟩) nk.env.em 3000 true _ _ _ h (fun p hp=>by simpa using K2 hp) E a w.drew hs;rw [hl] at this;exact rb (fun a w ⟨st,E1,h1,h2⟩=>hQ S' hS a w ⟨st,E1,h1,hJ st h2⟩) this
 have e1:=key S (.inl rfl) l h1a _ (fun s hs=>.inl hs) h;have e2:=key (eS i j S) (.inr rfl) l' h2a _ (fun s hs=>.inr hs) h';refine wp_region_any hm ?_
 have EK:∀ (l:List Nat),(∀ i,i < ops.size->l.contains i=true)->(∀ i∈l,i < ops.size)->∀ i,i∈l↔i < ops.size/\(Array.replicate ops.size false).getD i true=false:=by
  intro l ha hb i;constructor
  all_goals simp_all
 have hxy':x≠y:=by
  intro e;subst e;simp at K0
 refine EI (C:=CC E st.bx w.drew) (π:=plc l) (π':=plc l') (Q:=kq X k .normal) hxy' Vp Wz h2O WA hT (fun a w h=>h) ops.size (Array.replicate ops.size false) l l' a _ (by simp) ?_ (EK l Vr h1c) (EK l' h2b h2c) (uM h1d) (uM h2d) hlen
  (by simpa using Vr x D7) (by simpa using Vr y VY) ⟨fun _ _ _ _ _ _=>rfl,nk.env.sub⟩ e1 e2
 intro i o ho hl;have:i < ops.size:=(Array.getElem?_eq_some_iff.1 ho).1;simp [this] at hl
end Dv
end Go.Proofs.YtphonmiflfhdbaaGreat
namespace Go.Proofs.YtphonmiflfhdbaaGreat
namespace Dv
open Go Go.RowKit
section
variable {X:Ctx} {st:St} {k:List It} {E:En} {a:Act} {w:World}
noncomputable def En.G1 (E:En) (w:World):En:=⟨qW E 0 w,[],[],[]⟩
theorem O4 {bx:List (List DV)} (h:Env E bx w):Env (E.G1 w) [] w where
 len:=rfl
 tl:=rfl
 eQ:=by simp
 inj:=List.nodup_nil
 sub:=fun x u hx=>by
  rcases ei hx with ⟨_,h1⟩ | h1
  ·exact h1
  ·exact h.sub x u h1
 pc:=by simp [En.G1]
 cQ:=by simp [En.G1]
 jD:=by simp [En.G1]
theorem O5 {bx:List (List DV)} (h:Env E bx w):Kc E (E.G1 w) bx 0 where
 c:=fun x u hx=>lm h hx
 fz:=fun i cs hi cV=>by
  obtain ⟨b,ty,arr,hb,hw,hc⟩:=h.eQ i cs cV;refine ⟨b,arr,hb,hc,fun j u hj=>?_⟩;show qW E 0 w ⟨b,j,none⟩=some u;unfold qW;rw [ai ⟨i,hi,hb⟩,cy hw];simpa using hj
theorem jj {P:Program} {s:Bool} {bx:List (List DV)} (h:Env E bx w) {f:FuncId} {args bI:List DV} {vs:List Value} {y:DV} (hc:Vm s P f bI [] [] fun d _ _=>d=y) (ha:CcL bx 0 0 0 bI args) (hv:RvL E args vs) :
  Calls P f vs.toArray w fun e w'=>∃ v E2,e = .returned v/\Rv E2 y v/\ta (fun _=>False) w w' /\ (s=true->∃ q,w'=w.drewN q):=by
 have VV:RvL (E.G1 w) bI vs:=CcL.sound (O5 h) (Iq.zero _ _) ha hv;refine (hc (E.G1 w) w vs (O4 h) rfl VV).mono ?_;rintro e w' ⟨v,rfl,hm,hs,d,os,E2,he,hβ,mc,hn,S8,rfl⟩;refine ⟨v,E2,rfl,S8,⟨hm.os,hm.tape,hm.output,hm.size,fun i hi _=>hm.block i hi ?_⟩,hs⟩;rintro (h1 | ⟨y,h1,_⟩)
 ·simp [En.G1] at h1
 ·simp [En.G1] at h1
theorem zW {f:FuncId} {args bI:List DV} {d:Nat} {y:Value} (kv:Enters X.P f) (hc:EvP X.P f bI (.v y)) (ha:CcL st.bx 0 0 0 bI args) (hd:gw X.nt st.sl (some d)=true)
  (hk:go X 4000 k ⟨(d,⟨[],.v y⟩) :: st.sl,st.bx,st.tk⟩) (bi:X.still=false:=by exact rfl):CallG X f args (some d) k st:=by
 refine ⟨kv,bi,fun E a w vs h hv=>(jj h.env hc ha hv).mono ?_⟩;rintro e w' ⟨v,E2,rfl,hr,hm,_⟩;have hh:∀ i,i < w.heap.size->w'.heap[i]? = w.heap[i]?:=fun i hi=>hm.block i hi (fun h=>h);have cJ:Rel X E st a w':=dm h (Ext.refl E) (h.env.ke hh) h.tk h.nw (h.fr.cz hm.os hm.tape hm.output hm.size fun i hi=>.inr (hh i hi)) (od bi) (h.bt.ke fun b hb=>hh b (h.env.bf hb));unfold Rv at hr;exact go_sound 4000 _ _ hk E _ w' (bB cJ hd (.v y) v (by unfold Rv;exact hr))
end
end Dv
end Go.Proofs.YtphonmiflfhdbaaGreat
namespace Go.Proofs.YtphonmiflfhdbaaGreat
namespace Dv
open Go Go.RowKit
def K5 (bx:List (List DV)) (N m:Nat) (sl:List (Nat × Sl)):List (Nat × Sl)->Prop
 | []=>True
 | p :: r=>(∃ x,get sl p.1=some ⟨p.2.gs,x⟩/\Cc bx N N m p.2.s x)/\K5 bx N m sl r
theorem ym {bx:List (List DV)} {N m:Nat} {sl:List (Nat × Sl)}:∀ {l:List (Nat × Sl)},K5 bx N m sl l->∀ i x',get l i=some x' -> ∃ x,get sl i=some ⟨x'.gs,x⟩/\Cc bx N N m x'.s x
 | [],_,i,x',hx=>by cases hx
 | (k,y) :: r,h,i,x',hx=>by
  simp only [dh] at hx;split at hx
  ·rename_i xI;subst xI;simp only [oI] at hx;subst hx;exact h.1
  ·exact ym h.2 i x' hx
section
variable {X:Ctx} {E:En} {st st':St} {a:Act} {w:World} {k:List It}
theorem G2 (h:Rel X E st a w) (N:Nat) (hN:X.n0<=N) (xM:N<=st.bx.length) (qH:l7 st.bx N N st.tk.length st'.bx (st.bx.take N)) (mc:st'.tk=st.tk) (oZ:K5 st.bx N st.tk.length st.sl st'.sl):∃ E',Rel X E' st' a w:=by
 obtain ⟨r,S3,hβl⟩:=h.nw.β;have hlen:E.β.length=st.bx.length:=h.env.len
 have ef:∀ (i:Nat) b,X.n0<=i->E.β[i]? = some b->b∈r:=fun i b hi hb=>by
  rw [S3,List.getElem?_append_right (by rw [X.mj];exact hi)] at hb;exact mG hb
 let E':En:=⟨qW E N w,E.β.take N,E.tk,E.τ⟩
 have OP:Kc E E' st.bx N:={
  c:=fun x u hx=>lm h.env hx
  fz:=fun i cs hi cV=>by
   obtain ⟨b,ty,arr,hb,hw,hc⟩:=h.env.eQ i cs cV;refine ⟨b,arr,hb,hc,fun j u hj=>?_⟩;show qW E N w ⟨b,j,none⟩=some u;unfold qW;rw [ai ⟨i,hi,hb⟩,cy hw]
   simpa using hj }
 have zR:Iq E E' N st.tk.length:={
  β:=fun i b hi hb=>by show (E.β.take N)[i]? = _;rw [cg,ai hi];exact hb
  tk:=fun k hk=>⟨rfl,rfl⟩ }
 have S4:∀ (i:Nat) b,N<=i->E.β[i]? = some b->b ∉ E.β.take N:=fun i b hi hb hm=>by
  obtain ⟨j,hj⟩:=List.getElem?_of_mem hm;rw [cg] at hj;split at hj
  ·rename_i hjN;have:=(List.getElem?_inj (gS hb).1 h.env.inj).1 (hb.trans hj.symm);omega
  ·cases hj
 obtain ⟨kX,Wi⟩:=qH.get;refine ⟨E',?_⟩
 exact {
  env:={
   len:=by grind
   tl:=h.env.tl
   eQ:=fun i cs' hi=>by
    obtain ⟨cs,cV,uz⟩:=Wi i cs' hi;rw [cg] at cV;split at cV
    ·rename_i av;obtain ⟨b,ty,arr,hb,hw,hc⟩:=h.env.eQ i cs cV;exact ⟨b,ty,arr,zR.β i b av hb,hw,CcL.sound OP zR uz hc.1,hc.2⟩
    ·cases cV
   inj:=h.env.inj.sublist (List.take_sublist _ _)
   sub:=fun x u hx=>by
    rcases ei hx with ⟨_,h1⟩ | h1
    ·exact h1
    ·exact h.env.sub x u h1
   pc:=fun x u hx hm=>by
    rcases ei hx with ⟨⟨i,hi,hb⟩,_⟩ | h1
    ·exact S4 i _ hi hb hm
    ·exact h.env.pc x u h1 (List.mem_of_mem_take hm)
   cQ:=fun k q y hq hy=>by
    rcases h.env.cQ k q y hq hy with h1 | ⟨g,cap,cur,rfl,h1,h2,h3,h4,h5,h6⟩
    ·exact .inl h1
    ·refine .inr ⟨g,cap,cur,rfl,h1,⟨h2.1,h2.2.mono fun _ _ hx=>lm h.env hx⟩,h3,h4,fun hm=>h5 (List.mem_of_mem_take hm),fun x u hx hg=>?_⟩;rcases ei hx with ⟨⟨i,hi,hb⟩,_⟩ | h7
     all_goals grind
   jD:=h.env.jD }
  tk:=by rw [mc];exact h.tk
  sz:=h.sz
  tm:=fun i x' Bh=>by
   obtain ⟨x,hx,uz⟩:=ym oZ i x' Bh;have:=h.tm i _ hx
   grind [Cc.sound]
  df:=h.df
  nw:={
   c:=fun x u hx=>lm h.env (h.nw.c x u hx)
   cn:=fun x u hx=>by
    rcases ei hx with ⟨⟨i,hi,hb⟩,_⟩ | h1
    ·grind
    ·exact h.nw.cn x u h1
   β:=by
    refine ⟨r.take (N - X.n0),?_,fun b hb=>hβl b (List.mem_of_mem_take hb)⟩;show E.β.take N=_;rw [S3,List.take_append,List.take_of_length_le (by rw [X.mj];omega),X.mj]
   tk:=h.nw.tk
   tn:=h.nw.tn
   l0:=h.nw.l0 }
  fr:=h.fr
  sh:=h.sh
  bt:=h.bt.sub _ }
theorem K6 {c:Code} (N:Nat) (qZ:St) (hN:Nat.ble X.n0 N=true) (xM:Nat.ble N st.bx.length=true) (mc:qZ.tk=st.tk) (qH:l7 st.bx N N st.tk.length qZ.bx (st.bx.take N)) (oZ:K5 st.bx N st.tk.length st.sl qZ.sl)
  (hk:nS X c k qZ):nS X c k st:=by
 intro E a w h;obtain ⟨E',h'⟩:=G2 h N (nL hN) (nL xM) qH mc oZ;exact hk E' a w h'
theorem dJ {n0 m0:Nat} {st st':St} (n:Nat) (q:TkE) (hq:q.new=true) (hn:Nat.ble n st.bx.length=true) (h3:st.tk ++ [q]=st'.tk) (h2:WeLL n st.tk.length st'.tk (st.bx.take n) st'.bx) (h4:Nat.ble n0 n=true) (h5:Nat.ble m0 st.tk.length=true)
  (h:nU n st.tk.length st'.tk st.sl st'.sl):px n0 m0 st st':=by
 have hl:(st.bx.take n).length=n:=by simp_all
 exact ⟨st.tk,[],[q],st.bx.take n,st.bx.drop n,by simpa using h5,by rw [hl];simpa using h4,by simp,h3.symm,by simpa using hq,(List.take_append_drop n st.bx).symm,by rw [hl];exact h2,by rw [hl];exact h⟩
end
end Dv
end Go.Proofs.YtphonmiflfhdbaaGreat
namespace Go.Proofs.YtphonmiflfhdbaaGreat
namespace Dv
open Go Go.RowKit
section
variable {X:Ctx} {st:St} {k:List It} {E:En} {a:Act} {w:World}
theorem lu {f:FuncId} {rest K7 cs cs':List DV} {i d:Nat} (kv:Enters X.P f) (hd:gw X.nt st.sl (some d)=true) (qH:st.bx[i]? = some cs) (cV:CcL [] 0 0 0 cs' cs) (ha:CcL [] 0 0 0 K7 rest)
  {Φ:DV->List (List DV)->List TkE->Prop} (hc:Ev X.P f (.loc 0 0 :: K7) [cs'] [] Φ) (kr:∀ r os tk,Φ r os tk->clB 0 0 r=true/\∀ re∈os,clB.clL 0 0 re=true)
  (hk:∀ r re,Φ r [re] []->go X 4000 k ⟨(d,⟨[],r⟩) :: st.sl,st.bx.set i re,st.tk⟩) (bi:X.still=false:=by exact rfl) (hX:X.bt=[]:=by exact rfl):CallG X f (.loc i 0 :: rest) (some d) k st:=by
 refine ⟨kv,bi,fun E a w vs h hv=>?_⟩;simp only [RvL] at hv;obtain ⟨v1,vr,rfl,h1,hvr⟩:=hv;unfold Rv at h1;obtain ⟨b,hb,rfl⟩:=h1;obtain ⟨b',ty,arr,fx,hw,uz⟩:=h.env.eQ i cs qH;rw [hb] at fx;simp only [oI] at fx;subst fx;have Bo:b∈E.β:=mG hb;have Tn:=h.env.bf Bo
 let E1:En:=⟨E.c,[b],[],[]⟩
 have hx1:Ext E.cl E1:=⟨fun _ _ h=>h,fun j b hj=>by simp [En.cl] at hj,fun k q hk=>by simp [En.cl] at hk⟩;have hfz:Kc E E.cl [] 0:=⟨fun _ _ h=>h,fun i cs _ hi=>by simp at hi⟩
 have Vs:Env E1 [cs'] w:={
  len:=rfl
  tl:=rfl
  eQ:=fun j WC hj=>by
   cases j with
   | succ j=>simp at hj
   | zero=>
    simp only [List.getElem?_cons_zero,oI] at hj;subst hj;refine ⟨b,ty,arr,rfl,hw,RvL.mono hx1 (CcL.sound hfz (Iq.zero _ _) cV uz.1),uz.2⟩
  inj:=by simp [E1]
  sub:=h.env.sub
  pc:=fun x v hx hm=>by
   simp only [E1,List.mem_singleton] at hm;exact h.env.pc x v hx (by rw [hm];exact Bo)
  cQ:=by simp [E1]
  jD:=by simp [E1] }
 have tH:RvL E1 (.loc 0 0 :: K7) (.pointer (some ⟨b,0,none⟩) :: vr):=rvL_cons (by unfold Rv;exact ⟨b,rfl,rfl⟩) (RvL.mono hx1 (CcL.sound hfz (Iq.zero _ _) ha hvr));refine (hc E1 w _ Vs rfl tH).mono ?_;rintro e w' ⟨v,rfl,hm,_,r,os,E2,he,hβ,mc,hn,S8,hΦ⟩;have ht0:E2.tk=[]:=List.eq_nil_of_length_eq_zero mc;rw [ht0] at hΦ
 obtain ⟨re,rfl⟩:∃ re,os=[re]:=by
  have:=he.len;rw [hβ] at this
  match os,this with
  | [x],_=>exact ⟨x,rfl⟩
 obtain ⟨hclr,hclc⟩:=kr _ _ _ hΦ
 have hh:∀ j,j < w.heap.size->j≠b->w'.heap[j]? = w.heap[j]?:=fun j hj bg=>hm.block j hj (by
  rintro (h1 | ⟨y,h1,_⟩)
  ·simp only [E1,List.mem_singleton] at h1;exact bg h1
  ·simp [E1] at h1)
 have ef:∀ x v,E2.c x=some v->E.c x=some v∨w.heap.size<=x.block:=fun x v hx=>by
  rcases hn.cn x v hx with h1 | h1 | ⟨y,h1,_⟩
  ·exact .inl h1
  ·exact .inr h1
  ·simp [E1] at h1
 let E':En:=⟨E2.c,E.β,E.tk,E.τ⟩
 have hx:Ext E E':=⟨hn.c,fun _ _ h=>h,fun _ q h=>⟨q,h,.inl ⟨rfl,rfl⟩⟩⟩;have G3:Ext (E2.cut 0 0) E':=⟨fun _ _ h=>h,fun j b hj=>by simp [En.cut] at hj,fun k q hk=>by simp [En.cut] at hk⟩
 have cJ:Rel X E' ⟨st.sl,st.bx.set i re,st.tk⟩ a w':=by
  refine dm h hx ?_ h.tk ?_ (h.fr.cz hm.os hm.tape hm.output hm.size fun j hj=>?_) (od bi) (.nil hX)
  ·exact {
    len:=by rw [List.length_set];exact h.env.len
    tl:=h.env.tl
    eQ:=fun j WC hj=>by
     by_cases SZ:j=i
     ·subst SZ;rw [iC (gS qH).1] at hj;simp only [oI] at hj;subst hj;obtain ⟨b2,ty2,Tp,lZ,hw2,oc⟩:=he.eQ 0 re rfl;rw [hβ] at lZ;simp only [E1,List.getElem?_cons_zero,oI] at lZ;subst lZ;exact ⟨b,ty2,Tp,hb,hw2,RvL.mono G3 (RvL.cut oc.1 (hclc re (by simp))),oc.2⟩
     ·rw [List.getElem?_set_ne (Ne.symm SZ)] at hj;obtain ⟨bj,tyj,Tq,Q9,WD,SR⟩:=h.env.eQ j WC hj
      have bg:bj≠b:=by
       rintro rfl;exact SZ ((List.getElem?_inj (gS Q9).1 h.env.inj).1 (Q9.trans hb.symm))
      exact ⟨bj,tyj,Tq,Q9,by rw [hh bj (du WD) bg];exact WD,SR.mono hx⟩
    inj:=h.env.inj
    sub:=he.sub
    pc:=fun x v hc te=>by
     rcases ef x v hc with h1 | h1
     ·exact h.env.pc x v h1 te
     ·have:=h.env.bf te;omega
    cQ:=fun k q y hq hy=>by
     rcases h.env.cQ k q y hq hy with h1 | ⟨g',cap,cur,rfl,h1,h2,h3,h4,h5,h6⟩
     ·exact .inl h1
     ·refine .inr ⟨g',cap,cur,rfl,by rw [hh g' (du h1) (fun e=>h5 (by rw [e];exact Bo))];exact h1,⟨h2.1,h2.2.mono hn.c⟩,h3,h4,h5,fun x v hc hg=>?_⟩;rcases ef x v hc with h7 | h7
      ·exact h6 x v h7 hg
      ·have:=du h1;omega
    jD:=h.env.jD }
  ·exact {
    c:=fun x v hc=>hn.c x v (h.nw.c x v hc)
    cn:=fun x v hc=>by
     rcases ef x v hc with h1 | h1
     ·exact h.nw.cn x v h1
     ·have:=h.fr.size;exact .inr (.inl (by omega))
    β:=h.nw.β
    tk:=h.nw.tk
    tn:=h.nw.tn
    l0:=h.nw.l0 }
  ·by_cases SS:j=b
   ·left;obtain ⟨r0,hr0,EK⟩:=h.nw.β;rw [hr0] at Bo;rcases List.mem_append.1 Bo with Bo | Bo
    ·exact .inl (.inl (SS ▸ Bo))
    ·exact .inr (SS ▸ EK b Bo)
   ·exact .inr (hh j hj SS)
 exact go_sound 4000 _ _ (hk r re hΦ) E' _ w' (bB cJ hd r v (Rv.mono G3 (Rv.cut S8 hclr)))
end
end Dv
end Go.Proofs.YtphonmiflfhdbaaGreat
namespace Go.Proofs.YtphonmiflfhdbaaGreat
namespace Dv
open Go
def tt:TT:=.ap 182 ⟨1,false,.fn,[.nilFunc]⟩ (.ap 90 ⟨11,true,.st [(0,27),(2,29)],[.string ByteArray.empty,.int .i64 0,.int .i64 0,.int .i64 0,.int .i64 0,.int .i64 0,.int .i64 0,.slice none 0 0,.slice none 0 0,.string ByteArray.empty,.int .i64 0]⟩ (.ap 43 ⟨2,true,.st [(0,42),(1,3)],[.int .i64 0,.int .i64 0]⟩ (.ap 22 ⟨1,false,.sl 27 2 24,[.slice none 0 0]⟩ (.ap 11 ⟨1,false,.str,[.string ByteArray.empty]⟩ (.ap 6 ⟨1,false,.int .u8,[.int .u8 0]⟩ (.ap 3 ⟨1,false,.int .i64,[.int .i64 0]⟩ (.ap 2 ⟨1,false,.int .i64,[.int .i64 0]⟩ (.ap 1 ⟨1,false,.fn,[.nilFunc]⟩ (.nil) (.nil)) (.nil)) (.ap 5 ⟨1,false,.int .u8,[.int .u8 0]⟩ (.ap 4 ⟨1,false,.bool,[.bool false]⟩ (.nil) (.nil)) (.nil))) (.ap 9 ⟨1,false,.str,[.string ByteArray.empty]⟩ (.ap 8 ⟨4,true,.st [(0,2),(1,3),(2,4),(3,6)],[.int .i64 0,.int .i64 0,.bool false,.int .u8 0]⟩ (.ap 7 ⟨4,true,.st [(0,2),(1,3),(2,4),(3,6)],[.int .i64 0,.int .i64 0,.bool false,.int .u8 0]⟩ (.nil) (.nil)) (.nil)) (.ap 10 ⟨1,false,.str,[.string ByteArray.empty]⟩ (.nil) (.nil)))) (.ap 17 ⟨1,false,.ptr 372,[.pointer none]⟩ (.ap 14 ⟨2,true,.st [(0,9),(1,12)],[.string ByteArray.empty,.int .u64 0]⟩ (.ap 13 ⟨2,true,.st [(0,9),(1,12)],[.string ByteArray.empty,.int .u64 0]⟩ (.ap 12 ⟨1,false,.int .u64,[.int .u64 0]⟩ (.nil) (.nil)) (.nil)) (.ap 16 ⟨1,false,.ptr 365,[.pointer none]⟩ (.ap 15 ⟨1,false,.ptr 362,[.pointer none]⟩ (.nil) (.nil)) (.nil))) (.ap 20 ⟨1,false,.sj,[.nilIface]⟩ (.ap 19 ⟨1,true,.st [(0,17)],[.pointer none]⟩ (.ap 18 ⟨1,true,.st [(0,17)],[.pointer none]⟩ (.nil) (.nil)) (.nil)) (.ap 21 ⟨1,false,.int .i32,[.int .i32 0]⟩ (.nil) (.nil))))) (.ap 33 ⟨4,true,.st [(0,3),(1,3),(2,9),(3,32)],[.int .i64 0,.int .i64 0,.string ByteArray.empty,.slice none 0 0]⟩ (.ap 28 ⟨9,true,.st [(0,3),(1,3),(2,3),(3,3),(4,3),(5,22),(6,25),(7,27)],[.int .i64 0,.int .i64 0,.int .i64 0,.int .i64 0,.int .i64 0,.slice none 0 0,.slice none 0 0,.string ByteArray.empty,.int .i64 0]⟩ (.ap 25 ⟨1,false,.sl 136 18 224,[.slice none 0 0]⟩ (.ap 24 ⟨1,false,.sl 91 11 136,[.slice none 0 0]⟩ (.ap 23 ⟨1,false,.sl 138 4 48,[.slice none 0 0]⟩ (.nil) (.nil)) (.nil)) (.ap 27 ⟨2,true,.st [(0,9),(1,3)],[.string ByteArray.empty,.int .i64 0]⟩ (.ap 26 ⟨2,true,.st [(0,9),(1,3)],[.string ByteArray.empty,.int .i64 0]⟩ (.nil) (.nil)) (.nil))) (.ap 31 ⟨12,true,.st [(0,22),(1,23),(2,24),(3,29)],[.slice none 0 0,.slice none 0 0,.slice none 0 0,.int .i64 0,.int .i64 0,.int .i64 0,.int .i64 0,.int .i64 0,.slice none 0 0,.slice none 0 0,.string ByteArray.empty,.int .i64 0]⟩ (.ap 30 ⟨12,true,.st [(0,22),(1,23),(2,24),(3,29)],[.slice none 0 0,.slice none 0 0,.slice none 0 0,.int .i64 0,.int .i64 0,.int .i64 0,.int .i64 0,.int .i64 0,.slice none 0 0,.slice none 0 0,.string ByteArray.empty,.int .i64 0]⟩ (.ap 29 ⟨9,true,.st [(0,3),(1,3),(2,3),(3,3),(4,3),(5,22),(6,25),(7,27)],[.int .i64 0,.int .i64 0,.int .i64 0,.int .i64 0,.int .i64 0,.slice none 0 0,.slice none 0 0,.string ByteArray.empty,.int .i64 0]⟩ (.nil) (.nil)) (.nil)) (.ap 32 ⟨1,false,.sl 34 4 56,[.slice none 0 0]⟩ (.nil) (.nil)))) (.ap 38 ⟨1,false,.fn,[.nilFunc]⟩ (.ap 36 ⟨2,true,.st [(0,3),(1,35)],[.int .i64 0,.slice none 0 0]⟩ (.ap 35 ⟨1,false,.sl 60 8 120,[.slice none 0 0]⟩ (.ap 34 ⟨4,true,.st [(0,3),(1,3),(2,9),(3,32)],[.int .i64 0,.int .i64 0,.string ByteArray.empty,.slice none 0 0]⟩ (.nil) (.nil)) (.nil)) (.ap 37 ⟨2,true,.st [(0,3),(1,35)],[.int .i64 0,.slice none 0 0]⟩ (.nil) (.nil))) (.ap 41 ⟨1,false,.ptr 84,[.pointer none]⟩ (.ap 40 ⟨1,false,.fn,[.nilFunc]⟩ (.ap 39 ⟨1,false,.fn,[.nilFunc]⟩ (.nil) (.nil)) (.nil)) (.ap 42 ⟨1,false,.int .i64,[.int .i64 0]⟩ (.nil) (.nil)))))) (.ap 66 ⟨1,false,.ptr 128,[.pointer none]⟩ (.ap 55 ⟨6,true,.st [(0,3),(1,3),(2,3),(3,9),(4,22),(5,54)],[.int .i64 0,.int .i64 0,.int .i64 0,.string ByteArray.empty,.slice none 0 0,.slice none 0 0]⟩ (.ap 50 ⟨4,true,.st [(0,22),(1,47),(2,48),(3,3)],[.slice none 0 0,.slice none 0 0,.slice none 0 0,.int .i64 0]⟩ (.ap 47 ⟨1,false,.sl 178 1 24,[.slice none 0 0]⟩ (.ap 46 ⟨1,false,.fn,[.nilFunc]⟩ (.ap 44 ⟨2,true,.st [(0,42),(1,3)],[.int .i64 0,.int .i64 0]⟩ (.nil) (.nil)) (.nil)) (.ap 49 ⟨4,true,.st [(0,22),(1,47),(2,48),(3,3)],[.slice none 0 0,.slice none 0 0,.slice none 0 0,.int .i64 0]⟩ (.ap 48 ⟨1,false,.sl 100 7 88,[.slice none 0 0]⟩ (.nil) (.nil)) (.nil))) (.ap 53 ⟨1,false,.sl 176 3 32,[.slice none 0 0]⟩ (.ap 52 ⟨1,false,.fn,[.nilFunc]⟩ (.ap 51 ⟨1,false,.fn,[.nilFunc]⟩ (.nil) (.nil)) (.nil)) (.ap 54 ⟨1,false,.sl 56 6 88,[.slice none 0 0]⟩ (.nil) (.nil)))) (.ap 60 ⟨8,true,.st [(0,53),(1,3),(2,56)],[.slice none 0 0,.int .i64 0,.int .i64 0,.int .i64 0,.int .i64 0,.string ByteArray.empty,.slice none 0 0,.slice none 0 0]⟩ (.ap 58 ⟨8,true,.st [(0,53),(1,3),(2,56)],[.slice none 0 0,.int .i64 0,.int .i64 0,.int .i64 0,.int .i64 0,.string ByteArray.empty,.slice none 0 0,.slice none 0 0]⟩ (.ap 57 ⟨8,true,.st [(0,53),(1,3),(2,56)],[.slice none 0 0,.int .i64 0,.int .i64 0,.int .i64 0,.int .i64 0,.string ByteArray.empty,.slice none 0 0,.slice none 0 0]⟩ (.ap 56 ⟨6,true,.st [(0,3),(1,3),(2,3),(3,9),(4,22),(5,54)],[.int .i64 0,.int .i64 0,.int .i64 0,.string ByteArray.empty,.slice none 0 0,.slice none 0 0]⟩ (.nil) (.nil)) (.nil)) (.ap 59 ⟨1,false,.fn,[.nilFunc]⟩ (.nil) (.nil))) (.ap 63 ⟨1,false,.fn,[.nilFunc]⟩ (.ap 62 ⟨1,false,.fn,[.nilFunc]⟩ (.ap 61 ⟨1,false,.fn,[.nilFunc]⟩ (.nil) (.nil)) (.nil)) (.ap 65 ⟨1,false,.fn,[.nilFunc]⟩ (.nil) (.nil))))) (.ap 80 ⟨1,false,.sl 165 7 88,[.slice none 0 0]⟩ (.ap 73 ⟨1,false,.fn,[.nilFunc]⟩ (.ap 69 ⟨1,false,.fn,[.nilFunc]⟩ (.ap 68 ⟨1,false,.fn,[.nilFunc]⟩ (.ap 67 ⟨1,false,.fn,[.nilFunc]⟩ (.nil) (.nil)) (.nil)) (.ap 72 ⟨1,false,.fn,[.nilFunc]⟩ (.ap 71 ⟨1,false,.fn,[.nilFunc]⟩ (.nil) (.nil)) (.nil))) (.ap 78 ⟨1,false,.fn,[.nilFunc]⟩ (.ap 76 ⟨1,false,.fn,[.nilFunc]⟩ (.ap 74 ⟨1,false,.fn,[.nilFunc]⟩ (.nil) (.nil)) (.nil)) (.ap 79 ⟨1,false,.ptr 86,[.pointer none]⟩ (.nil) (.nil)))) (.ap 85 ⟨15,true,.st [(0,31),(12,66),(13,41),(14,3)],[.slice none 0 0,.slice none 0 0,.slice none 0 0,.int .i64 0,.int .i64 0,.int .i64 0,.int .i64 0,.int .i64 0,.slice none 0 0,.slice none 0 0,.string ByteArray.empty,.int .i64 0,.pointer none,.pointer none,.int .i64 0]⟩ (.ap 83 ⟨5,true,.st [(0,66),(1,80),(2,3),(3,81),(4,82)],[.pointer none,.slice none 0 0,.int .i64 0,.pointer none,.slice none 0 0]⟩ (.ap 82 ⟨1,false,.sl 3 1 8,[.slice none 0 0]⟩ (.ap 81 ⟨1,false,.ptr 210,[.pointer none]⟩ (.nil) (.nil)) (.nil)) (.ap 84 ⟨5,true,.st [(0,66),(1,80),(2,3),(3,81),(4,82)],[.pointer none,.slice none 0 0,.int .i64 0,.pointer none,.slice none 0 0]⟩ (.nil) (.nil))) (.ap 88 ⟨1,false,.fn,[.nilFunc]⟩ (.ap 87 ⟨1,false,.fn,[.nilFunc]⟩ (.ap 86 ⟨15,true,.st [(0,31),(12,66),(13,41),(14,3)],[.slice none 0 0,.slice none 0 0,.slice none 0 0,.int .i64 0,.int .i64 0,.int .i64 0,.int .i64 0,.int .i64 0,.slice none 0 0,.slice none 0 0,.string ByteArray.empty,.int .i64 0,.pointer none,.pointer none,.int .i64 0]⟩ (.nil) (.nil)) (.nil)) (.ap 89 ⟨1,false,.fn,[.nilFunc]⟩ (.nil) (.nil))))))) (.ap 136 ⟨18,true,.st [(0,27),(2,4),(3,22),(4,3),(5,134),(9,29)],[.string ByteArray.empty,.int .i64 0,.bool false,.slice none 0 0,.int .i64 0,.int .i64 0,.int .i64 0,.int .i64 0,.slice none 0 0,.int .i64 0,.int .i64 0,.int .i64 0,.int .i64 0,.int .i64 0,.slice none 0 0,.slice none 0 0,.string ByteArray.empty,.int .i64 0]⟩ (.ap 113 ⟨1,false,.fn,[.nilFunc]⟩ (.ap 101 ⟨1,false,.fn,[.nilFunc]⟩ (.ap 96 ⟨1,false,.fn,[.nilFunc]⟩ (.ap 93 ⟨1,false,.fn,[.nilFunc]⟩ (.ap 92 ⟨1,false,.fn,[.nilFunc]⟩ (.ap 91 ⟨11,true,.st [(0,27),(2,29)],[.string ByteArray.empty,.int .i64 0,.int .i64 0,.int .i64 0,.int .i64 0,.int .i64 0,.int .i64 0,.slice none 0 0,.slice none 0 0,.string ByteArray.empty,.int .i64 0]⟩ (.nil) (.nil)) (.nil)) (.ap 95 ⟨1,false,.fn,[.nilFunc]⟩ (.ap 94 ⟨1,false,.sl 29 9 112,[.slice none 0 0]⟩ (.nil) (.nil)) (.nil))) (.ap 99 ⟨7,true,.st [(0,3),(1,3),(2,3),(3,3),(4,3),(5,97),(6,98)],[.int .i64 0,.int .i64 0,.int .i64 0,.int .i64 0,.int .i64 0,.slice none 0 0,.slice none 0 0]⟩ (.ap 98 ⟨1,false,.sl 109 10 88,[.slice none 0 0]⟩ (.ap 97 ⟨1,false,.sl 9 1 16,[.slice none 0 0]⟩ (.nil) (.nil)) (.nil)) (.ap 100 ⟨7,true,.st [(0,3),(1,3),(2,3),(3,3),(4,3),(5,97),(6,98)],[.int .i64 0,.int .i64 0,.int .i64 0,.int .i64 0,.int .i64 0,.slice none 0 0,.slice none 0 0]⟩ (.nil) (.nil)))) (.ap 107 ⟨1,false,.fn,[.nilFunc]⟩ (.ap 104 ⟨1,false,.fn,[.nilFunc]⟩ (.ap 103 ⟨1,false,.fn,[.nilFunc]⟩ (.ap 102 ⟨1,false,.fn,[.nilFunc]⟩ (.nil) (.nil)) (.nil)) (.ap 106 ⟨1,false,.fn,[.nilFunc]⟩ (.ap 105 ⟨1,false,.fn,[.nilFunc]⟩ (.nil) (.nil)) (.nil))) (.ap 110 ⟨1,false,.fn,[.nilFunc]⟩ (.ap 109 ⟨10,true,.st [(0,9),(1,4),(2,3),(3,3),(4,3),(5,3),(6,3),(7,3),(8,3),(9,3)],[.string ByteArray.empty,.bool false,.int .i64 0,.int .i64 0,.int .i64 0,.int .i64 0,.int .i64 0,.int .i64 0,.int .i64 0,.int .i64 0]⟩ (.ap 108 ⟨10,true,.st [(0,9),(1,4),(2,3),(3,3),(4,3),(5,3),(6,3),(7,3),(8,3),(9,3)],[.string ByteArray.empty,.bool false,.int .i64 0,.int .i64 0,.int .i64 0,.int .i64 0,.int .i64 0,.int .i64 0,.int .i64 0,.int .i64 0]⟩ (.nil) (.nil)) (.nil)) (.ap 111 ⟨1,false,.fn,[.nilFunc]⟩ (.nil) (.nil))))) (.ap 125 ⟨32,true,.ar 32 1,[.int .i64 0,.int .i64 0,.int .i64 0,.int .i64 0,.int .i64 0,.int .i64 0,.int .i64 0,.int .i64 0,.int .i64 0,.int .i64 0,.int .i64 0,.int .i64 0,.int .i64 0,.int .i64 0,.int .i64 0,.int .i64 0,.int .i64 0,.int .i64 0,.int .i64 0,.int .i64 0,.int .i64 0,.int .i64 0,.int .i64 0,.int .i64 0,.int .i64 0,.int .i64 0,.int .i64 0,.int .i64 0,.int .i64 0,.int .i64 0,.int .i64 0,.int .i64 0]⟩ (.ap 119 ⟨3,true,.st [(0,41),(1,66),(2,3)],[.pointer none,.pointer none,.int .i64 0]⟩ (.ap 116 ⟨15,true,.st [(0,3),(1,115),(11,34)],[.int .i64 0,.string ByteArray.empty,.bool false,.int .i64 0,.int .i64 0,.int .i64 0,.int .i64 0,.int .i64 0,.int .i64 0,.int .i64 0,.int .i64 0,.int .i64 0,.int .i64 0,.string ByteArray.empty,.slice none 0 0]⟩ (.ap 115 ⟨10,true,.st [(0,9),(1,4),(2,3),(3,3),(4,3),(5,3),(6,3),(7,3),(8,3),(9,3)],[.string ByteArray.empty,.bool false,.int .i64 0,.int .i64 0,.int .i64 0,.int .i64 0,.int .i64 0,.int .i64 0,.int .i64 0,.int .i64 0]⟩ (.ap 114 ⟨1,false,.fn,[.nilFunc]⟩ (.nil) (.nil)) (.nil)) (.ap 118 ⟨3,true,.st [(0,41),(1,66),(2,3)],[.pointer none,.pointer none,.int .i64 0]⟩ (.ap 117 ⟨15,true,.st [(0,3),(1,115),(11,34)],[.int .i64 0,.string ByteArray.empty,.bool false,.int .i64 0,.int .i64 0,.int .i64 0,.int .i64 0,.int .i64 0,.int .i64 0,.int .i64 0,.int .i64 0,.int .i64 0,.int .i64 0,.string ByteArray.empty,.slice none 0 0]⟩ (.nil) (.nil)) (.nil))) (.ap 123 ⟨1,false,.fn,[.nilFunc]⟩ (.ap 122 ⟨1,false,.fn,[.nilFunc]⟩ (.ap 121 ⟨1,false,.fn,[.nilFunc]⟩ (.nil) (.nil)) (.nil)) (.ap 124 ⟨1,false,.ptr 202,[.pointer none]⟩ (.nil) (.nil)))) (.ap 130 ⟨1,false,.fn,[.nilFunc]⟩ (.ap 128 ⟨2051,true,.st [(0,97),(1,81),(2,124),(3,126),(1027,126)],(.slice none 0 0 :: .pointer none :: .pointer none :: List.replicate 2048 (.int .i64 0))⟩ (.ap 127 ⟨2051,true,.st [(0,97),(1,81),(2,124),(3,126),(1027,126)],(.slice none 0 0 :: .pointer none :: .pointer none :: List.replicate 2048 (.int .i64 0))⟩ (.ap 126 ⟨1024,true,.ar 32 32,(List.replicate 1024 (.int .i64 0))⟩ (.nil) (.nil)) (.nil)) (.ap 129 ⟨1,false,.fn,[.nilFunc]⟩ (.nil) (.nil))) (.ap 134 ⟨4,true,.st [(0,3),(1,3),(2,3),(3,22)],[.int .i64 0,.int .i64 0,.int .i64 0,.slice none 0 0]⟩ (.ap 133 ⟨4,true,.st [(0,3),(1,3),(2,3),(3,22)],[.int .i64 0,.int .i64 0,.int .i64 0,.slice none 0 0]⟩ (.ap 132 ⟨1,false,.fn,[.nilFunc]⟩ (.nil) (.nil)) (.nil)) (.ap 135 ⟨18,true,.st [(0,27),(2,4),(3,22),(4,3),(5,134),(9,29)],[.string ByteArray.empty,.int .i64 0,.bool false,.slice none 0 0,.int .i64 0,.int .i64 0,.int .i64 0,.int .i64 0,.slice none 0 0,.int .i64 0,.int .i64 0,.int .i64 0,.int .i64 0,.int .i64 0,.slice none 0 0,.slice none 0 0,.string ByteArray.empty,.int .i64 0]⟩ (.nil) (.nil)))))) (.ap 161 ⟨1,false,.fn,[.nilFunc]⟩ (.ap 148 ⟨1,false,.fn,[.nilFunc]⟩ (.ap 142 ⟨1,false,.fn,[.nilFunc]⟩ (.ap 139 ⟨1,false,.ptr 141,[.pointer none]⟩ (.ap 138 ⟨4,true,.st [(0,27),(2,27)],[.string ByteArray.empty,.int .i64 0,.string ByteArray.empty,.int .i64 0]⟩ (.ap 137 ⟨4,true,.st [(0,27),(2,27)],[.string ByteArray.empty,.int .i64 0,.string ByteArray.empty,.int .i64 0]⟩ (.nil) (.nil)) (.nil)) (.ap 141 ⟨4,true,.st [(0,9),(1,3),(2,44)],[.string ByteArray.empty,.int .i64 0,.int .i64 0,.int .i64 0]⟩ (.ap 140 ⟨4,true,.st [(0,9),(1,3),(2,44)],[.string ByteArray.empty,.int .i64 0,.int .i64 0,.int .i64 0]⟩ (.nil) (.nil)) (.nil))) (.ap 145 ⟨1,false,.fn,[.nilFunc]⟩ (.ap 144 ⟨1,false,.fn,[.nilFunc]⟩ (.ap 143 ⟨1,false,.fn,[.nilFunc]⟩ (.nil) (.nil)) (.nil)) (.ap 147 ⟨1,false,.fn,[.nilFunc]⟩ (.nil) (.nil)))) (.ap 156 ⟨1,false,.fn,[.nilFunc]⟩ (.ap 153 ⟨1,false,.fn,[.nilFunc]⟩ (.ap 151 ⟨1,false,.fn,[.nilFunc]⟩ (.ap 149 ⟨1,false,.sl 212 2 16,[.slice none 0 0]⟩ (.nil) (.nil)) (.nil)) (.ap 155 ⟨1,false,.fn,[.nilFunc]⟩ (.nil) (.nil))) (.ap 159 ⟨1,false,.fn,[.nilFunc]⟩ (.ap 158 ⟨1,false,.fn,[.nilFunc]⟩ (.ap 157 ⟨1,false,.fn,[.nilFunc]⟩ (.nil) (.nil)) (.nil)) (.ap 160 ⟨1,false,.sl 22 1 24,[.slice none 0 0]⟩ (.nil) (.nil))))) (.ap 172 ⟨1,false,.fn,[.nilFunc]⟩ (.ap 167 ⟨1,false,.fn,[.nilFunc]⟩ (.ap 164 ⟨7,true,.st [(0,3),(1,3),(2,3),(3,3),(4,3),(5,97),(6,163)],[.int .i64 0,.int .i64 0,.int .i64 0,.int .i64 0,.int .i64 0,.slice none 0 0,.slice none 0 0]⟩ (.ap 163 ⟨1,false,.sl 115 10 88,[.slice none 0 0]⟩ (.ap 162 ⟨1,false,.fn,[.nilFunc]⟩ (.nil) (.nil)) (.nil)) (.ap 166 ⟨1,false,.fn,[.nilFunc]⟩ (.ap 165 ⟨7,true,.st [(0,3),(1,3),(2,3),(3,3),(4,3),(5,97),(6,163)],[.int .i64 0,.int .i64 0,.int .i64 0,.int .i64 0,.int .i64 0,.slice none 0 0,.slice none 0 0]⟩ (.nil) (.nil)) (.nil))) (.ap 170 ⟨1,false,.fn,[.nilFunc]⟩ (.ap 169 ⟨1,false,.fn,[.nilFunc]⟩ (.ap 168 ⟨1,false,.fn,[.nilFunc]⟩ (.nil) (.nil)) (.nil)) (.ap 171 ⟨1,false,.fn,[.nilFunc]⟩ (.nil) (.nil)))) (.ap 177 ⟨1,false,.fn,[.nilFunc]⟩ (.ap 175 ⟨3,true,.st [(0,3),(1,3),(2,9)],[.int .i64 0,.int .i64 0,.string ByteArray.empty]⟩ (.ap 174 ⟨1,false,.fn,[.nilFunc]⟩ (.ap 173 ⟨1,false,.fn,[.nilFunc]⟩ (.nil) (.nil)) (.nil)) (.ap 176 ⟨3,true,.st [(0,3),(1,3),(2,9)],[.int .i64 0,.int .i64 0,.string ByteArray.empty]⟩ (.nil) (.nil))) (.ap 180 ⟨1,false,.fn,[.nilFunc]⟩ (.ap 179 ⟨1,false,.fn,[.nilFunc]⟩ (.ap 178 ⟨1,false,.sl 4 1 1,[.slice none 0 0]⟩ (.nil) (.nil)) (.nil)) (.ap 181 ⟨1,false,.fn,[.nilFunc]⟩ (.nil) (.nil)))))))) (.ap 280 ⟨1,false,.fn,[.nilFunc]⟩ (.ap 231 ⟨1,false,.fn,[.nilFunc]⟩ (.ap 209 ⟨2,true,.st [(0,97),(1,82)],[.slice none 0 0,.slice none 0 0]⟩ (.ap 198 ⟨1,false,.fn,[.nilFunc]⟩ (.ap 191 ⟨1,false,.fn,[.nilFunc]⟩ (.ap 186 ⟨1,false,.fn,[.nilFunc]⟩ (.ap 184 ⟨2,true,.st [(0,3),(1,3)],[.int .i64 0,.int .i64 0]⟩ (.ap 183 ⟨2,true,.st [(0,3),(1,3)],[.int .i64 0,.int .i64 0]⟩ (.nil) (.nil)) (.nil)) (.ap 190 ⟨1,false,.fn,[.nilFunc]⟩ (.ap 188 ⟨1,false,.fn,[.nilFunc]⟩ (.nil) (.nil)) (.nil))) (.ap 196 ⟨1,false,.fn,[.nilFunc]⟩ (.ap 195 ⟨1,false,.fn,[.nilFunc]⟩ (.ap 193 ⟨1,false,.fn,[.nilFunc]⟩ (.nil) (.nil)) (.nil)) (.ap 197 ⟨1,false,.fn,[.nilFunc]⟩ (.nil) (.nil)))) (.ap 204 ⟨1,false,.fn,[.nilFunc]⟩ (.ap 201 ⟨1,true,.st [(0,200)],[.slice none 0 0]⟩ (.ap 200 ⟨1,false,.sl 199 1 8,[.slice none 0 0]⟩ (.ap 199 ⟨1,false,.int .u64,[.int .u64 0]⟩ (.nil) (.nil)) (.nil)) (.ap 203 ⟨1,false,.fn,[.nilFunc]⟩ (.ap 202 ⟨1,true,.st [(0,200)],[.slice none 0 0]⟩ (.nil) (.nil)) (.nil))) (.ap 207 ⟨1,false,.fn,[.nilFunc]⟩ (.ap 206 ⟨1,false,.fn,[.nilFunc]⟩ (.ap 205 ⟨1,false,.fn,[.nilFunc]⟩ (.nil) (.nil)) (.nil)) (.ap 208 ⟨1,false,.fn,[.nilFunc]⟩ (.nil) (.nil))))) (.ap 221 ⟨1,false,.fn,[.nilFunc]⟩ (.ap 215 ⟨1,false,.fn,[.nilFunc]⟩ (.ap 212 ⟨2,true,.ar 2 1,[.int .i64 0,.int .i64 0]⟩ (.ap 211 ⟨1,false,.fn,[.nilFunc]⟩ (.ap 210 ⟨2,true,.st [(0,97),(1,82)],[.slice none 0 0,.slice none 0 0]⟩ (.nil) (.nil)) (.nil)) (.ap 214 ⟨1,false,.fn,[.nilFunc]⟩ (.ap 213 ⟨1,false,.fn,[.nilFunc]⟩ (.nil) (.nil)) (.nil))) (.ap 219 ⟨1,true,.st [(0,3)],[.int .i64 0]⟩ (.ap 218 ⟨1,false,.ptr 220,[.pointer none]⟩ (.ap 217 ⟨1,false,.fn,[.nilFunc]⟩ (.nil) (.nil)) (.nil)) (.ap 220 ⟨1,true,.st [(0,3)],[.int .i64 0]⟩ (.nil) (.nil)))) (.ap 226 ⟨1,false,.fn,[.nilFunc]⟩ (.ap 224 ⟨1,false,.fn,[.nilFunc]⟩ (.ap 223 ⟨1,false,.fn,[.nilFunc]⟩ (.ap 222 ⟨1,false,.fn,[.nilFunc]⟩ (.nil) (.nil)) (.nil)) (.ap 225 ⟨1,false,.fn,[.nilFunc]⟩ (.nil) (.nil))) (.ap 229 ⟨1,false,.fn,[.nilFunc]⟩ (.ap 228 ⟨1,false,.fn,[.nilFunc]⟩ (.ap 227 ⟨1,false,.fn,[.nilFunc]⟩ (.nil) (.nil)) (.nil)) (.ap 230 ⟨1,false,.fn,[.nilFunc]⟩ (.nil) (.nil)))))) (.ap 254 ⟨1,false,.fn,[.nilFunc]⟩ (.ap 242 ⟨1,false,.fn,[.nilFunc]⟩ (.ap 237 ⟨1,false,.fn,[.nilFunc]⟩ (.ap 234 ⟨1,false,.fn,[.nilFunc]⟩ (.ap 233 ⟨1,false,.fn,[.nilFunc]⟩ (.ap 232 ⟨1,false,.fn,[.nilFunc]⟩ (.nil) (.nil)) (.nil)) (.ap 236 ⟨1,false,.fn,[.nilFunc]⟩ (.ap 235 ⟨1,false,.fn,[.nilFunc]⟩ (.nil) (.nil)) (.nil))) (.ap 240 ⟨1,false,.fn,[.nilFunc]⟩ (.ap 239 ⟨1,false,.fn,[.nilFunc]⟩ (.ap 238 ⟨1,false,.fn,[.nilFunc]⟩ (.nil) (.nil)) (.nil)) (.ap 241 ⟨1,false,.fn,[.nilFunc]⟩ (.nil) (.nil)))) (.ap 248 ⟨3,true,.st [(0,44),(2,3)],[.int .i64 0,.int .i64 0,.int .i64 0]⟩ (.ap 246 ⟨1,false,.fn,[.nilFunc]⟩ (.ap 245 ⟨1,false,.fn,[.nilFunc]⟩ (.ap 243 ⟨1,false,.fn,[.nilFunc]⟩ (.nil) (.nil)) (.nil)) (.ap 247 ⟨3,true,.st [(0,44),(2,3)],[.int .i64 0,.int .i64 0,.int .i64 0]⟩ (.nil) (.nil))) (.ap 251 ⟨1,false,.fn,[.nilFunc]⟩ (.ap 250 ⟨1,false,.fn,[.nilFunc]⟩ (.ap 249 ⟨1,false,.fn,[.nilFunc]⟩ (.nil) (.nil)) (.nil)) (.ap 253 ⟨1,false,.fn,[.nilFunc]⟩ (.nil) (.nil))))) (.ap 270 ⟨2,true,.st [(0,69),(1,264)],[.nilFunc,.nilFunc]⟩ (.ap 265 ⟨1,false,.fn,[.nilFunc]⟩ (.ap 260 ⟨1,false,.int .u64,[.int .u64 0]⟩ (.ap 258 ⟨1,false,.fn,[.nilFunc]⟩ (.ap 256 ⟨1,false,.fn,[.nilFunc]⟩ (.nil) (.nil)) (.nil)) (.ap 264 ⟨1,false,.fn,[.nilFunc]⟩ (.ap 263 ⟨1,false,.fn,[.nilFunc]⟩ (.nil) (.nil)) (.nil))) (.ap 268 ⟨1,false,.fn,[.nilFunc]⟩ (.ap 267 ⟨1,false,.int .u64,[.int .u64 0]⟩ (.ap 266 ⟨1,false,.fn,[.nilFunc]⟩ (.nil) (.nil)) (.nil)) (.ap 269 ⟨2,true,.st [(0,69),(1,264)],[.nilFunc,.nilFunc]⟩ (.nil) (.nil)))) (.ap 275 ⟨1,false,.fn,[.nilFunc]⟩ (.ap 273 ⟨1,false,.fn,[.nilFunc]⟩ (.ap 272 ⟨1,false,.fn,[.nilFunc]⟩ (.ap 271 ⟨1,false,.fn,[.nilFunc]⟩ (.nil) (.nil)) (.nil)) (.ap 274 ⟨1,false,.fn,[.nilFunc]⟩ (.nil) (.nil))) (.ap 278 ⟨1,false,.fn,[.nilFunc]⟩ (.ap 277 ⟨1,false,.fn,[.nilFunc]⟩ (.ap 276 ⟨1,false,.fn,[.nilFunc]⟩ (.nil) (.nil)) (.nil)) (.ap 279 ⟨1,false,.fn,[.nilFunc]⟩ (.nil) (.nil))))))) (.ap 330 ⟨1,false,.fn,[.nilFunc]⟩ (.ap 306 ⟨1,false,.ptr 374,[.pointer none]⟩ (.ap 292 ⟨2,true,.st [(0,290),(1,291)],[.pointer none,.slice none 0 0]⟩ (.ap 286 ⟨1,false,.fn,[.nilFunc]⟩ (.ap 283 ⟨1,false,.fn,[.nilFunc]⟩ (.ap 282 ⟨1,false,.fn,[.nilFunc]⟩ (.ap 281 ⟨1,false,.fn,[.nilFunc]⟩ (.nil) (.nil)) (.nil)) (.ap 285 ⟨1,false,.fn,[.nilFunc]⟩ (.ap 284 ⟨1,false,.fn,[.nilFunc]⟩ (.nil) (.nil)) (.nil))) (.ap 290 ⟨1,false,.ptr 293,[.pointer none]⟩ (.ap 289 ⟨1,false,.fn,[.nilFunc]⟩ (.ap 287 ⟨1,false,.fn,[.nilFunc]⟩ (.nil) (.nil)) (.nil)) (.ap 291 ⟨1,false,.sl 5 1 1,[.slice none 0 0]⟩ (.nil) (.nil)))) (.ap 300 ⟨1,false,.fn,[.nilFunc]⟩ (.ap 296 ⟨1,false,.fn,[.nilFunc]⟩ (.ap 294 ⟨1,false,.fn,[.nilFunc]⟩ (.ap 293 ⟨2,true,.st [(0,290),(1,291)],[.pointer none,.slice none 0 0]⟩ (.nil) (.nil)) (.nil)) (.ap 298 ⟨1,false,.sj,[.nilIface]⟩ (.ap 297 ⟨1,false,.sj,[.nilIface]⟩ (.nil) (.nil)) (.nil))) (.ap 304 ⟨1,true,.st [(0,17)],[.pointer none]⟩ (.ap 303 ⟨1,false,.fn,[.nilFunc]⟩ (.ap 302 ⟨1,false,.fn,[.nilFunc]⟩ (.nil) (.nil)) (.nil)) (.ap 305 ⟨1,true,.st [(0,17)],[.pointer none]⟩ (.nil) (.nil))))) (.ap 318 ⟨1,false,.fn,[.nilFunc]⟩ (.ap 313 ⟨1,false,.fn,[.nilFunc]⟩ (.ap 309 ⟨1,false,.fn,[.nilFunc]⟩ (.ap 308 ⟨1,false,.int .u32,[.int .u32 0]⟩ (.ap 307 ⟨1,false,.fn,[.nilFunc]⟩ (.nil) (.nil)) (.nil)) (.ap 312 ⟨1,false,.fn,[.nilFunc]⟩ (.ap 310 ⟨1,false,.int .i64,[.int .i64 0]⟩ (.nil) (.nil)) (.nil))) (.ap 316 ⟨1,false,.fn,[.nilFunc]⟩ (.ap 315 ⟨1,false,.fn,[.nilFunc]⟩ (.ap 314 ⟨1,false,.fn,[.nilFunc]⟩ (.nil) (.nil)) (.nil)) (.ap 317 ⟨1,false,.fn,[.nilFunc]⟩ (.nil) (.nil)))) (.ap 324 ⟨1,false,.fn,[.nilFunc]⟩ (.ap 322 ⟨1,false,.fn,[.nilFunc]⟩ (.ap 321 ⟨1,false,.fn,[.nilFunc]⟩ (.ap 320 ⟨1,false,.fn,[.nilFunc]⟩ (.nil) (.nil)) (.nil)) (.ap 323 ⟨1,false,.fn,[.nilFunc]⟩ (.nil) (.nil))) (.ap 327 ⟨1,false,.ptr 5,[.pointer none]⟩ (.ap 326 ⟨1,false,.fn,[.nilFunc]⟩ (.ap 325 ⟨1,false,.fn,[.nilFunc]⟩ (.nil) (.nil)) (.nil)) (.ap 329 ⟨1,false,.fn,[.nilFunc]⟩ (.nil) (.nil)))))) (.ap 352 ⟨2,true,.st [(0,21),(1,21)],[.int .i32 0,.int .i32 0]⟩ (.ap 341 ⟨1,false,.fn,[.nilFunc]⟩ (.ap 336 ⟨1,false,.ptr 3,[.pointer none]⟩ (.ap 333 ⟨1,false,.fn,[.nilFunc]⟩ (.ap 332 ⟨1,false,.int .u64,[.int .u64 0]⟩ (.ap 331 ⟨1,false,.fn,[.nilFunc]⟩ (.nil) (.nil)) (.nil)) (.ap 335 ⟨1,false,.fn,[.nilFunc]⟩ (.ap 334 ⟨1,false,.fn,[.nilFunc]⟩ (.nil) (.nil)) (.nil))) (.ap 339 ⟨1,false,.fn,[.nilFunc]⟩ (.ap 338 ⟨1,false,.fn,[.nilFunc]⟩ (.ap 337 ⟨1,false,.fn,[.nilFunc]⟩ (.nil) (.nil)) (.nil)) (.ap 340 ⟨1,false,.sl 352 2 8,[.slice none 0 0]⟩ (.nil) (.nil)))) (.ap 347 ⟨1,false,.ptr 332,[.pointer none]⟩ (.ap 345 ⟨1,false,.fn,[.nilFunc]⟩ (.ap 344 ⟨1,false,.fn,[.nilFunc]⟩ (.ap 343 ⟨1,false,.fn,[.nilFunc]⟩ (.nil) (.nil)) (.nil)) (.ap 346 ⟨1,false,.fn,[.nilFunc]⟩ (.nil) (.nil))) (.ap 350 ⟨1,false,.fn,[.nilFunc]⟩ (.ap 349 ⟨4,true,.ar 4 1,[.int .i64 0,.int .i64 0,.int .i64 0,.int .i64 0]⟩ (.ap 348 ⟨1,false,.fn,[.nilFunc]⟩ (.nil) (.nil)) (.nil)) (.ap 351 ⟨2,true,.st [(0,21),(1,21)],[.int .i32 0,.int .i32 0]⟩ (.nil) (.nil))))) (.ap 363 ⟨0,true,.ar 0 1,[]⟩ (.ap 358 ⟨1,false,.fn,[.nilFunc]⟩ (.ap 355 ⟨1,false,.fn,[.nilFunc]⟩ (.ap 354 ⟨1,false,.sl 360 2 8,[.slice none 0 0]⟩ (.ap 353 ⟨1,false,.fn,[.nilFunc]⟩ (.nil) (.nil)) (.nil)) (.ap 357 ⟨1,false,.fn,[.nilFunc]⟩ (.ap 356 ⟨1,false,.fn,[.nilFunc]⟩ (.nil) (.nil)) (.nil))) (.ap 361 ⟨4,true,.st [(0,17),(1,17),(2,17),(3,9)],[.pointer none,.pointer none,.pointer none,.string ByteArray.empty]⟩ (.ap 360 ⟨2,true,.st [(0,21),(1,21)],[.int .i32 0,.int .i32 0]⟩ (.ap 359 ⟨2,true,.st [(0,21),(1,21)],[.int .i32 0,.int .i32 0]⟩ (.nil) (.nil)) (.nil)) (.ap 362 ⟨4,true,.st [(0,17),(1,17),(2,17),(3,9)],[.pointer none,.pointer none,.pointer none,.string ByteArray.empty]⟩ (.nil) (.nil)))) (.ap 370 ⟨1,false,.int .i32,[.int .i32 0]⟩ (.ap 368 ⟨1,false,.fn,[.nilFunc]⟩ (.ap 367 ⟨1,false,.int .u8,[.int .u8 0]⟩ (.ap 366 ⟨1,false,.int .u8,[.int .u8 0]⟩ (.nil) (.nil)) (.nil)) (.ap 369 ⟨1,false,.int .i32,[.int .i32 0]⟩ (.nil) (.nil))) (.ap 373 ⟨2,true,.st [(0,9),(1,367)],[.string ByteArray.empty,.int .u8 0]⟩ (.ap 372 ⟨11,true,.st [(0,12),(1,12),(2,308),(3,366),(4,5),(5,5),(6,367),(7,368),(8,327),(9,369),(10,370)],[.int .u64 0,.int .u64 0,.int .u32 0,.int .u8 0,.int .u8 0,.int .u8 0,.int .u8 0,.nilFunc,.pointer none,.int .i32 0,.int .i32 0]⟩ (.ap 371 ⟨11,true,.st [(0,12),(1,12),(2,308),(3,366),(4,5),(5,5),(6,367),(7,368),(8,327),(9,369),(10,370)],[.int .u64 0,.int .u64 0,.int .u32 0,.int .u8 0,.int .u8 0,.int .u8 0,.int .u8 0,.nilFunc,.pointer none,.int .i32 0,.int .i32 0]⟩ (.nil) (.nil)) (.nil)) (.ap 374 ⟨2,true,.st [(0,9),(1,367)],[.string ByteArray.empty,.int .u8 0]⟩ (.nil) (.nil))))))))
theorem BX:tt.ok Tryz.prog=true:=by decide +kernel
theorem mo:Tryz.prog.follows .mixedOrders=true:=rfl
end Dv
end Go.Proofs.YtphonmiflfhdbaaGreat
namespace Go.Proofs.YtphonmiflfhdbaaGreat
namespace Dv
open Go
theorem eG {f:FuncId} {fn:Func} {c:Code} {args:List DV} {os:List (List DV)} {cQ:List TkE} {Φ:DV->List (List DV)->List TkE->Prop} (nt:Nat) (rs:List ResultVar)
 (hf:Tryz.prog.funcs[f]? = some fn) (hb:fn.body=some c) (EA:fn.ntmps=nt) (xB:fn.results.toList=rs)
 (h:∀ (E:En) (w:World) (hn:E.β.length=os.length) (hm:E.tk.length=cQ.length),go ⟨Tryz.prog,tt,BX,fn,nt,rs,xB,w,E,os.length,cQ.length,hn,hm,false,Φ,[],[],false⟩ 5000 [.code c] ⟨argSl 0 args,os,cQ⟩) (hlen:args.length<=nt:=by exact Nat.le_of_ble_eq_true rfl):Ev Tryz.prog f args os cQ Φ:=Wj tt BX 5000 nt rs hf hb EA xB hlen h
theorem cP {X:Ctx} {st:St} {k:List It} {f:FuncId} {args bI:List DV} {d:Nat} {r:DV} (kv:Enters X.P f) (hc:EvP X.P f bI r) (hk:go X 4000 k ⟨(d,⟨[],r⟩) :: st.sl,st.bx,st.tk⟩) (ha:CcL [] 0 0 0 bI args:=by exact ax) (hd:gw X.nt st.sl (some d)=true:=by exact rfl) (bi:X.still=false:=by exact rfl):CallG X f args (some d) k st:=KQ kv hc ha hd hk bi
theorem cD {X:Ctx} {st:St} {c:Bool} {s0:List (Nat×Sl)} {D:Dr} {i:Nat} {f:FuncId} {args bI:List DV} {d:Nat} {r:List (Nat×Oper)} {EH:DV} (kv:Enters X.P f) (hc:EvP X.P f bI EH) (hk:put2 s0 st (some d) false [] EH (goD X D 3000 c r)) (ha:CcL [] 0 0 0 bI args:=by exact ax) (hd:(gw X.nt st.sl (some d) && gw X.nt s0 (some d))=true:=by exact rfl) (bi:X.still=false:=by exact rfl):BT X D c i r f args (some d) s0 st:=OZ kv hc ha hd hk bi
theorem dI {X:Ctx} {st:St} {k:List It} {id:Nat} {ops:Array Oper} (h:goD X ⟨ops,fun _=>false,k,st,none⟩ 3000 true (nOps 0 ops.toList) st.sl st) (hm:X.P.follows .mixedOrders=true:=by exact mo) (hc:EB ops (fun _=>false)=true:=by decide +kernel):uo X id ops k st:=zV _ hm hc h
theorem dS {X:Ctx} {st:St} {k:List It} {id:Nat} {ops:Array Oper} (h:goD X ⟨ops,Wy ops,k,st,none⟩ 3000 true (nOps 0 ops.toList) st.sl st) (hm:X.P.follows .mixedOrders=true:=by exact mo) (hc:EB ops (Wy ops)=true:=by decide +kernel):uo X id ops k st:=OY hm hc h
end Dv
end Go.Proofs.YtphonmiflfhdbaaGreat
set_option maxRecDepth 100000
namespace Go.Proofs.YtphonmiflfhdbaaGreat
open Go Go.RowKit Dv Go.Proofs.Tryz
theorem en5:Enters prog 5:=enters_of func5 (by decide +kernel) rfl
theorem en6:Enters prog 6:=enters_of func6 (by decide +kernel) rfl
theorem en7:Enters prog 7:=enters_of func7 (by decide +kernel) rfl
theorem en8:Enters prog 8:=enters_of func8 (by decide +kernel) rfl
theorem en9:Enters prog 9:=enters_of func9 (by decide +kernel) rfl
theorem en10:Enters prog 10:=enters_of func10 (by decide +kernel) rfl
theorem en11:Enters prog 11:=enters_of func11 (by decide +kernel) rfl
theorem O6:Enters prog 12:=enters_of func12 (by decide +kernel) rfl
theorem WE:Enters prog 13:=enters_of func13 (by decide +kernel) rfl
theorem en14:Enters prog 14:=enters_of func14 (by decide +kernel) rfl
theorem Tr:Enters prog 15:=enters_of func15 (by decide +kernel) rfl
theorem O7:Enters prog 17:=enters_of func17 (by decide +kernel) rfl
theorem en18:Enters prog 18:=enters_of func18 (by decide +kernel) rfl
theorem WG:Enters prog 19:=enters_of func19 (by decide +kernel) rfl
theorem en20:Enters prog 20:=enters_of func20 (by decide +kernel) rfl
theorem en21:Enters prog 21:=enters_of func21 (by decide +kernel) rfl
theorem Ts:Enters prog 22:=enters_of func22 (by decide +kernel) rfl
theorem en23:Enters prog 23:=enters_of func23 (by decide +kernel) rfl
theorem en24:Enters prog 24:=enters_of func24 (by decide +kernel) rfl
theorem en25:Enters prog 25:=enters_of func25 (by decide +kernel) rfl
theorem en26:Enters prog 26:=enters_of func26 (by decide +kernel) rfl
theorem WH:Enters prog 27:=enters_of func27 (by decide +kernel) rfl
theorem WI:Enters prog 28:=enters_of func28 (by decide +kernel) rfl
theorem Tt:Enters prog 29:=enters_of func29 (by decide +kernel) rfl
theorem en30:Enters prog 30:=enters_of func30 (by decide +kernel) rfl
theorem en31:Enters prog 31:=enters_of func31 (by decide +kernel) rfl
theorem O8:Enters prog 32:=enters_of func32 (by decide +kernel) rfl
theorem Tu:Enters prog 33:=enters_of func33 (by decide +kernel) rfl
theorem WJ:Enters prog 34:=enters_of func34 (by decide +kernel) rfl
theorem O9:Enters prog 35:=enters_of func35 (by decide +kernel) rfl
theorem en36:Enters prog 36:=enters_of func36 (by decide +kernel) rfl
theorem WK:Enters prog 37:=enters_of func37 (by decide +kernel) rfl
theorem Pa:Enters prog 38:=enters_of func38 (by decide +kernel) rfl
theorem Tv:Enters prog 39:=enters_of func39 (by decide +kernel) rfl
theorem Tw:Enters prog 40:=enters_of func40 (by decide +kernel) rfl
theorem Tx:Enters prog 41:=enters_of func41 (by decide +kernel) rfl
theorem WL:Enters prog 42:=enters_of func42 (by decide +kernel) rfl
theorem Pb:Enters prog 43:=enters_of func43 (by decide +kernel) rfl
theorem Tz:Enters prog 44:=enters_of func44 (by decide +kernel) rfl
theorem WM:Enters prog 45:=enters_of func45 (by decide +kernel) rfl
theorem en46:Enters prog 46:=enters_of func46 (by decide +kernel) rfl
theorem K8:Enters prog 47:=enters_of func47 (by decide +kernel) rfl
theorem Pc:Enters prog 48:=enters_of func48 (by decide +kernel) rfl
theorem TA:Enters prog 49:=enters_of func49 (by decide +kernel) rfl
theorem en50:Enters prog 50:=enters_of func50 (by decide +kernel) rfl
theorem Pd:Enters prog 51:=enters_of func51 (by decide +kernel) rfl
theorem Pe:Enters prog 52:=enters_of func52 (by decide +kernel) rfl
theorem IB:Enters prog 53:=enters_of func53 (by decide +kernel) rfl
theorem K9:Enters prog 54:=enters_of func54 (by decide +kernel) rfl
theorem Pf:Enters prog 55:=enters_of func55 (by decide +kernel) rfl
theorem en56:Enters prog 56:=enters_of func56 (by decide +kernel) rfl
theorem WN:Enters prog 57:=enters_of func57 (by decide +kernel) rfl
theorem WO:Enters prog 58:=enters_of func58 (by decide +kernel) rfl
theorem en59:Enters prog 59:=enters_of func59 (by decide +kernel) rfl
theorem en60:Enters prog 60:=enters_of func60 (by decide +kernel) rfl
theorem WQ:Enters prog 61:=enters_of func61 (by decide +kernel) rfl
theorem TB:Enters prog 62:=enters_of func62 (by decide +kernel) rfl
theorem WR:Enters prog 63:=enters_of func63 (by decide +kernel) rfl
theorem en64:Enters prog 64:=enters_of func64 (by decide +kernel) rfl
theorem WS:Enters prog 65:=enters_of func65 (by decide +kernel) rfl
theorem WT:Enters prog 66:=enters_of func66 (by decide +kernel) rfl
theorem en67:Enters prog 67:=enters_of func67 (by decide +kernel) rfl
theorem zX:Enters prog 68:=enters_of func68 (by decide +kernel) rfl
theorem TC:Enters prog 69:=enters_of func69 (by decide +kernel) rfl
theorem en70:Enters prog 70:=enters_of func70 (by decide +kernel) rfl
theorem WU:Enters prog 71:=enters_of func71 (by decide +kernel) rfl
theorem uP:Enters prog 72:=enters_of func72 (by decide +kernel) rfl
theorem La:Enters prog 73:=enters_of func73 (by decide +kernel) rfl
theorem en74:Enters prog 74:=enters_of func74 (by decide +kernel) rfl
theorem WV:Enters prog 75:=enters_of func75 (by decide +kernel) rfl
theorem en76:Enters prog 76:=enters_of func76 (by decide +kernel) rfl
theorem en77:Enters prog 77:=enters_of func77 (by decide +kernel) rfl
theorem en78:Enters prog 78:=enters_of func78 (by decide +kernel) rfl
theorem WW:Enters prog 79:=enters_of func79 (by decide +kernel) rfl
theorem TD:Enters prog 80:=enters_of func80 (by decide +kernel) rfl
theorem Pg:Enters prog 81:=enters_of func81 (by decide +kernel) rfl
theorem WX:Enters prog 82:=enters_of func82 (by decide +kernel) rfl
theorem en83:Enters prog 83:=enters_of func83 (by decide +kernel) rfl
theorem WY:Enters prog 84:=enters_of func84 (by decide +kernel) rfl
theorem WZ:Enters prog 85:=enters_of func85 (by decide +kernel) rfl
theorem Lb:Enters prog 86:=enters_of func86 (by decide +kernel) rfl
theorem en87:Enters prog 87:=enters_of func87 (by decide +kernel) rfl
theorem W0:Enters prog 88:=enters_of func88 (by decide +kernel) rfl
theorem W1:Enters prog 89:=enters_of func89 (by decide +kernel) rfl
theorem Pj:Enters prog 90:=enters_of func90 (by decide +kernel) rfl
theorem en91:Enters prog 91:=enters_of func91 (by decide +kernel) rfl
theorem W2:Enters prog 92:=enters_of func92 (by decide +kernel) rfl
theorem en93:Enters prog 93:=enters_of func93 (by decide +kernel) rfl
theorem zY:Enters prog 94:=enters_of func94 (by decide +kernel) rfl
theorem W3:Enters prog 95:=enters_of func95 (by decide +kernel) rfl
theorem en96:Enters prog 96:=enters_of func96 (by decide +kernel) rfl
theorem en97:Enters prog 97:=enters_of func97 (by decide +kernel) rfl
theorem en98:Enters prog 98:=enters_of func98 (by decide +kernel) rfl
theorem W4:Enters prog 99:=enters_of func99 (by decide +kernel) rfl
theorem Lc:Enters prog 100:=enters_of func100 (by decide +kernel) rfl
theorem en101:Enters prog 101:=enters_of func101 (by decide +kernel) rfl
theorem en102:Enters prog 102:=enters_of func102 (by decide +kernel) rfl
theorem en103:Enters prog 103:=enters_of func103 (by decide +kernel) rfl
theorem W5:Enters prog 104:=enters_of func104 (by decide +kernel) rfl
theorem Ld:Enters prog 105:=enters_of func105 (by decide +kernel) rfl
theorem W6:Enters prog 106:=enters_of func106 (by decide +kernel) rfl
theorem W7:Enters prog 107:=enters_of func107 (by decide +kernel) rfl
theorem W8:Enters prog 108:=enters_of func108 (by decide +kernel) rfl
theorem W9:Enters prog 109:=enters_of func109 (by decide +kernel) rfl
theorem Le:Enters prog 110:=enters_of func110 (by decide +kernel) rfl
theorem Xa:Enters prog 111:=enters_of func111 (by decide +kernel) rfl
theorem Xb:Enters prog 112:=enters_of func112 (by decide +kernel) rfl
theorem Xc:Enters prog 113:=enters_of func113 (by decide +kernel) rfl
theorem Xd:Enters prog 115:=enters_of func115 (by decide +kernel) rfl
theorem Xe:Enters prog 116:=enters_of func116 (by decide +kernel) rfl
theorem Lf:Enters prog 117:=enters_of func117 (by decide +kernel) rfl
theorem Lg:Enters prog 118:=enters_of func118 (by decide +kernel) rfl
theorem Ra:Enters prog 119:=enters_of func119 (by decide +kernel) rfl
theorem Xf:Enters prog 120:=enters_of func120 (by decide +kernel) rfl
theorem Xg:Enters prog 121:=enters_of func121 (by decide +kernel) rfl
theorem Lh:Enters prog 122:=enters_of func122 (by decide +kernel) rfl
theorem Li:Enters prog 123:=enters_of func123 (by decide +kernel) rfl
theorem Rb:Enters prog 124:=enters_of func124 (by decide +kernel) rfl
theorem Rc:Enters prog 125:=enters_of func125 (by decide +kernel) rfl
theorem Re:Enters prog 126:=enters_of func126 (by decide +kernel) rfl
theorem G4:Enters prog 127:=enters_of func127 (by decide +kernel) rfl
theorem uQ:Enters prog 128:=enters_of func128 (by decide +kernel) rfl
theorem Xh:Enters prog 129:=enters_of func129 (by decide +kernel) rfl
theorem su:Enters prog 130:=enters_of func130 (by decide +kernel) rfl
theorem Xi:Enters prog 131:=enters_of func131 (by decide +kernel) rfl
theorem Rf:Enters prog 132:=enters_of func132 (by decide +kernel) rfl
theorem Xj:Enters prog 133:=enters_of func133 (by decide +kernel) rfl
theorem yo:Enters prog 134:=enters_of func134 (by decide +kernel) rfl
theorem Xk:Enters prog 135:=enters_of func135 (by decide +kernel) rfl
theorem Rg:Enters prog 136:=enters_of func136 (by decide +kernel) rfl
theorem Xl:Enters prog 137:=enters_of func137 (by decide +kernel) rfl
theorem G5:Enters prog 138:=enters_of func138 (by decide +kernel) rfl
theorem Rh:Enters prog 139:=enters_of func139 (by decide +kernel) rfl
theorem G6:Enters prog 140:=enters_of func140 (by decide +kernel) rfl
theorem G7:Enters prog 141:=enters_of func141 (by decide +kernel) rfl
theorem Xm:Enters prog 142:=enters_of func142 (by decide +kernel) rfl
theorem Xn:Enters prog 143:=enters_of func143 (by decide +kernel) rfl
theorem Xo:Enters prog 144:=enters_of func144 (by decide +kernel) rfl
theorem Xp:Enters prog 145:=enters_of func145 (by decide +kernel) rfl
theorem Ri:Enters prog 146:=enters_of func146 (by decide +kernel) rfl
theorem Rj:Enters prog 147:=enters_of func147 (by decide +kernel) rfl
theorem Rk:Enters prog 148:=enters_of func148 (by decide +kernel) rfl
theorem Xq:Enters prog 149:=enters_of func149 (by decide +kernel) rfl
theorem Rm:Enters prog 150:=enters_of func150 (by decide +kernel) rfl
theorem Xr:Enters prog 151:=enters_of func151 (by decide +kernel) rfl
theorem Xs:Enters prog 152:=enters_of func152 (by decide +kernel) rfl
theorem BZ:Enters prog 153:=enters_of func153 (by decide +kernel) rfl
theorem Rn:Enters prog 154:=enters_of func154 (by decide +kernel) rfl
theorem Ro:Enters prog 155:=enters_of func155 (by decide +kernel) rfl
theorem G8:Enters prog 156:=enters_of func156 (by decide +kernel) rfl
theorem Rp:Enters prog 157:=enters_of func157 (by decide +kernel) rfl
theorem Xt:Enters prog 158:=enters_of func158 (by decide +kernel) rfl
theorem Xu:Enters prog 159:=enters_of func159 (by decide +kernel) rfl
theorem Lj:Enters prog 160:=enters_of func160 (by decide +kernel) rfl
theorem Lk:Enters prog 161:=enters_of func161 (by decide +kernel) rfl
theorem Xv:Enters prog 162:=enters_of func162 (by decide +kernel) rfl
theorem Xw:Enters prog 163:=enters_of func163 (by decide +kernel) rfl
theorem Xx:Enters prog 164:=enters_of func164 (by decide +kernel) rfl
theorem Xy:Enters prog 166:=enters_of func166 (by decide +kernel) rfl
theorem Rq:Enters prog 172:=enters_of func172 (by decide +kernel) rfl
theorem Xz:Enters prog 173:=enters_of func173 (by decide +kernel) rfl
theorem dO:Enters prog 174:=enters_of func174 (by decide +kernel) rfl
theorem XA:Enters prog 175:=enters_of func175 (by decide +kernel) rfl
theorem XB:Enters prog 176:=enters_of func176 (by decide +kernel) rfl
theorem Rr:Enters prog 177:=enters_of func177 (by decide +kernel) rfl
theorem Rs:Enters prog 178:=enters_of func178 (by decide +kernel) rfl
theorem Rt:Enters prog 179:=enters_of func179 (by decide +kernel) rfl
theorem XC:Enters prog 180:=enters_of func180 (by decide +kernel) rfl
theorem yp:Enters prog 181:=enters_of func181 (by decide +kernel) rfl
theorem XD:Enters prog 182:=enters_of func182 (by decide +kernel) rfl
theorem Ru:Enters prog 183:=enters_of func183 (by decide +kernel) rfl
theorem G9:Enters prog 184:=enters_of func184 (by decide +kernel) rfl
theorem XE:Enters prog 185:=enters_of func185 (by decide +kernel) rfl
theorem XF:Enters prog 186:=enters_of func186 (by decide +kernel) rfl
theorem Rx:Enters prog 187:=enters_of func187 (by decide +kernel) rfl
theorem Ll:Enters prog 188:=enters_of func188 (by decide +kernel) rfl
theorem Ry:Enters prog 189:=enters_of func189 (by decide +kernel) rfl
theorem XG:Enters prog 190:=enters_of func190 (by decide +kernel) rfl
theorem Lm:Enters prog 191:=enters_of func191 (by decide +kernel) rfl
theorem XH:Enters prog 192:=enters_of func192 (by decide +kernel) rfl
theorem XI:Enters prog 193:=enters_of func193 (by decide +kernel) rfl
theorem Ln:Enters prog 194:=enters_of func194 (by decide +kernel) rfl
theorem gk:Enters prog 195:=enters_of func195 (by decide +kernel) rfl
theorem XJ:Enters prog 196:=enters_of func196 (by decide +kernel) rfl
theorem Rz:Enters prog 197:=enters_of func197 (by decide +kernel) rfl
theorem Lo:Enters prog 198:=enters_of func198 (by decide +kernel) rfl
theorem XK:Enters prog 199:=enters_of func199 (by decide +kernel) rfl
theorem RA:Enters prog 200:=enters_of func200 (by decide +kernel) rfl
theorem XL:Enters prog 201:=enters_of func201 (by decide +kernel) rfl
theorem XM:Enters prog 202:=enters_of func202 (by decide +kernel) rfl
theorem XN:Enters prog 207:=enters_of func207 (by decide +kernel) rfl
theorem XO:Enters prog 208:=enters_of func208 (by decide +kernel) rfl
theorem RB:Enters prog 228:=enters_of func228 (by decide +kernel) rfl
theorem XP:Enters prog 229:=enters_of func229 (by decide +kernel) rfl
theorem XQ:Enters prog 230:=enters_of func230 (by decide +kernel) rfl
theorem XR:Enters prog 231:=enters_of func231 (by decide +kernel) rfl
theorem XS:Enters prog 232:=enters_of func232 (by decide +kernel) rfl
theorem RC:Enters prog 233:=enters_of func233 (by decide +kernel) rfl
theorem XT:Enters prog 234:=enters_of func234 (by decide +kernel) rfl
theorem mB:Enters prog 235:=enters_of func235 (by decide +kernel) rfl
theorem Lp:Enters prog 236:=enters_of func236 (by decide +kernel) rfl
theorem XU:Enters prog 237:=enters_of func237 (by decide +kernel) rfl
theorem XV:Enters prog 238:=enters_of func238 (by decide +kernel) rfl
theorem XW:Enters prog 239:=enters_of func239 (by decide +kernel) rfl
theorem XX:Enters prog 240:=enters_of func240 (by decide +kernel) rfl
theorem Lq:Enters prog 252:=enters_of func252 (by decide +kernel) rfl
theorem B0:Enters prog 253:=enters_of func253 (by decide +kernel) rfl
theorem XY:Enters prog 254:=enters_of func254 (by decide +kernel) rfl
theorem Lr:Enters prog 255:=enters_of func255 (by decide +kernel) rfl
theorem RD:Enters prog 256:=enters_of func256 (by decide +kernel) rfl
theorem RE:Enters prog 257:=enters_of func257 (by decide +kernel) rfl
theorem XZ:Enters prog 258:=enters_of func258 (by decide +kernel) rfl
theorem RF:Enters prog 259:=enters_of func259 (by decide +kernel) rfl
theorem X0:Enters prog 260:=enters_of func260 (by decide +kernel) rfl
theorem X1:Enters prog 261:=enters_of func261 (by decide +kernel) rfl
theorem X2:Enters prog 262:=enters_of func262 (by decide +kernel) rfl
theorem X3:Enters prog 263:=enters_of func263 (by decide +kernel) rfl
theorem X4:Enters prog 264:=enters_of func264 (by decide +kernel) rfl
theorem X5:Enters prog 265:=enters_of func265 (by decide +kernel) rfl
theorem Ha:Enters prog 271:=enters_of func271 (by decide +kernel) rfl
theorem X6:Enters prog 272:=enters_of func272 (by decide +kernel) rfl
theorem RG:Enters prog 273:=enters_of func273 (by decide +kernel) rfl
theorem RH:Enters prog 274:=enters_of func274 (by decide +kernel) rfl
theorem X7:Enters prog 275:=enters_of func275 (by decide +kernel) rfl
theorem X8:Enters prog 276:=enters_of func276 (by decide +kernel) rfl
theorem X9:Enters prog 283:=enters_of func283 (by decide +kernel) rfl
theorem RI:Enters prog 284:=enters_of func284 (by decide +kernel) rfl
theorem Ya:Enters prog 285:=enters_of func285 (by decide +kernel) rfl
end Go.Proofs.YtphonmiflfhdbaaGreat
namespace Go.Proofs.YtphonmiflfhdbaaGreat
open Go Go.RowKit Dv
structure Wd where
 s:ByteArray
 a:Int
structure Hd where
 ag:Int
 aE:Int
 lo:Int
 hi:Int
 most:Int
 af:List Wd
 name:Wd
structure Ph where
 name:Wd
 bare:Bool
 label:List Wd
 wide:Int
 ck:Int
 cn:Int
 ca:Int
 cl:List Wd
mutual
inductive Ty where
 | mk (h:Hd) (ps:Pts)
inductive Pts where
 | nil
 | cons (p:Ph) (t:Ty) (r:Pts)
end
def Ty.h:Ty->Hd | .mk h _=>h
def Ty.ps:Ty->Pts | .mk _ ps=>ps
def Pts.toList:Pts->List (Ph × Ty)
 | .nil=>[]
 | .cons p t r=>(p,t) :: r.toList
def Pts.len:Pts->Nat
 | .nil=>0
 | .cons _ _ r=>r.len + 1
theorem Pts.Ls:∀ ps:Pts,ps.len=ps.toList.length
 | .nil=>rfl
 | .cons _ _ r=>by simp [Pts.len,Pts.toList,Pts.Ls r]
def Wd.wt (w:Wd):Nat:=w.s.size + 64
def wdsWt:List Wd->Nat
 | []=>0
 | w :: r=>w.wt + wdsWt r
def Hd.wt (h:Hd):Nat:=256 + wdsWt h.af + h.name.wt
def Ph.wt (p:Ph):Nat:=256 + p.name.wt + wdsWt p.label + wdsWt p.cl
mutual
def Ty.wt:Ty->Nat
 | .mk h ps=>h.wt + ps.wt
def Pts.wt:Pts->Nat
 | .nil=>0
 | .cons p t r=>p.wt + t.wt + r.wt
end
theorem bp:∀ l:List Wd,64 * l.length<=wdsWt l
 | []=>aW _
 | w :: r=>by have:=bp r;simp only [List.length_cons,wdsWt,Wd.wt];omega
theorem ij:∀ {l:List Wd} {w:Wd},w∈l->w.s.size + 64<=wdsWt l
 | x :: r,w,h=>by
  rcases cr h with h | h
  ·subst h;simp only [wdsWt,Wd.wt];omega
  ·have:=ij h;simp only [wdsWt];omega
theorem Pts.fq:∀ ps:Pts,256 * ps.len<=ps.wt
 | .nil=>aW _
 | .cons p t r=>by have:=Pts.fq r;simp only [Pts.len,Pts.wt,Ph.wt];omega
theorem Pts.fW:∀ {ps:Pts} {p:Ph} {t:Ty},(p,t)∈ps.toList->p.wt + t.wt<=ps.wt
 | .cons p t r,q,u,h=>by
  rcases cr h with h | h
  ·cases h;simp only [Pts.wt];omega
  ·have:=Pts.fW h;simp only [Pts.wt];omega
theorem Ty.dP (t:Ty):256<=t.wt:=by
 cases t;simp only [Ty.wt,Hd.wt];omega
def jL (w:Wd):List DV:=[.v (.string w.s),.v (.int .i64 w.a)]
def bA (l:List Wd):List (List DV):=l.map jL
def EL (p:Ph) (tl:List DV):List DV:=
 .v (.string p.name.s) :: .v (.int .i64 p.name.a) :: .v (.bool p.bare) :: .sl 2 (bA p.label) none :: .v (.int .i64 p.wide) :: .v (.int .i64 p.ck) :: .v (.int .i64 p.cn) :: .v (.int .i64 p.ca) :: .sl 2 (bA p.cl) none :: tl
mutual
def dK:Ty->List DV
 | .mk h ps=>[.v (.int .i64 h.ag),.v (.int .i64 h.aE),.v (.int .i64 h.lo),.v (.int .i64 h.hi),.v (.int .i64 h.most),.sl 2 (bA h.af) none,.sl 18 (fu ps) none,.v (.string h.name.s),.v (.int .i64 h.name.a)]
def fu:Pts->List (List DV)
 | .nil=>[]
 | .cons p t r=>EL p (dK t) :: fu r
end
theorem ay (l:List Wd):(bA l).length=l.length:=by simp [bA]
theorem aH:∀ ps:Pts,(fu ps).length=ps.len
 | .nil=>by simp [fu,Pts.len]
 | .cons p t r=>by simp [fu,Pts.len,aH r]
theorem aQ {l:List Wd} {j:Nat} {w:Wd} (h:l[j]? = some w):(bA l)[j]? = some (jL w):=by simp [bA,h]
theorem yq {l:List Wd} {e:Nat} {x:Wd} (h:l[e]? = some x):bA (l.take e) ++ [jL x]=bA (l.take (e + 1)):=by
 rw [List.take_add_one,h];simp [bA]
theorem bO:∀ {ps:Pts} {j:Nat} {p:Ph} {t:Ty},ps.toList[j]? = some (p,t)->(fu ps)[j]? = some (EL p (dK t))
 | .nil,j,p,t,h=>by simp [Pts.toList] at h
 | .cons q u r,0,p,t,h=>by grind [Pts.toList,fu]
 | .cons q u r,j + 1,p,t,h=>by
  simp only [Pts.toList,List.getElem?_cons_succ] at h;simp only [fu,List.getElem?_cons_succ];exact bO h
def Pts.drop:Nat->Pts->Pts
 | 0,ps=>ps
 | _ + 1,.nil=>.nil
 | e + 1,.cons _ _ r=>r.drop e
theorem Pts.drop_cons:∀ {e:Nat} {ps:Pts} {p:Ph} {t:Ty},ps.toList[e]? = some (p,t)->ps.drop e = .cons p t (ps.drop (e + 1))
 | 0,.cons q u r,p,t,h=>by
  simp only [Pts.toList,List.getElem?_cons_zero,oI,Prod.mk.injEq] at h;obtain ⟨rfl,rfl⟩:=h;rfl
 | e + 1,.cons q u r,p,t,h=>by
  simp only [Pts.toList,List.getElem?_cons_succ] at h;simp only [Pts.drop];exact Pts.drop_cons h
 | 0,.nil,p,t,h=>by simp [Pts.toList] at h
 | e + 1,.nil,p,t,h=>by simp [Pts.toList] at h
theorem Pts.cW:∀ (ps:Pts),ps.drop ps.len = .nil
 | .nil=>rfl
 | .cons _ _ r=>by simp only [Pts.len,Pts.drop];exact Pts.cW r
theorem Pts.ej {ps:Pts} {e:Nat} (h:e < ps.len):∃ p t,ps.toList[e]? = some (p,t):=by
 rw [Pts.Ls] at h;exact ⟨_,_,gE h⟩
theorem drop_cons {α:Type} {l:List α} {e:Nat} {x:α} (h:l[e]? = some x):l.drop e=x :: l.drop (e + 1):=by
 obtain ⟨h1,h2⟩:=List.getElem?_eq_some_iff.1 h;rw [<- h2];exact List.drop_eq_getElem_cons h1
def aq:ByteArray:=⟨#[]⟩
def Lt:Hd:=⟨0,0,0,0,0,[],⟨aq,0⟩⟩
def cv:Ty:=.mk Lt .nil
def eU:Ph:=⟨⟨aq,0⟩,false,[],0,0,0,0,[]⟩
def iW:Ph:=⟨⟨aq,0⟩,true,[],0,0,0,0,[]⟩
theorem nxt {e n:Nat} (h:e < n) (hn:n<=4611686018427387904):IntKind.i64.wrap ((e:Int) + 1)=((e + 1:Nat):Int):=by
 rw [IntWalk.i64_in _ ⟨by omega,by omega⟩];omega
theorem wrap64 {n:Int} (h1 : -9223372036854775808<=n) (h2:n<=9223372036854775807):IntKind.i64.wrap n=n:=IntWalk.i64_in n ⟨h1,h2⟩
theorem pickB_and (x a:Bool):pickB x a false=(x && a):=by cases x<;>rfl
theorem aj (x b:Bool):pickB x true b=(x || b):=by cases x<;>rfl
end Go.Proofs.YtphonmiflfhdbaaGreat
set_option maxRecDepth 100000
namespace Go.Proofs.YtphonmiflfhdbaaGreat
open Go Go.RowKit Dv Go.Proofs.Tryz
def isLet (c:Int):Bool:=decide (97<=c) && decide (c<=122)
def ik (c:Int):Bool:=(isLet c || (decide (48<=c) && decide (c<=57))) || decide (c=95)
def signs:List UInt8->Nat
 | []=>0
 | c :: r=>if ik c.toNat=true then signs r + 1 else 0
def dq:List UInt8->Nat
 | []=>0
 | c :: r=>if isLet c.toNat=true then signs r + 1 else 0
def aM (s:ByteArray):Bool:=decide (0 < s.size) && (decide (s.size<=32) && decide (dq s.data.toList=s.size))
theorem B1 {c:Int} (h:isLet c=true):ik c=true:=by simp [ik,h]
theorem B2:∀ l:List UInt8,signs l<=l.length
 | []=>aW _
 | c :: r=>by
  simp only [signs,List.length_cons];split
  ·have:=B2 r;omega
  ·omega
theorem uR {c:UInt8} {r:List UInt8} (h:isLet c.toNat=true):dq (c :: r)=signs (c :: r):=by
 simp [dq,signs,h,B1 h]
theorem jq {s:ByteArray} {k:Nat} (h:k < s.size):∃ c:UInt8,s.data.toList.drop k=c :: s.data.toList.drop (k + 1)/\bd s k=c.toNat:=by
 have hk:k < s.data.toList.length:=sU h;refine ⟨s.data.toList[k],by rw [<- List.drop_eq_getElem_cons hk],?_⟩
 grind [bd]
theorem pH {s:ByteArray} {k:Nat} (h:s.size<=k):s.data.toList.drop k=[]:=List.drop_eq_nil_of_le (sU h)
theorem sv (c:Int):EvP prog 172 [.v (.int .u8 c)] (.v (.bool (isLet c))):=by
 refine eG 9 [.tmp 2] func172 rfl ntmps172 rfl fun _ _ _ _=>?_;exact (congrArg (fun b=>DV.v (.bool b)) (pickB_and _ _):_=_)
theorem IC (c:Int):EvP prog 173 [.v (.int .u8 c)] (.v (.bool (ik c))):=by
 refine eG 17 [.tmp 2] func173 rfl ntmps173 rfl fun _ _ _ _=>?_;refine cP Rq (sv c) ?_;refine (bo ?_:);simp only [pickB_and,aj,ik]
abbrev EM (s:ByteArray) (i e:Nat):St:=⟨[au 5 e,(0,⟨[],.v (.string s)⟩),au 1 i],[],[]⟩
theorem zZ (s:ByteArray) (i:Nat):s.extract i (i + 0)=⟨#[]⟩:=by
 apply ByteArray.ext
 simp_all
theorem yr (s:ByteArray) (i:Nat) (hi:i < s.size) (hs:s.size<=4611686018427387904):EvP prog 122 [.v (.string s),.v (.int .i64 i)]
  (.tup [.v (.string (s.extract i (i + dq (s.data.toList.drop i)))),.v (.int .i64 ((i + dq (s.data.toList.drop i):Nat):Int))]):=by
 obtain ⟨c0,yt,iP⟩:=jq hi;refine eG 38 [.tmp 4,.tmp 5] func122 rfl ntmps122 rfl fun _ _ _ _=>?_;refine br (fun h=>?_) (fun _=>?_)
 ·simp [aj] at h;omega
 refine ⟨⟨by omega,by omega⟩,?_⟩;refine cP Rq (sv _) ?_;refine br ?_ ?_<;>intro h
 ·have hl:isLet (c0.toNat:Int)=false:=by grind
  have hn:dq (s.data.toList.drop i)=0:=by rw [yt];simp [dq,hl]
  rw [hn,zZ];exact ⟨_,ax,rfl⟩
 have hl:isLet (c0.toNat:Int)=true:=by grind
 have hn:dq (s.data.toList.drop i)=signs (s.data.toList.drop i):=by rw [yt];exact uR hl
 rw [hn]
 refine aP (fun j st=>∃ e:Nat,st=EM s i e/\e<=s.size/\i<=e/\e + signs (s.data.toList.drop e)=i + signs (s.data.toList.drop i)/\j=s.size - e)
  (s.size - i) (EM s i i) (wkM wB) ⟨i,rfl,by omega,by omega,rfl,rfl⟩ ?_
 rintro j st ⟨e,rfl,he,Ke,hinv,rfl⟩;refine br ?_ ?_<;>intro h
 ·have av:e < s.size:=sU h;refine ⟨⟨by omega,by omega⟩,?_⟩;refine cP Xz (IC _) ?_;obtain ⟨c,hd,hb⟩:=jq av;refine br ?_ ?_<;>intro h2
  ·have Pk:ik (c.toNat:Int)=true:=by
    have:ik ((bd s e:Nat):Int)=true:=h2
    rwa [hb] at this
   refine ⟨EM s i (e + 1),(wkM (wB1 (nxt av (by omega)))),s.size - (e + 1),by omega,e + 1,rfl,by omega,by omega,?_,rfl⟩;rw [hd] at hinv;simp only [signs,Pk,if_true] at hinv;omega
  ·have Pk:ik (c.toNat:Int)=false:=by
    have:ik ((bd s e:Nat):Int)=false:=h2
    rwa [hb] at this
   rw [hd] at hinv;simp only [signs,Pk] at hinv;refine ⟨⟨by omega,by omega,by omega⟩,?_⟩;have:i + signs (s.data.toList.drop i)=e:=by simp at hinv;omega
   rw [this];exact ⟨_,ax,rfl⟩
 ·have hge:e=s.size:=by simp at h;omega
  rw [pH (by omega)] at hinv;simp only [signs] at hinv;refine ⟨⟨by omega,by omega,by omega⟩,?_⟩;have:i + signs (s.data.toList.drop i)=e:=by omega
  rw [this];exact ⟨_,ax,rfl⟩
theorem take_nil (s:ByteArray) (hs:s.size=0):EvP prog 122 [.v (.string s),.v (.int .i64 0)] (.tup [.v (.string ⟨#[]⟩),.v (.int .i64 0)]):=by
 refine eG 38 [.tmp 4,.tmp 5] func122 rfl ntmps122 rfl fun _ _ _ _=>?_;refine br (fun _=>?_) (fun h=>?_)
 ·exact ⟨_,ax,rfl⟩
 ·simp [aj,hs] at h
theorem EN (l:List UInt8):dq l<=l.length:=by
 cases l with
 | nil=>exact aW _
 | cons c r=>grind [dq,B2]
theorem B3 (s:ByteArray):decide (s=⟨#[]⟩)=decide (s.size=0):=by
 rw [Bool.eq_iff_iff];simp only [decide_eq_true_eq];constructor
 ·rintro rfl;rfl
 ·intro h;apply ByteArray.ext;exact Array.eq_empty_of_size_eq_zero h
theorem eV (s:ByteArray) (hs:s.size<=4611686018427387904):EvP prog 68 [.v (.string s)] (.v (.bool (aM s))):=by
 refine eG 22 [.tmp 2] func68 rfl ntmps68 rfl fun _ _ _ _=>?_;by_cases h0:s.size=0
 ·refine cP Lh (take_nil s h0) ?_;refine (bo ?_:);simp [pickB_and,aM,B3,h0]
 ·refine cP Lh (yr s 0 (by omega) hs) ?_;refine (bo ?_:);have hl:=EN s.data.toList;simp only [Array.length_toList,ByteArray.size_data] at hl;simp only [pickB_and,aM,B3,List.drop_zero,Nat.zero_add];rw [Bool.eq_iff_iff];simp only [aO,decide_eq_true_eq,Bool.not_eq_true',decide_eq_false_iff_not];omega
abbrev z6 (s:ByteArray) (i n e:Nat):St:=⟨[au 5 n,au 6 e,(0,⟨[],.v (.string s)⟩),au 1 i],[],[]⟩
theorem B4 (s:ByteArray) (hs:s.size<=4611686018427387904):EvP prog 180 [.v (.string s),.v (.int .i64 0)] (.v (.int .i64 (dq s.data.toList))):=by
 refine eG 47 [.tmp 4] func180 rfl ntmps180 rfl fun _ _ _ _=>?_
 refine aP (fun j st=>∃ e:Nat,st=z6 s 0 e e/\e<=s.size/\(e=0∨e + signs (s.data.toList.drop e)=dq s.data.toList)/\j=s.size - e)
  s.size (z6 s 0 0 0) (wkM wB) ⟨0,rfl,by omega,.inl rfl,rfl⟩ ?_
 rintro j st ⟨e,rfl,he,hinv,rfl⟩;refine br ?_ ?_<;>intro h
 ·have av:e < s.size:=sU h;refine ⟨⟨by omega,by omega⟩,?_⟩;obtain ⟨c,hd,hb⟩:=jq av;have key:dq s.data.toList=if (e=0/\isLet (c.toNat:Int)=true)∨(e≠0/\ik (c.toNat:Int)=true) then (e + 1) + signs (s.data.toList.drop (e + 1)) else e:=by grind [dq,isLet,signs,ik]
  refine br ?_ ?_<;>intro h2
  ·have lZ:bd s ((e:Int).toNat)=c.toNat:=hb;rw [lZ] at h2;have:dq s.data.toList=e:=by grind [pickB_and,aj,ik,isLet]
   rw [this];exact (rfl:_=_)
  ·have lZ:bd s ((e:Int).toNat)=c.toNat:=hb;rw [lZ] at h2;refine ⟨z6 s 0 (e + 1) (e + 1),(wkM (wB1 (nxt av (by omega)))),s.size - (e + 1),by omega,e + 1,rfl,by omega,.inr ?_,rfl⟩;rw [key,ai];simp only [pickB_and,aj,ik,isLet] at h2 ⊢;simp at h2 ⊢;omega
 ·have hge:e=s.size:=by simp at h;omega
  have:dq s.data.toList=e:=by
   rcases hinv with h0 | h0
   ·subst h0;have:s.data.toList=[]:=by rw [<- List.drop_zero (l:=s.data.toList)];exact pH (by omega)
    rw [this];all_goals rfl
   ·grind [pH,signs]
  rw [this];exact (rfl:_=_)
theorem gl (s:ByteArray) (hs:s.size<=4611686018427387904):EvP prog 130 [.v (.string s)] (.v (.bool (aM s))):=by
 refine eG 18 [.tmp 2] func130 rfl ntmps130 rfl fun _ _ _ _=>?_;refine br ?_ ?_<;>intro h
 ·refine cP XC (B4 s hs) ?_;refine (bo ?_:);rw [Bool.eq_iff_iff];simp [pickB_and] at h;simp [pickB_and,aM];omega
 ·refine (bo ?_:);rw [Bool.eq_iff_iff];simp [pickB_and] at h;simp [pickB_and,aM];omega
def eE (l:List ByteArray):List (List DV):=l.map fun s=>[.v (.string s)]
def dInts (l:List Nat):List (List DV):=l.map fun (i:Nat)=>[.v (.int .i64 (i:Int))]
theorem bW (l:List ByteArray):(eE l).length=l.length:=by simp [eE]
theorem bu (l:List Nat):(dInts l).length=l.length:=by simp [dInts]
theorem fh {l:List ByteArray} {j:Nat} {x:ByteArray} (h:l[j]? = some x):(eE l)[j]? = some [.v (.string x)]:=by simp [eE,h]
theorem dQ {l:List Nat} {j:Nat} {x:Nat} (h:l[j]? = some x):(dInts l)[j]? = some [.v (.int .i64 (x:Int))]:=by simp [dInts,h]
abbrev EO (g:Nat) (cb:List DV) (i j:Nat):St:=⟨[(1,⟨[],.fn g [] cb⟩),au 5 i,au 6 j],[],[]⟩
theorem sw (g:Nat) (kv:Enters prog g) (cb:List DV) (n m:Nat) (hn:n<=1099511627776) (hm:m<=n) (Yb:CcL [] 0 0 0 cb cb) (kr:clB.clL 0 0 cb=true)
  (hp:∀ i:Nat,i < n->EvP prog g (.v (.int .i64 i) :: cb) (.v (.bool (decide (m<=i))))) :
  EvP prog 124 [.v (.int .i64 n),.fn g [] cb] (.v (.int .i64 m)):=by
 refine eG 26 [.tmp 4] func124 rfl ntmps124 rfl fun _ _ _ _=>?_;have Bl:clB 0 0 (.fn g [] cb)=true:=by simp only [clB,aO];exact ⟨rfl,kr⟩
 refine lI (fun j st=>∃ a b:Nat,st=EO g cb a b/\a<=m/\m<=b/\b<=n/\j=b - a) ⟨0,n,rfl,by omega,by omega,by omega,rfl⟩ (wkM (wB1 Bl)) ?_;rintro j st ⟨a,b,rfl,h1,h2,h3,rfl⟩;refine br ?_ ?_<;>intro h
 ·have av:a < b:=sU h
  have TF:IntKind.i64.wrap ((IntKind.u64.wrap (IntKind.i64.wrap ((a:Int) + (b:Int)))).fdiv (2 ^ (min ((1:Int).toNat) IntKind.u64.bits)))=(((a + b) / 2:Nat):Int):=by
   rw [wrap64 (n:=(a:Int) + (b:Int)) (by omega) (by omega),IntKind.wrap_u64];have e2:(2:Int) ^ (min ((1:Int).toNat) IntKind.u64.bits)=2:=by decide
   rw [e2,Int.fdiv_eq_ediv_of_nonneg _ (by decide),wrap64 (by omega) (by omega)];omega
  refine ⟨by decide,?_⟩;refine cP kv (hp ((a + b) / 2) (by omega)) ?_ ⟨_,_,rfl,congrArg (fun z=>DV.v (.int .i64 z)) TF,Yb⟩;refine br ?_ ?_<;>intro hq
  ·have hq:(a + b) / 2 < m:=sU hq;have Ej:=nxt (e:=(a + b) / 2) (n:=n) (by omega) (by omega);rw [<- TF] at Ej;refine ⟨EO g cb ((a + b) / 2 + 1) b,(wkM (wB2 Bl Ej)),b - ((a + b) / 2 + 1),by omega,(a + b) / 2 + 1,b,rfl,by omega,by omega,by omega,rfl⟩
  ·have hq:m<=(a + b) / 2:=sU hq;refine ⟨EO g cb a ((a + b) / 2),(wkM (wB2 Bl TF)),(a + b) / 2 - a,by omega,a,(a + b) / 2,rfl,by omega,by omega,by omega,rfl⟩
 ·have hge:¬ a < b:=sU h;have:a=m:=by omega
  subst this;exact (rfl:_=_)
def z7 (a b:ByteArray):Bool:=Op.bytesLess a.data.toList b.data.toList
theorem kh:∀ l:List UInt8,Op.bytesLess l l=false
 | []=>rfl
 | a :: r=>by simp [Op.bytesLess,kh r]
theorem jM:∀ {a b:List UInt8},Op.bytesLess a b=true->Op.bytesLess b a=false
 | _,[],h=>by simp [Op.bytesLess] at h
 | [],b :: r,_=>rfl
 | a :: x,b :: y,h=>by
  simp only [Op.bytesLess,Bool.or_eq_true,decide_eq_true_eq,aO,beq_iff_eq] at h;simp only [Op.bytesLess,Bool.or_eq_false_iff,decide_eq_false_iff_not,Bool.and_eq_false_imp,beq_iff_eq];rcases h with h | ⟨rfl,h⟩
  ·grind
  ·exact ⟨UInt8.lt_irrefl _,fun _=>jM h⟩
structure gT (L:List ByteArray) (aG:List Nat):Prop where
 lt:∀ (i p:Nat),aG[i]? = some p->p < L.length
 srt:∀ (i j p q:Nat) (s t:ByteArray),i < j->aG[i]? = some p->aG[j]? = some q->L[p]? = some s->L[q]? = some t->z7 s t=true
 fst:∀ (i p j:Nat) (s:ByteArray),aG[i]? = some p->L[p]? = some s->L[j]? = some s->p<=j
 all:∀ (j:Nat) (s:ByteArray),L[j]? = some s->∃ i p:Nat,aG[i]? = some p/\L[p]? = some s
abbrev cL (L:List ByteArray) (aG:List Nat):List DV:=[.sl 1 (eE L) none,.sl 1 (dInts aG) none]
theorem uS (L:List ByteArray) (aG:List Nat) (s:ByteArray) (i p:Nat) (t:ByteArray) (hi:aG[i]? = some p) (hp:L[p]? = some t) :
  EvP prog 125 [.v (.int .i64 i),.pt [.pt (cL L aG) 0] 0,.pt [.v (.string s)] 0] (.v (.bool (!z7 t s))):=by
 refine eG 20 [.tmp 4] func125 rfl ntmps125 rfl fun _ _ _ _=>?_;refine dI ?_;refine iX (dQ hi) ?_;refine iX (fh hp) ?_;exact (rfl:_=_)
theorem find_spec (L:List ByteArray) (aG:List Nat) (s:ByteArray) (q p:Nat) (hT:gT L aG) (hl:aG.length<=1099511627776) (hq:aG[q]? = some p) (hp:L[p]? = some s) :
  EvP prog 72 [.pt (cL L aG) 0,.v (.string s)] (.tup [.v (.int .i64 p),.v (.bool true)]):=by
 have hqlt:=(gS hq).1;refine eG 47 [.tmp 4,.tmp 5] func72 rfl ntmps72 rfl fun _ _ _ _=>?_
 have kr:∀ i:Nat,i < aG.length->EvP prog 125 [.v (.int .i64 i),.pt [.pt (cL L aG) 0] 0,.pt [.v (.string s)] 0] (.v (.bool (decide (q<=i)))):=by
  intro i hi;obtain ⟨p',xK⟩:∃ p',aG[i]? = some p':=⟨_,gE hi⟩;obtain ⟨t,ht⟩:∃ t,L[p']? = some t:=⟨_,gE (hT.lt i p' xK)⟩;have:=uS L aG s i p' t xK ht
  have e:(!z7 t s)=decide (q<=i):=by
   rcases Nat.lt_trichotomy i q with h | h | h
   ·rw [hT.srt i q p' p t s h xK hq ht hp];simp;omega
   ·grind [z7,kh]
   ·have h2:=hT.srt q i p p' s t h hq xK hp ht;rw [z7,jM h2];simp;omega
  rw [e] at this;exact this
 have hS:=sw 125 Rc [.pt [.pt (cL L aG) 0] 0,.pt [.v (.string s)] 0] aG.length q hl (by omega) ax rfl kr;refine zW Rb hS (o0 (bu aG)) rfl ?_;refine dI ?_;refine br ?_ ?_<;>intro h
 ·refine iX (dQ hq) ?_;refine iX (fh hp) ?_;refine br ?_ ?_<;>intro h2
  ·exfalso;simp [aj,bu] at h2
  ·refine iX (dQ hq) ?_;exact ⟨_,ax,rfl⟩
 ·grind [dInts,bu]
end Go.Proofs.YtphonmiflfhdbaaGreat
set_option maxRecDepth 100000
namespace Go.Proofs
open Go.Shelf
def Tryz.laysGg6_ren:Go.Shelf.Ren:=⟨fun | 6=>113 | 10=>167 | 11=>168 | 12=>169 | 13=>170 | 14=>171 | 24=>218 | 25=>219 | 26=>220 | 27=>221 | 28=>222 | 29=>223 | 30=>224 | 31=>225 | 32=>226 | 33=>227 | 34=>247 | 35=>248 | 36=>249 | 37=>250 | 38=>251 | 39=>270 | n=>n,fun | 20=>20 | 26=>69 | 35=>262 | 0=>0 | 37=>264 | 3=>3 | 41=>267 | 44=>270 | 49=>308 | 51=>199 | 4=>4 | 54=>311 | 53=>310 | 58=>154 | 5=>5 | 9=>9 | 60=>332 | 64=>336 | 66=>347 | 67=>70 | 17=>17 | 32=>259 | 33=>260 | 82=>372 | 12=>12 | 75=>366 | 76=>367 | 77=>368 | 78=>327 | 79=>369 | 80=>370 | n=>n,fun | n=>n⟩
theorem Tryz.laysGg6:Go.Proofs.LaysGg.n6 prog Tryz.laysGg6_ren:={
 mixed:=by kernel_rfl
 f6:=func113.trans (congrArg some (by kernel_rfl))
 f10:=func167.trans (congrArg some (by kernel_rfl))
 f11:=func168.trans (congrArg some (by kernel_rfl))
 f12:=func169.trans (congrArg some (by kernel_rfl))
 f13:=func170.trans (congrArg some (by kernel_rfl))
 f14:=func171.trans (congrArg some (by kernel_rfl))
 f24:=func218.trans (congrArg some (by kernel_rfl))
 f25:=func219.trans (congrArg some (by kernel_rfl))
 f26:=func220.trans (congrArg some (by kernel_rfl))
 f27:=func221.trans (congrArg some (by kernel_rfl))
 f28:=func222.trans (congrArg some (by kernel_rfl))
 f29:=func223.trans (congrArg some (by kernel_rfl))
 f30:=func224.trans (congrArg some (by kernel_rfl))
 f31:=func225.trans (congrArg some (by kernel_rfl))
 f32:=func226.trans (congrArg some (by kernel_rfl))
 f33:=func227.trans (congrArg some (by kernel_rfl))
 f34:=func247.trans (congrArg some (by kernel_rfl))
 f35:=func248.trans (congrArg some (by kernel_rfl))
 f36:=func249.trans (congrArg some (by kernel_rfl))
 f37:=func250.trans (congrArg some (by kernel_rfl))
 f38:=func251.trans (congrArg some (by kernel_rfl))
 f39:=func270.trans (congrArg some (by kernel_rfl))
 t0:=Tryz.underlying0
 a0:=Tryz.isAgg0
 z0:=Tryz.sizeOf0
 v0:=Tryz.zeroValue0
 i0:=by kernel_rfl
 t3:=Tryz.underlying3
 a3:=Tryz.isAgg3
 z3:=Tryz.sizeOf3
 v3:=Tryz.zeroValue3
 i3:=by kernel_rfl
 t4:=Tryz.underlying4
 a4:=Tryz.isAgg4
 z4:=Tryz.sizeOf4
 v4:=Tryz.zeroValue4
 i4:=by kernel_rfl
 t5:=Tryz.underlying5
 a5:=Tryz.isAgg5
 z5:=Tryz.sizeOf5
 v5:=Tryz.zeroValue5
 i5:=by kernel_rfl
 t9:=Tryz.underlying9
 a9:=Tryz.isAgg9
 z9:=Tryz.sizeOf9
 v9:=Tryz.zeroValue9
 i9:=by kernel_rfl
 t12:=Tryz.underlying12
 a12:=Tryz.isAgg12
 z12:=Tryz.sizeOf12
 v12:=Tryz.zeroValue12
 i12:=by kernel_rfl
 t17:=Tryz.underlying17
 a17:=Tryz.isAgg17
 z17:=Tryz.sizeOf17
 v17:=Tryz.zeroValue17
 i17:=by kernel_rfl
 t20:=Tryz.underlying20
 a20:=Tryz.isAgg20
 z20:=Tryz.sizeOf20
 v20:=Tryz.zeroValue20
 i20:=by kernel_rfl
 t26:=Tryz.underlying69
 a26:=Tryz.isAgg69
 z26:=Tryz.sizeOf69
 v26:=Tryz.zeroValue69
 i26:=by kernel_rfl
 t32:=Tryz.underlying259
 a32:=Tryz.isAgg259
 z32:=Tryz.sizeOf259
 v32:=Tryz.zeroValue259
 i32:=by kernel_rfl
 t33:=Tryz.underlying260
 a33:=Tryz.isAgg260
 z33:=Tryz.sizeOf260
 v33:=Tryz.zeroValue260
 i33:=by kernel_rfl
 t35:=Tryz.underlying262
 a35:=Tryz.isAgg262
 z35:=Tryz.sizeOf262
 v35:=Tryz.zeroValue262
 i35:=by kernel_rfl
 t37:=Tryz.underlying264
 a37:=Tryz.isAgg264
 z37:=Tryz.sizeOf264
 v37:=Tryz.zeroValue264
 i37:=by kernel_rfl
 t41:=Tryz.underlying267
 a41:=Tryz.isAgg267
 z41:=Tryz.sizeOf267
 v41:=Tryz.zeroValue267
 i41:=by kernel_rfl
 t44:=Tryz.underlying270
 a44:=Tryz.isAgg270
 z44:=Tryz.sizeOf270
 v44:=Tryz.zeroValue270
 i44:=by kernel_rfl
 t49:=Tryz.underlying308
 a49:=Tryz.isAgg308
 z49:=Tryz.sizeOf308
 v49:=Tryz.zeroValue308
 i49:=by kernel_rfl
 t51:=Tryz.underlying199
 a51:=Tryz.isAgg199
 z51:=Tryz.sizeOf199
 v51:=Tryz.zeroValue199
 i51:=by kernel_rfl
 t53:=Tryz.underlying310
 a53:=Tryz.isAgg310
 z53:=Tryz.sizeOf310
 v53:=Tryz.zeroValue310
 i53:=by kernel_rfl
 t54:=Tryz.underlying311
 a54:=Tryz.isAgg311
 z54:=Tryz.sizeOf311
 v54:=Tryz.zeroValue311
 i54:=by kernel_rfl
 t58:=Tryz.underlying154
 a58:=Tryz.isAgg154
 z58:=Tryz.sizeOf154
 v58:=Tryz.zeroValue154
 i58:=by kernel_rfl
 t60:=Tryz.underlying332
 a60:=Tryz.isAgg332
 z60:=Tryz.sizeOf332
 v60:=Tryz.zeroValue332
 i60:=by kernel_rfl
 t64:=Tryz.underlying336
 a64:=Tryz.isAgg336
 z64:=Tryz.sizeOf336
 v64:=Tryz.zeroValue336
 i64:=by kernel_rfl
 t66:=Tryz.underlying347
 a66:=Tryz.isAgg347
 z66:=Tryz.sizeOf347
 v66:=Tryz.zeroValue347
 i66:=by kernel_rfl
 t67:=Tryz.underlying70
 a67:=Tryz.isAgg70
 z67:=Tryz.sizeOf70
 v67:=Tryz.zeroValue70
 i67:=by kernel_rfl
 t75:=Tryz.underlying366
 a75:=Tryz.isAgg366
 z75:=Tryz.sizeOf366
 v75:=Tryz.zeroValue366
 i75:=by kernel_rfl
 t76:=Tryz.underlying367
 a76:=Tryz.isAgg367
 z76:=Tryz.sizeOf367
 v76:=Tryz.zeroValue367
 i76:=by kernel_rfl
 t77:=Tryz.underlying368
 a77:=Tryz.isAgg368
 z77:=Tryz.sizeOf368
 v77:=Tryz.zeroValue368
 i77:=by kernel_rfl
 t78:=Tryz.underlying327
 a78:=Tryz.isAgg327
 z78:=Tryz.sizeOf327
 v78:=Tryz.zeroValue327
 i78:=by kernel_rfl
 t79:=Tryz.underlying369
 a79:=Tryz.isAgg369
 z79:=Tryz.sizeOf369
 v79:=Tryz.zeroValue369
 i79:=by kernel_rfl
 t80:=Tryz.underlying370
 a80:=Tryz.isAgg370
 z80:=Tryz.sizeOf370
 v80:=Tryz.zeroValue370
 i80:=by kernel_rfl
 t82:=Tryz.underlying372
 a82:=Tryz.isAgg372
 z82:=Tryz.sizeOf372
 v82:=Tryz.zeroValue372
 i82:=by kernel_rfl }
end Go.Proofs
namespace Go.Proofs.YtphonmiflfhdbaaGreat
open Go Go.RowKit Go.Lib Go.Sort Go.Proofs.Tryz
noncomputable def siT:TypeInfo:=(prog.info? 82).get (by kernel_rfl)
noncomputable def Vt:TypeInfo:=(prog.info? 3).get (by kernel_rfl)
theorem siK (n:Nat) (h2:2<=n):Lib.swapperK n Vt 2=5:=by
 have a:Vt.hasPointers=false:=by kernel_rfl
 have b:Vt.bytes=8:=by kernel_rfl
 have c:(n == 0)=false:=by simp;omega
 have d:(n == 1)=false:=by simp;omega
 simp [Lib.swapperK,a,b,c,d]
theorem Lu {α:Type} [Inhabited α] (enc:α->Value) (h1:∀ x,(enc x).oneCell'=true) {lt:α->α->Bool} (hO:SWO lt) (lb:Array Value) (Bz c:Nat) (d:Array α) (h2:2<=d.size) (bL:d.size < 4611686018427387904) (w:World)
  (Lv:LessReads prog 114 lb enc lt Bz 0 d.size w) (hH:Holds enc w Bz 0 d) (hblk:Bz < w.heap.size) :
  Calls prog 113 #[.iface 82 (.slice (some ⟨Bz,0,none⟩) d.size c),.func (.func 114) #[] lb] w fun e w'=>
   e = .returned (.tuple #[])/\∃ d' n os,PermIn 0 d.size d d' /\ SortedIn lt 0 d.size d' /\ w'=grow (putRow enc (Sort.ahead w n) Bz 0 d') os:=
 Any.sort_Slice_sorted Tryz.laysGg6 82 3 siT Vt (by kernel_rfl) (by kernel_rfl) (by kernel_rfl) (by kernel_rfl) 2 (fun _=>by kernel_rfl) (by kernel_rfl) (fun _=>by kernel_rfl) enc h1 lt hO 114 lb
  (enters_of func114 (by kernel_rfl) rfl) Bz 0 c d h2 bL 213 (by rw [siK _ h2];kernel_rfl) true
  (fun args W=>run_callFunc_extern func213 (by kernel_rfl) (by kernel_rfl) (by kernel_rfl) (e:=Extern.ReflectliteSwapper.swap true) (by kernel_rfl) args W) w Lv hH hblk
theorem ID (lb:Array Value) (p:Option Addr) (n c:Nat) (h1:n<=1) (w:World) :
  Calls prog 113 #[.iface 82 (.slice p n c),.func (.func 114) #[] lb] w fun e w'=>e = .returned (.tuple #[])/\∃ os,w'=grow w os:=by
 have h:n=0∨n=1:=by omega
 rcases h with rfl | rfl
 ·exact Any.sort_Slice_tiny Tryz.laysGg6 82 3 siT Vt (by kernel_rfl) (by kernel_rfl) (by kernel_rfl) (by kernel_rfl) 2 (fun _=>by kernel_rfl) p 0 c h1 209 (by kernel_rfl) _ _ _ w
 ·exact Any.sort_Slice_tiny Tryz.laysGg6 82 3 siT Vt (by kernel_rfl) (by kernel_rfl) (by kernel_rfl) (by kernel_rfl) 2 (fun _=>by kernel_rfl) p 1 c h1 210 (by kernel_rfl) _ _ _ w
end Go.Proofs.YtphonmiflfhdbaaGreat
set_option maxRecDepth 100000
namespace Go.Proofs.YtphonmiflfhdbaaGreat
open Go Go.RowKit Dv Go.Proofs.Tryz
theorem nV:∀ {a b:List UInt8},Op.bytesLess a b=false->a=b∨Op.bytesLess b a=true
 | [],[],_=>.inl rfl
 | a :: x,[],_=>.inr rfl
 | [],b :: r,h=>by simp [Op.bytesLess] at h
 | a :: x,b :: y,h=>by
  simp only [Op.bytesLess,Bool.or_eq_false_iff,decide_eq_false_iff_not,Bool.and_eq_false_imp,beq_iff_eq] at h;simp only [Op.bytesLess,Bool.or_eq_true,decide_eq_true_eq,aO,beq_iff_eq];by_cases B5:a=b
  ·subst B5;rcases nV (h.2 rfl) with h2 | h2
   all_goals grind
  all_goals grind
theorem fQ:∀ {a b c:List UInt8},Op.bytesLess a b=true->Op.bytesLess b c=true->Op.bytesLess a c=true
 | _,[],_,h,_=>by simp [Op.bytesLess] at h
 | _,_ :: _,[],_,h=>by simp [Op.bytesLess] at h
 | [],b :: y,c :: z,_,_=>rfl
 | a :: x,b :: y,c :: z,h1,h2=>by
  simp only [Op.bytesLess,Bool.or_eq_true,decide_eq_true_eq,aO,beq_iff_eq] at h1 h2 ⊢;rcases h1 with h1 | ⟨rfl,h1⟩
  ·grind
  ·rcases h2 with h2 | ⟨rfl,h2⟩
   ·exact .inl h2
   ·exact .inr ⟨rfl,fQ h1 h2⟩
theorem Hb {s t:ByteArray} (h:z7 s t=false):s=t∨z7 t s=true:=by
 rcases nV h with h | h
 ·exact .inl (ByteArray.ext (Array.ext' h))
 ·exact .inr h
def B6 (L:List ByteArray) (p q:Nat):Bool:=
 if L.getD p aq=L.getD q aq then decide (p < q) else z7 (L.getD p aq) (L.getD q aq)
theorem Pl (L:List ByteArray):Sort.SWO (B6 L):=by
 have irr:∀ x,B6 L x x=false:=fun x=>by simp [B6]
 have tr:∀ x y z,B6 L x y=true->B6 L y z=true->B6 L x z=true:=by grind [B6,aq,jM,z7,fQ]
 have tot:∀ x y,B6 L x y=false->x=y∨B6 L y x=true:=by grind [B6,aq,Hb]
 refine ⟨irr,tr,fun x y z h1 h2=>?_⟩
 grind
theorem IE (L:List ByteArray) (d:List Nat) (i j p q:Nat) (hi:d[i]? = some p) (hj:d[j]? = some q) (hp:p < L.length) (hq:q < L.length) :
  EvS prog 114 [.v (.int .i64 i),.v (.int .i64 j),.pt [.sl 1 (dInts d) none] 0,.pt [.pt [.sl 1 (eE L) none,.v (.slice none 0 0)] 0] 0] [] [] (fun r _ _=>r = .v (.bool (B6 L p q))):=by
 obtain ⟨s,hs⟩:∃ s,L[p]? = some s:=⟨_,gE hp⟩;obtain ⟨t,ht⟩:∃ t,L[q]? = some t:=⟨_,gE hq⟩;have e:B6 L p q=if s=t then decide (p < q) else z7 s t:=by grind [B6]
 refine KO (s:=true) (P:=prog) tt BX 5000 50 [.tmp 6] func114 rfl ntmps114 rfl (nL rfl) (fun _ _ _ _=>?_);refine dI ?_;refine iX (dQ hi) ?_;refine iX (dQ hj) ?_;refine dI ?_;refine iX (fh hs) ?_;refine iX (fh ht) ?_;refine br ?_ ?_<;>intro h
 ·have bg:s≠t:=sU h;refine dI ?_;refine iX (fh hs) ?_;refine iX (fh ht) ?_;refine (bo ?_:);rw [e,ah bg];rfl
 ·have aK:s=t:=sU h;refine (bo ?_:);rw [e,ai aK];simp
abbrev Lw (p:Nat):Value:=.int .i64 (p:Int)
theorem B7 {E:En}:∀ {ds:List Nat} {arr:List Value},RvL E (dInts ds).flatten arr->arr=ds.map Lw
 | [],arr,h=>by simpa [dInts,RvL] using h
 | x :: r,arr,h=>by
  simp only [dInts,List.map_cons,List.flatten_cons,List.cons_append,List.nil_append,RvL] at h;obtain ⟨v,s,rfl,h1,h2⟩:=h;unfold Rv at h1;rw [h1.1,B7 (ds:=r) h2];rfl
theorem uT {E:En}:∀ ds:List Nat,RvC E (dInts ds).flatten (ds.map Lw)
 | []=>⟨cx E,by simp⟩
 | x :: r=>by
  have ih:=uT (E:=E) r;refine ⟨?_,?_⟩
  ·simp only [dInts,List.map_cons,List.flatten_cons,List.cons_append,List.nil_append];exact rvL_cons (fm rfl) ih.1
  ·intro v hv;simp only [List.map_cons,List.mem_cons] at hv;rcases hv with rfl | hv
   ·rfl
   ·exact ih.2 v hv
theorem Yc {m:Nat}:∀ ds:List Nat,(∀ p∈ds,p < m + 1)->∃ D:List (Fin (m + 1)),D.map (·.val)=ds
 | [],_=>⟨[],rfl⟩
 | x :: r,h=>by
  obtain ⟨D,hD⟩:=Yc r fun p hp=>h p (gh _ hp);exact ⟨⟨x,h x (by simp)⟩ :: D,by simp [hD]⟩
theorem uU {α:Type} [Inhabited α] (enc:α->Value) (w:World) (b n:Nat) (dk:Array α) (os:Array Obj) (arr:List Value) (ty:TypeId) (hw:w.heap[b]? = some (.cells arr.toArray ty (0,0))) (hl:arr.length=dk.size) :
  ∀ k,k < w.heap.size->(Sort.grow (Sort.putRow enc (Sort.ahead w n) b 0 dk) os).heap[k]? = (World.dD w b (.cells (dk.toList.map enc).toArray ty (0,0))).heap[k]?:=by
 intro k hk;simp only [Sort.grow,Sort.putRow,Sort.mapBlock,Sort.ahead];rw [Array.getElem?_append_left (sU hk),Array.getElem?_modify];by_cases Pm:b=k
 ·subst Pm;rw [ai rfl,hw,iE hw];simp only [Option.map_some,Sort.onCells,oI,Obj.cells.injEq,and_true];apply Array.ext_getElem?;intro j;simp only [Sort.putCells,Array.getElem?_mapIdx]
  grind
 ·rw [ah Pm,dc (Ne.symm Pm)]
theorem Ly {α:Type} {l:List α} {i:Nat} {x:α} (h:l[i]? = some x):l.set i x=l:=by
 apply List.ext_getElem?
 grind
theorem IF {X:Ctx} {st:St} {k:List It} (hP:X.P=prog) {i c len:Nat} {ds:List Nat} (hlen:len=ds.length) {lbD:List DV} {d:Nat} (N:Nat) (hN:∀ p∈ds,p < N) (lt:Nat->Nat->Bool) (hO:Sort.SWO lt)
  (qH:st.bx[i]? = some (dInts ds).flatten) (hn:ds.length<=1099511627776) (lbF:List Nat->List DV) (Pn:∀ dk:List Nat,dk.length=ds.length->CcL (st.bx.set i (dInts dk).flatten) 0 0 0 (lbF dk) lbD)
  (Lv:∀ dk:List Nat,dk.length=ds.length->(∀ p∈dk,p < N)->∀ i j p q:Nat,dk[i]? = some p->dk[j]? = some q->EvS prog 114 (.v (.int .i64 i) :: .v (.int .i64 j) :: lbF dk) [] [] (fun r _ _=>r = .v (.bool (lt p q))))
  (hd:gw X.nt st.sl (some d)=true)
  (hk:∀ TG:List Nat,TG.Perm ds->(∀ i j p q:Nat,i < j->TG[i]? = some p->TG[j]? = some q->lt q p=false)->go X 4000 k ⟨(d,⟨[],.tup []⟩) :: st.sl,st.bx.set i (dInts TG).flatten,st.tk⟩)
  (bi:X.still=false:=by exact rfl) (hX:X.bt=[]:=by exact rfl):CallG X 113 [.sj 82 (.ms i 1 0 len c),.fn 114 [] lbD] (some d) k st:=by
 subst hlen;refine ⟨?_,bi,fun E a w vs h hv=>?_⟩
 ·rw [hP];exact Xc
 rw [hP];simp only [RvL] at hv;obtain ⟨v1,_,rfl,h1,v2,_,rfl,h2,rfl⟩:=hv;unfold Rv at h1;obtain ⟨z,rfl,h1⟩:=h1;unfold Rv at h1;obtain ⟨b,ad,hb,Vi,rfl,hca⟩:=h1;unfold Rv at h2;obtain ⟨l,r,rfl,hl,hr⟩:=h2;simp only [RvL] at hl;subst hl;obtain ⟨b',ty,arr,fx,hw,uz⟩:=h.env.eQ i _ qH;rw [hb] at fx;simp only [oI] at fx;subst fx;have Lz:=B7 uz.1;have Tn:=du hw;by_cases h1:ds.length<=1
 ·refine (ID r.toArray ad ds.length c h1 w).mono ?_;rintro e w' ⟨rfl,os,rfl⟩
  have hh:∀ j,j < w.heap.size->(Sort.grow w os).heap[j]? = w.heap[j]?:=fun j hj=>by
   simp only [Sort.grow];rw [Array.getElem?_append_left hj]
  have cJ:Rel X E st a (Sort.grow w os):=dm h (Ext.refl E) (h.env.ke hh) h.tk h.nw (h.fr.cz rfl rfl rfl (by simp [Sort.grow]) fun j hj=>.inr (hh j hj)) (od bi) (.nil hX);have K1:=hk ds (List.Perm.refl _) (fun i j p q Bi _ hj=>by have:=(gS hj).1;omega);rw [Ly qH] at K1;exact go_sound 4000 _ _ K1 E _ _ (bB cJ hd (.tup []) (.tuple #[]) (by unfold Rv;exact ⟨[],rfl,cx E⟩))
 ·have h2:2<=ds.length:=by omega
  have V9:=hca (by omega);subst V9
  obtain ⟨m,rfl⟩:∃ m,N=m + 1:=by
   cases Bj:ds with
   | nil=>rw [Bj] at h2;simp at h2
   | cons x r=>have:=hN x (by rw [Bj];simp);exact ⟨N - 1,by omega⟩
  obtain ⟨D,hD⟩:=Yc ds hN;have LA:D.length=ds.length:=by rw [<- hD];simp
  let enc:Fin (m + 1)->Value:=fun x=>Lw x.val
  have hO':Sort.SWO (fun x y:Fin (m + 1)=>lt x.val y.val):=⟨fun x=>hO.irrefl _,fun x y z=>hO.trans _ _ _,fun x y z=>hO.ntrans _ _ _⟩;have Yd:∀ l:List (Fin (m + 1)),l.map enc=(l.map (·.val)).map Lw:=fun l=>by simp [enc]
  have hS:=Lu enc (fun _=>rfl) hO' r.toArray b c D.toArray (by simpa [LA] using h2) (by simp [LA];omega) w ?_ ?_ Tn
  ·simp only [List.size_toArray,LA] at hS;refine hS.mono ?_;rintro e w' ⟨rfl,d',n,os,hp,hs,rfl⟩;have bL:d'.size=ds.length:=by have:=hp.1;simpa [LA] using this
   have nW:(d'.toList.map (·.val)).Perm ds:=by
    have h3:=hp.2.2;have e1:d'.extract 0 ds.length=d':=Array.extract_eq_self_of_le (by omega);have e2:D.toArray.extract 0 ds.length=D.toArray:=Array.extract_eq_self_of_le (by simp [LA]);rw [e1,e2] at h3;rw [<- hD];exact h3.map _
   have LB:∀ i j p q:Nat,i < j->(d'.toList.map (·.val))[i]? = some p->(d'.toList.map (·.val))[j]? = some q->lt q p=false:=by
    intro i j p q Bi hi hj;have og:j < d'.size:=by have:=(gS hj).1;simpa using this
    have h3:=hs i j (Nat.zero_le _) Bi (by omega);rw [getElem!_pos d' j og,getElem!_pos d' i (by omega)] at h3;have Kf:i < d'.size:=by omega
    simp [Kf] at hi;simp [og] at hj;rw [<- hi,<- hj];exact h3
   have hh:=uU enc w b n d' os arr ty hw (by rw [Lz];simp [bL]);have eO:=qT (ty:=ty) h bi hb (cs':=(dInts (d'.toList.map (·.val))).flatten) (arr':=(d'.toList.map (·.val)).map Lw) (uT _) ⟨_,hw⟩;rw [<- Yd] at eO;have ue:(Sort.grow (Sort.putRow enc (Sort.ahead w n) b 0 d') os).heap.size=w.heap.size + os.size:=by simp [Sort.grow,Sort.putRow,Sort.mapBlock,Sort.ahead]
   have cJ:=dm eO (Ext.refl E) (w':=Sort.grow (Sort.putRow enc (Sort.ahead w n) b 0 d') os) (eO.env.ke fun j hj=>hh j (by rwa [gj] at hj)) eO.tk eO.nw
    (eO.fr.cz rfl rfl rfl (by rw [gj,ue];omega) fun j hj=>.inr (hh j (by rwa [gj] at hj))) (od bi) (.nil hX)
   exact go_sound 4000 _ _ (hk _ nW LB) E _ _ (bB cJ hd (.tup []) (.tuple #[]) (by unfold Rv;exact ⟨[],rfl,cx E⟩))
  ·intro mm os dk hs i' j' hi hj;have bL:dk.size=ds.length:=sV LA hs;have hh:=uU enc w b mm dk os arr ty hw (by rw [Lz];simp [bL]);have hE:=h.env.set hb Tn (ty:=ty) (uT (E:=E) (dk.toList.map (·.val)));rw [<- Yd] at hE;have hE':=hE.ke (w':=Go.Proofs.sortWorld enc w b 0 mm dk os) fun j hj=>hh j (by rwa [gj] at hj);have Kf:i' < dk.size:=by rw [bL,<- LA];simpa using hi
   have og:j' < dk.size:=by rw [bL,<- LA];simpa using hj
   have hLL:(dk.toList.map (·.val)).length=ds.length:=sU bL
   have hc:=Lv (dk.toList.map (·.val)) hLL (fun p hp=>by
    obtain ⟨x,_,rfl⟩:=List.mem_map.1 hp
    exact x.isLt) i' j' (dk[i']!).val (dk[j']!).val (by rw [getElem!_pos dk i' Kf];simp [Kf]) (by rw [getElem!_pos dk j' og];simp [og])
   have hv:RvL E (.v (.int .i64 (i':Int)) :: .v (.int .i64 (j':Int)) :: lbD) (.int .i64 (i':Int) :: .int .i64 (j':Int) :: r):=rvL_cons (fm rfl) (rvL_cons (fm rfl) hr);have hb:=jj hE' hc ⟨_,_,rfl,rfl,_,_,rfl,rfl,Pn _ hLL⟩ hv;have hargs:(#[Value.int .i64 (i':Int),Value.int .i64 (j':Int)] ++ r.toArray)=(Value.int .i64 (i':Int) :: Value.int .i64 (j':Int) :: r).toArray:=by simp
   rw [hargs];refine hb.mono ?_;rintro e w' ⟨v,E2,rfl,Hc,_,Eo⟩;have:=bQ Hc;subst this;exact ⟨rfl,Eo rfl⟩
  ·intro j hj;have og:j < D.length:=sU hj;rw [cy hw,Nat.zero_add,Lz];refine ⟨?_,?_⟩
   ·rw [getElem!_pos D.toArray j hj,<- hD];simp [og,enc]
   ·simp [World.frozen?,hw]
theorem yu {n m:Nat} {tk:List TkE}:∀ ds:List Nat,WeL n m tk (dInts ds).flatten (dInts ds).flatten
 | []=>rfl
 | b :: r=>⟨_,_,rfl,aA rfl,yu r⟩
theorem pI {n m:Nat} {tk:List TkE} {l:List DV} {ds:List Nat} (h:l=(dInts ds).flatten):WeL n m tk l (dInts ds).flatten:=by rw [h];exact yu ds
def gU (n e:Nat):List Nat:=List.range e ++ List.replicate (n - e) 0
theorem IG {n e:Nat} (h:e<=n):(gU n e).length=n:=by simp [gU];omega
theorem fillA_0 (n:Nat):(List.replicate n [DV.v (.int .i64 0)]).flatten=(dInts (gU n 0)).flatten:=by simp [gU,dInts]
theorem Po (n:Nat):gU n n=List.range n:=by simp [gU]
theorem nq (ds:List Nat):(dInts ds).flatten=ds.map fun (i:Nat)=>DV.v (.int .i64 (i:Int)):=by
 induction ds with
 | nil=>rfl
 | cons x r ih=>simp only [dInts,List.map_cons,List.flatten_cons] at ih ⊢;rw [ih];all_goals rfl
theorem EP {n e:Nat} (h:e < n):(dInts (gU n e)).flatten.take e ++ [DV.v (.int .i64 (e:Int))] ++ (dInts (gU n e)).flatten.drop (e + 1)=(dInts (gU n (e + 1))).flatten:=by
 simp only [nq,<- List.map_take,<- List.map_drop];have e1:(gU n e).take e=List.range e:=by simp [gU]
 have e2:(gU n e).drop (e + 1)=List.replicate (n - (e + 1)) 0:=by
  simp only [gU,List.drop_append,List.length_range];rw [List.drop_eq_nil_of_le (by simp),List.nil_append,List.drop_replicate];congr 1;omega
 rw [e1,e2];simp [gU,List.range_succ]
abbrev LD (L:List ByteArray) (e:Nat):St:=
 ⟨[aD 3 1,aD 4 3,au 16 ((eE L).length),au 17 e],
  [[.sl 1 (eE L) (some 0),.v (.slice none 0 0)],[.loc 0 0],(dInts (gU (eE L).length e)).flatten,[.ms 2 1 0 (eE L).length (eE L).length]],[⟨(eE L).length,9,1,none⟩]⟩
def gy (L:List ByteArray) (ds:List Nat) (i:Nat):Bool:=decide (i=0) || !decide (L.getD (ds.getD i 0) aq=L.getD (ds.getD (i - 1) 0) aq)
def eW (L:List ByteArray) (ds:List Nat) (e:Nat):List Nat:=((List.range e).filter (gy L ds)).map fun i=>ds.getD i 0
theorem uV (L:List ByteArray) (ds:List Nat) (e:Nat):eW L ds (e + 1)=eW L ds e ++ (if gy L ds e=true then [ds.getD e 0] else []):=by
 unfold eW;rw [List.range_succ,List.filter_append,List.map_append];congr 1;cases h:gy L ds e<;>simp [h]
theorem IH (L:List ByteArray) (ds:List Nat) (e:Nat):(eW L ds e).length<=e:=by grind [eW]
abbrev TH (L:List ByteArray) (ds:List Nat):St:=
 ⟨[aD 3 1,pz 4 [.sl 1 (dInts ds) none],aZ 29 1 (dInts ds),au 30 ((eE L).length),au 31 0],
  [[.sl 1 (eE L) (some 0),.v (.slice none 0 0)],[.loc 0 0]],[⟨(eE L).length,9,1,none⟩]⟩
abbrev B8 (L:List ByteArray) (ds aG:List Nat) (m e:Nat):St:=
 ⟨[aD 3 1,pz 4 [.sl 1 (dInts ds) none],aZ 29 1 (dInts ds),au 30 ((eE L).length),au 31 e],
  [[.sl 1 (eE L) (some 0),.sl 1 (dInts aG) (some 1)],[.loc 0 0]],[⟨(eE L).length,9,1,none⟩,⟨m,3,1,none⟩]⟩
theorem getD_some {α:Type} {l:List α} {i:Nat} {x d:α} (h:l[i]? = some x):l.getD i d=x:=by simp [eM,h]
theorem rf {α:Type} {l:List α} {i:Nat} {d:α} (h:i < l.length):l[i]? = some (l.getD i d):=by grind
theorem TI {L:List ByteArray} {ds:List Nat} (nW:ds.Perm (List.range L.length)) (LB:∀ i j p q:Nat,i < j->ds[i]? = some p->ds[j]? = some q->B6 L q p=false):gT L (eW L ds L.length):=by
 have hlen:ds.length=L.length:=by rw [nW.length_eq,List.length_range]
 let D:Nat->Nat:=fun i=>ds.getD i 0
 let T:Nat->ByteArray:=fun i=>L.getD (D i) aq
 have hD:∀ i,i < L.length->ds[i]? = some (D i):=fun i hi=>rf (by omega)
 have hDn:∀ i,i < L.length->D i < L.length:=fun i hi=>by
  have:=nW.mem_iff.1 (mG (hD i hi));exact List.mem_range.1 this
 have hT:∀ i,i < L.length->L[D i]? = some (T i):=fun i hi=>rf (hDn i hi);have fN:∀ i j,i < j->j < L.length->T i=T j∨z7 (T i) (T j)=true:=by grind [B6,Hb]
 have Ye:∀ i,i < L.length->gy L ds i=true->∀ j,j < i->z7 (T j) (T i)=true:=by
  intro i hi hh j SZ;have bg:T i≠T (i - 1):=by grind [gy]
  grind [z7,fQ]
 have yh:∀ j,j < L.length->∃ k,k < L.length/\D k=j:=by
  intro j hj;have:=nW.mem_iff.2 (List.mem_range.2 hj);obtain ⟨k,hk⟩:=List.getElem?_of_mem this
  grind
 let H:=(List.range L.length).filter (gy L ds)
 have hH:∀ (a i:Nat),H[a]? = some i->i < L.length/\gy L ds i=true:=fun a i h=>by
  have:=mG h
  grind
 have II:∀ (a p:Nat),(eW L ds L.length)[a]? = some p->∃ i,H[a]? = some i/\D i=p:=by grind [eW,gy]
 have hinc:∀ (a b i k:Nat),a < b->H[a]? = some i->H[b]? = some k->i < k:=by
  intro a b i k B5 hi hk;have hp:List.Pairwise (·< ·) H:=List.Pairwise.filter _ List.pairwise_lt_range;obtain ⟨ha,rfl⟩:=List.getElem?_eq_some_iff.1 hi;obtain ⟨hb,rfl⟩:=List.getElem?_eq_some_iff.1 hk;exact List.pairwise_iff_getElem.1 hp a b ha hb B5
 refine ⟨?_,?_,?_,?_⟩
 ·intro a p h;obtain ⟨i,hi,rfl⟩:=II a p h;exact hDn i (hH a i hi).1
 ·intro a b p q s t B5 hp hq hs ht;obtain ⟨i,hi,rfl⟩:=II a p hp;obtain ⟨k,hk,rfl⟩:=II b q hq;rw [hT i (hH a i hi).1] at hs;rw [hT k (hH b k hk).1] at ht
  grind
 ·intro a p j s hp hs hj;obtain ⟨i,hi,rfl⟩:=II a p hp;obtain ⟨xN,D8⟩:=hH a i hi;obtain ⟨k,hk,rfl⟩:=yh j (gS hj).1;rw [hT i xN] at hs;rw [hT k hk] at hj;simp only [oI] at hs hj;rcases Nat.lt_trichotomy k i with h | h | h
  ·have:=Ye i xN D8 k h;rw [hs,hj,z7,kh] at this;cases this
  ·rw [h];exact aW _
  ·have h2:=LB i k (D i) (D k) h (hD i xN) (hD k hk)
   grind [B6,aq]
 ·intro j s hj;obtain ⟨k,hk,rfl⟩:=yh j (gS hj).1;rw [hT k hk] at hj;simp only [oI] at hj;obtain ⟨i,⟨xN,his⟩,hmin⟩:=least (p:=fun i=>i < L.length/\T i=s) ⟨k,hk,hj⟩;have D8:gy L ds i=true:=by grind [gy,aq]
  have hm:i∈H:=by simp only [H,List.mem_filter,List.mem_range];exact ⟨xN,D8⟩
  obtain ⟨a,ha⟩:=List.getElem?_of_mem hm;refine ⟨a,D i,?_,by rw [hT i xN,his]⟩;unfold eW
  grind
theorem uW (L:List ByteArray) (hl:L.length<=1099511627776) :
  Ev prog 62 [.sl 1 (eE L) none] [] [] (fun r _ _=>∃ aG,gT L aG/\aG.length<=L.length/\r = .pt (cL L aG) 0):=by
 have hN:=bW L;refine eG 71 [.tmp 2] func62 rfl ntmps62 rfl fun _ _ _ _=>?_;refine ⟨⟨by simp [hN,maxLen];omega,by simp [hN];omega⟩,?_⟩;refine ⟨⟨rfl,by omega,by omega,by omega⟩,?_⟩;refine lJ (fun e=>LD L e) L.length (wkB 4 (by repeat' (first | exact rfl | exact aA rfl | exact pI (fillA_0 _) | refine ⟨_,_,rfl,?_,?_⟩)) (by repeat' (first | exact trivial | exact aA rfl | exact pI (fillA_0 _) | refine ⟨⟨_,rfl,?_⟩,?_⟩))) ?_;intro e he;refine br ?_ ?_<;>intro h
 ·have av:e < (eE L).length:=sU h;refine ⟨⟨by omega,by omega⟩,?_⟩;have e1:(dInts (gU (eE L).length e)).flatten.length=(eE L).length:=by rw [nq,List.length_map,IG (by omega)]
  refine ⟨by rw [e1];omega,?_⟩
  have cV:(dInts (gU (eE L).length e)).flatten.set (0 + (e:Int).toNat * 1) (DV.v (.int .i64 (e:Int)))=(dInts (gU (eE L).length (e + 1))).flatten:=by
   rw [show 0 + (e:Int).toNat * 1=e by omega,List.set_eq_take_append_cons_drop,ai (by rw [e1];omega),<- EP av];simp
  refine ⟨LD L (e + 1),(wkB 4 (by repeat' (first | exact rfl | exact aA rfl | exact pI cV | exact aC (nxt av (by omega)) | refine ⟨_,_,rfl,?_,?_⟩)) (by repeat' (first | exact trivial | exact aA rfl | exact pI cV | exact aC (nxt av (by omega)) | refine ⟨⟨_,rfl,?_⟩,?_⟩))),L.length - (e + 1),by omega,e + 1,rfl,by omega,rfl⟩
 ·have hge:e=(eE L).length:=by grind
  subst hge;rw [Po]
  have hms:∀ dk:List Nat,dk.length=(List.range (eE L).length).length->∀ bx:List (List DV),bx[2]? = some (dInts dk).flatten->∀ N0 n0 m0:Nat,N0<=2->Cc bx N0 n0 m0 (.sl 1 (dInts dk) none) (.ms 2 1 0 (eE L).length (eE L).length):=by
   intro dk hdk bx hb N0 n0 m0 hN0;simp only [Cc];refine Or.inr (Or.inr (Or.inl ⟨2,0,(eE L).length,_,?_,hN0,hb,?_,?_,?_⟩))
   ·rw [bu,hdk,List.length_range]
   ·rw [List.drop_zero,List.take_of_length_le];rw [nq,List.length_map,bu];omega
   ·grind [dInts]
   ·grind [nq]
  refine IF (ds:=List.range (eE L).length) rfl (by simp) (eE L).length (fun p hp=>List.mem_range.1 hp) (B6 L) (Pl L) rfl (by simp [hN];omega)
   (fun dk=>[.pt [.sl 1 (dInts dk) none] 0,.pt [.pt [.sl 1 (eE L) none,.v (.slice none 0 0)] 0] 0])
   (fun dk hdk=>⟨_,_,rfl,Or.inr ⟨3,_,rfl,Nat.zero_le _,rfl,⟨_,_,rfl,hms dk hdk _ rfl 0 0 0 (Nat.zero_le _),rfl⟩⟩,ax⟩)
   (fun dk hdk hp i j p q hi hj=>IE L dk i j p q hi hj (by have:=hp p (mG hi);omega) (by have:=hp q (mG hj);omega)) rfl (fun ds nW LB=>?_)
  have cw:ds.length=(eE L).length:=by rw [nW.length_eq,List.length_range]
  have Yf:=hms ds (by rw [cw,List.length_range])
  refine K6 2 (TH L ds) rfl rfl rfl ⟨_,_,rfl,⟨_,_,rfl,⟨nL rfl,rfl⟩,_,_,rfl,rfl,rfl⟩,_,_,rfl,⟨_,_,rfl,⟨nL rfl,rfl⟩,rfl⟩,rfl⟩
   ⟨⟨_,rfl,⟨nL rfl,rfl⟩⟩,⟨_,rfl,Or.inr ⟨3,_,rfl,by decide,rfl,⟨_,_,rfl,Yf _ rfl 2 0 0 (by decide),rfl⟩⟩⟩,⟨_,rfl,Yf _ rfl 2 2 1 (by decide)⟩,⟨_,rfl,rfl⟩,⟨_,rfl,rfl⟩,trivial⟩ ?_
  refine aP (fun j st=>∃ e m:Nat,st=B8 L ds (eW L ds e) m e/\m=(eW L ds e).length/\e<=(eE L).length/\j=(eE L).length - e) (eE L).length (B8 L ds [] 0 0)
   (dJ 2 ⟨0,3,1,none⟩ rfl rfl rfl kZ rfl rfl wB) ⟨0,0,rfl,rfl,by omega,by omega⟩ ?_
  rintro j st ⟨e,m,rfl,hm,he,rfl⟩;have kX:=IH L ds e;refine br ?_ ?_<;>intro h
  ·have av:e < (eE L).length:=sU h;obtain ⟨p,hp⟩:∃ p,ds[e]? = some p:=⟨_,gE (by omega)⟩
   have hpL:p < L.length:=by
    have:=nW.mem_iff.1 (mG hp);rw [List.mem_range] at this;omega
   obtain ⟨s,hs⟩:∃ s,L[p]? = some s:=⟨_,gE hpL⟩;refine iX (dQ hp) ?_;have hgp:ds.getD e 0=p:=by simp [eM,hp]
   have Ii:L.getD p aq=s:=by simp [eM,hs]
   have ef:gy L ds e=true->eW L ds (e + 1)=eW L ds e ++ [p]:=fun hh=>by rw [uV,ai hh,hgp]
   have hold:gy L ds e=false->eW L ds (e + 1)=eW L ds e:=fun hh=>by rw [uV,ah (by rw [hh];decide),List.append_nil]
   have He:gy L ds e=true->dInts (eW L ds e) ++ [[DV.v (.int .i64 (p:Int))]]=dInts (eW L ds (e + 1)):=fun hh=>by rw [ef hh];simp [dInts]
   by_cases h0:e=0
   ·subst h0;have hh:gy L ds 0=true:=by simp [gy]
    refine dI ?_;refine dS ?_;refine ⟨by rw [bu,hm],⟨by simp [bu,maxLen];omega,by simp [bu];omega⟩,?_⟩;refine ⟨B8 L ds (eW L ds 1) (m + 1) 1,(wkB 2 (by repeat' (first | exact rfl | exact aA rfl | exact aC (nxt av (by omega)) | exact cf (He hh) rfl | refine ⟨_,_,rfl,?_,?_⟩)) (by repeat' (first | exact trivial | exact aA rfl | exact aC (nxt av (by omega)) | exact cf (He hh) rfl | refine ⟨⟨_,rfl,?_⟩,?_⟩))),(eE L).length - 1,by omega,1,m + 1,rfl,by rw [ef hh,List.length_append,hm];rfl,by omega,rfl⟩
   ·obtain ⟨p',xK⟩:∃ p',ds[e - 1]? = some p':=⟨_,gE (by omega)⟩
    have hpL':p' < L.length:=by
     have:=nW.mem_iff.1 (mG xK);rw [List.mem_range] at this;omega
    obtain ⟨s',hs'⟩:∃ s',L[p']? = some s':=⟨_,gE hpL'⟩;have hgp':ds.getD (e - 1) 0=p':=by simp [eM,xK]
    have hgs':L.getD p' aq=s':=by simp [eM,hs']
    have hhd:gy L ds e = !decide (s=s'):=by grind [gy]
    have hz:IntKind.i64.wrap ((e:Int) - 1)=((e - 1:Nat):Int):=by rw [wrap64 (by omega) (by omega)];omega
    refine dI ?_;refine br (fun _=>?_) (fun h=>?_)
    ·refine iX (fh hs) ?_;refine ⟨[.v (.int .i64 (p':Int))],⟨by rw [hz];omega,by rw [hz];exact dQ xK⟩,?_⟩;refine iX (fh hs') ?_;refine br ?_ ?_<;>intro h2
     ·have hh:gy L ds e=true:=by grind [aj]
      refine dS ?_;refine ⟨by rw [bu,hm],⟨by simp [bu,maxLen];omega,by simp [bu];omega⟩,?_⟩;refine ⟨B8 L ds (eW L ds (e + 1)) (m + 1) (e + 1),(wkB 2 (by repeat' (first | exact rfl | exact aA rfl | exact aC (nxt av (by omega)) | exact cf (He hh) rfl | refine ⟨_,_,rfl,?_,?_⟩)) (by repeat' (first | exact trivial | exact aA rfl | exact aC (nxt av (by omega)) | exact cf (He hh) rfl | refine ⟨⟨_,rfl,?_⟩,?_⟩))),(eE L).length - (e + 1),by omega,e + 1,m + 1,rfl,by rw [ef hh,List.length_append,hm];rfl,by omega,rfl⟩
     ·have hh:gy L ds e=false:=by grind [aj]
      have aK:dInts (eW L ds e)=dInts (eW L ds (e + 1)):=by rw [hold hh]
      refine ⟨B8 L ds (eW L ds (e + 1)) m (e + 1),(wkB 2 (wA2 (nxt av (by omega)) aK) (wB2 (nxt av (by omega)) aK)),(eE L).length - (e + 1),by omega,e + 1,m,rfl,by rw [hold hh,hm],by omega,rfl⟩
    ·grind
  ·have hge:e=L.length:=by grind
   subst hge;exact ⟨.pt (cL L (eW L ds L.length)) 0,Or.inr ⟨0,_,rfl,Nat.zero_le _,rfl,ax⟩,_,TI (by rw [<- hN];exact nW) LB,kX,rfl⟩
end Go.Proofs.YtphonmiflfhdbaaGreat
