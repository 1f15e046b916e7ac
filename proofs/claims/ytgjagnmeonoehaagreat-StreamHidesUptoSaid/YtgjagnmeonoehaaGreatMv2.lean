/- Part 2 of the proof: The evaluator 'go' is sound: the end of a call, the theorem; contracts; rules for branches, calls, loops; Rules for the evaluator: what is known made less, loops; A region that draws its order: where the operations with an effect are ordered among themselves, and what writes waits for all that reads, one run in the order of the text serves every order; The evaluator at regions that draw their order: one run in the order of the text; what is read is what was known at the region's beginning; A region that draws its order, in which two operations with an effect are not ordered: the run in either order of these two serves every order; Rules for the evaluator: a call that is handed the caller's own objects, to read them; Rules for the evaluator: objects that are written no more are frozen, ahead of a loop; Rules for the evaluator: a call that is handed one of the caller's objects, to write it; The table of this program's types, by which the evaluator goes; The program's functions are entered; The data of the document's types, plain, and as the evaluator has them; Names: the program's and the reference's functions say the same of a text; sort.Search; the program's table of texts: Find; The library's sort.Slice, laid at this program by the kit's tool (lay-plain; wip/tools/lay.sh); The order of the table; the closure handed to sort.Slice; sort.Slice of the table's places, at a call. No condition. -/
import Derived.Test.YtgjagnmeonoehaaGreatProg
import Derived.Shelf.GgSortFunc.Whole
import Derived.Shelf.GgSortFunc.Tiny
import Derived.Test.YtgjagnmeonoehaaGreatMv1
set_option linter.all false
namespace Go.Proofs.YtgjagnmeonoehaaGreat
namespace Dv
open Go Go.RowKit
structure MJ (E E':En) (bx:List (List DV)) (N:Nat):Prop where
 c:∀ a v,E.c a=some v->E'.c a=some v
 fz:∀ (i:Nat) cs,N<=i->bx[i]? = some cs->∃ b arr,E.β[i]? = some b/\RvC E cs arr/\∀ (j:Nat) u,arr[j]? = some u->E'.c ⟨b,j,none⟩=some u
theorem MJ.cl {E E':En} {bx:List (List DV)} {N:Nat} (h:MJ E E' bx N):MJ E E'.cl bx N:=⟨h.c,h.fz⟩
structure Jm (E E':En) (n0 m0:Nat):Prop where
 β:∀ (i:Nat) b,i < n0->E.β[i]? = some b->E'.β[i]? = some b
 tk:∀ k,k < m0->E'.tk[k]? = E.tk[k]? /\ E'.τ[k]? = E.τ[k]?
theorem Jm.zero (E E':En):Jm E E' 0 0:=⟨fun _ _ h=>absurd h (Nat.not_lt_zero _),fun _ h=>absurd h (Nat.not_lt_zero _)⟩
theorem Ext.Jn (E:En):Ext E.cl E:=⟨fun _ _ h=>h,fun j b hj=>by simp [En.cl] at hj,fun k q hk=>by simp [En.cl] at hk⟩
theorem Dq {E E':En} (hm:∀ e b o es,RvEs E.cl e b o es->RvEs E'.cl e b o es):∀ {l:List DV} {arr:List Value},(∀ x∈l,(∃ y,x = .v y)∨∃ e' CU,x = .sl e' CU none)->RvL E l arr->RvL E' l arr
 | [],arr,_,h=>by simp only [RvL] at h ⊢;exact h
 | d :: r,arr,hs,h=>by
  simp only [RvL] at h ⊢;obtain ⟨v,s,rfl,h1,h2⟩:=h;refine ⟨v,s,rfl,?_,Dq hm (fun x hx=>hs x (gC _ hx)) h2⟩;rcases hs d (by simp) with ⟨y,rfl⟩ | ⟨e',CU,rfl⟩
  ·unfold Rv at h1 ⊢;exact h1
  ·unfold Rv at h1 ⊢;obtain ⟨b,n,cap,h3,h4,h5,_⟩:=h1;exact ⟨b,n,cap,h3,h4,fun hn=>⟨(h5 hn).1,hm _ _ _ _ (h5 hn).2⟩,fun k hk=>by cases hk⟩
theorem CcL.length {bx:List (List DV)} {N n0 m0:Nat}:∀ {l' l:List DV},CcL bx N n0 m0 l' l->l'.length=l.length
 | [],l,h=>by simp only [CcL] at h;subst h;rfl
 | d' :: r',l,h=>by
  simp only [CcL] at h;obtain ⟨d,r,rfl,_,h2⟩:=h;simp [CcL.length h2]
theorem CcE.length {bx:List (List DV)} {N:Nat}:∀ {l' l:List (List DV)},CcE bx N l' l->l'.length=l.length
 | [],l,h=>by simp only [CcE] at h;subst h;rfl
 | d' :: r',l,h=>by
  simp only [CcE] at h;obtain ⟨d,r,rfl,_,h2⟩:=h;simp [CcE.length h2]
mutual
theorem Cc.sound {bx:List (List DV)} {N:Nat} {E:En}:∀ {d':DV} {E':En} {n0 m0:Nat} {d:DV} {v:Value},MJ E E' bx N->Jm E E' n0 m0->Cc bx N n0 m0 d' d->Rv E d v->Rv E' d' v
 | .v y,E',n0,m0,d,v,hf,hl,h,hv=>by grind [Cc,Rv]
 | .ud,E',n0,m0,d,v,hf,hl,h,hv=>by grind [Cc,Rv]
 | .agg l',E',n0,m0,d,v,hf,hl,h,hv=>by
  simp only [Cc] at h;obtain ⟨l,rfl,h⟩:=h;unfold Rv at hv ⊢;obtain ⟨vs,h1,h2,h3⟩:=hv;exact ⟨vs,h1,CcL.sound hf hl h h2,h3⟩
 | .tup l',E',n0,m0,d,v,hf,hl,h,hv=>by
  simp only [Cc] at h;obtain ⟨l,rfl,h⟩:=h;unfold Rv at hv ⊢;obtain ⟨vs,h1,h2⟩:=hv;exact ⟨vs,h1,CcL.sound hf hl h h2⟩
 | .sl e es tk,E',n0,m0,d,v,hf,hl,h,hv=>by
  have hm:∀ b o,RvEs E.cl e b o es->RvEs E'.cl e b o es:=fun b o hr=>RvEs.mono (Ext.Jf hf.c) hr
  cases tk with
  | none=>
   simp only [Cc] at h;rcases h with ⟨rfl,rfl⟩ | ⟨bX,rfl⟩ | ⟨i,off,c,cs,rfl,hi,hcs,Ng,oJ,Nc⟩ | ⟨es0,bX,rfl,h⟩
   ·have:=bq hv;subst this;unfold Rv;exact ⟨none,0,0,rfl,⟨rfl,aQ _⟩,fun hn=>(hn rfl).elim,fun k hk=>by cases hk⟩
   ·unfold Rv at hv ⊢;obtain ⟨b,n,cap,h1,h2,h3,_⟩:=hv;exact ⟨b,n,cap,h1,h2,fun hn=>⟨(h3 hn).1,hm _ _ (h3 hn).2⟩,fun k hk=>by cases hk⟩
   ·obtain ⟨b,arr,hb,hc,hmm⟩:=hf.fz i cs hi hcs;unfold Rv at hv ⊢;obtain ⟨b',ad,eo,XY,rfl,hca⟩:=hv;rw [hb] at eo;simp only [oI] at eo;subst eo;refine ⟨ad,es.length,c,rfl,⟨rfl,XY⟩,fun hn=>?_,fun k hk=>by cases hk⟩;have jX:0 < es.length:=List.length_pos_iff.2 hn;have YG:=hca (by omega);subst YG;refine ⟨rfl,?_⟩;have h1:=(hc.drop off).take (es.length * e);rw [<- Ng] at h1;refine rvEs_flat ⟨Dq (E':=E'.cl) (fun e b o es hr=>(RvEs.mono (Ext.Jf hf.c) hr:RvEs E'.cl e b o es)) Nc h1.1,h1.2⟩ oJ fun j u hj=>?_;rw [cx] at hj;split at hj
    ·rw [List.getElem?_drop] at hj;exact hmm (off + j) u hj
    ·cases hj
   ·have hlen:=CcE.length h;have hs:=fun b o=>CcE.sound (e:=e) (b:=b) (o:=o) hf h;unfold Rv at hv ⊢;obtain ⟨b,n,cap,h1,h2,h3,_⟩:=hv;refine ⟨b,n,cap,h1,by omega,fun hn=>?_,fun k hk=>by cases hk⟩
    grind
  | some k=>
   simp only [Cc] at h;obtain ⟨hk,rfl⟩:=h;unfold Rv at hv ⊢;obtain ⟨b,n,cap,h1,h2,h3,h4⟩:=hv;refine ⟨b,n,cap,h1,h2,fun hn=>⟨(h3 hn).1,hm _ _ (h3 hn).2⟩,fun k' gD=>?_⟩;cases gD;obtain ⟨e1,e2⟩:=hl.tk k hk;obtain ⟨q,h5,h6,h7⟩:=h4 k rfl
   grind
 | .pt cs' o,E',n0,m0,d,v,hf,hl,h,hv=>by
  simp only [Cc] at h;rcases h with rfl | ⟨i,cs,rfl,hi,hcs,h⟩
  ·unfold Rv at hv ⊢;obtain ⟨b,p,h1,h2⟩:=hv;exact ⟨b,p,h1,RvAt.mono (Ext.Jf hf.c) h2⟩
  ·obtain ⟨b,arr,hb,hc,hm⟩:=hf.fz i cs hi hcs;unfold Rv at hv ⊢;obtain ⟨b',eo,rfl⟩:=hv;rw [hb] at eo;simp only [oI] at eo;subst eo;refine ⟨b,0,by simp,?_⟩;have:=CcL.sound hf.cl (Jm.zero E E'.cl) h hc.1;exact AY ⟨this,hc.2⟩ fun j u hj=>by rw [Nat.zero_add];exact hm j u hj
 | .loc i o,E',n0,m0,d,v,hf,hl,h,hv=>by
  simp only [Cc] at h;obtain ⟨hi,rfl⟩:=h;unfold Rv at hv ⊢;obtain ⟨b,hb,h1⟩:=hv;exact ⟨b,hl.β i b hi hb,h1⟩
 | .el i o,E',n0,m0,d,v,hf,hl,h,hv=>by
  simp only [Cc] at h;obtain ⟨hi,rfl⟩:=h;unfold Rv at hv ⊢;obtain ⟨b,hb,h1⟩:=hv;exact ⟨b,hl.β i b hi hb,h1⟩
 | .ms i e o l c,E',n0,m0,d,v,hf,hl,h,hv=>by
  simp only [Cc] at h;obtain ⟨hi,rfl⟩:=h;unfold Rv at hv ⊢;obtain ⟨b,ad,hb,h1⟩:=hv;exact ⟨b,ad,hl.β i b hi hb,h1⟩
 | .fn f a' b',E',n0,m0,d,v,hf,hl,h,hv=>by
  simp only [Cc] at h;obtain ⟨a,b,rfl,ha,hb⟩:=h;unfold Rv at hv ⊢;obtain ⟨l,r,h1,h2,h3⟩:=hv;exact ⟨l,r,h1,CcL.sound hf hl ha h2,CcL.sound hf hl hb h3⟩
 | .pV t x',E',n0,m0,d,v,hf,hl,h,hv=>by
  simp only [Cc] at h;obtain ⟨x,rfl,hx⟩:=h;unfold Rv at hv ⊢;obtain ⟨z,h1,h2⟩:=hv;exact ⟨z,h1,Cc.sound hf hl hx h2⟩
theorem CcL.sound {bx:List (List DV)} {N:Nat} {E:En}:∀ {l':List DV} {E':En} {n0 m0:Nat} {l:List DV} {vs:List Value},MJ E E' bx N->Jm E E' n0 m0->CcL bx N n0 m0 l' l->RvL E l vs->RvL E' l' vs
 | [],E',n0,m0,l,vs,hf,hl,h,hv=>by grind [CcL,RvL]
 | d' :: r',E',n0,m0,l,vs,hf,hl,h,hv=>by
  simp only [CcL] at h;obtain ⟨d,r,rfl,h1,h2⟩:=h;simp only [RvL] at hv ⊢;obtain ⟨v,s,h3,h4,h5⟩:=hv;exact ⟨v,s,h3,Cc.sound hf hl h1 h4,CcL.sound hf hl h2 h5⟩
theorem CcA.sound {bx:List (List DV)} {N:Nat} {E:En}:∀ {l':List DV} {E':En} {l:List DV} {b p:Nat},MJ E E' bx N->CcL bx N 0 0 l' l->RvAt E.cl b p l->RvAt E'.cl b p l'
 | [],E',l,b,p,hf,h,hv=>by simp only [RvAt]
 | d' :: r',E',l,b,p,hf,h,hv=>by
  simp only [CcL] at h;obtain ⟨d,r,rfl,h1,h2⟩:=h;simp only [RvAt] at hv ⊢;obtain ⟨⟨v,h3,h4,h5⟩,h6⟩:=hv;exact ⟨⟨v,hf.c _ _ h3,h4,Cc.sound hf.cl (Jm.zero E E'.cl) h1 (Rv.mono (Ext.Jn E) h5)⟩,CcA.sound hf h2 h6⟩
theorem CcE.sound {bx:List (List DV)} {N:Nat} {E:En}:∀ {l':List (List DV)} {E':En} {l:List (List DV)} {e b o:Nat},MJ E E' bx N->CcE bx N l' l->RvEs E.cl e b o l->RvEs E'.cl e b o l'
 | [],E',l,e,b,o,hf,h,hv=>by simp only [RvEs]
 | a' :: r',E',l,e,b,o,hf,h,hv=>by
  simp only [CcE] at h;obtain ⟨a,r,rfl,h1,h2⟩:=h;simp only [RvEs] at hv ⊢;obtain ⟨h3,h4,h5⟩:=hv;refine ⟨?_,?_,CcE.sound hf h2 h5⟩
  ·grind [CcL.length]
  ·rcases h1 with rfl | h1
   ·exact RvAt.mono (Ext.Jf hf.c) h4
   ·exact CcA.sound hf h1 h4
end
theorem TQ {E:En} {e:Nat} {es CU:List (List DV)} {tk:Option Nat} {v:Value} (h:CcE [] 0 CU es) (hv:Rv E (.sl e es tk) v):Rv E (.sl e CU tk) v:=by
 have hlen:=CcE.length h;have hs:=fun b o=>CcE.sound (E:=E) (E':=E) (bx:=[]) (N:=0) (e:=e) (b:=b) (o:=o) ⟨fun _ _ h=>h,fun i cs _ hi=>by simp at hi⟩ h
 grind [Rv]
theorem lM.get {bx:List (List DV)} {N n0 m0:Nat}:∀ {l' l:List (List DV)},lM bx N n0 m0 l' l->l'.length=l.length/\∀ (i:Nat) cs',l'[i]? = some cs' -> ∃ cs,l[i]? = some cs/\CcL bx N n0 m0 cs' cs
 | [],l,h=>by simp only [lM] at h;subst h;exact ⟨rfl,by simp⟩
 | a' :: r',l,h=>by
  simp only [lM] at h;obtain ⟨a,r,rfl,h1,h2⟩:=h;obtain ⟨h3,h4⟩:=lM.get h2
  grind
open Classical in
noncomputable def rN (E:En) (n:Nat) (w:World):Addr->Option Value:=
 fun a=>if ∃ i:Nat,n<=i/\E.β[i]? = some a.block then w.cell? a else E.c a
section
variable {X:Ctx} {E:En} {st:St} {a:Act} {w:World}
theorem eC {n:Nat} {x:Addr} {v:Value} (h:rN E n w x=some v):((∃ i:Nat,n<=i/\E.β[i]? = some x.block)/\w.cell? x=some v)∨E.c x=some v:=by
 unfold rN at h;split at h
 all_goals grind
theorem lU {bx:List (List DV)} (h:Env E bx w) {n:Nat} {x:Addr} {v:Value} (hx:E.c x=some v):rN E n w x=some v:=by
 unfold rN;split
 ·exact h.sub x v hx
 ·exact hx
theorem Bb (h:Rel X E st a w) {d d':DV} {os:List (List DV)} {v:Value} (hv:Rv E d v) (M:Nat) (hM:(X.fr=false/\M=X.m0)∨(X.fr=true/\M=st.tk.length)) (hd:Cc st.bx X.n0 X.n0 M d' d) (A7:lM st.bx X.n0 X.n0 M os (st.bx.take X.n0)) (hΦ:X.Φ d' os (st.tk.take M)):C7 X.still X.E0 X.w0 X.Φ v w X.fr:=by
 obtain ⟨r,VT,hβl⟩:=h.nw.β;have gM:E.β.take X.n0=X.E0.β:=by rw [VT,<- X.oH];simp
 have jC:∀ (i:Nat) b,i < X.n0->E.β[i]? = some b->X.E0.β[i]? = some b:=fun i b hi hb=>by grind
 have eB:∀ (i:Nat) b,X.n0<=i->E.β[i]? = some b->b∈r:=fun i b hi hb=>by grind
 have VU:∀ b,b∈X.E0.β->b∈r->False:=fun b h1 h2=>by
  have:=h.env.inj
  grind
 have hE0l:X.E0.τ.length=X.m0:=by rw [h.nw.l0,X.lN]
 have hEt:X.m0<=E.tk.length:=by
  rcases Nat.lt_or_ge E.tk.length X.m0 with h1 | h1
  ·have hk:E.tk.length < X.E0.tk.length:=by rw [X.lN];exact h1
   have gD:E.tk.length < X.E0.τ.length:=by rw [h.nw.l0];exact hk
   obtain ⟨q',y',h2,_⟩:=h.nw.tk E.tk.length _ _ (gE hk) (gE gD)
   grind
  ·exact h1
 have hMm:X.m0<=M/\M<=E.tk.length:=by
  rcases hM with ⟨_,rfl⟩ | ⟨_,rfl⟩
  ·exact ⟨aQ _,hEt⟩
  ·rw [<- h.tk];exact ⟨hEt,aQ _⟩
 have X1:tkL X.fr (E.tk.take M).length X.E0.tk.length:=by
  rw [zLenT];rcases hM with ⟨hf,rfl⟩ | ⟨hf,rfl⟩
  ·rw [hf];show min _ _=_;rw [X.lN];omega
  ·rw [hf];show _<=min _ _;rw [X.lN];omega
 let E':En:=⟨rN E X.n0 w,X.E0.β,E.tk.take M,E.τ.take M⟩
 have RG:MJ E E' st.bx X.n0:={
  c:=fun x u hx=>lU h.env hx
  fz:=fun i cs hi hcs=>by
   obtain ⟨b,ty,arr,hb,hw,hc⟩:=h.env.bxs i cs hcs;refine ⟨b,arr,hb,hc,fun j u hj=>?_⟩;show rN E X.n0 w ⟨b,j,none⟩=some u;unfold rN;rw [ap ⟨i,hi,hb⟩,cm hw]
   simpa using hj }
 have Bc:Jm E E' X.n0 M:={
  β:=jC
  tk:=fun k hk=>⟨by show (E.tk.take M)[k]? = _;rw [cx,ap hk],by show (E.τ.take M)[k]? = _;rw [cx,ap hk]⟩ }
 obtain ⟨kZ,YN⟩:=A7.get;refine ⟨h.fr,h.sh,d',os,E',?_,rfl,X1,?_,hd.sound RG Bc hv,by show X.Φ d' os (E.tk.take M);rw [h.tk];exact hΦ⟩
 ·exact {
   len:=by
    show X.E0.β.length=os.length;rw [kZ,X.oH,zLenT]
    have:X.n0<=st.bx.length:=by
     rw [<- h.env.len,VT,List.length_append,X.oH];omega
    omega
   tl:=by simp only [E',zLenT];rw [h.env.tl]
   bxs:=fun i cs' hi=>by
    obtain ⟨cs,hcs,vi⟩:=YN i cs' hi;rw [cx] at hcs;split at hcs
    ·rename_i au;obtain ⟨b,ty,arr,hb,hw,hc⟩:=h.env.bxs i cs hcs;exact ⟨b,ty,arr,jC i b au hb,hw,CcL.sound RG Bc vi hc.1,hc.2⟩
    ·cases hcs
   inj:=by rw [<- gM];exact h.env.inj.sublist (List.take_sublist _ _)
   sub:=fun x u hx=>by
    rcases eC hx with ⟨_,h1⟩ | h1
    ·exact h1
    ·exact h.env.sub x u h1
   pc:=fun x u hx hm=>by
    rcases eC hx with ⟨⟨i,hi,hb⟩,_⟩ | h1
    ·exact VU _ hm (eB i _ hi hb)
    ·refine h.env.pc x u h1 ?_;rw [VT];exact List.mem_append.2 (.inl hm)
   bY:=fun k q y hq hy=>by
    simp only [E',cx] at hq hy;split at hq
    ·rename_i hk;rw [ap hk] at hy;rcases h.env.bY k q y hq hy with h1 | ⟨g,cap,cur,rfl,h1,h2,h3,h4,h5,h6⟩
     ·exact .inl h1
     ·refine .inr ⟨g,cap,cur,rfl,h1,⟨h2.1,h2.2.mono fun _ _ hx=>lU h.env hx⟩,h3,h4,fun hm=>h5 (by rw [VT];exact List.mem_append.2 (.inl hm)),fun x u hx hg=>?_⟩;rcases eC hx with ⟨⟨i,hi,hb⟩,_⟩ | h7
      all_goals grind
    ·cases hq
   ji:=fun k k' y y' g pN hy fG=>by
    simp only [E',cx] at hy fG;split at hy
    ·split at fG
     ·exact h.env.ji k k' y y' g pN hy fG
     ·cases fG
    ·cases hy }
 ·exact {
   c:=fun x u hx=>lU h.env (h.nw.c x u hx)
   cn:=fun x u hx=>by
    rcases eC hx with ⟨⟨i,hi,hb⟩,_⟩ | h1
    ·exact .inr (.inl (hβl _ (eB i _ hi hb)))
    ·exact h.nw.cn x u h1
   β:=⟨[],by simp [E'],by simp⟩
   tk:=fun k q y hq hy=>by
    obtain ⟨q',y',h1,h2,h3⟩:=h.nw.tk k q y hq hy
    grind
   tn:=fun k y g hk hy hg=>by
    simp only [E',cx] at hy;split at hy
    ·exact h.nw.tn k y g hk hy hg
    ·cases hy
   l0:=h.nw.l0 }
def resOf (tmps:Array Value):ResultVar->Sem Value
 | .tmp t=>pure (tmps.getD t undef)
 | .cell x t=>do loadVar t (<- asAddr (tmps.getD x undef))
theorem GJ (fn:Func) (tmps:Array Value):results fn tmps=(do let vs <- fn.results.mapM (resOf tmps);pure (if h:vs.size=1 then vs[0] else .tuple vs)):=by
 unfold results;congr 2
theorem GK (h:Rel X E st a w) {r:ResultVar} {d:DV} (hr:res1 X.T st r=some d):∃ v,Rv E d v/\(resOf a.tmps r).run X.P w = .ok v w:=by
 cases r with
 | tmp t=>
  simp only [res1] at hr;split at hr
  ·rename_i x hg;simp only [oI] at hr;subst hr;obtain ⟨v,h1,h2⟩:=(h.tm t _ hg).1 (bg _);exact ⟨v,h2,by simp [resOf,Array.getD_eq_getD_getElem?,h1]⟩
  ·cases hr
 | cell x t=>
  simp only [res1] at hr;split at hr
  ·rename_i i off hg;split at hr
   ·rename_i cs hcs;obtain ⟨v,h1,h2⟩:=(h.tm x _ hg).1 (bg _);unfold Rv at h2;obtain ⟨b,hb,rfl⟩:=h2;obtain ⟨b',GF,arr,eo,hw,hc⟩:=h.env.bxs i cs hcs;rw [hb] at eo;simp only [oI] at eo;subst eo;obtain ⟨v,hv,hl⟩:=jT X.hT hc (b:=b) (p:=0) hr;have hl:=hl w fun j u hj=>by rw [cm hw];simpa using hj
    rw [Nat.zero_add] at hl;exact ⟨v,hv,by simp only [resOf,Array.getD_eq_getD_getElem?,h1,Option.getD_some,asAddr,Sem.run_bind,Sem.run_pure,Result.andThen_ok,hl]⟩
   ·cases hr
  ·cases hr
theorem lV (h:Rel X E st a w):∀ {rs:List ResultVar} {ds:List DV},resD X.T st rs=some ds->∃ vs,RvL E ds vs/\(rs.mapM (resOf a.tmps)).run X.P w = .ok vs w
 | [],ds,hr=>by
  simp only [resD,oI] at hr;subst hr;exact ⟨[],cA E,rfl⟩
 | r :: rs,ds,hr=>by
  simp only [resD] at hr;split at hr
  ·rename_i d l hd hl;simp only [oI] at hr;subst hr;obtain ⟨v,hv,h1⟩:=GK h hd;obtain ⟨vs,yw,h2⟩:=lV h hl;refine ⟨v :: vs,rvL_cons hv yw,?_⟩
   simp_all
  ·cases hr
theorem oZ (h:Rel X E st a w) {d:DV} {v:Value} (hv:Rv E d v) (hf:finD X st d):C7 X.still X.E0 X.w0 X.Φ v w X.fr:=by
 unfold finD at hf;split at hf
 ·grind [Bb]
 ·rename_i X2;split at hf
  ·rename_i hn hm
   have key:∀ d',Cc st.bx 0 0 0 d' d->X.Φ d' [] []->C7 X.still X.E0 X.w0 X.Φ v w X.fr:=fun d' hd hΦ=>
    Bb h hv (d':=d') (os:=[]) X.m0 (.inl ⟨X2,rfl⟩) (by rw [hn,hm];exact hd) (by rw [hn];simp [lM]) (by rw [hm];exact hΦ)
   grind [Cc]
  ·grind [Bb]
theorem ze (h:Rel X E st a w) (hf:fin X st):kq X [] .ret a w:=by
 have CX:X.fn.results=X.rs.toArray:=by rw [<- X.yt]
 simp only [kq];refine ⟨h.df,?_⟩
 have hbt:oD X.bt X.E0.β w:=fun p hp b hb=>by
  obtain ⟨r,hr,_⟩:=h.nw.β;exact h.bt p hp b (by rw [hr,dC (gS hb).1];exact hb)
 unfold fin at hf
 have Nh:∀ (ds:List DV) (vs:List Value),(X.rs.mapM (resOf a.tmps)).run X.P w = .ok vs w->(results X.fn a.tmps).run X.P w = .ok (if h:vs.toArray.size=1 then vs.toArray[0] else .tuple vs.toArray) w:=by
  intro ds vs hv;rw [GJ,CX]
  simp_all
 split at hf
 ·rename_i hr;obtain ⟨vs,yw,h1⟩:=lV h hr;simp only [RvL] at yw;subst yw;exact ⟨_,Nh [] [] h1,oZ h (v:=.tuple #[]) (by unfold Rv;exact ⟨[],rfl,cA E⟩) hf,hbt⟩
 ·rename_i d hr;obtain ⟨vs,yw,h1⟩:=lV h hr;have hl:=yw.length;simp only [RvL] at yw;obtain ⟨v,s,rfl,hv,rfl⟩:=yw;exact ⟨_,Nh [d] [v] h1,oZ h (v:=v) hv hf,hbt⟩
 ·rename_i d e l hr;obtain ⟨vs,yw,h1⟩:=lV h hr;have hl:=yw.length;have bf:¬ vs.toArray.size=1:=by simp at hl ⊢;omega
  have h2:=Nh [] vs h1;rw [dif_neg bf] at h2;exact ⟨_,h2,oZ h (v:=.tuple vs.toArray) (by unfold Rv;exact ⟨vs,rfl,yw⟩) hf,hbt⟩
 ·exact hf.elim
theorem vq:∀ (k:List It) (a:Act) (w:World),kq X [] .ret a w->kq X k .ret a w
 | [],_,_,h=>h
 | .code _ :: k,a,w,h=>vq k a w h
 | .ops _ _ :: k,a,w,h=>vq k a w h
 | .Gx _ :: k,a,w,h=>vq k a w h
 | .Jc _ :: k,a,w,h=>vq k a w h
theorem qf {id:Nat}:∀ (k k':List It) (a:Act) (w:World),dropBlk id k=some k' -> kq X k' .normal a w->kq X k (.exit id) a w
 | [],k',a,w,hd,_=>by simp [dropBlk] at hd
 | .code _ :: k,k',a,w,hd,h=>by simp only [dropBlk] at hd;exact qf k k' a w hd h
 | .ops _ _ :: k,k',a,w,hd,h=>by simp only [dropBlk] at hd;exact qf k k' a w hd h
 | .Jc _ :: k,k',a,w,hd,h=>by simp only [dropBlk] at hd;exact qf k k' a w hd h
 | .Gx i :: k,k',a,w,hd,h=>by
  simp only [dropBlk] at hd;split at hd
  ·simp_all [kq]
  ·rename_i hi
   have hi:id≠i:=by
    rintro rfl;rw [Nat.beq_refl] at hi;cases hi
   simp only [kq];rw [aj hi];exact qf k k' a w hd h
theorem KV {P:Program} {o:Oper} {a:Act} {K K':Act->World->Prop} {Q Q':Exit->Act->World->Prop} (hK:∀ a w,K a w->K' a w) (hQ:∀ e a w,Q e a w->Q' e a w)
  {r:Result Next} (h:o.upon P a K Q r):o.upon P a K' Q' r:=by
 unfold Oper.upon at *;split<;>simp_all
 ·refine h.mono ?_;intro e w' hq
  cases e with
  | returned v=>exact hK _ _ hq
  | panicked c=>exact hQ _ _ _ hq
  | outgrown=>obtain ⟨a,w,hq⟩:=hq;exact ⟨a,w,hQ _ _ _ hq⟩
 ·exact h.mono fun v w' hq=>hK _ _ hq
theorem Ds {P:Program} {o:Oper} {a:Act} {K K':Act->World->Prop} {Q Q':Exit->Act->World->Prop} {w:World} (hK:∀ a w,K a w->K' a w) (hQ:∀ e a w,Q e a w->Q' e a w)
  (h:o.wp P a w K Q):o.wp P a w K' Q':=KV hK hQ h
theorem fj (c:Code) (k:List It) (a:Act) (w:World):kq X (.code c :: k) .normal a w=c.wp X.P (kq X k) a w:=rfl
theorem RH (c:Code) (k:List It):kq X (.code c :: k)=Exit.then (c.wp X.P (kq X k)) (kq X k):=by
 funext e a w;cases e<;>rfl
theorem VV (id:Nat) (k:List It) (e:Exit) (a:Act) (w:World) (h:kq X (.Gx id :: k) e a w):Exit.inBlock id (kq X k) e a w:=by
 cases e<;>exact h
theorem wanted_spec (h:Rel X E st a w) {all:Array Oper} {o:Oper} {j d:Nat} {want:Bool} {lF:List (Nat × Bool)} {sd:DV} (RI:o.guard=some (j,want)) (KR:gslot all.toList j=some d) (MK:get st.sl d=some ⟨lF,sd⟩) :
  Region.wanted o (yielded all a.tmps)=true↔Holds a.tmps ((d,want) :: lF):=by
 have VW:yielded all a.tmps j=match a.tmps[d]? with | some (.bool b)=>some b | _=>none:=by
  unfold gslot at KR;split at KR
  ·rename_i oj hoj;have hoj':all[j]? = some oj:=sU hoj;simp only [yielded,hoj',KR,Option.bind_some]
   grind
  ·cases KR
 have htd:=h.tm d _ MK;simp only [Region.wanted,RI,VW];constructor
 ·intro hw;have hb:a.tmps[d]? = some (.bool want):=by grind
  refine jU hb ?_;by_cases hh:Holds a.tmps lF
  ·exact hh
  ·have:=htd.2 hh;rw [hb] at this;simp [undef] at this
 ·intro hh;have:=hh (d,want) (by simp);simp only at this;rw [this];simp
theorem Dt (h:Rel X E st a w) {t:Nat} {b:Bool} (hg:get st.sl t=some ⟨[],.v (.bool b)⟩):a.tmps[t]? = some (.bool b):=by
 obtain ⟨v,h1,h2⟩:=(h.tm t _ hg).1 (bg _);rw [h1,jV h2]
theorem Ni (h:Rel X E st a w) {t:Nat} (hg:get st.sl t=some ⟨[],.ud⟩):a.tmps[t]? = some undef:=by
 obtain ⟨v,h1,h2⟩:=(h.tm t _ hg).1 (bg _);unfold Rv at h2;rw [h1,h2]
theorem vt {G:List (Nat × Bool)} {dst:Option Nat} (bI:okG G dst=true):∀ e,dst=some e->∀ p∈G,p.1≠e:=by
 intro e he p hp dG;rw [he] at bI;have:=(List.all_eq_true.1 bI) p hp;rw [dG] at this;simp at this
theorem go_sound:∀ n,Snd X (go X n)
 | 0=>fun k st hg=>hg.elim
 | n + 1=>by
  have ih:=go_sound n;intro k st hg E a w h
  match k with
  | []=>exact ze h (by simpa [go] using hg)
  | .Gx id :: k=>exact ih k st (by simpa [go] using hg) E a w h
  | .Jc J :: k=>exact ⟨st,E,h,by simpa [go] using hg⟩
  | .ops all [] :: k=>exact ih k st (by simpa [go] using hg) E a w h
  | .ops all (o :: r) :: k=>
   simp only [go,nX,Je] at hg;split at hg
   ·exact hg.elim
   ·rename_i hd;split at hg
    ·rename_i RI;simp only [kq,wpList,Region.wanted,RI,if_true];split at hg
     ·rename_i s hs;obtain ⟨v,hv,cd⟩:=iC X.hT h.rl (bg _) hs;exact .inl (iW (cd w fun _=>rfl) (ih _ _ hg E _ w (aX h hd s v hv)))
     ·exact .inl (Ds (fun a w hk=>hk) (fun e a w hq=>hq.elim) (zd ih hd h hg))
    ·rename_i j want RI;split at hg
     ·exact hg.elim
     ·rename_i d KR;split at hg
      ·exact hg.elim
      ·rename_i lF sd MK;have vu:=wanted_spec h RI KR MK;simp only [kq,wpList];split at hg
       ·rename_i s hs;split at hg
        case h_2=>exact hg.elim
        rename_i bI;split
        ·rename_i hw;have hh:=vu.1 hw;obtain ⟨v,hv,cd⟩:=iC X.hT h.rl hh hs;exact .inl (iW (cd w fun _=>rfl) (ih _ _ hg E _ w (qc h hd _ s v (vt bI) (fun _=>hv) (fun hn=>(hn hh).elim))))
        ·rename_i hw;have hh:¬ Holds a.tmps ((d,want) :: lF):=fun hh=>hw (vu.2 hh);exact ih _ _ hg E _ w (qc h hd _ s undef (vt bI) (fun hn=>(hh hn).elim) (fun _=>rfl))
       ·split at hg
        ·rename_i b gM;have ht0:=Dt h gM
         cases lF with
         | nil=>
          simp only [lastG] at gM ht0;cases GL:(b == want)
          ·have GM:b = !want:=by cases b<;>cases want<;>simp_all
           have hg:=hg.f GL
           have hn:¬ Region.wanted o (yielded all a.tmps)=true:=by
            intro hw;have:=(vu.1 hw) (d,want) (by simp)
            grind
           rw [aj hn];have hr:=kk (d:=d) (b:=!want) h (by rw [ht0,GM]);exact ih _ _ hg E _ w (aX hr (km hd) .ud undef (sZ E))
          ·have X3:b=want:=sU GL;have hg:=hg.t GL;subst X3;have hw:Region.wanted o (yielded all a.tmps)=true:=vu.2 (jU ht0 (bg _));rw [ap hw];have hr:=kk (d:=d) (b:=b) h ht0;exact .inl (Ds (fun a w hk=>hk) (fun e a w hq=>hq.elim) (zd ih (km hd) hr hg))
         | cons g1 gr=>
          have key:∀ c,a.tmps[(lastG (d,want) (g1 :: gr)).1]? = some (.bool c)->go X n (.ops all (o :: r) :: k) (st.resolve (lastG (d,want) (g1 :: gr)).1 c)->wpList X.P all (kq X k) (o :: r) a w:=
           fun c hc nc=>ih _ _ nc E a w (kk h hc)
          cases GL:(b == (lastG (d,want) (g1 :: gr)).2)
          ·have hg:=hg.f GL;have GM:b = !(lastG (d,want) (g1 :: gr)).2:=by cases b<;>cases h0:(lastG (d,want) (g1 :: gr)).2<;>simp_all
           have:=key _ (by rw [ht0,GM]) hg;simpa [wpList] using this
          ·have hg:=hg.t GL;have X3:b=(lastG (d,want) (g1 :: gr)).2:=sU GL;have:=key _ (by rw [ht0,X3]) hg;simpa [wpList] using this
        ·rename_i gM
         cases lF with
         | nil=>
          have ht0:=Ni h gM;simp only [lastG] at ht0
          have hn:¬ Region.wanted o (yielded all a.tmps)=true:=by
           intro hw;have:=(vu.1 hw) (d,want) (by simp);simp only at this;rw [ht0] at this;simp [undef] at this
          rw [aj hn];exact ih _ _ hg E _ w (aX h hd .ud undef (sZ E))
         | cons g1 gr=>exact hg.elim
        ·exact hg.elim
  | .code c :: k=>
   rw [fj]
   cases c with
   | skip=>exact wp_skip (ih k st (by simpa [go] using hg) E a w h)
   | seq x y=>
    have:=ih (.code x :: .code y :: k) st (by simpa [go] using hg) E a w h;rw [fj,RH] at this;exact wp_seq this
   | block id b=>
    have:=ih (.code b :: .Gx id :: k) st (by simpa [go] using hg) E a w h;rw [fj] at this;exact wp_block (wp_mono this (VV id k))
   | exit id=>
    simp only [go] at hg;split at hg
    ·rename_i k' hk;exact wp_exit (qf k k' a w hk (ih k' st hg E a w h))
    ·exact hg.elim
   | cond x p q=>
    simp only [go] at hg;split at hg
    ·rename_i b hb;refine wp_cond (t:=b) (by rw [jV (aR h.rl hb)]) ?_;cases gM:b
     ·exact ih (.code q :: k) st (hg.f gM) E a w h
     ·exact ih (.code p :: k) st (hg.t gM) E a w h
    ·exact hg.elim
   | region id ops d=>
    simp only [go] at hg;cases d
    ·exact wp_region_list (ih (.ops ops ops.toList :: k) st hg E a w h)
    ·exact hg E a w h
   | loop b=>exact (by simpa [go] using hg:sY X b k st) E a w h
   | ret=>exact wp_ret (vq k a w (ze h (by simpa [go] using hg)))
   | _=>simp [go] at hg
theorem Du {fn:Func} (CX:X.fn=fn) (e:Exit) (a:Act) (w:World) (h:kq X [] e a w):bodyPost X.P fn (fun e w'=>∃ v,e = .returned v/\C7 X.still X.E0 X.w0 X.Φ v w' X.fr/\oD X.bt X.E0.β w') e a w:=by
 subst CX
 cases e with
 | normal=>obtain ⟨h1,v,h2,h3⟩:=h;exact ⟨h1,v,h2,v,rfl,h3⟩
 | ret=>obtain ⟨h1,v,h2,h3⟩:=h;exact ⟨h1,v,h2,v,rfl,h3⟩
 | exit _=>exact h.elim
 | goto _=>exact h.elim
 | panic _=>exact h.elim
 | outgrown=>exact h.elim
end
def VX (s:Bool) (P:Program) (f:FuncId) (args:List DV) (os:List (List DV)) (bY:List TkE) (Φ:DV->List (List DV)->List TkE->Prop) (fr:Bool:=false):Prop:=
 ∀ (E:En) (w:World) (vs:List Value),Env E os w->E.tk=bY->RvL E args vs->Calls P f vs.toArray w fun e w'=>∃ v,e = .returned v/\C7 s E w Φ v w' fr
def Ev (P:Program) (f:FuncId) (args:List DV) (os:List (List DV)) (bY:List TkE) (Φ:DV->List (List DV)->List TkE->Prop):Prop:=VX false P f args os bY Φ
def EvS (P:Program) (f:FuncId) (args:List DV) (os:List (List DV)) (bY:List TkE) (Φ:DV->List (List DV)->List TkE->Prop):Prop:=VX true P f args os bY Φ
def EvF (P:Program) (f:FuncId) (args:List DV) (os:List (List DV)) (bY:List TkE) (Φ:DV->List (List DV)->List TkE->Prop):Prop:=VX false P f args os bY Φ true
def EvP (P:Program) (f:FuncId) (args:List DV) (d:DV):Prop:=Ev P f args [] [] fun d' _ _=>d'=d
def argSl:Nat->List DV->List (Nat × Sl)
 | _,[]=>[]
 | i,v :: r=>(i,⟨[],v⟩) :: argSl (i + 1) r
theorem zf:∀ (l:List DV) (i j:Nat) (x:Sl),get (argSl i l) j=some x->∃ v,x=⟨[],v⟩/\i<=j/\l[j - i]? = some v
 | [],_,_,_,h=>by simp [argSl,get] at h
 | v :: r,i,j,x,h=>by
  simp only [argSl,dm] at h;split at h
  ·grind
  ·rename_i za;obtain ⟨u,hu,fF,hg⟩:=zf r (i + 1) j x h
   grind
theorem Nw.refl {E:En} {bx:List (List DV)} {w:World} (h:Env E bx w):Nw E E w where
 c:=fun _ _ h=>h
 cn:=fun _ _ h=>.inl h
 β:=⟨[],by simp,by simp⟩
 tk:=fun k q y hq hy=>⟨q,y,hq,hy,rfl,rfl,.inl ⟨rfl,rfl⟩,.inl rfl⟩
 tn:=fun k y g hk hy=>by
  have:=(gS hy).1;rw [h.tl] at this;omega
 l0:=h.tl
def RJ (s:Bool) (P:Program) (f:FuncId) (args:List DV) (os:List (List DV)) (bY:List TkE) (bt:List (Nat × TypeId)) (Φ:DV->List (List DV)->List TkE->Prop) (fr:Bool:=false):Prop:=
 ∀ (E:En) (w:World) (vs:List Value),Env E os w->E.tk=bY->oD bt E.β w->RvL E args vs->Calls P f vs.toArray w fun e w'=>∃ v,e = .returned v/\C7 s E w Φ v w' fr/\oD bt E.β w'
theorem lW {s:Bool} {P:Program} {f:FuncId} {fn:Func} {c:Code} {args:List DV} {os:List (List DV)} {bY:List TkE} {Φ:DV->List (List DV)->List TkE->Prop} (bt:List (Nat × TypeId)) (mu:List Nat) (fr:Bool) (T:TT) (hT:T.ok P=true) (n nt:Nat) (rs:List ResultVar)
  (hf:P.funcs[f]? = some fn) (hb:fn.body=some c) (GN:fn.ntmps=nt) (yt:fn.results.toList=rs) (hlen:args.length<=nt)
  (h:∀ (E:En) (w:World) (hn:E.β.length=os.length) (hm:E.tk.length=bY.length),go ⟨P,T,hT,fn,nt,rs,yt,w,E,os.length,bY.length,hn,hm,s,Φ,bt,mu,fr⟩ n [.code c] ⟨argSl 0 args,os,bY⟩):RJ s P f args os bY bt Φ fr:=by
 intro E w vs hE ig gM hv;have hl:=hv.length;have hg:=h E w hE.len (by rw [ig]);refine calls_of_wp hf hb ?_
 have hs:=go_sound (X:=⟨P,T,hT,fn,nt,rs,yt,w,E,os.length,bY.length,hE.len,by rw [ig],s,Φ,bt,mu,fr⟩) n _ _ hg E
  {tmps:=vs.toArray ++ Array.replicate (fn.ntmps - vs.toArray.size) undef,defers:=[] } w
  {env:=hE
   tk:=ig
   sz:=by simp [GN];omega
   tm:=by
    intro i x hx;obtain ⟨d,rfl,_,hd⟩:=zf args 0 i x hx;simp only [Nat.sub_zero] at hd;obtain ⟨v,uI,Q8⟩:=hv.get hd
    grind [bg]
   df:=rfl
   nw:=Nw.refl hE
   fr:=⟨rfl,rfl,rfl,aQ _,fun _ _ _=>rfl⟩
   sh:=fun _=>⟨0,rfl⟩
   bt:=gM }
 exact wp_mono hs (Du rfl)
theorem qg {s:Bool} {P:Program} {f:FuncId} {fn:Func} {c:Code} {args:List DV} {os:List (List DV)} {bY:List TkE} {Φ:DV->List (List DV)->List TkE->Prop} (bt:List (Nat × TypeId)) (mu:List Nat) (hbt:∀ p∈bt,os.length<=p.1) (fr:Bool) (T:TT) (hT:T.ok P=true) (n nt:Nat) (rs:List ResultVar)
  (hf:P.funcs[f]? = some fn) (hb:fn.body=some c) (GN:fn.ntmps=nt) (yt:fn.results.toList=rs) (hlen:args.length<=nt)
  (h:∀ (E:En) (w:World) (hn:E.β.length=os.length) (hm:E.tk.length=bY.length),go ⟨P,T,hT,fn,nt,rs,yt,w,E,os.length,bY.length,hn,hm,s,Φ,bt,mu,fr⟩ n [.code c] ⟨argSl 0 args,os,bY⟩):VX s P f args os bY Φ fr:=fun E w vs hE ig hv=>(lW bt mu fr T hT n nt rs hf hb GN yt hlen h E w vs hE ig (fun p hp b hb=>by
  have h1:=hbt p hp;have h2:=(gS hb).1;have h3:=hE.len
  omega) hv).mono fun _ _ ⟨v,h1,h2,_⟩=>⟨v,h1,h2⟩
theorem lX {s:Bool} {P:Program} {f:FuncId} {fn:Func} {c:Code} {args:List DV} {os:List (List DV)} {bY:List TkE} {Φ:DV->List (List DV)->List TkE->Prop} (bt:List (Nat × TypeId)) (hbt:∀ p∈bt,os.length<=p.1) (T:TT) (hT:T.ok P=true) (n nt:Nat) (rs:List ResultVar)
  (hf:P.funcs[f]? = some fn) (hb:fn.body=some c) (GN:fn.ntmps=nt) (yt:fn.results.toList=rs) (hlen:args.length<=nt)
  (h:∀ (E:En) (w:World) (hn:E.β.length=os.length) (hm:E.tk.length=bY.length),go ⟨P,T,hT,fn,nt,rs,yt,w,E,os.length,bY.length,hn,hm,s,Φ,bt,[],false⟩ n [.code c] ⟨argSl 0 args,os,bY⟩):VX s P f args os bY Φ:=
 qg bt [] hbt false T hT n nt rs hf hb GN yt hlen h
theorem Nj {s:Bool} {P:Program} {f:FuncId} {fn:Func} {c:Code} {args:List DV} {os:List (List DV)} {bY:List TkE} {Φ:DV->List (List DV)->List TkE->Prop} (T:TT) (hT:T.ok P=true) (n nt:Nat) (rs:List ResultVar)
  (hf:P.funcs[f]? = some fn) (hb:fn.body=some c) (GN:fn.ntmps=nt) (yt:fn.results.toList=rs) (hlen:args.length<=nt)
  (h:∀ (E:En) (w:World) (hn:E.β.length=os.length) (hm:E.tk.length=bY.length),go ⟨P,T,hT,fn,nt,rs,yt,w,E,os.length,bY.length,hn,hm,s,Φ,[],[],false⟩ n [.code c] ⟨argSl 0 args,os,bY⟩):VX s P f args os bY Φ:=
 lX [] (fun p hp=>by cases hp) T hT n nt rs hf hb GN yt hlen h
theorem Dx {P:Program} {f:FuncId} {fn:Func} {c:Code} {args:List DV} {os:List (List DV)} {bY:List TkE} {Φ:DV->List (List DV)->List TkE->Prop} (T:TT) (hT:T.ok P=true) (n nt:Nat) (rs:List ResultVar)
  (hf:P.funcs[f]? = some fn) (hb:fn.body=some c) (GN:fn.ntmps=nt) (yt:fn.results.toList=rs) (hlen:args.length<=nt)
  (h:∀ (E:En) (w:World) (hn:E.β.length=os.length) (hm:E.tk.length=bY.length),go ⟨P,T,hT,fn,nt,rs,yt,w,E,os.length,bY.length,hn,hm,false,Φ,[],[],false⟩ n [.code c] ⟨argSl 0 args,os,bY⟩):Ev P f args os bY Φ:=
 Nj T hT n nt rs hf hb GN yt hlen h
theorem Ev.mono {P:Program} {f:FuncId} {args:List DV} {os:List (List DV)} {bY:List TkE} {Φ Ψ:DV->List (List DV)->List TkE->Prop} (h:Ev P f args os bY Φ) (hΦ:∀ d o t,Φ d o t->Ψ d o t):Ev P f args os bY Ψ:=by
 intro E w vs h1 h2 h3;refine (h E w vs h1 h2 h3).mono ?_;rintro e w' ⟨v,rfl,h4,hs,d,o,E',h5,h6,h7,h8,h9,td⟩;exact ⟨v,rfl,h4,hs,d,o,E',h5,h6,h7,h8,h9,hΦ _ _ _ td⟩
theorem Ev.YO {P:Program} {f:FuncId} {args:List DV} {os:List (List DV)} {bY:List TkE} {Φ:DV->List (List DV)->List TkE->Prop} {bt:List (Nat × TypeId)} (h:Ev P f args os bY Φ) (hb:bt=[]):RJ false P f args os bY bt Φ:=fun E w vs h1 h2 _ h4=>
 (h E w vs h1 h2 h4).mono fun _ _ ⟨v,h5,h6⟩=>⟨v,h5,h6,.nil hb⟩
theorem br {b:Bool} {A B:Prop} (h1:b=true->A) (h2:b=false->B):@Bool.rec (fun _=>Prop) B A b:=by
 cases b
 ·exact h2 rfl
 ·exact h1 rfl
section
variable {X:Ctx} {st:St} {k:List It} {E:En} {a:Act} {w:World}
theorem zg (h:Rel X E st a w) (aW:X.still=false) {E2:En} {w':World} (hm:pW (E.cl).S w w') (he:Env E2 [] w') (hn:Nw E.cl E2 w):Rel X ⟨E2.c,E.β,E.tk,E.τ⟩ st a w':=by
 have hh:∀ i,i < w.heap.size->w'.heap[i]? = w.heap[i]?:=fun i hi=>hm.block i hi (by
  rintro (h1 | ⟨y,h1,_⟩)
  ·simp [En.cl] at h1
  ·simp [En.cl] at h1)
 have eB:∀ x v,E2.c x=some v->E.c x=some v∨w.heap.size<=x.block:=fun x v hx=>by
  rcases hn.cn x v hx with h1 | h1 | ⟨y,h1,_⟩
  ·exact .inl h1
  ·exact .inr h1
  ·simp [En.cl] at h1
 have hx:Ext E ⟨E2.c,E.β,E.tk,E.τ⟩:=⟨hn.c,fun _ _ h=>h,fun _ q h=>⟨q,h,.inl ⟨rfl,rfl⟩⟩⟩;have hk:=h.env.kF hh;refine dw h hx ?_ h.tk ?_ (h.fr.cj hm.os hm.tape hm.output hm.size fun i hi=>.inr (hh i hi)) (mM aW) (h.bt.kF fun b hb=>hh b (h.env.bi hb))
 ·exact {
   len:=h.env.len
   tl:=h.env.tl
   bxs:=fun i cs hi=>by
    obtain ⟨b,ty,arr,hb,hw,hc⟩:=hk.bxs i cs hi;exact ⟨b,ty,arr,hb,hw,hc.mono hx⟩
   inj:=h.env.inj
   sub:=he.sub
   pc:=fun x v hc rL=>by
    rcases eB x v hc with h1 | h1
    ·exact h.env.pc x v h1 rL
    ·have:=h.env.bi rL;omega
   bY:=fun k q y hq hy=>by
    rcases hk.bY k q y hq hy with h1 | ⟨g',cap,cur,rfl,h1,h2,h3,h4,h5,h6⟩
    ·exact .inl h1
    ·refine .inr ⟨g',cap,cur,rfl,h1,⟨h2.1,h2.2.mono hn.c⟩,h3,h4,h5,fun x v hc hg=>?_⟩;rcases eB x v hc with h7 | h7
     ·exact h6 x v h7 hg
     ·have:=(jl (h.env.bY k q _ hq hy) (g:=g') rfl).1;omega
   ji:=h.env.ji }
 ·exact {
   c:=fun x v hc=>hn.c x v (h.nw.c x v hc)
   cn:=fun x v hc=>by
    rcases eB x v hc with h1 | h1
    ·exact h.nw.cn x v h1
    ·have:=h.fr.size;exact .inr (.inl (by omega))
   β:=h.nw.β
   tk:=h.nw.tk
   tn:=h.nw.tn
   l0:=h.nw.l0 }
theorem Nk {bx:List (List DV)} (h:Env E bx w):Env E.cl [] w where
 len:=rfl
 tl:=rfl
 bxs:=by simp
 inj:=List.nodup_nil
 sub:=h.sub
 pc:=by simp [En.cl]
 bY:=by simp [En.cl]
 ji:=by simp [En.cl]
theorem te {P:Program} (h:Rel X E st a w) (aW:X.still=false) {f:FuncId} {args bo:List DV} {vs:List Value} {Φ:DV->List (List DV)->List TkE->Prop} (hc:Ev P f bo [] [] Φ) (ha:CcL [] 0 0 0 bo args) (hv:RvL E args vs) :
  Calls P f vs.toArray w fun e w'=>∃ v E' d,e = .returned v/\Rel X E' st a w' /\ Rv E' d v/\Φ d [] []/\pW E.cl.S w w' /\ Ext E E' /\ E'.β=E.β:=by
 have Vz:RvL E.cl bo vs:=CcL.sound (E:=E) (E':=E.cl) ⟨fun _ _ h=>h,fun i cs _ hi=>by simp at hi⟩ (Jm.zero _ _) ha hv;refine (hc E.cl w vs (Nk h.env) rfl Vz).mono ?_;rintro e w' ⟨v,rfl,hm,_,d,os,E2,he,hβ,ig,hn,RK,hΦ⟩
 have A7:os=[]:=by
  have:=he.len;rw [hβ] at this;exact List.eq_nil_of_length_eq_zero this.symm
 subst A7;have ht0:E2.tk=[]:=List.eq_nil_of_length_eq_zero ig;refine ⟨v,⟨E2.c,E.β,E.tk,E.τ⟩,d,rfl,zg h aW hm he hn,?_,by rw [ht0] at hΦ;exact hΦ,hm,⟨hn.c,fun _ _ h=>h,fun _ q h=>⟨q,h,.inl ⟨rfl,rfl⟩⟩⟩,rfl⟩;refine Rv.mono (E:=E2) (E':=⟨E2.c,E.β,E.tk,E.τ⟩) ⟨fun _ _ h=>h,fun i b hb=>?_,fun k q hq=>?_⟩ RK
 ·rw [hβ] at hb;simp [En.cl] at hb
 ·rw [ht0] at hq;simp at hq
theorem bS {f:FuncId} {args bo:List DV} {d:Nat} (ki:Enters X.P f) (hd:ez X.nt st.sl (some d)=true) {Φ:DV->List (List DV)->List TkE->Prop} (hc:Ev X.P f bo [] [] Φ) (ha:CcL [] 0 0 0 bo args)
  (hk:∀ r,Φ r [] []->go X 4000 k ⟨(d,⟨[],r⟩) :: st.sl,st.bx,st.tk⟩) (aW:X.still=false:=by exact rfl):CallG X f args (some d) k st:=by
 refine ⟨ki,aW,fun E a w vs h hv=>(te h aW hc ha hv).mono ?_⟩;rintro e w' ⟨v,E',r,rfl,cf,hr,hΦ,_⟩;exact go_sound 4000 _ _ (hk r hΦ) E' _ w' (aX cf hd r v hr)
theorem call_p {f:FuncId} {args bo:List DV} {d:Nat} {r:DV} (ki:Enters X.P f) (hc:EvP X.P f bo r) (ha:CcL [] 0 0 0 bo args) (hd:ez X.nt st.sl (some d)=true)
  (hk:go X 4000 k ⟨(d,⟨[],r⟩) :: st.sl,st.bx,st.tk⟩) (aW:X.still=false:=by exact rfl):CallG X f args (some d) k st:=
 bS ki hd hc ha (fun _ hr=>hr ▸ hk) aW
def clB (n m:Nat):DV->Bool
 | .v _=>true
 | .ud=>true
 | .sl _ _ none=>true
 | .sl _ _ (some k)=>Nat.blt k m
 | .pt _ _=>true
 | .loc i _=>Nat.blt i n
 | .el i _=>Nat.blt i n
 | .ms i _ _ _ _=>Nat.blt i n
 | .agg l=>clL l
 | .tup l=>clL l
 | .fn _ l r=>clL l && clL r
 | .pV _ x=>clB n m x
where clL:List DV->Bool
 | []=>true
 | d :: r=>clB n m d && clL r
def En.cut (E:En) (n m:Nat):En:=⟨E.c,E.β.take n,E.tk.take m,E.τ.take m⟩
mutual
theorem Rv.cut {n m:Nat} {E:En}:∀ {d:DV} {v:Value},Rv E d v->clB n m d=true->Rv (E.cut n m) d v
 | .v x,v,h,_=>by unfold Rv at h ⊢;exact h
 | .ud,v,h,_=>by unfold Rv at h ⊢;exact h
 | .sl e es none,v,h,_=>by
  unfold Rv at h ⊢;obtain ⟨b,n,cap,h1,h2,h3,_⟩:=h;exact ⟨b,n,cap,h1,h2,h3,fun k hk=>by cases hk⟩
 | .sl e es (some k),v,h,hc=>by
  unfold Rv at h ⊢;obtain ⟨b,n',cap,h1,h2,h3,h4⟩:=h;refine ⟨b,n',cap,h1,h2,h3,fun k' gD=>?_⟩;cases gD;have hk:k < m:=by simpa [clB] using hc
  obtain ⟨q,h5,h6,h7⟩:=h4 k rfl;exact ⟨q,by show (E.tk.take m)[k]? = _;rw [cx,ap hk];exact h5,h6,fun hh=>by show (E.τ.take m)[k]? = _;rw [cx,ap hk];exact h7 hh⟩
 | .pt cs o,v,h,_=>by unfold Rv at h ⊢;exact h
 | .loc i o,v,h,hc=>by
  unfold Rv at h ⊢;obtain ⟨b,hb,h1⟩:=h;have hi:i < n:=by simpa [clB] using hc
  exact ⟨b,by show (E.β.take n)[i]? = _;rw [cx,ap hi];exact hb,h1⟩
 | .el i o,v,h,hc=>by
  unfold Rv at h ⊢;obtain ⟨b,hb,h1⟩:=h;have hi:i < n:=by simpa [clB] using hc
  exact ⟨b,by show (E.β.take n)[i]? = _;rw [cx,ap hi];exact hb,h1⟩
 | .ms i e o l c,v,h,hc=>by
  unfold Rv at h ⊢;obtain ⟨b,ad,hb,h1⟩:=h;have hi:i < n:=by simpa [clB] using hc
  exact ⟨b,ad,by show (E.β.take n)[i]? = _;rw [cx,ap hi];exact hb,h1⟩
 | .agg l,v,h,hc=>by
  unfold Rv at h ⊢;obtain ⟨vs,h1,h2,h3⟩:=h;simp only [clB] at hc;exact ⟨vs,h1,RvL.cut h2 hc,h3⟩
 | .tup l,v,h,hc=>by
  unfold Rv at h ⊢;obtain ⟨vs,h1,h2⟩:=h;simp only [clB] at hc;exact ⟨vs,h1,RvL.cut h2 hc⟩
 | .fn f l r,v,h,hc=>by
  unfold Rv at h ⊢;obtain ⟨l',r',h1,h2,h3⟩:=h;simp only [clB,aP] at hc;exact ⟨l',r',h1,RvL.cut h2 hc.1,RvL.cut h3 hc.2⟩
 | .pV t x,v,h,hc=>by
  unfold Rv at h ⊢;obtain ⟨z,h1,h2⟩:=h;simp only [clB] at hc;exact ⟨z,h1,Rv.cut h2 hc⟩
theorem RvL.cut {n m:Nat} {E:En}:∀ {l:List DV} {vs:List Value},RvL E l vs->clB.clL n m l=true->RvL (E.cut n m) l vs
 | [],vs,h,_=>by simp only [RvL] at h ⊢;exact h
 | d :: r,vs,h,hc=>by
  simp only [RvL] at h ⊢;obtain ⟨v,s,h1,h2,h3⟩:=h;simp only [clB.clL,aP] at hc;exact ⟨v,s,h1,Rv.cut h2 hc.1,RvL.cut h3 hc.2⟩
end
end
end Dv
end Go.Proofs.YtgjagnmeonoehaaGreat
namespace Go.Proofs.YtgjagnmeonoehaaGreat
namespace Dv
open Go Go.RowKit
def We (n m:Nat) (bX:List TkE) (x x':DV):Prop:=
 (x=x' /\ clB n m x=true)∨(x = .v (.slice none 0 0)/\∃ e k q,x' = .sl e [] (some k)/\m<=k/\bX[k]? = some q)∨(x = .v (.slice none 0 0)/\∃ e,x' = .sl e [] none)∨(∃ e es tk,x = .sl e es tk/\x' = .sl e es none)∨(∃ e es CU tk,x = .sl e es tk/\x' = .sl e CU none/\CcE [] 0 CU es)∨(∃ e es CU k,x = .sl e es (some k)/\x' = .sl e CU (some k)/\k < m/\CcE [] 0 CU es)
def WeL (n m:Nat) (bX:List TkE):List DV->List DV->Prop
 | [],l=>l=[]
 | x :: r,l=>∃ x' r',l=x' :: r' /\ We n m bX x x' /\ WeL n m bX r r'
def WeLL (n m:Nat) (bX:List TkE):List (List DV)->List (List DV)->Prop
 | [],l=>l=[]
 | x :: r,l=>∃ x' r',l=x' :: r' /\ WeL n m bX x x' /\ WeLL n m bX r r'
def nd (n m:Nat) (bX:List TkE) (sl:List (Nat × Sl)):List (Nat × Sl)->Prop
 | []=>True
 | p :: r=>(∃ x,get sl p.1=some ⟨p.2.gs,x⟩/\We n m bX x p.2.s)/\nd n m bX sl r
structure qh (n0 m0:Nat) (st st':St):Prop where
 all:∃ kept dropped new b0 r,m0<=kept.length/\n0<=b0.length/\st.tk=kept ++ dropped/\st'.tk=kept ++ new/\(∀ q∈new,TkE.new q=true)/\st.bx=b0 ++ r/\WeLL b0.length kept.length st'.tk b0 st'.bx/\nd b0.length kept.length st'.tk st.sl st'.sl
theorem WeLL.length {n m:Nat} {bX:List TkE}:∀ {l l':List (List DV)},WeLL n m bX l l' -> l'.length=l.length
 | [],l',h=>by simp only [WeLL] at h;subst h;rfl
 | x :: r,l',h=>by
  simp only [WeLL] at h;obtain ⟨x',r',rfl,_,h2⟩:=h;simp [WeLL.length h2]
theorem WeLL.get {n m:Nat} {bX:List TkE}:∀ {l l':List (List DV)},WeLL n m bX l l' -> ∀ (i:Nat) cs',l'[i]? = some cs' -> ∃ cs,l[i]? = some cs/\WeL n m bX cs cs'
 | [],l',h,i,cs',hi=>by simp only [WeLL] at h;subst h;simp at hi
 | x :: r,l',h,i,cs',hi=>by
  simp only [WeLL] at h;obtain ⟨x',r',rfl,h1,h2⟩:=h
  cases i with
  | zero=>simp only [List.getElem?_cons_zero,oI] at hi;subst hi;exact ⟨x,rfl,h1⟩
  | succ i=>simp only [List.getElem?_cons_succ] at hi ⊢;exact WeLL.get h2 i cs' hi
theorem vv {n m:Nat} {bX:List TkE} {sl:List (Nat × Sl)}:∀ {l:List (Nat × Sl)},nd n m bX sl l->∀ i x',get l i=some x' -> ∃ x,get sl i=some ⟨x'.gs,x⟩/\We n m bX x x'.s
 | [],_,i,x',hx=>by cases hx
 | (k,y) :: r,h,i,x',hx=>by
  simp only [dm] at hx;split at hx
  ·rename_i yF;subst yF;simp only [oI] at hx;subst hx;exact h.1
  ·exact vv h.2 i x' hx
section
variable {X:Ctx} {E:En} {st st':St} {a:Act} {w:World} {k:List It}
def En.wk (E:En) (n:Nat) (kept new:List TkE):En:=⟨E.c,E.β.take n,kept ++ new,E.τ.take kept.length ++ List.replicate new.length (.slice none 0 0)⟩
theorem Dy {n:Nat} {kept dropped new:List TkE} (ht:E.tk=kept ++ dropped) (hl:E.τ.length=E.tk.length) (eB:∀ q∈new,TkE.new q=true) {x x':DV} {v:Value} (hx:We n kept.length (kept ++ new) x x') (hv:Rv E x v):Rv (E.wk n kept new) x' v:=by
 have lG:kept.length<=E.τ.length:=by rw [hl,ht];simp
 have first:∀ {x:DV},clB n kept.length x=true->Rv E x v->Rv (E.wk n kept new) x v:=by
  intro x hc hv;refine Rv.mono (E:=E.cut n kept.length) ⟨fun _ _ h=>h,fun _ _ h=>h,fun k q hq=>?_⟩ (Rv.cut hv hc);have kX:(E.tk.take kept.length)[k]? = some q:=hq;rw [cx] at kX;split at kX
  ·rename_i hk;refine ⟨q,?_,.inl ⟨rfl,?_⟩⟩
   ·show (kept ++ new)[k]? = _
    grind
   ·show (E.τ.take kept.length ++ _)[k]? = (E.τ.take kept.length)[k]?
    grind
  ·cases kX
 rcases hx with ⟨rfl,hc⟩ | ⟨rfl,e,k,q,rfl,hk,hq⟩ | ⟨rfl,e,rfl⟩ | ⟨e,es,tk,rfl,rfl⟩ | ⟨e,es,CU,tk,rfl,rfl,he⟩ | ⟨e,es,CU,k,rfl,rfl,hk,he⟩
 ·exact first hc hv
 ·have:=bq hv;subst this;unfold Rv;refine ⟨none,0,0,rfl,⟨rfl,aQ _⟩,fun hn=>(hn rfl).elim,fun k' gD=>?_⟩;cases gD;have Nl:(kept ++ new)[k]? = some q:=hq;rw [List.getElem?_append_right hk] at Nl;have A3:=TkE.MX (eB q (mG Nl));refine ⟨q,hq,by omega,fun _=>?_⟩;have au:=(gS Nl).1;show (E.τ.take kept.length ++ List.replicate new.length _)[k]? = _
  grind
 ·have:=bq hv;subst this;unfold Rv;exact ⟨none,0,0,rfl,⟨rfl,aQ _⟩,fun hn=>(hn rfl).elim,fun k hk=>by cases hk⟩
 ·unfold Rv at hv ⊢;obtain ⟨b,n,cap,h1,h2,h3,_⟩:=hv;exact ⟨b,n,cap,h1,h2,h3,fun k hk=>by cases hk⟩
 ·have hv:=TQ he hv;unfold Rv at hv ⊢;obtain ⟨b,n,cap,h1,h2,h3,_⟩:=hv;exact ⟨b,n,cap,h1,h2,h3,fun k hk=>by cases hk⟩
 ·exact first (by simp only [clB];exact Nat.ble_eq_true_of_le hk) (TQ he hv)
theorem rO {n:Nat} {kept dropped new:List TkE} (ht:E.tk=kept ++ dropped) (hl:E.τ.length=E.tk.length) (eB:∀ q∈new,TkE.new q=true):∀ {l l':List DV} {vs:List Value},WeL n kept.length (kept ++ new) l l' -> RvL E l vs->RvL (E.wk n kept new) l' vs
 | [],l',vs,h,hv=>by grind [WeL,RvL]
 | x :: r,l',vs,h,hv=>by
  simp only [WeL] at h;obtain ⟨x',r',rfl,h1,h2⟩:=h;simp only [RvL] at hv ⊢;obtain ⟨v,s,h3,h4,h5⟩:=hv;exact ⟨v,s,h3,Dy ht hl eB h1 h4,rO ht hl eB h2 h5⟩
theorem zh (h:Rel X E st a w) {kept dropped new:List TkE} {b0 r:List (List DV)} (jA:X.m0<=kept.length/\X.n0<=b0.length/\st.tk=kept ++ dropped/\st'.tk=kept ++ new/\(∀ q∈new,TkE.new q=true)/\st.bx=b0 ++ r/\WeLL b0.length kept.length st'.tk b0 st'.bx/\nd b0.length kept.length st'.tk st.sl st'.sl):Rel X (E.wk b0.length kept new) st' a w:=by
 obtain ⟨lN,oH,ht,ug,eB,hb,kG,mW⟩:=jA;rw [ug] at kG mW;have htE:E.tk=kept ++ dropped:=by rw [h.tk,ht]
 have hbl:=kG.length;have lG:kept.length<=E.τ.length:=by rw [h.env.tl,htE];simp
 have gM:b0.length<=E.β.length:=by rw [h.env.len,hb];simp
 have hτ:∀ (k:Nat) y,(E.τ.take kept.length ++ List.replicate new.length (Value.slice none 0 0))[k]? = some y->(k < kept.length/\E.τ[k]? = some y)∨(kept.length<=k/\y = .slice none 0 0):=fun k y hy=>by grind
 exact {
  env:={
   len:=by simp only [En.wk,zLenT];omega
   tl:=by simp only [En.wk,List.length_append,zLenT,List.length_replicate];omega
   bxs:=fun i cs' hi=>by
    obtain ⟨cs,hcs,YP⟩:=kG.get i cs' hi;have au:=(gS hcs).1;obtain ⟨b,ty,arr,X4,hwb,hc⟩:=h.env.bxs i cs (by rw [hb,dC au];exact hcs);exact ⟨b,ty,arr,by simp only [En.wk];rw [cx,ap au];exact X4,hwb,rO htE h.env.tl eB YP hc.1,hc.2⟩
   inj:=h.env.inj.sublist (List.take_sublist _ _)
   sub:=h.env.sub
   pc:=fun x v hx hm=>h.env.pc x v hx (List.mem_of_mem_take hm)
   bY:=fun k q y hq hy=>by
    rcases hτ k y hy with ⟨hk,fG⟩ | ⟨hk,rfl⟩
    ·have kX:(kept ++ new)[k]? = some q:=hq;rw [dC hk] at kX;rcases h.env.bY k q y (by rw [htE,dC hk];exact kX) fG with h1 | ⟨g,cap,cur,rfl,h1,h2,h3,h4,h5,h6⟩
     ·exact .inl h1
     ·exact .inr ⟨g,cap,cur,rfl,h1,h2,h3,h4,fun hm=>h5 (List.mem_of_mem_take hm),h6⟩
    ·have kX:(kept ++ new)[k]? = some q:=hq;rw [List.getElem?_append_right hk] at kX;exact .inl ⟨rfl,TkE.MX (eB q (mG kX)),TkE.TJ (eB q (mG kX))⟩
   ji:=fun k k' y y' g pN hy fG hg ta=>by
    rcases hτ k y hy with ⟨_,A2⟩ | ⟨_,rfl⟩
    ·rcases hτ k' y' fG with ⟨_,mN⟩ | ⟨_,rfl⟩
     ·exact h.env.ji k k' y y' g pN A2 mN hg ta
     ·simp [Value.ownBlock] at ta
    ·simp [Value.ownBlock] at hg }
  tk:=by simp only [En.wk];exact ug.symm
  sz:=h.sz
  tm:=fun i x' yu=>by
   obtain ⟨x,hx,YP⟩:=vv mW i x' yu;have:=h.tm i _ hx;refine ⟨fun hh=>?_,this.2⟩;obtain ⟨v,h1,h2⟩:=this.1 hh;exact ⟨v,h1,Dy htE h.env.tl eB YP h2⟩
  df:=h.df
  nw:={
   c:=h.nw.c
   cn:=h.nw.cn
   β:=by
    obtain ⟨r2,hr,hl⟩:=h.nw.β;refine ⟨r2.take (b0.length - X.n0),?_,fun b hb=>hl b (List.mem_of_mem_take hb)⟩;simp only [En.wk];rw [hr,List.take_append,List.take_of_length_le (by rw [X.oH];omega),X.oH]
   tk:=fun j q0 y0 A3 Dd=>by
    obtain ⟨q',y',h1,h2,h3⟩:=h.nw.tk j q0 y0 A3 Dd;have hj:j < X.m0:=by rw [<- X.lN];exact (gS A3).1
    grind [En.wk]
   tn:=fun j y g hj hy hg=>by
    rcases hτ j y hy with ⟨_,A2⟩ | ⟨_,rfl⟩
    ·exact h.nw.tn j y g hj A2 hg
    ·simp [Value.ownBlock] at hg
   l0:=h.nw.l0 }
  fr:=h.fr
  sh:=h.sh
  bt:=h.bt.sub _ }
theorem vw (h:Rel X E st a w) (hw:qh X.n0 X.m0 st st'):∃ E',Rel X E' st' a w:=by
 obtain ⟨_,_,_,_,_,jA⟩:=hw.all;exact ⟨_,zh h jA⟩
theorem least {p:Nat->Prop} (h:∃ n,p n):∃ n,p n/\∀ m,p m->n<=m:=by
 obtain ⟨n,hn⟩:=h
 induction n using Nat.strongRecOn with
 | _ n ih=>grind
theorem aV {c:Code} (I:Nat->St->Prop) (j0:Nat) (lH:St) (hw:qh X.n0 X.m0 st lH) (h0:I j0 lH)
  (hr:∀ j s,I j s->go X 4000 (.code c :: .Jc (fun s'=>∃ Dz,qh X.n0 X.m0 s' Dz /\ ∃ j',j' < j/\I j' Dz) :: k) s):sY X c k st:=by
 intro E a w h;obtain ⟨E0,hr0⟩:=vw h hw
 classical
 let Inv:Act->World->Prop:=fun a w=>∃ j s E,Rel X E s a w/\I j s
 let μ:Act->World->Nat:=fun a w=>if hI:Inv a w then Classical.choose (least hI) else 0
 refine wp_loop Inv μ ⟨j0,lH,E0,hr0,h0⟩ ?_;intro a1 w1 hI;have zi:=(Classical.choose_spec (least hI)).1;obtain ⟨s,E1,cf,hIs⟩:=zi;have hs:=go_sound 4000 _ _ (hr _ s hIs) E1 a1 w1 cf;rw [fj] at hs;refine wp_mono hs ?_;intro e a2 w2 hq
 cases e with
 | normal=>
  obtain ⟨s',E2,vx,Dz,VY,j',jw,YQ⟩:=hq;obtain ⟨E3,DA⟩:=vw vx VY;have VZ:Inv a2 w2:=⟨j',Dz,E3,DA,YQ⟩;refine ⟨VZ,?_⟩;simp only [μ,dif_pos hI,dif_pos VZ];exact Nat.lt_of_le_of_lt ((Classical.choose_spec (least VZ)).2 j' ⟨Dz,E3,DA,YQ⟩) jw
 | exit id=>exact hq
 | goto l=>exact hq
 | ret=>exact hq
 | panic c=>exact hq
 | outgrown=>exact hq
theorem az {n m:Nat} {bX:List TkE} {x:DV} (h:clB n m x=true):We n m bX x x:=.inl ⟨rfl,h⟩
theorem aD {n m:Nat} {bX:List TkE} {kd:IntKind} {x y:Int} (h:x=y):We n m bX (.v (.int kd x)) (.v (.int kd y)):=.inl ⟨by rw [h],rfl⟩
theorem bL {n m:Nat} {bX:List TkE} {e k:Nat} {q:TkE} (h1:m<=k) (h2:bX[k]? = some q):We n m bX (.v (.slice none 0 0)) (.sl e [] (some k)):=.inr (.inl ⟨rfl,e,k,q,rfl,h1,h2⟩)
theorem cy {n m:Nat} {bX:List TkE} {e k:Nat} {es CU:List (List DV)} (h:es=CU) (hk:Nat.blt k m=true):We n m bX (.sl e es (some k)) (.sl e CU (some k)):=.inl ⟨by rw [h],hk⟩
theorem ax {p:Prop} (h:p:=by repeat' (first | exact rfl | exact trivial | exact Or.inr (Or.inl ⟨_,rfl⟩) | exact Or.inr ⟨_,rfl⟩ | exact Or.inl ⟨rfl,rfl⟩ | exact Or.inl rfl | refine Or.inr ⟨_,_,rfl,Nat.zero_le _,rfl,?_⟩ | refine ⟨_,_,rfl,?_,?_⟩ | refine ⟨_,rfl,?_⟩ | refine Or.inr (Or.inr (Or.inr ⟨_,_,rfl,?_⟩)) | exact Or.inl rfl | refine Or.inr ?_)):p:=h
theorem wA {p:Prop} (h:p:=by repeat' (first | exact rfl | exact az rfl | refine ⟨_,_,rfl,?_,?_⟩)):p:=h
theorem wB {p:Prop} (h:p:=by repeat' (first | exact trivial | exact az rfl | refine ⟨⟨_,rfl,?_⟩,?_⟩)):p:=h
theorem Bd {n0 m0:Nat} {st st':St} (h1:∃ r,st.bx=st'.bx ++ r) (h2:WeLL st'.bx.length st'.tk.length st'.tk st'.bx st'.bx) (h3:st.tk=st'.tk) (h4:Nat.ble n0 st'.bx.length=true) (h5:Nat.ble m0 st'.tk.length=true)
  (h:nd st'.bx.length st'.tk.length st'.tk st.sl st'.sl):qh n0 m0 st st':=by
 obtain ⟨r,hr⟩:=h1;exact ⟨st'.tk,[],[],st'.bx,r,by simpa using h5,by simpa using h4,by simp [h3],by simp,by simp,hr,h2,h⟩
theorem weak_b {n0 m0:Nat} {st st':St} (n:Nat) (hn:Nat.ble n st.bx.length=true) (h2:WeLL n st'.tk.length st'.tk (st.bx.take n) st'.bx) (h3:st.tk=st'.tk) (h4:Nat.ble n0 n=true) (h5:Nat.ble m0 st'.tk.length=true)
  (h:nd n st'.tk.length st'.tk st.sl st'.sl):qh n0 m0 st st':=by
 have hl:(st.bx.take n).length=n:=by simp_all
 exact ⟨st'.tk,[],[],st.bx.take n,st.bx.drop n,by simpa using h5,by rw [hl];simpa using h4,by simp [h3],by simp,by simp,(List.take_append_drop n st.bx).symm,by rw [hl];exact h2,by rw [hl];exact h⟩
theorem fU {n0 m0:Nat} {st st':St} (q:TkE) (hq:q.new=true) (h1:∃ r,st.bx=st'.bx ++ r) (h3:st.tk ++ [q]=st'.tk) (h2:WeLL st'.bx.length st.tk.length st'.tk st'.bx st'.bx) (h4:Nat.ble n0 st'.bx.length=true) (h5:Nat.ble m0 st.tk.length=true)
  (h:nd st'.bx.length st.tk.length st'.tk st.sl st'.sl):qh n0 m0 st st':=by
 obtain ⟨r,hr⟩:=h1;exact ⟨st.tk,[],[q],st'.bx,r,by simpa using h5,by simpa using h4,by simp,h3.symm,by simpa using hq,hr,h2,h⟩
end
end Dv
end Go.Proofs.YtgjagnmeonoehaaGreat
namespace Go.Proofs.YtgjagnmeonoehaaGreat
namespace Dv
theorem aL {p : Prop} (h : p := by repeat' (first | exact rfl | exact trivial | exact Or.inr (Or.inl ⟨_,rfl⟩) | exact Or.inr ⟨_,rfl⟩ | exact Or.inl ⟨rfl,rfl⟩ | exact Or.inl rfl | refine Or.inr ⟨_,_,rfl,Nat.zero_le _,rfl,?_⟩ | refine ⟨_,_,rfl,?_,?_⟩ | refine ⟨_,rfl,?_⟩ | exact ⟨nL rfl,rfl⟩ | refine Or.inr (Or.inr (Or.inr ⟨_,_,rfl,?_⟩)) | exact Or.inl rfl | refine Or.inr ?_)) : p := h
theorem aI {p : Prop} {a b : Int} (q : a=b) (h : a=b -> p := by intro q;repeat' (first | exact rfl | exact trivial | exact Or.inr (Or.inl ⟨_,rfl⟩) | exact Or.inr ⟨_,rfl⟩ | exact Or.inl ⟨rfl,rfl⟩ | exact Or.inl rfl | refine Or.inr ⟨_,_,rfl,Nat.zero_le _,rfl,?_⟩ | refine ⟨_,_,rfl,?_,?_⟩ | refine ⟨_,rfl,?_⟩ | exact congrArg (fun z=>DV.v (.int .i64 z)) q | refine Or.inr (Or.inr (Or.inr ⟨_,_,rfl,?_⟩)) | exact Or.inl rfl | refine Or.inr ?_)) : p := h q
theorem aB {p : Prop} {a b : Bool} (q : a=b) (h : a=b -> p := by intro q;repeat' (first | exact rfl | exact trivial | exact Or.inr (Or.inl ⟨_,rfl⟩) | exact Or.inr ⟨_,rfl⟩ | exact Or.inl ⟨rfl,rfl⟩ | exact Or.inl rfl | refine Or.inr ⟨_,_,rfl,Nat.zero_le _,rfl,?_⟩ | refine ⟨_,_,rfl,?_,?_⟩ | refine ⟨_,rfl,?_⟩ | exact congrArg (fun b=>DV.v (.bool b)) q | refine Or.inr (Or.inr (Or.inr ⟨_,_,rfl,?_⟩)) | exact Or.inl rfl | refine Or.inr ?_)) : p := h q
theorem wNA {p : Prop} {a b : Nat} (q : a < b) (hn : b <= 4611686018427387904 := by omega) (h : a < b -> b <= 4611686018427387904 -> p := by intro q hn;repeat' (first | exact rfl | exact az rfl | exact aD (aN q hn) | refine ⟨_,_,rfl,?_,?_⟩)) : p := h q hn
theorem wNB {p : Prop} {a b : Nat} (q : a < b) (hn : b <= 4611686018427387904 := by omega) (h : a < b -> b <= 4611686018427387904 -> p := by intro q hn;repeat' (first | exact trivial | exact az rfl | exact aD (aN q hn) | refine ⟨⟨_,rfl,?_⟩,?_⟩)) : p := h q hn
theorem wSA {p r : Prop} {a b : Nat} (q : a < b) (s : r) (hn : b <= 4611686018427387904 := by omega) (h : a < b -> b <= 4611686018427387904 -> r -> p := by intro q hn s;repeat' (first | exact rfl | exact az rfl | exact aD (aN q hn) | exact cy s rfl | refine ⟨_,_,rfl,?_,?_⟩)) : p := h q hn s
theorem wSB {p r : Prop} {a b : Nat} (q : a < b) (s : r) (hn : b <= 4611686018427387904 := by omega) (h : a < b -> b <= 4611686018427387904 -> r -> p := by intro q hn s;repeat' (first | exact trivial | exact az rfl | exact aD (aN q hn) | exact cy s rfl | refine ⟨⟨_,rfl,?_⟩,?_⟩)) : p := h q hn s
theorem wTB {p : Prop} (h : p := by repeat' (first | exact trivial | exact az rfl | exact bL (Nat.le_refl _) rfl | refine ⟨⟨_,rfl,?_⟩,?_⟩)) : p := h
theorem wTA {p : Prop} (h : p := by repeat' (first | exact rfl | exact az rfl | exact bL (Nat.le_refl _) rfl | refine ⟨_,_,rfl,?_,?_⟩)) : p := h
theorem wRB {p : Prop} (h : p := by repeat' (first | exact trivial | exact az rfl | exact aD rfl | refine ⟨⟨_,rfl,?_⟩,?_⟩)) : p := h
theorem wRA {p : Prop} (h : p := by repeat' (first | exact rfl | exact az rfl | exact aD rfl | refine ⟨_,_,rfl,?_,?_⟩)) : p := h
theorem pP {p:Prop}   (h:p:=by repeat' (first | exact rfl | exact az rfl | exact cS rfl | exact cu rfl | exact rP _ | exact bL (Nat.le_refl _) rfl | exact bL (Nat.le_succ _) rfl | refine ⟨_,_,rfl,?_,?_⟩)):p:=h 
theorem kH {p:Prop} {P0:Prop} (x0:P0) (h:P0->p:=by intro x0;repeat' (first | exact rfl | exact az rfl | exact aD x0 | exact cS x0 | exact cy x0 rfl | exact cq x0 | exact cu x0 | exact aD (congrArg Nat.cast x0) | exact az x0 | exact fJ x0 | exact x0 | exact cS rfl | exact cu rfl | exact rP _ | exact bL (Nat.le_refl _) rfl | exact bL (Nat.le_succ _) rfl | refine ⟨_,_,rfl,?_,?_⟩)):p:=h x0
theorem yy {p:Prop} {P0:Prop} {P1:Prop} (x0:P0) (x1:P1) (h:P0->P1->p:=by intro x0 x1;repeat' (first | exact rfl | exact az rfl | exact aD x0 | exact cS x0 | exact cy x0 rfl | exact cq x0 | exact cu x0 | exact aD (congrArg Nat.cast x0) | exact az x0 | exact fJ x0 | exact x0 | exact aD x1 | exact cS x1 | exact cy x1 rfl | exact cq x1 | exact cu x1 | exact aD (congrArg Nat.cast x1) | exact az x1 | exact fJ x1 | exact x1 | exact cS rfl | exact cu rfl | exact rP _ | exact bL (Nat.le_refl _) rfl | exact bL (Nat.le_succ _) rfl | refine ⟨_,_,rfl,?_,?_⟩)):p:=h x0 x1
theorem wA3 {p:Prop} {P0:Prop} {P1:Prop} {P2:Prop} (x0:P0) (x1:P1) (x2:P2) (h:P0->P1->P2->p:=by intro x0 x1 x2;repeat' (first | exact rfl | exact az rfl | exact aD x0 | exact cS x0 | exact cy x0 rfl | exact cq x0 | exact cu x0 | exact aD (congrArg Nat.cast x0) | exact az x0 | exact fJ x0 | exact x0 | exact aD x1 | exact cS x1 | exact cy x1 rfl | exact cq x1 | exact cu x1 | exact aD (congrArg Nat.cast x1) | exact az x1 | exact fJ x1 | exact x1 | exact aD x2 | exact cS x2 | exact cy x2 rfl | exact cq x2 | exact cu x2 | exact aD (congrArg Nat.cast x2) | exact az x2 | exact fJ x2 | exact x2 | exact cS rfl | exact cu rfl | exact rP _ | exact bL (Nat.le_refl _) rfl | exact bL (Nat.le_succ _) rfl | refine ⟨_,_,rfl,?_,?_⟩)):p:=h x0 x1 x2
theorem kj {p:Prop}   (h:p:=by repeat' (first | exact trivial | exact az rfl | exact bL (Nat.le_refl _) rfl | exact bL (Nat.le_succ _) rfl | exact aD rfl | refine ⟨⟨_,rfl,?_⟩,?_⟩)):p:=h 
theorem cY {p:Prop} {P0:Prop} (x0:P0) (h:P0->p:=by intro x0;repeat' (first | exact trivial | exact az rfl | exact aD x0 | exact cS x0 | exact cy x0 rfl | exact cq x0 | exact cu x0 | exact aD (congrArg Nat.cast x0) | exact az x0 | exact fJ x0 | exact x0 | exact bL (Nat.le_refl _) rfl | exact bL (Nat.le_succ _) rfl | exact aD rfl | refine ⟨⟨_,rfl,?_⟩,?_⟩)):p:=h x0
theorem iT {p:Prop} {P0:Prop} {P1:Prop} (x0:P0) (x1:P1) (h:P0->P1->p:=by intro x0 x1;repeat' (first | exact trivial | exact az rfl | exact aD x0 | exact cS x0 | exact cy x0 rfl | exact cq x0 | exact cu x0 | exact aD (congrArg Nat.cast x0) | exact az x0 | exact fJ x0 | exact x0 | exact aD x1 | exact cS x1 | exact cy x1 rfl | exact cq x1 | exact cu x1 | exact aD (congrArg Nat.cast x1) | exact az x1 | exact fJ x1 | exact x1 | exact bL (Nat.le_refl _) rfl | exact bL (Nat.le_succ _) rfl | exact aD rfl | refine ⟨⟨_,rfl,?_⟩,?_⟩)):p:=h x0 x1
theorem Rc {p:Prop} {P0:Prop} {P1:Prop} {P2:Prop} (x0:P0) (x1:P1) (x2:P2) (h:P0->P1->P2->p:=by intro x0 x1 x2;repeat' (first | exact trivial | exact az rfl | exact aD x0 | exact cS x0 | exact cy x0 rfl | exact cq x0 | exact cu x0 | exact aD (congrArg Nat.cast x0) | exact az x0 | exact fJ x0 | exact x0 | exact aD x1 | exact cS x1 | exact cy x1 rfl | exact cq x1 | exact cu x1 | exact aD (congrArg Nat.cast x1) | exact az x1 | exact fJ x1 | exact x1 | exact aD x2 | exact cS x2 | exact cy x2 rfl | exact cq x2 | exact cu x2 | exact aD (congrArg Nat.cast x2) | exact az x2 | exact fJ x2 | exact x2 | exact bL (Nat.le_refl _) rfl | exact bL (Nat.le_succ _) rfl | exact aD rfl | refine ⟨⟨_,rfl,?_⟩,?_⟩)):p:=h x0 x1 x2
theorem YR {p:Prop} {P0:Prop} {P1:Prop} {P2:Prop} {P3:Prop} (x0:P0) (x1:P1) (x2:P2) (x3:P3) (h:P0->P1->P2->P3->p:=by intro x0 x1 x2 x3;repeat' (first | exact trivial | exact az rfl | exact aD x0 | exact cS x0 | exact cy x0 rfl | exact cq x0 | exact cu x0 | exact aD (congrArg Nat.cast x0) | exact az x0 | exact fJ x0 | exact x0 | exact aD x1 | exact cS x1 | exact cy x1 rfl | exact cq x1 | exact cu x1 | exact aD (congrArg Nat.cast x1) | exact az x1 | exact fJ x1 | exact x1 | exact aD x2 | exact cS x2 | exact cy x2 rfl | exact cq x2 | exact cu x2 | exact aD (congrArg Nat.cast x2) | exact az x2 | exact fJ x2 | exact x2 | exact aD x3 | exact cS x3 | exact cy x3 rfl | exact cq x3 | exact cu x3 | exact aD (congrArg Nat.cast x3) | exact az x3 | exact fJ x3 | exact x3 | exact bL (Nat.le_refl _) rfl | exact bL (Nat.le_succ _) rfl | exact aD rfl | refine ⟨⟨_,rfl,?_⟩,?_⟩)):p:=h x0 x1 x2 x3
theorem fA {p:Prop}   (h:p:=by repeat' (first | exact rfl | exact trivial | exact Or.inr (Or.inl ⟨_,rfl⟩) | exact Or.inr ⟨_,rfl⟩ | exact Or.inl ⟨rfl,rfl⟩ | exact Or.inl rfl | refine Or.inr ⟨_,_,rfl,Nat.zero_le _,rfl,?_⟩ | refine ⟨_,_,rfl,?_,?_⟩ | refine ⟨_,rfl,?_⟩ | exact ⟨nL rfl,rfl⟩ | refine Or.inr (Or.inr (Or.inr ⟨_,_,rfl,?_⟩)) | exact Or.inl rfl | refine Or.inr ?_)):p:=h 
theorem rz {p:Prop} {P0:Prop} (x0:P0) (h:P0->p:=by intro x0;repeat' (first | exact rfl | exact trivial | exact Or.inr (Or.inl ⟨_,rfl⟩) | exact Or.inr ⟨_,rfl⟩ | exact Or.inl ⟨rfl,rfl⟩ | exact Or.inl rfl | refine Or.inr ⟨_,_,rfl,Nat.zero_le _,rfl,?_⟩ | refine ⟨_,_,rfl,?_,?_⟩ | refine ⟨_,rfl,?_⟩ | exact congrArg (fun z=>DV.v (.int .i64 z)) x0 | exact congrArg (fun z=>DV.v (.int .i64 z)) (congrArg Nat.cast x0) | exact congrArg (fun b=>DV.v (.bool b)) x0 | exact x0 | exact Or.inr (Or.inl ⟨_,x0⟩) | apply x0 | exact ⟨nL rfl,rfl⟩ | refine Or.inr (Or.inr (Or.inr ⟨_,_,rfl,?_⟩)) | exact Or.inl rfl | refine Or.inr ?_)):p:=h x0
theorem wC2 {p:Prop} {P0:Prop} {P1:Prop} (x0:P0) (x1:P1) (h:P0->P1->p:=by intro x0 x1;repeat' (first | exact rfl | exact trivial | exact Or.inr (Or.inl ⟨_,rfl⟩) | exact Or.inr ⟨_,rfl⟩ | exact Or.inl ⟨rfl,rfl⟩ | exact Or.inl rfl | refine Or.inr ⟨_,_,rfl,Nat.zero_le _,rfl,?_⟩ | refine ⟨_,_,rfl,?_,?_⟩ | refine ⟨_,rfl,?_⟩ | exact congrArg (fun z=>DV.v (.int .i64 z)) x0 | exact congrArg (fun z=>DV.v (.int .i64 z)) (congrArg Nat.cast x0) | exact congrArg (fun b=>DV.v (.bool b)) x0 | exact x0 | exact Or.inr (Or.inl ⟨_,x0⟩) | apply x0 | exact congrArg (fun z=>DV.v (.int .i64 z)) x1 | exact congrArg (fun z=>DV.v (.int .i64 z)) (congrArg Nat.cast x1) | exact congrArg (fun b=>DV.v (.bool b)) x1 | exact x1 | exact Or.inr (Or.inl ⟨_,x1⟩) | apply x1 | exact ⟨nL rfl,rfl⟩ | refine Or.inr (Or.inr (Or.inr ⟨_,_,rfl,?_⟩)) | exact Or.inl rfl | refine Or.inr ?_)):p:=h x0 x1
theorem iX {α:Type _} {P:α->Prop} {cs:α} {i:Int} {l:List α} (g:l[i.toNat]? = some cs) (k:P cs) (h:0<=i:=by omega):∃ cs,(0<=i/\l[i.toNat]? = some cs)/\P cs:=⟨cs,⟨h,g⟩,k⟩
theorem lI {X:Ctx} {st:St} {k:List It} {c:Code} (I:Nat->St->Prop) {j0:Nat} {lH:St} (h0:I j0 lH) (hw:qh X.n0 X.m0 st lH)
 (hr:∀ j s,I j s->go X 4000 (.code c :: .Jc (fun s'=>∃ Dz,qh X.n0 X.m0 s' Dz/\∃ j',j' < j/\I j' Dz) :: k) s):sY X c k st:=aV I j0 lH hw h0 hr
theorem lJ {X:Ctx} {st:St} {k:List It} {c:Code} (S:Nat->St) (n:Nat) (hw:qh X.n0 X.m0 st (S 0))
 (hr:∀ e,e<=n->go X 4000 (.code c :: .Jc (fun s'=>∃ Dz,qh X.n0 X.m0 s' Dz/\∃ j',j' < n - e/\∃ e:Nat,Dz=S e/\e<=n/\j'=n - e) :: k) (S e)):sY X c k st:=aV (fun j st=>∃ e:Nat,st=S e/\e<=n/\j=n - e) (n - 0) (S 0) hw ⟨0,rfl,Nat.zero_le _,rfl⟩ fun j s h=>by
 obtain ⟨e,rfl,he,rfl⟩:=h;exact hr e he
theorem bF {a b : Bool} (h : a = b) : DV.v (.bool a) = .v (.bool b) := h ▸ rfl
theorem Be {a b : Int} (h : a = b) : DV.v (.int .i64 a) = .v (.int .i64 b) := h ▸ rfl
theorem bp {n0 m0 : Nat} {st st' : St} (h : nd st'.bx.length st'.tk.length st'.tk st.sl st'.sl) (h1 : ∃ r,st.bx = st'.bx ++ r := by exact ⟨_,rfl⟩) (h2 : WeLL st'.bx.length st'.tk.length st'.tk st'.bx st'.bx := by exact wA) (h3 : st.tk = st'.tk := by exact rfl) (h4 : Nat.ble n0 st'.bx.length = true := by exact rfl) (h5 : Nat.ble m0 st'.tk.length = true := by exact rfl) : qh n0 m0 st st' := Bd h1 h2 h3 h4 h5 h
theorem dj {n0 m0 : Nat} {st st' : St} (n : Nat) (h2 : WeLL n st'.tk.length st'.tk (st.bx.take n) st'.bx) (h : nd n st'.tk.length st'.tk st.sl st'.sl) (hn : Nat.ble n st.bx.length = true := by exact rfl) (h3 : st.tk = st'.tk := by exact rfl) (h4 : Nat.ble n0 n = true := by exact rfl) (h5 : Nat.ble m0 st'.tk.length = true := by exact rfl) : qh n0 m0 st st' := weak_b n hn h2 h3 h4 h5 h
abbrev ay (k : Nat) (n : Int) : Nat × Sl := (k,⟨[],.v (.int .i64 n)⟩)
abbrev DB (k : Nat) (b : Bool) : Nat × Sl := (k,⟨[],.v (.bool b)⟩)
abbrev aE (k i : Nat) : Nat × Sl := (k,⟨[],.loc i 0⟩)
abbrev mQ (k : Nat) (c : List DV) : Nat × Sl := (k,⟨[],.pt c 0⟩)
abbrev bh (k e : Nat) (l : List (List DV)) : Nat × Sl := (k,⟨[],.sl e l none⟩)
end Dv
end Go.Proofs.YtgjagnmeonoehaaGreat
namespace Go.Proofs.YtgjagnmeonoehaaGreat
namespace Dv
open Go
section
variable {P:Program} {ops:Array Oper} {C:World->Prop} {Q:Act->World->Prop} {W:Nat->Bool} {π:Nat->Nat}
theorem YS {o:Oper} {a:Act} {w:World} {K:Act->World->Prop} (h:wq P o a w K):∃ v w',K (a.put o.dst v) w':=by
 unfold wq at h;split at h
 ·exact ⟨_,_,h⟩
 ·exact ⟨_,_,h⟩
 ·obtain ⟨e,w',fr,⟨v,_,hv⟩,_⟩:=h [];exact ⟨v,w',hv⟩
 ·exact h.elim
theorem V0 {x y:Oper} {v:Value} (X5:x.apart ops y=true) (hs:∀ cs b,y.op ≠ .select cs b) {a:Act} {w:World} {K:Act->World->Prop} :
  wq P y (a.put x.dst v) w K↔wq P y a w (fun a' w'=>K (a'.put x.dst v) w'):=by
 obtain ⟨h1,h2,h3⟩:=Oper.apart_spec X5;unfold wq;rw [execOp_put y hs a x.dst v h1];have hc:∀ u,(a.put x.dst v).put y.dst u=(a.put y.dst u).put x.dst v:=fun u=>Act.put_comm a v u h2
 cases (execOp a.eval y).run P w with
 | halt h w'=>rfl
 | ok n w'=>cases n<;>simp [hc]
def Yl (P:Program) (ops:Array Oper) (C:World->Prop) (o:Oper) (v:Value) (a:Act):Prop:=
 (Region.wanted o (yielded ops a.tmps)=true/\∀ w,(qa o.op=true->C w)->(execOp a.eval o).run P w = .ok (.value v) w) ∨
 (Region.wanted o (yielded ops a.tmps)=false/\v=undef)
theorem Yl.same {x y:Oper} {v u:Value} (X5:x.apart ops y=true) (hs:∀ cs b,y.op ≠ .select cs b) {a:Act}:Yl P ops C y v (a.put x.dst u)↔Yl P ops C y v a:=by
 obtain ⟨h1,h2,h3⟩:=Oper.apart_spec X5;unfold Yl;rw [execOp_put y hs a x.dst u h1,wanted_put y a x.dst u h1]
def eP (P:Program) (ops:Array Oper) (o:Oper) (a:Act) (w:World) (K:Act->World->Prop):Prop:=
 if Region.wanted o (yielded ops a.tmps)=true then wq P o a w K else K (a.put o.dst undef) w
theorem jY {o:Oper} {a:Act} {w:World} {K K':Act->World->Prop} (hk:∀ a w,K a w->K' a w) (h:eP P ops o a w K):eP P ops o a w K':=by grind [eP,lS]
theorem zj {x y:Oper} {v:Value} (X5:x.apart ops y=true) (hs:∀ cs b,y.op ≠ .select cs b) {a:Act} {w:World} {K:Act->World->Prop} :
  eP P ops y (a.put x.dst v) w K↔eP P ops y a w (fun a' w'=>K (a'.put x.dst v) w'):=by
 obtain ⟨h1,h2,h3⟩:=Oper.apart_spec X5;unfold eP;rw [wanted_put y a x.dst v h1];split
 ·exact V0 X5 hs
 ·rw [Act.put_comm a v undef h2]
theorem Nn {o:Oper} {a:Act} {w:World} {K:Act->World->Prop} (h:eP P ops o a w K):∃ v w',K (a.put o.dst v) w':=by grind [eP,YS]
theorem vy {o:Oper} {a:Act} {w:World} {K:Act->World->Prop} (h:eP P ops o a w K):eP P ops o a w (fun a' w'=>K a' w' /\ ∃ u,a'=a.put o.dst u):=by grind [eP,wq]
theorem nf {o:Oper} {a:Act} {w:World} {v:Value} {K:Act->World->Prop} (hy:Yl P ops C o v a) (hc:qa o.op=true->C w) (hk:K (a.put o.dst v) w):eP P ops o a w K:=by
 unfold eP;rcases hy with ⟨hw,hv⟩ | ⟨hw,rfl⟩
 ·grind [wq]
 ·rw [aj (by simp [hw])];exact hk
theorem ng {o:Oper} {a:Act} {w:World} {v:Value} {K:Act->World->Prop} (hy:Yl P ops C o v a) (hc:qa o.op=true->C w) (h:eP P ops o a w K):K (a.put o.dst v) w:=by
 unfold eP at h;rcases hy with ⟨hw,hv⟩ | ⟨hw,rfl⟩
 ·grind [wq]
 ·rw [aj (by simp [hw])] at h;exact h
def runT (P:Program) (ops:Array Oper) (W:Nat->Bool) (C:World->Prop) (Q:Act->World->Prop):List Nat->Act->World->Prop
 | [],a,w=>Q a w
 | i :: r,a,w=>
  match ops[i]? with
  | none=>False
  | some o=>
   if isE o.op=true then eP P ops o a w fun a' w'=>(W i=false->C w->C w')/\runT P ops W C Q r a' w'
   else ∃ v,Yl P ops C o v a/\(qa o.op=true->C w)/\runT P ops W C Q r (a.put o.dst v) w
def qi (ops:Array Oper) (W:Nat->Bool) (j i:Nat):Bool:=
 match ops[j]?,ops[i]? with
 | some x,some y=>x.apart ops y && y.apart ops x && !(isE x.op && isE y.op) && !(qa x.op && W i)
 | _,_=>false
def Np (ops:Array Oper) (l:List Nat):Prop:=∃ i o,i∈l/\ops[i]? = some o/\qa o.op=true
theorem jZ {j i:Nat} {x y:Oper} (h:qi ops W j i=true) (hj:ops[j]? = some x) (hi:ops[i]? = some y) :
  x.apart ops y=true/\y.apart ops x=true/\¬ (isE x.op=true/\isE y.op=true)/\¬ (qa x.op=true/\W i=true):=by
 unfold qi at h;rw [hj,hi] at h;simp only [aP,Bool.not_eq_true',Bool.and_eq_false_iff] at h;refine ⟨h.1.1.1,h.1.1.2,?_,?_⟩
 ·grind
 ·grind
theorem o0 (o6:∀ (j:Nat) (o:Oper) cs b,ops[j]? = some o->o.op ≠ .select cs b) {i:Nat} {o:Oper} (hi:ops[i]? = some o) (hR:isE o.op=false) :
  ∀ (rem:List Nat) (a:Act) (w:World),runT P ops W C Q rem a w->i∈rem->(∀ j∈rem,j≠i->π j < π i->qi ops W j i=true)->rem.Pairwise (fun a b=>π a < π b)->∃ v,Yl P ops C o v a
 | [],_,_,_,hm,_,_=>by cases hm
 | h :: rem,a,w,hr,hm,RL,hp=>by
  simp only [runT] at hr;by_cases yz:h=i
  ·grind
  ·have rL:i∈rem:=by grind
   have au:π h < π i:=(List.pairwise_cons.1 hp).1 i rL;split at hr
   ·exact hr.elim
   ·rename_i x hx;obtain ⟨ap1,ap2,_,_⟩:=jZ (RL h (by simp) yz au) hx hi;have ih:=fun a w hr=>o0 o6 hi hR rem a w hr rL (fun j hj=>RL j (gC _ hj)) (List.pairwise_cons.1 hp).2
    grind [Nn,Yl.same]
theorem zk {h:Nat} {rem:List Nat} (hl:Np ops rem):Np ops (h :: rem):=by
 obtain ⟨i,o,hm,ho,hL⟩:=hl;exact ⟨i,o,gC _ hm,ho,hL⟩
theorem j1 (o6:∀ (j:Nat) (o:Oper) cs b,ops[j]? = some o->o.op ≠ .select cs b) (Re:∀ j i x y,π j < π i->ops[i]? = some x->ops[j]? = some y->qa x.op=true->W j=false) {i:Nat} {o:Oper} (hi:ops[i]? = some o) :
  ∀ (rem:List Nat) (a:Act) (w:World),(Np ops rem->C w)->runT P ops W C Q rem a w->i∈rem->(∀ j∈rem,j≠i->π j < π i->qi ops W j i=true)->rem.Pairwise (fun a b=>π a < π b) ->
   eP P ops o a w (fun a' w'=>(W i=false->C w->C w')/\runT P ops W C Q (rem.erase i) a' w')
 | [],_,_,_,_,hm,_,_=>by cases hm
 | h :: rem,a,w,hC,hr,hm,RL,hp=>by
  by_cases yz:h=i
  ·grind [runT,nf]
  ·have rL:i∈rem:=by grind
   have au:π h < π i:=(List.pairwise_cons.1 hp).1 i rL;have yI:=(List.pairwise_cons.1 hp).2;rw [List.erase_cons_tail (sU yz)];have hr0:=hr;simp only [runT] at hr;split at hr
   ·exact hr.elim
   ·rename_i x hx;obtain ⟨ap1,ap2,hEE,hLW⟩:=jZ (RL h (by simp) yz au) hx hi;have hsx:=fun cs b=>o6 h x cs b hx;have V1:=fun cs b=>o6 i o cs b hi;have YT:∀ j∈rem,j≠i->π j < π i->qi ops W j i=true:=fun j hj=>RL j (gC _ hj);split at hr
    ·-- the head has an effect: so o has none
     rename_i hEx;have hRo:isE o.op=false:=by grind
     obtain ⟨v,hy⟩:=o0 (π:=π) o6 hi hRo (h :: rem) a w hr0 hm RL hp;have hci:qa o.op=true->C w:=fun hL=>hC ⟨i,o,hm,hi,hL⟩;refine nf hy hci ⟨fun _ h=>h,?_⟩;simp only [runT,hx,hEx,if_true];refine (zj ap2 hsx).2 ?_;refine jY ?_ (vy hr);rintro a' w' ⟨⟨Nq,mX⟩,u,rfl⟩;refine ⟨Nq,?_⟩
     have hC':Np ops rem->C w':=by
      intro hl;have zl:=hl;obtain ⟨l,z,hlm,hz,hL⟩:=hl;exact Nq (Re h l z x ((List.pairwise_cons.1 hp).1 l hlm) hz hx hL) (hC (zk zl))
     have ih:=j1 o6 Re hi rem _ w' hC' mX rL YT yI;have fG:=(Yl.same (u:=u) ap1 V1).2 hy
     grind [ng]
    ·rename_i hEx;obtain ⟨v,hy,hc,mX⟩:=hr;have ih:=j1 o6 Re hi rem (a.put x.dst v) w (fun hl=>hC (zk hl)) mX rL YT yI;refine jY ?_ (vy ((zj ap1 V1).1 ih))
     grind [runT,Yl.same]
def ordB (ops:Array Oper):Nat->Nat->Nat->Bool
 | 0,_,_=>false
 | n + 1,j,i=>
  match ops[i]? with
  | some o=>o.after.toList.any fun e=>Region.binds .any e && (Nat.beq e.on j || ordB ops n j e.on)
  | none=>false
def um (ops:Array Oper) (W:Nat->Bool) (π:Nat->Nat):Bool:=
 Region.noSelect ops &&
 (List.range ops.size).all fun i=>
  match ops[i]? with
   | some o=>o.after.toList.all (fun e=>!Region.binds .any e || (Nat.blt (π e.on) (π i) && Nat.blt e.on ops.size)) && (!qa o.op || (List.range ops.size).all fun j=>!Nat.blt (π j) (π i) || !W j)
   | none=>false
def DD (ops:Array Oper) (W:Nat->Bool) (π:Nat->Nat) (ex:Nat->Nat->Bool):Bool:=
 (List.range ops.size).all fun i=>(List.range ops.size).all fun j=>!Nat.blt (π j) (π i) || ex j i || ordB ops ops.size j i || qi ops W j i
def YU:Nat->Nat->Bool:=fun _ _=>false
def GO (ops:Array Oper) (W:Nat->Bool):Bool:=um ops W (fun i=>i) && DD ops W (fun i=>i) YU
def Dn (ops:Array Oper) (bP:Array Bool):Prop:=
 ∀ i o,ops[i]? = some o->bP.getD i true=true->∀ e∈o.after,Region.binds .any e=true->bP.getD e.on false=true
theorem nh {bP:Array Bool} (hd:Dn ops bP):∀ (n:Nat) (j i:Nat) (o:Oper),ops[i]? = some o->(∀ e∈o.after,Region.binds .any e=true->bP.getD e.on false=true)->ordB ops n j i=true->bP.getD j false=true
 | 0,j,i,o,_,_,h=>by simp [ordB] at h
 | n + 1,j,i,o,ho,jA,h=>by
  simp only [ordB,ho,List.any_eq_true,aP,Bool.or_eq_true] at h;obtain ⟨e,he,hb,hj⟩:=h;have KW:e∈o.after:=sU he;have h1:=jA e KW hb;rcases hj with hj | hj
  ·have:e.on=j:=sU hj;rw [<- this];exact h1
  ·cases hoe:ops[e.on]? with
   | none=>
    cases n with
    | zero=>simp [ordB] at hj
    | succ n=>simp [ordB,hoe] at hj
   | some o'=>
    have hg:bP.getD e.on true=true:=by grind
    exact nh hd n j e.on o' hoe (hd e.on o' hoe hg) hj
theorem Bf (hc:um ops W π=true):∀ j i x y,π j < π i->ops[i]? = some x->ops[j]? = some y->qa x.op=true->W j=false:=by
 simp only [um,aP,List.all_eq_true,List.mem_range] at hc;intro j i x y VM hx hy hL;have hj:=(Array.getElem?_eq_some_iff.1 hy).1;have:=hc.2 i (Array.getElem?_eq_some_iff.1 hx).1;simp only [hx,aP,Bool.or_eq_true,hL,Bool.not_true,Bool.false_eq_true,false_or,List.all_eq_true,List.mem_range,Bool.not_eq_true'] at this;rcases this.2 j hj with h1 | h1
 ·have:¬ Nat.blt (π j) (π i)=true:=by simp [h1]
  simp at this;omega
 ·exact h1
theorem zm (hc:um ops W π=true):∀ i x,ops[i]? = some x->∀ e∈x.after,Region.binds .any e=true->π e.on < π i/\e.on < ops.size:=by
 simp only [um,aP,List.all_eq_true,List.mem_range] at hc;intro i x hx e he hb;have:=hc.2 i (Array.getElem?_eq_some_iff.1 hx).1;simp only [hx,aP,List.all_eq_true,Bool.or_eq_true] at this;have h2:=this.1 e (sU he);rw [hb] at h2;simpa using h2
theorem DE (hc:um ops W π=true):∀ (j:Nat) (o:Oper) cs b,ops[j]? = some o->o.op ≠ .select cs b:=by
 simp only [um,aP] at hc;exact Region.noSelect_spec hc.1
theorem Bg:∀ {l:List Nat},l.Pairwise (fun a b=>π a < π b)->∀ {x y:Nat},x∈l->y∈l->x≠y->π x < π y∨π y < π x
 | [],_,x,y,hx,_,_=>by cases hx
 | h :: r,hp,x,y,hx,hy,bf=>by
  have yI:=List.pairwise_cons.1 hp;rcases cO hx with e1 | e1
  ·grind
  ·rcases cO hy with e2 | e2
   ·subst e2;exact .inr (yI.1 _ e1)
   ·exact Bg yI.2 e1 e2 bf
theorem o8 {Q':Exit->Act->World->Prop} (ex:Nat->Nat->Bool) (hcO:um ops W π=true) (hcS:DD ops W π ex=true) (hQ:∀ a w,Q a w->Q' .normal a w):∀ (qj:Nat) (bP:Array Bool) (rem:List Nat) (a:Act) (w:World),
  bP.size=ops.size->Dn ops bP->(∀ i,i∈rem↔i < ops.size/\bP.getD i true=false)->rem.Pairwise (fun a b=>π a < π b)->rem.length<=qj->(∀ j∈rem,∀ i∈rem,ex j i=false)->(Np ops rem->C w)->runT P ops W C Q rem a w ->
   wpAny P .any ops Q' qj bP a w:=by
 have o6:=DE hcO;have Re:=Bf hcO;have Nr:=zm hcO;simp only [DD,List.all_eq_true,List.mem_range,Bool.or_eq_true,Bool.not_eq_true'] at hcS;intro qj
 induction qj with
 | zero=>
  intro bP rem a w bZ Rf Ns hp hlen hex hC hr;have:rem=[]:=List.length_eq_zero_iff.1 (by omega);subst this;refine ⟨?_,hQ _ _ hr⟩;rw [List.eq_nil_iff_forall_not_mem];intro i hi;have:=(mem_ready.1 hi)
  grind
 | succ qj ih=>
  intro bP rem a w bZ Rf Ns hp hlen hex hC hr
  have V2:∀ i,i∈Region.ready .any ops bP->i∈rem:=by
   intro i hi;obtain ⟨h1,o,ho,_⟩:=mem_ready.1 hi
   grind
  refine ⟨fun h0=>?_,fun i hi=>?_⟩
  ·cases rem with
   | nil=>exact hQ _ _ hr
   | cons h rem=>
    have hh:=(Ns h).1 (by simp);have hx:ops[h]? = some ops[h]:=Array.getElem?_eq_getElem hh.1
    have:h∈Region.ready .any ops bP:=by
     refine mem_ready.2 ⟨hh.2,_,hx,fun e he hb=>?_⟩;obtain ⟨au,GP⟩:=Nr h _ hx e he hb;cases hg:bP.getD e.on false
     ·have ML:bP.getD e.on true=false:=by grind
      have hm:=(Ns e.on).2 ⟨by omega,ML⟩;rcases cO hm with e1 | e1
      ·rw [e1] at au;omega
      ·have:=(List.pairwise_cons.1 hp).1 _ e1;omega
     ·rfl
    rw [h0] at this;cases this
  ·have MM:=V2 i hi;obtain ⟨Rg,o,ho,jA⟩:=mem_ready.1 hi;have gK:=(Array.getElem?_eq_some_iff.1 ho).1
   have RL:∀ j∈rem,j≠i->π j < π i->qi ops W j i=true:=by
    intro j hj _ au;rcases hcS i gK j ((Ns j).1 hj).1 with ((h1 | h1) | h1) | h1
    ·have:¬ Nat.blt (π j) (π i)=true:=by simp [h1]
     simp at this;omega
    ·rw [hex j hj i MM] at h1;cases h1
    ·grind [nh]
    ·exact h1
   have aW:=j1 o6 Re ho rem a w hC hr MM RL hp;have hnd:rem.Nodup:=pS hp
   have key:∀ a' w',((W i=false->C w->C w')/\runT P ops W C Q (rem.erase i) a' w')->wpAny P .any ops Q' qj (bP.setIfInBounds i true) a' w':=by
    rintro a' w' ⟨Nq,mX⟩;refine ih (bP.setIfInBounds i true) (rem.erase i) a' w' (by simp [bZ]) ?_ ?_ (hp.sublist List.erase_sublist) (by rw [List.length_erase_of_mem MM];omega) (fun j hj i hi=>hex j (List.mem_of_mem_erase hj) i (List.mem_of_mem_erase hi)) ?_ mX
    ·intro k x hx hk e he hb;by_cases yF:k=i
     ·subst yF;rw [ho] at hx;simp only [oI] at hx;subst hx;exact getD_set_true (jA e he hb)
     ·rw [getD_set_ne true (Ne.symm yF)] at hk;exact getD_set_true (Rf k x hx hk e he hb)
    ·intro k;rw [List.Nodup.mem_erase_iff hnd];by_cases yF:k=i
     ·subst yF;simp [bZ,gK]
     ·rw [getD_set_ne true (Ne.symm yF)]
      grind
    ·rintro ⟨l,z,hl,hz,hL⟩;have zl:=List.mem_of_mem_erase hl;have bf:l≠i:=fun e=>by subst e;exact (List.Nodup.mem_erase_iff hnd).1 hl |>.1 rfl
     have V3:=hC ⟨l,z,zl,hz,hL⟩;refine Nq ?_ V3;rcases Nat.lt_or_ge (π i) (π l) with h1 | h1
     ·exact Re i l z o h1 hz ho hL
     ·have h0:π l≠π i:=by
       intro he;rcases Bg hp zl MM bf with h2 | h2<;>omega
      have:=RL l zl bf (by omega);obtain ⟨_,_,_,h4⟩:=jZ this hz ho
      grind
   unfold wpOp
   grind [eP,Dj,lS]
theorem iU {id:Nat} {Q':Exit->Act->World->Prop} {a:Act} {w:World} (hm:P.follows .mixedOrders=true) (hc:GO ops W=true) (hQ:∀ a w,Q a w->Q' .normal a w)
  (hC:C w.drew) (h:runT P ops W C Q (List.range ops.size) a w.drew):(Code.region id ops true).wp P Q' a w:=by
 refine wp_region_any hm ?_;simp only [GO,aP] at hc;refine o8 (π:=fun i=>i) YU hc.1 hc.2 hQ ops.size (Array.replicate ops.size false) (List.range ops.size) a _ (by simp) ?_ ?_ List.pairwise_lt_range (by simp) (fun _ _ _ _=>rfl) (fun _=>hC) h
 ·intro i o ho hl;have:i < ops.size:=(Array.getElem?_eq_some_iff.1 ho).1;simp [this] at hl
 ·simp_all
end
end Dv
end Go.Proofs.YtgjagnmeonoehaaGreat
namespace Go.Proofs.YtgjagnmeonoehaaGreat
namespace Dv
open Go Go.RowKit
structure Dr where
 ops:Array Oper
 W:Nat->Bool
 k:List It
 lH:St
 fin:Option (Bool->List (Nat × Sl)->St->Prop)
structure Dw where
 d:Dr
 E0:En
 wr:World
structure CC (E0:En) (bx:List (List DV)) (wr w:World):Prop where
 o:∀ (i:Nat) b cs,E0.β[i]? = some b->bx[i]? = some cs->cs ≠ []->w.heap[b]? = wr.heap[b]?
 c:∀ x v,E0.c x=some v->w.cell? x=some v
abbrev Dw.C (D:Dw) (w:World):Prop:=CC D.E0 D.d.lH.bx D.wr w
structure vz (E:En) (bx:List (List DV)) (w:World):Prop where
 len:E.β.length=bx.length
 bxs:∀ (i:Nat) cs,bx[i]? = some cs->cs ≠ []->∃ b ty arr,E.β[i]? = some b/\w.heap[b]? = some (.cells (List.toArray arr) ty (0,0))/\RvC E cs arr
theorem Env.em {E:En} {bx:List (List DV)} {w:World} (h:Env E bx w):vz E bx w:=⟨h.len,fun i cs hi _=>h.bxs i cs hi⟩
def YV:Option (List DV)->Bool
 | some []=>true
 | _=>false
theorem RM {o:Option (List DV)} (h:YV o=true):o=some []:=by
 cases o with
 | none=>cases h
 | some l=>
  cases l with
  | nil=>rfl
  | cons _ _=>cases h
def Dw.wc (D:Dw) (E:En):En:=⟨D.E0.c,E.β,E.tk,E.τ⟩
structure gp (X:Ctx) (D:Dw) (c:Bool) (E:En) (s0:List (Nat × Sl)) (st:St) (a:Act) (w:World):Prop where
 rel:Rel X E st a w
 x:Ext D.E0 E
 β:∃ r,E.β=D.E0.β ++ r
 t0:∀ i x,get s0 i=some x->(Holds a.tmps x.gs->∃ v,a.tmps[i]? = some v/\Rv (D.wc E) x.s v)/\(¬ Holds a.tmps x.gs->a.tmps[i]? = some undef)
 cc:c=true->D.C w
def Dw.Q (D:Dw) (X:Ctx) (a:Act) (w:World):Prop:=
 match D.d.fin with
 | none=>kq X D.d.k .normal a w
 | some F=>∃ c E s0 st,gp X D c E s0 st a w/\F c s0 st
def delF {γ:Type _} (d:Nat):List (Nat × Sl)->(List (Nat × Sl)->γ)->γ
 | [],K=>K []
 | p :: r,K=>
  match Nat.beq p.1 d with
  | true=>delF d r K
  | false=>delF d r (fun r'=>K (p :: r'))
theorem qk {γ:Type _} (d:Nat):∀ (l:List (Nat × Sl)) (K:List (Nat × Sl)->γ),delF d l K=K (l.filter fun p=>!Nat.beq p.1 d)
 | [],K=>rfl
 | p :: r,K=>by
  simp only [delF,List.filter_cons];cases h:Nat.beq p.1 d
  ·simp only [Bool.not_false,if_true];rw [qk d r]
  ·simp only [Bool.not_true,Bool.false_eq_true,if_false];rw [qk d r K]
theorem get_filter (d:Nat):∀ (l:List (Nat × Sl)) (i:Nat) (x:Sl),get (l.filter fun p=>!Nat.beq p.1 d) i=some x->i≠d/\get l i=some x
 | [],i,x,h=>by cases h
 | (k,y) :: r,i,x,h=>by
  simp only [List.filter_cons] at h;split at h
  ·rename_i hk
   have hk:k≠d:=by
    rintro rfl;simp at hk
   simp only [dm] at h ⊢;split at h
   ·grind
   ·rename_i yF;rw [aj yF];exact get_filter d r i x h
  ·rename_i hk;have hk:k=d:=sU hk;obtain ⟨h1,h2⟩:=get_filter d r i x h
   grind [dm]
def scal:DV->Bool
 | .v _=>true
 | .ud=>true
 | .loc _ _=>true
 | .el _ _=>true
 | _=>false
def put2 (s0:List (Nat × Sl)) (st:St) (dst:Option Nat) (b:Bool) (gs:List (Nat × Bool)) (s:DV) (K:List (Nat × Sl)->St->Prop):Prop:=
 match dst with
 | none=>K s0 st
 | some d=>
  match st with
  | ⟨sl,bx,tk⟩=>
   match b || scal s with
   | true=>K ((d,⟨gs,s⟩) :: s0) ⟨(d,⟨gs,s⟩) :: sl,bx,tk⟩
   | false=>delF d s0 fun jj=>K jj ⟨(d,⟨gs,s⟩) :: sl,bx,tk⟩
def optP:Option Prop->Prop
 | some p=>p
 | none=>False
def pR (X:Ctx) (D:Dr) (c:Bool) (s0:List (Nat × Sl)) (st:St) (G:List (Nat × Bool)) (op:Op):Option (Bool × DV):=
 match !isE op && (!qa op || c) with
 | false=>none
 | true=>
  match pureT X.P X.T ⟨s0,D.lH.bx,[]⟩ G op with
  | some s=>some (true,s)
  | none=>
   match qa op with
   | true=>none
   | false=>
    match pureT X.P X.T ⟨st.sl,[],[]⟩ G op with
    | some s=>some (false,s)
    | none=>none
def eR (X:Ctx) (D:Dr) (c:Bool) (s0:List (Nat × Sl)) (st:St) (op:Op) (K:Bool->DV->Prop):Option Prop:=
 match isE op with
 | true=>none
 | false=>
  match qa op with
  | true=>
   match c with
   | true=>effR X ⟨s0,D.lH.bx,[]⟩ op (K true)
   | false=>none
  | false=>
   match effR X ⟨s0,[],[]⟩ op (K true) with
   | some p=>some p
   | none=>effR X ⟨st.sl,[],[]⟩ op (K false)
def vA (X:Ctx) (D:Dr) (c:Bool) (i:Nat) (l:List (Nat × Oper)) (f:FuncId) (args:List DV) (dst:Option Nat) (s0:List (Nat × Sl)) (st:St):Prop:=
 Go.Proofs.Enters X.P f/\((∀ p∈l,D.ops[p.1]? = some p.2)->∀ (E0:En) (wr:World),vz E0 D.lH.bx wr->∀ E a w vs,gp X ⟨D,E0,wr⟩ c E s0 st a w->RvL E args vs->Calls X.P f vs.toArray w fun e w'=>∃ v,e = .returned v /\
  (D.W i=false->CC E0 D.lH.bx wr w->CC E0 D.lH.bx wr w')/\runT X.P D.ops D.W (CC E0 D.lH.bx wr) (Dw.Q ⟨D,E0,wr⟩ X) (l.map (·.1)) (a.put dst v) w')
def OpD (X:Ctx) (D:Dr) (c:Bool) (i:Nat) (l:List (Nat × Oper)) (o:Oper) (s0:List (Nat × Sl)) (st:St):Prop:=
 (∀ p∈l,D.ops[p.1]? = some p.2)->∀ (E0:En) (wr:World),vz E0 D.lH.bx wr->∀ E a w,gp X ⟨D,E0,wr⟩ c E s0 st a w->wq X.P o a w fun a' w'=>
  (D.W i=false->CC E0 D.lH.bx wr w->CC E0 D.lH.bx wr w')/\runT X.P D.ops D.W (CC E0 D.lH.bx wr) (Dw.Q ⟨D,E0,wr⟩ X) (l.map (·.1)) a' w'
def effE (X:Ctx) (D:Dr) (c:Bool) (i:Nat) (l:List (Nat × Oper)) (o:Oper) (s0:List (Nat × Sl)) (st:St) (K:Bool->List (Nat × Sl)->St->Prop):Prop:=
 match o.op with
 | .store t x y=>
  match o.dst with
  | some _=>False
  | none=>
   match D.W i with
   | true=>optP (effC X st o (K false s0))
   | false=>
    match stObj st o.op with
    | some j=>
     match Nat.ble D.lH.bx.length j || YV D.lH.bx[j]? with
     | true=>optP (effC X st o (K c s0))
     | false=>False
    | none=>False
 | .call cl=>
  match cl.callee with
  | .value f=>
   match rv st [] f,argsV st [] cl.args.toList with
   | some (.fn g first captured),some vs=>vA X D c i l g (first ++ vs ++ captured) o.dst s0 st
   | _,_=>False
  | _=>
   match o.dst with
   | some d=>optP (effC X st o fun st'=>delF d s0 fun jj=>K c jj st')
   | none=>False
 | _=>
  match o.dst with
  | some d=>
   match effC X st o fun st'=>
    match get st'.sl d with
    | some ⟨[],.loc j off⟩=>K c ((d,⟨[],.loc j off⟩) :: s0) st'
    | _=>delF d s0 fun jj=>K c jj st' with
   | some p=>p
   | none=>OpD X D c i l o s0 st
  | none=>False
def goD (X:Ctx) (D:Dr):Nat->Bool->List (Nat × Oper)->List (Nat × Sl)->St->Prop
 | _,c,[],s0,st=>
  match D.fin with
  | none=>go X 4000 D.k st
  | some F=>F c s0 st
 | 0,_,_ :: _,_,_=>False
 | n + 1,c,(i,o) :: r,s0,st=>
  match ez X.nt st.sl o.dst && ez X.nt s0 o.dst with
  | false=>False
  | true=>
   match o.guard with
   | none=>
    match isE o.op with
    | true=>effE X D c i r o s0 st fun c' jj st'=>goD X D n c' r jj st'
    | false=>
     match pR X D c s0 st [] o.op with
     | some (b,s)=>put2 s0 st o.dst b [] s (goD X D n c r)
     | none=>optP (eR X D c s0 st o.op fun b s=>put2 s0 st o.dst b [] s (goD X D n c r))
   | some (j,want)=>
    match gslot D.ops.toList j with
    | none=>False
    | some d=>
     match get st.sl d with
     | none=>False
     | some ⟨lF,_⟩=>
      match pR X D c s0 st ((d,want) :: lF) o.op with
      | some (b,s)=>
       match okG ((d,want) :: lF) o.dst with
       | true=>put2 s0 st o.dst b ((d,want) :: lF) s (goD X D n c r)
       | false=>False
      | none=>
       match get st.sl (lastG (d,want) lF).1 with
       | some ⟨[],.v (.bool b)⟩=>
        match lF with
        | []=>Br (b == want)
          (yE st d want fun KX=>resL d want s0 fun s2=>
           match isE o.op with
           | true=>effE X D c i r o s2 KX fun c' jj st'=>goD X D n c' r jj st'
           | false=>optP (eR X D c s2 KX o.op fun b s=>put2 s2 KX o.dst b [] s (goD X D n c r)))
          (match !qa o.op || c with
           | true=>yE st d (!want) fun KX=>resL d (!want) s0 fun s2=>put2 s2 KX o.dst true [] .ud (goD X D n c r)
           | false=>False)
        | _ :: _=>Br (b == (lastG (d,want) lF).2)
          (yE st (lastG (d,want) lF).1 (lastG (d,want) lF).2 fun KX=>resL (lastG (d,want) lF).1 (lastG (d,want) lF).2 s0 fun s2=>goD X D n c ((i,o) :: r) s2 KX)
          (yE st (lastG (d,want) lF).1 (!(lastG (d,want) lF).2) fun KX=>resL (lastG (d,want) lF).1 (!(lastG (d,want) lF).2) s0 fun s2=>goD X D n c ((i,o) :: r) s2 KX)
       | some ⟨[],.ud⟩=>
        match lF with
        | []=>
         match !qa o.op || c with
         | true=>put2 s0 st o.dst true [] .ud (goD X D n c r)
         | false=>False
        | _ :: _=>False
       | _=>False
section
variable {X:Ctx} {D:Dw} {c:Bool} {i:Nat} {s0:List (Nat × Sl)} {st:St} {E:En} {a:Act} {w:World}
theorem V4 (h:Ext D.E0 E):Ext D.E0 (D.wc E):=⟨fun _ _ h=>h,h.β,h.tk⟩
theorem GQ (h:Ext D.E0 E):Ext (D.wc E) E:=⟨h.c,fun _ _ h=>h,fun k q hq=>⟨q,hq,.inl ⟨rfl,rfl⟩⟩⟩
theorem Jo {E':En} (h:Ext E E'):Ext (D.wc E) (D.wc E'):=⟨fun _ _ h=>h,h.β,h.tk⟩
theorem gp.rl0 (h:gp X D c E s0 st a w) (hD:vz D.E0 D.d.lH.bx D.wr):Rl (D.wc E) D.d.lH.bx D.C s0 a where
 tm:=h.t0
 bxs:=fun i cs hi=>by
  by_cases bf:cs=[]
  ·subst bf;have au:i < D.E0.β.length:=by rw [hD.len];exact (gS hi).1
   exact ⟨_,[],h.x.β i _ (gE au),⟨cA _,by simp⟩,fun w' _ j u hj=>by simp at hj⟩
  ·obtain ⟨b,ty,arr,hb,hw,hc⟩:=hD.bxs i cs hi bf;exact ⟨b,arr,h.x.β i b hb,hc.mono (V4 h.x),fun w' hC j u hj=>by rw [cm ((hC.o i b cs hb hi bf).trans hw)];simpa using hj⟩
 cc:=fun x v hx w' hC=>hC.c x v hx
theorem gp.rlE (h:gp X D c E s0 st a w):Rl E [] (fun w'=>∀ x v,E.c x=some v->w'.cell? x=some v) st.sl a where
 tm:=h.rel.tm
 bxs:=fun i cs hi=>by simp at hi
 cc:=fun x v hx w' hC=>hC x v hx
theorem Jp {s:DV} {v:Value} (hs:scal s=true) (hv:Rv E s v):Rv (D.wc E) s v:=by
 cases s<;>simp [scal] at hs
 ·unfold Rv at hv ⊢;exact hv
 ·unfold Rv at hv ⊢;exact hv
 ·unfold Rv at hv ⊢;exact hv
 ·unfold Rv at hv ⊢;exact hv
theorem iY (h:gp X D c E s0 st a w) {dst:Option Nat} (hd:(ez X.nt st.sl dst && ez X.nt s0 dst)=true) (b:Bool) (gs:List (Nat × Bool)) (s:DV) (v:Value) (KR:∀ d,dst=some d->∀ p∈gs,p.1≠d)
  (uI:Holds a.tmps gs->Rv E s v) (n5:b=true->Holds a.tmps gs->Rv (D.wc E) s v) (Q8:¬ Holds a.tmps gs->v=undef) {K:List (Nat × Sl)->St->Prop} (hk:put2 s0 st dst b gs s K) :
  ∃ jj st',K jj st' /\ gp X D c E jj st' (a.put dst v) w:=by
 simp only [aP] at hd;have h1:=qc h.rel hd.1 gs s v KR uI Q8
 cases dst with
 | none=>exact ⟨s0,st,hk,h1,h.x,h.β,h.t0,h.cc⟩
 | some d=>
  obtain ⟨sl,bx,tk⟩:=st;have DF:=hd.2;simp only [ez,aP,Nat.blt_eq] at DF
  have hold:∀ i x,i≠d->get s0 i=some x->(Holds (a.put (some d) v).tmps x.gs->∃ u,(a.put (some d) v).tmps[i]? = some u/\Rv (D.wc E) x.s u)/\(¬ Holds (a.put (some d) v).tmps x.gs->(a.put (some d) v).tmps[i]? = some undef):=by
   intro i x hi hx;simp only [Act.put];rw [Array.getElem?_setIfInBounds_ne (Ne.symm hi),kV (lO DF.2 i x hx)];exact h.t0 i x hx
  simp only [put2] at hk;split at hk
  ·rename_i hb;refine ⟨_,_,hk,h1,h.x,h.β,fun i x hx=>?_,h.cc⟩;simp only [dm] at hx;split at hx
   ·rename_i Dc;subst Dc;simp only [oI] at hx;subst hx;have h2:(a.tmps.setIfInBounds d v)[d]? = some v:=by simp [Array.getElem?_setIfInBounds,h.rel.sz,DF.1]
    simp only [Act.put]
    grind [kV,Jp]
   all_goals grind
  ·rw [qk] at hk;refine ⟨_,_,hk,h1,h.x,h.β,fun i x hx=>?_,h.cc⟩;obtain ⟨h3,h4⟩:=get_filter d s0 i x hx;exact hold i x h3 h4
theorem lY (h:gp X D c E s0 st a w) {d:Nat} {b:Bool} (hd:a.tmps[d]? = some (.bool b)):gp X D c E (s0.map (bK d b)) (st.resolve d b) a w where
 rel:=kk h.rel hd
 x:=h.x
 β:=h.β
 t0:=by
  intro i y hy;simp only [get_map,Option.map_eq_some_iff] at hy;obtain ⟨x,hx,rfl⟩:=hy;have ht:=h.t0 i x hx;unfold bK;split
  ·rename_i hi;have gK:i=d:=sU hi;subst gK;exact ⟨fun _=>⟨_,hd,fB rfl⟩,fun hn=>(hn (bg _)).elim⟩
  ·split
   ·grind [Holds,sZ,bg]
   ·have he:Holds a.tmps (x.gs.filter fun p=>p != (d,b))↔Holds a.tmps x.gs:=by
     constructor
     ·intro hh p hp;by_cases Jh:p=(d,b)
      ·subst Jh;exact hd
      ·exact hh p (by simp [List.mem_filter,hp,Jh])
     ·intro hh p hp;exact hh p (List.mem_filter.1 hp).1
    simp only [he];exact ht
 cc:=h.cc
theorem ql {nt d:Nat} {b:Bool} {dst:Option Nat} (h:(ez nt st.sl dst && ez nt s0 dst)=true):(ez nt (st.resolve d b).sl dst && ez nt (s0.map (bK d b)) dst)=true:=by
 simp only [aP] at h ⊢;exact ⟨km h.1,km (st:=⟨s0,[],[]⟩) h.2⟩
theorem DG (hD:vz D.E0 D.d.lH.bx D.wr) (h:gp X D c E s0 st a w) {G:List (Nat × Bool)} (hG:Holds a.tmps G) {o:Oper} {b:Bool} {s:DV} (hp:pR X D.d c s0 st G o.op=some (b,s)) :
  isE o.op=false/\(qa o.op=true->c=true)/\∃ v,Rv E s v/\(b=true->Rv (D.wc E) s v)/\∀ w,(qa o.op=true->D.C w)->(execOp a.eval o).run X.P w = .ok (.value v) w:=by
 unfold pR at hp;split at hp
 ·cases hp
 ·rename_i hc;simp only [aP,Bool.not_eq_true',Bool.or_eq_true] at hc;refine ⟨hc.1,fun hL=>?_,?_⟩
  ·grind
  ·split at hp
   ·rename_i s' hs;simp only [oI,Prod.mk.injEq] at hp;obtain ⟨rfl,rfl⟩:=hp;obtain ⟨v,hv,hr⟩:=iC (st:=⟨s0,D.d.lH.bx,[]⟩) X.hT (h.rl0 hD) hG hs;exact ⟨v,Rv.mono (GQ h.x) hv,fun _=>hv,hr⟩
   ·split at hp
    ·cases hp
    ·rename_i hL;split at hp
     ·rename_i s' hs;simp only [oI,Prod.mk.injEq] at hp;obtain ⟨rfl,rfl⟩:=hp;obtain ⟨v,hv,hr⟩:=iC (st:=⟨st.sl,[],[]⟩) X.hT h.rlE hG hs
      grind
     ·cases hp
theorem Nt (hD:vz D.E0 D.d.lH.bx D.wr) (h:gp X D c E s0 st a w) {o:Oper} {K:Bool->DV->Prop} (hp:optP (eR X D.d c s0 st o.op K)) :
  isE o.op=false/\(qa o.op=true->c=true)/\∃ b s v,K b s/\Rv E s v/\(b=true->Rv (D.wc E) s v)/\∀ w,(qa o.op=true->D.C w)->(execOp a.eval o).run X.P w = .ok (.value v) w:=by
 unfold eR at hp;split at hp
 ·exact hp.elim
 ·rename_i hE;refine ⟨hE,?_⟩;split at hp
  ·rename_i hL;split at hp
   ·refine ⟨fun _=>rfl,?_⟩
    cases hs:effR X ⟨s0,D.d.lH.bx,[]⟩ o.op (K true) with
    | none=>rw [hs] at hp;exact hp.elim
    | some p=>
     rw [hs] at hp;obtain ⟨s,hk,v,hv,hr⟩:=lR (st:=⟨s0,D.d.lH.bx,[]⟩) (h.rl0 hD) hs hp;exact ⟨true,s,v,hk,Rv.mono (GQ h.x) hv,fun _=>hv,hr⟩
   ·exact hp.elim
  ·rename_i hL;have gO:∀ w':World,qa o.op=true->False:=fun w' h1=>by rw [hL] at h1;cases h1
   refine ⟨fun h1=>(by rw [hL] at h1;cases h1),?_⟩;split at hp
   ·rename_i p hs;obtain ⟨s,hk,v,hv,hr⟩:=lR (st:=⟨s0,[],[]⟩) (C:=D.C) ⟨h.t0,fun i cs hi=>by simp at hi,(h.rl0 hD).cc⟩ hs hp;exact ⟨true,s,v,hk,Rv.mono (GQ h.x) hv,fun _=>hv,fun w' _=>hr w' fun h1=>(gO w' h1).elim⟩
   ·cases hs:effR X ⟨st.sl,[],[]⟩ o.op (K false) with
    | none=>rw [hs] at hp;exact hp.elim
    | some p=>
     rw [hs] at hp;obtain ⟨s,hk,v,hv,hr⟩:=lR (st:=⟨st.sl,[],[]⟩) h.rlE hs hp
     grind
theorem RN {P:Program} {o:Oper} {K:Act->World->Prop} (h:wq P o a w K):wq P o a w fun a' w'=>K a' w' /\ ∃ u,a'=a.put o.dst u:=by grind [wq]
theorem DH (h:gp X D c E s0 st a w) {t:Option Nat} {E':En} {st':St} {a':Act} {w':World} (hs:Stp t E w E' w') (hr:Rel X E' st' a' w') (ht:∀ j,t=some j->D.E0.β.length<=j∨D.d.lH.bx[j]? = some []):D.C w->D.C w':=fun hC=>
 ⟨fun i b cs hb hcs bf=>by
  have jw:=h.x.β i b hb
  rw [hs.o i _ jw fun e=>by
   rcases ht i e with h1 | h1
   ·have:=(gS hb).1;omega
   ·rw [hcs] at h1;simp only [oI] at h1;exact bf h1]
  exact hC.o i b cs hb hcs bf,fun x v hx=>hr.env.sub x v (hs.x.c x v (h.x.c x v hx))⟩
theorem qm (h:gp X D c E s0 st a w) {t:Option Nat} {E':En} {st':St} {w':World} {c':Bool} {jj:List (Nat × Sl)} {dst:Option Nat} {u:Value} (hs:Stp t E w E' w') (hr:Rel X E' st' (a.put dst u) w') (vi:c'=true->D.C w')
  (ht0:∀ i x,get jj i=some x->(∃ d,dst=some d/\i=d/\scal x.s=true/\get st'.sl d=some x)∨(get s0 i=some x/\∀ d,dst=some d->i≠d)) (hd:ez X.nt s0 dst=true):gp X D c' E' jj st' (a.put dst u) w' where
 rel:=hr
 x:=by
  refine ⟨fun y v hy=>hs.x.c y v (h.x.c y v hy),fun j b hb=>hs.x.β j b (h.x.β j b hb),fun k q hq=>?_⟩;obtain ⟨q1,h1,h2⟩:=h.x.tk k q hq;obtain ⟨q2,h3,h4⟩:=hs.x.tk k q1 h1
  grind
 β:=by
  obtain ⟨r1,h1⟩:=h.β;obtain ⟨r2,h2⟩:=hs.β
  grind
 t0:=fun i x hx=>by
  rcases ht0 i x hx with ⟨d,rfl,rfl,Nc,hg⟩ | ⟨hg,bf⟩
  ·have:=hr.tm _ _ hg
   grind [Jp]
  ·have h1:=h.t0 i x hg
   cases dst with
   | none=>
    refine ⟨fun hh=>?_,h1.2⟩;obtain ⟨v,h2,h3⟩:=h1.1 hh;exact ⟨v,h2,Rv.mono (Jo hs.x) h3⟩
   | some d=>
    simp only [ez,aP,Nat.blt_eq] at hd;simp only [Act.put];rw [Array.getElem?_setIfInBounds_ne (Ne.symm (bf d rfl)),kV (lO hd.2 i x hg)];refine ⟨fun hh=>?_,h1.2⟩;obtain ⟨v,h2,h3⟩:=h1.1 hh;exact ⟨v,h2,Rv.mono (Jo hs.x) h3⟩
 cc:=vi
def YW (X:Ctx) (D:Dw) (l:List Nat) (G:Bool->List (Nat × Sl)->St->Prop):Prop:=∀ c s0 st,G c s0 st->∀ E a w,gp X D c E s0 st a w->runT X.P D.d.ops D.d.W D.C (D.Q X) l a w
theorem GR (hD:vz D.E0 D.d.lH.bx D.wr) {l:List (Nat × Oper)} (hl:∀ p∈l,D.d.ops[p.1]? = some p.2) {G:Bool->List (Nat × Sl)->St->Prop} (hG:YW X D (l.map (·.1)) G) {o:Oper} (hd:(ez X.nt st.sl o.dst && ez X.nt s0 o.dst)=true) (h:gp X D c E s0 st a w)
  (he:effE X D.d c i l o s0 st G):wq X.P o a w fun a' w'=>(D.d.W i=false->D.C w->D.C w')/\runT X.P D.d.ops D.d.W D.C (D.Q X) (l.map (·.1)) a' w':=by
 have yJ:=hd;simp only [aP] at yJ;have hlen:D.E0.β.length=D.d.lH.bx.length:=hD.len
 have core:∀ (K:St->Prop) (p:Prop) (c1:Bool),effC X st o K=some p->p->(c1=true->c=true)->(c1=true∨D.d.W i=false->∀ j,stObj st o.op=some j->D.E0.β.length<=j∨D.d.lH.bx[j]? = some []) ->
   (∀ st',K st' -> ∃ jj,G c1 jj st' /\ ∀ i x,get jj i=some x->(∃ d,o.dst=some d/\i=d/\scal x.s=true/\get st'.sl d=some x)∨(get s0 i=some x/\∀ d,o.dst=some d->i≠d)) ->
   wq X.P o a w fun a' w'=>(D.d.W i=false->D.C w->D.C w')/\runT X.P D.d.ops D.d.W D.C (D.Q X) (l.map (·.1)) a' w':=by
  intro K p c1 hp hpp Nu aW hK;refine lS ?_ (RN (lT yJ.1 h.rel hp hpp));rintro a' w' ⟨⟨st',E',hk,hr,hs⟩,u,rfl⟩;refine ⟨fun hW=>DH h hs hr (aW (.inr hW)),?_⟩;obtain ⟨jj,hg,ht0⟩:=hK st' hk;exact hG c1 jj st' hg E' _ w' (qm h hs hr (fun hc=>DH h hs hr (aW (.inl hc)) (h.cc (Nu hc))) ht0 yJ.2)
 have TR:(∀ t x y,o.op ≠ .store t x y)->∀ j,stObj st o.op=some j->D.E0.β.length<=j∨D.d.lH.bx[j]? = some []:=by simp_all [stObj]
 have YX:∀ (d:Nat) (st':St),o.dst=some d->∀ i x,get (s0.filter fun p=>!Nat.beq p.1 d) i=some x->(∃ d,o.dst=some d/\i=d/\scal x.s=true/\get st'.sl d=some x)∨(get s0 i=some x/\∀ d,o.dst=some d->i≠d):=by
  intro d st' jm i x hx;obtain ⟨h1,h2⟩:=get_filter d s0 i x hx
  grind
 unfold effE at he;split at he
 ·rename_i t x y oK;split at he
  ·exact he.elim
  ·rename_i jm;have vm:∀ st':St,∀ i x,get s0 i=some x->(∃ d,o.dst=some d/\i=d/\scal x.s=true/\get st'.sl d=some x)∨(get s0 i=some x/\∀ d,o.dst=some d->i≠d):=fun st' i x hx=>.inr ⟨hx,fun d hd=>by rw [jm] at hd;cases hd⟩;split at he
   ·rename_i hW
    cases hp:effC X st o (G false s0) with
    | none=>rw [hp] at he;exact he.elim
    | some p=>
     rw [hp] at he;exact core _ p false hp he (by intro h;cases h) (by rintro (h1 | h1);cases h1;rw [hW] at h1;cases h1) fun st' hk=>⟨s0,hk,vm st'⟩
   ·split at he
    ·rename_i j hj;split at he
     ·rename_i fF
      have fF:D.d.lH.bx.length<=j∨D.d.lH.bx[j]? = some []:=by
       rcases Bool.or_eq_true _ _ |>.mp fF with h1 | h1
       ·exact .inl (sU h1)
       ·exact .inr (RM h1)
      cases hp:effC X st o (G c s0) with
      | none=>rw [hp] at he;exact he.elim
      | some p=>
       rw [hp] at he;exact core _ p c hp he id (fun _ j' jw=>by rw [hj] at jw;cases jw;rw [hlen];exact fF) fun st' hk=>⟨s0,hk,vm st'⟩
     ·exact he.elim
    ·exact he.elim
 ·rename_i cl oK;split at he
  ·rename_i f uo;split at he
   ·rename_i g first captured vs hf zl
    obtain ⟨ki,YY⟩:=he;have eM:=h.rel.rl;have e1:=aR eM hf;unfold Rv at e1;obtain ⟨l1,r1,e1,Dp,hr1⟩:=e1;have hargs:=iB eM (bg _) _ _ zl;obtain ⟨dst,op,ty,pos,after,gu⟩:=o;obtain ⟨callee,args,argTypes⟩:=cl;simp only at oK uo;subst oK uo
    have hr:(execOp a.eval ⟨dst,.call ⟨.value f,args,argTypes⟩,ty,pos,after,gu⟩).run X.P w = .ok (.enter g (l1 ++ args.toList.map a.eval ++ r1).toArray) w:=by
     have e3:(l1.toArray ++ args.map a.eval ++ r1.toArray)=(l1 ++ args.toList.map a.eval ++ r1).toArray:=by apply Array.ext';simp
     simp only [execOp,resolve,e1,Deferred.ofValue,Sem.run_bind,Sem.run_pure,Result.andThen_ok,invoke,e3];exact ki _ _
    unfold wq;rw [hr];exact YY hl D.E0 D.wr hD E a w _ h ((Dp.append hargs).append hr1)
   ·exact he.elim
  ·split at he
   ·rename_i d jm
    cases hp:effC X st o (fun st'=>delF d s0 fun jj=>G c jj st') with
    | none=>rw [hp] at he;exact he.elim
    | some p=>
     rw [hp] at he;refine core _ p c hp he id (fun _=>TR (fun t x y h1=>by rw [oK] at h1;cases h1)) fun st' hk=>?_;rw [qk] at hk;exact ⟨_,hk,YX d st' jm⟩
   ·exact he.elim
 ·rename_i uq ue;split at he
  ·rename_i d jm
   cases hp:effC X st o (fun st'=>
    match get st'.sl d with
    | some ⟨[],.loc j off⟩=>G c ((d,⟨[],.loc j off⟩) :: s0) st'
    | _=>delF d s0 fun jj=>G c jj st') with
   | none=>rw [hp] at he;exact he hl D.E0 D.wr hD E a w h
   | some p=>
    rw [hp] at he;refine core _ p c hp he id (fun _=>TR uq) fun st' hk=>?_;split at hk
    ·rename_i j off hg;refine ⟨_,hk,fun i x hx=>?_⟩;simp only [dm] at hx;split at hx
     ·rename_i Dc;simp only [oI] at hx;subst hx;exact .inl ⟨d,jm,Dc.symm,rfl,hg⟩
     all_goals grind
    ·rw [qk] at hk;exact ⟨_,hk,YX d st' jm⟩
  ·exact he.elim
theorem gG (hD:vz D.E0 D.d.lH.bx D.wr):∀ n c l s0 st,goD X D.d n c l s0 st->(∀ p∈l,D.d.ops[p.1]? = some p.2)->∀ E a w,gp X D c E s0 st a w->runT X.P D.d.ops D.d.W D.C (D.Q X) (l.map (·.1)) a w
 | n,c,[],s0,st,hg,hl=>by
  intro E a w h;have hg:(match D.d.fin with | none=>go X 4000 D.d.k st | some F=>F c s0 st):=by cases n<;>simpa only [goD] using hg
  show D.Q X a w;unfold Dw.Q
  cases hf:D.d.fin with
  | none=>
   rw [hf] at hg;exact go_sound 4000 _ _ hg E a w h.rel
  | some F=>
   rw [hf] at hg;exact ⟨c,E,s0,st,h,hg⟩
 | 0,c,_ :: _,s0,st,hg,_=>by exact hg.elim
 | n + 1,c,(i,o) :: r,s0,st,hg,hl=>by
  intro E a w h;have ho:D.d.ops[i]? = some o:=hl (i,o) (by simp);have zl:∀ p∈r,D.d.ops[p.1]? = some p.2:=fun p hp=>hl p (gC _ hp);simp only [List.map_cons];have ih:∀ c s0 st,goD X D.d n c r s0 st->∀ E a w,gp X D c E s0 st a w->runT X.P D.d.ops D.d.W D.C (D.Q X) (r.map (·.1)) a w:=fun c s0 st hg=>gG hD n c r s0 st hg zl;have ihG:YW X D (r.map (·.1)) (fun c s0 st=>goD X D.d n c r s0 st):=fun c s0 st hg=>ih c s0 st hg;simp only [goD,Je,AX] at hg;split at hg
  ·exact hg.elim
  ·rename_i hd
   have fR:∀ (v:Value) jj st',isE o.op=false->Yl X.P D.d.ops D.C o v a->(qa o.op=true->c=true)->goD X D.d n c r jj st' -> gp X D c E jj st' (a.put o.dst v) w ->
     runT X.P D.d.ops D.d.W D.C (D.Q X) (i :: r.map (·.1)) a w:=by
    intro v jj st' hE hy jH nc cf;simp only [runT,ho];rw [aj (by simp [hE])];exact ⟨v,hy,fun hL=>h.cc (jH hL),ih c jj st' nc E _ w cf⟩
   have fS:∀ jj st',isE o.op=true->Region.wanted o (yielded D.d.ops a.tmps)=false->goD X D.d n c r jj st' -> gp X D c E jj st' (a.put o.dst undef) w ->
     runT X.P D.d.ops D.d.W D.C (D.Q X) (i :: r.map (·.1)) a w:=by
    intro jj st' hE hw nc cf;simp only [runT,ho];rw [ap hE];unfold eP;rw [aj (by simp [hw])];exact ⟨fun _ h=>h,ih c jj st' nc E _ w cf⟩
   have fE:∀ jj st',isE o.op=true->Region.wanted o (yielded D.d.ops a.tmps)=true->(ez X.nt st'.sl o.dst && ez X.nt jj o.dst)=true->effE X D.d c i r o jj st' (fun c' jj st'=>goD X D.d n c' r jj st')->gp X D c E jj st' a w ->
     runT X.P D.d.ops D.d.W D.C (D.Q X) (i :: r.map (·.1)) a w:=by
    intro jj st' hE hw yJ he cf;simp only [runT,ho];rw [ap hE];unfold eP;rw [ap hw];exact GR hD zl ihG yJ cf he
   have fP:∀ jj st',Region.wanted o (yielded D.d.ops a.tmps)=true->(ez X.nt st'.sl o.dst && ez X.nt jj o.dst)=true->optP (eR X D.d c jj st' o.op fun b s=>put2 jj st' o.dst b [] s (goD X D.d n c r))->gp X D c E jj st' a w ->
     runT X.P D.d.ops D.d.W D.C (D.Q X) (i :: r.map (·.1)) a w:=by
    intro jj st' hw yJ he cf;obtain ⟨hE,jH,b,s,v,hk,hv,n5,cd⟩:=Nt hD cf he;obtain ⟨s1,rA,pQ,ep⟩:=iY cf yJ b [] s v (fun _ _ p hp=>by cases hp) (fun _=>hv) (fun hb _=>n5 hb) (fun hn=>(hn (bg _)).elim) hk;exact fR v s1 rA hE (.inl ⟨hw,cd⟩) jH pQ ep
   have udE:∀ jj st',(ez X.nt st'.sl o.dst && ez X.nt jj o.dst)=true->gp X D c E jj st' a w->put2 jj st' o.dst true [] .ud (goD X D.d n c r)->∃ s1 rA,goD X D.d n c r s1 rA/\gp X D c E s1 rA (a.put o.dst undef) w:=by
    intro jj st' yJ cf hk;exact iY cf yJ true [] .ud undef (fun _ _ p hp=>by cases hp) (fun _=>sZ E) (fun _ _=>sZ _) (fun hn=>(hn (bg _)).elim) hk
   split at hg
   ·rename_i RI;have hw:Region.wanted o (yielded D.d.ops a.tmps)=true:=by simp [Region.wanted,RI]
    split at hg
    ·rename_i hE;exact fE s0 st hE hw hd hg h
    ·split at hg
     ·rename_i b s hs;obtain ⟨hE,jH,v,hv,n5,cd⟩:=DG hD h (bg _) hs;obtain ⟨s1,rA,pQ,ep⟩:=iY h hd b [] s v (fun _ _ p hp=>by cases hp) (fun _=>hv) (fun hb _=>n5 hb) (fun hn=>(hn (bg _)).elim) hg;exact fR v s1 rA hE (.inl ⟨hw,cd⟩) jH pQ ep
     ·exact fP s0 st hw hd hg h
   ·rename_i j want RI;split at hg
    ·exact hg.elim
    ·rename_i d KR;split at hg
     ·exact hg.elim
     ·rename_i lF sd MK;have vu:=wanted_spec h.rel RI KR MK;have GS:¬ Holds a.tmps ((d,want) :: lF)->Region.wanted o (yielded D.d.ops a.tmps)=false:=by grind
      split at hg
      ·rename_i b s hs;split at hg
       case h_2=>exact hg.elim
       rename_i bI;have YZ:=vt bI;by_cases hh:Holds a.tmps ((d,want) :: lF)
       ·obtain ⟨hE,jH,v,hv,n5,cd⟩:=DG hD h hh hs;obtain ⟨s1,rA,pQ,ep⟩:=iY h hd b _ s v YZ (fun _=>hv) (fun hb _=>n5 hb) (fun hn=>(hn hh).elim) hg;exact fR v s1 rA hE (.inl ⟨vu.2 hh,cd⟩) jH pQ ep
       ·obtain ⟨s1,rA,pQ,ep⟩:=iY h hd b _ s undef YZ (fun hn=>(hh hn).elim) (fun _ hn=>(hh hn).elim) (fun _=>rfl) hg;have jH:isE o.op=false/\(qa o.op=true->c=true):=by grind [pR]
        exact fR undef s1 rA jH.1 (.inr ⟨GS hh,rfl⟩) jH.2 pQ ep
      ·split at hg
       ·rename_i b gM;have ht0:=Dt h.rel gM
        cases lF with
        | nil=>
         simp only [lastG] at gM ht0;cases GL:(b == want)
         ·have GM:b = !want:=by cases b<;>cases want<;>simp_all
          have hg:=hg.f GL
          have hn:Region.wanted o (yielded D.d.ops a.tmps)=false:=by
           refine GS fun hh=>?_;have:=hh (d,want) (by simp)
           grind
          have hr:=lY (d:=d) (b:=!want) h (by rw [ht0,GM]);split at hg
          ·rename_i jH
           have V5:qa o.op=true->c=true:=by
            intro hL;simpa [hL] using jH
           obtain ⟨s1,rA,pQ,ep⟩:=udE _ _ (ql hd) hr hg;cases hE:isE o.op
           ·exact fR undef s1 rA hE (.inr ⟨hn,rfl⟩) V5 pQ ep
           ·exact fS s1 rA hE hn pQ ep
          ·exact hg.elim
         ·have X3:b=want:=sU GL;have hg:=hg.t GL
          grind [jU,bg,lY,ql]
        | cons g1 gr=>
         have key:∀ e,a.tmps[(lastG (d,want) (g1 :: gr)).1]? = some (.bool e)->goD X D.d n c ((i,o) :: r) (s0.map (bK (lastG (d,want) (g1 :: gr)).1 e)) (st.resolve (lastG (d,want) (g1 :: gr)).1 e)->_:=
          fun e Ji nc=>gG hD n c ((i,o) :: r) _ _ nc hl E a w (lY h Ji)
         cases GL:(b == (lastG (d,want) (g1 :: gr)).2)
         ·have hg:=hg.f GL;have GM:b = !(lastG (d,want) (g1 :: gr)).2:=by cases b<;>cases h0:(lastG (d,want) (g1 :: gr)).2<;>simp_all
          exact key _ (by rw [ht0,GM]) hg
         all_goals simp_all
       ·rename_i gM
        cases lF with
        | nil=>
         have ht0:=Ni h.rel gM;simp only [lastG] at ht0
         have hn:Region.wanted o (yielded D.d.ops a.tmps)=false:=by
          refine GS fun hh=>?_;have:=hh (d,want) (by simp);simp only at this;rw [ht0] at this;simp [undef] at this
         simp only at hg;split at hg
         ·rename_i jH
          have V5:qa o.op=true->c=true:=by
           intro hL;simpa [hL] using jH
          obtain ⟨s1,rA,pQ,ep⟩:=udE _ _ hd h hg;cases hE:isE o.op
          ·exact fR undef s1 rA hE (.inr ⟨hn,rfl⟩) V5 pQ ep
          ·exact fS s1 rA hE hn pQ ep
         ·exact hg.elim
        | cons g1 gr=>exact hg.elim
       ·exact hg.elim
def OpS (X:Ctx) (o:Oper) (st st':St):Prop:=∀ E a w,Rel X E st a w->wq X.P o a w fun a' w'=>∃ E',Rel X E' st' a' w' /\ Stp none E w E' w'
theorem OpS.g {o:Oper} {k:List It} {st st':St} (h:OpS X o st st') (hk:go X 4000 k st'):KO X o k st:=fun E a w hr=>by
 refine Dj (lS ?_ (h E a w hr));rintro a' w' ⟨E',mX,_⟩;exact go_sound 4000 _ _ hk E' a' w' mX
def nOps:Nat->List Oper->List (Nat × Oper)
 | _,[]=>[]
 | i,o :: r=>(i,o) :: nOps (i + 1) r
theorem vB:∀ (l:List Oper) (i:Nat) (p:Nat × Oper),p∈nOps i l->i<=p.1/\l[p.1 - i]? = some p.2
 | [],_,_,h=>by cases h
 | o :: r,i,p,h=>by
  rcases cO h with h | h
  ·subst h;simp
  ·have:=vB r (i + 1) p h
   grind
theorem vC:∀ (l:List Oper) (i:Nat),(nOps i l).map (·.1)=List.range' i l.length
 | [],_=>rfl
 | o :: r,i=>by simp only [nOps,List.map_cons,vC r (i + 1),List.length_cons,List.range'_succ]
theorem vD (hr:Rel X E st a w) {ops:Array Oper} {W:Nat->Bool} {k:List It}:gp X ⟨⟨ops,W,k,st,none⟩,E,w⟩ true E st.sl st a w where
 rel:=hr
 x:=Ext.refl E
 β:=⟨[],by simp⟩
 t0:=hr.tm
 cc:=fun _=>⟨fun _ _ _ _ _ _=>rfl,hr.env.sub⟩
theorem e9 {id:Nat} {ops:Array Oper} {k:List It} {st:St} (W:Nat->Bool) (hm:X.P.follows .mixedOrders=true) (hc:GO ops W=true)
  (h:goD X ⟨ops,W,k,st,none⟩ 3000 true (nOps 0 ops.toList) st.sl st):va X id ops k st:=by
 intro E a w hr;have mX:=kW hr;have hs:=vD mX (ops:=ops) (W:=W) (k:=k);refine iU (C:=CC E st.bx w.drew) (W:=W) (Q:=kq X k .normal) hm hc (fun a w h=>h) (hs.cc rfl) ?_;have:=gG (D:=⟨⟨ops,W,k,st,none⟩,E,w.drew⟩) mX.env.em 3000 true _ _ _ h (fun p hp=>by simpa using (vB _ _ p hp).2) E a w.drew hs;rw [vC] at this;rw [List.range_eq_range'];simp only [Array.length_toList] at this;exact this
def maskL:List Nat->Nat->List (List DV)->List (List DV)
 | _,_,[]=>[]
 | m,i,cs :: r=>(match m.contains i with | true=>[] | false=>cs) :: maskL m (i + 1) r
theorem rQ (m:List Nat):∀ (l:List (List DV)) (i:Nat),(maskL m i l).length=l.length
 | [],_=>rfl
 | cs :: r,i=>by simp [maskL,rQ m r]
theorem rR (m:List Nat):∀ (l:List (List DV)) (i j:Nat) cs,(maskL m i l)[j]? = some cs->cs=[]∨l[j]? = some cs
 | [],_,_,_,h=>by simp [maskL] at h
 | c :: r,i,0,cs,h=>by grind [maskL]
 | c :: r,i,j + 1,cs,h=>by
  simp only [maskL,List.getElem?_cons_succ] at h ⊢;exact rR m r (i + 1) j cs h
theorem uK {id:Nat} {ops:Array Oper} {k:List It} {st:St} (m:List Nat) (W:Nat->Bool) (hm:X.P.follows .mixedOrders=true) (hc:GO ops W=true)
  (h:goD X ⟨ops,W,k,⟨st.sl,maskL m 0 st.bx,st.tk⟩,none⟩ 3000 true (nOps 0 ops.toList) st.sl st):va X id ops k st:=by
 intro E a w hr;have mX:=kW hr;have hs:gp X ⟨⟨ops,W,k,⟨st.sl,maskL m 0 st.bx,st.tk⟩,none⟩,E,w.drew⟩ true E st.sl st a w.drew:=⟨mX,Ext.refl E,⟨[],by simp⟩,mX.tm,fun _=>⟨fun _ _ _ _ _ _=>rfl,mX.env.sub⟩⟩;refine iU (C:=CC E (maskL m 0 st.bx) w.drew) (W:=W) (Q:=kq X k .normal) hm hc (fun a w h=>h) (hs.cc rfl) ?_
 have V6:vz E (maskL m 0 st.bx) w.drew:=⟨by rw [rQ];exact mX.env.len,fun i cs hi bf=>by
  rcases rR m _ _ _ _ hi with h1 | h1
  ·exact (bf h1).elim
  ·exact mX.env.bxs i cs h1⟩
 have:=gG (D:=⟨⟨ops,W,k,⟨st.sl,maskL m 0 st.bx,st.tk⟩,none⟩,E,w.drew⟩) V6 3000 true _ _ _ h (fun p hp=>by simpa using (vB _ _ p hp).2) E a w.drew hs;rw [vC] at this;rw [List.range_eq_range'];simp only [Array.length_toList] at this;exact this
def Y0 (ops:Array Oper) (i:Nat):Bool:=
 match ops.toList[i]? with
 | some o=>
  match o.op with
  | .store ..=>true
  | _=>false
 | none=>false
theorem Jq {id:Nat} {ops:Array Oper} {k:List It} {st:St} (hm:X.P.follows .mixedOrders=true) (hc:GO ops (Y0 ops)=true)
  (h:goD X ⟨ops,Y0 ops,k,st,none⟩ 3000 true (nOps 0 ops.toList) st.sl st):va X id ops k st:=e9 (Y0 ops) hm hc h
theorem qp {D:Dr} {f:FuncId} {args bo:List DV} {d:Nat} {r:List (Nat × Oper)} (ki:Enters X.P f) (hd:(ez X.nt st.sl (some d) && ez X.nt s0 (some d))=true) {Φ:DV->List (List DV)->List TkE->Prop} (hc:Ev X.P f bo [] [] Φ) (ha:CcL [] 0 0 0 bo args)
  (hk:∀ yA,Φ yA [] []->put2 s0 st (some d) false [] yA (goD X D 3000 c r)) (aW:X.still=false:=by exact rfl):vA X D c i r f args (some d) s0 st:=by
 refine ⟨ki,fun hl E0 wr hD E a w vs h hv=>(te h.rel aW hc ha hv).mono ?_⟩;rintro e w' ⟨v,E',yA,rfl,cf,hr,hΦ,hm,hx,hβ⟩
 have hh:∀ b,b < w.heap.size->w'.heap[b]? = w.heap[b]?:=fun b hb=>hm.block b hb (by
  rintro (h1 | ⟨y,h1,_⟩)
  ·simp [En.cl] at h1
  ·simp [En.cl] at h1)
 have hs:Stp none E w E' w':=⟨hx,⟨[],by rw [hβ];simp⟩,fun j b hb _=>hh b (h.rel.env.bi (mG hb))⟩;have hC:=DH h hs cf (fun j hj=>by cases hj);refine ⟨v,rfl,fun _=>hC,?_⟩;have DI:gp X ⟨D,E0,wr⟩ c E' s0 st (a.put none v) w':=qm h hs cf (fun h1=>hC (h.cc h1)) (fun i x hx=>.inr ⟨hx,fun d hd=>by cases hd⟩) rfl;obtain ⟨s1,rA,pQ,ep⟩:=iY DI hd false [] yA v (fun _ _ p hp=>by cases hp) (fun _=>hr) (fun hb=>by cases hb) (fun hn=>(hn (bg _)).elim) (hk yA hΦ);exact gG (D:=⟨D,E0,wr⟩) hD 3000 c r _ _ pQ hl E' _ w' ep
theorem n7 {D:Dr} {f:FuncId} {args bo:List DV} {d:Nat} {r:List (Nat × Oper)} {yA:DV} (ki:Enters X.P f) (hc:EvP X.P f bo yA) (ha:CcL [] 0 0 0 bo args) (hd:(ez X.nt st.sl (some d) && ez X.nt s0 (some d))=true)
  (hk:put2 s0 st (some d) false [] yA (goD X D 3000 c r)) (aW:X.still=false:=by exact rfl):vA X D c i r f args (some d) s0 st:=
 qp ki hd hc ha (fun _ hr=>hr ▸ hk) aW
theorem eD {D:Dr} {i:Nat} {f:FuncId} {args:List DV} {dst:Option Nat} (hW:D.W i=true) (h:CallG X f args dst D.k st) (hf:D.fin=none:=by exact rfl):vA X D c i [] f args dst s0 st:=by
 refine ⟨h.1,fun _ E0 wr _ E a w vs hr hv=>(h.2.2 E a w vs hr.rel hv).mono ?_⟩;intro e w' hq
 cases e with
 | returned v=>
  refine ⟨v,rfl,⟨(fun hw=>by rw [hW] at hw;cases hw),?_⟩⟩;show Dw.Q ⟨D,E0,wr⟩ X _ _;unfold Dw.Q;simp only [hf];exact hq
 | _=>exact hq.elim
end
end Dv
end Go.Proofs.YtgjagnmeonoehaaGreat
namespace Go.Proofs.YtgjagnmeonoehaaGreat
namespace Dv
open Go Go.RowKit
section
variable {P:Program} {ops:Array Oper} {C:World->Prop} {Q:Act->World->Prop} {W:Nat->Bool} {π π':Nat->Nat}
theorem KY {o:Oper} {i:Nat} {a:Act} {w:World} {K:Act->World->Prop} {Q':Exit->Act->World->Prop} (ho:ops[i]? = some o) (h:eP P ops o a w K):wpOp P ops Q' i K a w:=by
 unfold wpOp
 grind [eP,Dj]
def chkT (ops:Array Oper) (x y:Nat):Bool:=
 (List.range ops.size).all fun i=>Nat.beq i x || Nat.beq i y ||
  match ops[i]? with
  | some o=>!isE o.op || ordB ops ops.size x i
  | none=>false
def ur (x y:Nat):Nat->Nat->Bool:=fun j i=>Nat.beq j x && Nat.beq i y
theorem GU {x y:Nat} {Q':Exit->Act->World->Prop} (KZ:x≠y) (X6:um ops W π=true) (Y4:DD ops W π (ur x y)=true) (h2O:um ops W π'=true) (Y5:DD ops W π' (ur y x)=true) (hT:chkT ops x y=true)
  (hQ:∀ a w,Q a w->Q' .normal a w):∀ (qj:Nat) (bP:Array Bool) (r1 r2:List Nat) (a:Act) (w:World),
  bP.size=ops.size->Dn ops bP->(∀ i,i∈r1↔i < ops.size/\bP.getD i true=false)->(∀ i,i∈r2↔i < ops.size/\bP.getD i true=false)->r1.Pairwise (fun a b=>π a < π b)->r2.Pairwise (fun a b=>π' a < π' b)->r1.length<=qj ->
   x∈r1->y∈r1->C w->runT P ops W C Q r1 a w->runT P ops W C Q r2 a w->wpAny P .any ops Q' qj bP a w:=by
 have o6:=DE X6;have Re:=Bf X6;have V7:=Bf h2O;have h1S':=Y4;have h2S':=Y5;simp only [DD,List.all_eq_true,List.mem_range,Bool.or_eq_true,Bool.not_eq_true'] at Y4 Y5;intro qj
 induction qj with
 | zero=>grind
 | succ qj ih=>
  intro bP r1 r2 a w bZ Rf jk A5 RO V8 hlen hx hy hC hr1 hr2;have h12:∀ i,i∈r1↔i∈r2:=fun i=>(jk i).trans (A5 i).symm;have K0:r1.Nodup:=pS RO;have yK:r2.Nodup:=pS V8;have Nr:=zm X6;refine ⟨fun h0=>?_,fun i hi=>?_⟩
  ·cases r1 with
   | nil=>cases hx
   | cons h rem=>
    have hh:=(jk h).1 (by simp);have hxx:ops[h]? = some ops[h]:=Array.getElem?_eq_getElem hh.1
    have:h∈Region.ready .any ops bP:=by
     refine mem_ready.2 ⟨hh.2,_,hxx,fun e he hb=>?_⟩;obtain ⟨au,GP⟩:=Nr h _ hxx e he hb;cases hg:bP.getD e.on false
     ·have ML:bP.getD e.on true=false:=by grind
      have hm:=(jk e.on).2 ⟨by omega,ML⟩;rcases cO hm with e1 | e1
      ·rw [e1] at au;omega
      ·have:=(List.pairwise_cons.1 RO).1 _ e1;omega
     ·rfl
    rw [h0] at this;cases this
  ·obtain ⟨Rg,o,ho,jA⟩:=mem_ready.1 hi;have gK:=(Array.getElem?_eq_some_iff.1 ho).1;have MM:i∈r1:=(jk i).2 ⟨gK,Rg⟩;have RP:i∈r2:=(h12 i).1 MM;have hZ:∀ j,j∈r1->ordB ops ops.size j i=true->False:=by grind [nh]
   have RQ:i≠y->∀ j∈r1,j≠i->π j < π i->qi ops W j i=true:=by
    intro X7 j hj _ au;rcases Y4 i gK j ((jk j).1 hj).1 with ((h1 | h1) | h1) | h1
    ·have:¬ Nat.blt (π j) (π i)=true:=by simp [h1]
     simp at this;omega
    ·simp [ur] at h1;exact (X7 h1.2).elim
    ·exact (hZ j hj h1).elim
    ·exact h1
   have V9:i≠x->∀ j∈r2,j≠i->π' j < π' i->qi ops W j i=true:=by
    intro Rh j hj _ au;rcases Y5 i gK j ((A5 j).1 hj).1 with ((h1 | h1) | h1) | h1
    ·have:¬ Nat.blt (π' j) (π' i)=true:=by simp [h1]
     simp at this;omega
    ·simp [ur] at h1;exact (Rh h1.2).elim
    all_goals grind
   have Wa:Dn ops (bP.setIfInBounds i true):=by
    intro k z hz hk e he hb;by_cases yF:k=i
    ·subst yF;rw [ho] at hz;simp only [oI] at hz;subst hz;exact getD_set_true (jA e he hb)
    ·rw [getD_set_ne true (Ne.symm yF)] at hk;exact getD_set_true (Rf k z hz hk e he hb)
   have Jr:∀ (rem:List Nat),rem.Nodup->(∀ i,i∈rem↔i < ops.size/\bP.getD i true=false)->∀ k,k∈rem.erase i↔k < ops.size/\(bP.setIfInBounds i true).getD k true=false:=by
    intro rem hnd Ns k;rw [List.Nodup.mem_erase_iff hnd];by_cases yF:k=i
    ·subst yF;simp [bZ,gK]
    ·rw [getD_set_ne true (Ne.symm yF)]
     grind
   refine KY ho ?_;by_cases Rh:i=x
   ·subst Rh;have aW:=j1 o6 Re ho r1 a w (fun _=>hC) hr1 MM (RQ KZ) RO;refine jY ?_ aW;rintro a' w' ⟨Nq,mX⟩;refine o8 (C:=C) (ur i y) X6 h1S' hQ qj _ (r1.erase i) a' w' (by simp [bZ]) Wa (Jr r1 K0 jk) (RO.sublist List.erase_sublist) (by rw [List.length_erase_of_mem MM];omega) ?_ ?_ mX
    ·intro j hj k _;cases jw:ur i y j k
     ·rfl
     ·simp_all [ur]
    ·rintro ⟨l,z,hl,hz,hL⟩;refine Nq ?_ hC;have zl:=List.mem_of_mem_erase hl;have bf:l≠i:=((List.Nodup.mem_erase_iff K0).1 hl).1;rcases Bg RO MM zl bf.symm with h1 | h1
     ·exact Re i l z o h1 hz ho hL
     ·have:=RQ KZ l zl bf h1;obtain ⟨_,_,_,h4⟩:=jZ this hz ho
      grind
   ·by_cases X7:i=y
    ·subst X7;have aW:=j1 o6 V7 ho r2 a w (fun _=>hC) hr2 RP (V9 (Ne.symm KZ)) V8;refine jY ?_ aW;rintro a' w' ⟨Nq,mX⟩;refine o8 (C:=C) (ur i x) h2O h2S' hQ qj _ (r2.erase i) a' w' (by simp [bZ]) Wa (Jr r2 yK A5) (V8.sublist List.erase_sublist) ?_ ?_ ?_ mX
     ·have e1:r1.length=r2.length:=(List.perm_iff_count.2 (fun z=>by rw [K0.count,yK.count];simp [h12 z])).length_eq;rw [List.length_erase_of_mem RP];omega
     ·intro j hj k _;cases jw:ur i x j k
      ·rfl
      ·simp_all [ur]
     ·rintro ⟨l,z,hl,hz,hL⟩;refine Nq ?_ hC;have zl:=List.mem_of_mem_erase hl;have bf:l≠i:=((List.Nodup.mem_erase_iff yK).1 hl).1;rcases Bg V8 RP zl bf.symm with h1 | h1
      ·exact V7 i l z o h1 hz ho hL
      ·have:=V9 (Ne.symm KZ) l zl bf h1;obtain ⟨_,_,_,h4⟩:=jZ this hz ho
       grind
    ·have hRo:isE o.op=false:=by
      simp only [chkT,List.all_eq_true,List.mem_range,Bool.or_eq_true,Nat.beq_eq] at hT
      grind
     obtain ⟨v,hyv⟩:=o0 o6 ho hRo r1 a w hr1 MM (RQ X7) RO;have Rx:=j1 o6 Re ho r1 a w (fun _=>hC) hr1 MM (RQ X7) RO;have CV:=j1 o6 V7 ho r2 a w (fun _=>hC) hr2 RP (V9 Rh) V8;have pQ:=ng hyv (fun _=>hC) Rx;have Nv:=ng hyv (fun _=>hC) CV;refine nf hyv (fun _=>hC) ?_
     exact ih _ (r1.erase i) (r2.erase i) _ w (by simp [bZ]) Wa (Jr r1 K0 jk) (Jr r2 yK A5) (RO.sublist List.erase_sublist) (V8.sublist List.erase_sublist) (by rw [List.length_erase_of_mem MM];omega)
      ((List.Nodup.mem_erase_iff K0).2 ⟨Ne.symm Rh,hx⟩) ((List.Nodup.mem_erase_iff K0).2 ⟨Ne.symm X7,hy⟩) hC pQ.2 Nv.2
end
def selL (ops:List Oper):List Nat->List (Nat × Oper)
 | []=>[]
 | i :: r=>
  match ops[i]? with
  | some o=>(i,o) :: selL ops r
  | none=>selL ops r
theorem Nx {ops:List Oper} {l:List Nat} {p:Nat × Oper} (h:p∈selL ops l):ops[p.1]? = some p.2:=by
 induction l with
 | nil=>cases h
 | cons i r ih=>grind [selL]
def plc:List Nat->Nat->Nat
 | [],_=>0
 | x :: r,i=>if Nat.beq x i then 0 else plc r i + 1
def Ny (ops:Array Oper) (l:List Nat):Bool:=
 (selL ops.toList l).map (·.1) == l && (List.range ops.size).all (fun i=>l.contains i) && l.all (fun i=>Nat.blt i ops.size) && Nat.ble l.length ops.size && pwB (plc l) l
where pwB (f:Nat->Nat):List Nat->Bool
 | []=>true
 | x :: r=>r.all (fun y=>Nat.blt (f x) (f y)) && pwB f r
theorem vE {f:Nat->Nat}:∀ {l:List Nat},Ny.pwB f l=true->l.Pairwise (fun a b=>f a < f b)
 | [],_=>List.Pairwise.nil
 | x :: r,h=>by
  simp only [Ny.pwB,aP,List.all_eq_true,Nat.blt_eq] at h;exact List.pairwise_cons.2 ⟨h.1,vE h.2⟩
def Y6 (ops:Array Oper) (W:Nat->Bool) (l l':List Nat) (x y:Nat):Bool:=
 !Nat.beq x y && Nat.blt x ops.size && Nat.blt y ops.size && Ny ops l && Ny ops l' && um ops W (plc l) && DD ops W (plc l) (ur x y) && um ops W (plc l') && DD ops W (plc l') (ur y x) && chkT ops x y
def swp (i j k:Nat):Nat:=
 match Nat.beq k i with
 | true=>j
 | false=>
  match Nat.beq k j with
  | true=>i
  | false=>k
theorem lZ (i j k:Nat):swp i j (swp i j k)=k:=by
 have hb:∀ a b:Nat,Nat.beq a b=decide (a=b):=fun a b=>by
  by_cases h:a=b
  ·subst h;simp
  ·rw [decide_eq_false h];cases h1:Nat.beq a b
   ·rfl
   ·exact (h (sU h1)).elim
 grind [swp]
mutual
def renD (f:Nat->Nat):DV->DV
 | .v x=>.v x
 | .ud=>.ud
 | .agg l=>.agg (renL f l)
 | .tup l=>.tup (renL f l)
 | .sl e es tk=>.sl e es tk
 | .pt cs o=>.pt cs o
 | .loc i o=>.loc (f i) o
 | .el i o=>.el (f i) o
 | .ms i e o l c=>.ms (f i) e o l c
 | .fn g l r=>.fn g (renL f l) (renL f r)
 | .pV t x=>.pV t (renD f x)
def renL (f:Nat->Nat):List DV->List DV
 | []=>[]
 | d :: r=>renD f d :: renL f r
end
def renS (f:Nat->Nat):List (Nat × Sl)->List (Nat × Sl)
 | []=>[]
 | (k,⟨gs,s⟩) :: r=>(k,⟨gs,renD f s⟩) :: renS f r
def renO (f:Nat->Nat):List (List DV)->List (List DV)
 | []=>[]
 | cs :: r=>renL f cs :: renO f r
def swL {α:Type} (i j:Nat) (l:List α):List α:=
 match l[i]?,l[j]? with
 | some a,some b=>(l.set i b).set j a
 | _,_=>l
def fk (i j:Nat) (S:St):St:=⟨renS (swp i j) S.sl,swL i j (renO (swp i j) S.bx),S.tk⟩
theorem vF (f:Nat->Nat):∀ (l:List (List DV)) (k:Nat),(renO f l)[k]? = (l[k]?).map (renL f)
 | [],k=>by simp [renO]
 | c :: r,0=>by simp [renO]
 | c :: r,k + 1=>by simp only [renO,List.getElem?_cons_succ];exact vF f r k
theorem er (f:Nat->Nat):∀ (l:List (List DV)),(renO f l).length=l.length
 | []=>rfl
 | c :: r=>by simp [renO,er f r]
theorem DJ (f:Nat->Nat):∀ (l:List (Nat × Sl)) (k:Nat),get (renS f l) k=(get l k).map fun x=>⟨x.gs,renD f x.s⟩
 | [],k=>rfl
 | (i,⟨gs,s⟩) :: r,k=>by
  simp only [renS,dm];split
  ·rfl
  ·exact DJ f r k
theorem fm {α:Type} (i j:Nat) (l:List α):(swL i j l).length=l.length:=by
 unfold swL;split<;>simp
theorem gj {α:Type} {i j:Nat} {l:List α} (hi:i < l.length) (hj:j < l.length) (k:Nat):(swL i j l)[k]? = l[swp i j k]?:=by
 have hb:∀ a b:Nat,Nat.beq a b=true↔a=b:=fun a b=>by simp
 grind [swL,swp]
theorem RR {α:Type} {i j:Nat} {l:List α} (hi:i < l.length) (hj:j < l.length):swL i j (swL i j l)=l:=by
 apply List.ext_getElem?
 grind [gj,fm,lZ]
section
variable {E:En} {i j:Nat}
mutual
theorem Rv.GV (hi:i < E.β.length) (hj:j < E.β.length):∀ {d:DV} {v:Value},Rv E (renD (swp i j) d) v->Rv ⟨E.c,swL i j E.β,E.tk,E.τ⟩ d v
 | .v x,v,h=>by simp only [renD] at h;unfold Rv at h ⊢;exact h
 | .ud,v,h=>by simp only [renD] at h;unfold Rv at h ⊢;exact h
 | .sl e es tk,v,h=>by simp only [renD] at h;unfold Rv at h ⊢;exact h
 | .pt cs o,v,h=>by simp only [renD] at h;unfold Rv at h ⊢;exact h
 | .loc k o,v,h=>by grind [renD,Rv,swL,gj]
 | .el k o,v,h=>by grind [renD,Rv,swL,gj]
 | .ms k e o l c,v,h=>by grind [renD,Rv,swL,gj]
 | .agg l,v,h=>by
  simp only [renD] at h;unfold Rv at h ⊢;obtain ⟨vs,h1,h2,h3⟩:=h;exact ⟨vs,h1,RvL.GV hi hj h2,h3⟩
 | .tup l,v,h=>by
  simp only [renD] at h;unfold Rv at h ⊢;obtain ⟨vs,h1,h2⟩:=h;exact ⟨vs,h1,RvL.GV hi hj h2⟩
 | .fn g l r,v,h=>by
  simp only [renD] at h;unfold Rv at h ⊢;obtain ⟨l',r',h1,h2,h3⟩:=h;exact ⟨l',r',h1,RvL.GV hi hj h2,RvL.GV hi hj h3⟩
 | .pV t x,v,h=>by
  simp only [renD] at h;unfold Rv at h ⊢;obtain ⟨z,h1,h2⟩:=h;exact ⟨z,h1,Rv.GV hi hj h2⟩
theorem RvL.GV (hi:i < E.β.length) (hj:j < E.β.length):∀ {l:List DV} {vs:List Value},RvL E (renL (swp i j) l) vs->RvL ⟨E.c,swL i j E.β,E.tk,E.τ⟩ l vs
 | [],vs,h=>by simp only [renL,RvL] at h ⊢;exact h
 | d :: r,vs,h=>by
  simp only [renL,RvL] at h ⊢;obtain ⟨v,s,h1,h2,h3⟩:=h;exact ⟨v,s,h1,Rv.GV hi hj h2,RvL.GV hi hj h3⟩
end
end
theorem Js {α:Type} {i j:Nat} {l:List α} (hi:i < l.length) (hj:j < l.length) {x:α}:x∈swL i j l↔x∈l:=by grind [swL,gj,fm,RR]
theorem K1 {i j:Nat} {l:List Nat} (hi:i < l.length) (hj:j < l.length) (h:l.Nodup):(swL i j l).Nodup:=by grind [swp,fm,swL,gj,lZ]
theorem rS {P:Program} {ops:Array Oper} {W:Nat->Bool} {C:World->Prop} {Q Q':Act->World->Prop} (hQ:∀ a w,Q a w->Q' a w):∀ {l:List Nat} {a:Act} {w:World},runT P ops W C Q l a w->runT P ops W C Q' l a w
 | [],a,w,h=>hQ _ _ h
 | i :: r,a,w,h=>by
  simp only [runT] at h ⊢;split at h
  ·exact h.elim
  ·split at h
   ·rename_i hE;rw [ap hE];exact jY (fun a w hk=>⟨hk.1,rS hQ hk.2⟩) h
   ·rename_i hE;rw [aj hE];obtain ⟨v,h1,h2,h3⟩:=h;exact ⟨v,h1,h2,rS hQ h3⟩
section
variable {X:Ctx} {E:En} {S:St} {a:Act} {w:World} {i j:Nat}
theorem DK (hX:X.bt=[]) (h:Rel X E (fk i j S) a w) (ME:X.n0<=i) (Di:X.n0<=j) (hi:i < S.bx.length) (hj:j < S.bx.length):Rel X ⟨E.c,swL i j E.β,E.tk,E.τ⟩ S a w:=by
 have hlen:E.β.length=S.bx.length:=by
  rw [h.env.len];simp only [fk,fm,er]
 have gK:i < E.β.length:=by rw [hlen];exact hi
 have jw:j < E.β.length:=by rw [hlen];exact hj
 have kG:∀ k,(fk i j S).bx[k]? = (S.bx[swp i j k]?).map (renL (swp i j)):=fun k=>by grind [fk,gj,er,vF]
 exact {
  env:={
   len:=by rw [fm];exact hlen
   tl:=h.env.tl
   bxs:=fun k cs hk=>by
    obtain ⟨b,ty,arr,hb,hw,hc⟩:=h.env.bxs (swp i j k) (renL (swp i j) cs) (by rw [kG,lZ,hk];rfl);exact ⟨b,ty,arr,by rw [gj gK jw];exact hb,hw,RvL.GV gK jw hc.1,hc.2⟩
   inj:=K1 gK jw h.env.inj
   sub:=h.env.sub
   pc:=fun x v hx hm=>h.env.pc x v hx ((Js gK jw).1 hm)
   bY:=fun k q y hq hy=>by
    rcases h.env.bY k q y hq hy with h1 | ⟨g,cap,cur,rfl,h1,h2,h3,h4,h5,h6⟩
    ·exact .inl h1
    ·exact .inr ⟨g,cap,cur,rfl,h1,h2,h3,h4,fun hm=>h5 ((Js gK jw).1 hm),h6⟩
   ji:=h.env.ji }
  tk:=h.tk
  sz:=h.sz
  tm:=fun k x hx=>by
   have:=h.tm k ⟨x.gs,renD (swp i j) x.s⟩ (by simp only [fk];rw [DJ,hx];rfl)
   grind [Rv.GV]
  df:=h.df
  nw:={
   c:=h.nw.c
   cn:=h.nw.cn
   β:=by
    obtain ⟨r,hr,hl⟩:=h.nw.β;have hE0:X.E0.β.length=X.n0:=X.oH;refine ⟨(swL i j E.β).drop X.n0,?_,fun b hb=>?_⟩
    ·grind [swL,gj,swp]
    ·have hnd:=h.env.inj;obtain ⟨k,hk⟩:=List.mem_iff_getElem?.1 hb;rw [List.getElem?_drop,gj gK jw] at hk;have hge:X.n0<=swp i j (X.n0 + k):=by grind [swp]
     rw [hr,List.getElem?_append_right (by omega)] at hk;exact hl b (mG hk)
   tk:=h.nw.tk
   tn:=h.nw.tn
   l0:=h.nw.l0 }
  fr:=h.fr
  sh:=h.sh
  bt:=.nil hX }
theorem Jt (hX:X.bt=[]) (h:Rel X E (fk i j S) a w) (ME:X.n0<=i) (Di:X.n0<=j) (hi:i < S.bx.length) (hj:j < S.bx.length):∃ E',Rel X E' S a w:=⟨_,DK hX h ME Di hi hj⟩
end
def Ju (sl:List (Nat × Sl)):List (Nat × Sl)->Prop
 | []=>True
 | p :: r=>get sl p.1=some p.2/\Ju sl r
theorem vG {sl:List (Nat × Sl)}:∀ {l:List (Nat × Sl)},Ju sl l->∀ i x,get l i=some x->get sl i=some x
 | [],_,i,x,hx=>by cases hx
 | (k,y) :: r,h,i,x,hx=>by
  simp only [dm] at hx;split at hx
  ·rename_i yF;subst yF;simp only [oI] at hx;subst hx;exact h.1
  ·exact vG h.2 i x hx
def uniqS:List Nat->List (Nat × Sl)->List (Nat × Sl)
 | _,[]=>[]
 | m,p :: r=>
  match muB m p.1 with
  | true=>uniqS m r
  | false=>p :: uniqS (p.1 :: m) r
theorem rT:∀ (l:List (Nat × Sl)) (m:List Nat) (i:Nat),muB m i=false->get (uniqS m l) i=get l i
 | [],_,_,_=>rfl
 | (k,x) :: r,m,i,h=>by
  simp only [uniqS]
  cases hm:muB m k with
  | true=>
   simp only;rw [rT r m i h,dm,aj];rintro rfl;rw [hm] at h;cases h
  | false=>
   simp only [dm];by_cases hk:k=i
   ·rw [ap hk,ap hk]
   ·rw [aj hk,aj hk]
    exact rT r (k :: m) i (by simp only [muB,h,Bool.or_false];cases hb:Nat.beq k i with
     | true=>exact (hk (Nat.eq_of_beq_eq_true hb)).elim
     | false=>rfl)
def o9 (s S:St):Prop:=s.bx=S.bx/\s.tk=S.tk/\Ju s.sl (uniqS [] S.sl)
theorem Nz {X:Ctx} {E:En} {s S:St} {a:Act} {w:World} (h:Rel X E s a w) (hs:o9 s S):Rel X E S a w where
 env:=by rw [<- hs.1];exact h.env
 tk:=by rw [<- hs.2.1];exact h.tk
 sz:=h.sz
 tm:=fun i x hx=>h.tm i x (vG hs.2.2 i x (by rw [rT _ _ _ rfl];exact hx))
 df:=h.df
 nw:=h.nw
 fr:=h.fr
 sh:=h.sh
 bt:=h.bt
theorem n8 {X:Ctx} {id:Nat} {ops:Array Oper} {k:List It} {st:St} (W:Nat->Bool) (x y:Nat) (l l':List Nat) (i j:Nat) (hm:X.P.follows .mixedOrders=true) (hc:Y6 ops W l l' x y=true) (S:St)
  (h:goD X ⟨ops,W,[.Jc fun s=>s=S],st,none⟩ 3000 true (selL ops.toList l) st.sl st) (h':goD X ⟨ops,W,[.Jc fun s=>o9 s (fk i j S)],st,none⟩ 3000 true (selL ops.toList l') st.sl st)
  (za:(Nat.ble X.n0 i && Nat.ble X.n0 j && Nat.blt i S.bx.length && Nat.blt j S.bx.length)=true) (hk:go X 4000 k S) (hX:X.bt=[]:=by exact rfl):va X id ops k st:=by
 intro E a w hr;have mX:=kW hr;simp only [aP,Nat.ble_eq,Nat.blt_eq] at za;simp only [Y6,Ny,aP,List.all_eq_true,Nat.blt_eq,Nat.ble_eq,beq_iff_eq,List.mem_range,Bool.not_eq_true'] at hc;obtain ⟨⟨⟨⟨⟨⟨⟨⟨⟨KZ,CW⟩,Yx⟩,⟨⟨⟨h1a,X8⟩,h1c⟩,hlen⟩,h1d⟩,⟨⟨⟨h2a,h2b⟩,h2c⟩,_⟩,h2d⟩,X6⟩,Y4⟩,h2O⟩,Y5⟩,hT⟩:=hc
 have hQ:∀ S',(S'=S∨S'=fk i j S)->∀ a w,(∃ st E,Rel X E st a w/\(st=S' ∨ o9 st S'))->kq X k .normal a w:=by
  rintro S' hS a w ⟨rA,E1,hrel0,Dg⟩;have cf:Rel X E1 S' a w:=by grind [Nz]
  rcases hS with rfl | rfl
  ·exact go_sound 4000 _ _ hk E1 a w cf
  ·obtain ⟨E2,vx⟩:=Jt hX cf za.1.1.1 za.1.1.2 za.1.2 za.2;exact go_sound 4000 _ _ hk E2 a w vx
 have key:∀ (S':St),(S'=S∨S'=fk i j S)->∀ (l:List Nat),(selL ops.toList l).map (·.1)=l->∀ J:St->Prop,(∀ s,J s->s=S' ∨ o9 s S')->(goD X ⟨ops,W,[.Jc J],st,none⟩ 3000 true (selL ops.toList l) st.sl st) ->
   runT X.P ops W (CC E st.bx w.drew) (fun a w=>kq X k .normal a w) l a w.drew:=by
  intro S' hS l hl J hJ h;have hs:=vD mX (ops:=ops) (W:=W) (k:=[.Jc J]);have:=gG (D:=⟨⟨ops,W,[.Jc J],st,none⟩,E,w.drew⟩) mX.env.em 3000 true _ _ _ h (fun p hp=>by simpa using Nx hp) E a w.drew hs;rw [hl] at this;exact rS (fun a w ⟨st,E1,h1,h2⟩=>hQ S' hS a w ⟨st,E1,h1,hJ st h2⟩) this
 have e1:=key S (.inl rfl) l h1a _ (fun s hs=>.inl hs) h;have e2:=key (fk i j S) (.inr rfl) l' h2a _ (fun s hs=>.inr hs) h';refine wp_region_any hm ?_
 have CY:∀ (l:List Nat),(∀ i,i < ops.size->l.contains i=true)->(∀ i∈l,i < ops.size)->∀ i,i∈l↔i < ops.size/\(Array.replicate ops.size false).getD i true=false:=by
  intro l ha hb i;constructor
  all_goals simp_all
 have hxy':x≠y:=by
  intro e;subst e;simp at KZ
 refine GU (C:=CC E st.bx w.drew) (π:=plc l) (π':=plc l') (Q:=kq X k .normal) hxy' X6 Y4 h2O Y5 hT (fun a w h=>h) ops.size (Array.replicate ops.size false) l l' a _ (by simp) ?_ (CY l X8 h1c) (CY l' h2b h2c) (vE h1d) (vE h2d) hlen
  (by simpa using X8 x CW) (by simpa using X8 y Yx) ⟨fun _ _ _ _ _ _=>rfl,mX.env.sub⟩ e1 e2
 intro i o ho hl;have:i < ops.size:=(Array.getElem?_eq_some_iff.1 ho).1;simp [this] at hl
end Dv
end Go.Proofs.YtgjagnmeonoehaaGreat
namespace Go.Proofs.YtgjagnmeonoehaaGreat
namespace Dv
open Go Go.RowKit
section
variable {X:Ctx} {st:St} {k:List It} {E:En} {a:Act} {w:World}
noncomputable def En.Jv (E:En) (w:World):En:=⟨rN E 0 w,[],[],[]⟩
theorem RS {bx:List (List DV)} (h:Env E bx w):Env (E.Jv w) [] w where
 len:=rfl
 tl:=rfl
 bxs:=by simp
 inj:=List.nodup_nil
 sub:=fun x u hx=>by
  rcases eC hx with ⟨_,h1⟩ | h1
  ·exact h1
  ·exact h.sub x u h1
 pc:=by simp [En.Jv]
 bY:=by simp [En.Jv]
 ji:=by simp [En.Jv]
theorem RT {bx:List (List DV)} (h:Env E bx w):MJ E (E.Jv w) bx 0 where
 c:=fun x u hx=>lU h hx
 fz:=fun i cs hi hcs=>by
  obtain ⟨b,ty,arr,hb,hw,hc⟩:=h.bxs i cs hcs;refine ⟨b,arr,hb,hc,fun j u hj=>?_⟩;show rN E 0 w ⟨b,j,none⟩=some u;unfold rN;rw [ap ⟨i,hi,hb⟩,cm hw];simpa using hj
theorem jD {P:Program} {s:Bool} {bx:List (List DV)} (h:Env E bx w) {f:FuncId} {args bo:List DV} {vs:List Value} {y:DV} (hc:VX s P f bo [] [] fun d _ _=>d=y) (ha:CcL bx 0 0 0 bo args) (hv:RvL E args vs) :
  Calls P f vs.toArray w fun e w'=>∃ v E2,e = .returned v/\Rv E2 y v/\pW (fun _=>False) w w' /\ (s=true->∃ q,w'=w.drewN q):=by
 have Vz:RvL (E.Jv w) bo vs:=CcL.sound (RT h) (Jm.zero _ _) ha hv;refine (hc (E.Jv w) w vs (RS h) rfl Vz).mono ?_;rintro e w' ⟨v,rfl,hm,hs,d,os,E2,he,hβ,ig,hn,RK,rfl⟩;refine ⟨v,E2,rfl,RK,⟨hm.os,hm.tape,hm.output,hm.size,fun i hi _=>hm.block i hi ?_⟩,hs⟩;rintro (h1 | ⟨y,h1,_⟩)
 ·simp [En.Jv] at h1
 ·simp [En.Jv] at h1
theorem Bh {f:FuncId} {args bo:List DV} {d:Nat} {y:Value} (ki:Enters X.P f) (hc:EvP X.P f bo (.v y)) (ha:CcL st.bx 0 0 0 bo args) (hd:ez X.nt st.sl (some d)=true)
  (hk:go X 4000 k ⟨(d,⟨[],.v y⟩) :: st.sl,st.bx,st.tk⟩) (aW:X.still=false:=by exact rfl):CallG X f args (some d) k st:=by
 refine ⟨ki,aW,fun E a w vs h hv=>(jD h.env hc ha hv).mono ?_⟩;rintro e w' ⟨v,E2,rfl,hr,hm,_⟩;have hh:∀ i,i < w.heap.size->w'.heap[i]? = w.heap[i]?:=fun i hi=>hm.block i hi (fun h=>h);have cf:Rel X E st a w':=dw h (Ext.refl E) (h.env.kF hh) h.tk h.nw (h.fr.cj hm.os hm.tape hm.output hm.size fun i hi=>.inr (hh i hi)) (mM aW) (h.bt.kF fun b hb=>hh b (h.env.bi hb));unfold Rv at hr;exact go_sound 4000 _ _ hk E _ w' (aX cf hd (.v y) v (by unfold Rv;exact hr))
end
end Dv
end Go.Proofs.YtgjagnmeonoehaaGreat
namespace Go.Proofs.YtgjagnmeonoehaaGreat
namespace Dv
open Go Go.RowKit
def NA (bx:List (List DV)) (N m:Nat) (sl:List (Nat × Sl)):List (Nat × Sl)->Prop
 | []=>True
 | p :: r=>(∃ x,get sl p.1=some ⟨p.2.gs,x⟩/\Cc bx N N m p.2.s x)/\NA bx N m sl r
theorem zn {bx:List (List DV)} {N m:Nat} {sl:List (Nat × Sl)}:∀ {l:List (Nat × Sl)},NA bx N m sl l->∀ i x',get l i=some x' -> ∃ x,get sl i=some ⟨x'.gs,x⟩/\Cc bx N N m x'.s x
 | [],_,i,x',hx=>by cases hx
 | (k,y) :: r,h,i,x',hx=>by
  simp only [dm] at hx;split at hx
  ·rename_i yF;subst yF;simp only [oI] at hx;subst hx;exact h.1
  ·exact zn h.2 i x' hx
section
variable {X:Ctx} {E:En} {st st':St} {a:Act} {w:World} {k:List It}
theorem Jw (h:Rel X E st a w) (N:Nat) (hN:X.n0<=N) (hNl:N<=st.bx.length) (kG:lM st.bx N N st.tk.length st'.bx (st.bx.take N)) (ig:st'.tk=st.tk) (mW:NA st.bx N st.tk.length st.sl st'.sl):∃ E',Rel X E' st' a w:=by
 obtain ⟨r,VT,hβl⟩:=h.nw.β;have hlen:E.β.length=st.bx.length:=h.env.len
 have eB:∀ (i:Nat) b,X.n0<=i->E.β[i]? = some b->b∈r:=fun i b hi hb=>by
  rw [VT,List.getElem?_append_right (by rw [X.oH];exact hi)] at hb;exact mG hb
 let E':En:=⟨rN E N w,E.β.take N,E.tk,E.τ⟩
 have RG:MJ E E' st.bx N:={
  c:=fun x u hx=>lU h.env hx
  fz:=fun i cs hi hcs=>by
   obtain ⟨b,ty,arr,hb,hw,hc⟩:=h.env.bxs i cs hcs;refine ⟨b,arr,hb,hc,fun j u hj=>?_⟩;show rN E N w ⟨b,j,none⟩=some u;unfold rN;rw [ap ⟨i,hi,hb⟩,cm hw]
   simpa using hj }
 have Bc:Jm E E' N st.tk.length:={
  β:=fun i b hi hb=>by show (E.β.take N)[i]? = _;rw [cx,ap hi];exact hb
  tk:=fun k hk=>⟨rfl,rfl⟩ }
 have VU:∀ (i:Nat) b,N<=i->E.β[i]? = some b->b ∉ E.β.take N:=fun i b hi hb hm=>by
  obtain ⟨j,hj⟩:=List.getElem?_of_mem hm;rw [cx] at hj;split at hj
  ·rename_i hjN;have:=(List.getElem?_inj (gS hb).1 h.env.inj).1 (hb.trans hj.symm);omega
  ·cases hj
 obtain ⟨kZ,YN⟩:=kG.get;refine ⟨E',?_⟩
 exact {
  env:={
   len:=by grind
   tl:=h.env.tl
   bxs:=fun i cs' hi=>by
    obtain ⟨cs,hcs,vi⟩:=YN i cs' hi;rw [cx] at hcs;split at hcs
    ·rename_i au;obtain ⟨b,ty,arr,hb,hw,hc⟩:=h.env.bxs i cs hcs;exact ⟨b,ty,arr,Bc.β i b au hb,hw,CcL.sound RG Bc vi hc.1,hc.2⟩
    ·cases hcs
   inj:=h.env.inj.sublist (List.take_sublist _ _)
   sub:=fun x u hx=>by
    rcases eC hx with ⟨_,h1⟩ | h1
    ·exact h1
    ·exact h.env.sub x u h1
   pc:=fun x u hx hm=>by
    rcases eC hx with ⟨⟨i,hi,hb⟩,_⟩ | h1
    ·exact VU i _ hi hb hm
    ·exact h.env.pc x u h1 (List.mem_of_mem_take hm)
   bY:=fun k q y hq hy=>by
    rcases h.env.bY k q y hq hy with h1 | ⟨g,cap,cur,rfl,h1,h2,h3,h4,h5,h6⟩
    ·exact .inl h1
    ·refine .inr ⟨g,cap,cur,rfl,h1,⟨h2.1,h2.2.mono fun _ _ hx=>lU h.env hx⟩,h3,h4,fun hm=>h5 (List.mem_of_mem_take hm),fun x u hx hg=>?_⟩;rcases eC hx with ⟨⟨i,hi,hb⟩,_⟩ | h7
     all_goals grind
   ji:=h.env.ji }
  tk:=by rw [ig];exact h.tk
  sz:=h.sz
  tm:=fun i x' yu=>by
   obtain ⟨x,hx,vi⟩:=zn mW i x' yu;have:=h.tm i _ hx
   grind [Cc.sound]
  df:=h.df
  nw:={
   c:=fun x u hx=>lU h.env (h.nw.c x u hx)
   cn:=fun x u hx=>by
    rcases eC hx with ⟨⟨i,hi,hb⟩,_⟩ | h1
    ·grind
    ·exact h.nw.cn x u h1
   β:=by
    refine ⟨r.take (N - X.n0),?_,fun b hb=>hβl b (List.mem_of_mem_take hb)⟩;show E.β.take N=_;rw [VT,List.take_append,List.take_of_length_le (by rw [X.oH];omega),X.oH]
   tk:=h.nw.tk
   tn:=h.nw.tn
   l0:=h.nw.l0 }
  fr:=h.fr
  sh:=h.sh
  bt:=h.bt.sub _ }
theorem NB {c:Code} (N:Nat) (rA:St) (hN:Nat.ble X.n0 N=true) (hNl:Nat.ble N st.bx.length=true) (ig:rA.tk=st.tk) (kG:lM st.bx N N st.tk.length rA.bx (st.bx.take N)) (mW:NA st.bx N st.tk.length st.sl rA.sl)
  (hk:sY X c k rA):sY X c k st:=by
 intro E a w h;obtain ⟨E',h'⟩:=Jw h N (nL hN) (nL hNl) kG ig mW;exact hk E' a w h'
theorem dx {n0 m0:Nat} {st st':St} (n:Nat) (q:TkE) (hq:q.new=true) (hn:Nat.ble n st.bx.length=true) (h3:st.tk ++ [q]=st'.tk) (h2:WeLL n st.tk.length st'.tk (st.bx.take n) st'.bx) (h4:Nat.ble n0 n=true) (h5:Nat.ble m0 st.tk.length=true)
  (h:nd n st.tk.length st'.tk st.sl st'.sl):qh n0 m0 st st':=by
 have hl:(st.bx.take n).length=n:=by simp_all
 exact ⟨st.tk,[],[q],st.bx.take n,st.bx.drop n,by simpa using h5,by rw [hl];simpa using h4,by simp,h3.symm,by simpa using hq,(List.take_append_drop n st.bx).symm,by rw [hl];exact h2,by rw [hl];exact h⟩
end
end Dv
end Go.Proofs.YtgjagnmeonoehaaGreat
namespace Go.Proofs.YtgjagnmeonoehaaGreat
namespace Dv
open Go Go.RowKit
section
variable {X:Ctx} {st:St} {k:List It} {E:En} {a:Act} {w:World}
theorem l4 {f:FuncId} {rest NC cs cs':List DV} {i d:Nat} (ki:Enters X.P f) (hd:ez X.nt st.sl (some d)=true) (kG:st.bx[i]? = some cs) (hcs:CcL [] 0 0 0 cs' cs) (ha:CcL [] 0 0 0 NC rest)
  {Φ:DV->List (List DV)->List TkE->Prop} (hc:Ev X.P f (.loc 0 0 :: NC) [cs'] [] Φ) (jH:∀ r os tk,Φ r os tk->clB 0 0 r=true/\∀ rB∈os,clB.clL 0 0 rB=true)
  (hk:∀ r rB,Φ r [rB] []->go X 4000 k ⟨(d,⟨[],r⟩) :: st.sl,st.bx.set i rB,st.tk⟩) (aW:X.still=false:=by exact rfl) (hX:X.bt=[]:=by exact rfl):CallG X f (.loc i 0 :: rest) (some d) k st:=by
 refine ⟨ki,aW,fun E a w vs h hv=>?_⟩;simp only [RvL] at hv;obtain ⟨v1,vr,rfl,h1,hvr⟩:=hv;unfold Rv at h1;obtain ⟨b,hb,rfl⟩:=h1;obtain ⟨b',ty,arr,eo,hw,vi⟩:=h.env.bxs i cs kG;rw [hb] at eo;simp only [oI] at eo;subst eo;have zo:b∈E.β:=mG hb;have Wb:=h.env.bi zo
 let E1:En:=⟨E.c,[b],[],[]⟩
 have hx1:Ext E.cl E1:=⟨fun _ _ h=>h,fun j b hj=>by simp [En.cl] at hj,fun k q hk=>by simp [En.cl] at hk⟩;have hfz:MJ E E.cl [] 0:=⟨fun _ _ h=>h,fun i cs _ hi=>by simp at hi⟩
 have zp:Env E1 [cs'] w:={
  len:=rfl
  tl:=rfl
  bxs:=fun j RU hj=>by
   cases j with
   | succ j=>simp at hj
   | zero=>
    simp only [List.getElem?_cons_zero,oI] at hj;subst hj;refine ⟨b,ty,arr,rfl,hw,RvL.mono hx1 (CcL.sound hfz (Jm.zero _ _) hcs vi.1),vi.2⟩
  inj:=by simp [E1]
  sub:=h.env.sub
  pc:=fun x v hx hm=>by
   simp only [E1,List.mem_singleton] at hm;exact h.env.pc x v hx (by rw [hm];exact zo)
  bY:=by simp [E1]
  ji:=by simp [E1] }
 have uI:RvL E1 (.loc 0 0 :: NC) (.pointer (some ⟨b,0,none⟩) :: vr):=rvL_cons (by unfold Rv;exact ⟨b,rfl,rfl⟩) (RvL.mono hx1 (CcL.sound hfz (Jm.zero _ _) ha hvr));refine (hc E1 w _ zp rfl uI).mono ?_;rintro e w' ⟨v,rfl,hm,_,r,os,E2,he,hβ,ig,hn,RK,hΦ⟩;have ht0:E2.tk=[]:=List.eq_nil_of_length_eq_zero ig;rw [ht0] at hΦ
 obtain ⟨rB,rfl⟩:∃ rB,os=[rB]:=by
  have:=he.len;rw [hβ] at this
  match os,this with
  | [x],_=>exact ⟨x,rfl⟩
 obtain ⟨hclr,hclc⟩:=jH _ _ _ hΦ
 have hh:∀ j,j < w.heap.size->j≠b->w'.heap[j]? = w.heap[j]?:=fun j hj bf=>hm.block j hj (by
  rintro (h1 | ⟨y,h1,_⟩)
  ·simp only [E1,List.mem_singleton] at h1;exact bf h1
  ·simp [E1] at h1)
 have eB:∀ x v,E2.c x=some v->E.c x=some v∨w.heap.size<=x.block:=fun x v hx=>by
  rcases hn.cn x v hx with h1 | h1 | ⟨y,h1,_⟩
  ·exact .inl h1
  ·exact .inr h1
  ·simp [E1] at h1
 let E':En:=⟨E2.c,E.β,E.tk,E.τ⟩
 have hx:Ext E E':=⟨hn.c,fun _ _ h=>h,fun _ q h=>⟨q,h,.inl ⟨rfl,rfl⟩⟩⟩;have Jx:Ext (E2.cut 0 0) E':=⟨fun _ _ h=>h,fun j b hj=>by simp [En.cut] at hj,fun k q hk=>by simp [En.cut] at hk⟩
 have cf:Rel X E' ⟨st.sl,st.bx.set i rB,st.tk⟩ a w':=by
  refine dw h hx ?_ h.tk ?_ (h.fr.cj hm.os hm.tape hm.output hm.size fun j hj=>?_) (mM aW) (.nil hX)
  ·exact {
    len:=by rw [List.length_set];exact h.env.len
    tl:=h.env.tl
    bxs:=fun j RU hj=>by
     by_cases VM:j=i
     ·subst VM;rw [gN (gS kG).1] at hj;simp only [oI] at hj;subst hj;obtain ⟨b2,ty2,Wc,gF,hw2,nZ⟩:=he.bxs 0 rB rfl;rw [hβ] at gF;simp only [E1,List.getElem?_cons_zero,oI] at gF;subst gF;exact ⟨b,ty2,Wc,hb,hw2,RvL.mono Jx (RvL.cut nZ.1 (hclc rB (by simp))),nZ.2⟩
     ·rw [List.getElem?_set_ne (Ne.symm VM)] at hj;obtain ⟨bj,tyj,Wf,TS,Y7,VF⟩:=h.env.bxs j RU hj
      have bf:bj≠b:=by
       rintro rfl;exact VM ((List.getElem?_inj (gS TS).1 h.env.inj).1 (TS.trans hb.symm))
      exact ⟨bj,tyj,Wf,TS,by rw [hh bj (cL Y7) bf];exact Y7,VF.mono hx⟩
    inj:=h.env.inj
    sub:=he.sub
    pc:=fun x v hc rL=>by
     rcases eB x v hc with h1 | h1
     ·exact h.env.pc x v h1 rL
     ·have:=h.env.bi rL;omega
    bY:=fun k q y hq hy=>by
     rcases h.env.bY k q y hq hy with h1 | ⟨g',cap,cur,rfl,h1,h2,h3,h4,h5,h6⟩
     ·exact .inl h1
     ·refine .inr ⟨g',cap,cur,rfl,by rw [hh g' (cL h1) (fun e=>h5 (by rw [e];exact zo))];exact h1,⟨h2.1,h2.2.mono hn.c⟩,h3,h4,h5,fun x v hc hg=>?_⟩;rcases eB x v hc with h7 | h7
      ·exact h6 x v h7 hg
      ·have:=cL h1;omega
    ji:=h.env.ji }
  ·exact {
    c:=fun x v hc=>hn.c x v (h.nw.c x v hc)
    cn:=fun x v hc=>by
     rcases eB x v hc with h1 | h1
     ·exact h.nw.cn x v h1
     ·have:=h.fr.size;exact .inr (.inl (by omega))
    β:=h.nw.β
    tk:=h.nw.tk
    tn:=h.nw.tn
    l0:=h.nw.l0 }
  ·by_cases VG:j=b
   ·left;obtain ⟨r0,hr0,CY⟩:=h.nw.β;rw [hr0] at zo;rcases List.mem_append.1 zo with zo | zo
    ·exact .inl (.inl (VG ▸ zo))
    ·exact .inr (VG ▸ CY b zo)
   ·exact .inr (hh j hj VG)
 exact go_sound 4000 _ _ (hk r rB hΦ) E' _ w' (aX cf hd r v (Rv.mono Jx (Rv.cut RK hclr)))
end
end Dv
end Go.Proofs.YtgjagnmeonoehaaGreat
namespace Go.Proofs.YtgjagnmeonoehaaGreat
namespace Dv
open Go
def tt:TT:=.ah 229 ⟨1,false,.fn,[.nilFunc]⟩ (.ah 114 ⟨1,false,.sl 91 7 88,[.slice none 0 0]⟩ (.ah 55 ⟨1,false,.fn,[.nilFunc]⟩ (.ah 27 ⟨2,true,.st [(0,9),(1,3)],[.string ByteArray.empty,.int .i64 0]⟩ (.ah 14 ⟨2,true,.st [(0,9),(1,12)],[.string ByteArray.empty,.int .u64 0]⟩ (.ah 7 ⟨4,true,.st [(0,2),(1,3),(2,4),(3,6)],[.int .i64 0,.int .i64 0,.bool false,.int .u8 0]⟩ (.ah 4 ⟨1,false,.bool,[.bool false]⟩ (.ah 2 ⟨1,false,.int .i64,[.int .i64 0]⟩ (.ah 1 ⟨1,false,.fn,[.nilFunc]⟩ (.nil) (.nil)) (.ah 3 ⟨1,false,.int .i64,[.int .i64 0]⟩ (.nil) (.nil))) (.ah 6 ⟨1,false,.int .u8,[.int .u8 0]⟩ (.ah 5 ⟨1,false,.int .u8,[.int .u8 0]⟩ (.nil) (.nil)) (.nil))) (.ah 11 ⟨1,false,.str,[.string ByteArray.empty]⟩ (.ah 9 ⟨1,false,.str,[.string ByteArray.empty]⟩ (.ah 8 ⟨4,true,.st [(0,2),(1,3),(2,4),(3,6)],[.int .i64 0,.int .i64 0,.bool false,.int .u8 0]⟩ (.nil) (.nil)) (.ah 10 ⟨1,false,.str,[.string ByteArray.empty]⟩ (.nil) (.nil))) (.ah 13 ⟨2,true,.st [(0,9),(1,12)],[.string ByteArray.empty,.int .u64 0]⟩ (.ah 12 ⟨1,false,.int .u64,[.int .u64 0]⟩ (.nil) (.nil)) (.nil)))) (.ah 21 ⟨1,false,.int .i32,[.int .i32 0]⟩ (.ah 18 ⟨1,true,.st [(0,17)],[.pointer none]⟩ (.ah 16 ⟨1,false,.ptr 452,[.pointer none]⟩ (.ah 15 ⟨1,false,.ptr 449,[.pointer none]⟩ (.nil) (.nil)) (.ah 17 ⟨1,false,.ptr 459,[.pointer none]⟩ (.nil) (.nil))) (.ah 20 ⟨1,false,.pV,[.nilIface]⟩ (.ah 19 ⟨1,true,.st [(0,17)],[.pointer none]⟩ (.nil) (.nil)) (.nil))) (.ah 24 ⟨1,false,.sl 124 11 136,[.slice none 0 0]⟩ (.ah 23 ⟨1,false,.sl 171 4 48,[.slice none 0 0]⟩ (.ah 22 ⟨1,false,.sl 27 2 24,[.slice none 0 0]⟩ (.nil) (.nil)) (.nil)) (.ah 26 ⟨2,true,.st [(0,9),(1,3)],[.string ByteArray.empty,.int .i64 0]⟩ (.ah 25 ⟨1,false,.sl 109 18 224,[.slice none 0 0]⟩ (.nil) (.nil)) (.nil))))) (.ah 40 ⟨1,false,.fn,[.nilFunc]⟩ (.ah 34 ⟨4,true,.st [(0,3),(1,3),(2,9),(3,32)],[.int .i64 0,.int .i64 0,.string ByteArray.empty,.slice none 0 0]⟩ (.ah 31 ⟨12,true,.st [(0,22),(1,23),(2,24),(3,29)],[.slice none 0 0,.slice none 0 0,.slice none 0 0,.int .i64 0,.int .i64 0,.int .i64 0,.int .i64 0,.int .i64 0,.slice none 0 0,.slice none 0 0,.string ByteArray.empty,.int .i64 0]⟩ (.ah 29 ⟨9,true,.st [(0,3),(1,3),(2,3),(3,3),(4,3),(5,22),(6,25),(7,27)],[.int .i64 0,.int .i64 0,.int .i64 0,.int .i64 0,.int .i64 0,.slice none 0 0,.slice none 0 0,.string ByteArray.empty,.int .i64 0]⟩ (.ah 28 ⟨9,true,.st [(0,3),(1,3),(2,3),(3,3),(4,3),(5,22),(6,25),(7,27)],[.int .i64 0,.int .i64 0,.int .i64 0,.int .i64 0,.int .i64 0,.slice none 0 0,.slice none 0 0,.string ByteArray.empty,.int .i64 0]⟩ (.nil) (.nil)) (.ah 30 ⟨12,true,.st [(0,22),(1,23),(2,24),(3,29)],[.slice none 0 0,.slice none 0 0,.slice none 0 0,.int .i64 0,.int .i64 0,.int .i64 0,.int .i64 0,.int .i64 0,.slice none 0 0,.slice none 0 0,.string ByteArray.empty,.int .i64 0]⟩ (.nil) (.nil))) (.ah 33 ⟨4,true,.st [(0,3),(1,3),(2,9),(3,32)],[.int .i64 0,.int .i64 0,.string ByteArray.empty,.slice none 0 0]⟩ (.ah 32 ⟨1,false,.sl 34 4 56,[.slice none 0 0]⟩ (.nil) (.nil)) (.nil))) (.ah 37 ⟨2,true,.st [(0,3),(1,35)],[.int .i64 0,.slice none 0 0]⟩ (.ah 36 ⟨2,true,.st [(0,3),(1,35)],[.int .i64 0,.slice none 0 0]⟩ (.ah 35 ⟨1,false,.sl 58 10 144,[.slice none 0 0]⟩ (.nil) (.nil)) (.nil)) (.ah 39 ⟨1,false,.fn,[.nilFunc]⟩ (.ah 38 ⟨1,false,.fn,[.nilFunc]⟩ (.nil) (.nil)) (.nil)))) (.ah 48 ⟨1,false,.sl 132 7 88,[.slice none 0 0]⟩ (.ah 44 ⟨2,true,.st [(0,42),(1,3)],[.int .i64 0,.int .i64 0]⟩ (.ah 42 ⟨1,false,.int .i64,[.int .i64 0]⟩ (.ah 41 ⟨1,false,.ptr 117,[.pointer none]⟩ (.nil) (.nil)) (.ah 43 ⟨2,true,.st [(0,42),(1,3)],[.int .i64 0,.int .i64 0]⟩ (.nil) (.nil))) (.ah 47 ⟨1,false,.sl 186 1 24,[.slice none 0 0]⟩ (.ah 46 ⟨1,false,.fn,[.nilFunc]⟩ (.nil) (.nil)) (.nil))) (.ah 51 ⟨1,false,.fn,[.nilFunc]⟩ (.ah 50 ⟨4,true,.st [(0,22),(1,47),(2,48),(3,3)],[.slice none 0 0,.slice none 0 0,.slice none 0 0,.int .i64 0]⟩ (.ah 49 ⟨4,true,.st [(0,22),(1,47),(2,48),(3,3)],[.slice none 0 0,.slice none 0 0,.slice none 0 0,.int .i64 0]⟩ (.nil) (.nil)) (.nil)) (.ah 54 ⟨1,false,.fn,[.nilFunc]⟩ (.ah 53 ⟨1,false,.fn,[.nilFunc]⟩ (.nil) (.nil)) (.nil)))))) (.ah 83 ⟨1,false,.fn,[.nilFunc]⟩ (.ah 70 ⟨3,true,.ar 3 1,[.int .i64 0,.int .i64 0,.int .i64 0]⟩ (.ah 62 ⟨1,false,.fn,[.nilFunc]⟩ (.ah 59 ⟨10,true,.st [(0,3),(1,56),(2,34),(6,34)],[.int .i64 0,.slice none 0 0,.int .i64 0,.int .i64 0,.string ByteArray.empty,.slice none 0 0,.int .i64 0,.int .i64 0,.string ByteArray.empty,.slice none 0 0]⟩ (.ah 57 ⟨10,true,.st [(0,3),(1,56),(2,34),(6,34)],[.int .i64 0,.slice none 0 0,.int .i64 0,.int .i64 0,.string ByteArray.empty,.slice none 0 0,.int .i64 0,.int .i64 0,.string ByteArray.empty,.slice none 0 0]⟩ (.ah 56 ⟨1,false,.sl 141 3 32,[.slice none 0 0]⟩ (.nil) (.nil)) (.ah 58 ⟨10,true,.st [(0,3),(1,56),(2,34),(6,34)],[.int .i64 0,.slice none 0 0,.int .i64 0,.int .i64 0,.string ByteArray.empty,.slice none 0 0,.int .i64 0,.int .i64 0,.string ByteArray.empty,.slice none 0 0]⟩ (.nil) (.nil))) (.ah 61 ⟨1,false,.fn,[.nilFunc]⟩ (.ah 60 ⟨1,false,.fn,[.nilFunc]⟩ (.nil) (.nil)) (.nil))) (.ah 67 ⟨1,false,.fn,[.nilFunc]⟩ (.ah 64 ⟨1,false,.fn,[.nilFunc]⟩ (.ah 63 ⟨8,true,.ar 2 4,[.int .i64 0,.int .i64 0,.string ByteArray.empty,.slice none 0 0,.int .i64 0,.int .i64 0,.string ByteArray.empty,.slice none 0 0]⟩ (.nil) (.nil)) (.ah 66 ⟨1,false,.fn,[.nilFunc]⟩ (.nil) (.nil))) (.ah 69 ⟨1,false,.fn,[.nilFunc]⟩ (.ah 68 ⟨1,false,.fn,[.nilFunc]⟩ (.nil) (.nil)) (.nil)))) (.ah 77 ⟨1,false,.fn,[.nilFunc]⟩ (.ah 74 ⟨1,false,.fn,[.nilFunc]⟩ (.ah 72 ⟨1,false,.fn,[.nilFunc]⟩ (.ah 71 ⟨1,false,.fn,[.nilFunc]⟩ (.nil) (.nil)) (.ah 73 ⟨1,false,.sl 9 1 16,[.slice none 0 0]⟩ (.nil) (.nil))) (.ah 76 ⟨1,false,.fn,[.nilFunc]⟩ (.ah 75 ⟨1,false,.fn,[.nilFunc]⟩ (.nil) (.nil)) (.nil))) (.ah 80 ⟨1,false,.sl 85 4 48,[.slice none 0 0]⟩ (.ah 79 ⟨1,false,.fn,[.nilFunc]⟩ (.ah 78 ⟨1,false,.fn,[.nilFunc]⟩ (.nil) (.nil)) (.nil)) (.ah 82 ⟨1,false,.sl 3 1 8,[.slice none 0 0]⟩ (.ah 81 ⟨1,false,.fn,[.nilFunc]⟩ (.nil) (.nil)) (.nil))))) (.ah 98 ⟨3,true,.st [(0,3),(1,96),(2,32)],[.int .i64 0,.slice none 0 0,.slice none 0 0]⟩ (.ah 91 ⟨7,true,.st [(0,3),(1,3),(2,3),(3,3),(4,3),(5,73),(6,89)],[.int .i64 0,.int .i64 0,.int .i64 0,.int .i64 0,.int .i64 0,.slice none 0 0,.slice none 0 0]⟩ (.ah 88 ⟨1,false,.fn,[.nilFunc]⟩ (.ah 85 ⟨4,true,.st [(0,56),(1,3),(2,3),(3,3)],[.slice none 0 0,.int .i64 0,.int .i64 0,.int .i64 0]⟩ (.ah 84 ⟨4,true,.st [(0,56),(1,3),(2,3),(3,3)],[.slice none 0 0,.int .i64 0,.int .i64 0,.int .i64 0]⟩ (.nil) (.nil)) (.ah 87 ⟨1,false,.fn,[.nilFunc]⟩ (.nil) (.nil))) (.ah 90 ⟨7,true,.st [(0,3),(1,3),(2,3),(3,3),(4,3),(5,73),(6,89)],[.int .i64 0,.int .i64 0,.int .i64 0,.int .i64 0,.int .i64 0,.slice none 0 0,.slice none 0 0]⟩ (.ah 89 ⟨1,false,.sl 193 10 88,[.slice none 0 0]⟩ (.nil) (.nil)) (.nil))) (.ah 95 ⟨1,false,.fn,[.nilFunc]⟩ (.ah 94 ⟨1,false,.fn,[.nilFunc]⟩ (.ah 93 ⟨1,false,.fn,[.nilFunc]⟩ (.nil) (.nil)) (.nil)) (.ah 97 ⟨3,true,.st [(0,3),(1,96),(2,32)],[.int .i64 0,.slice none 0 0,.slice none 0 0]⟩ (.ah 96 ⟨1,false,.sl 199 8 120,[.slice none 0 0]⟩ (.nil) (.nil)) (.nil)))) (.ah 107 ⟨4,true,.st [(0,3),(1,3),(2,3),(3,22)],[.int .i64 0,.int .i64 0,.int .i64 0,.slice none 0 0]⟩ (.ah 103 ⟨1,false,.fn,[.nilFunc]⟩ (.ah 101 ⟨1,false,.fn,[.nilFunc]⟩ (.ah 99 ⟨1,false,.fn,[.nilFunc]⟩ (.nil) (.nil)) (.ah 102 ⟨1,false,.fn,[.nilFunc]⟩ (.nil) (.nil))) (.ah 106 ⟨4,true,.st [(0,3),(1,3),(2,3),(3,22)],[.int .i64 0,.int .i64 0,.int .i64 0,.slice none 0 0]⟩ (.ah 105 ⟨1,false,.fn,[.nilFunc]⟩ (.nil) (.nil)) (.nil))) (.ah 110 ⟨1,false,.ptr 213,[.pointer none]⟩ (.ah 109 ⟨18,true,.st [(0,27),(2,4),(3,22),(4,3),(5,107),(9,29)],[.string ByteArray.empty,.int .i64 0,.bool false,.slice none 0 0,.int .i64 0,.int .i64 0,.int .i64 0,.int .i64 0,.slice none 0 0,.int .i64 0,.int .i64 0,.int .i64 0,.int .i64 0,.int .i64 0,.slice none 0 0,.slice none 0 0,.string ByteArray.empty,.int .i64 0]⟩ (.ah 108 ⟨18,true,.st [(0,27),(2,4),(3,22),(4,3),(5,107),(9,29)],[.string ByteArray.empty,.int .i64 0,.bool false,.slice none 0 0,.int .i64 0,.int .i64 0,.int .i64 0,.int .i64 0,.slice none 0 0,.int .i64 0,.int .i64 0,.int .i64 0,.int .i64 0,.int .i64 0,.slice none 0 0,.slice none 0 0,.string ByteArray.empty,.int .i64 0]⟩ (.nil) (.nil)) (.nil)) (.ah 113 ⟨1,false,.ptr 119,[.pointer none]⟩ (.ah 112 ⟨1,false,.fn,[.nilFunc]⟩ (.nil) (.nil)) (.nil))))))) (.ah 170 ⟨4,true,.st [(0,27),(2,27)],[.string ByteArray.empty,.int .i64 0,.string ByteArray.empty,.int .i64 0]⟩ (.ah 141 ⟨3,true,.st [(0,3),(1,3),(2,9)],[.int .i64 0,.int .i64 0,.string ByteArray.empty]⟩ (.ah 128 ⟨1,false,.fn,[.nilFunc]⟩ (.ah 121 ⟨1,false,.fn,[.nilFunc]⟩ (.ah 118 ⟨15,true,.st [(0,31),(12,110),(13,41),(14,3)],[.slice none 0 0,.slice none 0 0,.slice none 0 0,.int .i64 0,.int .i64 0,.int .i64 0,.int .i64 0,.int .i64 0,.slice none 0 0,.slice none 0 0,.string ByteArray.empty,.int .i64 0,.pointer none,.pointer none,.int .i64 0]⟩ (.ah 116 ⟨5,true,.st [(0,110),(1,114),(2,3),(3,115),(4,82)],[.pointer none,.slice none 0 0,.int .i64 0,.pointer none,.slice none 0 0]⟩ (.ah 115 ⟨1,false,.ptr 289,[.pointer none]⟩ (.nil) (.nil)) (.ah 117 ⟨5,true,.st [(0,110),(1,114),(2,3),(3,115),(4,82)],[.pointer none,.slice none 0 0,.int .i64 0,.pointer none,.slice none 0 0]⟩ (.nil) (.nil))) (.ah 120 ⟨1,false,.fn,[.nilFunc]⟩ (.ah 119 ⟨15,true,.st [(0,31),(12,110),(13,41),(14,3)],[.slice none 0 0,.slice none 0 0,.slice none 0 0,.int .i64 0,.int .i64 0,.int .i64 0,.int .i64 0,.int .i64 0,.slice none 0 0,.slice none 0 0,.string ByteArray.empty,.int .i64 0,.pointer none,.pointer none,.int .i64 0]⟩ (.nil) (.nil)) (.nil))) (.ah 125 ⟨1,false,.fn,[.nilFunc]⟩ (.ah 123 ⟨11,true,.st [(0,27),(2,29)],[.string ByteArray.empty,.int .i64 0,.int .i64 0,.int .i64 0,.int .i64 0,.int .i64 0,.int .i64 0,.slice none 0 0,.slice none 0 0,.string ByteArray.empty,.int .i64 0]⟩ (.ah 122 ⟨1,false,.fn,[.nilFunc]⟩ (.nil) (.nil)) (.ah 124 ⟨11,true,.st [(0,27),(2,29)],[.string ByteArray.empty,.int .i64 0,.int .i64 0,.int .i64 0,.int .i64 0,.int .i64 0,.int .i64 0,.slice none 0 0,.slice none 0 0,.string ByteArray.empty,.int .i64 0]⟩ (.nil) (.nil))) (.ah 127 ⟨1,false,.sl 29 9 112,[.slice none 0 0]⟩ (.ah 126 ⟨1,false,.fn,[.nilFunc]⟩ (.nil) (.nil)) (.nil)))) (.ah 135 ⟨1,false,.fn,[.nilFunc]⟩ (.ah 132 ⟨7,true,.st [(0,3),(1,3),(2,3),(3,3),(4,3),(5,73),(6,130)],[.int .i64 0,.int .i64 0,.int .i64 0,.int .i64 0,.int .i64 0,.slice none 0 0,.slice none 0 0]⟩ (.ah 130 ⟨1,false,.sl 144 10 88,[.slice none 0 0]⟩ (.ah 129 ⟨1,false,.fn,[.nilFunc]⟩ (.nil) (.nil)) (.ah 131 ⟨7,true,.st [(0,3),(1,3),(2,3),(3,3),(4,3),(5,73),(6,130)],[.int .i64 0,.int .i64 0,.int .i64 0,.int .i64 0,.int .i64 0,.slice none 0 0,.slice none 0 0]⟩ (.nil) (.nil))) (.ah 134 ⟨1,false,.fn,[.nilFunc]⟩ (.ah 133 ⟨1,false,.fn,[.nilFunc]⟩ (.nil) (.nil)) (.nil))) (.ah 138 ⟨1,false,.fn,[.nilFunc]⟩ (.ah 137 ⟨1,false,.fn,[.nilFunc]⟩ (.ah 136 ⟨1,false,.fn,[.nilFunc]⟩ (.nil) (.nil)) (.nil)) (.ah 140 ⟨3,true,.st [(0,3),(1,3),(2,9)],[.int .i64 0,.int .i64 0,.string ByteArray.empty]⟩ (.ah 139 ⟨1,false,.fn,[.nilFunc]⟩ (.nil) (.nil)) (.nil))))) (.ah 155 ⟨1,false,.fn,[.nilFunc]⟩ (.ah 148 ⟨3,true,.st [(0,41),(1,110),(2,3)],[.pointer none,.pointer none,.int .i64 0]⟩ (.ah 145 ⟨1,false,.fn,[.nilFunc]⟩ (.ah 143 ⟨10,true,.st [(0,9),(1,4),(2,3),(3,3),(4,3),(5,3),(6,3),(7,3),(8,3),(9,3)],[.string ByteArray.empty,.bool false,.int .i64 0,.int .i64 0,.int .i64 0,.int .i64 0,.int .i64 0,.int .i64 0,.int .i64 0,.int .i64 0]⟩ (.ah 142 ⟨1,false,.fn,[.nilFunc]⟩ (.nil) (.nil)) (.ah 144 ⟨10,true,.st [(0,9),(1,4),(2,3),(3,3),(4,3),(5,3),(6,3),(7,3),(8,3),(9,3)],[.string ByteArray.empty,.bool false,.int .i64 0,.int .i64 0,.int .i64 0,.int .i64 0,.int .i64 0,.int .i64 0,.int .i64 0,.int .i64 0]⟩ (.nil) (.nil))) (.ah 147 ⟨3,true,.st [(0,41),(1,110),(2,3)],[.pointer none,.pointer none,.int .i64 0]⟩ (.ah 146 ⟨1,false,.fn,[.nilFunc]⟩ (.nil) (.nil)) (.nil))) (.ah 152 ⟨1,false,.ptr 154,[.pointer none]⟩ (.ah 151 ⟨1,false,.fn,[.nilFunc]⟩ (.ah 150 ⟨1,false,.fn,[.nilFunc]⟩ (.nil) (.nil)) (.nil)) (.ah 154 ⟨2,true,.st [(0,41),(1,35)],[.pointer none,.slice none 0 0]⟩ (.ah 153 ⟨2,true,.st [(0,41),(1,35)],[.pointer none,.slice none 0 0]⟩ (.nil) (.nil)) (.nil)))) (.ah 162 ⟨1,false,.pV,[.nilIface]⟩ (.ah 159 ⟨2,true,.st [(0,157),(1,158)],[.pointer none,.slice none 0 0]⟩ (.ah 157 ⟨1,false,.ptr 160,[.pointer none]⟩ (.ah 156 ⟨1,false,.fn,[.nilFunc]⟩ (.nil) (.nil)) (.ah 158 ⟨1,false,.sl 5 1 1,[.slice none 0 0]⟩ (.nil) (.nil))) (.ah 161 ⟨1,false,.pV,[.nilIface]⟩ (.ah 160 ⟨2,true,.st [(0,157),(1,158)],[.pointer none,.slice none 0 0]⟩ (.nil) (.nil)) (.nil))) (.ah 166 ⟨1,false,.fn,[.nilFunc]⟩ (.ah 165 ⟨1,false,.fn,[.nilFunc]⟩ (.ah 164 ⟨1,false,.fn,[.nilFunc]⟩ (.nil) (.nil)) (.nil)) (.ah 169 ⟨1,false,.fn,[.nilFunc]⟩ (.ah 168 ⟨1,false,.fn,[.nilFunc]⟩ (.nil) (.nil)) (.nil)))))) (.ah 198 ⟨8,true,.st [(0,56),(1,3),(2,197)],[.slice none 0 0,.int .i64 0,.int .i64 0,.int .i64 0,.int .i64 0,.string ByteArray.empty,.slice none 0 0,.slice none 0 0]⟩ (.ah 185 ⟨1,false,.fn,[.nilFunc]⟩ (.ah 177 ⟨5,true,.st [(0,41),(1,110),(2,3),(3,3),(4,80)],[.pointer none,.pointer none,.int .i64 0,.int .i64 0,.slice none 0 0]⟩ (.ah 174 ⟨1,false,.fn,[.nilFunc]⟩ (.ah 172 ⟨1,false,.fn,[.nilFunc]⟩ (.ah 171 ⟨4,true,.st [(0,27),(2,27)],[.string ByteArray.empty,.int .i64 0,.string ByteArray.empty,.int .i64 0]⟩ (.nil) (.nil)) (.ah 173 ⟨1,false,.fn,[.nilFunc]⟩ (.nil) (.nil))) (.ah 176 ⟨1,false,.ptr 178,[.pointer none]⟩ (.ah 175 ⟨1,false,.fn,[.nilFunc]⟩ (.nil) (.nil)) (.nil))) (.ah 182 ⟨1,false,.fn,[.nilFunc]⟩ (.ah 179 ⟨1,false,.fn,[.nilFunc]⟩ (.ah 178 ⟨5,true,.st [(0,41),(1,110),(2,3),(3,3),(4,80)],[.pointer none,.pointer none,.int .i64 0,.int .i64 0,.slice none 0 0]⟩ (.nil) (.nil)) (.ah 181 ⟨1,false,.fn,[.nilFunc]⟩ (.nil) (.nil))) (.ah 184 ⟨1,false,.fn,[.nilFunc]⟩ (.ah 183 ⟨1,false,.ptr 188,[.pointer none]⟩ (.nil) (.nil)) (.nil)))) (.ah 192 ⟨1,false,.fn,[.nilFunc]⟩ (.ah 189 ⟨1,false,.fn,[.nilFunc]⟩ (.ah 187 ⟨6,true,.st [(0,41),(1,114),(2,82),(3,186),(4,82),(5,82)],[.pointer none,.slice none 0 0,.slice none 0 0,.slice none 0 0,.slice none 0 0,.slice none 0 0]⟩ (.ah 186 ⟨1,false,.sl 4 1 1,[.slice none 0 0]⟩ (.nil) (.nil)) (.ah 188 ⟨6,true,.st [(0,41),(1,114),(2,82),(3,186),(4,82),(5,82)],[.pointer none,.slice none 0 0,.slice none 0 0,.slice none 0 0,.slice none 0 0,.slice none 0 0]⟩ (.nil) (.nil))) (.ah 191 ⟨1,false,.fn,[.nilFunc]⟩ (.ah 190 ⟨1,false,.fn,[.nilFunc]⟩ (.nil) (.nil)) (.nil))) (.ah 195 ⟨1,false,.sl 197 6 88,[.slice none 0 0]⟩ (.ah 194 ⟨1,false,.fn,[.nilFunc]⟩ (.ah 193 ⟨10,true,.st [(0,9),(1,4),(2,3),(3,3),(4,3),(5,3),(6,3),(7,3),(8,3),(9,3)],[.string ByteArray.empty,.bool false,.int .i64 0,.int .i64 0,.int .i64 0,.int .i64 0,.int .i64 0,.int .i64 0,.int .i64 0,.int .i64 0]⟩ (.nil) (.nil)) (.nil)) (.ah 197 ⟨6,true,.st [(0,3),(1,3),(2,3),(3,9),(4,22),(5,195)],[.int .i64 0,.int .i64 0,.int .i64 0,.string ByteArray.empty,.slice none 0 0,.slice none 0 0]⟩ (.ah 196 ⟨6,true,.st [(0,3),(1,3),(2,3),(3,9),(4,22),(5,195)],[.int .i64 0,.int .i64 0,.int .i64 0,.string ByteArray.empty,.slice none 0 0,.slice none 0 0]⟩ (.nil) (.nil)) (.nil))))) (.ah 213 ⟨2051,true,.st [(0,73),(1,115),(2,209),(3,211),(1027,211)],(.slice none 0 0 :: .pointer none :: .pointer none :: List.replicate 2048 (.int .i64 0))⟩ (.ah 207 ⟨1,false,.fn,[.nilFunc]⟩ (.ah 202 ⟨1,false,.fn,[.nilFunc]⟩ (.ah 200 ⟨1,false,.fn,[.nilFunc]⟩ (.ah 199 ⟨8,true,.st [(0,56),(1,3),(2,197)],[.slice none 0 0,.int .i64 0,.int .i64 0,.int .i64 0,.int .i64 0,.string ByteArray.empty,.slice none 0 0,.slice none 0 0]⟩ (.nil) (.nil)) (.ah 201 ⟨1,false,.fn,[.nilFunc]⟩ (.nil) (.nil))) (.ah 205 ⟨1,false,.fn,[.nilFunc]⟩ (.ah 204 ⟨1,false,.fn,[.nilFunc]⟩ (.nil) (.nil)) (.nil))) (.ah 210 ⟨32,true,.ar 32 1,[.int .i64 0,.int .i64 0,.int .i64 0,.int .i64 0,.int .i64 0,.int .i64 0,.int .i64 0,.int .i64 0,.int .i64 0,.int .i64 0,.int .i64 0,.int .i64 0,.int .i64 0,.int .i64 0,.int .i64 0,.int .i64 0,.int .i64 0,.int .i64 0,.int .i64 0,.int .i64 0,.int .i64 0,.int .i64 0,.int .i64 0,.int .i64 0,.int .i64 0,.int .i64 0,.int .i64 0,.int .i64 0,.int .i64 0,.int .i64 0,.int .i64 0,.int .i64 0]⟩ (.ah 209 ⟨1,false,.ptr 294,[.pointer none]⟩ (.ah 208 ⟨1,false,.fn,[.nilFunc]⟩ (.nil) (.nil)) (.nil)) (.ah 212 ⟨2051,true,.st [(0,73),(1,115),(2,209),(3,211),(1027,211)],(.slice none 0 0 :: .pointer none :: .pointer none :: List.replicate 2048 (.int .i64 0))⟩ (.ah 211 ⟨1024,true,.ar 32 32,(List.replicate 1024 (.int .i64 0))⟩ (.nil) (.nil)) (.nil)))) (.ah 223 ⟨1,false,.fn,[.nilFunc]⟩ (.ah 220 ⟨1,false,.fn,[.nilFunc]⟩ (.ah 216 ⟨1,false,.fn,[.nilFunc]⟩ (.ah 214 ⟨1,false,.sl 291 2 16,[.slice none 0 0]⟩ (.nil) (.nil)) (.ah 218 ⟨1,false,.fn,[.nilFunc]⟩ (.nil) (.nil))) (.ah 222 ⟨1,false,.fn,[.nilFunc]⟩ (.ah 221 ⟨1,false,.fn,[.nilFunc]⟩ (.nil) (.nil)) (.nil))) (.ah 226 ⟨1,false,.fn,[.nilFunc]⟩ (.ah 225 ⟨1,false,.sl 22 1 24,[.slice none 0 0]⟩ (.ah 224 ⟨1,false,.fn,[.nilFunc]⟩ (.nil) (.nil)) (.nil)) (.ah 228 ⟨1,false,.fn,[.nilFunc]⟩ (.ah 227 ⟨1,false,.fn,[.nilFunc]⟩ (.nil) (.nil)) (.nil)))))))) (.ah 346 ⟨1,false,.int .u64,[.int .u64 0]⟩ (.ah 288 ⟨2,true,.st [(0,73),(1,82)],[.slice none 0 0,.slice none 0 0]⟩ (.ah 258 ⟨1,false,.ptr 5,[.pointer none]⟩ (.ah 243 ⟨1,false,.fn,[.nilFunc]⟩ (.ah 236 ⟨1,false,.fn,[.nilFunc]⟩ (.ah 233 ⟨1,false,.fn,[.nilFunc]⟩ (.ah 231 ⟨1,false,.fn,[.nilFunc]⟩ (.ah 230 ⟨1,false,.fn,[.nilFunc]⟩ (.nil) (.nil)) (.ah 232 ⟨1,false,.fn,[.nilFunc]⟩ (.nil) (.nil))) (.ah 235 ⟨1,false,.fn,[.nilFunc]⟩ (.ah 234 ⟨1,false,.fn,[.nilFunc]⟩ (.nil) (.nil)) (.nil))) (.ah 240 ⟨1,false,.fn,[.nilFunc]⟩ (.ah 238 ⟨1,false,.fn,[.nilFunc]⟩ (.ah 237 ⟨1,false,.fn,[.nilFunc]⟩ (.nil) (.nil)) (.ah 239 ⟨1,false,.fn,[.nilFunc]⟩ (.nil) (.nil))) (.ah 242 ⟨1,false,.fn,[.nilFunc]⟩ (.ah 241 ⟨1,false,.fn,[.nilFunc]⟩ (.nil) (.nil)) (.nil)))) (.ah 252 ⟨1,false,.fn,[.nilFunc]⟩ (.ah 249 ⟨1,false,.fn,[.nilFunc]⟩ (.ah 247 ⟨1,false,.fn,[.nilFunc]⟩ (.ah 245 ⟨1,false,.fn,[.nilFunc]⟩ (.nil) (.nil)) (.ah 248 ⟨1,false,.fn,[.nilFunc]⟩ (.nil) (.nil))) (.ah 251 ⟨1,false,.fn,[.nilFunc]⟩ (.ah 250 ⟨1,false,.fn,[.nilFunc]⟩ (.nil) (.nil)) (.nil))) (.ah 255 ⟨1,false,.fn,[.nilFunc]⟩ (.ah 254 ⟨1,false,.fn,[.nilFunc]⟩ (.ah 253 ⟨1,false,.fn,[.nilFunc]⟩ (.nil) (.nil)) (.nil)) (.ah 257 ⟨1,false,.fn,[.nilFunc]⟩ (.ah 256 ⟨1,false,.fn,[.nilFunc]⟩ (.nil) (.nil)) (.nil))))) (.ah 272 ⟨2,true,.st [(0,3),(1,3)],[.int .i64 0,.int .i64 0]⟩ (.ah 265 ⟨1,false,.fn,[.nilFunc]⟩ (.ah 262 ⟨1,false,.fn,[.nilFunc]⟩ (.ah 260 ⟨3,true,.st [(0,41),(1,110),(2,3)],[.pointer none,.pointer none,.int .i64 0]⟩ (.ah 259 ⟨3,true,.st [(0,41),(1,110),(2,3)],[.pointer none,.pointer none,.int .i64 0]⟩ (.nil) (.nil)) (.ah 261 ⟨1,false,.fn,[.nilFunc]⟩ (.nil) (.nil))) (.ah 264 ⟨1,false,.fn,[.nilFunc]⟩ (.ah 263 ⟨1,false,.fn,[.nilFunc]⟩ (.nil) (.nil)) (.nil))) (.ah 269 ⟨1,false,.fn,[.nilFunc]⟩ (.ah 267 ⟨1,false,.fn,[.nilFunc]⟩ (.ah 266 ⟨1,false,.fn,[.nilFunc]⟩ (.nil) (.nil)) (.nil)) (.ah 271 ⟨2,true,.st [(0,3),(1,3)],[.int .i64 0,.int .i64 0]⟩ (.ah 270 ⟨1,false,.fn,[.nilFunc]⟩ (.nil) (.nil)) (.nil)))) (.ah 282 ⟨1,false,.fn,[.nilFunc]⟩ (.ah 277 ⟨1,false,.fn,[.nilFunc]⟩ (.ah 275 ⟨1,false,.fn,[.nilFunc]⟩ (.ah 274 ⟨1,false,.fn,[.nilFunc]⟩ (.nil) (.nil)) (.ah 276 ⟨1,false,.fn,[.nilFunc]⟩ (.nil) (.nil))) (.ah 280 ⟨1,false,.fn,[.nilFunc]⟩ (.ah 279 ⟨1,false,.fn,[.nilFunc]⟩ (.nil) (.nil)) (.nil))) (.ah 285 ⟨1,false,.fn,[.nilFunc]⟩ (.ah 284 ⟨1,false,.fn,[.nilFunc]⟩ (.ah 283 ⟨1,false,.fn,[.nilFunc]⟩ (.nil) (.nil)) (.nil)) (.ah 287 ⟨1,false,.fn,[.nilFunc]⟩ (.ah 286 ⟨1,false,.fn,[.nilFunc]⟩ (.nil) (.nil)) (.nil)))))) (.ah 318 ⟨1,false,.fn,[.nilFunc]⟩ (.ah 303 ⟨1,true,.st [(0,3)],[.int .i64 0]⟩ (.ah 295 ⟨1,false,.int .u64,[.int .u64 0]⟩ (.ah 292 ⟨1,false,.sl 295 1 8,[.slice none 0 0]⟩ (.ah 290 ⟨1,false,.fn,[.nilFunc]⟩ (.ah 289 ⟨2,true,.st [(0,73),(1,82)],[.slice none 0 0,.slice none 0 0]⟩ (.nil) (.nil)) (.ah 291 ⟨2,true,.ar 2 1,[.int .i64 0,.int .i64 0]⟩ (.nil) (.nil))) (.ah 294 ⟨1,true,.st [(0,292)],[.slice none 0 0]⟩ (.ah 293 ⟨1,true,.st [(0,292)],[.slice none 0 0]⟩ (.nil) (.nil)) (.nil))) (.ah 300 ⟨1,false,.fn,[.nilFunc]⟩ (.ah 297 ⟨1,false,.fn,[.nilFunc]⟩ (.ah 296 ⟨1,false,.fn,[.nilFunc]⟩ (.nil) (.nil)) (.ah 298 ⟨1,false,.fn,[.nilFunc]⟩ (.nil) (.nil))) (.ah 302 ⟨1,true,.st [(0,3)],[.int .i64 0]⟩ (.ah 301 ⟨1,false,.ptr 303,[.pointer none]⟩ (.nil) (.nil)) (.nil)))) (.ah 310 ⟨1,false,.fn,[.nilFunc]⟩ (.ah 307 ⟨1,false,.fn,[.nilFunc]⟩ (.ah 305 ⟨1,false,.fn,[.nilFunc]⟩ (.ah 304 ⟨1,false,.fn,[.nilFunc]⟩ (.nil) (.nil)) (.ah 306 ⟨1,false,.fn,[.nilFunc]⟩ (.nil) (.nil))) (.ah 309 ⟨1,false,.fn,[.nilFunc]⟩ (.ah 308 ⟨1,false,.fn,[.nilFunc]⟩ (.nil) (.nil)) (.nil))) (.ah 313 ⟨1,false,.fn,[.nilFunc]⟩ (.ah 312 ⟨1,false,.fn,[.nilFunc]⟩ (.ah 311 ⟨1,false,.fn,[.nilFunc]⟩ (.nil) (.nil)) (.nil)) (.ah 317 ⟨1,false,.fn,[.nilFunc]⟩ (.ah 315 ⟨1,false,.fn,[.nilFunc]⟩ (.nil) (.nil)) (.nil))))) (.ah 331 ⟨1,false,.fn,[.nilFunc]⟩ (.ah 325 ⟨1,false,.fn,[.nilFunc]⟩ (.ah 322 ⟨1,false,.fn,[.nilFunc]⟩ (.ah 320 ⟨1,false,.fn,[.nilFunc]⟩ (.ah 319 ⟨1,false,.fn,[.nilFunc]⟩ (.nil) (.nil)) (.ah 321 ⟨1,false,.fn,[.nilFunc]⟩ (.nil) (.nil))) (.ah 324 ⟨1,false,.fn,[.nilFunc]⟩ (.ah 323 ⟨20,true,.ar 20 1,[.int .u8 0,.int .u8 0,.int .u8 0,.int .u8 0,.int .u8 0,.int .u8 0,.int .u8 0,.int .u8 0,.int .u8 0,.int .u8 0,.int .u8 0,.int .u8 0,.int .u8 0,.int .u8 0,.int .u8 0,.int .u8 0,.int .u8 0,.int .u8 0,.int .u8 0,.int .u8 0]⟩ (.nil) (.nil)) (.nil))) (.ah 328 ⟨1,false,.fn,[.nilFunc]⟩ (.ah 327 ⟨1,false,.fn,[.nilFunc]⟩ (.ah 326 ⟨1,false,.fn,[.nilFunc]⟩ (.nil) (.nil)) (.nil)) (.ah 330 ⟨1,false,.fn,[.nilFunc]⟩ (.ah 329 ⟨1,false,.fn,[.nilFunc]⟩ (.nil) (.nil)) (.nil)))) (.ah 338 ⟨1,false,.fn,[.nilFunc]⟩ (.ah 335 ⟨3,true,.st [(0,44),(2,3)],[.int .i64 0,.int .i64 0,.int .i64 0]⟩ (.ah 333 ⟨1,false,.fn,[.nilFunc]⟩ (.ah 332 ⟨1,false,.fn,[.nilFunc]⟩ (.nil) (.nil)) (.ah 334 ⟨3,true,.st [(0,44),(2,3)],[.int .i64 0,.int .i64 0,.int .i64 0]⟩ (.nil) (.nil))) (.ah 337 ⟨1,false,.fn,[.nilFunc]⟩ (.ah 336 ⟨1,false,.fn,[.nilFunc]⟩ (.nil) (.nil)) (.nil))) (.ah 343 ⟨1,false,.fn,[.nilFunc]⟩ (.ah 342 ⟨1,false,.fn,[.nilFunc]⟩ (.ah 339 ⟨1,false,.int .u64,[.int .u64 0]⟩ (.nil) (.nil)) (.nil)) (.ah 345 ⟨1,false,.fn,[.nilFunc]⟩ (.ah 344 ⟨1,false,.fn,[.nilFunc]⟩ (.nil) (.nil)) (.nil))))))) (.ah 403 ⟨1,false,.fn,[.nilFunc]⟩ (.ah 374 ⟨1,false,.fn,[.nilFunc]⟩ (.ah 361 ⟨1,false,.fn,[.nilFunc]⟩ (.ah 353 ⟨1,false,.fn,[.nilFunc]⟩ (.ah 350 ⟨1,false,.fn,[.nilFunc]⟩ (.ah 348 ⟨2,true,.st [(0,182),(1,343)],[.nilFunc,.nilFunc]⟩ (.ah 347 ⟨1,false,.fn,[.nilFunc]⟩ (.nil) (.nil)) (.ah 349 ⟨2,true,.st [(0,182),(1,343)],[.nilFunc,.nilFunc]⟩ (.nil) (.nil))) (.ah 352 ⟨1,false,.fn,[.nilFunc]⟩ (.ah 351 ⟨1,false,.fn,[.nilFunc]⟩ (.nil) (.nil)) (.nil))) (.ah 357 ⟨3,true,.st [(0,9),(1,9),(2,73)],[.string ByteArray.empty,.string ByteArray.empty,.slice none 0 0]⟩ (.ah 355 ⟨1,false,.fn,[.nilFunc]⟩ (.ah 354 ⟨1,false,.fn,[.nilFunc]⟩ (.nil) (.nil)) (.ah 356 ⟨1,false,.fn,[.nilFunc]⟩ (.nil) (.nil))) (.ah 360 ⟨1,false,.fn,[.nilFunc]⟩ (.ah 358 ⟨3,true,.st [(0,9),(1,9),(2,73)],[.string ByteArray.empty,.string ByteArray.empty,.slice none 0 0]⟩ (.nil) (.nil)) (.nil)))) (.ah 368 ⟨1,false,.fn,[.nilFunc]⟩ (.ah 365 ⟨1,false,.fn,[.nilFunc]⟩ (.ah 363 ⟨1,false,.fn,[.nilFunc]⟩ (.ah 362 ⟨1,false,.fn,[.nilFunc]⟩ (.nil) (.nil)) (.ah 364 ⟨1,false,.fn,[.nilFunc]⟩ (.nil) (.nil))) (.ah 367 ⟨1,false,.fn,[.nilFunc]⟩ (.ah 366 ⟨1,false,.fn,[.nilFunc]⟩ (.nil) (.nil)) (.nil))) (.ah 371 ⟨1,false,.fn,[.nilFunc]⟩ (.ah 370 ⟨1,false,.fn,[.nilFunc]⟩ (.ah 369 ⟨1,false,.fn,[.nilFunc]⟩ (.nil) (.nil)) (.nil)) (.ah 373 ⟨15,true,.st [(0,3),(1,193),(11,34)],[.int .i64 0,.string ByteArray.empty,.bool false,.int .i64 0,.int .i64 0,.int .i64 0,.int .i64 0,.int .i64 0,.int .i64 0,.int .i64 0,.int .i64 0,.int .i64 0,.int .i64 0,.string ByteArray.empty,.slice none 0 0]⟩ (.ah 372 ⟨15,true,.st [(0,3),(1,193),(11,34)],[.int .i64 0,.string ByteArray.empty,.bool false,.int .i64 0,.int .i64 0,.int .i64 0,.int .i64 0,.int .i64 0,.int .i64 0,.int .i64 0,.int .i64 0,.int .i64 0,.int .i64 0,.string ByteArray.empty,.slice none 0 0]⟩ (.nil) (.nil)) (.nil))))) (.ah 388 ⟨1,false,.fn,[.nilFunc]⟩ (.ah 381 ⟨1,true,.st [(0,17)],[.pointer none]⟩ (.ah 378 ⟨1,false,.fn,[.nilFunc]⟩ (.ah 376 ⟨1,false,.fn,[.nilFunc]⟩ (.ah 375 ⟨1,false,.fn,[.nilFunc]⟩ (.nil) (.nil)) (.ah 377 ⟨1,false,.fn,[.nilFunc]⟩ (.nil) (.nil))) (.ah 380 ⟨1,true,.st [(0,17)],[.pointer none]⟩ (.ah 379 ⟨1,false,.fn,[.nilFunc]⟩ (.nil) (.nil)) (.nil))) (.ah 384 ⟨1,false,.int .u32,[.int .u32 0]⟩ (.ah 383 ⟨1,false,.fn,[.nilFunc]⟩ (.ah 382 ⟨1,false,.ptr 461,[.pointer none]⟩ (.nil) (.nil)) (.nil)) (.ah 386 ⟨1,false,.int .i64,[.int .i64 0]⟩ (.ah 385 ⟨1,false,.fn,[.nilFunc]⟩ (.nil) (.nil)) (.nil)))) (.ah 396 ⟨1,false,.fn,[.nilFunc]⟩ (.ah 392 ⟨1,false,.fn,[.nilFunc]⟩ (.ah 390 ⟨1,false,.fn,[.nilFunc]⟩ (.ah 389 ⟨1,false,.fn,[.nilFunc]⟩ (.nil) (.nil)) (.ah 391 ⟨1,false,.fn,[.nilFunc]⟩ (.nil) (.nil))) (.ah 394 ⟨1,false,.fn,[.nilFunc]⟩ (.ah 393 ⟨1,false,.fn,[.nilFunc]⟩ (.nil) (.nil)) (.nil))) (.ah 399 ⟨1,false,.fn,[.nilFunc]⟩ (.ah 398 ⟨1,false,.fn,[.nilFunc]⟩ (.ah 397 ⟨1,false,.fn,[.nilFunc]⟩ (.nil) (.nil)) (.nil)) (.ah 402 ⟨1,false,.fn,[.nilFunc]⟩ (.ah 401 ⟨1,false,.fn,[.nilFunc]⟩ (.nil) (.nil)) (.nil)))))) (.ah 432 ⟨4,true,.ar 4 1,[.int .i64 0,.int .i64 0,.int .i64 0,.int .i64 0]⟩ (.ah 417 ⟨1,false,.fn,[.nilFunc]⟩ (.ah 410 ⟨1,false,.ptr 3,[.pointer none]⟩ (.ah 407 ⟨1,false,.fn,[.nilFunc]⟩ (.ah 405 ⟨1,false,.fn,[.nilFunc]⟩ (.ah 404 ⟨1,false,.fn,[.nilFunc]⟩ (.nil) (.nil)) (.ah 406 ⟨1,false,.int .u64,[.int .u64 0]⟩ (.nil) (.nil))) (.ah 409 ⟨1,false,.fn,[.nilFunc]⟩ (.ah 408 ⟨1,false,.fn,[.nilFunc]⟩ (.nil) (.nil)) (.nil))) (.ah 414 ⟨1,false,.fn,[.nilFunc]⟩ (.ah 412 ⟨1,false,.fn,[.nilFunc]⟩ (.ah 411 ⟨1,false,.fn,[.nilFunc]⟩ (.nil) (.nil)) (.ah 413 ⟨1,false,.fn,[.nilFunc]⟩ (.nil) (.nil))) (.ah 416 ⟨1,false,.sl 434 2 8,[.slice none 0 0]⟩ (.ah 415 ⟨1,false,.fn,[.nilFunc]⟩ (.nil) (.nil)) (.nil)))) (.ah 426 ⟨1,false,.fn,[.nilFunc]⟩ (.ah 423 ⟨1,false,.fn,[.nilFunc]⟩ (.ah 420 ⟨1,false,.fn,[.nilFunc]⟩ (.ah 419 ⟨1,false,.fn,[.nilFunc]⟩ (.nil) (.nil)) (.ah 421 ⟨1,false,.fn,[.nilFunc]⟩ (.nil) (.nil))) (.ah 425 ⟨1,false,.fn,[.nilFunc]⟩ (.ah 424 ⟨1,false,.fn,[.nilFunc]⟩ (.nil) (.nil)) (.nil))) (.ah 429 ⟨1,false,.fn,[.nilFunc]⟩ (.ah 428 ⟨1,false,.fn,[.nilFunc]⟩ (.ah 427 ⟨1,false,.fn,[.nilFunc]⟩ (.nil) (.nil)) (.nil)) (.ah 431 ⟨1,false,.fn,[.nilFunc]⟩ (.ah 430 ⟨1,false,.ptr 406,[.pointer none]⟩ (.nil) (.nil)) (.nil))))) (.ah 447 ⟨2,true,.st [(0,21),(1,21)],[.int .i32 0,.int .i32 0]⟩ (.ah 440 ⟨1,false,.fn,[.nilFunc]⟩ (.ah 436 ⟨1,false,.sl 447 2 8,[.slice none 0 0]⟩ (.ah 434 ⟨2,true,.st [(0,21),(1,21)],[.int .i32 0,.int .i32 0]⟩ (.ah 433 ⟨2,true,.st [(0,21),(1,21)],[.int .i32 0,.int .i32 0]⟩ (.nil) (.nil)) (.ah 435 ⟨1,false,.fn,[.nilFunc]⟩ (.nil) (.nil))) (.ah 438 ⟨1,false,.fn,[.nilFunc]⟩ (.ah 437 ⟨1,false,.fn,[.nilFunc]⟩ (.nil) (.nil)) (.nil))) (.ah 444 ⟨1,false,.fn,[.nilFunc]⟩ (.ah 443 ⟨1,false,.fn,[.nilFunc]⟩ (.ah 442 ⟨1,false,.fn,[.nilFunc]⟩ (.nil) (.nil)) (.nil)) (.ah 446 ⟨2,true,.st [(0,21),(1,21)],[.int .i32 0,.int .i32 0]⟩ (.ah 445 ⟨1,false,.fn,[.nilFunc]⟩ (.nil) (.nil)) (.nil)))) (.ah 456 ⟨1,false,.int .i32,[.int .i32 0]⟩ (.ah 453 ⟨1,false,.int .u8,[.int .u8 0]⟩ (.ah 449 ⟨4,true,.st [(0,17),(1,17),(2,17),(3,9)],[.pointer none,.pointer none,.pointer none,.string ByteArray.empty]⟩ (.ah 448 ⟨4,true,.st [(0,17),(1,17),(2,17),(3,9)],[.pointer none,.pointer none,.pointer none,.string ByteArray.empty]⟩ (.nil) (.nil)) (.ah 450 ⟨0,true,.ar 0 1,[]⟩ (.nil) (.nil))) (.ah 455 ⟨1,false,.fn,[.nilFunc]⟩ (.ah 454 ⟨1,false,.int .u8,[.int .u8 0]⟩ (.nil) (.nil)) (.nil))) (.ah 459 ⟨11,true,.st [(0,12),(1,12),(2,384),(3,453),(4,5),(5,5),(6,454),(7,455),(8,258),(9,456),(10,457)],[.int .u64 0,.int .u64 0,.int .u32 0,.int .u8 0,.int .u8 0,.int .u8 0,.int .u8 0,.nilFunc,.pointer none,.int .i32 0,.int .i32 0]⟩ (.ah 458 ⟨11,true,.st [(0,12),(1,12),(2,384),(3,453),(4,5),(5,5),(6,454),(7,455),(8,258),(9,456),(10,457)],[.int .u64 0,.int .u64 0,.int .u32 0,.int .u8 0,.int .u8 0,.int .u8 0,.int .u8 0,.nilFunc,.pointer none,.int .i32 0,.int .i32 0]⟩ (.ah 457 ⟨1,false,.int .i32,[.int .i32 0]⟩ (.nil) (.nil)) (.nil)) (.ah 461 ⟨2,true,.st [(0,9),(1,454)],[.string ByteArray.empty,.int .u8 0]⟩ (.ah 460 ⟨2,true,.st [(0,9),(1,454)],[.string ByteArray.empty,.int .u8 0]⟩ (.nil) (.nil)) (.nil))))))))
theorem fo:tt.ok Tryz.prog=true:=by decide +kernel
theorem mo:Tryz.prog.follows .mixedOrders=true:=rfl
end Dv
end Go.Proofs.YtgjagnmeonoehaaGreat
namespace Go.Proofs.YtgjagnmeonoehaaGreat
namespace Dv
open Go
theorem eG {f:FuncId} {fn:Func} {c:Code} {args:List DV} {os:List (List DV)} {bY:List TkE} {Φ:DV->List (List DV)->List TkE->Prop} (nt:Nat) (rs:List ResultVar)
 (hf:Tryz.prog.funcs[f]? = some fn) (hb:fn.body=some c) (GN:fn.ntmps=nt) (yt:fn.results.toList=rs)
 (h:∀ (E:En) (w:World) (hn:E.β.length=os.length) (hm:E.tk.length=bY.length),go ⟨Tryz.prog,tt,fo,fn,nt,rs,yt,w,E,os.length,bY.length,hn,hm,false,Φ,[],[],false⟩ 5000 [.code c] ⟨argSl 0 args,os,bY⟩) (hlen:args.length<=nt:=by exact Nat.le_of_ble_eq_true rfl):Ev Tryz.prog f args os bY Φ:=Dx tt fo 5000 nt rs hf hb GN yt hlen h
theorem cP {X:Ctx} {st:St} {k:List It} {f:FuncId} {args bo:List DV} {d:Nat} {r:DV} (ki:Enters X.P f) (hc:EvP X.P f bo r) (hk:go X 4000 k ⟨(d,⟨[],r⟩) :: st.sl,st.bx,st.tk⟩) (ha:CcL [] 0 0 0 bo args:=by exact ax) (hd:ez X.nt st.sl (some d)=true:=by exact rfl) (aW:X.still=false:=by exact rfl):CallG X f args (some d) k st:=call_p ki hc ha hd hk aW
theorem cD {X:Ctx} {st:St} {c:Bool} {s0:List (Nat×Sl)} {D:Dr} {i:Nat} {f:FuncId} {args bo:List DV} {d:Nat} {r:List (Nat×Oper)} {yA:DV} (ki:Enters X.P f) (hc:EvP X.P f bo yA) (hk:put2 s0 st (some d) false [] yA (goD X D 3000 c r)) (ha:CcL [] 0 0 0 bo args:=by exact ax) (hd:(ez X.nt st.sl (some d) && ez X.nt s0 (some d))=true:=by exact rfl) (aW:X.still=false:=by exact rfl):vA X D c i r f args (some d) s0 st:=n7 ki hc ha hd hk aW
theorem dI {X:Ctx} {st:St} {k:List It} {id:Nat} {ops:Array Oper} (h:goD X ⟨ops,fun _=>false,k,st,none⟩ 3000 true (nOps 0 ops.toList) st.sl st) (hm:X.P.follows .mixedOrders=true:=by exact mo) (hc:GO ops (fun _=>false)=true:=by decide +kernel):va X id ops k st:=e9 _ hm hc h
theorem dS {X:Ctx} {st:St} {k:List It} {id:Nat} {ops:Array Oper} (h:goD X ⟨ops,Y0 ops,k,st,none⟩ 3000 true (nOps 0 ops.toList) st.sl st) (hm:X.P.follows .mixedOrders=true:=by exact mo) (hc:GO ops (Y0 ops)=true:=by decide +kernel):va X id ops k st:=Jq hm hc h
end Dv
end Go.Proofs.YtgjagnmeonoehaaGreat
set_option maxRecDepth 100000
namespace Go.Proofs.YtgjagnmeonoehaaGreat
open Go Go.RowKit Dv Go.Proofs.Tryz
theorem Y8:Enters prog 11:=enters_of func11 (by decide +kernel) rfl
theorem en12:Enters prog 12:=enters_of func12 (by decide +kernel) rfl
theorem GW:Enters prog 18:=enters_of func18 (by decide +kernel) rfl
theorem en21:Enters prog 21:=enters_of func21 (by decide +kernel) rfl
theorem mR:Enters prog 36:=enters_of func36 (by decide +kernel) rfl
theorem uu:Enters prog 37:=enters_of func37 (by decide +kernel) rfl
theorem Y9:Enters prog 38:=enters_of func38 (by decide +kernel) rfl
theorem NE:Enters prog 39:=enters_of func39 (by decide +kernel) rfl
theorem Wg:Enters prog 40:=enters_of func40 (by decide +kernel) rfl
theorem Za:Enters prog 41:=enters_of func41 (by decide +kernel) rfl
theorem Zb:Enters prog 42:=enters_of func42 (by decide +kernel) rfl
theorem en43:Enters prog 43:=enters_of func43 (by decide +kernel) rfl
theorem en44:Enters prog 44:=enters_of func44 (by decide +kernel) rfl
theorem en45:Enters prog 45:=enters_of func45 (by decide +kernel) rfl
theorem en46:Enters prog 46:=enters_of func46 (by decide +kernel) rfl
theorem Zc:Enters prog 47:=enters_of func47 (by decide +kernel) rfl
theorem Zd:Enters prog 48:=enters_of func48 (by decide +kernel) rfl
theorem Wh:Enters prog 49:=enters_of func49 (by decide +kernel) rfl
theorem en50:Enters prog 50:=enters_of func50 (by decide +kernel) rfl
theorem en51:Enters prog 51:=enters_of func51 (by decide +kernel) rfl
theorem RV:Enters prog 52:=enters_of func52 (by decide +kernel) rfl
theorem Wi:Enters prog 53:=enters_of func53 (by decide +kernel) rfl
theorem Ze:Enters prog 54:=enters_of func54 (by decide +kernel) rfl
theorem RW:Enters prog 55:=enters_of func55 (by decide +kernel) rfl
theorem en56:Enters prog 56:=enters_of func56 (by decide +kernel) rfl
theorem Zf:Enters prog 57:=enters_of func57 (by decide +kernel) rfl
theorem RX:Enters prog 58:=enters_of func58 (by decide +kernel) rfl
theorem RY:Enters prog 67:=enters_of func67 (by decide +kernel) rfl
theorem NF:Enters prog 68:=enters_of func68 (by decide +kernel) rfl
theorem en69:Enters prog 69:=enters_of func69 (by decide +kernel) rfl
theorem NG:Enters prog 70:=enters_of func70 (by decide +kernel) rfl
theorem Bi:Enters prog 72:=enters_of func72 (by decide +kernel) rfl
theorem DL:Enters prog 73:=enters_of func73 (by decide +kernel) rfl
theorem Zg:Enters prog 74:=enters_of func74 (by decide +kernel) rfl
theorem Zh:Enters prog 76:=enters_of func76 (by decide +kernel) rfl
theorem Zi:Enters prog 77:=enters_of func77 (by decide +kernel) rfl
theorem RZ:Enters prog 78:=enters_of func78 (by decide +kernel) rfl
theorem en80:Enters prog 80:=enters_of func80 (by decide +kernel) rfl
theorem Zj:Enters prog 87:=enters_of func87 (by decide +kernel) rfl
theorem Zk:Enters prog 88:=enters_of func88 (by decide +kernel) rfl
theorem Zl:Enters prog 94:=enters_of func94 (by decide +kernel) rfl
theorem en95:Enters prog 95:=enters_of func95 (by decide +kernel) rfl
theorem Zm:Enters prog 96:=enters_of func96 (by decide +kernel) rfl
theorem Zn:Enters prog 97:=enters_of func97 (by decide +kernel) rfl
theorem Wj:Enters prog 98:=enters_of func98 (by decide +kernel) rfl
theorem Wl:Enters prog 99:=enters_of func99 (by decide +kernel) rfl
theorem Zo:Enters prog 100:=enters_of func100 (by decide +kernel) rfl
theorem Jy:Enters prog 101:=enters_of func101 (by decide +kernel) rfl
theorem Zp:Enters prog 102:=enters_of func102 (by decide +kernel) rfl
theorem Zq:Enters prog 103:=enters_of func103 (by decide +kernel) rfl
theorem TU:Enters prog 104:=enters_of func104 (by decide +kernel) rfl
theorem NH:Enters prog 105:=enters_of func105 (by decide +kernel) rfl
theorem TW:Enters prog 106:=enters_of func106 (by decide +kernel) rfl
theorem Zr:Enters prog 107:=enters_of func107 (by decide +kernel) rfl
theorem TX:Enters prog 108:=enters_of func108 (by decide +kernel) rfl
theorem TY:Enters prog 109:=enters_of func109 (by decide +kernel) rfl
theorem Zs:Enters prog 110:=enters_of func110 (by decide +kernel) rfl
theorem tf:Enters prog 111:=enters_of func111 (by decide +kernel) rfl
theorem NI:Enters prog 112:=enters_of func112 (by decide +kernel) rfl
theorem Zt:Enters prog 113:=enters_of func113 (by decide +kernel) rfl
theorem TZ:Enters prog 114:=enters_of func114 (by decide +kernel) rfl
theorem ni:Enters prog 115:=enters_of func115 (by decide +kernel) rfl
theorem DM:Enters prog 116:=enters_of func116 (by decide +kernel) rfl
theorem en117:Enters prog 117:=enters_of func117 (by decide +kernel) rfl
theorem T0:Enters prog 118:=enters_of func118 (by decide +kernel) rfl
theorem Zu:Enters prog 119:=enters_of func119 (by decide +kernel) rfl
theorem Zv:Enters prog 120:=enters_of func120 (by decide +kernel) rfl
theorem Zw:Enters prog 121:=enters_of func121 (by decide +kernel) rfl
theorem T5:Enters prog 122:=enters_of func122 (by decide +kernel) rfl
theorem NJ:Enters prog 123:=enters_of func123 (by decide +kernel) rfl
theorem Jz:Enters prog 124:=enters_of func124 (by decide +kernel) rfl
theorem T6:Enters prog 125:=enters_of func125 (by decide +kernel) rfl
theorem Zx:Enters prog 137:=enters_of func137 (by decide +kernel) rfl
theorem Zy:Enters prog 138:=enters_of func138 (by decide +kernel) rfl
theorem T7:Enters prog 139:=enters_of func139 (by decide +kernel) rfl
theorem NK:Enters prog 140:=enters_of func140 (by decide +kernel) rfl
theorem en141:Enters prog 141:=enters_of func141 (by decide +kernel) rfl
theorem en142:Enters prog 142:=enters_of func142 (by decide +kernel) rfl
theorem en143:Enters prog 143:=enters_of func143 (by decide +kernel) rfl
theorem Zz:Enters prog 144:=enters_of func144 (by decide +kernel) rfl
theorem ZA:Enters prog 150:=enters_of func150 (by decide +kernel) rfl
theorem T8:Enters prog 152:=enters_of func152 (by decide +kernel) rfl
theorem NL:Enters prog 153:=enters_of func153 (by decide +kernel) rfl
theorem JA:Enters prog 154:=enters_of func154 (by decide +kernel) rfl
theorem ZB:Enters prog 155:=enters_of func155 (by decide +kernel) rfl
theorem JB:Enters prog 156:=enters_of func156 (by decide +kernel) rfl
theorem ZC:Enters prog 157:=enters_of func157 (by decide +kernel) rfl
theorem JC:Enters prog 166:=enters_of func166 (by decide +kernel) rfl
theorem ZD:Enters prog 167:=enters_of func167 (by decide +kernel) rfl
theorem vH:Enters prog 168:=enters_of func168 (by decide +kernel) rfl
theorem DN:Enters prog 169:=enters_of func169 (by decide +kernel) rfl
theorem JD:Enters prog 184:=enters_of func184 (by decide +kernel) rfl
theorem ZE:Enters prog 185:=enters_of func185 (by decide +kernel) rfl
theorem ZF:Enters prog 186:=enters_of func186 (by decide +kernel) rfl
theorem ZG:Enters prog 187:=enters_of func187 (by decide +kernel) rfl
theorem ZH:Enters prog 188:=enters_of func188 (by decide +kernel) rfl
theorem NN:Enters prog 190:=enters_of func190 (by decide +kernel) rfl
theorem ZI:Enters prog 191:=enters_of func191 (by decide +kernel) rfl
theorem ZJ:Enters prog 192:=enters_of func192 (by decide +kernel) rfl
theorem NO:Enters prog 193:=enters_of func193 (by decide +kernel) rfl
theorem NP:Enters prog 194:=enters_of func194 (by decide +kernel) rfl
theorem T9:Enters prog 195:=enters_of func195 (by decide +kernel) rfl
theorem ZK:Enters prog 196:=enters_of func196 (by decide +kernel) rfl
theorem ZL:Enters prog 197:=enters_of func197 (by decide +kernel) rfl
theorem Ua:Enters prog 198:=enters_of func198 (by decide +kernel) rfl
theorem NQ:Enters prog 199:=enters_of func199 (by decide +kernel) rfl
theorem Ub:Enters prog 200:=enters_of func200 (by decide +kernel) rfl
theorem Uc:Enters prog 201:=enters_of func201 (by decide +kernel) rfl
theorem Ud:Enters prog 202:=enters_of func202 (by decide +kernel) rfl
theorem tg:Enters prog 203:=enters_of func203 (by decide +kernel) rfl
theorem JE:Enters prog 204:=enters_of func204 (by decide +kernel) rfl
theorem vI:Enters prog 205:=enters_of func205 (by decide +kernel) rfl
theorem ZM:Enters prog 206:=enters_of func206 (by decide +kernel) rfl
theorem ZN:Enters prog 207:=enters_of func207 (by decide +kernel) rfl
theorem Ue:Enters prog 208:=enters_of func208 (by decide +kernel) rfl
theorem Uf:Enters prog 210:=enters_of func210 (by decide +kernel) rfl
theorem Ug:Enters prog 213:=enters_of func213 (by decide +kernel) rfl
theorem zq:Enters prog 214:=enters_of func214 (by decide +kernel) rfl
theorem Uh:Enters prog 215:=enters_of func215 (by decide +kernel) rfl
theorem Ui:Enters prog 218:=enters_of func218 (by decide +kernel) rfl
theorem zr:Enters prog 219:=enters_of func219 (by decide +kernel) rfl
theorem ZO:Enters prog 221:=enters_of func221 (by decide +kernel) rfl
theorem NR:Enters prog 222:=enters_of func222 (by decide +kernel) rfl
theorem ZP:Enters prog 223:=enters_of func223 (by decide +kernel) rfl
theorem NS:Enters prog 224:=enters_of func224 (by decide +kernel) rfl
theorem ZQ:Enters prog 225:=enters_of func225 (by decide +kernel) rfl
theorem NT:Enters prog 226:=enters_of func226 (by decide +kernel) rfl
theorem ZR:Enters prog 227:=enters_of func227 (by decide +kernel) rfl
theorem ZS:Enters prog 231:=enters_of func231 (by decide +kernel) rfl
theorem Uj:Enters prog 232:=enters_of func232 (by decide +kernel) rfl
theorem ZT:Enters prog 239:=enters_of func239 (by decide +kernel) rfl
theorem ZU:Enters prog 240:=enters_of func240 (by decide +kernel) rfl
theorem ZV:Enters prog 241:=enters_of func241 (by decide +kernel) rfl
theorem NU:Enters prog 242:=enters_of func242 (by decide +kernel) rfl
theorem NV:Enters prog 243:=enters_of func243 (by decide +kernel) rfl
theorem ZW:Enters prog 244:=enters_of func244 (by decide +kernel) rfl
theorem Uk:Enters prog 250:=enters_of func250 (by decide +kernel) rfl
theorem ZX:Enters prog 251:=enters_of func251 (by decide +kernel) rfl
theorem ee:Enters prog 252:=enters_of func252 (by decide +kernel) rfl
theorem ZY:Enters prog 253:=enters_of func253 (by decide +kernel) rfl
theorem ZZ:Enters prog 254:=enters_of func254 (by decide +kernel) rfl
theorem Ul:Enters prog 255:=enters_of func255 (by decide +kernel) rfl
theorem Um:Enters prog 256:=enters_of func256 (by decide +kernel) rfl
theorem Un:Enters prog 257:=enters_of func257 (by decide +kernel) rfl
theorem Z0:Enters prog 258:=enters_of func258 (by decide +kernel) rfl
theorem DO:Enters prog 260:=enters_of func260 (by decide +kernel) rfl
theorem Uo:Enters prog 261:=enters_of func261 (by decide +kernel) rfl
theorem JF:Enters prog 262:=enters_of func262 (by decide +kernel) rfl
theorem Up:Enters prog 263:=enters_of func263 (by decide +kernel) rfl
theorem Z1:Enters prog 264:=enters_of func264 (by decide +kernel) rfl
theorem Z2:Enters prog 265:=enters_of func265 (by decide +kernel) rfl
theorem Z3:Enters prog 266:=enters_of func266 (by decide +kernel) rfl
theorem JG:Enters prog 273:=enters_of func273 (by decide +kernel) rfl
theorem Z4:Enters prog 274:=enters_of func274 (by decide +kernel) rfl
theorem Z5:Enters prog 275:=enters_of func275 (by decide +kernel) rfl
theorem Z6:Enters prog 276:=enters_of func276 (by decide +kernel) rfl
theorem NW:Enters prog 277:=enters_of func277 (by decide +kernel) rfl
theorem gH:Enters prog 278:=enters_of func278 (by decide +kernel) rfl
theorem Z7:Enters prog 279:=enters_of func279 (by decide +kernel) rfl
theorem Uq:Enters prog 280:=enters_of func280 (by decide +kernel) rfl
theorem NX:Enters prog 281:=enters_of func281 (by decide +kernel) rfl
theorem Z8:Enters prog 282:=enters_of func282 (by decide +kernel) rfl
theorem Ur:Enters prog 283:=enters_of func283 (by decide +kernel) rfl
theorem Us:Enters prog 303:=enters_of func303 (by decide +kernel) rfl
theorem Z9:Enters prog 304:=enters_of func304 (by decide +kernel) rfl
theorem aaa:Enters prog 305:=enters_of func305 (by decide +kernel) rfl
theorem NY:Enters prog 308:=enters_of func308 (by decide +kernel) rfl
theorem aab:Enters prog 309:=enters_of func309 (by decide +kernel) rfl
theorem Ut:Enters prog 310:=enters_of func310 (by decide +kernel) rfl
theorem aac:Enters prog 311:=enters_of func311 (by decide +kernel) rfl
theorem aad:Enters prog 314:=enters_of func314 (by decide +kernel) rfl
theorem Uu:Enters prog 315:=enters_of func315 (by decide +kernel) rfl
theorem aae:Enters prog 316:=enters_of func316 (by decide +kernel) rfl
theorem nj:Enters prog 317:=enters_of func317 (by decide +kernel) rfl
theorem NZ:Enters prog 318:=enters_of func318 (by decide +kernel) rfl
theorem aaf:Enters prog 319:=enters_of func319 (by decide +kernel) rfl
theorem aag:Enters prog 320:=enters_of func320 (by decide +kernel) rfl
theorem aah:Enters prog 321:=enters_of func321 (by decide +kernel) rfl
theorem N1:Enters prog 327:=enters_of func327 (by decide +kernel) rfl
theorem DP:Enters prog 328:=enters_of func328 (by decide +kernel) rfl
theorem aai:Enters prog 329:=enters_of func329 (by decide +kernel) rfl
theorem aaj:Enters prog 337:=enters_of func337 (by decide +kernel) rfl
theorem aak:Enters prog 338:=enters_of func338 (by decide +kernel) rfl
theorem aal:Enters prog 339:=enters_of func339 (by decide +kernel) rfl
theorem aam:Enters prog 340:=enters_of func340 (by decide +kernel) rfl
theorem aan:Enters prog 341:=enters_of func341 (by decide +kernel) rfl
theorem aao:Enters prog 342:=enters_of func342 (by decide +kernel) rfl
theorem aap:Enters prog 348:=enters_of func348 (by decide +kernel) rfl
theorem aaq:Enters prog 349:=enters_of func349 (by decide +kernel) rfl
theorem DQ:Enters prog 350:=enters_of func350 (by decide +kernel) rfl
theorem Uv:Enters prog 351:=enters_of func351 (by decide +kernel) rfl
theorem JH:Enters prog 353:=enters_of func353 (by decide +kernel) rfl
theorem aar:Enters prog 354:=enters_of func354 (by decide +kernel) rfl
theorem zs:Enters prog 356:=enters_of func356 (by decide +kernel) rfl
theorem aas:Enters prog 357:=enters_of func357 (by decide +kernel) rfl
theorem aat:Enters prog 358:=enters_of func358 (by decide +kernel) rfl
theorem aau:Enters prog 359:=enters_of func359 (by decide +kernel) rfl
theorem aav:Enters prog 360:=enters_of func360 (by decide +kernel) rfl
theorem aaw:Enters prog 361:=enters_of func361 (by decide +kernel) rfl
theorem Uw:Enters prog 366:=enters_of func366 (by decide +kernel) rfl
theorem N2:Enters prog 367:=enters_of func367 (by decide +kernel) rfl
theorem Ux:Enters prog 368:=enters_of func368 (by decide +kernel) rfl
theorem aax:Enters prog 369:=enters_of func369 (by decide +kernel) rfl
theorem aay:Enters prog 370:=enters_of func370 (by decide +kernel) rfl
theorem Uy:Enters prog 371:=enters_of func371 (by decide +kernel) rfl
theorem aaz:Enters prog 372:=enters_of func372 (by decide +kernel) rfl
theorem aaA:Enters prog 373:=enters_of func373 (by decide +kernel) rfl
theorem aaB:Enters prog 376:=enters_of func376 (by decide +kernel) rfl
theorem aaC:Enters prog 377:=enters_of func377 (by decide +kernel) rfl
theorem aaD:Enters prog 378:=enters_of func378 (by decide +kernel) rfl
theorem aaE:Enters prog 379:=enters_of func379 (by decide +kernel) rfl
end Go.Proofs.YtgjagnmeonoehaaGreat
namespace Go.Proofs.YtgjagnmeonoehaaGreat
open Go Go.RowKit Dv
structure Wd where
 s:ByteArray
 a:Int
structure Hd where
 ag:Int
 at':Int
 lo:Int
 hi:Int
 most:Int
 af:List Wd
 name:Wd
structure Ph where
 name:Wd
 bare:Bool
 label:List Wd
 wide:Int
 ck:Int
 cn:Int
 ca:Int
 cl:List Wd
mutual
inductive Ty where
 | mk (h:Hd) (ps:Pts)
inductive Pts where
 | nil
 | cons (p:Ph) (t:Ty) (r:Pts)
end
def Ty.h:Ty->Hd | .mk h _=>h
def Ty.ps:Ty->Pts | .mk _ ps=>ps
def Pts.toList:Pts->List (Ph × Ty)
 | .nil=>[]
 | .cons p t r=>(p,t) :: r.toList
def Pts.len:Pts->Nat
 | .nil=>0
 | .cons _ _ r=>r.len + 1
theorem Pts.N3:∀ ps:Pts,ps.len=ps.toList.length
 | .nil=>rfl
 | .cons _ _ r=>by simp [Pts.len,Pts.toList,Pts.N3 r]
def Wd.wt (w:Wd):Nat:=w.s.size + 64
def wdsWt:List Wd->Nat
 | []=>0
 | w :: r=>w.wt + wdsWt r
def Hd.wt (h:Hd):Nat:=256 + wdsWt h.af + h.name.wt
def Ph.wt (p:Ph):Nat:=256 + p.name.wt + wdsWt p.label + wdsWt p.cl
mutual
def Ty.wt:Ty->Nat
 | .mk h ps=>h.wt + ps.wt
def Pts.wt:Pts->Nat
 | .nil=>0
 | .cons p t r=>p.wt + t.wt + r.wt
end
theorem bu:∀ l:List Wd,64 * l.length<=wdsWt l
 | []=>aQ _
 | w :: r=>by have:=bu r;simp only [List.length_cons,wdsWt,Wd.wt];omega
theorem iE:∀ {l:List Wd} {w:Wd},w∈l->w.s.size + 64<=wdsWt l
 | x :: r,w,h=>by
  rcases cO h with h | h
  ·subst h;simp only [wdsWt,Wd.wt];omega
  ·have:=iE h;simp only [wdsWt];omega
theorem Pts.fK:∀ ps:Pts,256 * ps.len<=ps.wt
 | .nil=>aQ _
 | .cons p t r=>by have:=Pts.fK r;simp only [Pts.len,Pts.wt,Ph.wt];omega
theorem Pts.gq:∀ {ps:Pts} {p:Ph} {t:Ty},(p,t)∈ps.toList->p.wt + t.wt<=ps.wt
 | .cons p t r,q,u,h=>by
  rcases cO h with h | h
  ·cases h;simp only [Pts.wt];omega
  ·have:=Pts.gq h;simp only [Pts.wt];omega
theorem Ty.dy (t:Ty):256<=t.wt:=by
 cases t;simp only [Ty.wt,Hd.wt];omega
def j2 (w:Wd):List DV:=[.v (.string w.s),.v (.int .i64 w.a)]
def bG (l:List Wd):List (List DV):=l.map j2
def GX (p:Ph) (tl:List DV):List DV:=
 .v (.string p.name.s) :: .v (.int .i64 p.name.a) :: .v (.bool p.bare) :: .sl 2 (bG p.label) none :: .v (.int .i64 p.wide) :: .v (.int .i64 p.ck) :: .v (.int .i64 p.cn) :: .v (.int .i64 p.ca) :: .sl 2 (bG p.cl) none :: tl
mutual
def dX:Ty->List DV
 | .mk h ps=>[.v (.int .i64 h.ag),.v (.int .i64 h.at'),.v (.int .i64 h.lo),.v (.int .i64 h.hi),.v (.int .i64 h.most),.sl 2 (bG h.af) none,.sl 18 (fL ps) none,.v (.string h.name.s),.v (.int .i64 h.name.a)]
def fL:Pts->List (List DV)
 | .nil=>[]
 | .cons p t r=>GX p (dX t) :: fL r
end
theorem aC (l:List Wd):(bG l).length=l.length:=by simp [bG]
theorem aH:∀ ps:Pts,(fL ps).length=ps.len
 | .nil=>by simp [fL,Pts.len]
 | .cons p t r=>by simp [fL,Pts.len,aH r]
theorem aT {l:List Wd} {j:Nat} {w:Wd} (h:l[j]? = some w):(bG l)[j]? = some (j2 w):=by simp [bG,h]
theorem zt {l:List Wd} {e:Nat} {x:Wd} (h:l[e]? = some x):bG (l.take e) ++ [j2 x]=bG (l.take (e + 1)):=by
 rw [List.take_add_one,h];simp [bG]
theorem bQ:∀ {ps:Pts} {j:Nat} {p:Ph} {t:Ty},ps.toList[j]? = some (p,t)->(fL ps)[j]? = some (GX p (dX t))
 | .nil,j,p,t,h=>by simp [Pts.toList] at h
 | .cons q u r,0,p,t,h=>by grind [Pts.toList,fL]
 | .cons q u r,j + 1,p,t,h=>by
  simp only [Pts.toList,List.getElem?_cons_succ] at h;simp only [fL,List.getElem?_cons_succ];exact bQ h
def Pts.drop:Nat->Pts->Pts
 | 0,ps=>ps
 | _ + 1,.nil=>.nil
 | e + 1,.cons _ _ r=>r.drop e
theorem Pts.drop_cons:∀ {e:Nat} {ps:Pts} {p:Ph} {t:Ty},ps.toList[e]? = some (p,t)->ps.drop e = .cons p t (ps.drop (e + 1))
 | 0,.cons q u r,p,t,h=>by
  simp only [Pts.toList,List.getElem?_cons_zero,oI,Prod.mk.injEq] at h;obtain ⟨rfl,rfl⟩:=h;rfl
 | e + 1,.cons q u r,p,t,h=>by
  simp only [Pts.toList,List.getElem?_cons_succ] at h;simp only [Pts.drop];exact Pts.drop_cons h
 | 0,.nil,p,t,h=>by simp [Pts.toList] at h
 | e + 1,.nil,p,t,h=>by simp [Pts.toList] at h
theorem Pts.dn:∀ (ps:Pts),ps.drop ps.len = .nil
 | .nil=>rfl
 | .cons _ _ r=>by simp only [Pts.len,Pts.drop];exact Pts.dn r
theorem Pts.eE {ps:Pts} {e:Nat} (h:e < ps.len):∃ p t,ps.toList[e]? = some (p,t):=by
 rw [Pts.N3] at h;exact ⟨_,_,gE h⟩
theorem drop_cons {α:Type} {l:List α} {e:Nat} {x:α} (h:l[e]? = some x):l.drop e=x :: l.drop (e + 1):=by
 obtain ⟨h1,h2⟩:=List.getElem?_eq_some_iff.1 h;rw [<- h2];exact List.drop_eq_getElem_cons h1
def av:ByteArray:=⟨#[]⟩
def N4:Hd:=⟨0,0,0,0,0,[],⟨av,0⟩⟩
def cJ:Ty:=.mk N4 .nil
def fp:Ph:=⟨⟨av,0⟩,false,[],0,0,0,0,[]⟩
def jo:Ph:=⟨⟨av,0⟩,true,[],0,0,0,0,[]⟩
theorem aN {e n:Nat} (h:e < n) (hn:n<=4611686018427387904):IntKind.i64.wrap ((e:Int) + 1)=((e + 1:Nat):Int):=by
 rw [IntWalk.i64_in _ ⟨by omega,by omega⟩];omega
theorem wrap64 {n:Int} (h1 : -9223372036854775808<=n) (h2:n<=9223372036854775807):IntKind.i64.wrap n=n:=IntWalk.i64_in n ⟨h1,h2⟩
theorem ai (x a:Bool):pickB x a false=(x && a):=by cases x<;>rfl
theorem aq (x b:Bool):pickB x true b=(x || b):=by cases x<;>rfl
end Go.Proofs.YtgjagnmeonoehaaGreat
set_option maxRecDepth 100000
namespace Go.Proofs.YtgjagnmeonoehaaGreat
open Go Go.RowKit Dv Go.Proofs.Tryz
def isLet (c:Int):Bool:=decide (97<=c) && decide (c<=122)
def iF (c:Int):Bool:=(isLet c || (decide (48<=c) && decide (c<=57))) || decide (c=95)
def signs:List UInt8->Nat
 | []=>0
 | c :: r=>if iF c.toNat=true then signs r + 1 else 0
def dY:List UInt8->Nat
 | []=>0
 | c :: r=>if isLet c.toNat=true then signs r + 1 else 0
def bd (s:ByteArray):Bool:=decide (0 < s.size) && (decide (s.size<=32) && decide (dY s.data.toList=s.size))
theorem DR {c:Int} (h:isLet c=true):iF c=true:=by simp [iF,h]
theorem DS:∀ l:List UInt8,signs l<=l.length
 | []=>aQ _
 | c :: r=>by
  simp only [signs,List.length_cons];split
  ·have:=DS r;omega
  ·omega
theorem vJ {c:UInt8} {r:List UInt8} (h:isLet c.toNat=true):dY (c :: r)=signs (c :: r):=by
 simp [dY,signs,h,DR h]
theorem rU {s:ByteArray} {k:Nat} (h:k < s.size):∃ c:UInt8,s.data.toList.drop k=c :: s.data.toList.drop (k + 1)/\eW s k=c.toNat:=by
 have hk:k < s.data.toList.length:=sU h;refine ⟨s.data.toList[k],by rw [<- List.drop_eq_getElem_cons hk],?_⟩
 grind [eW]
theorem vK {s:ByteArray} {k:Nat} (h:s.size<=k):s.data.toList.drop k=[]:=List.drop_eq_nil_of_le (sU h)
theorem ti (c:Int):EvP prog 250 [.v (.int .u8 c)] (.v (.bool (isLet c))):=by
 refine eG 9 [.tmp 2] func250 rfl ntmps250 rfl fun _ _ _ _=>?_;exact (congrArg (fun b=>DV.v (.bool b)) (ai _ _):_=_)
theorem K2 (c:Int):EvP prog 251 [.v (.int .u8 c)] (.v (.bool (iF c))):=by
 refine eG 17 [.tmp 2] func251 rfl ntmps251 rfl fun _ _ _ _=>?_;refine cP Uk (ti c) ?_;refine (bF ?_:);simp only [ai,aq,iF]
abbrev GY (s:ByteArray) (i e:Nat):St:=⟨[ay 5 e,(0,⟨[],.v (.string s)⟩),ay 1 i],[],[]⟩
theorem Bj (s:ByteArray) (i:Nat):s.extract i (i + 0)=⟨#[]⟩:=by
 apply ByteArray.ext
 simp_all
theorem K3 (s:ByteArray) (i:Nat) (hi:i < s.size) (hs:s.size<=4611686018427387904):EvP prog 198 [.v (.string s),.v (.int .i64 i)]
  (.tup [.v (.string (s.extract i (i + dY (s.data.toList.drop i)))),.v (.int .i64 ((i + dY (s.data.toList.drop i):Nat):Int))]):=by
 obtain ⟨c0,zu,gM⟩:=rU hi;refine eG 38 [.tmp 4,.tmp 5] func198 rfl ntmps198 rfl fun _ _ _ _=>?_;refine br (fun h=>?_) (fun _=>?_)
 ·simp [aq] at h;omega
 refine ⟨⟨by omega,by omega⟩,?_⟩;refine cP Uk (ti _) ?_;refine br ?_ ?_<;>intro h
 ·have hl:isLet (c0.toNat:Int)=false:=by grind
  have hn:dY (s.data.toList.drop i)=0:=by rw [zu];simp [dY,hl]
  rw [hn,Bj];exact ⟨_,ax,rfl⟩
 have hl:isLet (c0.toNat:Int)=true:=by grind
 have hn:dY (s.data.toList.drop i)=signs (s.data.toList.drop i):=by rw [zu];exact vJ hl
 rw [hn]
 refine aV (fun j st=>∃ e:Nat,st=GY s i e/\e<=s.size/\i<=e/\e + signs (s.data.toList.drop e)=i + signs (s.data.toList.drop i)/\j=s.size - e)
  (s.size - i) (GY s i i) (bp wB) ⟨i,rfl,by omega,by omega,rfl,rfl⟩ ?_
 rintro j st ⟨e,rfl,he,MN,hinv,rfl⟩;refine br ?_ ?_<;>intro h
 ·have au:e < s.size:=sU h;refine ⟨⟨by omega,by omega⟩,?_⟩;refine cP ZX (K2 _) ?_;obtain ⟨c,hd,hb⟩:=rU au;refine br ?_ ?_<;>intro h2
  ·have Uz:iF (c.toNat:Int)=true:=by
    have:iF ((eW s e:Nat):Int)=true:=h2
    rwa [hb] at this
   refine ⟨GY s i (e + 1),(bp (cY (aN au (by omega)))),s.size - (e + 1),by omega,e + 1,rfl,by omega,by omega,?_,rfl⟩;rw [hd] at hinv;simp only [signs,Uz,if_true] at hinv;omega
  ·have Uz:iF (c.toNat:Int)=false:=by
    have:iF ((eW s e:Nat):Int)=false:=h2
    rwa [hb] at this
   rw [hd] at hinv;simp only [signs,Uz] at hinv;refine ⟨⟨by omega,by omega,by omega⟩,?_⟩;have:i + signs (s.data.toList.drop i)=e:=by simp at hinv;omega
   rw [this];exact ⟨_,ax,rfl⟩
 ·have hge:e=s.size:=by simp at h;omega
  rw [vK (by omega)] at hinv;simp only [signs] at hinv;refine ⟨⟨by omega,by omega,by omega⟩,?_⟩;have:i + signs (s.data.toList.drop i)=e:=by omega
  rw [this];exact ⟨_,ax,rfl⟩
theorem take_nil (s:ByteArray) (hs:s.size=0):EvP prog 198 [.v (.string s),.v (.int .i64 0)] (.tup [.v (.string ⟨#[]⟩),.v (.int .i64 0)]):=by
 refine eG 38 [.tmp 4,.tmp 5] func198 rfl ntmps198 rfl fun _ _ _ _=>?_;refine br (fun _=>?_) (fun h=>?_)
 ·exact ⟨_,ax,rfl⟩
 ·simp [aq,hs] at h
theorem GZ (l:List UInt8):dY l<=l.length:=by
 cases l with
 | nil=>exact aQ _
 | cons c r=>grind [dY,DS]
theorem DT (s:ByteArray):decide (s=⟨#[]⟩)=decide (s.size=0):=by
 rw [Bool.eq_iff_iff];simp only [decide_eq_true_eq];constructor
 ·rintro rfl;rfl
 ·intro h;apply ByteArray.ext;exact Array.eq_empty_of_size_eq_zero h
theorem gv (s:ByteArray) (hs:s.size<=4611686018427387904):EvP prog 111 [.v (.string s)] (.v (.bool (bd s))):=by
 refine eG 22 [.tmp 2] func111 rfl ntmps111 rfl fun _ _ _ _=>?_;by_cases h0:s.size=0
 ·refine cP Ua (take_nil s h0) ?_;refine (bF ?_:);simp [ai,bd,DT,h0]
 ·refine cP Ua (K3 s 0 (by omega) hs) ?_;refine (bF ?_:);have hl:=GZ s.data.toList;simp only [Array.length_toList,ByteArray.size_data] at hl;simp only [ai,bd,DT,List.drop_zero,Nat.zero_add];rw [Bool.eq_iff_iff];simp only [aP,decide_eq_true_eq,Bool.not_eq_true',decide_eq_false_iff_not];omega
abbrev Bl (s:ByteArray) (i n e:Nat):St:=⟨[ay 5 n,ay 6 e,(0,⟨[],.v (.string s)⟩),ay 1 i],[],[]⟩
theorem DU (s:ByteArray) (hs:s.size<=4611686018427387904):EvP prog 225 [.v (.string s),.v (.int .i64 0)] (.v (.int .i64 (dY s.data.toList))):=by
 refine eG 47 [.tmp 4] func225 rfl ntmps225 rfl fun _ _ _ _=>?_
 refine aV (fun j st=>∃ e:Nat,st=Bl s 0 e e/\e<=s.size/\(e=0∨e + signs (s.data.toList.drop e)=dY s.data.toList)/\j=s.size - e)
  s.size (Bl s 0 0 0) (bp wB) ⟨0,rfl,by omega,.inl rfl,rfl⟩ ?_
 rintro j st ⟨e,rfl,he,hinv,rfl⟩;refine br ?_ ?_<;>intro h
 ·have au:e < s.size:=sU h;refine ⟨⟨by omega,by omega⟩,?_⟩;obtain ⟨c,hd,hb⟩:=rU au;have key:dY s.data.toList=if (e=0/\isLet (c.toNat:Int)=true)∨(e≠0/\iF (c.toNat:Int)=true) then (e + 1) + signs (s.data.toList.drop (e + 1)) else e:=by grind [dY,isLet,signs,iF]
  refine br ?_ ?_<;>intro h2
  ·have gF:eW s ((e:Int).toNat)=c.toNat:=hb;rw [gF] at h2;have:dY s.data.toList=e:=by grind [ai,aq,iF,isLet]
   rw [this];exact (rfl:_=_)
  ·have gF:eW s ((e:Int).toNat)=c.toNat:=hb;rw [gF] at h2;refine ⟨Bl s 0 (e + 1) (e + 1),(bp (cY (aN au (by omega)))),s.size - (e + 1),by omega,e + 1,rfl,by omega,.inr ?_,rfl⟩;rw [key,ap];simp only [ai,aq,iF,isLet] at h2 ⊢;simp at h2 ⊢;omega
 ·have hge:e=s.size:=by simp at h;omega
  have:dY s.data.toList=e:=by
   rcases hinv with h0 | h0
   ·subst h0;have:s.data.toList=[]:=by rw [<- List.drop_zero (l:=s.data.toList)];exact vK (by omega)
    rw [this];all_goals rfl
   ·grind [vK,signs]
  rw [this];exact (rfl:_=_)
theorem kp (s:ByteArray) (hs:s.size<=4611686018427387904):EvP prog 154 [.v (.string s)] (.v (.bool (bd s))):=by
 refine eG 18 [.tmp 2] func154 rfl ntmps154 rfl fun _ _ _ _=>?_;refine br ?_ ?_<;>intro h
 ·refine cP ZQ (DU s hs) ?_;refine (bF ?_:);rw [Bool.eq_iff_iff];simp [ai] at h;simp [ai,bd];omega
 ·refine (bF ?_:);rw [Bool.eq_iff_iff];simp [ai] at h;simp [ai,bd];omega
def eV (l:List ByteArray):List (List DV):=l.map fun s=>[.v (.string s)]
def dInts (l:List Nat):List (List DV):=l.map fun (i:Nat)=>[.v (.int .i64 (i:Int))]
theorem cg (l:List ByteArray):(eV l).length=l.length:=by simp [eV]
theorem bz (l:List Nat):(dInts l).length=l.length:=by simp [dInts]
theorem fc {l:List ByteArray} {j:Nat} {x:ByteArray} (h:l[j]? = some x):(eV l)[j]? = some [.v (.string x)]:=by simp [eV,h]
theorem ef {l:List Nat} {j:Nat} {x:Nat} (h:l[j]? = some x):(dInts l)[j]? = some [.v (.int .i64 (x:Int))]:=by simp [dInts,h]
abbrev G0 (g:Nat) (cb:List DV) (i j:Nat):St:=⟨[(1,⟨[],.fn g [] cb⟩),ay 5 i,ay 6 j],[],[]⟩
theorem tj (g:Nat) (ki:Enters prog g) (cb:List DV) (n m:Nat) (hn:n<=1099511627776) (hm:m<=n) (hcb:CcL [] 0 0 0 cb cb) (jH:clB.clL 0 0 cb=true)
  (hp:∀ i:Nat,i < n->EvP prog g (.v (.int .i64 i) :: cb) (.v (.bool (decide (m<=i))))) :
  EvP prog 200 [.v (.int .i64 n),.fn g [] cb] (.v (.int .i64 m)):=by
 refine eG 26 [.tmp 4] func200 rfl ntmps200 rfl fun _ _ _ _=>?_;have CX:clB 0 0 (.fn g [] cb)=true:=by simp only [clB,aP];exact ⟨rfl,jH⟩
 refine lI (fun j st=>∃ a b:Nat,st=G0 g cb a b/\a<=m/\m<=b/\b<=n/\j=b - a) ⟨0,n,rfl,by omega,by omega,by omega,rfl⟩ (bp (cY CX)) ?_;rintro j st ⟨a,b,rfl,h1,h2,h3,rfl⟩;refine br ?_ ?_<;>intro h
 ·have au:a < b:=sU h
  have Wm:IntKind.i64.wrap ((IntKind.u64.wrap (IntKind.i64.wrap ((a:Int) + (b:Int)))).fdiv (2 ^ (min ((1:Int).toNat) IntKind.u64.bits)))=(((a + b) / 2:Nat):Int):=by
   rw [wrap64 (n:=(a:Int) + (b:Int)) (by omega) (by omega),IntKind.wrap_u64];have e2:(2:Int) ^ (min ((1:Int).toNat) IntKind.u64.bits)=2:=by decide
   rw [e2,Int.fdiv_eq_ediv_of_nonneg _ (by decide),wrap64 (by omega) (by omega)];omega
  refine ⟨by decide,?_⟩;refine cP ki (hp ((a + b) / 2) (by omega)) ?_ ⟨_,_,rfl,congrArg (fun z=>DV.v (.int .i64 z)) Wm,hcb⟩;refine br ?_ ?_<;>intro hq
  ·have hq:(a + b) / 2 < m:=sU hq;have Db:=aN (e:=(a + b) / 2) (n:=n) (by omega) (by omega);rw [<- Wm] at Db;refine ⟨G0 g cb ((a + b) / 2 + 1) b,(bp (iT CX Db)),b - ((a + b) / 2 + 1),by omega,(a + b) / 2 + 1,b,rfl,by omega,by omega,by omega,rfl⟩
  ·have hq:m<=(a + b) / 2:=sU hq;refine ⟨G0 g cb a ((a + b) / 2),(bp (iT CX Wm)),(a + b) / 2 - a,by omega,a,(a + b) / 2,rfl,by omega,by omega,by omega,rfl⟩
 ·have hge:¬ a < b:=sU h;have:a=m:=by omega
  subst this;exact (rfl:_=_)
def Bm (a b:ByteArray):Bool:=Op.bytesLess a.data.toList b.data.toList
theorem kI:∀ l:List UInt8,Op.bytesLess l l=false
 | []=>rfl
 | a :: r=>by simp [Op.bytesLess,kI r]
theorem j3:∀ {a b:List UInt8},Op.bytesLess a b=true->Op.bytesLess b a=false
 | _,[],h=>by simp [Op.bytesLess] at h
 | [],b :: r,_=>rfl
 | a :: x,b :: y,h=>by
  simp only [Op.bytesLess,Bool.or_eq_true,decide_eq_true_eq,aP,beq_iff_eq] at h;simp only [Op.bytesLess,Bool.or_eq_false_iff,decide_eq_false_iff_not,Bool.and_eq_false_imp,beq_iff_eq];rcases h with h | ⟨rfl,h⟩
  ·grind
  ·exact ⟨UInt8.lt_irrefl _,fun _=>j3 h⟩
structure ij (L:List ByteArray) (aF:List Nat):Prop where
 lt:∀ (i p:Nat),aF[i]? = some p->p < L.length
 srt:∀ (i j p q:Nat) (s t:ByteArray),i < j->aF[i]? = some p->aF[j]? = some q->L[p]? = some s->L[q]? = some t->Bm s t=true
 fst:∀ (i p j:Nat) (s:ByteArray),aF[i]? = some p->L[p]? = some s->L[j]? = some s->p<=j
 all:∀ (j:Nat) (s:ByteArray),L[j]? = some s->∃ i p:Nat,aF[i]? = some p/\L[p]? = some s
abbrev cQ (L:List ByteArray) (aF:List Nat):List DV:=[.sl 1 (eV L) none,.sl 1 (dInts aF) none]
theorem vM (L:List ByteArray) (aF:List Nat) (s:ByteArray) (i p:Nat) (t:ByteArray) (hi:aF[i]? = some p) (hp:L[p]? = some t) :
  EvP prog 201 [.v (.int .i64 i),.pt [.pt (cQ L aF) 0] 0,.pt [.v (.string s)] 0] (.v (.bool (!Bm t s))):=by
 refine eG 20 [.tmp 4] func201 rfl ntmps201 rfl fun _ _ _ _=>?_;refine dI ?_;refine iX (ef hi) ?_;refine iX (fc hp) ?_;exact (rfl:_=_)
theorem find_spec (L:List ByteArray) (aF:List Nat) (s:ByteArray) (q p:Nat) (hT:ij L aF) (hl:aF.length<=1099511627776) (hq:aF[q]? = some p) (hp:L[p]? = some s) :
  EvP prog 115 [.pt (cQ L aF) 0,.v (.string s)] (.tup [.v (.int .i64 p),.v (.bool true)]):=by
 have hqlt:=(gS hq).1;refine eG 47 [.tmp 4,.tmp 5] func115 rfl ntmps115 rfl fun _ _ _ _=>?_
 have jH:∀ i:Nat,i < aF.length->EvP prog 201 [.v (.int .i64 i),.pt [.pt (cQ L aF) 0] 0,.pt [.v (.string s)] 0] (.v (.bool (decide (q<=i)))):=by
  intro i hi;obtain ⟨p',yI⟩:∃ p',aF[i]? = some p':=⟨_,gE hi⟩;obtain ⟨t,ht⟩:∃ t,L[p']? = some t:=⟨_,gE (hT.lt i p' yI)⟩;have:=vM L aF s i p' t yI ht
  have e:(!Bm t s)=decide (q<=i):=by
   rcases Nat.lt_trichotomy i q with h | h | h
   ·rw [hT.srt i q p' p t s h yI hq ht hp];simp;omega
   ·grind [Bm,kI]
   ·have h2:=hT.srt q i p p' s t h hq yI hp ht;rw [Bm,j3 h2];simp;omega
  rw [e] at this;exact this
 have hS:=tj 201 Uc [.pt [.pt (cQ L aF) 0] 0,.pt [.v (.string s)] 0] aF.length q hl (by omega) ax rfl jH;refine Bh Ub hS (rz (bz aF)) rfl ?_;refine dI ?_;refine br ?_ ?_<;>intro h
 ·refine iX (ef hq) ?_;refine iX (fc hp) ?_;refine br ?_ ?_<;>intro h2
  ·exfalso;simp [aq,bz] at h2
  ·refine iX (ef hq) ?_;exact ⟨_,ax,rfl⟩
 ·grind [dInts,bz]
end Go.Proofs.YtgjagnmeonoehaaGreat
set_option maxRecDepth 100000
namespace Go.Proofs
open Go.Shelf
def Tryz.laysGg6_ren:Go.Shelf.Ren:=⟨fun | 6=>188 | 10=>245 | 11=>246 | 12=>247 | 13=>248 | 14=>249 | 24=>293 | 25=>294 | 26=>295 | 27=>296 | 28=>297 | 29=>298 | 30=>299 | 31=>300 | 32=>301 | 33=>302 | 34=>322 | 35=>323 | 36=>324 | 37=>325 | 38=>326 | 39=>352 | n=>n,fun | 20=>20 | 26=>182 | 35=>341 | 0=>0 | 37=>343 | 3=>3 | 41=>346 | 44=>349 | 49=>384 | 51=>295 | 4=>4 | 54=>387 | 53=>386 | 58=>219 | 5=>5 | 9=>9 | 60=>406 | 64=>410 | 66=>430 | 67=>104 | 17=>17 | 32=>316 | 33=>339 | 82=>459 | 12=>12 | 75=>453 | 76=>454 | 77=>455 | 78=>258 | 79=>456 | 80=>457 | n=>n,fun | n=>n⟩
theorem Tryz.laysGg6:Go.Proofs.LaysGg.n6 prog Tryz.laysGg6_ren:={
 mixed:=by kernel_rfl
 f6:=func188.trans (congrArg some (by kernel_rfl))
 f10:=func245.trans (congrArg some (by kernel_rfl))
 f11:=func246.trans (congrArg some (by kernel_rfl))
 f12:=func247.trans (congrArg some (by kernel_rfl))
 f13:=func248.trans (congrArg some (by kernel_rfl))
 f14:=func249.trans (congrArg some (by kernel_rfl))
 f24:=func293.trans (congrArg some (by kernel_rfl))
 f25:=func294.trans (congrArg some (by kernel_rfl))
 f26:=func295.trans (congrArg some (by kernel_rfl))
 f27:=func296.trans (congrArg some (by kernel_rfl))
 f28:=func297.trans (congrArg some (by kernel_rfl))
 f29:=func298.trans (congrArg some (by kernel_rfl))
 f30:=func299.trans (congrArg some (by kernel_rfl))
 f31:=func300.trans (congrArg some (by kernel_rfl))
 f32:=func301.trans (congrArg some (by kernel_rfl))
 f33:=func302.trans (congrArg some (by kernel_rfl))
 f34:=func322.trans (congrArg some (by kernel_rfl))
 f35:=func323.trans (congrArg some (by kernel_rfl))
 f36:=func324.trans (congrArg some (by kernel_rfl))
 f37:=func325.trans (congrArg some (by kernel_rfl))
 f38:=func326.trans (congrArg some (by kernel_rfl))
 f39:=func352.trans (congrArg some (by kernel_rfl))
 t0:=Tryz.underlying0
 a0:=Tryz.isAgg0
 z0:=Tryz.sizeOf0
 v0:=Tryz.zeroValue0
 i0:=by kernel_rfl
 t3:=Tryz.underlying3
 a3:=Tryz.isAgg3
 z3:=Tryz.sizeOf3
 v3:=Tryz.zeroValue3
 i3:=by kernel_rfl
 t4:=Tryz.underlying4
 a4:=Tryz.isAgg4
 z4:=Tryz.sizeOf4
 v4:=Tryz.zeroValue4
 i4:=by kernel_rfl
 t5:=Tryz.underlying5
 a5:=Tryz.isAgg5
 z5:=Tryz.sizeOf5
 v5:=Tryz.zeroValue5
 i5:=by kernel_rfl
 t9:=Tryz.underlying9
 a9:=Tryz.isAgg9
 z9:=Tryz.sizeOf9
 v9:=Tryz.zeroValue9
 i9:=by kernel_rfl
 t12:=Tryz.underlying12
 a12:=Tryz.isAgg12
 z12:=Tryz.sizeOf12
 v12:=Tryz.zeroValue12
 i12:=by kernel_rfl
 t17:=Tryz.underlying17
 a17:=Tryz.isAgg17
 z17:=Tryz.sizeOf17
 v17:=Tryz.zeroValue17
 i17:=by kernel_rfl
 t20:=Tryz.underlying20
 a20:=Tryz.isAgg20
 z20:=Tryz.sizeOf20
 v20:=Tryz.zeroValue20
 i20:=by kernel_rfl
 t26:=Tryz.underlying182
 a26:=Tryz.isAgg182
 z26:=Tryz.sizeOf182
 v26:=Tryz.zeroValue182
 i26:=by kernel_rfl
 t32:=Tryz.underlying316
 a32:=Tryz.isAgg316
 z32:=Tryz.sizeOf316
 v32:=Tryz.zeroValue316
 i32:=by kernel_rfl
 t33:=Tryz.underlying339
 a33:=Tryz.isAgg339
 z33:=Tryz.sizeOf339
 v33:=Tryz.zeroValue339
 i33:=by kernel_rfl
 t35:=Tryz.underlying341
 a35:=Tryz.isAgg341
 z35:=Tryz.sizeOf341
 v35:=Tryz.zeroValue341
 i35:=by kernel_rfl
 t37:=Tryz.underlying343
 a37:=Tryz.isAgg343
 z37:=Tryz.sizeOf343
 v37:=Tryz.zeroValue343
 i37:=by kernel_rfl
 t41:=Tryz.underlying346
 a41:=Tryz.isAgg346
 z41:=Tryz.sizeOf346
 v41:=Tryz.zeroValue346
 i41:=by kernel_rfl
 t44:=Tryz.underlying349
 a44:=Tryz.isAgg349
 z44:=Tryz.sizeOf349
 v44:=Tryz.zeroValue349
 i44:=by kernel_rfl
 t49:=Tryz.underlying384
 a49:=Tryz.isAgg384
 z49:=Tryz.sizeOf384
 v49:=Tryz.zeroValue384
 i49:=by kernel_rfl
 t51:=Tryz.underlying295
 a51:=Tryz.isAgg295
 z51:=Tryz.sizeOf295
 v51:=Tryz.zeroValue295
 i51:=by kernel_rfl
 t53:=Tryz.underlying386
 a53:=Tryz.isAgg386
 z53:=Tryz.sizeOf386
 v53:=Tryz.zeroValue386
 i53:=by kernel_rfl
 t54:=Tryz.underlying387
 a54:=Tryz.isAgg387
 z54:=Tryz.sizeOf387
 v54:=Tryz.zeroValue387
 i54:=by kernel_rfl
 t58:=Tryz.underlying219
 a58:=Tryz.isAgg219
 z58:=Tryz.sizeOf219
 v58:=Tryz.zeroValue219
 i58:=by kernel_rfl
 t60:=Tryz.underlying406
 a60:=Tryz.isAgg406
 z60:=Tryz.sizeOf406
 v60:=Tryz.zeroValue406
 i60:=by kernel_rfl
 t64:=Tryz.underlying410
 a64:=Tryz.isAgg410
 z64:=Tryz.sizeOf410
 v64:=Tryz.zeroValue410
 i64:=by kernel_rfl
 t66:=Tryz.underlying430
 a66:=Tryz.isAgg430
 z66:=Tryz.sizeOf430
 v66:=Tryz.zeroValue430
 i66:=by kernel_rfl
 t67:=Tryz.underlying104
 a67:=Tryz.isAgg104
 z67:=Tryz.sizeOf104
 v67:=Tryz.zeroValue104
 i67:=by kernel_rfl
 t75:=Tryz.underlying453
 a75:=Tryz.isAgg453
 z75:=Tryz.sizeOf453
 v75:=Tryz.zeroValue453
 i75:=by kernel_rfl
 t76:=Tryz.underlying454
 a76:=Tryz.isAgg454
 z76:=Tryz.sizeOf454
 v76:=Tryz.zeroValue454
 i76:=by kernel_rfl
 t77:=Tryz.underlying455
 a77:=Tryz.isAgg455
 z77:=Tryz.sizeOf455
 v77:=Tryz.zeroValue455
 i77:=by kernel_rfl
 t78:=Tryz.underlying258
 a78:=Tryz.isAgg258
 z78:=Tryz.sizeOf258
 v78:=Tryz.zeroValue258
 i78:=by kernel_rfl
 t79:=Tryz.underlying456
 a79:=Tryz.isAgg456
 z79:=Tryz.sizeOf456
 v79:=Tryz.zeroValue456
 i79:=by kernel_rfl
 t80:=Tryz.underlying457
 a80:=Tryz.isAgg457
 z80:=Tryz.sizeOf457
 v80:=Tryz.zeroValue457
 i80:=by kernel_rfl
 t82:=Tryz.underlying459
 a82:=Tryz.isAgg459
 z82:=Tryz.sizeOf459
 v82:=Tryz.zeroValue459
 i82:=by kernel_rfl }
end Go.Proofs
namespace Go.Proofs.YtgjagnmeonoehaaGreat
open Go Go.RowKit Go.Lib Go.Sort Go.Proofs.Tryz
noncomputable def siT:TypeInfo:=(prog.info? 82).get (by kernel_rfl)
noncomputable def X9:TypeInfo:=(prog.info? 3).get (by kernel_rfl)
theorem siK (n:Nat) (h2:2<=n):Lib.swapperK n X9 2=5:=by
 have a:X9.hasPointers=false:=by kernel_rfl
 have b:X9.bytes=8:=by kernel_rfl
 have c:(n == 0)=false:=by simp;omega
 have d:(n == 1)=false:=by simp;omega
 simp [Lib.swapperK,a,b,c,d]
theorem N5 {α:Type} [Inhabited α] (enc:α->Value) (h1:∀ x,(enc x).oneCell'=true) {lt:α->α->Bool} (hO:SWO lt) (lb:Array Value) (Gx c:Nat) (d:Array α) (h2:2<=d.size) (bZ:d.size < 4611686018427387904) (w:World)
  (N6:LessReads prog 189 lb enc lt Gx 0 d.size w) (hH:Holds enc w Gx 0 d) (hblk:Gx < w.heap.size) :
  Calls prog 188 #[.iface 82 (.slice (some ⟨Gx,0,none⟩) d.size c),.func (.func 189) #[] lb] w fun e w'=>
   e = .returned (.tuple #[])/\∃ d' n os,PermIn 0 d.size d d' /\ SortedIn lt 0 d.size d' /\ w'=grow (putRow enc (Sort.ahead w n) Gx 0 d') os:=
 Any.sort_Slice_sorted Tryz.laysGg6 82 3 siT X9 (by kernel_rfl) (by kernel_rfl) (by kernel_rfl) (by kernel_rfl) 2 (fun _=>by kernel_rfl) (by kernel_rfl) (fun _=>by kernel_rfl) enc h1 lt hO 189 lb
  (enters_of func189 (by kernel_rfl) rfl) Gx 0 c d h2 bZ 288 (by rw [siK _ h2];kernel_rfl) true
  (fun args W=>run_callFunc_extern func288 (by kernel_rfl) (by kernel_rfl) (by kernel_rfl) (e:=Extern.ReflectliteSwapper.swap true) (by kernel_rfl) args W) w N6 hH hblk
theorem K4 (lb:Array Value) (p:Option Addr) (n c:Nat) (h1:n<=1) (w:World) :
  Calls prog 188 #[.iface 82 (.slice p n c),.func (.func 189) #[] lb] w fun e w'=>e = .returned (.tuple #[])/\∃ os,w'=grow w os:=by
 have h:n=0∨n=1:=by omega
 rcases h with rfl | rfl
 ·exact Any.sort_Slice_tiny Tryz.laysGg6 82 3 siT X9 (by kernel_rfl) (by kernel_rfl) (by kernel_rfl) (by kernel_rfl) 2 (fun _=>by kernel_rfl) p 0 c h1 284 (by kernel_rfl) _ _ _ w
 ·exact Any.sort_Slice_tiny Tryz.laysGg6 82 3 siT X9 (by kernel_rfl) (by kernel_rfl) (by kernel_rfl) (by kernel_rfl) 2 (fun _=>by kernel_rfl) p 1 c h1 285 (by kernel_rfl) _ _ _ w
end Go.Proofs.YtgjagnmeonoehaaGreat
set_option maxRecDepth 100000
namespace Go.Proofs.YtgjagnmeonoehaaGreat
open Go Go.RowKit Dv Go.Proofs.Tryz
theorem oL:∀ {a b:List UInt8},Op.bytesLess a b=false->a=b∨Op.bytesLess b a=true
 | [],[],_=>.inl rfl
 | a :: x,[],_=>.inr rfl
 | [],b :: r,h=>by simp [Op.bytesLess] at h
 | a :: x,b :: y,h=>by
  simp only [Op.bytesLess,Bool.or_eq_false_iff,decide_eq_false_iff_not,Bool.and_eq_false_imp,beq_iff_eq] at h;simp only [Op.bytesLess,Bool.or_eq_true,decide_eq_true_eq,aP,beq_iff_eq];by_cases MO:a=b
  ·subst MO;rcases oL (h.2 rfl) with h2 | h2
   all_goals grind
  all_goals grind
theorem gk:∀ {a b c:List UInt8},Op.bytesLess a b=true->Op.bytesLess b c=true->Op.bytesLess a c=true
 | _,[],_,h,_=>by simp [Op.bytesLess] at h
 | _,_ :: _,[],_,h=>by simp [Op.bytesLess] at h
 | [],b :: y,c :: z,_,_=>rfl
 | a :: x,b :: y,c :: z,h1,h2=>by
  simp only [Op.bytesLess,Bool.or_eq_true,decide_eq_true_eq,aP,beq_iff_eq] at h1 h2 ⊢;rcases h1 with h1 | ⟨rfl,h1⟩
  ·grind
  ·rcases h2 with h2 | ⟨rfl,h2⟩
   ·exact .inl h2
   ·exact .inr ⟨rfl,gk h1 h2⟩
theorem JI {s t:ByteArray} (h:Bm s t=false):s=t∨Bm t s=true:=by
 rcases oL h with h | h
 ·exact .inl (ByteArray.ext (Array.ext' h))
 ·exact .inr h
def DW (L:List ByteArray) (p q:Nat):Bool:=
 if L.getD p av=L.getD q av then decide (p < q) else Bm (L.getD p av) (L.getD q av)
theorem R0 (L:List ByteArray):Sort.SWO (DW L):=by
 have irr:∀ x,DW L x x=false:=fun x=>by simp [DW]
 have tr:∀ x y z,DW L x y=true->DW L y z=true->DW L x z=true:=by grind [DW,av,j3,Bm,gk]
 have tot:∀ x y,DW L x y=false->x=y∨DW L y x=true:=by grind [DW,av,JI]
 refine ⟨irr,tr,fun x y z h1 h2=>?_⟩
 grind
theorem K5 (L:List ByteArray) (d:List Nat) (i j p q:Nat) (hi:d[i]? = some p) (hj:d[j]? = some q) (hp:p < L.length) (hq:q < L.length) :
  EvS prog 189 [.v (.int .i64 i),.v (.int .i64 j),.pt [.sl 1 (dInts d) none] 0,.pt [.pt [.sl 1 (eV L) none,.v (.slice none 0 0)] 0] 0] [] [] (fun r _ _=>r = .v (.bool (DW L p q))):=by
 obtain ⟨s,hs⟩:∃ s,L[p]? = some s:=⟨_,gE hp⟩;obtain ⟨t,ht⟩:∃ t,L[q]? = some t:=⟨_,gE hq⟩;have e:DW L p q=if s=t then decide (p < q) else Bm s t:=by grind [DW]
 refine Nj (s:=true) (P:=prog) tt fo 5000 50 [.tmp 6] func189 rfl ntmps189 rfl (nL rfl) (fun _ _ _ _=>?_);refine dI ?_;refine iX (ef hi) ?_;refine iX (ef hj) ?_;refine dI ?_;refine iX (fc hs) ?_;refine iX (fc ht) ?_;refine br ?_ ?_<;>intro h
 ·have bf:s≠t:=sU h;refine dI ?_;refine iX (fc hs) ?_;refine iX (fc ht) ?_;refine (bF ?_:);rw [e,aj bf];rfl
 ·have aO:s=t:=sU h;refine (bF ?_:);rw [e,ap aO];simp
abbrev N7 (p:Nat):Value:=.int .i64 (p:Int)
theorem DX {E:En}:∀ {ds:List Nat} {arr:List Value},RvL E (dInts ds).flatten arr->arr=ds.map N7
 | [],arr,h=>by simpa [dInts,RvL] using h
 | x :: r,arr,h=>by
  simp only [dInts,List.map_cons,List.flatten_cons,List.cons_append,List.nil_append,RvL] at h;obtain ⟨v,s,rfl,h1,h2⟩:=h;unfold Rv at h1;rw [h1.1,DX (ds:=r) h2];rfl
theorem vN {E:En}:∀ ds:List Nat,RvC E (dInts ds).flatten (ds.map N7)
 | []=>⟨cA E,by simp⟩
 | x :: r=>by
  have ih:=vN (E:=E) r;refine ⟨?_,?_⟩
  ·simp only [dInts,List.map_cons,List.flatten_cons,List.cons_append,List.nil_append];exact rvL_cons (fB rfl) ih.1
  ·intro v hv;simp only [List.map_cons,List.mem_cons] at hv;rcases hv with rfl | hv
   ·rfl
   ·exact ih.2 v hv
theorem aaG {m:Nat}:∀ ds:List Nat,(∀ p∈ds,p < m + 1)->∃ D:List (Fin (m + 1)),D.map (·.val)=ds
 | [],_=>⟨[],rfl⟩
 | x :: r,h=>by
  obtain ⟨D,hD⟩:=aaG r fun p hp=>h p (gC _ hp);exact ⟨⟨x,h x (by simp)⟩ :: D,by simp [hD]⟩
theorem vO {α:Type} [Inhabited α] (enc:α->Value) (w:World) (b n:Nat) (dk:Array α) (os:Array Obj) (arr:List Value) (ty:TypeId) (hw:w.heap[b]? = some (.cells arr.toArray ty (0,0))) (hl:arr.length=dk.size) :
  ∀ k,k < w.heap.size->(Sort.grow (Sort.putRow enc (Sort.ahead w n) b 0 dk) os).heap[k]? = (World.cK w b (.cells (dk.toList.map enc).toArray ty (0,0))).heap[k]?:=by
 intro k hk;simp only [Sort.grow,Sort.putRow,Sort.mapBlock,Sort.ahead];rw [Array.getElem?_append_left (sU hk),Array.getElem?_modify];by_cases hkb:b=k
 ·subst hkb;rw [ap rfl,hw,dA hw];simp only [Option.map_some,Sort.onCells,oI,Obj.cells.injEq,and_true];apply Array.ext_getElem?;intro j;simp only [Sort.putCells,Array.getElem?_mapIdx]
  grind
 ·rw [aj hkb,b9 (Ne.symm hkb)]
theorem N8 {α:Type} {l:List α} {i:Nat} {x:α} (h:l[i]? = some x):l.set i x=l:=by
 apply List.ext_getElem?
 grind
theorem K6 {X:Ctx} {st:St} {k:List It} (hP:X.P=prog) {i c len:Nat} {ds:List Nat} (hlen:len=ds.length) {lbD:List DV} {d:Nat} (N:Nat) (hN:∀ p∈ds,p < N) (lt:Nat->Nat->Bool) (hO:Sort.SWO lt)
  (kG:st.bx[i]? = some (dInts ds).flatten) (hn:ds.length<=1099511627776) (lbF:List Nat->List DV) (N9:∀ dk:List Nat,dk.length=ds.length->CcL (st.bx.set i (dInts dk).flatten) 0 0 0 (lbF dk) lbD)
  (N6:∀ dk:List Nat,dk.length=ds.length->(∀ p∈dk,p < N)->∀ i j p q:Nat,dk[i]? = some p->dk[j]? = some q->EvS prog 189 (.v (.int .i64 i) :: .v (.int .i64 j) :: lbF dk) [] [] (fun r _ _=>r = .v (.bool (lt p q))))
  (hd:ez X.nt st.sl (some d)=true)
  (hk:∀ Wn:List Nat,Wn.Perm ds->(∀ i j p q:Nat,i < j->Wn[i]? = some p->Wn[j]? = some q->lt q p=false)->go X 4000 k ⟨(d,⟨[],.tup []⟩) :: st.sl,st.bx.set i (dInts Wn).flatten,st.tk⟩)
  (aW:X.still=false:=by exact rfl) (hX:X.bt=[]:=by exact rfl):CallG X 188 [.pV 82 (.ms i 1 0 len c),.fn 189 [] lbD] (some d) k st:=by
 subst hlen;refine ⟨?_,aW,fun E a w vs h hv=>?_⟩
 ·rw [hP];exact ZH
 rw [hP];simp only [RvL] at hv;obtain ⟨v1,_,rfl,h1,v2,_,rfl,h2,rfl⟩:=hv;unfold Rv at h1;obtain ⟨z,rfl,h1⟩:=h1;unfold Rv at h1;obtain ⟨b,ad,hb,XY,rfl,hca⟩:=h1;unfold Rv at h2;obtain ⟨l,r,rfl,hl,hr⟩:=h2;simp only [RvL] at hl;subst hl;obtain ⟨b',ty,arr,eo,hw,vi⟩:=h.env.bxs i _ kG;rw [hb] at eo;simp only [oI] at eo;subst eo;have G1:=DX vi.1;have Wb:=cL hw;by_cases h1:ds.length<=1
 ·refine (K4 r.toArray ad ds.length c h1 w).mono ?_;rintro e w' ⟨rfl,os,rfl⟩
  have hh:∀ j,j < w.heap.size->(Sort.grow w os).heap[j]? = w.heap[j]?:=fun j hj=>by
   simp only [Sort.grow];rw [Array.getElem?_append_left hj]
  have cf:Rel X E st a (Sort.grow w os):=dw h (Ext.refl E) (h.env.kF hh) h.tk h.nw (h.fr.cj rfl rfl rfl (by simp [Sort.grow]) fun j hj=>.inr (hh j hj)) (mM aW) (.nil hX);have Nv:=hk ds (List.Perm.refl _) (fun i j p q za _ hj=>by have:=(gS hj).1;omega);rw [N8 kG] at Nv;exact go_sound 4000 _ _ Nv E _ _ (aX cf hd (.tup []) (.tuple #[]) (by unfold Rv;exact ⟨[],rfl,cA E⟩))
 ·have h2:2<=ds.length:=by omega
  have YG:=hca (by omega);subst YG
  obtain ⟨m,rfl⟩:∃ m,N=m + 1:=by
   cases hds:ds with
   | nil=>rw [hds] at h2;simp at h2
   | cons x r=>have:=hN x (by rw [hds];simp);exact ⟨N - 1,by omega⟩
  obtain ⟨D,hD⟩:=aaG ds hN;have Oa:D.length=ds.length:=by rw [<- hD];simp
  let enc:Fin (m + 1)->Value:=fun x=>N7 x.val
  have hO':Sort.SWO (fun x y:Fin (m + 1)=>lt x.val y.val):=⟨fun x=>hO.irrefl _,fun x y z=>hO.trans _ _ _,fun x y z=>hO.ntrans _ _ _⟩;have aaH:∀ l:List (Fin (m + 1)),l.map enc=(l.map (·.val)).map N7:=fun l=>by simp [enc]
  have hS:=N5 enc (fun _=>rfl) hO' r.toArray b c D.toArray (by simpa [Oa] using h2) (by simp [Oa];omega) w ?_ ?_ Wb
  ·simp only [List.size_toArray,Oa] at hS;refine hS.mono ?_;rintro e w' ⟨rfl,d',n,os,hp,hs,rfl⟩;have bZ:d'.size=ds.length:=by have:=hp.1;simpa [Oa] using this
   have oM:(d'.toList.map (·.val)).Perm ds:=by
    have h3:=hp.2.2;have e1:d'.extract 0 ds.length=d':=Array.extract_eq_self_of_le (by omega);have e2:D.toArray.extract 0 ds.length=D.toArray:=Array.extract_eq_self_of_le (by simp [Oa]);rw [e1,e2] at h3;rw [<- hD];exact h3.map _
   have Ob:∀ i j p q:Nat,i < j->(d'.toList.map (·.val))[i]? = some p->(d'.toList.map (·.val))[j]? = some q->lt q p=false:=by
    intro i j p q za hi hj;have pO:j < d'.size:=by have:=(gS hj).1;simpa using this
    have h3:=hs i j (Nat.zero_le _) za (by omega);rw [getElem!_pos d' j pO,getElem!_pos d' i (by omega)] at h3;have MP:i < d'.size:=by omega
    simp [MP] at hi;simp [pO] at hj;rw [<- hi,<- hj];exact h3
   have hh:=vO enc w b n d' os arr ty hw (by rw [G1];simp [bZ]);have ep:=jG (ty:=ty) h aW hb (cs':=(dInts (d'.toList.map (·.val))).flatten) (arr':=(d'.toList.map (·.val)).map N7) (vN _) ⟨_,hw⟩;rw [<- aaH] at ep;have jR:(Sort.grow (Sort.putRow enc (Sort.ahead w n) b 0 d') os).heap.size=w.heap.size + os.size:=by simp [Sort.grow,Sort.putRow,Sort.mapBlock,Sort.ahead]
   have cf:=dw ep (Ext.refl E) (w':=Sort.grow (Sort.putRow enc (Sort.ahead w n) b 0 d') os) (ep.env.kF fun j hj=>hh j (by rwa [fh] at hj)) ep.tk ep.nw
    (ep.fr.cj rfl rfl rfl (by rw [fh,jR];omega) fun j hj=>.inr (hh j (by rwa [fh] at hj))) (mM aW) (.nil hX)
   exact go_sound 4000 _ _ (hk _ oM Ob) E _ _ (aX cf hd (.tup []) (.tuple #[]) (by unfold Rv;exact ⟨[],rfl,cA E⟩))
  ·intro mm os dk hs i' j' hi hj;have bZ:dk.size=ds.length:=sV Oa hs;have hh:=vO enc w b mm dk os arr ty hw (by rw [G1];simp [bZ]);have hE:=h.env.set hb Wb (ty:=ty) (vN (E:=E) (dk.toList.map (·.val)));rw [<- aaH] at hE;have hE':=hE.kF (w':=Go.Proofs.sortWorld enc w b 0 mm dk os) fun j hj=>hh j (by rwa [fh] at hj);have MP:i' < dk.size:=by rw [bZ,<- Oa];simpa using hi
   have pO:j' < dk.size:=by rw [bZ,<- Oa];simpa using hj
   have hLL:(dk.toList.map (·.val)).length=ds.length:=sU bZ
   have hc:=N6 (dk.toList.map (·.val)) hLL (fun p hp=>by
    obtain ⟨x,_,rfl⟩:=List.mem_map.1 hp
    exact x.isLt) i' j' (dk[i']!).val (dk[j']!).val (by rw [getElem!_pos dk i' MP];simp [MP]) (by rw [getElem!_pos dk j' pO];simp [pO])
   have hv:RvL E (.v (.int .i64 (i':Int)) :: .v (.int .i64 (j':Int)) :: lbD) (.int .i64 (i':Int) :: .int .i64 (j':Int) :: r):=rvL_cons (fB rfl) (rvL_cons (fB rfl) hr);have hb:=jD hE' hc ⟨_,_,rfl,rfl,_,_,rfl,rfl,N9 _ hLL⟩ hv;have hargs:(#[Value.int .i64 (i':Int),Value.int .i64 (j':Int)] ++ r.toArray)=(Value.int .i64 (i':Int) :: Value.int .i64 (j':Int) :: r).toArray:=by simp
   rw [hargs];refine hb.mono ?_;rintro e w' ⟨v,E2,rfl,Bn,_,CV⟩;have:=bq Bn;subst this;exact ⟨rfl,CV rfl⟩
  ·intro j hj;have pO:j < D.length:=sU hj;rw [cm hw,Nat.zero_add,G1];refine ⟨?_,?_⟩
   ·rw [getElem!_pos D.toArray j hj,<- hD];simp [pO,enc]
   ·simp [World.frozen?,hw]
end Go.Proofs.YtgjagnmeonoehaaGreat
