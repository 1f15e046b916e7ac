/- Part 2 of the proof: The evaluator 'go' is sound: the end of a call, the theorem; contracts; rules for branches, calls, loops; Rules for the evaluator: what is known made less, loops; A region that draws its order: where the operations with an effect are ordered among themselves, and what writes waits for all that reads, one run in the order of the text serves every order; The evaluator at regions that draw their order: one run in the order of the text; what is read is what was known at the region's beginning; A region that draws its order, in which two operations with an effect are not ordered: the run in either order of these two serves every order; Rules for the evaluator: a call that is handed the caller's own objects, to read them; Rules for the evaluator: objects that are written no more are frozen, ahead of a loop; Rules for the evaluator: a call that is handed one of the caller's objects, to write it; The table of this program's types, by which the evaluator goes; The program's functions are entered; The data of the document's types, plain, and as the evaluator has them; Names: the program's and the reference's functions say the same of a text; sort.Search; the program's table of texts: Find; The library's sort.Slice, laid at this program by the kit's tool (lay-plain; wip/tools/lay.sh); The order of the table; the closure handed to sort.Slice; sort.Slice of the table's places, at a call. No condition. -/
import Derived.Test.YtgjagnmeonoehaaGreatProg
import Derived.Shelf.GgSortFunc.Whole
import Derived.Shelf.GgSortFunc.Tiny
import Derived.Test.YtgjagnmeonoehaaGreatMw1
set_option linter.all false
namespace Go.Proofs.YtgjagnmeonoehaaGreat
namespace Dv
open Go Go.RowKit
structure Om (E E':En) (bx:List (List DV)) (N:Nat):Prop where
 c:∀ a v,E.c a=some v->E'.c a=some v
 fz:∀ (i:Nat) cs,N<=i->bx[i]? = some cs->∃ b arr,E.β[i]? = some b/\RvC E cs arr/\∀ (j:Nat) u,arr[j]? = some u->E'.c ⟨b,j,none⟩=some u
theorem Om.cl {E E':En} {bx:List (List DV)} {N:Nat} (h:Om E E' bx N):Om E E'.cl bx N:=⟨h.c,h.fz⟩
structure Ku (E E':En) (n0 m0:Nat):Prop where
 β:∀ (i:Nat) b,i < n0->E.β[i]? = some b->E'.β[i]? = some b
 tk:∀ k,k < m0->E'.tk[k]? = E.tk[k]? /\ E'.τ[k]? = E.τ[k]?
theorem Ku.zero (E E':En):Ku E E' 0 0:=⟨fun _ _ h=>absurd h (Nat.not_lt_zero _),fun _ h=>absurd h (Nat.not_lt_zero _)⟩
theorem Ext.Kv (E:En):Ext E.cl E:=⟨fun _ _ h=>h,fun j b hj=>by simp [En.cl] at hj,fun k q hk=>by simp [En.cl] at hk⟩
theorem EC {E E':En} (hm:∀ e b o es,RvEs E.cl e b o es->RvEs E'.cl e b o es):∀ {l:List DV} {arr:List Value},(∀ x∈l,(∃ y,x = .v y)∨∃ e' Ea,x = .sl e' Ea none)->RvL E l arr->RvL E' l arr
 | [],arr,_,h=>by simp only [RvL] at h ⊢;exact h
 | d :: r,arr,hs,h=>by
  simp only [RvL] at h ⊢;obtain ⟨v,s,rfl,h1,h2⟩:=h;refine ⟨v,s,rfl,?_,EC hm (fun x hx=>hs x (gJ _ hx)) h2⟩;rcases hs d (by simp) with ⟨y,rfl⟩ | ⟨e',Ea,rfl⟩
  ·unfold Rv at h1 ⊢;exact h1
  ·unfold Rv at h1 ⊢;obtain ⟨b,n,cap,h3,h4,h5,_⟩:=h1;exact ⟨b,n,cap,h3,h4,fun hn=>⟨(h5 hn).1,hm _ _ _ _ (h5 hn).2⟩,fun k hk=>by cases hk⟩
theorem CcL.length {bx:List (List DV)} {N n0 m0:Nat}:∀ {l' l:List DV},CcL bx N n0 m0 l' l->l'.length=l.length
 | [],l,h=>by simp only [CcL] at h;subst h;rfl
 | d' :: r',l,h=>by
  simp only [CcL] at h;obtain ⟨d,r,rfl,_,h2⟩:=h;simp [CcL.length h2]
theorem CcE.length {bx:List (List DV)} {N:Nat}:∀ {l' l:List (List DV)},CcE bx N l' l->l'.length=l.length
 | [],l,h=>by simp only [CcE] at h;subst h;rfl
 | d' :: r',l,h=>by
  simp only [CcE] at h;obtain ⟨d,r,rfl,_,h2⟩:=h;simp [CcE.length h2]
mutual
theorem Cc.sound {bx:List (List DV)} {N:Nat} {E:En}:∀ {d':DV} {E':En} {n0 m0:Nat} {d:DV} {v:Value},Om E E' bx N->Ku E E' n0 m0->Cc bx N n0 m0 d' d->Rv E d v->Rv E' d' v
 | .v y,E',n0,m0,d,v,hf,hl,h,hv=>by grind [Cc,Rv]
 | .ud,E',n0,m0,d,v,hf,hl,h,hv=>by grind [Cc,Rv]
 | .agg l',E',n0,m0,d,v,hf,hl,h,hv=>by
  simp only [Cc] at h;obtain ⟨l,rfl,h⟩:=h;unfold Rv at hv ⊢;obtain ⟨vs,h1,h2,h3⟩:=hv;exact ⟨vs,h1,CcL.sound hf hl h h2,h3⟩
 | .tup l',E',n0,m0,d,v,hf,hl,h,hv=>by
  simp only [Cc] at h;obtain ⟨l,rfl,h⟩:=h;unfold Rv at hv ⊢;obtain ⟨vs,h1,h2⟩:=hv;exact ⟨vs,h1,CcL.sound hf hl h h2⟩
 | .sl e es tk,E',n0,m0,d,v,hf,hl,h,hv=>by
  have hm:∀ b o,RvEs E.cl e b o es->RvEs E'.cl e b o es:=fun b o hr=>RvEs.mono (Ext.Km hf.c) hr
  cases tk with
  | none=>
   simp only [Cc] at h;rcases h with ⟨rfl,rfl⟩ | ⟨cM,rfl⟩ | ⟨i,off,c,cs,rfl,hi,hcs,XF,kM,EA⟩ | ⟨es0,cM,rfl,h⟩
   ·have:=cj hv;subst this;unfold Rv;exact ⟨none,0,0,rfl,⟨rfl,aV _⟩,fun hn=>(hn rfl).elim,fun k hk=>by cases hk⟩
   ·unfold Rv at hv ⊢;obtain ⟨b,n,cap,h1,h2,h3,_⟩:=hv;exact ⟨b,n,cap,h1,h2,fun hn=>⟨(h3 hn).1,hm _ _ (h3 hn).2⟩,fun k hk=>by cases hk⟩
   ·obtain ⟨b,arr,hb,hc,hmm⟩:=hf.fz i cs hi hcs;unfold Rv at hv ⊢;obtain ⟨b',ad,fD,ZR,rfl,hca⟩:=hv;rw [hb] at fD;simp only [oI] at fD;subst fD;refine ⟨ad,es.length,c,rfl,⟨rfl,ZR⟩,fun hn=>?_,fun k hk=>by cases hk⟩;have jk:0 < es.length:=List.length_pos_iff.2 hn;have had:=hca (by omega);subst had;refine ⟨rfl,?_⟩;have h1:=(hc.drop off).take (es.length * e);rw [<- XF] at h1;refine rvEs_flat ⟨EC (E':=E'.cl) (fun e b o es hr=>(RvEs.mono (Ext.Km hf.c) hr:RvEs E'.cl e b o es)) EA h1.1,h1.2⟩ kM fun j u hj=>?_;rw [cR] at hj;split at hj
    ·rw [List.getElem?_drop] at hj;exact hmm (off + j) u hj
    ·cases hj
   ·have hlen:=CcE.length h;have hs:=fun b o=>CcE.sound (e:=e) (b:=b) (o:=o) hf h;unfold Rv at hv ⊢;obtain ⟨b,n,cap,h1,h2,h3,_⟩:=hv;refine ⟨b,n,cap,h1,by omega,fun hn=>?_,fun k hk=>by cases hk⟩
    grind
  | some k=>
   simp only [Cc] at h;obtain ⟨hk,rfl⟩:=h;unfold Rv at hv ⊢;obtain ⟨b,n,cap,h1,h2,h3,h4⟩:=hv;refine ⟨b,n,cap,h1,h2,fun hn=>⟨(h3 hn).1,hm _ _ (h3 hn).2⟩,fun k' fH=>?_⟩;cases fH;obtain ⟨e1,e2⟩:=hl.tk k hk;obtain ⟨q,h5,h6,h7⟩:=h4 k rfl
   grind
 | .pt cs' o,E',n0,m0,d,v,hf,hl,h,hv=>by
  simp only [Cc] at h;rcases h with rfl | ⟨i,cs,rfl,hi,hcs,h⟩
  ·unfold Rv at hv ⊢;obtain ⟨b,p,h1,h2⟩:=hv;exact ⟨b,p,h1,RvAt.mono (Ext.Km hf.c) h2⟩
  ·obtain ⟨b,arr,hb,hc,hm⟩:=hf.fz i cs hi hcs;unfold Rv at hv ⊢;obtain ⟨b',fD,rfl⟩:=hv;rw [hb] at fD;simp only [oI] at fD;subst fD;refine ⟨b,0,by simp,?_⟩;have:=CcL.sound hf.cl (Ku.zero E E'.cl) h hc.1;exact Cf ⟨this,hc.2⟩ fun j u hj=>by rw [Nat.zero_add];exact hm j u hj
 | .loc i o,E',n0,m0,d,v,hf,hl,h,hv=>by
  simp only [Cc] at h;obtain ⟨hi,rfl⟩:=h;unfold Rv at hv ⊢;obtain ⟨b,hb,h1⟩:=hv;exact ⟨b,hl.β i b hi hb,h1⟩
 | .el i o,E',n0,m0,d,v,hf,hl,h,hv=>by
  simp only [Cc] at h;obtain ⟨hi,rfl⟩:=h;unfold Rv at hv ⊢;obtain ⟨b,hb,h1⟩:=hv;exact ⟨b,hl.β i b hi hb,h1⟩
 | .ms i e o l c,E',n0,m0,d,v,hf,hl,h,hv=>by
  simp only [Cc] at h;obtain ⟨hi,rfl⟩:=h;unfold Rv at hv ⊢;obtain ⟨b,ad,hb,h1⟩:=hv;exact ⟨b,ad,hl.β i b hi hb,h1⟩
 | .fn f a' b',E',n0,m0,d,v,hf,hl,h,hv=>by
  simp only [Cc] at h;obtain ⟨a,b,rfl,ha,hb⟩:=h;unfold Rv at hv ⊢;obtain ⟨l,r,h1,h2,h3⟩:=hv;exact ⟨l,r,h1,CcL.sound hf hl ha h2,CcL.sound hf hl hb h3⟩
 | .rB t x',E',n0,m0,d,v,hf,hl,h,hv=>by
  simp only [Cc] at h;obtain ⟨x,rfl,hx⟩:=h;unfold Rv at hv ⊢;obtain ⟨z,h1,h2⟩:=hv;exact ⟨z,h1,Cc.sound hf hl hx h2⟩
theorem CcL.sound {bx:List (List DV)} {N:Nat} {E:En}:∀ {l':List DV} {E':En} {n0 m0:Nat} {l:List DV} {vs:List Value},Om E E' bx N->Ku E E' n0 m0->CcL bx N n0 m0 l' l->RvL E l vs->RvL E' l' vs
 | [],E',n0,m0,l,vs,hf,hl,h,hv=>by grind [CcL,RvL]
 | d' :: r',E',n0,m0,l,vs,hf,hl,h,hv=>by
  simp only [CcL] at h;obtain ⟨d,r,rfl,h1,h2⟩:=h;simp only [RvL] at hv ⊢;obtain ⟨v,s,h3,h4,h5⟩:=hv;exact ⟨v,s,h3,Cc.sound hf hl h1 h4,CcL.sound hf hl h2 h5⟩
theorem CcA.sound {bx:List (List DV)} {N:Nat} {E:En}:∀ {l':List DV} {E':En} {l:List DV} {b p:Nat},Om E E' bx N->CcL bx N 0 0 l' l->RvAt E.cl b p l->RvAt E'.cl b p l'
 | [],E',l,b,p,hf,h,hv=>by simp only [RvAt]
 | d' :: r',E',l,b,p,hf,h,hv=>by
  simp only [CcL] at h;obtain ⟨d,r,rfl,h1,h2⟩:=h;simp only [RvAt] at hv ⊢;obtain ⟨⟨v,h3,h4,h5⟩,h6⟩:=hv;exact ⟨⟨v,hf.c _ _ h3,h4,Cc.sound hf.cl (Ku.zero E E'.cl) h1 (Rv.mono (Ext.Kv E) h5)⟩,CcA.sound hf h2 h6⟩
theorem CcE.sound {bx:List (List DV)} {N:Nat} {E:En}:∀ {l':List (List DV)} {E':En} {l:List (List DV)} {e b o:Nat},Om E E' bx N->CcE bx N l' l->RvEs E.cl e b o l->RvEs E'.cl e b o l'
 | [],E',l,e,b,o,hf,h,hv=>by simp only [RvEs]
 | a' :: r',E',l,e,b,o,hf,h,hv=>by
  simp only [CcE] at h;obtain ⟨a,r,rfl,h1,h2⟩:=h;simp only [RvEs] at hv ⊢;obtain ⟨h3,h4,h5⟩:=hv;refine ⟨?_,?_,CcE.sound hf h2 h5⟩
  ·grind [CcL.length]
  ·rcases h1 with rfl | h1
   ·exact RvAt.mono (Ext.Km hf.c) h4
   ·exact CcA.sound hf h1 h4
end
theorem VA {E:En} {e:Nat} {es Ea:List (List DV)} {tk:Option Nat} {v:Value} (h:CcE [] 0 Ea es) (hv:Rv E (.sl e es tk) v):Rv E (.sl e Ea tk) v:=by
 have hlen:=CcE.length h;have hs:=fun b o=>CcE.sound (E:=E) (E':=E) (bx:=[]) (N:=0) (e:=e) (b:=b) (o:=o) ⟨fun _ _ h=>h,fun i cs _ hi=>by simp at hi⟩ h
 grind [Rv]
theorem n4.get {bx:List (List DV)} {N n0 m0:Nat}:∀ {l' l:List (List DV)},n4 bx N n0 m0 l' l->l'.length=l.length/\∀ (i:Nat) cs',l'[i]? = some cs' -> ∃ cs,l[i]? = some cs/\CcL bx N n0 m0 cs' cs
 | [],l,h=>by simp only [n4] at h;subst h;exact ⟨rfl,by simp⟩
 | a' :: r',l,h=>by
  simp only [n4] at h;obtain ⟨a,r,rfl,h1,h2⟩:=h;obtain ⟨h3,h4⟩:=n4.get h2
  grind
open Classical in
noncomputable def tD (E:En) (n:Nat) (w:World):Addr->Option Value:=
 fun a=>if ∃ i:Nat,n<=i/\E.β[i]? = some a.block then w.cell? a else E.c a
section
variable {X:Ctx} {E:En} {st:St} {a:Act} {w:World}
theorem fi {n:Nat} {x:Addr} {v:Value} (h:tD E n w x=some v):((∃ i:Nat,n<=i/\E.β[i]? = some x.block)/\w.cell? x=some v)∨E.c x=some v:=by
 unfold tD at h;split at h
 all_goals grind
theorem na {bx:List (List DV)} (h:Env E bx w) {n:Nat} {x:Addr} {v:Value} (hx:E.c x=some v):tD E n w x=some v:=by
 unfold tD;split
 ·exact h.sub x v hx
 ·exact hx
theorem Co (h:Rel X E st a w) {d d':DV} {os:List (List DV)} {v:Value} (hv:Rv E d v) (M:Nat) (hM:(X.fr=false/\M=X.m0)∨(X.fr=true/\M=st.tk.length)) (hd:Cc st.bx X.n0 X.n0 M d' d) (zN:n4 st.bx X.n0 X.n0 M os (st.bx.take X.n0)) (hΦ:X.Φ d' os (st.tk.take M)):oo X.still X.E0 X.w0 X.Φ v w X.fr:=by
 obtain ⟨r,XG,hβl⟩:=h.nw.β;have iv:E.β.take X.n0=X.E0.β:=by rw [XG,<- X.p9];simp
 have iz:∀ (i:Nat) b,i < X.n0->E.β[i]? = some b->X.E0.β[i]? = some b:=fun i b hi hb=>by grind
 have eN:∀ (i:Nat) b,X.n0<=i->E.β[i]? = some b->b∈r:=fun i b hi hb=>by grind
 have XH:∀ b,b∈X.E0.β->b∈r->False:=fun b h1 h2=>by
  have:=h.env.inj
  grind
 have hE0l:X.E0.τ.length=X.m0:=by rw [h.nw.l0,X.om]
 have hEt:X.m0<=E.tk.length:=by
  rcases Nat.lt_or_ge E.tk.length X.m0 with h1 | h1
  ·have hk:E.tk.length < X.E0.tk.length:=by rw [X.om];exact h1
   have fH:E.tk.length < X.E0.τ.length:=by rw [h.nw.l0];exact hk
   obtain ⟨q',y',h2,_⟩:=h.nw.tk E.tk.length _ _ (gE hk) (gE fH)
   grind
  ·exact h1
 have hMm:X.m0<=M/\M<=E.tk.length:=by
  rcases hM with ⟨_,rfl⟩ | ⟨_,rfl⟩
  ·exact ⟨aV _,hEt⟩
  ·rw [<- h.tk];exact ⟨hEt,aV _⟩
 have ZV:tkL X.fr (E.tk.take M).length X.E0.tk.length:=by
  rw [zLenT];rcases hM with ⟨hf,rfl⟩ | ⟨hf,rfl⟩
  ·rw [hf];show min _ _=_;rw [X.om];omega
  ·rw [hf];show _<=min _ _;rw [X.om];omega
 let E':En:=⟨tD E X.n0 w,X.E0.β,E.tk.take M,E.τ.take M⟩
 have Tg:Om E E' st.bx X.n0:={
  c:=fun x u hx=>na h.env hx
  fz:=fun i cs hi hcs=>by
   obtain ⟨b,ty,arr,hb,hw,hc⟩:=h.env.eM i cs hcs;refine ⟨b,arr,hb,hc,fun j u hj=>?_⟩;show tD E X.n0 w ⟨b,j,none⟩=some u;unfold tD;rw [ap ⟨i,hi,hb⟩,cC hw]
   simpa using hj }
 have Cp:Ku E E' X.n0 M:={
  β:=iz
  tk:=fun k hk=>⟨by show (E.tk.take M)[k]? = _;rw [cR,ap hk],by show (E.τ.take M)[k]? = _;rw [cR,ap hk]⟩ }
 obtain ⟨lx,hog⟩:=zN.get;refine ⟨h.fr,h.sh,d',os,E',?_,rfl,ZV,?_,hd.sound Tg Cp hv,by show X.Φ d' os (E.tk.take M);rw [h.tk];exact hΦ⟩
 ·exact {
   len:=by
    show X.E0.β.length=os.length;rw [lx,X.p9,zLenT]
    have:X.n0<=st.bx.length:=by
     rw [<- h.env.len,XG,List.length_append,X.p9];omega
    omega
   tl:=by simp only [E',zLenT];rw [h.env.tl]
   eM:=fun i cs' hi=>by
    obtain ⟨cs,hcs,qJ⟩:=hog i cs' hi;rw [cR] at hcs;split at hcs
    ·rename_i aq;obtain ⟨b,ty,arr,hb,hw,hc⟩:=h.env.eM i cs hcs;exact ⟨b,ty,arr,iz i b aq hb,hw,CcL.sound Tg Cp qJ hc.1,hc.2⟩
    ·cases hcs
   inj:=by rw [<- iv];exact h.env.inj.sublist (List.take_sublist _ _)
   sub:=fun x u hx=>by
    rcases fi hx with ⟨_,h1⟩ | h1
    ·exact h1
    ·exact h.env.sub x u h1
   pc:=fun x u hx hm=>by
    rcases fi hx with ⟨⟨i,hi,hb⟩,_⟩ | h1
    ·exact XH _ hm (eN i _ hi hb)
    ·refine h.env.pc x u h1 ?_;rw [XG];exact List.mem_append.2 (.inl hm)
   bO:=fun k q y hq hy=>by
    simp only [E',cR] at hq hy;split at hq
    ·rename_i hk;rw [ap hk] at hy;rcases h.env.bO k q y hq hy with h1 | ⟨g,cap,cur,rfl,h1,h2,h3,h4,h5,h6⟩
     ·exact .inl h1
     ·refine .inr ⟨g,cap,cur,rfl,h1,⟨h2.1,h2.2.mono fun _ _ hx=>na h.env hx⟩,h3,h4,fun hm=>h5 (by rw [XG];exact List.mem_append.2 (.inl hm)),fun x u hx hg=>?_⟩;rcases fi hx with ⟨⟨i,hi,hb⟩,_⟩ | h7
      all_goals grind
    ·cases hq
   je:=fun k k' y y' g Eb hy gp=>by
    simp only [E',cR] at hy gp;split at hy
    ·split at gp
     ·exact h.env.je k k' y y' g Eb hy gp
     ·cases gp
    ·cases hy }
 ·exact {
   c:=fun x u hx=>na h.env (h.nw.c x u hx)
   cn:=fun x u hx=>by
    rcases fi hx with ⟨⟨i,hi,hb⟩,_⟩ | h1
    ·exact .inr (.inl (hβl _ (eN i _ hi hb)))
    ·exact h.nw.cn x u h1
   β:=⟨[],by simp [E'],by simp⟩
   tk:=fun k q y hq hy=>by
    obtain ⟨q',y',h1,h2,h3⟩:=h.nw.tk k q y hq hy
    grind
   tn:=fun k y g hk hy hg=>by
    simp only [E',cR] at hy;split at hy
    ·exact h.nw.tn k y g hk hy hg
    ·cases hy
   l0:=h.nw.l0 }
def resOf (tmps:Array Value):ResultVar->Sem Value
 | .tmp t=>pure (tmps.getD t undef)
 | .cell x t=>do loadVar t (<- asAddr (tmps.getD x undef))
theorem HX (fn:Func) (tmps:Array Value):results fn tmps=(do let vs <- fn.results.mapM (resOf tmps);pure (if h:vs.size=1 then vs[0] else .tuple vs)):=by
 unfold results;congr 2
theorem HY (h:Rel X E st a w) {r:ResultVar} {d:DV} (hr:res1 X.T st r=some d):∃ v,Rv E d v/\(resOf a.tmps r).run X.P w = .ok v w:=by
 cases r with
 | tmp t=>
  simp only [res1] at hr;split at hr
  ·rename_i x hg;simp only [oI] at hr;subst hr;obtain ⟨v,h1,h2⟩:=(h.tm t _ hg).1 (bq _);exact ⟨v,h2,by simp [resOf,Array.getD_eq_getD_getElem?,h1]⟩
  ·cases hr
 | cell x t=>
  simp only [res1] at hr;split at hr
  ·rename_i i off hg;split at hr
   ·rename_i cs hcs;obtain ⟨v,h1,h2⟩:=(h.tm x _ hg).1 (bq _);unfold Rv at h2;obtain ⟨b,hb,rfl⟩:=h2;obtain ⟨b',HP,arr,fD,hw,hc⟩:=h.env.eM i cs hcs;rw [hb] at fD;simp only [oI] at fD;subst fD;obtain ⟨v,hv,hl⟩:=kH X.hT hc (b:=b) (p:=0) hr;have hl:=hl w fun j u hj=>by rw [cC hw];simpa using hj
    rw [Nat.zero_add] at hl;exact ⟨v,hv,by simp only [resOf,Array.getD_eq_getD_getElem?,h1,Option.getD_some,asAddr,Sem.run_bind,Sem.run_pure,Result.andThen_ok,hl]⟩
   ·cases hr
  ·cases hr
theorem nc (h:Rel X E st a w):∀ {rs:List ResultVar} {ds:List DV},resD X.T st rs=some ds->∃ vs,RvL E ds vs/\(rs.mapM (resOf a.tmps)).run X.P w = .ok vs w
 | [],ds,hr=>by
  simp only [resD,oI] at hr;subst hr;exact ⟨[],cV E,rfl⟩
 | r :: rs,ds,hr=>by
  simp only [resD] at hr;split at hr
  ·rename_i d l hd hl;simp only [oI] at hr;subst hr;obtain ⟨v,hv,h1⟩:=HY h hd;obtain ⟨vs,xi,h2⟩:=nc h hl;refine ⟨v :: vs,rvL_cons hv xi,?_⟩
   simp_all
  ·cases hr
theorem qK (h:Rel X E st a w) {d:DV} {v:Value} (hv:Rv E d v) (hf:finD X st d):oo X.still X.E0 X.w0 X.Φ v w X.fr:=by
 unfold finD at hf;split at hf
 ·grind [Co]
 ·rename_i ZW;split at hf
  ·rename_i hn hm
   have key:∀ d',Cc st.bx 0 0 0 d' d->X.Φ d' [] []->oo X.still X.E0 X.w0 X.Φ v w X.fr:=fun d' hd hΦ=>
    Co h hv (d':=d') (os:=[]) X.m0 (.inl ⟨ZW,rfl⟩) (by rw [hn,hm];exact hd) (by rw [hn];simp [n4]) (by rw [hm];exact hΦ)
   grind [Cc]
  ·grind [Co]
theorem Av (h:Rel X E st a w) (hf:fin X st):kq X [] .ret a w:=by
 have Ef:X.fn.results=X.rs.toArray:=by rw [<- X.zL]
 simp only [kq];refine ⟨h.df,?_⟩
 have hbt:qa X.bt X.E0.β w:=fun p hp b hb=>by
  obtain ⟨r,hr,_⟩:=h.nw.β;exact h.bt p hp b (by rw [hr,dc (gS hb).1];exact hb)
 unfold fin at hf
 have OW:∀ (ds:List DV) (vs:List Value),(X.rs.mapM (resOf a.tmps)).run X.P w = .ok vs w->(results X.fn a.tmps).run X.P w = .ok (if h:vs.toArray.size=1 then vs.toArray[0] else .tuple vs.toArray) w:=by
  intro ds vs hv;rw [HX,Ef]
  simp_all
 split at hf
 ·rename_i hr;obtain ⟨vs,xi,h1⟩:=nc h hr;simp only [RvL] at xi;subst xi;exact ⟨_,OW [] [] h1,qK h (v:=.tuple #[]) (by unfold Rv;exact ⟨[],rfl,cV E⟩) hf,hbt⟩
 ·rename_i d hr;obtain ⟨vs,xi,h1⟩:=nc h hr;have hl:=xi.length;simp only [RvL] at xi;obtain ⟨v,s,rfl,hv,rfl⟩:=xi;exact ⟨_,OW [d] [v] h1,qK h (v:=v) hv hf,hbt⟩
 ·rename_i d e l hr;obtain ⟨vs,xi,h1⟩:=nc h hr;have hl:=xi.length;have bA:¬ vs.toArray.size=1:=by simp at hl ⊢;omega
  have h2:=OW [] vs h1;rw [dif_neg bA] at h2;exact ⟨_,h2,qK h (v:=.tuple vs.toArray) (by unfold Rv;exact ⟨vs,rfl,xi⟩) hf,hbt⟩
 ·exact hf.elim
theorem xr:∀ (k:List It) (a:Act) (w:World),kq X [] .ret a w->kq X k .ret a w
 | [],_,_,h=>h
 | .code _ :: k,a,w,h=>xr k a w h
 | .ops _ _ :: k,a,w,h=>xr k a w h
 | .Ht _ :: k,a,w,h=>xr k a w h
 | .wV _ :: k,a,w,h=>xr k a w h
theorem rL {id:Nat}:∀ (k k':List It) (a:Act) (w:World),dropBlk id k=some k' -> kq X k' .normal a w->kq X k (.exit id) a w
 | [],k',a,w,hd,_=>by simp [dropBlk] at hd
 | .code _ :: k,k',a,w,hd,h=>by simp only [dropBlk] at hd;exact rL k k' a w hd h
 | .ops _ _ :: k,k',a,w,hd,h=>by simp only [dropBlk] at hd;exact rL k k' a w hd h
 | .wV _ :: k,k',a,w,hd,h=>by simp only [dropBlk] at hd;exact rL k k' a w hd h
 | .Ht i :: k,k',a,w,hd,h=>by
  simp only [dropBlk] at hd;split at hd
  ·simp_all [kq]
  ·rename_i hi
   have hi:id≠i:=by
    rintro rfl;rw [Nat.beq_refl] at hi;cases hi
   simp only [kq];rw [aj hi];exact rL k k' a w hd h
theorem Mj {P:Program} {o:Oper} {a:Act} {K K':Act->World->Prop} {Q Q':Exit->Act->World->Prop} (hK:∀ a w,K a w->K' a w) (hQ:∀ e a w,Q e a w->Q' e a w)
  {r:Result Next} (h:o.upon P a K Q r):o.upon P a K' Q' r:=by
 unfold Oper.upon at *;split<;>simp_all
 ·refine h.mono ?_;intro e w' hq
  cases e with
  | returned v=>exact hK _ _ hq
  | panicked c=>exact hQ _ _ _ hq
  | outgrown=>obtain ⟨a,w,hq⟩:=hq;exact ⟨a,w,hQ _ _ _ hq⟩
 ·exact h.mono fun v w' hq=>hK _ _ hq
theorem ED {P:Program} {o:Oper} {a:Act} {K K':Act->World->Prop} {Q Q':Exit->Act->World->Prop} {w:World} (hK:∀ a w,K a w->K' a w) (hQ:∀ e a w,Q e a w->Q' e a w)
  (h:o.wp P a w K Q):o.wp P a w K' Q':=Mj hK hQ h
theorem fW (c:Code) (k:List It) (a:Act) (w:World):kq X (.code c :: k) .normal a w=c.wp X.P (kq X k) a w:=rfl
theorem Th (c:Code) (k:List It):kq X (.code c :: k)=Exit.then (c.wp X.P (kq X k)) (kq X k):=by
 funext e a w;cases e<;>rfl
theorem XI (id:Nat) (k:List It) (e:Exit) (a:Act) (w:World) (h:kq X (.Ht id :: k) e a w):Exit.inBlock id (kq X k) e a w:=by
 cases e<;>exact h
theorem wanted_spec (h:Rel X E st a w) {all:Array Oper} {o:Oper} {j d:Nat} {want:Bool} {iN:List (Nat × Bool)} {sd:DV} (Ti:o.guard=some (j,want)) (Hw:gslot all.toList j=some d) (Mk:get st.sl d=some ⟨iN,sd⟩) :
  Region.wanted o (yielded all a.tmps)=true↔Holds a.tmps ((d,want) :: iN):=by
 have XJ:yielded all a.tmps j=match a.tmps[d]? with | some (.bool b)=>some b | _=>none:=by
  unfold gslot at Hw;split at Hw
  ·rename_i oj hoj;have hoj':all[j]? = some oj:=sU hoj;simp only [yielded,hoj',Hw,Option.bind_some]
   grind
  ·cases Hw
 have htd:=h.tm d _ Mk;simp only [Region.wanted,Ti,XJ];constructor
 ·intro hw;have hb:a.tmps[d]? = some (.bool want):=by grind
  refine kI hb ?_;by_cases hh:Holds a.tmps iN
  ·exact hh
  ·have:=htd.2 hh;rw [hb] at this;simp [undef] at this
 ·intro hh;have:=hh (d,want) (by simp);simp only at this;rw [this];simp
theorem EE (h:Rel X E st a w) {t:Nat} {b:Bool} (hg:get st.sl t=some ⟨[],.v (.bool b)⟩):a.tmps[t]? = some (.bool b):=by
 obtain ⟨v,h1,h2⟩:=(h.tm t _ hg).1 (bq _);rw [h1,kJ h2]
theorem OX (h:Rel X E st a w) {t:Nat} (hg:get st.sl t=some ⟨[],.ud⟩):a.tmps[t]? = some undef:=by
 obtain ⟨v,h1,h2⟩:=(h.tm t _ hg).1 (bq _);unfold Rv at h2;rw [h1,h2]
theorem xu {G:List (Nat × Bool)} {dst:Option Nat} (aZ:okG G dst=true):∀ e,dst=some e->∀ p∈G,p.1≠e:=by
 intro e he p hp dQ;rw [he] at aZ;have:=(List.all_eq_true.1 aZ) p hp;rw [dQ] at this;simp at this
theorem go_sound:∀ n,Snd X (go X n)
 | 0=>fun k st hg=>hg.elim
 | n + 1=>by
  have ih:=go_sound n;intro k st hg E a w h
  match k with
  | []=>exact Av h (by simpa [go] using hg)
  | .Ht id :: k=>exact ih k st (by simpa [go] using hg) E a w h
  | .wV J :: k=>exact ⟨st,E,h,by simpa [go] using hg⟩
  | .ops all [] :: k=>exact ih k st (by simpa [go] using hg) E a w h
  | .ops all (o :: r) :: k=>
   simp only [go,pg,Kl] at hg;split at hg
   ·exact hg.elim
   ·rename_i hd;split at hg
    ·rename_i Ti;simp only [kq,wpList,Region.wanted,Ti,if_true];split at hg
     ·rename_i s hs;obtain ⟨v,hv,ct⟩:=ji X.hT h.rl (bq _) hs;exact .inl (kL (ct w fun _=>rfl) (ih _ _ hg E _ w (bi h hd s v hv)))
     ·exact .inl (ED (fun a w hk=>hk) (fun e a w hq=>hq.elim) (Au ih hd h hg))
    ·rename_i j want Ti;split at hg
     ·exact hg.elim
     ·rename_i d Hw;split at hg
      ·exact hg.elim
      ·rename_i iN sd Mk;have xx:=wanted_spec h Ti Hw Mk;simp only [kq,wpList];split at hg
       ·rename_i s hs;split at hg
        case h_2=>exact hg.elim
        rename_i aZ;split
        ·rename_i hw;have hh:=xx.1 hw;obtain ⟨v,hv,ct⟩:=ji X.hT h.rl hh hs;exact .inl (kL (ct w fun _=>rfl) (ih _ _ hg E _ w (rJ h hd _ s v (xu aZ) (fun _=>hv) (fun hn=>(hn hh).elim))))
        ·rename_i hw;have hh:¬ Holds a.tmps ((d,want) :: iN):=fun hh=>hw (xx.2 hh);exact ih _ _ hg E _ w (rJ h hd _ s undef (xu aZ) (fun hn=>(hh hn).elim) (fun _=>rfl))
       ·split at hg
        ·rename_i b iv;have ht0:=EE h iv
         cases iN with
         | nil=>
          simp only [lastG] at iv ht0;cases Cq:(b == want)
          ·have HZ:b = !want:=by cases b<;>cases want<;>simp_all
           have hg:=hg.f Cq
           have hn:¬ Region.wanted o (yielded all a.tmps)=true:=by
            intro hw;have:=(xx.1 hw) (d,want) (by simp)
            grind
           rw [aj hn];have hr:=lp (d:=d) (b:=!want) h (by rw [ht0,HZ]);exact ih _ _ hg E _ w (bi hr (lr hd) .ud undef (uR E))
          ·have On:b=want:=sU Cq;have hg:=hg.t Cq;subst On;have hw:Region.wanted o (yielded all a.tmps)=true:=xx.2 (kI ht0 (bq _));rw [ap hw];have hr:=lp (d:=d) (b:=b) h ht0;exact .inl (ED (fun a w hk=>hk) (fun e a w hq=>hq.elim) (Au ih (lr hd) hr hg))
         | cons g1 gr=>
          have key:∀ c,a.tmps[(lastG (d,want) (g1 :: gr)).1]? = some (.bool c)->go X n (.ops all (o :: r) :: k) (st.resolve (lastG (d,want) (g1 :: gr)).1 c)->wpList X.P all (kq X k) (o :: r) a w:=
           fun c hc j7=>ih _ _ j7 E a w (lp h hc)
          cases Cq:(b == (lastG (d,want) (g1 :: gr)).2)
          ·have hg:=hg.f Cq;have HZ:b = !(lastG (d,want) (g1 :: gr)).2:=by cases b<;>cases h0:(lastG (d,want) (g1 :: gr)).2<;>simp_all
           have:=key _ (by rw [ht0,HZ]) hg;simpa [wpList] using this
          ·have hg:=hg.t Cq;have On:b=(lastG (d,want) (g1 :: gr)).2:=sU Cq;have:=key _ (by rw [ht0,On]) hg;simpa [wpList] using this
        ·rename_i iv
         cases iN with
         | nil=>
          have ht0:=OX h iv;simp only [lastG] at ht0
          have hn:¬ Region.wanted o (yielded all a.tmps)=true:=by
           intro hw;have:=(xx.1 hw) (d,want) (by simp);simp only at this;rw [ht0] at this;simp [undef] at this
          rw [aj hn];exact ih _ _ hg E _ w (bi h hd .ud undef (uR E))
         | cons g1 gr=>exact hg.elim
        ·exact hg.elim
  | .code c :: k=>
   rw [fW]
   cases c with
   | skip=>exact wp_skip (ih k st (by simpa [go] using hg) E a w h)
   | seq x y=>
    have:=ih (.code x :: .code y :: k) st (by simpa [go] using hg) E a w h;rw [fW,Th] at this;exact wp_seq this
   | block id b=>
    have:=ih (.code b :: .Ht id :: k) st (by simpa [go] using hg) E a w h;rw [fW] at this;exact wp_block (wp_mono this (XI id k))
   | exit id=>
    simp only [go] at hg;split at hg
    ·rename_i k' hk;exact wp_exit (rL k k' a w hk (ih k' st hg E a w h))
    ·exact hg.elim
   | cond x p q=>
    simp only [go] at hg;split at hg
    ·rename_i b hb;refine wp_cond (t:=b) (by rw [kJ (aX h.rl hb)]) ?_;cases iv:b
     ·exact ih (.code q :: k) st (hg.f iv) E a w h
     ·exact ih (.code p :: k) st (hg.t iv) E a w h
    ·exact hg.elim
   | region id ops d=>
    simp only [go] at hg;cases d
    ·exact wp_region_list (ih (.ops ops ops.toList :: k) st hg E a w h)
    ·exact hg E a w h
   | loop b=>exact (by simpa [go] using hg:uQ X b k st) E a w h
   | ret=>exact wp_ret (xr k a w (Av h (by simpa [go] using hg)))
   | _=>simp [go] at hg
theorem EF {fn:Func} (Ef:X.fn=fn) (e:Exit) (a:Act) (w:World) (h:kq X [] e a w):bodyPost X.P fn (fun e w'=>∃ v,e = .returned v/\oo X.still X.E0 X.w0 X.Φ v w' X.fr/\qa X.bt X.E0.β w') e a w:=by
 subst Ef
 cases e with
 | normal=>obtain ⟨h1,v,h2,h3⟩:=h;exact ⟨h1,v,h2,v,rfl,h3⟩
 | ret=>obtain ⟨h1,v,h2,h3⟩:=h;exact ⟨h1,v,h2,v,rfl,h3⟩
 | exit _=>exact h.elim
 | goto _=>exact h.elim
 | panic _=>exact h.elim
 | outgrown=>exact h.elim
end
def XK (s:Bool) (P:Program) (f:FuncId) (args:List DV) (os:List (List DV)) (bO:List TkE) (Φ:DV->List (List DV)->List TkE->Prop) (fr:Bool:=false):Prop:=
 ∀ (E:En) (w:World) (vs:List Value),Env E os w->E.tk=bO->RvL E args vs->Calls P f vs.toArray w fun e w'=>∃ v,e = .returned v/\oo s E w Φ v w' fr
def Ev (P:Program) (f:FuncId) (args:List DV) (os:List (List DV)) (bO:List TkE) (Φ:DV->List (List DV)->List TkE->Prop):Prop:=XK false P f args os bO Φ
def EvS (P:Program) (f:FuncId) (args:List DV) (os:List (List DV)) (bO:List TkE) (Φ:DV->List (List DV)->List TkE->Prop):Prop:=XK true P f args os bO Φ
def Tj (P:Program) (f:FuncId) (args:List DV) (os:List (List DV)) (bO:List TkE) (Φ:DV->List (List DV)->List TkE->Prop):Prop:=XK false P f args os bO Φ true
def EvP (P:Program) (f:FuncId) (args:List DV) (d:DV):Prop:=Ev P f args [] [] fun d' _ _=>d'=d
def argSl:Nat->List DV->List (Nat × Sl)
 | _,[]=>[]
 | i,v :: r=>(i,⟨[],v⟩) :: argSl (i + 1) r
theorem Aw:∀ (l:List DV) (i j:Nat) (x:Sl),get (argSl i l) j=some x->∃ v,x=⟨[],v⟩/\i<=j/\l[j - i]? = some v
 | [],_,_,_,h=>by simp [argSl,get] at h
 | v :: r,i,j,x,h=>by
  simp only [argSl,dO] at h;split at h
  ·grind
  ·rename_i l9;obtain ⟨u,hu,fb,hg⟩:=Aw r (i + 1) j x h
   grind
theorem Nw.refl {E:En} {bx:List (List DV)} {w:World} (h:Env E bx w):Nw E E w where
 c:=fun _ _ h=>h
 cn:=fun _ _ h=>.inl h
 β:=⟨[],by simp,by simp⟩
 tk:=fun k q y hq hy=>⟨q,y,hq,hy,rfl,rfl,.inl ⟨rfl,rfl⟩,.inl rfl⟩
 tn:=fun k y g hk hy=>by
  have:=(gS hy).1;rw [h.tl] at this;omega
 l0:=h.tl
def EvT (s:Bool) (P:Program) (f:FuncId) (args:List DV) (os:List (List DV)) (bO:List TkE) (bt:List (Nat × TypeId)) (Φ:DV->List (List DV)->List TkE->Prop) (fr:Bool:=false):Prop:=
 ∀ (E:En) (w:World) (vs:List Value),Env E os w->E.tk=bO->qa bt E.β w->RvL E args vs->Calls P f vs.toArray w fun e w'=>∃ v,e = .returned v/\oo s E w Φ v w' fr/\qa bt E.β w'
theorem Tk {s:Bool} {P:Program} {f:FuncId} {fn:Func} {c:Code} {args:List DV} {os:List (List DV)} {bO:List TkE} {Φ:DV->List (List DV)->List TkE->Prop} (bt:List (Nat × TypeId)) (mu:List Nat) (fr:Bool) (T:TT) (hT:T.ok P=true) (n nt:Nat) (rs:List ResultVar)
  (hf:P.funcs[f]? = some fn) (hb:fn.body=some c) (H0:fn.ntmps=nt) (zL:fn.results.toList=rs) (hlen:args.length<=nt)
  (h:∀ (E:En) (w:World) (hn:E.β.length=os.length) (hm:E.tk.length=bO.length),go ⟨P,T,hT,fn,nt,rs,zL,w,E,os.length,bO.length,hn,hm,s,Φ,bt,mu,fr⟩ n [.code c] ⟨argSl 0 args,os,bO⟩):EvT s P f args os bO bt Φ fr:=by
 intro E w vs hE jl iv hv;have hl:=hv.length;have hg:=h E w hE.len (by rw [jl]);refine calls_of_wp hf hb ?_
 have hs:=go_sound (X:=⟨P,T,hT,fn,nt,rs,zL,w,E,os.length,bO.length,hE.len,by rw [jl],s,Φ,bt,mu,fr⟩) n _ _ hg E
  {tmps:=vs.toArray ++ Array.replicate (fn.ntmps - vs.toArray.size) undef,defers:=[] } w
  {env:=hE
   tk:=jl
   sz:=by simp [H0];omega
   tm:=by
    intro i x hx;obtain ⟨d,rfl,_,hd⟩:=Aw args 0 i x hx;simp only [Nat.sub_zero] at hd;obtain ⟨v,vX,OO⟩:=hv.get hd
    grind [bq]
   df:=rfl
   nw:=Nw.refl hE
   fr:=⟨rfl,rfl,rfl,aV _,fun _ _ _=>rfl⟩
   sh:=fun _=>⟨0,rfl⟩
   bt:=iv }
 exact wp_mono hs (EF rfl)
theorem nf {s:Bool} {P:Program} {f:FuncId} {fn:Func} {c:Code} {args:List DV} {os:List (List DV)} {bO:List TkE} {Φ:DV->List (List DV)->List TkE->Prop} (bt:List (Nat × TypeId)) (mu:List Nat) (hbt:∀ p∈bt,os.length<=p.1) (fr:Bool) (T:TT) (hT:T.ok P=true) (n nt:Nat) (rs:List ResultVar)
  (hf:P.funcs[f]? = some fn) (hb:fn.body=some c) (H0:fn.ntmps=nt) (zL:fn.results.toList=rs) (hlen:args.length<=nt)
  (h:∀ (E:En) (w:World) (hn:E.β.length=os.length) (hm:E.tk.length=bO.length),go ⟨P,T,hT,fn,nt,rs,zL,w,E,os.length,bO.length,hn,hm,s,Φ,bt,mu,fr⟩ n [.code c] ⟨argSl 0 args,os,bO⟩):XK s P f args os bO Φ fr:=fun E w vs hE jl hv=>(Tk bt mu fr T hT n nt rs hf hb H0 zL hlen h E w vs hE jl (fun p hp b hb=>by
  have h1:=hbt p hp;have h2:=(gS hb).1;have h3:=hE.len
  omega) hv).mono fun _ _ ⟨v,h1,h2,_⟩=>⟨v,h1,h2⟩
theorem v7 {s:Bool} {P:Program} {f:FuncId} {fn:Func} {c:Code} {args:List DV} {os:List (List DV)} {bO:List TkE} {Φ:DV->List (List DV)->List TkE->Prop} (bt:List (Nat × TypeId)) (hbt:∀ p∈bt,os.length<=p.1) (T:TT) (hT:T.ok P=true) (n nt:Nat) (rs:List ResultVar)
  (hf:P.funcs[f]? = some fn) (hb:fn.body=some c) (H0:fn.ntmps=nt) (zL:fn.results.toList=rs) (hlen:args.length<=nt)
  (h:∀ (E:En) (w:World) (hn:E.β.length=os.length) (hm:E.tk.length=bO.length),go ⟨P,T,hT,fn,nt,rs,zL,w,E,os.length,bO.length,hn,hm,s,Φ,bt,[],false⟩ n [.code c] ⟨argSl 0 args,os,bO⟩):XK s P f args os bO Φ:=
 nf bt [] hbt false T hT n nt rs hf hb H0 zL hlen h
theorem OY {s:Bool} {P:Program} {f:FuncId} {fn:Func} {c:Code} {args:List DV} {os:List (List DV)} {bO:List TkE} {Φ:DV->List (List DV)->List TkE->Prop} (T:TT) (hT:T.ok P=true) (n nt:Nat) (rs:List ResultVar)
  (hf:P.funcs[f]? = some fn) (hb:fn.body=some c) (H0:fn.ntmps=nt) (zL:fn.results.toList=rs) (hlen:args.length<=nt)
  (h:∀ (E:En) (w:World) (hn:E.β.length=os.length) (hm:E.tk.length=bO.length),go ⟨P,T,hT,fn,nt,rs,zL,w,E,os.length,bO.length,hn,hm,s,Φ,[],[],false⟩ n [.code c] ⟨argSl 0 args,os,bO⟩):XK s P f args os bO Φ:=
 v7 [] (fun p hp=>by cases hp) T hT n nt rs hf hb H0 zL hlen h
theorem aaJ {P:Program} {f:FuncId} {fn:Func} {c:Code} {args:List DV} {os:List (List DV)} {bO:List TkE} {Φ:DV->List (List DV)->List TkE->Prop} (T:TT) (hT:T.ok P=true) (n nt:Nat) (rs:List ResultVar)
  (hf:P.funcs[f]? = some fn) (hb:fn.body=some c) (H0:fn.ntmps=nt) (zL:fn.results.toList=rs) (hlen:args.length<=nt)
  (h:∀ (E:En) (w:World) (hn:E.β.length=os.length) (hm:E.tk.length=bO.length),go ⟨P,T,hT,fn,nt,rs,zL,w,E,os.length,bO.length,hn,hm,false,Φ,[],[],false⟩ n [.code c] ⟨argSl 0 args,os,bO⟩):Ev P f args os bO Φ:=
 OY T hT n nt rs hf hb H0 zL hlen h
theorem Ev.mono {P:Program} {f:FuncId} {args:List DV} {os:List (List DV)} {bO:List TkE} {Φ Ψ:DV->List (List DV)->List TkE->Prop} (h:Ev P f args os bO Φ) (hΦ:∀ d o t,Φ d o t->Ψ d o t):Ev P f args os bO Ψ:=by
 intro E w vs h1 h2 h3;refine (h E w vs h1 h2 h3).mono ?_;rintro e w' ⟨v,rfl,h4,hs,d,o,E',h5,h6,h7,h8,h9,vY⟩;exact ⟨v,rfl,h4,hs,d,o,E',h5,h6,h7,h8,h9,hΦ _ _ _ vY⟩
theorem Ev.aaK {P:Program} {f:FuncId} {args:List DV} {os:List (List DV)} {bO:List TkE} {Φ:DV->List (List DV)->List TkE->Prop} {bt:List (Nat × TypeId)} (h:Ev P f args os bO Φ) (hb:bt=[]):EvT false P f args os bO bt Φ:=fun E w vs h1 h2 _ h4=>
 (h E w vs h1 h2 h4).mono fun _ _ ⟨v,h5,h6⟩=>⟨v,h5,h6,.nil hb⟩
theorem br {b:Bool} {A B:Prop} (h1:b=true->A) (h2:b=false->B):@Bool.rec (fun _=>Prop) B A b:=by
 cases b
 ·exact h2 rfl
 ·exact h1 rfl
section
variable {X:Ctx} {st:St} {k:List It} {E:En} {a:Act} {w:World}
theorem Ax (h:Rel X E st a w) (aW:X.still=false) {E2:En} {w':World} (hm:rC (E.cl).S w w') (he:Env E2 [] w') (hn:Nw E.cl E2 w):Rel X ⟨E2.c,E.β,E.tk,E.τ⟩ st a w':=by
 have hh:∀ i,i < w.heap.size->w'.heap[i]? = w.heap[i]?:=fun i hi=>hm.block i hi (by
  rintro (h1 | ⟨y,h1,_⟩)
  ·simp [En.cl] at h1
  ·simp [En.cl] at h1)
 have eN:∀ x v,E2.c x=some v->E.c x=some v∨w.heap.size<=x.block:=fun x v hx=>by
  rcases hn.cn x v hx with h1 | h1 | ⟨y,h1,_⟩
  ·exact .inl h1
  ·exact .inr h1
  ·simp [En.cl] at h1
 have hx:Ext E ⟨E2.c,E.β,E.tk,E.τ⟩:=⟨hn.c,fun _ _ h=>h,fun _ q h=>⟨q,h,.inl ⟨rfl,rfl⟩⟩⟩;have hk:=h.env.kb hh;refine dE h hx ?_ h.tk ?_ (h.fr.cI hm.os hm.tape hm.output hm.size fun i hi=>.inr (hh i hi)) (mV aW) (h.bt.kb fun b hb=>hh b (h.env.bh hb))
 ·exact {
   len:=h.env.len
   tl:=h.env.tl
   eM:=fun i cs hi=>by
    obtain ⟨b,ty,arr,hb,hw,hc⟩:=hk.eM i cs hi;exact ⟨b,ty,arr,hb,hw,hc.mono hx⟩
   inj:=h.env.inj
   sub:=he.sub
   pc:=fun x v hc qm=>by
    rcases eN x v hc with h1 | h1
    ·exact h.env.pc x v h1 qm
    ·have:=h.env.bh qm;omega
   bO:=fun k q y hq hy=>by
    rcases hk.bO k q y hq hy with h1 | ⟨g',cap,cur,rfl,h1,h2,h3,h4,h5,h6⟩
    ·exact .inl h1
    ·refine .inr ⟨g',cap,cur,rfl,h1,⟨h2.1,h2.2.mono hn.c⟩,h3,h4,h5,fun x v hc hg=>?_⟩;rcases eN x v hc with h7 | h7
     ·exact h6 x v h7 hg
     ·have:=(jj (h.env.bO k q _ hq hy) (g:=g') rfl).1;omega
   je:=h.env.je }
 ·exact {
   c:=fun x v hc=>hn.c x v (h.nw.c x v hc)
   cn:=fun x v hc=>by
    rcases eN x v hc with h1 | h1
    ·exact h.nw.cn x v h1
    ·have:=h.fr.size;exact .inr (.inl (by omega))
   β:=h.nw.β
   tk:=h.nw.tk
   tn:=h.nw.tn
   l0:=h.nw.l0 }
theorem OZ {bx:List (List DV)} (h:Env E bx w):Env E.cl [] w where
 len:=rfl
 tl:=rfl
 eM:=by simp
 inj:=List.nodup_nil
 sub:=h.sub
 pc:=by simp [En.cl]
 bO:=by simp [En.cl]
 je:=by simp [En.cl]
theorem oy {P:Program} (h:Rel X E st a w) (aW:X.still=false) {f:FuncId} {args bB:List DV} {vs:List Value} {Φ:DV->List (List DV)->List TkE->Prop} (hc:Ev P f bB [] [] Φ) (ha:CcL [] 0 0 0 bB args) (hv:RvL E args vs) :
  Calls P f vs.toArray w fun e w'=>∃ v E' d,e = .returned v/\Rel X E' st a w' /\ Rv E' d v/\Φ d [] []/\rC E.cl.S w w' /\ Ext E E' /\ E'.β=E.β:=by
 have Oe:RvL E.cl bB vs:=CcL.sound (E:=E) (E':=E.cl) ⟨fun _ _ h=>h,fun i cs _ hi=>by simp at hi⟩ (Ku.zero _ _) ha hv;refine (hc E.cl w vs (OZ h.env) rfl Oe).mono ?_;rintro e w' ⟨v,rfl,hm,_,d,os,E2,he,hβ,jl,hn,Cr,hΦ⟩
 have zN:os=[]:=by
  have:=he.len;rw [hβ] at this;exact List.eq_nil_of_length_eq_zero this.symm
 subst zN;have ht0:E2.tk=[]:=List.eq_nil_of_length_eq_zero jl;refine ⟨v,⟨E2.c,E.β,E.tk,E.τ⟩,d,rfl,Ax h aW hm he hn,?_,by rw [ht0] at hΦ;exact hΦ,hm,⟨hn.c,fun _ _ h=>h,fun _ q h=>⟨q,h,.inl ⟨rfl,rfl⟩⟩⟩,rfl⟩;refine Rv.mono (E:=E2) (E':=⟨E2.c,E.β,E.tk,E.τ⟩) ⟨fun _ _ h=>h,fun i b hb=>?_,fun k q hq=>?_⟩ Cr
 ·rw [hβ] at hb;simp [En.cl] at hb
 ·rw [ht0] at hq;simp at hq
theorem dj {f:FuncId} {args bB:List DV} {d:Nat} (lm:Enters X.P f) (hd:eJ X.nt st.sl (some d)=true) {Φ:DV->List (List DV)->List TkE->Prop} (hc:Ev X.P f bB [] [] Φ) (ha:CcL [] 0 0 0 bB args)
  (hk:∀ r,Φ r [] []->go X 4000 k ⟨(d,⟨[],r⟩) :: st.sl,st.bx,st.tk⟩) (aW:X.still=false:=by exact rfl):CallG X f args (some d) k st:=by
 refine ⟨lm,aW,fun E a w vs h hv=>(oy h aW hc ha hv).mono ?_⟩;rintro e w' ⟨v,E',r,rfl,bS,hr,hΦ,_⟩;exact go_sound 4000 _ _ (hk r hΦ) E' _ w' (bi bS hd r v hr)
theorem O0 {f:FuncId} {args bB:List DV} {d:Nat} {r:DV} (lm:Enters X.P f) (hc:EvP X.P f bB r) (ha:CcL [] 0 0 0 bB args) (hd:eJ X.nt st.sl (some d)=true)
  (hk:go X 4000 k ⟨(d,⟨[],r⟩) :: st.sl,st.bx,st.tk⟩) (aW:X.still=false:=by exact rfl):CallG X f args (some d) k st:=
 dj lm hd hc ha (fun _ hr=>hr ▸ hk) aW
def clB (n m:Nat):DV->Bool
 | .v _=>true
 | .ud=>true
 | .sl _ _ none=>true
 | .sl _ _ (some k)=>Nat.blt k m
 | .pt _ _=>true
 | .loc i _=>Nat.blt i n
 | .el i _=>Nat.blt i n
 | .ms i _ _ _ _=>Nat.blt i n
 | .agg l=>clL l
 | .tup l=>clL l
 | .fn _ l r=>clL l && clL r
 | .rB _ x=>clB n m x
where clL:List DV->Bool
 | []=>true
 | d :: r=>clB n m d && clL r
def En.cut (E:En) (n m:Nat):En:=⟨E.c,E.β.take n,E.tk.take m,E.τ.take m⟩
mutual
theorem Rv.cut {n m:Nat} {E:En}:∀ {d:DV} {v:Value},Rv E d v->clB n m d=true->Rv (E.cut n m) d v
 | .v x,v,h,_=>by unfold Rv at h ⊢;exact h
 | .ud,v,h,_=>by unfold Rv at h ⊢;exact h
 | .sl e es none,v,h,_=>by
  unfold Rv at h ⊢;obtain ⟨b,n,cap,h1,h2,h3,_⟩:=h;exact ⟨b,n,cap,h1,h2,h3,fun k hk=>by cases hk⟩
 | .sl e es (some k),v,h,hc=>by
  unfold Rv at h ⊢;obtain ⟨b,n',cap,h1,h2,h3,h4⟩:=h;refine ⟨b,n',cap,h1,h2,h3,fun k' fH=>?_⟩;cases fH;have hk:k < m:=by simpa [clB] using hc
  obtain ⟨q,h5,h6,h7⟩:=h4 k rfl;exact ⟨q,by show (E.tk.take m)[k]? = _;rw [cR,ap hk];exact h5,h6,fun hh=>by show (E.τ.take m)[k]? = _;rw [cR,ap hk];exact h7 hh⟩
 | .pt cs o,v,h,_=>by unfold Rv at h ⊢;exact h
 | .loc i o,v,h,hc=>by
  unfold Rv at h ⊢;obtain ⟨b,hb,h1⟩:=h;have hi:i < n:=by simpa [clB] using hc
  exact ⟨b,by show (E.β.take n)[i]? = _;rw [cR,ap hi];exact hb,h1⟩
 | .el i o,v,h,hc=>by
  unfold Rv at h ⊢;obtain ⟨b,hb,h1⟩:=h;have hi:i < n:=by simpa [clB] using hc
  exact ⟨b,by show (E.β.take n)[i]? = _;rw [cR,ap hi];exact hb,h1⟩
 | .ms i e o l c,v,h,hc=>by
  unfold Rv at h ⊢;obtain ⟨b,ad,hb,h1⟩:=h;have hi:i < n:=by simpa [clB] using hc
  exact ⟨b,ad,by show (E.β.take n)[i]? = _;rw [cR,ap hi];exact hb,h1⟩
 | .agg l,v,h,hc=>by
  unfold Rv at h ⊢;obtain ⟨vs,h1,h2,h3⟩:=h;simp only [clB] at hc;exact ⟨vs,h1,RvL.cut h2 hc,h3⟩
 | .tup l,v,h,hc=>by
  unfold Rv at h ⊢;obtain ⟨vs,h1,h2⟩:=h;simp only [clB] at hc;exact ⟨vs,h1,RvL.cut h2 hc⟩
 | .fn f l r,v,h,hc=>by
  unfold Rv at h ⊢;obtain ⟨l',r',h1,h2,h3⟩:=h;simp only [clB,bc] at hc;exact ⟨l',r',h1,RvL.cut h2 hc.1,RvL.cut h3 hc.2⟩
 | .rB t x,v,h,hc=>by
  unfold Rv at h ⊢;obtain ⟨z,h1,h2⟩:=h;simp only [clB] at hc;exact ⟨z,h1,Rv.cut h2 hc⟩
theorem RvL.cut {n m:Nat} {E:En}:∀ {l:List DV} {vs:List Value},RvL E l vs->clB.clL n m l=true->RvL (E.cut n m) l vs
 | [],vs,h,_=>by simp only [RvL] at h ⊢;exact h
 | d :: r,vs,h,hc=>by
  simp only [RvL] at h ⊢;obtain ⟨v,s,h1,h2,h3⟩:=h;simp only [clB.clL,bc] at hc;exact ⟨v,s,h1,Rv.cut h2 hc.1,RvL.cut h3 hc.2⟩
end
end
end Dv
end Go.Proofs.YtgjagnmeonoehaaGreat
namespace Go.Proofs.YtgjagnmeonoehaaGreat
namespace Dv
open Go Go.RowKit
def We (n m:Nat) (cM:List TkE) (x x':DV):Prop:=
 (x=x' /\ clB n m x=true)∨(x = .v (.slice none 0 0)/\∃ e k q,x' = .sl e [] (some k)/\m<=k/\cM[k]? = some q)∨(x = .v (.slice none 0 0)/\∃ e,x' = .sl e [] none)∨(∃ e es tk,x = .sl e es tk/\x' = .sl e es none)∨(∃ e es Ea tk,x = .sl e es tk/\x' = .sl e Ea none/\CcE [] 0 Ea es)∨(∃ e es Ea k,x = .sl e es (some k)/\x' = .sl e Ea (some k)/\k < m/\CcE [] 0 Ea es)
def WeL (n m:Nat) (cM:List TkE):List DV->List DV->Prop
 | [],l=>l=[]
 | x :: r,l=>∃ x' r',l=x' :: r' /\ We n m cM x x' /\ WeL n m cM r r'
def WeLL (n m:Nat) (cM:List TkE):List (List DV)->List (List DV)->Prop
 | [],l=>l=[]
 | x :: r,l=>∃ x' r',l=x' :: r' /\ WeL n m cM x x' /\ WeLL n m cM r r'
def oA (n m:Nat) (cM:List TkE) (sl:List (Nat × Sl)):List (Nat × Sl)->Prop
 | []=>True
 | p :: r=>(∃ x,get sl p.1=some ⟨p.2.gs,x⟩/\We n m cM x p.2.s)/\oA n m cM sl r
structure qf (n0 m0:Nat) (st st':St):Prop where
 all:∃ kept dropped new b0 r,m0<=kept.length/\n0<=b0.length/\st.tk=kept ++ dropped/\st'.tk=kept ++ new/\(∀ q∈new,TkE.new q=true)/\st.bx=b0 ++ r/\WeLL b0.length kept.length st'.tk b0 st'.bx/\oA b0.length kept.length st'.tk st.sl st'.sl
theorem WeLL.length {n m:Nat} {cM:List TkE}:∀ {l l':List (List DV)},WeLL n m cM l l' -> l'.length=l.length
 | [],l',h=>by simp only [WeLL] at h;subst h;rfl
 | x :: r,l',h=>by
  simp only [WeLL] at h;obtain ⟨x',r',rfl,_,h2⟩:=h;simp [WeLL.length h2]
theorem WeLL.get {n m:Nat} {cM:List TkE}:∀ {l l':List (List DV)},WeLL n m cM l l' -> ∀ (i:Nat) cs',l'[i]? = some cs' -> ∃ cs,l[i]? = some cs/\WeL n m cM cs cs'
 | [],l',h,i,cs',hi=>by simp only [WeLL] at h;subst h;simp at hi
 | x :: r,l',h,i,cs',hi=>by
  simp only [WeLL] at h;obtain ⟨x',r',rfl,h1,h2⟩:=h
  cases i with
  | zero=>simp only [List.getElem?_cons_zero,oI] at hi;subst hi;exact ⟨x,rfl,h1⟩
  | succ i=>simp only [List.getElem?_cons_succ] at hi ⊢;exact WeLL.get h2 i cs' hi
theorem xy {n m:Nat} {cM:List TkE} {sl:List (Nat × Sl)}:∀ {l:List (Nat × Sl)},oA n m cM sl l->∀ i x',get l i=some x' -> ∃ x,get sl i=some ⟨x'.gs,x⟩/\We n m cM x x'.s
 | [],_,i,x',hx=>by cases hx
 | (k,y) :: r,h,i,x',hx=>by
  simp only [dO] at hx;split at hx
  ·rename_i uT;subst uT;simp only [oI] at hx;subst hx;exact h.1
  ·exact xy h.2 i x' hx
section
variable {X:Ctx} {E:En} {st st':St} {a:Act} {w:World} {k:List It}
def En.wk (E:En) (n:Nat) (kept new:List TkE):En:=⟨E.c,E.β.take n,kept ++ new,E.τ.take kept.length ++ List.replicate new.length (.slice none 0 0)⟩
theorem EG {n:Nat} {kept dropped new:List TkE} (ht:E.tk=kept ++ dropped) (hl:E.τ.length=E.tk.length) (eN:∀ q∈new,TkE.new q=true) {x x':DV} {v:Value} (hx:We n kept.length (kept ++ new) x x') (hv:Rv E x v):Rv (E.wk n kept new) x' v:=by
 have gl:kept.length<=E.τ.length:=by rw [hl,ht];simp
 have first:∀ {x:DV},clB n kept.length x=true->Rv E x v->Rv (E.wk n kept new) x v:=by
  intro x hc hv;refine Rv.mono (E:=E.cut n kept.length) ⟨fun _ _ h=>h,fun _ _ h=>h,fun k q hq=>?_⟩ (Rv.cut hv hc);have jX:(E.tk.take kept.length)[k]? = some q:=hq;rw [cR] at jX;split at jX
  ·rename_i hk;refine ⟨q,?_,.inl ⟨rfl,?_⟩⟩
   ·show (kept ++ new)[k]? = _
    grind
   ·show (E.τ.take kept.length ++ _)[k]? = (E.τ.take kept.length)[k]?
    grind
  ·cases jX
 rcases hx with ⟨rfl,hc⟩ | ⟨rfl,e,k,q,rfl,hk,hq⟩ | ⟨rfl,e,rfl⟩ | ⟨e,es,tk,rfl,rfl⟩ | ⟨e,es,Ea,tk,rfl,rfl,he⟩ | ⟨e,es,Ea,k,rfl,rfl,hk,he⟩
 ·exact first hc hv
 ·have:=cj hv;subst this;unfold Rv;refine ⟨none,0,0,rfl,⟨rfl,aV _⟩,fun hn=>(hn rfl).elim,fun k' fH=>?_⟩;cases fH;have Kw:(kept ++ new)[k]? = some q:=hq;rw [List.getElem?_append_right hk] at Kw;have s5:=TkE.OH (eN q (mG Kw));refine ⟨q,hq,by omega,fun _=>?_⟩;have aq:=(gS Kw).1;show (E.τ.take kept.length ++ List.replicate new.length _)[k]? = _
  grind
 ·have:=cj hv;subst this;unfold Rv;exact ⟨none,0,0,rfl,⟨rfl,aV _⟩,fun hn=>(hn rfl).elim,fun k hk=>by cases hk⟩
 ·unfold Rv at hv ⊢;obtain ⟨b,n,cap,h1,h2,h3,_⟩:=hv;exact ⟨b,n,cap,h1,h2,h3,fun k hk=>by cases hk⟩
 ·have hv:=VA he hv;unfold Rv at hv ⊢;obtain ⟨b,n,cap,h1,h2,h3,_⟩:=hv;exact ⟨b,n,cap,h1,h2,h3,fun k hk=>by cases hk⟩
 ·exact first (by simp only [clB];exact Nat.ble_eq_true_of_le hk) (VA he hv)
theorem Ay {n:Nat} {kept dropped new:List TkE} (ht:E.tk=kept ++ dropped) (hl:E.τ.length=E.tk.length) (eN:∀ q∈new,TkE.new q=true):∀ {l l':List DV} {vs:List Value},WeL n kept.length (kept ++ new) l l' -> RvL E l vs->RvL (E.wk n kept new) l' vs
 | [],l',vs,h,hv=>by grind [WeL,RvL]
 | x :: r,l',vs,h,hv=>by
  simp only [WeL] at h;obtain ⟨x',r',rfl,h1,h2⟩:=h;simp only [RvL] at hv ⊢;obtain ⟨v,s,h3,h4,h5⟩:=hv;exact ⟨v,s,h3,EG ht hl eN h1 h4,Ay ht hl eN h2 h5⟩
theorem Ml (h:Rel X E st a w) {kept dropped new:List TkE} {b0 r:List (List DV)} (fG:X.m0<=kept.length/\X.n0<=b0.length/\st.tk=kept ++ dropped/\st'.tk=kept ++ new/\(∀ q∈new,TkE.new q=true)/\st.bx=b0 ++ r/\WeLL b0.length kept.length st'.tk b0 st'.bx/\oA b0.length kept.length st'.tk st.sl st'.sl):Rel X (E.wk b0.length kept new) st' a w:=by
 obtain ⟨om,p9,ht,qb,eN,hb,mO,ov⟩:=fG;rw [qb] at mO ov;have htE:E.tk=kept ++ dropped:=by rw [h.tk,ht]
 have hbl:=mO.length;have gl:kept.length<=E.τ.length:=by rw [h.env.tl,htE];simp
 have iv:b0.length<=E.β.length:=by rw [h.env.len,hb];simp
 have hτ:∀ (k:Nat) y,(E.τ.take kept.length ++ List.replicate new.length (Value.slice none 0 0))[k]? = some y->(k < kept.length/\E.τ[k]? = some y)∨(kept.length<=k/\y = .slice none 0 0):=fun k y hy=>by grind
 exact {
  env:={
   len:=by simp only [En.wk,zLenT];omega
   tl:=by simp only [En.wk,List.length_append,zLenT,List.length_replicate];omega
   eM:=fun i cs' hi=>by
    obtain ⟨cs,hcs,hwe⟩:=mO.get i cs' hi;have aq:=(gS hcs).1;obtain ⟨b,ty,arr,hbb,hwb,hc⟩:=h.env.eM i cs (by rw [hb,dc aq];exact hcs);exact ⟨b,ty,arr,by simp only [En.wk];rw [cR,ap aq];exact hbb,hwb,Ay htE h.env.tl eN hwe hc.1,hc.2⟩
   inj:=h.env.inj.sublist (List.take_sublist _ _)
   sub:=h.env.sub
   pc:=fun x v hx hm=>h.env.pc x v hx (List.mem_of_mem_take hm)
   bO:=fun k q y hq hy=>by
    rcases hτ k y hy with ⟨hk,gp⟩ | ⟨hk,rfl⟩
    ·have jX:(kept ++ new)[k]? = some q:=hq;rw [dc hk] at jX;rcases h.env.bO k q y (by rw [htE,dc hk];exact jX) gp with h1 | ⟨g,cap,cur,rfl,h1,h2,h3,h4,h5,h6⟩
     ·exact .inl h1
     ·exact .inr ⟨g,cap,cur,rfl,h1,h2,h3,h4,fun hm=>h5 (List.mem_of_mem_take hm),h6⟩
    ·have jX:(kept ++ new)[k]? = some q:=hq;rw [List.getElem?_append_right hk] at jX;exact .inl ⟨rfl,TkE.OH (eN q (mG jX)),TkE.Vv (eN q (mG jX))⟩
   je:=fun k k' y y' g Eb hy gp hg rm=>by
    rcases hτ k y hy with ⟨_,uU⟩ | ⟨_,rfl⟩
    ·rcases hτ k' y' gp with ⟨_,lk⟩ | ⟨_,rfl⟩
     ·exact h.env.je k k' y y' g Eb uU lk hg rm
     ·simp [Value.ownBlock] at rm
    ·simp [Value.ownBlock] at hg }
  tk:=by simp only [En.wk];exact qb.symm
  sz:=h.sz
  tm:=fun i x' Aq=>by
   obtain ⟨x,hx,hwe⟩:=xy ov i x' Aq;have:=h.tm i _ hx;refine ⟨fun hh=>?_,this.2⟩;obtain ⟨v,h1,h2⟩:=this.1 hh;exact ⟨v,h1,EG htE h.env.tl eN hwe h2⟩
  df:=h.df
  nw:={
   c:=h.nw.c
   cn:=h.nw.cn
   β:=by
    obtain ⟨r2,hr,hl⟩:=h.nw.β;refine ⟨r2.take (b0.length - X.n0),?_,fun b hb=>hl b (List.mem_of_mem_take hb)⟩;simp only [En.wk];rw [hr,List.take_append,List.take_of_length_le (by rw [X.p9];omega),X.p9]
   tk:=fun j q0 y0 s5 zT=>by
    obtain ⟨q',y',h1,h2,h3⟩:=h.nw.tk j q0 y0 s5 zT;have hj:j < X.m0:=by rw [<- X.om];exact (gS s5).1
    grind [En.wk]
   tn:=fun j y g hj hy hg=>by
    rcases hτ j y hy with ⟨_,uU⟩ | ⟨_,rfl⟩
    ·exact h.nw.tn j y g hj uU hg
    ·simp [Value.ownBlock] at hg
   l0:=h.nw.l0 }
  fr:=h.fr
  sh:=h.sh
  bt:=h.bt.sub _ }
theorem xz (h:Rel X E st a w) (hw:qf X.n0 X.m0 st st'):∃ E',Rel X E' st' a w:=by
 obtain ⟨_,_,_,_,_,fG⟩:=hw.all;exact ⟨_,Ml h fG⟩
theorem least {p:Nat->Prop} (h:∃ n,p n):∃ n,p n/\∀ m,p m->n<=m:=by
 obtain ⟨n,hn⟩:=h
 induction n using Nat.strongRecOn with
 | _ n ih=>grind
theorem aY {c:Code} (I:Nat->St->Prop) (j0:Nat) (jG:St) (hw:qf X.n0 X.m0 st jG) (h0:I j0 jG)
  (hr:∀ j s,I j s->go X 4000 (.code c :: .wV (fun s'=>∃ EH,qf X.n0 X.m0 s' EH /\ ∃ j',j' < j/\I j' EH) :: k) s):uQ X c k st:=by
 intro E a w h;obtain ⟨E0,hr0⟩:=xz h hw
 classical
 let Inv:Act->World->Prop:=fun a w=>∃ j s E,Rel X E s a w/\I j s
 let μ:Act->World->Nat:=fun a w=>if hI:Inv a w then Classical.choose (least hI) else 0
 refine wp_loop Inv μ ⟨j0,jG,E0,hr0,h0⟩ ?_;intro a1 w1 hI;have Az:=(Classical.choose_spec (least hI)).1;obtain ⟨s,E1,bS,hIs⟩:=Az;have hs:=go_sound 4000 _ _ (hr _ s hIs) E1 a1 w1 bS;rw [fW] at hs;refine wp_mono hs ?_;intro e a2 w2 hq
 cases e with
 | normal=>
  obtain ⟨s',E2,oB,EH,XL,j',jL,hI'⟩:=hq;obtain ⟨E3,EI⟩:=xz oB XL;have XM:Inv a2 w2:=⟨j',EH,E3,EI,hI'⟩;refine ⟨XM,?_⟩;simp only [μ,dif_pos hI,dif_pos XM];exact Nat.lt_of_le_of_lt ((Classical.choose_spec (least XM)).2 j' ⟨EH,E3,EI,hI'⟩) jL
 | exit id=>exact hq
 | goto l=>exact hq
 | ret=>exact hq
 | panic c=>exact hq
 | outgrown=>exact hq
theorem aA {n m:Nat} {cM:List TkE} {x:DV} (h:clB n m x=true):We n m cM x x:=.inl ⟨rfl,h⟩
theorem aC {n m:Nat} {cM:List TkE} {kd:IntKind} {x y:Int} (h:x=y):We n m cM (.v (.int kd x)) (.v (.int kd y)):=.inl ⟨by rw [h],rfl⟩
theorem cW {n m:Nat} {cM:List TkE} {e k:Nat} {q:TkE} (h1:m<=k) (h2:cM[k]? = some q):We n m cM (.v (.slice none 0 0)) (.sl e [] (some k)):=.inr (.inl ⟨rfl,e,k,q,rfl,h1,h2⟩)
theorem cH {n m:Nat} {cM:List TkE} {e k:Nat} {es Ea:List (List DV)} (h:es=Ea) (hk:Nat.blt k m=true):We n m cM (.sl e es (some k)) (.sl e Ea (some k)):=.inl ⟨by rw [h],hk⟩
theorem ax {p:Prop} (h:p:=by repeat' (first | exact rfl | exact trivial | exact Or.inr (Or.inl ⟨_,rfl⟩) | exact Or.inr ⟨_,rfl⟩ | exact Or.inl ⟨rfl,rfl⟩ | exact Or.inl rfl | refine Or.inr ⟨_,_,rfl,Nat.zero_le _,rfl,?_⟩ | refine ⟨_,_,rfl,?_,?_⟩ | refine ⟨_,rfl,?_⟩ | refine Or.inr (Or.inr (Or.inr ⟨_,_,rfl,?_⟩)) | exact Or.inl rfl | refine Or.inr ?_)):p:=h
theorem wA {p:Prop} (h:p:=by repeat' (first | exact rfl | exact aA rfl | refine ⟨_,_,rfl,?_,?_⟩)):p:=h
theorem wB {p:Prop} (h:p:=by repeat' (first | exact trivial | exact aA rfl | refine ⟨⟨_,rfl,?_⟩,?_⟩)):p:=h
theorem v8 {n0 m0:Nat} {st st':St} (h1:∃ r,st.bx=st'.bx ++ r) (h2:WeLL st'.bx.length st'.tk.length st'.tk st'.bx st'.bx) (h3:st.tk=st'.tk) (h4:Nat.ble n0 st'.bx.length=true) (h5:Nat.ble m0 st'.tk.length=true)
  (h:oA st'.bx.length st'.tk.length st'.tk st.sl st'.sl):qf n0 m0 st st':=by
 obtain ⟨r,hr⟩:=h1;exact ⟨st'.tk,[],[],st'.bx,r,by simpa using h5,by simpa using h4,by simp [h3],by simp,by simp,hr,h2,h⟩
theorem XN {n0 m0:Nat} {st st':St} (n:Nat) (hn:Nat.ble n st.bx.length=true) (h2:WeLL n st'.tk.length st'.tk (st.bx.take n) st'.bx) (h3:st.tk=st'.tk) (h4:Nat.ble n0 n=true) (h5:Nat.ble m0 st'.tk.length=true)
  (h:oA n st'.tk.length st'.tk st.sl st'.sl):qf n0 m0 st st':=by
 have hl:(st.bx.take n).length=n:=by simp_all
 exact ⟨st'.tk,[],[],st.bx.take n,st.bx.drop n,by simpa using h5,by rw [hl];simpa using h4,by simp [h3],by simp,by simp,(List.take_append_drop n st.bx).symm,by rw [hl];exact h2,by rw [hl];exact h⟩
theorem eP {n0 m0:Nat} {st st':St} (q:TkE) (hq:q.new=true) (h1:∃ r,st.bx=st'.bx ++ r) (h3:st.tk ++ [q]=st'.tk) (h2:WeLL st'.bx.length st.tk.length st'.tk st'.bx st'.bx) (h4:Nat.ble n0 st'.bx.length=true) (h5:Nat.ble m0 st.tk.length=true)
  (h:oA st'.bx.length st.tk.length st'.tk st.sl st'.sl):qf n0 m0 st st':=by
 obtain ⟨r,hr⟩:=h1;exact ⟨st.tk,[],[q],st'.bx,r,by simpa using h5,by simpa using h4,by simp,h3.symm,by simpa using hq,hr,h2,h⟩
end
end Dv
end Go.Proofs.YtgjagnmeonoehaaGreat
namespace Go.Proofs.YtgjagnmeonoehaaGreat
namespace Dv
theorem aL {p : Prop} (h : p := by repeat' (first | exact rfl | exact trivial | exact Or.inr (Or.inl ⟨_,rfl⟩) | exact Or.inr ⟨_,rfl⟩ | exact Or.inl ⟨rfl,rfl⟩ | exact Or.inl rfl | refine Or.inr ⟨_,_,rfl,Nat.zero_le _,rfl,?_⟩ | refine ⟨_,_,rfl,?_,?_⟩ | refine ⟨_,rfl,?_⟩ | exact ⟨nL rfl,rfl⟩ | refine Or.inr (Or.inr (Or.inr ⟨_,_,rfl,?_⟩)) | exact Or.inl rfl | refine Or.inr ?_)) : p := h
theorem aI {p : Prop} {a b : Int} (q : a=b) (h : a=b -> p := by intro q;repeat' (first | exact rfl | exact trivial | exact Or.inr (Or.inl ⟨_,rfl⟩) | exact Or.inr ⟨_,rfl⟩ | exact Or.inl ⟨rfl,rfl⟩ | exact Or.inl rfl | refine Or.inr ⟨_,_,rfl,Nat.zero_le _,rfl,?_⟩ | refine ⟨_,_,rfl,?_,?_⟩ | refine ⟨_,rfl,?_⟩ | exact congrArg (fun z=>DV.v (.int .i64 z)) q | refine Or.inr (Or.inr (Or.inr ⟨_,_,rfl,?_⟩)) | exact Or.inl rfl | refine Or.inr ?_)) : p := h q
theorem aB {p : Prop} {a b : Bool} (q : a=b) (h : a=b -> p := by intro q;repeat' (first | exact rfl | exact trivial | exact Or.inr (Or.inl ⟨_,rfl⟩) | exact Or.inr ⟨_,rfl⟩ | exact Or.inl ⟨rfl,rfl⟩ | exact Or.inl rfl | refine Or.inr ⟨_,_,rfl,Nat.zero_le _,rfl,?_⟩ | refine ⟨_,_,rfl,?_,?_⟩ | refine ⟨_,rfl,?_⟩ | exact congrArg (fun b=>DV.v (.bool b)) q | refine Or.inr (Or.inr (Or.inr ⟨_,_,rfl,?_⟩)) | exact Or.inl rfl | refine Or.inr ?_)) : p := h q
theorem wNA {p : Prop} {a b : Nat} (q : a < b) (hn : b <= 4611686018427387904 := by omega) (h : a < b -> b <= 4611686018427387904 -> p := by intro q hn;repeat' (first | exact rfl | exact aA rfl | exact aC (aG q hn) | refine ⟨_,_,rfl,?_,?_⟩)) : p := h q hn
theorem wNB {p : Prop} {a b : Nat} (q : a < b) (hn : b <= 4611686018427387904 := by omega) (h : a < b -> b <= 4611686018427387904 -> p := by intro q hn;repeat' (first | exact trivial | exact aA rfl | exact aC (aG q hn) | refine ⟨⟨_,rfl,?_⟩,?_⟩)) : p := h q hn
theorem wSA {p r : Prop} {a b : Nat} (q : a < b) (s : r) (hn : b <= 4611686018427387904 := by omega) (h : a < b -> b <= 4611686018427387904 -> r -> p := by intro q hn s;repeat' (first | exact rfl | exact aA rfl | exact aC (aG q hn) | exact cH s rfl | refine ⟨_,_,rfl,?_,?_⟩)) : p := h q hn s
theorem wSB {p r : Prop} {a b : Nat} (q : a < b) (s : r) (hn : b <= 4611686018427387904 := by omega) (h : a < b -> b <= 4611686018427387904 -> r -> p := by intro q hn s;repeat' (first | exact trivial | exact aA rfl | exact aC (aG q hn) | exact cH s rfl | refine ⟨⟨_,rfl,?_⟩,?_⟩)) : p := h q hn s
theorem wTB {p : Prop} (h : p := by repeat' (first | exact trivial | exact aA rfl | exact cW (Nat.le_refl _) rfl | refine ⟨⟨_,rfl,?_⟩,?_⟩)) : p := h
theorem wTA {p : Prop} (h : p := by repeat' (first | exact rfl | exact aA rfl | exact cW (Nat.le_refl _) rfl | refine ⟨_,_,rfl,?_,?_⟩)) : p := h
theorem wRB {p : Prop} (h : p := by repeat' (first | exact trivial | exact aA rfl | exact aC rfl | refine ⟨⟨_,rfl,?_⟩,?_⟩)) : p := h
theorem wRA {p : Prop} (h : p := by repeat' (first | exact rfl | exact aA rfl | exact aC rfl | refine ⟨_,_,rfl,?_,?_⟩)) : p := h
theorem qL {p:Prop}   (h:p:=by repeat' (first | exact rfl | exact aA rfl | exact cp rfl | exact cE rfl | exact tE _ | exact cW (Nat.le_refl _) rfl | exact cW (Nat.le_succ _) rfl | refine ⟨_,_,rfl,?_,?_⟩)):p:=h 
theorem jM {p:Prop} {P0:Prop} (x0:P0) (h:P0->p:=by intro x0;repeat' (first | exact rfl | exact aA rfl | exact aC x0 | exact cp x0 | exact cH x0 rfl | exact cL x0 | exact cE x0 | exact aC (congrArg Nat.cast x0) | exact aA x0 | exact gD x0 | exact x0 | exact cp rfl | exact cE rfl | exact tE _ | exact cW (Nat.le_refl _) rfl | exact cW (Nat.le_succ _) rfl | refine ⟨_,_,rfl,?_,?_⟩)):p:=h x0
theorem lY {p:Prop} {P0:Prop} {P1:Prop} (x0:P0) (x1:P1) (h:P0->P1->p:=by intro x0 x1;repeat' (first | exact rfl | exact aA rfl | exact aC x0 | exact cp x0 | exact cH x0 rfl | exact cL x0 | exact cE x0 | exact aC (congrArg Nat.cast x0) | exact aA x0 | exact gD x0 | exact x0 | exact aC x1 | exact cp x1 | exact cH x1 rfl | exact cL x1 | exact cE x1 | exact aC (congrArg Nat.cast x1) | exact aA x1 | exact gD x1 | exact x1 | exact cp rfl | exact cE rfl | exact tE _ | exact cW (Nat.le_refl _) rfl | exact cW (Nat.le_succ _) rfl | refine ⟨_,_,rfl,?_,?_⟩)):p:=h x0 x1
theorem ZX {p:Prop} {P0:Prop} {P1:Prop} {P2:Prop} (x0:P0) (x1:P1) (x2:P2) (h:P0->P1->P2->p:=by intro x0 x1 x2;repeat' (first | exact rfl | exact aA rfl | exact aC x0 | exact cp x0 | exact cH x0 rfl | exact cL x0 | exact cE x0 | exact aC (congrArg Nat.cast x0) | exact aA x0 | exact gD x0 | exact x0 | exact aC x1 | exact cp x1 | exact cH x1 rfl | exact cL x1 | exact cE x1 | exact aC (congrArg Nat.cast x1) | exact aA x1 | exact gD x1 | exact x1 | exact aC x2 | exact cp x2 | exact cH x2 rfl | exact cL x2 | exact cE x2 | exact aC (congrArg Nat.cast x2) | exact aA x2 | exact gD x2 | exact x2 | exact cp rfl | exact cE rfl | exact tE _ | exact cW (Nat.le_refl _) rfl | exact cW (Nat.le_succ _) rfl | refine ⟨_,_,rfl,?_,?_⟩)):p:=h x0 x1 x2
theorem lj {p:Prop}   (h:p:=by repeat' (first | exact trivial | exact aA rfl | exact cW (Nat.le_refl _) rfl | exact cW (Nat.le_succ _) rfl | exact aC rfl | refine ⟨⟨_,rfl,?_⟩,?_⟩)):p:=h 
theorem cJ {p:Prop} {P0:Prop} (x0:P0) (h:P0->p:=by intro x0;repeat' (first | exact trivial | exact aA rfl | exact aC x0 | exact cp x0 | exact cH x0 rfl | exact cL x0 | exact cE x0 | exact aC (congrArg Nat.cast x0) | exact aA x0 | exact gD x0 | exact x0 | exact cW (Nat.le_refl _) rfl | exact cW (Nat.le_succ _) rfl | exact aC rfl | refine ⟨⟨_,rfl,?_⟩,?_⟩)):p:=h x0
theorem wB2 {p:Prop} {P0:Prop} {P1:Prop} (x0:P0) (x1:P1) (h:P0->P1->p:=by intro x0 x1;repeat' (first | exact trivial | exact aA rfl | exact aC x0 | exact cp x0 | exact cH x0 rfl | exact cL x0 | exact cE x0 | exact aC (congrArg Nat.cast x0) | exact aA x0 | exact gD x0 | exact x0 | exact aC x1 | exact cp x1 | exact cH x1 rfl | exact cL x1 | exact cE x1 | exact aC (congrArg Nat.cast x1) | exact aA x1 | exact gD x1 | exact x1 | exact cW (Nat.le_refl _) rfl | exact cW (Nat.le_succ _) rfl | exact aC rfl | refine ⟨⟨_,rfl,?_⟩,?_⟩)):p:=h x0 x1
theorem H2 {p:Prop} {P0:Prop} {P1:Prop} {P2:Prop} (x0:P0) (x1:P1) (x2:P2) (h:P0->P1->P2->p:=by intro x0 x1 x2;repeat' (first | exact trivial | exact aA rfl | exact aC x0 | exact cp x0 | exact cH x0 rfl | exact cL x0 | exact cE x0 | exact aC (congrArg Nat.cast x0) | exact aA x0 | exact gD x0 | exact x0 | exact aC x1 | exact cp x1 | exact cH x1 rfl | exact cL x1 | exact cE x1 | exact aC (congrArg Nat.cast x1) | exact aA x1 | exact gD x1 | exact x1 | exact aC x2 | exact cp x2 | exact cH x2 rfl | exact cL x2 | exact cE x2 | exact aC (congrArg Nat.cast x2) | exact aA x2 | exact gD x2 | exact x2 | exact cW (Nat.le_refl _) rfl | exact cW (Nat.le_succ _) rfl | exact aC rfl | refine ⟨⟨_,rfl,?_⟩,?_⟩)):p:=h x0 x1 x2
theorem wB4 {p:Prop} {P0:Prop} {P1:Prop} {P2:Prop} {P3:Prop} (x0:P0) (x1:P1) (x2:P2) (x3:P3) (h:P0->P1->P2->P3->p:=by intro x0 x1 x2 x3;repeat' (first | exact trivial | exact aA rfl | exact aC x0 | exact cp x0 | exact cH x0 rfl | exact cL x0 | exact cE x0 | exact aC (congrArg Nat.cast x0) | exact aA x0 | exact gD x0 | exact x0 | exact aC x1 | exact cp x1 | exact cH x1 rfl | exact cL x1 | exact cE x1 | exact aC (congrArg Nat.cast x1) | exact aA x1 | exact gD x1 | exact x1 | exact aC x2 | exact cp x2 | exact cH x2 rfl | exact cL x2 | exact cE x2 | exact aC (congrArg Nat.cast x2) | exact aA x2 | exact gD x2 | exact x2 | exact aC x3 | exact cp x3 | exact cH x3 rfl | exact cL x3 | exact cE x3 | exact aC (congrArg Nat.cast x3) | exact aA x3 | exact gD x3 | exact x3 | exact cW (Nat.le_refl _) rfl | exact cW (Nat.le_succ _) rfl | exact aC rfl | refine ⟨⟨_,rfl,?_⟩,?_⟩)):p:=h x0 x1 x2 x3
theorem gQ {p:Prop}   (h:p:=by repeat' (first | exact rfl | exact trivial | exact Or.inr (Or.inl ⟨_,rfl⟩) | exact Or.inr ⟨_,rfl⟩ | exact Or.inl ⟨rfl,rfl⟩ | exact Or.inl rfl | refine Or.inr ⟨_,_,rfl,Nat.zero_le _,rfl,?_⟩ | refine ⟨_,_,rfl,?_,?_⟩ | refine ⟨_,rfl,?_⟩ | exact ⟨nL rfl,rfl⟩ | refine Or.inr (Or.inr (Or.inr ⟨_,_,rfl,?_⟩)) | exact Or.inl rfl | refine Or.inr ?_)):p:=h 
theorem mc {p:Prop} {P0:Prop} (x0:P0) (h:P0->p:=by intro x0;repeat' (first | exact rfl | exact trivial | exact Or.inr (Or.inl ⟨_,rfl⟩) | exact Or.inr ⟨_,rfl⟩ | exact Or.inl ⟨rfl,rfl⟩ | exact Or.inl rfl | refine Or.inr ⟨_,_,rfl,Nat.zero_le _,rfl,?_⟩ | refine ⟨_,_,rfl,?_,?_⟩ | refine ⟨_,rfl,?_⟩ | exact congrArg (fun z=>DV.v (.int .i64 z)) x0 | exact congrArg (fun z=>DV.v (.int .i64 z)) (congrArg Nat.cast x0) | exact congrArg (fun b=>DV.v (.bool b)) x0 | exact x0 | exact Or.inr (Or.inl ⟨_,x0⟩) | apply x0 | exact ⟨nL rfl,rfl⟩ | refine Or.inr (Or.inr (Or.inr ⟨_,_,rfl,?_⟩)) | exact Or.inl rfl | refine Or.inr ?_)):p:=h x0
theorem wC2 {p:Prop} {P0:Prop} {P1:Prop} (x0:P0) (x1:P1) (h:P0->P1->p:=by intro x0 x1;repeat' (first | exact rfl | exact trivial | exact Or.inr (Or.inl ⟨_,rfl⟩) | exact Or.inr ⟨_,rfl⟩ | exact Or.inl ⟨rfl,rfl⟩ | exact Or.inl rfl | refine Or.inr ⟨_,_,rfl,Nat.zero_le _,rfl,?_⟩ | refine ⟨_,_,rfl,?_,?_⟩ | refine ⟨_,rfl,?_⟩ | exact congrArg (fun z=>DV.v (.int .i64 z)) x0 | exact congrArg (fun z=>DV.v (.int .i64 z)) (congrArg Nat.cast x0) | exact congrArg (fun b=>DV.v (.bool b)) x0 | exact x0 | exact Or.inr (Or.inl ⟨_,x0⟩) | apply x0 | exact congrArg (fun z=>DV.v (.int .i64 z)) x1 | exact congrArg (fun z=>DV.v (.int .i64 z)) (congrArg Nat.cast x1) | exact congrArg (fun b=>DV.v (.bool b)) x1 | exact x1 | exact Or.inr (Or.inl ⟨_,x1⟩) | apply x1 | exact ⟨nL rfl,rfl⟩ | refine Or.inr (Or.inr (Or.inr ⟨_,_,rfl,?_⟩)) | exact Or.inl rfl | refine Or.inr ?_)):p:=h x0 x1
theorem iX {α:Type _} {P:α->Prop} {cs:α} {i:Int} {l:List α} (g:l[i.toNat]? = some cs) (k:P cs) (h:0<=i:=by omega):∃ cs,(0<=i/\l[i.toNat]? = some cs)/\P cs:=⟨cs,⟨h,g⟩,k⟩
theorem lI {X:Ctx} {st:St} {k:List It} {c:Code} (I:Nat->St->Prop) {j0:Nat} {jG:St} (h0:I j0 jG) (hw:qf X.n0 X.m0 st jG)
 (hr:∀ j s,I j s->go X 4000 (.code c :: .wV (fun s'=>∃ EH,qf X.n0 X.m0 s' EH/\∃ j',j' < j/\I j' EH) :: k) s):uQ X c k st:=aY I j0 jG hw h0 hr
theorem lJ {X:Ctx} {st:St} {k:List It} {c:Code} (S:Nat->St) (n:Nat) (hw:qf X.n0 X.m0 st (S 0))
 (hr:∀ e,e<=n->go X 4000 (.code c :: .wV (fun s'=>∃ EH,qf X.n0 X.m0 s' EH/\∃ j',j' < n - e/\∃ e:Nat,EH=S e/\e<=n/\j'=n - e) :: k) (S e)):uQ X c k st:=aY (fun j st=>∃ e:Nat,st=S e/\e<=n/\j=n - e) (n - 0) (S 0) hw ⟨0,rfl,Nat.zero_le _,rfl⟩ fun j s h=>by
 obtain ⟨e,rfl,he,rfl⟩:=h;exact hr e he
theorem bP {a b : Bool} (h : a = b) : DV.v (.bool a) = .v (.bool b) := h ▸ rfl
theorem qM {a b : Int} (h : a = b) : DV.v (.int .i64 a) = .v (.int .i64 b) := h ▸ rfl
theorem bz {n0 m0 : Nat} {st st' : St} (h : oA st'.bx.length st'.tk.length st'.tk st.sl st'.sl) (h1 : ∃ r,st.bx = st'.bx ++ r := by exact ⟨_,rfl⟩) (h2 : WeLL st'.bx.length st'.tk.length st'.tk st'.bx st'.bx := by exact wA) (h3 : st.tk = st'.tk := by exact rfl) (h4 : Nat.ble n0 st'.bx.length = true := by exact rfl) (h5 : Nat.ble m0 st'.tk.length = true := by exact rfl) : qf n0 m0 st st' := v8 h1 h2 h3 h4 h5 h
theorem bZ {n0 m0 : Nat} {st st' : St} (n : Nat) (h2 : WeLL n st'.tk.length st'.tk (st.bx.take n) st'.bx) (h : oA n st'.tk.length st'.tk st.sl st'.sl) (hn : Nat.ble n st.bx.length = true := by exact rfl) (h3 : st.tk = st'.tk := by exact rfl) (h4 : Nat.ble n0 n = true := by exact rfl) (h5 : Nat.ble m0 st'.tk.length = true := by exact rfl) : qf n0 m0 st st' := XN n hn h2 h3 h4 h5 h
abbrev au (k : Nat) (n : Int) : Nat × Sl := (k,⟨[],.v (.int .i64 n)⟩)
abbrev qN (k : Nat) (b : Bool) : Nat × Sl := (k,⟨[],.v (.bool b)⟩)
abbrev aE (k i : Nat) : Nat × Sl := (k,⟨[],.loc i 0⟩)
abbrev eX (k : Nat) (c : List DV) : Nat × Sl := (k,⟨[],.pt c 0⟩)
abbrev aM (k e : Nat) (l : List (List DV)) : Nat × Sl := (k,⟨[],.sl e l none⟩)
end Dv
end Go.Proofs.YtgjagnmeonoehaaGreat
namespace Go.Proofs.YtgjagnmeonoehaaGreat
namespace Dv
open Go
section
variable {P:Program} {ops:Array Oper} {C:World->Prop} {Q:Act->World->Prop} {W:Nat->Bool} {π:Nat->Nat}
theorem aaN {o:Oper} {a:Act} {w:World} {K:Act->World->Prop} (h:wq P o a w K):∃ v w',K (a.put o.dst v) w':=by
 unfold wq at h;split at h
 ·exact ⟨_,_,h⟩
 ·exact ⟨_,_,h⟩
 ·obtain ⟨e,w',fr,⟨v,_,hv⟩,_⟩:=h [];exact ⟨v,w',hv⟩
 ·exact h.elim
theorem XO {x y:Oper} {v:Value} (ZY:x.apart ops y=true) (hs:∀ cs b,y.op ≠ .select cs b) {a:Act} {w:World} {K:Act->World->Prop} :
  wq P y (a.put x.dst v) w K↔wq P y a w (fun a' w'=>K (a'.put x.dst v) w'):=by
 obtain ⟨h1,h2,h3⟩:=Oper.apart_spec ZY;unfold wq;rw [execOp_put y hs a x.dst v h1];have hc:∀ u,(a.put x.dst v).put y.dst u=(a.put y.dst u).put x.dst v:=fun u=>Act.put_comm a v u h2
 cases (execOp a.eval y).run P w with
 | halt h w'=>rfl
 | ok n w'=>cases n<;>simp [hc]
def Yl (P:Program) (ops:Array Oper) (C:World->Prop) (o:Oper) (v:Value) (a:Act):Prop:=
 (Region.wanted o (yielded ops a.tmps)=true/\∀ w,(isL o.op=true->C w)->(execOp a.eval o).run P w = .ok (.value v) w) ∨
 (Region.wanted o (yielded ops a.tmps)=false/\v=undef)
theorem Yl.same {x y:Oper} {v u:Value} (ZY:x.apart ops y=true) (hs:∀ cs b,y.op ≠ .select cs b) {a:Act}:Yl P ops C y v (a.put x.dst u)↔Yl P ops C y v a:=by
 obtain ⟨h1,h2,h3⟩:=Oper.apart_spec ZY;unfold Yl;rw [execOp_put y hs a x.dst u h1,wanted_put y a x.dst u h1]
def ez (P:Program) (ops:Array Oper) (o:Oper) (a:Act) (w:World) (K:Act->World->Prop):Prop:=
 if Region.wanted o (yielded ops a.tmps)=true then wq P o a w K else K (a.put o.dst undef) w
theorem fj {o:Oper} {a:Act} {w:World} {K K':Act->World->Prop} (hk:∀ a w,K a w->K' a w) (h:ez P ops o a w K):ez P ops o a w K':=by grind [ez,mY]
theorem tF {x y:Oper} {v:Value} (ZY:x.apart ops y=true) (hs:∀ cs b,y.op ≠ .select cs b) {a:Act} {w:World} {K:Act->World->Prop} :
  ez P ops y (a.put x.dst v) w K↔ez P ops y a w (fun a' w'=>K (a'.put x.dst v) w'):=by
 obtain ⟨h1,h2,h3⟩:=Oper.apart_spec ZY;unfold ez;rw [wanted_put y a x.dst v h1];split
 ·exact XO ZY hs
 ·rw [Act.put_comm a v undef h2]
theorem O1 {o:Oper} {a:Act} {w:World} {K:Act->World->Prop} (h:ez P ops o a w K):∃ v w',K (a.put o.dst v) w':=by grind [ez,aaN]
theorem qO {o:Oper} {a:Act} {w:World} {K:Act->World->Prop} (h:ez P ops o a w K):ez P ops o a w (fun a' w'=>K a' w' /\ ∃ u,a'=a.put o.dst u):=by grind [ez,wq]
theorem ly {o:Oper} {a:Act} {w:World} {v:Value} {K:Act->World->Prop} (hy:Yl P ops C o v a) (hc:isL o.op=true->C w) (hk:K (a.put o.dst v) w):ez P ops o a w K:=by
 unfold ez;rcases hy with ⟨hw,hv⟩ | ⟨hw,rfl⟩
 ·grind [wq]
 ·rw [aj (by simp [hw])];exact hk
theorem oC {o:Oper} {a:Act} {w:World} {v:Value} {K:Act->World->Prop} (hy:Yl P ops C o v a) (hc:isL o.op=true->C w) (h:ez P ops o a w K):K (a.put o.dst v) w:=by
 unfold ez at h;rcases hy with ⟨hw,hv⟩ | ⟨hw,rfl⟩
 ·grind [wq]
 ·rw [aj (by simp [hw])] at h;exact h
def runT (P:Program) (ops:Array Oper) (W:Nat->Bool) (C:World->Prop) (Q:Act->World->Prop):List Nat->Act->World->Prop
 | [],a,w=>Q a w
 | i :: r,a,w=>
  match ops[i]? with
  | none=>False
  | some o=>
   if isE o.op=true then ez P ops o a w fun a' w'=>(W i=false->C w->C w')/\runT P ops W C Q r a' w'
   else ∃ v,Yl P ops C o v a/\(isL o.op=true->C w)/\runT P ops W C Q r (a.put o.dst v) w
def nU (ops:Array Oper) (W:Nat->Bool) (j i:Nat):Bool:=
 match ops[j]?,ops[i]? with
 | some x,some y=>x.apart ops y && y.apart ops x && !(isE x.op && isE y.op) && !(isL x.op && W i)
 | _,_=>false
def O2 (ops:Array Oper) (l:List Nat):Prop:=∃ i o,i∈l/\ops[i]? = some o/\isL o.op=true
theorem gW {j i:Nat} {x y:Oper} (h:nU ops W j i=true) (hj:ops[j]? = some x) (hi:ops[i]? = some y) :
  x.apart ops y=true/\y.apart ops x=true/\¬ (isE x.op=true/\isE y.op=true)/\¬ (isL x.op=true/\W i=true):=by
 unfold nU at h;rw [hj,hi] at h;simp only [bc,Bool.not_eq_true',Bool.and_eq_false_iff] at h;refine ⟨h.1.1.1,h.1.1.2,?_,?_⟩
 ·grind
 ·grind
theorem qP (kg:∀ (j:Nat) (o:Oper) cs b,ops[j]? = some o->o.op ≠ .select cs b) {i:Nat} {o:Oper} (hi:ops[i]? = some o) (hR:isE o.op=false) :
  ∀ (rem:List Nat) (a:Act) (w:World),runT P ops W C Q rem a w->i∈rem->(∀ j∈rem,j≠i->π j < π i->nU ops W j i=true)->rem.Pairwise (fun a b=>π a < π b)->∃ v,Yl P ops C o v a
 | [],_,_,_,hm,_,_=>by cases hm
 | h :: rem,a,w,hr,hm,Mm,hp=>by
  simp only [runT] at hr;by_cases HB:h=i
  ·grind
  ·have qm:i∈rem:=by grind
   have aq:π h < π i:=(List.pairwise_cons.1 hp).1 i qm;split at hr
   ·exact hr.elim
   ·rename_i x hx;obtain ⟨VB,ap2,_,_⟩:=gW (Mm h (by simp) HB aq) hx hi;have ih:=fun a w hr=>qP kg hi hR rem a w hr qm (fun j hj=>Mm j (gJ _ hj)) (List.pairwise_cons.1 hp).2
    grind [O1,Yl.same]
theorem AA {h:Nat} {rem:List Nat} (hl:O2 ops rem):O2 ops (h :: rem):=by
 obtain ⟨i,o,hm,ho,hL⟩:=hl;exact ⟨i,o,gJ _ hm,ho,hL⟩
theorem kN (kg:∀ (j:Nat) (o:Oper) cs b,ops[j]? = some o->o.op ≠ .select cs b) (SP:∀ j i x y,π j < π i->ops[i]? = some x->ops[j]? = some y->isL x.op=true->W j=false) {i:Nat} {o:Oper} (hi:ops[i]? = some o) :
  ∀ (rem:List Nat) (a:Act) (w:World),(O2 ops rem->C w)->runT P ops W C Q rem a w->i∈rem->(∀ j∈rem,j≠i->π j < π i->nU ops W j i=true)->rem.Pairwise (fun a b=>π a < π b) ->
   ez P ops o a w (fun a' w'=>(W i=false->C w->C w')/\runT P ops W C Q (rem.erase i) a' w')
 | [],_,_,_,_,hm,_,_=>by cases hm
 | h :: rem,a,w,hC,hr,hm,Mm,hp=>by
  by_cases HB:h=i
  ·grind [runT,ly]
  ·have qm:i∈rem:=by grind
   have aq:π h < π i:=(List.pairwise_cons.1 hp).1 i qm;have xA:=(List.pairwise_cons.1 hp).2;rw [List.erase_cons_tail (sU HB)];have hr0:=hr;simp only [runT] at hr;split at hr
   ·exact hr.elim
   ·rename_i x hx;obtain ⟨VB,ap2,hEE,hLW⟩:=gW (Mm h (by simp) HB aq) hx hi;have s8:=fun cs b=>kg h x cs b hx;have O3:=fun cs b=>kg i o cs b hi;have aaP:∀ j∈rem,j≠i->π j < π i->nU ops W j i=true:=fun j hj=>Mm j (gJ _ hj);split at hr
    ·-- the head has an effect: so o has none
     rename_i hEx;have hRo:isE o.op=false:=by grind
     obtain ⟨v,hy⟩:=qP (π:=π) kg hi hRo (h :: rem) a w hr0 hm Mm hp;have hci:isL o.op=true->C w:=fun hL=>hC ⟨i,o,hm,hi,hL⟩;refine ly hy hci ⟨fun _ h=>h,?_⟩;simp only [runT,hx,hEx,if_true];refine (tF ap2 s8).2 ?_;refine fj ?_ (qO hr);rintro a' w' ⟨⟨Mn,lZ⟩,u,rfl⟩;refine ⟨Mn,?_⟩
     have hC':O2 ops rem->C w':=by
      intro hl;have zW:=hl;obtain ⟨l,z,hlm,hz,hL⟩:=hl;exact Mn (SP h l z x ((List.pairwise_cons.1 hp).1 l hlm) hz hx hL) (hC (AA zW))
     have ih:=kN kg SP hi rem _ w' hC' lZ qm aaP xA;have gp:=(Yl.same (u:=u) VB O3).2 hy
     grind [oC]
    ·rename_i hEx;obtain ⟨v,hy,hc,lZ⟩:=hr;have ih:=kN kg SP hi rem (a.put x.dst v) w (fun hl=>hC (AA hl)) lZ qm aaP xA;refine fj ?_ (qO ((tF VB O3).1 ih))
     grind [runT,Yl.same]
def ordB (ops:Array Oper):Nat->Nat->Nat->Bool
 | 0,_,_=>false
 | n + 1,j,i=>
  match ops[i]? with
  | some o=>o.after.toList.any fun e=>Region.binds .any e && (Nat.beq e.on j || ordB ops n j e.on)
  | none=>false
def vA (ops:Array Oper) (W:Nat->Bool) (π:Nat->Nat):Bool:=
 Region.noSelect ops &&
 (List.range ops.size).all fun i=>
  match ops[i]? with
   | some o=>o.after.toList.all (fun e=>!Region.binds .any e || (Nat.blt (π e.on) (π i) && Nat.blt e.on ops.size)) && (!isL o.op || (List.range ops.size).all fun j=>!Nat.blt (π j) (π i) || !W j)
   | none=>false
def EJ (ops:Array Oper) (W:Nat->Bool) (π:Nat->Nat) (ex:Nat->Nat->Bool):Bool:=
 (List.range ops.size).all fun i=>(List.range ops.size).all fun j=>!Nat.blt (π j) (π i) || ex j i || ordB ops ops.size j i || nU ops W j i
def aaQ:Nat->Nat->Bool:=fun _ _=>false
def EK (ops:Array Oper) (W:Nat->Bool):Bool:=vA ops W (fun i=>i) && EJ ops W (fun i=>i) aaQ
def Dn (ops:Array Oper) (bm:Array Bool):Prop:=
 ∀ i o,ops[i]? = some o->bm.getD i true=true->∀ e∈o.after,Region.binds .any e=true->bm.getD e.on false=true
theorem oD {bm:Array Bool} (hd:Dn ops bm):∀ (n:Nat) (j i:Nat) (o:Oper),ops[i]? = some o->(∀ e∈o.after,Region.binds .any e=true->bm.getD e.on false=true)->ordB ops n j i=true->bm.getD j false=true
 | 0,j,i,o,_,_,h=>by simp [ordB] at h
 | n + 1,j,i,o,ho,fG,h=>by
  simp only [ordB,ho,List.any_eq_true,bc,Bool.or_eq_true] at h;obtain ⟨e,he,hb,hj⟩:=h;have wa:e∈o.after:=sU he;have h1:=fG e wa hb;rcases hj with hj | hj
  ·have:e.on=j:=sU hj;rw [<- this];exact h1
  ·cases XP:ops[e.on]? with
   | none=>
    cases n with
    | zero=>simp [ordB] at hj
    | succ n=>simp [ordB,XP] at hj
   | some o'=>
    have hg:bm.getD e.on true=true:=by grind
    exact oD hd n j e.on o' XP (hd e.on o' XP hg) hj
theorem Cs (hc:vA ops W π=true):∀ j i x y,π j < π i->ops[i]? = some x->ops[j]? = some y->isL x.op=true->W j=false:=by
 simp only [vA,bc,List.all_eq_true,List.mem_range] at hc;intro j i x y Te hx hy hL;have hj:=(Array.getElem?_eq_some_iff.1 hy).1;have:=hc.2 i (Array.getElem?_eq_some_iff.1 hx).1;simp only [hx,bc,Bool.or_eq_true,hL,Bool.not_true,Bool.false_eq_true,false_or,List.all_eq_true,List.mem_range,Bool.not_eq_true'] at this;rcases this.2 j hj with h1 | h1
 ·have:¬ Nat.blt (π j) (π i)=true:=by simp [h1]
  simp at this;omega
 ·exact h1
theorem AB (hc:vA ops W π=true):∀ i x,ops[i]? = some x->∀ e∈x.after,Region.binds .any e=true->π e.on < π i/\e.on < ops.size:=by
 simp only [vA,bc,List.all_eq_true,List.mem_range] at hc;intro i x hx e he hb;have:=hc.2 i (Array.getElem?_eq_some_iff.1 hx).1;simp only [hx,bc,List.all_eq_true,Bool.or_eq_true] at this;have h2:=this.1 e (sU he);rw [hb] at h2;simpa using h2
theorem EL (hc:vA ops W π=true):∀ (j:Nat) (o:Oper) cs b,ops[j]? = some o->o.op ≠ .select cs b:=by
 simp only [vA,bc] at hc;exact Region.noSelect_spec hc.1
theorem Ct:∀ {l:List Nat},l.Pairwise (fun a b=>π a < π b)->∀ {x y:Nat},x∈l->y∈l->x≠y->π x < π y∨π y < π x
 | [],_,x,y,hx,_,_=>by cases hx
 | h :: r,hp,x,y,hx,hy,bA=>by
  have xA:=List.pairwise_cons.1 hp;rcases dN hx with e1 | e1
  ·grind
  ·rcases dN hy with e2 | e2
   ·subst e2;exact .inr (xA.1 _ e1)
   ·exact Ct xA.2 e1 e2 bA
theorem qQ {Q':Exit->Act->World->Prop} (ex:Nat->Nat->Bool) (hcO:vA ops W π=true) (hcS:EJ ops W π ex=true) (hQ:∀ a w,Q a w->Q' .normal a w):∀ (mf:Nat) (bm:Array Bool) (rem:List Nat) (a:Act) (w:World),
  bm.size=ops.size->Dn ops bm->(∀ i,i∈rem↔i < ops.size/\bm.getD i true=false)->rem.Pairwise (fun a b=>π a < π b)->rem.length<=mf->(∀ j∈rem,∀ i∈rem,ex j i=false)->(O2 ops rem->C w)->runT P ops W C Q rem a w ->
   wpAny P .any ops Q' mf bm a w:=by
 have kg:=EL hcO;have SP:=Cs hcO;have O4:=AB hcO;simp only [EJ,List.all_eq_true,List.mem_range,Bool.or_eq_true,Bool.not_eq_true'] at hcS;intro mf
 induction mf with
 | zero=>
  intro bm rem a w bW hdn vB hp hlen hex hC hr;have:rem=[]:=List.length_eq_zero_iff.1 (by omega);subst this;refine ⟨?_,hQ _ _ hr⟩;rw [List.eq_nil_iff_forall_not_mem];intro i hi;have:=(mem_ready.1 hi)
  grind
 | succ mf ih=>
  intro bm rem a w bW hdn vB hp hlen hex hC hr
  have XQ:∀ i,i∈Region.ready .any ops bm->i∈rem:=by
   intro i hi;obtain ⟨h1,o,ho,_⟩:=mem_ready.1 hi
   grind
  refine ⟨fun h0=>?_,fun i hi=>?_⟩
  ·cases rem with
   | nil=>exact hQ _ _ hr
   | cons h rem=>
    have hh:=(vB h).1 (by simp);have hx:ops[h]? = some ops[h]:=Array.getElem?_eq_getElem hh.1
    have:h∈Region.ready .any ops bm:=by
     refine mem_ready.2 ⟨hh.2,_,hx,fun e he hb=>?_⟩;obtain ⟨aq,n8⟩:=O4 h _ hx e he hb;cases hg:bm.getD e.on false
     ·have SQ:bm.getD e.on true=false:=by grind
      have hm:=(vB e.on).2 ⟨by omega,SQ⟩;rcases dN hm with e1 | e1
      ·rw [e1] at aq;omega
      ·have:=(List.pairwise_cons.1 hp).1 _ e1;omega
     ·rfl
    rw [h0] at this;cases this
  ·have vC:=XQ i hi;obtain ⟨O5,o,ho,fG⟩:=mem_ready.1 hi;have iw:=(Array.getElem?_eq_some_iff.1 ho).1
   have Mm:∀ j∈rem,j≠i->π j < π i->nU ops W j i=true:=by
    intro j hj _ aq;rcases hcS i iw j ((vB j).1 hj).1 with ((h1 | h1) | h1) | h1
    ·have:¬ Nat.blt (π j) (π i)=true:=by simp [h1]
     simp at this;omega
    ·rw [hex j hj i vC] at h1;cases h1
    ·grind [oD]
    ·exact h1
   have aW:=kN kg SP ho rem a w hC hr vC Mm hp;have hnd:rem.Nodup:=ry hp
   have key:∀ a' w',((W i=false->C w->C w')/\runT P ops W C Q (rem.erase i) a' w')->wpAny P .any ops Q' mf (bm.setIfInBounds i true) a' w':=by
    rintro a' w' ⟨Mn,lZ⟩;refine ih (bm.setIfInBounds i true) (rem.erase i) a' w' (by simp [bW]) ?_ ?_ (hp.sublist List.erase_sublist) (by rw [List.length_erase_of_mem vC];omega) (fun j hj i hi=>hex j (List.mem_of_mem_erase hj) i (List.mem_of_mem_erase hi)) ?_ lZ
    ·intro k x hx hk e he hb;by_cases uT:k=i
     ·subst uT;rw [ho] at hx;simp only [oI] at hx;subst hx;exact getD_set_true (fG e he hb)
     ·rw [getD_set_ne true (Ne.symm uT)] at hk;exact getD_set_true (hdn k x hx hk e he hb)
    ·intro k;rw [List.Nodup.mem_erase_iff hnd];by_cases uT:k=i
     ·subst uT;simp [bW,iw]
     ·rw [getD_set_ne true (Ne.symm uT)]
      grind
    ·rintro ⟨l,z,hl,hz,hL⟩;have zW:=List.mem_of_mem_erase hl;have bA:l≠i:=fun e=>by subst e;exact (List.Nodup.mem_erase_iff hnd).1 hl |>.1 rfl
     have XR:=hC ⟨l,z,zW,hz,hL⟩;refine Mn ?_ XR;rcases Nat.lt_or_ge (π i) (π l) with h1 | h1
     ·exact SP i l z o h1 hz ho hL
     ·have h0:π l≠π i:=by
       intro he;rcases Ct hp zW vC bA with h2 | h2<;>omega
      have:=Mm l zW bA (by omega);obtain ⟨_,_,_,h4⟩:=gW this hz ho
      grind
   unfold wpOp
   grind [ez,Ez,mY]
theorem jH {id:Nat} {Q':Exit->Act->World->Prop} {a:Act} {w:World} (hm:P.follows .mixedOrders=true) (hc:EK ops W=true) (hQ:∀ a w,Q a w->Q' .normal a w)
  (hC:C w.drew) (h:runT P ops W C Q (List.range ops.size) a w.drew):(Code.region id ops true).wp P Q' a w:=by
 refine wp_region_any hm ?_;simp only [EK,bc] at hc;refine qQ (π:=fun i=>i) aaQ hc.1 hc.2 hQ ops.size (Array.replicate ops.size false) (List.range ops.size) a _ (by simp) ?_ ?_ List.pairwise_lt_range (by simp) (fun _ _ _ _=>rfl) (fun _=>hC) h
 ·intro i o ho hl;have:i < ops.size:=(Array.getElem?_eq_some_iff.1 ho).1;simp [this] at hl
 ·simp_all
end
end Dv
end Go.Proofs.YtgjagnmeonoehaaGreat
namespace Go.Proofs.YtgjagnmeonoehaaGreat
namespace Dv
open Go Go.RowKit
structure Dr where
 ops:Array Oper
 W:Nat->Bool
 k:List It
 jG:St
 fin:Option (Bool->List (Nat × Sl)->St->Prop)
structure Dw where
 d:Dr
 E0:En
 wr:World
structure CC (E0:En) (bx:List (List DV)) (wr w:World):Prop where
 o:∀ (i:Nat) b cs,E0.β[i]? = some b->bx[i]? = some cs->cs ≠ []->w.heap[b]? = wr.heap[b]?
 c:∀ x v,E0.c x=some v->w.cell? x=some v
abbrev Dw.C (D:Dw) (w:World):Prop:=CC D.E0 D.d.jG.bx D.wr w
structure vD (E:En) (bx:List (List DV)) (w:World):Prop where
 len:E.β.length=bx.length
 eM:∀ (i:Nat) cs,bx[i]? = some cs->cs ≠ []->∃ b ty arr,E.β[i]? = some b/\w.heap[b]? = some (.cells (List.toArray arr) ty (0,0))/\RvC E cs arr
theorem Env.em {E:En} {bx:List (List DV)} {w:World} (h:Env E bx w):vD E bx w:=⟨h.len,fun i cs hi _=>h.eM i cs hi⟩
def aaR:Option (List DV)->Bool
 | some []=>true
 | _=>false
theorem Tl {o:Option (List DV)} (h:aaR o=true):o=some []:=by
 cases o with
 | none=>cases h
 | some l=>
  cases l with
  | nil=>rfl
  | cons _ _=>cases h
def Dw.wc (D:Dw) (E:En):En:=⟨D.E0.c,E.β,E.tk,E.τ⟩
structure gv (X:Ctx) (D:Dw) (c:Bool) (E:En) (s0:List (Nat × Sl)) (st:St) (a:Act) (w:World):Prop where
 rel:Rel X E st a w
 x:Ext D.E0 E
 β:∃ r,E.β=D.E0.β ++ r
 t0:∀ i x,get s0 i=some x->(Holds a.tmps x.gs->∃ v,a.tmps[i]? = some v/\Rv (D.wc E) x.s v)/\(¬ Holds a.tmps x.gs->a.tmps[i]? = some undef)
 cc:c=true->D.C w
def Dw.Q (D:Dw) (X:Ctx) (a:Act) (w:World):Prop:=
 match D.d.fin with
 | none=>kq X D.d.k .normal a w
 | some F=>∃ c E s0 st,gv X D c E s0 st a w/\F c s0 st
def delF {γ:Type _} (d:Nat):List (Nat × Sl)->(List (Nat × Sl)->γ)->γ
 | [],K=>K []
 | p :: r,K=>
  match Nat.beq p.1 d with
  | true=>delF d r K
  | false=>delF d r (fun r'=>K (p :: r'))
theorem rM {γ:Type _} (d:Nat):∀ (l:List (Nat × Sl)) (K:List (Nat × Sl)->γ),delF d l K=K (l.filter fun p=>!Nat.beq p.1 d)
 | [],K=>rfl
 | p :: r,K=>by
  simp only [delF,List.filter_cons];cases h:Nat.beq p.1 d
  ·simp only [Bool.not_false,if_true];rw [rM d r]
  ·simp only [Bool.not_true,Bool.false_eq_true,if_false];rw [rM d r K]
theorem get_filter (d:Nat):∀ (l:List (Nat × Sl)) (i:Nat) (x:Sl),get (l.filter fun p=>!Nat.beq p.1 d) i=some x->i≠d/\get l i=some x
 | [],i,x,h=>by cases h
 | (k,y) :: r,i,x,h=>by
  simp only [List.filter_cons] at h;split at h
  ·rename_i hk
   have hk:k≠d:=by
    rintro rfl;simp at hk
   simp only [dO] at h ⊢;split at h
   ·grind
   ·rename_i uT;rw [aj uT];exact get_filter d r i x h
  ·rename_i hk;have hk:k=d:=sU hk;obtain ⟨h1,h2⟩:=get_filter d r i x h
   grind [dO]
def scal:DV->Bool
 | .v _=>true
 | .ud=>true
 | .loc _ _=>true
 | .el _ _=>true
 | _=>false
def put2 (s0:List (Nat × Sl)) (st:St) (dst:Option Nat) (b:Bool) (gs:List (Nat × Bool)) (s:DV) (K:List (Nat × Sl)->St->Prop):Prop:=
 match dst with
 | none=>K s0 st
 | some d=>
  match st with
  | ⟨sl,bx,tk⟩=>
   match b || scal s with
   | true=>K ((d,⟨gs,s⟩) :: s0) ⟨(d,⟨gs,s⟩) :: sl,bx,tk⟩
   | false=>delF d s0 fun jV=>K jV ⟨(d,⟨gs,s⟩) :: sl,bx,tk⟩
def optP:Option Prop->Prop
 | some p=>p
 | none=>False
def pR (X:Ctx) (D:Dr) (c:Bool) (s0:List (Nat × Sl)) (st:St) (G:List (Nat × Bool)) (op:Op):Option (Bool × DV):=
 match !isE op && (!isL op || c) with
 | false=>none
 | true=>
  match pureT X.P X.T ⟨s0,D.jG.bx,[]⟩ G op with
  | some s=>some (true,s)
  | none=>
   match isL op with
   | true=>none
   | false=>
    match pureT X.P X.T ⟨st.sl,[],[]⟩ G op with
    | some s=>some (false,s)
    | none=>none
def eR (X:Ctx) (D:Dr) (c:Bool) (s0:List (Nat × Sl)) (st:St) (op:Op) (K:Bool->DV->Prop):Option Prop:=
 match isE op with
 | true=>none
 | false=>
  match isL op with
  | true=>
   match c with
   | true=>effR X ⟨s0,D.jG.bx,[]⟩ op (K true)
   | false=>none
  | false=>
   match effR X ⟨s0,[],[]⟩ op (K true) with
   | some p=>some p
   | none=>effR X ⟨st.sl,[],[]⟩ op (K false)
def uV (X:Ctx) (D:Dr) (c:Bool) (i:Nat) (l:List (Nat × Oper)) (f:FuncId) (args:List DV) (dst:Option Nat) (s0:List (Nat × Sl)) (st:St):Prop:=
 Go.Proofs.Enters X.P f/\((∀ p∈l,D.ops[p.1]? = some p.2)->∀ (E0:En) (wr:World),vD E0 D.jG.bx wr->∀ E a w vs,gv X ⟨D,E0,wr⟩ c E s0 st a w->RvL E args vs->Calls X.P f vs.toArray w fun e w'=>∃ v,e = .returned v /\
  (D.W i=false->CC E0 D.jG.bx wr w->CC E0 D.jG.bx wr w')/\runT X.P D.ops D.W (CC E0 D.jG.bx wr) (Dw.Q ⟨D,E0,wr⟩ X) (l.map (·.1)) (a.put dst v) w')
def OpD (X:Ctx) (D:Dr) (c:Bool) (i:Nat) (l:List (Nat × Oper)) (o:Oper) (s0:List (Nat × Sl)) (st:St):Prop:=
 (∀ p∈l,D.ops[p.1]? = some p.2)->∀ (E0:En) (wr:World),vD E0 D.jG.bx wr->∀ E a w,gv X ⟨D,E0,wr⟩ c E s0 st a w->wq X.P o a w fun a' w'=>
  (D.W i=false->CC E0 D.jG.bx wr w->CC E0 D.jG.bx wr w')/\runT X.P D.ops D.W (CC E0 D.jG.bx wr) (Dw.Q ⟨D,E0,wr⟩ X) (l.map (·.1)) a' w'
def effE (X:Ctx) (D:Dr) (c:Bool) (i:Nat) (l:List (Nat × Oper)) (o:Oper) (s0:List (Nat × Sl)) (st:St) (K:Bool->List (Nat × Sl)->St->Prop):Prop:=
 match o.op with
 | .store t x y=>
  match o.dst with
  | some _=>False
  | none=>
   match D.W i with
   | true=>optP (effC X st o (K false s0))
   | false=>
    match stObj st o.op with
    | some j=>
     match Nat.ble D.jG.bx.length j || aaR D.jG.bx[j]? with
     | true=>optP (effC X st o (K c s0))
     | false=>False
    | none=>False
 | .call cl=>
  match cl.callee with
  | .value f=>
   match rv st [] f,argsV st [] cl.args.toList with
   | some (.fn g first captured),some vs=>uV X D c i l g (first ++ vs ++ captured) o.dst s0 st
   | _,_=>False
  | _=>
   match o.dst with
   | some d=>optP (effC X st o fun st'=>delF d s0 fun jV=>K c jV st')
   | none=>False
 | _=>
  match o.dst with
  | some d=>
   match effC X st o fun st'=>
    match get st'.sl d with
    | some ⟨[],.loc j off⟩=>K c ((d,⟨[],.loc j off⟩) :: s0) st'
    | _=>delF d s0 fun jV=>K c jV st' with
   | some p=>p
   | none=>OpD X D c i l o s0 st
  | none=>False
def goD (X:Ctx) (D:Dr):Nat->Bool->List (Nat × Oper)->List (Nat × Sl)->St->Prop
 | _,c,[],s0,st=>
  match D.fin with
  | none=>go X 4000 D.k st
  | some F=>F c s0 st
 | 0,_,_ :: _,_,_=>False
 | n + 1,c,(i,o) :: r,s0,st=>
  match eJ X.nt st.sl o.dst && eJ X.nt s0 o.dst with
  | false=>False
  | true=>
   match o.guard with
   | none=>
    match isE o.op with
    | true=>effE X D c i r o s0 st fun c' jV st'=>goD X D n c' r jV st'
    | false=>
     match pR X D c s0 st [] o.op with
     | some (b,s)=>put2 s0 st o.dst b [] s (goD X D n c r)
     | none=>optP (eR X D c s0 st o.op fun b s=>put2 s0 st o.dst b [] s (goD X D n c r))
   | some (j,want)=>
    match gslot D.ops.toList j with
    | none=>False
    | some d=>
     match get st.sl d with
     | none=>False
     | some ⟨iN,_⟩=>
      match pR X D c s0 st ((d,want) :: iN) o.op with
      | some (b,s)=>
       match okG ((d,want) :: iN) o.dst with
       | true=>put2 s0 st o.dst b ((d,want) :: iN) s (goD X D n c r)
       | false=>False
      | none=>
       match get st.sl (lastG (d,want) iN).1 with
       | some ⟨[],.v (.bool b)⟩=>
        match iN with
        | []=>Br (b == want)
          (wX st d want fun EM=>resL d want s0 fun s2=>
           match isE o.op with
           | true=>effE X D c i r o s2 EM fun c' jV st'=>goD X D n c' r jV st'
           | false=>optP (eR X D c s2 EM o.op fun b s=>put2 s2 EM o.dst b [] s (goD X D n c r)))
          (match !isL o.op || c with
           | true=>wX st d (!want) fun EM=>resL d (!want) s0 fun s2=>put2 s2 EM o.dst true [] .ud (goD X D n c r)
           | false=>False)
        | _ :: _=>Br (b == (lastG (d,want) iN).2)
          (wX st (lastG (d,want) iN).1 (lastG (d,want) iN).2 fun EM=>resL (lastG (d,want) iN).1 (lastG (d,want) iN).2 s0 fun s2=>goD X D n c ((i,o) :: r) s2 EM)
          (wX st (lastG (d,want) iN).1 (!(lastG (d,want) iN).2) fun EM=>resL (lastG (d,want) iN).1 (!(lastG (d,want) iN).2) s0 fun s2=>goD X D n c ((i,o) :: r) s2 EM)
       | some ⟨[],.ud⟩=>
        match iN with
        | []=>
         match !isL o.op || c with
         | true=>put2 s0 st o.dst true [] .ud (goD X D n c r)
         | false=>False
        | _ :: _=>False
       | _=>False
section
variable {X:Ctx} {D:Dw} {c:Bool} {i:Nat} {s0:List (Nat × Sl)} {st:St} {E:En} {a:Act} {w:World}
theorem XS (h:Ext D.E0 E):Ext D.E0 (D.wc E):=⟨fun _ _ h=>h,h.β,h.tk⟩
theorem H3 (h:Ext D.E0 E):Ext (D.wc E) E:=⟨h.c,fun _ _ h=>h,fun k q hq=>⟨q,hq,.inl ⟨rfl,rfl⟩⟩⟩
theorem Kx {E':En} (h:Ext E E'):Ext (D.wc E) (D.wc E'):=⟨fun _ _ h=>h,h.β,h.tk⟩
theorem gv.rl0 (h:gv X D c E s0 st a w) (hD:vD D.E0 D.d.jG.bx D.wr):Rl (D.wc E) D.d.jG.bx D.C s0 a where
 tm:=h.t0
 eM:=fun i cs hi=>by
  by_cases bA:cs=[]
  ·subst bA;have aq:i < D.E0.β.length:=by rw [hD.len];exact (gS hi).1
   exact ⟨_,[],h.x.β i _ (gE aq),⟨cV _,by simp⟩,fun w' _ j u hj=>by simp at hj⟩
  ·obtain ⟨b,ty,arr,hb,hw,hc⟩:=hD.eM i cs hi bA;exact ⟨b,arr,h.x.β i b hb,hc.mono (XS h.x),fun w' hC j u hj=>by rw [cC ((hC.o i b cs hb hi bA).trans hw)];simpa using hj⟩
 cc:=fun x v hx w' hC=>hC.c x v hx
theorem gv.rlE (h:gv X D c E s0 st a w):Rl E [] (fun w'=>∀ x v,E.c x=some v->w'.cell? x=some v) st.sl a where
 tm:=h.rel.tm
 eM:=fun i cs hi=>by simp at hi
 cc:=fun x v hx w' hC=>hC x v hx
theorem Ky {s:DV} {v:Value} (hs:scal s=true) (hv:Rv E s v):Rv (D.wc E) s v:=by
 cases s<;>simp [scal] at hs
 ·unfold Rv at hv ⊢;exact hv
 ·unfold Rv at hv ⊢;exact hv
 ·unfold Rv at hv ⊢;exact hv
 ·unfold Rv at hv ⊢;exact hv
theorem jN (h:gv X D c E s0 st a w) {dst:Option Nat} (hd:(eJ X.nt st.sl dst && eJ X.nt s0 dst)=true) (b:Bool) (gs:List (Nat × Bool)) (s:DV) (v:Value) (Hw:∀ d,dst=some d->∀ p∈gs,p.1≠d)
  (vX:Holds a.tmps gs->Rv E s v) (po:b=true->Holds a.tmps gs->Rv (D.wc E) s v) (OO:¬ Holds a.tmps gs->v=undef) {K:List (Nat × Sl)->St->Prop} (hk:put2 s0 st dst b gs s K) :
  ∃ jV st',K jV st' /\ gv X D c E jV st' (a.put dst v) w:=by
 simp only [bc] at hd;have h1:=rJ h.rel hd.1 gs s v Hw vX OO
 cases dst with
 | none=>exact ⟨s0,st,hk,h1,h.x,h.β,h.t0,h.cc⟩
 | some d=>
  obtain ⟨sl,bx,tk⟩:=st;have Tm:=hd.2;simp only [eJ,bc,Nat.blt_eq] at Tm
  have hold:∀ i x,i≠d->get s0 i=some x->(Holds (a.put (some d) v).tmps x.gs->∃ u,(a.put (some d) v).tmps[i]? = some u/\Rv (D.wc E) x.s u)/\(¬ Holds (a.put (some d) v).tmps x.gs->(a.put (some d) v).tmps[i]? = some undef):=by
   intro i x hi hx;simp only [Act.put];rw [Array.getElem?_setIfInBounds_ne (Ne.symm hi),l8 (mU Tm.2 i x hx)];exact h.t0 i x hx
  simp only [put2] at hk;split at hk
  ·rename_i hb;refine ⟨_,_,hk,h1,h.x,h.β,fun i x hx=>?_,h.cc⟩;simp only [dO] at hx;split at hx
   ·rename_i Kp;subst Kp;simp only [oI] at hx;subst hx;have h2:(a.tmps.setIfInBounds d v)[d]? = some v:=by simp [Array.getElem?_setIfInBounds,h.rel.sz,Tm.1]
    simp only [Act.put]
    grind [l8,Ky]
   all_goals grind
  ·rw [rM] at hk;refine ⟨_,_,hk,h1,h.x,h.β,fun i x hx=>?_,h.cc⟩;obtain ⟨h3,h4⟩:=get_filter d s0 i x hx;exact hold i x h3 h4
theorem ng (h:gv X D c E s0 st a w) {d:Nat} {b:Bool} (hd:a.tmps[d]? = some (.bool b)):gv X D c E (s0.map (bX d b)) (st.resolve d b) a w where
 rel:=lp h.rel hd
 x:=h.x
 β:=h.β
 t0:=by
  intro i y hy;simp only [get_map,Option.map_eq_some_iff] at hy;obtain ⟨x,hx,rfl⟩:=hy;have ht:=h.t0 i x hx;unfold bX;split
  ·rename_i hi;have iw:i=d:=sU hi;subst iw;exact ⟨fun _=>⟨_,hd,gK rfl⟩,fun hn=>(hn (bq _)).elim⟩
  ·split
   ·grind [Holds,uR,bq]
   ·have he:Holds a.tmps (x.gs.filter fun p=>p != (d,b))↔Holds a.tmps x.gs:=by
     constructor
     ·intro hh p hp;by_cases Oi:p=(d,b)
      ·subst Oi;exact hd
      ·exact hh p (by simp [List.mem_filter,hp,Oi])
     ·intro hh p hp;exact hh p (List.mem_filter.1 hp).1
    simp only [he];exact ht
 cc:=h.cc
theorem rN {nt d:Nat} {b:Bool} {dst:Option Nat} (h:(eJ nt st.sl dst && eJ nt s0 dst)=true):(eJ nt (st.resolve d b).sl dst && eJ nt (s0.map (bX d b)) dst)=true:=by
 simp only [bc] at h ⊢;exact ⟨lr h.1,lr (st:=⟨s0,[],[]⟩) h.2⟩
theorem EN (hD:vD D.E0 D.d.jG.bx D.wr) (h:gv X D c E s0 st a w) {G:List (Nat × Bool)} (hG:Holds a.tmps G) {o:Oper} {b:Bool} {s:DV} (hp:pR X D.d c s0 st G o.op=some (b,s)) :
  isE o.op=false/\(isL o.op=true->c=true)/\∃ v,Rv E s v/\(b=true->Rv (D.wc E) s v)/\∀ w,(isL o.op=true->D.C w)->(execOp a.eval o).run X.P w = .ok (.value v) w:=by
 unfold pR at hp;split at hp
 ·cases hp
 ·rename_i hc;simp only [bc,Bool.not_eq_true',Bool.or_eq_true] at hc;refine ⟨hc.1,fun hL=>?_,?_⟩
  ·grind
  ·split at hp
   ·rename_i s' hs;simp only [oI,Prod.mk.injEq] at hp;obtain ⟨rfl,rfl⟩:=hp;obtain ⟨v,hv,hr⟩:=ji (st:=⟨s0,D.d.jG.bx,[]⟩) X.hT (h.rl0 hD) hG hs;exact ⟨v,Rv.mono (H3 h.x) hv,fun _=>hv,hr⟩
   ·split at hp
    ·cases hp
    ·rename_i hL;split at hp
     ·rename_i s' hs;simp only [oI,Prod.mk.injEq] at hp;obtain ⟨rfl,rfl⟩:=hp;obtain ⟨v,hv,hr⟩:=ji (st:=⟨st.sl,[],[]⟩) X.hT h.rlE hG hs
      grind
     ·cases hp
theorem O6 (hD:vD D.E0 D.d.jG.bx D.wr) (h:gv X D c E s0 st a w) {o:Oper} {K:Bool->DV->Prop} (hp:optP (eR X D.d c s0 st o.op K)) :
  isE o.op=false/\(isL o.op=true->c=true)/\∃ b s v,K b s/\Rv E s v/\(b=true->Rv (D.wc E) s v)/\∀ w,(isL o.op=true->D.C w)->(execOp a.eval o).run X.P w = .ok (.value v) w:=by
 unfold eR at hp;split at hp
 ·exact hp.elim
 ·rename_i hE;refine ⟨hE,?_⟩;split at hp
  ·rename_i hL;split at hp
   ·refine ⟨fun _=>rfl,?_⟩
    cases hs:effR X ⟨s0,D.d.jG.bx,[]⟩ o.op (K true) with
    | none=>rw [hs] at hp;exact hp.elim
    | some p=>
     rw [hs] at hp;obtain ⟨s,hk,v,hv,hr⟩:=mW (st:=⟨s0,D.d.jG.bx,[]⟩) (h.rl0 hD) hs hp;exact ⟨true,s,v,hk,Rv.mono (H3 h.x) hv,fun _=>hv,hr⟩
   ·exact hp.elim
  ·rename_i hL;have gm:∀ w':World,isL o.op=true->False:=fun w' h1=>by rw [hL] at h1;cases h1
   refine ⟨fun h1=>(by rw [hL] at h1;cases h1),?_⟩;split at hp
   ·rename_i p hs;obtain ⟨s,hk,v,hv,hr⟩:=mW (st:=⟨s0,[],[]⟩) (C:=D.C) ⟨h.t0,fun i cs hi=>by simp at hi,(h.rl0 hD).cc⟩ hs hp;exact ⟨true,s,v,hk,Rv.mono (H3 h.x) hv,fun _=>hv,fun w' _=>hr w' fun h1=>(gm w' h1).elim⟩
   ·cases hs:effR X ⟨st.sl,[],[]⟩ o.op (K false) with
    | none=>rw [hs] at hp;exact hp.elim
    | some p=>
     rw [hs] at hp;obtain ⟨s,hk,v,hv,hr⟩:=mW (st:=⟨st.sl,[],[]⟩) h.rlE hs hp
     grind
theorem Tn {P:Program} {o:Oper} {K:Act->World->Prop} (h:wq P o a w K):wq P o a w fun a' w'=>K a' w' /\ ∃ u,a'=a.put o.dst u:=by grind [wq]
theorem AD (h:gv X D c E s0 st a w) {t:Option Nat} {E':En} {st':St} {a':Act} {w':World} (hs:Stp t E w E' w') (hr:Rel X E' st' a' w') (ht:∀ j,t=some j->D.E0.β.length<=j∨D.d.jG.bx[j]? = some []):D.C w->D.C w':=fun hC=>
 ⟨fun i b cs hb hcs bA=>by
  have jL:=h.x.β i b hb
  rw [hs.o i _ jL fun e=>by
   rcases ht i e with h1 | h1
   ·have:=(gS hb).1;omega
   ·rw [hcs] at h1;simp only [oI] at h1;exact bA h1]
  exact hC.o i b cs hb hcs bA,fun x v hx=>hr.env.sub x v (hs.x.c x v (h.x.c x v hx))⟩
theorem rO (h:gv X D c E s0 st a w) {t:Option Nat} {E':En} {st':St} {w':World} {c':Bool} {jV:List (Nat × Sl)} {dst:Option Nat} {u:Value} (hs:Stp t E w E' w') (hr:Rel X E' st' (a.put dst u) w') (qJ:c'=true->D.C w')
  (ht0:∀ i x,get jV i=some x->(∃ d,dst=some d/\i=d/\scal x.s=true/\get st'.sl d=some x)∨(get s0 i=some x/\∀ d,dst=some d->i≠d)) (hd:eJ X.nt s0 dst=true):gv X D c' E' jV st' (a.put dst u) w' where
 rel:=hr
 x:=by
  refine ⟨fun y v hy=>hs.x.c y v (h.x.c y v hy),fun j b hb=>hs.x.β j b (h.x.β j b hb),fun k q hq=>?_⟩;obtain ⟨q1,h1,h2⟩:=h.x.tk k q hq;obtain ⟨q2,h3,h4⟩:=hs.x.tk k q1 h1
  grind
 β:=by
  obtain ⟨r1,h1⟩:=h.β;obtain ⟨r2,h2⟩:=hs.β
  grind
 t0:=fun i x hx=>by
  rcases ht0 i x hx with ⟨d,rfl,rfl,EA,hg⟩ | ⟨hg,bA⟩
  ·have:=hr.tm _ _ hg
   grind [Ky]
  ·have h1:=h.t0 i x hg
   cases dst with
   | none=>
    refine ⟨fun hh=>?_,h1.2⟩;obtain ⟨v,h2,h3⟩:=h1.1 hh;exact ⟨v,h2,Rv.mono (Kx hs.x) h3⟩
   | some d=>
    simp only [eJ,bc,Nat.blt_eq] at hd;simp only [Act.put];rw [Array.getElem?_setIfInBounds_ne (Ne.symm (bA d rfl)),l8 (mU hd.2 i x hg)];refine ⟨fun hh=>?_,h1.2⟩;obtain ⟨v,h2,h3⟩:=h1.1 hh;exact ⟨v,h2,Rv.mono (Kx hs.x) h3⟩
 cc:=qJ
def aaS (X:Ctx) (D:Dw) (l:List Nat) (G:Bool->List (Nat × Sl)->St->Prop):Prop:=∀ c s0 st,G c s0 st->∀ E a w,gv X D c E s0 st a w->runT X.P D.d.ops D.d.W D.C (D.Q X) l a w
theorem H4 (hD:vD D.E0 D.d.jG.bx D.wr) {l:List (Nat × Oper)} (hl:∀ p∈l,D.d.ops[p.1]? = some p.2) {G:Bool->List (Nat × Sl)->St->Prop} (hG:aaS X D (l.map (·.1)) G) {o:Oper} (hd:(eJ X.nt st.sl o.dst && eJ X.nt s0 o.dst)=true) (h:gv X D c E s0 st a w)
  (he:effE X D.d c i l o s0 st G):wq X.P o a w fun a' w'=>(D.d.W i=false->D.C w->D.C w')/\runT X.P D.d.ops D.d.W D.C (D.Q X) (l.map (·.1)) a' w':=by
 have Mo:=hd;simp only [bc] at Mo;have hlen:D.E0.β.length=D.d.jG.bx.length:=hD.len
 have core:∀ (K:St->Prop) (p:Prop) (c1:Bool),effC X st o K=some p->p->(c1=true->c=true)->(c1=true∨D.d.W i=false->∀ j,stObj st o.op=some j->D.E0.β.length<=j∨D.d.jG.bx[j]? = some []) ->
   (∀ st',K st' -> ∃ jV,G c1 jV st' /\ ∀ i x,get jV i=some x->(∃ d,o.dst=some d/\i=d/\scal x.s=true/\get st'.sl d=some x)∨(get s0 i=some x/\∀ d,o.dst=some d->i≠d)) ->
   wq X.P o a w fun a' w'=>(D.d.W i=false->D.C w->D.C w')/\runT X.P D.d.ops D.d.W D.C (D.Q X) (l.map (·.1)) a' w':=by
  intro K p c1 hp hpp Mp aW hK;refine mY ?_ (Tn (mZ Mo.1 h.rel hp hpp));rintro a' w' ⟨⟨st',E',hk,hr,hs⟩,u,rfl⟩;refine ⟨fun hW=>AD h hs hr (aW (.inr hW)),?_⟩;obtain ⟨jV,hg,ht0⟩:=hK st' hk;exact hG c1 jV st' hg E' _ w' (rO h hs hr (fun hc=>AD h hs hr (aW (.inl hc)) (h.cc (Mp hc))) ht0 Mo.2)
 have VC:(∀ t x y,o.op ≠ .store t x y)->∀ j,stObj st o.op=some j->D.E0.β.length<=j∨D.d.jG.bx[j]? = some []:=by simp_all [stObj]
 have aaT:∀ (d:Nat) (st':St),o.dst=some d->∀ i x,get (s0.filter fun p=>!Nat.beq p.1 d) i=some x->(∃ d,o.dst=some d/\i=d/\scal x.s=true/\get st'.sl d=some x)∨(get s0 i=some x/\∀ d,o.dst=some d->i≠d):=by
  intro d st' jm i x hx;obtain ⟨h1,h2⟩:=get_filter d s0 i x hx
  grind
 unfold effE at he;split at he
 ·rename_i t x y qq;split at he
  ·exact he.elim
  ·rename_i jm;have s7:∀ st':St,∀ i x,get s0 i=some x->(∃ d,o.dst=some d/\i=d/\scal x.s=true/\get st'.sl d=some x)∨(get s0 i=some x/\∀ d,o.dst=some d->i≠d):=fun st' i x hx=>.inr ⟨hx,fun d hd=>by rw [jm] at hd;cases hd⟩;split at he
   ·rename_i hW
    cases hp:effC X st o (G false s0) with
    | none=>rw [hp] at he;exact he.elim
    | some p=>
     rw [hp] at he;exact core _ p false hp he (by intro h;cases h) (by rintro (h1 | h1);cases h1;rw [hW] at h1;cases h1) fun st' hk=>⟨s0,hk,s7 st'⟩
   ·split at he
    ·rename_i j hj;split at he
     ·rename_i fb
      have fb:D.d.jG.bx.length<=j∨D.d.jG.bx[j]? = some []:=by
       rcases Bool.or_eq_true _ _ |>.mp fb with h1 | h1
       ·exact .inl (sU h1)
       ·exact .inr (Tl h1)
      cases hp:effC X st o (G c s0) with
      | none=>rw [hp] at he;exact he.elim
      | some p=>
       rw [hp] at he;exact core _ p c hp he id (fun _ j' jL=>by rw [hj] at jL;cases jL;rw [hlen];exact fb) fun st' hk=>⟨s0,hk,s7 st'⟩
     ·exact he.elim
    ·exact he.elim
 ·rename_i cl qq;split at he
  ·rename_i f vE;split at he
   ·rename_i g first captured vs hf zW
    obtain ⟨lm,aaU⟩:=he;have dK:=h.rel.rl;have e1:=aX dK hf;unfold Rv at e1;obtain ⟨l1,r1,e1,zP,hr1⟩:=e1;have hargs:=jh dK (bq _) _ _ zW;obtain ⟨dst,op,ty,pos,after,gu⟩:=o;obtain ⟨callee,args,argTypes⟩:=cl;simp only at qq vE;subst qq vE
    have hr:(execOp a.eval ⟨dst,.call ⟨.value f,args,argTypes⟩,ty,pos,after,gu⟩).run X.P w = .ok (.enter g (l1 ++ args.toList.map a.eval ++ r1).toArray) w:=by
     have e3:(l1.toArray ++ args.map a.eval ++ r1.toArray)=(l1 ++ args.toList.map a.eval ++ r1).toArray:=by apply Array.ext';simp
     simp only [execOp,resolve,e1,Deferred.ofValue,Sem.run_bind,Sem.run_pure,Result.andThen_ok,invoke,e3];exact lm _ _
    unfold wq;rw [hr];exact aaU hl D.E0 D.wr hD E a w _ h ((zP.append hargs).append hr1)
   ·exact he.elim
  ·split at he
   ·rename_i d jm
    cases hp:effC X st o (fun st'=>delF d s0 fun jV=>G c jV st') with
    | none=>rw [hp] at he;exact he.elim
    | some p=>
     rw [hp] at he;refine core _ p c hp he id (fun _=>VC (fun t x y h1=>by rw [qq] at h1;cases h1)) fun st' hk=>?_;rw [rM] at hk;exact ⟨_,hk,aaT d st' jm⟩
   ·exact he.elim
 ·rename_i wb zS;split at he
  ·rename_i d jm
   cases hp:effC X st o (fun st'=>
    match get st'.sl d with
    | some ⟨[],.loc j off⟩=>G c ((d,⟨[],.loc j off⟩) :: s0) st'
    | _=>delF d s0 fun jV=>G c jV st') with
   | none=>rw [hp] at he;exact he hl D.E0 D.wr hD E a w h
   | some p=>
    rw [hp] at he;refine core _ p c hp he id (fun _=>VC wb) fun st' hk=>?_;split at hk
    ·rename_i j off hg;refine ⟨_,hk,fun i x hx=>?_⟩;simp only [dO] at hx;split at hx
     ·rename_i Kp;simp only [oI] at hx;subst hx;exact .inl ⟨d,jm,Kp.symm,rfl,hg⟩
     all_goals grind
    ·rw [rM] at hk;exact ⟨_,hk,aaT d st' jm⟩
  ·exact he.elim
theorem gw (hD:vD D.E0 D.d.jG.bx D.wr):∀ n c l s0 st,goD X D.d n c l s0 st->(∀ p∈l,D.d.ops[p.1]? = some p.2)->∀ E a w,gv X D c E s0 st a w->runT X.P D.d.ops D.d.W D.C (D.Q X) (l.map (·.1)) a w
 | n,c,[],s0,st,hg,hl=>by
  intro E a w h;have hg:(match D.d.fin with | none=>go X 4000 D.d.k st | some F=>F c s0 st):=by cases n<;>simpa only [goD] using hg
  show D.Q X a w;unfold Dw.Q
  cases hf:D.d.fin with
  | none=>
   rw [hf] at hg;exact go_sound 4000 _ _ hg E a w h.rel
  | some F=>
   rw [hf] at hg;exact ⟨c,E,s0,st,h,hg⟩
 | 0,c,_ :: _,s0,st,hg,_=>by exact hg.elim
 | n + 1,c,(i,o) :: r,s0,st,hg,hl=>by
  intro E a w h;have ho:D.d.ops[i]? = some o:=hl (i,o) (by simp);have zW:∀ p∈r,D.d.ops[p.1]? = some p.2:=fun p hp=>hl p (gJ _ hp);simp only [List.map_cons];have ih:∀ c s0 st,goD X D.d n c r s0 st->∀ E a w,gv X D c E s0 st a w->runT X.P D.d.ops D.d.W D.C (D.Q X) (r.map (·.1)) a w:=fun c s0 st hg=>gw hD n c r s0 st hg zW;have ihG:aaS X D (r.map (·.1)) (fun c s0 st=>goD X D.d n c r s0 st):=fun c s0 st hg=>ih c s0 st hg;simp only [goD,Kl,vV] at hg;split at hg
  ·exact hg.elim
  ·rename_i hd
   have fR:∀ (v:Value) jV st',isE o.op=false->Yl X.P D.d.ops D.C o v a->(isL o.op=true->c=true)->goD X D.d n c r jV st' -> gv X D c E jV st' (a.put o.dst v) w ->
     runT X.P D.d.ops D.d.W D.C (D.Q X) (i :: r.map (·.1)) a w:=by
    intro v jV st' hE hy fU j7 bS;simp only [runT,ho];rw [aj (by simp [hE])];exact ⟨v,hy,fun hL=>h.cc (fU hL),ih c jV st' j7 E _ w bS⟩
   have fS:∀ jV st',isE o.op=true->Region.wanted o (yielded D.d.ops a.tmps)=false->goD X D.d n c r jV st' -> gv X D c E jV st' (a.put o.dst undef) w ->
     runT X.P D.d.ops D.d.W D.C (D.Q X) (i :: r.map (·.1)) a w:=by
    intro jV st' hE hw j7 bS;simp only [runT,ho];rw [ap hE];unfold ez;rw [aj (by simp [hw])];exact ⟨fun _ h=>h,ih c jV st' j7 E _ w bS⟩
   have fE:∀ jV st',isE o.op=true->Region.wanted o (yielded D.d.ops a.tmps)=true->(eJ X.nt st'.sl o.dst && eJ X.nt jV o.dst)=true->effE X D.d c i r o jV st' (fun c' jV st'=>goD X D.d n c' r jV st')->gv X D c E jV st' a w ->
     runT X.P D.d.ops D.d.W D.C (D.Q X) (i :: r.map (·.1)) a w:=by
    intro jV st' hE hw Mo he bS;simp only [runT,ho];rw [ap hE];unfold ez;rw [ap hw];exact H4 hD zW ihG Mo bS he
   have fP:∀ jV st',Region.wanted o (yielded D.d.ops a.tmps)=true->(eJ X.nt st'.sl o.dst && eJ X.nt jV o.dst)=true->optP (eR X D.d c jV st' o.op fun b s=>put2 jV st' o.dst b [] s (goD X D.d n c r))->gv X D c E jV st' a w ->
     runT X.P D.d.ops D.d.W D.C (D.Q X) (i :: r.map (·.1)) a w:=by
    intro jV st' hw Mo he bS;obtain ⟨hE,fU,b,s,v,hk,hv,po,ct⟩:=O6 hD bS he;obtain ⟨s1,rn,kh,fc⟩:=jN bS Mo b [] s v (fun _ _ p hp=>by cases hp) (fun _=>hv) (fun hb _=>po hb) (fun hn=>(hn (bq _)).elim) hk;exact fR v s1 rn hE (.inl ⟨hw,ct⟩) fU kh fc
   have udE:∀ jV st',(eJ X.nt st'.sl o.dst && eJ X.nt jV o.dst)=true->gv X D c E jV st' a w->put2 jV st' o.dst true [] .ud (goD X D.d n c r)->∃ s1 rn,goD X D.d n c r s1 rn/\gv X D c E s1 rn (a.put o.dst undef) w:=by
    intro jV st' Mo bS hk;exact jN bS Mo true [] .ud undef (fun _ _ p hp=>by cases hp) (fun _=>uR E) (fun _ _=>uR _) (fun hn=>(hn (bq _)).elim) hk
   split at hg
   ·rename_i Ti;have hw:Region.wanted o (yielded D.d.ops a.tmps)=true:=by simp [Region.wanted,Ti]
    split at hg
    ·rename_i hE;exact fE s0 st hE hw hd hg h
    ·split at hg
     ·rename_i b s hs;obtain ⟨hE,fU,v,hv,po,ct⟩:=EN hD h (bq _) hs;obtain ⟨s1,rn,kh,fc⟩:=jN h hd b [] s v (fun _ _ p hp=>by cases hp) (fun _=>hv) (fun hb _=>po hb) (fun hn=>(hn (bq _)).elim) hg;exact fR v s1 rn hE (.inl ⟨hw,ct⟩) fU kh fc
     ·exact fP s0 st hw hd hg h
   ·rename_i j want Ti;split at hg
    ·exact hg.elim
    ·rename_i d Hw;split at hg
     ·exact hg.elim
     ·rename_i iN sd Mk;have xx:=wanted_spec h.rel Ti Hw Mk;have H5:¬ Holds a.tmps ((d,want) :: iN)->Region.wanted o (yielded D.d.ops a.tmps)=false:=by grind
      split at hg
      ·rename_i b s hs;split at hg
       case h_2=>exact hg.elim
       rename_i aZ;have aaV:=xu aZ;by_cases hh:Holds a.tmps ((d,want) :: iN)
       ·obtain ⟨hE,fU,v,hv,po,ct⟩:=EN hD h hh hs;obtain ⟨s1,rn,kh,fc⟩:=jN h hd b _ s v aaV (fun _=>hv) (fun hb _=>po hb) (fun hn=>(hn hh).elim) hg;exact fR v s1 rn hE (.inl ⟨xx.2 hh,ct⟩) fU kh fc
       ·obtain ⟨s1,rn,kh,fc⟩:=jN h hd b _ s undef aaV (fun hn=>(hh hn).elim) (fun _ hn=>(hh hn).elim) (fun _=>rfl) hg;have fU:isE o.op=false/\(isL o.op=true->c=true):=by grind [pR]
        exact fR undef s1 rn fU.1 (.inr ⟨H5 hh,rfl⟩) fU.2 kh fc
      ·split at hg
       ·rename_i b iv;have ht0:=EE h.rel iv
        cases iN with
        | nil=>
         simp only [lastG] at iv ht0;cases Cq:(b == want)
         ·have HZ:b = !want:=by cases b<;>cases want<;>simp_all
          have hg:=hg.f Cq
          have hn:Region.wanted o (yielded D.d.ops a.tmps)=false:=by
           refine H5 fun hh=>?_;have:=hh (d,want) (by simp)
           grind
          have hr:=ng (d:=d) (b:=!want) h (by rw [ht0,HZ]);split at hg
          ·rename_i fU
           have XT:isL o.op=true->c=true:=by
            intro hL;simpa [hL] using fU
           obtain ⟨s1,rn,kh,fc⟩:=udE _ _ (rN hd) hr hg;cases hE:isE o.op
           ·exact fR undef s1 rn hE (.inr ⟨hn,rfl⟩) XT kh fc
           ·exact fS s1 rn hE hn kh fc
          ·exact hg.elim
         ·have On:b=want:=sU Cq;have hg:=hg.t Cq
          grind [kI,bq,ng,rN]
        | cons g1 gr=>
         have key:∀ e,a.tmps[(lastG (d,want) (g1 :: gr)).1]? = some (.bool e)->goD X D.d n c ((i,o) :: r) (s0.map (bX (lastG (d,want) (g1 :: gr)).1 e)) (st.resolve (lastG (d,want) (g1 :: gr)).1 e)->_:=
          fun e HO j7=>gw hD n c ((i,o) :: r) _ _ j7 hl E a w (ng h HO)
         cases Cq:(b == (lastG (d,want) (g1 :: gr)).2)
         ·have hg:=hg.f Cq;have HZ:b = !(lastG (d,want) (g1 :: gr)).2:=by cases b<;>cases h0:(lastG (d,want) (g1 :: gr)).2<;>simp_all
          exact key _ (by rw [ht0,HZ]) hg
         all_goals simp_all
       ·rename_i iv
        cases iN with
        | nil=>
         have ht0:=OX h.rel iv;simp only [lastG] at ht0
         have hn:Region.wanted o (yielded D.d.ops a.tmps)=false:=by
          refine H5 fun hh=>?_;have:=hh (d,want) (by simp);simp only at this;rw [ht0] at this;simp [undef] at this
         simp only at hg;split at hg
         ·rename_i fU
          have XT:isL o.op=true->c=true:=by
           intro hL;simpa [hL] using fU
          obtain ⟨s1,rn,kh,fc⟩:=udE _ _ hd h hg;cases hE:isE o.op
          ·exact fR undef s1 rn hE (.inr ⟨hn,rfl⟩) XT kh fc
          ·exact fS s1 rn hE hn kh fc
         ·exact hg.elim
        | cons g1 gr=>exact hg.elim
       ·exact hg.elim
def OpS (X:Ctx) (o:Oper) (st st':St):Prop:=∀ E a w,Rel X E st a w->wq X.P o a w fun a' w'=>∃ E',Rel X E' st' a' w' /\ Stp none E w E' w'
theorem OpS.g {o:Oper} {k:List It} {st st':St} (h:OpS X o st st') (hk:go X 4000 k st'):Md X o k st:=fun E a w hr=>by
 refine Ez (mY ?_ (h E a w hr));rintro a' w' ⟨E',lZ,_⟩;exact go_sound 4000 _ _ hk E' a' w' lZ
def nOps:Nat->List Oper->List (Nat × Oper)
 | _,[]=>[]
 | i,o :: r=>(i,o) :: nOps (i + 1) r
theorem xB:∀ (l:List Oper) (i:Nat) (p:Nat × Oper),p∈nOps i l->i<=p.1/\l[p.1 - i]? = some p.2
 | [],_,_,h=>by cases h
 | o :: r,i,p,h=>by
  rcases dN h with h | h
  ·subst h;simp
  ·have:=xB r (i + 1) p h
   grind
theorem xC:∀ (l:List Oper) (i:Nat),(nOps i l).map (·.1)=List.range' i l.length
 | [],_=>rfl
 | o :: r,i=>by simp only [nOps,List.map_cons,xC r (i + 1),List.length_cons,List.range'_succ]
theorem nh (hr:Rel X E st a w) {ops:Array Oper} {W:Nat->Bool} {k:List It}:gv X ⟨⟨ops,W,k,st,none⟩,E,w⟩ true E st.sl st a w where
 rel:=hr
 x:=Ext.refl E
 β:=⟨[],by simp⟩
 t0:=hr.tm
 cc:=fun _=>⟨fun _ _ _ _ _ _=>rfl,hr.env.sub⟩
theorem ki {id:Nat} {ops:Array Oper} {k:List It} {st:St} (W:Nat->Bool) (hm:X.P.follows .mixedOrders=true) (hc:EK ops W=true)
  (h:goD X ⟨ops,W,k,st,none⟩ 3000 true (nOps 0 ops.toList) st.sl st):l6 X id ops k st:=by
 intro E a w hr;have lZ:=jK hr;have hs:=nh lZ (ops:=ops) (W:=W) (k:=k);refine jH (C:=CC E st.bx w.drew) (W:=W) (Q:=kq X k .normal) hm hc (fun a w h=>h) (hs.cc rfl) ?_;have:=gw (D:=⟨⟨ops,W,k,st,none⟩,E,w.drew⟩) lZ.env.em 3000 true _ _ _ h (fun p hp=>by simpa using (xB _ _ p hp).2) E a w.drew hs;rw [xC] at this;rw [List.range_eq_range'];simp only [Array.length_toList] at this;exact this
def maskL:List Nat->Nat->List (List DV)->List (List DV)
 | _,_,[]=>[]
 | m,i,cs :: r=>(match m.contains i with | true=>[] | false=>cs) :: maskL m (i + 1) r
theorem tG (m:List Nat):∀ (l:List (List DV)) (i:Nat),(maskL m i l).length=l.length
 | [],_=>rfl
 | cs :: r,i=>by simp [maskL,tG m r]
theorem tH (m:List Nat):∀ (l:List (List DV)) (i j:Nat) cs,(maskL m i l)[j]? = some cs->cs=[]∨l[j]? = some cs
 | [],_,_,_,h=>by simp [maskL] at h
 | c :: r,i,0,cs,h=>by grind [maskL]
 | c :: r,i,j + 1,cs,h=>by
  simp only [maskL,List.getElem?_cons_succ] at h ⊢;exact tH m r (i + 1) j cs h
theorem ni {id:Nat} {ops:Array Oper} {k:List It} {st:St} (m:List Nat) (W:Nat->Bool) (hm:X.P.follows .mixedOrders=true) (hc:EK ops W=true)
  (h:goD X ⟨ops,W,k,⟨st.sl,maskL m 0 st.bx,st.tk⟩,none⟩ 3000 true (nOps 0 ops.toList) st.sl st):l6 X id ops k st:=by
 intro E a w hr;have lZ:=jK hr;have hs:gv X ⟨⟨ops,W,k,⟨st.sl,maskL m 0 st.bx,st.tk⟩,none⟩,E,w.drew⟩ true E st.sl st a w.drew:=⟨lZ,Ext.refl E,⟨[],by simp⟩,lZ.tm,fun _=>⟨fun _ _ _ _ _ _=>rfl,lZ.env.sub⟩⟩;refine jH (C:=CC E (maskL m 0 st.bx) w.drew) (W:=W) (Q:=kq X k .normal) hm hc (fun a w h=>h) (hs.cc rfl) ?_
 have SR:vD E (maskL m 0 st.bx) w.drew:=⟨by rw [tG];exact lZ.env.len,fun i cs hi bA=>by
  rcases tH m _ _ _ _ hi with h1 | h1
  ·exact (bA h1).elim
  ·exact lZ.env.eM i cs h1⟩
 have:=gw (D:=⟨⟨ops,W,k,⟨st.sl,maskL m 0 st.bx,st.tk⟩,none⟩,E,w.drew⟩) SR 3000 true _ _ _ h (fun p hp=>by simpa using (xB _ _ p hp).2) E a w.drew hs;rw [xC] at this;rw [List.range_eq_range'];simp only [Array.length_toList] at this;exact this
def VD (ops:Array Oper) (i:Nat):Bool:=
 match ops.toList[i]? with
 | some o=>
  match o.op with
  | .store ..=>true
  | _=>false
 | none=>false
theorem Tp {id:Nat} {ops:Array Oper} {k:List It} {st:St} (hm:X.P.follows .mixedOrders=true) (hc:EK ops (VD ops)=true)
  (h:goD X ⟨ops,VD ops,k,st,none⟩ 3000 true (nOps 0 ops.toList) st.sl st):l6 X id ops k st:=ki (VD ops) hm hc h
theorem rP {D:Dr} {f:FuncId} {args bB:List DV} {d:Nat} {r:List (Nat × Oper)} (lm:Enters X.P f) (hd:(eJ X.nt st.sl (some d) && eJ X.nt s0 (some d))=true) {Φ:DV->List (List DV)->List TkE->Prop} (hc:Ev X.P f bB [] [] Φ) (ha:CcL [] 0 0 0 bB args)
  (hk:∀ pq,Φ pq [] []->put2 s0 st (some d) false [] pq (goD X D 3000 c r)) (aW:X.still=false:=by exact rfl):uV X D c i r f args (some d) s0 st:=by
 refine ⟨lm,fun hl E0 wr hD E a w vs h hv=>(oy h.rel aW hc ha hv).mono ?_⟩;rintro e w' ⟨v,E',pq,rfl,bS,hr,hΦ,hm,hx,hβ⟩
 have hh:∀ b,b < w.heap.size->w'.heap[b]? = w.heap[b]?:=fun b hb=>hm.block b hb (by
  rintro (h1 | ⟨y,h1,_⟩)
  ·simp [En.cl] at h1
  ·simp [En.cl] at h1)
 have hs:Stp none E w E' w':=⟨hx,⟨[],by rw [hβ];simp⟩,fun j b hb _=>hh b (h.rel.env.bh (mG hb))⟩;have hC:=AD h hs bS (fun j hj=>by cases hj);refine ⟨v,rfl,fun _=>hC,?_⟩;have EO:gv X ⟨D,E0,wr⟩ c E' s0 st (a.put none v) w':=rO h hs bS (fun h1=>hC (h.cc h1)) (fun i x hx=>.inr ⟨hx,fun d hd=>by cases hd⟩) rfl;obtain ⟨s1,rn,kh,fc⟩:=jN EO hd false [] pq v (fun _ _ p hp=>by cases hp) (fun _=>hr) (fun hb=>by cases hb) (fun hn=>(hn (bq _)).elim) (hk pq hΦ);exact gw (D:=⟨D,E0,wr⟩) hD 3000 c r _ _ kh hl E' _ w' fc
theorem Tq {D:Dr} {f:FuncId} {args bB:List DV} {d:Nat} {r:List (Nat × Oper)} {pq:DV} (lm:Enters X.P f) (hc:EvP X.P f bB pq) (ha:CcL [] 0 0 0 bB args) (hd:(eJ X.nt st.sl (some d) && eJ X.nt s0 (some d))=true)
  (hk:put2 s0 st (some d) false [] pq (goD X D 3000 c r)) (aW:X.still=false:=by exact rfl):uV X D c i r f args (some d) s0 st:=
 rP lm hd hc ha (fun _ hr=>hr ▸ hk) aW
theorem kO {D:Dr} {i:Nat} {f:FuncId} {args:List DV} {dst:Option Nat} (hW:D.W i=true) (h:CallG X f args dst D.k st) (hf:D.fin=none:=by exact rfl):uV X D c i [] f args dst s0 st:=by
 refine ⟨h.1,fun _ E0 wr _ E a w vs hr hv=>(h.2.2 E a w vs hr.rel hv).mono ?_⟩;intro e w' hq
 cases e with
 | returned v=>
  refine ⟨v,rfl,⟨(fun hw=>by rw [hW] at hw;cases hw),?_⟩⟩;show Dw.Q ⟨D,E0,wr⟩ X _ _;unfold Dw.Q;simp only [hf];exact hq
 | _=>exact hq.elim
end
end Dv
end Go.Proofs.YtgjagnmeonoehaaGreat
namespace Go.Proofs.YtgjagnmeonoehaaGreat
namespace Dv
open Go Go.RowKit
section
variable {P:Program} {ops:Array Oper} {C:World->Prop} {Q:Act->World->Prop} {W:Nat->Bool} {π π':Nat->Nat}
theorem AE {o:Oper} {i:Nat} {a:Act} {w:World} {K:Act->World->Prop} {Q':Exit->Act->World->Prop} (ho:ops[i]? = some o) (h:ez P ops o a w K):wpOp P ops Q' i K a w:=by
 unfold wpOp
 grind [ez,Ez]
def chkT (ops:Array Oper) (x y:Nat):Bool:=
 (List.range ops.size).all fun i=>Nat.beq i x || Nat.beq i y ||
  match ops[i]? with
  | some o=>!isE o.op || ordB ops ops.size x i
  | none=>false
def vF (x y:Nat):Nat->Nat->Bool:=fun j i=>Nat.beq j x && Nat.beq i y
theorem H6 {x y:Nat} {Q':Exit->Act->World->Prop} (O7:x≠y) (ZZ:vA ops W π=true) (h1S:EJ ops W π (vF x y)=true) (h2O:vA ops W π'=true) (h2S:EJ ops W π' (vF y x)=true) (hT:chkT ops x y=true)
  (hQ:∀ a w,Q a w->Q' .normal a w):∀ (mf:Nat) (bm:Array Bool) (r1 r2:List Nat) (a:Act) (w:World),
  bm.size=ops.size->Dn ops bm->(∀ i,i∈r1↔i < ops.size/\bm.getD i true=false)->(∀ i,i∈r2↔i < ops.size/\bm.getD i true=false)->r1.Pairwise (fun a b=>π a < π b)->r2.Pairwise (fun a b=>π' a < π' b)->r1.length<=mf ->
   x∈r1->y∈r1->C w->runT P ops W C Q r1 a w->runT P ops W C Q r2 a w->wpAny P .any ops Q' mf bm a w:=by
 have kg:=EL ZZ;have SP:=Cs ZZ;have XU:=Cs h2O;have h1S':=h1S;have h2S':=h2S;simp only [EJ,List.all_eq_true,List.mem_range,Bool.or_eq_true,Bool.not_eq_true'] at h1S h2S;intro mf
 induction mf with
 | zero=>grind
 | succ mf ih=>
  intro bm r1 r2 a w bW hdn jY HS Tr EP hlen hx hy hC hr1 oi;have h12:∀ i,i∈r1↔i∈r2:=fun i=>(jY i).trans (HS i).symm;have Mq:r1.Nodup:=ry Tr;have zX:r2.Nodup:=ry EP;have O4:=AB ZZ;refine ⟨fun h0=>?_,fun i hi=>?_⟩
  ·cases r1 with
   | nil=>cases hx
   | cons h rem=>
    have hh:=(jY h).1 (by simp);have hxx:ops[h]? = some ops[h]:=Array.getElem?_eq_getElem hh.1
    have:h∈Region.ready .any ops bm:=by
     refine mem_ready.2 ⟨hh.2,_,hxx,fun e he hb=>?_⟩;obtain ⟨aq,n8⟩:=O4 h _ hxx e he hb;cases hg:bm.getD e.on false
     ·have SQ:bm.getD e.on true=false:=by grind
      have hm:=(jY e.on).2 ⟨by omega,SQ⟩;rcases dN hm with e1 | e1
      ·rw [e1] at aq;omega
      ·have:=(List.pairwise_cons.1 Tr).1 _ e1;omega
     ·rfl
    rw [h0] at this;cases this
  ·obtain ⟨O5,o,ho,fG⟩:=mem_ready.1 hi;have iw:=(Array.getElem?_eq_some_iff.1 ho).1;have vC:i∈r1:=(jY i).2 ⟨iw,O5⟩;have Ts:i∈r2:=(h12 i).1 vC;have fI:∀ j,j∈r1->ordB ops ops.size j i=true->False:=by grind [oD]
   have Tt:i≠y->∀ j∈r1,j≠i->π j < π i->nU ops W j i=true:=by
    intro Z0 j hj _ aq;rcases h1S i iw j ((jY j).1 hj).1 with ((h1 | h1) | h1) | h1
    ·have:¬ Nat.blt (π j) (π i)=true:=by simp [h1]
     simp at this;omega
    ·simp [vF] at h1;exact (Z0 h1.2).elim
    ·exact (fI j hj h1).elim
    ·exact h1
   have XV:i≠x->∀ j∈r2,j≠i->π' j < π' i->nU ops W j i=true:=by
    intro Oo j hj _ aq;rcases h2S i iw j ((HS j).1 hj).1 with ((h1 | h1) | h1) | h1
    ·have:¬ Nat.blt (π' j) (π' i)=true:=by simp [h1]
     simp at this;omega
    ·simp [vF] at h1;exact (Oo h1.2).elim
    all_goals grind
   have XW:Dn ops (bm.setIfInBounds i true):=by
    intro k z hz hk e he hb;by_cases uT:k=i
    ·subst uT;rw [ho] at hz;simp only [oI] at hz;subst hz;exact getD_set_true (fG e he hb)
    ·rw [getD_set_ne true (Ne.symm uT)] at hk;exact getD_set_true (hdn k z hz hk e he hb)
   have EQ:∀ (rem:List Nat),rem.Nodup->(∀ i,i∈rem↔i < ops.size/\bm.getD i true=false)->∀ k,k∈rem.erase i↔k < ops.size/\(bm.setIfInBounds i true).getD k true=false:=by
    intro rem hnd vB k;rw [List.Nodup.mem_erase_iff hnd];by_cases uT:k=i
    ·subst uT;simp [bW,iw]
    ·rw [getD_set_ne true (Ne.symm uT)]
     grind
   refine AE ho ?_;by_cases Oo:i=x
   ·subst Oo;have aW:=kN kg SP ho r1 a w (fun _=>hC) hr1 vC (Tt O7) Tr;refine fj ?_ aW;rintro a' w' ⟨Mn,lZ⟩;refine qQ (C:=C) (vF i y) ZZ h1S' hQ mf _ (r1.erase i) a' w' (by simp [bW]) XW (EQ r1 Mq jY) (Tr.sublist List.erase_sublist) (by rw [List.length_erase_of_mem vC];omega) ?_ ?_ lZ
    ·intro j hj k _;cases jL:vF i y j k
     ·rfl
     ·simp_all [vF]
    ·rintro ⟨l,z,hl,hz,hL⟩;refine Mn ?_ hC;have zW:=List.mem_of_mem_erase hl;have bA:l≠i:=((List.Nodup.mem_erase_iff Mq).1 hl).1;rcases Ct Tr vC zW bA.symm with h1 | h1
     ·exact SP i l z o h1 hz ho hL
     ·have:=Tt O7 l zW bA h1;obtain ⟨_,_,_,h4⟩:=gW this hz ho
      grind
   ·by_cases Z0:i=y
    ·subst Z0;have aW:=kN kg XU ho r2 a w (fun _=>hC) oi Ts (XV (Ne.symm O7)) EP;refine fj ?_ aW;rintro a' w' ⟨Mn,lZ⟩;refine qQ (C:=C) (vF i x) h2O h2S' hQ mf _ (r2.erase i) a' w' (by simp [bW]) XW (EQ r2 zX HS) (EP.sublist List.erase_sublist) ?_ ?_ ?_ lZ
     ·have e1:r1.length=r2.length:=(List.perm_iff_count.2 (fun z=>by rw [Mq.count,zX.count];simp [h12 z])).length_eq;rw [List.length_erase_of_mem Ts];omega
     ·intro j hj k _;cases jL:vF i x j k
      ·rfl
      ·simp_all [vF]
     ·rintro ⟨l,z,hl,hz,hL⟩;refine Mn ?_ hC;have zW:=List.mem_of_mem_erase hl;have bA:l≠i:=((List.Nodup.mem_erase_iff zX).1 hl).1;rcases Ct EP Ts zW bA.symm with h1 | h1
      ·exact XU i l z o h1 hz ho hL
      ·have:=XV (Ne.symm O7) l zW bA h1;obtain ⟨_,_,_,h4⟩:=gW this hz ho
       grind
    ·have hRo:isE o.op=false:=by
      simp only [chkT,List.all_eq_true,List.mem_range,Bool.or_eq_true,Nat.beq_eq] at hT
      grind
     obtain ⟨v,XX⟩:=qP kg ho hRo r1 a w hr1 vC (Tt Z0) Tr;have Hu:=kN kg SP ho r1 a w (fun _=>hC) hr1 vC (Tt Z0) Tr;have xc:=kN kg XU ho r2 a w (fun _=>hC) oi Ts (XV Oo) EP;have kh:=oC XX (fun _=>hC) Hu;have Kz:=oC XX (fun _=>hC) xc;refine ly XX (fun _=>hC) ?_
     exact ih _ (r1.erase i) (r2.erase i) _ w (by simp [bW]) XW (EQ r1 Mq jY) (EQ r2 zX HS) (Tr.sublist List.erase_sublist) (EP.sublist List.erase_sublist) (by rw [List.length_erase_of_mem vC];omega)
      ((List.Nodup.mem_erase_iff Mq).2 ⟨Ne.symm Oo,hx⟩) ((List.Nodup.mem_erase_iff Mq).2 ⟨Ne.symm Z0,hy⟩) hC kh.2 Kz.2
end
def selL (ops:List Oper):List Nat->List (Nat × Oper)
 | []=>[]
 | i :: r=>
  match ops[i]? with
  | some o=>(i,o) :: selL ops r
  | none=>selL ops r
theorem O8 {ops:List Oper} {l:List Nat} {p:Nat × Oper} (h:p∈selL ops l):ops[p.1]? = some p.2:=by
 induction l with
 | nil=>cases h
 | cons i r ih=>grind [selL]
def plc:List Nat->Nat->Nat
 | [],_=>0
 | x :: r,i=>if Nat.beq x i then 0 else plc r i + 1
def O9 (ops:Array Oper) (l:List Nat):Bool:=
 (selL ops.toList l).map (·.1) == l && (List.range ops.size).all (fun i=>l.contains i) && l.all (fun i=>Nat.blt i ops.size) && Nat.ble l.length ops.size && pwB (plc l) l
where pwB (f:Nat->Nat):List Nat->Bool
 | []=>true
 | x :: r=>r.all (fun y=>Nat.blt (f x) (f y)) && pwB f r
theorem xD {f:Nat->Nat}:∀ {l:List Nat},O9.pwB f l=true->l.Pairwise (fun a b=>f a < f b)
 | [],_=>List.Pairwise.nil
 | x :: r,h=>by
  simp only [O9.pwB,bc,List.all_eq_true,Nat.blt_eq] at h;exact List.pairwise_cons.2 ⟨h.1,xD h.2⟩
def aaY (ops:Array Oper) (W:Nat->Bool) (l l':List Nat) (x y:Nat):Bool:=
 !Nat.beq x y && Nat.blt x ops.size && Nat.blt y ops.size && O9 ops l && O9 ops l' && vA ops W (plc l) && EJ ops W (plc l) (vF x y) && vA ops W (plc l') && EJ ops W (plc l') (vF y x) && chkT ops x y
def swp (i j k:Nat):Nat:=
 match Nat.beq k i with
 | true=>j
 | false=>
  match Nat.beq k j with
  | true=>i
  | false=>k
theorem nj (i j k:Nat):swp i j (swp i j k)=k:=by
 have hb:∀ a b:Nat,Nat.beq a b=decide (a=b):=fun a b=>by
  by_cases h:a=b
  ·subst h;simp
  ·rw [decide_eq_false h];cases h1:Nat.beq a b
   ·rfl
   ·exact (h (sU h1)).elim
 grind [swp]
mutual
def renD (f:Nat->Nat):DV->DV
 | .v x=>.v x
 | .ud=>.ud
 | .agg l=>.agg (renL f l)
 | .tup l=>.tup (renL f l)
 | .sl e es tk=>.sl e es tk
 | .pt cs o=>.pt cs o
 | .loc i o=>.loc (f i) o
 | .el i o=>.el (f i) o
 | .ms i e o l c=>.ms (f i) e o l c
 | .fn g l r=>.fn g (renL f l) (renL f r)
 | .rB t x=>.rB t (renD f x)
def renL (f:Nat->Nat):List DV->List DV
 | []=>[]
 | d :: r=>renD f d :: renL f r
end
def renS (f:Nat->Nat):List (Nat × Sl)->List (Nat × Sl)
 | []=>[]
 | (k,⟨gs,s⟩) :: r=>(k,⟨gs,renD f s⟩) :: renS f r
def renO (f:Nat->Nat):List (List DV)->List (List DV)
 | []=>[]
 | cs :: r=>renL f cs :: renO f r
def swL {α:Type} (i j:Nat) (l:List α):List α:=
 match l[i]?,l[j]? with
 | some a,some b=>(l.set i b).set j a
 | _,_=>l
def eF (i j:Nat) (S:St):St:=⟨renS (swp i j) S.sl,swL i j (renO (swp i j) S.bx),S.tk⟩
theorem xE (f:Nat->Nat):∀ (l:List (List DV)) (k:Nat),(renO f l)[k]? = (l[k]?).map (renL f)
 | [],k=>by simp [renO]
 | c :: r,0=>by simp [renO]
 | c :: r,k + 1=>by simp only [renO,List.getElem?_cons_succ];exact xE f r k
theorem ff (f:Nat->Nat):∀ (l:List (List DV)),(renO f l).length=l.length
 | []=>rfl
 | c :: r=>by simp [renO,ff f r]
theorem ER (f:Nat->Nat):∀ (l:List (Nat × Sl)) (k:Nat),get (renS f l) k=(get l k).map fun x=>⟨x.gs,renD f x.s⟩
 | [],k=>rfl
 | (i,⟨gs,s⟩) :: r,k=>by
  simp only [renS,dO];split
  ·rfl
  ·exact ER f r k
theorem fX {α:Type} (i j:Nat) (l:List α):(swL i j l).length=l.length:=by
 unfold swL;split<;>simp
theorem gR {α:Type} {i j:Nat} {l:List α} (hi:i < l.length) (hj:j < l.length) (k:Nat):(swL i j l)[k]? = l[swp i j k]?:=by
 have hb:∀ a b:Nat,Nat.beq a b=true↔a=b:=fun a b=>by simp
 grind [swL,swp]
theorem Tu {α:Type} {i j:Nat} {l:List α} (hi:i < l.length) (hj:j < l.length):swL i j (swL i j l)=l:=by
 apply List.ext_getElem?
 grind [gR,fX,nj]
section
variable {E:En} {i j:Nat}
mutual
theorem Rv.H7 (hi:i < E.β.length) (hj:j < E.β.length):∀ {d:DV} {v:Value},Rv E (renD (swp i j) d) v->Rv ⟨E.c,swL i j E.β,E.tk,E.τ⟩ d v
 | .v x,v,h=>by simp only [renD] at h;unfold Rv at h ⊢;exact h
 | .ud,v,h=>by simp only [renD] at h;unfold Rv at h ⊢;exact h
 | .sl e es tk,v,h=>by simp only [renD] at h;unfold Rv at h ⊢;exact h
 | .pt cs o,v,h=>by simp only [renD] at h;unfold Rv at h ⊢;exact h
 | .loc k o,v,h=>by grind [renD,Rv,swL,gR]
 | .el k o,v,h=>by grind [renD,Rv,swL,gR]
 | .ms k e o l c,v,h=>by grind [renD,Rv,swL,gR]
 | .agg l,v,h=>by
  simp only [renD] at h;unfold Rv at h ⊢;obtain ⟨vs,h1,h2,h3⟩:=h;exact ⟨vs,h1,RvL.H7 hi hj h2,h3⟩
 | .tup l,v,h=>by
  simp only [renD] at h;unfold Rv at h ⊢;obtain ⟨vs,h1,h2⟩:=h;exact ⟨vs,h1,RvL.H7 hi hj h2⟩
 | .fn g l r,v,h=>by
  simp only [renD] at h;unfold Rv at h ⊢;obtain ⟨l',r',h1,h2,h3⟩:=h;exact ⟨l',r',h1,RvL.H7 hi hj h2,RvL.H7 hi hj h3⟩
 | .rB t x,v,h=>by
  simp only [renD] at h;unfold Rv at h ⊢;obtain ⟨z,h1,h2⟩:=h;exact ⟨z,h1,Rv.H7 hi hj h2⟩
theorem RvL.H7 (hi:i < E.β.length) (hj:j < E.β.length):∀ {l:List DV} {vs:List Value},RvL E (renL (swp i j) l) vs->RvL ⟨E.c,swL i j E.β,E.tk,E.τ⟩ l vs
 | [],vs,h=>by simp only [renL,RvL] at h ⊢;exact h
 | d :: r,vs,h=>by
  simp only [renL,RvL] at h ⊢;obtain ⟨v,s,h1,h2,h3⟩:=h;exact ⟨v,s,h1,Rv.H7 hi hj h2,RvL.H7 hi hj h3⟩
end
end
theorem KA {α:Type} {i j:Nat} {l:List α} (hi:i < l.length) (hj:j < l.length) {x:α}:x∈swL i j l↔x∈l:=by grind [swL,gR,fX,Tu]
theorem Mr {i j:Nat} {l:List Nat} (hi:i < l.length) (hj:j < l.length) (h:l.Nodup):(swL i j l).Nodup:=by grind [swp,fX,swL,gR,nj]
theorem pu {P:Program} {ops:Array Oper} {W:Nat->Bool} {C:World->Prop} {Q Q':Act->World->Prop} (hQ:∀ a w,Q a w->Q' a w):∀ {l:List Nat} {a:Act} {w:World},runT P ops W C Q l a w->runT P ops W C Q' l a w
 | [],a,w,h=>hQ _ _ h
 | i :: r,a,w,h=>by
  simp only [runT] at h ⊢;split at h
  ·exact h.elim
  ·split at h
   ·rename_i hE;rw [ap hE];exact fj (fun a w hk=>⟨hk.1,pu hQ hk.2⟩) h
   ·rename_i hE;rw [aj hE];obtain ⟨v,h1,h2,h3⟩:=h;exact ⟨v,h1,h2,pu hQ h3⟩
section
variable {X:Ctx} {E:En} {S:St} {a:Act} {w:World} {i j:Nat}
theorem ES (hX:X.bt=[]) (h:Rel X E (eF i j S) a w) (OP:X.n0<=i) (xf:X.n0<=j) (hi:i < S.bx.length) (hj:j < S.bx.length):Rel X ⟨E.c,swL i j E.β,E.tk,E.τ⟩ S a w:=by
 have hlen:E.β.length=S.bx.length:=by
  rw [h.env.len];simp only [eF,fX,ff]
 have iw:i < E.β.length:=by rw [hlen];exact hi
 have jL:j < E.β.length:=by rw [hlen];exact hj
 have mO:∀ k,(eF i j S).bx[k]? = (S.bx[swp i j k]?).map (renL (swp i j)):=fun k=>by grind [eF,gR,ff,xE]
 exact {
  env:={
   len:=by rw [fX];exact hlen
   tl:=h.env.tl
   eM:=fun k cs hk=>by
    obtain ⟨b,ty,arr,hb,hw,hc⟩:=h.env.eM (swp i j k) (renL (swp i j) cs) (by rw [mO,nj,hk];rfl);exact ⟨b,ty,arr,by rw [gR iw jL];exact hb,hw,RvL.H7 iw jL hc.1,hc.2⟩
   inj:=Mr iw jL h.env.inj
   sub:=h.env.sub
   pc:=fun x v hx hm=>h.env.pc x v hx ((KA iw jL).1 hm)
   bO:=fun k q y hq hy=>by
    rcases h.env.bO k q y hq hy with h1 | ⟨g,cap,cur,rfl,h1,h2,h3,h4,h5,h6⟩
    ·exact .inl h1
    ·exact .inr ⟨g,cap,cur,rfl,h1,h2,h3,h4,fun hm=>h5 ((KA iw jL).1 hm),h6⟩
   je:=h.env.je }
  tk:=h.tk
  sz:=h.sz
  tm:=fun k x hx=>by
   have:=h.tm k ⟨x.gs,renD (swp i j) x.s⟩ (by simp only [eF];rw [ER,hx];rfl)
   grind [Rv.H7]
  df:=h.df
  nw:={
   c:=h.nw.c
   cn:=h.nw.cn
   β:=by
    obtain ⟨r,hr,hl⟩:=h.nw.β;have hE0:X.E0.β.length=X.n0:=X.p9;refine ⟨(swL i j E.β).drop X.n0,?_,fun b hb=>?_⟩
    ·grind [swL,gR,swp]
    ·have hnd:=h.env.inj;obtain ⟨k,hk⟩:=List.mem_iff_getElem?.1 hb;rw [List.getElem?_drop,gR iw jL] at hk;have hge:X.n0<=swp i j (X.n0 + k):=by grind [swp]
     rw [hr,List.getElem?_append_right (by omega)] at hk;exact hl b (mG hk)
   tk:=h.nw.tk
   tn:=h.nw.tn
   l0:=h.nw.l0 }
  fr:=h.fr
  sh:=h.sh
  bt:=.nil hX }
theorem Cu (hX:X.bt=[]) (h:Rel X E (eF i j S) a w) (OP:X.n0<=i) (xf:X.n0<=j) (hi:i < S.bx.length) (hj:j < S.bx.length):∃ E',Rel X E' S a w:=⟨_,ES hX h OP xf hi hj⟩
end
def KB (sl:List (Nat × Sl)):List (Nat × Sl)->Prop
 | []=>True
 | p :: r=>get sl p.1=some p.2/\KB sl r
theorem xF {sl:List (Nat × Sl)}:∀ {l:List (Nat × Sl)},KB sl l->∀ i x,get l i=some x->get sl i=some x
 | [],_,i,x,hx=>by cases hx
 | (k,y) :: r,h,i,x,hx=>by
  simp only [dO] at hx;split at hx
  ·rename_i uT;subst uT;simp only [oI] at hx;subst hx;exact h.1
  ·exact xF h.2 i x hx
def uniqS:List Nat->List (Nat × Sl)->List (Nat × Sl)
 | _,[]=>[]
 | m,p :: r=>
  match muB m p.1 with
  | true=>uniqS m r
  | false=>p :: uniqS (p.1 :: m) r
theorem tI:∀ (l:List (Nat × Sl)) (m:List Nat) (i:Nat),muB m i=false->get (uniqS m l) i=get l i
 | [],_,_,_=>rfl
 | (k,x) :: r,m,i,h=>by
  simp only [uniqS]
  cases hm:muB m k with
  | true=>
   simp only;rw [tI r m i h,dO,aj];rintro rfl;rw [hm] at h;cases h
  | false=>
   simp only [dO];by_cases hk:k=i
   ·rw [ap hk,ap hk]
   ·rw [aj hk,aj hk]
    exact tI r (k :: m) i (by simp only [muB,h,Bool.or_false];cases hb:Nat.beq k i with
     | true=>exact (hk (Nat.eq_of_beq_eq_true hb)).elim
     | false=>rfl)
def ei (s S:St):Prop:=s.bx=S.bx/\s.tk=S.tk/\KB s.sl (uniqS [] S.sl)
theorem rQ {X:Ctx} {E:En} {s S:St} {a:Act} {w:World} (h:Rel X E s a w) (hs:ei s S):Rel X E S a w where
 env:=by rw [<- hs.1];exact h.env
 tk:=by rw [<- hs.2.1];exact h.tk
 sz:=h.sz
 tm:=fun i x hx=>h.tm i x (xF hs.2.2 i x (by rw [tI _ _ _ rfl];exact hx))
 df:=h.df
 nw:=h.nw
 fr:=h.fr
 sh:=h.sh
 bt:=h.bt
theorem pw {X:Ctx} {id:Nat} {ops:Array Oper} {k:List It} {st:St} (W:Nat->Bool) (x y:Nat) (l l':List Nat) (i j:Nat) (hm:X.P.follows .mixedOrders=true) (hc:aaY ops W l l' x y=true) (S:St)
  (h:goD X ⟨ops,W,[.wV fun s=>s=S],st,none⟩ 3000 true (selL ops.toList l) st.sl st) (h':goD X ⟨ops,W,[.wV fun s=>ei s (eF i j S)],st,none⟩ 3000 true (selL ops.toList l') st.sl st)
  (l9:(Nat.ble X.n0 i && Nat.ble X.n0 j && Nat.blt i S.bx.length && Nat.blt j S.bx.length)=true) (hk:go X 4000 k S) (hX:X.bt=[]:=by exact rfl):l6 X id ops k st:=by
 intro E a w hr;have lZ:=jK hr;simp only [bc,Nat.ble_eq,Nat.blt_eq] at l9;simp only [aaY,O9,bc,List.all_eq_true,Nat.blt_eq,Nat.ble_eq,beq_iff_eq,List.mem_range,Bool.not_eq_true'] at hc;obtain ⟨⟨⟨⟨⟨⟨⟨⟨⟨O7,HA⟩,hys⟩,⟨⟨⟨h1a,Z1⟩,h1c⟩,hlen⟩,h1d⟩,⟨⟨⟨h2a,h2b⟩,h2c⟩,_⟩,h2d⟩,ZZ⟩,h1S⟩,h2O⟩,h2S⟩,hT⟩:=hc
 have hQ:∀ S',(S'=S∨S'=eF i j S)->∀ a w,(∃ st E,Rel X E st a w/\(st=S' ∨ ei st S'))->kq X k .normal a w:=by
  rintro S' hS a w ⟨rn,E1,hrel0,Ew⟩;have bS:Rel X E1 S' a w:=by grind [rQ]
  rcases hS with rfl | rfl
  ·exact go_sound 4000 _ _ hk E1 a w bS
  ·obtain ⟨E2,oB⟩:=Cu hX bS l9.1.1.1 l9.1.1.2 l9.1.2 l9.2;exact go_sound 4000 _ _ hk E2 a w oB
 have key:∀ (S':St),(S'=S∨S'=eF i j S)->∀ (l:List Nat),(selL ops.toList l).map (·.1)=l->∀ J:St->Prop,(∀ s,J s->s=S' ∨ ei s S')->(goD X ⟨ops,W,[.wV J],st,none⟩ 3000 true (selL ops.toList l) st.sl st) ->
   runT X.P ops W (CC E st.bx w.drew) (fun a w=>kq X k .normal a w) l a w.drew:=by
  intro S' hS l hl J hJ h;have hs:=nh lZ (ops:=ops) (W:=W) (k:=[.wV J]);have:=gw (D:=⟨⟨ops,W,[.wV J],st,none⟩,E,w.drew⟩) lZ.env.em 3000 true _ _ _ h (fun p hp=>by simpa using O8 hp) E a w.drew hs;rw [hl] at this;exact pu (fun a w ⟨st,E1,h1,h2⟩=>hQ S' hS a w ⟨st,E1,h1,hJ st h2⟩) this
 have e1:=key S (.inl rfl) l h1a _ (fun s hs=>.inl hs) h;have e2:=key (eF i j S) (.inr rfl) l' h2a _ (fun s hs=>.inr hs) h';refine wp_region_any hm ?_
 have KC:∀ (l:List Nat),(∀ i,i < ops.size->l.contains i=true)->(∀ i∈l,i < ops.size)->∀ i,i∈l↔i < ops.size/\(Array.replicate ops.size false).getD i true=false:=by
  intro l ha hb i;constructor
  all_goals simp_all
 have hxy':x≠y:=by
  intro e;subst e;simp at O7
 refine H6 (C:=CC E st.bx w.drew) (π:=plc l) (π':=plc l') (Q:=kq X k .normal) hxy' ZZ h1S h2O h2S hT (fun a w h=>h) ops.size (Array.replicate ops.size false) l l' a _ (by simp) ?_ (KC l Z1 h1c) (KC l' h2b h2c) (xD h1d) (xD h2d) hlen
  (by simpa using Z1 x HA) (by simpa using Z1 y hys) ⟨fun _ _ _ _ _ _=>rfl,lZ.env.sub⟩ e1 e2
 intro i o ho hl;have:i < ops.size:=(Array.getElem?_eq_some_iff.1 ho).1;simp [this] at hl
end Dv
end Go.Proofs.YtgjagnmeonoehaaGreat
namespace Go.Proofs.YtgjagnmeonoehaaGreat
namespace Dv
open Go Go.RowKit
section
variable {X:Ctx} {st:St} {k:List It} {E:En} {a:Act} {w:World}
noncomputable def En.HC (E:En) (w:World):En:=⟨tD E 0 w,[],[],[]⟩
theorem Tv {bx:List (List DV)} (h:Env E bx w):Env (E.HC w) [] w where
 len:=rfl
 tl:=rfl
 eM:=by simp
 inj:=List.nodup_nil
 sub:=fun x u hx=>by
  rcases fi hx with ⟨_,h1⟩ | h1
  ·exact h1
  ·exact h.sub x u h1
 pc:=by simp [En.HC]
 bO:=by simp [En.HC]
 je:=by simp [En.HC]
theorem Tw {bx:List (List DV)} (h:Env E bx w):Om E (E.HC w) bx 0 where
 c:=fun x u hx=>na h hx
 fz:=fun i cs hi hcs=>by
  obtain ⟨b,ty,arr,hb,hw,hc⟩:=h.eM i cs hcs;refine ⟨b,arr,hb,hc,fun j u hj=>?_⟩;show tD E 0 w ⟨b,j,none⟩=some u;unfold tD;rw [ap ⟨i,hi,hb⟩,cC hw];simpa using hj
theorem kj {P:Program} {s:Bool} {bx:List (List DV)} (h:Env E bx w) {f:FuncId} {args bB:List DV} {vs:List Value} {y:DV} (hc:XK s P f bB [] [] fun d _ _=>d=y) (ha:CcL bx 0 0 0 bB args) (hv:RvL E args vs) :
  Calls P f vs.toArray w fun e w'=>∃ v E2,e = .returned v/\Rv E2 y v/\rC (fun _=>False) w w' /\ (s=true->∃ q,w'=w.drewN q):=by
 have Oe:RvL (E.HC w) bB vs:=CcL.sound (Tw h) (Ku.zero _ _) ha hv;refine (hc (E.HC w) w vs (Tv h) rfl Oe).mono ?_;rintro e w' ⟨v,rfl,hm,hs,d,os,E2,he,hβ,jl,hn,Cr,rfl⟩;refine ⟨v,E2,rfl,Cr,⟨hm.os,hm.tape,hm.output,hm.size,fun i hi _=>hm.block i hi ?_⟩,hs⟩;rintro (h1 | ⟨y,h1,_⟩)
 ·simp [En.HC] at h1
 ·simp [En.HC] at h1
theorem Cv {f:FuncId} {args bB:List DV} {d:Nat} {y:Value} (lm:Enters X.P f) (hc:EvP X.P f bB (.v y)) (ha:CcL st.bx 0 0 0 bB args) (hd:eJ X.nt st.sl (some d)=true)
  (hk:go X 4000 k ⟨(d,⟨[],.v y⟩) :: st.sl,st.bx,st.tk⟩) (aW:X.still=false:=by exact rfl):CallG X f args (some d) k st:=by
 refine ⟨lm,aW,fun E a w vs h hv=>(kj h.env hc ha hv).mono ?_⟩;rintro e w' ⟨v,E2,rfl,hr,hm,_⟩;have hh:∀ i,i < w.heap.size->w'.heap[i]? = w.heap[i]?:=fun i hi=>hm.block i hi (fun h=>h);have bS:Rel X E st a w':=dE h (Ext.refl E) (h.env.kb hh) h.tk h.nw (h.fr.cI hm.os hm.tape hm.output hm.size fun i hi=>.inr (hh i hi)) (mV aW) (h.bt.kb fun b hb=>hh b (h.env.bh hb));unfold Rv at hr;exact go_sound 4000 _ _ hk E _ w' (bi bS hd (.v y) v (by unfold Rv;exact hr))
end
end Dv
end Go.Proofs.YtgjagnmeonoehaaGreat
namespace Go.Proofs.YtgjagnmeonoehaaGreat
namespace Dv
open Go Go.RowKit
def Pa (bx:List (List DV)) (N m:Nat) (sl:List (Nat × Sl)):List (Nat × Sl)->Prop
 | []=>True
 | p :: r=>(∃ x,get sl p.1=some ⟨p.2.gs,x⟩/\Cc bx N N m p.2.s x)/\Pa bx N m sl r
theorem AF {bx:List (List DV)} {N m:Nat} {sl:List (Nat × Sl)}:∀ {l:List (Nat × Sl)},Pa bx N m sl l->∀ i x',get l i=some x' -> ∃ x,get sl i=some ⟨x'.gs,x⟩/\Cc bx N N m x'.s x
 | [],_,i,x',hx=>by cases hx
 | (k,y) :: r,h,i,x',hx=>by
  simp only [dO] at hx;split at hx
  ·rename_i uT;subst uT;simp only [oI] at hx;subst hx;exact h.1
  ·exact AF h.2 i x' hx
section
variable {X:Ctx} {E:En} {st st':St} {a:Act} {w:World} {k:List It}
theorem KD (h:Rel X E st a w) (N:Nat) (hN:X.n0<=N) (hNl:N<=st.bx.length) (mO:n4 st.bx N N st.tk.length st'.bx (st.bx.take N)) (jl:st'.tk=st.tk) (ov:Pa st.bx N st.tk.length st.sl st'.sl):∃ E',Rel X E' st' a w:=by
 obtain ⟨r,XG,hβl⟩:=h.nw.β;have hlen:E.β.length=st.bx.length:=h.env.len
 have eN:∀ (i:Nat) b,X.n0<=i->E.β[i]? = some b->b∈r:=fun i b hi hb=>by
  rw [XG,List.getElem?_append_right (by rw [X.p9];exact hi)] at hb;exact mG hb
 let E':En:=⟨tD E N w,E.β.take N,E.tk,E.τ⟩
 have Tg:Om E E' st.bx N:={
  c:=fun x u hx=>na h.env hx
  fz:=fun i cs hi hcs=>by
   obtain ⟨b,ty,arr,hb,hw,hc⟩:=h.env.eM i cs hcs;refine ⟨b,arr,hb,hc,fun j u hj=>?_⟩;show tD E N w ⟨b,j,none⟩=some u;unfold tD;rw [ap ⟨i,hi,hb⟩,cC hw]
   simpa using hj }
 have Cp:Ku E E' N st.tk.length:={
  β:=fun i b hi hb=>by show (E.β.take N)[i]? = _;rw [cR,ap hi];exact hb
  tk:=fun k hk=>⟨rfl,rfl⟩ }
 have XH:∀ (i:Nat) b,N<=i->E.β[i]? = some b->b ∉ E.β.take N:=fun i b hi hb hm=>by
  obtain ⟨j,hj⟩:=List.getElem?_of_mem hm;rw [cR] at hj;split at hj
  ·rename_i hjN;have:=(List.getElem?_inj (gS hb).1 h.env.inj).1 (hb.trans hj.symm);omega
  ·cases hj
 obtain ⟨lx,hog⟩:=mO.get;refine ⟨E',?_⟩
 exact {
  env:={
   len:=by grind
   tl:=h.env.tl
   eM:=fun i cs' hi=>by
    obtain ⟨cs,hcs,qJ⟩:=hog i cs' hi;rw [cR] at hcs;split at hcs
    ·rename_i aq;obtain ⟨b,ty,arr,hb,hw,hc⟩:=h.env.eM i cs hcs;exact ⟨b,ty,arr,Cp.β i b aq hb,hw,CcL.sound Tg Cp qJ hc.1,hc.2⟩
    ·cases hcs
   inj:=h.env.inj.sublist (List.take_sublist _ _)
   sub:=fun x u hx=>by
    rcases fi hx with ⟨_,h1⟩ | h1
    ·exact h1
    ·exact h.env.sub x u h1
   pc:=fun x u hx hm=>by
    rcases fi hx with ⟨⟨i,hi,hb⟩,_⟩ | h1
    ·exact XH i _ hi hb hm
    ·exact h.env.pc x u h1 (List.mem_of_mem_take hm)
   bO:=fun k q y hq hy=>by
    rcases h.env.bO k q y hq hy with h1 | ⟨g,cap,cur,rfl,h1,h2,h3,h4,h5,h6⟩
    ·exact .inl h1
    ·refine .inr ⟨g,cap,cur,rfl,h1,⟨h2.1,h2.2.mono fun _ _ hx=>na h.env hx⟩,h3,h4,fun hm=>h5 (List.mem_of_mem_take hm),fun x u hx hg=>?_⟩;rcases fi hx with ⟨⟨i,hi,hb⟩,_⟩ | h7
     all_goals grind
   je:=h.env.je }
  tk:=by rw [jl];exact h.tk
  sz:=h.sz
  tm:=fun i x' Aq=>by
   obtain ⟨x,hx,qJ⟩:=AF ov i x' Aq;have:=h.tm i _ hx
   grind [Cc.sound]
  df:=h.df
  nw:={
   c:=fun x u hx=>na h.env (h.nw.c x u hx)
   cn:=fun x u hx=>by
    rcases fi hx with ⟨⟨i,hi,hb⟩,_⟩ | h1
    ·grind
    ·exact h.nw.cn x u h1
   β:=by
    refine ⟨r.take (N - X.n0),?_,fun b hb=>hβl b (List.mem_of_mem_take hb)⟩;show E.β.take N=_;rw [XG,List.take_append,List.take_of_length_le (by rw [X.p9];omega),X.p9]
   tk:=h.nw.tk
   tn:=h.nw.tn
   l0:=h.nw.l0 }
  fr:=h.fr
  sh:=h.sh
  bt:=h.bt.sub _ }
theorem Pb {c:Code} (N:Nat) (rn:St) (hN:Nat.ble X.n0 N=true) (hNl:Nat.ble N st.bx.length=true) (jl:rn.tk=st.tk) (mO:n4 st.bx N N st.tk.length rn.bx (st.bx.take N)) (ov:Pa st.bx N st.tk.length st.sl rn.sl)
  (hk:uQ X c k rn):uQ X c k st:=by
 intro E a w h;obtain ⟨E',h'⟩:=KD h N (nL hN) (nL hNl) mO jl ov;exact hk E' a w h'
theorem cX {n0 m0:Nat} {st st':St} (n:Nat) (q:TkE) (hq:q.new=true) (hn:Nat.ble n st.bx.length=true) (h3:st.tk ++ [q]=st'.tk) (h2:WeLL n st.tk.length st'.tk (st.bx.take n) st'.bx) (h4:Nat.ble n0 n=true) (h5:Nat.ble m0 st.tk.length=true)
  (h:oA n st.tk.length st'.tk st.sl st'.sl):qf n0 m0 st st':=by
 have hl:(st.bx.take n).length=n:=by simp_all
 exact ⟨st.tk,[],[q],st.bx.take n,st.bx.drop n,by simpa using h5,by rw [hl];simpa using h4,by simp,h3.symm,by simpa using hq,(List.take_append_drop n st.bx).symm,by rw [hl];exact h2,by rw [hl];exact h⟩
end
end Dv
end Go.Proofs.YtgjagnmeonoehaaGreat
namespace Go.Proofs.YtgjagnmeonoehaaGreat
namespace Dv
open Go Go.RowKit
section
variable {X:Ctx} {st:St} {k:List It} {E:En} {a:Act} {w:World}
theorem nk {f:FuncId} {rest Pc cs cs':List DV} {i d:Nat} (lm:Enters X.P f) (hd:eJ X.nt st.sl (some d)=true) (mO:st.bx[i]? = some cs) (hcs:CcL [] 0 0 0 cs' cs) (ha:CcL [] 0 0 0 Pc rest)
  {Φ:DV->List (List DV)->List TkE->Prop} (hc:Ev X.P f (.loc 0 0 :: Pc) [cs'] [] Φ) (fU:∀ r os tk,Φ r os tk->clB 0 0 r=true/\∀ s9∈os,clB.clL 0 0 s9=true)
  (hk:∀ r s9,Φ r [s9] []->go X 4000 k ⟨(d,⟨[],r⟩) :: st.sl,st.bx.set i s9,st.tk⟩) (aW:X.still=false:=by exact rfl) (hX:X.bt=[]:=by exact rfl):CallG X f (.loc i 0 :: rest) (some d) k st:=by
 refine ⟨lm,aW,fun E a w vs h hv=>?_⟩;simp only [RvL] at hv;obtain ⟨v1,vr,rfl,h1,hvr⟩:=hv;unfold Rv at h1;obtain ⟨b,hb,rfl⟩:=h1;obtain ⟨b',ty,arr,fD,hw,qJ⟩:=h.env.eM i cs mO;rw [hb] at fD;simp only [oI] at fD;subst fD;have AG:b∈E.β:=mG hb;have XY:=h.env.bh AG
 let E1:En:=⟨E.c,[b],[],[]⟩
 have hx1:Ext E.cl E1:=⟨fun _ _ h=>h,fun j b hj=>by simp [En.cl] at hj,fun k q hk=>by simp [En.cl] at hk⟩;have hfz:Om E E.cl [] 0:=⟨fun _ _ h=>h,fun i cs _ hi=>by simp at hi⟩
 have Tx:Env E1 [cs'] w:={
  len:=rfl
  tl:=rfl
  eM:=fun j VE hj=>by
   cases j with
   | succ j=>simp at hj
   | zero=>
    simp only [List.getElem?_cons_zero,oI] at hj;subst hj;refine ⟨b,ty,arr,rfl,hw,RvL.mono hx1 (CcL.sound hfz (Ku.zero _ _) hcs qJ.1),qJ.2⟩
  inj:=by simp [E1]
  sub:=h.env.sub
  pc:=fun x v hx hm=>by
   simp only [E1,List.mem_singleton] at hm;exact h.env.pc x v hx (by rw [hm];exact AG)
  bO:=by simp [E1]
  je:=by simp [E1] }
 have vX:RvL E1 (.loc 0 0 :: Pc) (.pointer (some ⟨b,0,none⟩) :: vr):=rvL_cons (by unfold Rv;exact ⟨b,rfl,rfl⟩) (RvL.mono hx1 (CcL.sound hfz (Ku.zero _ _) ha hvr));refine (hc E1 w _ Tx rfl vX).mono ?_;rintro e w' ⟨v,rfl,hm,_,r,os,E2,he,hβ,jl,hn,Cr,hΦ⟩;have ht0:E2.tk=[]:=List.eq_nil_of_length_eq_zero jl;rw [ht0] at hΦ
 obtain ⟨s9,rfl⟩:∃ s9,os=[s9]:=by
  have:=he.len;rw [hβ] at this
  match os,this with
  | [x],_=>exact ⟨x,rfl⟩
 obtain ⟨hclr,hclc⟩:=fU _ _ _ hΦ
 have hh:∀ j,j < w.heap.size->j≠b->w'.heap[j]? = w.heap[j]?:=fun j hj bA=>hm.block j hj (by
  rintro (h1 | ⟨y,h1,_⟩)
  ·simp only [E1,List.mem_singleton] at h1;exact bA h1
  ·simp [E1] at h1)
 have eN:∀ x v,E2.c x=some v->E.c x=some v∨w.heap.size<=x.block:=fun x v hx=>by
  rcases hn.cn x v hx with h1 | h1 | ⟨y,h1,_⟩
  ·exact .inl h1
  ·exact .inr h1
  ·simp [E1] at h1
 let E':En:=⟨E2.c,E.β,E.tk,E.τ⟩
 have hx:Ext E E':=⟨hn.c,fun _ _ h=>h,fun _ q h=>⟨q,h,.inl ⟨rfl,rfl⟩⟩⟩;have KE:Ext (E2.cut 0 0) E':=⟨fun _ _ h=>h,fun j b hj=>by simp [En.cut] at hj,fun k q hk=>by simp [En.cut] at hk⟩
 have bS:Rel X E' ⟨st.sl,st.bx.set i s9,st.tk⟩ a w':=by
  refine dE h hx ?_ h.tk ?_ (h.fr.cI hm.os hm.tape hm.output hm.size fun j hj=>?_) (mV aW) (.nil hX)
  ·exact {
    len:=by rw [List.length_set];exact h.env.len
    tl:=h.env.tl
    eM:=fun j VE hj=>by
     by_cases Te:j=i
     ·subst Te;rw [gz (gS mO).1] at hj;simp only [oI] at hj;subst hj;obtain ⟨b2,ty2,XZ,iQ,pk,oe⟩:=he.eM 0 s9 rfl;rw [hβ] at iQ;simp only [E1,List.getElem?_cons_zero,oI] at iQ;subst iQ;exact ⟨b,ty2,XZ,hb,pk,RvL.mono KE (RvL.cut oe.1 (hclc s9 (by simp))),oe.2⟩
     ·rw [List.getElem?_set_ne (Ne.symm Te)] at hj;obtain ⟨bj,tyj,X0,VF,hwj,Xu⟩:=h.env.eM j VE hj
      have bA:bj≠b:=by
       rintro rfl;exact Te ((List.getElem?_inj (gS VF).1 h.env.inj).1 (VF.trans hb.symm))
      exact ⟨bj,tyj,X0,VF,by rw [hh bj (dD hwj) bA];exact hwj,Xu.mono hx⟩
    inj:=h.env.inj
    sub:=he.sub
    pc:=fun x v hc qm=>by
     rcases eN x v hc with h1 | h1
     ·exact h.env.pc x v h1 qm
     ·have:=h.env.bh qm;omega
    bO:=fun k q y hq hy=>by
     rcases h.env.bO k q y hq hy with h1 | ⟨g',cap,cur,rfl,h1,h2,h3,h4,h5,h6⟩
     ·exact .inl h1
     ·refine .inr ⟨g',cap,cur,rfl,by rw [hh g' (dD h1) (fun e=>h5 (by rw [e];exact AG))];exact h1,⟨h2.1,h2.2.mono hn.c⟩,h3,h4,h5,fun x v hc hg=>?_⟩;rcases eN x v hc with h7 | h7
      ·exact h6 x v h7 hg
      ·have:=dD h1;omega
    je:=h.env.je }
  ·exact {
    c:=fun x v hc=>hn.c x v (h.nw.c x v hc)
    cn:=fun x v hc=>by
     rcases eN x v hc with h1 | h1
     ·exact h.nw.cn x v h1
     ·have:=h.fr.size;exact .inr (.inl (by omega))
    β:=h.nw.β
    tk:=h.nw.tk
    tn:=h.nw.tn
    l0:=h.nw.l0 }
  ·by_cases Xv:j=b
   ·left;obtain ⟨r0,hr0,KC⟩:=h.nw.β;rw [hr0] at AG;rcases List.mem_append.1 AG with AG | AG
    ·exact .inl (.inl (Xv ▸ AG))
    ·exact .inr (Xv ▸ KC b AG)
   ·exact .inr (hh j hj Xv)
 exact go_sound 4000 _ _ (hk r s9 hΦ) E' _ w' (bi bS hd r v (Rv.mono KE (Rv.cut Cr hclr)))
end
end Dv
end Go.Proofs.YtgjagnmeonoehaaGreat
namespace Go.Proofs.YtgjagnmeonoehaaGreat
namespace Dv
open Go
def tt:TT:=.ah 229 ⟨1,false,.fn,[.nilFunc]⟩ (.ah 114 ⟨1,false,.sl 91 7 88,[.slice none 0 0]⟩ (.ah 55 ⟨1,false,.fn,[.nilFunc]⟩ (.ah 27 ⟨2,true,.st [(0,9),(1,3)],[.string ByteArray.empty,.int .i64 0]⟩ (.ah 14 ⟨2,true,.st [(0,9),(1,12)],[.string ByteArray.empty,.int .u64 0]⟩ (.ah 7 ⟨4,true,.st [(0,2),(1,3),(2,4),(3,6)],[.int .i64 0,.int .i64 0,.bool false,.int .u8 0]⟩ (.ah 4 ⟨1,false,.bool,[.bool false]⟩ (.ah 2 ⟨1,false,.int .i64,[.int .i64 0]⟩ (.ah 1 ⟨1,false,.fn,[.nilFunc]⟩ (.nil) (.nil)) (.ah 3 ⟨1,false,.int .i64,[.int .i64 0]⟩ (.nil) (.nil))) (.ah 6 ⟨1,false,.int .u8,[.int .u8 0]⟩ (.ah 5 ⟨1,false,.int .u8,[.int .u8 0]⟩ (.nil) (.nil)) (.nil))) (.ah 11 ⟨1,false,.str,[.string ByteArray.empty]⟩ (.ah 9 ⟨1,false,.str,[.string ByteArray.empty]⟩ (.ah 8 ⟨4,true,.st [(0,2),(1,3),(2,4),(3,6)],[.int .i64 0,.int .i64 0,.bool false,.int .u8 0]⟩ (.nil) (.nil)) (.ah 10 ⟨1,false,.str,[.string ByteArray.empty]⟩ (.nil) (.nil))) (.ah 13 ⟨2,true,.st [(0,9),(1,12)],[.string ByteArray.empty,.int .u64 0]⟩ (.ah 12 ⟨1,false,.int .u64,[.int .u64 0]⟩ (.nil) (.nil)) (.nil)))) (.ah 21 ⟨1,false,.int .i32,[.int .i32 0]⟩ (.ah 18 ⟨1,true,.st [(0,17)],[.pointer none]⟩ (.ah 16 ⟨1,false,.ptr 452,[.pointer none]⟩ (.ah 15 ⟨1,false,.ptr 449,[.pointer none]⟩ (.nil) (.nil)) (.ah 17 ⟨1,false,.ptr 459,[.pointer none]⟩ (.nil) (.nil))) (.ah 20 ⟨1,false,.rB,[.nilIface]⟩ (.ah 19 ⟨1,true,.st [(0,17)],[.pointer none]⟩ (.nil) (.nil)) (.nil))) (.ah 24 ⟨1,false,.sl 124 11 136,[.slice none 0 0]⟩ (.ah 23 ⟨1,false,.sl 171 4 48,[.slice none 0 0]⟩ (.ah 22 ⟨1,false,.sl 27 2 24,[.slice none 0 0]⟩ (.nil) (.nil)) (.nil)) (.ah 26 ⟨2,true,.st [(0,9),(1,3)],[.string ByteArray.empty,.int .i64 0]⟩ (.ah 25 ⟨1,false,.sl 109 18 224,[.slice none 0 0]⟩ (.nil) (.nil)) (.nil))))) (.ah 40 ⟨1,false,.fn,[.nilFunc]⟩ (.ah 34 ⟨4,true,.st [(0,3),(1,3),(2,9),(3,32)],[.int .i64 0,.int .i64 0,.string ByteArray.empty,.slice none 0 0]⟩ (.ah 31 ⟨12,true,.st [(0,22),(1,23),(2,24),(3,29)],[.slice none 0 0,.slice none 0 0,.slice none 0 0,.int .i64 0,.int .i64 0,.int .i64 0,.int .i64 0,.int .i64 0,.slice none 0 0,.slice none 0 0,.string ByteArray.empty,.int .i64 0]⟩ (.ah 29 ⟨9,true,.st [(0,3),(1,3),(2,3),(3,3),(4,3),(5,22),(6,25),(7,27)],[.int .i64 0,.int .i64 0,.int .i64 0,.int .i64 0,.int .i64 0,.slice none 0 0,.slice none 0 0,.string ByteArray.empty,.int .i64 0]⟩ (.ah 28 ⟨9,true,.st [(0,3),(1,3),(2,3),(3,3),(4,3),(5,22),(6,25),(7,27)],[.int .i64 0,.int .i64 0,.int .i64 0,.int .i64 0,.int .i64 0,.slice none 0 0,.slice none 0 0,.string ByteArray.empty,.int .i64 0]⟩ (.nil) (.nil)) (.ah 30 ⟨12,true,.st [(0,22),(1,23),(2,24),(3,29)],[.slice none 0 0,.slice none 0 0,.slice none 0 0,.int .i64 0,.int .i64 0,.int .i64 0,.int .i64 0,.int .i64 0,.slice none 0 0,.slice none 0 0,.string ByteArray.empty,.int .i64 0]⟩ (.nil) (.nil))) (.ah 33 ⟨4,true,.st [(0,3),(1,3),(2,9),(3,32)],[.int .i64 0,.int .i64 0,.string ByteArray.empty,.slice none 0 0]⟩ (.ah 32 ⟨1,false,.sl 34 4 56,[.slice none 0 0]⟩ (.nil) (.nil)) (.nil))) (.ah 37 ⟨2,true,.st [(0,3),(1,35)],[.int .i64 0,.slice none 0 0]⟩ (.ah 36 ⟨2,true,.st [(0,3),(1,35)],[.int .i64 0,.slice none 0 0]⟩ (.ah 35 ⟨1,false,.sl 58 10 144,[.slice none 0 0]⟩ (.nil) (.nil)) (.nil)) (.ah 39 ⟨1,false,.fn,[.nilFunc]⟩ (.ah 38 ⟨1,false,.fn,[.nilFunc]⟩ (.nil) (.nil)) (.nil)))) (.ah 48 ⟨1,false,.sl 132 7 88,[.slice none 0 0]⟩ (.ah 44 ⟨2,true,.st [(0,42),(1,3)],[.int .i64 0,.int .i64 0]⟩ (.ah 42 ⟨1,false,.int .i64,[.int .i64 0]⟩ (.ah 41 ⟨1,false,.ptr 117,[.pointer none]⟩ (.nil) (.nil)) (.ah 43 ⟨2,true,.st [(0,42),(1,3)],[.int .i64 0,.int .i64 0]⟩ (.nil) (.nil))) (.ah 47 ⟨1,false,.sl 186 1 24,[.slice none 0 0]⟩ (.ah 46 ⟨1,false,.fn,[.nilFunc]⟩ (.nil) (.nil)) (.nil))) (.ah 51 ⟨1,false,.fn,[.nilFunc]⟩ (.ah 50 ⟨4,true,.st [(0,22),(1,47),(2,48),(3,3)],[.slice none 0 0,.slice none 0 0,.slice none 0 0,.int .i64 0]⟩ (.ah 49 ⟨4,true,.st [(0,22),(1,47),(2,48),(3,3)],[.slice none 0 0,.slice none 0 0,.slice none 0 0,.int .i64 0]⟩ (.nil) (.nil)) (.nil)) (.ah 54 ⟨1,false,.fn,[.nilFunc]⟩ (.ah 53 ⟨1,false,.fn,[.nilFunc]⟩ (.nil) (.nil)) (.nil)))))) (.ah 83 ⟨1,false,.fn,[.nilFunc]⟩ (.ah 70 ⟨3,true,.ar 3 1,[.int .i64 0,.int .i64 0,.int .i64 0]⟩ (.ah 62 ⟨1,false,.fn,[.nilFunc]⟩ (.ah 59 ⟨10,true,.st [(0,3),(1,56),(2,34),(6,34)],[.int .i64 0,.slice none 0 0,.int .i64 0,.int .i64 0,.string ByteArray.empty,.slice none 0 0,.int .i64 0,.int .i64 0,.string ByteArray.empty,.slice none 0 0]⟩ (.ah 57 ⟨10,true,.st [(0,3),(1,56),(2,34),(6,34)],[.int .i64 0,.slice none 0 0,.int .i64 0,.int .i64 0,.string ByteArray.empty,.slice none 0 0,.int .i64 0,.int .i64 0,.string ByteArray.empty,.slice none 0 0]⟩ (.ah 56 ⟨1,false,.sl 141 3 32,[.slice none 0 0]⟩ (.nil) (.nil)) (.ah 58 ⟨10,true,.st [(0,3),(1,56),(2,34),(6,34)],[.int .i64 0,.slice none 0 0,.int .i64 0,.int .i64 0,.string ByteArray.empty,.slice none 0 0,.int .i64 0,.int .i64 0,.string ByteArray.empty,.slice none 0 0]⟩ (.nil) (.nil))) (.ah 61 ⟨1,false,.fn,[.nilFunc]⟩ (.ah 60 ⟨1,false,.fn,[.nilFunc]⟩ (.nil) (.nil)) (.nil))) (.ah 67 ⟨1,false,.fn,[.nilFunc]⟩ (.ah 64 ⟨1,false,.fn,[.nilFunc]⟩ (.ah 63 ⟨8,true,.ar 2 4,[.int .i64 0,.int .i64 0,.string ByteArray.empty,.slice none 0 0,.int .i64 0,.int .i64 0,.string ByteArray.empty,.slice none 0 0]⟩ (.nil) (.nil)) (.ah 66 ⟨1,false,.fn,[.nilFunc]⟩ (.nil) (.nil))) (.ah 69 ⟨1,false,.fn,[.nilFunc]⟩ (.ah 68 ⟨1,false,.fn,[.nilFunc]⟩ (.nil) (.nil)) (.nil)))) (.ah 77 ⟨1,false,.fn,[.nilFunc]⟩ (.ah 74 ⟨1,false,.fn,[.nilFunc]⟩ (.ah 72 ⟨1,false,.fn,[.nilFunc]⟩ (.ah 71 ⟨1,false,.fn,[.nilFunc]⟩ (.nil) (.nil)) (.ah 73 ⟨1,false,.sl 9 1 16,[.slice none 0 0]⟩ (.nil) (.nil))) (.ah 76 ⟨1,false,.fn,[.nilFunc]⟩ (.ah 75 ⟨1,false,.fn,[.nilFunc]⟩ (.nil) (.nil)) (.nil))) (.ah 80 ⟨1,false,.sl 85 4 48,[.slice none 0 0]⟩ (.ah 79 ⟨1,false,.fn,[.nilFunc]⟩ (.ah 78 ⟨1,false,.fn,[.nilFunc]⟩ (.nil) (.nil)) (.nil)) (.ah 82 ⟨1,false,.sl 3 1 8,[.slice none 0 0]⟩ (.ah 81 ⟨1,false,.fn,[.nilFunc]⟩ (.nil) (.nil)) (.nil))))) (.ah 98 ⟨3,true,.st [(0,3),(1,96),(2,32)],[.int .i64 0,.slice none 0 0,.slice none 0 0]⟩ (.ah 91 ⟨7,true,.st [(0,3),(1,3),(2,3),(3,3),(4,3),(5,73),(6,89)],[.int .i64 0,.int .i64 0,.int .i64 0,.int .i64 0,.int .i64 0,.slice none 0 0,.slice none 0 0]⟩ (.ah 88 ⟨1,false,.fn,[.nilFunc]⟩ (.ah 85 ⟨4,true,.st [(0,56),(1,3),(2,3),(3,3)],[.slice none 0 0,.int .i64 0,.int .i64 0,.int .i64 0]⟩ (.ah 84 ⟨4,true,.st [(0,56),(1,3),(2,3),(3,3)],[.slice none 0 0,.int .i64 0,.int .i64 0,.int .i64 0]⟩ (.nil) (.nil)) (.ah 87 ⟨1,false,.fn,[.nilFunc]⟩ (.nil) (.nil))) (.ah 90 ⟨7,true,.st [(0,3),(1,3),(2,3),(3,3),(4,3),(5,73),(6,89)],[.int .i64 0,.int .i64 0,.int .i64 0,.int .i64 0,.int .i64 0,.slice none 0 0,.slice none 0 0]⟩ (.ah 89 ⟨1,false,.sl 193 10 88,[.slice none 0 0]⟩ (.nil) (.nil)) (.nil))) (.ah 95 ⟨1,false,.fn,[.nilFunc]⟩ (.ah 94 ⟨1,false,.fn,[.nilFunc]⟩ (.ah 93 ⟨1,false,.fn,[.nilFunc]⟩ (.nil) (.nil)) (.nil)) (.ah 97 ⟨3,true,.st [(0,3),(1,96),(2,32)],[.int .i64 0,.slice none 0 0,.slice none 0 0]⟩ (.ah 96 ⟨1,false,.sl 199 8 120,[.slice none 0 0]⟩ (.nil) (.nil)) (.nil)))) (.ah 107 ⟨4,true,.st [(0,3),(1,3),(2,3),(3,22)],[.int .i64 0,.int .i64 0,.int .i64 0,.slice none 0 0]⟩ (.ah 103 ⟨1,false,.fn,[.nilFunc]⟩ (.ah 101 ⟨1,false,.fn,[.nilFunc]⟩ (.ah 99 ⟨1,false,.fn,[.nilFunc]⟩ (.nil) (.nil)) (.ah 102 ⟨1,false,.fn,[.nilFunc]⟩ (.nil) (.nil))) (.ah 106 ⟨4,true,.st [(0,3),(1,3),(2,3),(3,22)],[.int .i64 0,.int .i64 0,.int .i64 0,.slice none 0 0]⟩ (.ah 105 ⟨1,false,.fn,[.nilFunc]⟩ (.nil) (.nil)) (.nil))) (.ah 110 ⟨1,false,.ptr 213,[.pointer none]⟩ (.ah 109 ⟨18,true,.st [(0,27),(2,4),(3,22),(4,3),(5,107),(9,29)],[.string ByteArray.empty,.int .i64 0,.bool false,.slice none 0 0,.int .i64 0,.int .i64 0,.int .i64 0,.int .i64 0,.slice none 0 0,.int .i64 0,.int .i64 0,.int .i64 0,.int .i64 0,.int .i64 0,.slice none 0 0,.slice none 0 0,.string ByteArray.empty,.int .i64 0]⟩ (.ah 108 ⟨18,true,.st [(0,27),(2,4),(3,22),(4,3),(5,107),(9,29)],[.string ByteArray.empty,.int .i64 0,.bool false,.slice none 0 0,.int .i64 0,.int .i64 0,.int .i64 0,.int .i64 0,.slice none 0 0,.int .i64 0,.int .i64 0,.int .i64 0,.int .i64 0,.int .i64 0,.slice none 0 0,.slice none 0 0,.string ByteArray.empty,.int .i64 0]⟩ (.nil) (.nil)) (.nil)) (.ah 113 ⟨1,false,.ptr 119,[.pointer none]⟩ (.ah 112 ⟨1,false,.fn,[.nilFunc]⟩ (.nil) (.nil)) (.nil))))))) (.ah 170 ⟨4,true,.st [(0,27),(2,27)],[.string ByteArray.empty,.int .i64 0,.string ByteArray.empty,.int .i64 0]⟩ (.ah 141 ⟨3,true,.st [(0,3),(1,3),(2,9)],[.int .i64 0,.int .i64 0,.string ByteArray.empty]⟩ (.ah 128 ⟨1,false,.fn,[.nilFunc]⟩ (.ah 121 ⟨1,false,.fn,[.nilFunc]⟩ (.ah 118 ⟨15,true,.st [(0,31),(12,110),(13,41),(14,3)],[.slice none 0 0,.slice none 0 0,.slice none 0 0,.int .i64 0,.int .i64 0,.int .i64 0,.int .i64 0,.int .i64 0,.slice none 0 0,.slice none 0 0,.string ByteArray.empty,.int .i64 0,.pointer none,.pointer none,.int .i64 0]⟩ (.ah 116 ⟨5,true,.st [(0,110),(1,114),(2,3),(3,115),(4,82)],[.pointer none,.slice none 0 0,.int .i64 0,.pointer none,.slice none 0 0]⟩ (.ah 115 ⟨1,false,.ptr 289,[.pointer none]⟩ (.nil) (.nil)) (.ah 117 ⟨5,true,.st [(0,110),(1,114),(2,3),(3,115),(4,82)],[.pointer none,.slice none 0 0,.int .i64 0,.pointer none,.slice none 0 0]⟩ (.nil) (.nil))) (.ah 120 ⟨1,false,.fn,[.nilFunc]⟩ (.ah 119 ⟨15,true,.st [(0,31),(12,110),(13,41),(14,3)],[.slice none 0 0,.slice none 0 0,.slice none 0 0,.int .i64 0,.int .i64 0,.int .i64 0,.int .i64 0,.int .i64 0,.slice none 0 0,.slice none 0 0,.string ByteArray.empty,.int .i64 0,.pointer none,.pointer none,.int .i64 0]⟩ (.nil) (.nil)) (.nil))) (.ah 125 ⟨1,false,.fn,[.nilFunc]⟩ (.ah 123 ⟨11,true,.st [(0,27),(2,29)],[.string ByteArray.empty,.int .i64 0,.int .i64 0,.int .i64 0,.int .i64 0,.int .i64 0,.int .i64 0,.slice none 0 0,.slice none 0 0,.string ByteArray.empty,.int .i64 0]⟩ (.ah 122 ⟨1,false,.fn,[.nilFunc]⟩ (.nil) (.nil)) (.ah 124 ⟨11,true,.st [(0,27),(2,29)],[.string ByteArray.empty,.int .i64 0,.int .i64 0,.int .i64 0,.int .i64 0,.int .i64 0,.int .i64 0,.slice none 0 0,.slice none 0 0,.string ByteArray.empty,.int .i64 0]⟩ (.nil) (.nil))) (.ah 127 ⟨1,false,.sl 29 9 112,[.slice none 0 0]⟩ (.ah 126 ⟨1,false,.fn,[.nilFunc]⟩ (.nil) (.nil)) (.nil)))) (.ah 135 ⟨1,false,.fn,[.nilFunc]⟩ (.ah 132 ⟨7,true,.st [(0,3),(1,3),(2,3),(3,3),(4,3),(5,73),(6,130)],[.int .i64 0,.int .i64 0,.int .i64 0,.int .i64 0,.int .i64 0,.slice none 0 0,.slice none 0 0]⟩ (.ah 130 ⟨1,false,.sl 144 10 88,[.slice none 0 0]⟩ (.ah 129 ⟨1,false,.fn,[.nilFunc]⟩ (.nil) (.nil)) (.ah 131 ⟨7,true,.st [(0,3),(1,3),(2,3),(3,3),(4,3),(5,73),(6,130)],[.int .i64 0,.int .i64 0,.int .i64 0,.int .i64 0,.int .i64 0,.slice none 0 0,.slice none 0 0]⟩ (.nil) (.nil))) (.ah 134 ⟨1,false,.fn,[.nilFunc]⟩ (.ah 133 ⟨1,false,.fn,[.nilFunc]⟩ (.nil) (.nil)) (.nil))) (.ah 138 ⟨1,false,.fn,[.nilFunc]⟩ (.ah 137 ⟨1,false,.fn,[.nilFunc]⟩ (.ah 136 ⟨1,false,.fn,[.nilFunc]⟩ (.nil) (.nil)) (.nil)) (.ah 140 ⟨3,true,.st [(0,3),(1,3),(2,9)],[.int .i64 0,.int .i64 0,.string ByteArray.empty]⟩ (.ah 139 ⟨1,false,.fn,[.nilFunc]⟩ (.nil) (.nil)) (.nil))))) (.ah 155 ⟨1,false,.fn,[.nilFunc]⟩ (.ah 148 ⟨3,true,.st [(0,41),(1,110),(2,3)],[.pointer none,.pointer none,.int .i64 0]⟩ (.ah 145 ⟨1,false,.fn,[.nilFunc]⟩ (.ah 143 ⟨10,true,.st [(0,9),(1,4),(2,3),(3,3),(4,3),(5,3),(6,3),(7,3),(8,3),(9,3)],[.string ByteArray.empty,.bool false,.int .i64 0,.int .i64 0,.int .i64 0,.int .i64 0,.int .i64 0,.int .i64 0,.int .i64 0,.int .i64 0]⟩ (.ah 142 ⟨1,false,.fn,[.nilFunc]⟩ (.nil) (.nil)) (.ah 144 ⟨10,true,.st [(0,9),(1,4),(2,3),(3,3),(4,3),(5,3),(6,3),(7,3),(8,3),(9,3)],[.string ByteArray.empty,.bool false,.int .i64 0,.int .i64 0,.int .i64 0,.int .i64 0,.int .i64 0,.int .i64 0,.int .i64 0,.int .i64 0]⟩ (.nil) (.nil))) (.ah 147 ⟨3,true,.st [(0,41),(1,110),(2,3)],[.pointer none,.pointer none,.int .i64 0]⟩ (.ah 146 ⟨1,false,.fn,[.nilFunc]⟩ (.nil) (.nil)) (.nil))) (.ah 152 ⟨1,false,.ptr 154,[.pointer none]⟩ (.ah 151 ⟨1,false,.fn,[.nilFunc]⟩ (.ah 150 ⟨1,false,.fn,[.nilFunc]⟩ (.nil) (.nil)) (.nil)) (.ah 154 ⟨2,true,.st [(0,41),(1,35)],[.pointer none,.slice none 0 0]⟩ (.ah 153 ⟨2,true,.st [(0,41),(1,35)],[.pointer none,.slice none 0 0]⟩ (.nil) (.nil)) (.nil)))) (.ah 162 ⟨1,false,.rB,[.nilIface]⟩ (.ah 159 ⟨2,true,.st [(0,157),(1,158)],[.pointer none,.slice none 0 0]⟩ (.ah 157 ⟨1,false,.ptr 160,[.pointer none]⟩ (.ah 156 ⟨1,false,.fn,[.nilFunc]⟩ (.nil) (.nil)) (.ah 158 ⟨1,false,.sl 5 1 1,[.slice none 0 0]⟩ (.nil) (.nil))) (.ah 161 ⟨1,false,.rB,[.nilIface]⟩ (.ah 160 ⟨2,true,.st [(0,157),(1,158)],[.pointer none,.slice none 0 0]⟩ (.nil) (.nil)) (.nil))) (.ah 166 ⟨1,false,.fn,[.nilFunc]⟩ (.ah 165 ⟨1,false,.fn,[.nilFunc]⟩ (.ah 164 ⟨1,false,.fn,[.nilFunc]⟩ (.nil) (.nil)) (.nil)) (.ah 169 ⟨1,false,.fn,[.nilFunc]⟩ (.ah 168 ⟨1,false,.fn,[.nilFunc]⟩ (.nil) (.nil)) (.nil)))))) (.ah 198 ⟨8,true,.st [(0,56),(1,3),(2,197)],[.slice none 0 0,.int .i64 0,.int .i64 0,.int .i64 0,.int .i64 0,.string ByteArray.empty,.slice none 0 0,.slice none 0 0]⟩ (.ah 185 ⟨1,false,.fn,[.nilFunc]⟩ (.ah 177 ⟨5,true,.st [(0,41),(1,110),(2,3),(3,3),(4,80)],[.pointer none,.pointer none,.int .i64 0,.int .i64 0,.slice none 0 0]⟩ (.ah 174 ⟨1,false,.fn,[.nilFunc]⟩ (.ah 172 ⟨1,false,.fn,[.nilFunc]⟩ (.ah 171 ⟨4,true,.st [(0,27),(2,27)],[.string ByteArray.empty,.int .i64 0,.string ByteArray.empty,.int .i64 0]⟩ (.nil) (.nil)) (.ah 173 ⟨1,false,.fn,[.nilFunc]⟩ (.nil) (.nil))) (.ah 176 ⟨1,false,.ptr 178,[.pointer none]⟩ (.ah 175 ⟨1,false,.fn,[.nilFunc]⟩ (.nil) (.nil)) (.nil))) (.ah 182 ⟨1,false,.fn,[.nilFunc]⟩ (.ah 179 ⟨1,false,.fn,[.nilFunc]⟩ (.ah 178 ⟨5,true,.st [(0,41),(1,110),(2,3),(3,3),(4,80)],[.pointer none,.pointer none,.int .i64 0,.int .i64 0,.slice none 0 0]⟩ (.nil) (.nil)) (.ah 181 ⟨1,false,.fn,[.nilFunc]⟩ (.nil) (.nil))) (.ah 184 ⟨1,false,.fn,[.nilFunc]⟩ (.ah 183 ⟨1,false,.ptr 188,[.pointer none]⟩ (.nil) (.nil)) (.nil)))) (.ah 192 ⟨1,false,.fn,[.nilFunc]⟩ (.ah 189 ⟨1,false,.fn,[.nilFunc]⟩ (.ah 187 ⟨6,true,.st [(0,41),(1,114),(2,82),(3,186),(4,82),(5,82)],[.pointer none,.slice none 0 0,.slice none 0 0,.slice none 0 0,.slice none 0 0,.slice none 0 0]⟩ (.ah 186 ⟨1,false,.sl 4 1 1,[.slice none 0 0]⟩ (.nil) (.nil)) (.ah 188 ⟨6,true,.st [(0,41),(1,114),(2,82),(3,186),(4,82),(5,82)],[.pointer none,.slice none 0 0,.slice none 0 0,.slice none 0 0,.slice none 0 0,.slice none 0 0]⟩ (.nil) (.nil))) (.ah 191 ⟨1,false,.fn,[.nilFunc]⟩ (.ah 190 ⟨1,false,.fn,[.nilFunc]⟩ (.nil) (.nil)) (.nil))) (.ah 195 ⟨1,false,.sl 197 6 88,[.slice none 0 0]⟩ (.ah 194 ⟨1,false,.fn,[.nilFunc]⟩ (.ah 193 ⟨10,true,.st [(0,9),(1,4),(2,3),(3,3),(4,3),(5,3),(6,3),(7,3),(8,3),(9,3)],[.string ByteArray.empty,.bool false,.int .i64 0,.int .i64 0,.int .i64 0,.int .i64 0,.int .i64 0,.int .i64 0,.int .i64 0,.int .i64 0]⟩ (.nil) (.nil)) (.nil)) (.ah 197 ⟨6,true,.st [(0,3),(1,3),(2,3),(3,9),(4,22),(5,195)],[.int .i64 0,.int .i64 0,.int .i64 0,.string ByteArray.empty,.slice none 0 0,.slice none 0 0]⟩ (.ah 196 ⟨6,true,.st [(0,3),(1,3),(2,3),(3,9),(4,22),(5,195)],[.int .i64 0,.int .i64 0,.int .i64 0,.string ByteArray.empty,.slice none 0 0,.slice none 0 0]⟩ (.nil) (.nil)) (.nil))))) (.ah 213 ⟨2051,true,.st [(0,73),(1,115),(2,209),(3,211),(1027,211)],(.slice none 0 0 :: .pointer none :: .pointer none :: List.replicate 2048 (.int .i64 0))⟩ (.ah 207 ⟨1,false,.fn,[.nilFunc]⟩ (.ah 202 ⟨1,false,.fn,[.nilFunc]⟩ (.ah 200 ⟨1,false,.fn,[.nilFunc]⟩ (.ah 199 ⟨8,true,.st [(0,56),(1,3),(2,197)],[.slice none 0 0,.int .i64 0,.int .i64 0,.int .i64 0,.int .i64 0,.string ByteArray.empty,.slice none 0 0,.slice none 0 0]⟩ (.nil) (.nil)) (.ah 201 ⟨1,false,.fn,[.nilFunc]⟩ (.nil) (.nil))) (.ah 205 ⟨1,false,.fn,[.nilFunc]⟩ (.ah 204 ⟨1,false,.fn,[.nilFunc]⟩ (.nil) (.nil)) (.nil))) (.ah 210 ⟨32,true,.ar 32 1,[.int .i64 0,.int .i64 0,.int .i64 0,.int .i64 0,.int .i64 0,.int .i64 0,.int .i64 0,.int .i64 0,.int .i64 0,.int .i64 0,.int .i64 0,.int .i64 0,.int .i64 0,.int .i64 0,.int .i64 0,.int .i64 0,.int .i64 0,.int .i64 0,.int .i64 0,.int .i64 0,.int .i64 0,.int .i64 0,.int .i64 0,.int .i64 0,.int .i64 0,.int .i64 0,.int .i64 0,.int .i64 0,.int .i64 0,.int .i64 0,.int .i64 0,.int .i64 0]⟩ (.ah 209 ⟨1,false,.ptr 294,[.pointer none]⟩ (.ah 208 ⟨1,false,.fn,[.nilFunc]⟩ (.nil) (.nil)) (.nil)) (.ah 212 ⟨2051,true,.st [(0,73),(1,115),(2,209),(3,211),(1027,211)],(.slice none 0 0 :: .pointer none :: .pointer none :: List.replicate 2048 (.int .i64 0))⟩ (.ah 211 ⟨1024,true,.ar 32 32,(List.replicate 1024 (.int .i64 0))⟩ (.nil) (.nil)) (.nil)))) (.ah 223 ⟨1,false,.fn,[.nilFunc]⟩ (.ah 220 ⟨1,false,.fn,[.nilFunc]⟩ (.ah 216 ⟨1,false,.fn,[.nilFunc]⟩ (.ah 214 ⟨1,false,.sl 291 2 16,[.slice none 0 0]⟩ (.nil) (.nil)) (.ah 218 ⟨1,false,.fn,[.nilFunc]⟩ (.nil) (.nil))) (.ah 222 ⟨1,false,.fn,[.nilFunc]⟩ (.ah 221 ⟨1,false,.fn,[.nilFunc]⟩ (.nil) (.nil)) (.nil))) (.ah 226 ⟨1,false,.fn,[.nilFunc]⟩ (.ah 225 ⟨1,false,.sl 22 1 24,[.slice none 0 0]⟩ (.ah 224 ⟨1,false,.fn,[.nilFunc]⟩ (.nil) (.nil)) (.nil)) (.ah 228 ⟨1,false,.fn,[.nilFunc]⟩ (.ah 227 ⟨1,false,.fn,[.nilFunc]⟩ (.nil) (.nil)) (.nil)))))))) (.ah 346 ⟨1,false,.int .u64,[.int .u64 0]⟩ (.ah 288 ⟨2,true,.st [(0,73),(1,82)],[.slice none 0 0,.slice none 0 0]⟩ (.ah 258 ⟨1,false,.ptr 5,[.pointer none]⟩ (.ah 243 ⟨1,false,.fn,[.nilFunc]⟩ (.ah 236 ⟨1,false,.fn,[.nilFunc]⟩ (.ah 233 ⟨1,false,.fn,[.nilFunc]⟩ (.ah 231 ⟨1,false,.fn,[.nilFunc]⟩ (.ah 230 ⟨1,false,.fn,[.nilFunc]⟩ (.nil) (.nil)) (.ah 232 ⟨1,false,.fn,[.nilFunc]⟩ (.nil) (.nil))) (.ah 235 ⟨1,false,.fn,[.nilFunc]⟩ (.ah 234 ⟨1,false,.fn,[.nilFunc]⟩ (.nil) (.nil)) (.nil))) (.ah 240 ⟨1,false,.fn,[.nilFunc]⟩ (.ah 238 ⟨1,false,.fn,[.nilFunc]⟩ (.ah 237 ⟨1,false,.fn,[.nilFunc]⟩ (.nil) (.nil)) (.ah 239 ⟨1,false,.fn,[.nilFunc]⟩ (.nil) (.nil))) (.ah 242 ⟨1,false,.fn,[.nilFunc]⟩ (.ah 241 ⟨1,false,.fn,[.nilFunc]⟩ (.nil) (.nil)) (.nil)))) (.ah 252 ⟨1,false,.fn,[.nilFunc]⟩ (.ah 249 ⟨1,false,.fn,[.nilFunc]⟩ (.ah 247 ⟨1,false,.fn,[.nilFunc]⟩ (.ah 245 ⟨1,false,.fn,[.nilFunc]⟩ (.nil) (.nil)) (.ah 248 ⟨1,false,.fn,[.nilFunc]⟩ (.nil) (.nil))) (.ah 251 ⟨1,false,.fn,[.nilFunc]⟩ (.ah 250 ⟨1,false,.fn,[.nilFunc]⟩ (.nil) (.nil)) (.nil))) (.ah 255 ⟨1,false,.fn,[.nilFunc]⟩ (.ah 254 ⟨1,false,.fn,[.nilFunc]⟩ (.ah 253 ⟨1,false,.fn,[.nilFunc]⟩ (.nil) (.nil)) (.nil)) (.ah 257 ⟨1,false,.fn,[.nilFunc]⟩ (.ah 256 ⟨1,false,.fn,[.nilFunc]⟩ (.nil) (.nil)) (.nil))))) (.ah 272 ⟨2,true,.st [(0,3),(1,3)],[.int .i64 0,.int .i64 0]⟩ (.ah 265 ⟨1,false,.fn,[.nilFunc]⟩ (.ah 262 ⟨1,false,.fn,[.nilFunc]⟩ (.ah 260 ⟨3,true,.st [(0,41),(1,110),(2,3)],[.pointer none,.pointer none,.int .i64 0]⟩ (.ah 259 ⟨3,true,.st [(0,41),(1,110),(2,3)],[.pointer none,.pointer none,.int .i64 0]⟩ (.nil) (.nil)) (.ah 261 ⟨1,false,.fn,[.nilFunc]⟩ (.nil) (.nil))) (.ah 264 ⟨1,false,.fn,[.nilFunc]⟩ (.ah 263 ⟨1,false,.fn,[.nilFunc]⟩ (.nil) (.nil)) (.nil))) (.ah 269 ⟨1,false,.fn,[.nilFunc]⟩ (.ah 267 ⟨1,false,.fn,[.nilFunc]⟩ (.ah 266 ⟨1,false,.fn,[.nilFunc]⟩ (.nil) (.nil)) (.nil)) (.ah 271 ⟨2,true,.st [(0,3),(1,3)],[.int .i64 0,.int .i64 0]⟩ (.ah 270 ⟨1,false,.fn,[.nilFunc]⟩ (.nil) (.nil)) (.nil)))) (.ah 282 ⟨1,false,.fn,[.nilFunc]⟩ (.ah 277 ⟨1,false,.fn,[.nilFunc]⟩ (.ah 275 ⟨1,false,.fn,[.nilFunc]⟩ (.ah 274 ⟨1,false,.fn,[.nilFunc]⟩ (.nil) (.nil)) (.ah 276 ⟨1,false,.fn,[.nilFunc]⟩ (.nil) (.nil))) (.ah 280 ⟨1,false,.fn,[.nilFunc]⟩ (.ah 279 ⟨1,false,.fn,[.nilFunc]⟩ (.nil) (.nil)) (.nil))) (.ah 285 ⟨1,false,.fn,[.nilFunc]⟩ (.ah 284 ⟨1,false,.fn,[.nilFunc]⟩ (.ah 283 ⟨1,false,.fn,[.nilFunc]⟩ (.nil) (.nil)) (.nil)) (.ah 287 ⟨1,false,.fn,[.nilFunc]⟩ (.ah 286 ⟨1,false,.fn,[.nilFunc]⟩ (.nil) (.nil)) (.nil)))))) (.ah 318 ⟨1,false,.fn,[.nilFunc]⟩ (.ah 303 ⟨1,true,.st [(0,3)],[.int .i64 0]⟩ (.ah 295 ⟨1,false,.int .u64,[.int .u64 0]⟩ (.ah 292 ⟨1,false,.sl 295 1 8,[.slice none 0 0]⟩ (.ah 290 ⟨1,false,.fn,[.nilFunc]⟩ (.ah 289 ⟨2,true,.st [(0,73),(1,82)],[.slice none 0 0,.slice none 0 0]⟩ (.nil) (.nil)) (.ah 291 ⟨2,true,.ar 2 1,[.int .i64 0,.int .i64 0]⟩ (.nil) (.nil))) (.ah 294 ⟨1,true,.st [(0,292)],[.slice none 0 0]⟩ (.ah 293 ⟨1,true,.st [(0,292)],[.slice none 0 0]⟩ (.nil) (.nil)) (.nil))) (.ah 300 ⟨1,false,.fn,[.nilFunc]⟩ (.ah 297 ⟨1,false,.fn,[.nilFunc]⟩ (.ah 296 ⟨1,false,.fn,[.nilFunc]⟩ (.nil) (.nil)) (.ah 298 ⟨1,false,.fn,[.nilFunc]⟩ (.nil) (.nil))) (.ah 302 ⟨1,true,.st [(0,3)],[.int .i64 0]⟩ (.ah 301 ⟨1,false,.ptr 303,[.pointer none]⟩ (.nil) (.nil)) (.nil)))) (.ah 310 ⟨1,false,.fn,[.nilFunc]⟩ (.ah 307 ⟨1,false,.fn,[.nilFunc]⟩ (.ah 305 ⟨1,false,.fn,[.nilFunc]⟩ (.ah 304 ⟨1,false,.fn,[.nilFunc]⟩ (.nil) (.nil)) (.ah 306 ⟨1,false,.fn,[.nilFunc]⟩ (.nil) (.nil))) (.ah 309 ⟨1,false,.fn,[.nilFunc]⟩ (.ah 308 ⟨1,false,.fn,[.nilFunc]⟩ (.nil) (.nil)) (.nil))) (.ah 313 ⟨1,false,.fn,[.nilFunc]⟩ (.ah 312 ⟨1,false,.fn,[.nilFunc]⟩ (.ah 311 ⟨1,false,.fn,[.nilFunc]⟩ (.nil) (.nil)) (.nil)) (.ah 317 ⟨1,false,.fn,[.nilFunc]⟩ (.ah 315 ⟨1,false,.fn,[.nilFunc]⟩ (.nil) (.nil)) (.nil))))) (.ah 331 ⟨1,false,.fn,[.nilFunc]⟩ (.ah 325 ⟨1,false,.fn,[.nilFunc]⟩ (.ah 322 ⟨1,false,.fn,[.nilFunc]⟩ (.ah 320 ⟨1,false,.fn,[.nilFunc]⟩ (.ah 319 ⟨1,false,.fn,[.nilFunc]⟩ (.nil) (.nil)) (.ah 321 ⟨1,false,.fn,[.nilFunc]⟩ (.nil) (.nil))) (.ah 324 ⟨1,false,.fn,[.nilFunc]⟩ (.ah 323 ⟨20,true,.ar 20 1,[.int .u8 0,.int .u8 0,.int .u8 0,.int .u8 0,.int .u8 0,.int .u8 0,.int .u8 0,.int .u8 0,.int .u8 0,.int .u8 0,.int .u8 0,.int .u8 0,.int .u8 0,.int .u8 0,.int .u8 0,.int .u8 0,.int .u8 0,.int .u8 0,.int .u8 0,.int .u8 0]⟩ (.nil) (.nil)) (.nil))) (.ah 328 ⟨1,false,.fn,[.nilFunc]⟩ (.ah 327 ⟨1,false,.fn,[.nilFunc]⟩ (.ah 326 ⟨1,false,.fn,[.nilFunc]⟩ (.nil) (.nil)) (.nil)) (.ah 330 ⟨1,false,.fn,[.nilFunc]⟩ (.ah 329 ⟨1,false,.fn,[.nilFunc]⟩ (.nil) (.nil)) (.nil)))) (.ah 338 ⟨1,false,.fn,[.nilFunc]⟩ (.ah 335 ⟨3,true,.st [(0,44),(2,3)],[.int .i64 0,.int .i64 0,.int .i64 0]⟩ (.ah 333 ⟨1,false,.fn,[.nilFunc]⟩ (.ah 332 ⟨1,false,.fn,[.nilFunc]⟩ (.nil) (.nil)) (.ah 334 ⟨3,true,.st [(0,44),(2,3)],[.int .i64 0,.int .i64 0,.int .i64 0]⟩ (.nil) (.nil))) (.ah 337 ⟨1,false,.fn,[.nilFunc]⟩ (.ah 336 ⟨1,false,.fn,[.nilFunc]⟩ (.nil) (.nil)) (.nil))) (.ah 343 ⟨1,false,.fn,[.nilFunc]⟩ (.ah 342 ⟨1,false,.fn,[.nilFunc]⟩ (.ah 339 ⟨1,false,.int .u64,[.int .u64 0]⟩ (.nil) (.nil)) (.nil)) (.ah 345 ⟨1,false,.fn,[.nilFunc]⟩ (.ah 344 ⟨1,false,.fn,[.nilFunc]⟩ (.nil) (.nil)) (.nil))))))) (.ah 403 ⟨1,false,.fn,[.nilFunc]⟩ (.ah 374 ⟨1,false,.fn,[.nilFunc]⟩ (.ah 361 ⟨1,false,.fn,[.nilFunc]⟩ (.ah 353 ⟨1,false,.fn,[.nilFunc]⟩ (.ah 350 ⟨1,false,.fn,[.nilFunc]⟩ (.ah 348 ⟨2,true,.st [(0,182),(1,343)],[.nilFunc,.nilFunc]⟩ (.ah 347 ⟨1,false,.fn,[.nilFunc]⟩ (.nil) (.nil)) (.ah 349 ⟨2,true,.st [(0,182),(1,343)],[.nilFunc,.nilFunc]⟩ (.nil) (.nil))) (.ah 352 ⟨1,false,.fn,[.nilFunc]⟩ (.ah 351 ⟨1,false,.fn,[.nilFunc]⟩ (.nil) (.nil)) (.nil))) (.ah 357 ⟨3,true,.st [(0,9),(1,9),(2,73)],[.string ByteArray.empty,.string ByteArray.empty,.slice none 0 0]⟩ (.ah 355 ⟨1,false,.fn,[.nilFunc]⟩ (.ah 354 ⟨1,false,.fn,[.nilFunc]⟩ (.nil) (.nil)) (.ah 356 ⟨1,false,.fn,[.nilFunc]⟩ (.nil) (.nil))) (.ah 360 ⟨1,false,.fn,[.nilFunc]⟩ (.ah 358 ⟨3,true,.st [(0,9),(1,9),(2,73)],[.string ByteArray.empty,.string ByteArray.empty,.slice none 0 0]⟩ (.nil) (.nil)) (.nil)))) (.ah 368 ⟨1,false,.fn,[.nilFunc]⟩ (.ah 365 ⟨1,false,.fn,[.nilFunc]⟩ (.ah 363 ⟨1,false,.fn,[.nilFunc]⟩ (.ah 362 ⟨1,false,.fn,[.nilFunc]⟩ (.nil) (.nil)) (.ah 364 ⟨1,false,.fn,[.nilFunc]⟩ (.nil) (.nil))) (.ah 367 ⟨1,false,.fn,[.nilFunc]⟩ (.ah 366 ⟨1,false,.fn,[.nilFunc]⟩ (.nil) (.nil)) (.nil))) (.ah 371 ⟨1,false,.fn,[.nilFunc]⟩ (.ah 370 ⟨1,false,.fn,[.nilFunc]⟩ (.ah 369 ⟨1,false,.fn,[.nilFunc]⟩ (.nil) (.nil)) (.nil)) (.ah 373 ⟨15,true,.st [(0,3),(1,193),(11,34)],[.int .i64 0,.string ByteArray.empty,.bool false,.int .i64 0,.int .i64 0,.int .i64 0,.int .i64 0,.int .i64 0,.int .i64 0,.int .i64 0,.int .i64 0,.int .i64 0,.int .i64 0,.string ByteArray.empty,.slice none 0 0]⟩ (.ah 372 ⟨15,true,.st [(0,3),(1,193),(11,34)],[.int .i64 0,.string ByteArray.empty,.bool false,.int .i64 0,.int .i64 0,.int .i64 0,.int .i64 0,.int .i64 0,.int .i64 0,.int .i64 0,.int .i64 0,.int .i64 0,.int .i64 0,.string ByteArray.empty,.slice none 0 0]⟩ (.nil) (.nil)) (.nil))))) (.ah 388 ⟨1,false,.fn,[.nilFunc]⟩ (.ah 381 ⟨1,true,.st [(0,17)],[.pointer none]⟩ (.ah 378 ⟨1,false,.fn,[.nilFunc]⟩ (.ah 376 ⟨1,false,.fn,[.nilFunc]⟩ (.ah 375 ⟨1,false,.fn,[.nilFunc]⟩ (.nil) (.nil)) (.ah 377 ⟨1,false,.fn,[.nilFunc]⟩ (.nil) (.nil))) (.ah 380 ⟨1,true,.st [(0,17)],[.pointer none]⟩ (.ah 379 ⟨1,false,.fn,[.nilFunc]⟩ (.nil) (.nil)) (.nil))) (.ah 384 ⟨1,false,.int .u32,[.int .u32 0]⟩ (.ah 383 ⟨1,false,.fn,[.nilFunc]⟩ (.ah 382 ⟨1,false,.ptr 461,[.pointer none]⟩ (.nil) (.nil)) (.nil)) (.ah 386 ⟨1,false,.int .i64,[.int .i64 0]⟩ (.ah 385 ⟨1,false,.fn,[.nilFunc]⟩ (.nil) (.nil)) (.nil)))) (.ah 396 ⟨1,false,.fn,[.nilFunc]⟩ (.ah 392 ⟨1,false,.fn,[.nilFunc]⟩ (.ah 390 ⟨1,false,.fn,[.nilFunc]⟩ (.ah 389 ⟨1,false,.fn,[.nilFunc]⟩ (.nil) (.nil)) (.ah 391 ⟨1,false,.fn,[.nilFunc]⟩ (.nil) (.nil))) (.ah 394 ⟨1,false,.fn,[.nilFunc]⟩ (.ah 393 ⟨1,false,.fn,[.nilFunc]⟩ (.nil) (.nil)) (.nil))) (.ah 399 ⟨1,false,.fn,[.nilFunc]⟩ (.ah 398 ⟨1,false,.fn,[.nilFunc]⟩ (.ah 397 ⟨1,false,.fn,[.nilFunc]⟩ (.nil) (.nil)) (.nil)) (.ah 402 ⟨1,false,.fn,[.nilFunc]⟩ (.ah 401 ⟨1,false,.fn,[.nilFunc]⟩ (.nil) (.nil)) (.nil)))))) (.ah 432 ⟨4,true,.ar 4 1,[.int .i64 0,.int .i64 0,.int .i64 0,.int .i64 0]⟩ (.ah 417 ⟨1,false,.fn,[.nilFunc]⟩ (.ah 410 ⟨1,false,.ptr 3,[.pointer none]⟩ (.ah 407 ⟨1,false,.fn,[.nilFunc]⟩ (.ah 405 ⟨1,false,.fn,[.nilFunc]⟩ (.ah 404 ⟨1,false,.fn,[.nilFunc]⟩ (.nil) (.nil)) (.ah 406 ⟨1,false,.int .u64,[.int .u64 0]⟩ (.nil) (.nil))) (.ah 409 ⟨1,false,.fn,[.nilFunc]⟩ (.ah 408 ⟨1,false,.fn,[.nilFunc]⟩ (.nil) (.nil)) (.nil))) (.ah 414 ⟨1,false,.fn,[.nilFunc]⟩ (.ah 412 ⟨1,false,.fn,[.nilFunc]⟩ (.ah 411 ⟨1,false,.fn,[.nilFunc]⟩ (.nil) (.nil)) (.ah 413 ⟨1,false,.fn,[.nilFunc]⟩ (.nil) (.nil))) (.ah 416 ⟨1,false,.sl 434 2 8,[.slice none 0 0]⟩ (.ah 415 ⟨1,false,.fn,[.nilFunc]⟩ (.nil) (.nil)) (.nil)))) (.ah 426 ⟨1,false,.fn,[.nilFunc]⟩ (.ah 423 ⟨1,false,.fn,[.nilFunc]⟩ (.ah 420 ⟨1,false,.fn,[.nilFunc]⟩ (.ah 419 ⟨1,false,.fn,[.nilFunc]⟩ (.nil) (.nil)) (.ah 421 ⟨1,false,.fn,[.nilFunc]⟩ (.nil) (.nil))) (.ah 425 ⟨1,false,.fn,[.nilFunc]⟩ (.ah 424 ⟨1,false,.fn,[.nilFunc]⟩ (.nil) (.nil)) (.nil))) (.ah 429 ⟨1,false,.fn,[.nilFunc]⟩ (.ah 428 ⟨1,false,.fn,[.nilFunc]⟩ (.ah 427 ⟨1,false,.fn,[.nilFunc]⟩ (.nil) (.nil)) (.nil)) (.ah 431 ⟨1,false,.fn,[.nilFunc]⟩ (.ah 430 ⟨1,false,.ptr 406,[.pointer none]⟩ (.nil) (.nil)) (.nil))))) (.ah 447 ⟨2,true,.st [(0,21),(1,21)],[.int .i32 0,.int .i32 0]⟩ (.ah 440 ⟨1,false,.fn,[.nilFunc]⟩ (.ah 436 ⟨1,false,.sl 447 2 8,[.slice none 0 0]⟩ (.ah 434 ⟨2,true,.st [(0,21),(1,21)],[.int .i32 0,.int .i32 0]⟩ (.ah 433 ⟨2,true,.st [(0,21),(1,21)],[.int .i32 0,.int .i32 0]⟩ (.nil) (.nil)) (.ah 435 ⟨1,false,.fn,[.nilFunc]⟩ (.nil) (.nil))) (.ah 438 ⟨1,false,.fn,[.nilFunc]⟩ (.ah 437 ⟨1,false,.fn,[.nilFunc]⟩ (.nil) (.nil)) (.nil))) (.ah 444 ⟨1,false,.fn,[.nilFunc]⟩ (.ah 443 ⟨1,false,.fn,[.nilFunc]⟩ (.ah 442 ⟨1,false,.fn,[.nilFunc]⟩ (.nil) (.nil)) (.nil)) (.ah 446 ⟨2,true,.st [(0,21),(1,21)],[.int .i32 0,.int .i32 0]⟩ (.ah 445 ⟨1,false,.fn,[.nilFunc]⟩ (.nil) (.nil)) (.nil)))) (.ah 456 ⟨1,false,.int .i32,[.int .i32 0]⟩ (.ah 453 ⟨1,false,.int .u8,[.int .u8 0]⟩ (.ah 449 ⟨4,true,.st [(0,17),(1,17),(2,17),(3,9)],[.pointer none,.pointer none,.pointer none,.string ByteArray.empty]⟩ (.ah 448 ⟨4,true,.st [(0,17),(1,17),(2,17),(3,9)],[.pointer none,.pointer none,.pointer none,.string ByteArray.empty]⟩ (.nil) (.nil)) (.ah 450 ⟨0,true,.ar 0 1,[]⟩ (.nil) (.nil))) (.ah 455 ⟨1,false,.fn,[.nilFunc]⟩ (.ah 454 ⟨1,false,.int .u8,[.int .u8 0]⟩ (.nil) (.nil)) (.nil))) (.ah 459 ⟨11,true,.st [(0,12),(1,12),(2,384),(3,453),(4,5),(5,5),(6,454),(7,455),(8,258),(9,456),(10,457)],[.int .u64 0,.int .u64 0,.int .u32 0,.int .u8 0,.int .u8 0,.int .u8 0,.int .u8 0,.nilFunc,.pointer none,.int .i32 0,.int .i32 0]⟩ (.ah 458 ⟨11,true,.st [(0,12),(1,12),(2,384),(3,453),(4,5),(5,5),(6,454),(7,455),(8,258),(9,456),(10,457)],[.int .u64 0,.int .u64 0,.int .u32 0,.int .u8 0,.int .u8 0,.int .u8 0,.int .u8 0,.nilFunc,.pointer none,.int .i32 0,.int .i32 0]⟩ (.ah 457 ⟨1,false,.int .i32,[.int .i32 0]⟩ (.nil) (.nil)) (.nil)) (.ah 461 ⟨2,true,.st [(0,9),(1,454)],[.string ByteArray.empty,.int .u8 0]⟩ (.ah 460 ⟨2,true,.st [(0,9),(1,454)],[.string ByteArray.empty,.int .u8 0]⟩ (.nil) (.nil)) (.nil))))))))
theorem nV:tt.ok Tryz.prog=true:=by decide +kernel
theorem mo:Tryz.prog.follows .mixedOrders=true:=rfl
end Dv
end Go.Proofs.YtgjagnmeonoehaaGreat
namespace Go.Proofs.YtgjagnmeonoehaaGreat
namespace Dv
open Go
theorem eG {f:FuncId} {fn:Func} {c:Code} {args:List DV} {os:List (List DV)} {bO:List TkE} {Φ:DV->List (List DV)->List TkE->Prop} (nt:Nat) (rs:List ResultVar)
 (hf:Tryz.prog.funcs[f]? = some fn) (hb:fn.body=some c) (H0:fn.ntmps=nt) (zL:fn.results.toList=rs)
 (h:∀ (E:En) (w:World) (hn:E.β.length=os.length) (hm:E.tk.length=bO.length),go ⟨Tryz.prog,tt,nV,fn,nt,rs,zL,w,E,os.length,bO.length,hn,hm,false,Φ,[],[],false⟩ 5000 [.code c] ⟨argSl 0 args,os,bO⟩) (hlen:args.length<=nt:=by exact Nat.le_of_ble_eq_true rfl):Ev Tryz.prog f args os bO Φ:=aaJ tt nV 5000 nt rs hf hb H0 zL hlen h
theorem cP {X:Ctx} {st:St} {k:List It} {f:FuncId} {args bB:List DV} {d:Nat} {r:DV} (lm:Enters X.P f) (hc:EvP X.P f bB r) (hk:go X 4000 k ⟨(d,⟨[],r⟩) :: st.sl,st.bx,st.tk⟩) (ha:CcL [] 0 0 0 bB args:=by exact ax) (hd:eJ X.nt st.sl (some d)=true:=by exact rfl) (aW:X.still=false:=by exact rfl):CallG X f args (some d) k st:=O0 lm hc ha hd hk aW
theorem cD {X:Ctx} {st:St} {c:Bool} {s0:List (Nat×Sl)} {D:Dr} {i:Nat} {f:FuncId} {args bB:List DV} {d:Nat} {r:List (Nat×Oper)} {pq:DV} (lm:Enters X.P f) (hc:EvP X.P f bB pq) (hk:put2 s0 st (some d) false [] pq (goD X D 3000 c r)) (ha:CcL [] 0 0 0 bB args:=by exact ax) (hd:(eJ X.nt st.sl (some d) && eJ X.nt s0 (some d))=true:=by exact rfl) (aW:X.still=false:=by exact rfl):uV X D c i r f args (some d) s0 st:=Tq lm hc ha hd hk aW
theorem dI {X:Ctx} {st:St} {k:List It} {id:Nat} {ops:Array Oper} (h:goD X ⟨ops,fun _=>false,k,st,none⟩ 3000 true (nOps 0 ops.toList) st.sl st) (hm:X.P.follows .mixedOrders=true:=by exact mo) (hc:EK ops (fun _=>false)=true:=by decide +kernel):l6 X id ops k st:=ki _ hm hc h
theorem dS {X:Ctx} {st:St} {k:List It} {id:Nat} {ops:Array Oper} (h:goD X ⟨ops,VD ops,k,st,none⟩ 3000 true (nOps 0 ops.toList) st.sl st) (hm:X.P.follows .mixedOrders=true:=by exact mo) (hc:EK ops (VD ops)=true:=by decide +kernel):l6 X id ops k st:=Tp hm hc h
end Dv
end Go.Proofs.YtgjagnmeonoehaaGreat
set_option maxRecDepth 100000
namespace Go.Proofs.YtgjagnmeonoehaaGreat
open Go Go.RowKit Dv Go.Proofs.Tryz
theorem aa0:Enters prog 11:=enters_of func11 (by decide +kernel) rfl
theorem en12:Enters prog 12:=enters_of func12 (by decide +kernel) rfl
theorem X3:Enters prog 21:=enters_of func21 (by decide +kernel) rfl
theorem en30:Enters prog 30:=enters_of func30 (by decide +kernel) rfl
theorem Tz:Enters prog 31:=enters_of func31 (by decide +kernel) rfl
theorem aa1:Enters prog 32:=enters_of func32 (by decide +kernel) rfl
theorem en33:Enters prog 33:=enters_of func33 (by decide +kernel) rfl
theorem Ms:Enters prog 34:=enters_of func34 (by decide +kernel) rfl
theorem X4:Enters prog 35:=enters_of func35 (by decide +kernel) rfl
theorem oE:Enters prog 36:=enters_of func36 (by decide +kernel) rfl
theorem Mt:Enters prog 37:=enters_of func37 (by decide +kernel) rfl
theorem en43:Enters prog 43:=enters_of func43 (by decide +kernel) rfl
theorem en44:Enters prog 44:=enters_of func44 (by decide +kernel) rfl
theorem en45:Enters prog 45:=enters_of func45 (by decide +kernel) rfl
theorem en46:Enters prog 46:=enters_of func46 (by decide +kernel) rfl
theorem aa2:Enters prog 47:=enters_of func47 (by decide +kernel) rfl
theorem aa3:Enters prog 48:=enters_of func48 (by decide +kernel) rfl
theorem X5:Enters prog 49:=enters_of func49 (by decide +kernel) rfl
theorem en50:Enters prog 50:=enters_of func50 (by decide +kernel) rfl
theorem en51:Enters prog 51:=enters_of func51 (by decide +kernel) rfl
theorem TA:Enters prog 52:=enters_of func52 (by decide +kernel) rfl
theorem X6:Enters prog 53:=enters_of func53 (by decide +kernel) rfl
theorem aa4:Enters prog 54:=enters_of func54 (by decide +kernel) rfl
theorem TB:Enters prog 55:=enters_of func55 (by decide +kernel) rfl
theorem en56:Enters prog 56:=enters_of func56 (by decide +kernel) rfl
theorem aa5:Enters prog 57:=enters_of func57 (by decide +kernel) rfl
theorem H8:Enters prog 68:=enters_of func68 (by decide +kernel) rfl
theorem TC:Enters prog 70:=enters_of func70 (by decide +kernel) rfl
theorem tJ:Enters prog 72:=enters_of func72 (by decide +kernel) rfl
theorem H9:Enters prog 73:=enters_of func73 (by decide +kernel) rfl
theorem en74:Enters prog 74:=enters_of func74 (by decide +kernel) rfl
theorem aa6:Enters prog 76:=enters_of func76 (by decide +kernel) rfl
theorem aa7:Enters prog 77:=enters_of func77 (by decide +kernel) rfl
theorem TD:Enters prog 78:=enters_of func78 (by decide +kernel) rfl
theorem en85:Enters prog 85:=enters_of func85 (by decide +kernel) rfl
theorem X7:Enters prog 86:=enters_of func86 (by decide +kernel) rfl
theorem xG:Enters prog 87:=enters_of func87 (by decide +kernel) rfl
theorem X8:Enters prog 88:=enters_of func88 (by decide +kernel) rfl
theorem TF:Enters prog 89:=enters_of func89 (by decide +kernel) rfl
theorem Pd:Enters prog 90:=enters_of func90 (by decide +kernel) rfl
theorem aa8:Enters prog 91:=enters_of func91 (by decide +kernel) rfl
theorem zY:Enters prog 92:=enters_of func92 (by decide +kernel) rfl
theorem X9:Enters prog 93:=enters_of func93 (by decide +kernel) rfl
theorem Pe:Enters prog 94:=enters_of func94 (by decide +kernel) rfl
theorem en95:Enters prog 95:=enters_of func95 (by decide +kernel) rfl
theorem aa9:Enters prog 96:=enters_of func96 (by decide +kernel) rfl
theorem KF:Enters prog 101:=enters_of func101 (by decide +kernel) rfl
theorem aba:Enters prog 102:=enters_of func102 (by decide +kernel) rfl
theorem abb:Enters prog 103:=enters_of func103 (by decide +kernel) rfl
theorem VG:Enters prog 104:=enters_of func104 (by decide +kernel) rfl
theorem Pf:Enters prog 105:=enters_of func105 (by decide +kernel) rfl
theorem VH:Enters prog 106:=enters_of func106 (by decide +kernel) rfl
theorem abc:Enters prog 107:=enters_of func107 (by decide +kernel) rfl
theorem VI:Enters prog 108:=enters_of func108 (by decide +kernel) rfl
theorem VJ:Enters prog 109:=enters_of func109 (by decide +kernel) rfl
theorem abd:Enters prog 110:=enters_of func110 (by decide +kernel) rfl
theorem xH:Enters prog 111:=enters_of func111 (by decide +kernel) rfl
theorem Pg:Enters prog 112:=enters_of func112 (by decide +kernel) rfl
theorem abe:Enters prog 113:=enters_of func113 (by decide +kernel) rfl
theorem VK:Enters prog 114:=enters_of func114 (by decide +kernel) rfl
theorem oF:Enters prog 115:=enters_of func115 (by decide +kernel) rfl
theorem ET:Enters prog 116:=enters_of func116 (by decide +kernel) rfl
theorem en117:Enters prog 117:=enters_of func117 (by decide +kernel) rfl
theorem VL:Enters prog 118:=enters_of func118 (by decide +kernel) rfl
theorem abf:Enters prog 119:=enters_of func119 (by decide +kernel) rfl
theorem abg:Enters prog 120:=enters_of func120 (by decide +kernel) rfl
theorem abh:Enters prog 121:=enters_of func121 (by decide +kernel) rfl
theorem VM:Enters prog 122:=enters_of func122 (by decide +kernel) rfl
theorem Pj:Enters prog 123:=enters_of func123 (by decide +kernel) rfl
theorem KG:Enters prog 124:=enters_of func124 (by decide +kernel) rfl
theorem abj:Enters prog 137:=enters_of func137 (by decide +kernel) rfl
theorem VN:Enters prog 138:=enters_of func138 (by decide +kernel) rfl
theorem abk:Enters prog 144:=enters_of func144 (by decide +kernel) rfl
theorem VO:Enters prog 151:=enters_of func151 (by decide +kernel) rfl
theorem VP:Enters prog 152:=enters_of func152 (by decide +kernel) rfl
theorem Pk:Enters prog 153:=enters_of func153 (by decide +kernel) rfl
theorem KH:Enters prog 154:=enters_of func154 (by decide +kernel) rfl
theorem abl:Enters prog 156:=enters_of func156 (by decide +kernel) rfl
theorem KI:Enters prog 157:=enters_of func157 (by decide +kernel) rfl
theorem KJ:Enters prog 162:=enters_of func162 (by decide +kernel) rfl
theorem KK:Enters prog 163:=enters_of func163 (by decide +kernel) rfl
theorem KL:Enters prog 164:=enters_of func164 (by decide +kernel) rfl
theorem VQ:Enters prog 165:=enters_of func165 (by decide +kernel) rfl
theorem KM:Enters prog 166:=enters_of func166 (by decide +kernel) rfl
theorem abm:Enters prog 167:=enters_of func167 (by decide +kernel) rfl
theorem xI:Enters prog 168:=enters_of func168 (by decide +kernel) rfl
theorem EU:Enters prog 169:=enters_of func169 (by decide +kernel) rfl
theorem VR:Enters prog 170:=enters_of func170 (by decide +kernel) rfl
theorem abn:Enters prog 171:=enters_of func171 (by decide +kernel) rfl
theorem abo:Enters prog 172:=enters_of func172 (by decide +kernel) rfl
theorem abp:Enters prog 173:=enters_of func173 (by decide +kernel) rfl
theorem VS:Enters prog 174:=enters_of func174 (by decide +kernel) rfl
theorem VT:Enters prog 175:=enters_of func175 (by decide +kernel) rfl
theorem nW:Enters prog 176:=enters_of func176 (by decide +kernel) rfl
theorem VU:Enters prog 177:=enters_of func177 (by decide +kernel) rfl
theorem abq:Enters prog 178:=enters_of func178 (by decide +kernel) rfl
theorem abr:Enters prog 179:=enters_of func179 (by decide +kernel) rfl
theorem abt:Enters prog 180:=enters_of func180 (by decide +kernel) rfl
theorem KN:Enters prog 181:=enters_of func181 (by decide +kernel) rfl
theorem VV:Enters prog 182:=enters_of func182 (by decide +kernel) rfl
theorem Pm:Enters prog 183:=enters_of func183 (by decide +kernel) rfl
theorem abu:Enters prog 185:=enters_of func185 (by decide +kernel) rfl
theorem abv:Enters prog 186:=enters_of func186 (by decide +kernel) rfl
theorem abw:Enters prog 187:=enters_of func187 (by decide +kernel) rfl
theorem abx:Enters prog 188:=enters_of func188 (by decide +kernel) rfl
theorem Pn:Enters prog 190:=enters_of func190 (by decide +kernel) rfl
theorem aby:Enters prog 191:=enters_of func191 (by decide +kernel) rfl
theorem abz:Enters prog 192:=enters_of func192 (by decide +kernel) rfl
theorem Po:Enters prog 193:=enters_of func193 (by decide +kernel) rfl
theorem Pp:Enters prog 194:=enters_of func194 (by decide +kernel) rfl
theorem VW:Enters prog 195:=enters_of func195 (by decide +kernel) rfl
theorem abA:Enters prog 196:=enters_of func196 (by decide +kernel) rfl
theorem abB:Enters prog 197:=enters_of func197 (by decide +kernel) rfl
theorem VX:Enters prog 198:=enters_of func198 (by decide +kernel) rfl
theorem Pq:Enters prog 199:=enters_of func199 (by decide +kernel) rfl
theorem VY:Enters prog 200:=enters_of func200 (by decide +kernel) rfl
theorem VZ:Enters prog 201:=enters_of func201 (by decide +kernel) rfl
theorem V0:Enters prog 202:=enters_of func202 (by decide +kernel) rfl
theorem qu:Enters prog 203:=enters_of func203 (by decide +kernel) rfl
theorem KO:Enters prog 204:=enters_of func204 (by decide +kernel) rfl
theorem xJ:Enters prog 205:=enters_of func205 (by decide +kernel) rfl
theorem abC:Enters prog 206:=enters_of func206 (by decide +kernel) rfl
theorem V1:Enters prog 210:=enters_of func210 (by decide +kernel) rfl
theorem V2:Enters prog 214:=enters_of func214 (by decide +kernel) rfl
theorem V3:Enters prog 216:=enters_of func216 (by decide +kernel) rfl
theorem V4:Enters prog 220:=enters_of func220 (by decide +kernel) rfl
theorem abD:Enters prog 221:=enters_of func221 (by decide +kernel) rfl
theorem Pr:Enters prog 222:=enters_of func222 (by decide +kernel) rfl
theorem abE:Enters prog 223:=enters_of func223 (by decide +kernel) rfl
theorem Ps:Enters prog 224:=enters_of func224 (by decide +kernel) rfl
theorem abF:Enters prog 225:=enters_of func225 (by decide +kernel) rfl
theorem KQ:Enters prog 230:=enters_of func230 (by decide +kernel) rfl
theorem abG:Enters prog 231:=enters_of func231 (by decide +kernel) rfl
theorem V5:Enters prog 232:=enters_of func232 (by decide +kernel) rfl
theorem V6:Enters prog 233:=enters_of func233 (by decide +kernel) rfl
theorem abH:Enters prog 234:=enters_of func234 (by decide +kernel) rfl
theorem abI:Enters prog 235:=enters_of func235 (by decide +kernel) rfl
theorem AH:Enters prog 236:=enters_of func236 (by decide +kernel) rfl
theorem abJ:Enters prog 237:=enters_of func237 (by decide +kernel) rfl
theorem V7:Enters prog 238:=enters_of func238 (by decide +kernel) rfl
theorem abK:Enters prog 240:=enters_of func240 (by decide +kernel) rfl
theorem abL:Enters prog 241:=enters_of func241 (by decide +kernel) rfl
theorem Pt:Enters prog 242:=enters_of func242 (by decide +kernel) rfl
theorem Pu:Enters prog 243:=enters_of func243 (by decide +kernel) rfl
theorem abM:Enters prog 244:=enters_of func244 (by decide +kernel) rfl
theorem V8:Enters prog 250:=enters_of func250 (by decide +kernel) rfl
theorem abN:Enters prog 251:=enters_of func251 (by decide +kernel) rfl
theorem eQ:Enters prog 252:=enters_of func252 (by decide +kernel) rfl
theorem abO:Enters prog 253:=enters_of func253 (by decide +kernel) rfl
theorem abP:Enters prog 254:=enters_of func254 (by decide +kernel) rfl
theorem V9:Enters prog 255:=enters_of func255 (by decide +kernel) rfl
theorem Wa:Enters prog 256:=enters_of func256 (by decide +kernel) rfl
theorem Wb:Enters prog 257:=enters_of func257 (by decide +kernel) rfl
theorem Wc:Enters prog 260:=enters_of func260 (by decide +kernel) rfl
theorem abQ:Enters prog 265:=enters_of func265 (by decide +kernel) rfl
theorem abR:Enters prog 266:=enters_of func266 (by decide +kernel) rfl
theorem abS:Enters prog 270:=enters_of func270 (by decide +kernel) rfl
theorem abT:Enters prog 271:=enters_of func271 (by decide +kernel) rfl
theorem abU:Enters prog 272:=enters_of func272 (by decide +kernel) rfl
theorem abV:Enters prog 275:=enters_of func275 (by decide +kernel) rfl
theorem abW:Enters prog 276:=enters_of func276 (by decide +kernel) rfl
theorem Pv:Enters prog 277:=enters_of func277 (by decide +kernel) rfl
theorem ie:Enters prog 278:=enters_of func278 (by decide +kernel) rfl
theorem abX:Enters prog 279:=enters_of func279 (by decide +kernel) rfl
theorem Wf:Enters prog 280:=enters_of func280 (by decide +kernel) rfl
theorem Pw:Enters prog 281:=enters_of func281 (by decide +kernel) rfl
theorem abY:Enters prog 282:=enters_of func282 (by decide +kernel) rfl
theorem Wg:Enters prog 283:=enters_of func283 (by decide +kernel) rfl
theorem Wh:Enters prog 303:=enters_of func303 (by decide +kernel) rfl
theorem abZ:Enters prog 304:=enters_of func304 (by decide +kernel) rfl
theorem ab0:Enters prog 305:=enters_of func305 (by decide +kernel) rfl
theorem Wi:Enters prog 308:=enters_of func308 (by decide +kernel) rfl
theorem ab1:Enters prog 309:=enters_of func309 (by decide +kernel) rfl
theorem oG:Enters prog 317:=enters_of func317 (by decide +kernel) rfl
theorem Px:Enters prog 318:=enters_of func318 (by decide +kernel) rfl
theorem ab2:Enters prog 319:=enters_of func319 (by decide +kernel) rfl
theorem ab3:Enters prog 320:=enters_of func320 (by decide +kernel) rfl
theorem ab4:Enters prog 321:=enters_of func321 (by decide +kernel) rfl
theorem Py:Enters prog 327:=enters_of func327 (by decide +kernel) rfl
theorem EV:Enters prog 328:=enters_of func328 (by decide +kernel) rfl
theorem ab5:Enters prog 329:=enters_of func329 (by decide +kernel) rfl
theorem ab6:Enters prog 337:=enters_of func337 (by decide +kernel) rfl
theorem ab7:Enters prog 338:=enters_of func338 (by decide +kernel) rfl
theorem ab8:Enters prog 339:=enters_of func339 (by decide +kernel) rfl
theorem ab9:Enters prog 340:=enters_of func340 (by decide +kernel) rfl
theorem KR:Enters prog 353:=enters_of func353 (by decide +kernel) rfl
theorem aca:Enters prog 354:=enters_of func354 (by decide +kernel) rfl
theorem Wj:Enters prog 356:=enters_of func356 (by decide +kernel) rfl
theorem acb:Enters prog 357:=enters_of func357 (by decide +kernel) rfl
theorem acd:Enters prog 358:=enters_of func358 (by decide +kernel) rfl
theorem ace:Enters prog 370:=enters_of func370 (by decide +kernel) rfl
theorem Wl:Enters prog 371:=enters_of func371 (by decide +kernel) rfl
theorem acf:Enters prog 372:=enters_of func372 (by decide +kernel) rfl
end Go.Proofs.YtgjagnmeonoehaaGreat
namespace Go.Proofs.YtgjagnmeonoehaaGreat
open Go Go.RowKit Dv
structure Wd where
 s:ByteArray
 a:Int
structure Hd where
 ag:Int
 aO:Int
 lo:Int
 hi:Int
 most:Int
 af:List Wd
 name:Wd
structure Ph where
 name:Wd
 bare:Bool
 label:List Wd
 wide:Int
 ck:Int
 cn:Int
 ca:Int
 cl:List Wd
mutual
inductive Ty where
 | mk (h:Hd) (ps:Pts)
inductive Pts where
 | nil
 | cons (p:Ph) (t:Ty) (r:Pts)
end
def Ty.h:Ty->Hd | .mk h _=>h
def Ty.ps:Ty->Pts | .mk _ ps=>ps
def Pts.toList:Pts->List (Ph × Ty)
 | .nil=>[]
 | .cons p t r=>(p,t) :: r.toList
def Pts.len:Pts->Nat
 | .nil=>0
 | .cons _ _ r=>r.len + 1
theorem Pts.Pz:∀ ps:Pts,ps.len=ps.toList.length
 | .nil=>rfl
 | .cons _ _ r=>by simp [Pts.len,Pts.toList,Pts.Pz r]
def Wd.wt (w:Wd):Nat:=w.s.size + 64
def wdsWt:List Wd->Nat
 | []=>0
 | w :: r=>w.wt + wdsWt r
def Hd.wt (h:Hd):Nat:=256 + wdsWt h.af + h.name.wt
def Ph.wt (p:Ph):Nat:=256 + p.name.wt + wdsWt p.label + wdsWt p.cl
mutual
def Ty.wt:Ty->Nat
 | .mk h ps=>h.wt + ps.wt
def Pts.wt:Pts->Nat
 | .nil=>0
 | .cons p t r=>p.wt + t.wt + r.wt
end
theorem bI:∀ l:List Wd,64 * l.length<=wdsWt l
 | []=>aV _
 | w :: r=>by have:=bI r;simp only [List.length_cons,wdsWt,Wd.wt];omega
theorem jo:∀ {l:List Wd} {w:Wd},w∈l->w.s.size + 64<=wdsWt l
 | x :: r,w,h=>by
  rcases dN h with h | h
  ·subst h;simp only [wdsWt,Wd.wt];omega
  ·have:=jo h;simp only [wdsWt];omega
theorem Pts.gF:∀ ps:Pts,256 * ps.len<=ps.wt
 | .nil=>aV _
 | .cons p t r=>by have:=Pts.gF r;simp only [Pts.len,Pts.wt,Ph.wt];omega
theorem Pts.gY:∀ {ps:Pts} {p:Ph} {t:Ty},(p,t)∈ps.toList->p.wt + t.wt<=ps.wt
 | .cons p t r,q,u,h=>by
  rcases dN h with h | h
  ·cases h;simp only [Pts.wt];omega
  ·have:=Pts.gY h;simp only [Pts.wt];omega
theorem Ty.fk (t:Ty):256<=t.wt:=by
 cases t;simp only [Ty.wt,Hd.wt];omega
def kP (w:Wd):List DV:=[.v (.string w.s),.v (.int .i64 w.a)]
def bT (l:List Wd):List (List DV):=l.map kP
def Ia (p:Ph) (tl:List DV):List DV:=
 .v (.string p.name.s) :: .v (.int .i64 p.name.a) :: .v (.bool p.bare) :: .sl 2 (bT p.label) none :: .v (.int .i64 p.wide) :: .v (.int .i64 p.ck) :: .v (.int .i64 p.cn) :: .v (.int .i64 p.ca) :: .sl 2 (bT p.cl) none :: tl
mutual
def eK:Ty->List DV
 | .mk h ps=>[.v (.int .i64 h.ag),.v (.int .i64 h.aO),.v (.int .i64 h.lo),.v (.int .i64 h.hi),.v (.int .i64 h.most),.sl 2 (bT h.af) none,.sl 18 (gG ps) none,.v (.string h.name.s),.v (.int .i64 h.name.a)]
def gG:Pts->List (List DV)
 | .nil=>[]
 | .cons p t r=>Ia p (eK t) :: gG r
end
theorem aD (l:List Wd):(bT l).length=l.length:=by simp [bT]
theorem aN:∀ ps:Pts,(gG ps).length=ps.len
 | .nil=>by simp [gG,Pts.len]
 | .cons p t r=>by simp [gG,Pts.len,aN r]
theorem bd {l:List Wd} {j:Nat} {w:Wd} (h:l[j]? = some w):(bT l)[j]? = some (kP w):=by simp [bT,h]
theorem AJ {l:List Wd} {e:Nat} {x:Wd} (h:l[e]? = some x):bT (l.take e) ++ [kP x]=bT (l.take (e + 1)):=by
 rw [List.take_add_one,h];simp [bT]
theorem cq:∀ {ps:Pts} {j:Nat} {p:Ph} {t:Ty},ps.toList[j]? = some (p,t)->(gG ps)[j]? = some (Ia p (eK t))
 | .nil,j,p,t,h=>by simp [Pts.toList] at h
 | .cons q u r,0,p,t,h=>by grind [Pts.toList,gG]
 | .cons q u r,j + 1,p,t,h=>by
  simp only [Pts.toList,List.getElem?_cons_succ] at h;simp only [gG,List.getElem?_cons_succ];exact cq h
def Pts.drop:Nat->Pts->Pts
 | 0,ps=>ps
 | _ + 1,.nil=>.nil
 | e + 1,.cons _ _ r=>r.drop e
theorem Pts.drop_cons:∀ {e:Nat} {ps:Pts} {p:Ph} {t:Ty},ps.toList[e]? = some (p,t)->ps.drop e = .cons p t (ps.drop (e + 1))
 | 0,.cons q u r,p,t,h=>by
  simp only [Pts.toList,List.getElem?_cons_zero,oI,Prod.mk.injEq] at h;obtain ⟨rfl,rfl⟩:=h;rfl
 | e + 1,.cons q u r,p,t,h=>by
  simp only [Pts.toList,List.getElem?_cons_succ] at h;simp only [Pts.drop];exact Pts.drop_cons h
 | 0,.nil,p,t,h=>by simp [Pts.toList] at h
 | e + 1,.nil,p,t,h=>by simp [Pts.toList] at h
theorem Pts.dR:∀ (ps:Pts),ps.drop ps.len = .nil
 | .nil=>rfl
 | .cons _ _ r=>by simp only [Pts.len,Pts.drop];exact Pts.dR r
theorem Pts.fl {ps:Pts} {e:Nat} (h:e < ps.len):∃ p t,ps.toList[e]? = some (p,t):=by
 rw [Pts.Pz] at h;exact ⟨_,_,gE h⟩
theorem drop_cons {α:Type} {l:List α} {e:Nat} {x:α} (h:l[e]? = some x):l.drop e=x :: l.drop (e + 1):=by
 obtain ⟨h1,h2⟩:=List.getElem?_eq_some_iff.1 h;rw [<- h2];exact List.drop_eq_getElem_cons h1
def ay:ByteArray:=⟨#[]⟩
def PA:Hd:=⟨0,0,0,0,0,[],⟨ay,0⟩⟩
def c9:Ty:=.mk PA .nil
def fJ:Ph:=⟨⟨ay,0⟩,false,[],0,0,0,0,[]⟩
def jZ:Ph:=⟨⟨ay,0⟩,true,[],0,0,0,0,[]⟩
theorem aG {e n:Nat} (h:e < n) (hn:n<=4611686018427387904):IntKind.i64.wrap ((e:Int) + 1)=((e + 1:Nat):Int):=by
 rw [IntWalk.i64_in _ ⟨by omega,by omega⟩];omega
theorem wrap64 {n:Int} (h1 : -9223372036854775808<=n) (h2:n<=9223372036854775807):IntKind.i64.wrap n=n:=IntWalk.i64_in n ⟨h1,h2⟩
theorem av (x a:Bool):pickB x a false=(x && a):=by cases x<;>rfl
theorem aw (x b:Bool):pickB x true b=(x || b):=by cases x<;>rfl
end Go.Proofs.YtgjagnmeonoehaaGreat
set_option maxRecDepth 100000
namespace Go.Proofs.YtgjagnmeonoehaaGreat
open Go Go.RowKit Dv Go.Proofs.Tryz
def isLet (c:Int):Bool:=decide (97<=c) && decide (c<=122)
def jq (c:Int):Bool:=(isLet c || (decide (48<=c) && decide (c<=57))) || decide (c=95)
def signs:List UInt8->Nat
 | []=>0
 | c :: r=>if jq c.toNat=true then signs r + 1 else 0
def eL:List UInt8->Nat
 | []=>0
 | c :: r=>if isLet c.toNat=true then signs r + 1 else 0
def bE (s:ByteArray):Bool:=decide (0 < s.size) && (decide (s.size<=32) && decide (eL s.data.toList=s.size))
theorem EW {c:Int} (h:isLet c=true):jq c=true:=by simp [jq,h]
theorem EY:∀ l:List UInt8,signs l<=l.length
 | []=>aV _
 | c :: r=>by
  simp only [signs,List.length_cons];split
  ·have:=EY r;omega
  ·omega
theorem xK {c:UInt8} {r:List UInt8} (h:isLet c.toNat=true):eL (c :: r)=signs (c :: r):=by
 simp [eL,signs,h,EW h]
theorem tK {s:ByteArray} {k:Nat} (h:k < s.size):∃ c:UInt8,s.data.toList.drop k=c :: s.data.toList.drop (k + 1)/\gC s k=c.toNat:=by
 have hk:k < s.data.toList.length:=sU h;refine ⟨s.data.toList[k],by rw [<- List.drop_eq_getElem_cons hk],?_⟩
 grind [gC]
theorem xL {s:ByteArray} {k:Nat} (h:s.size<=k):s.data.toList.drop k=[]:=List.drop_eq_nil_of_le (sU h)
theorem uW (c:Int):EvP prog 250 [.v (.int .u8 c)] (.v (.bool (isLet c))):=by
 refine eG 9 [.tmp 2] func250 rfl ntmps250 rfl fun _ _ _ _=>?_;exact (congrArg (fun b=>DV.v (.bool b)) (av _ _):_=_)
theorem Mu (c:Int):EvP prog 251 [.v (.int .u8 c)] (.v (.bool (jq c))):=by
 refine eG 17 [.tmp 2] func251 rfl ntmps251 rfl fun _ _ _ _=>?_;refine cP V8 (uW c) ?_;refine (bP ?_:);simp only [av,aw,jq]
abbrev Ib (s:ByteArray) (i e:Nat):St:=⟨[au 5 e,(0,⟨[],.v (.string s)⟩),au 1 i],[],[]⟩
theorem Cw (s:ByteArray) (i:Nat):s.extract i (i + 0)=⟨#[]⟩:=by
 apply ByteArray.ext
 simp_all
theorem Mv (s:ByteArray) (i:Nat) (hi:i < s.size) (hs:s.size<=4611686018427387904):EvP prog 198 [.v (.string s),.v (.int .i64 i)]
  (.tup [.v (.string (s.extract i (i + eL (s.data.toList.drop i)))),.v (.int .i64 ((i + eL (s.data.toList.drop i):Nat):Int))]):=by
 obtain ⟨c0,AK,iv⟩:=tK hi;refine eG 38 [.tmp 4,.tmp 5] func198 rfl ntmps198 rfl fun _ _ _ _=>?_;refine br (fun h=>?_) (fun _=>?_)
 ·simp [aw] at h;omega
 refine ⟨⟨by omega,by omega⟩,?_⟩;refine cP V8 (uW _) ?_;refine br ?_ ?_<;>intro h
 ·have hl:isLet (c0.toNat:Int)=false:=by grind
  have hn:eL (s.data.toList.drop i)=0:=by rw [AK];simp [eL,hl]
  rw [hn,Cw];exact ⟨_,ax,rfl⟩
 have hl:isLet (c0.toNat:Int)=true:=by grind
 have hn:eL (s.data.toList.drop i)=signs (s.data.toList.drop i):=by rw [AK];exact xK hl
 rw [hn]
 refine aY (fun j st=>∃ e:Nat,st=Ib s i e/\e<=s.size/\i<=e/\e + signs (s.data.toList.drop e)=i + signs (s.data.toList.drop i)/\j=s.size - e)
  (s.size - i) (Ib s i i) (bz wB) ⟨i,rfl,by omega,by omega,rfl,rfl⟩ ?_
 rintro j st ⟨e,rfl,he,EZ,hinv,rfl⟩;refine br ?_ ?_<;>intro h
 ·have aq:e < s.size:=sU h;refine ⟨⟨by omega,by omega⟩,?_⟩;refine cP abN (Mu _) ?_;obtain ⟨c,hd,hb⟩:=tK aq;refine br ?_ ?_<;>intro h2
  ·have Z2:jq (c.toNat:Int)=true:=by
    have:jq ((gC s e:Nat):Int)=true:=h2
    rwa [hb] at this
   refine ⟨Ib s i (e + 1),(bz (cJ (aG aq (by omega)))),s.size - (e + 1),by omega,e + 1,rfl,by omega,by omega,?_,rfl⟩;rw [hd] at hinv;simp only [signs,Z2,if_true] at hinv;omega
  ·have Z2:jq (c.toNat:Int)=false:=by
    have:jq ((gC s e:Nat):Int)=false:=h2
    rwa [hb] at this
   rw [hd] at hinv;simp only [signs,Z2] at hinv;refine ⟨⟨by omega,by omega,by omega⟩,?_⟩;have:i + signs (s.data.toList.drop i)=e:=by simp at hinv;omega
   rw [this];exact ⟨_,ax,rfl⟩
 ·have hge:e=s.size:=by simp at h;omega
  rw [xL (by omega)] at hinv;simp only [signs] at hinv;refine ⟨⟨by omega,by omega,by omega⟩,?_⟩;have:i + signs (s.data.toList.drop i)=e:=by omega
  rw [this];exact ⟨_,ax,rfl⟩
theorem take_nil (s:ByteArray) (hs:s.size=0):EvP prog 198 [.v (.string s),.v (.int .i64 0)] (.tup [.v (.string ⟨#[]⟩),.v (.int .i64 0)]):=by
 refine eG 38 [.tmp 4,.tmp 5] func198 rfl ntmps198 rfl fun _ _ _ _=>?_;refine br (fun _=>?_) (fun h=>?_)
 ·exact ⟨_,ax,rfl⟩
 ·simp [aw,hs] at h
theorem Ic (l:List UInt8):eL l<=l.length:=by
 cases l with
 | nil=>exact aV _
 | cons c r=>grind [eL,EY]
theorem E4 (s:ByteArray):decide (s=⟨#[]⟩)=decide (s.size=0):=by
 rw [Bool.eq_iff_iff];simp only [decide_eq_true_eq];constructor
 ·rintro rfl;rfl
 ·intro h;apply ByteArray.ext;exact Array.eq_empty_of_size_eq_zero h
theorem jr (s:ByteArray) (hs:s.size<=4611686018427387904):EvP prog 111 [.v (.string s)] (.v (.bool (bE s))):=by
 refine eG 22 [.tmp 2] func111 rfl ntmps111 rfl fun _ _ _ _=>?_;by_cases h0:s.size=0
 ·refine cP VX (take_nil s h0) ?_;refine (bP ?_:);simp [av,bE,E4,h0]
 ·refine cP VX (Mv s 0 (by omega) hs) ?_;refine (bP ?_:);have hl:=Ic s.data.toList;simp only [Array.length_toList,ByteArray.size_data] at hl;simp only [av,bE,E4,List.drop_zero,Nat.zero_add];rw [Bool.eq_iff_iff];simp only [bc,decide_eq_true_eq,Bool.not_eq_true',decide_eq_false_iff_not];omega
abbrev Cx (s:ByteArray) (i n e:Nat):St:=⟨[au 5 n,au 6 e,(0,⟨[],.v (.string s)⟩),au 1 i],[],[]⟩
theorem E5 (s:ByteArray) (hs:s.size<=4611686018427387904):EvP prog 225 [.v (.string s),.v (.int .i64 0)] (.v (.int .i64 (eL s.data.toList))):=by
 refine eG 47 [.tmp 4] func225 rfl ntmps225 rfl fun _ _ _ _=>?_
 refine aY (fun j st=>∃ e:Nat,st=Cx s 0 e e/\e<=s.size/\(e=0∨e + signs (s.data.toList.drop e)=eL s.data.toList)/\j=s.size - e)
  s.size (Cx s 0 0 0) (bz wB) ⟨0,rfl,by omega,.inl rfl,rfl⟩ ?_
 rintro j st ⟨e,rfl,he,hinv,rfl⟩;refine br ?_ ?_<;>intro h
 ·have aq:e < s.size:=sU h;refine ⟨⟨by omega,by omega⟩,?_⟩;obtain ⟨c,hd,hb⟩:=tK aq;have key:eL s.data.toList=if (e=0/\isLet (c.toNat:Int)=true)∨(e≠0/\jq (c.toNat:Int)=true) then (e + 1) + signs (s.data.toList.drop (e + 1)) else e:=by grind [eL,isLet,signs,jq]
  refine br ?_ ?_<;>intro h2
  ·have iQ:gC s ((e:Int).toNat)=c.toNat:=hb;rw [iQ] at h2;have:eL s.data.toList=e:=by grind [av,aw,jq,isLet]
   rw [this];exact (rfl:_=_)
  ·have iQ:gC s ((e:Int).toNat)=c.toNat:=hb;rw [iQ] at h2;refine ⟨Cx s 0 (e + 1) (e + 1),(bz (cJ (aG aq (by omega)))),s.size - (e + 1),by omega,e + 1,rfl,by omega,.inr ?_,rfl⟩;rw [key,ap];simp only [av,aw,jq,isLet] at h2 ⊢;simp at h2 ⊢;omega
 ·have hge:e=s.size:=by simp at h;omega
  have:eL s.data.toList=e:=by
   rcases hinv with h0 | h0
   ·subst h0;have:s.data.toList=[]:=by rw [<- List.drop_zero (l:=s.data.toList)];exact xL (by omega)
    rw [this];all_goals rfl
   ·grind [xL,signs]
  rw [this];exact (rfl:_=_)
theorem lz (s:ByteArray) (hs:s.size<=4611686018427387904):EvP prog 154 [.v (.string s)] (.v (.bool (bE s))):=by
 refine eG 18 [.tmp 2] func154 rfl ntmps154 rfl fun _ _ _ _=>?_;refine br ?_ ?_<;>intro h
 ·refine cP abF (E5 s hs) ?_;refine (bP ?_:);rw [Bool.eq_iff_iff];simp [av] at h;simp [av,bE];omega
 ·refine (bP ?_:);rw [Bool.eq_iff_iff];simp [av] at h;simp [av,bE];omega
def fF (l:List ByteArray):List (List DV):=l.map fun s=>[.v (.string s)]
def dInts (l:List Nat):List (List DV):=l.map fun (i:Nat)=>[.v (.int .i64 (i:Int))]
theorem cG (l:List ByteArray):(fF l).length=l.length:=by simp [fF]
theorem aU (l:List Nat):(dInts l).length=l.length:=by simp [dInts]
theorem gT {l:List ByteArray} {j:Nat} {x:ByteArray} (h:l[j]? = some x):(fF l)[j]? = some [.v (.string x)]:=by simp [fF,h]
theorem aR {l:List Nat} {j:Nat} {x:Nat} (h:l[j]? = some x):(dInts l)[j]? = some [.v (.int .i64 (x:Int))]:=by simp [dInts,h]
abbrev Ie (g:Nat) (cb:List DV) (i j:Nat):St:=⟨[(1,⟨[],.fn g [] cb⟩),au 5 i,au 6 j],[],[]⟩
theorem uX (g:Nat) (lm:Enters prog g) (cb:List DV) (n m:Nat) (hn:n<=1099511627776) (hm:m<=n) (hcb:CcL [] 0 0 0 cb cb) (fU:clB.clL 0 0 cb=true)
  (hp:∀ i:Nat,i < n->EvP prog g (.v (.int .i64 i) :: cb) (.v (.bool (decide (m<=i))))) :
  EvP prog 200 [.v (.int .i64 n),.fn g [] cb] (.v (.int .i64 m)):=by
 refine eG 26 [.tmp 4] func200 rfl ntmps200 rfl fun _ _ _ _=>?_;have Ef:clB 0 0 (.fn g [] cb)=true:=by simp only [clB,bc];exact ⟨rfl,fU⟩
 refine lI (fun j st=>∃ a b:Nat,st=Ie g cb a b/\a<=m/\m<=b/\b<=n/\j=b - a) ⟨0,n,rfl,by omega,by omega,by omega,rfl⟩ (bz (cJ Ef)) ?_;rintro j st ⟨a,b,rfl,h1,h2,h3,rfl⟩;refine br ?_ ?_<;>intro h
 ·have aq:a < b:=sU h
  have Ya:IntKind.i64.wrap ((IntKind.u64.wrap (IntKind.i64.wrap ((a:Int) + (b:Int)))).fdiv (2 ^ (min ((1:Int).toNat) IntKind.u64.bits)))=(((a + b) / 2:Nat):Int):=by
   rw [wrap64 (n:=(a:Int) + (b:Int)) (by omega) (by omega),IntKind.wrap_u64];have e2:(2:Int) ^ (min ((1:Int).toNat) IntKind.u64.bits)=2:=by decide
   rw [e2,Int.fdiv_eq_ediv_of_nonneg _ (by decide),wrap64 (by omega) (by omega)];omega
  refine ⟨by decide,?_⟩;refine cP lm (hp ((a + b) / 2) (by omega)) ?_ ⟨_,_,rfl,congrArg (fun z=>DV.v (.int .i64 z)) Ya,hcb⟩;refine br ?_ ?_<;>intro hq
  ·have hq:(a + b) / 2 < m:=sU hq;have zM:=aG (e:=(a + b) / 2) (n:=n) (by omega) (by omega);rw [<- Ya] at zM;refine ⟨Ie g cb ((a + b) / 2 + 1) b,(bz (wB2 Ef zM)),b - ((a + b) / 2 + 1),by omega,(a + b) / 2 + 1,b,rfl,by omega,by omega,by omega,rfl⟩
  ·have hq:m<=(a + b) / 2:=sU hq;refine ⟨Ie g cb a ((a + b) / 2),(bz (wB2 Ef Ya)),(a + b) / 2 - a,by omega,a,(a + b) / 2,rfl,by omega,by omega,by omega,rfl⟩
 ·have hge:¬ a < b:=sU h;have:a=m:=by omega
  subst this;exact (rfl:_=_)
def Cy (a b:ByteArray):Bool:=Op.bytesLess a.data.toList b.data.toList
theorem lQ:∀ l:List UInt8,Op.bytesLess l l=false
 | []=>rfl
 | a :: r=>by simp [Op.bytesLess,lQ r]
theorem kQ:∀ {a b:List UInt8},Op.bytesLess a b=true->Op.bytesLess b a=false
 | _,[],h=>by simp [Op.bytesLess] at h
 | [],b :: r,_=>rfl
 | a :: x,b :: y,h=>by
  simp only [Op.bytesLess,Bool.or_eq_true,decide_eq_true_eq,bc,beq_iff_eq] at h;simp only [Op.bytesLess,Bool.or_eq_false_iff,decide_eq_false_iff_not,Bool.and_eq_false_imp,beq_iff_eq];rcases h with h | ⟨rfl,h⟩
  ·grind
  ·exact ⟨UInt8.lt_irrefl _,fun _=>kQ h⟩
structure iU (L:List ByteArray) (aJ:List Nat):Prop where
 lt:∀ (i p:Nat),aJ[i]? = some p->p < L.length
 srt:∀ (i j p q:Nat) (s t:ByteArray),i < j->aJ[i]? = some p->aJ[j]? = some q->L[p]? = some s->L[q]? = some t->Cy s t=true
 fst:∀ (i p j:Nat) (s:ByteArray),aJ[i]? = some p->L[p]? = some s->L[j]? = some s->p<=j
 all:∀ (j:Nat) (s:ByteArray),L[j]? = some s->∃ i p:Nat,aJ[i]? = some p/\L[p]? = some s
abbrev dt (L:List ByteArray) (aJ:List Nat):List DV:=[.sl 1 (fF L) none,.sl 1 (dInts aJ) none]
theorem xM (L:List ByteArray) (aJ:List Nat) (s:ByteArray) (i p:Nat) (t:ByteArray) (hi:aJ[i]? = some p) (hp:L[p]? = some t) :
  EvP prog 201 [.v (.int .i64 i),.pt [.pt (dt L aJ) 0] 0,.pt [.v (.string s)] 0] (.v (.bool (!Cy t s))):=by
 refine eG 20 [.tmp 4] func201 rfl ntmps201 rfl fun _ _ _ _=>?_;refine dI ?_;refine iX (aR hi) ?_;refine iX (gT hp) ?_;exact (rfl:_=_)
theorem find_spec (L:List ByteArray) (aJ:List Nat) (s:ByteArray) (q p:Nat) (hT:iU L aJ) (hl:aJ.length<=1099511627776) (hq:aJ[q]? = some p) (hp:L[p]? = some s) :
  EvP prog 115 [.pt (dt L aJ) 0,.v (.string s)] (.tup [.v (.int .i64 p),.v (.bool true)]):=by
 have hqlt:=(gS hq).1;refine eG 47 [.tmp 4,.tmp 5] func115 rfl ntmps115 rfl fun _ _ _ _=>?_
 have fU:∀ i:Nat,i < aJ.length->EvP prog 201 [.v (.int .i64 i),.pt [.pt (dt L aJ) 0] 0,.pt [.v (.string s)] 0] (.v (.bool (decide (q<=i)))):=by
  intro i hi;obtain ⟨p',xA⟩:∃ p',aJ[i]? = some p':=⟨_,gE hi⟩;obtain ⟨t,ht⟩:∃ t,L[p']? = some t:=⟨_,gE (hT.lt i p' xA)⟩;have:=xM L aJ s i p' t xA ht
  have e:(!Cy t s)=decide (q<=i):=by
   rcases Nat.lt_trichotomy i q with h | h | h
   ·rw [hT.srt i q p' p t s h xA hq ht hp];simp;omega
   ·grind [Cy,lQ]
   ·have h2:=hT.srt q i p p' s t h hq xA hp ht;rw [Cy,kQ h2];simp;omega
  rw [e] at this;exact this
 have hS:=uX 201 VZ [.pt [.pt (dt L aJ) 0] 0,.pt [.v (.string s)] 0] aJ.length q hl (by omega) ax rfl fU;refine Cv VY hS (mc (aU aJ)) rfl ?_;refine dI ?_;refine br ?_ ?_<;>intro h
 ·refine iX (aR hq) ?_;refine iX (gT hp) ?_;refine br ?_ ?_<;>intro h2
  ·exfalso;simp [aw,aU] at h2
  ·refine iX (aR hq) ?_;exact ⟨_,ax,rfl⟩
 ·grind [dInts,aU]
end Go.Proofs.YtgjagnmeonoehaaGreat
set_option maxRecDepth 100000
namespace Go.Proofs
open Go.Shelf
def Tryz.laysGg6_ren:Go.Shelf.Ren:=⟨fun | 6=>188 | 10=>245 | 11=>246 | 12=>247 | 13=>248 | 14=>249 | 24=>293 | 25=>294 | 26=>295 | 27=>296 | 28=>297 | 29=>298 | 30=>299 | 31=>300 | 32=>301 | 33=>302 | 34=>322 | 35=>323 | 36=>324 | 37=>325 | 38=>326 | 39=>352 | n=>n,fun | 20=>20 | 26=>182 | 35=>341 | 0=>0 | 37=>343 | 3=>3 | 41=>346 | 44=>349 | 49=>384 | 51=>295 | 4=>4 | 54=>387 | 53=>386 | 58=>219 | 5=>5 | 9=>9 | 60=>406 | 64=>410 | 66=>430 | 67=>104 | 17=>17 | 32=>316 | 33=>339 | 82=>459 | 12=>12 | 75=>453 | 76=>454 | 77=>455 | 78=>258 | 79=>456 | 80=>457 | n=>n,fun | n=>n⟩
theorem Tryz.laysGg6:Go.Proofs.LaysGg.n6 prog Tryz.laysGg6_ren:={
 mixed:=by kernel_rfl
 f6:=func188.trans (congrArg some (by kernel_rfl))
 f10:=func245.trans (congrArg some (by kernel_rfl))
 f11:=func246.trans (congrArg some (by kernel_rfl))
 f12:=func247.trans (congrArg some (by kernel_rfl))
 f13:=func248.trans (congrArg some (by kernel_rfl))
 f14:=func249.trans (congrArg some (by kernel_rfl))
 f24:=func293.trans (congrArg some (by kernel_rfl))
 f25:=func294.trans (congrArg some (by kernel_rfl))
 f26:=func295.trans (congrArg some (by kernel_rfl))
 f27:=func296.trans (congrArg some (by kernel_rfl))
 f28:=func297.trans (congrArg some (by kernel_rfl))
 f29:=func298.trans (congrArg some (by kernel_rfl))
 f30:=func299.trans (congrArg some (by kernel_rfl))
 f31:=func300.trans (congrArg some (by kernel_rfl))
 f32:=func301.trans (congrArg some (by kernel_rfl))
 f33:=func302.trans (congrArg some (by kernel_rfl))
 f34:=func322.trans (congrArg some (by kernel_rfl))
 f35:=func323.trans (congrArg some (by kernel_rfl))
 f36:=func324.trans (congrArg some (by kernel_rfl))
 f37:=func325.trans (congrArg some (by kernel_rfl))
 f38:=func326.trans (congrArg some (by kernel_rfl))
 f39:=func352.trans (congrArg some (by kernel_rfl))
 t0:=Tryz.underlying0
 a0:=Tryz.isAgg0
 z0:=Tryz.sizeOf0
 v0:=Tryz.zeroValue0
 i0:=by kernel_rfl
 t3:=Tryz.underlying3
 a3:=Tryz.isAgg3
 z3:=Tryz.sizeOf3
 v3:=Tryz.zeroValue3
 i3:=by kernel_rfl
 t4:=Tryz.underlying4
 a4:=Tryz.isAgg4
 z4:=Tryz.sizeOf4
 v4:=Tryz.zeroValue4
 i4:=by kernel_rfl
 t5:=Tryz.underlying5
 a5:=Tryz.isAgg5
 z5:=Tryz.sizeOf5
 v5:=Tryz.zeroValue5
 i5:=by kernel_rfl
 t9:=Tryz.underlying9
 a9:=Tryz.isAgg9
 z9:=Tryz.sizeOf9
 v9:=Tryz.zeroValue9
 i9:=by kernel_rfl
 t12:=Tryz.underlying12
 a12:=Tryz.isAgg12
 z12:=Tryz.sizeOf12
 v12:=Tryz.zeroValue12
 i12:=by kernel_rfl
 t17:=Tryz.underlying17
 a17:=Tryz.isAgg17
 z17:=Tryz.sizeOf17
 v17:=Tryz.zeroValue17
 i17:=by kernel_rfl
 t20:=Tryz.underlying20
 a20:=Tryz.isAgg20
 z20:=Tryz.sizeOf20
 v20:=Tryz.zeroValue20
 i20:=by kernel_rfl
 t26:=Tryz.underlying182
 a26:=Tryz.isAgg182
 z26:=Tryz.sizeOf182
 v26:=Tryz.zeroValue182
 i26:=by kernel_rfl
 t32:=Tryz.underlying316
 a32:=Tryz.isAgg316
 z32:=Tryz.sizeOf316
 v32:=Tryz.zeroValue316
 i32:=by kernel_rfl
 t33:=Tryz.underlying339
 a33:=Tryz.isAgg339
 z33:=Tryz.sizeOf339
 v33:=Tryz.zeroValue339
 i33:=by kernel_rfl
 t35:=Tryz.underlying341
 a35:=Tryz.isAgg341
 z35:=Tryz.sizeOf341
 v35:=Tryz.zeroValue341
 i35:=by kernel_rfl
 t37:=Tryz.underlying343
 a37:=Tryz.isAgg343
 z37:=Tryz.sizeOf343
 v37:=Tryz.zeroValue343
 i37:=by kernel_rfl
 t41:=Tryz.underlying346
 a41:=Tryz.isAgg346
 z41:=Tryz.sizeOf346
 v41:=Tryz.zeroValue346
 i41:=by kernel_rfl
 t44:=Tryz.underlying349
 a44:=Tryz.isAgg349
 z44:=Tryz.sizeOf349
 v44:=Tryz.zeroValue349
 i44:=by kernel_rfl
 t49:=Tryz.underlying384
 a49:=Tryz.isAgg384
 z49:=Tryz.sizeOf384
 v49:=Tryz.zeroValue384
 i49:=by kernel_rfl
 t51:=Tryz.underlying295
 a51:=Tryz.isAgg295
 z51:=Tryz.sizeOf295
 v51:=Tryz.zeroValue295
 i51:=by kernel_rfl
 t53:=Tryz.underlying386
 a53:=Tryz.isAgg386
 z53:=Tryz.sizeOf386
 v53:=Tryz.zeroValue386
 i53:=by kernel_rfl
 t54:=Tryz.underlying387
 a54:=Tryz.isAgg387
 z54:=Tryz.sizeOf387
 v54:=Tryz.zeroValue387
 i54:=by kernel_rfl
 t58:=Tryz.underlying219
 a58:=Tryz.isAgg219
 z58:=Tryz.sizeOf219
 v58:=Tryz.zeroValue219
 i58:=by kernel_rfl
 t60:=Tryz.underlying406
 a60:=Tryz.isAgg406
 z60:=Tryz.sizeOf406
 v60:=Tryz.zeroValue406
 i60:=by kernel_rfl
 t64:=Tryz.underlying410
 a64:=Tryz.isAgg410
 z64:=Tryz.sizeOf410
 v64:=Tryz.zeroValue410
 i64:=by kernel_rfl
 t66:=Tryz.underlying430
 a66:=Tryz.isAgg430
 z66:=Tryz.sizeOf430
 v66:=Tryz.zeroValue430
 i66:=by kernel_rfl
 t67:=Tryz.underlying104
 a67:=Tryz.isAgg104
 z67:=Tryz.sizeOf104
 v67:=Tryz.zeroValue104
 i67:=by kernel_rfl
 t75:=Tryz.underlying453
 a75:=Tryz.isAgg453
 z75:=Tryz.sizeOf453
 v75:=Tryz.zeroValue453
 i75:=by kernel_rfl
 t76:=Tryz.underlying454
 a76:=Tryz.isAgg454
 z76:=Tryz.sizeOf454
 v76:=Tryz.zeroValue454
 i76:=by kernel_rfl
 t77:=Tryz.underlying455
 a77:=Tryz.isAgg455
 z77:=Tryz.sizeOf455
 v77:=Tryz.zeroValue455
 i77:=by kernel_rfl
 t78:=Tryz.underlying258
 a78:=Tryz.isAgg258
 z78:=Tryz.sizeOf258
 v78:=Tryz.zeroValue258
 i78:=by kernel_rfl
 t79:=Tryz.underlying456
 a79:=Tryz.isAgg456
 z79:=Tryz.sizeOf456
 v79:=Tryz.zeroValue456
 i79:=by kernel_rfl
 t80:=Tryz.underlying457
 a80:=Tryz.isAgg457
 z80:=Tryz.sizeOf457
 v80:=Tryz.zeroValue457
 i80:=by kernel_rfl
 t82:=Tryz.underlying459
 a82:=Tryz.isAgg459
 z82:=Tryz.sizeOf459
 v82:=Tryz.zeroValue459
 i82:=by kernel_rfl }
end Go.Proofs
namespace Go.Proofs.YtgjagnmeonoehaaGreat
open Go Go.RowKit Go.Lib Go.Sort Go.Proofs.Tryz
noncomputable def siT:TypeInfo:=(prog.info? 82).get (by kernel_rfl)
noncomputable def Z3:TypeInfo:=(prog.info? 3).get (by kernel_rfl)
theorem siK (n:Nat) (h2:2<=n):Lib.swapperK n Z3 2=5:=by
 have a:Z3.hasPointers=false:=by kernel_rfl
 have b:Z3.bytes=8:=by kernel_rfl
 have c:(n == 0)=false:=by simp;omega
 have d:(n == 1)=false:=by simp;omega
 simp [Lib.swapperK,a,b,c,d]
theorem PB {α:Type} [Inhabited α] (enc:α->Value) (h1:∀ x,(enc x).oneCell'=true) {lt:α->α->Bool} (hO:SWO lt) (lb:Array Value) (Ht c:Nat) (d:Array α) (h2:2<=d.size) (bW:d.size < 4611686018427387904) (w:World)
  (PD:LessReads prog 189 lb enc lt Ht 0 d.size w) (hH:Holds enc w Ht 0 d) (hblk:Ht < w.heap.size) :
  Calls prog 188 #[.iface 82 (.slice (some ⟨Ht,0,none⟩) d.size c),.func (.func 189) #[] lb] w fun e w'=>
   e = .returned (.tuple #[])/\∃ d' n os,PermIn 0 d.size d d' /\ SortedIn lt 0 d.size d' /\ w'=grow (putRow enc (Sort.ahead w n) Ht 0 d') os:=
 Any.sort_Slice_sorted Tryz.laysGg6 82 3 siT Z3 (by kernel_rfl) (by kernel_rfl) (by kernel_rfl) (by kernel_rfl) 2 (fun _=>by kernel_rfl) (by kernel_rfl) (fun _=>by kernel_rfl) enc h1 lt hO 189 lb
  (enters_of func189 (by kernel_rfl) rfl) Ht 0 c d h2 bW 288 (by rw [siK _ h2];kernel_rfl) true
  (fun args W=>run_callFunc_extern func288 (by kernel_rfl) (by kernel_rfl) (by kernel_rfl) (e:=Extern.ReflectliteSwapper.swap true) (by kernel_rfl) args W) w PD hH hblk
theorem Mw (lb:Array Value) (p:Option Addr) (n c:Nat) (h1:n<=1) (w:World) :
  Calls prog 188 #[.iface 82 (.slice p n c),.func (.func 189) #[] lb] w fun e w'=>e = .returned (.tuple #[])/\∃ os,w'=grow w os:=by
 have h:n=0∨n=1:=by omega
 rcases h with rfl | rfl
 ·exact Any.sort_Slice_tiny Tryz.laysGg6 82 3 siT Z3 (by kernel_rfl) (by kernel_rfl) (by kernel_rfl) (by kernel_rfl) 2 (fun _=>by kernel_rfl) p 0 c h1 284 (by kernel_rfl) _ _ _ w
 ·exact Any.sort_Slice_tiny Tryz.laysGg6 82 3 siT Z3 (by kernel_rfl) (by kernel_rfl) (by kernel_rfl) (by kernel_rfl) 2 (fun _=>by kernel_rfl) p 1 c h1 285 (by kernel_rfl) _ _ _ w
end Go.Proofs.YtgjagnmeonoehaaGreat
set_option maxRecDepth 100000
namespace Go.Proofs.YtgjagnmeonoehaaGreat
open Go Go.RowKit Dv Go.Proofs.Tryz
theorem qv:∀ {a b:List UInt8},Op.bytesLess a b=false->a=b∨Op.bytesLess b a=true
 | [],[],_=>.inl rfl
 | a :: x,[],_=>.inr rfl
 | [],b :: r,h=>by simp [Op.bytesLess] at h
 | a :: x,b :: y,h=>by
  simp only [Op.bytesLess,Bool.or_eq_false_iff,decide_eq_false_iff_not,Bool.and_eq_false_imp,beq_iff_eq] at h;simp only [Op.bytesLess,Bool.or_eq_true,decide_eq_true_eq,bc,beq_iff_eq];by_cases Ig:a=b
  ·subst Ig;rcases qv (h.2 rfl) with h2 | h2
   all_goals grind
  all_goals grind
theorem gU:∀ {a b c:List UInt8},Op.bytesLess a b=true->Op.bytesLess b c=true->Op.bytesLess a c=true
 | _,[],_,h,_=>by simp [Op.bytesLess] at h
 | _,_ :: _,[],_,h=>by simp [Op.bytesLess] at h
 | [],b :: y,c :: z,_,_=>rfl
 | a :: x,b :: y,c :: z,h1,h2=>by
  simp only [Op.bytesLess,Bool.or_eq_true,decide_eq_true_eq,bc,beq_iff_eq] at h1 h2 ⊢;rcases h1 with h1 | ⟨rfl,h1⟩
  ·grind
  ·rcases h2 with h2 | ⟨rfl,h2⟩
   ·exact .inl h2
   ·exact .inr ⟨rfl,gU h1 h2⟩
theorem KS {s t:ByteArray} (h:Cy s t=false):s=t∨Cy t s=true:=by
 rcases qv h with h | h
 ·exact .inl (ByteArray.ext (Array.ext' h))
 ·exact .inr h
def E6 (L:List ByteArray) (p q:Nat):Bool:=
 if L.getD p ay=L.getD q ay then decide (p < q) else Cy (L.getD p ay) (L.getD q ay)
theorem TG (L:List ByteArray):Sort.SWO (E6 L):=by
 have irr:∀ x,E6 L x x=false:=fun x=>by simp [E6]
 have tr:∀ x y z,E6 L x y=true->E6 L y z=true->E6 L x z=true:=by grind [E6,ay,kQ,Cy,gU]
 have tot:∀ x y,E6 L x y=false->x=y∨E6 L y x=true:=by grind [E6,ay,KS]
 refine ⟨irr,tr,fun x y z h1 h2=>?_⟩
 grind
theorem Mx (L:List ByteArray) (d:List Nat) (i j p q:Nat) (hi:d[i]? = some p) (hj:d[j]? = some q) (hp:p < L.length) (hq:q < L.length) :
  EvS prog 189 [.v (.int .i64 i),.v (.int .i64 j),.pt [.sl 1 (dInts d) none] 0,.pt [.pt [.sl 1 (fF L) none,.v (.slice none 0 0)] 0] 0] [] [] (fun r _ _=>r = .v (.bool (E6 L p q))):=by
 obtain ⟨s,hs⟩:∃ s,L[p]? = some s:=⟨_,gE hp⟩;obtain ⟨t,ht⟩:∃ t,L[q]? = some t:=⟨_,gE hq⟩;have e:E6 L p q=if s=t then decide (p < q) else Cy s t:=by grind [E6]
 refine OY (s:=true) (P:=prog) tt nV 5000 50 [.tmp 6] func189 rfl ntmps189 rfl (nL rfl) (fun _ _ _ _=>?_);refine dI ?_;refine iX (aR hi) ?_;refine iX (aR hj) ?_;refine dI ?_;refine iX (gT hs) ?_;refine iX (gT ht) ?_;refine br ?_ ?_<;>intro h
 ·have bA:s≠t:=sU h;refine dI ?_;refine iX (gT hs) ?_;refine iX (gT ht) ?_;refine (bP ?_:);rw [e,aj bA];rfl
 ·have aP:s=t:=sU h;refine (bP ?_:);rw [e,ap aP];simp
abbrev PE (p:Nat):Value:=.int .i64 (p:Int)
theorem E7 {E:En}:∀ {ds:List Nat} {arr:List Value},RvL E (dInts ds).flatten arr->arr=ds.map PE
 | [],arr,h=>by simpa [dInts,RvL] using h
 | x :: r,arr,h=>by
  simp only [dInts,List.map_cons,List.flatten_cons,List.cons_append,List.nil_append,RvL] at h;obtain ⟨v,s,rfl,h1,h2⟩:=h;unfold Rv at h1;rw [h1.1,E7 (ds:=r) h2];rfl
theorem xN {E:En}:∀ ds:List Nat,RvC E (dInts ds).flatten (ds.map PE)
 | []=>⟨cV E,by simp⟩
 | x :: r=>by
  have ih:=xN (E:=E) r;refine ⟨?_,?_⟩
  ·simp only [dInts,List.map_cons,List.flatten_cons,List.cons_append,List.nil_append];exact rvL_cons (gK rfl) ih.1
  ·intro v hv;simp only [List.map_cons,List.mem_cons] at hv;rcases hv with rfl | hv
   ·rfl
   ·exact ih.2 v hv
theorem ach {m:Nat}:∀ ds:List Nat,(∀ p∈ds,p < m + 1)->∃ D:List (Fin (m + 1)),D.map (·.val)=ds
 | [],_=>⟨[],rfl⟩
 | x :: r,h=>by
  obtain ⟨D,hD⟩:=ach r fun p hp=>h p (gJ _ hp);exact ⟨⟨x,h x (by simp)⟩ :: D,by simp [hD]⟩
theorem xO {α:Type} [Inhabited α] (enc:α->Value) (w:World) (b n:Nat) (dk:Array α) (os:Array Obj) (arr:List Value) (ty:TypeId) (hw:w.heap[b]? = some (.cells arr.toArray ty (0,0))) (hl:arr.length=dk.size) :
  ∀ k,k < w.heap.size->(Sort.grow (Sort.putRow enc (Sort.ahead w n) b 0 dk) os).heap[k]? = (World.dh w b (.cells (dk.toList.map enc).toArray ty (0,0))).heap[k]?:=by
 intro k hk;simp only [Sort.grow,Sort.putRow,Sort.mapBlock,Sort.ahead];rw [Array.getElem?_append_left (sU hk),Array.getElem?_modify];by_cases hkb:b=k
 ·subst hkb;rw [ap rfl,hw,eZ hw];simp only [Option.map_some,Sort.onCells,oI,Obj.cells.injEq,and_true];apply Array.ext_getElem?;intro j;simp only [Sort.putCells,Array.getElem?_mapIdx]
  grind
 ·rw [aj hkb,cT (Ne.symm hkb)]
theorem PF {α:Type} {l:List α} {i:Nat} {x:α} (h:l[i]? = some x):l.set i x=l:=by
 apply List.ext_getElem?
 grind
theorem My {X:Ctx} {st:St} {k:List It} (hP:X.P=prog) {i c len:Nat} {ds:List Nat} (hlen:len=ds.length) {lbD:List DV} {d:Nat} (N:Nat) (hN:∀ p∈ds,p < N) (lt:Nat->Nat->Bool) (hO:Sort.SWO lt)
  (mO:st.bx[i]? = some (dInts ds).flatten) (hn:ds.length<=1099511627776) (lbF:List Nat->List DV) (PG:∀ dk:List Nat,dk.length=ds.length->CcL (st.bx.set i (dInts dk).flatten) 0 0 0 (lbF dk) lbD)
  (PD:∀ dk:List Nat,dk.length=ds.length->(∀ p∈dk,p < N)->∀ i j p q:Nat,dk[i]? = some p->dk[j]? = some q->EvS prog 189 (.v (.int .i64 i) :: .v (.int .i64 j) :: lbF dk) [] [] (fun r _ _=>r = .v (.bool (lt p q))))
  (hd:eJ X.nt st.sl (some d)=true)
  (hk:∀ Yb:List Nat,Yb.Perm ds->(∀ i j p q:Nat,i < j->Yb[i]? = some p->Yb[j]? = some q->lt q p=false)->go X 4000 k ⟨(d,⟨[],.tup []⟩) :: st.sl,st.bx.set i (dInts Yb).flatten,st.tk⟩)
  (aW:X.still=false:=by exact rfl) (hX:X.bt=[]:=by exact rfl):CallG X 188 [.rB 82 (.ms i 1 0 len c),.fn 189 [] lbD] (some d) k st:=by
 subst hlen;refine ⟨?_,aW,fun E a w vs h hv=>?_⟩
 ·rw [hP];exact abx
 rw [hP];simp only [RvL] at hv;obtain ⟨v1,_,rfl,h1,v2,_,rfl,h2,rfl⟩:=hv;unfold Rv at h1;obtain ⟨z,rfl,h1⟩:=h1;unfold Rv at h1;obtain ⟨b,ad,hb,ZR,rfl,hca⟩:=h1;unfold Rv at h2;obtain ⟨l,r,rfl,hl,hr⟩:=h2;simp only [RvL] at hl;subst hl;obtain ⟨b',ty,arr,fD,hw,qJ⟩:=h.env.eM i _ mO;rw [hb] at fD;simp only [oI] at fD;subst fD;have PH:=E7 qJ.1;have XY:=dD hw;by_cases h1:ds.length<=1
 ·refine (Mw r.toArray ad ds.length c h1 w).mono ?_;rintro e w' ⟨rfl,os,rfl⟩
  have hh:∀ j,j < w.heap.size->(Sort.grow w os).heap[j]? = w.heap[j]?:=fun j hj=>by
   simp only [Sort.grow];rw [Array.getElem?_append_left hj]
  have bS:Rel X E st a (Sort.grow w os):=dE h (Ext.refl E) (h.env.kb hh) h.tk h.nw (h.fr.cI rfl rfl rfl (by simp [Sort.grow]) fun j hj=>.inr (hh j hj)) (mV aW) (.nil hX);have Kz:=hk ds (List.Perm.refl _) (fun i j p q l9 _ hj=>by have:=(gS hj).1;omega);rw [PF mO] at Kz;exact go_sound 4000 _ _ Kz E _ _ (bi bS hd (.tup []) (.tuple #[]) (by unfold Rv;exact ⟨[],rfl,cV E⟩))
 ·have h2:2<=ds.length:=by omega
  have had:=hca (by omega);subst had
  obtain ⟨m,rfl⟩:∃ m,N=m + 1:=by
   cases Vz:ds with
   | nil=>rw [Vz] at h2;simp at h2
   | cons x r=>have:=hN x (by rw [Vz];simp);exact ⟨N - 1,by omega⟩
  obtain ⟨D,hD⟩:=ach ds hN;have Mz:D.length=ds.length:=by rw [<- hD];simp
  let enc:Fin (m + 1)->Value:=fun x=>PE x.val
  have hO':Sort.SWO (fun x y:Fin (m + 1)=>lt x.val y.val):=⟨fun x=>hO.irrefl _,fun x y z=>hO.trans _ _ _,fun x y z=>hO.ntrans _ _ _⟩;have aci:∀ l:List (Fin (m + 1)),l.map enc=(l.map (·.val)).map PE:=fun l=>by simp [enc]
  have hS:=PB enc (fun _=>rfl) hO' r.toArray b c D.toArray (by simpa [Mz] using h2) (by simp [Mz];omega) w ?_ ?_ XY
  ·simp only [List.size_toArray,Mz] at hS;refine hS.mono ?_;rintro e w' ⟨rfl,d',n,os,hp,hs,rfl⟩;have bW:d'.size=ds.length:=by have:=hp.1;simpa [Mz] using this
   have qw:(d'.toList.map (·.val)).Perm ds:=by
    have h3:=hp.2.2;have e1:d'.extract 0 ds.length=d':=Array.extract_eq_self_of_le (by omega);have e2:D.toArray.extract 0 ds.length=D.toArray:=Array.extract_eq_self_of_le (by simp [Mz]);rw [e1,e2] at h3;rw [<- hD];exact h3.map _
   have PI:∀ i j p q:Nat,i < j->(d'.toList.map (·.val))[i]? = some p->(d'.toList.map (·.val))[j]? = some q->lt q p=false:=by
    intro i j p q l9 hi hj;have ll:j < d'.size:=by have:=(gS hj).1;simpa using this
    have h3:=hs i j (Nat.zero_le _) l9 (by omega);rw [getElem!_pos d' j ll,getElem!_pos d' i (by omega)] at h3;have we:i < d'.size:=by omega
    simp [we] at hi;simp [ll] at hj;rw [<- hi,<- hj];exact h3
   have hh:=xO enc w b n d' os arr ty hw (by rw [PH];simp [bW]);have fc:=ma (ty:=ty) h aW hb (cs':=(dInts (d'.toList.map (·.val))).flatten) (arr':=(d'.toList.map (·.val)).map PE) (xN _) ⟨_,hw⟩;rw [<- aci] at fc;have l5:(Sort.grow (Sort.putRow enc (Sort.ahead w n) b 0 d') os).heap.size=w.heap.size + os.size:=by simp [Sort.grow,Sort.putRow,Sort.mapBlock,Sort.ahead]
   have bS:=dE fc (Ext.refl E) (w':=Sort.grow (Sort.putRow enc (Sort.ahead w n) b 0 d') os) (fc.env.kb fun j hj=>hh j (by rwa [fV] at hj)) fc.tk fc.nw
    (fc.fr.cI rfl rfl rfl (by rw [fV,l5];omega) fun j hj=>.inr (hh j (by rwa [fV] at hj))) (mV aW) (.nil hX)
   exact go_sound 4000 _ _ (hk _ qw PI) E _ _ (bi bS hd (.tup []) (.tuple #[]) (by unfold Rv;exact ⟨[],rfl,cV E⟩))
  ·intro mm os dk hs i' j' hi hj;have bW:dk.size=ds.length:=sV Mz hs;have hh:=xO enc w b mm dk os arr ty hw (by rw [PH];simp [bW]);have hE:=h.env.set hb XY (ty:=ty) (xN (E:=E) (dk.toList.map (·.val)));rw [<- aci] at hE;have hE':=hE.kb (w':=Go.Proofs.sortWorld enc w b 0 mm dk os) fun j hj=>hh j (by rwa [fV] at hj);have we:i' < dk.size:=by rw [bW,<- Mz];simpa using hi
   have ll:j' < dk.size:=by rw [bW,<- Mz];simpa using hj
   have hLL:(dk.toList.map (·.val)).length=ds.length:=sU bW
   have hc:=PD (dk.toList.map (·.val)) hLL (fun p hp=>by
    obtain ⟨x,_,rfl⟩:=List.mem_map.1 hp
    exact x.isLt) i' j' (dk[i']!).val (dk[j']!).val (by rw [getElem!_pos dk i' we];simp [we]) (by rw [getElem!_pos dk j' ll];simp [ll])
   have hv:RvL E (.v (.int .i64 (i':Int)) :: .v (.int .i64 (j':Int)) :: lbD) (.int .i64 (i':Int) :: .int .i64 (j':Int) :: r):=rvL_cons (gK rfl) (rvL_cons (gK rfl) hr);have hb:=kj hE' hc ⟨_,_,rfl,rfl,_,_,rfl,rfl,PG _ hLL⟩ hv;have hargs:(#[Value.int .i64 (i':Int),Value.int .i64 (j':Int)] ++ r.toArray)=(Value.int .i64 (i':Int) :: Value.int .i64 (j':Int) :: r).toArray:=by simp
   rw [hargs];refine hb.mono ?_;rintro e w' ⟨v,E2,rfl,E8,_,xc⟩;have:=cj E8;subst this;exact ⟨rfl,xc rfl⟩
  ·intro j hj;have ll:j < D.length:=sU hj;rw [cC hw,Nat.zero_add,PH];refine ⟨?_,?_⟩
   ·rw [getElem!_pos D.toArray j hj,<- hD];simp [ll,enc]
   ·simp [World.frozen?,hw]
end Go.Proofs.YtgjagnmeonoehaaGreat
