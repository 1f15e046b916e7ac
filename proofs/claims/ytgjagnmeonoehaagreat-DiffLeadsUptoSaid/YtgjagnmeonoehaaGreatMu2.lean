/- Part 2 of the proof: The evaluator 'go' is sound: the end of a call, the theorem; contracts; rules for branches, calls, loops; Rules for the evaluator: what is known made less, loops; A region that draws its order: where the operations with an effect are ordered among themselves, and what writes waits for all that reads, one run in the order of the text serves every order; The evaluator at regions that draw their order: one run in the order of the text; what is read is what was known at the region's beginning; A region that draws its order, in which two operations with an effect are not ordered: the run in either order of these two serves every order; Rules for the evaluator: a call that is handed the caller's own objects, to read them; Rules for the evaluator: objects that are written no more are frozen, ahead of a loop; Rules for the evaluator: a call that is handed one of the caller's objects, to write it; The table of this program's types, by which the evaluator goes; The program's functions are entered; The data of the document's types, plain, and as the evaluator has them; Names: the program's and the reference's functions say the same of a text; sort.Search; the program's table of texts: Find; The library's sort.Slice, laid at this program by the kit's tool (lay-plain; wip/tools/lay.sh); The order of the table; the closure handed to sort.Slice; sort.Slice of the table's places, at a call. No condition. -/
import Derived.Test.YtgjagnmeonoehaaGreatProg
import Derived.Shelf.GgSortFunc.Whole
import Derived.Shelf.GgSortFunc.Tiny
import Derived.Test.YtgjagnmeonoehaaGreatMu1
set_option linter.all false
namespace Go.Proofs.YtgjagnmeonoehaaGreat
namespace Dv
open Go Go.RowKit
structure OO (E E':En) (bx:List (List DV)) (N:Nat):Prop where
 c:∀ a v,E.c a=some v->E'.c a=some v
 fz:∀ (i:Nat) cs,N<=i->bx[i]? = some cs->∃ b arr,E.β[i]? = some b/\RvC E cs arr/\∀ (j:Nat) u,arr[j]? = some u->E'.c ⟨b,j,none⟩=some u
theorem OO.cl {E E':En} {bx:List (List DV)} {N:Nat} (h:OO E E' bx N):OO E E'.cl bx N:=⟨h.c,h.fz⟩
structure KR (E E':En) (n0 m0:Nat):Prop where
 β:∀ (i:Nat) b,i < n0->E.β[i]? = some b->E'.β[i]? = some b
 tk:∀ k,k < m0->E'.tk[k]? = E.tk[k]? /\ E'.τ[k]? = E.τ[k]?
theorem KR.zero (E E':En):KR E E' 0 0:=⟨fun _ _ h=>absurd h (Nat.not_lt_zero _),fun _ h=>absurd h (Nat.not_lt_zero _)⟩
theorem Ext.KT (E:En):Ext E.cl E:=⟨fun _ _ h=>h,fun j b hj=>by simp [En.cl] at hj,fun k q hk=>by simp [En.cl] at hk⟩
theorem EF {E E':En} (hm:∀ e b o es,RvEs E.cl e b o es->RvEs E'.cl e b o es):∀ {l:List DV} {arr:List Value},(∀ x∈l,(∃ y,x = .v y)∨∃ e' D9,x = .sl e' D9 none)->RvL E l arr->RvL E' l arr
 | [],arr,_,h=>by simp only [RvL] at h ⊢;exact h
 | d :: r,arr,hs,h=>by
  simp only [RvL] at h ⊢;obtain ⟨v,s,rfl,h1,h2⟩:=h;refine ⟨v,s,rfl,?_,EF hm (fun x hx=>hs x (jD _ hx)) h2⟩;rcases hs d (by simp) with ⟨y,rfl⟩ | ⟨e',D9,rfl⟩
  ·unfold Rv at h1 ⊢;exact h1
  ·unfold Rv at h1 ⊢;obtain ⟨b,n,cap,h3,h4,h5,_⟩:=h1;exact ⟨b,n,cap,h3,h4,fun hn=>⟨(h5 hn).1,hm _ _ _ _ (h5 hn).2⟩,fun k hk=>by cases hk⟩
theorem CcL.length {bx:List (List DV)} {N n0 m0:Nat}:∀ {l' l:List DV},CcL bx N n0 m0 l' l->l'.length=l.length
 | [],l,h=>by simp only [CcL] at h;subst h;rfl
 | d' :: r',l,h=>by
  simp only [CcL] at h;obtain ⟨d,r,rfl,_,h2⟩:=h;simp [CcL.length h2]
theorem CcE.length {bx:List (List DV)} {N:Nat}:∀ {l' l:List (List DV)},CcE bx N l' l->l'.length=l.length
 | [],l,h=>by simp only [CcE] at h;subst h;rfl
 | d' :: r',l,h=>by
  simp only [CcE] at h;obtain ⟨d,r,rfl,_,h2⟩:=h;simp [CcE.length h2]
mutual
theorem Cc.sound {bx:List (List DV)} {N:Nat} {E:En}:∀ {d':DV} {E':En} {n0 m0:Nat} {d:DV} {v:Value},OO E E' bx N->KR E E' n0 m0->Cc bx N n0 m0 d' d->Rv E d v->Rv E' d' v
 | .v y,E',n0,m0,d,v,hf,hl,h,hv=>by grind [Cc,Rv]
 | .ud,E',n0,m0,d,v,hf,hl,h,hv=>by grind [Cc,Rv]
 | .agg l',E',n0,m0,d,v,hf,hl,h,hv=>by
  simp only [Cc] at h;obtain ⟨l,rfl,h⟩:=h;unfold Rv at hv ⊢;obtain ⟨vs,h1,h2,h3⟩:=hv;exact ⟨vs,h1,CcL.sound hf hl h h2,h3⟩
 | .tup l',E',n0,m0,d,v,hf,hl,h,hv=>by
  simp only [Cc] at h;obtain ⟨l,rfl,h⟩:=h;unfold Rv at hv ⊢;obtain ⟨vs,h1,h2⟩:=hv;exact ⟨vs,h1,CcL.sound hf hl h h2⟩
 | .sl e es tk,E',n0,m0,d,v,hf,hl,h,hv=>by
  have hm:∀ b o,RvEs E.cl e b o es->RvEs E'.cl e b o es:=fun b o hr=>RvEs.mono (Ext.KH hf.c) hr
  cases tk with
  | none=>
   simp only [Cc] at h;rcases h with ⟨rfl,rfl⟩ | ⟨cC,rfl⟩ | ⟨i,off,c,cs,rfl,hi,hcs,OP,pU,Mz⟩ | ⟨es0,cC,rfl,h⟩
   ·have:=bB hv;subst this;unfold Rv;exact ⟨none,0,0,rfl,⟨rfl,aR _⟩,fun hn=>(hn rfl).elim,fun k hk=>by cases hk⟩
   ·unfold Rv at hv ⊢;obtain ⟨b,n,cap,h1,h2,h3,_⟩:=hv;exact ⟨b,n,cap,h1,h2,fun hn=>⟨(h3 hn).1,hm _ _ (h3 hn).2⟩,fun k hk=>by cases hk⟩
   ·obtain ⟨b,arr,hb,hc,hmm⟩:=hf.fz i cs hi hcs;unfold Rv at hv ⊢;obtain ⟨b',ad,eD,V6,rfl,hca⟩:=hv;rw [hb] at eD;simp only [oI] at eD;subst eD;refine ⟨ad,es.length,c,rfl,⟨rfl,V6⟩,fun hn=>?_,fun k hk=>by cases hk⟩;have kB:0 < es.length:=List.length_pos_iff.2 hn;have had:=hca (by omega);subst had;refine ⟨rfl,?_⟩;have h1:=(hc.drop off).take (es.length * e);rw [<- OP] at h1;refine rvEs_flat ⟨EF (E':=E'.cl) (fun e b o es hr=>(RvEs.mono (Ext.KH hf.c) hr:RvEs E'.cl e b o es)) Mz h1.1,h1.2⟩ pU fun j u hj=>?_;rw [cI] at hj;split at hj
    ·rw [List.getElem?_drop] at hj;exact hmm (off + j) u hj
    ·cases hj
   ·have hlen:=CcE.length h;have hs:=fun b o=>CcE.sound (e:=e) (b:=b) (o:=o) hf h;unfold Rv at hv ⊢;obtain ⟨b,n,cap,h1,h2,h3,_⟩:=hv;refine ⟨b,n,cap,h1,by omega,fun hn=>?_,fun k hk=>by cases hk⟩
    grind
  | some k=>
   simp only [Cc] at h;obtain ⟨hk,rfl⟩:=h;unfold Rv at hv ⊢;obtain ⟨b,n,cap,h1,h2,h3,h4⟩:=hv;refine ⟨b,n,cap,h1,h2,fun hn=>⟨(h3 hn).1,hm _ _ (h3 hn).2⟩,fun k' fC=>?_⟩;cases fC;obtain ⟨e1,e2⟩:=hl.tk k hk;obtain ⟨q,h5,h6,h7⟩:=h4 k rfl
   grind
 | .pt cs' o,E',n0,m0,d,v,hf,hl,h,hv=>by
  simp only [Cc] at h;rcases h with rfl | ⟨i,cs,rfl,hi,hcs,h⟩
  ·unfold Rv at hv ⊢;obtain ⟨b,p,h1,h2⟩:=hv;exact ⟨b,p,h1,RvAt.mono (Ext.KH hf.c) h2⟩
  ·obtain ⟨b,arr,hb,hc,hm⟩:=hf.fz i cs hi hcs;unfold Rv at hv ⊢;obtain ⟨b',eD,rfl⟩:=hv;rw [hb] at eD;simp only [oI] at eD;subst eD;refine ⟨b,0,by simp,?_⟩;have:=CcL.sound hf.cl (KR.zero E E'.cl) h hc.1;exact Cd ⟨this,hc.2⟩ fun j u hj=>by rw [Nat.zero_add];exact hm j u hj
 | .loc i o,E',n0,m0,d,v,hf,hl,h,hv=>by
  simp only [Cc] at h;obtain ⟨hi,rfl⟩:=h;unfold Rv at hv ⊢;obtain ⟨b,hb,h1⟩:=hv;exact ⟨b,hl.β i b hi hb,h1⟩
 | .el i o,E',n0,m0,d,v,hf,hl,h,hv=>by
  simp only [Cc] at h;obtain ⟨hi,rfl⟩:=h;unfold Rv at hv ⊢;obtain ⟨b,hb,h1⟩:=hv;exact ⟨b,hl.β i b hi hb,h1⟩
 | .ms i e o l c,E',n0,m0,d,v,hf,hl,h,hv=>by
  simp only [Cc] at h;obtain ⟨hi,rfl⟩:=h;unfold Rv at hv ⊢;obtain ⟨b,ad,hb,h1⟩:=hv;exact ⟨b,ad,hl.β i b hi hb,h1⟩
 | .fn f a' b',E',n0,m0,d,v,hf,hl,h,hv=>by
  simp only [Cc] at h;obtain ⟨a,b,rfl,ha,hb⟩:=h;unfold Rv at hv ⊢;obtain ⟨l,r,h1,h2,h3⟩:=hv;exact ⟨l,r,h1,CcL.sound hf hl ha h2,CcL.sound hf hl hb h3⟩
 | .rc t x',E',n0,m0,d,v,hf,hl,h,hv=>by
  simp only [Cc] at h;obtain ⟨x,rfl,hx⟩:=h;unfold Rv at hv ⊢;obtain ⟨z,h1,h2⟩:=hv;exact ⟨z,h1,Cc.sound hf hl hx h2⟩
theorem CcL.sound {bx:List (List DV)} {N:Nat} {E:En}:∀ {l':List DV} {E':En} {n0 m0:Nat} {l:List DV} {vs:List Value},OO E E' bx N->KR E E' n0 m0->CcL bx N n0 m0 l' l->RvL E l vs->RvL E' l' vs
 | [],E',n0,m0,l,vs,hf,hl,h,hv=>by grind [CcL,RvL]
 | d' :: r',E',n0,m0,l,vs,hf,hl,h,hv=>by
  simp only [CcL] at h;obtain ⟨d,r,rfl,h1,h2⟩:=h;simp only [RvL] at hv ⊢;obtain ⟨v,s,h3,h4,h5⟩:=hv;exact ⟨v,s,h3,Cc.sound hf hl h1 h4,CcL.sound hf hl h2 h5⟩
theorem CcA.sound {bx:List (List DV)} {N:Nat} {E:En}:∀ {l':List DV} {E':En} {l:List DV} {b p:Nat},OO E E' bx N->CcL bx N 0 0 l' l->RvAt E.cl b p l->RvAt E'.cl b p l'
 | [],E',l,b,p,hf,h,hv=>by simp only [RvAt]
 | d' :: r',E',l,b,p,hf,h,hv=>by
  simp only [CcL] at h;obtain ⟨d,r,rfl,h1,h2⟩:=h;simp only [RvAt] at hv ⊢;obtain ⟨⟨v,h3,h4,h5⟩,h6⟩:=hv;exact ⟨⟨v,hf.c _ _ h3,h4,Cc.sound hf.cl (KR.zero E E'.cl) h1 (Rv.mono (Ext.KT E) h5)⟩,CcA.sound hf h2 h6⟩
theorem CcE.sound {bx:List (List DV)} {N:Nat} {E:En}:∀ {l':List (List DV)} {E':En} {l:List (List DV)} {e b o:Nat},OO E E' bx N->CcE bx N l' l->RvEs E.cl e b o l->RvEs E'.cl e b o l'
 | [],E',l,e,b,o,hf,h,hv=>by simp only [RvEs]
 | a' :: r',E',l,e,b,o,hf,h,hv=>by
  simp only [CcE] at h;obtain ⟨a,r,rfl,h1,h2⟩:=h;simp only [RvEs] at hv ⊢;obtain ⟨h3,h4,h5⟩:=hv;refine ⟨?_,?_,CcE.sound hf h2 h5⟩
  ·grind [CcL.length]
  ·rcases h1 with rfl | h1
   ·exact RvAt.mono (Ext.KH hf.c) h4
   ·exact CcA.sound hf h1 h4
end
theorem V9 {E:En} {e:Nat} {es D9:List (List DV)} {tk:Option Nat} {v:Value} (h:CcE [] 0 D9 es) (hv:Rv E (.sl e es tk) v):Rv E (.sl e D9 tk) v:=by
 have hlen:=CcE.length h;have hs:=fun b o=>CcE.sound (E:=E) (E':=E) (bx:=[]) (N:=0) (e:=e) (b:=b) (o:=o) ⟨fun _ _ h=>h,fun i cs _ hi=>by simp at hi⟩ h
 grind [Rv]
theorem mF.get {bx:List (List DV)} {N n0 m0:Nat}:∀ {l' l:List (List DV)},mF bx N n0 m0 l' l->l'.length=l.length/\∀ (i:Nat) cs',l'[i]? = some cs' -> ∃ cs,l[i]? = some cs/\CcL bx N n0 m0 cs' cs
 | [],l,h=>by simp only [mF] at h;subst h;exact ⟨rfl,by simp⟩
 | a' :: r',l,h=>by
  simp only [mF] at h;obtain ⟨a,r,rfl,h1,h2⟩:=h;obtain ⟨h3,h4⟩:=mF.get h2
  grind
open Classical in
noncomputable def te (E:En) (n:Nat) (w:World):Addr->Option Value:=
 fun a=>if ∃ i:Nat,n<=i/\E.β[i]? = some a.block then w.cell? a else E.c a
section
variable {X:Ctx} {E:En} {st:St} {a:Act} {w:World}
theorem e9 {n:Nat} {x:Addr} {v:Value} (h:te E n w x=some v):((∃ i:Nat,n<=i/\E.β[i]? = some x.block)/\w.cell? x=some v)∨E.c x=some v:=by
 unfold te at h;split at h
 all_goals grind
theorem mN {bx:List (List DV)} (h:Env E bx w) {n:Nat} {x:Addr} {v:Value} (hx:E.c x=some v):te E n w x=some v:=by
 unfold te;split
 ·exact h.sub x v hx
 ·exact hx
theorem Cp (h:Rel X E st a w) {d d':DV} {os:List (List DV)} {v:Value} (hv:Rv E d v) (M:Nat) (hM:(X.fr=false/\M=X.m0)∨(X.fr=true/\M=st.tk.length)) (hd:Cc st.bx X.n0 X.n0 M d' d) (Cm:mF st.bx X.n0 X.n0 M os (st.bx.take X.n0)) (hΦ:X.Φ d' os (st.tk.take M)):Eo X.still X.E0 X.w0 X.Φ v w X.fr:=by
 obtain ⟨r,Yc,hβl⟩:=h.nw.β;have iC:E.β.take X.n0=X.E0.β:=by rw [Yc,<- X.ku];simp
 have j6:∀ (i:Nat) b,i < X.n0->E.β[i]? = some b->X.E0.β[i]? = some b:=fun i b hi hb=>by grind
 have eY:∀ (i:Nat) b,X.n0<=i->E.β[i]? = some b->b∈r:=fun i b hi hb=>by grind
 have Yd:∀ b,b∈X.E0.β->b∈r->False:=fun b h1 h2=>by
  have:=h.env.inj
  grind
 have hE0l:X.E0.τ.length=X.m0:=by rw [h.nw.l0,X.mH]
 have hEt:X.m0<=E.tk.length:=by
  rcases Nat.lt_or_ge E.tk.length X.m0 with h1 | h1
  ·have hk:E.tk.length < X.E0.tk.length:=by rw [X.mH];exact h1
   have fC:E.tk.length < X.E0.τ.length:=by rw [h.nw.l0];exact hk
   obtain ⟨q',y',h2,_⟩:=h.nw.tk E.tk.length _ _ (gE hk) (gE fC)
   grind
  ·exact h1
 have hMm:X.m0<=M/\M<=E.tk.length:=by
  rcases hM with ⟨_,rfl⟩ | ⟨_,rfl⟩
  ·exact ⟨aR _,hEt⟩
  ·rw [<- h.tk];exact ⟨hEt,aR _⟩
 have hEl:tkL X.fr (E.tk.take M).length X.E0.tk.length:=by
  rw [zLenT];rcases hM with ⟨hf,rfl⟩ | ⟨hf,rfl⟩
  ·rw [hf];show min _ _=_;rw [X.mH];omega
  ·rw [hf];show _<=min _ _;rw [X.mH];omega
 let E':En:=⟨te E X.n0 w,X.E0.β,E.tk.take M,E.τ.take M⟩
 have Ua:OO E E' st.bx X.n0:={
  c:=fun x u hx=>mN h.env hx
  fz:=fun i cs hi hcs=>by
   obtain ⟨b,ty,arr,hb,hw,hc⟩:=h.env.ey i cs hcs;refine ⟨b,arr,hb,hc,fun j u hj=>?_⟩;show te E X.n0 w ⟨b,j,none⟩=some u;unfold te;rw [aj ⟨i,hi,hb⟩,cL hw]
   simpa using hj }
 have Cq:KR E E' X.n0 M:={
  β:=j6
  tk:=fun k hk=>⟨by show (E.tk.take M)[k]? = _;rw [cI,aj hk],by show (E.τ.take M)[k]? = _;rw [cI,aj hk]⟩ }
 obtain ⟨lS,hog⟩:=Cm.get;refine ⟨h.fr,h.sh,d',os,E',?_,rfl,hEl,?_,hd.sound Ua Cq hv,by show X.Φ d' os (E.tk.take M);rw [h.tk];exact hΦ⟩
 ·exact {
   len:=by
    show X.E0.β.length=os.length;rw [lS,X.ku,zLenT]
    have:X.n0<=st.bx.length:=by
     rw [<- h.env.len,Yc,List.length_append,X.ku];omega
    omega
   tl:=by simp only [E',zLenT];rw [h.env.tl]
   ey:=fun i cs' hi=>by
    obtain ⟨cs,hcs,vx⟩:=hog i cs' hi;rw [cI] at hcs;split at hcs
    ·rename_i aw;obtain ⟨b,ty,arr,hb,hw,hc⟩:=h.env.ey i cs hcs;exact ⟨b,ty,arr,j6 i b aw hb,hw,CcL.sound Ua Cq vx hc.1,hc.2⟩
    ·cases hcs
   inj:=by rw [<- iC];exact h.env.inj.sublist (List.take_sublist _ _)
   sub:=fun x u hx=>by
    rcases e9 hx with ⟨_,h1⟩ | h1
    ·exact h1
    ·exact h.env.sub x u h1
   pc:=fun x u hx hm=>by
    rcases e9 hx with ⟨⟨i,hi,hb⟩,_⟩ | h1
    ·exact Yd _ hm (eY i _ hi hb)
    ·refine h.env.pc x u h1 ?_;rw [Yc];exact List.mem_append.2 (.inl hm)
   bU:=fun k q y hq hy=>by
    simp only [E',cI] at hq hy;split at hq
    ·rename_i hk;rw [aj hk] at hy;rcases h.env.bU k q y hq hy with h1 | ⟨g,cap,cur,rfl,h1,h2,h3,h4,h5,h6⟩
     ·exact .inl h1
     ·refine .inr ⟨g,cap,cur,rfl,h1,⟨h2.1,h2.2.mono fun _ _ hx=>mN h.env hx⟩,h3,h4,fun hm=>h5 (by rw [Yc];exact List.mem_append.2 (.inl hm)),fun x u hx hg=>?_⟩;rcases e9 hx with ⟨⟨i,hi,hb⟩,_⟩ | h7
      all_goals grind
    ·cases hq
   jc:=fun k k' y y' g uK hy fW=>by
    simp only [E',cI] at hy fW;split at hy
    ·split at fW
     ·exact h.env.jc k k' y y' g uK hy fW
     ·cases fW
    ·cases hy }
 ·exact {
   c:=fun x u hx=>mN h.env (h.nw.c x u hx)
   cn:=fun x u hx=>by
    rcases e9 hx with ⟨⟨i,hi,hb⟩,_⟩ | h1
    ·exact .inr (.inl (hβl _ (eY i _ hi hb)))
    ·exact h.nw.cn x u h1
   β:=⟨[],by simp [E'],by simp⟩
   tk:=fun k q y hq hy=>by
    obtain ⟨q',y',h1,h2,h3⟩:=h.nw.tk k q y hq hy
    grind
   tn:=fun k y g hk hy hg=>by
    simp only [E',cI] at hy;split at hy
    ·exact h.nw.tn k y g hk hy hg
    ·cases hy
   l0:=h.nw.l0 }
def resOf (tmps:Array Value):ResultVar->Sem Value
 | .tmp t=>pure (tmps.getD t undef)
 | .cell x t=>do loadVar t (<- asAddr (tmps.getD x undef))
theorem H8 (fn:Func) (tmps:Array Value):results fn tmps=(do let vs <- fn.results.mapM (resOf tmps);pure (if h:vs.size=1 then vs[0] else .tuple vs)):=by
 unfold results;congr 2
theorem H9 (h:Rel X E st a w) {r:ResultVar} {d:DV} (hr:res1 X.T st r=some d):∃ v,Rv E d v/\(resOf a.tmps r).run X.P w = .ok v w:=by
 cases r with
 | tmp t=>
  simp only [res1] at hr;split at hr
  ·rename_i x hg;simp only [oI] at hr;subst hr;obtain ⟨v,h1,h2⟩:=(h.tm t _ hg).1 (bz _);exact ⟨v,h2,by simp [resOf,Array.getD_eq_getD_getElem?,h1]⟩
  ·cases hr
 | cell x t=>
  simp only [res1] at hr;split at hr
  ·rename_i i off hg;split at hr
   ·rename_i cs hcs;obtain ⟨v,h1,h2⟩:=(h.tm x _ hg).1 (bz _);unfold Rv at h2;obtain ⟨b,hb,rfl⟩:=h2;obtain ⟨b',H3,arr,eD,hw,hc⟩:=h.env.ey i cs hcs;rw [hb] at eD;simp only [oI] at eD;subst eD;obtain ⟨v,hv,hl⟩:=kv X.hT hc (b:=b) (p:=0) hr;have hl:=hl w fun j u hj=>by rw [cL hw];simpa using hj
    rw [Nat.zero_add] at hl;exact ⟨v,hv,by simp only [resOf,Array.getD_eq_getD_getElem?,h1,Option.getD_some,asAddr,Sem.run_bind,Sem.run_pure,Result.andThen_ok,hl]⟩
   ·cases hr
  ·cases hr
theorem mO (h:Rel X E st a w):∀ {rs:List ResultVar} {ds:List DV},resD X.T st rs=some ds->∃ vs,RvL E ds vs/\(rs.mapM (resOf a.tmps)).run X.P w = .ok vs w
 | [],ds,hr=>by
  simp only [resD,oI] at hr;subst hr;exact ⟨[],cS E,rfl⟩
 | r :: rs,ds,hr=>by
  simp only [resD] at hr;split at hr
  ·rename_i d l hd hl;simp only [oI] at hr;subst hr;obtain ⟨v,hv,h1⟩:=H9 h hd;obtain ⟨vs,zR,h2⟩:=mO h hl;refine ⟨v :: vs,rvL_cons hv zR,?_⟩
   simp_all
  ·cases hr
theorem qq (h:Rel X E st a w) {d:DV} {v:Value} (hv:Rv E d v) (hf:finD X st d):Eo X.still X.E0 X.w0 X.Φ v w X.fr:=by
 unfold finD at hf;split at hf
 ·grind [Cp]
 ·rename_i hfr;split at hf
  ·rename_i hn hm
   have key:∀ d',Cc st.bx 0 0 0 d' d->X.Φ d' [] []->Eo X.still X.E0 X.w0 X.Φ v w X.fr:=fun d' hd hΦ=>
    Cp h hv (d':=d') (os:=[]) X.m0 (.inl ⟨hfr,rfl⟩) (by rw [hn,hm];exact hd) (by rw [hn];simp [mF]) (by rw [hm];exact hΦ)
   grind [Cc]
  ·grind [Cp]
theorem As (h:Rel X E st a w) (hf:fin X st):kq X [] .ret a w:=by
 have Ef:X.fn.results=X.rs.toArray:=by rw [<- X.zQ]
 simp only [kq];refine ⟨h.df,?_⟩
 have hbt:pS X.bt X.E0.β w:=fun p hp b hb=>by
  obtain ⟨r,hr,_⟩:=h.nw.β;exact h.bt p hp b (by rw [hr,dn (gS hb).1];exact hb)
 unfold fin at hf
 have Pn:∀ (ds:List DV) (vs:List Value),(X.rs.mapM (resOf a.tmps)).run X.P w = .ok vs w->(results X.fn a.tmps).run X.P w = .ok (if h:vs.toArray.size=1 then vs.toArray[0] else .tuple vs.toArray) w:=by
  intro ds vs hv;rw [H8,Ef]
  simp_all
 split at hf
 ·rename_i hr;obtain ⟨vs,zR,h1⟩:=mO h hr;simp only [RvL] at zR;subst zR;exact ⟨_,Pn [] [] h1,qq h (v:=.tuple #[]) (by unfold Rv;exact ⟨[],rfl,cS E⟩) hf,hbt⟩
 ·rename_i d hr;obtain ⟨vs,zR,h1⟩:=mO h hr;have hl:=zR.length;simp only [RvL] at zR;obtain ⟨v,s,rfl,hv,rfl⟩:=zR;exact ⟨_,Pn [d] [v] h1,qq h (v:=v) hv hf,hbt⟩
 ·rename_i d e l hr;obtain ⟨vs,zR,h1⟩:=mO h hr;have hl:=zR.length;have aY:¬ vs.toArray.size=1:=by simp at hl ⊢;omega
  have h2:=Pn [] vs h1;rw [dif_neg aY] at h2;exact ⟨_,h2,qq h (v:=.tuple vs.toArray) (by unfold Rv;exact ⟨vs,rfl,zR⟩) hf,hbt⟩
 ·exact hf.elim
theorem wY:∀ (k:List It) (a:Act) (w:World),kq X [] .ret a w->kq X k .ret a w
 | [],_,_,h=>h
 | .code _ :: k,a,w,h=>wY k a w h
 | .ops _ _ :: k,a,w,h=>wY k a w h
 | .HN _ :: k,a,w,h=>wY k a w h
 | .B9 _ :: k,a,w,h=>wY k a w h
theorem ry {id:Nat}:∀ (k k':List It) (a:Act) (w:World),dropBlk id k=some k' -> kq X k' .normal a w->kq X k (.exit id) a w
 | [],k',a,w,hd,_=>by simp [dropBlk] at hd
 | .code _ :: k,k',a,w,hd,h=>by simp only [dropBlk] at hd;exact ry k k' a w hd h
 | .ops _ _ :: k,k',a,w,hd,h=>by simp only [dropBlk] at hd;exact ry k k' a w hd h
 | .B9 _ :: k,k',a,w,hd,h=>by simp only [dropBlk] at hd;exact ry k k' a w hd h
 | .HN i :: k,k',a,w,hd,h=>by
  simp only [dropBlk] at hd;split at hd
  ·simp_all [kq]
  ·rename_i hi
   have hi:id≠i:=by
    rintro rfl;rw [Nat.beq_refl] at hi;cases hi
   simp only [kq];rw [ai hi];exact ry k k' a w hd h
theorem MC {P:Program} {o:Oper} {a:Act} {K K':Act->World->Prop} {Q Q':Exit->Act->World->Prop} (hK:∀ a w,K a w->K' a w) (hQ:∀ e a w,Q e a w->Q' e a w)
  {r:Result Next} (h:o.upon P a K Q r):o.upon P a K' Q' r:=by
 unfold Oper.upon at *;split<;>simp_all
 ·refine h.mono ?_;intro e w' hq
  cases e with
  | returned v=>exact hK _ _ hq
  | panicked c=>exact hQ _ _ _ hq
  | outgrown=>obtain ⟨a,w,hq⟩:=hq;exact ⟨a,w,hQ _ _ _ hq⟩
 ·exact h.mono fun v w' hq=>hK _ _ hq
theorem EG {P:Program} {o:Oper} {a:Act} {K K':Act->World->Prop} {Q Q':Exit->Act->World->Prop} {w:World} (hK:∀ a w,K a w->K' a w) (hQ:∀ e a w,Q e a w->Q' e a w)
  (h:o.wp P a w K Q):o.wp P a w K' Q':=MC hK hQ h
theorem fD (c:Code) (k:List It) (a:Act) (w:World):kq X (.code c :: k) .normal a w=c.wp X.P (kq X k) a w:=rfl
theorem Ub (c:Code) (k:List It):kq X (.code c :: k)=Exit.then (c.wp X.P (kq X k)) (kq X k):=by
 funext e a w;cases e<;>rfl
theorem Ye (id:Nat) (k:List It) (e:Exit) (a:Act) (w:World) (h:kq X (.HN id :: k) e a w):Exit.inBlock id (kq X k) e a w:=by
 cases e<;>exact h
theorem wanted_spec (h:Rel X E st a w) {all:Array Oper} {o:Oper} {j d:Nat} {want:Bool} {mz:List (Nat × Bool)} {sd:DV} (Uc:o.guard=some (j,want)) (Mv:gslot all.toList j=some d) (OQ:get st.sl d=some ⟨mz,sd⟩) :
  Region.wanted o (yielded all a.tmps)=true↔Holds a.tmps ((d,want) :: mz):=by
 have Yf:yielded all a.tmps j=match a.tmps[d]? with | some (.bool b)=>some b | _=>none:=by
  unfold gslot at Mv;split at Mv
  ·rename_i oj hoj;have hoj':all[j]? = some oj:=sU hoj;simp only [yielded,hoj',Mv,Option.bind_some]
   grind
  ·cases Mv
 have htd:=h.tm d _ OQ;simp only [Region.wanted,Uc,Yf];constructor
 ·intro hw;have hb:a.tmps[d]? = some (.bool want):=by grind
  refine kx hb ?_;by_cases hh:Holds a.tmps mz
  ·exact hh
  ·have:=htd.2 hh;rw [hb] at this;simp [undef] at this
 ·intro hh;have:=hh (d,want) (by simp);simp only at this;rw [this];simp
theorem EH (h:Rel X E st a w) {t:Nat} {b:Bool} (hg:get st.sl t=some ⟨[],.v (.bool b)⟩):a.tmps[t]? = some (.bool b):=by
 obtain ⟨v,h1,h2⟩:=(h.tm t _ hg).1 (bz _);rw [h1,ky h2]
theorem Po (h:Rel X E st a w) {t:Nat} (hg:get st.sl t=some ⟨[],.ud⟩):a.tmps[t]? = some undef:=by
 obtain ⟨v,h1,h2⟩:=(h.tm t _ hg).1 (bz _);unfold Rv at h2;rw [h1,h2]
theorem wZ {G:List (Nat × Bool)} {dst:Option Nat} (bA:okG G dst=true):∀ e,dst=some e->∀ p∈G,p.1≠e:=by
 intro e he p hp dY;rw [he] at bA;have:=(List.all_eq_true.1 bA) p hp;rw [dY] at this;simp at this
theorem go_sound:∀ n,Snd X (go X n)
 | 0=>fun k st hg=>hg.elim
 | n + 1=>by
  have ih:=go_sound n;intro k st hg E a w h
  match k with
  | []=>exact As h (by simpa [go] using hg)
  | .HN id :: k=>exact ih k st (by simpa [go] using hg) E a w h
  | .B9 J :: k=>exact ⟨st,E,h,by simpa [go] using hg⟩
  | .ops all [] :: k=>exact ih k st (by simpa [go] using hg) E a w h
  | .ops all (o :: r) :: k=>
   simp only [go,pf,KG] at hg;split at hg
   ·exact hg.elim
   ·rename_i hd;split at hg
    ·rename_i Uc;simp only [kq,wpList,Region.wanted,Uc,if_true];split at hg
     ·rename_i s hs;obtain ⟨v,hv,cd⟩:=jg X.hT h.rl (bz _) hs;exact .inl (gB (cd w fun _=>rfl) (ih _ _ hg E _ w (bc h hd s v hv)))
     ·exact .inl (EG (fun a w hk=>hk) (fun e a w hq=>hq.elim) (Aq ih hd h hg))
    ·rename_i j want Uc;split at hg
     ·exact hg.elim
     ·rename_i d Mv;split at hg
      ·exact hg.elim
      ·rename_i mz sd OQ;have w7:=wanted_spec h Uc Mv OQ;simp only [kq,wpList];split at hg
       ·rename_i s hs;split at hg
        case h_2=>exact hg.elim
        rename_i bA;split
        ·rename_i hw;have hh:=w7.1 hw;obtain ⟨v,hv,cd⟩:=jg X.hT h.rl hh hs;exact .inl (gB (cd w fun _=>rfl) (ih _ _ hg E _ w (rr h hd _ s v (wZ bA) (fun _=>hv) (fun hn=>(hn hh).elim))))
        ·rename_i hw;have hh:¬ Holds a.tmps ((d,want) :: mz):=fun hh=>hw (w7.2 hh);exact ih _ _ hg E _ w (rr h hd _ s undef (wZ bA) (fun hn=>(hh hn).elim) (fun _=>rfl))
       ·split at hg
        ·rename_i b iC;have ht0:=EH h iC
         cases mz with
         | nil=>
          simp only [lastG] at iC ht0;cases Ia:(b == want)
          ·have Ib:b = !want:=by cases b<;>cases want<;>simp_all
           have hg:=hg.f Ia
           have hn:¬ Region.wanted o (yielded all a.tmps)=true:=by
            intro hw;have:=(w7.1 hw) (d,want) (by simp)
            grind
           rw [ai hn];have hr:=la (d:=d) (b:=!want) h (by rw [ht0,Ib]);exact ih _ _ hg E _ w (bc hr (ld hd) .ud undef (uH E))
          ·have tf:b=want:=sU Ia;have hg:=hg.t Ia;subst tf;have hw:Region.wanted o (yielded all a.tmps)=true:=w7.2 (kx ht0 (bz _));rw [aj hw];have hr:=la (d:=d) (b:=b) h ht0;exact .inl (EG (fun a w hk=>hk) (fun e a w hq=>hq.elim) (Aq ih (ld hd) hr hg))
         | cons g1 gr=>
          have key:∀ c,a.tmps[(lastG (d,want) (g1 :: gr)).1]? = some (.bool c)->go X n (.ops all (o :: r) :: k) (st.resolve (lastG (d,want) (g1 :: gr)).1 c)->wpList X.P all (kq X k) (o :: r) a w:=
           fun c hc kV=>ih _ _ kV E a w (la h hc)
          cases Ia:(b == (lastG (d,want) (g1 :: gr)).2)
          ·have hg:=hg.f Ia;have Ib:b = !(lastG (d,want) (g1 :: gr)).2:=by cases b<;>cases h0:(lastG (d,want) (g1 :: gr)).2<;>simp_all
           have:=key _ (by rw [ht0,Ib]) hg;simpa [wpList] using this
          ·have hg:=hg.t Ia;have tf:b=(lastG (d,want) (g1 :: gr)).2:=sU Ia;have:=key _ (by rw [ht0,tf]) hg;simpa [wpList] using this
        ·rename_i iC
         cases mz with
         | nil=>
          have ht0:=Po h iC;simp only [lastG] at ht0
          have hn:¬ Region.wanted o (yielded all a.tmps)=true:=by
           intro hw;have:=(w7.1 hw) (d,want) (by simp);simp only at this;rw [ht0] at this;simp [undef] at this
          rw [ai hn];exact ih _ _ hg E _ w (bc h hd .ud undef (uH E))
         | cons g1 gr=>exact hg.elim
        ·exact hg.elim
  | .code c :: k=>
   rw [fD]
   cases c with
   | skip=>exact wp_skip (ih k st (by simpa [go] using hg) E a w h)
   | seq x y=>
    have:=ih (.code x :: .code y :: k) st (by simpa [go] using hg) E a w h;rw [fD,Ub] at this;exact wp_seq this
   | block id b=>
    have:=ih (.code b :: .HN id :: k) st (by simpa [go] using hg) E a w h;rw [fD] at this;exact wp_block (wp_mono this (Ye id k))
   | exit id=>
    simp only [go] at hg;split at hg
    ·rename_i k' hk;exact wp_exit (ry k k' a w hk (ih k' st hg E a w h))
    ·exact hg.elim
   | cond x p q=>
    simp only [go] at hg;split at hg
    ·rename_i b hb;refine wp_cond (t:=b) (by rw [ky (aV h.rl hb)]) ?_;cases iC:b
     ·exact ih (.code q :: k) st (hg.f iC) E a w h
     ·exact ih (.code p :: k) st (hg.t iC) E a w h
    ·exact hg.elim
   | region id ops d=>
    simp only [go] at hg;cases d
    ·exact wp_region_list (ih (.ops ops ops.toList :: k) st hg E a w h)
    ·exact hg E a w h
   | loop b=>exact (by simpa [go] using hg:uG X b k st) E a w h
   | ret=>exact wp_ret (wY k a w (As h (by simpa [go] using hg)))
   | _=>simp [go] at hg
theorem EI {fn:Func} (Ef:X.fn=fn) (e:Exit) (a:Act) (w:World) (h:kq X [] e a w):bodyPost X.P fn (fun e w'=>∃ v,e = .returned v/\Eo X.still X.E0 X.w0 X.Φ v w' X.fr/\pS X.bt X.E0.β w') e a w:=by
 subst Ef
 cases e with
 | normal=>obtain ⟨h1,v,h2,h3⟩:=h;exact ⟨h1,v,h2,v,rfl,h3⟩
 | ret=>obtain ⟨h1,v,h2,h3⟩:=h;exact ⟨h1,v,h2,v,rfl,h3⟩
 | exit _=>exact h.elim
 | goto _=>exact h.elim
 | panic _=>exact h.elim
 | outgrown=>exact h.elim
end
def Yg (s:Bool) (P:Program) (f:FuncId) (args:List DV) (os:List (List DV)) (bU:List TkE) (Φ:DV->List (List DV)->List TkE->Prop) (fr:Bool:=false):Prop:=
 ∀ (E:En) (w:World) (vs:List Value),Env E os w->E.tk=bU->RvL E args vs->Calls P f vs.toArray w fun e w'=>∃ v,e = .returned v/\Eo s E w Φ v w' fr
def Ev (P:Program) (f:FuncId) (args:List DV) (os:List (List DV)) (bU:List TkE) (Φ:DV->List (List DV)->List TkE->Prop):Prop:=Yg false P f args os bU Φ
def EvS (P:Program) (f:FuncId) (args:List DV) (os:List (List DV)) (bU:List TkE) (Φ:DV->List (List DV)->List TkE->Prop):Prop:=Yg true P f args os bU Φ
def TB (P:Program) (f:FuncId) (args:List DV) (os:List (List DV)) (bU:List TkE) (Φ:DV->List (List DV)->List TkE->Prop):Prop:=Yg false P f args os bU Φ true
def EvP (P:Program) (f:FuncId) (args:List DV) (d:DV):Prop:=Ev P f args [] [] fun d' _ _=>d'=d
def argSl:Nat->List DV->List (Nat × Sl)
 | _,[]=>[]
 | i,v :: r=>(i,⟨[],v⟩) :: argSl (i + 1) r
theorem Au:∀ (l:List DV) (i j:Nat) (x:Sl),get (argSl i l) j=some x->∃ v,x=⟨[],v⟩/\i<=j/\l[j - i]? = some v
 | [],_,_,_,h=>by simp [argSl,get] at h
 | v :: r,i,j,x,h=>by
  simp only [argSl,dG] at h;split at h
  ·grind
  ·rename_i qj;obtain ⟨u,hu,gk,hg⟩:=Au r (i + 1) j x h
   grind
theorem Nw.refl {E:En} {bx:List (List DV)} {w:World} (h:Env E bx w):Nw E E w where
 c:=fun _ _ h=>h
 cn:=fun _ _ h=>.inl h
 β:=⟨[],by simp,by simp⟩
 tk:=fun k q y hq hy=>⟨q,y,hq,hy,rfl,rfl,.inl ⟨rfl,rfl⟩,.inl rfl⟩
 tn:=fun k y g hk hy=>by
  have:=(gS hy).1;rw [h.tl] at this;omega
 l0:=h.tl
def EvT (s:Bool) (P:Program) (f:FuncId) (args:List DV) (os:List (List DV)) (bU:List TkE) (bt:List (Nat × TypeId)) (Φ:DV->List (List DV)->List TkE->Prop) (fr:Bool:=false):Prop:=
 ∀ (E:En) (w:World) (vs:List Value),Env E os w->E.tk=bU->pS bt E.β w->RvL E args vs->Calls P f vs.toArray w fun e w'=>∃ v,e = .returned v/\Eo s E w Φ v w' fr/\pS bt E.β w'
theorem Cr {s:Bool} {P:Program} {f:FuncId} {fn:Func} {c:Code} {args:List DV} {os:List (List DV)} {bU:List TkE} {Φ:DV->List (List DV)->List TkE->Prop} (bt:List (Nat × TypeId)) (mu:List Nat) (fr:Bool) (T:TT) (hT:T.ok P=true) (n nt:Nat) (rs:List ResultVar)
  (hf:P.funcs[f]? = some fn) (hb:fn.body=some c) (Ic:fn.ntmps=nt) (zQ:fn.results.toList=rs) (hlen:args.length<=nt)
  (h:∀ (E:En) (w:World) (hn:E.β.length=os.length) (hm:E.tk.length=bU.length),go ⟨P,T,hT,fn,nt,rs,zQ,w,E,os.length,bU.length,hn,hm,s,Φ,bt,mu,fr⟩ n [.code c] ⟨argSl 0 args,os,bU⟩):EvT s P f args os bU bt Φ fr:=by
 intro E w vs hE jG iC hv;have hl:=hv.length;have hg:=h E w hE.len (by rw [jG]);refine calls_of_wp hf hb ?_
 have hs:=go_sound (X:=⟨P,T,hT,fn,nt,rs,zQ,w,E,os.length,bU.length,hE.len,by rw [jG],s,Φ,bt,mu,fr⟩) n _ _ hg E
  {tmps:=vs.toArray ++ Array.replicate (fn.ntmps - vs.toArray.size) undef,defers:=[] } w
  {env:=hE
   tk:=jG
   sz:=by simp [Ic];omega
   tm:=by
    intro i x hx;obtain ⟨d,rfl,_,hd⟩:=Au args 0 i x hx;simp only [Nat.sub_zero] at hd;obtain ⟨v,vW,Tv⟩:=hv.get hd
    grind [bz]
   df:=rfl
   nw:=Nw.refl hE
   fr:=⟨rfl,rfl,rfl,aR _,fun _ _ _=>rfl⟩
   sh:=fun _=>⟨0,rfl⟩
   bt:=iC }
 exact wp_mono hs (EI rfl)
theorem j7 {s:Bool} {P:Program} {f:FuncId} {fn:Func} {c:Code} {args:List DV} {os:List (List DV)} {bU:List TkE} {Φ:DV->List (List DV)->List TkE->Prop} (bt:List (Nat × TypeId)) (mu:List Nat) (hbt:∀ p∈bt,os.length<=p.1) (fr:Bool) (T:TT) (hT:T.ok P=true) (n nt:Nat) (rs:List ResultVar)
  (hf:P.funcs[f]? = some fn) (hb:fn.body=some c) (Ic:fn.ntmps=nt) (zQ:fn.results.toList=rs) (hlen:args.length<=nt)
  (h:∀ (E:En) (w:World) (hn:E.β.length=os.length) (hm:E.tk.length=bU.length),go ⟨P,T,hT,fn,nt,rs,zQ,w,E,os.length,bU.length,hn,hm,s,Φ,bt,mu,fr⟩ n [.code c] ⟨argSl 0 args,os,bU⟩):Yg s P f args os bU Φ fr:=fun E w vs hE jG hv=>(Cr bt mu fr T hT n nt rs hf hb Ic zQ hlen h E w vs hE jG (fun p hp b hb=>by
  have h1:=hbt p hp;have h2:=(gS hb).1;have h3:=hE.len
  omega) hv).mono fun _ _ ⟨v,h1,h2,_⟩=>⟨v,h1,h2⟩
theorem jB {s:Bool} {P:Program} {f:FuncId} {fn:Func} {c:Code} {args:List DV} {os:List (List DV)} {bU:List TkE} {Φ:DV->List (List DV)->List TkE->Prop} (bt:List (Nat × TypeId)) (hbt:∀ p∈bt,os.length<=p.1) (T:TT) (hT:T.ok P=true) (n nt:Nat) (rs:List ResultVar)
  (hf:P.funcs[f]? = some fn) (hb:fn.body=some c) (Ic:fn.ntmps=nt) (zQ:fn.results.toList=rs) (hlen:args.length<=nt)
  (h:∀ (E:En) (w:World) (hn:E.β.length=os.length) (hm:E.tk.length=bU.length),go ⟨P,T,hT,fn,nt,rs,zQ,w,E,os.length,bU.length,hn,hm,s,Φ,bt,[],false⟩ n [.code c] ⟨argSl 0 args,os,bU⟩):Yg s P f args os bU Φ:=
 j7 bt [] hbt false T hT n nt rs hf hb Ic zQ hlen h
theorem Pp {s:Bool} {P:Program} {f:FuncId} {fn:Func} {c:Code} {args:List DV} {os:List (List DV)} {bU:List TkE} {Φ:DV->List (List DV)->List TkE->Prop} (T:TT) (hT:T.ok P=true) (n nt:Nat) (rs:List ResultVar)
  (hf:P.funcs[f]? = some fn) (hb:fn.body=some c) (Ic:fn.ntmps=nt) (zQ:fn.results.toList=rs) (hlen:args.length<=nt)
  (h:∀ (E:En) (w:World) (hn:E.β.length=os.length) (hm:E.tk.length=bU.length),go ⟨P,T,hT,fn,nt,rs,zQ,w,E,os.length,bU.length,hn,hm,s,Φ,[],[],false⟩ n [.code c] ⟨argSl 0 args,os,bU⟩):Yg s P f args os bU Φ:=
 jB [] (fun p hp=>by cases hp) T hT n nt rs hf hb Ic zQ hlen h
theorem EJ {P:Program} {f:FuncId} {fn:Func} {c:Code} {args:List DV} {os:List (List DV)} {bU:List TkE} {Φ:DV->List (List DV)->List TkE->Prop} (T:TT) (hT:T.ok P=true) (n nt:Nat) (rs:List ResultVar)
  (hf:P.funcs[f]? = some fn) (hb:fn.body=some c) (Ic:fn.ntmps=nt) (zQ:fn.results.toList=rs) (hlen:args.length<=nt)
  (h:∀ (E:En) (w:World) (hn:E.β.length=os.length) (hm:E.tk.length=bU.length),go ⟨P,T,hT,fn,nt,rs,zQ,w,E,os.length,bU.length,hn,hm,false,Φ,[],[],false⟩ n [.code c] ⟨argSl 0 args,os,bU⟩):Ev P f args os bU Φ:=
 Pp T hT n nt rs hf hb Ic zQ hlen h
theorem Ev.mono {P:Program} {f:FuncId} {args:List DV} {os:List (List DV)} {bU:List TkE} {Φ Ψ:DV->List (List DV)->List TkE->Prop} (h:Ev P f args os bU Φ) (hΦ:∀ d o t,Φ d o t->Ψ d o t):Ev P f args os bU Ψ:=by
 intro E w vs h1 h2 h3;refine (h E w vs h1 h2 h3).mono ?_;rintro e w' ⟨v,rfl,h4,hs,d,o,E',h5,h6,h7,h8,h9,qZ⟩;exact ⟨v,rfl,h4,hs,d,o,E',h5,h6,h7,h8,h9,hΦ _ _ _ qZ⟩
theorem Ev.abn {P:Program} {f:FuncId} {args:List DV} {os:List (List DV)} {bU:List TkE} {Φ:DV->List (List DV)->List TkE->Prop} {bt:List (Nat × TypeId)} (h:Ev P f args os bU Φ) (hb:bt=[]):EvT false P f args os bU bt Φ:=fun E w vs h1 h2 _ h4=>
 (h E w vs h1 h2 h4).mono fun _ _ ⟨v,h5,h6⟩=>⟨v,h5,h6,.nil hb⟩
theorem br {b:Bool} {A B:Prop} (h1:b=true->A) (h2:b=false->B):@Bool.rec (fun _=>Prop) B A b:=by
 cases b
 ·exact h2 rfl
 ·exact h1 rfl
section
variable {X:Ctx} {st:St} {k:List It} {E:En} {a:Act} {w:World}
theorem Av (h:Rel X E st a w) (bd:X.still=false) {E2:En} {w':World} (hm:re (E.cl).S w w') (he:Env E2 [] w') (hn:Nw E.cl E2 w):Rel X ⟨E2.c,E.β,E.tk,E.τ⟩ st a w':=by
 have hh:∀ i,i < w.heap.size->w'.heap[i]? = w.heap[i]?:=fun i hi=>hm.block i hi (by
  rintro (h1 | ⟨y,h1,_⟩)
  ·simp [En.cl] at h1
  ·simp [En.cl] at h1)
 have eY:∀ x v,E2.c x=some v->E.c x=some v∨w.heap.size<=x.block:=fun x v hx=>by
  rcases hn.cn x v hx with h1 | h1 | ⟨y,h1,_⟩
  ·exact .inl h1
  ·exact .inr h1
  ·simp [En.cl] at h1
 have hx:Ext E ⟨E2.c,E.β,E.tk,E.τ⟩:=⟨hn.c,fun _ _ h=>h,fun _ q h=>⟨q,h,.inl ⟨rfl,rfl⟩⟩⟩;have hk:=h.env.kW hh;refine dC h hx ?_ h.tk ?_ (h.fr.cK hm.os hm.tape hm.output hm.size fun i hi=>.inr (hh i hi)) (mJ bd) (h.bt.kW fun b hb=>hh b (h.env.bp hb))
 ·exact {
   len:=h.env.len
   tl:=h.env.tl
   ey:=fun i cs hi=>by
    obtain ⟨b,ty,arr,hb,hw,hc⟩:=hk.ey i cs hi;exact ⟨b,ty,arr,hb,hw,hc.mono hx⟩
   inj:=h.env.inj
   sub:=he.sub
   pc:=fun x v hc rq=>by
    rcases eY x v hc with h1 | h1
    ·exact h.env.pc x v h1 rq
    ·have:=h.env.bp rq;omega
   bU:=fun k q y hq hy=>by
    rcases hk.bU k q y hq hy with h1 | ⟨g',cap,cur,rfl,h1,h2,h3,h4,h5,h6⟩
    ·exact .inl h1
    ·refine .inr ⟨g',cap,cur,rfl,h1,⟨h2.1,h2.2.mono hn.c⟩,h3,h4,h5,fun x v hc hg=>?_⟩;rcases eY x v hc with h7 | h7
     ·exact h6 x v h7 hg
     ·have:=(jU (h.env.bU k q _ hq hy) (g:=g') rfl).1;omega
   jc:=h.env.jc }
 ·exact {
   c:=fun x v hc=>hn.c x v (h.nw.c x v hc)
   cn:=fun x v hc=>by
    rcases eY x v hc with h1 | h1
    ·exact h.nw.cn x v h1
    ·have:=h.fr.size;exact .inr (.inl (by omega))
   β:=h.nw.β
   tk:=h.nw.tk
   tn:=h.nw.tn
   l0:=h.nw.l0 }
theorem Pq {bx:List (List DV)} (h:Env E bx w):Env E.cl [] w where
 len:=rfl
 tl:=rfl
 ey:=by simp
 inj:=List.nodup_nil
 sub:=h.sub
 pc:=by simp [En.cl]
 bU:=by simp [En.cl]
 jc:=by simp [En.cl]
theorem uL {P:Program} (h:Rel X E st a w) (bd:X.still=false) {f:FuncId} {args bE:List DV} {vs:List Value} {Φ:DV->List (List DV)->List TkE->Prop} (hc:Ev P f bE [] [] Φ) (ha:CcL [] 0 0 0 bE args) (hv:RvL E args vs) :
  Calls P f vs.toArray w fun e w'=>∃ v E' d,e = .returned v/\Rel X E' st a w' /\ Rv E' d v/\Φ d [] []/\re E.cl.S w w' /\ Ext E E' /\ E'.β=E.β:=by
 have XS:RvL E.cl bE vs:=CcL.sound (E:=E) (E':=E.cl) ⟨fun _ _ h=>h,fun i cs _ hi=>by simp at hi⟩ (KR.zero _ _) ha hv;refine (hc E.cl w vs (Pq h.env) rfl XS).mono ?_;rintro e w' ⟨v,rfl,hm,_,d,os,E2,he,hβ,jG,hn,Ud,hΦ⟩
 have Cm:os=[]:=by
  have:=he.len;rw [hβ] at this;exact List.eq_nil_of_length_eq_zero this.symm
 subst Cm;have ht0:E2.tk=[]:=List.eq_nil_of_length_eq_zero jG;refine ⟨v,⟨E2.c,E.β,E.tk,E.τ⟩,d,rfl,Av h bd hm he hn,?_,by rw [ht0] at hΦ;exact hΦ,hm,⟨hn.c,fun _ _ h=>h,fun _ q h=>⟨q,h,.inl ⟨rfl,rfl⟩⟩⟩,rfl⟩;refine Rv.mono (E:=E2) (E':=⟨E2.c,E.β,E.tk,E.τ⟩) ⟨fun _ _ h=>h,fun i b hb=>?_,fun k q hq=>?_⟩ Ud
 ·rw [hβ] at hb;simp [En.cl] at hb
 ·rw [ht0] at hq;simp at hq
theorem cE {f:FuncId} {args bE:List DV} {d:Nat} (kY:Enters X.P f) (hd:ep X.nt st.sl (some d)=true) {Φ:DV->List (List DV)->List TkE->Prop} (hc:Ev X.P f bE [] [] Φ) (ha:CcL [] 0 0 0 bE args)
  (hk:∀ r,Φ r [] []->go X 4000 k ⟨(d,⟨[],r⟩) :: st.sl,st.bx,st.tk⟩) (bd:X.still=false:=by exact rfl):CallG X f args (some d) k st:=by
 refine ⟨kY,bd,fun E a w vs h hv=>(uL h bd hc ha hv).mono ?_⟩;rintro e w' ⟨v,E',r,rfl,bY,hr,hΦ,_⟩;exact go_sound 4000 _ _ (hk r hΦ) E' _ w' (bc bY hd r v hr)
theorem call_p {f:FuncId} {args bE:List DV} {d:Nat} {r:DV} (kY:Enters X.P f) (hc:EvP X.P f bE r) (ha:CcL [] 0 0 0 bE args) (hd:ep X.nt st.sl (some d)=true)
  (hk:go X 4000 k ⟨(d,⟨[],r⟩) :: st.sl,st.bx,st.tk⟩) (bd:X.still=false:=by exact rfl):CallG X f args (some d) k st:=
 cE kY hd hc ha (fun _ hr=>hr ▸ hk) bd
def clB (n m:Nat):DV->Bool
 | .v _=>true
 | .ud=>true
 | .sl _ _ none=>true
 | .sl _ _ (some k)=>Nat.blt k m
 | .pt _ _=>true
 | .loc i _=>Nat.blt i n
 | .el i _=>Nat.blt i n
 | .ms i _ _ _ _=>Nat.blt i n
 | .agg l=>clL l
 | .tup l=>clL l
 | .fn _ l r=>clL l && clL r
 | .rc _ x=>clB n m x
where clL:List DV->Bool
 | []=>true
 | d :: r=>clB n m d && clL r
def En.cut (E:En) (n m:Nat):En:=⟨E.c,E.β.take n,E.tk.take m,E.τ.take m⟩
mutual
theorem Rv.cut {n m:Nat} {E:En}:∀ {d:DV} {v:Value},Rv E d v->clB n m d=true->Rv (E.cut n m) d v
 | .v x,v,h,_=>by unfold Rv at h ⊢;exact h
 | .ud,v,h,_=>by unfold Rv at h ⊢;exact h
 | .sl e es none,v,h,_=>by
  unfold Rv at h ⊢;obtain ⟨b,n,cap,h1,h2,h3,_⟩:=h;exact ⟨b,n,cap,h1,h2,h3,fun k hk=>by cases hk⟩
 | .sl e es (some k),v,h,hc=>by
  unfold Rv at h ⊢;obtain ⟨b,n',cap,h1,h2,h3,h4⟩:=h;refine ⟨b,n',cap,h1,h2,h3,fun k' fC=>?_⟩;cases fC;have hk:k < m:=by simpa [clB] using hc
  obtain ⟨q,h5,h6,h7⟩:=h4 k rfl;exact ⟨q,by show (E.tk.take m)[k]? = _;rw [cI,aj hk];exact h5,h6,fun hh=>by show (E.τ.take m)[k]? = _;rw [cI,aj hk];exact h7 hh⟩
 | .pt cs o,v,h,_=>by unfold Rv at h ⊢;exact h
 | .loc i o,v,h,hc=>by
  unfold Rv at h ⊢;obtain ⟨b,hb,h1⟩:=h;have hi:i < n:=by simpa [clB] using hc
  exact ⟨b,by show (E.β.take n)[i]? = _;rw [cI,aj hi];exact hb,h1⟩
 | .el i o,v,h,hc=>by
  unfold Rv at h ⊢;obtain ⟨b,hb,h1⟩:=h;have hi:i < n:=by simpa [clB] using hc
  exact ⟨b,by show (E.β.take n)[i]? = _;rw [cI,aj hi];exact hb,h1⟩
 | .ms i e o l c,v,h,hc=>by
  unfold Rv at h ⊢;obtain ⟨b,ad,hb,h1⟩:=h;have hi:i < n:=by simpa [clB] using hc
  exact ⟨b,ad,by show (E.β.take n)[i]? = _;rw [cI,aj hi];exact hb,h1⟩
 | .agg l,v,h,hc=>by
  unfold Rv at h ⊢;obtain ⟨vs,h1,h2,h3⟩:=h;simp only [clB] at hc;exact ⟨vs,h1,RvL.cut h2 hc,h3⟩
 | .tup l,v,h,hc=>by
  unfold Rv at h ⊢;obtain ⟨vs,h1,h2⟩:=h;simp only [clB] at hc;exact ⟨vs,h1,RvL.cut h2 hc⟩
 | .fn f l r,v,h,hc=>by
  unfold Rv at h ⊢;obtain ⟨l',r',h1,h2,h3⟩:=h;simp only [clB,aO] at hc;exact ⟨l',r',h1,RvL.cut h2 hc.1,RvL.cut h3 hc.2⟩
 | .rc t x,v,h,hc=>by
  unfold Rv at h ⊢;obtain ⟨z,h1,h2⟩:=h;simp only [clB] at hc;exact ⟨z,h1,Rv.cut h2 hc⟩
theorem RvL.cut {n m:Nat} {E:En}:∀ {l:List DV} {vs:List Value},RvL E l vs->clB.clL n m l=true->RvL (E.cut n m) l vs
 | [],vs,h,_=>by simp only [RvL] at h ⊢;exact h
 | d :: r,vs,h,hc=>by
  simp only [RvL] at h ⊢;obtain ⟨v,s,h1,h2,h3⟩:=h;simp only [clB.clL,aO] at hc;exact ⟨v,s,h1,Rv.cut h2 hc.1,RvL.cut h3 hc.2⟩
end
end
end Dv
end Go.Proofs.YtgjagnmeonoehaaGreat
namespace Go.Proofs.YtgjagnmeonoehaaGreat
namespace Dv
open Go Go.RowKit
def We (n m:Nat) (cC:List TkE) (x x':DV):Prop:=
 (x=x' /\ clB n m x=true)∨(x = .v (.slice none 0 0)/\∃ e k q,x' = .sl e [] (some k)/\m<=k/\cC[k]? = some q)∨(x = .v (.slice none 0 0)/\∃ e,x' = .sl e [] none)∨(∃ e es tk,x = .sl e es tk/\x' = .sl e es none)∨(∃ e es D9 tk,x = .sl e es tk/\x' = .sl e D9 none/\CcE [] 0 D9 es)∨(∃ e es D9 k,x = .sl e es (some k)/\x' = .sl e D9 (some k)/\k < m/\CcE [] 0 D9 es)
def WeL (n m:Nat) (cC:List TkE):List DV->List DV->Prop
 | [],l=>l=[]
 | x :: r,l=>∃ x' r',l=x' :: r' /\ We n m cC x x' /\ WeL n m cC r r'
def WeLL (n m:Nat) (cC:List TkE):List (List DV)->List (List DV)->Prop
 | [],l=>l=[]
 | x :: r,l=>∃ x' r',l=x' :: r' /\ WeL n m cC x x' /\ WeLL n m cC r r'
def oa (n m:Nat) (cC:List TkE) (sl:List (Nat × Sl)):List (Nat × Sl)->Prop
 | []=>True
 | p :: r=>(∃ x,get sl p.1=some ⟨p.2.gs,x⟩/\We n m cC x p.2.s)/\oa n m cC sl r
structure qu (n0 m0:Nat) (st st':St):Prop where
 all:∃ kept dropped new b0 r,m0<=kept.length/\n0<=b0.length/\st.tk=kept ++ dropped/\st'.tk=kept ++ new/\(∀ q∈new,TkE.new q=true)/\st.bx=b0 ++ r/\WeLL b0.length kept.length st'.tk b0 st'.bx/\oa b0.length kept.length st'.tk st.sl st'.sl
theorem WeLL.length {n m:Nat} {cC:List TkE}:∀ {l l':List (List DV)},WeLL n m cC l l' -> l'.length=l.length
 | [],l',h=>by simp only [WeLL] at h;subst h;rfl
 | x :: r,l',h=>by
  simp only [WeLL] at h;obtain ⟨x',r',rfl,_,h2⟩:=h;simp [WeLL.length h2]
theorem WeLL.get {n m:Nat} {cC:List TkE}:∀ {l l':List (List DV)},WeLL n m cC l l' -> ∀ (i:Nat) cs',l'[i]? = some cs' -> ∃ cs,l[i]? = some cs/\WeL n m cC cs cs'
 | [],l',h,i,cs',hi=>by simp only [WeLL] at h;subst h;simp at hi
 | x :: r,l',h,i,cs',hi=>by
  simp only [WeLL] at h;obtain ⟨x',r',rfl,h1,h2⟩:=h
  cases i with
  | zero=>simp only [List.getElem?_cons_zero,oI] at hi;subst hi;exact ⟨x,rfl,h1⟩
  | succ i=>simp only [List.getElem?_cons_succ] at hi ⊢;exact WeLL.get h2 i cs' hi
theorem xa {n m:Nat} {cC:List TkE} {sl:List (Nat × Sl)}:∀ {l:List (Nat × Sl)},oa n m cC sl l->∀ i x',get l i=some x' -> ∃ x,get sl i=some ⟨x'.gs,x⟩/\We n m cC x x'.s
 | [],_,i,x',hx=>by cases hx
 | (k,y) :: r,h,i,x',hx=>by
  simp only [dG] at hx;split at hx
  ·rename_i uJ;subst uJ;simp only [oI] at hx;subst hx;exact h.1
  ·exact xa h.2 i x' hx
section
variable {X:Ctx} {E:En} {st st':St} {a:Act} {w:World} {k:List It}
def En.wk (E:En) (n:Nat) (kept new:List TkE):En:=⟨E.c,E.β.take n,kept ++ new,E.τ.take kept.length ++ List.replicate new.length (.slice none 0 0)⟩
theorem EK {n:Nat} {kept dropped new:List TkE} (ht:E.tk=kept ++ dropped) (hl:E.τ.length=E.tk.length) (eY:∀ q∈new,TkE.new q=true) {x x':DV} {v:Value} (hx:We n kept.length (kept ++ new) x x') (hv:Rv E x v):Rv (E.wk n kept new) x' v:=by
 have lf:kept.length<=E.τ.length:=by rw [hl,ht];simp
 have first:∀ {x:DV},clB n kept.length x=true->Rv E x v->Rv (E.wk n kept new) x v:=by
  intro x hc hv;refine Rv.mono (E:=E.cut n kept.length) ⟨fun _ _ h=>h,fun _ _ h=>h,fun k q hq=>?_⟩ (Rv.cut hv hc);have lP:(E.tk.take kept.length)[k]? = some q:=hq;rw [cI] at lP;split at lP
  ·rename_i hk;refine ⟨q,?_,.inl ⟨rfl,?_⟩⟩
   ·show (kept ++ new)[k]? = _
    grind
   ·show (E.τ.take kept.length ++ _)[k]? = (E.τ.take kept.length)[k]?
    grind
  ·cases lP
 rcases hx with ⟨rfl,hc⟩ | ⟨rfl,e,k,q,rfl,hk,hq⟩ | ⟨rfl,e,rfl⟩ | ⟨e,es,tk,rfl,rfl⟩ | ⟨e,es,D9,tk,rfl,rfl,he⟩ | ⟨e,es,D9,k,rfl,rfl,hk,he⟩
 ·exact first hc hv
 ·have:=bB hv;subst this;unfold Rv;refine ⟨none,0,0,rfl,⟨rfl,aR _⟩,fun hn=>(hn rfl).elim,fun k' fC=>?_⟩;cases fC;have Pr:(kept ++ new)[k]? = some q:=hq;rw [List.getElem?_append_right hk] at Pr;have zZ:=TkE.O7 (eY q (mG Pr));refine ⟨q,hq,by omega,fun _=>?_⟩;have aw:=(gS Pr).1;show (E.τ.take kept.length ++ List.replicate new.length _)[k]? = _
  grind
 ·have:=bB hv;subst this;unfold Rv;exact ⟨none,0,0,rfl,⟨rfl,aR _⟩,fun hn=>(hn rfl).elim,fun k hk=>by cases hk⟩
 ·unfold Rv at hv ⊢;obtain ⟨b,n,cap,h1,h2,h3,_⟩:=hv;exact ⟨b,n,cap,h1,h2,h3,fun k hk=>by cases hk⟩
 ·have hv:=V9 he hv;unfold Rv at hv ⊢;obtain ⟨b,n,cap,h1,h2,h3,_⟩:=hv;exact ⟨b,n,cap,h1,h2,h3,fun k hk=>by cases hk⟩
 ·exact first (by simp only [clB];exact Nat.ble_eq_true_of_le hk) (V9 he hv)
theorem tg {n:Nat} {kept dropped new:List TkE} (ht:E.tk=kept ++ dropped) (hl:E.τ.length=E.tk.length) (eY:∀ q∈new,TkE.new q=true):∀ {l l':List DV} {vs:List Value},WeL n kept.length (kept ++ new) l l' -> RvL E l vs->RvL (E.wk n kept new) l' vs
 | [],l',vs,h,hv=>by grind [WeL,RvL]
 | x :: r,l',vs,h,hv=>by
  simp only [WeL] at h;obtain ⟨x',r',rfl,h1,h2⟩:=h;simp only [RvL] at hv ⊢;obtain ⟨v,s,h3,h4,h5⟩:=hv;exact ⟨v,s,h3,EK ht hl eY h1 h4,tg ht hl eY h2 h5⟩
theorem Aw (h:Rel X E st a w) {kept dropped new:List TkE} {b0 r:List (List DV)} (iO:X.m0<=kept.length/\X.n0<=b0.length/\st.tk=kept ++ dropped/\st'.tk=kept ++ new/\(∀ q∈new,TkE.new q=true)/\st.bx=b0 ++ r/\WeLL b0.length kept.length st'.tk b0 st'.bx/\oa b0.length kept.length st'.tk st.sl st'.sl):Rel X (E.wk b0.length kept new) st' a w:=by
 obtain ⟨mH,ku,ht,vu,eY,hb,jA,nW⟩:=iO;rw [vu] at jA nW;have htE:E.tk=kept ++ dropped:=by rw [h.tk,ht]
 have hbl:=jA.length;have lf:kept.length<=E.τ.length:=by rw [h.env.tl,htE];simp
 have iC:b0.length<=E.β.length:=by rw [h.env.len,hb];simp
 have hτ:∀ (k:Nat) y,(E.τ.take kept.length ++ List.replicate new.length (Value.slice none 0 0))[k]? = some y->(k < kept.length/\E.τ[k]? = some y)∨(kept.length<=k/\y = .slice none 0 0):=fun k y hy=>by grind
 exact {
  env:={
   len:=by simp only [En.wk,zLenT];omega
   tl:=by simp only [En.wk,List.length_append,zLenT,List.length_replicate];omega
   ey:=fun i cs' hi=>by
    obtain ⟨cs,hcs,hwe⟩:=jA.get i cs' hi;have aw:=(gS hcs).1;obtain ⟨b,ty,arr,hbb,hwb,hc⟩:=h.env.ey i cs (by rw [hb,dn aw];exact hcs);exact ⟨b,ty,arr,by simp only [En.wk];rw [cI,aj aw];exact hbb,hwb,tg htE h.env.tl eY hwe hc.1,hc.2⟩
   inj:=h.env.inj.sublist (List.take_sublist _ _)
   sub:=h.env.sub
   pc:=fun x v hx hm=>h.env.pc x v hx (List.mem_of_mem_take hm)
   bU:=fun k q y hq hy=>by
    rcases hτ k y hy with ⟨hk,fW⟩ | ⟨hk,rfl⟩
    ·have lP:(kept ++ new)[k]? = some q:=hq;rw [dn hk] at lP;rcases h.env.bU k q y (by rw [htE,dn hk];exact lP) fW with h1 | ⟨g,cap,cur,rfl,h1,h2,h3,h4,h5,h6⟩
     ·exact .inl h1
     ·exact .inr ⟨g,cap,cur,rfl,h1,h2,h3,h4,fun hm=>h5 (List.mem_of_mem_take hm),h6⟩
    ·have lP:(kept ++ new)[k]? = some q:=hq;rw [List.getElem?_append_right hk] at lP;exact .inl ⟨rfl,TkE.O7 (eY q (mG lP)),TkE.V2 (eY q (mG lP))⟩
   jc:=fun k k' y y' g uK hy fW hg qX=>by
    rcases hτ k y hy with ⟨_,vt⟩ | ⟨_,rfl⟩
    ·rcases hτ k' y' fW with ⟨_,lO⟩ | ⟨_,rfl⟩
     ·exact h.env.jc k k' y y' g uK vt lO hg qX
     ·simp [Value.ownBlock] at qX
    ·simp [Value.ownBlock] at hg }
  tk:=by simp only [En.wk];exact vu.symm
  sz:=h.sz
  tm:=fun i x' Ea=>by
   obtain ⟨x,hx,hwe⟩:=xa nW i x' Ea;have:=h.tm i _ hx;refine ⟨fun hh=>?_,this.2⟩;obtain ⟨v,h1,h2⟩:=this.1 hh;exact ⟨v,h1,EK htE h.env.tl eY hwe h2⟩
  df:=h.df
  nw:={
   c:=h.nw.c
   cn:=h.nw.cn
   β:=by
    obtain ⟨r2,hr,hl⟩:=h.nw.β;refine ⟨r2.take (b0.length - X.n0),?_,fun b hb=>hl b (List.mem_of_mem_take hb)⟩;simp only [En.wk];rw [hr,List.take_append,List.take_of_length_le (by rw [X.ku];omega),X.ku]
   tk:=fun j q0 y0 zZ Ch=>by
    obtain ⟨q',y',h1,h2,h3⟩:=h.nw.tk j q0 y0 zZ Ch;have hj:j < X.m0:=by rw [<- X.mH];exact (gS zZ).1
    grind [En.wk]
   tn:=fun j y g hj hy hg=>by
    rcases hτ j y hy with ⟨_,vt⟩ | ⟨_,rfl⟩
    ·exact h.nw.tn j y g hj vt hg
    ·simp [Value.ownBlock] at hg
   l0:=h.nw.l0 }
  fr:=h.fr
  sh:=h.sh
  bt:=h.bt.sub _ }
theorem xc (h:Rel X E st a w) (hw:qu X.n0 X.m0 st st'):∃ E',Rel X E' st' a w:=by
 obtain ⟨_,_,_,_,_,iO⟩:=hw.all;exact ⟨_,Aw h iO⟩
theorem least {p:Nat->Prop} (h:∃ n,p n):∃ n,p n/\∀ m,p m->n<=m:=by
 obtain ⟨n,hn⟩:=h
 induction n using Nat.strongRecOn with
 | _ n ih=>grind
theorem aT {c:Code} (I:Nat->St->Prop) (j0:Nat) (kZ:St) (hw:qu X.n0 X.m0 st kZ) (h0:I j0 kZ)
  (hr:∀ j s,I j s->go X 4000 (.code c :: .B9 (fun s'=>∃ EL,qu X.n0 X.m0 s' EL /\ ∃ j',j' < j/\I j' EL) :: k) s):uG X c k st:=by
 intro E a w h;obtain ⟨E0,hr0⟩:=xc h hw
 classical
 let Inv:Act->World->Prop:=fun a w=>∃ j s E,Rel X E s a w/\I j s
 let μ:Act->World->Nat:=fun a w=>if hI:Inv a w then Classical.choose (least hI) else 0
 refine wp_loop Inv μ ⟨j0,kZ,E0,hr0,h0⟩ ?_;intro a1 w1 hI;have Ax:=(Classical.choose_spec (least hI)).1;obtain ⟨s,E1,bY,hIs⟩:=Ax;have hs:=go_sound 4000 _ _ (hr _ s hIs) E1 a1 w1 bY;rw [fD] at hs;refine wp_mono hs ?_;intro e a2 w2 hq
 cases e with
 | normal=>
  obtain ⟨s',E2,xe,EL,rz,j',j1,hI'⟩:=hq;obtain ⟨E3,EM⟩:=xc xe rz;have Yh:Inv a2 w2:=⟨j',EL,E3,EM,hI'⟩;refine ⟨Yh,?_⟩;simp only [μ,dif_pos hI,dif_pos Yh];exact Nat.lt_of_le_of_lt ((Classical.choose_spec (least Yh)).2 j' ⟨EL,E3,EM,hI'⟩) j1
 | exit id=>exact hq
 | goto l=>exact hq
 | ret=>exact hq
 | panic c=>exact hq
 | outgrown=>exact hq
theorem aA {n m:Nat} {cC:List TkE} {x:DV} (h:clB n m x=true):We n m cC x x:=.inl ⟨rfl,h⟩
theorem aD {n m:Nat} {cC:List TkE} {kd:IntKind} {x y:Int} (h:x=y):We n m cC (.v (.int kd x)) (.v (.int kd y)):=.inl ⟨by rw [h],rfl⟩
theorem ch {n m:Nat} {cC:List TkE} {e k:Nat} {q:TkE} (h1:m<=k) (h2:cC[k]? = some q):We n m cC (.v (.slice none 0 0)) (.sl e [] (some k)):=.inr (.inl ⟨rfl,e,k,q,rfl,h1,h2⟩)
theorem cR {n m:Nat} {cC:List TkE} {e k:Nat} {es D9:List (List DV)} (h:es=D9) (hk:Nat.blt k m=true):We n m cC (.sl e es (some k)) (.sl e D9 (some k)):=.inl ⟨by rw [h],hk⟩
theorem ax {p:Prop} (h:p:=by repeat' (first | exact rfl | exact trivial | exact Or.inr (Or.inl ⟨_,rfl⟩) | exact Or.inr ⟨_,rfl⟩ | exact Or.inl ⟨rfl,rfl⟩ | exact Or.inl rfl | refine Or.inr ⟨_,_,rfl,Nat.zero_le _,rfl,?_⟩ | refine ⟨_,_,rfl,?_,?_⟩ | refine ⟨_,rfl,?_⟩ | refine Or.inr (Or.inr (Or.inr ⟨_,_,rfl,?_⟩)) | exact Or.inl rfl | refine Or.inr ?_)):p:=h
theorem wA {p:Prop} (h:p:=by repeat' (first | exact rfl | exact aA rfl | refine ⟨_,_,rfl,?_,?_⟩)):p:=h
theorem wB {p:Prop} (h:p:=by repeat' (first | exact trivial | exact aA rfl | refine ⟨⟨_,rfl,?_⟩,?_⟩)):p:=h
theorem Cs {n0 m0:Nat} {st st':St} (h1:∃ r,st.bx=st'.bx ++ r) (h2:WeLL st'.bx.length st'.tk.length st'.tk st'.bx st'.bx) (h3:st.tk=st'.tk) (h4:Nat.ble n0 st'.bx.length=true) (h5:Nat.ble m0 st'.tk.length=true)
  (h:oa st'.bx.length st'.tk.length st'.tk st.sl st'.sl):qu n0 m0 st st':=by
 obtain ⟨r,hr⟩:=h1;exact ⟨st'.tk,[],[],st'.bx,r,by simpa using h5,by simpa using h4,by simp [h3],by simp,by simp,hr,h2,h⟩
theorem weak_b {n0 m0:Nat} {st st':St} (n:Nat) (hn:Nat.ble n st.bx.length=true) (h2:WeLL n st'.tk.length st'.tk (st.bx.take n) st'.bx) (h3:st.tk=st'.tk) (h4:Nat.ble n0 n=true) (h5:Nat.ble m0 st'.tk.length=true)
  (h:oa n st'.tk.length st'.tk st.sl st'.sl):qu n0 m0 st st':=by
 have hl:(st.bx.take n).length=n:=by simp_all
 exact ⟨st'.tk,[],[],st.bx.take n,st.bx.drop n,by simpa using h5,by rw [hl];simpa using h4,by simp [h3],by simp,by simp,(List.take_append_drop n st.bx).symm,by rw [hl];exact h2,by rw [hl];exact h⟩
theorem fF {n0 m0:Nat} {st st':St} (q:TkE) (hq:q.new=true) (h1:∃ r,st.bx=st'.bx ++ r) (h3:st.tk ++ [q]=st'.tk) (h2:WeLL st'.bx.length st.tk.length st'.tk st'.bx st'.bx) (h4:Nat.ble n0 st'.bx.length=true) (h5:Nat.ble m0 st.tk.length=true)
  (h:oa st'.bx.length st.tk.length st'.tk st.sl st'.sl):qu n0 m0 st st':=by
 obtain ⟨r,hr⟩:=h1;exact ⟨st.tk,[],[q],st'.bx,r,by simpa using h5,by simpa using h4,by simp,h3.symm,by simpa using hq,hr,h2,h⟩
end
end Dv
end Go.Proofs.YtgjagnmeonoehaaGreat
namespace Go.Proofs.YtgjagnmeonoehaaGreat
namespace Dv
theorem aL {p : Prop} (h : p := by repeat' (first | exact rfl | exact trivial | exact Or.inr (Or.inl ⟨_,rfl⟩) | exact Or.inr ⟨_,rfl⟩ | exact Or.inl ⟨rfl,rfl⟩ | exact Or.inl rfl | refine Or.inr ⟨_,_,rfl,Nat.zero_le _,rfl,?_⟩ | refine ⟨_,_,rfl,?_,?_⟩ | refine ⟨_,rfl,?_⟩ | exact ⟨nL rfl,rfl⟩ | refine Or.inr (Or.inr (Or.inr ⟨_,_,rfl,?_⟩)) | exact Or.inl rfl | refine Or.inr ?_)) : p := h
theorem aI {p : Prop} {a b : Int} (q : a=b) (h : a=b -> p := by intro q;repeat' (first | exact rfl | exact trivial | exact Or.inr (Or.inl ⟨_,rfl⟩) | exact Or.inr ⟨_,rfl⟩ | exact Or.inl ⟨rfl,rfl⟩ | exact Or.inl rfl | refine Or.inr ⟨_,_,rfl,Nat.zero_le _,rfl,?_⟩ | refine ⟨_,_,rfl,?_,?_⟩ | refine ⟨_,rfl,?_⟩ | exact congrArg (fun z=>DV.v (.int .i64 z)) q | refine Or.inr (Or.inr (Or.inr ⟨_,_,rfl,?_⟩)) | exact Or.inl rfl | refine Or.inr ?_)) : p := h q
theorem aB {p : Prop} {a b : Bool} (q : a=b) (h : a=b -> p := by intro q;repeat' (first | exact rfl | exact trivial | exact Or.inr (Or.inl ⟨_,rfl⟩) | exact Or.inr ⟨_,rfl⟩ | exact Or.inl ⟨rfl,rfl⟩ | exact Or.inl rfl | refine Or.inr ⟨_,_,rfl,Nat.zero_le _,rfl,?_⟩ | refine ⟨_,_,rfl,?_,?_⟩ | refine ⟨_,rfl,?_⟩ | exact congrArg (fun b=>DV.v (.bool b)) q | refine Or.inr (Or.inr (Or.inr ⟨_,_,rfl,?_⟩)) | exact Or.inl rfl | refine Or.inr ?_)) : p := h q
theorem wNA {p : Prop} {a b : Nat} (q : a < b) (hn : b <= 4611686018427387904 := by omega) (h : a < b -> b <= 4611686018427387904 -> p := by intro q hn;repeat' (first | exact rfl | exact aA rfl | exact aD (aX q hn) | refine ⟨_,_,rfl,?_,?_⟩)) : p := h q hn
theorem wNB {p : Prop} {a b : Nat} (q : a < b) (hn : b <= 4611686018427387904 := by omega) (h : a < b -> b <= 4611686018427387904 -> p := by intro q hn;repeat' (first | exact trivial | exact aA rfl | exact aD (aX q hn) | refine ⟨⟨_,rfl,?_⟩,?_⟩)) : p := h q hn
theorem wSA {p r : Prop} {a b : Nat} (q : a < b) (s : r) (hn : b <= 4611686018427387904 := by omega) (h : a < b -> b <= 4611686018427387904 -> r -> p := by intro q hn s;repeat' (first | exact rfl | exact aA rfl | exact aD (aX q hn) | exact cR s rfl | refine ⟨_,_,rfl,?_,?_⟩)) : p := h q hn s
theorem wSB {p r : Prop} {a b : Nat} (q : a < b) (s : r) (hn : b <= 4611686018427387904 := by omega) (h : a < b -> b <= 4611686018427387904 -> r -> p := by intro q hn s;repeat' (first | exact trivial | exact aA rfl | exact aD (aX q hn) | exact cR s rfl | refine ⟨⟨_,rfl,?_⟩,?_⟩)) : p := h q hn s
theorem wTB {p : Prop} (h : p := by repeat' (first | exact trivial | exact aA rfl | exact ch (Nat.le_refl _) rfl | refine ⟨⟨_,rfl,?_⟩,?_⟩)) : p := h
theorem wTA {p : Prop} (h : p := by repeat' (first | exact rfl | exact aA rfl | exact ch (Nat.le_refl _) rfl | refine ⟨_,_,rfl,?_,?_⟩)) : p := h
theorem wRB {p : Prop} (h : p := by repeat' (first | exact trivial | exact aA rfl | exact aD rfl | refine ⟨⟨_,rfl,?_⟩,?_⟩)) : p := h
theorem wRA {p : Prop} (h : p := by repeat' (first | exact rfl | exact aA rfl | exact aD rfl | refine ⟨_,_,rfl,?_,?_⟩)) : p := h
theorem pV {p:Prop}   (h:p:=by repeat' (first | exact rfl | exact aA rfl | exact dw rfl | exact cO rfl | exact ti _ | exact ch (Nat.le_refl _) rfl | exact ch (Nat.le_succ _) rfl | refine ⟨_,_,rfl,?_,?_⟩)):p:=h 
theorem pX {p:Prop} {P0:Prop} (x0:P0) (h:P0->p:=by intro x0;repeat' (first | exact rfl | exact aA rfl | exact aD x0 | exact dw x0 | exact cR x0 rfl | exact cM x0 | exact cO x0 | exact aD (congrArg Nat.cast x0) | exact aA x0 | exact gm x0 | exact x0 | exact dw rfl | exact cO rfl | exact ti _ | exact ch (Nat.le_refl _) rfl | exact ch (Nat.le_succ _) rfl | refine ⟨_,_,rfl,?_,?_⟩)):p:=h x0
theorem oc {p:Prop} {P0:Prop} {P1:Prop} (x0:P0) (x1:P1) (h:P0->P1->p:=by intro x0 x1;repeat' (first | exact rfl | exact aA rfl | exact aD x0 | exact dw x0 | exact cR x0 rfl | exact cM x0 | exact cO x0 | exact aD (congrArg Nat.cast x0) | exact aA x0 | exact gm x0 | exact x0 | exact aD x1 | exact dw x1 | exact cR x1 rfl | exact cM x1 | exact cO x1 | exact aD (congrArg Nat.cast x1) | exact aA x1 | exact gm x1 | exact x1 | exact dw rfl | exact cO rfl | exact ti _ | exact ch (Nat.le_refl _) rfl | exact ch (Nat.le_succ _) rfl | refine ⟨_,_,rfl,?_,?_⟩)):p:=h x0 x1
theorem wA3 {p:Prop} {P0:Prop} {P1:Prop} {P2:Prop} (x0:P0) (x1:P1) (x2:P2) (h:P0->P1->P2->p:=by intro x0 x1 x2;repeat' (first | exact rfl | exact aA rfl | exact aD x0 | exact dw x0 | exact cR x0 rfl | exact cM x0 | exact cO x0 | exact aD (congrArg Nat.cast x0) | exact aA x0 | exact gm x0 | exact x0 | exact aD x1 | exact dw x1 | exact cR x1 rfl | exact cM x1 | exact cO x1 | exact aD (congrArg Nat.cast x1) | exact aA x1 | exact gm x1 | exact x1 | exact aD x2 | exact dw x2 | exact cR x2 rfl | exact cM x2 | exact cO x2 | exact aD (congrArg Nat.cast x2) | exact aA x2 | exact gm x2 | exact x2 | exact dw rfl | exact cO rfl | exact ti _ | exact ch (Nat.le_refl _) rfl | exact ch (Nat.le_succ _) rfl | refine ⟨_,_,rfl,?_,?_⟩)):p:=h x0 x1 x2
theorem j8 {p:Prop}   (h:p:=by repeat' (first | exact trivial | exact aA rfl | exact ch (Nat.le_refl _) rfl | exact ch (Nat.le_succ _) rfl | exact aD rfl | refine ⟨⟨_,rfl,?_⟩,?_⟩)):p:=h 
theorem dH {p:Prop} {P0:Prop} (x0:P0) (h:P0->p:=by intro x0;repeat' (first | exact trivial | exact aA rfl | exact aD x0 | exact dw x0 | exact cR x0 rfl | exact cM x0 | exact cO x0 | exact aD (congrArg Nat.cast x0) | exact aA x0 | exact gm x0 | exact x0 | exact ch (Nat.le_refl _) rfl | exact ch (Nat.le_succ _) rfl | exact aD rfl | refine ⟨⟨_,rfl,?_⟩,?_⟩)):p:=h x0
theorem gC {p:Prop} {P0:Prop} {P1:Prop} (x0:P0) (x1:P1) (h:P0->P1->p:=by intro x0 x1;repeat' (first | exact trivial | exact aA rfl | exact aD x0 | exact dw x0 | exact cR x0 rfl | exact cM x0 | exact cO x0 | exact aD (congrArg Nat.cast x0) | exact aA x0 | exact gm x0 | exact x0 | exact aD x1 | exact dw x1 | exact cR x1 rfl | exact cM x1 | exact cO x1 | exact aD (congrArg Nat.cast x1) | exact aA x1 | exact gm x1 | exact x1 | exact ch (Nat.le_refl _) rfl | exact ch (Nat.le_succ _) rfl | exact aD rfl | refine ⟨⟨_,rfl,?_⟩,?_⟩)):p:=h x0 x1
theorem Wa {p:Prop} {P0:Prop} {P1:Prop} {P2:Prop} (x0:P0) (x1:P1) (x2:P2) (h:P0->P1->P2->p:=by intro x0 x1 x2;repeat' (first | exact trivial | exact aA rfl | exact aD x0 | exact dw x0 | exact cR x0 rfl | exact cM x0 | exact cO x0 | exact aD (congrArg Nat.cast x0) | exact aA x0 | exact gm x0 | exact x0 | exact aD x1 | exact dw x1 | exact cR x1 rfl | exact cM x1 | exact cO x1 | exact aD (congrArg Nat.cast x1) | exact aA x1 | exact gm x1 | exact x1 | exact aD x2 | exact dw x2 | exact cR x2 rfl | exact cM x2 | exact cO x2 | exact aD (congrArg Nat.cast x2) | exact aA x2 | exact gm x2 | exact x2 | exact ch (Nat.le_refl _) rfl | exact ch (Nat.le_succ _) rfl | exact aD rfl | refine ⟨⟨_,rfl,?_⟩,?_⟩)):p:=h x0 x1 x2
theorem wB4 {p:Prop} {P0:Prop} {P1:Prop} {P2:Prop} {P3:Prop} (x0:P0) (x1:P1) (x2:P2) (x3:P3) (h:P0->P1->P2->P3->p:=by intro x0 x1 x2 x3;repeat' (first | exact trivial | exact aA rfl | exact aD x0 | exact dw x0 | exact cR x0 rfl | exact cM x0 | exact cO x0 | exact aD (congrArg Nat.cast x0) | exact aA x0 | exact gm x0 | exact x0 | exact aD x1 | exact dw x1 | exact cR x1 rfl | exact cM x1 | exact cO x1 | exact aD (congrArg Nat.cast x1) | exact aA x1 | exact gm x1 | exact x1 | exact aD x2 | exact dw x2 | exact cR x2 rfl | exact cM x2 | exact cO x2 | exact aD (congrArg Nat.cast x2) | exact aA x2 | exact gm x2 | exact x2 | exact aD x3 | exact dw x3 | exact cR x3 rfl | exact cM x3 | exact cO x3 | exact aD (congrArg Nat.cast x3) | exact aA x3 | exact gm x3 | exact x3 | exact ch (Nat.le_refl _) rfl | exact ch (Nat.le_succ _) rfl | exact aD rfl | refine ⟨⟨_,rfl,?_⟩,?_⟩)):p:=h x0 x1 x2 x3
theorem iP {p:Prop}   (h:p:=by repeat' (first | exact rfl | exact trivial | exact Or.inr (Or.inl ⟨_,rfl⟩) | exact Or.inr ⟨_,rfl⟩ | exact Or.inl ⟨rfl,rfl⟩ | exact Or.inl rfl | refine Or.inr ⟨_,_,rfl,Nat.zero_le _,rfl,?_⟩ | refine ⟨_,_,rfl,?_,?_⟩ | refine ⟨_,rfl,?_⟩ | exact ⟨nL rfl,rfl⟩ | refine Or.inr (Or.inr (Or.inr ⟨_,_,rfl,?_⟩)) | exact Or.inl rfl | refine Or.inr ?_)):p:=h 
theorem rA {p:Prop} {P0:Prop} (x0:P0) (h:P0->p:=by intro x0;repeat' (first | exact rfl | exact trivial | exact Or.inr (Or.inl ⟨_,rfl⟩) | exact Or.inr ⟨_,rfl⟩ | exact Or.inl ⟨rfl,rfl⟩ | exact Or.inl rfl | refine Or.inr ⟨_,_,rfl,Nat.zero_le _,rfl,?_⟩ | refine ⟨_,_,rfl,?_,?_⟩ | refine ⟨_,rfl,?_⟩ | exact congrArg (fun z=>DV.v (.int .i64 z)) x0 | exact congrArg (fun z=>DV.v (.int .i64 z)) (congrArg Nat.cast x0) | exact congrArg (fun b=>DV.v (.bool b)) x0 | exact x0 | exact Or.inr (Or.inl ⟨_,x0⟩) | apply x0 | exact ⟨nL rfl,rfl⟩ | refine Or.inr (Or.inr (Or.inr ⟨_,_,rfl,?_⟩)) | exact Or.inl rfl | refine Or.inr ?_)):p:=h x0
theorem wC2 {p:Prop} {P0:Prop} {P1:Prop} (x0:P0) (x1:P1) (h:P0->P1->p:=by intro x0 x1;repeat' (first | exact rfl | exact trivial | exact Or.inr (Or.inl ⟨_,rfl⟩) | exact Or.inr ⟨_,rfl⟩ | exact Or.inl ⟨rfl,rfl⟩ | exact Or.inl rfl | refine Or.inr ⟨_,_,rfl,Nat.zero_le _,rfl,?_⟩ | refine ⟨_,_,rfl,?_,?_⟩ | refine ⟨_,rfl,?_⟩ | exact congrArg (fun z=>DV.v (.int .i64 z)) x0 | exact congrArg (fun z=>DV.v (.int .i64 z)) (congrArg Nat.cast x0) | exact congrArg (fun b=>DV.v (.bool b)) x0 | exact x0 | exact Or.inr (Or.inl ⟨_,x0⟩) | apply x0 | exact congrArg (fun z=>DV.v (.int .i64 z)) x1 | exact congrArg (fun z=>DV.v (.int .i64 z)) (congrArg Nat.cast x1) | exact congrArg (fun b=>DV.v (.bool b)) x1 | exact x1 | exact Or.inr (Or.inl ⟨_,x1⟩) | apply x1 | exact ⟨nL rfl,rfl⟩ | refine Or.inr (Or.inr (Or.inr ⟨_,_,rfl,?_⟩)) | exact Or.inl rfl | refine Or.inr ?_)):p:=h x0 x1
theorem iX {α:Type _} {P:α->Prop} {cs:α} {i:Int} {l:List α} (g:l[i.toNat]? = some cs) (k:P cs) (h:0<=i:=by omega):∃ cs,(0<=i/\l[i.toNat]? = some cs)/\P cs:=⟨cs,⟨h,g⟩,k⟩
theorem lI {X:Ctx} {st:St} {k:List It} {c:Code} (I:Nat->St->Prop) {j0:Nat} {kZ:St} (h0:I j0 kZ) (hw:qu X.n0 X.m0 st kZ)
 (hr:∀ j s,I j s->go X 4000 (.code c :: .B9 (fun s'=>∃ EL,qu X.n0 X.m0 s' EL/\∃ j',j' < j/\I j' EL) :: k) s):uG X c k st:=aT I j0 kZ hw h0 hr
theorem lJ {X:Ctx} {st:St} {k:List It} {c:Code} (S:Nat->St) (n:Nat) (hw:qu X.n0 X.m0 st (S 0))
 (hr:∀ e,e<=n->go X 4000 (.code c :: .B9 (fun s'=>∃ EL,qu X.n0 X.m0 s' EL/\∃ j',j' < n - e/\∃ e:Nat,EL=S e/\e<=n/\j'=n - e) :: k) (S e)):uG X c k st:=aT (fun j st=>∃ e:Nat,st=S e/\e<=n/\j=n - e) (n - 0) (S 0) hw ⟨0,rfl,Nat.zero_le _,rfl⟩ fun j s h=>by
 obtain ⟨e,rfl,he,rfl⟩:=h;exact hr e he
theorem bK {a b : Bool} (h : a = b) : DV.v (.bool a) = .v (.bool b) := h ▸ rfl
theorem Ct {a b : Int} (h : a = b) : DV.v (.int .i64 a) = .v (.int .i64 b) := h ▸ rfl
theorem bG {n0 m0 : Nat} {st st' : St} (h : oa st'.bx.length st'.tk.length st'.tk st.sl st'.sl) (h1 : ∃ r,st.bx = st'.bx ++ r := by exact ⟨_,rfl⟩) (h2 : WeLL st'.bx.length st'.tk.length st'.tk st'.bx st'.bx := by exact wA) (h3 : st.tk = st'.tk := by exact rfl) (h4 : Nat.ble n0 st'.bx.length = true := by exact rfl) (h5 : Nat.ble m0 st'.tk.length = true := by exact rfl) : qu n0 m0 st st' := Cs h1 h2 h3 h4 h5 h
theorem dz {n0 m0 : Nat} {st st' : St} (n : Nat) (h2 : WeLL n st'.tk.length st'.tk (st.bx.take n) st'.bx) (h : oa n st'.tk.length st'.tk st.sl st'.sl) (hn : Nat.ble n st.bx.length = true := by exact rfl) (h3 : st.tk = st'.tk := by exact rfl) (h4 : Nat.ble n0 n = true := by exact rfl) (h5 : Nat.ble m0 st'.tk.length = true := by exact rfl) : qu n0 m0 st st' := weak_b n hn h2 h3 h4 h5 h
abbrev ay (k : Nat) (n : Int) : Nat × Sl := (k,⟨[],.v (.int .i64 n)⟩)
abbrev Cu (k : Nat) (b : Bool) : Nat × Sl := (k,⟨[],.v (.bool b)⟩)
abbrev aF (k i : Nat) : Nat × Sl := (k,⟨[],.loc i 0⟩)
abbrev iQ (k : Nat) (c : List DV) : Nat × Sl := (k,⟨[],.pt c 0⟩)
abbrev bi (k e : Nat) (l : List (List DV)) : Nat × Sl := (k,⟨[],.sl e l none⟩)
end Dv
end Go.Proofs.YtgjagnmeonoehaaGreat
namespace Go.Proofs.YtgjagnmeonoehaaGreat
namespace Dv
open Go
section
variable {P:Program} {ops:Array Oper} {C:World->Prop} {Q:Act->World->Prop} {W:Nat->Bool} {π:Nat->Nat}
theorem abr {o:Oper} {a:Act} {w:World} {K:Act->World->Prop} (h:wq P o a w K):∃ v w',K (a.put o.dst v) w':=by
 unfold wq at h;split at h
 ·exact ⟨_,_,h⟩
 ·exact ⟨_,_,h⟩
 ·obtain ⟨e,w',fr,⟨v,_,hv⟩,_⟩:=h [];exact ⟨v,w',hv⟩
 ·exact h.elim
theorem Yi {x y:Oper} {v:Value} (Ie:x.apart ops y=true) (hs:∀ cs b,y.op ≠ .select cs b) {a:Act} {w:World} {K:Act->World->Prop} :
  wq P y (a.put x.dst v) w K↔wq P y a w (fun a' w'=>K (a'.put x.dst v) w'):=by
 obtain ⟨h1,h2,h3⟩:=Oper.apart_spec Ie;unfold wq;rw [execOp_put y hs a x.dst v h1];have hc:∀ u,(a.put x.dst v).put y.dst u=(a.put y.dst u).put x.dst v:=fun u=>Act.put_comm a v u h2
 cases (execOp a.eval y).run P w with
 | halt h w'=>rfl
 | ok n w'=>cases n<;>simp [hc]
def Yl (P:Program) (ops:Array Oper) (C:World->Prop) (o:Oper) (v:Value) (a:Act):Prop:=
 (Region.wanted o (yielded ops a.tmps)=true/\∀ w,(qi o.op=true->C w)->(execOp a.eval o).run P w = .ok (.value v) w) ∨
 (Region.wanted o (yielded ops a.tmps)=false/\v=undef)
theorem Yl.same {x y:Oper} {v u:Value} (Ie:x.apart ops y=true) (hs:∀ cs b,y.op ≠ .select cs b) {a:Act}:Yl P ops C y v (a.put x.dst u)↔Yl P ops C y v a:=by
 obtain ⟨h1,h2,h3⟩:=Oper.apart_spec Ie;unfold Yl;rw [execOp_put y hs a x.dst u h1,wanted_put y a x.dst u h1]
def ez (P:Program) (ops:Array Oper) (o:Oper) (a:Act) (w:World) (K:Act->World->Prop):Prop:=
 if Region.wanted o (yielded ops a.tmps)=true then wq P o a w K else K (a.put o.dst undef) w
theorem fc {o:Oper} {a:Act} {w:World} {K K':Act->World->Prop} (hk:∀ a w,K a w->K' a w) (h:ez P ops o a w K):ez P ops o a w K':=by grind [ez,mL]
theorem tj {x y:Oper} {v:Value} (Ie:x.apart ops y=true) (hs:∀ cs b,y.op ≠ .select cs b) {a:Act} {w:World} {K:Act->World->Prop} :
  ez P ops y (a.put x.dst v) w K↔ez P ops y a w (fun a' w'=>K (a'.put x.dst v) w'):=by
 obtain ⟨h1,h2,h3⟩:=Oper.apart_spec Ie;unfold ez;rw [wanted_put y a x.dst v h1];split
 ·exact Yi Ie hs
 ·rw [Act.put_comm a v undef h2]
theorem Ps {o:Oper} {a:Act} {w:World} {K:Act->World->Prop} (h:ez P ops o a w K):∃ v w',K (a.put o.dst v) w':=by grind [ez,abr]
theorem qv {o:Oper} {a:Act} {w:World} {K:Act->World->Prop} (h:ez P ops o a w K):ez P ops o a w (fun a' w'=>K a' w' /\ ∃ u,a'=a.put o.dst u):=by grind [ez,wq]
theorem lg {o:Oper} {a:Act} {w:World} {v:Value} {K:Act->World->Prop} (hy:Yl P ops C o v a) (hc:qi o.op=true->C w) (hk:K (a.put o.dst v) w):ez P ops o a w K:=by
 unfold ez;rcases hy with ⟨hw,hv⟩ | ⟨hw,rfl⟩
 ·grind [wq]
 ·rw [ai (by simp [hw])];exact hk
theorem od {o:Oper} {a:Act} {w:World} {v:Value} {K:Act->World->Prop} (hy:Yl P ops C o v a) (hc:qi o.op=true->C w) (h:ez P ops o a w K):K (a.put o.dst v) w:=by
 unfold ez at h;rcases hy with ⟨hw,hv⟩ | ⟨hw,rfl⟩
 ·grind [wq]
 ·rw [ai (by simp [hw])] at h;exact h
def runT (P:Program) (ops:Array Oper) (W:Nat->Bool) (C:World->Prop) (Q:Act->World->Prop):List Nat->Act->World->Prop
 | [],a,w=>Q a w
 | i :: r,a,w=>
  match ops[i]? with
  | none=>False
  | some o=>
   if isE o.op=true then ez P ops o a w fun a' w'=>(W i=false->C w->C w')/\runT P ops W C Q r a' w'
   else ∃ v,Yl P ops C o v a/\(qi o.op=true->C w)/\runT P ops W C Q r (a.put o.dst v) w
def nG (ops:Array Oper) (W:Nat->Bool) (j i:Nat):Bool:=
 match ops[j]?,ops[i]? with
 | some x,some y=>x.apart ops y && y.apart ops x && !(isE x.op && isE y.op) && !(qi x.op && W i)
 | _,_=>false
def Pt (ops:Array Oper) (l:List Nat):Prop:=∃ i o,i∈l/\ops[i]? = some o/\qi o.op=true
theorem gY {j i:Nat} {x y:Oper} (h:nG ops W j i=true) (hj:ops[j]? = some x) (hi:ops[i]? = some y) :
  x.apart ops y=true/\y.apart ops x=true/\¬ (isE x.op=true/\isE y.op=true)/\¬ (qi x.op=true/\W i=true):=by
 unfold nG at h;rw [hj,hi] at h;simp only [aO,Bool.not_eq_true',Bool.and_eq_false_iff] at h;refine ⟨h.1.1.1,h.1.1.2,?_,?_⟩
 ·grind
 ·grind
theorem qw (j9:∀ (j:Nat) (o:Oper) cs b,ops[j]? = some o->o.op ≠ .select cs b) {i:Nat} {o:Oper} (hi:ops[i]? = some o) (hR:isE o.op=false) :
  ∀ (rem:List Nat) (a:Act) (w:World),runT P ops W C Q rem a w->i∈rem->(∀ j∈rem,j≠i->π j < π i->nG ops W j i=true)->rem.Pairwise (fun a b=>π a < π b)->∃ v,Yl P ops C o v a
 | [],_,_,_,hm,_,_=>by cases hm
 | h :: rem,a,w,hr,hm,MD,hp=>by
  simp only [runT] at hr;by_cases zS:h=i
  ·grind
  ·have rq:i∈rem:=by grind
   have aw:π h < π i:=(List.pairwise_cons.1 hp).1 i rq;split at hr
   ·exact hr.elim
   ·rename_i x hx;obtain ⟨Wb,ap2,_,_⟩:=gY (MD h (by simp) zS aw) hx hi;have ih:=fun a w hr=>qw j9 hi hR rem a w hr rq (fun j hj=>MD j (jD _ hj)) (List.pairwise_cons.1 hp).2
    grind [Ps,Yl.same]
theorem Ay {h:Nat} {rem:List Nat} (hl:Pt ops rem):Pt ops (h :: rem):=by
 obtain ⟨i,o,hm,ho,hL⟩:=hl;exact ⟨i,o,jD _ hm,ho,hL⟩
theorem kC (j9:∀ (j:Nat) (o:Oper) cs b,ops[j]? = some o->o.op ≠ .select cs b) (TC:∀ j i x y,π j < π i->ops[i]? = some x->ops[j]? = some y->qi x.op=true->W j=false) {i:Nat} {o:Oper} (hi:ops[i]? = some o) :
  ∀ (rem:List Nat) (a:Act) (w:World),(Pt ops rem->C w)->runT P ops W C Q rem a w->i∈rem->(∀ j∈rem,j≠i->π j < π i->nG ops W j i=true)->rem.Pairwise (fun a b=>π a < π b) ->
   ez P ops o a w (fun a' w'=>(W i=false->C w->C w')/\runT P ops W C Q (rem.erase i) a' w')
 | [],_,_,_,_,hm,_,_=>by cases hm
 | h :: rem,a,w,hC,hr,hm,MD,hp=>by
  by_cases zS:h=i
  ·grind [runT,lg]
  ·have rq:i∈rem:=by grind
   have aw:π h < π i:=(List.pairwise_cons.1 hp).1 i rq;have z7:=(List.pairwise_cons.1 hp).2;rw [List.erase_cons_tail (sU zS)];have hr0:=hr;simp only [runT] at hr;split at hr
   ·exact hr.elim
   ·rename_i x hx;obtain ⟨Wb,ap2,hEE,hLW⟩:=gY (MD h (by simp) zS aw) hx hi;have Wc:=fun cs b=>j9 h x cs b hx;have Pu:=fun cs b=>j9 i o cs b hi;have abu:∀ j∈rem,j≠i->π j < π i->nG ops W j i=true:=fun j hj=>MD j (jD _ hj);split at hr
    ·-- the head has an effect: so o has none
     rename_i hEx;have hRo:isE o.op=false:=by grind
     obtain ⟨v,hy⟩:=qw (π:=π) j9 hi hRo (h :: rem) a w hr0 hm MD hp;have hci:qi o.op=true->C w:=fun hL=>hC ⟨i,o,hm,hi,hL⟩;refine lg hy hci ⟨fun _ h=>h,?_⟩;simp only [runT,hx,hEx,if_true];refine (tj ap2 Wc).2 ?_;refine fc ?_ (qv hr);rintro a' w' ⟨⟨Cv,mP⟩,u,rfl⟩;refine ⟨Cv,?_⟩
     have hC':Pt ops rem->C w':=by
      intro hl;have xf:=hl;obtain ⟨l,z,hlm,hz,hL⟩:=hl;exact Cv (TC h l z x ((List.pairwise_cons.1 hp).1 l hlm) hz hx hL) (hC (Ay xf))
     have ih:=kC j9 TC hi rem _ w' hC' mP rq abu z7;have fW:=(Yl.same (u:=u) Wb Pu).2 hy
     grind [od]
    ·rename_i hEx;obtain ⟨v,hy,hc,mP⟩:=hr;have ih:=kC j9 TC hi rem (a.put x.dst v) w (fun hl=>hC (Ay hl)) mP rq abu z7;refine fc ?_ (qv ((tj Wb Pu).1 ih))
     grind [runT,Yl.same]
def ordB (ops:Array Oper):Nat->Nat->Nat->Bool
 | 0,_,_=>false
 | n + 1,j,i=>
  match ops[i]? with
  | some o=>o.after.toList.any fun e=>Region.binds .any e && (Nat.beq e.on j || ordB ops n j e.on)
  | none=>false
def vy (ops:Array Oper) (W:Nat->Bool) (π:Nat->Nat):Bool:=
 Region.noSelect ops &&
 (List.range ops.size).all fun i=>
  match ops[i]? with
   | some o=>o.after.toList.all (fun e=>!Region.binds .any e || (Nat.blt (π e.on) (π i) && Nat.blt e.on ops.size)) && (!qi o.op || (List.range ops.size).all fun j=>!Nat.blt (π j) (π i) || !W j)
   | none=>false
def EN (ops:Array Oper) (W:Nat->Bool) (π:Nat->Nat) (ex:Nat->Nat->Bool):Bool:=
 (List.range ops.size).all fun i=>(List.range ops.size).all fun j=>!Nat.blt (π j) (π i) || ex j i || ordB ops ops.size j i || nG ops W j i
def abv:Nat->Nat->Bool:=fun _ _=>false
def Ig (ops:Array Oper) (W:Nat->Bool):Bool:=vy ops W (fun i=>i) && EN ops W (fun i=>i) abv
def Dn (ops:Array Oper) (bo:Array Bool):Prop:=
 ∀ i o,ops[i]? = some o->bo.getD i true=true->∀ e∈o.after,Region.binds .any e=true->bo.getD e.on false=true
theorem oe {bo:Array Bool} (hd:Dn ops bo):∀ (n:Nat) (j i:Nat) (o:Oper),ops[i]? = some o->(∀ e∈o.after,Region.binds .any e=true->bo.getD e.on false=true)->ordB ops n j i=true->bo.getD j false=true
 | 0,j,i,o,_,_,h=>by simp [ordB] at h
 | n + 1,j,i,o,ho,iO,h=>by
  simp only [ordB,ho,List.any_eq_true,aO,Bool.or_eq_true] at h;obtain ⟨e,he,hb,hj⟩:=h;have Ih:e∈o.after:=sU he;have h1:=iO e Ih hb;rcases hj with hj | hj
  ·have:e.on=j:=sU hj;rw [<- this];exact h1
  ·cases Yj:ops[e.on]? with
   | none=>
    cases n with
    | zero=>simp [ordB] at hj
    | succ n=>simp [ordB,Yj] at hj
   | some o'=>
    have hg:bo.getD e.on true=true:=by grind
    exact oe hd n j e.on o' Yj (hd e.on o' Yj hg) hj
theorem Cw (hc:vy ops W π=true):∀ j i x y,π j < π i->ops[i]? = some x->ops[j]? = some y->qi x.op=true->W j=false:=by
 simp only [vy,aO,List.all_eq_true,List.mem_range] at hc;intro j i x y X5 hx hy hL;have hj:=(Array.getElem?_eq_some_iff.1 hy).1;have:=hc.2 i (Array.getElem?_eq_some_iff.1 hx).1;simp only [hx,aO,Bool.or_eq_true,hL,Bool.not_true,Bool.false_eq_true,false_or,List.all_eq_true,List.mem_range,Bool.not_eq_true'] at this;rcases this.2 j hj with h1 | h1
 ·have:¬ Nat.blt (π j) (π i)=true:=by simp [h1]
  simp at this;omega
 ·exact h1
theorem Az (hc:vy ops W π=true):∀ i x,ops[i]? = some x->∀ e∈x.after,Region.binds .any e=true->π e.on < π i/\e.on < ops.size:=by
 simp only [vy,aO,List.all_eq_true,List.mem_range] at hc;intro i x hx e he hb;have:=hc.2 i (Array.getElem?_eq_some_iff.1 hx).1;simp only [hx,aO,List.all_eq_true,Bool.or_eq_true] at this;have h2:=this.1 e (sU he);rw [hb] at h2;simpa using h2
theorem EO (hc:vy ops W π=true):∀ (j:Nat) (o:Oper) cs b,ops[j]? = some o->o.op ≠ .select cs b:=by
 simp only [vy,aO] at hc;exact Region.noSelect_spec hc.1
theorem Cx:∀ {l:List Nat},l.Pairwise (fun a b=>π a < π b)->∀ {x y:Nat},x∈l->y∈l->x≠y->π x < π y∨π y < π x
 | [],_,x,y,hx,_,_=>by cases hx
 | h :: r,hp,x,y,hx,hy,aY=>by
  have z7:=List.pairwise_cons.1 hp;rcases dB hx with e1 | e1
  ·grind
  ·rcases dB hy with e2 | e2
   ·subst e2;exact .inr (z7.1 _ e1)
   ·exact Cx z7.2 e1 e2 aY
theorem qx {Q':Exit->Act->World->Prop} (ex:Nat->Nat->Bool) (hcO:vy ops W π=true) (hcS:EN ops W π ex=true) (hQ:∀ a w,Q a w->Q' .normal a w):∀ (lT:Nat) (bo:Array Bool) (rem:List Nat) (a:Act) (w:World),
  bo.size=ops.size->Dn ops bo->(∀ i,i∈rem↔i < ops.size/\bo.getD i true=false)->rem.Pairwise (fun a b=>π a < π b)->rem.length<=lT->(∀ j∈rem,∀ i∈rem,ex j i=false)->(Pt ops rem->C w)->runT P ops W C Q rem a w ->
   wpAny P .any ops Q' lT bo a w:=by
 have j9:=EO hcO;have TC:=Cw hcO;have Pv:=Az hcO;simp only [EN,List.all_eq_true,List.mem_range,Bool.or_eq_true,Bool.not_eq_true'] at hcS;intro lT
 induction lT with
 | zero=>
  intro bo rem a w cf hdn vz hp hlen hex hC hr;have:rem=[]:=List.length_eq_zero_iff.1 (by omega);subst this;refine ⟨?_,hQ _ _ hr⟩;rw [List.eq_nil_iff_forall_not_mem];intro i hi;have:=(mem_ready.1 hi)
  grind
 | succ lT ih=>
  intro bo rem a w cf hdn vz hp hlen hex hC hr
  have Yk:∀ i,i∈Region.ready .any ops bo->i∈rem:=by
   intro i hi;obtain ⟨h1,o,ho,_⟩:=mem_ready.1 hi
   grind
  refine ⟨fun h0=>?_,fun i hi=>?_⟩
  ·cases rem with
   | nil=>exact hQ _ _ hr
   | cons h rem=>
    have hh:=(vz h).1 (by simp);have hx:ops[h]? = some ops[h]:=Array.getElem?_eq_getElem hh.1
    have:h∈Region.ready .any ops bo:=by
     refine mem_ready.2 ⟨hh.2,_,hx,fun e he hb=>?_⟩;obtain ⟨aw,Ii⟩:=Pv h _ hx e he hb;cases hg:bo.getD e.on false
     ·have KU:bo.getD e.on true=false:=by grind
      have hm:=(vz e.on).2 ⟨by omega,KU⟩;rcases dB hm with e1 | e1
      ·rw [e1] at aw;omega
      ·have:=(List.pairwise_cons.1 hp).1 _ e1;omega
     ·rfl
    rw [h0] at this;cases this
  ·have vA:=Yk i hi;obtain ⟨Wf,o,ho,iO⟩:=mem_ready.1 hi;have ik:=(Array.getElem?_eq_some_iff.1 ho).1
   have MD:∀ j∈rem,j≠i->π j < π i->nG ops W j i=true:=by
    intro j hj _ aw;rcases hcS i ik j ((vz j).1 hj).1 with ((h1 | h1) | h1) | h1
    ·have:¬ Nat.blt (π j) (π i)=true:=by simp [h1]
     simp at this;omega
    ·rw [hex j hj i vA] at h1;cases h1
    ·grind [oe]
    ·exact h1
   have bd:=kC j9 TC ho rem a w hC hr vA MD hp;have hnd:rem.Nodup:=q8 hp
   have key:∀ a' w',((W i=false->C w->C w')/\runT P ops W C Q (rem.erase i) a' w')->wpAny P .any ops Q' lT (bo.setIfInBounds i true) a' w':=by
    rintro a' w' ⟨Cv,mP⟩;refine ih (bo.setIfInBounds i true) (rem.erase i) a' w' (by simp [cf]) ?_ ?_ (hp.sublist List.erase_sublist) (by rw [List.length_erase_of_mem vA];omega) (fun j hj i hi=>hex j (List.mem_of_mem_erase hj) i (List.mem_of_mem_erase hi)) ?_ mP
    ·intro k x hx hk e he hb;by_cases uJ:k=i
     ·subst uJ;rw [ho] at hx;simp only [oI] at hx;subst hx;exact getD_set_true (iO e he hb)
     ·rw [getD_set_ne true (Ne.symm uJ)] at hk;exact getD_set_true (hdn k x hx hk e he hb)
    ·intro k;rw [List.Nodup.mem_erase_iff hnd];by_cases uJ:k=i
     ·subst uJ;simp [cf,ik]
     ·rw [getD_set_ne true (Ne.symm uJ)]
      grind
    ·rintro ⟨l,z,hl,hz,hL⟩;have xf:=List.mem_of_mem_erase hl;have aY:l≠i:=fun e=>by subst e;exact (List.Nodup.mem_erase_iff hnd).1 hl |>.1 rfl
     have Ym:=hC ⟨l,z,xf,hz,hL⟩;refine Cv ?_ Ym;rcases Nat.lt_or_ge (π i) (π l) with h1 | h1
     ·exact TC i l z o h1 hz ho hL
     ·have h0:π l≠π i:=by
       intro he;rcases Cx hp xf vA aY with h2 | h2<;>omega
      have:=MD l xf aY (by omega);obtain ⟨_,_,_,h4⟩:=gY this hz ho
      grind
   unfold wpOp
   grind [ez,ED,mL]
theorem jC {id:Nat} {Q':Exit->Act->World->Prop} {a:Act} {w:World} (hm:P.follows .mixedOrders=true) (hc:Ig ops W=true) (hQ:∀ a w,Q a w->Q' .normal a w)
  (hC:C w.drew) (h:runT P ops W C Q (List.range ops.size) a w.drew):(Code.region id ops true).wp P Q' a w:=by
 refine wp_region_any hm ?_;simp only [Ig,aO] at hc;refine qx (π:=fun i=>i) abv hc.1 hc.2 hQ ops.size (Array.replicate ops.size false) (List.range ops.size) a _ (by simp) ?_ ?_ List.pairwise_lt_range (by simp) (fun _ _ _ _=>rfl) (fun _=>hC) h
 ·intro i o ho hl;have:i < ops.size:=(Array.getElem?_eq_some_iff.1 ho).1;simp [this] at hl
 ·simp_all
end
end Dv
end Go.Proofs.YtgjagnmeonoehaaGreat
namespace Go.Proofs.YtgjagnmeonoehaaGreat
namespace Dv
open Go Go.RowKit
structure Dr where
 ops:Array Oper
 W:Nat->Bool
 k:List It
 kZ:St
 fin:Option (Bool->List (Nat × Sl)->St->Prop)
structure Dw where
 d:Dr
 E0:En
 wr:World
structure CC (E0:En) (bx:List (List DV)) (wr w:World):Prop where
 o:∀ (i:Nat) b cs,E0.β[i]? = some b->bx[i]? = some cs->cs ≠ []->w.heap[b]? = wr.heap[b]?
 c:∀ x v,E0.c x=some v->w.cell? x=some v
abbrev Dw.C (D:Dw) (w:World):Prop:=CC D.E0 D.d.kZ.bx D.wr w
structure vB (E:En) (bx:List (List DV)) (w:World):Prop where
 len:E.β.length=bx.length
 ey:∀ (i:Nat) cs,bx[i]? = some cs->cs ≠ []->∃ b ty arr,E.β[i]? = some b/\w.heap[b]? = some (.cells (List.toArray arr) ty (0,0))/\RvC E cs arr
theorem Env.em {E:En} {bx:List (List DV)} {w:World} (h:Env E bx w):vB E bx w:=⟨h.len,fun i cs hi _=>h.ey i cs hi⟩
def abw:Option (List DV)->Bool
 | some []=>true
 | _=>false
theorem Ue {o:Option (List DV)} (h:abw o=true):o=some []:=by
 cases o with
 | none=>cases h
 | some l=>
  cases l with
  | nil=>rfl
  | cons _ _=>cases h
def Dw.wc (D:Dw) (E:En):En:=⟨D.E0.c,E.β,E.tk,E.τ⟩
structure fX (X:Ctx) (D:Dw) (c:Bool) (E:En) (s0:List (Nat × Sl)) (st:St) (a:Act) (w:World):Prop where
 rel:Rel X E st a w
 x:Ext D.E0 E
 β:∃ r,E.β=D.E0.β ++ r
 t0:∀ i x,get s0 i=some x->(Holds a.tmps x.gs->∃ v,a.tmps[i]? = some v/\Rv (D.wc E) x.s v)/\(¬ Holds a.tmps x.gs->a.tmps[i]? = some undef)
 cc:c=true->D.C w
def Dw.Q (D:Dw) (X:Ctx) (a:Act) (w:World):Prop:=
 match D.d.fin with
 | none=>kq X D.d.k .normal a w
 | some F=>∃ c E s0 st,fX X D c E s0 st a w/\F c s0 st
def delF {γ:Type _} (d:Nat):List (Nat × Sl)->(List (Nat × Sl)->γ)->γ
 | [],K=>K []
 | p :: r,K=>
  match Nat.beq p.1 d with
  | true=>delF d r K
  | false=>delF d r (fun r'=>K (p :: r'))
theorem rB {γ:Type _} (d:Nat):∀ (l:List (Nat × Sl)) (K:List (Nat × Sl)->γ),delF d l K=K (l.filter fun p=>!Nat.beq p.1 d)
 | [],K=>rfl
 | p :: r,K=>by
  simp only [delF,List.filter_cons];cases h:Nat.beq p.1 d
  ·simp only [Bool.not_false,if_true];rw [rB d r]
  ·simp only [Bool.not_true,Bool.false_eq_true,if_false];rw [rB d r K]
theorem get_filter (d:Nat):∀ (l:List (Nat × Sl)) (i:Nat) (x:Sl),get (l.filter fun p=>!Nat.beq p.1 d) i=some x->i≠d/\get l i=some x
 | [],i,x,h=>by cases h
 | (k,y) :: r,i,x,h=>by
  simp only [List.filter_cons] at h;split at h
  ·rename_i hk
   have hk:k≠d:=by
    rintro rfl;simp at hk
   simp only [dG] at h ⊢;split at h
   ·grind
   ·rename_i uJ;rw [ai uJ];exact get_filter d r i x h
  ·rename_i hk;have hk:k=d:=sU hk;obtain ⟨h1,h2⟩:=get_filter d r i x h
   grind [dG]
def scal:DV->Bool
 | .v _=>true
 | .ud=>true
 | .loc _ _=>true
 | .el _ _=>true
 | _=>false
def put2 (s0:List (Nat × Sl)) (st:St) (dst:Option Nat) (b:Bool) (gs:List (Nat × Bool)) (s:DV) (K:List (Nat × Sl)->St->Prop):Prop:=
 match dst with
 | none=>K s0 st
 | some d=>
  match st with
  | ⟨sl,bx,tk⟩=>
   match b || scal s with
   | true=>K ((d,⟨gs,s⟩) :: s0) ⟨(d,⟨gs,s⟩) :: sl,bx,tk⟩
   | false=>delF d s0 fun jS=>K jS ⟨(d,⟨gs,s⟩) :: sl,bx,tk⟩
def optP:Option Prop->Prop
 | some p=>p
 | none=>False
def pR (X:Ctx) (D:Dr) (c:Bool) (s0:List (Nat × Sl)) (st:St) (G:List (Nat × Bool)) (op:Op):Option (Bool × DV):=
 match !isE op && (!qi op || c) with
 | false=>none
 | true=>
  match pureT X.P X.T ⟨s0,D.kZ.bx,[]⟩ G op with
  | some s=>some (true,s)
  | none=>
   match qi op with
   | true=>none
   | false=>
    match pureT X.P X.T ⟨st.sl,[],[]⟩ G op with
    | some s=>some (false,s)
    | none=>none
def eR (X:Ctx) (D:Dr) (c:Bool) (s0:List (Nat × Sl)) (st:St) (op:Op) (K:Bool->DV->Prop):Option Prop:=
 match isE op with
 | true=>none
 | false=>
  match qi op with
  | true=>
   match c with
   | true=>effR X ⟨s0,D.kZ.bx,[]⟩ op (K true)
   | false=>none
  | false=>
   match effR X ⟨s0,[],[]⟩ op (K true) with
   | some p=>some p
   | none=>effR X ⟨st.sl,[],[]⟩ op (K false)
def xg (X:Ctx) (D:Dr) (c:Bool) (i:Nat) (l:List (Nat × Oper)) (f:FuncId) (args:List DV) (dst:Option Nat) (s0:List (Nat × Sl)) (st:St):Prop:=
 Go.Proofs.Enters X.P f/\((∀ p∈l,D.ops[p.1]? = some p.2)->∀ (E0:En) (wr:World),vB E0 D.kZ.bx wr->∀ E a w vs,fX X ⟨D,E0,wr⟩ c E s0 st a w->RvL E args vs->Calls X.P f vs.toArray w fun e w'=>∃ v,e = .returned v /\
  (D.W i=false->CC E0 D.kZ.bx wr w->CC E0 D.kZ.bx wr w')/\runT X.P D.ops D.W (CC E0 D.kZ.bx wr) (Dw.Q ⟨D,E0,wr⟩ X) (l.map (·.1)) (a.put dst v) w')
def OpD (X:Ctx) (D:Dr) (c:Bool) (i:Nat) (l:List (Nat × Oper)) (o:Oper) (s0:List (Nat × Sl)) (st:St):Prop:=
 (∀ p∈l,D.ops[p.1]? = some p.2)->∀ (E0:En) (wr:World),vB E0 D.kZ.bx wr->∀ E a w,fX X ⟨D,E0,wr⟩ c E s0 st a w->wq X.P o a w fun a' w'=>
  (D.W i=false->CC E0 D.kZ.bx wr w->CC E0 D.kZ.bx wr w')/\runT X.P D.ops D.W (CC E0 D.kZ.bx wr) (Dw.Q ⟨D,E0,wr⟩ X) (l.map (·.1)) a' w'
def effE (X:Ctx) (D:Dr) (c:Bool) (i:Nat) (l:List (Nat × Oper)) (o:Oper) (s0:List (Nat × Sl)) (st:St) (K:Bool->List (Nat × Sl)->St->Prop):Prop:=
 match o.op with
 | .store t x y=>
  match o.dst with
  | some _=>False
  | none=>
   match D.W i with
   | true=>optP (effC X st o (K false s0))
   | false=>
    match stObj st o.op with
    | some j=>
     match Nat.ble D.kZ.bx.length j || abw D.kZ.bx[j]? with
     | true=>optP (effC X st o (K c s0))
     | false=>False
    | none=>False
 | .call cl=>
  match cl.callee with
  | .value f=>
   match rv st [] f,argsV st [] cl.args.toList with
   | some (.fn g first captured),some vs=>xg X D c i l g (first ++ vs ++ captured) o.dst s0 st
   | _,_=>False
  | _=>
   match o.dst with
   | some d=>optP (effC X st o fun st'=>delF d s0 fun jS=>K c jS st')
   | none=>False
 | _=>
  match o.dst with
  | some d=>
   match effC X st o fun st'=>
    match get st'.sl d with
    | some ⟨[],.loc j off⟩=>K c ((d,⟨[],.loc j off⟩) :: s0) st'
    | _=>delF d s0 fun jS=>K c jS st' with
   | some p=>p
   | none=>OpD X D c i l o s0 st
  | none=>False
def goD (X:Ctx) (D:Dr):Nat->Bool->List (Nat × Oper)->List (Nat × Sl)->St->Prop
 | _,c,[],s0,st=>
  match D.fin with
  | none=>go X 4000 D.k st
  | some F=>F c s0 st
 | 0,_,_ :: _,_,_=>False
 | n + 1,c,(i,o) :: r,s0,st=>
  match ep X.nt st.sl o.dst && ep X.nt s0 o.dst with
  | false=>False
  | true=>
   match o.guard with
   | none=>
    match isE o.op with
    | true=>effE X D c i r o s0 st fun c' jS st'=>goD X D n c' r jS st'
    | false=>
     match pR X D c s0 st [] o.op with
     | some (b,s)=>put2 s0 st o.dst b [] s (goD X D n c r)
     | none=>optP (eR X D c s0 st o.op fun b s=>put2 s0 st o.dst b [] s (goD X D n c r))
   | some (j,want)=>
    match gslot D.ops.toList j with
    | none=>False
    | some d=>
     match get st.sl d with
     | none=>False
     | some ⟨mz,_⟩=>
      match pR X D c s0 st ((d,want) :: mz) o.op with
      | some (b,s)=>
       match okG ((d,want) :: mz) o.dst with
       | true=>put2 s0 st o.dst b ((d,want) :: mz) s (goD X D n c r)
       | false=>False
      | none=>
       match get st.sl (lastG (d,want) mz).1 with
       | some ⟨[],.v (.bool b)⟩=>
        match mz with
        | []=>Br (b == want)
          (zY st d want fun ME=>resL d want s0 fun s2=>
           match isE o.op with
           | true=>effE X D c i r o s2 ME fun c' jS st'=>goD X D n c' r jS st'
           | false=>optP (eR X D c s2 ME o.op fun b s=>put2 s2 ME o.dst b [] s (goD X D n c r)))
          (match !qi o.op || c with
           | true=>zY st d (!want) fun ME=>resL d (!want) s0 fun s2=>put2 s2 ME o.dst true [] .ud (goD X D n c r)
           | false=>False)
        | _ :: _=>Br (b == (lastG (d,want) mz).2)
          (zY st (lastG (d,want) mz).1 (lastG (d,want) mz).2 fun ME=>resL (lastG (d,want) mz).1 (lastG (d,want) mz).2 s0 fun s2=>goD X D n c ((i,o) :: r) s2 ME)
          (zY st (lastG (d,want) mz).1 (!(lastG (d,want) mz).2) fun ME=>resL (lastG (d,want) mz).1 (!(lastG (d,want) mz).2) s0 fun s2=>goD X D n c ((i,o) :: r) s2 ME)
       | some ⟨[],.ud⟩=>
        match mz with
        | []=>
         match !qi o.op || c with
         | true=>put2 s0 st o.dst true [] .ud (goD X D n c r)
         | false=>False
        | _ :: _=>False
       | _=>False
section
variable {X:Ctx} {D:Dw} {c:Bool} {i:Nat} {s0:List (Nat × Sl)} {st:St} {E:En} {a:Act} {w:World}
theorem Yn (h:Ext D.E0 E):Ext D.E0 (D.wc E):=⟨fun _ _ h=>h,h.β,h.tk⟩
theorem Ij (h:Ext D.E0 E):Ext (D.wc E) E:=⟨h.c,fun _ _ h=>h,fun k q hq=>⟨q,hq,.inl ⟨rfl,rfl⟩⟩⟩
theorem KV {E':En} (h:Ext E E'):Ext (D.wc E) (D.wc E'):=⟨fun _ _ h=>h,h.β,h.tk⟩
theorem fX.rl0 (h:fX X D c E s0 st a w) (hD:vB D.E0 D.d.kZ.bx D.wr):Rl (D.wc E) D.d.kZ.bx D.C s0 a where
 tm:=h.t0
 ey:=fun i cs hi=>by
  by_cases aY:cs=[]
  ·subst aY;have aw:i < D.E0.β.length:=by rw [hD.len];exact (gS hi).1
   exact ⟨_,[],h.x.β i _ (gE aw),⟨cS _,by simp⟩,fun w' _ j u hj=>by simp at hj⟩
  ·obtain ⟨b,ty,arr,hb,hw,hc⟩:=hD.ey i cs hi aY;exact ⟨b,arr,h.x.β i b hb,hc.mono (Yn h.x),fun w' hC j u hj=>by rw [cL ((hC.o i b cs hb hi aY).trans hw)];simpa using hj⟩
 cc:=fun x v hx w' hC=>hC.c x v hx
theorem fX.rlE (h:fX X D c E s0 st a w):Rl E [] (fun w'=>∀ x v,E.c x=some v->w'.cell? x=some v) st.sl a where
 tm:=h.rel.tm
 ey:=fun i cs hi=>by simp at hi
 cc:=fun x v hx w' hC=>hC x v hx
theorem KW {s:DV} {v:Value} (hs:scal s=true) (hv:Rv E s v):Rv (D.wc E) s v:=by
 cases s<;>simp [scal] at hs
 ·unfold Rv at hv ⊢;exact hv
 ·unfold Rv at hv ⊢;exact hv
 ·unfold Rv at hv ⊢;exact hv
 ·unfold Rv at hv ⊢;exact hv
theorem jH (h:fX X D c E s0 st a w) {dst:Option Nat} (hd:(ep X.nt st.sl dst && ep X.nt s0 dst)=true) (b:Bool) (gs:List (Nat × Bool)) (s:DV) (v:Value) (Mv:∀ d,dst=some d->∀ p∈gs,p.1≠d)
  (vW:Holds a.tmps gs->Rv E s v) (pj:b=true->Holds a.tmps gs->Rv (D.wc E) s v) (Tv:¬ Holds a.tmps gs->v=undef) {K:List (Nat × Sl)->St->Prop} (hk:put2 s0 st dst b gs s K) :
  ∃ jS st',K jS st' /\ fX X D c E jS st' (a.put dst v) w:=by
 simp only [aO] at hd;have h1:=rr h.rel hd.1 gs s v Mv vW Tv
 cases dst with
 | none=>exact ⟨s0,st,hk,h1,h.x,h.β,h.t0,h.cc⟩
 | some d=>
  obtain ⟨sl,bx,tk⟩:=st;have MF:=hd.2;simp only [ep,aO,Nat.blt_eq] at MF
  have hold:∀ i x,i≠d->get s0 i=some x->(Holds (a.put (some d) v).tmps x.gs->∃ u,(a.put (some d) v).tmps[i]? = some u/\Rv (D.wc E) x.s u)/\(¬ Holds (a.put (some d) v).tmps x.gs->(a.put (some d) v).tmps[i]? = some undef):=by
   intro i x hi hx;simp only [Act.put];rw [Array.getElem?_setIfInBounds_ne (Ne.symm hi),lN (mI MF.2 i x hx)];exact h.t0 i x hx
  simp only [put2] at hk;split at hk
  ·rename_i hb;refine ⟨_,_,hk,h1,h.x,h.β,fun i x hx=>?_,h.cc⟩;simp only [dG] at hx;split at hx
   ·rename_i Ew;subst Ew;simp only [oI] at hx;subst hx;have h2:(a.tmps.setIfInBounds d v)[d]? = some v:=by simp [Array.getElem?_setIfInBounds,h.rel.sz,MF.1]
    simp only [Act.put]
    grind [lN,KW]
   all_goals grind
  ·rw [rB] at hk;refine ⟨_,_,hk,h1,h.x,h.β,fun i x hx=>?_,h.cc⟩;obtain ⟨h3,h4⟩:=get_filter d s0 i x hx;exact hold i x h3 h4
theorem mQ (h:fX X D c E s0 st a w) {d:Nat} {b:Bool} (hd:a.tmps[d]? = some (.bool b)):fX X D c E (s0.map (bW d b)) (st.resolve d b) a w where
 rel:=la h.rel hd
 x:=h.x
 β:=h.β
 t0:=by
  intro i y hy;simp only [get_map,Option.map_eq_some_iff] at hy;obtain ⟨x,hx,rfl⟩:=hy;have ht:=h.t0 i x hx;unfold bW;split
  ·rename_i hi;have ik:i=d:=sU hi;subst ik;exact ⟨fun _=>⟨_,hd,gA rfl⟩,fun hn=>(hn (bz _)).elim⟩
  ·split
   ·grind [Holds,uH,bz]
   ·have he:Holds a.tmps (x.gs.filter fun p=>p != (d,b))↔Holds a.tmps x.gs:=by
     constructor
     ·intro hh p hp;by_cases OJ:p=(d,b)
      ·subst OJ;exact hd
      ·exact hh p (by simp [List.mem_filter,hp,OJ])
     ·intro hh p hp;exact hh p (List.mem_filter.1 hp).1
    simp only [he];exact ht
 cc:=h.cc
theorem rC {nt d:Nat} {b:Bool} {dst:Option Nat} (h:(ep nt st.sl dst && ep nt s0 dst)=true):(ep nt (st.resolve d b).sl dst && ep nt (s0.map (bW d b)) dst)=true:=by
 simp only [aO] at h ⊢;exact ⟨ld h.1,ld (st:=⟨s0,[],[]⟩) h.2⟩
theorem EP (hD:vB D.E0 D.d.kZ.bx D.wr) (h:fX X D c E s0 st a w) {G:List (Nat × Bool)} (hG:Holds a.tmps G) {o:Oper} {b:Bool} {s:DV} (hp:pR X D.d c s0 st G o.op=some (b,s)) :
  isE o.op=false/\(qi o.op=true->c=true)/\∃ v,Rv E s v/\(b=true->Rv (D.wc E) s v)/\∀ w,(qi o.op=true->D.C w)->(execOp a.eval o).run X.P w = .ok (.value v) w:=by
 unfold pR at hp;split at hp
 ·cases hp
 ·rename_i hc;simp only [aO,Bool.not_eq_true',Bool.or_eq_true] at hc;refine ⟨hc.1,fun hL=>?_,?_⟩
  ·grind
  ·split at hp
   ·rename_i s' hs;simp only [oI,Prod.mk.injEq] at hp;obtain ⟨rfl,rfl⟩:=hp;obtain ⟨v,hv,hr⟩:=jg (st:=⟨s0,D.d.kZ.bx,[]⟩) X.hT (h.rl0 hD) hG hs;exact ⟨v,Rv.mono (Ij h.x) hv,fun _=>hv,hr⟩
   ·split at hp
    ·cases hp
    ·rename_i hL;split at hp
     ·rename_i s' hs;simp only [oI,Prod.mk.injEq] at hp;obtain ⟨rfl,rfl⟩:=hp;obtain ⟨v,hv,hr⟩:=jg (st:=⟨st.sl,[],[]⟩) X.hT h.rlE hG hs
      grind
     ·cases hp
theorem Pw (hD:vB D.E0 D.d.kZ.bx D.wr) (h:fX X D c E s0 st a w) {o:Oper} {K:Bool->DV->Prop} (hp:optP (eR X D.d c s0 st o.op K)) :
  isE o.op=false/\(qi o.op=true->c=true)/\∃ b s v,K b s/\Rv E s v/\(b=true->Rv (D.wc E) s v)/\∀ w,(qi o.op=true->D.C w)->(execOp a.eval o).run X.P w = .ok (.value v) w:=by
 unfold eR at hp;split at hp
 ·exact hp.elim
 ·rename_i hE;refine ⟨hE,?_⟩;split at hp
  ·rename_i hL;split at hp
   ·refine ⟨fun _=>rfl,?_⟩
    cases hs:effR X ⟨s0,D.d.kZ.bx,[]⟩ o.op (K true) with
    | none=>rw [hs] at hp;exact hp.elim
    | some p=>
     rw [hs] at hp;obtain ⟨s,hk,v,hv,hr⟩:=mK (st:=⟨s0,D.d.kZ.bx,[]⟩) (h.rl0 hD) hs hp;exact ⟨true,s,v,hk,Rv.mono (Ij h.x) hv,fun _=>hv,hr⟩
   ·exact hp.elim
  ·rename_i hL;have iA:∀ w':World,qi o.op=true->False:=fun w' h1=>by rw [hL] at h1;cases h1
   refine ⟨fun h1=>(by rw [hL] at h1;cases h1),?_⟩;split at hp
   ·rename_i p hs;obtain ⟨s,hk,v,hv,hr⟩:=mK (st:=⟨s0,[],[]⟩) (C:=D.C) ⟨h.t0,fun i cs hi=>by simp at hi,(h.rl0 hD).cc⟩ hs hp;exact ⟨true,s,v,hk,Rv.mono (Ij h.x) hv,fun _=>hv,fun w' _=>hr w' fun h1=>(iA w' h1).elim⟩
   ·cases hs:effR X ⟨st.sl,[],[]⟩ o.op (K false) with
    | none=>rw [hs] at hp;exact hp.elim
    | some p=>
     rw [hs] at hp;obtain ⟨s,hk,v,hv,hr⟩:=mK (st:=⟨st.sl,[],[]⟩) h.rlE hs hp
     grind
theorem Uf {P:Program} {o:Oper} {K:Act->World->Prop} (h:wq P o a w K):wq P o a w fun a' w'=>K a' w' /\ ∃ u,a'=a.put o.dst u:=by grind [wq]
theorem EQ (h:fX X D c E s0 st a w) {t:Option Nat} {E':En} {st':St} {a':Act} {w':World} (hs:Stp t E w E' w') (hr:Rel X E' st' a' w') (ht:∀ j,t=some j->D.E0.β.length<=j∨D.d.kZ.bx[j]? = some []):D.C w->D.C w':=fun hC=>
 ⟨fun i b cs hb hcs aY=>by
  have j1:=h.x.β i b hb
  rw [hs.o i _ j1 fun e=>by
   rcases ht i e with h1 | h1
   ·have:=(gS hb).1;omega
   ·rw [hcs] at h1;simp only [oI] at h1;exact aY h1]
  exact hC.o i b cs hb hcs aY,fun x v hx=>hr.env.sub x v (hs.x.c x v (h.x.c x v hx))⟩
theorem rD (h:fX X D c E s0 st a w) {t:Option Nat} {E':En} {st':St} {w':World} {c':Bool} {jS:List (Nat × Sl)} {dst:Option Nat} {u:Value} (hs:Stp t E w E' w') (hr:Rel X E' st' (a.put dst u) w') (vx:c'=true->D.C w')
  (ht0:∀ i x,get jS i=some x->(∃ d,dst=some d/\i=d/\scal x.s=true/\get st'.sl d=some x)∨(get s0 i=some x/\∀ d,dst=some d->i≠d)) (hd:ep X.nt s0 dst=true):fX X D c' E' jS st' (a.put dst u) w' where
 rel:=hr
 x:=by
  refine ⟨fun y v hy=>hs.x.c y v (h.x.c y v hy),fun j b hb=>hs.x.β j b (h.x.β j b hb),fun k q hq=>?_⟩;obtain ⟨q1,h1,h2⟩:=h.x.tk k q hq;obtain ⟨q2,h3,h4⟩:=hs.x.tk k q1 h1
  grind
 β:=by
  obtain ⟨r1,h1⟩:=h.β;obtain ⟨r2,h2⟩:=hs.β
  grind
 t0:=fun i x hx=>by
  rcases ht0 i x hx with ⟨d,rfl,rfl,Mz,hg⟩ | ⟨hg,aY⟩
  ·have:=hr.tm _ _ hg
   grind [KW]
  ·have h1:=h.t0 i x hg
   cases dst with
   | none=>
    refine ⟨fun hh=>?_,h1.2⟩;obtain ⟨v,h2,h3⟩:=h1.1 hh;exact ⟨v,h2,Rv.mono (KV hs.x) h3⟩
   | some d=>
    simp only [ep,aO,Nat.blt_eq] at hd;simp only [Act.put];rw [Array.getElem?_setIfInBounds_ne (Ne.symm (aY d rfl)),lN (mI hd.2 i x hg)];refine ⟨fun hh=>?_,h1.2⟩;obtain ⟨v,h2,h3⟩:=h1.1 hh;exact ⟨v,h2,Rv.mono (KV hs.x) h3⟩
 cc:=vx
def abx (X:Ctx) (D:Dw) (l:List Nat) (G:Bool->List (Nat × Sl)->St->Prop):Prop:=∀ c s0 st,G c s0 st->∀ E a w,fX X D c E s0 st a w->runT X.P D.d.ops D.d.W D.C (D.Q X) l a w
theorem Ik (hD:vB D.E0 D.d.kZ.bx D.wr) {l:List (Nat × Oper)} (hl:∀ p∈l,D.d.ops[p.1]? = some p.2) {G:Bool->List (Nat × Sl)->St->Prop} (hG:abx X D (l.map (·.1)) G) {o:Oper} (hd:(ep X.nt st.sl o.dst && ep X.nt s0 o.dst)=true) (h:fX X D c E s0 st a w)
  (he:effE X D.d c i l o s0 st G):wq X.P o a w fun a' w'=>(D.d.W i=false->D.C w->D.C w')/\runT X.P D.d.ops D.d.W D.C (D.Q X) (l.map (·.1)) a' w':=by
 have uM:=hd;simp only [aO] at uM;have hlen:D.E0.β.length=D.d.kZ.bx.length:=hD.len
 have core:∀ (K:St->Prop) (p:Prop) (c1:Bool),effC X st o K=some p->p->(c1=true->c=true)->(c1=true∨D.d.W i=false->∀ j,stObj st o.op=some j->D.E0.β.length<=j∨D.d.kZ.bx[j]? = some []) ->
   (∀ st',K st' -> ∃ jS,G c1 jS st' /\ ∀ i x,get jS i=some x->(∃ d,o.dst=some d/\i=d/\scal x.s=true/\get st'.sl d=some x)∨(get s0 i=some x/\∀ d,o.dst=some d->i≠d)) ->
   wq X.P o a w fun a' w'=>(D.d.W i=false->D.C w->D.C w')/\runT X.P D.d.ops D.d.W D.C (D.Q X) (l.map (·.1)) a' w':=by
  intro K p c1 hp hpp Il bd hK;refine mL ?_ (Uf (mM uM.1 h.rel hp hpp));rintro a' w' ⟨⟨st',E',hk,hr,hs⟩,u,rfl⟩;refine ⟨fun hW=>EQ h hs hr (bd (.inr hW)),?_⟩;obtain ⟨jS,hg,ht0⟩:=hK st' hk;exact hG c1 jS st' hg E' _ w' (rD h hs hr (fun hc=>EQ h hs hr (bd (.inl hc)) (h.cc (Il hc))) ht0 uM.2)
 have Wg:(∀ t x y,o.op ≠ .store t x y)->∀ j,stObj st o.op=some j->D.E0.β.length<=j∨D.d.kZ.bx[j]? = some []:=by simp_all [stObj]
 have aby:∀ (d:Nat) (st':St),o.dst=some d->∀ i x,get (s0.filter fun p=>!Nat.beq p.1 d) i=some x->(∃ d,o.dst=some d/\i=d/\scal x.s=true/\get st'.sl d=some x)∨(get s0 i=some x/\∀ d,o.dst=some d->i≠d):=by
  intro d st' gZ i x hx;obtain ⟨h1,h2⟩:=get_filter d s0 i x hx
  grind
 unfold effE at he;split at he
 ·rename_i t x y mB;split at he
  ·exact he.elim
  ·rename_i gZ;have sK:∀ st':St,∀ i x,get s0 i=some x->(∃ d,o.dst=some d/\i=d/\scal x.s=true/\get st'.sl d=some x)∨(get s0 i=some x/\∀ d,o.dst=some d->i≠d):=fun st' i x hx=>.inr ⟨hx,fun d hd=>by rw [gZ] at hd;cases hd⟩;split at he
   ·rename_i hW
    cases hp:effC X st o (G false s0) with
    | none=>rw [hp] at he;exact he.elim
    | some p=>
     rw [hp] at he;exact core _ p false hp he (by intro h;cases h) (by rintro (h1 | h1);cases h1;rw [hW] at h1;cases h1) fun st' hk=>⟨s0,hk,sK st'⟩
   ·split at he
    ·rename_i j hj;split at he
     ·rename_i gk
      have gk:D.d.kZ.bx.length<=j∨D.d.kZ.bx[j]? = some []:=by
       rcases Bool.or_eq_true _ _ |>.mp gk with h1 | h1
       ·exact .inl (sU h1)
       ·exact .inr (Ue h1)
      cases hp:effC X st o (G c s0) with
      | none=>rw [hp] at he;exact he.elim
      | some p=>
       rw [hp] at he;exact core _ p c hp he id (fun _ j' j1=>by rw [hj] at j1;cases j1;rw [hlen];exact gk) fun st' hk=>⟨s0,hk,sK st'⟩
     ·exact he.elim
    ·exact he.elim
 ·rename_i cl mB;split at he
  ·rename_i f vC;split at he
   ·rename_i g first captured vs hf xf
    obtain ⟨kY,abz⟩:=he;have fm:=h.rel.rl;have e1:=aV fm hf;unfold Rv at e1;obtain ⟨l1,r1,e1,Ar,hr1⟩:=e1;have hargs:=jf fm (bz _) _ _ xf;obtain ⟨dst,op,ty,pos,after,gu⟩:=o;obtain ⟨callee,args,argTypes⟩:=cl;simp only at mB vC;subst mB vC
    have hr:(execOp a.eval ⟨dst,.call ⟨.value f,args,argTypes⟩,ty,pos,after,gu⟩).run X.P w = .ok (.enter g (l1 ++ args.toList.map a.eval ++ r1).toArray) w:=by
     have e3:(l1.toArray ++ args.map a.eval ++ r1.toArray)=(l1 ++ args.toList.map a.eval ++ r1).toArray:=by apply Array.ext';simp
     simp only [execOp,resolve,e1,Deferred.ofValue,Sem.run_bind,Sem.run_pure,Result.andThen_ok,invoke,e3];exact kY _ _
    unfold wq;rw [hr];exact abz hl D.E0 D.wr hD E a w _ h ((Ar.append hargs).append hr1)
   ·exact he.elim
  ·split at he
   ·rename_i d gZ
    cases hp:effC X st o (fun st'=>delF d s0 fun jS=>G c jS st') with
    | none=>rw [hp] at he;exact he.elim
    | some p=>
     rw [hp] at he;refine core _ p c hp he id (fun _=>Wg (fun t x y h1=>by rw [mB] at h1;cases h1)) fun st' hk=>?_;rw [rB] at hk;exact ⟨_,hk,aby d st' gZ⟩
   ·exact he.elim
 ·rename_i vE vq;split at he
  ·rename_i d gZ
   cases hp:effC X st o (fun st'=>
    match get st'.sl d with
    | some ⟨[],.loc j off⟩=>G c ((d,⟨[],.loc j off⟩) :: s0) st'
    | _=>delF d s0 fun jS=>G c jS st') with
   | none=>rw [hp] at he;exact he hl D.E0 D.wr hD E a w h
   | some p=>
    rw [hp] at he;refine core _ p c hp he id (fun _=>Wg vE) fun st' hk=>?_;split at hk
    ·rename_i j off hg;refine ⟨_,hk,fun i x hx=>?_⟩;simp only [dG] at hx;split at hx
     ·rename_i Ew;simp only [oI] at hx;subst hx;exact .inl ⟨d,gZ,Ew.symm,rfl,hg⟩
     all_goals grind
    ·rw [rB] at hk;exact ⟨_,hk,aby d st' gZ⟩
  ·exact he.elim
theorem fY (hD:vB D.E0 D.d.kZ.bx D.wr):∀ n c l s0 st,goD X D.d n c l s0 st->(∀ p∈l,D.d.ops[p.1]? = some p.2)->∀ E a w,fX X D c E s0 st a w->runT X.P D.d.ops D.d.W D.C (D.Q X) (l.map (·.1)) a w
 | n,c,[],s0,st,hg,hl=>by
  intro E a w h;have hg:(match D.d.fin with | none=>go X 4000 D.d.k st | some F=>F c s0 st):=by cases n<;>simpa only [goD] using hg
  show D.Q X a w;unfold Dw.Q
  cases hf:D.d.fin with
  | none=>
   rw [hf] at hg;exact go_sound 4000 _ _ hg E a w h.rel
  | some F=>
   rw [hf] at hg;exact ⟨c,E,s0,st,h,hg⟩
 | 0,c,_ :: _,s0,st,hg,_=>by exact hg.elim
 | n + 1,c,(i,o) :: r,s0,st,hg,hl=>by
  intro E a w h;have ho:D.d.ops[i]? = some o:=hl (i,o) (by simp);have xf:∀ p∈r,D.d.ops[p.1]? = some p.2:=fun p hp=>hl p (jD _ hp);simp only [List.map_cons];have ih:∀ c s0 st,goD X D.d n c r s0 st->∀ E a w,fX X D c E s0 st a w->runT X.P D.d.ops D.d.W D.C (D.Q X) (r.map (·.1)) a w:=fun c s0 st hg=>fY hD n c r s0 st hg xf;have ihG:abx X D (r.map (·.1)) (fun c s0 st=>goD X D.d n c r s0 st):=fun c s0 st hg=>ih c s0 st hg;simp only [goD,KG,Cb] at hg;split at hg
  ·exact hg.elim
  ·rename_i hd
   have fR:∀ (v:Value) jS st',isE o.op=false->Yl X.P D.d.ops D.C o v a->(qi o.op=true->c=true)->goD X D.d n c r jS st' -> fX X D c E jS st' (a.put o.dst v) w ->
     runT X.P D.d.ops D.d.W D.C (D.Q X) (i :: r.map (·.1)) a w:=by
    intro v jS st' hE hy gQ kV bY;simp only [runT,ho];rw [ai (by simp [hE])];exact ⟨v,hy,fun hL=>h.cc (gQ hL),ih c jS st' kV E _ w bY⟩
   have fS:∀ jS st',isE o.op=true->Region.wanted o (yielded D.d.ops a.tmps)=false->goD X D.d n c r jS st' -> fX X D c E jS st' (a.put o.dst undef) w ->
     runT X.P D.d.ops D.d.W D.C (D.Q X) (i :: r.map (·.1)) a w:=by
    intro jS st' hE hw kV bY;simp only [runT,ho];rw [aj hE];unfold ez;rw [ai (by simp [hw])];exact ⟨fun _ h=>h,ih c jS st' kV E _ w bY⟩
   have fE:∀ jS st',isE o.op=true->Region.wanted o (yielded D.d.ops a.tmps)=true->(ep X.nt st'.sl o.dst && ep X.nt jS o.dst)=true->effE X D.d c i r o jS st' (fun c' jS st'=>goD X D.d n c' r jS st')->fX X D c E jS st' a w ->
     runT X.P D.d.ops D.d.W D.C (D.Q X) (i :: r.map (·.1)) a w:=by
    intro jS st' hE hw uM he bY;simp only [runT,ho];rw [aj hE];unfold ez;rw [aj hw];exact Ik hD xf ihG uM bY he
   have fP:∀ jS st',Region.wanted o (yielded D.d.ops a.tmps)=true->(ep X.nt st'.sl o.dst && ep X.nt jS o.dst)=true->optP (eR X D.d c jS st' o.op fun b s=>put2 jS st' o.dst b [] s (goD X D.d n c r))->fX X D c E jS st' a w ->
     runT X.P D.d.ops D.d.W D.C (D.Q X) (i :: r.map (·.1)) a w:=by
    intro jS st' hw uM he bY;obtain ⟨hE,gQ,b,s,v,hk,hv,pj,cd⟩:=Pw hD bY he;obtain ⟨s1,rF,og,eQ⟩:=jH bY uM b [] s v (fun _ _ p hp=>by cases hp) (fun _=>hv) (fun hb _=>pj hb) (fun hn=>(hn (bz _)).elim) hk;exact fR v s1 rF hE (.inl ⟨hw,cd⟩) gQ og eQ
   have udE:∀ jS st',(ep X.nt st'.sl o.dst && ep X.nt jS o.dst)=true->fX X D c E jS st' a w->put2 jS st' o.dst true [] .ud (goD X D.d n c r)->∃ s1 rF,goD X D.d n c r s1 rF/\fX X D c E s1 rF (a.put o.dst undef) w:=by
    intro jS st' uM bY hk;exact jH bY uM true [] .ud undef (fun _ _ p hp=>by cases hp) (fun _=>uH E) (fun _ _=>uH _) (fun hn=>(hn (bz _)).elim) hk
   split at hg
   ·rename_i Uc;have hw:Region.wanted o (yielded D.d.ops a.tmps)=true:=by simp [Region.wanted,Uc]
    split at hg
    ·rename_i hE;exact fE s0 st hE hw hd hg h
    ·split at hg
     ·rename_i b s hs;obtain ⟨hE,gQ,v,hv,pj,cd⟩:=EP hD h (bz _) hs;obtain ⟨s1,rF,og,eQ⟩:=jH h hd b [] s v (fun _ _ p hp=>by cases hp) (fun _=>hv) (fun hb _=>pj hb) (fun hn=>(hn (bz _)).elim) hg;exact fR v s1 rF hE (.inl ⟨hw,cd⟩) gQ og eQ
     ·exact fP s0 st hw hd hg h
   ·rename_i j want Uc;split at hg
    ·exact hg.elim
    ·rename_i d Mv;split at hg
     ·exact hg.elim
     ·rename_i mz sd OQ;have w7:=wanted_spec h.rel Uc Mv OQ;have Im:¬ Holds a.tmps ((d,want) :: mz)->Region.wanted o (yielded D.d.ops a.tmps)=false:=by grind
      split at hg
      ·rename_i b s hs;split at hg
       case h_2=>exact hg.elim
       rename_i bA;have abA:=wZ bA;by_cases hh:Holds a.tmps ((d,want) :: mz)
       ·obtain ⟨hE,gQ,v,hv,pj,cd⟩:=EP hD h hh hs;obtain ⟨s1,rF,og,eQ⟩:=jH h hd b _ s v abA (fun _=>hv) (fun hb _=>pj hb) (fun hn=>(hn hh).elim) hg;exact fR v s1 rF hE (.inl ⟨w7.2 hh,cd⟩) gQ og eQ
       ·obtain ⟨s1,rF,og,eQ⟩:=jH h hd b _ s undef abA (fun hn=>(hh hn).elim) (fun _ hn=>(hh hn).elim) (fun _=>rfl) hg;have gQ:isE o.op=false/\(qi o.op=true->c=true):=by grind [pR]
        exact fR undef s1 rF gQ.1 (.inr ⟨Im hh,rfl⟩) gQ.2 og eQ
      ·split at hg
       ·rename_i b iC;have ht0:=EH h.rel iC
        cases mz with
        | nil=>
         simp only [lastG] at iC ht0;cases Ia:(b == want)
         ·have Ib:b = !want:=by cases b<;>cases want<;>simp_all
          have hg:=hg.f Ia
          have hn:Region.wanted o (yielded D.d.ops a.tmps)=false:=by
           refine Im fun hh=>?_;have:=hh (d,want) (by simp)
           grind
          have hr:=mQ (d:=d) (b:=!want) h (by rw [ht0,Ib]);split at hg
          ·rename_i gQ
           have Yo:qi o.op=true->c=true:=by
            intro hL;simpa [hL] using gQ
           obtain ⟨s1,rF,og,eQ⟩:=udE _ _ (rC hd) hr hg;cases hE:isE o.op
           ·exact fR undef s1 rF hE (.inr ⟨hn,rfl⟩) Yo og eQ
           ·exact fS s1 rF hE hn og eQ
          ·exact hg.elim
         ·have tf:b=want:=sU Ia;have hg:=hg.t Ia
          grind [kx,bz,mQ,rC]
        | cons g1 gr=>
         have key:∀ e,a.tmps[(lastG (d,want) (g1 :: gr)).1]? = some (.bool e)->goD X D.d n c ((i,o) :: r) (s0.map (bW (lastG (d,want) (g1 :: gr)).1 e)) (st.resolve (lastG (d,want) (g1 :: gr)).1 e)->_:=
          fun e KK kV=>fY hD n c ((i,o) :: r) _ _ kV hl E a w (mQ h KK)
         cases Ia:(b == (lastG (d,want) (g1 :: gr)).2)
         ·have hg:=hg.f Ia;have Ib:b = !(lastG (d,want) (g1 :: gr)).2:=by cases b<;>cases h0:(lastG (d,want) (g1 :: gr)).2<;>simp_all
          exact key _ (by rw [ht0,Ib]) hg
         all_goals simp_all
       ·rename_i iC
        cases mz with
        | nil=>
         have ht0:=Po h.rel iC;simp only [lastG] at ht0
         have hn:Region.wanted o (yielded D.d.ops a.tmps)=false:=by
          refine Im fun hh=>?_;have:=hh (d,want) (by simp);simp only at this;rw [ht0] at this;simp [undef] at this
         simp only at hg;split at hg
         ·rename_i gQ
          have Yo:qi o.op=true->c=true:=by
           intro hL;simpa [hL] using gQ
          obtain ⟨s1,rF,og,eQ⟩:=udE _ _ hd h hg;cases hE:isE o.op
          ·exact fR undef s1 rF hE (.inr ⟨hn,rfl⟩) Yo og eQ
          ·exact fS s1 rF hE hn og eQ
         ·exact hg.elim
        | cons g1 gr=>exact hg.elim
       ·exact hg.elim
def OpS (X:Ctx) (o:Oper) (st st':St):Prop:=∀ E a w,Rel X E st a w->wq X.P o a w fun a' w'=>∃ E',Rel X E' st' a' w' /\ Stp none E w E' w'
theorem OpS.g {o:Oper} {k:List It} {st st':St} (h:OpS X o st st') (hk:go X 4000 k st'):HO X o k st:=fun E a w hr=>by
 refine ED (mL ?_ (h E a w hr));rintro a' w' ⟨E',mP,_⟩;exact go_sound 4000 _ _ hk E' a' w' mP
def nOps:Nat->List Oper->List (Nat × Oper)
 | _,[]=>[]
 | i,o :: r=>(i,o) :: nOps (i + 1) r
theorem xi:∀ (l:List Oper) (i:Nat) (p:Nat × Oper),p∈nOps i l->i<=p.1/\l[p.1 - i]? = some p.2
 | [],_,_,h=>by cases h
 | o :: r,i,p,h=>by
  rcases dB h with h | h
  ·subst h;simp
  ·have:=xi r (i + 1) p h
   grind
theorem xj:∀ (l:List Oper) (i:Nat),(nOps i l).map (·.1)=List.range' i l.length
 | [],_=>rfl
 | o :: r,i=>by simp only [nOps,List.map_cons,xj r (i + 1),List.length_cons,List.range'_succ]
theorem qy (hr:Rel X E st a w) {ops:Array Oper} {W:Nat->Bool} {k:List It}:fX X ⟨⟨ops,W,k,st,none⟩,E,w⟩ true E st.sl st a w where
 rel:=hr
 x:=Ext.refl E
 β:=⟨[],by simp⟩
 t0:=hr.tm
 cc:=fun _=>⟨fun _ _ _ _ _ _=>rfl,hr.env.sub⟩
theorem fZ {id:Nat} {ops:Array Oper} {k:List It} {st:St} (W:Nat->Bool) (hm:X.P.follows .mixedOrders=true) (hc:Ig ops W=true)
  (h:goD X ⟨ops,W,k,st,none⟩ 3000 true (nOps 0 ops.toList) st.sl st):lM X id ops k st:=by
 intro E a w hr;have mP:=kz hr;have hs:=qy mP (ops:=ops) (W:=W) (k:=k);refine jC (C:=CC E st.bx w.drew) (W:=W) (Q:=kq X k .normal) hm hc (fun a w h=>h) (hs.cc rfl) ?_;have:=fY (D:=⟨⟨ops,W,k,st,none⟩,E,w.drew⟩) mP.env.em 3000 true _ _ _ h (fun p hp=>by simpa using (xi _ _ p hp).2) E a w.drew hs;rw [xj] at this;rw [List.range_eq_range'];simp only [Array.length_toList] at this;exact this
def maskL:List Nat->Nat->List (List DV)->List (List DV)
 | _,_,[]=>[]
 | m,i,cs :: r=>(match m.contains i with | true=>[] | false=>cs) :: maskL m (i + 1) r
theorem tp (m:List Nat):∀ (l:List (List DV)) (i:Nat),(maskL m i l).length=l.length
 | [],_=>rfl
 | cs :: r,i=>by simp [maskL,tp m r]
theorem tq (m:List Nat):∀ (l:List (List DV)) (i j:Nat) cs,(maskL m i l)[j]? = some cs->cs=[]∨l[j]? = some cs
 | [],_,_,_,h=>by simp [maskL] at h
 | c :: r,i,0,cs,h=>by grind [maskL]
 | c :: r,i,j + 1,cs,h=>by
  simp only [maskL,List.getElem?_cons_succ] at h ⊢;exact tq m r (i + 1) j cs h
theorem vZ {id:Nat} {ops:Array Oper} {k:List It} {st:St} (m:List Nat) (W:Nat->Bool) (hm:X.P.follows .mixedOrders=true) (hc:Ig ops W=true)
  (h:goD X ⟨ops,W,k,⟨st.sl,maskL m 0 st.bx,st.tk⟩,none⟩ 3000 true (nOps 0 ops.toList) st.sl st):lM X id ops k st:=by
 intro E a w hr;have mP:=kz hr;have hs:fX X ⟨⟨ops,W,k,⟨st.sl,maskL m 0 st.bx,st.tk⟩,none⟩,E,w.drew⟩ true E st.sl st a w.drew:=⟨mP,Ext.refl E,⟨[],by simp⟩,mP.tm,fun _=>⟨fun _ _ _ _ _ _=>rfl,mP.env.sub⟩⟩;refine jC (C:=CC E (maskL m 0 st.bx) w.drew) (W:=W) (Q:=kq X k .normal) hm hc (fun a w h=>h) (hs.cc rfl) ?_
 have Yp:vB E (maskL m 0 st.bx) w.drew:=⟨by rw [tp];exact mP.env.len,fun i cs hi aY=>by
  rcases tq m _ _ _ _ hi with h1 | h1
  ·exact (aY h1).elim
  ·exact mP.env.ey i cs h1⟩
 have:=fY (D:=⟨⟨ops,W,k,⟨st.sl,maskL m 0 st.bx,st.tk⟩,none⟩,E,w.drew⟩) Yp 3000 true _ _ _ h (fun p hp=>by simpa using (xi _ _ p hp).2) E a w.drew hs;rw [xj] at this;rw [List.range_eq_range'];simp only [Array.length_toList] at this;exact this
def Wh (ops:Array Oper) (i:Nat):Bool:=
 match ops.toList[i]? with
 | some o=>
  match o.op with
  | .store ..=>true
  | _=>false
 | none=>false
theorem KX {id:Nat} {ops:Array Oper} {k:List It} {st:St} (hm:X.P.follows .mixedOrders=true) (hc:Ig ops (Wh ops)=true)
  (h:goD X ⟨ops,Wh ops,k,st,none⟩ 3000 true (nOps 0 ops.toList) st.sl st):lM X id ops k st:=fZ (Wh ops) hm hc h
theorem lh {D:Dr} {f:FuncId} {args bE:List DV} {d:Nat} {r:List (Nat × Oper)} (kY:Enters X.P f) (hd:(ep X.nt st.sl (some d) && ep X.nt s0 (some d))=true) {Φ:DV->List (List DV)->List TkE->Prop} (hc:Ev X.P f bE [] [] Φ) (ha:CcL [] 0 0 0 bE args)
  (hk:∀ tu,Φ tu [] []->put2 s0 st (some d) false [] tu (goD X D 3000 c r)) (bd:X.still=false:=by exact rfl):xg X D c i r f args (some d) s0 st:=by
 refine ⟨kY,fun hl E0 wr hD E a w vs h hv=>(uL h.rel bd hc ha hv).mono ?_⟩;rintro e w' ⟨v,E',tu,rfl,bY,hr,hΦ,hm,hx,hβ⟩
 have hh:∀ b,b < w.heap.size->w'.heap[b]? = w.heap[b]?:=fun b hb=>hm.block b hb (by
  rintro (h1 | ⟨y,h1,_⟩)
  ·simp [En.cl] at h1
  ·simp [En.cl] at h1)
 have hs:Stp none E w E' w':=⟨hx,⟨[],by rw [hβ];simp⟩,fun j b hb _=>hh b (h.rel.env.bp (mG hb))⟩;have hC:=EQ h hs bY (fun j hj=>by cases hj);refine ⟨v,rfl,fun _=>hC,?_⟩;have ER:fX X ⟨D,E0,wr⟩ c E' s0 st (a.put none v) w':=rD h hs bY (fun h1=>hC (h.cc h1)) (fun i x hx=>.inr ⟨hx,fun d hd=>by cases hd⟩) rfl;obtain ⟨s1,rF,og,eQ⟩:=jH ER hd false [] tu v (fun _ _ p hp=>by cases hp) (fun _=>hr) (fun hb=>by cases hb) (fun hn=>(hn (bz _)).elim) (hk tu hΦ);exact fY (D:=⟨D,E0,wr⟩) hD 3000 c r _ _ og hl E' _ w' eQ
theorem pk {D:Dr} {f:FuncId} {args bE:List DV} {d:Nat} {r:List (Nat × Oper)} {tu:DV} (kY:Enters X.P f) (hc:EvP X.P f bE tu) (ha:CcL [] 0 0 0 bE args) (hd:(ep X.nt st.sl (some d) && ep X.nt s0 (some d))=true)
  (hk:put2 s0 st (some d) false [] tu (goD X D 3000 c r)) (bd:X.still=false:=by exact rfl):xg X D c i r f args (some d) s0 st:=
 lh kY hd hc ha (fun _ hr=>hr ▸ hk) bd
theorem fG {D:Dr} {i:Nat} {f:FuncId} {args:List DV} {dst:Option Nat} (hW:D.W i=true) (h:CallG X f args dst D.k st) (hf:D.fin=none:=by exact rfl):xg X D c i [] f args dst s0 st:=by
 refine ⟨h.1,fun _ E0 wr _ E a w vs hr hv=>(h.2.2 E a w vs hr.rel hv).mono ?_⟩;intro e w' hq
 cases e with
 | returned v=>
  refine ⟨v,rfl,⟨(fun hw=>by rw [hW] at hw;cases hw),?_⟩⟩;show Dw.Q ⟨D,E0,wr⟩ X _ _;unfold Dw.Q;simp only [hf];exact hq
 | _=>exact hq.elim
end
end Dv
end Go.Proofs.YtgjagnmeonoehaaGreat
namespace Go.Proofs.YtgjagnmeonoehaaGreat
namespace Dv
open Go Go.RowKit
section
variable {P:Program} {ops:Array Oper} {C:World->Prop} {Q:Act->World->Prop} {W:Nat->Bool} {π π':Nat->Nat}
theorem AA {o:Oper} {i:Nat} {a:Act} {w:World} {K:Act->World->Prop} {Q':Exit->Act->World->Prop} (ho:ops[i]? = some o) (h:ez P ops o a w K):wpOp P ops Q' i K a w:=by
 unfold wpOp
 grind [ez,ED]
def chkT (ops:Array Oper) (x y:Nat):Bool:=
 (List.range ops.size).all fun i=>Nat.beq i x || Nat.beq i y ||
  match ops[i]? with
  | some o=>!isE o.op || ordB ops ops.size x i
  | none=>false
def vF (x y:Nat):Nat->Nat->Bool:=fun j i=>Nat.beq j x && Nat.beq i y
theorem Io {x y:Nat} {Q':Exit->Act->World->Prop} (MG:x≠y) (h1O:vy ops W π=true) (h1S:EN ops W π (vF x y)=true) (h2O:vy ops W π'=true) (h2S:EN ops W π' (vF y x)=true) (hT:chkT ops x y=true)
  (hQ:∀ a w,Q a w->Q' .normal a w):∀ (lT:Nat) (bo:Array Bool) (r1 r2:List Nat) (a:Act) (w:World),
  bo.size=ops.size->Dn ops bo->(∀ i,i∈r1↔i < ops.size/\bo.getD i true=false)->(∀ i,i∈r2↔i < ops.size/\bo.getD i true=false)->r1.Pairwise (fun a b=>π a < π b)->r2.Pairwise (fun a b=>π' a < π' b)->r1.length<=lT ->
   x∈r1->y∈r1->C w->runT P ops W C Q r1 a w->runT P ops W C Q r2 a w->wpAny P .any ops Q' lT bo a w:=by
 have j9:=EO h1O;have TC:=Cw h1O;have Yq:=Cw h2O;have h1S':=h1S;have h2S':=h2S;simp only [EN,List.all_eq_true,List.mem_range,Bool.or_eq_true,Bool.not_eq_true'] at h1S h2S;intro lT
 induction lT with
 | zero=>grind
 | succ lT ih=>
  intro bo r1 r2 a w cf hdn jT Cj Ug Yr hlen hx hy hC hr1 nO;have h12:∀ i,i∈r1↔i∈r2:=fun i=>(jT i).trans (Cj i).symm;have MH:r1.Nodup:=q8 Ug;have z8:r2.Nodup:=q8 Yr;have Pv:=Az h1O;refine ⟨fun h0=>?_,fun i hi=>?_⟩
  ·cases r1 with
   | nil=>cases hx
   | cons h rem=>
    have hh:=(jT h).1 (by simp);have hxx:ops[h]? = some ops[h]:=Array.getElem?_eq_getElem hh.1
    have:h∈Region.ready .any ops bo:=by
     refine mem_ready.2 ⟨hh.2,_,hxx,fun e he hb=>?_⟩;obtain ⟨aw,Ii⟩:=Pv h _ hxx e he hb;cases hg:bo.getD e.on false
     ·have KU:bo.getD e.on true=false:=by grind
      have hm:=(jT e.on).2 ⟨by omega,KU⟩;rcases dB hm with e1 | e1
      ·rw [e1] at aw;omega
      ·have:=(List.pairwise_cons.1 Ug).1 _ e1;omega
     ·rfl
    rw [h0] at this;cases this
  ·obtain ⟨Wf,o,ho,iO⟩:=mem_ready.1 hi;have ik:=(Array.getElem?_eq_some_iff.1 ho).1;have vA:i∈r1:=(jT i).2 ⟨ik,Wf⟩;have Uh:i∈r2:=(h12 i).1 vA;have gR:∀ j,j∈r1->ordB ops ops.size j i=true->False:=by grind [oe]
   have Ui:i≠y->∀ j∈r1,j≠i->π j < π i->nG ops W j i=true:=by
    intro hiy j hj _ aw;rcases h1S i ik j ((jT j).1 hj).1 with ((h1 | h1) | h1) | h1
    ·have:¬ Nat.blt (π j) (π i)=true:=by simp [h1]
     simp at this;omega
    ·simp [vF] at h1;exact (hiy h1.2).elim
    ·exact (gR j hj h1).elim
    ·exact h1
   have Ys:i≠x->∀ j∈r2,j≠i->π' j < π' i->nG ops W j i=true:=by
    intro TD j hj _ aw;rcases h2S i ik j ((Cj j).1 hj).1 with ((h1 | h1) | h1) | h1
    ·have:¬ Nat.blt (π' j) (π' i)=true:=by simp [h1]
     simp at this;omega
    ·simp [vF] at h1;exact (TD h1.2).elim
    all_goals grind
   have Yt:Dn ops (bo.setIfInBounds i true):=by
    intro k z hz hk e he hb;by_cases uJ:k=i
    ·subst uJ;rw [ho] at hz;simp only [oI] at hz;subst hz;exact getD_set_true (iO e he hb)
    ·rw [getD_set_ne true (Ne.symm uJ)] at hk;exact getD_set_true (hdn k z hz hk e he hb)
   have ES:∀ (rem:List Nat),rem.Nodup->(∀ i,i∈rem↔i < ops.size/\bo.getD i true=false)->∀ k,k∈rem.erase i↔k < ops.size/\(bo.setIfInBounds i true).getD k true=false:=by
    intro rem hnd vz k;rw [List.Nodup.mem_erase_iff hnd];by_cases uJ:k=i
    ·subst uJ;simp [cf,ik]
    ·rw [getD_set_ne true (Ne.symm uJ)]
     grind
   refine AA ho ?_;by_cases TD:i=x
   ·subst TD;have bd:=kC j9 TC ho r1 a w (fun _=>hC) hr1 vA (Ui MG) Ug;refine fc ?_ bd;rintro a' w' ⟨Cv,mP⟩;refine qx (C:=C) (vF i y) h1O h1S' hQ lT _ (r1.erase i) a' w' (by simp [cf]) Yt (ES r1 MH jT) (Ug.sublist List.erase_sublist) (by rw [List.length_erase_of_mem vA];omega) ?_ ?_ mP
    ·intro j hj k _;cases j1:vF i y j k
     ·rfl
     ·simp_all [vF]
    ·rintro ⟨l,z,hl,hz,hL⟩;refine Cv ?_ hC;have xf:=List.mem_of_mem_erase hl;have aY:l≠i:=((List.Nodup.mem_erase_iff MH).1 hl).1;rcases Cx Ug vA xf aY.symm with h1 | h1
     ·exact TC i l z o h1 hz ho hL
     ·have:=Ui MG l xf aY h1;obtain ⟨_,_,_,h4⟩:=gY this hz ho
      grind
   ·by_cases hiy:i=y
    ·subst hiy;have bd:=kC j9 Yq ho r2 a w (fun _=>hC) nO Uh (Ys (Ne.symm MG)) Yr;refine fc ?_ bd;rintro a' w' ⟨Cv,mP⟩;refine qx (C:=C) (vF i x) h2O h2S' hQ lT _ (r2.erase i) a' w' (by simp [cf]) Yt (ES r2 z8 Cj) (Yr.sublist List.erase_sublist) ?_ ?_ ?_ mP
     ·have e1:r1.length=r2.length:=(List.perm_iff_count.2 (fun z=>by rw [MH.count,z8.count];simp [h12 z])).length_eq;rw [List.length_erase_of_mem Uh];omega
     ·intro j hj k _;cases j1:vF i x j k
      ·rfl
      ·simp_all [vF]
     ·rintro ⟨l,z,hl,hz,hL⟩;refine Cv ?_ hC;have xf:=List.mem_of_mem_erase hl;have aY:l≠i:=((List.Nodup.mem_erase_iff z8).1 hl).1;rcases Cx Yr Uh xf aY.symm with h1 | h1
      ·exact Yq i l z o h1 hz ho hL
      ·have:=Ys (Ne.symm MG) l xf aY h1;obtain ⟨_,_,_,h4⟩:=gY this hz ho
       grind
    ·have hRo:isE o.op=false:=by
      simp only [chkT,List.all_eq_true,List.mem_range,Bool.or_eq_true,Nat.beq_eq] at hT
      grind
     obtain ⟨v,Yu⟩:=qw j9 ho hRo r1 a w hr1 vA (Ui hiy) Ug;have TZ:=kC j9 TC ho r1 a w (fun _=>hC) hr1 vA (Ui hiy) Ug;have wT:=kC j9 Yq ho r2 a w (fun _=>hC) nO Uh (Ys TD) Yr;have og:=od Yu (fun _=>hC) TZ;have Px:=od Yu (fun _=>hC) wT;refine lg Yu (fun _=>hC) ?_
     exact ih _ (r1.erase i) (r2.erase i) _ w (by simp [cf]) Yt (ES r1 MH jT) (ES r2 z8 Cj) (Ug.sublist List.erase_sublist) (Yr.sublist List.erase_sublist) (by rw [List.length_erase_of_mem vA];omega)
      ((List.Nodup.mem_erase_iff MH).2 ⟨Ne.symm TD,hx⟩) ((List.Nodup.mem_erase_iff MH).2 ⟨Ne.symm hiy,hy⟩) hC og.2 Px.2
end
def selL (ops:List Oper):List Nat->List (Nat × Oper)
 | []=>[]
 | i :: r=>
  match ops[i]? with
  | some o=>(i,o) :: selL ops r
  | none=>selL ops r
theorem Py {ops:List Oper} {l:List Nat} {p:Nat × Oper} (h:p∈selL ops l):ops[p.1]? = some p.2:=by
 induction l with
 | nil=>cases h
 | cons i r ih=>grind [selL]
def plc:List Nat->Nat->Nat
 | [],_=>0
 | x :: r,i=>if Nat.beq x i then 0 else plc r i + 1
def Pz (ops:Array Oper) (l:List Nat):Bool:=
 (selL ops.toList l).map (·.1) == l && (List.range ops.size).all (fun i=>l.contains i) && l.all (fun i=>Nat.blt i ops.size) && Nat.ble l.length ops.size && pwB (plc l) l
where pwB (f:Nat->Nat):List Nat->Bool
 | []=>true
 | x :: r=>r.all (fun y=>Nat.blt (f x) (f y)) && pwB f r
theorem xm {f:Nat->Nat}:∀ {l:List Nat},Pz.pwB f l=true->l.Pairwise (fun a b=>f a < f b)
 | [],_=>List.Pairwise.nil
 | x :: r,h=>by
  simp only [Pz.pwB,aO,List.all_eq_true,Nat.blt_eq] at h;exact List.pairwise_cons.2 ⟨h.1,xm h.2⟩
def abD (ops:Array Oper) (W:Nat->Bool) (l l':List Nat) (x y:Nat):Bool:=
 !Nat.beq x y && Nat.blt x ops.size && Nat.blt y ops.size && Pz ops l && Pz ops l' && vy ops W (plc l) && EN ops W (plc l) (vF x y) && vy ops W (plc l') && EN ops W (plc l') (vF y x) && chkT ops x y
def swp (i j k:Nat):Nat:=
 match Nat.beq k i with
 | true=>j
 | false=>
  match Nat.beq k j with
  | true=>i
  | false=>k
theorem mR (i j k:Nat):swp i j (swp i j k)=k:=by
 have hb:∀ a b:Nat,Nat.beq a b=decide (a=b):=fun a b=>by
  by_cases h:a=b
  ·subst h;simp
  ·rw [decide_eq_false h];cases h1:Nat.beq a b
   ·rfl
   ·exact (h (sU h1)).elim
 grind [swp]
mutual
def renD (f:Nat->Nat):DV->DV
 | .v x=>.v x
 | .ud=>.ud
 | .agg l=>.agg (renL f l)
 | .tup l=>.tup (renL f l)
 | .sl e es tk=>.sl e es tk
 | .pt cs o=>.pt cs o
 | .loc i o=>.loc (f i) o
 | .el i o=>.el (f i) o
 | .ms i e o l c=>.ms (f i) e o l c
 | .fn g l r=>.fn g (renL f l) (renL f r)
 | .rc t x=>.rc t (renD f x)
def renL (f:Nat->Nat):List DV->List DV
 | []=>[]
 | d :: r=>renD f d :: renL f r
end
def renS (f:Nat->Nat):List (Nat × Sl)->List (Nat × Sl)
 | []=>[]
 | (k,⟨gs,s⟩) :: r=>(k,⟨gs,renD f s⟩) :: renS f r
def renO (f:Nat->Nat):List (List DV)->List (List DV)
 | []=>[]
 | cs :: r=>renL f cs :: renO f r
def swL {α:Type} (i j:Nat) (l:List α):List α:=
 match l[i]?,l[j]? with
 | some a,some b=>(l.set i b).set j a
 | _,_=>l
def fH (i j:Nat) (S:St):St:=⟨renS (swp i j) S.sl,swL i j (renO (swp i j) S.bx),S.tk⟩
theorem xq (f:Nat->Nat):∀ (l:List (List DV)) (k:Nat),(renO f l)[k]? = (l[k]?).map (renL f)
 | [],k=>by simp [renO]
 | c :: r,0=>by simp [renO]
 | c :: r,k + 1=>by simp only [renO,List.getElem?_cons_succ];exact xq f r k
theorem eS (f:Nat->Nat):∀ (l:List (List DV)),(renO f l).length=l.length
 | []=>rfl
 | c :: r=>by simp [renO,eS f r]
theorem EU (f:Nat->Nat):∀ (l:List (Nat × Sl)) (k:Nat),get (renS f l) k=(get l k).map fun x=>⟨x.gs,renD f x.s⟩
 | [],k=>rfl
 | (i,⟨gs,s⟩) :: r,k=>by
  simp only [renS,dG];split
  ·rfl
  ·exact EU f r k
theorem fI {α:Type} (i j:Nat) (l:List α):(swL i j l).length=l.length:=by
 unfold swL;split<;>simp
theorem gT {α:Type} {i j:Nat} {l:List α} (hi:i < l.length) (hj:j < l.length) (k:Nat):(swL i j l)[k]? = l[swp i j k]?:=by
 have hb:∀ a b:Nat,Nat.beq a b=true↔a=b:=fun a b=>by simp
 grind [swL,swp]
theorem Uj {α:Type} {i j:Nat} {l:List α} (hi:i < l.length) (hj:j < l.length):swL i j (swL i j l)=l:=by
 apply List.ext_getElem?
 grind [gT,fI,mR]
section
variable {E:En} {i j:Nat}
mutual
theorem Rv.EV (hi:i < E.β.length) (hj:j < E.β.length):∀ {d:DV} {v:Value},Rv E (renD (swp i j) d) v->Rv ⟨E.c,swL i j E.β,E.tk,E.τ⟩ d v
 | .v x,v,h=>by simp only [renD] at h;unfold Rv at h ⊢;exact h
 | .ud,v,h=>by simp only [renD] at h;unfold Rv at h ⊢;exact h
 | .sl e es tk,v,h=>by simp only [renD] at h;unfold Rv at h ⊢;exact h
 | .pt cs o,v,h=>by simp only [renD] at h;unfold Rv at h ⊢;exact h
 | .loc k o,v,h=>by grind [renD,Rv,swL,gT]
 | .el k o,v,h=>by grind [renD,Rv,swL,gT]
 | .ms k e o l c,v,h=>by grind [renD,Rv,swL,gT]
 | .agg l,v,h=>by
  simp only [renD] at h;unfold Rv at h ⊢;obtain ⟨vs,h1,h2,h3⟩:=h;exact ⟨vs,h1,RvL.EV hi hj h2,h3⟩
 | .tup l,v,h=>by
  simp only [renD] at h;unfold Rv at h ⊢;obtain ⟨vs,h1,h2⟩:=h;exact ⟨vs,h1,RvL.EV hi hj h2⟩
 | .fn g l r,v,h=>by
  simp only [renD] at h;unfold Rv at h ⊢;obtain ⟨l',r',h1,h2,h3⟩:=h;exact ⟨l',r',h1,RvL.EV hi hj h2,RvL.EV hi hj h3⟩
 | .rc t x,v,h=>by
  simp only [renD] at h;unfold Rv at h ⊢;obtain ⟨z,h1,h2⟩:=h;exact ⟨z,h1,Rv.EV hi hj h2⟩
theorem RvL.EV (hi:i < E.β.length) (hj:j < E.β.length):∀ {l:List DV} {vs:List Value},RvL E (renL (swp i j) l) vs->RvL ⟨E.c,swL i j E.β,E.tk,E.τ⟩ l vs
 | [],vs,h=>by simp only [renL,RvL] at h ⊢;exact h
 | d :: r,vs,h=>by
  simp only [renL,RvL] at h ⊢;obtain ⟨v,s,h1,h2,h3⟩:=h;exact ⟨v,s,h1,Rv.EV hi hj h2,RvL.EV hi hj h3⟩
end
end
theorem KY {α:Type} {i j:Nat} {l:List α} (hi:i < l.length) (hj:j < l.length) {x:α}:x∈swL i j l↔x∈l:=by grind [swL,gT,fI,Uj]
theorem MI {i j:Nat} {l:List Nat} (hi:i < l.length) (hj:j < l.length) (h:l.Nodup):(swL i j l).Nodup:=by grind [swp,fI,swL,gT,mR]
theorem po {P:Program} {ops:Array Oper} {W:Nat->Bool} {C:World->Prop} {Q Q':Act->World->Prop} (hQ:∀ a w,Q a w->Q' a w):∀ {l:List Nat} {a:Act} {w:World},runT P ops W C Q l a w->runT P ops W C Q' l a w
 | [],a,w,h=>hQ _ _ h
 | i :: r,a,w,h=>by
  simp only [runT] at h ⊢;split at h
  ·exact h.elim
  ·split at h
   ·rename_i hE;rw [aj hE];exact fc (fun a w hk=>⟨hk.1,po hQ hk.2⟩) h
   ·rename_i hE;rw [ai hE];obtain ⟨v,h1,h2,h3⟩:=h;exact ⟨v,h1,h2,po hQ h3⟩
section
variable {X:Ctx} {E:En} {S:St} {a:Act} {w:World} {i j:Nat}
theorem EW (hX:X.bt=[]) (h:Rel X E (fH i j S) a w) (Pe:X.n0<=i) (EC:X.n0<=j) (hi:i < S.bx.length) (hj:j < S.bx.length):Rel X ⟨E.c,swL i j E.β,E.tk,E.τ⟩ S a w:=by
 have hlen:E.β.length=S.bx.length:=by
  rw [h.env.len];simp only [fH,fI,eS]
 have ik:i < E.β.length:=by rw [hlen];exact hi
 have j1:j < E.β.length:=by rw [hlen];exact hj
 have jA:∀ k,(fH i j S).bx[k]? = (S.bx[swp i j k]?).map (renL (swp i j)):=fun k=>by grind [fH,gT,eS,xq]
 exact {
  env:={
   len:=by rw [fI];exact hlen
   tl:=h.env.tl
   ey:=fun k cs hk=>by
    obtain ⟨b,ty,arr,hb,hw,hc⟩:=h.env.ey (swp i j k) (renL (swp i j) cs) (by rw [jA,mR,hk];rfl);exact ⟨b,ty,arr,by rw [gT ik j1];exact hb,hw,RvL.EV ik j1 hc.1,hc.2⟩
   inj:=MI ik j1 h.env.inj
   sub:=h.env.sub
   pc:=fun x v hx hm=>h.env.pc x v hx ((KY ik j1).1 hm)
   bU:=fun k q y hq hy=>by
    rcases h.env.bU k q y hq hy with h1 | ⟨g,cap,cur,rfl,h1,h2,h3,h4,h5,h6⟩
    ·exact .inl h1
    ·exact .inr ⟨g,cap,cur,rfl,h1,h2,h3,h4,fun hm=>h5 ((KY ik j1).1 hm),h6⟩
   jc:=h.env.jc }
  tk:=h.tk
  sz:=h.sz
  tm:=fun k x hx=>by
   have:=h.tm k ⟨x.gs,renD (swp i j) x.s⟩ (by simp only [fH];rw [EU,hx];rfl)
   grind [Rv.EV]
  df:=h.df
  nw:={
   c:=h.nw.c
   cn:=h.nw.cn
   β:=by
    obtain ⟨r,hr,hl⟩:=h.nw.β;have hE0:X.E0.β.length=X.n0:=X.ku;refine ⟨(swL i j E.β).drop X.n0,?_,fun b hb=>?_⟩
    ·grind [swL,gT,swp]
    ·have hnd:=h.env.inj;obtain ⟨k,hk⟩:=List.mem_iff_getElem?.1 hb;rw [List.getElem?_drop,gT ik j1] at hk;have hge:X.n0<=swp i j (X.n0 + k):=by grind [swp]
     rw [hr,List.getElem?_append_right (by omega)] at hk;exact hl b (mG hk)
   tk:=h.nw.tk
   tn:=h.nw.tn
   l0:=h.nw.l0 }
  fr:=h.fr
  sh:=h.sh
  bt:=.nil hX }
theorem KZ (hX:X.bt=[]) (h:Rel X E (fH i j S) a w) (Pe:X.n0<=i) (EC:X.n0<=j) (hi:i < S.bx.length) (hj:j < S.bx.length):∃ E',Rel X E' S a w:=⟨_,EW hX h Pe EC hi hj⟩
end
def K0 (sl:List (Nat × Sl)):List (Nat × Sl)->Prop
 | []=>True
 | p :: r=>get sl p.1=some p.2/\K0 sl r
theorem xr {sl:List (Nat × Sl)}:∀ {l:List (Nat × Sl)},K0 sl l->∀ i x,get l i=some x->get sl i=some x
 | [],_,i,x,hx=>by cases hx
 | (k,y) :: r,h,i,x,hx=>by
  simp only [dG] at hx;split at hx
  ·rename_i uJ;subst uJ;simp only [oI] at hx;subst hx;exact h.1
  ·exact xr h.2 i x hx
def uniqS:List Nat->List (Nat × Sl)->List (Nat × Sl)
 | _,[]=>[]
 | m,p :: r=>
  match muB m p.1 with
  | true=>uniqS m r
  | false=>p :: uniqS (p.1 :: m) r
theorem tv:∀ (l:List (Nat × Sl)) (m:List Nat) (i:Nat),muB m i=false->get (uniqS m l) i=get l i
 | [],_,_,_=>rfl
 | (k,x) :: r,m,i,h=>by
  simp only [uniqS]
  cases hm:muB m k with
  | true=>
   simp only;rw [tv r m i h,dG,ai];rintro rfl;rw [hm] at h;cases h
  | false=>
   simp only [dG];by_cases hk:k=i
   ·rw [aj hk,aj hk]
   ·rw [ai hk,ai hk]
    exact tv r (k :: m) i (by simp only [muB,h,Bool.or_false];cases hb:Nat.beq k i with
     | true=>exact (hk (Nat.eq_of_beq_eq_true hb)).elim
     | false=>rfl)
def iE (s S:St):Prop:=s.bx=S.bx/\s.tk=S.tk/\K0 s.sl (uniqS [] S.sl)
theorem EY {X:Ctx} {E:En} {s S:St} {a:Act} {w:World} (h:Rel X E s a w) (hs:iE s S):Rel X E S a w where
 env:=by rw [<- hs.1];exact h.env
 tk:=by rw [<- hs.2.1];exact h.tk
 sz:=h.sz
 tm:=fun i x hx=>h.tm i x (xr hs.2.2 i x (by rw [tv _ _ _ rfl];exact hx))
 df:=h.df
 nw:=h.nw
 fr:=h.fr
 sh:=h.sh
 bt:=h.bt
theorem pq {X:Ctx} {id:Nat} {ops:Array Oper} {k:List It} {st:St} (W:Nat->Bool) (x y:Nat) (l l':List Nat) (i j:Nat) (hm:X.P.follows .mixedOrders=true) (hc:abD ops W l l' x y=true) (S:St)
  (h:goD X ⟨ops,W,[.B9 fun s=>s=S],st,none⟩ 3000 true (selL ops.toList l) st.sl st) (h':goD X ⟨ops,W,[.B9 fun s=>iE s (fH i j S)],st,none⟩ 3000 true (selL ops.toList l') st.sl st)
  (qj:(Nat.ble X.n0 i && Nat.ble X.n0 j && Nat.blt i S.bx.length && Nat.blt j S.bx.length)=true) (hk:go X 4000 k S) (hX:X.bt=[]:=by exact rfl):lM X id ops k st:=by
 intro E a w hr;have mP:=kz hr;simp only [aO,Nat.ble_eq,Nat.blt_eq] at qj;simp only [abD,Pz,aO,List.all_eq_true,Nat.blt_eq,Nat.ble_eq,beq_iff_eq,List.mem_range,Bool.not_eq_true'] at hc;obtain ⟨⟨⟨⟨⟨⟨⟨⟨⟨MG,Ec⟩,hys⟩,⟨⟨⟨h1a,h1b⟩,h1c⟩,hlen⟩,h1d⟩,⟨⟨⟨h2a,h2b⟩,h2c⟩,_⟩,h2d⟩,h1O⟩,h1S⟩,h2O⟩,h2S⟩,hT⟩:=hc
 have hQ:∀ S',(S'=S∨S'=fH i j S)->∀ a w,(∃ st E,Rel X E st a w/\(st=S' ∨ iE st S'))->kq X k .normal a w:=by
  rintro S' hS a w ⟨rF,E1,hrel0,Ey⟩;have bY:Rel X E1 S' a w:=by grind [EY]
  rcases hS with rfl | rfl
  ·exact go_sound 4000 _ _ hk E1 a w bY
  ·obtain ⟨E2,xe⟩:=KZ hX bY qj.1.1.1 qj.1.1.2 qj.1.2 qj.2;exact go_sound 4000 _ _ hk E2 a w xe
 have key:∀ (S':St),(S'=S∨S'=fH i j S)->∀ (l:List Nat),(selL ops.toList l).map (·.1)=l->∀ J:St->Prop,(∀ s,J s->s=S' ∨ iE s S')->(goD X ⟨ops,W,[.B9 J],st,none⟩ 3000 true (selL ops.toList l) st.sl st) ->
   runT X.P ops W (CC E st.bx w.drew) (fun a w=>kq X k .normal a w) l a w.drew:=by
  intro S' hS l hl J hJ h;have hs:=qy mP (ops:=ops) (W:=W) (k:=[.B9 J]);have:=fY (D:=⟨⟨ops,W,[.B9 J],st,none⟩,E,w.drew⟩) mP.env.em 3000 true _ _ _ h (fun p hp=>by simpa using Py hp) E a w.drew hs;rw [hl] at this;exact po (fun a w ⟨st,E1,h1,h2⟩=>hQ S' hS a w ⟨st,E1,h1,hJ st h2⟩) this
 have e1:=key S (.inl rfl) l h1a _ (fun s hs=>.inl hs) h;have e2:=key (fH i j S) (.inr rfl) l' h2a _ (fun s hs=>.inr hs) h';refine wp_region_any hm ?_
 have HR:∀ (l:List Nat),(∀ i,i < ops.size->l.contains i=true)->(∀ i∈l,i < ops.size)->∀ i,i∈l↔i < ops.size/\(Array.replicate ops.size false).getD i true=false:=by
  intro l ha hb i;constructor
  all_goals simp_all
 have hxy':x≠y:=by
  intro e;subst e;simp at MG
 refine Io (C:=CC E st.bx w.drew) (π:=plc l) (π':=plc l') (Q:=kq X k .normal) hxy' h1O h1S h2O h2S hT (fun a w h=>h) ops.size (Array.replicate ops.size false) l l' a _ (by simp) ?_ (HR l h1b h1c) (HR l' h2b h2c) (xm h1d) (xm h2d) hlen
  (by simpa using h1b x Ec) (by simpa using h1b y hys) ⟨fun _ _ _ _ _ _=>rfl,mP.env.sub⟩ e1 e2
 intro i o ho hl;have:i < ops.size:=(Array.getElem?_eq_some_iff.1 ho).1;simp [this] at hl
end Dv
end Go.Proofs.YtgjagnmeonoehaaGreat
namespace Go.Proofs.YtgjagnmeonoehaaGreat
namespace Dv
open Go Go.RowKit
section
variable {X:Ctx} {st:St} {k:List It} {E:En} {a:Act} {w:World}
noncomputable def En.HS (E:En) (w:World):En:=⟨te E 0 w,[],[],[]⟩
theorem Uk {bx:List (List DV)} (h:Env E bx w):Env (E.HS w) [] w where
 len:=rfl
 tl:=rfl
 ey:=by simp
 inj:=List.nodup_nil
 sub:=fun x u hx=>by
  rcases e9 hx with ⟨_,h1⟩ | h1
  ·exact h1
  ·exact h.sub x u h1
 pc:=by simp [En.HS]
 bU:=by simp [En.HS]
 jc:=by simp [En.HS]
theorem Ul {bx:List (List DV)} (h:Env E bx w):OO E (E.HS w) bx 0 where
 c:=fun x u hx=>mN h hx
 fz:=fun i cs hi hcs=>by
  obtain ⟨b,ty,arr,hb,hw,hc⟩:=h.ey i cs hcs;refine ⟨b,arr,hb,hc,fun j u hj=>?_⟩;show te E 0 w ⟨b,j,none⟩=some u;unfold te;rw [aj ⟨i,hi,hb⟩,cL hw];simpa using hj
theorem ka {P:Program} {s:Bool} {bx:List (List DV)} (h:Env E bx w) {f:FuncId} {args bE:List DV} {vs:List Value} {y:DV} (hc:Yg s P f bE [] [] fun d _ _=>d=y) (ha:CcL bx 0 0 0 bE args) (hv:RvL E args vs) :
  Calls P f vs.toArray w fun e w'=>∃ v E2,e = .returned v/\Rv E2 y v/\re (fun _=>False) w w' /\ (s=true->∃ q,w'=w.drewN q):=by
 have XS:RvL (E.HS w) bE vs:=CcL.sound (Ul h) (KR.zero _ _) ha hv;refine (hc (E.HS w) w vs (Uk h) rfl XS).mono ?_;rintro e w' ⟨v,rfl,hm,hs,d,os,E2,he,hβ,jG,hn,Ud,rfl⟩;refine ⟨v,E2,rfl,Ud,⟨hm.os,hm.tape,hm.output,hm.size,fun i hi _=>hm.block i hi ?_⟩,hs⟩;rintro (h1 | ⟨y,h1,_⟩)
 ·simp [En.HS] at h1
 ·simp [En.HS] at h1
theorem Cy {f:FuncId} {args bE:List DV} {d:Nat} {y:Value} (kY:Enters X.P f) (hc:EvP X.P f bE (.v y)) (ha:CcL st.bx 0 0 0 bE args) (hd:ep X.nt st.sl (some d)=true)
  (hk:go X 4000 k ⟨(d,⟨[],.v y⟩) :: st.sl,st.bx,st.tk⟩) (bd:X.still=false:=by exact rfl):CallG X f args (some d) k st:=by
 refine ⟨kY,bd,fun E a w vs h hv=>(ka h.env hc ha hv).mono ?_⟩;rintro e w' ⟨v,E2,rfl,hr,hm,_⟩;have hh:∀ i,i < w.heap.size->w'.heap[i]? = w.heap[i]?:=fun i hi=>hm.block i hi (fun h=>h);have bY:Rel X E st a w':=dC h (Ext.refl E) (h.env.kW hh) h.tk h.nw (h.fr.cK hm.os hm.tape hm.output hm.size fun i hi=>.inr (hh i hi)) (mJ bd) (h.bt.kW fun b hb=>hh b (h.env.bp hb));unfold Rv at hr;exact go_sound 4000 _ _ hk E _ w' (bc bY hd (.v y) v (by unfold Rv;exact hr))
end
end Dv
end Go.Proofs.YtgjagnmeonoehaaGreat
namespace Go.Proofs.YtgjagnmeonoehaaGreat
namespace Dv
open Go Go.RowKit
def PA (bx:List (List DV)) (N m:Nat) (sl:List (Nat × Sl)):List (Nat × Sl)->Prop
 | []=>True
 | p :: r=>(∃ x,get sl p.1=some ⟨p.2.gs,x⟩/\Cc bx N N m p.2.s x)/\PA bx N m sl r
theorem AB {bx:List (List DV)} {N m:Nat} {sl:List (Nat × Sl)}:∀ {l:List (Nat × Sl)},PA bx N m sl l->∀ i x',get l i=some x' -> ∃ x,get sl i=some ⟨x'.gs,x⟩/\Cc bx N N m x'.s x
 | [],_,i,x',hx=>by cases hx
 | (k,y) :: r,h,i,x',hx=>by
  simp only [dG] at hx;split at hx
  ·rename_i uJ;subst uJ;simp only [oI] at hx;subst hx;exact h.1
  ·exact AB h.2 i x' hx
section
variable {X:Ctx} {E:En} {st st':St} {a:Act} {w:World} {k:List It}
theorem K1 (h:Rel X E st a w) (N:Nat) (hN:X.n0<=N) (hNl:N<=st.bx.length) (jA:mF st.bx N N st.tk.length st'.bx (st.bx.take N)) (jG:st'.tk=st.tk) (nW:PA st.bx N st.tk.length st.sl st'.sl):∃ E',Rel X E' st' a w:=by
 obtain ⟨r,Yc,hβl⟩:=h.nw.β;have hlen:E.β.length=st.bx.length:=h.env.len
 have eY:∀ (i:Nat) b,X.n0<=i->E.β[i]? = some b->b∈r:=fun i b hi hb=>by
  rw [Yc,List.getElem?_append_right (by rw [X.ku];exact hi)] at hb;exact mG hb
 let E':En:=⟨te E N w,E.β.take N,E.tk,E.τ⟩
 have Ua:OO E E' st.bx N:={
  c:=fun x u hx=>mN h.env hx
  fz:=fun i cs hi hcs=>by
   obtain ⟨b,ty,arr,hb,hw,hc⟩:=h.env.ey i cs hcs;refine ⟨b,arr,hb,hc,fun j u hj=>?_⟩;show te E N w ⟨b,j,none⟩=some u;unfold te;rw [aj ⟨i,hi,hb⟩,cL hw]
   simpa using hj }
 have Cq:KR E E' N st.tk.length:={
  β:=fun i b hi hb=>by show (E.β.take N)[i]? = _;rw [cI,aj hi];exact hb
  tk:=fun k hk=>⟨rfl,rfl⟩ }
 have Yd:∀ (i:Nat) b,N<=i->E.β[i]? = some b->b ∉ E.β.take N:=fun i b hi hb hm=>by
  obtain ⟨j,hj⟩:=List.getElem?_of_mem hm;rw [cI] at hj;split at hj
  ·rename_i hjN;have:=(List.getElem?_inj (gS hb).1 h.env.inj).1 (hb.trans hj.symm);omega
  ·cases hj
 obtain ⟨lS,hog⟩:=jA.get;refine ⟨E',?_⟩
 exact {
  env:={
   len:=by grind
   tl:=h.env.tl
   ey:=fun i cs' hi=>by
    obtain ⟨cs,hcs,vx⟩:=hog i cs' hi;rw [cI] at hcs;split at hcs
    ·rename_i aw;obtain ⟨b,ty,arr,hb,hw,hc⟩:=h.env.ey i cs hcs;exact ⟨b,ty,arr,Cq.β i b aw hb,hw,CcL.sound Ua Cq vx hc.1,hc.2⟩
    ·cases hcs
   inj:=h.env.inj.sublist (List.take_sublist _ _)
   sub:=fun x u hx=>by
    rcases e9 hx with ⟨_,h1⟩ | h1
    ·exact h1
    ·exact h.env.sub x u h1
   pc:=fun x u hx hm=>by
    rcases e9 hx with ⟨⟨i,hi,hb⟩,_⟩ | h1
    ·exact Yd i _ hi hb hm
    ·exact h.env.pc x u h1 (List.mem_of_mem_take hm)
   bU:=fun k q y hq hy=>by
    rcases h.env.bU k q y hq hy with h1 | ⟨g,cap,cur,rfl,h1,h2,h3,h4,h5,h6⟩
    ·exact .inl h1
    ·refine .inr ⟨g,cap,cur,rfl,h1,⟨h2.1,h2.2.mono fun _ _ hx=>mN h.env hx⟩,h3,h4,fun hm=>h5 (List.mem_of_mem_take hm),fun x u hx hg=>?_⟩;rcases e9 hx with ⟨⟨i,hi,hb⟩,_⟩ | h7
     all_goals grind
   jc:=h.env.jc }
  tk:=by rw [jG];exact h.tk
  sz:=h.sz
  tm:=fun i x' Ea=>by
   obtain ⟨x,hx,vx⟩:=AB nW i x' Ea;have:=h.tm i _ hx
   grind [Cc.sound]
  df:=h.df
  nw:={
   c:=fun x u hx=>mN h.env (h.nw.c x u hx)
   cn:=fun x u hx=>by
    rcases e9 hx with ⟨⟨i,hi,hb⟩,_⟩ | h1
    ·grind
    ·exact h.nw.cn x u h1
   β:=by
    refine ⟨r.take (N - X.n0),?_,fun b hb=>hβl b (List.mem_of_mem_take hb)⟩;show E.β.take N=_;rw [Yc,List.take_append,List.take_of_length_le (by rw [X.ku];omega),X.ku]
   tk:=h.nw.tk
   tn:=h.nw.tn
   l0:=h.nw.l0 }
  fr:=h.fr
  sh:=h.sh
  bt:=h.bt.sub _ }
theorem PB {c:Code} (N:Nat) (rF:St) (hN:Nat.ble X.n0 N=true) (hNl:Nat.ble N st.bx.length=true) (jG:rF.tk=st.tk) (jA:mF st.bx N N st.tk.length rF.bx (st.bx.take N)) (nW:PA st.bx N st.tk.length st.sl rF.sl)
  (hk:uG X c k rF):uG X c k st:=by
 intro E a w h;obtain ⟨E',h'⟩:=K1 h N (nL hN) (nL hNl) jA jG nW;exact hk E' a w h'
theorem dq {n0 m0:Nat} {st st':St} (n:Nat) (q:TkE) (hq:q.new=true) (hn:Nat.ble n st.bx.length=true) (h3:st.tk ++ [q]=st'.tk) (h2:WeLL n st.tk.length st'.tk (st.bx.take n) st'.bx) (h4:Nat.ble n0 n=true) (h5:Nat.ble m0 st.tk.length=true)
  (h:oa n st.tk.length st'.tk st.sl st'.sl):qu n0 m0 st st':=by
 have hl:(st.bx.take n).length=n:=by simp_all
 exact ⟨st.tk,[],[q],st.bx.take n,st.bx.drop n,by simpa using h5,by rw [hl];simpa using h4,by simp,h3.symm,by simpa using hq,(List.take_append_drop n st.bx).symm,by rw [hl];exact h2,by rw [hl];exact h⟩
end
end Dv
end Go.Proofs.YtgjagnmeonoehaaGreat
namespace Go.Proofs.YtgjagnmeonoehaaGreat
namespace Dv
open Go Go.RowKit
section
variable {X:Ctx} {st:St} {k:List It} {E:En} {a:Act} {w:World}
theorem mS {f:FuncId} {rest PD cs cs':List DV} {i d:Nat} (kY:Enters X.P f) (hd:ep X.nt st.sl (some d)=true) (jA:st.bx[i]? = some cs) (hcs:CcL [] 0 0 0 cs' cs) (ha:CcL [] 0 0 0 PD rest)
  {Φ:DV->List (List DV)->List TkE->Prop} (hc:Ev X.P f (.loc 0 0 :: PD) [cs'] [] Φ) (gQ:∀ r os tk,Φ r os tk->clB 0 0 r=true/\∀ sL∈os,clB.clL 0 0 sL=true)
  (hk:∀ r sL,Φ r [sL] []->go X 4000 k ⟨(d,⟨[],r⟩) :: st.sl,st.bx.set i sL,st.tk⟩) (bd:X.still=false:=by exact rfl) (hX:X.bt=[]:=by exact rfl):CallG X f (.loc i 0 :: rest) (some d) k st:=by
 refine ⟨kY,bd,fun E a w vs h hv=>?_⟩;simp only [RvL] at hv;obtain ⟨v1,vr,rfl,h1,hvr⟩:=hv;unfold Rv at h1;obtain ⟨b,hb,rfl⟩:=h1;obtain ⟨b',ty,arr,eD,hw,vx⟩:=h.env.ey i cs jA;rw [hb] at eD;simp only [oI] at eD;subst eD;have AD:b∈E.β:=mG hb;have Yv:=h.env.bp AD
 let E1:En:=⟨E.c,[b],[],[]⟩
 have hx1:Ext E.cl E1:=⟨fun _ _ h=>h,fun j b hj=>by simp [En.cl] at hj,fun k q hk=>by simp [En.cl] at hk⟩;have hfz:OO E E.cl [] 0:=⟨fun _ _ h=>h,fun i cs _ hi=>by simp at hi⟩
 have OR:Env E1 [cs'] w:={
  len:=rfl
  tl:=rfl
  ey:=fun j TF hj=>by
   cases j with
   | succ j=>simp at hj
   | zero=>
    simp only [List.getElem?_cons_zero,oI] at hj;subst hj;refine ⟨b,ty,arr,rfl,hw,RvL.mono hx1 (CcL.sound hfz (KR.zero _ _) hcs vx.1),vx.2⟩
  inj:=by simp [E1]
  sub:=h.env.sub
  pc:=fun x v hx hm=>by
   simp only [E1,List.mem_singleton] at hm;exact h.env.pc x v hx (by rw [hm];exact AD)
  bU:=by simp [E1]
  jc:=by simp [E1] }
 have vW:RvL E1 (.loc 0 0 :: PD) (.pointer (some ⟨b,0,none⟩) :: vr):=rvL_cons (by unfold Rv;exact ⟨b,rfl,rfl⟩) (RvL.mono hx1 (CcL.sound hfz (KR.zero _ _) ha hvr));refine (hc E1 w _ OR rfl vW).mono ?_;rintro e w' ⟨v,rfl,hm,_,r,os,E2,he,hβ,jG,hn,Ud,hΦ⟩;have ht0:E2.tk=[]:=List.eq_nil_of_length_eq_zero jG;rw [ht0] at hΦ
 obtain ⟨sL,rfl⟩:∃ sL,os=[sL]:=by
  have:=he.len;rw [hβ] at this
  match os,this with
  | [x],_=>exact ⟨x,rfl⟩
 obtain ⟨hclr,hclc⟩:=gQ _ _ _ hΦ
 have hh:∀ j,j < w.heap.size->j≠b->w'.heap[j]? = w.heap[j]?:=fun j hj aY=>hm.block j hj (by
  rintro (h1 | ⟨y,h1,_⟩)
  ·simp only [E1,List.mem_singleton] at h1;exact aY h1
  ·simp [E1] at h1)
 have eY:∀ x v,E2.c x=some v->E.c x=some v∨w.heap.size<=x.block:=fun x v hx=>by
  rcases hn.cn x v hx with h1 | h1 | ⟨y,h1,_⟩
  ·exact .inl h1
  ·exact .inr h1
  ·simp [E1] at h1
 let E':En:=⟨E2.c,E.β,E.tk,E.τ⟩
 have hx:Ext E E':=⟨hn.c,fun _ _ h=>h,fun _ q h=>⟨q,h,.inl ⟨rfl,rfl⟩⟩⟩;have TG:Ext (E2.cut 0 0) E':=⟨fun _ _ h=>h,fun j b hj=>by simp [En.cut] at hj,fun k q hk=>by simp [En.cut] at hk⟩
 have bY:Rel X E' ⟨st.sl,st.bx.set i sL,st.tk⟩ a w':=by
  refine dC h hx ?_ h.tk ?_ (h.fr.cK hm.os hm.tape hm.output hm.size fun j hj=>?_) (mJ bd) (.nil hX)
  ·exact {
    len:=by rw [List.length_set];exact h.env.len
    tl:=h.env.tl
    ey:=fun j TF hj=>by
     by_cases X5:j=i
     ·subst X5;rw [gz (gS jA).1] at hj;simp only [oI] at hj;subst hj;obtain ⟨b2,ty2,Yw,eP,mA,nV⟩:=he.ey 0 sL rfl;rw [hβ] at eP;simp only [E1,List.getElem?_cons_zero,oI] at eP;subst eP;exact ⟨b,ty2,Yw,hb,mA,RvL.mono TG (RvL.cut nV.1 (hclc sL (by simp))),nV.2⟩
     ·rw [List.getElem?_set_ne (Ne.symm X5)] at hj;obtain ⟨bj,tyj,Yx,Wi,hwj,XY⟩:=h.env.ey j TF hj
      have aY:bj≠b:=by
       rintro rfl;exact X5 ((List.getElem?_inj (gS Wi).1 h.env.inj).1 (Wi.trans hb.symm))
      exact ⟨bj,tyj,Yx,Wi,by rw [hh bj (dj hwj) aY];exact hwj,XY.mono hx⟩
    inj:=h.env.inj
    sub:=he.sub
    pc:=fun x v hc rq=>by
     rcases eY x v hc with h1 | h1
     ·exact h.env.pc x v h1 rq
     ·have:=h.env.bp rq;omega
    bU:=fun k q y hq hy=>by
     rcases h.env.bU k q y hq hy with h1 | ⟨g',cap,cur,rfl,h1,h2,h3,h4,h5,h6⟩
     ·exact .inl h1
     ·refine .inr ⟨g',cap,cur,rfl,by rw [hh g' (dj h1) (fun e=>h5 (by rw [e];exact AD))];exact h1,⟨h2.1,h2.2.mono hn.c⟩,h3,h4,h5,fun x v hc hg=>?_⟩;rcases eY x v hc with h7 | h7
      ·exact h6 x v h7 hg
      ·have:=dj h1;omega
    jc:=h.env.jc }
  ·exact {
    c:=fun x v hc=>hn.c x v (h.nw.c x v hc)
    cn:=fun x v hc=>by
     rcases eY x v hc with h1 | h1
     ·exact h.nw.cn x v h1
     ·have:=h.fr.size;exact .inr (.inl (by omega))
    β:=h.nw.β
    tk:=h.nw.tk
    tn:=h.nw.tn
    l0:=h.nw.l0 }
  ·by_cases XZ:j=b
   ·left;obtain ⟨r0,hr0,HR⟩:=h.nw.β;rw [hr0] at AD;rcases List.mem_append.1 AD with AD | AD
    ·exact .inl (.inl (XZ ▸ AD))
    ·exact .inr (XZ ▸ HR b AD)
   ·exact .inr (hh j hj XZ)
 exact go_sound 4000 _ _ (hk r sL hΦ) E' _ w' (bc bY hd r v (Rv.mono TG (Rv.cut Ud hclr)))
end
end Dv
end Go.Proofs.YtgjagnmeonoehaaGreat
namespace Go.Proofs.YtgjagnmeonoehaaGreat
namespace Dv
open Go
def tt:TT:=.ah 229 ⟨1,false,.fn,[.nilFunc]⟩ (.ah 114 ⟨1,false,.sl 91 7 88,[.slice none 0 0]⟩ (.ah 55 ⟨1,false,.fn,[.nilFunc]⟩ (.ah 27 ⟨2,true,.st [(0,9),(1,3)],[.string ByteArray.empty,.int .i64 0]⟩ (.ah 14 ⟨2,true,.st [(0,9),(1,12)],[.string ByteArray.empty,.int .u64 0]⟩ (.ah 7 ⟨4,true,.st [(0,2),(1,3),(2,4),(3,6)],[.int .i64 0,.int .i64 0,.bool false,.int .u8 0]⟩ (.ah 4 ⟨1,false,.bool,[.bool false]⟩ (.ah 2 ⟨1,false,.int .i64,[.int .i64 0]⟩ (.ah 1 ⟨1,false,.fn,[.nilFunc]⟩ (.nil) (.nil)) (.ah 3 ⟨1,false,.int .i64,[.int .i64 0]⟩ (.nil) (.nil))) (.ah 6 ⟨1,false,.int .u8,[.int .u8 0]⟩ (.ah 5 ⟨1,false,.int .u8,[.int .u8 0]⟩ (.nil) (.nil)) (.nil))) (.ah 11 ⟨1,false,.str,[.string ByteArray.empty]⟩ (.ah 9 ⟨1,false,.str,[.string ByteArray.empty]⟩ (.ah 8 ⟨4,true,.st [(0,2),(1,3),(2,4),(3,6)],[.int .i64 0,.int .i64 0,.bool false,.int .u8 0]⟩ (.nil) (.nil)) (.ah 10 ⟨1,false,.str,[.string ByteArray.empty]⟩ (.nil) (.nil))) (.ah 13 ⟨2,true,.st [(0,9),(1,12)],[.string ByteArray.empty,.int .u64 0]⟩ (.ah 12 ⟨1,false,.int .u64,[.int .u64 0]⟩ (.nil) (.nil)) (.nil)))) (.ah 21 ⟨1,false,.int .i32,[.int .i32 0]⟩ (.ah 18 ⟨1,true,.st [(0,17)],[.pointer none]⟩ (.ah 16 ⟨1,false,.ptr 452,[.pointer none]⟩ (.ah 15 ⟨1,false,.ptr 449,[.pointer none]⟩ (.nil) (.nil)) (.ah 17 ⟨1,false,.ptr 459,[.pointer none]⟩ (.nil) (.nil))) (.ah 20 ⟨1,false,.rc,[.nilIface]⟩ (.ah 19 ⟨1,true,.st [(0,17)],[.pointer none]⟩ (.nil) (.nil)) (.nil))) (.ah 24 ⟨1,false,.sl 124 11 136,[.slice none 0 0]⟩ (.ah 23 ⟨1,false,.sl 171 4 48,[.slice none 0 0]⟩ (.ah 22 ⟨1,false,.sl 27 2 24,[.slice none 0 0]⟩ (.nil) (.nil)) (.nil)) (.ah 26 ⟨2,true,.st [(0,9),(1,3)],[.string ByteArray.empty,.int .i64 0]⟩ (.ah 25 ⟨1,false,.sl 109 18 224,[.slice none 0 0]⟩ (.nil) (.nil)) (.nil))))) (.ah 40 ⟨1,false,.fn,[.nilFunc]⟩ (.ah 34 ⟨4,true,.st [(0,3),(1,3),(2,9),(3,32)],[.int .i64 0,.int .i64 0,.string ByteArray.empty,.slice none 0 0]⟩ (.ah 31 ⟨12,true,.st [(0,22),(1,23),(2,24),(3,29)],[.slice none 0 0,.slice none 0 0,.slice none 0 0,.int .i64 0,.int .i64 0,.int .i64 0,.int .i64 0,.int .i64 0,.slice none 0 0,.slice none 0 0,.string ByteArray.empty,.int .i64 0]⟩ (.ah 29 ⟨9,true,.st [(0,3),(1,3),(2,3),(3,3),(4,3),(5,22),(6,25),(7,27)],[.int .i64 0,.int .i64 0,.int .i64 0,.int .i64 0,.int .i64 0,.slice none 0 0,.slice none 0 0,.string ByteArray.empty,.int .i64 0]⟩ (.ah 28 ⟨9,true,.st [(0,3),(1,3),(2,3),(3,3),(4,3),(5,22),(6,25),(7,27)],[.int .i64 0,.int .i64 0,.int .i64 0,.int .i64 0,.int .i64 0,.slice none 0 0,.slice none 0 0,.string ByteArray.empty,.int .i64 0]⟩ (.nil) (.nil)) (.ah 30 ⟨12,true,.st [(0,22),(1,23),(2,24),(3,29)],[.slice none 0 0,.slice none 0 0,.slice none 0 0,.int .i64 0,.int .i64 0,.int .i64 0,.int .i64 0,.int .i64 0,.slice none 0 0,.slice none 0 0,.string ByteArray.empty,.int .i64 0]⟩ (.nil) (.nil))) (.ah 33 ⟨4,true,.st [(0,3),(1,3),(2,9),(3,32)],[.int .i64 0,.int .i64 0,.string ByteArray.empty,.slice none 0 0]⟩ (.ah 32 ⟨1,false,.sl 34 4 56,[.slice none 0 0]⟩ (.nil) (.nil)) (.nil))) (.ah 37 ⟨2,true,.st [(0,3),(1,35)],[.int .i64 0,.slice none 0 0]⟩ (.ah 36 ⟨2,true,.st [(0,3),(1,35)],[.int .i64 0,.slice none 0 0]⟩ (.ah 35 ⟨1,false,.sl 58 10 144,[.slice none 0 0]⟩ (.nil) (.nil)) (.nil)) (.ah 39 ⟨1,false,.fn,[.nilFunc]⟩ (.ah 38 ⟨1,false,.fn,[.nilFunc]⟩ (.nil) (.nil)) (.nil)))) (.ah 48 ⟨1,false,.sl 132 7 88,[.slice none 0 0]⟩ (.ah 44 ⟨2,true,.st [(0,42),(1,3)],[.int .i64 0,.int .i64 0]⟩ (.ah 42 ⟨1,false,.int .i64,[.int .i64 0]⟩ (.ah 41 ⟨1,false,.ptr 117,[.pointer none]⟩ (.nil) (.nil)) (.ah 43 ⟨2,true,.st [(0,42),(1,3)],[.int .i64 0,.int .i64 0]⟩ (.nil) (.nil))) (.ah 47 ⟨1,false,.sl 186 1 24,[.slice none 0 0]⟩ (.ah 46 ⟨1,false,.fn,[.nilFunc]⟩ (.nil) (.nil)) (.nil))) (.ah 51 ⟨1,false,.fn,[.nilFunc]⟩ (.ah 50 ⟨4,true,.st [(0,22),(1,47),(2,48),(3,3)],[.slice none 0 0,.slice none 0 0,.slice none 0 0,.int .i64 0]⟩ (.ah 49 ⟨4,true,.st [(0,22),(1,47),(2,48),(3,3)],[.slice none 0 0,.slice none 0 0,.slice none 0 0,.int .i64 0]⟩ (.nil) (.nil)) (.nil)) (.ah 54 ⟨1,false,.fn,[.nilFunc]⟩ (.ah 53 ⟨1,false,.fn,[.nilFunc]⟩ (.nil) (.nil)) (.nil)))))) (.ah 83 ⟨1,false,.fn,[.nilFunc]⟩ (.ah 70 ⟨3,true,.ar 3 1,[.int .i64 0,.int .i64 0,.int .i64 0]⟩ (.ah 62 ⟨1,false,.fn,[.nilFunc]⟩ (.ah 59 ⟨10,true,.st [(0,3),(1,56),(2,34),(6,34)],[.int .i64 0,.slice none 0 0,.int .i64 0,.int .i64 0,.string ByteArray.empty,.slice none 0 0,.int .i64 0,.int .i64 0,.string ByteArray.empty,.slice none 0 0]⟩ (.ah 57 ⟨10,true,.st [(0,3),(1,56),(2,34),(6,34)],[.int .i64 0,.slice none 0 0,.int .i64 0,.int .i64 0,.string ByteArray.empty,.slice none 0 0,.int .i64 0,.int .i64 0,.string ByteArray.empty,.slice none 0 0]⟩ (.ah 56 ⟨1,false,.sl 141 3 32,[.slice none 0 0]⟩ (.nil) (.nil)) (.ah 58 ⟨10,true,.st [(0,3),(1,56),(2,34),(6,34)],[.int .i64 0,.slice none 0 0,.int .i64 0,.int .i64 0,.string ByteArray.empty,.slice none 0 0,.int .i64 0,.int .i64 0,.string ByteArray.empty,.slice none 0 0]⟩ (.nil) (.nil))) (.ah 61 ⟨1,false,.fn,[.nilFunc]⟩ (.ah 60 ⟨1,false,.fn,[.nilFunc]⟩ (.nil) (.nil)) (.nil))) (.ah 67 ⟨1,false,.fn,[.nilFunc]⟩ (.ah 64 ⟨1,false,.fn,[.nilFunc]⟩ (.ah 63 ⟨8,true,.ar 2 4,[.int .i64 0,.int .i64 0,.string ByteArray.empty,.slice none 0 0,.int .i64 0,.int .i64 0,.string ByteArray.empty,.slice none 0 0]⟩ (.nil) (.nil)) (.ah 66 ⟨1,false,.fn,[.nilFunc]⟩ (.nil) (.nil))) (.ah 69 ⟨1,false,.fn,[.nilFunc]⟩ (.ah 68 ⟨1,false,.fn,[.nilFunc]⟩ (.nil) (.nil)) (.nil)))) (.ah 77 ⟨1,false,.fn,[.nilFunc]⟩ (.ah 74 ⟨1,false,.fn,[.nilFunc]⟩ (.ah 72 ⟨1,false,.fn,[.nilFunc]⟩ (.ah 71 ⟨1,false,.fn,[.nilFunc]⟩ (.nil) (.nil)) (.ah 73 ⟨1,false,.sl 9 1 16,[.slice none 0 0]⟩ (.nil) (.nil))) (.ah 76 ⟨1,false,.fn,[.nilFunc]⟩ (.ah 75 ⟨1,false,.fn,[.nilFunc]⟩ (.nil) (.nil)) (.nil))) (.ah 80 ⟨1,false,.sl 85 4 48,[.slice none 0 0]⟩ (.ah 79 ⟨1,false,.fn,[.nilFunc]⟩ (.ah 78 ⟨1,false,.fn,[.nilFunc]⟩ (.nil) (.nil)) (.nil)) (.ah 82 ⟨1,false,.sl 3 1 8,[.slice none 0 0]⟩ (.ah 81 ⟨1,false,.fn,[.nilFunc]⟩ (.nil) (.nil)) (.nil))))) (.ah 98 ⟨3,true,.st [(0,3),(1,96),(2,32)],[.int .i64 0,.slice none 0 0,.slice none 0 0]⟩ (.ah 91 ⟨7,true,.st [(0,3),(1,3),(2,3),(3,3),(4,3),(5,73),(6,89)],[.int .i64 0,.int .i64 0,.int .i64 0,.int .i64 0,.int .i64 0,.slice none 0 0,.slice none 0 0]⟩ (.ah 88 ⟨1,false,.fn,[.nilFunc]⟩ (.ah 85 ⟨4,true,.st [(0,56),(1,3),(2,3),(3,3)],[.slice none 0 0,.int .i64 0,.int .i64 0,.int .i64 0]⟩ (.ah 84 ⟨4,true,.st [(0,56),(1,3),(2,3),(3,3)],[.slice none 0 0,.int .i64 0,.int .i64 0,.int .i64 0]⟩ (.nil) (.nil)) (.ah 87 ⟨1,false,.fn,[.nilFunc]⟩ (.nil) (.nil))) (.ah 90 ⟨7,true,.st [(0,3),(1,3),(2,3),(3,3),(4,3),(5,73),(6,89)],[.int .i64 0,.int .i64 0,.int .i64 0,.int .i64 0,.int .i64 0,.slice none 0 0,.slice none 0 0]⟩ (.ah 89 ⟨1,false,.sl 193 10 88,[.slice none 0 0]⟩ (.nil) (.nil)) (.nil))) (.ah 95 ⟨1,false,.fn,[.nilFunc]⟩ (.ah 94 ⟨1,false,.fn,[.nilFunc]⟩ (.ah 93 ⟨1,false,.fn,[.nilFunc]⟩ (.nil) (.nil)) (.nil)) (.ah 97 ⟨3,true,.st [(0,3),(1,96),(2,32)],[.int .i64 0,.slice none 0 0,.slice none 0 0]⟩ (.ah 96 ⟨1,false,.sl 199 8 120,[.slice none 0 0]⟩ (.nil) (.nil)) (.nil)))) (.ah 107 ⟨4,true,.st [(0,3),(1,3),(2,3),(3,22)],[.int .i64 0,.int .i64 0,.int .i64 0,.slice none 0 0]⟩ (.ah 103 ⟨1,false,.fn,[.nilFunc]⟩ (.ah 101 ⟨1,false,.fn,[.nilFunc]⟩ (.ah 99 ⟨1,false,.fn,[.nilFunc]⟩ (.nil) (.nil)) (.ah 102 ⟨1,false,.fn,[.nilFunc]⟩ (.nil) (.nil))) (.ah 106 ⟨4,true,.st [(0,3),(1,3),(2,3),(3,22)],[.int .i64 0,.int .i64 0,.int .i64 0,.slice none 0 0]⟩ (.ah 105 ⟨1,false,.fn,[.nilFunc]⟩ (.nil) (.nil)) (.nil))) (.ah 110 ⟨1,false,.ptr 213,[.pointer none]⟩ (.ah 109 ⟨18,true,.st [(0,27),(2,4),(3,22),(4,3),(5,107),(9,29)],[.string ByteArray.empty,.int .i64 0,.bool false,.slice none 0 0,.int .i64 0,.int .i64 0,.int .i64 0,.int .i64 0,.slice none 0 0,.int .i64 0,.int .i64 0,.int .i64 0,.int .i64 0,.int .i64 0,.slice none 0 0,.slice none 0 0,.string ByteArray.empty,.int .i64 0]⟩ (.ah 108 ⟨18,true,.st [(0,27),(2,4),(3,22),(4,3),(5,107),(9,29)],[.string ByteArray.empty,.int .i64 0,.bool false,.slice none 0 0,.int .i64 0,.int .i64 0,.int .i64 0,.int .i64 0,.slice none 0 0,.int .i64 0,.int .i64 0,.int .i64 0,.int .i64 0,.int .i64 0,.slice none 0 0,.slice none 0 0,.string ByteArray.empty,.int .i64 0]⟩ (.nil) (.nil)) (.nil)) (.ah 113 ⟨1,false,.ptr 119,[.pointer none]⟩ (.ah 112 ⟨1,false,.fn,[.nilFunc]⟩ (.nil) (.nil)) (.nil))))))) (.ah 170 ⟨4,true,.st [(0,27),(2,27)],[.string ByteArray.empty,.int .i64 0,.string ByteArray.empty,.int .i64 0]⟩ (.ah 141 ⟨3,true,.st [(0,3),(1,3),(2,9)],[.int .i64 0,.int .i64 0,.string ByteArray.empty]⟩ (.ah 128 ⟨1,false,.fn,[.nilFunc]⟩ (.ah 121 ⟨1,false,.fn,[.nilFunc]⟩ (.ah 118 ⟨15,true,.st [(0,31),(12,110),(13,41),(14,3)],[.slice none 0 0,.slice none 0 0,.slice none 0 0,.int .i64 0,.int .i64 0,.int .i64 0,.int .i64 0,.int .i64 0,.slice none 0 0,.slice none 0 0,.string ByteArray.empty,.int .i64 0,.pointer none,.pointer none,.int .i64 0]⟩ (.ah 116 ⟨5,true,.st [(0,110),(1,114),(2,3),(3,115),(4,82)],[.pointer none,.slice none 0 0,.int .i64 0,.pointer none,.slice none 0 0]⟩ (.ah 115 ⟨1,false,.ptr 289,[.pointer none]⟩ (.nil) (.nil)) (.ah 117 ⟨5,true,.st [(0,110),(1,114),(2,3),(3,115),(4,82)],[.pointer none,.slice none 0 0,.int .i64 0,.pointer none,.slice none 0 0]⟩ (.nil) (.nil))) (.ah 120 ⟨1,false,.fn,[.nilFunc]⟩ (.ah 119 ⟨15,true,.st [(0,31),(12,110),(13,41),(14,3)],[.slice none 0 0,.slice none 0 0,.slice none 0 0,.int .i64 0,.int .i64 0,.int .i64 0,.int .i64 0,.int .i64 0,.slice none 0 0,.slice none 0 0,.string ByteArray.empty,.int .i64 0,.pointer none,.pointer none,.int .i64 0]⟩ (.nil) (.nil)) (.nil))) (.ah 125 ⟨1,false,.fn,[.nilFunc]⟩ (.ah 123 ⟨11,true,.st [(0,27),(2,29)],[.string ByteArray.empty,.int .i64 0,.int .i64 0,.int .i64 0,.int .i64 0,.int .i64 0,.int .i64 0,.slice none 0 0,.slice none 0 0,.string ByteArray.empty,.int .i64 0]⟩ (.ah 122 ⟨1,false,.fn,[.nilFunc]⟩ (.nil) (.nil)) (.ah 124 ⟨11,true,.st [(0,27),(2,29)],[.string ByteArray.empty,.int .i64 0,.int .i64 0,.int .i64 0,.int .i64 0,.int .i64 0,.int .i64 0,.slice none 0 0,.slice none 0 0,.string ByteArray.empty,.int .i64 0]⟩ (.nil) (.nil))) (.ah 127 ⟨1,false,.sl 29 9 112,[.slice none 0 0]⟩ (.ah 126 ⟨1,false,.fn,[.nilFunc]⟩ (.nil) (.nil)) (.nil)))) (.ah 135 ⟨1,false,.fn,[.nilFunc]⟩ (.ah 132 ⟨7,true,.st [(0,3),(1,3),(2,3),(3,3),(4,3),(5,73),(6,130)],[.int .i64 0,.int .i64 0,.int .i64 0,.int .i64 0,.int .i64 0,.slice none 0 0,.slice none 0 0]⟩ (.ah 130 ⟨1,false,.sl 144 10 88,[.slice none 0 0]⟩ (.ah 129 ⟨1,false,.fn,[.nilFunc]⟩ (.nil) (.nil)) (.ah 131 ⟨7,true,.st [(0,3),(1,3),(2,3),(3,3),(4,3),(5,73),(6,130)],[.int .i64 0,.int .i64 0,.int .i64 0,.int .i64 0,.int .i64 0,.slice none 0 0,.slice none 0 0]⟩ (.nil) (.nil))) (.ah 134 ⟨1,false,.fn,[.nilFunc]⟩ (.ah 133 ⟨1,false,.fn,[.nilFunc]⟩ (.nil) (.nil)) (.nil))) (.ah 138 ⟨1,false,.fn,[.nilFunc]⟩ (.ah 137 ⟨1,false,.fn,[.nilFunc]⟩ (.ah 136 ⟨1,false,.fn,[.nilFunc]⟩ (.nil) (.nil)) (.nil)) (.ah 140 ⟨3,true,.st [(0,3),(1,3),(2,9)],[.int .i64 0,.int .i64 0,.string ByteArray.empty]⟩ (.ah 139 ⟨1,false,.fn,[.nilFunc]⟩ (.nil) (.nil)) (.nil))))) (.ah 155 ⟨1,false,.fn,[.nilFunc]⟩ (.ah 148 ⟨3,true,.st [(0,41),(1,110),(2,3)],[.pointer none,.pointer none,.int .i64 0]⟩ (.ah 145 ⟨1,false,.fn,[.nilFunc]⟩ (.ah 143 ⟨10,true,.st [(0,9),(1,4),(2,3),(3,3),(4,3),(5,3),(6,3),(7,3),(8,3),(9,3)],[.string ByteArray.empty,.bool false,.int .i64 0,.int .i64 0,.int .i64 0,.int .i64 0,.int .i64 0,.int .i64 0,.int .i64 0,.int .i64 0]⟩ (.ah 142 ⟨1,false,.fn,[.nilFunc]⟩ (.nil) (.nil)) (.ah 144 ⟨10,true,.st [(0,9),(1,4),(2,3),(3,3),(4,3),(5,3),(6,3),(7,3),(8,3),(9,3)],[.string ByteArray.empty,.bool false,.int .i64 0,.int .i64 0,.int .i64 0,.int .i64 0,.int .i64 0,.int .i64 0,.int .i64 0,.int .i64 0]⟩ (.nil) (.nil))) (.ah 147 ⟨3,true,.st [(0,41),(1,110),(2,3)],[.pointer none,.pointer none,.int .i64 0]⟩ (.ah 146 ⟨1,false,.fn,[.nilFunc]⟩ (.nil) (.nil)) (.nil))) (.ah 152 ⟨1,false,.ptr 154,[.pointer none]⟩ (.ah 151 ⟨1,false,.fn,[.nilFunc]⟩ (.ah 150 ⟨1,false,.fn,[.nilFunc]⟩ (.nil) (.nil)) (.nil)) (.ah 154 ⟨2,true,.st [(0,41),(1,35)],[.pointer none,.slice none 0 0]⟩ (.ah 153 ⟨2,true,.st [(0,41),(1,35)],[.pointer none,.slice none 0 0]⟩ (.nil) (.nil)) (.nil)))) (.ah 162 ⟨1,false,.rc,[.nilIface]⟩ (.ah 159 ⟨2,true,.st [(0,157),(1,158)],[.pointer none,.slice none 0 0]⟩ (.ah 157 ⟨1,false,.ptr 160,[.pointer none]⟩ (.ah 156 ⟨1,false,.fn,[.nilFunc]⟩ (.nil) (.nil)) (.ah 158 ⟨1,false,.sl 5 1 1,[.slice none 0 0]⟩ (.nil) (.nil))) (.ah 161 ⟨1,false,.rc,[.nilIface]⟩ (.ah 160 ⟨2,true,.st [(0,157),(1,158)],[.pointer none,.slice none 0 0]⟩ (.nil) (.nil)) (.nil))) (.ah 166 ⟨1,false,.fn,[.nilFunc]⟩ (.ah 165 ⟨1,false,.fn,[.nilFunc]⟩ (.ah 164 ⟨1,false,.fn,[.nilFunc]⟩ (.nil) (.nil)) (.nil)) (.ah 169 ⟨1,false,.fn,[.nilFunc]⟩ (.ah 168 ⟨1,false,.fn,[.nilFunc]⟩ (.nil) (.nil)) (.nil)))))) (.ah 198 ⟨8,true,.st [(0,56),(1,3),(2,197)],[.slice none 0 0,.int .i64 0,.int .i64 0,.int .i64 0,.int .i64 0,.string ByteArray.empty,.slice none 0 0,.slice none 0 0]⟩ (.ah 185 ⟨1,false,.fn,[.nilFunc]⟩ (.ah 177 ⟨5,true,.st [(0,41),(1,110),(2,3),(3,3),(4,80)],[.pointer none,.pointer none,.int .i64 0,.int .i64 0,.slice none 0 0]⟩ (.ah 174 ⟨1,false,.fn,[.nilFunc]⟩ (.ah 172 ⟨1,false,.fn,[.nilFunc]⟩ (.ah 171 ⟨4,true,.st [(0,27),(2,27)],[.string ByteArray.empty,.int .i64 0,.string ByteArray.empty,.int .i64 0]⟩ (.nil) (.nil)) (.ah 173 ⟨1,false,.fn,[.nilFunc]⟩ (.nil) (.nil))) (.ah 176 ⟨1,false,.ptr 178,[.pointer none]⟩ (.ah 175 ⟨1,false,.fn,[.nilFunc]⟩ (.nil) (.nil)) (.nil))) (.ah 182 ⟨1,false,.fn,[.nilFunc]⟩ (.ah 179 ⟨1,false,.fn,[.nilFunc]⟩ (.ah 178 ⟨5,true,.st [(0,41),(1,110),(2,3),(3,3),(4,80)],[.pointer none,.pointer none,.int .i64 0,.int .i64 0,.slice none 0 0]⟩ (.nil) (.nil)) (.ah 181 ⟨1,false,.fn,[.nilFunc]⟩ (.nil) (.nil))) (.ah 184 ⟨1,false,.fn,[.nilFunc]⟩ (.ah 183 ⟨1,false,.ptr 188,[.pointer none]⟩ (.nil) (.nil)) (.nil)))) (.ah 192 ⟨1,false,.fn,[.nilFunc]⟩ (.ah 189 ⟨1,false,.fn,[.nilFunc]⟩ (.ah 187 ⟨6,true,.st [(0,41),(1,114),(2,82),(3,186),(4,82),(5,82)],[.pointer none,.slice none 0 0,.slice none 0 0,.slice none 0 0,.slice none 0 0,.slice none 0 0]⟩ (.ah 186 ⟨1,false,.sl 4 1 1,[.slice none 0 0]⟩ (.nil) (.nil)) (.ah 188 ⟨6,true,.st [(0,41),(1,114),(2,82),(3,186),(4,82),(5,82)],[.pointer none,.slice none 0 0,.slice none 0 0,.slice none 0 0,.slice none 0 0,.slice none 0 0]⟩ (.nil) (.nil))) (.ah 191 ⟨1,false,.fn,[.nilFunc]⟩ (.ah 190 ⟨1,false,.fn,[.nilFunc]⟩ (.nil) (.nil)) (.nil))) (.ah 195 ⟨1,false,.sl 197 6 88,[.slice none 0 0]⟩ (.ah 194 ⟨1,false,.fn,[.nilFunc]⟩ (.ah 193 ⟨10,true,.st [(0,9),(1,4),(2,3),(3,3),(4,3),(5,3),(6,3),(7,3),(8,3),(9,3)],[.string ByteArray.empty,.bool false,.int .i64 0,.int .i64 0,.int .i64 0,.int .i64 0,.int .i64 0,.int .i64 0,.int .i64 0,.int .i64 0]⟩ (.nil) (.nil)) (.nil)) (.ah 197 ⟨6,true,.st [(0,3),(1,3),(2,3),(3,9),(4,22),(5,195)],[.int .i64 0,.int .i64 0,.int .i64 0,.string ByteArray.empty,.slice none 0 0,.slice none 0 0]⟩ (.ah 196 ⟨6,true,.st [(0,3),(1,3),(2,3),(3,9),(4,22),(5,195)],[.int .i64 0,.int .i64 0,.int .i64 0,.string ByteArray.empty,.slice none 0 0,.slice none 0 0]⟩ (.nil) (.nil)) (.nil))))) (.ah 213 ⟨2051,true,.st [(0,73),(1,115),(2,209),(3,211),(1027,211)],(.slice none 0 0 :: .pointer none :: .pointer none :: List.replicate 2048 (.int .i64 0))⟩ (.ah 207 ⟨1,false,.fn,[.nilFunc]⟩ (.ah 202 ⟨1,false,.fn,[.nilFunc]⟩ (.ah 200 ⟨1,false,.fn,[.nilFunc]⟩ (.ah 199 ⟨8,true,.st [(0,56),(1,3),(2,197)],[.slice none 0 0,.int .i64 0,.int .i64 0,.int .i64 0,.int .i64 0,.string ByteArray.empty,.slice none 0 0,.slice none 0 0]⟩ (.nil) (.nil)) (.ah 201 ⟨1,false,.fn,[.nilFunc]⟩ (.nil) (.nil))) (.ah 205 ⟨1,false,.fn,[.nilFunc]⟩ (.ah 204 ⟨1,false,.fn,[.nilFunc]⟩ (.nil) (.nil)) (.nil))) (.ah 210 ⟨32,true,.ar 32 1,[.int .i64 0,.int .i64 0,.int .i64 0,.int .i64 0,.int .i64 0,.int .i64 0,.int .i64 0,.int .i64 0,.int .i64 0,.int .i64 0,.int .i64 0,.int .i64 0,.int .i64 0,.int .i64 0,.int .i64 0,.int .i64 0,.int .i64 0,.int .i64 0,.int .i64 0,.int .i64 0,.int .i64 0,.int .i64 0,.int .i64 0,.int .i64 0,.int .i64 0,.int .i64 0,.int .i64 0,.int .i64 0,.int .i64 0,.int .i64 0,.int .i64 0,.int .i64 0]⟩ (.ah 209 ⟨1,false,.ptr 294,[.pointer none]⟩ (.ah 208 ⟨1,false,.fn,[.nilFunc]⟩ (.nil) (.nil)) (.nil)) (.ah 212 ⟨2051,true,.st [(0,73),(1,115),(2,209),(3,211),(1027,211)],(.slice none 0 0 :: .pointer none :: .pointer none :: List.replicate 2048 (.int .i64 0))⟩ (.ah 211 ⟨1024,true,.ar 32 32,(List.replicate 1024 (.int .i64 0))⟩ (.nil) (.nil)) (.nil)))) (.ah 223 ⟨1,false,.fn,[.nilFunc]⟩ (.ah 220 ⟨1,false,.fn,[.nilFunc]⟩ (.ah 216 ⟨1,false,.fn,[.nilFunc]⟩ (.ah 214 ⟨1,false,.sl 291 2 16,[.slice none 0 0]⟩ (.nil) (.nil)) (.ah 218 ⟨1,false,.fn,[.nilFunc]⟩ (.nil) (.nil))) (.ah 222 ⟨1,false,.fn,[.nilFunc]⟩ (.ah 221 ⟨1,false,.fn,[.nilFunc]⟩ (.nil) (.nil)) (.nil))) (.ah 226 ⟨1,false,.fn,[.nilFunc]⟩ (.ah 225 ⟨1,false,.sl 22 1 24,[.slice none 0 0]⟩ (.ah 224 ⟨1,false,.fn,[.nilFunc]⟩ (.nil) (.nil)) (.nil)) (.ah 228 ⟨1,false,.fn,[.nilFunc]⟩ (.ah 227 ⟨1,false,.fn,[.nilFunc]⟩ (.nil) (.nil)) (.nil)))))))) (.ah 346 ⟨1,false,.int .u64,[.int .u64 0]⟩ (.ah 288 ⟨2,true,.st [(0,73),(1,82)],[.slice none 0 0,.slice none 0 0]⟩ (.ah 258 ⟨1,false,.ptr 5,[.pointer none]⟩ (.ah 243 ⟨1,false,.fn,[.nilFunc]⟩ (.ah 236 ⟨1,false,.fn,[.nilFunc]⟩ (.ah 233 ⟨1,false,.fn,[.nilFunc]⟩ (.ah 231 ⟨1,false,.fn,[.nilFunc]⟩ (.ah 230 ⟨1,false,.fn,[.nilFunc]⟩ (.nil) (.nil)) (.ah 232 ⟨1,false,.fn,[.nilFunc]⟩ (.nil) (.nil))) (.ah 235 ⟨1,false,.fn,[.nilFunc]⟩ (.ah 234 ⟨1,false,.fn,[.nilFunc]⟩ (.nil) (.nil)) (.nil))) (.ah 240 ⟨1,false,.fn,[.nilFunc]⟩ (.ah 238 ⟨1,false,.fn,[.nilFunc]⟩ (.ah 237 ⟨1,false,.fn,[.nilFunc]⟩ (.nil) (.nil)) (.ah 239 ⟨1,false,.fn,[.nilFunc]⟩ (.nil) (.nil))) (.ah 242 ⟨1,false,.fn,[.nilFunc]⟩ (.ah 241 ⟨1,false,.fn,[.nilFunc]⟩ (.nil) (.nil)) (.nil)))) (.ah 252 ⟨1,false,.fn,[.nilFunc]⟩ (.ah 249 ⟨1,false,.fn,[.nilFunc]⟩ (.ah 247 ⟨1,false,.fn,[.nilFunc]⟩ (.ah 245 ⟨1,false,.fn,[.nilFunc]⟩ (.nil) (.nil)) (.ah 248 ⟨1,false,.fn,[.nilFunc]⟩ (.nil) (.nil))) (.ah 251 ⟨1,false,.fn,[.nilFunc]⟩ (.ah 250 ⟨1,false,.fn,[.nilFunc]⟩ (.nil) (.nil)) (.nil))) (.ah 255 ⟨1,false,.fn,[.nilFunc]⟩ (.ah 254 ⟨1,false,.fn,[.nilFunc]⟩ (.ah 253 ⟨1,false,.fn,[.nilFunc]⟩ (.nil) (.nil)) (.nil)) (.ah 257 ⟨1,false,.fn,[.nilFunc]⟩ (.ah 256 ⟨1,false,.fn,[.nilFunc]⟩ (.nil) (.nil)) (.nil))))) (.ah 272 ⟨2,true,.st [(0,3),(1,3)],[.int .i64 0,.int .i64 0]⟩ (.ah 265 ⟨1,false,.fn,[.nilFunc]⟩ (.ah 262 ⟨1,false,.fn,[.nilFunc]⟩ (.ah 260 ⟨3,true,.st [(0,41),(1,110),(2,3)],[.pointer none,.pointer none,.int .i64 0]⟩ (.ah 259 ⟨3,true,.st [(0,41),(1,110),(2,3)],[.pointer none,.pointer none,.int .i64 0]⟩ (.nil) (.nil)) (.ah 261 ⟨1,false,.fn,[.nilFunc]⟩ (.nil) (.nil))) (.ah 264 ⟨1,false,.fn,[.nilFunc]⟩ (.ah 263 ⟨1,false,.fn,[.nilFunc]⟩ (.nil) (.nil)) (.nil))) (.ah 269 ⟨1,false,.fn,[.nilFunc]⟩ (.ah 267 ⟨1,false,.fn,[.nilFunc]⟩ (.ah 266 ⟨1,false,.fn,[.nilFunc]⟩ (.nil) (.nil)) (.nil)) (.ah 271 ⟨2,true,.st [(0,3),(1,3)],[.int .i64 0,.int .i64 0]⟩ (.ah 270 ⟨1,false,.fn,[.nilFunc]⟩ (.nil) (.nil)) (.nil)))) (.ah 282 ⟨1,false,.fn,[.nilFunc]⟩ (.ah 277 ⟨1,false,.fn,[.nilFunc]⟩ (.ah 275 ⟨1,false,.fn,[.nilFunc]⟩ (.ah 274 ⟨1,false,.fn,[.nilFunc]⟩ (.nil) (.nil)) (.ah 276 ⟨1,false,.fn,[.nilFunc]⟩ (.nil) (.nil))) (.ah 280 ⟨1,false,.fn,[.nilFunc]⟩ (.ah 279 ⟨1,false,.fn,[.nilFunc]⟩ (.nil) (.nil)) (.nil))) (.ah 285 ⟨1,false,.fn,[.nilFunc]⟩ (.ah 284 ⟨1,false,.fn,[.nilFunc]⟩ (.ah 283 ⟨1,false,.fn,[.nilFunc]⟩ (.nil) (.nil)) (.nil)) (.ah 287 ⟨1,false,.fn,[.nilFunc]⟩ (.ah 286 ⟨1,false,.fn,[.nilFunc]⟩ (.nil) (.nil)) (.nil)))))) (.ah 318 ⟨1,false,.fn,[.nilFunc]⟩ (.ah 303 ⟨1,true,.st [(0,3)],[.int .i64 0]⟩ (.ah 295 ⟨1,false,.int .u64,[.int .u64 0]⟩ (.ah 292 ⟨1,false,.sl 295 1 8,[.slice none 0 0]⟩ (.ah 290 ⟨1,false,.fn,[.nilFunc]⟩ (.ah 289 ⟨2,true,.st [(0,73),(1,82)],[.slice none 0 0,.slice none 0 0]⟩ (.nil) (.nil)) (.ah 291 ⟨2,true,.ar 2 1,[.int .i64 0,.int .i64 0]⟩ (.nil) (.nil))) (.ah 294 ⟨1,true,.st [(0,292)],[.slice none 0 0]⟩ (.ah 293 ⟨1,true,.st [(0,292)],[.slice none 0 0]⟩ (.nil) (.nil)) (.nil))) (.ah 300 ⟨1,false,.fn,[.nilFunc]⟩ (.ah 297 ⟨1,false,.fn,[.nilFunc]⟩ (.ah 296 ⟨1,false,.fn,[.nilFunc]⟩ (.nil) (.nil)) (.ah 298 ⟨1,false,.fn,[.nilFunc]⟩ (.nil) (.nil))) (.ah 302 ⟨1,true,.st [(0,3)],[.int .i64 0]⟩ (.ah 301 ⟨1,false,.ptr 303,[.pointer none]⟩ (.nil) (.nil)) (.nil)))) (.ah 310 ⟨1,false,.fn,[.nilFunc]⟩ (.ah 307 ⟨1,false,.fn,[.nilFunc]⟩ (.ah 305 ⟨1,false,.fn,[.nilFunc]⟩ (.ah 304 ⟨1,false,.fn,[.nilFunc]⟩ (.nil) (.nil)) (.ah 306 ⟨1,false,.fn,[.nilFunc]⟩ (.nil) (.nil))) (.ah 309 ⟨1,false,.fn,[.nilFunc]⟩ (.ah 308 ⟨1,false,.fn,[.nilFunc]⟩ (.nil) (.nil)) (.nil))) (.ah 313 ⟨1,false,.fn,[.nilFunc]⟩ (.ah 312 ⟨1,false,.fn,[.nilFunc]⟩ (.ah 311 ⟨1,false,.fn,[.nilFunc]⟩ (.nil) (.nil)) (.nil)) (.ah 317 ⟨1,false,.fn,[.nilFunc]⟩ (.ah 315 ⟨1,false,.fn,[.nilFunc]⟩ (.nil) (.nil)) (.nil))))) (.ah 331 ⟨1,false,.fn,[.nilFunc]⟩ (.ah 325 ⟨1,false,.fn,[.nilFunc]⟩ (.ah 322 ⟨1,false,.fn,[.nilFunc]⟩ (.ah 320 ⟨1,false,.fn,[.nilFunc]⟩ (.ah 319 ⟨1,false,.fn,[.nilFunc]⟩ (.nil) (.nil)) (.ah 321 ⟨1,false,.fn,[.nilFunc]⟩ (.nil) (.nil))) (.ah 324 ⟨1,false,.fn,[.nilFunc]⟩ (.ah 323 ⟨20,true,.ar 20 1,[.int .u8 0,.int .u8 0,.int .u8 0,.int .u8 0,.int .u8 0,.int .u8 0,.int .u8 0,.int .u8 0,.int .u8 0,.int .u8 0,.int .u8 0,.int .u8 0,.int .u8 0,.int .u8 0,.int .u8 0,.int .u8 0,.int .u8 0,.int .u8 0,.int .u8 0,.int .u8 0]⟩ (.nil) (.nil)) (.nil))) (.ah 328 ⟨1,false,.fn,[.nilFunc]⟩ (.ah 327 ⟨1,false,.fn,[.nilFunc]⟩ (.ah 326 ⟨1,false,.fn,[.nilFunc]⟩ (.nil) (.nil)) (.nil)) (.ah 330 ⟨1,false,.fn,[.nilFunc]⟩ (.ah 329 ⟨1,false,.fn,[.nilFunc]⟩ (.nil) (.nil)) (.nil)))) (.ah 338 ⟨1,false,.fn,[.nilFunc]⟩ (.ah 335 ⟨3,true,.st [(0,44),(2,3)],[.int .i64 0,.int .i64 0,.int .i64 0]⟩ (.ah 333 ⟨1,false,.fn,[.nilFunc]⟩ (.ah 332 ⟨1,false,.fn,[.nilFunc]⟩ (.nil) (.nil)) (.ah 334 ⟨3,true,.st [(0,44),(2,3)],[.int .i64 0,.int .i64 0,.int .i64 0]⟩ (.nil) (.nil))) (.ah 337 ⟨1,false,.fn,[.nilFunc]⟩ (.ah 336 ⟨1,false,.fn,[.nilFunc]⟩ (.nil) (.nil)) (.nil))) (.ah 343 ⟨1,false,.fn,[.nilFunc]⟩ (.ah 342 ⟨1,false,.fn,[.nilFunc]⟩ (.ah 339 ⟨1,false,.int .u64,[.int .u64 0]⟩ (.nil) (.nil)) (.nil)) (.ah 345 ⟨1,false,.fn,[.nilFunc]⟩ (.ah 344 ⟨1,false,.fn,[.nilFunc]⟩ (.nil) (.nil)) (.nil))))))) (.ah 403 ⟨1,false,.fn,[.nilFunc]⟩ (.ah 374 ⟨1,false,.fn,[.nilFunc]⟩ (.ah 361 ⟨1,false,.fn,[.nilFunc]⟩ (.ah 353 ⟨1,false,.fn,[.nilFunc]⟩ (.ah 350 ⟨1,false,.fn,[.nilFunc]⟩ (.ah 348 ⟨2,true,.st [(0,182),(1,343)],[.nilFunc,.nilFunc]⟩ (.ah 347 ⟨1,false,.fn,[.nilFunc]⟩ (.nil) (.nil)) (.ah 349 ⟨2,true,.st [(0,182),(1,343)],[.nilFunc,.nilFunc]⟩ (.nil) (.nil))) (.ah 352 ⟨1,false,.fn,[.nilFunc]⟩ (.ah 351 ⟨1,false,.fn,[.nilFunc]⟩ (.nil) (.nil)) (.nil))) (.ah 357 ⟨3,true,.st [(0,9),(1,9),(2,73)],[.string ByteArray.empty,.string ByteArray.empty,.slice none 0 0]⟩ (.ah 355 ⟨1,false,.fn,[.nilFunc]⟩ (.ah 354 ⟨1,false,.fn,[.nilFunc]⟩ (.nil) (.nil)) (.ah 356 ⟨1,false,.fn,[.nilFunc]⟩ (.nil) (.nil))) (.ah 360 ⟨1,false,.fn,[.nilFunc]⟩ (.ah 358 ⟨3,true,.st [(0,9),(1,9),(2,73)],[.string ByteArray.empty,.string ByteArray.empty,.slice none 0 0]⟩ (.nil) (.nil)) (.nil)))) (.ah 368 ⟨1,false,.fn,[.nilFunc]⟩ (.ah 365 ⟨1,false,.fn,[.nilFunc]⟩ (.ah 363 ⟨1,false,.fn,[.nilFunc]⟩ (.ah 362 ⟨1,false,.fn,[.nilFunc]⟩ (.nil) (.nil)) (.ah 364 ⟨1,false,.fn,[.nilFunc]⟩ (.nil) (.nil))) (.ah 367 ⟨1,false,.fn,[.nilFunc]⟩ (.ah 366 ⟨1,false,.fn,[.nilFunc]⟩ (.nil) (.nil)) (.nil))) (.ah 371 ⟨1,false,.fn,[.nilFunc]⟩ (.ah 370 ⟨1,false,.fn,[.nilFunc]⟩ (.ah 369 ⟨1,false,.fn,[.nilFunc]⟩ (.nil) (.nil)) (.nil)) (.ah 373 ⟨15,true,.st [(0,3),(1,193),(11,34)],[.int .i64 0,.string ByteArray.empty,.bool false,.int .i64 0,.int .i64 0,.int .i64 0,.int .i64 0,.int .i64 0,.int .i64 0,.int .i64 0,.int .i64 0,.int .i64 0,.int .i64 0,.string ByteArray.empty,.slice none 0 0]⟩ (.ah 372 ⟨15,true,.st [(0,3),(1,193),(11,34)],[.int .i64 0,.string ByteArray.empty,.bool false,.int .i64 0,.int .i64 0,.int .i64 0,.int .i64 0,.int .i64 0,.int .i64 0,.int .i64 0,.int .i64 0,.int .i64 0,.int .i64 0,.string ByteArray.empty,.slice none 0 0]⟩ (.nil) (.nil)) (.nil))))) (.ah 388 ⟨1,false,.fn,[.nilFunc]⟩ (.ah 381 ⟨1,true,.st [(0,17)],[.pointer none]⟩ (.ah 378 ⟨1,false,.fn,[.nilFunc]⟩ (.ah 376 ⟨1,false,.fn,[.nilFunc]⟩ (.ah 375 ⟨1,false,.fn,[.nilFunc]⟩ (.nil) (.nil)) (.ah 377 ⟨1,false,.fn,[.nilFunc]⟩ (.nil) (.nil))) (.ah 380 ⟨1,true,.st [(0,17)],[.pointer none]⟩ (.ah 379 ⟨1,false,.fn,[.nilFunc]⟩ (.nil) (.nil)) (.nil))) (.ah 384 ⟨1,false,.int .u32,[.int .u32 0]⟩ (.ah 383 ⟨1,false,.fn,[.nilFunc]⟩ (.ah 382 ⟨1,false,.ptr 461,[.pointer none]⟩ (.nil) (.nil)) (.nil)) (.ah 386 ⟨1,false,.int .i64,[.int .i64 0]⟩ (.ah 385 ⟨1,false,.fn,[.nilFunc]⟩ (.nil) (.nil)) (.nil)))) (.ah 396 ⟨1,false,.fn,[.nilFunc]⟩ (.ah 392 ⟨1,false,.fn,[.nilFunc]⟩ (.ah 390 ⟨1,false,.fn,[.nilFunc]⟩ (.ah 389 ⟨1,false,.fn,[.nilFunc]⟩ (.nil) (.nil)) (.ah 391 ⟨1,false,.fn,[.nilFunc]⟩ (.nil) (.nil))) (.ah 394 ⟨1,false,.fn,[.nilFunc]⟩ (.ah 393 ⟨1,false,.fn,[.nilFunc]⟩ (.nil) (.nil)) (.nil))) (.ah 399 ⟨1,false,.fn,[.nilFunc]⟩ (.ah 398 ⟨1,false,.fn,[.nilFunc]⟩ (.ah 397 ⟨1,false,.fn,[.nilFunc]⟩ (.nil) (.nil)) (.nil)) (.ah 402 ⟨1,false,.fn,[.nilFunc]⟩ (.ah 401 ⟨1,false,.fn,[.nilFunc]⟩ (.nil) (.nil)) (.nil)))))) (.ah 432 ⟨4,true,.ar 4 1,[.int .i64 0,.int .i64 0,.int .i64 0,.int .i64 0]⟩ (.ah 417 ⟨1,false,.fn,[.nilFunc]⟩ (.ah 410 ⟨1,false,.ptr 3,[.pointer none]⟩ (.ah 407 ⟨1,false,.fn,[.nilFunc]⟩ (.ah 405 ⟨1,false,.fn,[.nilFunc]⟩ (.ah 404 ⟨1,false,.fn,[.nilFunc]⟩ (.nil) (.nil)) (.ah 406 ⟨1,false,.int .u64,[.int .u64 0]⟩ (.nil) (.nil))) (.ah 409 ⟨1,false,.fn,[.nilFunc]⟩ (.ah 408 ⟨1,false,.fn,[.nilFunc]⟩ (.nil) (.nil)) (.nil))) (.ah 414 ⟨1,false,.fn,[.nilFunc]⟩ (.ah 412 ⟨1,false,.fn,[.nilFunc]⟩ (.ah 411 ⟨1,false,.fn,[.nilFunc]⟩ (.nil) (.nil)) (.ah 413 ⟨1,false,.fn,[.nilFunc]⟩ (.nil) (.nil))) (.ah 416 ⟨1,false,.sl 434 2 8,[.slice none 0 0]⟩ (.ah 415 ⟨1,false,.fn,[.nilFunc]⟩ (.nil) (.nil)) (.nil)))) (.ah 426 ⟨1,false,.fn,[.nilFunc]⟩ (.ah 423 ⟨1,false,.fn,[.nilFunc]⟩ (.ah 420 ⟨1,false,.fn,[.nilFunc]⟩ (.ah 419 ⟨1,false,.fn,[.nilFunc]⟩ (.nil) (.nil)) (.ah 421 ⟨1,false,.fn,[.nilFunc]⟩ (.nil) (.nil))) (.ah 425 ⟨1,false,.fn,[.nilFunc]⟩ (.ah 424 ⟨1,false,.fn,[.nilFunc]⟩ (.nil) (.nil)) (.nil))) (.ah 429 ⟨1,false,.fn,[.nilFunc]⟩ (.ah 428 ⟨1,false,.fn,[.nilFunc]⟩ (.ah 427 ⟨1,false,.fn,[.nilFunc]⟩ (.nil) (.nil)) (.nil)) (.ah 431 ⟨1,false,.fn,[.nilFunc]⟩ (.ah 430 ⟨1,false,.ptr 406,[.pointer none]⟩ (.nil) (.nil)) (.nil))))) (.ah 447 ⟨2,true,.st [(0,21),(1,21)],[.int .i32 0,.int .i32 0]⟩ (.ah 440 ⟨1,false,.fn,[.nilFunc]⟩ (.ah 436 ⟨1,false,.sl 447 2 8,[.slice none 0 0]⟩ (.ah 434 ⟨2,true,.st [(0,21),(1,21)],[.int .i32 0,.int .i32 0]⟩ (.ah 433 ⟨2,true,.st [(0,21),(1,21)],[.int .i32 0,.int .i32 0]⟩ (.nil) (.nil)) (.ah 435 ⟨1,false,.fn,[.nilFunc]⟩ (.nil) (.nil))) (.ah 438 ⟨1,false,.fn,[.nilFunc]⟩ (.ah 437 ⟨1,false,.fn,[.nilFunc]⟩ (.nil) (.nil)) (.nil))) (.ah 444 ⟨1,false,.fn,[.nilFunc]⟩ (.ah 443 ⟨1,false,.fn,[.nilFunc]⟩ (.ah 442 ⟨1,false,.fn,[.nilFunc]⟩ (.nil) (.nil)) (.nil)) (.ah 446 ⟨2,true,.st [(0,21),(1,21)],[.int .i32 0,.int .i32 0]⟩ (.ah 445 ⟨1,false,.fn,[.nilFunc]⟩ (.nil) (.nil)) (.nil)))) (.ah 456 ⟨1,false,.int .i32,[.int .i32 0]⟩ (.ah 453 ⟨1,false,.int .u8,[.int .u8 0]⟩ (.ah 449 ⟨4,true,.st [(0,17),(1,17),(2,17),(3,9)],[.pointer none,.pointer none,.pointer none,.string ByteArray.empty]⟩ (.ah 448 ⟨4,true,.st [(0,17),(1,17),(2,17),(3,9)],[.pointer none,.pointer none,.pointer none,.string ByteArray.empty]⟩ (.nil) (.nil)) (.ah 450 ⟨0,true,.ar 0 1,[]⟩ (.nil) (.nil))) (.ah 455 ⟨1,false,.fn,[.nilFunc]⟩ (.ah 454 ⟨1,false,.int .u8,[.int .u8 0]⟩ (.nil) (.nil)) (.nil))) (.ah 459 ⟨11,true,.st [(0,12),(1,12),(2,384),(3,453),(4,5),(5,5),(6,454),(7,455),(8,258),(9,456),(10,457)],[.int .u64 0,.int .u64 0,.int .u32 0,.int .u8 0,.int .u8 0,.int .u8 0,.int .u8 0,.nilFunc,.pointer none,.int .i32 0,.int .i32 0]⟩ (.ah 458 ⟨11,true,.st [(0,12),(1,12),(2,384),(3,453),(4,5),(5,5),(6,454),(7,455),(8,258),(9,456),(10,457)],[.int .u64 0,.int .u64 0,.int .u32 0,.int .u8 0,.int .u8 0,.int .u8 0,.int .u8 0,.nilFunc,.pointer none,.int .i32 0,.int .i32 0]⟩ (.ah 457 ⟨1,false,.int .i32,[.int .i32 0]⟩ (.nil) (.nil)) (.nil)) (.ah 461 ⟨2,true,.st [(0,9),(1,454)],[.string ByteArray.empty,.int .u8 0]⟩ (.ah 460 ⟨2,true,.st [(0,9),(1,454)],[.string ByteArray.empty,.int .u8 0]⟩ (.nil) (.nil)) (.nil))))))))
theorem eT:tt.ok Tryz.prog=true:=by decide +kernel
theorem mo:Tryz.prog.follows .mixedOrders=true:=rfl
end Dv
end Go.Proofs.YtgjagnmeonoehaaGreat
namespace Go.Proofs.YtgjagnmeonoehaaGreat
namespace Dv
open Go
theorem eG {f:FuncId} {fn:Func} {c:Code} {args:List DV} {os:List (List DV)} {bU:List TkE} {Φ:DV->List (List DV)->List TkE->Prop} (nt:Nat) (rs:List ResultVar)
 (hf:Tryz.prog.funcs[f]? = some fn) (hb:fn.body=some c) (Ic:fn.ntmps=nt) (zQ:fn.results.toList=rs)
 (h:∀ (E:En) (w:World) (hn:E.β.length=os.length) (hm:E.tk.length=bU.length),go ⟨Tryz.prog,tt,eT,fn,nt,rs,zQ,w,E,os.length,bU.length,hn,hm,false,Φ,[],[],false⟩ 5000 [.code c] ⟨argSl 0 args,os,bU⟩) (hlen:args.length<=nt:=by exact Nat.le_of_ble_eq_true rfl):Ev Tryz.prog f args os bU Φ:=EJ tt eT 5000 nt rs hf hb Ic zQ hlen h
theorem cP {X:Ctx} {st:St} {k:List It} {f:FuncId} {args bE:List DV} {d:Nat} {r:DV} (kY:Enters X.P f) (hc:EvP X.P f bE r) (hk:go X 4000 k ⟨(d,⟨[],r⟩) :: st.sl,st.bx,st.tk⟩) (ha:CcL [] 0 0 0 bE args:=by exact ax) (hd:ep X.nt st.sl (some d)=true:=by exact rfl) (bd:X.still=false:=by exact rfl):CallG X f args (some d) k st:=call_p kY hc ha hd hk bd
theorem cD {X:Ctx} {st:St} {c:Bool} {s0:List (Nat×Sl)} {D:Dr} {i:Nat} {f:FuncId} {args bE:List DV} {d:Nat} {r:List (Nat×Oper)} {tu:DV} (kY:Enters X.P f) (hc:EvP X.P f bE tu) (hk:put2 s0 st (some d) false [] tu (goD X D 3000 c r)) (ha:CcL [] 0 0 0 bE args:=by exact ax) (hd:(ep X.nt st.sl (some d) && ep X.nt s0 (some d))=true:=by exact rfl) (bd:X.still=false:=by exact rfl):xg X D c i r f args (some d) s0 st:=pk kY hc ha hd hk bd
theorem dI {X:Ctx} {st:St} {k:List It} {id:Nat} {ops:Array Oper} (h:goD X ⟨ops,fun _=>false,k,st,none⟩ 3000 true (nOps 0 ops.toList) st.sl st) (hm:X.P.follows .mixedOrders=true:=by exact mo) (hc:Ig ops (fun _=>false)=true:=by decide +kernel):lM X id ops k st:=fZ _ hm hc h
theorem dS {X:Ctx} {st:St} {k:List It} {id:Nat} {ops:Array Oper} (h:goD X ⟨ops,Wh ops,k,st,none⟩ 3000 true (nOps 0 ops.toList) st.sl st) (hm:X.P.follows .mixedOrders=true:=by exact mo) (hc:Ig ops (Wh ops)=true:=by decide +kernel):lM X id ops k st:=KX hm hc h
end Dv
end Go.Proofs.YtgjagnmeonoehaaGreat
set_option maxRecDepth 100000
namespace Go.Proofs.YtgjagnmeonoehaaGreat
open Go Go.RowKit Dv Go.Proofs.Tryz
theorem en8:Enters prog 8:=enters_of func8 (by decide +kernel) rfl
theorem MJ:Enters prog 10:=enters_of func10 (by decide +kernel) rfl
theorem abG:Enters prog 11:=enters_of func11 (by decide +kernel) rfl
theorem en12:Enters prog 12:=enters_of func12 (by decide +kernel) rfl
theorem en13:Enters prog 13:=enters_of func13 (by decide +kernel) rfl
theorem en17:Enters prog 17:=enters_of func17 (by decide +kernel) rfl
theorem EZ:Enters prog 18:=enters_of func18 (by decide +kernel) rfl
theorem PE:Enters prog 19:=enters_of func19 (by decide +kernel) rfl
theorem abH:Enters prog 20:=enters_of func20 (by decide +kernel) rfl
theorem en21:Enters prog 21:=enters_of func21 (by decide +kernel) rfl
theorem en22:Enters prog 22:=enters_of func22 (by decide +kernel) rfl
theorem mT:Enters prog 36:=enters_of func36 (by decide +kernel) rfl
theorem xu:Enters prog 37:=enters_of func37 (by decide +kernel) rfl
theorem Yy:Enters prog 42:=enters_of func42 (by decide +kernel) rfl
theorem en43:Enters prog 43:=enters_of func43 (by decide +kernel) rfl
theorem en44:Enters prog 44:=enters_of func44 (by decide +kernel) rfl
theorem en45:Enters prog 45:=enters_of func45 (by decide +kernel) rfl
theorem en46:Enters prog 46:=enters_of func46 (by decide +kernel) rfl
theorem abI:Enters prog 47:=enters_of func47 (by decide +kernel) rfl
theorem abJ:Enters prog 48:=enters_of func48 (by decide +kernel) rfl
theorem Yz:Enters prog 49:=enters_of func49 (by decide +kernel) rfl
theorem en50:Enters prog 50:=enters_of func50 (by decide +kernel) rfl
theorem en51:Enters prog 51:=enters_of func51 (by decide +kernel) rfl
theorem Um:Enters prog 52:=enters_of func52 (by decide +kernel) rfl
theorem YA:Enters prog 53:=enters_of func53 (by decide +kernel) rfl
theorem abK:Enters prog 54:=enters_of func54 (by decide +kernel) rfl
theorem Un:Enters prog 55:=enters_of func55 (by decide +kernel) rfl
theorem en56:Enters prog 56:=enters_of func56 (by decide +kernel) rfl
theorem abL:Enters prog 57:=enters_of func57 (by decide +kernel) rfl
theorem rG:Enters prog 58:=enters_of func58 (by decide +kernel) rfl
theorem Cz:Enters prog 59:=enters_of func59 (by decide +kernel) rfl
theorem en60:Enters prog 60:=enters_of func60 (by decide +kernel) rfl
theorem abM:Enters prog 66:=enters_of func66 (by decide +kernel) rfl
theorem Uo:Enters prog 67:=enters_of func67 (by decide +kernel) rfl
theorem PF:Enters prog 68:=enters_of func68 (by decide +kernel) rfl
theorem en69:Enters prog 69:=enters_of func69 (by decide +kernel) rfl
theorem PG:Enters prog 70:=enters_of func70 (by decide +kernel) rfl
theorem Up:Enters prog 71:=enters_of func71 (by decide +kernel) rfl
theorem Ip:Enters prog 72:=enters_of func72 (by decide +kernel) rfl
theorem Iq:Enters prog 73:=enters_of func73 (by decide +kernel) rfl
theorem Uq:Enters prog 74:=enters_of func74 (by decide +kernel) rfl
theorem Ur:Enters prog 75:=enters_of func75 (by decide +kernel) rfl
theorem abN:Enters prog 76:=enters_of func76 (by decide +kernel) rfl
theorem abO:Enters prog 77:=enters_of func77 (by decide +kernel) rfl
theorem Us:Enters prog 78:=enters_of func78 (by decide +kernel) rfl
theorem en79:Enters prog 79:=enters_of func79 (by decide +kernel) rfl
theorem YB:Enters prog 87:=enters_of func87 (by decide +kernel) rfl
theorem abP:Enters prog 88:=enters_of func88 (by decide +kernel) rfl
theorem abQ:Enters prog 94:=enters_of func94 (by decide +kernel) rfl
theorem en95:Enters prog 95:=enters_of func95 (by decide +kernel) rfl
theorem abR:Enters prog 96:=enters_of func96 (by decide +kernel) rfl
theorem K2:Enters prog 101:=enters_of func101 (by decide +kernel) rfl
theorem abS:Enters prog 102:=enters_of func102 (by decide +kernel) rfl
theorem abT:Enters prog 103:=enters_of func103 (by decide +kernel) rfl
theorem Wj:Enters prog 104:=enters_of func104 (by decide +kernel) rfl
theorem PH:Enters prog 105:=enters_of func105 (by decide +kernel) rfl
theorem Wl:Enters prog 106:=enters_of func106 (by decide +kernel) rfl
theorem abU:Enters prog 107:=enters_of func107 (by decide +kernel) rfl
theorem Wm:Enters prog 108:=enters_of func108 (by decide +kernel) rfl
theorem Wn:Enters prog 109:=enters_of func109 (by decide +kernel) rfl
theorem abV:Enters prog 110:=enters_of func110 (by decide +kernel) rfl
theorem xx:Enters prog 111:=enters_of func111 (by decide +kernel) rfl
theorem PI:Enters prog 112:=enters_of func112 (by decide +kernel) rfl
theorem abW:Enters prog 113:=enters_of func113 (by decide +kernel) rfl
theorem Wo:Enters prog 114:=enters_of func114 (by decide +kernel) rfl
theorem oh:Enters prog 115:=enters_of func115 (by decide +kernel) rfl
theorem E4:Enters prog 116:=enters_of func116 (by decide +kernel) rfl
theorem en117:Enters prog 117:=enters_of func117 (by decide +kernel) rfl
theorem Wp:Enters prog 118:=enters_of func118 (by decide +kernel) rfl
theorem abX:Enters prog 119:=enters_of func119 (by decide +kernel) rfl
theorem abY:Enters prog 120:=enters_of func120 (by decide +kernel) rfl
theorem abZ:Enters prog 121:=enters_of func121 (by decide +kernel) rfl
theorem Wq:Enters prog 122:=enters_of func122 (by decide +kernel) rfl
theorem PJ:Enters prog 123:=enters_of func123 (by decide +kernel) rfl
theorem K3:Enters prog 124:=enters_of func124 (by decide +kernel) rfl
theorem Wr:Enters prog 125:=enters_of func125 (by decide +kernel) rfl
theorem PK:Enters prog 126:=enters_of func126 (by decide +kernel) rfl
theorem ab0:Enters prog 127:=enters_of func127 (by decide +kernel) rfl
theorem PL:Enters prog 128:=enters_of func128 (by decide +kernel) rfl
theorem ab1:Enters prog 129:=enters_of func129 (by decide +kernel) rfl
theorem K4:Enters prog 130:=enters_of func130 (by decide +kernel) rfl
theorem PM:Enters prog 131:=enters_of func131 (by decide +kernel) rfl
theorem ab2:Enters prog 137:=enters_of func137 (by decide +kernel) rfl
theorem ab3:Enters prog 138:=enters_of func138 (by decide +kernel) rfl
theorem Ws:Enters prog 139:=enters_of func139 (by decide +kernel) rfl
theorem PN:Enters prog 140:=enters_of func140 (by decide +kernel) rfl
theorem en141:Enters prog 141:=enters_of func141 (by decide +kernel) rfl
theorem en142:Enters prog 142:=enters_of func142 (by decide +kernel) rfl
theorem en143:Enters prog 143:=enters_of func143 (by decide +kernel) rfl
theorem ab4:Enters prog 144:=enters_of func144 (by decide +kernel) rfl
theorem PO:Enters prog 145:=enters_of func145 (by decide +kernel) rfl
theorem PQ:Enters prog 146:=enters_of func146 (by decide +kernel) rfl
theorem AE:Enters prog 147:=enters_of func147 (by decide +kernel) rfl
theorem xy:Enters prog 148:=enters_of func148 (by decide +kernel) rfl
theorem AF:Enters prog 150:=enters_of func150 (by decide +kernel) rfl
theorem PR:Enters prog 151:=enters_of func151 (by decide +kernel) rfl
theorem Wt:Enters prog 152:=enters_of func152 (by decide +kernel) rfl
theorem PS:Enters prog 153:=enters_of func153 (by decide +kernel) rfl
theorem E5:Enters prog 154:=enters_of func154 (by decide +kernel) rfl
theorem K5:Enters prog 156:=enters_of func156 (by decide +kernel) rfl
theorem K6:Enters prog 166:=enters_of func166 (by decide +kernel) rfl
theorem ab5:Enters prog 167:=enters_of func167 (by decide +kernel) rfl
theorem xz:Enters prog 168:=enters_of func168 (by decide +kernel) rfl
theorem E6:Enters prog 169:=enters_of func169 (by decide +kernel) rfl
theorem ab6:Enters prog 185:=enters_of func185 (by decide +kernel) rfl
theorem ab7:Enters prog 186:=enters_of func186 (by decide +kernel) rfl
theorem ab8:Enters prog 187:=enters_of func187 (by decide +kernel) rfl
theorem ab9:Enters prog 188:=enters_of func188 (by decide +kernel) rfl
theorem PT:Enters prog 190:=enters_of func190 (by decide +kernel) rfl
theorem aca:Enters prog 191:=enters_of func191 (by decide +kernel) rfl
theorem acb:Enters prog 192:=enters_of func192 (by decide +kernel) rfl
theorem PU:Enters prog 193:=enters_of func193 (by decide +kernel) rfl
theorem PV:Enters prog 194:=enters_of func194 (by decide +kernel) rfl
theorem Wu:Enters prog 195:=enters_of func195 (by decide +kernel) rfl
theorem acd:Enters prog 196:=enters_of func196 (by decide +kernel) rfl
theorem ace:Enters prog 197:=enters_of func197 (by decide +kernel) rfl
theorem Wv:Enters prog 198:=enters_of func198 (by decide +kernel) rfl
theorem PW:Enters prog 199:=enters_of func199 (by decide +kernel) rfl
theorem Ww:Enters prog 200:=enters_of func200 (by decide +kernel) rfl
theorem Wx:Enters prog 201:=enters_of func201 (by decide +kernel) rfl
theorem Wy:Enters prog 202:=enters_of func202 (by decide +kernel) rfl
theorem uN:Enters prog 203:=enters_of func203 (by decide +kernel) rfl
theorem K7:Enters prog 204:=enters_of func204 (by decide +kernel) rfl
theorem xA:Enters prog 205:=enters_of func205 (by decide +kernel) rfl
theorem acf:Enters prog 206:=enters_of func206 (by decide +kernel) rfl
theorem acg:Enters prog 207:=enters_of func207 (by decide +kernel) rfl
theorem Wz:Enters prog 208:=enters_of func208 (by decide +kernel) rfl
theorem ach:Enters prog 209:=enters_of func209 (by decide +kernel) rfl
theorem WA:Enters prog 210:=enters_of func210 (by decide +kernel) rfl
theorem WB:Enters prog 213:=enters_of func213 (by decide +kernel) rfl
theorem AG:Enters prog 214:=enters_of func214 (by decide +kernel) rfl
theorem WC:Enters prog 215:=enters_of func215 (by decide +kernel) rfl
theorem WD:Enters prog 216:=enters_of func216 (by decide +kernel) rfl
theorem E7:Enters prog 218:=enters_of func218 (by decide +kernel) rfl
theorem AH:Enters prog 219:=enters_of func219 (by decide +kernel) rfl
theorem WE:Enters prog 220:=enters_of func220 (by decide +kernel) rfl
theorem aci:Enters prog 221:=enters_of func221 (by decide +kernel) rfl
theorem PX:Enters prog 222:=enters_of func222 (by decide +kernel) rfl
theorem acj:Enters prog 223:=enters_of func223 (by decide +kernel) rfl
theorem PY:Enters prog 224:=enters_of func224 (by decide +kernel) rfl
theorem ack:Enters prog 225:=enters_of func225 (by decide +kernel) rfl
theorem acm:Enters prog 231:=enters_of func231 (by decide +kernel) rfl
theorem WG:Enters prog 232:=enters_of func232 (by decide +kernel) rfl
theorem acn:Enters prog 240:=enters_of func240 (by decide +kernel) rfl
theorem aco:Enters prog 241:=enters_of func241 (by decide +kernel) rfl
theorem PZ:Enters prog 242:=enters_of func242 (by decide +kernel) rfl
theorem P4:Enters prog 243:=enters_of func243 (by decide +kernel) rfl
theorem acp:Enters prog 244:=enters_of func244 (by decide +kernel) rfl
theorem WH:Enters prog 250:=enters_of func250 (by decide +kernel) rfl
theorem acq:Enters prog 251:=enters_of func251 (by decide +kernel) rfl
theorem eI:Enters prog 252:=enters_of func252 (by decide +kernel) rfl
theorem acr:Enters prog 253:=enters_of func253 (by decide +kernel) rfl
theorem acs:Enters prog 254:=enters_of func254 (by decide +kernel) rfl
theorem WI:Enters prog 255:=enters_of func255 (by decide +kernel) rfl
theorem WJ:Enters prog 256:=enters_of func256 (by decide +kernel) rfl
theorem WK:Enters prog 257:=enters_of func257 (by decide +kernel) rfl
theorem acu:Enters prog 258:=enters_of func258 (by decide +kernel) rfl
theorem P5:Enters prog 260:=enters_of func260 (by decide +kernel) rfl
theorem WL:Enters prog 261:=enters_of func261 (by decide +kernel) rfl
theorem E8:Enters prog 262:=enters_of func262 (by decide +kernel) rfl
theorem WM:Enters prog 263:=enters_of func263 (by decide +kernel) rfl
theorem acv:Enters prog 264:=enters_of func264 (by decide +kernel) rfl
theorem acw:Enters prog 265:=enters_of func265 (by decide +kernel) rfl
theorem acx:Enters prog 266:=enters_of func266 (by decide +kernel) rfl
theorem acy:Enters prog 275:=enters_of func275 (by decide +kernel) rfl
theorem acz:Enters prog 276:=enters_of func276 (by decide +kernel) rfl
theorem P6:Enters prog 277:=enters_of func277 (by decide +kernel) rfl
theorem il:Enters prog 278:=enters_of func278 (by decide +kernel) rfl
theorem acA:Enters prog 279:=enters_of func279 (by decide +kernel) rfl
theorem WN:Enters prog 280:=enters_of func280 (by decide +kernel) rfl
theorem P7:Enters prog 281:=enters_of func281 (by decide +kernel) rfl
theorem acB:Enters prog 282:=enters_of func282 (by decide +kernel) rfl
theorem WO:Enters prog 283:=enters_of func283 (by decide +kernel) rfl
theorem WQ:Enters prog 303:=enters_of func303 (by decide +kernel) rfl
theorem acC:Enters prog 304:=enters_of func304 (by decide +kernel) rfl
theorem acD:Enters prog 305:=enters_of func305 (by decide +kernel) rfl
theorem P8:Enters prog 308:=enters_of func308 (by decide +kernel) rfl
theorem acE:Enters prog 309:=enters_of func309 (by decide +kernel) rfl
theorem WR:Enters prog 310:=enters_of func310 (by decide +kernel) rfl
theorem acF:Enters prog 311:=enters_of func311 (by decide +kernel) rfl
theorem oi:Enters prog 317:=enters_of func317 (by decide +kernel) rfl
theorem P9:Enters prog 318:=enters_of func318 (by decide +kernel) rfl
theorem acG:Enters prog 319:=enters_of func319 (by decide +kernel) rfl
theorem acH:Enters prog 320:=enters_of func320 (by decide +kernel) rfl
theorem acI:Enters prog 321:=enters_of func321 (by decide +kernel) rfl
theorem Qa:Enters prog 327:=enters_of func327 (by decide +kernel) rfl
theorem Fa:Enters prog 328:=enters_of func328 (by decide +kernel) rfl
theorem acJ:Enters prog 329:=enters_of func329 (by decide +kernel) rfl
theorem acK:Enters prog 337:=enters_of func337 (by decide +kernel) rfl
theorem acL:Enters prog 338:=enters_of func338 (by decide +kernel) rfl
theorem acM:Enters prog 339:=enters_of func339 (by decide +kernel) rfl
theorem acN:Enters prog 340:=enters_of func340 (by decide +kernel) rfl
theorem acO:Enters prog 341:=enters_of func341 (by decide +kernel) rfl
theorem acP:Enters prog 342:=enters_of func342 (by decide +kernel) rfl
theorem K8:Enters prog 353:=enters_of func353 (by decide +kernel) rfl
theorem acQ:Enters prog 354:=enters_of func354 (by decide +kernel) rfl
theorem AJ:Enters prog 356:=enters_of func356 (by decide +kernel) rfl
theorem acR:Enters prog 357:=enters_of func357 (by decide +kernel) rfl
theorem acS:Enters prog 358:=enters_of func358 (by decide +kernel) rfl
theorem acT:Enters prog 359:=enters_of func359 (by decide +kernel) rfl
theorem acU:Enters prog 360:=enters_of func360 (by decide +kernel) rfl
theorem acV:Enters prog 361:=enters_of func361 (by decide +kernel) rfl
theorem acW:Enters prog 370:=enters_of func370 (by decide +kernel) rfl
theorem WS:Enters prog 371:=enters_of func371 (by decide +kernel) rfl
theorem acX:Enters prog 372:=enters_of func372 (by decide +kernel) rfl
theorem acY:Enters prog 373:=enters_of func373 (by decide +kernel) rfl
theorem acZ:Enters prog 376:=enters_of func376 (by decide +kernel) rfl
theorem ac0:Enters prog 377:=enters_of func377 (by decide +kernel) rfl
theorem ac1:Enters prog 378:=enters_of func378 (by decide +kernel) rfl
theorem ac2:Enters prog 379:=enters_of func379 (by decide +kernel) rfl
end Go.Proofs.YtgjagnmeonoehaaGreat
namespace Go.Proofs.YtgjagnmeonoehaaGreat
open Go Go.RowKit Dv
structure Wd where
 s:ByteArray
 a:Int
structure Hd where
 ag:Int
 at':Int
 lo:Int
 hi:Int
 most:Int
 af:List Wd
 name:Wd
structure Ph where
 name:Wd
 bare:Bool
 label:List Wd
 wide:Int
 ck:Int
 cn:Int
 ca:Int
 cl:List Wd
mutual
inductive Ty where
 | mk (h:Hd) (ps:Pts)
inductive Pts where
 | nil
 | cons (p:Ph) (t:Ty) (r:Pts)
end
def Ty.h:Ty->Hd | .mk h _=>h
def Ty.ps:Ty->Pts | .mk _ ps=>ps
def Pts.toList:Pts->List (Ph × Ty)
 | .nil=>[]
 | .cons p t r=>(p,t) :: r.toList
def Pts.len:Pts->Nat
 | .nil=>0
 | .cons _ _ r=>r.len + 1
theorem Pts.Qb:∀ ps:Pts,ps.len=ps.toList.length
 | .nil=>rfl
 | .cons _ _ r=>by simp [Pts.len,Pts.toList,Pts.Qb r]
def Wd.wt (w:Wd):Nat:=w.s.size + 64
def wdsWt:List Wd->Nat
 | []=>0
 | w :: r=>w.wt + wdsWt r
def Hd.wt (h:Hd):Nat:=256 + wdsWt h.af + h.name.wt
def Ph.wt (p:Ph):Nat:=256 + p.name.wt + wdsWt p.label + wdsWt p.cl
mutual
def Ty.wt:Ty->Nat
 | .mk h ps=>h.wt + ps.wt
def Pts.wt:Pts->Nat
 | .nil=>0
 | .cons p t r=>p.wt + t.wt + r.wt
end
theorem bM:∀ l:List Wd,64 * l.length<=wdsWt l
 | []=>aR _
 | w :: r=>by have:=bM r;simp only [List.length_cons,wdsWt,Wd.wt];omega
theorem ji:∀ {l:List Wd} {w:Wd},w∈l->w.s.size + 64<=wdsWt l
 | x :: r,w,h=>by
  rcases dB h with h | h
  ·subst h;simp only [wdsWt,Wd.wt];omega
  ·have:=ji h;simp only [wdsWt];omega
theorem Pts.gn:∀ ps:Pts,256 * ps.len<=ps.wt
 | .nil=>aR _
 | .cons p t r=>by have:=Pts.gn r;simp only [Pts.len,Pts.wt,Ph.wt];omega
theorem Pts.hZ:∀ {ps:Pts} {p:Ph} {t:Ty},(p,t)∈ps.toList->p.wt + t.wt<=ps.wt
 | .cons p t r,q,u,h=>by
  rcases dB h with h | h
  ·cases h;simp only [Pts.wt];omega
  ·have:=Pts.hZ h;simp only [Pts.wt];omega
theorem Ty.cT (t:Ty):256<=t.wt:=by
 cases t;simp only [Ty.wt,Hd.wt];omega
def kD (w:Wd):List DV:=[.v (.string w.s),.v (.int .i64 w.a)]
def bV (l:List Wd):List (List DV):=l.map kD
def Ir (p:Ph) (tl:List DV):List DV:=
 .v (.string p.name.s) :: .v (.int .i64 p.name.a) :: .v (.bool p.bare) :: .sl 2 (bV p.label) none :: .v (.int .i64 p.wide) :: .v (.int .i64 p.ck) :: .v (.int .i64 p.cn) :: .v (.int .i64 p.ca) :: .sl 2 (bV p.cl) none :: tl
mutual
def eE:Ty->List DV
 | .mk h ps=>[.v (.int .i64 h.ag),.v (.int .i64 h.at'),.v (.int .i64 h.lo),.v (.int .i64 h.hi),.v (.int .i64 h.most),.sl 2 (bV h.af) none,.sl 18 (gp ps) none,.v (.string h.name.s),.v (.int .i64 h.name.a)]
def gp:Pts->List (List DV)
 | .nil=>[]
 | .cons p t r=>Ir p (eE t) :: gp r
end
theorem aE (l:List Wd):(bV l).length=l.length:=by simp [bV]
theorem aM:∀ ps:Pts,(gp ps).length=ps.len
 | .nil=>by simp [gp,Pts.len]
 | .cons p t r=>by simp [gp,Pts.len,aM r]
theorem bg {l:List Wd} {j:Nat} {w:Wd} (h:l[j]? = some w):(bV l)[j]? = some (kD w):=by simp [bV,h]
theorem AK {l:List Wd} {e:Nat} {x:Wd} (h:l[e]? = some x):bV (l.take e) ++ [kD x]=bV (l.take (e + 1)):=by
 rw [List.take_add_one,h];simp [bV]
theorem cj:∀ {ps:Pts} {j:Nat} {p:Ph} {t:Ty},ps.toList[j]? = some (p,t)->(gp ps)[j]? = some (Ir p (eE t))
 | .nil,j,p,t,h=>by simp [Pts.toList] at h
 | .cons q u r,0,p,t,h=>by grind [Pts.toList,gp]
 | .cons q u r,j + 1,p,t,h=>by
  simp only [Pts.toList,List.getElem?_cons_succ] at h;simp only [gp,List.getElem?_cons_succ];exact cj h
def Pts.drop:Nat->Pts->Pts
 | 0,ps=>ps
 | _ + 1,.nil=>.nil
 | e + 1,.cons _ _ r=>r.drop e
theorem Pts.drop_cons:∀ {e:Nat} {ps:Pts} {p:Ph} {t:Ty},ps.toList[e]? = some (p,t)->ps.drop e = .cons p t (ps.drop (e + 1))
 | 0,.cons q u r,p,t,h=>by
  simp only [Pts.toList,List.getElem?_cons_zero,oI,Prod.mk.injEq] at h;obtain ⟨rfl,rfl⟩:=h;rfl
 | e + 1,.cons q u r,p,t,h=>by
  simp only [Pts.toList,List.getElem?_cons_succ] at h;simp only [Pts.drop];exact Pts.drop_cons h
 | 0,.nil,p,t,h=>by simp [Pts.toList] at h
 | e + 1,.nil,p,t,h=>by simp [Pts.toList] at h
theorem Pts.dJ:∀ (ps:Pts),ps.drop ps.len = .nil
 | .nil=>rfl
 | .cons _ _ r=>by simp only [Pts.len,Pts.drop];exact Pts.dJ r
theorem Pts.ff {ps:Pts} {e:Nat} (h:e < ps.len):∃ p t,ps.toList[e]? = some (p,t):=by
 rw [Pts.Qb] at h;exact ⟨_,_,gE h⟩
theorem drop_cons {α:Type} {l:List α} {e:Nat} {x:α} (h:l[e]? = some x):l.drop e=x :: l.drop (e + 1):=by
 obtain ⟨h1,h2⟩:=List.getElem?_eq_some_iff.1 h;rw [<- h2];exact List.drop_eq_getElem_cons h1
def av:ByteArray:=⟨#[]⟩
def Qc:Hd:=⟨0,0,0,0,0,[],⟨av,0⟩⟩
def de:Ty:=.mk Qc .nil
def fJ:Ph:=⟨⟨av,0⟩,false,[],0,0,0,0,[]⟩
def jV:Ph:=⟨⟨av,0⟩,true,[],0,0,0,0,[]⟩
theorem aX {e n:Nat} (h:e < n) (hn:n<=4611686018427387904):IntKind.i64.wrap ((e:Int) + 1)=((e + 1:Nat):Int):=by
 rw [IntWalk.i64_in _ ⟨by omega,by omega⟩];omega
theorem wrap64 {n:Int} (h1 : -9223372036854775808<=n) (h2:n<=9223372036854775807):IntKind.i64.wrap n=n:=IntWalk.i64_in n ⟨h1,h2⟩
theorem aq (x a:Bool):pickB x a false=(x && a):=by cases x<;>rfl
theorem au (x b:Bool):pickB x true b=(x || b):=by cases x<;>rfl
end Go.Proofs.YtgjagnmeonoehaaGreat
set_option maxRecDepth 100000
namespace Go.Proofs.YtgjagnmeonoehaaGreat
open Go Go.RowKit Dv Go.Proofs.Tryz
def isLet (c:Int):Bool:=decide (97<=c) && decide (c<=122)
def jj (c:Int):Bool:=(isLet c || (decide (48<=c) && decide (c<=57))) || decide (c=95)
def signs:List UInt8->Nat
 | []=>0
 | c :: r=>if jj c.toNat=true then signs r + 1 else 0
def ef:List UInt8->Nat
 | []=>0
 | c :: r=>if isLet c.toNat=true then signs r + 1 else 0
def aZ (s:ByteArray):Bool:=decide (0 < s.size) && (decide (s.size<=32) && decide (ef s.data.toList=s.size))
theorem Fb {c:Int} (h:isLet c=true):jj c=true:=by simp [jj,h]
theorem Fc:∀ l:List UInt8,signs l<=l.length
 | []=>aR _
 | c :: r=>by
  simp only [signs,List.length_cons];split
  ·have:=Fc r;omega
  ·omega
theorem xB {c:UInt8} {r:List UInt8} (h:isLet c.toNat=true):ef (c :: r)=signs (c :: r):=by
 simp [ef,signs,h,Fb h]
theorem tw {s:ByteArray} {k:Nat} (h:k < s.size):∃ c:UInt8,s.data.toList.drop k=c :: s.data.toList.drop (k + 1)/\eX s k=c.toNat:=by
 have hk:k < s.data.toList.length:=sU h;refine ⟨s.data.toList[k],by rw [<- List.drop_eq_getElem_cons hk],?_⟩
 grind [eX]
theorem xC {s:ByteArray} {k:Nat} (h:s.size<=k):s.data.toList.drop k=[]:=List.drop_eq_nil_of_le (sU h)
theorem uO (c:Int):EvP prog 250 [.v (.int .u8 c)] (.v (.bool (isLet c))):=by
 refine eG 9 [.tmp 2] func250 rfl ntmps250 rfl fun _ _ _ _=>?_;exact (congrArg (fun b=>DV.v (.bool b)) (aq _ _):_=_)
theorem MK (c:Int):EvP prog 251 [.v (.int .u8 c)] (.v (.bool (jj c))):=by
 refine eG 17 [.tmp 2] func251 rfl ntmps251 rfl fun _ _ _ _=>?_;refine cP WH (uO c) ?_;refine (bK ?_:);simp only [aq,au,jj]
abbrev Is (s:ByteArray) (i e:Nat):St:=⟨[ay 5 e,(0,⟨[],.v (.string s)⟩),ay 1 i],[],[]⟩
theorem CA (s:ByteArray) (i:Nat):s.extract i (i + 0)=⟨#[]⟩:=by
 apply ByteArray.ext
 simp_all
theorem ML (s:ByteArray) (i:Nat) (hi:i < s.size) (hs:s.size<=4611686018427387904):EvP prog 198 [.v (.string s),.v (.int .i64 i)]
  (.tup [.v (.string (s.extract i (i + ef (s.data.toList.drop i)))),.v (.int .i64 ((i + ef (s.data.toList.drop i):Nat):Int))]):=by
 obtain ⟨c0,AL,iC⟩:=tw hi;refine eG 38 [.tmp 4,.tmp 5] func198 rfl ntmps198 rfl fun _ _ _ _=>?_;refine br (fun h=>?_) (fun _=>?_)
 ·simp [au] at h;omega
 refine ⟨⟨by omega,by omega⟩,?_⟩;refine cP WH (uO _) ?_;refine br ?_ ?_<;>intro h
 ·have hl:isLet (c0.toNat:Int)=false:=by grind
  have hn:ef (s.data.toList.drop i)=0:=by rw [AL];simp [ef,hl]
  rw [hn,CA];exact ⟨_,ax,rfl⟩
 have hl:isLet (c0.toNat:Int)=true:=by grind
 have hn:ef (s.data.toList.drop i)=signs (s.data.toList.drop i):=by rw [AL];exact xB hl
 rw [hn]
 refine aT (fun j st=>∃ e:Nat,st=Is s i e/\e<=s.size/\i<=e/\e + signs (s.data.toList.drop e)=i + signs (s.data.toList.drop i)/\j=s.size - e)
  (s.size - i) (Is s i i) (bG wB) ⟨i,rfl,by omega,by omega,rfl,rfl⟩ ?_
 rintro j st ⟨e,rfl,he,Iu,hinv,rfl⟩;refine br ?_ ?_<;>intro h
 ·have aw:e < s.size:=sU h;refine ⟨⟨by omega,by omega⟩,?_⟩;refine cP acq (MK _) ?_;obtain ⟨c,hd,hb⟩:=tw aw;refine br ?_ ?_<;>intro h2
  ·have hsg:jj (c.toNat:Int)=true:=by
    have:jj ((eX s e:Nat):Int)=true:=h2
    rwa [hb] at this
   refine ⟨Is s i (e + 1),(bG (dH (aX aw (by omega)))),s.size - (e + 1),by omega,e + 1,rfl,by omega,by omega,?_,rfl⟩;rw [hd] at hinv;simp only [signs,hsg,if_true] at hinv;omega
  ·have hsg:jj (c.toNat:Int)=false:=by
    have:jj ((eX s e:Nat):Int)=false:=h2
    rwa [hb] at this
   rw [hd] at hinv;simp only [signs,hsg] at hinv;refine ⟨⟨by omega,by omega,by omega⟩,?_⟩;have:i + signs (s.data.toList.drop i)=e:=by simp at hinv;omega
   rw [this];exact ⟨_,ax,rfl⟩
 ·have hge:e=s.size:=by simp at h;omega
  rw [xC (by omega)] at hinv;simp only [signs] at hinv;refine ⟨⟨by omega,by omega,by omega⟩,?_⟩;have:i + signs (s.data.toList.drop i)=e:=by omega
  rw [this];exact ⟨_,ax,rfl⟩
theorem take_nil (s:ByteArray) (hs:s.size=0):EvP prog 198 [.v (.string s),.v (.int .i64 0)] (.tup [.v (.string ⟨#[]⟩),.v (.int .i64 0)]):=by
 refine eG 38 [.tmp 4,.tmp 5] func198 rfl ntmps198 rfl fun _ _ _ _=>?_;refine br (fun _=>?_) (fun h=>?_)
 ·exact ⟨_,ax,rfl⟩
 ·simp [au,hs] at h
theorem Iv (l:List UInt8):ef l<=l.length:=by
 cases l with
 | nil=>exact aR _
 | cons c r=>grind [ef,Fc]
theorem Fe (s:ByteArray):decide (s=⟨#[]⟩)=decide (s.size=0):=by
 rw [Bool.eq_iff_iff];simp only [decide_eq_true_eq];constructor
 ·rintro rfl;rfl
 ·intro h;apply ByteArray.ext;exact Array.eq_empty_of_size_eq_zero h
theorem jk (s:ByteArray) (hs:s.size<=4611686018427387904):EvP prog 111 [.v (.string s)] (.v (.bool (aZ s))):=by
 refine eG 22 [.tmp 2] func111 rfl ntmps111 rfl fun _ _ _ _=>?_;by_cases h0:s.size=0
 ·refine cP Wv (take_nil s h0) ?_;refine (bK ?_:);simp [aq,aZ,Fe,h0]
 ·refine cP Wv (ML s 0 (by omega) hs) ?_;refine (bK ?_:);have hl:=Iv s.data.toList;simp only [Array.length_toList,ByteArray.size_data] at hl;simp only [aq,aZ,Fe,List.drop_zero,Nat.zero_add];rw [Bool.eq_iff_iff];simp only [aO,decide_eq_true_eq,Bool.not_eq_true',decide_eq_false_iff_not];omega
abbrev CB (s:ByteArray) (i n e:Nat):St:=⟨[ay 5 n,ay 6 e,(0,⟨[],.v (.string s)⟩),ay 1 i],[],[]⟩
theorem Ff (s:ByteArray) (hs:s.size<=4611686018427387904):EvP prog 225 [.v (.string s),.v (.int .i64 0)] (.v (.int .i64 (ef s.data.toList))):=by
 refine eG 47 [.tmp 4] func225 rfl ntmps225 rfl fun _ _ _ _=>?_
 refine aT (fun j st=>∃ e:Nat,st=CB s 0 e e/\e<=s.size/\(e=0∨e + signs (s.data.toList.drop e)=ef s.data.toList)/\j=s.size - e)
  s.size (CB s 0 0 0) (bG wB) ⟨0,rfl,by omega,.inl rfl,rfl⟩ ?_
 rintro j st ⟨e,rfl,he,hinv,rfl⟩;refine br ?_ ?_<;>intro h
 ·have aw:e < s.size:=sU h;refine ⟨⟨by omega,by omega⟩,?_⟩;obtain ⟨c,hd,hb⟩:=tw aw;have key:ef s.data.toList=if (e=0/\isLet (c.toNat:Int)=true)∨(e≠0/\jj (c.toNat:Int)=true) then (e + 1) + signs (s.data.toList.drop (e + 1)) else e:=by grind [ef,isLet,signs,jj]
  refine br ?_ ?_<;>intro h2
  ·have eP:eX s ((e:Int).toNat)=c.toNat:=hb;rw [eP] at h2;have:ef s.data.toList=e:=by grind [aq,au,jj,isLet]
   rw [this];exact (rfl:_=_)
  ·have eP:eX s ((e:Int).toNat)=c.toNat:=hb;rw [eP] at h2;refine ⟨CB s 0 (e + 1) (e + 1),(bG (dH (aX aw (by omega)))),s.size - (e + 1),by omega,e + 1,rfl,by omega,.inr ?_,rfl⟩;rw [key,aj];simp only [aq,au,jj,isLet] at h2 ⊢;simp at h2 ⊢;omega
 ·have hge:e=s.size:=by simp at h;omega
  have:ef s.data.toList=e:=by
   rcases hinv with h0 | h0
   ·subst h0;have:s.data.toList=[]:=by rw [<- List.drop_zero (l:=s.data.toList)];exact xC (by omega)
    rw [this];all_goals rfl
   ·grind [xC,signs]
  rw [this];exact (rfl:_=_)
theorem jI (s:ByteArray) (hs:s.size<=4611686018427387904):EvP prog 154 [.v (.string s)] (.v (.bool (aZ s))):=by
 refine eG 18 [.tmp 2] func154 rfl ntmps154 rfl fun _ _ _ _=>?_;refine br ?_ ?_<;>intro h
 ·refine cP ack (Ff s hs) ?_;refine (bK ?_:);rw [Bool.eq_iff_iff];simp [aq] at h;simp [aq,aZ];omega
 ·refine (bK ?_:);rw [Bool.eq_iff_iff];simp [aq] at h;simp [aq,aZ];omega
def fq (l:List ByteArray):List (List DV):=l.map fun s=>[.v (.string s)]
def dInts (l:List Nat):List (List DV):=l.map fun (i:Nat)=>[.v (.int .i64 (i:Int))]
theorem cH (l:List ByteArray):(fq l).length=l.length:=by simp [fq]
theorem bN (l:List Nat):(dInts l).length=l.length:=by simp [dInts]
theorem gd {l:List ByteArray} {j:Nat} {x:ByteArray} (h:l[j]? = some x):(fq l)[j]? = some [.v (.string x)]:=by simp [fq,h]
theorem eJ {l:List Nat} {j:Nat} {x:Nat} (h:l[j]? = some x):(dInts l)[j]? = some [.v (.int .i64 (x:Int))]:=by simp [dInts,h]
abbrev Iw (g:Nat) (cb:List DV) (i j:Nat):St:=⟨[(1,⟨[],.fn g [] cb⟩),ay 5 i,ay 6 j],[],[]⟩
theorem uP (g:Nat) (kY:Enters prog g) (cb:List DV) (n m:Nat) (hn:n<=1099511627776) (hm:m<=n) (Fg:CcL [] 0 0 0 cb cb) (gQ:clB.clL 0 0 cb=true)
  (hp:∀ i:Nat,i < n->EvP prog g (.v (.int .i64 i) :: cb) (.v (.bool (decide (m<=i))))) :
  EvP prog 200 [.v (.int .i64 n),.fn g [] cb] (.v (.int .i64 m)):=by
 refine eG 26 [.tmp 4] func200 rfl ntmps200 rfl fun _ _ _ _=>?_;have Ef:clB 0 0 (.fn g [] cb)=true:=by simp only [clB,aO];exact ⟨rfl,gQ⟩
 refine lI (fun j st=>∃ a b:Nat,st=Iw g cb a b/\a<=m/\m<=b/\b<=n/\j=b - a) ⟨0,n,rfl,by omega,by omega,by omega,rfl⟩ (bG (dH Ef)) ?_;rintro j st ⟨a,b,rfl,h1,h2,h3,rfl⟩;refine br ?_ ?_<;>intro h
 ·have aw:a < b:=sU h
  have YC:IntKind.i64.wrap ((IntKind.u64.wrap (IntKind.i64.wrap ((a:Int) + (b:Int)))).fdiv (2 ^ (min ((1:Int).toNat) IntKind.u64.bits)))=(((a + b) / 2:Nat):Int):=by
   rw [wrap64 (n:=(a:Int) + (b:Int)) (by omega) (by omega),IntKind.wrap_u64];have e2:(2:Int) ^ (min ((1:Int).toNat) IntKind.u64.bits)=2:=by decide
   rw [e2,Int.fdiv_eq_ediv_of_nonneg _ (by decide),wrap64 (by omega) (by omega)];omega
  refine ⟨by decide,?_⟩;refine cP kY (hp ((a + b) / 2) (by omega)) ?_ ⟨_,_,rfl,congrArg (fun z=>DV.v (.int .i64 z)) YC,Fg⟩;refine br ?_ ?_<;>intro hq
  ·have hq:(a + b) / 2 < m:=sU hq;have Eu:=aX (e:=(a + b) / 2) (n:=n) (by omega) (by omega);rw [<- YC] at Eu;refine ⟨Iw g cb ((a + b) / 2 + 1) b,(bG (gC Ef Eu)),b - ((a + b) / 2 + 1),by omega,(a + b) / 2 + 1,b,rfl,by omega,by omega,by omega,rfl⟩
  ·have hq:m<=(a + b) / 2:=sU hq;refine ⟨Iw g cb a ((a + b) / 2),(bG (gC Ef YC)),(a + b) / 2 - a,by omega,a,(a + b) / 2,rfl,by omega,by omega,by omega,rfl⟩
 ·have hge:¬ a < b:=sU h;have:a=m:=by omega
  subst this;exact (rfl:_=_)
def CD (a b:ByteArray):Bool:=Op.bytesLess a.data.toList b.data.toList
theorem lB:∀ l:List UInt8,Op.bytesLess l l=false
 | []=>rfl
 | a :: r=>by simp [Op.bytesLess,lB r]
theorem kE:∀ {a b:List UInt8},Op.bytesLess a b=true->Op.bytesLess b a=false
 | _,[],h=>by simp [Op.bytesLess] at h
 | [],b :: r,_=>rfl
 | a :: x,b :: y,h=>by
  simp only [Op.bytesLess,Bool.or_eq_true,decide_eq_true_eq,aO,beq_iff_eq] at h;simp only [Op.bytesLess,Bool.or_eq_false_iff,decide_eq_false_iff_not,Bool.and_eq_false_imp,beq_iff_eq];rcases h with h | ⟨rfl,h⟩
  ·grind
  ·exact ⟨UInt8.lt_irrefl _,fun _=>kE h⟩
structure iT (L:List ByteArray) (aJ:List Nat):Prop where
 lt:∀ (i p:Nat),aJ[i]? = some p->p < L.length
 srt:∀ (i j p q:Nat) (s t:ByteArray),i < j->aJ[i]? = some p->aJ[j]? = some q->L[p]? = some s->L[q]? = some t->CD s t=true
 fst:∀ (i p j:Nat) (s:ByteArray),aJ[i]? = some p->L[p]? = some s->L[j]? = some s->p<=j
 all:∀ (j:Nat) (s:ByteArray),L[j]? = some s->∃ i p:Nat,aJ[i]? = some p/\L[p]? = some s
abbrev dr (L:List ByteArray) (aJ:List Nat):List DV:=[.sl 1 (fq L) none,.sl 1 (dInts aJ) none]
theorem xD (L:List ByteArray) (aJ:List Nat) (s:ByteArray) (i p:Nat) (t:ByteArray) (hi:aJ[i]? = some p) (hp:L[p]? = some t) :
  EvP prog 201 [.v (.int .i64 i),.pt [.pt (dr L aJ) 0] 0,.pt [.v (.string s)] 0] (.v (.bool (!CD t s))):=by
 refine eG 20 [.tmp 4] func201 rfl ntmps201 rfl fun _ _ _ _=>?_;refine dI ?_;refine iX (eJ hi) ?_;refine iX (gd hp) ?_;exact (rfl:_=_)
theorem find_spec (L:List ByteArray) (aJ:List Nat) (s:ByteArray) (q p:Nat) (hT:iT L aJ) (hl:aJ.length<=1099511627776) (hq:aJ[q]? = some p) (hp:L[p]? = some s) :
  EvP prog 115 [.pt (dr L aJ) 0,.v (.string s)] (.tup [.v (.int .i64 p),.v (.bool true)]):=by
 have hqlt:=(gS hq).1;refine eG 47 [.tmp 4,.tmp 5] func115 rfl ntmps115 rfl fun _ _ _ _=>?_
 have gQ:∀ i:Nat,i < aJ.length->EvP prog 201 [.v (.int .i64 i),.pt [.pt (dr L aJ) 0] 0,.pt [.v (.string s)] 0] (.v (.bool (decide (q<=i)))):=by
  intro i hi;obtain ⟨p',z7⟩:∃ p',aJ[i]? = some p':=⟨_,gE hi⟩;obtain ⟨t,ht⟩:∃ t,L[p']? = some t:=⟨_,gE (hT.lt i p' z7)⟩;have:=xD L aJ s i p' t z7 ht
  have e:(!CD t s)=decide (q<=i):=by
   rcases Nat.lt_trichotomy i q with h | h | h
   ·rw [hT.srt i q p' p t s h z7 hq ht hp];simp;omega
   ·grind [CD,lB]
   ·have h2:=hT.srt q i p p' s t h hq z7 hp ht;rw [CD,kE h2];simp;omega
  rw [e] at this;exact this
 have hS:=uP 201 Wx [.pt [.pt (dr L aJ) 0] 0,.pt [.v (.string s)] 0] aJ.length q hl (by omega) ax rfl gQ;refine Cy Ww hS (rA (bN aJ)) rfl ?_;refine dI ?_;refine br ?_ ?_<;>intro h
 ·refine iX (eJ hq) ?_;refine iX (gd hp) ?_;refine br ?_ ?_<;>intro h2
  ·exfalso;simp [au,bN] at h2
  ·refine iX (eJ hq) ?_;exact ⟨_,ax,rfl⟩
 ·grind [dInts,bN]
end Go.Proofs.YtgjagnmeonoehaaGreat
set_option maxRecDepth 100000
namespace Go.Proofs
open Go.Shelf
def Tryz.laysGg6_ren:Go.Shelf.Ren:=⟨fun | 6=>188 | 10=>245 | 11=>246 | 12=>247 | 13=>248 | 14=>249 | 24=>293 | 25=>294 | 26=>295 | 27=>296 | 28=>297 | 29=>298 | 30=>299 | 31=>300 | 32=>301 | 33=>302 | 34=>322 | 35=>323 | 36=>324 | 37=>325 | 38=>326 | 39=>352 | n=>n,fun | 20=>20 | 26=>182 | 35=>341 | 0=>0 | 37=>343 | 3=>3 | 41=>346 | 44=>349 | 49=>384 | 51=>295 | 4=>4 | 54=>387 | 53=>386 | 58=>219 | 5=>5 | 9=>9 | 60=>406 | 64=>410 | 66=>430 | 67=>104 | 17=>17 | 32=>316 | 33=>339 | 82=>459 | 12=>12 | 75=>453 | 76=>454 | 77=>455 | 78=>258 | 79=>456 | 80=>457 | n=>n,fun | n=>n⟩
theorem Tryz.laysGg6:Go.Proofs.LaysGg.n6 prog Tryz.laysGg6_ren:={
 mixed:=by kernel_rfl
 f6:=func188.trans (congrArg some (by kernel_rfl))
 f10:=func245.trans (congrArg some (by kernel_rfl))
 f11:=func246.trans (congrArg some (by kernel_rfl))
 f12:=func247.trans (congrArg some (by kernel_rfl))
 f13:=func248.trans (congrArg some (by kernel_rfl))
 f14:=func249.trans (congrArg some (by kernel_rfl))
 f24:=func293.trans (congrArg some (by kernel_rfl))
 f25:=func294.trans (congrArg some (by kernel_rfl))
 f26:=func295.trans (congrArg some (by kernel_rfl))
 f27:=func296.trans (congrArg some (by kernel_rfl))
 f28:=func297.trans (congrArg some (by kernel_rfl))
 f29:=func298.trans (congrArg some (by kernel_rfl))
 f30:=func299.trans (congrArg some (by kernel_rfl))
 f31:=func300.trans (congrArg some (by kernel_rfl))
 f32:=func301.trans (congrArg some (by kernel_rfl))
 f33:=func302.trans (congrArg some (by kernel_rfl))
 f34:=func322.trans (congrArg some (by kernel_rfl))
 f35:=func323.trans (congrArg some (by kernel_rfl))
 f36:=func324.trans (congrArg some (by kernel_rfl))
 f37:=func325.trans (congrArg some (by kernel_rfl))
 f38:=func326.trans (congrArg some (by kernel_rfl))
 f39:=func352.trans (congrArg some (by kernel_rfl))
 t0:=Tryz.underlying0
 a0:=Tryz.isAgg0
 z0:=Tryz.sizeOf0
 v0:=Tryz.zeroValue0
 i0:=by kernel_rfl
 t3:=Tryz.underlying3
 a3:=Tryz.isAgg3
 z3:=Tryz.sizeOf3
 v3:=Tryz.zeroValue3
 i3:=by kernel_rfl
 t4:=Tryz.underlying4
 a4:=Tryz.isAgg4
 z4:=Tryz.sizeOf4
 v4:=Tryz.zeroValue4
 i4:=by kernel_rfl
 t5:=Tryz.underlying5
 a5:=Tryz.isAgg5
 z5:=Tryz.sizeOf5
 v5:=Tryz.zeroValue5
 i5:=by kernel_rfl
 t9:=Tryz.underlying9
 a9:=Tryz.isAgg9
 z9:=Tryz.sizeOf9
 v9:=Tryz.zeroValue9
 i9:=by kernel_rfl
 t12:=Tryz.underlying12
 a12:=Tryz.isAgg12
 z12:=Tryz.sizeOf12
 v12:=Tryz.zeroValue12
 i12:=by kernel_rfl
 t17:=Tryz.underlying17
 a17:=Tryz.isAgg17
 z17:=Tryz.sizeOf17
 v17:=Tryz.zeroValue17
 i17:=by kernel_rfl
 t20:=Tryz.underlying20
 a20:=Tryz.isAgg20
 z20:=Tryz.sizeOf20
 v20:=Tryz.zeroValue20
 i20:=by kernel_rfl
 t26:=Tryz.underlying182
 a26:=Tryz.isAgg182
 z26:=Tryz.sizeOf182
 v26:=Tryz.zeroValue182
 i26:=by kernel_rfl
 t32:=Tryz.underlying316
 a32:=Tryz.isAgg316
 z32:=Tryz.sizeOf316
 v32:=Tryz.zeroValue316
 i32:=by kernel_rfl
 t33:=Tryz.underlying339
 a33:=Tryz.isAgg339
 z33:=Tryz.sizeOf339
 v33:=Tryz.zeroValue339
 i33:=by kernel_rfl
 t35:=Tryz.underlying341
 a35:=Tryz.isAgg341
 z35:=Tryz.sizeOf341
 v35:=Tryz.zeroValue341
 i35:=by kernel_rfl
 t37:=Tryz.underlying343
 a37:=Tryz.isAgg343
 z37:=Tryz.sizeOf343
 v37:=Tryz.zeroValue343
 i37:=by kernel_rfl
 t41:=Tryz.underlying346
 a41:=Tryz.isAgg346
 z41:=Tryz.sizeOf346
 v41:=Tryz.zeroValue346
 i41:=by kernel_rfl
 t44:=Tryz.underlying349
 a44:=Tryz.isAgg349
 z44:=Tryz.sizeOf349
 v44:=Tryz.zeroValue349
 i44:=by kernel_rfl
 t49:=Tryz.underlying384
 a49:=Tryz.isAgg384
 z49:=Tryz.sizeOf384
 v49:=Tryz.zeroValue384
 i49:=by kernel_rfl
 t51:=Tryz.underlying295
 a51:=Tryz.isAgg295
 z51:=Tryz.sizeOf295
 v51:=Tryz.zeroValue295
 i51:=by kernel_rfl
 t53:=Tryz.underlying386
 a53:=Tryz.isAgg386
 z53:=Tryz.sizeOf386
 v53:=Tryz.zeroValue386
 i53:=by kernel_rfl
 t54:=Tryz.underlying387
 a54:=Tryz.isAgg387
 z54:=Tryz.sizeOf387
 v54:=Tryz.zeroValue387
 i54:=by kernel_rfl
 t58:=Tryz.underlying219
 a58:=Tryz.isAgg219
 z58:=Tryz.sizeOf219
 v58:=Tryz.zeroValue219
 i58:=by kernel_rfl
 t60:=Tryz.underlying406
 a60:=Tryz.isAgg406
 z60:=Tryz.sizeOf406
 v60:=Tryz.zeroValue406
 i60:=by kernel_rfl
 t64:=Tryz.underlying410
 a64:=Tryz.isAgg410
 z64:=Tryz.sizeOf410
 v64:=Tryz.zeroValue410
 i64:=by kernel_rfl
 t66:=Tryz.underlying430
 a66:=Tryz.isAgg430
 z66:=Tryz.sizeOf430
 v66:=Tryz.zeroValue430
 i66:=by kernel_rfl
 t67:=Tryz.underlying104
 a67:=Tryz.isAgg104
 z67:=Tryz.sizeOf104
 v67:=Tryz.zeroValue104
 i67:=by kernel_rfl
 t75:=Tryz.underlying453
 a75:=Tryz.isAgg453
 z75:=Tryz.sizeOf453
 v75:=Tryz.zeroValue453
 i75:=by kernel_rfl
 t76:=Tryz.underlying454
 a76:=Tryz.isAgg454
 z76:=Tryz.sizeOf454
 v76:=Tryz.zeroValue454
 i76:=by kernel_rfl
 t77:=Tryz.underlying455
 a77:=Tryz.isAgg455
 z77:=Tryz.sizeOf455
 v77:=Tryz.zeroValue455
 i77:=by kernel_rfl
 t78:=Tryz.underlying258
 a78:=Tryz.isAgg258
 z78:=Tryz.sizeOf258
 v78:=Tryz.zeroValue258
 i78:=by kernel_rfl
 t79:=Tryz.underlying456
 a79:=Tryz.isAgg456
 z79:=Tryz.sizeOf456
 v79:=Tryz.zeroValue456
 i79:=by kernel_rfl
 t80:=Tryz.underlying457
 a80:=Tryz.isAgg457
 z80:=Tryz.sizeOf457
 v80:=Tryz.zeroValue457
 i80:=by kernel_rfl
 t82:=Tryz.underlying459
 a82:=Tryz.isAgg459
 z82:=Tryz.sizeOf459
 v82:=Tryz.zeroValue459
 i82:=by kernel_rfl }
end Go.Proofs
namespace Go.Proofs.YtgjagnmeonoehaaGreat
open Go Go.RowKit Go.Lib Go.Sort Go.Proofs.Tryz
noncomputable def siT:TypeInfo:=(prog.info? 82).get (by kernel_rfl)
noncomputable def siE:TypeInfo:=(prog.info? 3).get (by kernel_rfl)
theorem siK (n:Nat) (h2:2<=n):Lib.swapperK n siE 2=5:=by
 have a:siE.hasPointers=false:=by kernel_rfl
 have b:siE.bytes=8:=by kernel_rfl
 have c:(n == 0)=false:=by simp;omega
 have d:(n == 1)=false:=by simp;omega
 simp [Lib.swapperK,a,b,c,d]
theorem Qd {α:Type} [Inhabited α] (enc:α->Value) (h1:∀ x,(enc x).oneCell'=true) {lt:α->α->Bool} (hO:SWO lt) (lb:Array Value) (HN c:Nat) (d:Array α) (h2:2<=d.size) (cf:d.size < 4611686018427387904) (w:World)
  (Qe:LessReads prog 189 lb enc lt HN 0 d.size w) (hH:Holds enc w HN 0 d) (hblk:HN < w.heap.size) :
  Calls prog 188 #[.iface 82 (.slice (some ⟨HN,0,none⟩) d.size c),.func (.func 189) #[] lb] w fun e w'=>
   e = .returned (.tuple #[])/\∃ d' n os,PermIn 0 d.size d d' /\ SortedIn lt 0 d.size d' /\ w'=grow (putRow enc (Sort.ahead w n) HN 0 d') os:=
 Any.sort_Slice_sorted Tryz.laysGg6 82 3 siT siE (by kernel_rfl) (by kernel_rfl) (by kernel_rfl) (by kernel_rfl) 2 (fun _=>by kernel_rfl) (by kernel_rfl) (fun _=>by kernel_rfl) enc h1 lt hO 189 lb
  (enters_of func189 (by kernel_rfl) rfl) HN 0 c d h2 cf 288 (by rw [siK _ h2];kernel_rfl) true
  (fun args W=>run_callFunc_extern func288 (by kernel_rfl) (by kernel_rfl) (by kernel_rfl) (e:=Extern.ReflectliteSwapper.swap true) (by kernel_rfl) args W) w Qe hH hblk
theorem MM (lb:Array Value) (p:Option Addr) (n c:Nat) (h1:n<=1) (w:World) :
  Calls prog 188 #[.iface 82 (.slice p n c),.func (.func 189) #[] lb] w fun e w'=>e = .returned (.tuple #[])/\∃ os,w'=grow w os:=by
 have h:n=0∨n=1:=by omega
 rcases h with rfl | rfl
 ·exact Any.sort_Slice_tiny Tryz.laysGg6 82 3 siT siE (by kernel_rfl) (by kernel_rfl) (by kernel_rfl) (by kernel_rfl) 2 (fun _=>by kernel_rfl) p 0 c h1 284 (by kernel_rfl) _ _ _ w
 ·exact Any.sort_Slice_tiny Tryz.laysGg6 82 3 siT siE (by kernel_rfl) (by kernel_rfl) (by kernel_rfl) (by kernel_rfl) 2 (fun _=>by kernel_rfl) p 1 c h1 285 (by kernel_rfl) _ _ _ w
end Go.Proofs.YtgjagnmeonoehaaGreat
set_option maxRecDepth 100000
namespace Go.Proofs.YtgjagnmeonoehaaGreat
open Go Go.RowKit Dv Go.Proofs.Tryz
theorem pY:∀ {a b:List UInt8},Op.bytesLess a b=false->a=b∨Op.bytesLess b a=true
 | [],[],_=>.inl rfl
 | a :: x,[],_=>.inr rfl
 | [],b :: r,h=>by simp [Op.bytesLess] at h
 | a :: x,b :: y,h=>by
  simp only [Op.bytesLess,Bool.or_eq_false_iff,decide_eq_false_iff_not,Bool.and_eq_false_imp,beq_iff_eq] at h;simp only [Op.bytesLess,Bool.or_eq_true,decide_eq_true_eq,aO,beq_iff_eq];by_cases OS:a=b
  ·subst OS;rcases pY (h.2 rfl) with h2 | h2
   all_goals grind
  all_goals grind
theorem gU:∀ {a b c:List UInt8},Op.bytesLess a b=true->Op.bytesLess b c=true->Op.bytesLess a c=true
 | _,[],_,h,_=>by simp [Op.bytesLess] at h
 | _,_ :: _,[],_,h=>by simp [Op.bytesLess] at h
 | [],b :: y,c :: z,_,_=>rfl
 | a :: x,b :: y,c :: z,h1,h2=>by
  simp only [Op.bytesLess,Bool.or_eq_true,decide_eq_true_eq,aO,beq_iff_eq] at h1 h2 ⊢;rcases h1 with h1 | ⟨rfl,h1⟩
  ·grind
  ·rcases h2 with h2 | ⟨rfl,h2⟩
   ·exact .inl h2
   ·exact .inr ⟨rfl,gU h1 h2⟩
theorem K9 {s t:ByteArray} (h:CD s t=false):s=t∨CD t s=true:=by
 rcases pY h with h | h
 ·exact .inl (ByteArray.ext (Array.ext' h))
 ·exact .inr h
def Fh (L:List ByteArray) (p q:Nat):Bool:=
 if L.getD p av=L.getD q av then decide (p < q) else CD (L.getD p av) (L.getD q av)
theorem Ut (L:List ByteArray):Sort.SWO (Fh L):=by
 have irr:∀ x,Fh L x x=false:=fun x=>by simp [Fh]
 have tr:∀ x y z,Fh L x y=true->Fh L y z=true->Fh L x z=true:=by grind [Fh,av,kE,CD,gU]
 have tot:∀ x y,Fh L x y=false->x=y∨Fh L y x=true:=by grind [Fh,av,K9]
 refine ⟨irr,tr,fun x y z h1 h2=>?_⟩
 grind
theorem MN (L:List ByteArray) (d:List Nat) (i j p q:Nat) (hi:d[i]? = some p) (hj:d[j]? = some q) (hp:p < L.length) (hq:q < L.length) :
  EvS prog 189 [.v (.int .i64 i),.v (.int .i64 j),.pt [.sl 1 (dInts d) none] 0,.pt [.pt [.sl 1 (fq L) none,.v (.slice none 0 0)] 0] 0] [] [] (fun r _ _=>r = .v (.bool (Fh L p q))):=by
 obtain ⟨s,hs⟩:∃ s,L[p]? = some s:=⟨_,gE hp⟩;obtain ⟨t,ht⟩:∃ t,L[q]? = some t:=⟨_,gE hq⟩;have e:Fh L p q=if s=t then decide (p < q) else CD s t:=by grind [Fh]
 refine Pp (s:=true) (P:=prog) tt eT 5000 50 [.tmp 6] func189 rfl ntmps189 rfl (nL rfl) (fun _ _ _ _=>?_);refine dI ?_;refine iX (eJ hi) ?_;refine iX (eJ hj) ?_;refine dI ?_;refine iX (gd hs) ?_;refine iX (gd ht) ?_;refine br ?_ ?_<;>intro h
 ·have aY:s≠t:=sU h;refine dI ?_;refine iX (gd hs) ?_;refine iX (gd ht) ?_;refine (bK ?_:);rw [e,ai aY];rfl
 ·have aP:s=t:=sU h;refine (bK ?_:);rw [e,aj aP];simp
abbrev Qf (p:Nat):Value:=.int .i64 (p:Int)
theorem Fi {E:En}:∀ {ds:List Nat} {arr:List Value},RvL E (dInts ds).flatten arr->arr=ds.map Qf
 | [],arr,h=>by simpa [dInts,RvL] using h
 | x :: r,arr,h=>by
  simp only [dInts,List.map_cons,List.flatten_cons,List.cons_append,List.nil_append,RvL] at h;obtain ⟨v,s,rfl,h1,h2⟩:=h;unfold Rv at h1;rw [h1.1,Fi (ds:=r) h2];rfl
theorem xE {E:En}:∀ ds:List Nat,RvC E (dInts ds).flatten (ds.map Qf)
 | []=>⟨cS E,by simp⟩
 | x :: r=>by
  have ih:=xE (E:=E) r;refine ⟨?_,?_⟩
  ·simp only [dInts,List.map_cons,List.flatten_cons,List.cons_append,List.nil_append];exact rvL_cons (gA rfl) ih.1
  ·intro v hv;simp only [List.map_cons,List.mem_cons] at hv;rcases hv with rfl | hv
   ·rfl
   ·exact ih.2 v hv
theorem ac3 {m:Nat}:∀ ds:List Nat,(∀ p∈ds,p < m + 1)->∃ D:List (Fin (m + 1)),D.map (·.val)=ds
 | [],_=>⟨[],rfl⟩
 | x :: r,h=>by
  obtain ⟨D,hD⟩:=ac3 r fun p hp=>h p (jD _ hp);exact ⟨⟨x,h x (by simp)⟩ :: D,by simp [hD]⟩
theorem xF {α:Type} [Inhabited α] (enc:α->Value) (w:World) (b n:Nat) (dk:Array α) (os:Array Obj) (arr:List Value) (ty:TypeId) (hw:w.heap[b]? = some (.cells arr.toArray ty (0,0))) (hl:arr.length=dk.size) :
  ∀ k,k < w.heap.size->(Sort.grow (Sort.putRow enc (Sort.ahead w n) b 0 dk) os).heap[k]? = (World.di w b (.cells (dk.toList.map enc).toArray ty (0,0))).heap[k]?:=by
 intro k hk;simp only [Sort.grow,Sort.putRow,Sort.mapBlock,Sort.ahead];rw [Array.getElem?_append_left (sU hk),Array.getElem?_modify];by_cases hkb:b=k
 ·subst hkb;rw [aj rfl,hw,du hw];simp only [Option.map_some,Sort.onCells,oI,Obj.cells.injEq,and_true];apply Array.ext_getElem?;intro j;simp only [Sort.putCells,Array.getElem?_mapIdx]
  grind
 ·rw [ai hkb,cG (Ne.symm hkb)]
theorem Qg {α:Type} {l:List α} {i:Nat} {x:α} (h:l[i]? = some x):l.set i x=l:=by
 apply List.ext_getElem?
 grind
theorem MO {X:Ctx} {st:St} {k:List It} (hP:X.P=prog) {i c len:Nat} {ds:List Nat} (hlen:len=ds.length) {lbD:List DV} {d:Nat} (N:Nat) (hN:∀ p∈ds,p < N) (lt:Nat->Nat->Bool) (hO:Sort.SWO lt)
  (jA:st.bx[i]? = some (dInts ds).flatten) (hn:ds.length<=1099511627776) (lbF:List Nat->List DV) (Qh:∀ dk:List Nat,dk.length=ds.length->CcL (st.bx.set i (dInts dk).flatten) 0 0 0 (lbF dk) lbD)
  (Qe:∀ dk:List Nat,dk.length=ds.length->(∀ p∈dk,p < N)->∀ i j p q:Nat,dk[i]? = some p->dk[j]? = some q->EvS prog 189 (.v (.int .i64 i) :: .v (.int .i64 j) :: lbF dk) [] [] (fun r _ _=>r = .v (.bool (lt p q))))
  (hd:ep X.nt st.sl (some d)=true)
  (hk:∀ YD:List Nat,YD.Perm ds->(∀ i j p q:Nat,i < j->YD[i]? = some p->YD[j]? = some q->lt q p=false)->go X 4000 k ⟨(d,⟨[],.tup []⟩) :: st.sl,st.bx.set i (dInts YD).flatten,st.tk⟩)
  (bd:X.still=false:=by exact rfl) (hX:X.bt=[]:=by exact rfl):CallG X 188 [.rc 82 (.ms i 1 0 len c),.fn 189 [] lbD] (some d) k st:=by
 subst hlen;refine ⟨?_,bd,fun E a w vs h hv=>?_⟩
 ·rw [hP];exact ab9
 rw [hP];simp only [RvL] at hv;obtain ⟨v1,_,rfl,h1,v2,_,rfl,h2,rfl⟩:=hv;unfold Rv at h1;obtain ⟨z,rfl,h1⟩:=h1;unfold Rv at h1;obtain ⟨b,ad,hb,V6,rfl,hca⟩:=h1;unfold Rv at h2;obtain ⟨l,r,rfl,hl,hr⟩:=h2;simp only [RvL] at hl;subst hl;obtain ⟨b',ty,arr,eD,hw,vx⟩:=h.env.ey i _ jA;rw [hb] at eD;simp only [oI] at eD;subst eD;have Qi:=Fi vx.1;have Yv:=dj hw;by_cases h1:ds.length<=1
 ·refine (MM r.toArray ad ds.length c h1 w).mono ?_;rintro e w' ⟨rfl,os,rfl⟩
  have hh:∀ j,j < w.heap.size->(Sort.grow w os).heap[j]? = w.heap[j]?:=fun j hj=>by
   simp only [Sort.grow];rw [Array.getElem?_append_left hj]
  have bY:Rel X E st a (Sort.grow w os):=dC h (Ext.refl E) (h.env.kW hh) h.tk h.nw (h.fr.cK rfl rfl rfl (by simp [Sort.grow]) fun j hj=>.inr (hh j hj)) (mJ bd) (.nil hX);have Px:=hk ds (List.Perm.refl _) (fun i j p q qj _ hj=>by have:=(gS hj).1;omega);rw [Qg jA] at Px;exact go_sound 4000 _ _ Px E _ _ (bc bY hd (.tup []) (.tuple #[]) (by unfold Rv;exact ⟨[],rfl,cS E⟩))
 ·have h2:2<=ds.length:=by omega
  have had:=hca (by omega);subst had
  obtain ⟨m,rfl⟩:∃ m,N=m + 1:=by
   cases Pj:ds with
   | nil=>rw [Pj] at h2;simp at h2
   | cons x r=>have:=hN x (by rw [Pj];simp);exact ⟨N - 1,by omega⟩
  obtain ⟨D,hD⟩:=ac3 ds hN;have Ix:D.length=ds.length:=by rw [<- hD];simp
  let enc:Fin (m + 1)->Value:=fun x=>Qf x.val
  have hO':Sort.SWO (fun x y:Fin (m + 1)=>lt x.val y.val):=⟨fun x=>hO.irrefl _,fun x y z=>hO.trans _ _ _,fun x y z=>hO.ntrans _ _ _⟩;have ac4:∀ l:List (Fin (m + 1)),l.map enc=(l.map (·.val)).map Qf:=fun l=>by simp [enc]
  have hS:=Qd enc (fun _=>rfl) hO' r.toArray b c D.toArray (by simpa [Ix] using h2) (by simp [Ix];omega) w ?_ ?_ Yv
  ·simp only [List.size_toArray,Ix] at hS;refine hS.mono ?_;rintro e w' ⟨rfl,d',n,os,hp,hs,rfl⟩;have cf:d'.size=ds.length:=by have:=hp.1;simpa [Ix] using this
   have pZ:(d'.toList.map (·.val)).Perm ds:=by
    have h3:=hp.2.2;have e1:d'.extract 0 ds.length=d':=Array.extract_eq_self_of_le (by omega);have e2:D.toArray.extract 0 ds.length=D.toArray:=Array.extract_eq_self_of_le (by simp [Ix]);rw [e1,e2] at h3;rw [<- hD];exact h3.map _
   have Qj:∀ i j p q:Nat,i < j->(d'.toList.map (·.val))[i]? = some p->(d'.toList.map (·.val))[j]? = some q->lt q p=false:=by
    intro i j p q qj hi hj;have qY:j < d'.size:=by have:=(gS hj).1;simpa using this
    have h3:=hs i j (Nat.zero_le _) qj (by omega);rw [getElem!_pos d' j qY,getElem!_pos d' i (by omega)] at h3;have OU:i < d'.size:=by omega
    simp [OU] at hi;simp [qY] at hj;rw [<- hi,<- hj];exact h3
   have hh:=xF enc w b n d' os arr ty hw (by rw [Qi];simp [cf]);have eQ:=jh (ty:=ty) h bd hb (cs':=(dInts (d'.toList.map (·.val))).flatten) (arr':=(d'.toList.map (·.val)).map Qf) (xE _) ⟨_,hw⟩;rw [<- ac4] at eQ;have kp:(Sort.grow (Sort.putRow enc (Sort.ahead w n) b 0 d') os).heap.size=w.heap.size + os.size:=by simp [Sort.grow,Sort.putRow,Sort.mapBlock,Sort.ahead]
   have bY:=dC eQ (Ext.refl E) (w':=Sort.grow (Sort.putRow enc (Sort.ahead w n) b 0 d') os) (eQ.env.kW fun j hj=>hh j (by rwa [fB] at hj)) eQ.tk eQ.nw
    (eQ.fr.cK rfl rfl rfl (by rw [fB,kp];omega) fun j hj=>.inr (hh j (by rwa [fB] at hj))) (mJ bd) (.nil hX)
   exact go_sound 4000 _ _ (hk _ pZ Qj) E _ _ (bc bY hd (.tup []) (.tuple #[]) (by unfold Rv;exact ⟨[],rfl,cS E⟩))
  ·intro mm os dk hs i' j' hi hj;have cf:dk.size=ds.length:=sV Ix hs;have hh:=xF enc w b mm dk os arr ty hw (by rw [Qi];simp [cf]);have hE:=h.env.set hb Yv (ty:=ty) (xE (E:=E) (dk.toList.map (·.val)));rw [<- ac4] at hE;have hE':=hE.kW (w':=Go.Proofs.sortWorld enc w b 0 mm dk os) fun j hj=>hh j (by rwa [fB] at hj);have OU:i' < dk.size:=by rw [cf,<- Ix];simpa using hi
   have qY:j' < dk.size:=by rw [cf,<- Ix];simpa using hj
   have hLL:(dk.toList.map (·.val)).length=ds.length:=sU cf
   have hc:=Qe (dk.toList.map (·.val)) hLL (fun p hp=>by
    obtain ⟨x,_,rfl⟩:=List.mem_map.1 hp
    exact x.isLt) i' j' (dk[i']!).val (dk[j']!).val (by rw [getElem!_pos dk i' OU];simp [OU]) (by rw [getElem!_pos dk j' qY];simp [qY])
   have hv:RvL E (.v (.int .i64 (i':Int)) :: .v (.int .i64 (j':Int)) :: lbD) (.int .i64 (i':Int) :: .int .i64 (j':Int) :: r):=rvL_cons (gA rfl) (rvL_cons (gA rfl) hr);have hb:=ka hE' hc ⟨_,_,rfl,rfl,_,_,rfl,rfl,Qh _ hLL⟩ hv;have hargs:(#[Value.int .i64 (i':Int),Value.int .i64 (j':Int)] ++ r.toArray)=(Value.int .i64 (i':Int) :: Value.int .i64 (j':Int) :: r).toArray:=by simp
   rw [hargs];refine hb.mono ?_;rintro e w' ⟨v,E2,rfl,CE,_,wT⟩;have:=bB CE;subst this;exact ⟨rfl,wT rfl⟩
  ·intro j hj;have qY:j < D.length:=sU hj;rw [cL hw,Nat.zero_add,Qi];refine ⟨?_,?_⟩
   ·rw [getElem!_pos D.toArray j hj,<- hD];simp [qY,enc]
   ·simp [World.frozen?,hw]
end Go.Proofs.YtgjagnmeonoehaaGreat
