/- Part 2 of the proof: The evaluator 'go' is sound: the end of a call, the theorem; contracts; rules for branches, calls, loops; Rules for the evaluator: what is known made less, loops; A region that draws its order: where the operations with an effect are ordered among themselves, and what writes waits for all that reads, one run in the order of the text serves every order; The evaluator at regions that draw their order: one run in the order of the text; what is read is what was known at the region's beginning; A region that draws its order, in which two operations with an effect are not ordered: the run in either order of these two serves every order; Rules for the evaluator: a call that is handed the caller's own objects, to read them; Rules for the evaluator: objects that are written no more are frozen, ahead of a loop; Rules for the evaluator: a call that is handed one of the caller's objects, to write it; The table of this program's types, by which the evaluator goes; The program's functions are entered; The data of the document's types, plain, and as the evaluator has them; Names: the program's and the reference's functions say the same of a text; sort.Search; the program's table of texts: Find; The library's sort.Slice, laid at this program by the kit's tool (lay-plain; wip/tools/lay.sh); The order of the table; the closure handed to sort.Slice; sort.Slice of the table's places, at a call. No condition. -/
import Derived.Test.YtadhpeooehkklaaGreatProg
import Derived.Shelf.GgSortFunc.Whole
import Derived.Shelf.GgSortFunc.Tiny
import Derived.Test.YtadhpeooehkklaaGreatMv1
set_option linter.all false
namespace Go.Proofs.YtadhpeooehkklaaGreat
namespace Dv
open Go Go.RowKit
structure L4 (E E':En) (bx:List (List DV)) (N:Nat):Prop where
 c:∀ a v,E.c a=some v->E'.c a=some v
 fz:∀ (i:Nat) cs,N<=i->bx[i]? = some cs->∃ b arr,E.β[i]? = some b/\RvC E cs arr/\∀ (j:Nat) u,arr[j]? = some u->E'.c ⟨b,j,none⟩=some u
theorem L4.cl {E E':En} {bx:List (List DV)} {N:Nat} (h:L4 E E' bx N):L4 E E'.cl bx N:=⟨h.c,h.fz⟩
structure I4 (E E':En) (n0 m0:Nat):Prop where
 β:∀ (i:Nat) b,i < n0->E.β[i]? = some b->E'.β[i]? = some b
 tk:∀ k,k < m0->E'.tk[k]? = E.tk[k]? /\ E'.τ[k]? = E.τ[k]?
theorem I4.zero (E E':En):I4 E E' 0 0:=⟨fun _ _ h=>absurd h (Nat.not_lt_zero _),fun _ h=>absurd h (Nat.not_lt_zero _)⟩
theorem Ext.Qx (E:En):Ext E.cl E:=⟨fun _ _ h=>h,fun j b hj=>by simp [En.cl] at hj,fun k q hk=>by simp [En.cl] at hk⟩
theorem D1 {E E':En}:∀ {l:List DV} {arr:List Value},(∀ x∈l,∃ y,x = .v y)->RvL E l arr->RvL E' l arr
 | [],arr,_,h=>by simp only [RvL] at h ⊢;exact h
 | d :: r,arr,hs,h=>by
  simp only [RvL] at h ⊢;obtain ⟨v,s,rfl,h1,h2⟩:=h;obtain ⟨y,rfl⟩:=hs d (by simp);unfold Rv at h1;exact ⟨v,s,rfl,(by unfold Rv;exact h1),D1 (fun x hx=>hs x (dj _ hx)) h2⟩
theorem CcL.length {bx:List (List DV)} {N n0 m0:Nat}:∀ {l' l:List DV},CcL bx N n0 m0 l' l->l'.length=l.length
 | [],l,h=>by simp only [CcL] at h;subst h;rfl
 | d' :: r',l,h=>by
  simp only [CcL] at h;obtain ⟨d,r,rfl,_,h2⟩:=h;simp [CcL.length h2]
theorem CcE.length {bx:List (List DV)} {N:Nat}:∀ {l' l:List (List DV)},CcE bx N l' l->l'.length=l.length
 | [],l,h=>by simp only [CcE] at h;subst h;rfl
 | d' :: r',l,h=>by
  simp only [CcE] at h;obtain ⟨d,r,rfl,_,h2⟩:=h;simp [CcE.length h2]
mutual
theorem Cc.sound {bx:List (List DV)} {N:Nat} {E:En}:∀ {d':DV} {E':En} {n0 m0:Nat} {d:DV} {v:Value},L4 E E' bx N->I4 E E' n0 m0->Cc bx N n0 m0 d' d->Rv E d v->Rv E' d' v
 | .v y,E',n0,m0,d,v,hf,hl,h,hv=>by
  simp only [Cc] at h;subst h;unfold Rv at hv ⊢;exact hv
 | .ud,E',n0,m0,d,v,hf,hl,h,hv=>by
  simp only [Cc] at h;subst h;unfold Rv at hv ⊢;exact hv
 | .agg l',E',n0,m0,d,v,hf,hl,h,hv=>by
  simp only [Cc] at h;obtain ⟨l,rfl,h⟩:=h;unfold Rv at hv ⊢;obtain ⟨vs,h1,h2,h3⟩:=hv;exact ⟨vs,h1,CcL.sound hf hl h h2,h3⟩
 | .tup l',E',n0,m0,d,v,hf,hl,h,hv=>by
  simp only [Cc] at h;obtain ⟨l,rfl,h⟩:=h;unfold Rv at hv ⊢;obtain ⟨vs,h1,h2⟩:=hv;exact ⟨vs,h1,CcL.sound hf hl h h2⟩
 | .sl e es tk,E',n0,m0,d,v,hf,hl,h,hv=>by
  have hm:∀ b o,RvEs E.cl e b o es->RvEs E'.cl e b o es:=fun b o hr=>RvEs.mono (Ext.Mm hf.c) hr
  cases tk with
  | none=>
   simp only [Cc] at h;rcases h with ⟨rfl,rfl⟩ | ⟨dO,rfl⟩ | ⟨i,off,c,cs,rfl,hi,dw,Cm,ef,GS⟩ | ⟨es0,dO,rfl,h⟩
   ·have:=cH hv;subst this;unfold Rv;exact ⟨none,0,0,rfl,⟨rfl,aU _⟩,fun hn=>(hn rfl).elim,fun k hk=>by cases hk⟩
   ·unfold Rv at hv ⊢;obtain ⟨b,n,cap,h1,h2,h3,_⟩:=hv;exact ⟨b,n,cap,h1,h2,fun hn=>⟨(h3 hn).1,hm _ _ (h3 hn).2⟩,fun k hk=>by cases hk⟩
   ·obtain ⟨b,arr,hb,hc,hmm⟩:=hf.fz i cs hi dw;unfold Rv at hv ⊢;obtain ⟨b',ad,gA,WR,rfl,hca⟩:=hv;rw [hb] at gA;simp only [oI] at gA;subst gA;refine ⟨ad,es.length,c,rfl,⟨rfl,WR⟩,fun hn=>?_,fun k hk=>by cases hk⟩;have jX:0 < es.length:=List.length_pos_iff.2 hn;have Xu:=hca (by omega);subst Xu;refine ⟨rfl,?_⟩;have h1:=(hc.drop off).take (es.length * e);rw [<- Cm] at h1;refine rvEs_flat ⟨D1 GS h1.1,h1.2⟩ ef fun j u hj=>?_;rw [ch] at hj;split at hj
    ·rw [List.getElem?_drop] at hj;exact hmm (off + j) u hj
    ·cases hj
   ·have hlen:=CcE.length h;have hs:=fun b o=>CcE.sound (e:=e) (b:=b) (o:=o) hf h;unfold Rv at hv ⊢;obtain ⟨b,n,cap,h1,h2,h3,_⟩:=hv;refine ⟨b,n,cap,h1,by omega,fun hn=>?_,fun k hk=>by cases hk⟩;have la:es0 ≠ []:=fun hc=>hn (List.eq_nil_of_length_eq_zero (by rw [hlen,hc];rfl));exact ⟨(h3 la).1,hs _ _ (h3 la).2⟩
  | some k=>
   simp only [Cc] at h;obtain ⟨hk,rfl⟩:=h;unfold Rv at hv ⊢;obtain ⟨b,n,cap,h1,h2,h3,h4⟩:=hv;refine ⟨b,n,cap,h1,h2,fun hn=>⟨(h3 hn).1,hm _ _ (h3 hn).2⟩,fun k' fb=>?_⟩;cases fb;obtain ⟨e1,e2⟩:=hl.tk k hk;obtain ⟨q,h5,h6,h7⟩:=h4 k rfl;exact ⟨q,by rw [e1];exact h5,h6,fun hh=>by rw [e2];exact h7 hh⟩
 | .pt cs' o,E',n0,m0,d,v,hf,hl,h,hv=>by
  simp only [Cc] at h;rcases h with rfl | ⟨i,cs,rfl,hi,dw,h⟩
  ·unfold Rv at hv ⊢;obtain ⟨b,p,h1,h2⟩:=hv;exact ⟨b,p,h1,RvAt.mono (Ext.Mm hf.c) h2⟩
  ·obtain ⟨b,arr,hb,hc,hm⟩:=hf.fz i cs hi dw;unfold Rv at hv ⊢;obtain ⟨b',gA,rfl⟩:=hv;rw [hb] at gA;simp only [oI] at gA;subst gA;refine ⟨b,0,by simp,?_⟩;have:=CcL.sound hf.cl (I4.zero E E'.cl) h hc.1;exact Ca ⟨this,hc.2⟩ fun j u hj=>by rw [Nat.zero_add];exact hm j u hj
 | .loc i o,E',n0,m0,d,v,hf,hl,h,hv=>by
  simp only [Cc] at h;obtain ⟨hi,rfl⟩:=h;unfold Rv at hv ⊢;obtain ⟨b,hb,h1⟩:=hv;exact ⟨b,hl.β i b hi hb,h1⟩
 | .el i o,E',n0,m0,d,v,hf,hl,h,hv=>by
  simp only [Cc] at h;obtain ⟨hi,rfl⟩:=h;unfold Rv at hv ⊢;obtain ⟨b,hb,h1⟩:=hv;exact ⟨b,hl.β i b hi hb,h1⟩
 | .ms i e o l c,E',n0,m0,d,v,hf,hl,h,hv=>by
  simp only [Cc] at h;obtain ⟨hi,rfl⟩:=h;unfold Rv at hv ⊢;obtain ⟨b,ad,hb,h1⟩:=hv;exact ⟨b,ad,hl.β i b hi hb,h1⟩
 | .fn f a' b',E',n0,m0,d,v,hf,hl,h,hv=>by
  simp only [Cc] at h;obtain ⟨a,b,rfl,ha,hb⟩:=h;unfold Rv at hv ⊢;obtain ⟨l,r,h1,h2,h3⟩:=hv;exact ⟨l,r,h1,CcL.sound hf hl ha h2,CcL.sound hf hl hb h3⟩
 | .sM t x',E',n0,m0,d,v,hf,hl,h,hv=>by
  simp only [Cc] at h;obtain ⟨x,rfl,hx⟩:=h;unfold Rv at hv ⊢;obtain ⟨z,h1,h2⟩:=hv;exact ⟨z,h1,Cc.sound hf hl hx h2⟩
theorem CcL.sound {bx:List (List DV)} {N:Nat} {E:En}:∀ {l':List DV} {E':En} {n0 m0:Nat} {l:List DV} {vs:List Value},L4 E E' bx N->I4 E E' n0 m0->CcL bx N n0 m0 l' l->RvL E l vs->RvL E' l' vs
 | [],E',n0,m0,l,vs,hf,hl,h,hv=>by
  simp only [CcL] at h;subst h;simp only [RvL] at hv ⊢;exact hv
 | d' :: r',E',n0,m0,l,vs,hf,hl,h,hv=>by
  simp only [CcL] at h;obtain ⟨d,r,rfl,h1,h2⟩:=h;simp only [RvL] at hv ⊢;obtain ⟨v,s,h3,h4,h5⟩:=hv;exact ⟨v,s,h3,Cc.sound hf hl h1 h4,CcL.sound hf hl h2 h5⟩
theorem CcA.sound {bx:List (List DV)} {N:Nat} {E:En}:∀ {l':List DV} {E':En} {l:List DV} {b p:Nat},L4 E E' bx N->CcL bx N 0 0 l' l->RvAt E.cl b p l->RvAt E'.cl b p l'
 | [],E',l,b,p,hf,h,hv=>by simp only [RvAt]
 | d' :: r',E',l,b,p,hf,h,hv=>by
  simp only [CcL] at h;obtain ⟨d,r,rfl,h1,h2⟩:=h;simp only [RvAt] at hv ⊢;obtain ⟨⟨v,h3,h4,h5⟩,h6⟩:=hv;exact ⟨⟨v,hf.c _ _ h3,h4,Cc.sound hf.cl (I4.zero E E'.cl) h1 (Rv.mono (Ext.Qx E) h5)⟩,CcA.sound hf h2 h6⟩
theorem CcE.sound {bx:List (List DV)} {N:Nat} {E:En}:∀ {l':List (List DV)} {E':En} {l:List (List DV)} {e b o:Nat},L4 E E' bx N->CcE bx N l' l->RvEs E.cl e b o l->RvEs E'.cl e b o l'
 | [],E',l,e,b,o,hf,h,hv=>by simp only [RvEs]
 | a' :: r',E',l,e,b,o,hf,h,hv=>by
  simp only [CcE] at h;obtain ⟨a,r,rfl,h1,h2⟩:=h;simp only [RvEs] at hv ⊢;obtain ⟨h3,h4,h5⟩:=hv;refine ⟨?_,?_,CcE.sound hf h2 h5⟩
  ·rcases h1 with rfl | h1
   ·exact h3
   ·rw [CcL.length h1];exact h3
  ·rcases h1 with rfl | h1
   ·exact RvAt.mono (Ext.Mm hf.c) h4
   ·exact CcA.sound hf h1 h4
end
theorem SG {E:En} {e:Nat} {es Ks:List (List DV)} {tk:Option Nat} {v:Value} (h:CcE [] 0 Ks es) (hv:Rv E (.sl e es tk) v):Rv E (.sl e Ks tk) v:=by
 have hlen:=CcE.length h;have hs:=fun b o=>CcE.sound (E:=E) (E':=E) (bx:=[]) (N:=0) (e:=e) (b:=b) (o:=o) ⟨fun _ _ h=>h,fun i cs _ hi=>by simp at hi⟩ h;unfold Rv at hv ⊢;obtain ⟨b,n,cap,h1,h2,h3,h4⟩:=hv;refine ⟨b,n,cap,h1,by omega,fun hn=>?_,h4⟩;have la:es ≠ []:=fun hc=>hn (List.eq_nil_of_length_eq_zero (by rw [hlen,hc];rfl));exact ⟨(h3 la).1,hs _ _ (h3 la).2⟩
theorem nV.get {bx:List (List DV)} {N n0 m0:Nat}:∀ {l' l:List (List DV)},nV bx N n0 m0 l' l->l'.length=l.length/\∀ (i:Nat) cs',l'[i]? = some cs' -> ∃ cs,l[i]? = some cs/\CcL bx N n0 m0 cs' cs
 | [],l,h=>by simp only [nV] at h;subst h;exact ⟨rfl,by simp⟩
 | a' :: r',l,h=>by
  simp only [nV] at h;obtain ⟨a,r,rfl,h1,h2⟩:=h;obtain ⟨h3,h4⟩:=nV.get h2;refine ⟨by simp [h3],fun i cs' hi=>?_⟩
  cases i with
  | zero=>simp only [List.getElem?_cons_zero,oI] at hi;subst hi;exact ⟨a,rfl,h1⟩
  | succ i=>simp only [List.getElem?_cons_succ] at hi ⊢;exact h4 i cs' hi
open Classical in
noncomputable def s8 (E:En) (n:Nat) (w:World):Addr->Option Value:=
 fun a=>if ∃ i:Nat,n<=i/\E.β[i]? = some a.block then w.cell? a else E.c a
section
variable {X:Ctx} {E:En} {st:St} {a:Act} {w:World}
theorem fc {n:Nat} {x:Addr} {v:Value} (h:s8 E n w x=some v):((∃ i:Nat,n<=i/\E.β[i]? = some x.block)/\w.cell? x=some v)∨E.c x=some v:=by
 unfold s8 at h;split at h
 ·rename_i hc;exact .inl ⟨hc,h⟩
 ·exact .inr h
theorem mK {bx:List (List DV)} (h:Env E bx w) {n:Nat} {x:Addr} {v:Value} (hx:E.c x=some v):s8 E n w x=some v:=by
 unfold s8;split
 ·exact h.sub x v hx
 ·exact hx
theorem Cn (h:Rel X E st a w) {d d':DV} {os:List (List DV)} {v:Value} (hv:Rv E d v) (M:Nat) (hM:(X.fr=false/\M=X.m0)∨(X.fr=true/\M=st.tk.length)) (hd:Cc st.bx X.n0 X.n0 M d' d) (sZ:nV st.bx X.n0 X.n0 M os (st.bx.take X.n0)) (hΦ:X.Φ d' os (st.tk.take M)):pF X.still X.E0 X.w0 X.Φ v w X.fr:=by
 obtain ⟨r,Qy,hβl⟩:=h.nw.β;have iE:E.β.take X.n0=X.E0.β:=by rw [Qy,<- X.la];simp
 have ff:∀ (i:Nat) b,i < X.n0->E.β[i]? = some b->X.E0.β[i]? = some b:=fun i b hi hb=>by
  rw [<- iE,ch,ai hi];exact hb
 have cd:∀ (i:Nat) b,X.n0<=i->E.β[i]? = some b->b∈r:=fun i b hi hb=>by
  rw [Qy,List.getElem?_append_right (by rw [X.la];exact hi)] at hb;exact mG hb
 have UH:∀ b,b∈X.E0.β->b∈r->False:=fun b h1 h2=>by
  have:=h.env.inj;rw [Qy] at this;exact (List.nodup_append.1 this).2.2 b h1 b h2 rfl
 have hE0l:X.E0.τ.length=X.m0:=by rw [h.nw.l0,X.pD]
 have hEt:X.m0<=E.tk.length:=by
  rcases Nat.lt_or_ge E.tk.length X.m0 with h1 | h1
  ·have hk:E.tk.length < X.E0.tk.length:=by rw [X.pD];exact h1
   have fb:E.tk.length < X.E0.τ.length:=by rw [h.nw.l0];exact hk
   obtain ⟨q',y',h2,_⟩:=h.nw.tk E.tk.length _ _ (gE hk) (gE fb);have:=(gS h2).1;omega
  ·exact h1
 have hMm:X.m0<=M/\M<=E.tk.length:=by
  rcases hM with ⟨_,rfl⟩ | ⟨_,rfl⟩
  ·exact ⟨aU _,hEt⟩
  ·rw [<- h.tk];exact ⟨hEt,aU _⟩
 have WT:tkL X.fr (E.tk.take M).length X.E0.tk.length:=by
  rw [zLenT];rcases hM with ⟨hf,rfl⟩ | ⟨hf,rfl⟩
  ·rw [hf];show min _ _=_;rw [X.pD];omega
  ·rw [hf];show _<=min _ _;rw [X.pD];omega
 let E':En:=⟨s8 E X.n0 w,X.E0.β,E.tk.take M,E.τ.take M⟩
 have Mz:L4 E E' st.bx X.n0:={
  c:=fun x u hx=>mK h.env hx
  fz:=fun i cs hi dw=>by
   obtain ⟨b,ty,arr,hb,hw,hc⟩:=h.env.fm i cs dw;refine ⟨b,arr,hb,hc,fun j u hj=>?_⟩;show s8 E X.n0 w ⟨b,j,none⟩=some u;unfold s8;rw [ai ⟨i,hi,hb⟩,cT hw]
   simpa using hj }
 have zK:I4 E E' X.n0 M:={
  β:=ff
  tk:=fun k hk=>⟨by show (E.tk.take M)[k]? = _;rw [ch,ai hk],by show (E.τ.take M)[k]? = _;rw [ch,ai hk]⟩ }
 obtain ⟨jU,Xz⟩:=sZ.get;refine ⟨h.fr,h.sh,d',os,E',?_,rfl,WT,?_,hd.sound Mz zK hv,by show X.Φ d' os (E.tk.take M);rw [h.tk];exact hΦ⟩
 ·exact {
   len:=by
    show X.E0.β.length=os.length;rw [jU,X.la,zLenT]
    have:X.n0<=st.bx.length:=by
     rw [<- h.env.len,Qy,List.length_append,X.la];omega
    omega
   tl:=by simp only [E',zLenT];rw [h.env.tl]
   fm:=fun i cs' hi=>by
    obtain ⟨cs,dw,uG⟩:=Xz i cs' hi;rw [ch] at dw;split at dw
    ·rename_i au;obtain ⟨b,ty,arr,hb,hw,hc⟩:=h.env.fm i cs dw;exact ⟨b,ty,arr,ff i b au hb,hw,CcL.sound Mz zK uG hc.1,hc.2⟩
    ·cases dw
   inj:=by rw [<- iE];exact h.env.inj.sublist (List.take_sublist _ _)
   sub:=fun x u hx=>by
    rcases fc hx with ⟨_,h1⟩ | h1
    ·exact h1
    ·exact h.env.sub x u h1
   pc:=fun x u hx hm=>by
    rcases fc hx with ⟨⟨i,hi,hb⟩,_⟩ | h1
    ·exact UH _ hm (cd i _ hi hb)
    ·refine h.env.pc x u h1 ?_;rw [Qy];exact List.mem_append.2 (.inl hm)
   cG:=fun k q y hq hy=>by
    simp only [E',ch] at hq hy;split at hq
    ·rename_i hk;rw [ai hk] at hy;rcases h.env.cG k q y hq hy with h1 | ⟨g,cap,cur,rfl,h1,h2,h3,h4,h5,h6⟩
     ·exact .inl h1
     ·refine .inr ⟨g,cap,cur,rfl,h1,⟨h2.1,h2.2.mono fun _ _ hx=>mK h.env hx⟩,h3,h4,fun hm=>h5 (by rw [Qy];exact List.mem_append.2 (.inl hm)),fun x u hx hg=>?_⟩;rcases fc hx with ⟨⟨i,hi,hb⟩,_⟩ | h7
      ·rw [hg] at hb;exact (h5 (mG hb)).elim
      ·exact h6 x u h7 hg
    ·cases hq
   jI:=fun k k' y y' g DF hy fB=>by
    simp only [E',ch] at hy fB;split at hy
    ·split at fB
     ·exact h.env.jI k k' y y' g DF hy fB
     ·cases fB
    ·cases hy }
 ·exact {
   c:=fun x u hx=>mK h.env (h.nw.c x u hx)
   cn:=fun x u hx=>by
    rcases fc hx with ⟨⟨i,hi,hb⟩,_⟩ | h1
    ·exact .inr (.inl (hβl _ (cd i _ hi hb)))
    ·exact h.nw.cn x u h1
   β:=⟨[],by simp [E'],by simp⟩
   tk:=fun k q y hq hy=>by
    obtain ⟨q',y',h1,h2,h3⟩:=h.nw.tk k q y hq hy;have hk:k < X.m0:=by rw [<- X.pD];exact (gS hq).1
    exact ⟨q',y',by show (E.tk.take M)[k]? = _;rw [ch,ai (by omega)];exact h1,by show (E.τ.take M)[k]? = _;rw [ch,ai (by omega)];exact h2,h3⟩
   tn:=fun k y g hk hy hg=>by
    simp only [E',ch] at hy;split at hy
    ·exact h.nw.tn k y g hk hy hg
    ·cases hy
   l0:=h.nw.l0 }
def resOf (tmps:Array Value):ResultVar->Sem Value
 | .tmp t=>pure (tmps.getD t undef)
 | .cell x t=>do loadVar t (<- asAddr (tmps.getD x undef))
theorem GV (fn:Func) (tmps:Array Value):results fn tmps=(do let vs <- fn.results.mapM (resOf tmps);pure (if h:vs.size=1 then vs[0] else .tuple vs)):=by
 unfold results;congr 2
theorem GW (h:Rel X E st a w) {r:ResultVar} {d:DV} (hr:res1 X.T st r=some d):∃ v,Rv E d v/\(resOf a.tmps r).run X.P w = .ok v w:=by
 cases r with
 | tmp t=>
  simp only [res1] at hr;split at hr
  ·rename_i x hg;simp only [oI] at hr;subst hr;obtain ⟨v,h1,h2⟩:=(h.tm t _ hg).1 (bK _);exact ⟨v,h2,by simp [resOf,Array.getD_eq_getD_getElem?,h1]⟩
  ·cases hr
 | cell x t=>
  simp only [res1] at hr;split at hr
  ·rename_i i off hg;split at hr
   ·rename_i cs dw;obtain ⟨v,h1,h2⟩:=(h.tm x _ hg).1 (bK _);unfold Rv at h2;obtain ⟨b,hb,rfl⟩:=h2;obtain ⟨b',GN,arr,gA,hw,hc⟩:=h.env.fm i cs dw;rw [hb] at gA;simp only [oI] at gA;subst gA;obtain ⟨v,hv,hl⟩:=mB X.hT hc (b:=b) (p:=0) hr;have hl:=hl w fun j u hj=>by rw [cT hw];simpa using hj
    rw [Nat.zero_add] at hl;exact ⟨v,hv,by simp only [resOf,Array.getD_eq_getD_getElem?,h1,Option.getD_some,asAddr,Sem.run_bind,Sem.run_pure,Result.andThen_ok,hl]⟩
   ·cases hr
  ·cases hr
theorem mL (h:Rel X E st a w):∀ {rs:List ResultVar} {ds:List DV},resD X.T st rs=some ds->∃ vs,RvL E ds vs/\(rs.mapM (resOf a.tmps)).run X.P w = .ok vs w
 | [],ds,hr=>by
  simp only [resD,oI] at hr;subst hr;exact ⟨[],dh E,rfl⟩
 | r :: rs,ds,hr=>by
  simp only [resD] at hr;split at hr
  ·rename_i d l hd hl;simp only [oI] at hr;subst hr;obtain ⟨v,hv,h1⟩:=GW h hd;obtain ⟨vs,wQ,h2⟩:=mL h hl;refine ⟨v :: vs,rvL_cons hv wQ,?_⟩;simp only [List.mapM_cons,Sem.run_bind,h1,Result.andThen_ok,h2,Sem.run_pure]
  ·cases hr
theorem qg (h:Rel X E st a w) {d:DV} {v:Value} (hv:Rv E d v) (hf:finD X st d):pF X.still X.E0 X.w0 X.Φ v w X.fr:=by
 unfold finD at hf;split at hf
 ·rename_i Qz;obtain ⟨d',os,hd,sZ,hΦ⟩:=hf;exact Cn h hv st.tk.length (.inr ⟨Qz,rfl⟩) hd sZ (by rw [List.take_length];exact hΦ)
 ·rename_i Qz;split at hf
  ·rename_i hn hm
   have key:∀ d',Cc st.bx 0 0 0 d' d->X.Φ d' [] []->pF X.still X.E0 X.w0 X.Φ v w X.fr:=fun d' hd hΦ=>
    Cn h hv (d':=d') (os:=[]) X.m0 (.inl ⟨Qz,rfl⟩) (by rw [hn,hm];exact hd) (by rw [hn];simp [nV]) (by rw [hm];exact hΦ)
   split at hf
   ·rename_i x;exact key (.v x) (by simp only [Cc]) hf
   ·obtain ⟨d',hd,hΦ⟩:=hf;exact key d' hd hΦ
  ·obtain ⟨d',os,hd,sZ,hΦ⟩:=hf;exact Cn h hv X.m0 (.inl ⟨Qz,rfl⟩) hd sZ hΦ
theorem Aj (h:Rel X E st a w) (hf:fin X st):kq X [] .ret a w:=by
 have DJ:X.fn.results=X.rs.toArray:=by rw [<- X.B8]
 simp only [kq];refine ⟨h.df,?_⟩;unfold fin at hf
 have MA:∀ (ds:List DV) (vs:List Value),(X.rs.mapM (resOf a.tmps)).run X.P w = .ok vs w->(results X.fn a.tmps).run X.P w = .ok (if h:vs.toArray.size=1 then vs.toArray[0] else .tuple vs.toArray) w:=by
  intro ds vs hv;rw [GV,DJ];simp only [List.mapM_toArray,Sem.run_bind,Sem.run_map,hv];rfl
 split at hf
 ·rename_i hr;obtain ⟨vs,wQ,h1⟩:=mL h hr;simp only [RvL] at wQ;subst wQ;exact ⟨_,MA [] [] h1,qg h (v:=.tuple #[]) (by unfold Rv;exact ⟨[],rfl,dh E⟩) hf⟩
 ·rename_i d hr;obtain ⟨vs,wQ,h1⟩:=mL h hr;have hl:=wQ.length;simp only [RvL] at wQ;obtain ⟨v,s,rfl,hv,rfl⟩:=wQ;exact ⟨_,MA [d] [v] h1,qg h (v:=v) hv hf⟩
 ·rename_i d e l hr;obtain ⟨vs,wQ,h1⟩:=mL h hr;have hl:=wQ.length;have bF:¬ vs.toArray.size=1:=by simp at hl ⊢;omega
  have h2:=MA [] vs h1;rw [dif_neg bF] at h2;exact ⟨_,h2,qg h (v:=.tuple vs.toArray) (by unfold Rv;exact ⟨vs,rfl,wQ⟩) hf⟩
 ·exact hf.elim
theorem wV:∀ (k:List It) (a:Act) (w:World),kq X [] .ret a w->kq X k .ret a w
 | [],_,_,h=>h
 | .code _ :: k,a,w,h=>wV k a w h
 | .ops _ _ :: k,a,w,h=>wV k a w h
 | .Gz _ :: k,a,w,h=>wV k a w h
 | .sx _ :: k,a,w,h=>wV k a w h
theorem rc {id:Nat}:∀ (k k':List It) (a:Act) (w:World),dropBlk id k=some k' -> kq X k' .normal a w->kq X k (.exit id) a w
 | [],k',a,w,hd,_=>by simp [dropBlk] at hd
 | .code _ :: k,k',a,w,hd,h=>by simp only [dropBlk] at hd;exact rc k k' a w hd h
 | .ops _ _ :: k,k',a,w,hd,h=>by simp only [dropBlk] at hd;exact rc k k' a w hd h
 | .sx _ :: k,k',a,w,hd,h=>by simp only [dropBlk] at hd;exact rc k k' a w hd h
 | .Gz i :: k,k',a,w,hd,h=>by
  simp only [dropBlk] at hd;split at hd
  ·rename_i hi;have hi:id=i:=sU hi;simp only [oI] at hd;subst hd;simp only [kq];rw [ai hi];exact h
  ·rename_i hi
   have hi:id≠i:=by
    rintro rfl;rw [Nat.beq_refl] at hi;cases hi
   simp only [kq];rw [ah hi];exact rc k k' a w hd h
theorem Kt {P:Program} {o:Oper} {a:Act} {K K':Act->World->Prop} {Q Q':Exit->Act->World->Prop} (hK:∀ a w,K a w->K' a w) (hQ:∀ e a w,Q e a w->Q' e a w)
  {r:Result Next} (h:o.upon P a K Q r):o.upon P a K' Q' r:=by
 unfold Oper.upon at *;split<;>simp_all
 ·refine h.mono ?_;intro e w' hq
  cases e with
  | returned v=>exact hK _ _ hq
  | panicked c=>exact hQ _ _ _ hq
  | outgrown=>obtain ⟨a,w,hq⟩:=hq;exact ⟨a,w,hQ _ _ _ hq⟩
 ·exact h.mono fun v w' hq=>hK _ _ hq
theorem D2 {P:Program} {o:Oper} {a:Act} {K K':Act->World->Prop} {Q Q':Exit->Act->World->Prop} {w:World} (hK:∀ a w,K a w->K' a w) (hQ:∀ e a w,Q e a w->Q' e a w)
  (h:o.wp P a w K Q):o.wp P a w K' Q':=Kt hK hQ h
theorem fL (c:Code) (k:List It) (a:Act) (w:World):kq X (.code c :: k) .normal a w=c.wp X.P (kq X k) a w:=rfl
theorem QA (c:Code) (k:List It):kq X (.code c :: k)=Exit.then (c.wp X.P (kq X k)) (kq X k):=by
 funext e a w;cases e<;>rfl
theorem UI (id:Nat) (k:List It) (e:Exit) (a:Act) (w:World) (h:kq X (.Gz id :: k) e a w):Exit.inBlock id (kq X k) e a w:=by
 cases e<;>exact h
theorem wanted_spec (h:Rel X E st a w) {all:Array Oper} {o:Oper} {j d:Nat} {want:Bool} {iC:List (Nat × Bool)} {sd:DV} (QB:o.guard=some (j,want)) (sA:gslot all.toList j=some d) (L5:get st.sl d=some ⟨iC,sd⟩) :
  Region.wanted o (yielded all a.tmps)=true↔Holds a.tmps ((d,want) :: iC):=by
 have UJ:yielded all a.tmps j=match a.tmps[d]? with | some (.bool b)=>some b | _=>none:=by
  unfold gslot at sA;split at sA
  ·rename_i oj hoj;have hoj':all[j]? = some oj:=sU hoj;simp only [yielded,hoj',sA,Option.bind_some]
   cases a.tmps[d]? with
   | none=>rfl
   | some v=>cases v<;>rfl
  ·cases sA
 have I5:=h.tm d _ L5;simp only [Region.wanted,QB,UJ];constructor
 ·intro hw
  have hb:a.tmps[d]? = some (.bool want):=by
   split at hw
   ·rename_i b hb;rw [hb];have:b=want:=sU hw;rw [this]
   ·simp at hw
  refine kB hb ?_;by_cases hh:Holds a.tmps iC
  ·exact hh
  ·have:=I5.2 hh;rw [hb] at this;simp [undef] at this
 ·intro hh;have:=hh (d,want) (by simp);simp only at this;rw [this];simp
theorem D3 (h:Rel X E st a w) {t:Nat} {b:Bool} (hg:get st.sl t=some ⟨[],.v (.bool b)⟩):a.tmps[t]? = some (.bool b):=by
 obtain ⟨v,h1,h2⟩:=(h.tm t _ hg).1 (bK _);rw [h1,kC h2]
theorem MB (h:Rel X E st a w) {t:Nat} (hg:get st.sl t=some ⟨[],.ud⟩):a.tmps[t]? = some undef:=by
 obtain ⟨v,h1,h2⟩:=(h.tm t _ hg).1 (bK _);unfold Rv at h2;rw [h1,h2]
theorem wW {G:List (Nat × Bool)} {dst:Option Nat} (bw:Xl G dst=true):∀ e,dst=some e->∀ p∈G,p.1≠e:=by
 intro e he p hp dR;rw [he] at bw;have:=(List.all_eq_true.1 bw) p hp;rw [dR] at this;simp at this
theorem go_sound:∀ n,Snd X (go X n)
 | 0=>fun k st hg=>hg.elim
 | n + 1=>by
  have ih:=go_sound n;intro k st hg E a w h
  match k with
  | []=>exact Aj h (by simpa [go] using hg)
  | .Gz id :: k=>exact ih k st (by simpa [go] using hg) E a w h
  | .sx J :: k=>exact ⟨st,E,h,by simpa [go] using hg⟩
  | .ops all [] :: k=>exact ih k st (by simpa [go] using hg) E a w h
  | .ops all (o :: r) :: k=>
   simp only [go,oU,IX] at hg;split at hg
   ·exact hg.elim
   ·rename_i hd;split at hg
    ·rename_i QB;simp only [kq,wpList,Region.wanted,QB,if_true];split at hg
     ·rename_i s hs;obtain ⟨v,hv,cx⟩:=ji X.hT h.rl (bK _) hs;exact .inl (lW (cx w fun _=>rfl) (ih _ _ hg E _ w (bM h hd s v hv)))
     ·exact .inl (D2 (fun a w hk=>hk) (fun e a w hq=>hq.elim) (Ai ih hd h hg))
    ·rename_i j want QB;split at hg
     ·exact hg.elim
     ·rename_i d sA;split at hg
      ·exact hg.elim
      ·rename_i iC sd L5;have re:=wanted_spec h QB sA L5;simp only [kq,wpList];split at hg
       ·rename_i s hs;split at hg
        case h_2=>exact hg.elim
        rename_i bw;split
        ·rename_i hw;have hh:=re.1 hw;obtain ⟨v,hv,cx⟩:=ji X.hT h.rl hh hs;exact .inl (lW (cx w fun _=>rfl) (ih _ _ hg E _ w (q6 h hd _ s v (wW bw) (fun _=>hv) (fun hn=>(hn hh).elim))))
        ·rename_i hw;have hh:¬ Holds a.tmps ((d,want) :: iC):=fun hh=>hw (re.2 hh);exact ih _ _ hg E _ w (q6 h hd _ s undef (wW bw) (fun hn=>(hh hn).elim) (fun _=>rfl))
       ·split at hg
        ·rename_i b iE;have ht0:=D3 h iE
         cases iC with
         | nil=>
          simp only [lastG] at iE ht0;cases vx:(b == want)
          ·have GX:b = !want:=by cases b<;>cases want<;>simp_all
           have hg:=hg.f vx
           have hn:¬ Region.wanted o (yielded all a.tmps)=true:=by
            intro hw;have:=(re.1 hw) (d,want) (by simp);simp only at this;rw [ht0] at this;simp only [oI,Value.bool.injEq] at this;rw [this] at vx;simp at vx
           rw [ah hn];have hr:=lj (d:=d) (b:=!want) h (by rw [ht0,GX]);exact ih _ _ hg E _ w (bM hr (lk hd) .ud undef (uC E))
          ·have rf:b=want:=sU vx;have hg:=hg.t vx;subst rf;have hw:Region.wanted o (yielded all a.tmps)=true:=re.2 (kB ht0 (bK _));rw [ai hw];have hr:=lj (d:=d) (b:=b) h ht0;exact .inl (D2 (fun a w hk=>hk) (fun e a w hq=>hq.elim) (Ai ih (lk hd) hr hg))
         | cons g1 gr=>
          have key:∀ c,a.tmps[(lastG (d,want) (g1 :: gr)).1]? = some (.bool c)->go X n (.ops all (o :: r) :: k) (st.resolve (lastG (d,want) (g1 :: gr)).1 c)->wpList X.P all (kq X k) (o :: r) a w:=
           fun c hc iz=>ih _ _ iz E a w (lj h hc)
          cases vx:(b == (lastG (d,want) (g1 :: gr)).2)
          ·have hg:=hg.f vx;have GX:b = !(lastG (d,want) (g1 :: gr)).2:=by cases b<;>cases h0:(lastG (d,want) (g1 :: gr)).2<;>simp_all
           have:=key _ (by rw [ht0,GX]) hg;simpa [wpList] using this
          ·have hg:=hg.t vx;have rf:b=(lastG (d,want) (g1 :: gr)).2:=sU vx;have:=key _ (by rw [ht0,rf]) hg;simpa [wpList] using this
        ·rename_i iE
         cases iC with
         | nil=>
          have ht0:=MB h iE;simp only [lastG] at ht0
          have hn:¬ Region.wanted o (yielded all a.tmps)=true:=by
           intro hw;have:=(re.1 hw) (d,want) (by simp);simp only at this;rw [ht0] at this;simp [undef] at this
          rw [ah hn];exact ih _ _ hg E _ w (bM h hd .ud undef (uC E))
         | cons g1 gr=>exact hg.elim
        ·exact hg.elim
  | .code c :: k=>
   rw [fL]
   cases c with
   | skip=>exact wp_skip (ih k st (by simpa [go] using hg) E a w h)
   | seq x y=>
    have:=ih (.code x :: .code y :: k) st (by simpa [go] using hg) E a w h;rw [fL,QA] at this;exact wp_seq this
   | block id b=>
    have:=ih (.code b :: .Gz id :: k) st (by simpa [go] using hg) E a w h;rw [fL] at this;exact wp_block (wp_mono this (UI id k))
   | exit id=>
    simp only [go] at hg;split at hg
    ·rename_i k' hk;exact wp_exit (rc k k' a w hk (ih k' st hg E a w h))
    ·exact hg.elim
   | cond x p q=>
    simp only [go] at hg;split at hg
    ·rename_i b hb;refine wp_cond (t:=b) (by rw [kC (bp h.rl hb)]) ?_;cases iE:b
     ·exact ih (.code q :: k) st (hg.f iE) E a w h
     ·exact ih (.code p :: k) st (hg.t iE) E a w h
    ·exact hg.elim
   | region id ops d=>
    simp only [go] at hg;cases d
    ·exact wp_region_list (ih (.ops ops ops.toList :: k) st hg E a w h)
    ·exact hg E a w h
   | loop b=>exact (by simpa [go] using hg:pL X b k st) E a w h
   | ret=>exact wp_ret (wV k a w (Aj h (by simpa [go] using hg)))
   | _=>simp [go] at hg
theorem D4 {fn:Func} (DJ:X.fn=fn) (e:Exit) (a:Act) (w:World) (h:kq X [] e a w):bodyPost X.P fn (fun e w'=>∃ v,e = .returned v/\pF X.still X.E0 X.w0 X.Φ v w' X.fr) e a w:=by
 subst DJ
 cases e with
 | normal=>obtain ⟨h1,v,h2,h3⟩:=h;exact ⟨h1,v,h2,v,rfl,h3⟩
 | ret=>obtain ⟨h1,v,h2,h3⟩:=h;exact ⟨h1,v,h2,v,rfl,h3⟩
 | exit _=>exact h.elim
 | goto _=>exact h.elim
 | panic _=>exact h.elim
 | outgrown=>exact h.elim
end
def UK (s:Bool) (P:Program) (f:FuncId) (args:List DV) (os:List (List DV)) (cG:List TkE) (Φ:DV->List (List DV)->List TkE->Prop) (fr:Bool:=false):Prop:=
 ∀ (E:En) (w:World) (vs:List Value),Env E os w->E.tk=cG->RvL E args vs->Calls P f vs.toArray w fun e w'=>∃ v,e = .returned v/\pF s E w Φ v w' fr
def Ev (P:Program) (f:FuncId) (args:List DV) (os:List (List DV)) (cG:List TkE) (Φ:DV->List (List DV)->List TkE->Prop):Prop:=UK false P f args os cG Φ
def EvS (P:Program) (f:FuncId) (args:List DV) (os:List (List DV)) (cG:List TkE) (Φ:DV->List (List DV)->List TkE->Prop):Prop:=UK true P f args os cG Φ
def WU (P:Program) (f:FuncId) (args:List DV) (os:List (List DV)) (cG:List TkE) (Φ:DV->List (List DV)->List TkE->Prop):Prop:=UK false P f args os cG Φ true
def aV (P:Program) (f:FuncId) (args:List DV) (d:DV):Prop:=Ev P f args [] [] fun d' _ _=>d'=d
def argSl:Nat->List DV->List (Nat × Sl)
 | _,[]=>[]
 | i,v :: r=>(i,⟨[],v⟩) :: argSl (i + 1) r
theorem Ak:∀ (l:List DV) (i j:Nat) (x:Sl),get (argSl i l) j=some x->∃ v,x=⟨[],v⟩/\i<=j/\l[j - i]? = some v
 | [],_,_,_,h=>by simp [argSl,get] at h
 | v :: r,i,j,x,h=>by
  simp only [argSl,dY] at h;split at h
  ·rename_i jF;simp only [oI] at h;subst h jF;exact ⟨v,rfl,aU _,by simp⟩
  ·rename_i jF;obtain ⟨u,hu,dK,hg⟩:=Ak r (i + 1) j x h;refine ⟨u,hu,by omega,?_⟩;rw [show j - i=(j - (i + 1)) + 1 by omega];simpa using hg
theorem Nw.refl {E:En} {bx:List (List DV)} {w:World} (h:Env E bx w):Nw E E w where
 c:=fun _ _ h=>h
 cn:=fun _ _ h=>.inl h
 β:=⟨[],by simp,by simp⟩
 tk:=fun k q y hq hy=>⟨q,y,hq,hy,rfl,rfl,.inl ⟨rfl,rfl⟩,.inl rfl⟩
 tn:=fun k y g hk hy=>by
  have:=(gS hy).1;rw [h.tl] at this;omega
 l0:=h.tl
theorem vT {s:Bool} {P:Program} {f:FuncId} {fn:Func} {c:Code} {args:List DV} {os:List (List DV)} {cG:List TkE} {Φ:DV->List (List DV)->List TkE->Prop} (bt:List (Nat × TypeId)) (mu:List Nat) (hbt:∀ p∈bt,os.length<=p.1) (fr:Bool) (T:TT) (hT:T.ok P=true) (n nt:Nat) (rs:List ResultVar)
  (hf:P.funcs[f]? = some fn) (hb:fn.body=some c) (Ku:fn.ntmps=nt) (B8:fn.results.toList=rs) (hlen:args.length<=nt)
  (h:∀ (E:En) (w:World) (hn:E.β.length=os.length) (hm:E.tk.length=cG.length),go ⟨P,T,hT,fn,nt,rs,B8,w,E,os.length,cG.length,hn,hm,s,Φ,bt,mu,fr⟩ n [.code c] ⟨argSl 0 args,os,cG⟩):UK s P f args os cG Φ fr:=by
 intro E w vs hE lg hv;have hl:=hv.length;have hg:=h E w hE.len (by rw [lg]);refine calls_of_wp hf hb ?_
 have hs:=go_sound (X:=⟨P,T,hT,fn,nt,rs,B8,w,E,os.length,cG.length,hE.len,by rw [lg],s,Φ,bt,mu,fr⟩) n _ _ hg E
  {tmps:=vs.toArray ++ Array.replicate (fn.ntmps - vs.toArray.size) undef,defers:=[] } w
  {env:=hE
   tk:=lg
   sz:=by simp [Ku];omega
   tm:=by
    intro i x hx;obtain ⟨d,rfl,_,hd⟩:=Ak args 0 i x hx;simp only [Nat.sub_zero] at hd;obtain ⟨v,mD,sP⟩:=hv.get hd;rw [Array.getElem?_append_left (by simpa using (gS mD).1)];exact ⟨fun _=>⟨v,by simpa using mD,sP⟩,fun hn=>(hn (bK _)).elim⟩
   df:=rfl
   nw:=Nw.refl hE
   fr:=⟨rfl,rfl,rfl,aU _,fun _ _ _=>rfl⟩
   sh:=fun _=>⟨0,rfl⟩
   bt:=fun p hp b hb=>by
    have h1:=hbt p hp;have h2:=(gS hb).1;have h3:=hE.len
    omega }
 exact wp_mono hs (D4 rfl)
theorem QC {s:Bool} {P:Program} {f:FuncId} {fn:Func} {c:Code} {args:List DV} {os:List (List DV)} {cG:List TkE} {Φ:DV->List (List DV)->List TkE->Prop} (bt:List (Nat × TypeId)) (hbt:∀ p∈bt,os.length<=p.1) (T:TT) (hT:T.ok P=true) (n nt:Nat) (rs:List ResultVar)
  (hf:P.funcs[f]? = some fn) (hb:fn.body=some c) (Ku:fn.ntmps=nt) (B8:fn.results.toList=rs) (hlen:args.length<=nt)
  (h:∀ (E:En) (w:World) (hn:E.β.length=os.length) (hm:E.tk.length=cG.length),go ⟨P,T,hT,fn,nt,rs,B8,w,E,os.length,cG.length,hn,hm,s,Φ,bt,[],false⟩ n [.code c] ⟨argSl 0 args,os,cG⟩):UK s P f args os cG Φ:=
 vT bt [] hbt false T hT n nt rs hf hb Ku B8 hlen h
theorem MC {s:Bool} {P:Program} {f:FuncId} {fn:Func} {c:Code} {args:List DV} {os:List (List DV)} {cG:List TkE} {Φ:DV->List (List DV)->List TkE->Prop} (T:TT) (hT:T.ok P=true) (n nt:Nat) (rs:List ResultVar)
  (hf:P.funcs[f]? = some fn) (hb:fn.body=some c) (Ku:fn.ntmps=nt) (B8:fn.results.toList=rs) (hlen:args.length<=nt)
  (h:∀ (E:En) (w:World) (hn:E.β.length=os.length) (hm:E.tk.length=cG.length),go ⟨P,T,hT,fn,nt,rs,B8,w,E,os.length,cG.length,hn,hm,s,Φ,[],[],false⟩ n [.code c] ⟨argSl 0 args,os,cG⟩):UK s P f args os cG Φ:=
 QC [] (fun p hp=>by cases hp) T hT n nt rs hf hb Ku B8 hlen h
theorem XA {P:Program} {f:FuncId} {fn:Func} {c:Code} {args:List DV} {os:List (List DV)} {cG:List TkE} {Φ:DV->List (List DV)->List TkE->Prop} (T:TT) (hT:T.ok P=true) (n nt:Nat) (rs:List ResultVar)
  (hf:P.funcs[f]? = some fn) (hb:fn.body=some c) (Ku:fn.ntmps=nt) (B8:fn.results.toList=rs) (hlen:args.length<=nt)
  (h:∀ (E:En) (w:World) (hn:E.β.length=os.length) (hm:E.tk.length=cG.length),go ⟨P,T,hT,fn,nt,rs,B8,w,E,os.length,cG.length,hn,hm,false,Φ,[],[],false⟩ n [.code c] ⟨argSl 0 args,os,cG⟩):Ev P f args os cG Φ:=
 MC T hT n nt rs hf hb Ku B8 hlen h
theorem Ev.mono {P:Program} {f:FuncId} {args:List DV} {os:List (List DV)} {cG:List TkE} {Φ Ψ:DV->List (List DV)->List TkE->Prop} (h:Ev P f args os cG Φ) (hΦ:∀ d o t,Φ d o t->Ψ d o t):Ev P f args os cG Ψ:=by
 intro E w vs h1 h2 h3;refine (h E w vs h1 h2 h3).mono ?_;rintro e w' ⟨v,rfl,h4,hs,d,o,E',h5,h6,h7,h8,h9,Ah⟩;exact ⟨v,rfl,h4,hs,d,o,E',h5,h6,h7,h8,h9,hΦ _ _ _ Ah⟩
theorem br {b:Bool} {A B:Prop} (h1:b=true->A) (h2:b=false->B):@Bool.rec (fun _=>Prop) B A b:=by
 cases b
 ·exact h2 rfl
 ·exact h1 rfl
section
variable {X:Ctx} {st:St} {k:List It} {E:En} {a:Act} {w:World}
theorem Am (h:Rel X E st a w) (bd:X.still=false) {E2:En} {w':World} (hm:qX (E.cl).S w w') (he:Env E2 [] w') (hn:Nw E.cl E2 w):Rel X ⟨E2.c,E.β,E.tk,E.τ⟩ st a w':=by
 have hh:∀ i,i < w.heap.size->w'.heap[i]? = w.heap[i]?:=fun i hi=>hm.block i hi (by
  rintro (h1 | ⟨y,h1,_⟩)
  ·simp [En.cl] at h1
  ·simp [En.cl] at h1)
 have cd:∀ x v,E2.c x=some v->E.c x=some v∨w.heap.size<=x.block:=fun x v hx=>by
  rcases hn.cn x v hx with h1 | h1 | ⟨y,h1,_⟩
  ·exact .inl h1
  ·exact .inr h1
  ·simp [En.cl] at h1
 have hx:Ext E ⟨E2.c,E.β,E.tk,E.τ⟩:=⟨hn.c,fun _ _ h=>h,fun _ q h=>⟨q,h,.inl ⟨rfl,rfl⟩⟩⟩;have hk:=h.env.ke hh;refine dF h hx ?_ h.tk ?_ (h.fr.dn hm.os hm.tape hm.output hm.size fun i hi=>.inr (hh i hi)) (nX bd) (h.bt.ke fun b hb=>hh b (h.env.bu hb))
 ·exact {
   len:=h.env.len
   tl:=h.env.tl
   fm:=fun i cs hi=>by
    obtain ⟨b,ty,arr,hb,hw,hc⟩:=hk.fm i cs hi;exact ⟨b,ty,arr,hb,hw,hc.mono hx⟩
   inj:=h.env.inj
   sub:=he.sub
   pc:=fun x v hc lU=>by
    rcases cd x v hc with h1 | h1
    ·exact h.env.pc x v h1 lU
    ·have:=h.env.bu lU;omega
   cG:=fun k q y hq hy=>by
    rcases hk.cG k q y hq hy with h1 | ⟨g',cap,cur,rfl,h1,h2,h3,h4,h5,h6⟩
    ·exact .inl h1
    ·refine .inr ⟨g',cap,cur,rfl,h1,⟨h2.1,h2.2.mono hn.c⟩,h3,h4,h5,fun x v hc hg=>?_⟩;rcases cd x v hc with h7 | h7
     ·exact h6 x v h7 hg
     ·have:=(jj (h.env.cG k q _ hq hy) (g:=g') rfl).1;omega
   jI:=h.env.jI }
 ·exact {
   c:=fun x v hc=>hn.c x v (h.nw.c x v hc)
   cn:=fun x v hc=>by
    rcases cd x v hc with h1 | h1
    ·exact h.nw.cn x v h1
    ·have:=h.fr.size;exact .inr (.inl (by omega))
   β:=h.nw.β
   tk:=h.nw.tk
   tn:=h.nw.tn
   l0:=h.nw.l0 }
theorem MD {bx:List (List DV)} (h:Env E bx w):Env E.cl [] w where
 len:=rfl
 tl:=rfl
 fm:=by simp
 inj:=List.nodup_nil
 sub:=h.sub
 pc:=by simp [En.cl]
 cG:=by simp [En.cl]
 jI:=by simp [En.cl]
theorem n4 {P:Program} (h:Rel X E st a w) (bd:X.still=false) {f:FuncId} {args bN:List DV} {vs:List Value} {Φ:DV->List (List DV)->List TkE->Prop} (hc:Ev P f bN [] [] Φ) (ha:CcL [] 0 0 0 bN args) (hv:RvL E args vs) :
  Calls P f vs.toArray w fun e w'=>∃ v E' d,e = .returned v/\Rel X E' st a w' /\ Rv E' d v/\Φ d [] []/\qX E.cl.S w w' /\ Ext E E' /\ E'.β=E.β:=by
 have LY:RvL E.cl bN vs:=CcL.sound (E:=E) (E':=E.cl) ⟨fun _ _ h=>h,fun i cs _ hi=>by simp at hi⟩ (I4.zero _ _) ha hv;refine (hc E.cl w vs (MD h.env) rfl LY).mono ?_;rintro e w' ⟨v,rfl,hm,_,d,os,E2,he,hβ,lg,hn,zL,hΦ⟩
 have sZ:os=[]:=by
  have:=he.len;rw [hβ] at this;exact List.eq_nil_of_length_eq_zero this.symm
 subst sZ;have ht0:E2.tk=[]:=List.eq_nil_of_length_eq_zero lg;refine ⟨v,⟨E2.c,E.β,E.tk,E.τ⟩,d,rfl,Am h bd hm he hn,?_,by rw [ht0] at hΦ;exact hΦ,hm,⟨hn.c,fun _ _ h=>h,fun _ q h=>⟨q,h,.inl ⟨rfl,rfl⟩⟩⟩,rfl⟩;refine Rv.mono (E:=E2) (E':=⟨E2.c,E.β,E.tk,E.τ⟩) ⟨fun _ _ h=>h,fun i b hb=>?_,fun k q hq=>?_⟩ zL
 ·rw [hβ] at hb;simp [En.cl] at hb
 ·rw [ht0] at hq;simp at hq
theorem kG {f:FuncId} {args bN:List DV} {d:Nat} (mJ:Enters X.P f) (hd:gx X.nt st.sl (some d)=true) {Φ:DV->List (List DV)->List TkE->Prop} (hc:Ev X.P f bN [] [] Φ) (ha:CcL [] 0 0 0 bN args)
  (hk:∀ r,Φ r [] []->go X 4000 k ⟨(d,⟨[],r⟩) :: st.sl,st.bx,st.tk⟩) (bd:X.still=false:=by exact rfl):ik X f args (some d) k st:=by
 refine ⟨mJ,bd,fun E a w vs h hv=>(n4 h bd hc ha hv).mono ?_⟩;rintro e w' ⟨v,E',r,rfl,cj,hr,hΦ,_⟩;exact go_sound 4000 _ _ (hk r hΦ) E' _ w' (bM cj hd r v hr)
theorem ME {f:FuncId} {args bN:List DV} {d:Nat} {r:DV} (mJ:Enters X.P f) (hc:aV X.P f bN r) (ha:CcL [] 0 0 0 bN args) (hd:gx X.nt st.sl (some d)=true)
  (hk:go X 4000 k ⟨(d,⟨[],r⟩) :: st.sl,st.bx,st.tk⟩) (bd:X.still=false:=by exact rfl):ik X f args (some d) k st:=
 kG mJ hd hc ha (fun _ hr=>hr ▸ hk) bd
def clB (n m:Nat):DV->Bool
 | .v _=>true
 | .ud=>true
 | .sl _ _ none=>true
 | .sl _ _ (some k)=>Nat.blt k m
 | .pt _ _=>true
 | .loc i _=>Nat.blt i n
 | .el i _=>Nat.blt i n
 | .ms i _ _ _ _=>Nat.blt i n
 | .agg l=>clL l
 | .tup l=>clL l
 | .fn _ l r=>clL l && clL r
 | .sM _ x=>clB n m x
where clL:List DV->Bool
 | []=>true
 | d :: r=>clB n m d && clL r
def En.cut (E:En) (n m:Nat):En:=⟨E.c,E.β.take n,E.tk.take m,E.τ.take m⟩
mutual
theorem Rv.cut {n m:Nat} {E:En}:∀ {d:DV} {v:Value},Rv E d v->clB n m d=true->Rv (E.cut n m) d v
 | .v x,v,h,_=>by unfold Rv at h ⊢;exact h
 | .ud,v,h,_=>by unfold Rv at h ⊢;exact h
 | .sl e es none,v,h,_=>by
  unfold Rv at h ⊢;obtain ⟨b,n,cap,h1,h2,h3,_⟩:=h;exact ⟨b,n,cap,h1,h2,h3,fun k hk=>by cases hk⟩
 | .sl e es (some k),v,h,hc=>by
  unfold Rv at h ⊢;obtain ⟨b,n',cap,h1,h2,h3,h4⟩:=h;refine ⟨b,n',cap,h1,h2,h3,fun k' fb=>?_⟩;cases fb;have hk:k < m:=by simpa [clB] using hc
  obtain ⟨q,h5,h6,h7⟩:=h4 k rfl;exact ⟨q,by show (E.tk.take m)[k]? = _;rw [ch,ai hk];exact h5,h6,fun hh=>by show (E.τ.take m)[k]? = _;rw [ch,ai hk];exact h7 hh⟩
 | .pt cs o,v,h,_=>by unfold Rv at h ⊢;exact h
 | .loc i o,v,h,hc=>by
  unfold Rv at h ⊢;obtain ⟨b,hb,h1⟩:=h;have hi:i < n:=by simpa [clB] using hc
  exact ⟨b,by show (E.β.take n)[i]? = _;rw [ch,ai hi];exact hb,h1⟩
 | .el i o,v,h,hc=>by
  unfold Rv at h ⊢;obtain ⟨b,hb,h1⟩:=h;have hi:i < n:=by simpa [clB] using hc
  exact ⟨b,by show (E.β.take n)[i]? = _;rw [ch,ai hi];exact hb,h1⟩
 | .ms i e o l c,v,h,hc=>by
  unfold Rv at h ⊢;obtain ⟨b,ad,hb,h1⟩:=h;have hi:i < n:=by simpa [clB] using hc
  exact ⟨b,ad,by show (E.β.take n)[i]? = _;rw [ch,ai hi];exact hb,h1⟩
 | .agg l,v,h,hc=>by
  unfold Rv at h ⊢;obtain ⟨vs,h1,h2,h3⟩:=h;simp only [clB] at hc;exact ⟨vs,h1,RvL.cut h2 hc,h3⟩
 | .tup l,v,h,hc=>by
  unfold Rv at h ⊢;obtain ⟨vs,h1,h2⟩:=h;simp only [clB] at hc;exact ⟨vs,h1,RvL.cut h2 hc⟩
 | .fn f l r,v,h,hc=>by
  unfold Rv at h ⊢;obtain ⟨l',r',h1,h2,h3⟩:=h;simp only [clB,aQ] at hc;exact ⟨l',r',h1,RvL.cut h2 hc.1,RvL.cut h3 hc.2⟩
 | .sM t x,v,h,hc=>by
  unfold Rv at h ⊢;obtain ⟨z,h1,h2⟩:=h;simp only [clB] at hc;exact ⟨z,h1,Rv.cut h2 hc⟩
theorem RvL.cut {n m:Nat} {E:En}:∀ {l:List DV} {vs:List Value},RvL E l vs->clB.clL n m l=true->RvL (E.cut n m) l vs
 | [],vs,h,_=>by simp only [RvL] at h ⊢;exact h
 | d :: r,vs,h,hc=>by
  simp only [RvL] at h ⊢;obtain ⟨v,s,h1,h2,h3⟩:=h;simp only [clB.clL,aQ] at hc;exact ⟨v,s,h1,Rv.cut h2 hc.1,RvL.cut h3 hc.2⟩
end
end
end Dv
end Go.Proofs.YtadhpeooehkklaaGreat
namespace Go.Proofs.YtadhpeooehkklaaGreat
namespace Dv
open Go Go.RowKit
def We (n m:Nat) (dO:List TkE) (x x':DV):Prop:=
 (x=x' /\ clB n m x=true)∨(x = .v (.slice none 0 0)/\∃ e k q,x' = .sl e [] (some k)/\m<=k/\dO[k]? = some q)∨(x = .v (.slice none 0 0)/\∃ e,x' = .sl e [] none)∨(∃ e es tk,x = .sl e es tk/\x' = .sl e es none)∨(∃ e es Ks tk,x = .sl e es tk/\x' = .sl e Ks none/\CcE [] 0 Ks es)∨(∃ e es Ks k,x = .sl e es (some k)/\x' = .sl e Ks (some k)/\k < m/\CcE [] 0 Ks es)
def WeL (n m:Nat) (dO:List TkE):List DV->List DV->Prop
 | [],l=>l=[]
 | x :: r,l=>∃ x' r',l=x' :: r' /\ We n m dO x x' /\ WeL n m dO r r'
def WeLL (n m:Nat) (dO:List TkE):List (List DV)->List (List DV)->Prop
 | [],l=>l=[]
 | x :: r,l=>∃ x' r',l=x' :: r' /\ WeL n m dO x x' /\ WeLL n m dO r r'
def uH (n m:Nat) (dO:List TkE) (sl:List (Nat × Sl)):List (Nat × Sl)->Prop
 | []=>True
 | p :: r=>(∃ x,get sl p.1=some ⟨p.2.gs,x⟩/\We n m dO x p.2.s)/\uH n m dO sl r
structure s9 (n0 m0:Nat) (st st':St):Prop where
 all:∃ kept dropped new b0 r,m0<=kept.length/\n0<=b0.length/\st.tk=kept ++ dropped/\st'.tk=kept ++ new/\(∀ q∈new,TkE.new q=true)/\st.bx=b0 ++ r/\WeLL b0.length kept.length st'.tk b0 st'.bx/\uH b0.length kept.length st'.tk st.sl st'.sl
theorem WeLL.length {n m:Nat} {dO:List TkE}:∀ {l l':List (List DV)},WeLL n m dO l l' -> l'.length=l.length
 | [],l',h=>by simp only [WeLL] at h;subst h;rfl
 | x :: r,l',h=>by
  simp only [WeLL] at h;obtain ⟨x',r',rfl,_,h2⟩:=h;simp [WeLL.length h2]
theorem WeLL.get {n m:Nat} {dO:List TkE}:∀ {l l':List (List DV)},WeLL n m dO l l' -> ∀ (i:Nat) cs',l'[i]? = some cs' -> ∃ cs,l[i]? = some cs/\WeL n m dO cs cs'
 | [],l',h,i,cs',hi=>by simp only [WeLL] at h;subst h;simp at hi
 | x :: r,l',h,i,cs',hi=>by
  simp only [WeLL] at h;obtain ⟨x',r',rfl,h1,h2⟩:=h
  cases i with
  | zero=>simp only [List.getElem?_cons_zero,oI] at hi;subst hi;exact ⟨x,rfl,h1⟩
  | succ i=>simp only [List.getElem?_cons_succ] at hi ⊢;exact WeLL.get h2 i cs' hi
theorem wX {n m:Nat} {dO:List TkE} {sl:List (Nat × Sl)}:∀ {l:List (Nat × Sl)},uH n m dO sl l->∀ i x',get l i=some x' -> ∃ x,get sl i=some ⟨x'.gs,x⟩/\We n m dO x x'.s
 | [],_,i,x',hx=>by cases hx
 | (k,y) :: r,h,i,x',hx=>by
  simp only [dY] at hx;split at hx
  ·rename_i kD;subst kD;simp only [oI] at hx;subst hx;exact h.1
  ·exact wX h.2 i x' hx
section
variable {X:Ctx} {E:En} {st st':St} {a:Act} {w:World} {k:List It}
def En.wk (E:En) (n:Nat) (kept new:List TkE):En:=⟨E.c,E.β.take n,kept ++ new,E.τ.take kept.length ++ List.replicate new.length (.slice none 0 0)⟩
theorem D5 {n:Nat} {kept dropped new:List TkE} (ht:E.tk=kept ++ dropped) (hl:E.τ.length=E.tk.length) (cd:∀ q∈new,TkE.new q=true) {x x':DV} {v:Value} (hx:We n kept.length (kept ++ new) x x') (hv:Rv E x v):Rv (E.wk n kept new) x' v:=by
 have ej:kept.length<=E.τ.length:=by rw [hl,ht];simp
 have first:∀ {x:DV},clB n kept.length x=true->Rv E x v->Rv (E.wk n kept new) x v:=by
  intro x hc hv;refine Rv.mono (E:=E.cut n kept.length) ⟨fun _ _ h=>h,fun _ _ h=>h,fun k q hq=>?_⟩ (Rv.cut hv hc);have jk:(E.tk.take kept.length)[k]? = some q:=hq;rw [ch] at jk;split at jk
  ·rename_i hk;refine ⟨q,?_,.inl ⟨rfl,?_⟩⟩
   ·show (kept ++ new)[k]? = _;rw [ht,cm hk] at jk;rw [cm hk];exact jk
   ·show (E.τ.take kept.length ++ _)[k]? = (E.τ.take kept.length)[k]?;rw [cm (by rw [zLenT];omega)]
  ·cases jk
 rcases hx with ⟨rfl,hc⟩ | ⟨rfl,e,k,q,rfl,hk,hq⟩ | ⟨rfl,e,rfl⟩ | ⟨e,es,tk,rfl,rfl⟩ | ⟨e,es,Ks,tk,rfl,rfl,he⟩ | ⟨e,es,Ks,k,rfl,rfl,hk,he⟩
 ·exact first hc hv
 ·have:=cH hv;subst this;unfold Rv;refine ⟨none,0,0,rfl,⟨rfl,aU _⟩,fun hn=>(hn rfl).elim,fun k' fb=>?_⟩;cases fb;have I6:(kept ++ new)[k]? = some q:=hq;rw [List.getElem?_append_right hk] at I6;have vS:=TkE.Mj (cd q (mG I6));refine ⟨q,hq,by omega,fun _=>?_⟩;have au:=(gS I6).1;show (E.τ.take kept.length ++ List.replicate new.length _)[k]? = _;rw [List.getElem?_append_right (by rw [zLenT];omega)];rw [zLenT,Nat.min_eq_left ej,List.getElem?_replicate,ai au]
 ·have:=cH hv;subst this;unfold Rv;exact ⟨none,0,0,rfl,⟨rfl,aU _⟩,fun hn=>(hn rfl).elim,fun k hk=>by cases hk⟩
 ·unfold Rv at hv ⊢;obtain ⟨b,n,cap,h1,h2,h3,_⟩:=hv;exact ⟨b,n,cap,h1,h2,h3,fun k hk=>by cases hk⟩
 ·have hv:=SG he hv;unfold Rv at hv ⊢;obtain ⟨b,n,cap,h1,h2,h3,_⟩:=hv;exact ⟨b,n,cap,h1,h2,h3,fun k hk=>by cases hk⟩
 ·exact first (by simp only [clB];exact Nat.ble_eq_true_of_le hk) (SG he hv)
theorem An {n:Nat} {kept dropped new:List TkE} (ht:E.tk=kept ++ dropped) (hl:E.τ.length=E.tk.length) (cd:∀ q∈new,TkE.new q=true):∀ {l l':List DV} {vs:List Value},WeL n kept.length (kept ++ new) l l' -> RvL E l vs->RvL (E.wk n kept new) l' vs
 | [],l',vs,h,hv=>by
  simp only [WeL] at h;subst h;simp only [RvL] at hv ⊢;exact hv
 | x :: r,l',vs,h,hv=>by
  simp only [WeL] at h;obtain ⟨x',r',rfl,h1,h2⟩:=h;simp only [RvL] at hv ⊢;obtain ⟨v,s,h3,h4,h5⟩:=hv;exact ⟨v,s,h3,D5 ht hl cd h1 h4,An ht hl cd h2 h5⟩
theorem wY (h:Rel X E st a w) (hw:s9 X.n0 X.m0 st st'):∃ E',Rel X E' st' a w:=by
 obtain ⟨kept,dropped,new,b0,r,pD,la,ht,pG,cd,hb,vw,nQ⟩:=hw.all;rw [pG] at vw nQ;have XB:E.tk=kept ++ dropped:=by rw [h.tk,ht]
 have hbl:=vw.length;have ej:kept.length<=E.τ.length:=by rw [h.env.tl,XB];simp
 have iE:b0.length<=E.β.length:=by rw [h.env.len,hb];simp
 have hτ:∀ (k:Nat) y,(E.τ.take kept.length ++ List.replicate new.length (Value.slice none 0 0))[k]? = some y->(k < kept.length/\E.τ[k]? = some y)∨(kept.length<=k/\y = .slice none 0 0):=fun k y hy=>by
  rw [List.getElem?_append] at hy;split at hy
  ·rename_i hk;rw [zLenT] at hk;rw [ch,ai (by omega)] at hy;exact .inl ⟨by omega,hy⟩
  ·rename_i hk;rw [zLenT] at hk;rw [List.getElem?_replicate] at hy;split at hy
   ·simp only [oI] at hy;exact .inr ⟨by omega,hy.symm⟩
   ·cases hy
 refine ⟨E.wk b0.length kept new,?_⟩
 exact {
  env:={
   len:=by simp only [En.wk,zLenT];omega
   tl:=by simp only [En.wk,List.length_append,zLenT,List.length_replicate];omega
   fm:=fun i cs' hi=>by
    obtain ⟨cs,dw,hwe⟩:=vw.get i cs' hi;have au:=(gS dw).1;obtain ⟨b,ty,arr,hbb,hwb,hc⟩:=h.env.fm i cs (by rw [hb,cm au];exact dw);exact ⟨b,ty,arr,by simp only [En.wk];rw [ch,ai au];exact hbb,hwb,An XB h.env.tl cd hwe hc.1,hc.2⟩
   inj:=h.env.inj.sublist (List.take_sublist _ _)
   sub:=h.env.sub
   pc:=fun x v hx hm=>h.env.pc x v hx (List.mem_of_mem_take hm)
   cG:=fun k q y hq hy=>by
    rcases hτ k y hy with ⟨hk,fB⟩ | ⟨hk,rfl⟩
    ·have jk:(kept ++ new)[k]? = some q:=hq;rw [cm hk] at jk;rcases h.env.cG k q y (by rw [XB,cm hk];exact jk) fB with h1 | ⟨g,cap,cur,rfl,h1,h2,h3,h4,h5,h6⟩
     ·exact .inl h1
     ·exact .inr ⟨g,cap,cur,rfl,h1,h2,h3,h4,fun hm=>h5 (List.mem_of_mem_take hm),h6⟩
    ·have jk:(kept ++ new)[k]? = some q:=hq;rw [List.getElem?_append_right hk] at jk;exact .inl ⟨rfl,TkE.Mj (cd q (mG jk)),TkE.SA (cd q (mG jk))⟩
   jI:=fun k k' y y' g DF hy fB hg sB=>by
    rcases hτ k y hy with ⟨_,vR⟩ | ⟨_,rfl⟩
    ·rcases hτ k' y' fB with ⟨_,lf⟩ | ⟨_,rfl⟩
     ·exact h.env.jI k k' y y' g DF vR lf hg sB
     ·simp [Value.ownBlock] at sB
    ·simp [Value.ownBlock] at hg }
  tk:=by simp only [En.wk];exact pG.symm
  sz:=h.sz
  tm:=fun i x' p9=>by
   obtain ⟨x,hx,hwe⟩:=wX nQ i x' p9;have:=h.tm i _ hx;refine ⟨fun hh=>?_,this.2⟩;obtain ⟨v,h1,h2⟩:=this.1 hh;exact ⟨v,h1,D5 XB h.env.tl cd hwe h2⟩
  df:=h.df
  nw:={
   c:=h.nw.c
   cn:=h.nw.cn
   β:=by
    obtain ⟨r2,hr,hl⟩:=h.nw.β;refine ⟨r2.take (b0.length - X.n0),?_,fun b hb=>hl b (List.mem_of_mem_take hb)⟩;simp only [En.wk];rw [hr,List.take_append,List.take_of_length_le (by rw [X.la];omega),X.la]
   tk:=fun j q0 y0 vS Cg=>by
    obtain ⟨q',y',h1,h2,h3⟩:=h.nw.tk j q0 y0 vS Cg;have hj:j < X.m0:=by rw [<- X.pD];exact (gS vS).1
    have Kv:j < kept.length:=by omega
    exact ⟨q',y',by simp only [En.wk];rw [cm Kv];rw [XB,cm Kv] at h1;exact h1,by simp only [En.wk];rw [cm (by rw [zLenT];omega),ch,ai Kv];exact h2,h3⟩
   tn:=fun j y g hj hy hg=>by
    rcases hτ j y hy with ⟨_,vR⟩ | ⟨_,rfl⟩
    ·exact h.nw.tn j y g hj vR hg
    ·simp [Value.ownBlock] at hg
   l0:=h.nw.l0 }
  fr:=h.fr
  sh:=h.sh
  bt:=h.bt.sub _ }
theorem least {p:Nat->Prop} (h:∃ n,p n):∃ n,p n/\∀ m,p m->n<=m:=by
 obtain ⟨n,hn⟩:=h
 induction n using Nat.strongRecOn with
 | _ n ih=>
  by_cases hm:∃ m,m < n/\p m
  ·obtain ⟨m,au,hp⟩:=hm;exact ih m au hp
  ·refine ⟨n,hn,fun m hp=>?_⟩;rcases Nat.lt_or_ge m n with h1 | h1
   ·exact (hm ⟨m,h1,hp⟩).elim
   ·exact h1
theorem bA {c:Code} (I:Nat->St->Prop) (j0:Nat) (iF:St) (hw:s9 X.n0 X.m0 st iF) (h0:I j0 iF)
  (hr:∀ j s,I j s->go X 4000 (.code c :: .sx (fun s'=>∃ D6,s9 X.n0 X.m0 s' D6 /\ ∃ j',j' < j/\I j' D6) :: k) s):pL X c k st:=by
 intro E a w h;obtain ⟨E0,hr0⟩:=wY h hw
 classical
 let Inv:Act->World->Prop:=fun a w=>∃ j s E,Rel X E s a w/\I j s
 let μ:Act->World->Nat:=fun a w=>if hI:Inv a w then Classical.choose (least hI) else 0
 refine wp_loop Inv μ ⟨j0,iF,E0,hr0,h0⟩ ?_;intro a1 w1 hI;have Ao:=(Classical.choose_spec (least hI)).1;obtain ⟨s,E1,cj,hIs⟩:=Ao;have hs:=go_sound 4000 _ _ (hr _ s hIs) E1 a1 w1 cj;rw [fL] at hs;refine wp_mono hs ?_;intro e a2 w2 hq
 cases e with
 | normal=>
  obtain ⟨s',E2,n5,D6,UL,j',gB,XC⟩:=hq;obtain ⟨E3,D7⟩:=wY n5 UL;have UM:Inv a2 w2:=⟨j',D6,E3,D7,XC⟩;refine ⟨UM,?_⟩;simp only [μ,dif_pos hI,dif_pos UM];exact Nat.lt_of_le_of_lt ((Classical.choose_spec (least UM)).2 j' ⟨D6,E3,D7,XC⟩) gB
 | exit id=>exact hq
 | goto l=>exact hq
 | ret=>exact hq
 | panic c=>exact hq
 | outgrown=>exact hq
theorem aA {n m:Nat} {dO:List TkE} {x:DV} (h:clB n m x=true):We n m dO x x:=.inl ⟨rfl,h⟩
theorem aE {n m:Nat} {dO:List TkE} {kd:IntKind} {x y:Int} (h:x=y):We n m dO (.v (.int kd x)) (.v (.int kd y)):=.inl ⟨by rw [h],rfl⟩
theorem cV {n m:Nat} {dO:List TkE} {e k:Nat} {q:TkE} (h1:m<=k) (h2:dO[k]? = some q):We n m dO (.v (.slice none 0 0)) (.sl e [] (some k)):=.inr (.inl ⟨rfl,e,k,q,rfl,h1,h2⟩)
theorem cR {n m:Nat} {dO:List TkE} {e k:Nat} {es Ks:List (List DV)} (h:es=Ks) (hk:Nat.blt k m=true):We n m dO (.sl e es (some k)) (.sl e Ks (some k)):=.inl ⟨by rw [h],hk⟩
theorem ax {p:Prop} (h:p:=by repeat' (first | exact rfl | exact trivial | exact Or.inr (Or.inl ⟨_,rfl⟩) | exact Or.inr ⟨_,rfl⟩ | exact Or.inl ⟨rfl,rfl⟩ | exact Or.inl rfl | refine Or.inr ⟨_,_,rfl,Nat.zero_le _,rfl,?_⟩ | refine ⟨_,_,rfl,?_,?_⟩ | refine ⟨_,rfl,?_⟩ | refine Or.inr (Or.inr (Or.inr ⟨_,_,rfl,?_⟩)) | exact Or.inl rfl | refine Or.inr ?_)):p:=h
theorem wA {p:Prop} (h:p:=by repeat' (first | exact rfl | exact aA rfl | refine ⟨_,_,rfl,?_,?_⟩)):p:=h
theorem wB {p:Prop} (h:p:=by repeat' (first | exact trivial | exact aA rfl | refine ⟨⟨_,rfl,?_⟩,?_⟩)):p:=h
theorem aj {n0 m0:Nat} {st st':St} (h1:∃ r,st.bx=st'.bx ++ r) (h2:WeLL st'.bx.length st'.tk.length st'.tk st'.bx st'.bx) (h3:st.tk=st'.tk) (h4:Nat.ble n0 st'.bx.length=true) (h5:Nat.ble m0 st'.tk.length=true)
  (h:uH st'.bx.length st'.tk.length st'.tk st.sl st'.sl):s9 n0 m0 st st':=by
 obtain ⟨r,hr⟩:=h1;exact ⟨st'.tk,[],[],st'.bx,r,by simpa using h5,by simpa using h4,by simp [h3],by simp,by simp,hr,h2,h⟩
theorem aq {n0 m0:Nat} {st st':St} (n:Nat) (hn:Nat.ble n st.bx.length=true) (h2:WeLL n st'.tk.length st'.tk (st.bx.take n) st'.bx) (h3:st.tk=st'.tk) (h4:Nat.ble n0 n=true) (h5:Nat.ble m0 st'.tk.length=true)
  (h:uH n st'.tk.length st'.tk st.sl st'.sl):s9 n0 m0 st st':=by
 have hl:(st.bx.take n).length=n:=by
  have:=nL hn;rw [zLenT];omega
 exact ⟨st'.tk,[],[],st.bx.take n,st.bx.drop n,by simpa using h5,by rw [hl];simpa using h4,by simp [h3],by simp,by simp,(List.take_append_drop n st.bx).symm,by rw [hl];exact h2,by rw [hl];exact h⟩
theorem fM {n0 m0:Nat} {st st':St} (q:TkE) (hq:q.new=true) (h1:∃ r,st.bx=st'.bx ++ r) (h3:st.tk ++ [q]=st'.tk) (h2:WeLL st'.bx.length st.tk.length st'.tk st'.bx st'.bx) (h4:Nat.ble n0 st'.bx.length=true) (h5:Nat.ble m0 st.tk.length=true)
  (h:uH st'.bx.length st.tk.length st'.tk st.sl st'.sl):s9 n0 m0 st st':=by
 obtain ⟨r,hr⟩:=h1;exact ⟨st.tk,[],[q],st'.bx,r,by simpa using h5,by simpa using h4,by simp,h3.symm,by simpa using hq,hr,h2,h⟩
end
end Dv
end Go.Proofs.YtadhpeooehkklaaGreat
namespace Go.Proofs.YtadhpeooehkklaaGreat
namespace Dv
theorem aL {p : Prop} (h : p := by repeat' (first | exact rfl | exact trivial | exact Or.inr (Or.inl ⟨_,rfl⟩) | exact Or.inr ⟨_,rfl⟩ | exact Or.inl ⟨rfl,rfl⟩ | exact Or.inl rfl | refine Or.inr ⟨_,_,rfl,Nat.zero_le _,rfl,?_⟩ | refine ⟨_,_,rfl,?_,?_⟩ | refine ⟨_,rfl,?_⟩ | exact ⟨nL rfl,rfl⟩ | refine Or.inr (Or.inr (Or.inr ⟨_,_,rfl,?_⟩)) | exact Or.inl rfl | refine Or.inr ?_)) : p := h
theorem aI {p : Prop} {a b : Int} (q : a=b) (h : a=b -> p := by intro q;repeat' (first | exact rfl | exact trivial | exact Or.inr (Or.inl ⟨_,rfl⟩) | exact Or.inr ⟨_,rfl⟩ | exact Or.inl ⟨rfl,rfl⟩ | exact Or.inl rfl | refine Or.inr ⟨_,_,rfl,Nat.zero_le _,rfl,?_⟩ | refine ⟨_,_,rfl,?_,?_⟩ | refine ⟨_,rfl,?_⟩ | exact congrArg (fun z=>DV.v (.int .i64 z)) q | refine Or.inr (Or.inr (Or.inr ⟨_,_,rfl,?_⟩)) | exact Or.inl rfl | refine Or.inr ?_)) : p := h q
theorem aB {p : Prop} {a b : Bool} (q : a=b) (h : a=b -> p := by intro q;repeat' (first | exact rfl | exact trivial | exact Or.inr (Or.inl ⟨_,rfl⟩) | exact Or.inr ⟨_,rfl⟩ | exact Or.inl ⟨rfl,rfl⟩ | exact Or.inl rfl | refine Or.inr ⟨_,_,rfl,Nat.zero_le _,rfl,?_⟩ | refine ⟨_,_,rfl,?_,?_⟩ | refine ⟨_,rfl,?_⟩ | exact congrArg (fun b=>DV.v (.bool b)) q | refine Or.inr (Or.inr (Or.inr ⟨_,_,rfl,?_⟩)) | exact Or.inl rfl | refine Or.inr ?_)) : p := h q
theorem wNA {p : Prop} {a b : Nat} (q : a < b) (hn : b <= 4611686018427387904 := by omega) (h : a < b -> b <= 4611686018427387904 -> p := by intro q hn;repeat' (first | exact rfl | exact aA rfl | exact aE (aK q hn) | refine ⟨_,_,rfl,?_,?_⟩)) : p := h q hn
theorem wNB {p : Prop} {a b : Nat} (q : a < b) (hn : b <= 4611686018427387904 := by omega) (h : a < b -> b <= 4611686018427387904 -> p := by intro q hn;repeat' (first | exact trivial | exact aA rfl | exact aE (aK q hn) | refine ⟨⟨_,rfl,?_⟩,?_⟩)) : p := h q hn
theorem wSA {p r : Prop} {a b : Nat} (q : a < b) (s : r) (hn : b <= 4611686018427387904 := by omega) (h : a < b -> b <= 4611686018427387904 -> r -> p := by intro q hn s;repeat' (first | exact rfl | exact aA rfl | exact aE (aK q hn) | exact cR s rfl | refine ⟨_,_,rfl,?_,?_⟩)) : p := h q hn s
theorem wSB {p r : Prop} {a b : Nat} (q : a < b) (s : r) (hn : b <= 4611686018427387904 := by omega) (h : a < b -> b <= 4611686018427387904 -> r -> p := by intro q hn s;repeat' (first | exact trivial | exact aA rfl | exact aE (aK q hn) | exact cR s rfl | refine ⟨⟨_,rfl,?_⟩,?_⟩)) : p := h q hn s
theorem wTB {p : Prop} (h : p := by repeat' (first | exact trivial | exact aA rfl | exact cV (Nat.le_refl _) rfl | refine ⟨⟨_,rfl,?_⟩,?_⟩)) : p := h
theorem wTA {p : Prop} (h : p := by repeat' (first | exact rfl | exact aA rfl | exact cV (Nat.le_refl _) rfl | refine ⟨_,_,rfl,?_,?_⟩)) : p := h
theorem wRB {p : Prop} (h : p := by repeat' (first | exact trivial | exact aA rfl | exact aE rfl | refine ⟨⟨_,rfl,?_⟩,?_⟩)) : p := h
theorem wRA {p : Prop} (h : p := by repeat' (first | exact rfl | exact aA rfl | exact aE rfl | refine ⟨_,_,rfl,?_,?_⟩)) : p := h
theorem pO {p:Prop}   (h:p:=by repeat' (first | exact rfl | exact aA rfl | exact b9 rfl | exact cF rfl | exact ta _ | exact cV (Nat.le_refl _) rfl | exact cV (Nat.le_succ _) rfl | refine ⟨_,_,rfl,?_,?_⟩)):p:=h 
theorem nF {p:Prop} {P0:Prop} (x0:P0) (h:P0->p:=by intro x0;repeat' (first | exact rfl | exact aA rfl | exact aE x0 | exact b9 x0 | exact cR x0 rfl | exact cI x0 | exact cF x0 | exact aE (congrArg Nat.cast x0) | exact aA x0 | exact gC x0 | exact x0 | exact b9 rfl | exact cF rfl | exact ta _ | exact cV (Nat.le_refl _) rfl | exact cV (Nat.le_succ _) rfl | refine ⟨_,_,rfl,?_,?_⟩)):p:=h x0
theorem gp {p:Prop} {P0:Prop} {P1:Prop} (x0:P0) (x1:P1) (h:P0->P1->p:=by intro x0 x1;repeat' (first | exact rfl | exact aA rfl | exact aE x0 | exact b9 x0 | exact cR x0 rfl | exact cI x0 | exact cF x0 | exact aE (congrArg Nat.cast x0) | exact aA x0 | exact gC x0 | exact x0 | exact aE x1 | exact b9 x1 | exact cR x1 rfl | exact cI x1 | exact cF x1 | exact aE (congrArg Nat.cast x1) | exact aA x1 | exact gC x1 | exact x1 | exact b9 rfl | exact cF rfl | exact ta _ | exact cV (Nat.le_refl _) rfl | exact cV (Nat.le_succ _) rfl | refine ⟨_,_,rfl,?_,?_⟩)):p:=h x0 x1
theorem UN {p:Prop} {P0:Prop} {P1:Prop} {P2:Prop} (x0:P0) (x1:P1) (x2:P2) (h:P0->P1->P2->p:=by intro x0 x1 x2;repeat' (first | exact rfl | exact aA rfl | exact aE x0 | exact b9 x0 | exact cR x0 rfl | exact cI x0 | exact cF x0 | exact aE (congrArg Nat.cast x0) | exact aA x0 | exact gC x0 | exact x0 | exact aE x1 | exact b9 x1 | exact cR x1 rfl | exact cI x1 | exact cF x1 | exact aE (congrArg Nat.cast x1) | exact aA x1 | exact gC x1 | exact x1 | exact aE x2 | exact b9 x2 | exact cR x2 rfl | exact cI x2 | exact cF x2 | exact aE (congrArg Nat.cast x2) | exact aA x2 | exact gC x2 | exact x2 | exact b9 rfl | exact cF rfl | exact ta _ | exact cV (Nat.le_refl _) rfl | exact cV (Nat.le_succ _) rfl | refine ⟨_,_,rfl,?_,?_⟩)):p:=h x0 x1 x2
theorem lX {p:Prop}   (h:p:=by repeat' (first | exact trivial | exact aA rfl | exact cV (Nat.le_refl _) rfl | exact cV (Nat.le_succ _) rfl | exact aE rfl | refine ⟨⟨_,rfl,?_⟩,?_⟩)):p:=h 
theorem dy {p:Prop} {P0:Prop} (x0:P0) (h:P0->p:=by intro x0;repeat' (first | exact trivial | exact aA rfl | exact aE x0 | exact b9 x0 | exact cR x0 rfl | exact cI x0 | exact cF x0 | exact aE (congrArg Nat.cast x0) | exact aA x0 | exact gC x0 | exact x0 | exact cV (Nat.le_refl _) rfl | exact cV (Nat.le_succ _) rfl | exact aE rfl | refine ⟨⟨_,rfl,?_⟩,?_⟩)):p:=h x0
theorem wB2 {p:Prop} {P0:Prop} {P1:Prop} (x0:P0) (x1:P1) (h:P0->P1->p:=by intro x0 x1;repeat' (first | exact trivial | exact aA rfl | exact aE x0 | exact b9 x0 | exact cR x0 rfl | exact cI x0 | exact cF x0 | exact aE (congrArg Nat.cast x0) | exact aA x0 | exact gC x0 | exact x0 | exact aE x1 | exact b9 x1 | exact cR x1 rfl | exact cI x1 | exact cF x1 | exact aE (congrArg Nat.cast x1) | exact aA x1 | exact gC x1 | exact x1 | exact cV (Nat.le_refl _) rfl | exact cV (Nat.le_succ _) rfl | exact aE rfl | refine ⟨⟨_,rfl,?_⟩,?_⟩)):p:=h x0 x1
theorem Ap {p:Prop} {P0:Prop} {P1:Prop} {P2:Prop} (x0:P0) (x1:P1) (x2:P2) (h:P0->P1->P2->p:=by intro x0 x1 x2;repeat' (first | exact trivial | exact aA rfl | exact aE x0 | exact b9 x0 | exact cR x0 rfl | exact cI x0 | exact cF x0 | exact aE (congrArg Nat.cast x0) | exact aA x0 | exact gC x0 | exact x0 | exact aE x1 | exact b9 x1 | exact cR x1 rfl | exact cI x1 | exact cF x1 | exact aE (congrArg Nat.cast x1) | exact aA x1 | exact gC x1 | exact x1 | exact aE x2 | exact b9 x2 | exact cR x2 rfl | exact cI x2 | exact cF x2 | exact aE (congrArg Nat.cast x2) | exact aA x2 | exact gC x2 | exact x2 | exact cV (Nat.le_refl _) rfl | exact cV (Nat.le_succ _) rfl | exact aE rfl | refine ⟨⟨_,rfl,?_⟩,?_⟩)):p:=h x0 x1 x2
theorem XD {p:Prop} {P0:Prop} {P1:Prop} {P2:Prop} {P3:Prop} (x0:P0) (x1:P1) (x2:P2) (x3:P3) (h:P0->P1->P2->P3->p:=by intro x0 x1 x2 x3;repeat' (first | exact trivial | exact aA rfl | exact aE x0 | exact b9 x0 | exact cR x0 rfl | exact cI x0 | exact cF x0 | exact aE (congrArg Nat.cast x0) | exact aA x0 | exact gC x0 | exact x0 | exact aE x1 | exact b9 x1 | exact cR x1 rfl | exact cI x1 | exact cF x1 | exact aE (congrArg Nat.cast x1) | exact aA x1 | exact gC x1 | exact x1 | exact aE x2 | exact b9 x2 | exact cR x2 rfl | exact cI x2 | exact cF x2 | exact aE (congrArg Nat.cast x2) | exact aA x2 | exact gC x2 | exact x2 | exact aE x3 | exact b9 x3 | exact cR x3 rfl | exact cI x3 | exact cF x3 | exact aE (congrArg Nat.cast x3) | exact aA x3 | exact gC x3 | exact x3 | exact cV (Nat.le_refl _) rfl | exact cV (Nat.le_succ _) rfl | exact aE rfl | refine ⟨⟨_,rfl,?_⟩,?_⟩)):p:=h x0 x1 x2 x3
theorem mv {p:Prop}   (h:p:=by repeat' (first | exact rfl | exact trivial | exact Or.inr (Or.inl ⟨_,rfl⟩) | exact Or.inr ⟨_,rfl⟩ | exact Or.inl ⟨rfl,rfl⟩ | exact Or.inl rfl | refine Or.inr ⟨_,_,rfl,Nat.zero_le _,rfl,?_⟩ | refine ⟨_,_,rfl,?_,?_⟩ | refine ⟨_,rfl,?_⟩ | exact ⟨nL rfl,rfl⟩ | refine Or.inr (Or.inr (Or.inr ⟨_,_,rfl,?_⟩)) | exact Or.inl rfl | refine Or.inr ?_)):p:=h 
theorem gU {p:Prop} {P0:Prop} (x0:P0) (h:P0->p:=by intro x0;repeat' (first | exact rfl | exact trivial | exact Or.inr (Or.inl ⟨_,rfl⟩) | exact Or.inr ⟨_,rfl⟩ | exact Or.inl ⟨rfl,rfl⟩ | exact Or.inl rfl | refine Or.inr ⟨_,_,rfl,Nat.zero_le _,rfl,?_⟩ | refine ⟨_,_,rfl,?_,?_⟩ | refine ⟨_,rfl,?_⟩ | exact congrArg (fun z=>DV.v (.int .i64 z)) x0 | exact congrArg (fun z=>DV.v (.int .i64 z)) (congrArg Nat.cast x0) | exact congrArg (fun b=>DV.v (.bool b)) x0 | exact x0 | exact Or.inr (Or.inl ⟨_,x0⟩) | apply x0 | exact ⟨nL rfl,rfl⟩ | refine Or.inr (Or.inr (Or.inr ⟨_,_,rfl,?_⟩)) | exact Or.inl rfl | refine Or.inr ?_)):p:=h x0
theorem wC2 {p:Prop} {P0:Prop} {P1:Prop} (x0:P0) (x1:P1) (h:P0->P1->p:=by intro x0 x1;repeat' (first | exact rfl | exact trivial | exact Or.inr (Or.inl ⟨_,rfl⟩) | exact Or.inr ⟨_,rfl⟩ | exact Or.inl ⟨rfl,rfl⟩ | exact Or.inl rfl | refine Or.inr ⟨_,_,rfl,Nat.zero_le _,rfl,?_⟩ | refine ⟨_,_,rfl,?_,?_⟩ | refine ⟨_,rfl,?_⟩ | exact congrArg (fun z=>DV.v (.int .i64 z)) x0 | exact congrArg (fun z=>DV.v (.int .i64 z)) (congrArg Nat.cast x0) | exact congrArg (fun b=>DV.v (.bool b)) x0 | exact x0 | exact Or.inr (Or.inl ⟨_,x0⟩) | apply x0 | exact congrArg (fun z=>DV.v (.int .i64 z)) x1 | exact congrArg (fun z=>DV.v (.int .i64 z)) (congrArg Nat.cast x1) | exact congrArg (fun b=>DV.v (.bool b)) x1 | exact x1 | exact Or.inr (Or.inl ⟨_,x1⟩) | apply x1 | exact ⟨nL rfl,rfl⟩ | refine Or.inr (Or.inr (Or.inr ⟨_,_,rfl,?_⟩)) | exact Or.inl rfl | refine Or.inr ?_)):p:=h x0 x1
theorem iX {α:Type _} {P:α->Prop} {cs:α} {i:Int} {l:List α} (g:l[i.toNat]? = some cs) (k:P cs) (h:0<=i:=by omega):∃ cs,(0<=i/\l[i.toNat]? = some cs)/\P cs:=⟨cs,⟨h,g⟩,k⟩
theorem lI {X:Ctx} {st:St} {k:List It} {c:Code} (I:Nat->St->Prop) {j0:Nat} {iF:St} (h0:I j0 iF) (hw:s9 X.n0 X.m0 st iF)
 (hr:∀ j s,I j s->go X 4000 (.code c :: .sx (fun s'=>∃ D6,s9 X.n0 X.m0 s' D6/\∃ j',j' < j/\I j' D6) :: k) s):pL X c k st:=bA I j0 iF hw h0 hr
theorem lJ {X:Ctx} {st:St} {k:List It} {c:Code} (S:Nat->St) (n:Nat) (hw:s9 X.n0 X.m0 st (S 0))
 (hr:∀ e,e<=n->go X 4000 (.code c :: .sx (fun s'=>∃ D6,s9 X.n0 X.m0 s' D6/\∃ j',j' < n - e/\∃ e:Nat,D6=S e/\e<=n/\j'=n - e) :: k) (S e)):pL X c k st:=bA (fun j st=>∃ e:Nat,st=S e/\e<=n/\j=n - e) (n - 0) (S 0) hw ⟨0,rfl,Nat.zero_le _,rfl⟩ fun j s h=>by
 obtain ⟨e,rfl,he,rfl⟩:=h;exact hr e he
end Dv
end Go.Proofs.YtadhpeooehkklaaGreat
namespace Go.Proofs.YtadhpeooehkklaaGreat
namespace Dv
open Go
section
variable {P:Program} {ops:Array Oper} {C:World->Prop} {Q:Act->World->Prop} {W:Nat->Bool} {π:Nat->Nat}
theorem XE {o:Oper} {a:Act} {w:World} {K:Act->World->Prop} (h:wq P o a w K):∃ v w',K (a.put o.dst v) w':=by
 unfold wq at h;split at h
 ·exact ⟨_,_,h⟩
 ·exact ⟨_,_,h⟩
 ·obtain ⟨e,w',fr,⟨v,_,hv⟩,_⟩:=h [];exact ⟨v,w',hv⟩
 ·exact h.elim
theorem UO {x y:Oper} {v:Value} (WV:x.apart ops y=true) (hs:∀ cs b,y.op ≠ .select cs b) {a:Act} {w:World} {K:Act->World->Prop} :
  wq P y (a.put x.dst v) w K↔wq P y a w (fun a' w'=>K (a'.put x.dst v) w'):=by
 obtain ⟨h1,h2,h3⟩:=Oper.apart_spec WV;unfold wq;rw [execOp_put y hs a x.dst v h1];have hc:∀ u,(a.put x.dst v).put y.dst u=(a.put y.dst u).put x.dst v:=fun u=>Act.put_comm a v u h2
 cases (execOp a.eval y).run P w with
 | halt h w'=>rfl
 | ok n w'=>cases n<;>simp [hc]
def Yl (P:Program) (ops:Array Oper) (C:World->Prop) (o:Oper) (v:Value) (a:Act):Prop:=
 (Region.wanted o (yielded ops a.tmps)=true/\∀ w,(kb o.op=true->C w)->(execOp a.eval o).run P w = .ok (.value v) w) ∨
 (Region.wanted o (yielded ops a.tmps)=false/\v=undef)
theorem Yl.same {x y:Oper} {v u:Value} (WV:x.apart ops y=true) (hs:∀ cs b,y.op ≠ .select cs b) {a:Act}:Yl P ops C y v (a.put x.dst u)↔Yl P ops C y v a:=by
 obtain ⟨h1,h2,h3⟩:=Oper.apart_spec WV;unfold Yl;rw [execOp_put y hs a x.dst u h1,wanted_put y a x.dst u h1]
def dT (P:Program) (ops:Array Oper) (o:Oper) (a:Act) (w:World) (K:Act->World->Prop):Prop:=
 if Region.wanted o (yielded ops a.tmps)=true then wq P o a w K else K (a.put o.dst undef) w
theorem cK {o:Oper} {a:Act} {w:World} {K K':Act->World->Prop} (hk:∀ a w,K a w->K' a w) (h:dT P ops o a w K):dT P ops o a w K':=by
 unfold dT at *;split<;>rename_i hw
 ·rw [ai hw] at h;exact mH hk h
 ·rw [ah hw] at h;exact hk _ _ h
theorem ko {x y:Oper} {v:Value} (WV:x.apart ops y=true) (hs:∀ cs b,y.op ≠ .select cs b) {a:Act} {w:World} {K:Act->World->Prop} :
  dT P ops y (a.put x.dst v) w K↔dT P ops y a w (fun a' w'=>K (a'.put x.dst v) w'):=by
 obtain ⟨h1,h2,h3⟩:=Oper.apart_spec WV;unfold dT;rw [wanted_put y a x.dst v h1];split
 ·exact UO WV hs
 ·rw [Act.put_comm a v undef h2]
theorem MF {o:Oper} {a:Act} {w:World} {K:Act->World->Prop} (h:dT P ops o a w K):∃ v w',K (a.put o.dst v) w':=by
 unfold dT at h;split at h
 ·exact XE h
 ·exact ⟨_,_,h⟩
theorem jl {o:Oper} {a:Act} {w:World} {K:Act->World->Prop} (h:dT P ops o a w K):dT P ops o a w (fun a' w'=>K a' w' /\ ∃ u,a'=a.put o.dst u):=by
 unfold dT at *;split<;>rename_i hw
 ·rw [ai hw] at h;unfold wq at *;split at h
  ·rename_i hr;exact ⟨h,_,rfl⟩
  ·rename_i hr;exact ⟨h,_,rfl⟩
  ·rename_i hr;refine h.mono ?_;rintro e w' ⟨v,rfl,hv⟩;exact ⟨v,rfl,hv,v,rfl⟩
  ·exact h.elim
 ·rw [ah hw] at h;exact ⟨h,_,rfl⟩
theorem il {o:Oper} {a:Act} {w:World} {v:Value} {K:Act->World->Prop} (hy:Yl P ops C o v a) (hc:kb o.op=true->C w) (hk:K (a.put o.dst v) w):dT P ops o a w K:=by
 unfold dT;rcases hy with ⟨hw,hv⟩ | ⟨hw,rfl⟩
 ·rw [ai hw];unfold wq;rw [hv w hc];exact hk
 ·rw [ah (by simp [hw])];exact hk
theorem im {o:Oper} {a:Act} {w:World} {v:Value} {K:Act->World->Prop} (hy:Yl P ops C o v a) (hc:kb o.op=true->C w) (h:dT P ops o a w K):K (a.put o.dst v) w:=by
 unfold dT at h;rcases hy with ⟨hw,hv⟩ | ⟨hw,rfl⟩
 ·rw [ai hw] at h;unfold wq at h;rw [hv w hc] at h;exact h
 ·rw [ah (by simp [hw])] at h;exact h
def runT (P:Program) (ops:Array Oper) (W:Nat->Bool) (C:World->Prop) (Q:Act->World->Prop):List Nat->Act->World->Prop
 | [],a,w=>Q a w
 | i :: r,a,w=>
  match ops[i]? with
  | none=>False
  | some o=>
   if gz o.op=true then dT P ops o a w fun a' w'=>(W i=false->C w->C w')/\runT P ops W C Q r a' w'
   else ∃ v,Yl P ops C o v a/\(kb o.op=true->C w)/\runT P ops W C Q r (a.put o.dst v) w
def fN (ops:Array Oper) (W:Nat->Bool) (j i:Nat):Bool:=
 match ops[j]?,ops[i]? with
 | some x,some y=>x.apart ops y && y.apart ops x && !(gz x.op && gz y.op) && !(kb x.op && W i)
 | _,_=>false
def zM (ops:Array Oper) (l:List Nat):Prop:=∃ i o,i∈l/\ops[i]? = some o/\kb o.op=true
theorem eF {j i:Nat} {x y:Oper} (h:fN ops W j i=true) (hj:ops[j]? = some x) (hi:ops[i]? = some y) :
  x.apart ops y=true/\y.apart ops x=true/\¬ (gz x.op=true/\gz y.op=true)/\¬ (kb x.op=true/\W i=true):=by
 unfold fN at h;rw [hj,hi] at h;simp only [aQ,Bool.not_eq_true',Bool.and_eq_false_iff] at h;refine ⟨h.1.1.1,h.1.1.2,?_,?_⟩
 ·rintro ⟨h1,h2⟩;rcases h.1.2 with h3 | h3<;>simp_all
 ·rintro ⟨h1,h2⟩;rcases h.2 with h3 | h3<;>simp_all
theorem kH (dB:∀ (j:Nat) (o:Oper) cs b,ops[j]? = some o->o.op ≠ .select cs b) {i:Nat} {o:Oper} (hi:ops[i]? = some o) (hR:gz o.op=false) :
  ∀ (rem:List Nat) (a:Act) (w:World),runT P ops W C Q rem a w->i∈rem->(∀ j∈rem,j≠i->π j < π i->fN ops W j i=true)->rem.Pairwise (fun a b=>π a < π b)->∃ v,Yl P ops C o v a
 | [],_,_,_,hm,_,_=>by cases hm
 | h :: rem,a,w,hr,hm,uI,hp=>by
  simp only [runT] at hr;by_cases ri:h=i
  ·subst ri;rw [hi] at hr;simp only [hR,Bool.false_eq_true,if_false] at hr;obtain ⟨v,hy,_⟩:=hr;exact ⟨v,hy⟩
  ·have lU:i∈rem:=by
    rcases bL hm with e | e
    ·exact (ri e.symm).elim
    ·exact e
   have au:π h < π i:=(List.pairwise_cons.1 hp).1 i lU;split at hr
   ·exact hr.elim
   ·rename_i x hx;obtain ⟨GY,L6,_,_⟩:=eF (uI h (by simp) ri au) hx hi;have ih:=fun a w hr=>kH dB hi hR rem a w hr lU (fun j hj=>uI j (dj _ hj)) (List.pairwise_cons.1 hp).2;split at hr
    ·obtain ⟨u,w',_,iA⟩:=MF hr;obtain ⟨v,hy⟩:=ih _ _ iA;exact ⟨v,(Yl.same GY (fun cs b=>dB i o cs b hi)).1 hy⟩
    ·obtain ⟨u,_,_,iA⟩:=hr;obtain ⟨v,hy⟩:=ih _ _ iA;exact ⟨v,(Yl.same GY (fun cs b=>dB i o cs b hi)).1 hy⟩
theorem Aq {h:Nat} {rem:List Nat} (hl:zM ops rem):zM ops (h :: rem):=by
 obtain ⟨i,o,hm,ho,hL⟩:=hl;exact ⟨i,o,dj _ hm,ho,hL⟩
theorem gK (dB:∀ (j:Nat) (o:Oper) cs b,ops[j]? = some o->o.op ≠ .select cs b) (sE:∀ j i x y,π j < π i->ops[i]? = some x->ops[j]? = some y->kb x.op=true->W j=false) {i:Nat} {o:Oper} (hi:ops[i]? = some o) :
  ∀ (rem:List Nat) (a:Act) (w:World),(zM ops rem->C w)->runT P ops W C Q rem a w->i∈rem->(∀ j∈rem,j≠i->π j < π i->fN ops W j i=true)->rem.Pairwise (fun a b=>π a < π b) ->
   dT P ops o a w (fun a' w'=>(W i=false->C w->C w')/\runT P ops W C Q (rem.erase i) a' w')
 | [],_,_,_,_,hm,_,_=>by cases hm
 | h :: rem,a,w,hC,hr,hm,uI,hp=>by
  by_cases ri:h=i
  ·subst ri;rw [List.erase_cons_head];simp only [runT,hi] at hr;split at hr
   ·exact hr
   ·obtain ⟨v,hy,hc,iA⟩:=hr;exact il hy hc ⟨fun _ h=>h,iA⟩
  ·have lU:i∈rem:=by
    rcases bL hm with e | e
    ·exact (ri e.symm).elim
    ·exact e
   have au:π h < π i:=(List.pairwise_cons.1 hp).1 i lU;have qh:=(List.pairwise_cons.1 hp).2;rw [List.erase_cons_tail (sU ri)];have hr0:=hr;simp only [runT] at hr;split at hr
   ·exact hr.elim
   ·rename_i x hx;obtain ⟨GY,L6,hEE,XF⟩:=eF (uI h (by simp) ri au) hx hi;have zw:=fun cs b=>dB h x cs b hx;have Ar:=fun cs b=>dB i o cs b hi;have MG:∀ j∈rem,j≠i->π j < π i->fN ops W j i=true:=fun j hj=>uI j (dj _ hj);split at hr
    ·-- the head has an effect: so o has none
     rename_i WW
     have hRo:gz o.op=false:=by
      cases he:gz o.op
      ·rfl
      ·exact (hEE ⟨WW,he⟩).elim
     obtain ⟨v,hy⟩:=kH (π:=π) dB hi hRo (h :: rem) a w hr0 hm uI hp;have UP:kb o.op=true->C w:=fun hL=>hC ⟨i,o,hm,hi,hL⟩;refine il hy UP ⟨fun _ h=>h,?_⟩;simp only [runT,hx,WW,if_true];refine (ko L6 zw).2 ?_;refine cK ?_ (jl hr);rintro a' w' ⟨⟨oX,iA⟩,u,rfl⟩;refine ⟨oX,?_⟩
     have UQ:zM ops rem->C w':=by
      intro hl;have vy:=hl;obtain ⟨l,z,Kw,hz,hL⟩:=hl;exact oX (sE h l z x ((List.pairwise_cons.1 hp).1 l Kw) hz hx hL) (hC (Aq vy))
     have ih:=gK dB sE hi rem _ w' UQ iA lU MG qh;have fB:=(Yl.same (u:=u) GY Ar).2 hy;exact (im fB (fun hL=>UQ ⟨i,o,lU,hi,hL⟩) ih).2
    ·rename_i WW;obtain ⟨v,hy,hc,iA⟩:=hr;have ih:=gK dB sE hi rem (a.put x.dst v) w (fun hl=>hC (Aq hl)) iA lU MG qh;refine cK ?_ (jl ((ko GY Ar).1 ih));rintro a' w' ⟨⟨oX,nU⟩,u,rfl⟩;refine ⟨oX,?_⟩;simp only [runT,hx];rw [ah WW];refine ⟨v,?_,fun hL=>?_,nU⟩
     ·exact (Yl.same (u:=u) L6 zw).2 hy
     ·have XG:W i=false:=by
       cases hw:W i
       ·rfl
       ·exact (XF ⟨hL,hw⟩).elim
      exact oX XG (hc hL)
def ordB (ops:Array Oper):Nat->Nat->Nat->Bool
 | 0,_,_=>false
 | n + 1,j,i=>
  match ops[i]? with
  | some o=>o.after.toList.any fun e=>Region.binds .any e && (Nat.beq e.on j || ordB ops n j e.on)
  | none=>false
def rj (ops:Array Oper) (W:Nat->Bool) (π:Nat->Nat):Bool:=
 Region.noSelect ops &&
 (List.range ops.size).all fun i=>
  match ops[i]? with
   | some o=>o.after.toList.all (fun e=>!Region.binds .any e || (Nat.blt (π e.on) (π i) && Nat.blt e.on ops.size)) && (!kb o.op || (List.range ops.size).all fun j=>!Nat.blt (π j) (π i) || !W j)
   | none=>false
def vz (ops:Array Oper) (W:Nat->Bool) (π:Nat->Nat) (ex:Nat->Nat->Bool):Bool:=
 (List.range ops.size).all fun i=>(List.range ops.size).all fun j=>!Nat.blt (π j) (π i) || ex j i || ordB ops ops.size j i || fN ops W j i
def XH:Nat->Nat->Bool:=fun _ _=>false
def D8 (ops:Array Oper) (W:Nat->Bool):Bool:=rj ops W (fun i=>i) && vz ops W (fun i=>i) XH
def Dn (ops:Array Oper) (listed:Array Bool):Prop:=
 ∀ i o,ops[i]? = some o->listed.getD i true=true->∀ e∈o.after,Region.binds .any e=true->listed.getD e.on false=true
theorem lm {listed:Array Bool} (hd:Dn ops listed):∀ (n:Nat) (j i:Nat) (o:Oper),ops[i]? = some o->(∀ e∈o.after,Region.binds .any e=true->listed.getD e.on false=true)->ordB ops n j i=true->listed.getD j false=true
 | 0,j,i,o,_,_,h=>by simp [ordB] at h
 | n + 1,j,i,o,ho,fI,h=>by
  simp only [ordB,ho,List.any_eq_true,aQ,Bool.or_eq_true] at h;obtain ⟨e,he,hb,hj⟩:=h;have qj:e∈o.after:=sU he;have h1:=fI e qj hb;rcases hj with hj | hj
  ·have:e.on=j:=sU hj;rw [<- this];exact h1
  ·cases QD:ops[e.on]? with
   | none=>
    cases n with
    | zero=>simp [ordB] at hj
    | succ n=>simp [ordB,QD] at hj
   | some o'=>
    have hg:listed.getD e.on true=true:=by
     rcases Nat.lt_or_ge e.on listed.size with h' | h'
     ·simp [h'] at h1 ⊢;exact h1
     ·simp [Array.getElem?_eq_none h'] at h1
    exact lm hd n j e.on o' QD (hd e.on o' QD hg) hj
theorem rk (hc:rj ops W π=true):∀ j i x y,π j < π i->ops[i]? = some x->ops[j]? = some y->kb x.op=true->W j=false:=by
 simp only [rj,aQ,List.all_eq_true,List.mem_range] at hc;intro j i x y GR hx hy hL;have hj:=(Array.getElem?_eq_some_iff.1 hy).1;have:=hc.2 i (Array.getElem?_eq_some_iff.1 hx).1;simp only [hx,aQ,Bool.or_eq_true,hL,Bool.not_true,Bool.false_eq_true,false_or,List.all_eq_true,List.mem_range,Bool.not_eq_true'] at this;rcases this.2 j hj with h1 | h1
 ·have:¬ Nat.blt (π j) (π i)=true:=by simp [h1]
  simp at this;omega
 ·exact h1
theorem td (hc:rj ops W π=true):∀ i x,ops[i]? = some x->∀ e∈x.after,Region.binds .any e=true->π e.on < π i/\e.on < ops.size:=by
 simp only [rj,aQ,List.all_eq_true,List.mem_range] at hc;intro i x hx e he hb;have:=hc.2 i (Array.getElem?_eq_some_iff.1 hx).1;simp only [hx,aQ,List.all_eq_true,Bool.or_eq_true] at this;have h2:=this.1 e (sU he);rw [hb] at h2;simpa using h2
theorem rm (hc:rj ops W π=true):∀ (j:Nat) (o:Oper) cs b,ops[j]? = some o->o.op ≠ .select cs b:=by
 simp only [rj,aQ] at hc;exact Region.noSelect_spec hc.1
theorem wZ:∀ {l:List Nat},l.Pairwise (fun a b=>π a < π b)->∀ {x y:Nat},x∈l->y∈l->x≠y->π x < π y∨π y < π x
 | [],_,x,y,hx,_,_=>by cases hx
 | h :: r,hp,x,y,hx,hy,bF=>by
  have qh:=List.pairwise_cons.1 hp;rcases bL hx with e1 | e1
  ·rcases bL hy with e2 | e2
   ·exact (bF (e1.trans e2.symm)).elim
   ·subst e1;exact .inl (qh.1 _ e2)
  ·rcases bL hy with e2 | e2
   ·subst e2;exact .inr (qh.1 _ e1)
   ·exact wZ qh.2 e1 e2 bF
theorem mM {Q':Exit->Act->World->Prop} (ex:Nat->Nat->Bool) (SH:rj ops W π=true) (UR:vz ops W π ex=true) (hQ:∀ a w,Q a w->Q' .normal a w):∀ (iS:Nat) (listed:Array Bool) (rem:List Nat) (a:Act) (w:World),
  listed.size=ops.size->Dn ops listed->(∀ i,i∈rem↔i < ops.size/\listed.getD i true=false)->rem.Pairwise (fun a b=>π a < π b)->rem.length<=iS->(∀ j∈rem,∀ i∈rem,ex j i=false)->(zM ops rem->C w)->runT P ops W C Q rem a w ->
   wpAny P .any ops Q' iS listed a w:=by
 have dB:=rm SH;have sE:=rk SH;have D9:=td SH;simp only [vz,List.all_eq_true,List.mem_range,Bool.or_eq_true,Bool.not_eq_true'] at UR;intro iS
 induction iS with
 | zero=>
  intro listed rem a w bT Qa iB hp hlen hex hC hr;have:rem=[]:=List.length_eq_zero_iff.1 (by omega);subst this;refine ⟨?_,hQ _ _ hr⟩;rw [List.eq_nil_iff_forall_not_mem];intro i hi;have:=(mem_ready.1 hi);obtain ⟨h1,o,ho,_⟩:=this;have:=(iB i).2 ⟨(Array.getElem?_eq_some_iff.1 ho).1,h1⟩;cases this
 | succ iS ih=>
  intro listed rem a w bT Qa iB hp hlen hex hC hr
  have US:∀ i,i∈Region.ready .any ops listed->i∈rem:=by
   intro i hi;obtain ⟨h1,o,ho,_⟩:=mem_ready.1 hi;exact (iB i).2 ⟨(Array.getElem?_eq_some_iff.1 ho).1,h1⟩
  refine ⟨fun h0=>?_,fun i hi=>?_⟩
  ·cases rem with
   | nil=>exact hQ _ _ hr
   | cons h rem=>
    have hh:=(iB h).1 (by simp);have hx:ops[h]? = some ops[h]:=Array.getElem?_eq_getElem hh.1
    have:h∈Region.ready .any ops listed:=by
     refine mem_ready.2 ⟨hh.2,_,hx,fun e he hb=>?_⟩;obtain ⟨au,lh⟩:=D9 h _ hx e he hb;cases hg:listed.getD e.on false
     ·have Qb:listed.getD e.on true=false:=by
       have:e.on < listed.size:=by rw [bT];omega
       simp [this] at hg ⊢;exact hg
      have hm:=(iB e.on).2 ⟨by omega,Qb⟩;rcases bL hm with e1 | e1
      ·rw [e1] at au;omega
      ·have:=(List.pairwise_cons.1 hp).1 _ e1;omega
     ·rfl
    rw [h0] at this;cases this
  ·have mw:=US i hi;obtain ⟨DK,o,ho,fI⟩:=mem_ready.1 hi;have eo:=(Array.getElem?_eq_some_iff.1 ho).1
   have uI:∀ j∈rem,j≠i->π j < π i->fN ops W j i=true:=by
    intro j hj _ au;rcases UR i eo j ((iB j).1 hj).1 with ((h1 | h1) | h1) | h1
    ·have:¬ Nat.blt (π j) (π i)=true:=by simp [h1]
     simp at this;omega
    ·rw [hex j hj i mw] at h1;cases h1
    ·have h2:=lm Qa _ _ _ _ ho fI h1;have h3:=((iB j).1 hj).2;have:j < listed.size:=by rw [bT];exact ((iB j).1 hj).1
     simp [this] at h2 h3;rw [h2] at h3;cases h3
    ·exact h1
   have bd:=gK dB sE ho rem a w hC hr mw uI hp;have hnd:rem.Nodup:=nR hp
   have key:∀ a' w',((W i=false->C w->C w')/\runT P ops W C Q (rem.erase i) a' w')->wpAny P .any ops Q' iS (listed.setIfInBounds i true) a' w':=by
    rintro a' w' ⟨oX,iA⟩;refine ih (listed.setIfInBounds i true) (rem.erase i) a' w' (by simp [bT]) ?_ ?_ (hp.sublist List.erase_sublist) (by rw [List.length_erase_of_mem mw];omega) (fun j hj i hi=>hex j (List.mem_of_mem_erase hj) i (List.mem_of_mem_erase hi)) ?_ iA
    ·intro k x hx hk e he hb;by_cases kD:k=i
     ·subst kD;rw [ho] at hx;simp only [oI] at hx;subst hx;exact getD_set_true (fI e he hb)
     ·rw [getD_set_ne true (Ne.symm kD)] at hk;exact getD_set_true (Qa k x hx hk e he hb)
    ·intro k;rw [List.Nodup.mem_erase_iff hnd];by_cases kD:k=i
     ·subst kD;simp [bT,eo]
     ·rw [getD_set_ne true (Ne.symm kD)];simp only [ne_eq,kD,not_false_eq_true,true_and];exact iB k
    ·rintro ⟨l,z,hl,hz,hL⟩;have vy:=List.mem_of_mem_erase hl;have bF:l≠i:=fun e=>by subst e;exact (List.Nodup.mem_erase_iff hnd).1 hl |>.1 rfl
     have UT:=hC ⟨l,z,vy,hz,hL⟩;refine oX ?_ UT;rcases Nat.lt_or_ge (π i) (π l) with h1 | h1
     ·exact sE i l z o h1 hz ho hL
     ·have h0:π l≠π i:=by
       intro he;rcases wZ hp vy mw bF with h2 | h2<;>omega
      have:=uI l vy bF (by omega);obtain ⟨_,_,_,h4⟩:=eF this hz ho;cases hw:W i
      ·rfl
      ·exact (h4 ⟨hL,hw⟩).elim
   unfold wpOp;rw [ho];simp only;unfold dT at bd;split
   ·rename_i hw;rw [ai hw] at bd;exact .inl (DZ (mH key bd))
   ·rename_i hw;rw [ah hw] at bd;exact key _ _ bd
theorem lG {id:Nat} {Q':Exit->Act->World->Prop} {a:Act} {w:World} (hm:P.follows .mixedOrders=true) (hc:D8 ops W=true) (hQ:∀ a w,Q a w->Q' .normal a w)
  (hC:C w.drew) (h:runT P ops W C Q (List.range ops.size) a w.drew):(Code.region id ops true).wp P Q' a w:=by
 refine wp_region_any hm ?_;simp only [D8,aQ] at hc;refine mM (π:=fun i=>i) XH hc.1 hc.2 hQ ops.size (Array.replicate ops.size false) (List.range ops.size) a _ (by simp) ?_ ?_ List.pairwise_lt_range (by simp) (fun _ _ _ _=>rfl) (fun _=>hC) h
 ·intro i o ho hl;have:i < ops.size:=(Array.getElem?_eq_some_iff.1 ho).1;simp [this] at hl
 ·intro i;simp only [List.mem_range];constructor
  ·intro hi;exact ⟨hi,by simp [hi]⟩
  ·intro hi;exact hi.1
end
end Dv
end Go.Proofs.YtadhpeooehkklaaGreat
namespace Go.Proofs.YtadhpeooehkklaaGreat
namespace Dv
open Go Go.RowKit
structure Dr where
 ops:Array Oper
 W:Nat->Bool
 k:List It
 iF:St
 fin:Option (Bool->List (Nat × Sl)->St->Prop)
structure Dw where
 d:Dr
 E0:En
 wr:World
structure CC (E0:En) (bx:List (List DV)) (wr w:World):Prop where
 o:∀ (i:Nat) b cs,E0.β[i]? = some b->bx[i]? = some cs->cs ≠ []->w.heap[b]? = wr.heap[b]?
 c:∀ x v,E0.c x=some v->w.cell? x=some v
abbrev Dw.C (D:Dw) (w:World):Prop:=CC D.E0 D.d.iF.bx D.wr w
structure te (E:En) (bx:List (List DV)) (w:World):Prop where
 len:E.β.length=bx.length
 fm:∀ (i:Nat) cs,bx[i]? = some cs->cs ≠ []->∃ b ty arr,E.β[i]? = some b/\w.heap[b]? = some (.cells (List.toArray arr) ty (0,0))/\RvC E cs arr
theorem Env.em {E:En} {bx:List (List DV)} {w:World} (h:Env E bx w):te E bx w:=⟨h.len,fun i cs hi _=>h.fm i cs hi⟩
def XI:Option (List DV)->Bool
 | some []=>true
 | _=>false
theorem QE {o:Option (List DV)} (h:XI o=true):o=some []:=by
 cases o with
 | none=>cases h
 | some l=>
  cases l with
  | nil=>rfl
  | cons _ _=>cases h
def Dw.wc (D:Dw) (E:En):En:=⟨D.E0.c,E.β,E.tk,E.τ⟩
structure fO (X:Ctx) (D:Dw) (c:Bool) (E:En) (s0:List (Nat × Sl)) (st:St) (a:Act) (w:World):Prop where
 rel:Rel X E st a w
 x:Ext D.E0 E
 β:∃ r,E.β=D.E0.β ++ r
 t0:∀ i x,get s0 i=some x->(Holds a.tmps x.gs->∃ v,a.tmps[i]? = some v/\Rv (D.wc E) x.s v)/\(¬ Holds a.tmps x.gs->a.tmps[i]? = some undef)
 cc:c=true->D.C w
def Dw.Q (D:Dw) (X:Ctx) (a:Act) (w:World):Prop:=
 match D.d.fin with
 | none=>kq X D.d.k .normal a w
 | some F=>∃ c E s0 st,fO X D c E s0 st a w/\F c s0 st
def delF {γ:Type _} (d:Nat):List (Nat × Sl)->(List (Nat × Sl)->γ)->γ
 | [],K=>K []
 | p :: r,K=>
  match Nat.beq p.1 d with
  | true=>delF d r K
  | false=>delF d r (fun r'=>K (p :: r'))
theorem rn {γ:Type _} (d:Nat):∀ (l:List (Nat × Sl)) (K:List (Nat × Sl)->γ),delF d l K=K (l.filter fun p=>!Nat.beq p.1 d)
 | [],K=>rfl
 | p :: r,K=>by
  simp only [delF,List.filter_cons];cases h:Nat.beq p.1 d
  ·simp only [Bool.not_false,if_true];rw [rn d r]
  ·simp only [Bool.not_true,Bool.false_eq_true,if_false];rw [rn d r K]
theorem get_filter (d:Nat):∀ (l:List (Nat × Sl)) (i:Nat) (x:Sl),get (l.filter fun p=>!Nat.beq p.1 d) i=some x->i≠d/\get l i=some x
 | [],i,x,h=>by cases h
 | (k,y) :: r,i,x,h=>by
  simp only [List.filter_cons] at h;split at h
  ·rename_i hk
   have hk:k≠d:=by
    rintro rfl;simp at hk
   simp only [dY] at h ⊢;split at h
   ·rename_i kD;subst kD;exact ⟨hk,by rw [ai rfl];exact h⟩
   ·rename_i kD;rw [ah kD];exact get_filter d r i x h
  ·rename_i hk;have hk:k=d:=sU hk;obtain ⟨h1,h2⟩:=get_filter d r i x h;refine ⟨h1,?_⟩;simp only [dY];rw [ah (by omega)];exact h2
def scal:DV->Bool
 | .v _=>true
 | .ud=>true
 | .loc _ _=>true
 | .el _ _=>true
 | _=>false
def put2 (s0:List (Nat × Sl)) (st:St) (dst:Option Nat) (b:Bool) (gs:List (Nat × Bool)) (s:DV) (K:List (Nat × Sl)->St->Prop):Prop:=
 match dst with
 | none=>K s0 st
 | some d=>
  match st with
  | ⟨sl,bx,tk⟩=>
   match b || scal s with
   | true=>K ((d,⟨gs,s⟩) :: s0) ⟨(d,⟨gs,s⟩) :: sl,bx,tk⟩
   | false=>delF d s0 fun jV=>K jV ⟨(d,⟨gs,s⟩) :: sl,bx,tk⟩
def optP:Option Prop->Prop
 | some p=>p
 | none=>False
def pR (X:Ctx) (D:Dr) (c:Bool) (s0:List (Nat × Sl)) (st:St) (G:List (Nat × Bool)) (op:Op):Option (Bool × DV):=
 match !gz op && (!kb op || c) with
 | false=>none
 | true=>
  match pureT X.P X.T ⟨s0,D.iF.bx,[]⟩ G op with
  | some s=>some (true,s)
  | none=>
   match kb op with
   | true=>none
   | false=>
    match pureT X.P X.T ⟨st.sl,[],[]⟩ G op with
    | some s=>some (false,s)
    | none=>none
def eR (X:Ctx) (D:Dr) (c:Bool) (s0:List (Nat × Sl)) (st:St) (op:Op) (K:Bool->DV->Prop):Option Prop:=
 match gz op with
 | true=>none
 | false=>
  match kb op with
  | true=>
   match c with
   | true=>effR X ⟨s0,D.iF.bx,[]⟩ op (K true)
   | false=>none
  | false=>
   match effR X ⟨s0,[],[]⟩ op (K true) with
   | some p=>some p
   | none=>effR X ⟨st.sl,[],[]⟩ op (K false)
def As (X:Ctx) (D:Dr) (c:Bool) (i:Nat) (l:List (Nat × Oper)) (f:FuncId) (args:List DV) (dst:Option Nat) (s0:List (Nat × Sl)) (st:St):Prop:=
 Go.Proofs.Enters X.P f/\((∀ p∈l,D.ops[p.1]? = some p.2)->∀ (E0:En) (wr:World),te E0 D.iF.bx wr->∀ E a w vs,fO X ⟨D,E0,wr⟩ c E s0 st a w->RvL E args vs->Calls X.P f vs.toArray w fun e w'=>∃ v,e = .returned v /\
  (D.W i=false->CC E0 D.iF.bx wr w->CC E0 D.iF.bx wr w')/\runT X.P D.ops D.W (CC E0 D.iF.bx wr) (Dw.Q ⟨D,E0,wr⟩ X) (l.map (·.1)) (a.put dst v) w')
def OpD (X:Ctx) (D:Dr) (c:Bool) (i:Nat) (l:List (Nat × Oper)) (o:Oper) (s0:List (Nat × Sl)) (st:St):Prop:=
 (∀ p∈l,D.ops[p.1]? = some p.2)->∀ (E0:En) (wr:World),te E0 D.iF.bx wr->∀ E a w,fO X ⟨D,E0,wr⟩ c E s0 st a w->wq X.P o a w fun a' w'=>
  (D.W i=false->CC E0 D.iF.bx wr w->CC E0 D.iF.bx wr w')/\runT X.P D.ops D.W (CC E0 D.iF.bx wr) (Dw.Q ⟨D,E0,wr⟩ X) (l.map (·.1)) a' w'
def effE (X:Ctx) (D:Dr) (c:Bool) (i:Nat) (l:List (Nat × Oper)) (o:Oper) (s0:List (Nat × Sl)) (st:St) (K:Bool->List (Nat × Sl)->St->Prop):Prop:=
 match o.op with
 | .store t x y=>
  match o.dst with
  | some _=>False
  | none=>
   match D.W i with
   | true=>optP (effC X st o (K false s0))
   | false=>
    match stObj st o.op with
    | some j=>
     match Nat.ble D.iF.bx.length j || XI D.iF.bx[j]? with
     | true=>optP (effC X st o (K c s0))
     | false=>False
    | none=>False
 | .call cl=>
  match cl.callee with
  | .value f=>
   match rv st [] f,argsV st [] cl.args.toList with
   | some (.fn g first captured),some vs=>As X D c i l g (first ++ vs ++ captured) o.dst s0 st
   | _,_=>False
  | _=>
   match o.dst with
   | some d=>optP (effC X st o fun st'=>delF d s0 fun jV=>K c jV st')
   | none=>False
 | _=>
  match o.dst with
  | some d=>
   match effC X st o fun st'=>
    match get st'.sl d with
    | some ⟨[],.loc j off⟩=>K c ((d,⟨[],.loc j off⟩) :: s0) st'
    | _=>delF d s0 fun jV=>K c jV st' with
   | some p=>p
   | none=>OpD X D c i l o s0 st
  | none=>False
def goD (X:Ctx) (D:Dr):Nat->Bool->List (Nat × Oper)->List (Nat × Sl)->St->Prop
 | _,c,[],s0,st=>
  match D.fin with
  | none=>go X 4000 D.k st
  | some F=>F c s0 st
 | 0,_,_ :: _,_,_=>False
 | n + 1,c,(i,o) :: r,s0,st=>
  match gx X.nt st.sl o.dst && gx X.nt s0 o.dst with
  | false=>False
  | true=>
   match o.guard with
   | none=>
    match gz o.op with
    | true=>effE X D c i r o s0 st fun c' jV st'=>goD X D n c' r jV st'
    | false=>
     match pR X D c s0 st [] o.op with
     | some (b,s)=>put2 s0 st o.dst b [] s (goD X D n c r)
     | none=>optP (eR X D c s0 st o.op fun b s=>put2 s0 st o.dst b [] s (goD X D n c r))
   | some (j,want)=>
    match gslot D.ops.toList j with
    | none=>False
    | some d=>
     match get st.sl d with
     | none=>False
     | some ⟨iC,_⟩=>
      match pR X D c s0 st ((d,want) :: iC) o.op with
      | some (b,s)=>
       match Xl ((d,want) :: iC) o.dst with
       | true=>put2 s0 st o.dst b ((d,want) :: iC) s (goD X D n c r)
       | false=>False
      | none=>
       match get st.sl (lastG (d,want) iC).1 with
       | some ⟨[],.v (.bool b)⟩=>
        match iC with
        | []=>Br (b == want)
          (wM st d want fun Ea=>resL d want s0 fun s2=>
           match gz o.op with
           | true=>effE X D c i r o s2 Ea fun c' jV st'=>goD X D n c' r jV st'
           | false=>optP (eR X D c s2 Ea o.op fun b s=>put2 s2 Ea o.dst b [] s (goD X D n c r)))
          (match !kb o.op || c with
           | true=>wM st d (!want) fun Ea=>resL d (!want) s0 fun s2=>put2 s2 Ea o.dst true [] .ud (goD X D n c r)
           | false=>False)
        | _ :: _=>Br (b == (lastG (d,want) iC).2)
          (wM st (lastG (d,want) iC).1 (lastG (d,want) iC).2 fun Ea=>resL (lastG (d,want) iC).1 (lastG (d,want) iC).2 s0 fun s2=>goD X D n c ((i,o) :: r) s2 Ea)
          (wM st (lastG (d,want) iC).1 (!(lastG (d,want) iC).2) fun Ea=>resL (lastG (d,want) iC).1 (!(lastG (d,want) iC).2) s0 fun s2=>goD X D n c ((i,o) :: r) s2 Ea)
       | some ⟨[],.ud⟩=>
        match iC with
        | []=>
         match !kb o.op || c with
         | true=>put2 s0 st o.dst true [] .ud (goD X D n c r)
         | false=>False
        | _ :: _=>False
       | _=>False
section
variable {X:Ctx} {D:Dw} {c:Bool} {i:Nat} {s0:List (Nat × Sl)} {st:St} {E:En} {a:Act} {w:World}
theorem UU (h:Ext D.E0 E):Ext D.E0 (D.wc E):=⟨fun _ _ h=>h,h.β,h.tk⟩
theorem GZ (h:Ext D.E0 E):Ext (D.wc E) E:=⟨h.c,fun _ _ h=>h,fun k q hq=>⟨q,hq,.inl ⟨rfl,rfl⟩⟩⟩
theorem I7 {E':En} (h:Ext E E'):Ext (D.wc E) (D.wc E'):=⟨fun _ _ h=>h,h.β,h.tk⟩
theorem fO.rl0 (h:fO X D c E s0 st a w) (hD:te D.E0 D.d.iF.bx D.wr):Rl (D.wc E) D.d.iF.bx D.C s0 a where
 tm:=h.t0
 fm:=fun i cs hi=>by
  by_cases bF:cs=[]
  ·subst bF;have au:i < D.E0.β.length:=by rw [hD.len];exact (gS hi).1
   exact ⟨_,[],h.x.β i _ (gE au),⟨dh _,by simp⟩,fun w' _ j u hj=>by simp at hj⟩
  ·obtain ⟨b,ty,arr,hb,hw,hc⟩:=hD.fm i cs hi bF;exact ⟨b,arr,h.x.β i b hb,hc.mono (UU h.x),fun w' hC j u hj=>by rw [cT ((hC.o i b cs hb hi bF).trans hw)];simpa using hj⟩
 cc:=fun x v hx w' hC=>hC.c x v hx
theorem fO.rlE (h:fO X D c E s0 st a w):Rl E [] (fun w'=>∀ x v,E.c x=some v->w'.cell? x=some v) st.sl a where
 tm:=h.rel.tm
 fm:=fun i cs hi=>by simp at hi
 cc:=fun x v hx w' hC=>hC x v hx
theorem I8 {s:DV} {v:Value} (hs:scal s=true) (hv:Rv E s v):Rv (D.wc E) s v:=by
 cases s<;>simp [scal] at hs
 ·unfold Rv at hv ⊢;exact hv
 ·unfold Rv at hv ⊢;exact hv
 ·unfold Rv at hv ⊢;exact hv
 ·unfold Rv at hv ⊢;exact hv
theorem kI (h:fO X D c E s0 st a w) {dst:Option Nat} (hd:(gx X.nt st.sl dst && gx X.nt s0 dst)=true) (b:Bool) (gs:List (Nat × Bool)) (s:DV) (v:Value) (sA:∀ d,dst=some d->∀ p∈gs,p.1≠d)
  (mD:Holds a.tmps gs->Rv E s v) (sC:b=true->Holds a.tmps gs->Rv (D.wc E) s v) (sP:¬ Holds a.tmps gs->v=undef) {K:List (Nat × Sl)->St->Prop} (hk:put2 s0 st dst b gs s K) :
  ∃ jV st',K jV st' /\ fO X D c E jV st' (a.put dst v) w:=by
 simp only [aQ] at hd;have h1:=q6 h.rel hd.1 gs s v sA mD sP
 cases dst with
 | none=>exact ⟨s0,st,hk,h1,h.x,h.β,h.t0,h.cc⟩
 | some d=>
  obtain ⟨sl,bx,tk⟩:=st;have Kx:=hd.2;simp only [gx,aQ,Nat.blt_eq] at Kx
  have hold:∀ i x,i≠d->get s0 i=some x->(Holds (a.put (some d) v).tmps x.gs->∃ u,(a.put (some d) v).tmps[i]? = some u/\Rv (D.wc E) x.s u)/\(¬ Holds (a.put (some d) v).tmps x.gs->(a.put (some d) v).tmps[i]? = some undef):=by
   intro i x hi hx;simp only [Act.put];rw [Array.getElem?_setIfInBounds_ne (Ne.symm hi),lV (mC Kx.2 i x hx)];exact h.t0 i x hx
  simp only [put2] at hk;split at hk
  ·rename_i hb;refine ⟨_,_,hk,h1,h.x,h.β,fun i x hx=>?_,h.cc⟩;simp only [dY] at hx;split at hx
   ·rename_i Mq;subst Mq;simp only [oI] at hx;subst hx;have h2:(a.tmps.setIfInBounds d v)[d]? = some v:=by simp [Array.getElem?_setIfInBounds,h.rel.sz,Kx.1]
    simp only [Act.put];rw [lV (sA d rfl),h2];refine ⟨fun hh=>⟨v,rfl,?_⟩,fun hh=>by rw [sP hh]⟩;rcases Bool.or_eq_true _ _ |>.mp hb with hb | hb
    ·exact sC hb hh
    ·exact I8 hb (mD hh)
   ·rename_i Mq;exact hold i x (Ne.symm Mq) hx
  ·rw [rn] at hk;refine ⟨_,_,hk,h1,h.x,h.β,fun i x hx=>?_,h.cc⟩;obtain ⟨h3,h4⟩:=get_filter d s0 i x hx;exact hold i x h3 h4
theorem mN (h:fO X D c E s0 st a w) {d:Nat} {b:Bool} (hd:a.tmps[d]? = some (.bool b)):fO X D c E (s0.map (bW d b)) (st.resolve d b) a w where
 rel:=lj h.rel hd
 x:=h.x
 β:=h.β
 t0:=by
  intro i y hy;simp only [get_map,Option.map_eq_some_iff] at hy;obtain ⟨x,hx,rfl⟩:=hy;have ht:=h.t0 i x hx;unfold bW;split
  ·rename_i hi;have eo:i=d:=sU hi;subst eo;exact ⟨fun _=>⟨_,hd,gJ rfl⟩,fun hn=>(hn (bK _)).elim⟩
  ·split
   ·rename_i hc
    have hn:¬ Holds a.tmps x.gs:=by
     intro hh;have:=hh (d,!b) (sU hc);simp only at this;rw [hd] at this;cases b<;>simp at this
    exact ⟨fun _=>⟨_,ht.2 hn,uC _⟩,fun hn=>(hn (bK _)).elim⟩
   ·have he:Holds a.tmps (x.gs.filter fun p=>p != (d,b))↔Holds a.tmps x.gs:=by
     constructor
     ·intro hh p hp;by_cases IZ:p=(d,b)
      ·subst IZ;exact hd
      ·exact hh p (by simp [List.mem_filter,hp,IZ])
     ·intro hh p hp;exact hh p (List.mem_filter.1 hp).1
    simp only [he];exact ht
 cc:=h.cc
theorem mO {nt d:Nat} {b:Bool} {dst:Option Nat} (h:(gx nt st.sl dst && gx nt s0 dst)=true):(gx nt (st.resolve d b).sl dst && gx nt (s0.map (bW d b)) dst)=true:=by
 simp only [aQ] at h ⊢;exact ⟨lk h.1,lk (st:=⟨s0,[],[]⟩) h.2⟩
theorem Eb (hD:te D.E0 D.d.iF.bx D.wr) (h:fO X D c E s0 st a w) {G:List (Nat × Bool)} (hG:Holds a.tmps G) {o:Oper} {b:Bool} {s:DV} (hp:pR X D.d c s0 st G o.op=some (b,s)) :
  gz o.op=false/\(kb o.op=true->c=true)/\∃ v,Rv E s v/\(b=true->Rv (D.wc E) s v)/\∀ w,(kb o.op=true->D.C w)->(execOp a.eval o).run X.P w = .ok (.value v) w:=by
 unfold pR at hp;split at hp
 ·cases hp
 ·rename_i hc;simp only [aQ,Bool.not_eq_true',Bool.or_eq_true] at hc;refine ⟨hc.1,fun hL=>?_,?_⟩
  ·rcases hc.2 with h1 | h1
   ·rw [hL] at h1;cases h1
   ·exact h1
  ·split at hp
   ·rename_i s' hs;simp only [oI,Prod.mk.injEq] at hp;obtain ⟨rfl,rfl⟩:=hp;obtain ⟨v,hv,hr⟩:=ji (st:=⟨s0,D.d.iF.bx,[]⟩) X.hT (h.rl0 hD) hG hs;exact ⟨v,Rv.mono (GZ h.x) hv,fun _=>hv,hr⟩
   ·split at hp
    ·cases hp
    ·rename_i hL;split at hp
     ·rename_i s' hs;simp only [oI,Prod.mk.injEq] at hp;obtain ⟨rfl,rfl⟩:=hp;obtain ⟨v,hv,hr⟩:=ji (st:=⟨st.sl,[],[]⟩) X.hT h.rlE hG hs;exact ⟨v,hv,(by intro h;cases h),fun w' _=>hr w' (by intro h1;rw [hL] at h1;cases h1)⟩
     ·cases hp
theorem MH (hD:te D.E0 D.d.iF.bx D.wr) (h:fO X D c E s0 st a w) {o:Oper} {K:Bool->DV->Prop} (hp:optP (eR X D.d c s0 st o.op K)) :
  gz o.op=false/\(kb o.op=true->c=true)/\∃ b s v,K b s/\Rv E s v/\(b=true->Rv (D.wc E) s v)/\∀ w,(kb o.op=true->D.C w)->(execOp a.eval o).run X.P w = .ok (.value v) w:=by
 unfold eR at hp;split at hp
 ·exact hp.elim
 ·rename_i hE;refine ⟨hE,?_⟩;split at hp
  ·rename_i hL;split at hp
   ·refine ⟨fun _=>rfl,?_⟩
    cases hs:effR X ⟨s0,D.d.iF.bx,[]⟩ o.op (K true) with
    | none=>rw [hs] at hp;exact hp.elim
    | some p=>
     rw [hs] at hp;obtain ⟨s,hk,v,hv,hr⟩:=mE (st:=⟨s0,D.d.iF.bx,[]⟩) (h.rl0 hD) hs hp;exact ⟨true,s,v,hk,Rv.mono (GZ h.x) hv,fun _=>hv,hr⟩
   ·exact hp.elim
  ·rename_i hL;have fv:∀ w':World,kb o.op=true->False:=fun w' h1=>by rw [hL] at h1;cases h1
   refine ⟨fun h1=>(by rw [hL] at h1;cases h1),?_⟩;split at hp
   ·rename_i p hs;obtain ⟨s,hk,v,hv,hr⟩:=mE (st:=⟨s0,[],[]⟩) (C:=D.C) ⟨h.t0,fun i cs hi=>by simp at hi,(h.rl0 hD).cc⟩ hs hp;exact ⟨true,s,v,hk,Rv.mono (GZ h.x) hv,fun _=>hv,fun w' _=>hr w' fun h1=>(fv w' h1).elim⟩
   ·cases hs:effR X ⟨st.sl,[],[]⟩ o.op (K false) with
    | none=>rw [hs] at hp;exact hp.elim
    | some p=>
     rw [hs] at hp;obtain ⟨s,hk,v,hv,hr⟩:=mE (st:=⟨st.sl,[],[]⟩) h.rlE hs hp;exact ⟨false,s,v,hk,hv,(by intro h;cases h),fun w' _=>hr w' fun h1=>(fv w' h1).elim⟩
theorem QF {P:Program} {o:Oper} {K:Act->World->Prop} (h:wq P o a w K):wq P o a w fun a' w'=>K a' w' /\ ∃ u,a'=a.put o.dst u:=by
 unfold wq at *;split at h
 ·exact ⟨h,_,rfl⟩
 ·exact ⟨h,_,rfl⟩
 ·refine h.mono ?_;rintro e w' ⟨v,rfl,hv⟩;exact ⟨v,rfl,hv,v,rfl⟩
 ·exact h.elim
theorem Ec (h:fO X D c E s0 st a w) {t:Option Nat} {E':En} {st':St} {a':Act} {w':World} (hs:dm t E w E' w') (hr:Rel X E' st' a' w') (ht:∀ j,t=some j->D.E0.β.length<=j∨D.d.iF.bx[j]? = some []):D.C w->D.C w':=fun hC=>
 ⟨fun i b cs hb dw bF=>by
  have gB:=h.x.β i b hb
  rw [hs.o i _ gB fun e=>by
   rcases ht i e with h1 | h1
   ·have:=(gS hb).1;omega
   ·rw [dw] at h1;simp only [oI] at h1;exact bF h1]
  exact hC.o i b cs hb dw bF,fun x v hx=>hr.env.sub x v (hs.x.c x v (h.x.c x v hx))⟩
theorem w7 (h:fO X D c E s0 st a w) {t:Option Nat} {E':En} {st':St} {w':World} {c':Bool} {jV:List (Nat × Sl)} {dst:Option Nat} {u:Value} (hs:dm t E w E' w') (hr:Rel X E' st' (a.put dst u) w') (uG:c'=true->D.C w')
  (ht0:∀ i x,get jV i=some x->(∃ d,dst=some d/\i=d/\scal x.s=true/\get st'.sl d=some x)∨(get s0 i=some x/\∀ d,dst=some d->i≠d)) (hd:gx X.nt s0 dst=true):fO X D c' E' jV st' (a.put dst u) w' where
 rel:=hr
 x:=by
  refine ⟨fun y v hy=>hs.x.c y v (h.x.c y v hy),fun j b hb=>hs.x.β j b (h.x.β j b hb),fun k q hq=>?_⟩;obtain ⟨q1,h1,h2⟩:=h.x.tk k q hq;obtain ⟨q2,h3,h4⟩:=hs.x.tk k q1 h1;refine ⟨q2,h3,?_⟩;rcases h2 with ⟨h2,h5⟩ | h2
  ·rcases h4 with ⟨h4,h6⟩ | h4
   ·exact .inl ⟨by omega,by rw [h6,h5]⟩
   ·exact .inr (by omega)
  ·rcases h4 with ⟨h4,h6⟩ | h4
   ·exact .inr (by omega)
   ·exact .inr (by omega)
 β:=by
  obtain ⟨r1,h1⟩:=h.β;obtain ⟨r2,h2⟩:=hs.β;exact ⟨r1 ++ r2,by rw [h2,h1,List.append_assoc]⟩
 t0:=fun i x hx=>by
  rcases ht0 i x hx with ⟨d,rfl,rfl,GS,hg⟩ | ⟨hg,bF⟩
  ·have:=hr.tm _ _ hg;refine ⟨fun hh=>?_,this.2⟩;obtain ⟨v,h1,h2⟩:=this.1 hh;exact ⟨v,h1,I8 GS h2⟩
  ·have h1:=h.t0 i x hg
   cases dst with
   | none=>
    refine ⟨fun hh=>?_,h1.2⟩;obtain ⟨v,h2,h3⟩:=h1.1 hh;exact ⟨v,h2,Rv.mono (I7 hs.x) h3⟩
   | some d=>
    simp only [gx,aQ,Nat.blt_eq] at hd;simp only [Act.put];rw [Array.getElem?_setIfInBounds_ne (Ne.symm (bF d rfl)),lV (mC hd.2 i x hg)];refine ⟨fun hh=>?_,h1.2⟩;obtain ⟨v,h2,h3⟩:=h1.1 hh;exact ⟨v,h2,Rv.mono (I7 hs.x) h3⟩
 cc:=uG
def XJ (X:Ctx) (D:Dw) (l:List Nat) (G:Bool->List (Nat × Sl)->St->Prop):Prop:=∀ c s0 st,G c s0 st->∀ E a w,fO X D c E s0 st a w->runT X.P D.d.ops D.d.W D.C (D.Q X) l a w
theorem G0 (hD:te D.E0 D.d.iF.bx D.wr) {l:List (Nat × Oper)} (hl:∀ p∈l,D.d.ops[p.1]? = some p.2) {G:Bool->List (Nat × Sl)->St->Prop} (hG:XJ X D (l.map (·.1)) G) {o:Oper} (hd:(gx X.nt st.sl o.dst && gx X.nt s0 o.dst)=true) (h:fO X D c E s0 st a w)
  (he:effE X D.d c i l o s0 st G):wq X.P o a w fun a' w'=>(D.d.W i=false->D.C w->D.C w')/\runT X.P D.d.ops D.d.W D.C (D.Q X) (l.map (·.1)) a' w':=by
 have Co:=hd;simp only [aQ] at Co;have hlen:D.E0.β.length=D.d.iF.bx.length:=hD.len
 have core:∀ (K:St->Prop) (p:Prop) (c1:Bool),effC X st o K=some p->p->(c1=true->c=true)->(c1=true∨D.d.W i=false->∀ j,stObj st o.op=some j->D.E0.β.length<=j∨D.d.iF.bx[j]? = some []) ->
   (∀ st',K st' -> ∃ jV,G c1 jV st' /\ ∀ i x,get jV i=some x->(∃ d,o.dst=some d/\i=d/\scal x.s=true/\get st'.sl d=some x)∨(get s0 i=some x/\∀ d,o.dst=some d->i≠d)) ->
   wq X.P o a w fun a' w'=>(D.d.W i=false->D.C w->D.C w')/\runT X.P D.d.ops D.d.W D.C (D.Q X) (l.map (·.1)) a' w':=by
  intro K p c1 hp hpp I9 bd hK;refine mH ?_ (QF (mI Co.1 h.rel hp hpp));rintro a' w' ⟨⟨st',E',hk,hr,hs⟩,u,rfl⟩;refine ⟨fun hW=>Ec h hs hr (bd (.inr hW)),?_⟩;obtain ⟨jV,hg,ht0⟩:=hK st' hk;exact hG c1 jV st' hg E' _ w' (w7 h hs hr (fun hc=>Ec h hs hr (bd (.inl hc)) (h.cc (I9 hc))) ht0 Co.2)
 have SI:(∀ t x y,o.op ≠ .store t x y)->∀ j,stObj st o.op=some j->D.E0.β.length<=j∨D.d.iF.bx[j]? = some []:=by
  intro bF j hj;unfold stObj at hj;split at hj
  ·rename_i t x y qR;exact (bF t x y qR).elim
  ·cases hj
 have XK:∀ (d:Nat) (st':St),o.dst=some d->∀ i x,get (s0.filter fun p=>!Nat.beq p.1 d) i=some x->(∃ d,o.dst=some d/\i=d/\scal x.s=true/\get st'.sl d=some x)∨(get s0 i=some x/\∀ d,o.dst=some d->i≠d):=by
  intro d st' jm i x hx;obtain ⟨h1,h2⟩:=get_filter d s0 i x hx;exact .inr ⟨h2,fun d' Co=>by rw [jm] at Co;cases Co;exact h1⟩
 unfold effE at he;split at he
 ·rename_i t x y qR;split at he
  ·exact he.elim
  ·rename_i jm;have wT:∀ st':St,∀ i x,get s0 i=some x->(∃ d,o.dst=some d/\i=d/\scal x.s=true/\get st'.sl d=some x)∨(get s0 i=some x/\∀ d,o.dst=some d->i≠d):=fun st' i x hx=>.inr ⟨hx,fun d hd=>by rw [jm] at hd;cases hd⟩;split at he
   ·rename_i hW
    cases hp:effC X st o (G false s0) with
    | none=>rw [hp] at he;exact he.elim
    | some p=>
     rw [hp] at he;exact core _ p false hp he (by intro h;cases h) (by rintro (h1 | h1);cases h1;rw [hW] at h1;cases h1) fun st' hk=>⟨s0,hk,wT st'⟩
   ·split at he
    ·rename_i j hj;split at he
     ·rename_i dK
      have dK:D.d.iF.bx.length<=j∨D.d.iF.bx[j]? = some []:=by
       rcases Bool.or_eq_true _ _ |>.mp dK with h1 | h1
       ·exact .inl (sU h1)
       ·exact .inr (QE h1)
      cases hp:effC X st o (G c s0) with
      | none=>rw [hp] at he;exact he.elim
      | some p=>
       rw [hp] at he;exact core _ p c hp he id (fun _ j' gB=>by rw [hj] at gB;cases gB;rw [hlen];exact dK) fun st' hk=>⟨s0,hk,wT st'⟩
     ·exact he.elim
    ·exact he.elim
 ·rename_i cl qR;split at he
  ·rename_i f vA;split at he
   ·rename_i g first captured vs hf vy
    obtain ⟨mJ,XL⟩:=he;have ez:=h.rel.rl;have e1:=bp ez hf;unfold Rv at e1;obtain ⟨l1,r1,e1,zJ,hr1⟩:=e1;have hargs:=jh ez (bK _) _ _ vy;obtain ⟨dst,op,ty,pos,after,gu⟩:=o;obtain ⟨callee,args,argTypes⟩:=cl;simp only at qR vA;subst qR vA
    have hr:(execOp a.eval ⟨dst,.call ⟨.value f,args,argTypes⟩,ty,pos,after,gu⟩).run X.P w = .ok (.enter g (l1 ++ args.toList.map a.eval ++ r1).toArray) w:=by
     have e3:(l1.toArray ++ args.map a.eval ++ r1.toArray)=(l1 ++ args.toList.map a.eval ++ r1).toArray:=by apply Array.ext';simp
     simp only [execOp,resolve,e1,Deferred.ofValue,Sem.run_bind,Sem.run_pure,Result.andThen_ok,invoke,e3];exact mJ _ _
    unfold wq;rw [hr];exact XL hl D.E0 D.wr hD E a w _ h ((zJ.append hargs).append hr1)
   ·exact he.elim
  ·split at he
   ·rename_i d jm
    cases hp:effC X st o (fun st'=>delF d s0 fun jV=>G c jV st') with
    | none=>rw [hp] at he;exact he.elim
    | some p=>
     rw [hp] at he;refine core _ p c hp he id (fun _=>SI (fun t x y h1=>by rw [qR] at h1;cases h1)) fun st' hk=>?_;rw [rn] at hk;exact ⟨_,hk,XK d st' jm⟩
   ·exact he.elim
 ·rename_i zx Sz;split at he
  ·rename_i d jm
   cases hp:effC X st o (fun st'=>
    match get st'.sl d with
    | some ⟨[],.loc j off⟩=>G c ((d,⟨[],.loc j off⟩) :: s0) st'
    | _=>delF d s0 fun jV=>G c jV st') with
   | none=>rw [hp] at he;exact he hl D.E0 D.wr hD E a w h
   | some p=>
    rw [hp] at he;refine core _ p c hp he id (fun _=>SI zx) fun st' hk=>?_;split at hk
    ·rename_i j off hg;refine ⟨_,hk,fun i x hx=>?_⟩;simp only [dY] at hx;split at hx
     ·rename_i Mq;simp only [oI] at hx;subst hx;exact .inl ⟨d,jm,Mq.symm,rfl,hg⟩
     ·rename_i Mq;exact .inr ⟨hx,fun d' Co=>by rw [jm] at Co;cases Co;exact Ne.symm Mq⟩
    ·rw [rn] at hk;exact ⟨_,hk,XK d st' jm⟩
  ·exact he.elim
theorem eM (hD:te D.E0 D.d.iF.bx D.wr):∀ n c l s0 st,goD X D.d n c l s0 st->(∀ p∈l,D.d.ops[p.1]? = some p.2)->∀ E a w,fO X D c E s0 st a w->runT X.P D.d.ops D.d.W D.C (D.Q X) (l.map (·.1)) a w
 | n,c,[],s0,st,hg,hl=>by
  intro E a w h;have hg:(match D.d.fin with | none=>go X 4000 D.d.k st | some F=>F c s0 st):=by cases n<;>simpa only [goD] using hg
  show D.Q X a w;unfold Dw.Q
  cases hf:D.d.fin with
  | none=>
   rw [hf] at hg;exact go_sound 4000 _ _ hg E a w h.rel
  | some F=>
   rw [hf] at hg;exact ⟨c,E,s0,st,h,hg⟩
 | 0,c,_ :: _,s0,st,hg,_=>by exact hg.elim
 | n + 1,c,(i,o) :: r,s0,st,hg,hl=>by
  intro E a w h;have ho:D.d.ops[i]? = some o:=hl (i,o) (by simp);have vy:∀ p∈r,D.d.ops[p.1]? = some p.2:=fun p hp=>hl p (dj _ hp);simp only [List.map_cons];have ih:∀ c s0 st,goD X D.d n c r s0 st->∀ E a w,fO X D c E s0 st a w->runT X.P D.d.ops D.d.W D.C (D.Q X) (r.map (·.1)) a w:=fun c s0 st hg=>eM hD n c r s0 st hg vy;have ihG:XJ X D (r.map (·.1)) (fun c s0 st=>goD X D.d n c r s0 st):=fun c s0 st hg=>ih c s0 st hg;simp only [goD,IX,vP] at hg;split at hg
  ·exact hg.elim
  ·rename_i hd
   have fR:∀ (v:Value) jV st',gz o.op=false->Yl X.P D.d.ops D.C o v a->(kb o.op=true->c=true)->goD X D.d n c r jV st' -> fO X D c E jV st' (a.put o.dst v) w ->
     runT X.P D.d.ops D.d.W D.C (D.Q X) (i :: r.map (·.1)) a w:=by
    intro v jV st' hE hy eK iz cj;simp only [runT,ho];rw [ah (by simp [hE])];exact ⟨v,hy,fun hL=>h.cc (eK hL),ih c jV st' iz E _ w cj⟩
   have fS:∀ jV st',gz o.op=true->Region.wanted o (yielded D.d.ops a.tmps)=false->goD X D.d n c r jV st' -> fO X D c E jV st' (a.put o.dst undef) w ->
     runT X.P D.d.ops D.d.W D.C (D.Q X) (i :: r.map (·.1)) a w:=by
    intro jV st' hE hw iz cj;simp only [runT,ho];rw [ai hE];unfold dT;rw [ah (by simp [hw])];exact ⟨fun _ h=>h,ih c jV st' iz E _ w cj⟩
   have fE:∀ jV st',gz o.op=true->Region.wanted o (yielded D.d.ops a.tmps)=true->(gx X.nt st'.sl o.dst && gx X.nt jV o.dst)=true->effE X D.d c i r o jV st' (fun c' jV st'=>goD X D.d n c' r jV st')->fO X D c E jV st' a w ->
     runT X.P D.d.ops D.d.W D.C (D.Q X) (i :: r.map (·.1)) a w:=by
    intro jV st' hE hw Co he cj;simp only [runT,ho];rw [ai hE];unfold dT;rw [ai hw];exact G0 hD vy ihG Co cj he
   have fP:∀ jV st',Region.wanted o (yielded D.d.ops a.tmps)=true->(gx X.nt st'.sl o.dst && gx X.nt jV o.dst)=true->optP (eR X D.d c jV st' o.op fun b s=>put2 jV st' o.dst b [] s (goD X D.d n c r))->fO X D c E jV st' a w ->
     runT X.P D.d.ops D.d.W D.C (D.Q X) (i :: r.map (·.1)) a w:=by
    intro jV st' hw Co he cj;obtain ⟨hE,eK,b,s,v,hk,hv,sC,cx⟩:=MH hD cj he;obtain ⟨s1,qS,jK,fC⟩:=kI cj Co b [] s v (fun _ _ p hp=>by cases hp) (fun _=>hv) (fun hb _=>sC hb) (fun hn=>(hn (bK _)).elim) hk;exact fR v s1 qS hE (.inl ⟨hw,cx⟩) eK jK fC
   have udE:∀ jV st',(gx X.nt st'.sl o.dst && gx X.nt jV o.dst)=true->fO X D c E jV st' a w->put2 jV st' o.dst true [] .ud (goD X D.d n c r)->∃ s1 qS,goD X D.d n c r s1 qS/\fO X D c E s1 qS (a.put o.dst undef) w:=by
    intro jV st' Co cj hk;exact kI cj Co true [] .ud undef (fun _ _ p hp=>by cases hp) (fun _=>uC E) (fun _ _=>uC _) (fun hn=>(hn (bK _)).elim) hk
   split at hg
   ·rename_i QB;have hw:Region.wanted o (yielded D.d.ops a.tmps)=true:=by simp [Region.wanted,QB]
    split at hg
    ·rename_i hE;exact fE s0 st hE hw hd hg h
    ·split at hg
     ·rename_i b s hs;obtain ⟨hE,eK,v,hv,sC,cx⟩:=Eb hD h (bK _) hs;obtain ⟨s1,qS,jK,fC⟩:=kI h hd b [] s v (fun _ _ p hp=>by cases hp) (fun _=>hv) (fun hb _=>sC hb) (fun hn=>(hn (bK _)).elim) hg;exact fR v s1 qS hE (.inl ⟨hw,cx⟩) eK jK fC
     ·exact fP s0 st hw hd hg h
   ·rename_i j want QB;split at hg
    ·exact hg.elim
    ·rename_i d sA;split at hg
     ·exact hg.elim
     ·rename_i iC sd L5;have re:=wanted_spec h.rel QB sA L5
      have G1:¬ Holds a.tmps ((d,want) :: iC)->Region.wanted o (yielded D.d.ops a.tmps)=false:=by
       intro hn;cases WX:Region.wanted o (yielded D.d.ops a.tmps)
       ·rfl
       ·exact (hn (re.1 WX)).elim
      split at hg
      ·rename_i b s hs;split at hg
       case h_2=>exact hg.elim
       rename_i bw;have XM:=wW bw;by_cases hh:Holds a.tmps ((d,want) :: iC)
       ·obtain ⟨hE,eK,v,hv,sC,cx⟩:=Eb hD h hh hs;obtain ⟨s1,qS,jK,fC⟩:=kI h hd b _ s v XM (fun _=>hv) (fun hb _=>sC hb) (fun hn=>(hn hh).elim) hg;exact fR v s1 qS hE (.inl ⟨re.2 hh,cx⟩) eK jK fC
       ·obtain ⟨s1,qS,jK,fC⟩:=kI h hd b _ s undef XM (fun hn=>(hh hn).elim) (fun _ hn=>(hh hn).elim) (fun _=>rfl) hg
        have eK:gz o.op=false/\(kb o.op=true->c=true):=by
         unfold pR at hs;split at hs
         ·cases hs
         ·rename_i hc;simp only [aQ,Bool.not_eq_true',Bool.or_eq_true] at hc;refine ⟨hc.1,fun hL=>?_⟩;rcases hc.2 with h1 | h1
          ·rw [hL] at h1;cases h1
          ·exact h1
        exact fR undef s1 qS eK.1 (.inr ⟨G1 hh,rfl⟩) eK.2 jK fC
      ·split at hg
       ·rename_i b iE;have ht0:=D3 h.rel iE
        cases iC with
        | nil=>
         simp only [lastG] at iE ht0;cases vx:(b == want)
         ·have GX:b = !want:=by cases b<;>cases want<;>simp_all
          have hg:=hg.f vx
          have hn:Region.wanted o (yielded D.d.ops a.tmps)=false:=by
           refine G1 fun hh=>?_;have:=hh (d,want) (by simp);simp only at this;rw [ht0] at this;simp only [oI,Value.bool.injEq] at this;rw [this] at vx;simp at vx
          have hr:=mN (d:=d) (b:=!want) h (by rw [ht0,GX]);split at hg
          ·rename_i eK
           have UW:kb o.op=true->c=true:=by
            intro hL;simpa [hL] using eK
           obtain ⟨s1,qS,jK,fC⟩:=udE _ _ (mO hd) hr hg;cases hE:gz o.op
           ·exact fR undef s1 qS hE (.inr ⟨hn,rfl⟩) UW jK fC
           ·exact fS s1 qS hE hn jK fC
          ·exact hg.elim
         ·have rf:b=want:=sU vx;have hg:=hg.t vx;subst rf;have hw:Region.wanted o (yielded D.d.ops a.tmps)=true:=re.2 (kB ht0 (bK _));have hr:=mN (d:=d) (b:=b) h ht0;split at hg
          ·rename_i hE;exact fE _ _ hE hw (mO hd) hg hr
          ·exact fP _ _ hw (mO hd) hg hr
        | cons g1 gr=>
         have key:∀ e,a.tmps[(lastG (d,want) (g1 :: gr)).1]? = some (.bool e)->goD X D.d n c ((i,o) :: r) (s0.map (bW (lastG (d,want) (g1 :: gr)).1 e)) (st.resolve (lastG (d,want) (g1 :: gr)).1 e)->_:=
          fun e Af iz=>eM hD n c ((i,o) :: r) _ _ iz hl E a w (mN h Af)
         cases vx:(b == (lastG (d,want) (g1 :: gr)).2)
         ·have hg:=hg.f vx;have GX:b = !(lastG (d,want) (g1 :: gr)).2:=by cases b<;>cases h0:(lastG (d,want) (g1 :: gr)).2<;>simp_all
          exact key _ (by rw [ht0,GX]) hg
         ·have hg:=hg.t vx;have rf:b=(lastG (d,want) (g1 :: gr)).2:=sU vx;exact key _ (by rw [ht0,rf]) hg
       ·rename_i iE
        cases iC with
        | nil=>
         have ht0:=MB h.rel iE;simp only [lastG] at ht0
         have hn:Region.wanted o (yielded D.d.ops a.tmps)=false:=by
          refine G1 fun hh=>?_;have:=hh (d,want) (by simp);simp only at this;rw [ht0] at this;simp [undef] at this
         simp only at hg;split at hg
         ·rename_i eK
          have UW:kb o.op=true->c=true:=by
           intro hL;simpa [hL] using eK
          obtain ⟨s1,qS,jK,fC⟩:=udE _ _ hd h hg;cases hE:gz o.op
          ·exact fR undef s1 qS hE (.inr ⟨hn,rfl⟩) UW jK fC
          ·exact fS s1 qS hE hn jK fC
         ·exact hg.elim
        | cons g1 gr=>exact hg.elim
       ·exact hg.elim
def OpS (X:Ctx) (o:Oper) (st st':St):Prop:=∀ E a w,Rel X E st a w->wq X.P o a w fun a' w'=>∃ E',Rel X E' st' a' w' /\ dm none E w E' w'
theorem OpS.g {o:Oper} {k:List It} {st st':St} (h:OpS X o st st') (hk:go X 4000 k st'):LZ X o k st:=fun E a w hr=>by
 refine DZ (mH ?_ (h E a w hr));rintro a' w' ⟨E',iA,_⟩;exact go_sound 4000 _ _ hk E' a' w' iA
def nOps:Nat->List Oper->List (Nat × Oper)
 | _,[]=>[]
 | i,o :: r=>(i,o) :: nOps (i + 1) r
theorem xa:∀ (l:List Oper) (i:Nat) (p:Nat × Oper),p∈nOps i l->i<=p.1/\l[p.1 - i]? = some p.2
 | [],_,_,h=>by cases h
 | o :: r,i,p,h=>by
  rcases bL h with h | h
  ·subst h;simp
  ·have:=xa r (i + 1) p h;refine ⟨by omega,?_⟩;rw [show p.1 - i=(p.1 - (i + 1)) + 1 by omega];simpa using this.2
theorem xc:∀ (l:List Oper) (i:Nat),(nOps i l).map (·.1)=List.range' i l.length
 | [],_=>rfl
 | o :: r,i=>by simp only [nOps,List.map_cons,xc r (i + 1),List.length_cons,List.range'_succ]
theorem kJ (hr:Rel X E st a w) {ops:Array Oper} {W:Nat->Bool} {k:List It}:fO X ⟨⟨ops,W,k,st,none⟩,E,w⟩ true E st.sl st a w where
 rel:=hr
 x:=Ext.refl E
 β:=⟨[],by simp⟩
 t0:=hr.tm
 cc:=fun _=>⟨fun _ _ _ _ _ _=>rfl,hr.env.sub⟩
theorem vU {id:Nat} {ops:Array Oper} {k:List It} {st:St} (W:Nat->Bool) (hm:X.P.follows .mixedOrders=true) (hc:D8 ops W=true)
  (h:goD X ⟨ops,W,k,st,none⟩ 3000 true (nOps 0 ops.toList) st.sl st):lS X id ops k st:=by
 intro E a w hr;have iA:=jJ hr;have hs:=kJ iA (ops:=ops) (W:=W) (k:=k);refine lG (C:=CC E st.bx w.drew) (W:=W) (Q:=kq X k .normal) hm hc (fun a w h=>h) (hs.cc rfl) ?_;have:=eM (D:=⟨⟨ops,W,k,st,none⟩,E,w.drew⟩) iA.env.em 3000 true _ _ _ h (fun p hp=>by simpa using (xa _ _ p hp).2) E a w.drew hs;rw [xc] at this;rw [List.range_eq_range'];simp only [Array.length_toList] at this;exact this
def maskL:List Nat->Nat->List (List DV)->List (List DV)
 | _,_,[]=>[]
 | m,i,cs :: r=>(match m.contains i with | true=>[] | false=>cs) :: maskL m (i + 1) r
theorem tf (m:List Nat):∀ (l:List (List DV)) (i:Nat),(maskL m i l).length=l.length
 | [],_=>rfl
 | cs :: r,i=>by simp [maskL,tf m r]
theorem tg (m:List Nat):∀ (l:List (List DV)) (i j:Nat) cs,(maskL m i l)[j]? = some cs->cs=[]∨l[j]? = some cs
 | [],_,_,_,h=>by simp [maskL] at h
 | c :: r,i,0,cs,h=>by
  simp only [maskL,List.getElem?_cons_zero,oI] at h;split at h
  ·exact .inl h.symm
  ·exact .inr (by simp [h])
 | c :: r,i,j + 1,cs,h=>by
  simp only [maskL,List.getElem?_cons_succ] at h ⊢;exact tg m r (i + 1) j cs h
theorem rq {id:Nat} {ops:Array Oper} {k:List It} {st:St} (m:List Nat) (W:Nat->Bool) (hm:X.P.follows .mixedOrders=true) (hc:D8 ops W=true)
  (h:goD X ⟨ops,W,k,⟨st.sl,maskL m 0 st.bx,st.tk⟩,none⟩ 3000 true (nOps 0 ops.toList) st.sl st):lS X id ops k st:=by
 intro E a w hr;have iA:=jJ hr;have hs:fO X ⟨⟨ops,W,k,⟨st.sl,maskL m 0 st.bx,st.tk⟩,none⟩,E,w.drew⟩ true E st.sl st a w.drew:=⟨iA,Ext.refl E,⟨[],by simp⟩,iA.tm,fun _=>⟨fun _ _ _ _ _ _=>rfl,iA.env.sub⟩⟩;refine lG (C:=CC E (maskL m 0 st.bx) w.drew) (W:=W) (Q:=kq X k .normal) hm hc (fun a w h=>h) (hs.cc rfl) ?_
 have Qc:te E (maskL m 0 st.bx) w.drew:=⟨by rw [tf];exact iA.env.len,fun i cs hi bF=>by
  rcases tg m _ _ _ _ hi with h1 | h1
  ·exact (bF h1).elim
  ·exact iA.env.fm i cs h1⟩
 have:=eM (D:=⟨⟨ops,W,k,⟨st.sl,maskL m 0 st.bx,st.tk⟩,none⟩,E,w.drew⟩) Qc 3000 true _ _ _ h (fun p hp=>by simpa using (xa _ _ p hp).2) E a w.drew hs;rw [xc] at this;rw [List.range_eq_range'];simp only [Array.length_toList] at this;exact this
def MI (ops:Array Oper) (i:Nat):Bool:=
 match ops.toList[i]? with
 | some o=>
  match o.op with
  | .store ..=>true
  | _=>false
 | none=>false
theorem QG {id:Nat} {ops:Array Oper} {k:List It} {st:St} (hm:X.P.follows .mixedOrders=true) (hc:D8 ops (MI ops)=true)
  (h:goD X ⟨ops,MI ops,k,st,none⟩ 3000 true (nOps 0 ops.toList) st.sl st):lS X id ops k st:=vU (MI ops) hm hc h
theorem rr {D:Dr} {f:FuncId} {args bN:List DV} {d:Nat} {r:List (Nat × Oper)} (mJ:Enters X.P f) (hd:(gx X.nt st.sl (some d) && gx X.nt s0 (some d))=true) {Φ:DV->List (List DV)->List TkE->Prop} (hc:Ev X.P f bN [] [] Φ) (ha:CcL [] 0 0 0 bN args)
  (hk:∀ Cp,Φ Cp [] []->put2 s0 st (some d) false [] Cp (goD X D 3000 c r)) (bd:X.still=false:=by exact rfl):As X D c i r f args (some d) s0 st:=by
 refine ⟨mJ,fun hl E0 wr hD E a w vs h hv=>(n4 h.rel bd hc ha hv).mono ?_⟩;rintro e w' ⟨v,E',Cp,rfl,cj,hr,hΦ,hm,hx,hβ⟩
 have hh:∀ b,b < w.heap.size->w'.heap[b]? = w.heap[b]?:=fun b hb=>hm.block b hb (by
  rintro (h1 | ⟨y,h1,_⟩)
  ·simp [En.cl] at h1
  ·simp [En.cl] at h1)
 have hs:dm none E w E' w':=⟨hx,⟨[],by rw [hβ];simp⟩,fun j b hb _=>hh b (h.rel.env.bu (mG hb))⟩;have hC:=Ec h hs cj (fun j hj=>by cases hj);refine ⟨v,rfl,fun _=>hC,?_⟩;have MJ:fO X ⟨D,E0,wr⟩ c E' s0 st (a.put none v) w':=w7 h hs cj (fun h1=>hC (h.cc h1)) (fun i x hx=>.inr ⟨hx,fun d hd=>by cases hd⟩) rfl;obtain ⟨s1,qS,jK,fC⟩:=kI MJ hd false [] Cp v (fun _ _ p hp=>by cases hp) (fun _=>hr) (fun hb=>by cases hb) (fun hn=>(hn (bK _)).elim) (hk Cp hΦ);exact eM (D:=⟨D,E0,wr⟩) hD 3000 c r _ _ jK hl E' _ w' fC
theorem aJ {D:Dr} {f:FuncId} {args bN:List DV} {d:Nat} {r:List (Nat × Oper)} {Cp:DV} (mJ:Enters X.P f) (hc:aV X.P f bN Cp) (ha:CcL [] 0 0 0 bN args) (hd:(gx X.nt st.sl (some d) && gx X.nt s0 (some d))=true)
  (hk:put2 s0 st (some d) false [] Cp (goD X D 3000 c r)) (bd:X.still=false:=by exact rfl):As X D c i r f args (some d) s0 st:=
 rr mJ hd hc ha (fun _ hr=>hr ▸ hk) bd
end
end Dv
end Go.Proofs.YtadhpeooehkklaaGreat
namespace Go.Proofs.YtadhpeooehkklaaGreat
namespace Dv
open Go Go.RowKit
section
variable {P:Program} {ops:Array Oper} {C:World->Prop} {Q:Act->World->Prop} {W:Nat->Bool} {π π':Nat->Nat}
theorem ti {o:Oper} {i:Nat} {a:Act} {w:World} {K:Act->World->Prop} {Q':Exit->Act->World->Prop} (ho:ops[i]? = some o) (h:dT P ops o a w K):wpOp P ops Q' i K a w:=by
 unfold wpOp;rw [ho];simp only;unfold dT at h;split
 ·rename_i hw;rw [ai hw] at h;exact .inl (DZ h)
 ·rename_i hw;rw [ah hw] at h;exact h
def chkT (ops:Array Oper) (x y:Nat):Bool:=
 (List.range ops.size).all fun i=>Nat.beq i x || Nat.beq i y ||
  match ops[i]? with
  | some o=>!gz o.op || ordB ops ops.size x i
  | none=>false
def vB (x y:Nat):Nat->Nat->Bool:=fun j i=>Nat.beq j x && Nat.beq i y
theorem G2 {x y:Nat} {Q':Exit->Act->World->Prop} (G3:x≠y) (WY:rj ops W π=true) (XN:vz ops W π (vB x y)=true) (h2O:rj ops W π'=true) (XO:vz ops W π' (vB y x)=true) (hT:chkT ops x y=true)
  (hQ:∀ a w,Q a w->Q' .normal a w):∀ (iS:Nat) (listed:Array Bool) (r1 r2:List Nat) (a:Act) (w:World),
  listed.size=ops.size->Dn ops listed->(∀ i,i∈r1↔i < ops.size/\listed.getD i true=false)->(∀ i,i∈r2↔i < ops.size/\listed.getD i true=false)->r1.Pairwise (fun a b=>π a < π b)->r2.Pairwise (fun a b=>π' a < π' b)->r1.length<=iS ->
   x∈r1->y∈r1->C w->runT P ops W C Q r1 a w->runT P ops W C Q r2 a w->wpAny P .any ops Q' iS listed a w:=by
 have dB:=rm WY;have sE:=rk WY;have UX:=rk h2O;have h1S':=XN;have h2S':=XO;simp only [vz,List.all_eq_true,List.mem_range,Bool.or_eq_true,Bool.not_eq_true'] at XN XO;intro iS
 induction iS with
 | zero=>
  intro listed r1 r2 a w bT Qa kp L2 tj Ee hlen hx hy hC hr1 nU;have:r1=[]:=List.length_eq_zero_iff.1 (by omega);rw [this] at hx;cases hx
 | succ iS ih=>
  intro listed r1 r2 a w bT Qa kp L2 tj Ee hlen hx hy hC hr1 nU;have h12:∀ i,i∈r1↔i∈r2:=fun i=>(kp i).trans (L2 i).symm;have G4:r1.Nodup:=nR tj;have xd:r2.Nodup:=nR Ee;have D9:=td WY;refine ⟨fun h0=>?_,fun i hi=>?_⟩
  ·cases r1 with
   | nil=>cases hx
   | cons h rem=>
    have hh:=(kp h).1 (by simp);have hxx:ops[h]? = some ops[h]:=Array.getElem?_eq_getElem hh.1
    have:h∈Region.ready .any ops listed:=by
     refine mem_ready.2 ⟨hh.2,_,hxx,fun e he hb=>?_⟩;obtain ⟨au,lh⟩:=D9 h _ hxx e he hb;cases hg:listed.getD e.on false
     ·have Qb:listed.getD e.on true=false:=by
       have:e.on < listed.size:=by rw [bT];omega
       simp [this] at hg ⊢;exact hg
      have hm:=(kp e.on).2 ⟨by omega,Qb⟩;rcases bL hm with e1 | e1
      ·rw [e1] at au;omega
      ·have:=(List.pairwise_cons.1 tj).1 _ e1;omega
     ·rfl
    rw [h0] at this;cases this
  ·obtain ⟨DK,o,ho,fI⟩:=mem_ready.1 hi;have eo:=(Array.getElem?_eq_some_iff.1 ho).1;have mw:i∈r1:=(kp i).2 ⟨eo,DK⟩;have QH:i∈r2:=(h12 i).1 mw
   have fo:∀ j,j∈r1->ordB ops ops.size j i=true->False:=by
    intro j hj h1;have h2:=lm Qa _ _ _ _ ho fI h1;have h3:=((kp j).1 hj).2;have:j < listed.size:=by rw [bT];exact ((kp j).1 hj).1
    simp [this] at h2 h3;rw [h2] at h3;cases h3
   have QI:i≠y->∀ j∈r1,j≠i->π j < π i->fN ops W j i=true:=by
    intro UY j hj _ au;rcases XN i eo j ((kp j).1 hj).1 with ((h1 | h1) | h1) | h1
    ·have:¬ Nat.blt (π j) (π i)=true:=by simp [h1]
     simp at this;omega
    ·simp [vB] at h1;exact (UY h1.2).elim
    ·exact (fo j hj h1).elim
    ·exact h1
   have UZ:i≠x->∀ j∈r2,j≠i->π' j < π' i->fN ops W j i=true:=by
    intro Au j hj _ au;rcases XO i eo j ((L2 j).1 hj).1 with ((h1 | h1) | h1) | h1
    ·have:¬ Nat.blt (π' j) (π' i)=true:=by simp [h1]
     simp at this;omega
    ·simp [vB] at h1;exact (Au h1.2).elim
    ·exact (fo j ((h12 j).2 hj) h1).elim
    ·exact h1
   have Ky:Dn ops (listed.setIfInBounds i true):=by
    intro k z hz hk e he hb;by_cases kD:k=i
    ·subst kD;rw [ho] at hz;simp only [oI] at hz;subst hz;exact getD_set_true (fI e he hb)
    ·rw [getD_set_ne true (Ne.symm kD)] at hk;exact getD_set_true (Qa k z hz hk e he hb)
   have Av:∀ (rem:List Nat),rem.Nodup->(∀ i,i∈rem↔i < ops.size/\listed.getD i true=false)->∀ k,k∈rem.erase i↔k < ops.size/\(listed.setIfInBounds i true).getD k true=false:=by
    intro rem hnd iB k;rw [List.Nodup.mem_erase_iff hnd];by_cases kD:k=i
    ·subst kD;simp [bT,eo]
    ·rw [getD_set_ne true (Ne.symm kD)];simp only [ne_eq,kD,not_false_eq_true,true_and];exact iB k
   refine ti ho ?_;by_cases Au:i=x
   ·subst Au;have bd:=gK dB sE ho r1 a w (fun _=>hC) hr1 mw (QI G3) tj;refine cK ?_ bd;rintro a' w' ⟨oX,iA⟩;refine mM (C:=C) (vB i y) WY h1S' hQ iS _ (r1.erase i) a' w' (by simp [bT]) Ky (Av r1 G4 kp) (tj.sublist List.erase_sublist) (by rw [List.length_erase_of_mem mw];omega) ?_ ?_ iA
    ·intro j hj k _;cases gB:vB i y j k
     ·rfl
     ·simp only [vB,aQ,Nat.beq_eq] at gB;exact (((List.Nodup.mem_erase_iff G4).1 hj).1 gB.1).elim
    ·rintro ⟨l,z,hl,hz,hL⟩;refine oX ?_ hC;have vy:=List.mem_of_mem_erase hl;have bF:l≠i:=((List.Nodup.mem_erase_iff G4).1 hl).1;rcases wZ tj mw vy bF.symm with h1 | h1
     ·exact sE i l z o h1 hz ho hL
     ·have:=QI G3 l vy bF h1;obtain ⟨_,_,_,h4⟩:=eF this hz ho;cases hw:W i
      ·rfl
      ·exact (h4 ⟨hL,hw⟩).elim
   ·by_cases UY:i=y
    ·subst UY;have bd:=gK dB UX ho r2 a w (fun _=>hC) nU QH (UZ (Ne.symm G3)) Ee;refine cK ?_ bd;rintro a' w' ⟨oX,iA⟩;refine mM (C:=C) (vB i x) h2O h2S' hQ iS _ (r2.erase i) a' w' (by simp [bT]) Ky (Av r2 xd L2) (Ee.sublist List.erase_sublist) ?_ ?_ ?_ iA
     ·have e1:r1.length=r2.length:=(List.perm_iff_count.2 (fun z=>by rw [G4.count,xd.count];simp [h12 z])).length_eq;rw [List.length_erase_of_mem QH];omega
     ·intro j hj k _;cases gB:vB i x j k
      ·rfl
      ·simp only [vB,aQ,Nat.beq_eq] at gB;exact (((List.Nodup.mem_erase_iff xd).1 hj).1 gB.1).elim
     ·rintro ⟨l,z,hl,hz,hL⟩;refine oX ?_ hC;have vy:=List.mem_of_mem_erase hl;have bF:l≠i:=((List.Nodup.mem_erase_iff xd).1 hl).1;rcases wZ Ee QH vy bF.symm with h1 | h1
      ·exact UX i l z o h1 hz ho hL
      ·have:=UZ (Ne.symm G3) l vy bF h1;obtain ⟨_,_,_,h4⟩:=eF this hz ho;cases hw:W i
       ·rfl
       ·exact (h4 ⟨hL,hw⟩).elim
    ·have hRo:gz o.op=false:=by
      simp only [chkT,List.all_eq_true,List.mem_range,Bool.or_eq_true,Nat.beq_eq] at hT;rcases hT i eo with (h1 | h1) | h1
      ·exact (Au h1).elim
      ·exact (UY h1).elim
      ·rw [ho] at h1;simp only [Bool.or_eq_true,Bool.not_eq_true'] at h1;rcases h1 with h1 | h1
       ·exact h1
       ·exact (fo x hx h1).elim
     obtain ⟨v,Ja⟩:=kH dB ho hRo r1 a w hr1 mw (QI UY) tj;have hs1:=gK dB sE ho r1 a w (fun _=>hC) hr1 mw (QI UY) tj;have hs2:=gK dB UX ho r2 a w (fun _=>hC) nU QH (UZ Au) Ee;have jK:=im Ja (fun _=>hC) hs1;have MK:=im Ja (fun _=>hC) hs2;refine il Ja (fun _=>hC) ?_
     exact ih _ (r1.erase i) (r2.erase i) _ w (by simp [bT]) Ky (Av r1 G4 kp) (Av r2 xd L2) (tj.sublist List.erase_sublist) (Ee.sublist List.erase_sublist) (by rw [List.length_erase_of_mem mw];omega)
      ((List.Nodup.mem_erase_iff G4).2 ⟨Ne.symm Au,hx⟩) ((List.Nodup.mem_erase_iff G4).2 ⟨Ne.symm UY,hy⟩) hC jK.2 MK.2
end
def selL (ops:List Oper):List Nat->List (Nat × Oper)
 | []=>[]
 | i :: r=>
  match ops[i]? with
  | some o=>(i,o) :: selL ops r
  | none=>selL ops r
theorem xe {ops:List Oper} {l:List Nat} {p:Nat × Oper} (h:p∈selL ops l):ops[p.1]? = some p.2:=by
 induction l with
 | nil=>cases h
 | cons i r ih=>
  unfold selL at h;split at h
  ·rename_i o ho;rcases bL h with h | h
   ·rw [h];exact ho
   ·exact ih h
  ·exact ih h
def plc:List Nat->Nat->Nat
 | [],_=>0
 | x :: r,i=>if Nat.beq x i then 0 else plc r i + 1
def G5 (ops:Array Oper) (l:List Nat):Bool:=
 (selL ops.toList l).map (·.1) == l && (List.range ops.size).all (fun i=>l.contains i) && l.all (fun i=>Nat.blt i ops.size) && Nat.ble l.length ops.size && pwB (plc l) l
where pwB (f:Nat->Nat):List Nat->Bool
 | []=>true
 | x :: r=>r.all (fun y=>Nat.blt (f x) (f y)) && pwB f r
theorem ru {f:Nat->Nat}:∀ {l:List Nat},G5.pwB f l=true->l.Pairwise (fun a b=>f a < f b)
 | [],_=>List.Pairwise.nil
 | x :: r,h=>by
  simp only [G5.pwB,aQ,List.all_eq_true,Nat.blt_eq] at h;exact List.pairwise_cons.2 ⟨h.1,ru h.2⟩
def XP (ops:Array Oper) (W:Nat->Bool) (l l':List Nat) (x y:Nat):Bool:=
 !Nat.beq x y && Nat.blt x ops.size && Nat.blt y ops.size && G5 ops l && G5 ops l' && rj ops W (plc l) && vz ops W (plc l) (vB x y) && rj ops W (plc l') && vz ops W (plc l') (vB y x) && chkT ops x y
def swp (i j k:Nat):Nat:=
 match Nat.beq k i with
 | true=>j
 | false=>
  match Nat.beq k j with
  | true=>i
  | false=>k
theorem ln (i j k:Nat):swp i j (swp i j k)=k:=by
 have hb:∀ a b:Nat,Nat.beq a b=decide (a=b):=fun a b=>by
  by_cases h:a=b
  ·subst h;simp
  ·rw [decide_eq_false h];cases h1:Nat.beq a b
   ·rfl
   ·exact (h (sU h1)).elim
 unfold swp;simp only [hb];by_cases h1:k=i
 ·subst h1;simp only [decide_true];by_cases h2:j=k
  ·subst h2;simp
  ·simp [h2]
 ·by_cases h2:k=j
  ·subst h2;simp [h1]
  ·simp [h1,h2]
mutual
def renD (f:Nat->Nat):DV->DV
 | .v x=>.v x
 | .ud=>.ud
 | .agg l=>.agg (renL f l)
 | .tup l=>.tup (renL f l)
 | .sl e es tk=>.sl e es tk
 | .pt cs o=>.pt cs o
 | .loc i o=>.loc (f i) o
 | .el i o=>.el (f i) o
 | .ms i e o l c=>.ms (f i) e o l c
 | .fn g l r=>.fn g (renL f l) (renL f r)
 | .sM t x=>.sM t (renD f x)
def renL (f:Nat->Nat):List DV->List DV
 | []=>[]
 | d :: r=>renD f d :: renL f r
end
def renS (f:Nat->Nat):List (Nat × Sl)->List (Nat × Sl)
 | []=>[]
 | (k,⟨gs,s⟩) :: r=>(k,⟨gs,renD f s⟩) :: renS f r
def renO (f:Nat->Nat):List (List DV)->List (List DV)
 | []=>[]
 | cs :: r=>renL f cs :: renO f r
def swL {α:Type} (i j:Nat) (l:List α):List α:=
 match l[i]?,l[j]? with
 | some a,some b=>(l.set i b).set j a
 | _,_=>l
def ek (i j:Nat) (S:St):St:=⟨renS (swp i j) S.sl,swL i j (renO (swp i j) S.bx),S.tk⟩
theorem ry (f:Nat->Nat):∀ (l:List (List DV)) (k:Nat),(renO f l)[k]? = (l[k]?).map (renL f)
 | [],k=>by simp [renO]
 | c :: r,0=>by simp [renO]
 | c :: r,k + 1=>by simp only [renO,List.getElem?_cons_succ];exact ry f r k
theorem de (f:Nat->Nat):∀ (l:List (List DV)),(renO f l).length=l.length
 | []=>rfl
 | c :: r=>by simp [renO,de f r]
theorem Ef (f:Nat->Nat):∀ (l:List (Nat × Sl)) (k:Nat),get (renS f l) k=(get l k).map fun x=>⟨x.gs,renD f x.s⟩
 | [],k=>rfl
 | (i,⟨gs,s⟩) :: r,k=>by
  simp only [renS,dY];split
  ·rfl
  ·exact Ef f r k
theorem dp {α:Type} (i j:Nat) (l:List α):(swL i j l).length=l.length:=by
 unfold swL;split<;>simp
theorem fg {α:Type} {i j:Nat} {l:List α} (hi:i < l.length) (hj:j < l.length) (k:Nat):(swL i j l)[k]? = l[swp i j k]?:=by
 have hb:∀ a b:Nat,Nat.beq a b=true↔a=b:=fun a b=>by simp
 unfold swL;rw [gE hi,gE hj];simp only;unfold swp;by_cases hkj:k=j
 ·subst hkj;rw [cO (sU hj)];cases h1:Nat.beq k i
  ·simp only [Nat.beq_refl];exact (gE hi).symm
  ·have:=(hb k i).1 h1;subst this;exact (gE hi).symm
 ·rw [List.getElem?_set_ne (Ne.symm hkj)];by_cases kD:k=i
  ·subst kD;rw [cO hi];simp only [Nat.beq_refl];exact (gE hj).symm
  ·rw [List.getElem?_set_ne (Ne.symm kD)]
   have h1:Nat.beq k i=false:=by
    cases h:Nat.beq k i
    ·rfl
    ·exact (kD ((hb k i).1 h)).elim
   have h2:Nat.beq k j=false:=by
    cases h:Nat.beq k j
    ·rfl
    ·exact (hkj ((hb k j).1 h)).elim
   simp only [h1,h2]
theorem QJ {α:Type} {i j:Nat} {l:List α} (hi:i < l.length) (hj:j < l.length):swL i j (swL i j l)=l:=by
 apply List.ext_getElem?;intro k;rw [fg (by rw [dp];exact hi) (by rw [dp];exact hj),fg hi hj,ln]
section
variable {E:En} {i j:Nat}
mutual
theorem Rv.G6 (hi:i < E.β.length) (hj:j < E.β.length):∀ {d:DV} {v:Value},Rv E (renD (swp i j) d) v->Rv ⟨E.c,swL i j E.β,E.tk,E.τ⟩ d v
 | .v x,v,h=>by simp only [renD] at h;unfold Rv at h ⊢;exact h
 | .ud,v,h=>by simp only [renD] at h;unfold Rv at h ⊢;exact h
 | .sl e es tk,v,h=>by simp only [renD] at h;unfold Rv at h ⊢;exact h
 | .pt cs o,v,h=>by simp only [renD] at h;unfold Rv at h ⊢;exact h
 | .loc k o,v,h=>by
  simp only [renD] at h;unfold Rv at h ⊢;obtain ⟨b,h1,h2⟩:=h;exact ⟨b,by show (swL i j E.β)[k]? = _;rw [fg hi hj];exact h1,h2⟩
 | .el k o,v,h=>by
  simp only [renD] at h;unfold Rv at h ⊢;obtain ⟨b,h1,h2⟩:=h;exact ⟨b,by show (swL i j E.β)[k]? = _;rw [fg hi hj];exact h1,h2⟩
 | .ms k e o l c,v,h=>by
  simp only [renD] at h;unfold Rv at h ⊢;obtain ⟨b,ad,h1,h2⟩:=h;exact ⟨b,ad,by show (swL i j E.β)[k]? = _;rw [fg hi hj];exact h1,h2⟩
 | .agg l,v,h=>by
  simp only [renD] at h;unfold Rv at h ⊢;obtain ⟨vs,h1,h2,h3⟩:=h;exact ⟨vs,h1,RvL.G6 hi hj h2,h3⟩
 | .tup l,v,h=>by
  simp only [renD] at h;unfold Rv at h ⊢;obtain ⟨vs,h1,h2⟩:=h;exact ⟨vs,h1,RvL.G6 hi hj h2⟩
 | .fn g l r,v,h=>by
  simp only [renD] at h;unfold Rv at h ⊢;obtain ⟨l',r',h1,h2,h3⟩:=h;exact ⟨l',r',h1,RvL.G6 hi hj h2,RvL.G6 hi hj h3⟩
 | .sM t x,v,h=>by
  simp only [renD] at h;unfold Rv at h ⊢;obtain ⟨z,h1,h2⟩:=h;exact ⟨z,h1,Rv.G6 hi hj h2⟩
theorem RvL.G6 (hi:i < E.β.length) (hj:j < E.β.length):∀ {l:List DV} {vs:List Value},RvL E (renL (swp i j) l) vs->RvL ⟨E.c,swL i j E.β,E.tk,E.τ⟩ l vs
 | [],vs,h=>by simp only [renL,RvL] at h ⊢;exact h
 | d :: r,vs,h=>by
  simp only [renL,RvL] at h ⊢;obtain ⟨v,s,h1,h2,h3⟩:=h;exact ⟨v,s,h1,Rv.G6 hi hj h2,RvL.G6 hi hj h3⟩
end
end
theorem Jb {α:Type} {i j:Nat} {l:List α} (hi:i < l.length) (hj:j < l.length) {x:α}:x∈swL i j l↔x∈l:=by
 have h1:∀ (l:List α),i < l.length->j < l.length->x∈swL i j l->x∈l:=by
  intro l hi hj h;obtain ⟨k,hk⟩:=List.mem_iff_getElem?.1 h;rw [fg hi hj] at hk;exact mG hk
 refine ⟨h1 l hi hj,fun h=>?_⟩;have:=h1 (swL i j l) (by rw [dp];exact hi) (by rw [dp];exact hj);rw [QJ hi hj] at this;exact this h
theorem Kz {i j:Nat} {l:List Nat} (hi:i < l.length) (hj:j < l.length) (h:l.Nodup):(swL i j l).Nodup:=by
 have au:∀ k,k < l.length->swp i j k < l.length:=by
  intro k hk;unfold swp;split
  ·exact hj
  ·split
   ·exact hi
   ·exact hk
 unfold List.Nodup;rw [List.pairwise_iff_getElem];intro a b ha hb zN he;rw [dp] at ha hb
 have hg:∀ k (hk:k < l.length),(swL i j l)[k]'(by rw [dp];exact hk)=l[swp i j k]'(au k hk):=by
  intro k hk;have:=fg hi hj k;rw [gE (by rw [dp];exact hk),gE (au k hk)] at this;exact Option.some.inj this
 rw [hg a ha,hg b hb] at he
 have h1:l[swp i j a]? = l[swp i j b]?:=by
  rw [gE (au a ha),gE (au b hb),he]
 have:=(List.getElem?_inj (au a ha) h).1 h1;have:=congrArg (swp i j) this;rw [ln,ln] at this;omega
theorem lY {P:Program} {ops:Array Oper} {W:Nat->Bool} {C:World->Prop} {Q Q':Act->World->Prop} (hQ:∀ a w,Q a w->Q' a w):∀ {l:List Nat} {a:Act} {w:World},runT P ops W C Q l a w->runT P ops W C Q' l a w
 | [],a,w,h=>hQ _ _ h
 | i :: r,a,w,h=>by
  simp only [runT] at h ⊢;split at h
  ·exact h.elim
  ·split at h
   ·rename_i hE;rw [ai hE];exact cK (fun a w hk=>⟨hk.1,lY hQ hk.2⟩) h
   ·rename_i hE;rw [ah hE];obtain ⟨v,h1,h2,h3⟩:=h;exact ⟨v,h1,h2,lY hQ h3⟩
section
variable {X:Ctx} {E:En} {S:St} {a:Act} {w:World} {i j:Nat}
theorem Eg (hX:X.bt=[]) (h:Rel X E (ek i j S) a w) (L0:X.n0<=i) (sY:X.n0<=j) (hi:i < S.bx.length) (hj:j < S.bx.length):Rel X ⟨E.c,swL i j E.β,E.tk,E.τ⟩ S a w:=by
 have hlen:E.β.length=S.bx.length:=by
  rw [h.env.len];simp only [ek,dp,de]
 have eo:i < E.β.length:=by rw [hlen];exact hi
 have gB:j < E.β.length:=by rw [hlen];exact hj
 have vw:∀ k,(ek i j S).bx[k]? = (S.bx[swp i j k]?).map (renL (swp i j)):=fun k=>by
  simp only [ek];rw [fg (by rw [de];exact hi) (by rw [de];exact hj),ry]
 exact {
  env:={
   len:=by rw [dp];exact hlen
   tl:=h.env.tl
   fm:=fun k cs hk=>by
    obtain ⟨b,ty,arr,hb,hw,hc⟩:=h.env.fm (swp i j k) (renL (swp i j) cs) (by rw [vw,ln,hk];rfl);exact ⟨b,ty,arr,by rw [fg eo gB];exact hb,hw,RvL.G6 eo gB hc.1,hc.2⟩
   inj:=Kz eo gB h.env.inj
   sub:=h.env.sub
   pc:=fun x v hx hm=>h.env.pc x v hx ((Jb eo gB).1 hm)
   cG:=fun k q y hq hy=>by
    rcases h.env.cG k q y hq hy with h1 | ⟨g,cap,cur,rfl,h1,h2,h3,h4,h5,h6⟩
    ·exact .inl h1
    ·exact .inr ⟨g,cap,cur,rfl,h1,h2,h3,h4,fun hm=>h5 ((Jb eo gB).1 hm),h6⟩
   jI:=h.env.jI }
  tk:=h.tk
  sz:=h.sz
  tm:=fun k x hx=>by
   have:=h.tm k ⟨x.gs,renD (swp i j) x.s⟩ (by simp only [ek];rw [Ef,hx];rfl);refine ⟨fun hh=>?_,this.2⟩;obtain ⟨v,h1,h2⟩:=this.1 hh;exact ⟨v,h1,Rv.G6 eo gB h2⟩
  df:=h.df
  nw:={
   c:=h.nw.c
   cn:=h.nw.cn
   β:=by
    obtain ⟨r,hr,hl⟩:=h.nw.β;have hE0:X.E0.β.length=X.n0:=X.la;refine ⟨(swL i j E.β).drop X.n0,?_,fun b hb=>?_⟩
    ·show swL i j E.β=_
     have:(swL i j E.β).take X.n0=X.E0.β:=by
      apply List.ext_getElem?;intro k;rw [ch];split
      ·rename_i hk;rw [fg eo gB]
       have:swp i j k=k:=by
        unfold swp;have hb:∀ a b:Nat,Nat.beq a b=true↔a=b:=fun a b=>by simp
        cases h1:Nat.beq k i
        ·cases h2:Nat.beq k j
         ·rfl
         ·have:=(hb k j).1 h2;omega
        ·have:=(hb k i).1 h1;omega
       rw [this,hr,cm (by omega)]
      ·rename_i hk;exact (cQ (by omega)).symm
     rw [<- this,List.take_append_drop]
    ·have hnd:=h.env.inj;obtain ⟨k,hk⟩:=List.mem_iff_getElem?.1 hb;rw [List.getElem?_drop,fg eo gB] at hk
     have aS:X.n0<=swp i j (X.n0 + k):=by
      unfold swp;split
      ·exact sY
      ·split
       ·exact L0
       ·omega
     rw [hr,List.getElem?_append_right (by omega)] at hk;exact hl b (mG hk)
   tk:=h.nw.tk
   tn:=h.nw.tn
   l0:=h.nw.l0 }
  fr:=h.fr
  sh:=h.sh
  bt:=.nil hX }
theorem vV (hX:X.bt=[]) (h:Rel X E (ek i j S) a w) (L0:X.n0<=i) (sY:X.n0<=j) (hi:i < S.bx.length) (hj:j < S.bx.length):∃ E',Rel X E' S a w:=⟨_,Eg hX h L0 sY hi hj⟩
end
def Jc (sl:List (Nat × Sl)):List (Nat × Sl)->Prop
 | []=>True
 | p :: r=>get sl p.1=some p.2/\Jc sl r
theorem xf {sl:List (Nat × Sl)}:∀ {l:List (Nat × Sl)},Jc sl l->∀ i x,get l i=some x->get sl i=some x
 | [],_,i,x,hx=>by cases hx
 | (k,y) :: r,h,i,x,hx=>by
  simp only [dY] at hx;split at hx
  ·rename_i kD;subst kD;simp only [oI] at hx;subst hx;exact h.1
  ·exact xf h.2 i x hx
def uniqS:List Nat->List (Nat × Sl)->List (Nat × Sl)
 | _,[]=>[]
 | m,p :: r=>
  match muB m p.1 with
  | true=>uniqS m r
  | false=>p :: uniqS (p.1 :: m) r
theorem tp:∀ (l:List (Nat × Sl)) (m:List Nat) (i:Nat),muB m i=false->get (uniqS m l) i=get l i
 | [],_,_,_=>rfl
 | (k,x) :: r,m,i,h=>by
  simp only [uniqS]
  cases hm:muB m k with
  | true=>
   simp only;rw [tp r m i h,dY,ah];rintro rfl;rw [hm] at h;cases h
  | false=>
   simp only [dY];by_cases hk:k=i
   ·rw [ai hk,ai hk]
   ·rw [ah hk,ah hk]
    exact tp r (k :: m) i (by simp only [muB,h,Bool.or_false];cases hb:Nat.beq k i with
     | true=>exact (hk (Nat.eq_of_beq_eq_true hb)).elim
     | false=>rfl)
def dg (s S:St):Prop:=s.bx=S.bx/\s.tk=S.tk/\Jc s.sl (uniqS [] S.sl)
theorem n7 {X:Ctx} {E:En} {s S:St} {a:Act} {w:World} (h:Rel X E s a w) (hs:dg s S):Rel X E S a w where
 env:=by rw [<- hs.1];exact h.env
 tk:=by rw [<- hs.2.1];exact h.tk
 sz:=h.sz
 tm:=fun i x hx=>h.tm i x (xf hs.2.2 i x (by rw [tp _ _ _ rfl];exact hx))
 df:=h.df
 nw:=h.nw
 fr:=h.fr
 sh:=h.sh
 bt:=h.bt
theorem oY {X:Ctx} {id:Nat} {ops:Array Oper} {k:List It} {st:St} (W:Nat->Bool) (x y:Nat) (l l':List Nat) (i j:Nat) (hm:X.P.follows .mixedOrders=true) (hc:XP ops W l l' x y=true) (S:St)
  (h:goD X ⟨ops,W,[.sx fun s=>s=S],st,none⟩ 3000 true (selL ops.toList l) st.sl st) (h':goD X ⟨ops,W,[.sx fun s=>dg s (ek i j S)],st,none⟩ 3000 true (selL ops.toList l') st.sl st)
  (jF:(Nat.ble X.n0 i && Nat.ble X.n0 j && Nat.blt i S.bx.length && Nat.blt j S.bx.length)=true) (hk:go X 4000 k S) (hX:X.bt=[]:=by exact rfl):lS X id ops k st:=by
 intro E a w hr;have iA:=jJ hr;simp only [aQ,Nat.ble_eq,Nat.blt_eq] at jF;simp only [XP,G5,aQ,List.all_eq_true,Nat.blt_eq,Nat.ble_eq,beq_iff_eq,List.mem_range,Bool.not_eq_true'] at hc;obtain ⟨⟨⟨⟨⟨⟨⟨⟨⟨G3,qQ⟩,Xm⟩,⟨⟨⟨h1a,SJ⟩,WZ⟩,hlen⟩,h1d⟩,⟨⟨⟨h2a,h2b⟩,h2c⟩,_⟩,h2d⟩,WY⟩,XN⟩,h2O⟩,XO⟩,hT⟩:=hc
 have hQ:∀ S',(S'=S∨S'=ek i j S)->∀ a w,(∃ st E,Rel X E st a w/\(st=S' ∨ dg st S'))->kq X k .normal a w:=by
  rintro S' hS a w ⟨qS,E1,SK,uF⟩
  have cj:Rel X E1 S' a w:=by
   rcases uF with rfl | uF
   ·exact SK
   ·exact n7 SK uF
  rcases hS with rfl | rfl
  ·exact go_sound 4000 _ _ hk E1 a w cj
  ·obtain ⟨E2,n5⟩:=vV hX cj jF.1.1.1 jF.1.1.2 jF.1.2 jF.2;exact go_sound 4000 _ _ hk E2 a w n5
 have key:∀ (S':St),(S'=S∨S'=ek i j S)->∀ (l:List Nat),(selL ops.toList l).map (·.1)=l->∀ J:St->Prop,(∀ s,J s->s=S' ∨ dg s S')->(goD X ⟨ops,W,[.sx J],st,none⟩ 3000 true (selL ops.toList l) st.sl st) ->
   runT X.P ops W (CC E st.bx w.drew) (fun a w=>kq X k .normal a w) l a w.drew:=by
  intro S' hS l hl J hJ h;have hs:=kJ iA (ops:=ops) (W:=W) (k:=[.sx J]);have:=eM (D:=⟨⟨ops,W,[.sx J],st,none⟩,E,w.drew⟩) iA.env.em 3000 true _ _ _ h (fun p hp=>by simpa using xe hp) E a w.drew hs;rw [hl] at this;exact lY (fun a w ⟨st,E1,h1,h2⟩=>hQ S' hS a w ⟨st,E1,h1,hJ st h2⟩) this
 have e1:=key S (.inl rfl) l h1a _ (fun s hs=>.inl hs) h;have e2:=key (ek i j S) (.inr rfl) l' h2a _ (fun s hs=>.inr hs) h';refine wp_region_any hm ?_
 have L7:∀ (l:List Nat),(∀ i,i < ops.size->l.contains i=true)->(∀ i∈l,i < ops.size)->∀ i,i∈l↔i < ops.size/\(Array.replicate ops.size false).getD i true=false:=by
  intro l ha hb i;constructor
  ·intro hi;exact ⟨hb i hi,by simp [hb i hi]⟩
  ·intro hi;simpa using ha i hi.1
 have hxy':x≠y:=by
  intro e;subst e;simp at G3
 refine G2 (C:=CC E st.bx w.drew) (π:=plc l) (π':=plc l') (Q:=kq X k .normal) hxy' WY XN h2O XO hT (fun a w h=>h) ops.size (Array.replicate ops.size false) l l' a _ (by simp) ?_ (L7 l SJ WZ) (L7 l' h2b h2c) (ru h1d) (ru h2d) hlen
  (by simpa using SJ x qQ) (by simpa using SJ y Xm) ⟨fun _ _ _ _ _ _=>rfl,iA.env.sub⟩ e1 e2
 intro i o ho hl;have:i < ops.size:=(Array.getElem?_eq_some_iff.1 ho).1;simp [this] at hl
end Dv
end Go.Proofs.YtadhpeooehkklaaGreat
namespace Go.Proofs.YtadhpeooehkklaaGreat
namespace Dv
open Go Go.RowKit
section
variable {X:Ctx} {st:St} {k:List It} {E:En} {a:Act} {w:World}
noncomputable def En.DL (E:En) (w:World):En:=⟨s8 E 0 w,[],[],[]⟩
theorem QK {bx:List (List DV)} (h:Env E bx w):Env (E.DL w) [] w where
 len:=rfl
 tl:=rfl
 fm:=by simp
 inj:=List.nodup_nil
 sub:=fun x u hx=>by
  rcases fc hx with ⟨_,h1⟩ | h1
  ·exact h1
  ·exact h.sub x u h1
 pc:=by simp [En.DL]
 cG:=by simp [En.DL]
 jI:=by simp [En.DL]
theorem QL {bx:List (List DV)} (h:Env E bx w):L4 E (E.DL w) bx 0 where
 c:=fun x u hx=>mK h hx
 fz:=fun i cs hi dw=>by
  obtain ⟨b,ty,arr,hb,hw,hc⟩:=h.fm i cs dw;refine ⟨b,arr,hb,hc,fun j u hj=>?_⟩;show s8 E 0 w ⟨b,j,none⟩=some u;unfold s8;rw [ai ⟨i,hi,hb⟩,cT hw];simpa using hj
theorem kg {P:Program} {s:Bool} {bx:List (List DV)} (h:Env E bx w) {f:FuncId} {args bN:List DV} {vs:List Value} {y:DV} (hc:UK s P f bN [] [] fun d _ _=>d=y) (ha:CcL bx 0 0 0 bN args) (hv:RvL E args vs) :
  Calls P f vs.toArray w fun e w'=>∃ v E2,e = .returned v/\Rv E2 y v/\qX (fun _=>False) w w' /\ (s=true->∃ q,w'=w.drewN q):=by
 have LY:RvL (E.DL w) bN vs:=CcL.sound (QL h) (I4.zero _ _) ha hv;refine (hc (E.DL w) w vs (QK h) rfl LY).mono ?_;rintro e w' ⟨v,rfl,hm,hs,d,os,E2,he,hβ,lg,hn,zL,rfl⟩;refine ⟨v,E2,rfl,zL,⟨hm.os,hm.tape,hm.output,hm.size,fun i hi _=>hm.block i hi ?_⟩,hs⟩;rintro (h1 | ⟨y,h1,_⟩)
 ·simp [En.DL] at h1
 ·simp [En.DL] at h1
theorem Cq {f:FuncId} {args bN:List DV} {d:Nat} {y:Value} (mJ:Enters X.P f) (hc:aV X.P f bN (.v y)) (ha:CcL st.bx 0 0 0 bN args) (hd:gx X.nt st.sl (some d)=true)
  (hk:go X 4000 k ⟨(d,⟨[],.v y⟩) :: st.sl,st.bx,st.tk⟩) (bd:X.still=false:=by exact rfl):ik X f args (some d) k st:=by
 refine ⟨mJ,bd,fun E a w vs h hv=>(kg h.env hc ha hv).mono ?_⟩;rintro e w' ⟨v,E2,rfl,hr,hm,_⟩;have hh:∀ i,i < w.heap.size->w'.heap[i]? = w.heap[i]?:=fun i hi=>hm.block i hi (fun h=>h);have cj:Rel X E st a w':=dF h (Ext.refl E) (h.env.ke hh) h.tk h.nw (h.fr.dn hm.os hm.tape hm.output hm.size fun i hi=>.inr (hh i hi)) (nX bd) (h.bt.ke fun b hb=>hh b (h.env.bu hb));unfold Rv at hr;exact go_sound 4000 _ _ hk E _ w' (bM cj hd (.v y) v (by unfold Rv;exact hr))
end
end Dv
end Go.Proofs.YtadhpeooehkklaaGreat
namespace Go.Proofs.YtadhpeooehkklaaGreat
namespace Dv
open Go Go.RowKit
def ML (bx:List (List DV)) (N m:Nat) (sl:List (Nat × Sl)):List (Nat × Sl)->Prop
 | []=>True
 | p :: r=>(∃ x,get sl p.1=some ⟨p.2.gs,x⟩/\Cc bx N N m p.2.s x)/\ML bx N m sl r
theorem Aw {bx:List (List DV)} {N m:Nat} {sl:List (Nat × Sl)}:∀ {l:List (Nat × Sl)},ML bx N m sl l->∀ i x',get l i=some x' -> ∃ x,get sl i=some ⟨x'.gs,x⟩/\Cc bx N N m x'.s x
 | [],_,i,x',hx=>by cases hx
 | (k,y) :: r,h,i,x',hx=>by
  simp only [dY] at hx;split at hx
  ·rename_i kD;subst kD;simp only [oI] at hx;subst hx;exact h.1
  ·exact Aw h.2 i x' hx
section
variable {X:Ctx} {E:En} {st st':St} {a:Act} {w:World} {k:List It}
theorem Jd (h:Rel X E st a w) (N:Nat) (hN:X.n0<=N) (hNl:N<=st.bx.length) (vw:nV st.bx N N st.tk.length st'.bx (st.bx.take N)) (lg:st'.tk=st.tk) (nQ:ML st.bx N st.tk.length st.sl st'.sl):∃ E',Rel X E' st' a w:=by
 obtain ⟨r,Qy,hβl⟩:=h.nw.β;have hlen:E.β.length=st.bx.length:=h.env.len
 have cd:∀ (i:Nat) b,X.n0<=i->E.β[i]? = some b->b∈r:=fun i b hi hb=>by
  rw [Qy,List.getElem?_append_right (by rw [X.la];exact hi)] at hb;exact mG hb
 let E':En:=⟨s8 E N w,E.β.take N,E.tk,E.τ⟩
 have Mz:L4 E E' st.bx N:={
  c:=fun x u hx=>mK h.env hx
  fz:=fun i cs hi dw=>by
   obtain ⟨b,ty,arr,hb,hw,hc⟩:=h.env.fm i cs dw;refine ⟨b,arr,hb,hc,fun j u hj=>?_⟩;show s8 E N w ⟨b,j,none⟩=some u;unfold s8;rw [ai ⟨i,hi,hb⟩,cT hw]
   simpa using hj }
 have zK:I4 E E' N st.tk.length:={
  β:=fun i b hi hb=>by show (E.β.take N)[i]? = _;rw [ch,ai hi];exact hb
  tk:=fun k hk=>⟨rfl,rfl⟩ }
 have UH:∀ (i:Nat) b,N<=i->E.β[i]? = some b->b ∉ E.β.take N:=fun i b hi hb hm=>by
  obtain ⟨j,hj⟩:=List.getElem?_of_mem hm;rw [ch] at hj;split at hj
  ·rename_i hjN;have:=(List.getElem?_inj (gS hb).1 h.env.inj).1 (hb.trans hj.symm);omega
  ·cases hj
 obtain ⟨jU,Xz⟩:=vw.get;refine ⟨E',?_⟩
 exact {
  env:={
   len:=by
    show (E.β.take N).length=st'.bx.length;rw [jU,zLenT,zLenT];omega
   tl:=h.env.tl
   fm:=fun i cs' hi=>by
    obtain ⟨cs,dw,uG⟩:=Xz i cs' hi;rw [ch] at dw;split at dw
    ·rename_i au;obtain ⟨b,ty,arr,hb,hw,hc⟩:=h.env.fm i cs dw;exact ⟨b,ty,arr,zK.β i b au hb,hw,CcL.sound Mz zK uG hc.1,hc.2⟩
    ·cases dw
   inj:=h.env.inj.sublist (List.take_sublist _ _)
   sub:=fun x u hx=>by
    rcases fc hx with ⟨_,h1⟩ | h1
    ·exact h1
    ·exact h.env.sub x u h1
   pc:=fun x u hx hm=>by
    rcases fc hx with ⟨⟨i,hi,hb⟩,_⟩ | h1
    ·exact UH i _ hi hb hm
    ·exact h.env.pc x u h1 (List.mem_of_mem_take hm)
   cG:=fun k q y hq hy=>by
    rcases h.env.cG k q y hq hy with h1 | ⟨g,cap,cur,rfl,h1,h2,h3,h4,h5,h6⟩
    ·exact .inl h1
    ·refine .inr ⟨g,cap,cur,rfl,h1,⟨h2.1,h2.2.mono fun _ _ hx=>mK h.env hx⟩,h3,h4,fun hm=>h5 (List.mem_of_mem_take hm),fun x u hx hg=>?_⟩;rcases fc hx with ⟨⟨i,hi,hb⟩,_⟩ | h7
     ·rw [hg] at hb;exact (h5 (mG hb)).elim
     ·exact h6 x u h7 hg
   jI:=h.env.jI }
  tk:=by rw [lg];exact h.tk
  sz:=h.sz
  tm:=fun i x' p9=>by
   obtain ⟨x,hx,uG⟩:=Aw nQ i x' p9;have:=h.tm i _ hx;refine ⟨fun hh=>?_,this.2⟩;obtain ⟨v,h1,h2⟩:=this.1 hh;exact ⟨v,h1,Cc.sound Mz zK uG h2⟩
  df:=h.df
  nw:={
   c:=fun x u hx=>mK h.env (h.nw.c x u hx)
   cn:=fun x u hx=>by
    rcases fc hx with ⟨⟨i,hi,hb⟩,_⟩ | h1
    ·exact .inr (.inl (hβl _ (cd i _ (by omega) hb)))
    ·exact h.nw.cn x u h1
   β:=by
    refine ⟨r.take (N - X.n0),?_,fun b hb=>hβl b (List.mem_of_mem_take hb)⟩;show E.β.take N=_;rw [Qy,List.take_append,List.take_of_length_le (by rw [X.la];omega),X.la]
   tk:=h.nw.tk
   tn:=h.nw.tn
   l0:=h.nw.l0 }
  fr:=h.fr
  sh:=h.sh
  bt:=h.bt.sub _ }
theorem MM {c:Code} (N:Nat) (qS:St) (hN:Nat.ble X.n0 N=true) (hNl:Nat.ble N st.bx.length=true) (lg:qS.tk=st.tk) (vw:nV st.bx N N st.tk.length qS.bx (st.bx.take N)) (nQ:ML st.bx N st.tk.length st.sl qS.sl)
  (hk:pL X c k qS):pL X c k st:=by
 intro E a w h;obtain ⟨E',h'⟩:=Jd h N (nL hN) (nL hNl) vw lg nQ;exact hk E' a w h'
theorem cW {n0 m0:Nat} {st st':St} (n:Nat) (q:TkE) (hq:q.new=true) (hn:Nat.ble n st.bx.length=true) (h3:st.tk ++ [q]=st'.tk) (h2:WeLL n st.tk.length st'.tk (st.bx.take n) st'.bx) (h4:Nat.ble n0 n=true) (h5:Nat.ble m0 st.tk.length=true)
  (h:uH n st.tk.length st'.tk st.sl st'.sl):s9 n0 m0 st st':=by
 have hl:(st.bx.take n).length=n:=by
  have:=nL hn;rw [zLenT];omega
 exact ⟨st.tk,[],[q],st.bx.take n,st.bx.drop n,by simpa using h5,by rw [hl];simpa using h4,by simp,h3.symm,by simpa using hq,(List.take_append_drop n st.bx).symm,by rw [hl];exact h2,by rw [hl];exact h⟩
end
end Dv
end Go.Proofs.YtadhpeooehkklaaGreat
namespace Go.Proofs.YtadhpeooehkklaaGreat
namespace Dv
open Go Go.RowKit
section
variable {X:Ctx} {st:St} {k:List It} {E:En} {a:Act} {w:World}
theorem mP {f:FuncId} {rest MN cs cs':List DV} {i d:Nat} (mJ:Enters X.P f) (hd:gx X.nt st.sl (some d)=true) (vw:st.bx[i]? = some cs) (dw:CcL [] 0 0 0 cs' cs) (ha:CcL [] 0 0 0 MN rest)
  {Φ:DV->List (List DV)->List TkE->Prop} (hc:Ev X.P f (.loc 0 0 :: MN) [cs'] [] Φ) (eK:∀ r os tk,Φ r os tk->clB 0 0 r=true/\∀ sF∈os,clB.clL 0 0 sF=true)
  (hk:∀ r sF,Φ r [sF] []->go X 4000 k ⟨(d,⟨[],r⟩) :: st.sl,st.bx.set i sF,st.tk⟩) (bd:X.still=false:=by exact rfl) (hX:X.bt=[]:=by exact rfl):ik X f (.loc i 0 :: rest) (some d) k st:=by
 refine ⟨mJ,bd,fun E a w vs h hv=>?_⟩;simp only [RvL] at hv;obtain ⟨v1,vr,rfl,h1,hvr⟩:=hv;unfold Rv at h1;obtain ⟨b,hb,rfl⟩:=h1;obtain ⟨b',ty,arr,gA,hw,uG⟩:=h.env.fm i cs vw;rw [hb] at gA;simp only [oI] at gA;subst gA;have Cr:b∈E.β:=mG hb;have U0:=h.env.bu Cr
 let E1:En:=⟨E.c,[b],[],[]⟩
 have hx1:Ext E.cl E1:=⟨fun _ _ h=>h,fun j b hj=>by simp [En.cl] at hj,fun k q hk=>by simp [En.cl] at hk⟩;have hfz:L4 E E.cl [] 0:=⟨fun _ _ h=>h,fun i cs _ hi=>by simp at hi⟩
 have XQ:Env E1 [cs'] w:={
  len:=rfl
  tl:=rfl
  fm:=fun j XR hj=>by
   cases j with
   | succ j=>simp at hj
   | zero=>
    simp only [List.getElem?_cons_zero,oI] at hj;subst hj;refine ⟨b,ty,arr,rfl,hw,RvL.mono hx1 (CcL.sound hfz (I4.zero _ _) dw uG.1),uG.2⟩
  inj:=by simp [E1]
  sub:=h.env.sub
  pc:=fun x v hx hm=>by
   simp only [E1,List.mem_singleton] at hm;exact h.env.pc x v hx (by rw [hm];exact Cr)
  cG:=by simp [E1]
  jI:=by simp [E1] }
 have mD:RvL E1 (.loc 0 0 :: MN) (.pointer (some ⟨b,0,none⟩) :: vr):=rvL_cons (by unfold Rv;exact ⟨b,rfl,rfl⟩) (RvL.mono hx1 (CcL.sound hfz (I4.zero _ _) ha hvr));refine (hc E1 w _ XQ rfl mD).mono ?_;rintro e w' ⟨v,rfl,hm,_,r,os,E2,he,hβ,lg,hn,zL,hΦ⟩;have ht0:E2.tk=[]:=List.eq_nil_of_length_eq_zero lg;rw [ht0] at hΦ
 obtain ⟨sF,rfl⟩:∃ sF,os=[sF]:=by
  have:=he.len;rw [hβ] at this
  match os,this with
  | [x],_=>exact ⟨x,rfl⟩
 obtain ⟨hclr,hclc⟩:=eK _ _ _ hΦ
 have hh:∀ j,j < w.heap.size->j≠b->w'.heap[j]? = w.heap[j]?:=fun j hj bF=>hm.block j hj (by
  rintro (h1 | ⟨y,h1,_⟩)
  ·simp only [E1,List.mem_singleton] at h1;exact bF h1
  ·simp [E1] at h1)
 have cd:∀ x v,E2.c x=some v->E.c x=some v∨w.heap.size<=x.block:=fun x v hx=>by
  rcases hn.cn x v hx with h1 | h1 | ⟨y,h1,_⟩
  ·exact .inl h1
  ·exact .inr h1
  ·simp [E1] at h1
 let E':En:=⟨E2.c,E.β,E.tk,E.τ⟩
 have hx:Ext E E':=⟨hn.c,fun _ _ h=>h,fun _ q h=>⟨q,h,.inl ⟨rfl,rfl⟩⟩⟩;have Qd:Ext (E2.cut 0 0) E':=⟨fun _ _ h=>h,fun j b hj=>by simp [En.cut] at hj,fun k q hk=>by simp [En.cut] at hk⟩
 have cj:Rel X E' ⟨st.sl,st.bx.set i sF,st.tk⟩ a w':=by
  refine dF h hx ?_ h.tk ?_ (h.fr.dn hm.os hm.tape hm.output hm.size fun j hj=>?_) (nX bd) (.nil hX)
  ·exact {
    len:=by rw [List.length_set];exact h.env.len
    tl:=h.env.tl
    fm:=fun j XR hj=>by
     by_cases GR:j=i
     ·subst GR;rw [cO (gS vw).1] at hj;simp only [oI] at hj;subst hj;obtain ⟨b2,ty2,U1,ll,sX,lF⟩:=he.fm 0 sF rfl;rw [hβ] at ll;simp only [E1,List.getElem?_cons_zero,oI] at ll;subst ll;exact ⟨b,ty2,U1,hb,sX,RvL.mono Qd (RvL.cut lF.1 (hclc sF (by simp))),lF.2⟩
     ·rw [List.getElem?_set_ne (Ne.symm GR)] at hj;obtain ⟨bj,tyj,U2,SM,XS,Mr⟩:=h.env.fm j XR hj
      have bF:bj≠b:=by
       rintro rfl;exact GR ((List.getElem?_inj (gS SM).1 h.env.inj).1 (SM.trans hb.symm))
      exact ⟨bj,tyj,U2,SM,by rw [hh bj (dE XS) bF];exact XS,Mr.mono hx⟩
    inj:=h.env.inj
    sub:=he.sub
    pc:=fun x v hc lU=>by
     rcases cd x v hc with h1 | h1
     ·exact h.env.pc x v h1 lU
     ·have:=h.env.bu lU;omega
    cG:=fun k q y hq hy=>by
     rcases h.env.cG k q y hq hy with h1 | ⟨g',cap,cur,rfl,h1,h2,h3,h4,h5,h6⟩
     ·exact .inl h1
     ·refine .inr ⟨g',cap,cur,rfl,by rw [hh g' (dE h1) (fun e=>h5 (by rw [e];exact Cr))];exact h1,⟨h2.1,h2.2.mono hn.c⟩,h3,h4,h5,fun x v hc hg=>?_⟩;rcases cd x v hc with h7 | h7
      ·exact h6 x v h7 hg
      ·have:=dE h1;omega
    jI:=h.env.jI }
  ·exact {
    c:=fun x v hc=>hn.c x v (h.nw.c x v hc)
    cn:=fun x v hc=>by
     rcases cd x v hc with h1 | h1
     ·exact h.nw.cn x v h1
     ·have:=h.fr.size;exact .inr (.inl (by omega))
    β:=h.nw.β
    tk:=h.nw.tk
    tn:=h.nw.tn
    l0:=h.nw.l0 }
  ·by_cases Km:j=b
   ·left;obtain ⟨r0,hr0,L7⟩:=h.nw.β;rw [hr0] at Cr;rcases List.mem_append.1 Cr with Cr | Cr
    ·exact .inl (.inl (Km ▸ Cr))
    ·exact .inr (Km ▸ L7 b Cr)
   ·exact .inr (hh j hj Km)
 exact go_sound 4000 _ _ (hk r sF hΦ) E' _ w' (bM cj hd r v (Rv.mono Qd (Rv.cut zL hclr)))
end
end Dv
end Go.Proofs.YtadhpeooehkklaaGreat
namespace Go.Proofs.YtadhpeooehkklaaGreat
namespace Dv
open Go
def tt:TT:=.av 161 ⟨2051,true,.st [(0,102),(1,93),(2,158),(3,160),(1027,160)],(.slice none 0 0 :: .pointer none :: .pointer none :: List.replicate 2048 (.int .i64 0))⟩ (.av 82 ⟨1,false,.fn,[.nilFunc]⟩ (.av 39 ⟨1,false,.fn,[.nilFunc]⟩ (.av 19 ⟨1,true,.st [(0,17)],[.pointer none]⟩ (.av 10 ⟨1,false,.str,[.string ByteArray.empty]⟩ (.av 5 ⟨1,false,.int .u8,[.int .u8 0]⟩ (.av 3 ⟨1,false,.int .i64,[.int .i64 0]⟩ (.av 2 ⟨1,false,.int .i64,[.int .i64 0]⟩ (.av 1 ⟨1,false,.fn,[.nilFunc]⟩ (.nil) (.nil)) (.nil)) (.av 4 ⟨1,false,.bool,[.bool false]⟩ (.nil) (.nil))) (.av 8 ⟨4,true,.st [(0,2),(1,3),(2,4),(3,6)],[.int .i64 0,.int .i64 0,.bool false,.int .u8 0]⟩ (.av 7 ⟨4,true,.st [(0,2),(1,3),(2,4),(3,6)],[.int .i64 0,.int .i64 0,.bool false,.int .u8 0]⟩ (.av 6 ⟨1,false,.int .u8,[.int .u8 0]⟩ (.nil) (.nil)) (.nil)) (.av 9 ⟨1,false,.str,[.string ByteArray.empty]⟩ (.nil) (.nil)))) (.av 15 ⟨1,false,.ptr 308,[.pointer none]⟩ (.av 13 ⟨2,true,.st [(0,9),(1,12)],[.string ByteArray.empty,.int .u64 0]⟩ (.av 12 ⟨1,false,.int .u64,[.int .u64 0]⟩ (.av 11 ⟨1,false,.str,[.string ByteArray.empty]⟩ (.nil) (.nil)) (.nil)) (.av 14 ⟨2,true,.st [(0,9),(1,12)],[.string ByteArray.empty,.int .u64 0]⟩ (.nil) (.nil))) (.av 17 ⟨1,false,.ptr 319,[.pointer none]⟩ (.av 16 ⟨1,false,.ptr 311,[.pointer none]⟩ (.nil) (.nil)) (.av 18 ⟨1,true,.st [(0,17)],[.pointer none]⟩ (.nil) (.nil))))) (.av 29 ⟨9,true,.st [(0,3),(1,3),(2,3),(3,3),(4,3),(5,22),(6,25),(7,27)],[.int .i64 0,.int .i64 0,.int .i64 0,.int .i64 0,.int .i64 0,.slice none 0 0,.slice none 0 0,.string ByteArray.empty,.int .i64 0]⟩ (.av 24 ⟨1,false,.sl 87 11 136,[.slice none 0 0]⟩ (.av 22 ⟨1,false,.sl 27 2 24,[.slice none 0 0]⟩ (.av 21 ⟨1,false,.int .i32,[.int .i32 0]⟩ (.av 20 ⟨1,false,.sM,[.nilIface]⟩ (.nil) (.nil)) (.nil)) (.av 23 ⟨1,false,.sl 220 4 48,[.slice none 0 0]⟩ (.nil) (.nil))) (.av 27 ⟨2,true,.st [(0,9),(1,3)],[.string ByteArray.empty,.int .i64 0]⟩ (.av 26 ⟨2,true,.st [(0,9),(1,3)],[.string ByteArray.empty,.int .i64 0]⟩ (.av 25 ⟨1,false,.sl 153 18 224,[.slice none 0 0]⟩ (.nil) (.nil)) (.nil)) (.av 28 ⟨9,true,.st [(0,3),(1,3),(2,3),(3,3),(4,3),(5,22),(6,25),(7,27)],[.int .i64 0,.int .i64 0,.int .i64 0,.int .i64 0,.int .i64 0,.slice none 0 0,.slice none 0 0,.string ByteArray.empty,.int .i64 0]⟩ (.nil) (.nil)))) (.av 34 ⟨4,true,.st [(0,3),(1,3),(2,9),(3,32)],[.int .i64 0,.int .i64 0,.string ByteArray.empty,.slice none 0 0]⟩ (.av 32 ⟨1,false,.sl 34 4 56,[.slice none 0 0]⟩ (.av 31 ⟨12,true,.st [(0,22),(1,23),(2,24),(3,29)],[.slice none 0 0,.slice none 0 0,.slice none 0 0,.int .i64 0,.int .i64 0,.int .i64 0,.int .i64 0,.int .i64 0,.slice none 0 0,.slice none 0 0,.string ByteArray.empty,.int .i64 0]⟩ (.av 30 ⟨12,true,.st [(0,22),(1,23),(2,24),(3,29)],[.slice none 0 0,.slice none 0 0,.slice none 0 0,.int .i64 0,.int .i64 0,.int .i64 0,.int .i64 0,.int .i64 0,.slice none 0 0,.slice none 0 0,.string ByteArray.empty,.int .i64 0]⟩ (.nil) (.nil)) (.nil)) (.av 33 ⟨4,true,.st [(0,3),(1,3),(2,9),(3,32)],[.int .i64 0,.int .i64 0,.string ByteArray.empty,.slice none 0 0]⟩ (.nil) (.nil))) (.av 36 ⟨6,true,.st [(0,3),(1,3),(2,3),(3,9),(4,22),(5,35)],[.int .i64 0,.int .i64 0,.int .i64 0,.string ByteArray.empty,.slice none 0 0,.slice none 0 0]⟩ (.av 35 ⟨1,false,.sl 37 6 88,[.slice none 0 0]⟩ (.nil) (.nil)) (.av 37 ⟨6,true,.st [(0,3),(1,3),(2,3),(3,9),(4,22),(5,35)],[.int .i64 0,.int .i64 0,.int .i64 0,.string ByteArray.empty,.slice none 0 0,.slice none 0 0]⟩ (.nil) (.nil)))))) (.av 62 ⟨1,false,.fn,[.nilFunc]⟩ (.av 51 ⟨1,false,.fn,[.nilFunc]⟩ (.av 44 ⟨2,true,.st [(0,43),(1,3)],[.int .i64 0,.int .i64 0]⟩ (.av 42 ⟨1,false,.ptr 95,[.pointer none]⟩ (.av 41 ⟨1,false,.fn,[.nilFunc]⟩ (.av 40 ⟨1,false,.fn,[.nilFunc]⟩ (.nil) (.nil)) (.nil)) (.av 43 ⟨1,false,.int .i64,[.int .i64 0]⟩ (.nil) (.nil))) (.av 48 ⟨1,false,.fn,[.nilFunc]⟩ (.av 47 ⟨1,false,.fn,[.nilFunc]⟩ (.av 45 ⟨2,true,.st [(0,43),(1,3)],[.int .i64 0,.int .i64 0]⟩ (.nil) (.nil)) (.nil)) (.av 50 ⟨1,false,.fn,[.nilFunc]⟩ (.nil) (.nil)))) (.av 58 ⟨1,false,.fn,[.nilFunc]⟩ (.av 55 ⟨1,false,.sl 59 1 24,[.slice none 0 0]⟩ (.av 54 ⟨1,false,.fn,[.nilFunc]⟩ (.av 52 ⟨1,false,.fn,[.nilFunc]⟩ (.nil) (.nil)) (.nil)) (.av 56 ⟨1,false,.fn,[.nilFunc]⟩ (.nil) (.nil))) (.av 60 ⟨1,false,.fn,[.nilFunc]⟩ (.av 59 ⟨1,false,.sl 117 3 32,[.slice none 0 0]⟩ (.nil) (.nil)) (.av 61 ⟨1,false,.fn,[.nilFunc]⟩ (.nil) (.nil))))) (.av 72 ⟨1,false,.fn,[.nilFunc]⟩ (.av 68 ⟨4,true,.st [(0,22),(1,65),(2,66),(3,3)],[.slice none 0 0,.slice none 0 0,.slice none 0 0,.int .i64 0]⟩ (.av 66 ⟨1,false,.sl 128 7 88,[.slice none 0 0]⟩ (.av 65 ⟨1,false,.sl 140 1 24,[.slice none 0 0]⟩ (.av 64 ⟨1,false,.fn,[.nilFunc]⟩ (.nil) (.nil)) (.nil)) (.av 67 ⟨4,true,.st [(0,22),(1,65),(2,66),(3,3)],[.slice none 0 0,.slice none 0 0,.slice none 0 0,.int .i64 0]⟩ (.nil) (.nil))) (.av 70 ⟨8,true,.st [(0,68),(4,69),(5,69),(6,69),(7,69)],[.slice none 0 0,.slice none 0 0,.slice none 0 0,.int .i64 0,.slice none 0 0,.slice none 0 0,.slice none 0 0,.slice none 0 0]⟩ (.av 69 ⟨1,false,.sl 3 1 8,[.slice none 0 0]⟩ (.nil) (.nil)) (.av 71 ⟨8,true,.st [(0,68),(4,69),(5,69),(6,69),(7,69)],[.slice none 0 0,.slice none 0 0,.slice none 0 0,.int .i64 0,.slice none 0 0,.slice none 0 0,.slice none 0 0,.slice none 0 0]⟩ (.nil) (.nil)))) (.av 78 ⟨1,false,.fn,[.nilFunc]⟩ (.av 75 ⟨1,false,.fn,[.nilFunc]⟩ (.av 74 ⟨1,false,.fn,[.nilFunc]⟩ (.av 73 ⟨1,false,.fn,[.nilFunc]⟩ (.nil) (.nil)) (.nil)) (.av 77 ⟨1,false,.fn,[.nilFunc]⟩ (.nil) (.nil))) (.av 80 ⟨1,false,.fn,[.nilFunc]⟩ (.av 79 ⟨1,false,.fn,[.nilFunc]⟩ (.nil) (.nil)) (.av 81 ⟨1,false,.fn,[.nilFunc]⟩ (.nil) (.nil))))))) (.av 122 ⟨1,false,.ptr 142,[.pointer none]⟩ (.av 102 ⟨1,false,.sl 9 1 16,[.slice none 0 0]⟩ (.av 93 ⟨1,false,.ptr 222,[.pointer none]⟩ (.av 87 ⟨11,true,.st [(0,27),(2,29)],[.string ByteArray.empty,.int .i64 0,.int .i64 0,.int .i64 0,.int .i64 0,.int .i64 0,.int .i64 0,.slice none 0 0,.slice none 0 0,.string ByteArray.empty,.int .i64 0]⟩ (.av 85 ⟨1,false,.fn,[.nilFunc]⟩ (.av 84 ⟨1,false,.fn,[.nilFunc]⟩ (.av 83 ⟨1,false,.fn,[.nilFunc]⟩ (.nil) (.nil)) (.nil)) (.av 86 ⟨11,true,.st [(0,27),(2,29)],[.string ByteArray.empty,.int .i64 0,.int .i64 0,.int .i64 0,.int .i64 0,.int .i64 0,.int .i64 0,.slice none 0 0,.slice none 0 0,.string ByteArray.empty,.int .i64 0]⟩ (.nil) (.nil))) (.av 91 ⟨1,false,.ptr 97,[.pointer none]⟩ (.av 90 ⟨1,false,.fn,[.nilFunc]⟩ (.av 88 ⟨1,false,.ptr 162,[.pointer none]⟩ (.nil) (.nil)) (.nil)) (.av 92 ⟨1,false,.sl 105 7 88,[.slice none 0 0]⟩ (.nil) (.nil)))) (.av 98 ⟨1,false,.fn,[.nilFunc]⟩ (.av 96 ⟨15,true,.st [(0,31),(12,88),(13,42),(14,3)],[.slice none 0 0,.slice none 0 0,.slice none 0 0,.int .i64 0,.int .i64 0,.int .i64 0,.int .i64 0,.int .i64 0,.slice none 0 0,.slice none 0 0,.string ByteArray.empty,.int .i64 0,.pointer none,.pointer none,.int .i64 0]⟩ (.av 95 ⟨5,true,.st [(0,88),(1,92),(2,3),(3,93),(4,69)],[.pointer none,.slice none 0 0,.int .i64 0,.pointer none,.slice none 0 0]⟩ (.av 94 ⟨5,true,.st [(0,88),(1,92),(2,3),(3,93),(4,69)],[.pointer none,.slice none 0 0,.int .i64 0,.pointer none,.slice none 0 0]⟩ (.nil) (.nil)) (.nil)) (.av 97 ⟨15,true,.st [(0,31),(12,88),(13,42),(14,3)],[.slice none 0 0,.slice none 0 0,.slice none 0 0,.int .i64 0,.int .i64 0,.int .i64 0,.int .i64 0,.int .i64 0,.slice none 0 0,.slice none 0 0,.string ByteArray.empty,.int .i64 0,.pointer none,.pointer none,.int .i64 0]⟩ (.nil) (.nil))) (.av 100 ⟨1,false,.fn,[.nilFunc]⟩ (.av 99 ⟨1,false,.fn,[.nilFunc]⟩ (.nil) (.nil)) (.av 101 ⟨1,false,.fn,[.nilFunc]⟩ (.nil) (.nil))))) (.av 113 ⟨1,false,.fn,[.nilFunc]⟩ (.av 108 ⟨1,false,.fn,[.nilFunc]⟩ (.av 105 ⟨7,true,.st [(0,3),(1,3),(2,3),(3,3),(4,3),(5,102),(6,103)],[.int .i64 0,.int .i64 0,.int .i64 0,.int .i64 0,.int .i64 0,.slice none 0 0,.slice none 0 0]⟩ (.av 104 ⟨7,true,.st [(0,3),(1,3),(2,3),(3,3),(4,3),(5,102),(6,103)],[.int .i64 0,.int .i64 0,.int .i64 0,.int .i64 0,.int .i64 0,.slice none 0 0,.slice none 0 0]⟩ (.av 103 ⟨1,false,.sl 178 10 88,[.slice none 0 0]⟩ (.nil) (.nil)) (.nil)) (.av 107 ⟨1,false,.fn,[.nilFunc]⟩ (.nil) (.nil))) (.av 110 ⟨1,false,.fn,[.nilFunc]⟩ (.av 109 ⟨1,false,.fn,[.nilFunc]⟩ (.nil) (.nil)) (.av 111 ⟨1,false,.fn,[.nilFunc]⟩ (.nil) (.nil)))) (.av 118 ⟨1,false,.fn,[.nilFunc]⟩ (.av 116 ⟨3,true,.st [(0,3),(1,3),(2,9)],[.int .i64 0,.int .i64 0,.string ByteArray.empty]⟩ (.av 115 ⟨1,false,.fn,[.nilFunc]⟩ (.av 114 ⟨1,false,.fn,[.nilFunc]⟩ (.nil) (.nil)) (.nil)) (.av 117 ⟨3,true,.st [(0,3),(1,3),(2,9)],[.int .i64 0,.int .i64 0,.string ByteArray.empty]⟩ (.nil) (.nil))) (.av 120 ⟨1,false,.fn,[.nilFunc]⟩ (.av 119 ⟨1,false,.fn,[.nilFunc]⟩ (.nil) (.nil)) (.av 121 ⟨1,false,.fn,[.nilFunc]⟩ (.nil) (.nil)))))) (.av 142 ⟨6,true,.st [(0,42),(1,92),(2,69),(3,140),(4,69),(5,69)],[.pointer none,.slice none 0 0,.slice none 0 0,.slice none 0 0,.slice none 0 0,.slice none 0 0]⟩ (.av 132 ⟨1,false,.fn,[.nilFunc]⟩ (.av 127 ⟨7,true,.st [(0,3),(1,3),(2,3),(3,3),(4,3),(5,102),(6,126)],[.int .i64 0,.int .i64 0,.int .i64 0,.int .i64 0,.int .i64 0,.slice none 0 0,.slice none 0 0]⟩ (.av 125 ⟨1,false,.fn,[.nilFunc]⟩ (.av 124 ⟨1,false,.fn,[.nilFunc]⟩ (.av 123 ⟨1,false,.fn,[.nilFunc]⟩ (.nil) (.nil)) (.nil)) (.av 126 ⟨1,false,.sl 146 10 88,[.slice none 0 0]⟩ (.nil) (.nil))) (.av 130 ⟨1,false,.sl 29 9 112,[.slice none 0 0]⟩ (.av 129 ⟨1,false,.fn,[.nilFunc]⟩ (.av 128 ⟨7,true,.st [(0,3),(1,3),(2,3),(3,3),(4,3),(5,102),(6,126)],[.int .i64 0,.int .i64 0,.int .i64 0,.int .i64 0,.int .i64 0,.slice none 0 0,.slice none 0 0]⟩ (.nil) (.nil)) (.nil)) (.av 131 ⟨1,false,.fn,[.nilFunc]⟩ (.nil) (.nil)))) (.av 137 ⟨1,false,.fn,[.nilFunc]⟩ (.av 135 ⟨1,false,.fn,[.nilFunc]⟩ (.av 134 ⟨1,false,.fn,[.nilFunc]⟩ (.av 133 ⟨1,false,.fn,[.nilFunc]⟩ (.nil) (.nil)) (.nil)) (.av 136 ⟨1,false,.fn,[.nilFunc]⟩ (.nil) (.nil))) (.av 140 ⟨1,false,.sl 4 1 1,[.slice none 0 0]⟩ (.av 139 ⟨1,false,.fn,[.nilFunc]⟩ (.nil) (.nil)) (.av 141 ⟨6,true,.st [(0,42),(1,92),(2,69),(3,140),(4,69),(5,69)],[.pointer none,.slice none 0 0,.slice none 0 0,.slice none 0 0,.slice none 0 0,.slice none 0 0]⟩ (.nil) (.nil))))) (.av 151 ⟨4,true,.st [(0,3),(1,3),(2,3),(3,22)],[.int .i64 0,.int .i64 0,.int .i64 0,.slice none 0 0]⟩ (.av 147 ⟨1,false,.fn,[.nilFunc]⟩ (.av 145 ⟨10,true,.st [(0,9),(1,4),(2,3),(3,3),(4,3),(5,3),(6,3),(7,3),(8,3),(9,3)],[.string ByteArray.empty,.bool false,.int .i64 0,.int .i64 0,.int .i64 0,.int .i64 0,.int .i64 0,.int .i64 0,.int .i64 0,.int .i64 0]⟩ (.av 144 ⟨1,false,.fn,[.nilFunc]⟩ (.av 143 ⟨1,false,.fn,[.nilFunc]⟩ (.nil) (.nil)) (.nil)) (.av 146 ⟨10,true,.st [(0,9),(1,4),(2,3),(3,3),(4,3),(5,3),(6,3),(7,3),(8,3),(9,3)],[.string ByteArray.empty,.bool false,.int .i64 0,.int .i64 0,.int .i64 0,.int .i64 0,.int .i64 0,.int .i64 0,.int .i64 0,.int .i64 0]⟩ (.nil) (.nil))) (.av 149 ⟨1,false,.fn,[.nilFunc]⟩ (.av 148 ⟨1,false,.fn,[.nilFunc]⟩ (.nil) (.nil)) (.av 150 ⟨4,true,.st [(0,3),(1,3),(2,3),(3,22)],[.int .i64 0,.int .i64 0,.int .i64 0,.slice none 0 0]⟩ (.nil) (.nil)))) (.av 157 ⟨1,false,.fn,[.nilFunc]⟩ (.av 154 ⟨1,false,.fn,[.nilFunc]⟩ (.av 153 ⟨18,true,.st [(0,27),(2,4),(3,22),(4,3),(5,151),(9,29)],[.string ByteArray.empty,.int .i64 0,.bool false,.slice none 0 0,.int .i64 0,.int .i64 0,.int .i64 0,.int .i64 0,.slice none 0 0,.int .i64 0,.int .i64 0,.int .i64 0,.int .i64 0,.int .i64 0,.slice none 0 0,.slice none 0 0,.string ByteArray.empty,.int .i64 0]⟩ (.av 152 ⟨18,true,.st [(0,27),(2,4),(3,22),(4,3),(5,151),(9,29)],[.string ByteArray.empty,.int .i64 0,.bool false,.slice none 0 0,.int .i64 0,.int .i64 0,.int .i64 0,.int .i64 0,.slice none 0 0,.int .i64 0,.int .i64 0,.int .i64 0,.int .i64 0,.int .i64 0,.slice none 0 0,.slice none 0 0,.string ByteArray.empty,.int .i64 0]⟩ (.nil) (.nil)) (.nil)) (.av 156 ⟨1,false,.fn,[.nilFunc]⟩ (.nil) (.nil))) (.av 159 ⟨32,true,.ar 32 1,[.int .i64 0,.int .i64 0,.int .i64 0,.int .i64 0,.int .i64 0,.int .i64 0,.int .i64 0,.int .i64 0,.int .i64 0,.int .i64 0,.int .i64 0,.int .i64 0,.int .i64 0,.int .i64 0,.int .i64 0,.int .i64 0,.int .i64 0,.int .i64 0,.int .i64 0,.int .i64 0,.int .i64 0,.int .i64 0,.int .i64 0,.int .i64 0,.int .i64 0,.int .i64 0,.int .i64 0,.int .i64 0,.int .i64 0,.int .i64 0,.int .i64 0,.int .i64 0]⟩ (.av 158 ⟨1,false,.ptr 228,[.pointer none]⟩ (.nil) (.nil)) (.av 160 ⟨1024,true,.ar 32 32,(List.replicate 1024 (.int .i64 0))⟩ (.nil) (.nil)))))))) (.av 242 ⟨1,false,.fn,[.nilFunc]⟩ (.av 203 ⟨1,false,.fn,[.nilFunc]⟩ (.av 184 ⟨1,false,.fn,[.nilFunc]⟩ (.av 174 ⟨1,false,.sl 22 1 24,[.slice none 0 0]⟩ (.av 169 ⟨1,false,.fn,[.nilFunc]⟩ (.av 165 ⟨1,false,.fn,[.nilFunc]⟩ (.av 163 ⟨1,false,.sl 225 2 16,[.slice none 0 0]⟩ (.av 162 ⟨2051,true,.st [(0,102),(1,93),(2,158),(3,160),(1027,160)],(.slice none 0 0 :: .pointer none :: .pointer none :: List.replicate 2048 (.int .i64 0))⟩ (.nil) (.nil)) (.nil)) (.av 167 ⟨1,false,.fn,[.nilFunc]⟩ (.nil) (.nil))) (.av 172 ⟨1,false,.fn,[.nilFunc]⟩ (.av 171 ⟨1,false,.fn,[.nilFunc]⟩ (.av 170 ⟨1,false,.fn,[.nilFunc]⟩ (.nil) (.nil)) (.nil)) (.av 173 ⟨1,false,.fn,[.nilFunc]⟩ (.nil) (.nil)))) (.av 180 ⟨1,false,.fn,[.nilFunc]⟩ (.av 178 ⟨10,true,.st [(0,9),(1,4),(2,3),(3,3),(4,3),(5,3),(6,3),(7,3),(8,3),(9,3)],[.string ByteArray.empty,.bool false,.int .i64 0,.int .i64 0,.int .i64 0,.int .i64 0,.int .i64 0,.int .i64 0,.int .i64 0,.int .i64 0]⟩ (.av 177 ⟨1,false,.fn,[.nilFunc]⟩ (.av 176 ⟨1,false,.fn,[.nilFunc]⟩ (.nil) (.nil)) (.nil)) (.av 179 ⟨1,false,.fn,[.nilFunc]⟩ (.nil) (.nil))) (.av 182 ⟨1,false,.fn,[.nilFunc]⟩ (.av 181 ⟨1,false,.fn,[.nilFunc]⟩ (.nil) (.nil)) (.av 183 ⟨1,false,.fn,[.nilFunc]⟩ (.nil) (.nil))))) (.av 193 ⟨1,false,.fn,[.nilFunc]⟩ (.av 189 ⟨1,false,.fn,[.nilFunc]⟩ (.av 187 ⟨1,false,.fn,[.nilFunc]⟩ (.av 186 ⟨1,false,.fn,[.nilFunc]⟩ (.av 185 ⟨1,false,.fn,[.nilFunc]⟩ (.nil) (.nil)) (.nil)) (.av 188 ⟨1,false,.fn,[.nilFunc]⟩ (.nil) (.nil))) (.av 191 ⟨3,true,.st [(0,45),(2,3)],[.int .i64 0,.int .i64 0,.int .i64 0]⟩ (.av 190 ⟨1,false,.fn,[.nilFunc]⟩ (.nil) (.nil)) (.av 192 ⟨3,true,.st [(0,45),(2,3)],[.int .i64 0,.int .i64 0,.int .i64 0]⟩ (.nil) (.nil)))) (.av 198 ⟨1,false,.fn,[.nilFunc]⟩ (.av 196 ⟨1,false,.fn,[.nilFunc]⟩ (.av 195 ⟨1,false,.fn,[.nilFunc]⟩ (.av 194 ⟨1,false,.fn,[.nilFunc]⟩ (.nil) (.nil)) (.nil)) (.av 197 ⟨1,false,.fn,[.nilFunc]⟩ (.nil) (.nil))) (.av 201 ⟨1,false,.fn,[.nilFunc]⟩ (.av 199 ⟨1,false,.fn,[.nilFunc]⟩ (.nil) (.nil)) (.av 202 ⟨1,false,.fn,[.nilFunc]⟩ (.nil) (.nil)))))) (.av 223 ⟨1,false,.fn,[.nilFunc]⟩ (.av 213 ⟨2,true,.st [(0,3),(1,3)],[.int .i64 0,.int .i64 0]⟩ (.av 208 ⟨1,false,.fn,[.nilFunc]⟩ (.av 206 ⟨1,false,.fn,[.nilFunc]⟩ (.av 205 ⟨1,false,.fn,[.nilFunc]⟩ (.av 204 ⟨1,false,.fn,[.nilFunc]⟩ (.nil) (.nil)) (.nil)) (.av 207 ⟨1,false,.fn,[.nilFunc]⟩ (.nil) (.nil))) (.av 211 ⟨1,false,.fn,[.nilFunc]⟩ (.av 210 ⟨1,false,.fn,[.nilFunc]⟩ (.av 209 ⟨1,false,.fn,[.nilFunc]⟩ (.nil) (.nil)) (.nil)) (.av 212 ⟨1,false,.fn,[.nilFunc]⟩ (.nil) (.nil)))) (.av 219 ⟨4,true,.st [(0,27),(2,27)],[.string ByteArray.empty,.int .i64 0,.string ByteArray.empty,.int .i64 0]⟩ (.av 217 ⟨1,false,.fn,[.nilFunc]⟩ (.av 216 ⟨1,false,.fn,[.nilFunc]⟩ (.av 214 ⟨2,true,.st [(0,3),(1,3)],[.int .i64 0,.int .i64 0]⟩ (.nil) (.nil)) (.nil)) (.av 218 ⟨1,false,.fn,[.nilFunc]⟩ (.nil) (.nil))) (.av 221 ⟨2,true,.st [(0,102),(1,69)],[.slice none 0 0,.slice none 0 0]⟩ (.av 220 ⟨4,true,.st [(0,27),(2,27)],[.string ByteArray.empty,.int .i64 0,.string ByteArray.empty,.int .i64 0]⟩ (.nil) (.nil)) (.av 222 ⟨2,true,.st [(0,102),(1,69)],[.slice none 0 0,.slice none 0 0]⟩ (.nil) (.nil))))) (.av 232 ⟨1,false,.fn,[.nilFunc]⟩ (.av 228 ⟨1,true,.st [(0,226)],[.slice none 0 0]⟩ (.av 226 ⟨1,false,.sl 229 1 8,[.slice none 0 0]⟩ (.av 225 ⟨2,true,.ar 2 1,[.int .i64 0,.int .i64 0]⟩ (.av 224 ⟨1,false,.fn,[.nilFunc]⟩ (.nil) (.nil)) (.nil)) (.av 227 ⟨1,true,.st [(0,226)],[.slice none 0 0]⟩ (.nil) (.nil))) (.av 230 ⟨1,false,.fn,[.nilFunc]⟩ (.av 229 ⟨1,false,.int .u64,[.int .u64 0]⟩ (.nil) (.nil)) (.av 231 ⟨1,false,.fn,[.nilFunc]⟩ (.nil) (.nil)))) (.av 238 ⟨1,true,.st [(0,3)],[.int .i64 0]⟩ (.av 236 ⟨1,false,.ptr 238,[.pointer none]⟩ (.av 235 ⟨1,false,.fn,[.nilFunc]⟩ (.av 233 ⟨1,false,.fn,[.nilFunc]⟩ (.nil) (.nil)) (.nil)) (.av 237 ⟨1,true,.st [(0,3)],[.int .i64 0]⟩ (.nil) (.nil))) (.av 240 ⟨1,false,.fn,[.nilFunc]⟩ (.av 239 ⟨1,false,.fn,[.nilFunc]⟩ (.nil) (.nil)) (.av 241 ⟨1,false,.fn,[.nilFunc]⟩ (.nil) (.nil))))))) (.av 282 ⟨1,true,.st [(0,17)],[.pointer none]⟩ (.av 262 ⟨1,false,.int .u64,[.int .u64 0]⟩ (.av 252 ⟨1,false,.fn,[.nilFunc]⟩ (.av 247 ⟨1,false,.fn,[.nilFunc]⟩ (.av 245 ⟨1,false,.fn,[.nilFunc]⟩ (.av 244 ⟨1,false,.fn,[.nilFunc]⟩ (.av 243 ⟨1,false,.fn,[.nilFunc]⟩ (.nil) (.nil)) (.nil)) (.av 246 ⟨1,false,.fn,[.nilFunc]⟩ (.nil) (.nil))) (.av 250 ⟨1,false,.fn,[.nilFunc]⟩ (.av 249 ⟨1,false,.fn,[.nilFunc]⟩ (.av 248 ⟨1,false,.fn,[.nilFunc]⟩ (.nil) (.nil)) (.nil)) (.av 251 ⟨1,false,.fn,[.nilFunc]⟩ (.nil) (.nil)))) (.av 257 ⟨1,false,.fn,[.nilFunc]⟩ (.av 255 ⟨1,false,.fn,[.nilFunc]⟩ (.av 254 ⟨1,false,.fn,[.nilFunc]⟩ (.av 253 ⟨1,false,.fn,[.nilFunc]⟩ (.nil) (.nil)) (.nil)) (.av 256 ⟨1,false,.fn,[.nilFunc]⟩ (.nil) (.nil))) (.av 259 ⟨1,false,.fn,[.nilFunc]⟩ (.av 258 ⟨1,false,.fn,[.nilFunc]⟩ (.nil) (.nil)) (.av 260 ⟨1,false,.fn,[.nilFunc]⟩ (.nil) (.nil))))) (.av 273 ⟨1,false,.fn,[.nilFunc]⟩ (.av 269 ⟨1,false,.int .u64,[.int .u64 0]⟩ (.av 267 ⟨1,false,.fn,[.nilFunc]⟩ (.av 266 ⟨1,false,.fn,[.nilFunc]⟩ (.av 265 ⟨1,false,.fn,[.nilFunc]⟩ (.nil) (.nil)) (.nil)) (.av 268 ⟨1,false,.fn,[.nilFunc]⟩ (.nil) (.nil))) (.av 271 ⟨2,true,.st [(0,224),(1,266)],[.nilFunc,.nilFunc]⟩ (.av 270 ⟨1,false,.fn,[.nilFunc]⟩ (.nil) (.nil)) (.av 272 ⟨2,true,.st [(0,224),(1,266)],[.nilFunc,.nilFunc]⟩ (.nil) (.nil)))) (.av 278 ⟨1,false,.fn,[.nilFunc]⟩ (.av 276 ⟨1,false,.fn,[.nilFunc]⟩ (.av 275 ⟨1,false,.fn,[.nilFunc]⟩ (.av 274 ⟨1,false,.fn,[.nilFunc]⟩ (.nil) (.nil)) (.nil)) (.av 277 ⟨1,false,.fn,[.nilFunc]⟩ (.nil) (.nil))) (.av 280 ⟨1,false,.fn,[.nilFunc]⟩ (.av 279 ⟨1,false,.fn,[.nilFunc]⟩ (.nil) (.nil)) (.av 281 ⟨1,true,.st [(0,17)],[.pointer none]⟩ (.nil) (.nil)))))) (.av 302 ⟨1,false,.ptr 296,[.pointer none]⟩ (.av 293 ⟨1,false,.fn,[.nilFunc]⟩ (.av 287 ⟨1,false,.int .i64,[.int .i64 0]⟩ (.av 285 ⟨1,false,.int .u32,[.int .u32 0]⟩ (.av 284 ⟨1,false,.fn,[.nilFunc]⟩ (.av 283 ⟨1,false,.ptr 321,[.pointer none]⟩ (.nil) (.nil)) (.nil)) (.av 286 ⟨1,false,.fn,[.nilFunc]⟩ (.nil) (.nil))) (.av 291 ⟨1,false,.fn,[.nilFunc]⟩ (.av 290 ⟨1,false,.fn,[.nilFunc]⟩ (.av 289 ⟨1,false,.fn,[.nilFunc]⟩ (.nil) (.nil)) (.nil)) (.av 292 ⟨1,false,.fn,[.nilFunc]⟩ (.nil) (.nil)))) (.av 298 ⟨1,false,.fn,[.nilFunc]⟩ (.av 296 ⟨1,false,.int .u64,[.int .u64 0]⟩ (.av 295 ⟨1,false,.fn,[.nilFunc]⟩ (.av 294 ⟨1,false,.fn,[.nilFunc]⟩ (.nil) (.nil)) (.nil)) (.av 297 ⟨1,false,.fn,[.nilFunc]⟩ (.nil) (.nil))) (.av 300 ⟨1,false,.ptr 3,[.pointer none]⟩ (.av 299 ⟨1,false,.fn,[.nilFunc]⟩ (.nil) (.nil)) (.av 301 ⟨1,false,.fn,[.nilFunc]⟩ (.nil) (.nil))))) (.av 313 ⟨1,false,.int .u8,[.int .u8 0]⟩ (.av 307 ⟨4,true,.st [(0,17),(1,17),(2,17),(3,9)],[.pointer none,.pointer none,.pointer none,.string ByteArray.empty]⟩ (.av 305 ⟨1,false,.fn,[.nilFunc]⟩ (.av 304 ⟨1,false,.fn,[.nilFunc]⟩ (.av 303 ⟨1,false,.fn,[.nilFunc]⟩ (.nil) (.nil)) (.nil)) (.av 306 ⟨1,false,.fn,[.nilFunc]⟩ (.nil) (.nil))) (.av 309 ⟨0,true,.ar 0 1,[]⟩ (.av 308 ⟨4,true,.st [(0,17),(1,17),(2,17),(3,9)],[.pointer none,.pointer none,.pointer none,.string ByteArray.empty]⟩ (.nil) (.nil)) (.av 312 ⟨1,false,.int .u8,[.int .u8 0]⟩ (.nil) (.nil)))) (.av 318 ⟨11,true,.st [(0,12),(1,12),(2,285),(3,312),(4,5),(5,5),(6,313),(7,314),(8,315),(9,316),(10,317)],[.int .u64 0,.int .u64 0,.int .u32 0,.int .u8 0,.int .u8 0,.int .u8 0,.int .u8 0,.nilFunc,.pointer none,.int .i32 0,.int .i32 0]⟩ (.av 316 ⟨1,false,.int .i32,[.int .i32 0]⟩ (.av 315 ⟨1,false,.ptr 5,[.pointer none]⟩ (.av 314 ⟨1,false,.fn,[.nilFunc]⟩ (.nil) (.nil)) (.nil)) (.av 317 ⟨1,false,.int .i32,[.int .i32 0]⟩ (.nil) (.nil))) (.av 320 ⟨2,true,.st [(0,9),(1,313)],[.string ByteArray.empty,.int .u8 0]⟩ (.av 319 ⟨11,true,.st [(0,12),(1,12),(2,285),(3,312),(4,5),(5,5),(6,313),(7,314),(8,315),(9,316),(10,317)],[.int .u64 0,.int .u64 0,.int .u32 0,.int .u8 0,.int .u8 0,.int .u8 0,.int .u8 0,.nilFunc,.pointer none,.int .i32 0,.int .i32 0]⟩ (.nil) (.nil)) (.av 321 ⟨2,true,.st [(0,9),(1,313)],[.string ByteArray.empty,.int .u8 0]⟩ (.nil) (.nil))))))))
theorem Ax:tt.ok Tryz.prog=true:=by decide +kernel
theorem mo:Tryz.prog.follows .mixedOrders=true:=rfl
end Dv
end Go.Proofs.YtadhpeooehkklaaGreat
namespace Go.Proofs.YtadhpeooehkklaaGreat
namespace Dv
open Go
theorem eG {f:FuncId} {fn:Func} {c:Code} {args:List DV} {os:List (List DV)} {cG:List TkE} {Φ:DV->List (List DV)->List TkE->Prop} (nt:Nat) (rs:List ResultVar)
 (hf:Tryz.prog.funcs[f]? = some fn) (hb:fn.body=some c) (Ku:fn.ntmps=nt) (B8:fn.results.toList=rs)
 (h:∀ (E:En) (w:World) (hn:E.β.length=os.length) (hm:E.tk.length=cG.length),go ⟨Tryz.prog,tt,Ax,fn,nt,rs,B8,w,E,os.length,cG.length,hn,hm,false,Φ,[],[],false⟩ 5000 [.code c] ⟨argSl 0 args,os,cG⟩) (hlen:args.length<=nt:=by exact Nat.le_of_ble_eq_true rfl):Ev Tryz.prog f args os cG Φ:=XA tt Ax 5000 nt rs hf hb Ku B8 hlen h
theorem cP {X:Ctx} {st:St} {k:List It} {f:FuncId} {args bN:List DV} {d:Nat} {r:DV} (mJ:Enters X.P f) (hc:aV X.P f bN r) (hk:go X 4000 k ⟨(d,⟨[],r⟩) :: st.sl,st.bx,st.tk⟩) (ha:CcL [] 0 0 0 bN args:=by exact ax) (hd:gx X.nt st.sl (some d)=true:=by exact rfl) (bd:X.still=false:=by exact rfl):ik X f args (some d) k st:=ME mJ hc ha hd hk bd
theorem cD {X:Ctx} {st:St} {c:Bool} {s0:List (Nat×Sl)} {D:Dr} {i:Nat} {f:FuncId} {args bN:List DV} {d:Nat} {r:List (Nat×Oper)} {Cp:DV} (mJ:Enters X.P f) (hc:aV X.P f bN Cp) (hk:put2 s0 st (some d) false [] Cp (goD X D 3000 c r)) (ha:CcL [] 0 0 0 bN args:=by exact ax) (hd:(gx X.nt st.sl (some d) && gx X.nt s0 (some d))=true:=by exact rfl) (bd:X.still=false:=by exact rfl):As X D c i r f args (some d) s0 st:=aJ mJ hc ha hd hk bd
theorem dI {X:Ctx} {st:St} {k:List It} {id:Nat} {ops:Array Oper} (h:goD X ⟨ops,fun _=>false,k,st,none⟩ 3000 true (nOps 0 ops.toList) st.sl st) (hm:X.P.follows .mixedOrders=true:=by exact mo) (hc:D8 ops (fun _=>false)=true:=by decide +kernel):lS X id ops k st:=vU _ hm hc h
theorem dS {X:Ctx} {st:St} {k:List It} {id:Nat} {ops:Array Oper} (h:goD X ⟨ops,MI ops,k,st,none⟩ 3000 true (nOps 0 ops.toList) st.sl st) (hm:X.P.follows .mixedOrders=true:=by exact mo) (hc:D8 ops (MI ops)=true:=by decide +kernel):lS X id ops k st:=QG hm hc h
end Dv
end Go.Proofs.YtadhpeooehkklaaGreat
set_option maxRecDepth 100000
namespace Go.Proofs.YtadhpeooehkklaaGreat
open Go Go.RowKit Dv Go.Proofs.Tryz
theorem en7:Enters prog 7:=enters_of func7 (by decide +kernel) rfl
theorem en8:Enters prog 8:=enters_of func8 (by decide +kernel) rfl
theorem XT:Enters prog 10:=enters_of func10 (by decide +kernel) rfl
theorem en13:Enters prog 13:=enters_of func13 (by decide +kernel) rfl
theorem MO:Enters prog 14:=enters_of func14 (by decide +kernel) rfl
theorem en17:Enters prog 17:=enters_of func17 (by decide +kernel) rfl
theorem XU:Enters prog 19:=enters_of func19 (by decide +kernel) rfl
theorem en20:Enters prog 20:=enters_of func20 (by decide +kernel) rfl
theorem en21:Enters prog 21:=enters_of func21 (by decide +kernel) rfl
theorem MP:Enters prog 23:=enters_of func23 (by decide +kernel) rfl
theorem MQ:Enters prog 24:=enters_of func24 (by decide +kernel) rfl
theorem en25:Enters prog 25:=enters_of func25 (by decide +kernel) rfl
theorem en26:Enters prog 26:=enters_of func26 (by decide +kernel) rfl
theorem zO:Enters prog 27:=enters_of func27 (by decide +kernel) rfl
theorem G7:Enters prog 28:=enters_of func28 (by decide +kernel) rfl
theorem en29:Enters prog 29:=enters_of func29 (by decide +kernel) rfl
theorem en30:Enters prog 30:=enters_of func30 (by decide +kernel) rfl
theorem en31:Enters prog 31:=enters_of func31 (by decide +kernel) rfl
theorem en32:Enters prog 32:=enters_of func32 (by decide +kernel) rfl
theorem en33:Enters prog 33:=enters_of func33 (by decide +kernel) rfl
theorem QM:Enters prog 35:=enters_of func35 (by decide +kernel) rfl
theorem en36:Enters prog 36:=enters_of func36 (by decide +kernel) rfl
theorem en37:Enters prog 37:=enters_of func37 (by decide +kernel) rfl
theorem XV:Enters prog 38:=enters_of func38 (by decide +kernel) rfl
theorem XW:Enters prog 39:=enters_of func39 (by decide +kernel) rfl
theorem U3:Enters prog 40:=enters_of func40 (by decide +kernel) rfl
theorem en41:Enters prog 41:=enters_of func41 (by decide +kernel) rfl
theorem en42:Enters prog 42:=enters_of func42 (by decide +kernel) rfl
theorem QN:Enters prog 43:=enters_of func43 (by decide +kernel) rfl
theorem G8:Enters prog 44:=enters_of func44 (by decide +kernel) rfl
theorem en53:Enters prog 53:=enters_of func53 (by decide +kernel) rfl
theorem XX:Enters prog 54:=enters_of func54 (by decide +kernel) rfl
theorem en57:Enters prog 57:=enters_of func57 (by decide +kernel) rfl
theorem XY:Enters prog 58:=enters_of func58 (by decide +kernel) rfl
theorem en60:Enters prog 60:=enters_of func60 (by decide +kernel) rfl
theorem xg:Enters prog 61:=enters_of func61 (by decide +kernel) rfl
theorem QO:Enters prog 62:=enters_of func62 (by decide +kernel) rfl
theorem n8:Enters prog 63:=enters_of func63 (by decide +kernel) rfl
theorem dP:Enters prog 64:=enters_of func64 (by decide +kernel) rfl
theorem en65:Enters prog 65:=enters_of func65 (by decide +kernel) rfl
theorem en66:Enters prog 66:=enters_of func66 (by decide +kernel) rfl
theorem U4:Enters prog 67:=enters_of func67 (by decide +kernel) rfl
theorem XZ:Enters prog 68:=enters_of func68 (by decide +kernel) rfl
theorem QP:Enters prog 69:=enters_of func69 (by decide +kernel) rfl
theorem en70:Enters prog 70:=enters_of func70 (by decide +kernel) rfl
theorem X0:Enters prog 71:=enters_of func71 (by decide +kernel) rfl
theorem U5:Enters prog 72:=enters_of func72 (by decide +kernel) rfl
theorem X3:Enters prog 73:=enters_of func73 (by decide +kernel) rfl
theorem X4:Enters prog 74:=enters_of func74 (by decide +kernel) rfl
theorem X5:Enters prog 75:=enters_of func75 (by decide +kernel) rfl
theorem zP:Enters prog 76:=enters_of func76 (by decide +kernel) rfl
theorem Cs:Enters prog 77:=enters_of func77 (by decide +kernel) rfl
theorem xi:Enters prog 78:=enters_of func78 (by decide +kernel) rfl
theorem QQ:Enters prog 79:=enters_of func79 (by decide +kernel) rfl
theorem U6:Enters prog 80:=enters_of func80 (by decide +kernel) rfl
theorem X6:Enters prog 81:=enters_of func81 (by decide +kernel) rfl
theorem X7:Enters prog 82:=enters_of func82 (by decide +kernel) rfl
theorem Eh:Enters prog 83:=enters_of func83 (by decide +kernel) rfl
theorem X8:Enters prog 84:=enters_of func84 (by decide +kernel) rfl
theorem en86:Enters prog 86:=enters_of func86 (by decide +kernel) rfl
theorem X9:Enters prog 87:=enters_of func87 (by decide +kernel) rfl
theorem U7:Enters prog 88:=enters_of func88 (by decide +kernel) rfl
theorem Ya:Enters prog 89:=enters_of func89 (by decide +kernel) rfl
theorem en90:Enters prog 90:=enters_of func90 (by decide +kernel) rfl
theorem Yb:Enters prog 91:=enters_of func91 (by decide +kernel) rfl
theorem Yc:Enters prog 92:=enters_of func92 (by decide +kernel) rfl
theorem en93:Enters prog 93:=enters_of func93 (by decide +kernel) rfl
theorem G9:Enters prog 94:=enters_of func94 (by decide +kernel) rfl
theorem U8:Enters prog 95:=enters_of func95 (by decide +kernel) rfl
theorem en96:Enters prog 96:=enters_of func96 (by decide +kernel) rfl
theorem Yd:Enters prog 97:=enters_of func97 (by decide +kernel) rfl
theorem xj:Enters prog 98:=enters_of func98 (by decide +kernel) rfl
theorem MR:Enters prog 99:=enters_of func99 (by decide +kernel) rfl
theorem en100:Enters prog 100:=enters_of func100 (by decide +kernel) rfl
theorem SN:Enters prog 101:=enters_of func101 (by decide +kernel) rfl
theorem Ye:Enters prog 102:=enters_of func102 (by decide +kernel) rfl
theorem uJ:Enters prog 103:=enters_of func103 (by decide +kernel) rfl
theorem Yf:Enters prog 104:=enters_of func104 (by decide +kernel) rfl
theorem SO:Enters prog 105:=enters_of func105 (by decide +kernel) rfl
theorem Yg:Enters prog 113:=enters_of func113 (by decide +kernel) rfl
theorem Yh:Enters prog 114:=enters_of func114 (by decide +kernel) rfl
theorem Yi:Enters prog 115:=enters_of func115 (by decide +kernel) rfl
theorem Yj:Enters prog 116:=enters_of func116 (by decide +kernel) rfl
theorem MS:Enters prog 117:=enters_of func117 (by decide +kernel) rfl
theorem MT:Enters prog 118:=enters_of func118 (by decide +kernel) rfl
theorem MU:Enters prog 119:=enters_of func119 (by decide +kernel) rfl
theorem MV:Enters prog 120:=enters_of func120 (by decide +kernel) rfl
theorem SP:Enters prog 121:=enters_of func121 (by decide +kernel) rfl
theorem Ym:Enters prog 122:=enters_of func122 (by decide +kernel) rfl
theorem Yo:Enters prog 123:=enters_of func123 (by decide +kernel) rfl
theorem SQ:Enters prog 124:=enters_of func124 (by decide +kernel) rfl
theorem SR:Enters prog 125:=enters_of func125 (by decide +kernel) rfl
theorem nG:Enters prog 126:=enters_of func126 (by decide +kernel) rfl
theorem Yp:Enters prog 127:=enters_of func127 (by decide +kernel) rfl
theorem Yq:Enters prog 128:=enters_of func128 (by decide +kernel) rfl
theorem Yr:Enters prog 129:=enters_of func129 (by decide +kernel) rfl
theorem Yt:Enters prog 130:=enters_of func130 (by decide +kernel) rfl
theorem Ei:Enters prog 131:=enters_of func131 (by decide +kernel) rfl
theorem xm:Enters prog 132:=enters_of func132 (by decide +kernel) rfl
theorem Yu:Enters prog 133:=enters_of func133 (by decide +kernel) rfl
theorem Yv:Enters prog 134:=enters_of func134 (by decide +kernel) rfl
theorem SS:Enters prog 135:=enters_of func135 (by decide +kernel) rfl
theorem Je:Enters prog 136:=enters_of func136 (by decide +kernel) rfl
theorem Yw:Enters prog 137:=enters_of func137 (by decide +kernel) rfl
theorem Jf:Enters prog 138:=enters_of func138 (by decide +kernel) rfl
theorem SU:Enters prog 139:=enters_of func139 (by decide +kernel) rfl
theorem SV:Enters prog 140:=enters_of func140 (by decide +kernel) rfl
theorem SX:Enters prog 141:=enters_of func141 (by decide +kernel) rfl
theorem Yx:Enters prog 142:=enters_of func142 (by decide +kernel) rfl
theorem Jg:Enters prog 143:=enters_of func143 (by decide +kernel) rfl
theorem SY:Enters prog 144:=enters_of func144 (by decide +kernel) rfl
theorem MW:Enters prog 145:=enters_of func145 (by decide +kernel) rfl
theorem MX:Enters prog 146:=enters_of func146 (by decide +kernel) rfl
theorem Jh:Enters prog 147:=enters_of func147 (by decide +kernel) rfl
theorem Yy:Enters prog 148:=enters_of func148 (by decide +kernel) rfl
theorem MY:Enters prog 150:=enters_of func150 (by decide +kernel) rfl
theorem Yz:Enters prog 151:=enters_of func151 (by decide +kernel) rfl
theorem YA:Enters prog 152:=enters_of func152 (by decide +kernel) rfl
theorem MZ:Enters prog 153:=enters_of func153 (by decide +kernel) rfl
theorem Ji:Enters prog 154:=enters_of func154 (by decide +kernel) rfl
theorem M0:Enters prog 155:=enters_of func155 (by decide +kernel) rfl
theorem SZ:Enters prog 156:=enters_of func156 (by decide +kernel) rfl
theorem YB:Enters prog 157:=enters_of func157 (by decide +kernel) rfl
theorem YC:Enters prog 158:=enters_of func158 (by decide +kernel) rfl
theorem S0:Enters prog 159:=enters_of func159 (by decide +kernel) rfl
theorem M1:Enters prog 160:=enters_of func160 (by decide +kernel) rfl
theorem S1:Enters prog 161:=enters_of func161 (by decide +kernel) rfl
theorem S2:Enters prog 162:=enters_of func162 (by decide +kernel) rfl
theorem S3:Enters prog 163:=enters_of func163 (by decide +kernel) rfl
theorem S4:Enters prog 164:=enters_of func164 (by decide +kernel) rfl
theorem Jj:Enters prog 165:=enters_of func165 (by decide +kernel) rfl
theorem Ej:Enters prog 169:=enters_of func169 (by decide +kernel) rfl
theorem xq:Enters prog 170:=enters_of func170 (by decide +kernel) rfl
theorem YD:Enters prog 171:=enters_of func171 (by decide +kernel) rfl
theorem YE:Enters prog 172:=enters_of func172 (by decide +kernel) rfl
theorem M3:Enters prog 173:=enters_of func173 (by decide +kernel) rfl
theorem iq:Enters prog 174:=enters_of func174 (by decide +kernel) rfl
theorem YF:Enters prog 175:=enters_of func175 (by decide +kernel) rfl
theorem S5:Enters prog 176:=enters_of func176 (by decide +kernel) rfl
theorem M4:Enters prog 177:=enters_of func177 (by decide +kernel) rfl
theorem YG:Enters prog 178:=enters_of func178 (by decide +kernel) rfl
theorem S6:Enters prog 179:=enters_of func179 (by decide +kernel) rfl
theorem S7:Enters prog 180:=enters_of func180 (by decide +kernel) rfl
theorem YH:Enters prog 181:=enters_of func181 (by decide +kernel) rfl
theorem YI:Enters prog 182:=enters_of func182 (by decide +kernel) rfl
theorem Ay:Enters prog 183:=enters_of func183 (by decide +kernel) rfl
theorem uK:Enters prog 184:=enters_of func184 (by decide +kernel) rfl
theorem YJ:Enters prog 185:=enters_of func185 (by decide +kernel) rfl
theorem YK:Enters prog 186:=enters_of func186 (by decide +kernel) rfl
theorem M5:Enters prog 187:=enters_of func187 (by decide +kernel) rfl
theorem YL:Enters prog 188:=enters_of func188 (by decide +kernel) rfl
theorem YM:Enters prog 189:=enters_of func189 (by decide +kernel) rfl
theorem S8:Enters prog 190:=enters_of func190 (by decide +kernel) rfl
theorem S9:Enters prog 196:=enters_of func196 (by decide +kernel) rfl
theorem YN:Enters prog 197:=enters_of func197 (by decide +kernel) rfl
theorem eN:Enters prog 198:=enters_of func198 (by decide +kernel) rfl
theorem YO:Enters prog 199:=enters_of func199 (by decide +kernel) rfl
theorem YP:Enters prog 200:=enters_of func200 (by decide +kernel) rfl
theorem Ta:Enters prog 201:=enters_of func201 (by decide +kernel) rfl
theorem Tb:Enters prog 202:=enters_of func202 (by decide +kernel) rfl
theorem Jk:Enters prog 203:=enters_of func203 (by decide +kernel) rfl
theorem YQ:Enters prog 204:=enters_of func204 (by decide +kernel) rfl
theorem n9:Enters prog 205:=enters_of func205 (by decide +kernel) rfl
theorem M6:Enters prog 206:=enters_of func206 (by decide +kernel) rfl
theorem YR:Enters prog 207:=enters_of func207 (by decide +kernel) rfl
theorem YS:Enters prog 208:=enters_of func208 (by decide +kernel) rfl
theorem YT:Enters prog 209:=enters_of func209 (by decide +kernel) rfl
theorem YU:Enters prog 210:=enters_of func210 (by decide +kernel) rfl
theorem Tc:Enters prog 211:=enters_of func211 (by decide +kernel) rfl
theorem Td:Enters prog 231:=enters_of func231 (by decide +kernel) rfl
theorem YV:Enters prog 232:=enters_of func232 (by decide +kernel) rfl
theorem YW:Enters prog 233:=enters_of func233 (by decide +kernel) rfl
theorem M7:Enters prog 239:=enters_of func239 (by decide +kernel) rfl
theorem Ek:Enters prog 240:=enters_of func240 (by decide +kernel) rfl
theorem YX:Enters prog 241:=enters_of func241 (by decide +kernel) rfl
theorem Jl:Enters prog 243:=enters_of func243 (by decide +kernel) rfl
theorem YY:Enters prog 244:=enters_of func244 (by decide +kernel) rfl
theorem YZ:Enters prog 245:=enters_of func245 (by decide +kernel) rfl
theorem Te:Enters prog 246:=enters_of func246 (by decide +kernel) rfl
theorem Y0:Enters prog 247:=enters_of func247 (by decide +kernel) rfl
end Go.Proofs.YtadhpeooehkklaaGreat
namespace Go.Proofs.YtadhpeooehkklaaGreat
open Go Go.RowKit Dv
structure Wd where
 s:ByteArray
 a:Int
structure Hd where
 ag:Int
 ba:Int
 lo:Int
 hi:Int
 most:Int
 af:List Wd
 name:Wd
structure Ph where
 name:Wd
 bare:Bool
 label:List Wd
 wide:Int
 ck:Int
 cn:Int
 ca:Int
 cl:List Wd
mutual
inductive Ty where
 | mk (h:Hd) (ps:Pts)
inductive Pts where
 | nil
 | cons (p:Ph) (t:Ty) (r:Pts)
end
def Ty.h:Ty->Hd | .mk h _=>h
def Ty.ps:Ty->Pts | .mk _ ps=>ps
def Pts.toList:Pts->List (Ph × Ty)
 | .nil=>[]
 | .cons p t r=>(p,t) :: r.toList
def Pts.len:Pts->Nat
 | .nil=>0
 | .cons _ _ r=>r.len + 1
theorem Pts.M8:∀ ps:Pts,ps.len=ps.toList.length
 | .nil=>rfl
 | .cons _ _ r=>by simp [Pts.len,Pts.toList,Pts.M8 r]
def Wd.wt (w:Wd):Nat:=w.s.size + 64
def wdsWt:List Wd->Nat
 | []=>0
 | w :: r=>w.wt + wdsWt r
def Hd.wt (h:Hd):Nat:=256 + wdsWt h.af + h.name.wt
def Ph.wt (p:Ph):Nat:=256 + p.name.wt + wdsWt p.label + wdsWt p.cl
mutual
def Ty.wt:Ty->Nat
 | .mk h ps=>h.wt + ps.wt
def Pts.wt:Pts->Nat
 | .nil=>0
 | .cons p t r=>p.wt + t.wt + r.wt
end
theorem bP:∀ l:List Wd,64 * l.length<=wdsWt l
 | []=>aU _
 | w :: r=>by have:=bP r;simp only [List.length_cons,wdsWt,Wd.wt];omega
theorem jo:∀ {l:List Wd} {w:Wd},w∈l->w.s.size + 64<=wdsWt l
 | x :: r,w,h=>by
  rcases bL h with h | h
  ·subst h;simp only [wdsWt,Wd.wt];omega
  ·have:=jo h;simp only [wdsWt];omega
theorem Pts.gD:∀ ps:Pts,256 * ps.len<=ps.wt
 | .nil=>aU _
 | .cons p t r=>by have:=Pts.gD r;simp only [Pts.len,Pts.wt,Ph.wt];omega
theorem Pts.gY:∀ {ps:Pts} {p:Ph} {t:Ty},(p,t)∈ps.toList->p.wt + t.wt<=ps.wt
 | .cons p t r,q,u,h=>by
  rcases bL h with h | h
  ·cases h;simp only [Pts.wt];omega
  ·have:=Pts.gY h;simp only [Pts.wt];omega
theorem Ty.eO (t:Ty):256<=t.wt:=by
 cases t;simp only [Ty.wt,Hd.wt];omega
def kK (w:Wd):List DV:=[.v (.string w.s),.v (.int .i64 w.a)]
def bQ (l:List Wd):List (List DV):=l.map kK
def Ha (p:Ph) (tl:List DV):List DV:=
 .v (.string p.name.s) :: .v (.int .i64 p.name.a) :: .v (.bool p.bare) :: .sl 2 (bQ p.label) none :: .v (.int .i64 p.wide) :: .v (.int .i64 p.ck) :: .v (.int .i64 p.cn) :: .v (.int .i64 p.ca) :: .sl 2 (bQ p.cl) none :: tl
mutual
def eJ:Ty->List DV
 | .mk h ps=>[.v (.int .i64 h.ag),.v (.int .i64 h.ba),.v (.int .i64 h.lo),.v (.int .i64 h.hi),.v (.int .i64 h.most),.sl 2 (bQ h.af) none,.sl 18 (gF ps) none,.v (.string h.name.s),.v (.int .i64 h.name.a)]
def gF:Pts->List (List DV)
 | .nil=>[]
 | .cons p t r=>Ha p (eJ t) :: gF r
end
theorem aC (l:List Wd):(bQ l).length=l.length:=by simp [bQ]
theorem aR:∀ ps:Pts,(gF ps).length=ps.len
 | .nil=>by simp [gF,Pts.len]
 | .cons p t r=>by simp [gF,Pts.len,aR r]
theorem bg {l:List Wd} {j:Nat} {w:Wd} (h:l[j]? = some w):(bQ l)[j]? = some (kK w):=by simp [bQ,h]
theorem Az {l:List Wd} {e:Nat} {x:Wd} (h:l[e]? = some x):bQ (l.take e) ++ [kK x]=bQ (l.take (e + 1)):=by
 rw [List.take_add_one,h];simp [bQ]
theorem cr:∀ {ps:Pts} {j:Nat} {p:Ph} {t:Ty},ps.toList[j]? = some (p,t)->(gF ps)[j]? = some (Ha p (eJ t))
 | .nil,j,p,t,h=>by simp [Pts.toList] at h
 | .cons q u r,0,p,t,h=>by
  simp only [Pts.toList,List.getElem?_cons_zero,oI,Prod.mk.injEq] at h;obtain ⟨rfl,rfl⟩:=h;simp [gF]
 | .cons q u r,j + 1,p,t,h=>by
  simp only [Pts.toList,List.getElem?_cons_succ] at h;simp only [gF,List.getElem?_cons_succ];exact cr h
def Pts.drop:Nat->Pts->Pts
 | 0,ps=>ps
 | _ + 1,.nil=>.nil
 | e + 1,.cons _ _ r=>r.drop e
theorem Pts.drop_cons:∀ {e:Nat} {ps:Pts} {p:Ph} {t:Ty},ps.toList[e]? = some (p,t)->ps.drop e = .cons p t (ps.drop (e + 1))
 | 0,.cons q u r,p,t,h=>by
  simp only [Pts.toList,List.getElem?_cons_zero,oI,Prod.mk.injEq] at h;obtain ⟨rfl,rfl⟩:=h;rfl
 | e + 1,.cons q u r,p,t,h=>by
  simp only [Pts.toList,List.getElem?_cons_succ] at h;simp only [Pts.drop];exact Pts.drop_cons h
 | 0,.nil,p,t,h=>by simp [Pts.toList] at h
 | e + 1,.nil,p,t,h=>by simp [Pts.toList] at h
theorem Pts.dM:∀ (ps:Pts),ps.drop ps.len = .nil
 | .nil=>rfl
 | .cons _ _ r=>by simp only [Pts.len,Pts.drop];exact Pts.dM r
theorem Pts.fh {ps:Pts} {e:Nat} (h:e < ps.len):∃ p t,ps.toList[e]? = some (p,t):=by
 rw [Pts.M8] at h;exact ⟨_,_,gE h⟩
theorem drop_cons {α:Type} {l:List α} {e:Nat} {x:α} (h:l[e]? = some x):l.drop e=x :: l.drop (e + 1):=by
 obtain ⟨h1,h2⟩:=List.getElem?_eq_some_iff.1 h;rw [<- h2];exact List.drop_eq_getElem_cons h1
def az:ByteArray:=⟨#[]⟩
def M9:Hd:=⟨0,0,0,0,0,[],⟨az,0⟩⟩
def cA:Ty:=.mk M9 .nil
def fx:Ph:=⟨⟨az,0⟩,false,[],0,0,0,0,[]⟩
def fQ:Ph:=⟨⟨az,0⟩,true,[],0,0,0,0,[]⟩
theorem aK {e n:Nat} (h:e < n) (hn:n<=4611686018427387904):IntKind.i64.wrap ((e:Int) + 1)=((e + 1:Nat):Int):=by
 rw [IntWalk.i64_in _ ⟨by omega,by omega⟩];omega
theorem wrap64 {n:Int} (h1 : -9223372036854775808<=n) (h2:n<=9223372036854775807):IntKind.i64.wrap n=n:=IntWalk.i64_in n ⟨h1,h2⟩
theorem aw (x a:Bool):pickB x a false=(x && a):=by cases x<;>rfl
theorem ay (x b:Bool):pickB x true b=(x || b):=by cases x<;>rfl
end Go.Proofs.YtadhpeooehkklaaGreat
set_option maxRecDepth 100000
namespace Go.Proofs.YtadhpeooehkklaaGreat
open Go Go.RowKit Dv Go.Proofs.Tryz
def isLet (c:Int):Bool:=decide (97<=c) && decide (c<=122)
def jq (c:Int):Bool:=(isLet c || (decide (48<=c) && decide (c<=57))) || decide (c=95)
def signs:List UInt8->Nat
 | []=>0
 | c :: r=>if jq c.toNat=true then signs r + 1 else 0
def eA:List UInt8->Nat
 | []=>0
 | c :: r=>if isLet c.toNat=true then signs r + 1 else 0
def bq (s:ByteArray):Bool:=decide (0 < s.size) && (decide (s.size<=32) && decide (eA s.data.toList=s.size))
theorem El {c:Int} (h:isLet c=true):jq c=true:=by simp [jq,h]
theorem Em:∀ l:List UInt8,signs l<=l.length
 | []=>aU _
 | c :: r=>by
  simp only [signs,List.length_cons];split
  ·have:=Em r;omega
  ·omega
theorem xr {c:UInt8} {r:List UInt8} (h:isLet c.toNat=true):eA (c :: r)=signs (c :: r):=by
 simp [eA,signs,h,El h]
theorem tq {s:ByteArray} {k:Nat} (h:k < s.size):∃ c:UInt8,s.data.toList.drop k=c :: s.data.toList.drop (k + 1)/\jd s k=c.toNat:=by
 have hk:k < s.data.toList.length:=sU h;refine ⟨s.data.toList[k],by rw [<- List.drop_eq_getElem_cons hk],?_⟩;simp [jd,aH,gE hk]
theorem xu {s:ByteArray} {k:Nat} (h:s.size<=k):s.data.toList.drop k=[]:=List.drop_eq_nil_of_le (sU h)
theorem uL (c:Int):aV prog 196 [.v (.int .u8 c)] (.v (.bool (isLet c))):=by
 refine eG 9 [.tmp 2] func196 rfl ntmps196 rfl fun _ _ _ _=>?_;exact (congrArg (fun b=>DV.v (.bool b)) (aw _ _):_=_)
theorem KA (c:Int):aV prog 197 [.v (.int .u8 c)] (.v (.bool (jq c))):=by
 refine eG 17 [.tmp 2] func197 rfl ntmps197 rfl fun _ _ _ _=>?_;refine cP S9 (uL c) ?_;refine (congrArg (fun b=>DV.v (.bool b)) ?_:_=_);simp only [aw,ay,jq]
abbrev Hb (s:ByteArray) (i e:Nat):St:=⟨[(5,⟨[],.v (.int .i64 e)⟩),(0,⟨[],.v (.string s)⟩),(1,⟨[],.v (.int .i64 i)⟩)],[],[]⟩
theorem Ct (s:ByteArray) (i:Nat):s.extract i (i + 0)=⟨#[]⟩:=by
 apply ByteArray.ext;simp only [Nat.add_zero,ByteArray.extract,ByteArray.copySlice];apply Array.ext';simp
theorem KB (s:ByteArray) (i:Nat) (hi:i < s.size) (hs:s.size<=4611686018427387904):aV prog 159 [.v (.string s),.v (.int .i64 i)]
  (.tup [.v (.string (s.extract i (i + eA (s.data.toList.drop i)))),.v (.int .i64 ((i + eA (s.data.toList.drop i):Nat):Int))]):=by
 obtain ⟨c0,vW,iE⟩:=tq hi;refine eG 38 [.tmp 4,.tmp 5] func159 rfl ntmps159 rfl fun _ _ _ _=>?_;refine br (fun h=>?_) (fun _=>?_)
 ·simp [ay] at h;omega
 refine ⟨⟨by omega,by omega⟩,?_⟩;refine cP S9 (uL _) ?_;refine br ?_ ?_<;>intro h
 ·have hl:isLet (c0.toNat:Int)=false:=by
   have:(!isLet ((jd s i:Nat):Int))=true:=h;rw [iE] at this;simpa using this
  have hn:eA (s.data.toList.drop i)=0:=by rw [vW];simp [eA,hl]
  rw [hn,Ct];exact ⟨_,ax,rfl⟩
 have hl:isLet (c0.toNat:Int)=true:=by
  have:(!isLet ((jd s i:Nat):Int))=false:=h;rw [iE] at this;simpa using this
 have hn:eA (s.data.toList.drop i)=signs (s.data.toList.drop i):=by rw [vW];exact xr hl
 rw [hn]
 refine bA (fun j st=>∃ e:Nat,st=Hb s i e/\e<=s.size/\i<=e/\e + signs (s.data.toList.drop e)=i + signs (s.data.toList.drop i)/\j=s.size - e)
  (s.size - i) (Hb s i i) (aj ⟨_,rfl⟩ wA rfl rfl rfl wB) ⟨i,rfl,by omega,by omega,rfl,rfl⟩ ?_
 rintro j st ⟨e,rfl,he,zA,hinv,rfl⟩;refine br ?_ ?_<;>intro h
 ·have au:e < s.size:=sU h;refine ⟨⟨by omega,by omega⟩,?_⟩;refine cP YN (KA _) ?_;obtain ⟨c,hd,hb⟩:=tq au;refine br ?_ ?_<;>intro h2
  ·have hsg:jq (c.toNat:Int)=true:=by
    have:jq ((jd s e:Nat):Int)=true:=h2
    rwa [hb] at this
   refine ⟨Hb s i (e + 1),(aj ⟨_,rfl⟩ wA rfl rfl rfl (dy (aK au (by omega)))),s.size - (e + 1),by omega,e + 1,rfl,by omega,by omega,?_,rfl⟩;rw [hd] at hinv;simp only [signs,hsg,if_true] at hinv;omega
  ·have hsg:jq (c.toNat:Int)=false:=by
    have:jq ((jd s e:Nat):Int)=false:=h2
    rwa [hb] at this
   rw [hd] at hinv;simp only [signs,hsg] at hinv;refine ⟨⟨by omega,by omega,by omega⟩,?_⟩;have:i + signs (s.data.toList.drop i)=e:=by simp at hinv;omega
   rw [this];exact ⟨_,ax,rfl⟩
 ·have aS:e=s.size:=by simp at h;omega
  rw [xu (by omega)] at hinv;simp only [signs] at hinv;refine ⟨⟨by omega,by omega,by omega⟩,?_⟩;have:i + signs (s.data.toList.drop i)=e:=by omega
  rw [this];exact ⟨_,ax,rfl⟩
theorem take_nil (s:ByteArray) (hs:s.size=0):aV prog 159 [.v (.string s),.v (.int .i64 0)] (.tup [.v (.string ⟨#[]⟩),.v (.int .i64 0)]):=by
 refine eG 38 [.tmp 4,.tmp 5] func159 rfl ntmps159 rfl fun _ _ _ _=>?_;refine br (fun _=>?_) (fun h=>?_)
 ·exact ⟨_,ax,rfl⟩
 ·simp [ay,hs] at h
theorem Hc (l:List UInt8):eA l<=l.length:=by
 cases l with
 | nil=>exact aU _
 | cons c r=>
  simp only [eA,List.length_cons];split
  ·have:=Em r;omega
  ·omega
theorem Eo (s:ByteArray):decide (s=⟨#[]⟩)=decide (s.size=0):=by
 rw [Bool.eq_iff_iff];simp only [decide_eq_true_eq];constructor
 ·rintro rfl;rfl
 ·intro h;apply ByteArray.ext;exact Array.eq_empty_of_size_eq_zero h
theorem jr (s:ByteArray) (hs:s.size<=4611686018427387904):aV prog 94 [.v (.string s)] (.v (.bool (bq s))):=by
 refine eG 22 [.tmp 2] func94 rfl ntmps94 rfl fun _ _ _ _=>?_;by_cases h0:s.size=0
 ·refine cP S0 (take_nil s h0) ?_;refine (congrArg (fun b=>DV.v (.bool b)) ?_:_=_);simp [aw,bq,Eo,h0]
 ·refine cP S0 (KB s 0 (by omega) hs) ?_;refine (congrArg (fun b=>DV.v (.bool b)) ?_:_=_);have hl:=Hc s.data.toList;simp only [Array.length_toList,ByteArray.size_data] at hl;simp only [aw,bq,Eo,List.drop_zero,Nat.zero_add];rw [Bool.eq_iff_iff];simp only [aQ,decide_eq_true_eq,Bool.not_eq_true',decide_eq_false_iff_not];omega
abbrev Cu (s:ByteArray) (i n e:Nat):St:=⟨[(5,⟨[],.v (.int .i64 n)⟩),(6,⟨[],.v (.int .i64 e)⟩),(0,⟨[],.v (.string s)⟩),(1,⟨[],.v (.int .i64 i)⟩)],[],[]⟩
theorem Ep (s:ByteArray) (hs:s.size<=4611686018427387904):aV prog 204 [.v (.string s),.v (.int .i64 0)] (.v (.int .i64 (eA s.data.toList))):=by
 refine eG 47 [.tmp 4] func204 rfl ntmps204 rfl fun _ _ _ _=>?_
 refine bA (fun j st=>∃ e:Nat,st=Cu s 0 e e/\e<=s.size/\(e=0∨e + signs (s.data.toList.drop e)=eA s.data.toList)/\j=s.size - e)
  s.size (Cu s 0 0 0) (aj ⟨_,rfl⟩ wA rfl rfl rfl wB) ⟨0,rfl,by omega,.inl rfl,rfl⟩ ?_
 rintro j st ⟨e,rfl,he,hinv,rfl⟩;refine br ?_ ?_<;>intro h
 ·have au:e < s.size:=sU h;refine ⟨⟨by omega,by omega⟩,?_⟩;obtain ⟨c,hd,hb⟩:=tq au
  have key:eA s.data.toList=if (e=0/\isLet (c.toNat:Int)=true)∨(e≠0/\jq (c.toNat:Int)=true) then (e + 1) + signs (s.data.toList.drop (e + 1)) else e:=by
   by_cases h0:e=0
   ·subst h0;simp only [List.drop_zero] at hd;have hk:eA s.data.toList=if isLet (c.toNat:Int)=true then signs (s.data.toList.drop (0 + 1)) + 1 else 0:=congrArg eA hd
    rw [hk];by_cases hl:isLet (c.toNat:Int)=true
    ·rw [ai hl,ai (.inl ⟨rfl,hl⟩)];omega
    ·rw [ah hl,ah (by simp [hl])]
   ·have q8:=hinv.resolve_left h0;rw [hd] at q8;simp only [signs] at q8;by_cases hl:jq (c.toNat:Int)=true
    ·rw [ai hl] at q8;rw [ai (.inr ⟨h0,hl⟩)];omega
    ·rw [ah hl] at q8;rw [ah (by simp [hl,h0])];omega
  refine br ?_ ?_<;>intro h2
  ·have ll:jd s ((e:Int).toNat)=c.toNat:=hb;rw [ll] at h2
   have:eA s.data.toList=e:=by
    rw [key,ah];simp only [aw,ay,jq,isLet] at h2 ⊢;simp at h2 ⊢;omega
   rw [this];exact (rfl:_=_)
  ·have ll:jd s ((e:Int).toNat)=c.toNat:=hb;rw [ll] at h2;refine ⟨Cu s 0 (e + 1) (e + 1),(aj ⟨_,rfl⟩ wA rfl rfl rfl (dy (aK au (by omega)))),s.size - (e + 1),by omega,e + 1,rfl,by omega,.inr ?_,rfl⟩;rw [key,ai];simp only [aw,ay,jq,isLet] at h2 ⊢;simp at h2 ⊢;omega
 ·have aS:e=s.size:=by simp at h;omega
  have:eA s.data.toList=e:=by
   rcases hinv with h0 | h0
   ·subst h0;have:s.data.toList=[]:=by rw [<- List.drop_zero (l:=s.data.toList)];exact xu (by omega)
    rw [this];all_goals rfl
   ·rw [xu (by omega)] at h0;simp only [signs] at h0;omega
  rw [this];exact (rfl:_=_)
theorem jL (s:ByteArray) (hs:s.size<=4611686018427387904):aV prog 169 [.v (.string s)] (.v (.bool (bq s))):=by
 refine eG 18 [.tmp 2] func169 rfl ntmps169 rfl fun _ _ _ _=>?_;refine br ?_ ?_<;>intro h
 ·refine cP YQ (Ep s hs) ?_;refine (congrArg (fun b=>DV.v (.bool b)) ?_:_=_);rw [Bool.eq_iff_iff];simp [aw] at h;simp [aw,bq];omega
 ·refine (congrArg (fun b=>DV.v (.bool b)) ?_:_=_);rw [Bool.eq_iff_iff];simp [aw] at h;simp [aw,bq];omega
def fp (l:List ByteArray):List (List DV):=l.map fun s=>[.v (.string s)]
def dInts (l:List Nat):List (List DV):=l.map fun (i:Nat)=>[.v (.int .i64 (i:Int))]
theorem cv (l:List ByteArray):(fp l).length=l.length:=by simp [fp]
theorem bi (l:List Nat):(dInts l).length=l.length:=by simp [dInts]
theorem iG {l:List ByteArray} {j:Nat} {x:ByteArray} (h:l[j]? = some x):(fp l)[j]? = some [.v (.string x)]:=by simp [fp,h]
theorem aG {l:List Nat} {j:Nat} {x:Nat} (h:l[j]? = some x):(dInts l)[j]? = some [.v (.int .i64 (x:Int))]:=by simp [dInts,h]
abbrev He (g:Nat) (cb:List DV) (i j:Nat):St:=⟨[(1,⟨[],.fn g [] cb⟩),(5,⟨[],.v (.int .i64 i)⟩),(6,⟨[],.v (.int .i64 j)⟩)],[],[]⟩
theorem uM (g:Nat) (mJ:Enters prog g) (cb:List DV) (n m:Nat) (hn:n<=1099511627776) (hm:m<=n) (hcb:CcL [] 0 0 0 cb cb) (eK:clB.clL 0 0 cb=true)
  (hp:∀ i:Nat,i < n->aV prog g (.v (.int .i64 i) :: cb) (.v (.bool (decide (m<=i))))) :
  aV prog 161 [.v (.int .i64 n),.fn g [] cb] (.v (.int .i64 m)):=by
 refine eG 26 [.tmp 4] func161 rfl ntmps161 rfl fun _ _ _ _=>?_;have DJ:clB 0 0 (.fn g [] cb)=true:=by simp only [clB,aQ];exact ⟨rfl,eK⟩
 refine lI (fun j st=>∃ a b:Nat,st=He g cb a b/\a<=m/\m<=b/\b<=n/\j=b - a) ⟨0,n,rfl,by omega,by omega,by omega,rfl⟩ (aj ⟨_,rfl⟩ wA rfl rfl rfl (dy DJ)) ?_;rintro j st ⟨a,b,rfl,h1,h2,h3,rfl⟩;refine br ?_ ?_<;>intro h
 ·have au:a < b:=sU h
  have U9:IntKind.i64.wrap ((IntKind.u64.wrap (IntKind.i64.wrap ((a:Int) + (b:Int)))).fdiv (2 ^ (min ((1:Int).toNat) IntKind.u64.bits)))=(((a + b) / 2:Nat):Int):=by
   rw [wrap64 (n:=(a:Int) + (b:Int)) (by omega) (by omega),IntKind.wrap_u64];have e2:(2:Int) ^ (min ((1:Int).toNat) IntKind.u64.bits)=2:=by decide
   rw [e2,Int.fdiv_eq_ediv_of_nonneg _ (by decide),wrap64 (by omega) (by omega)];omega
  refine ⟨by decide,?_⟩;refine cP mJ (hp ((a + b) / 2) (by omega)) ?_ ⟨_,_,rfl,congrArg (fun z=>DV.v (.int .i64 z)) U9,hcb⟩;refine br ?_ ?_<;>intro hq
  ·have hq:(a + b) / 2 < m:=sU hq;have Ac:=aK (e:=(a + b) / 2) (n:=n) (by omega) (by omega);rw [<- U9] at Ac;refine ⟨He g cb ((a + b) / 2 + 1) b,(aj ⟨_,rfl⟩ wA rfl rfl rfl (wB2 DJ Ac)),b - ((a + b) / 2 + 1),by omega,(a + b) / 2 + 1,b,rfl,by omega,by omega,by omega,rfl⟩
  ·have hq:m<=(a + b) / 2:=sU hq;refine ⟨He g cb a ((a + b) / 2),(aj ⟨_,rfl⟩ wA rfl rfl rfl (wB2 DJ U9)),(a + b) / 2 - a,by omega,a,(a + b) / 2,rfl,by omega,by omega,by omega,rfl⟩
 ·have aS:¬ a < b:=sU h;have:a=m:=by omega
  subst this;exact (rfl:_=_)
def zQ (a b:ByteArray):Bool:=Op.bytesLess a.data.toList b.data.toList
theorem lH:∀ l:List UInt8,Op.bytesLess l l=false
 | []=>rfl
 | a :: r=>by simp [Op.bytesLess,lH r]
theorem kL:∀ {a b:List UInt8},Op.bytesLess a b=true->Op.bytesLess b a=false
 | _,[],h=>by simp [Op.bytesLess] at h
 | [],b :: r,_=>rfl
 | a :: x,b :: y,h=>by
  simp only [Op.bytesLess,Bool.or_eq_true,decide_eq_true_eq,aQ,beq_iff_eq] at h;simp only [Op.bytesLess,Bool.or_eq_false_iff,decide_eq_false_iff_not,Bool.and_eq_false_imp,beq_iff_eq];rcases h with h | ⟨rfl,h⟩
  ·refine ⟨fun h2=>?_,fun h2=>?_⟩
   ·exact absurd (UInt8.lt_trans h h2) (UInt8.lt_irrefl _)
   ·subst h2;exact absurd h (UInt8.lt_irrefl _)
  ·exact ⟨UInt8.lt_irrefl _,fun _=>kL h⟩
structure iV (L:List ByteArray) (aO:List Nat):Prop where
 lt:∀ (i p:Nat),aO[i]? = some p->p < L.length
 srt:∀ (i j p q:Nat) (s t:ByteArray),i < j->aO[i]? = some p->aO[j]? = some q->L[p]? = some s->L[q]? = some t->zQ s t=true
 fst:∀ (i p j:Nat) (s:ByteArray),aO[i]? = some p->L[p]? = some s->L[j]? = some s->p<=j
 all:∀ (j:Nat) (s:ByteArray),L[j]? = some s->∃ i p:Nat,aO[i]? = some p/\L[p]? = some s
abbrev dC (L:List ByteArray) (aO:List Nat):List DV:=[.sl 1 (fp L) none,.sl 1 (dInts aO) none]
theorem xx (L:List ByteArray) (aO:List Nat) (s:ByteArray) (i p:Nat) (t:ByteArray) (hi:aO[i]? = some p) (hp:L[p]? = some t) :
  aV prog 162 [.v (.int .i64 i),.pt [.pt (dC L aO) 0] 0,.pt [.v (.string s)] 0] (.v (.bool (!zQ t s))):=by
 refine eG 20 [.tmp 4] func162 rfl ntmps162 rfl fun _ _ _ _=>?_;refine dI ?_;refine iX (aG hi) ?_;refine iX (iG hp) ?_;exact (rfl:_=_)
theorem find_spec (L:List ByteArray) (aO:List Nat) (s:ByteArray) (q p:Nat) (hT:iV L aO) (hl:aO.length<=1099511627776) (hq:aO[q]? = some p) (hp:L[p]? = some s) :
  aV prog 98 [.pt (dC L aO) 0,.v (.string s)] (.tup [.v (.int .i64 p),.v (.bool true)]):=by
 have hqlt:=(gS hq).1;refine eG 47 [.tmp 4,.tmp 5] func98 rfl ntmps98 rfl fun _ _ _ _=>?_
 have eK:∀ i:Nat,i < aO.length->aV prog 162 [.v (.int .i64 i),.pt [.pt (dC L aO) 0] 0,.pt [.v (.string s)] 0] (.v (.bool (decide (q<=i)))):=by
  intro i hi;obtain ⟨p',qh⟩:∃ p',aO[i]? = some p':=⟨_,gE hi⟩;obtain ⟨t,ht⟩:∃ t,L[p']? = some t:=⟨_,gE (hT.lt i p' qh)⟩;have:=xx L aO s i p' t qh ht
  have e:(!zQ t s)=decide (q<=i):=by
   rcases Nat.lt_trichotomy i q with h | h | h
   ·rw [hT.srt i q p' p t s h qh hq ht hp];simp;omega
   ·subst h;rw [hq] at qh;simp only [oI] at qh;subst qh;rw [hp] at ht;simp only [oI] at ht;subst ht;rw [zQ,lH];simp
   ·have h2:=hT.srt q i p p' s t h hq qh hp ht;rw [zQ,kL h2];simp;omega
  rw [e] at this;exact this
 have hS:=uM 162 S2 [.pt [.pt (dC L aO) 0] 0,.pt [.v (.string s)] 0] aO.length q hl (by omega) ax rfl eK;refine Cq S1 hS (gU (bi aO)) rfl ?_;refine dI ?_;refine br ?_ ?_<;>intro h
 ·refine iX (aG hq) ?_;refine iX (iG hp) ?_;refine br ?_ ?_<;>intro h2
  ·exfalso;simp [ay,bi] at h2
  ·refine iX (aG hq) ?_;exact ⟨_,ax,rfl⟩
 ·exfalso;have:decide ((q:Int)=((dInts aO).length:Int))=true:=sU h;simp [bi] at this;omega
end Go.Proofs.YtadhpeooehkklaaGreat
set_option maxRecDepth 100000
namespace Go.Proofs
open Go.Shelf
def Tryz.laysGg6_ren:Go.Shelf.Ren:=⟨fun | 6=>148 | 10=>191 | 11=>192 | 12=>193 | 13=>194 | 14=>195 | 24=>221 | 25=>222 | 26=>223 | 27=>224 | 28=>225 | 29=>226 | 30=>227 | 31=>228 | 32=>229 | 33=>230 | 34=>234 | 35=>235 | 36=>236 | 37=>237 | 38=>238 | 39=>242 | n=>n,fun | 20=>20 | 26=>224 | 35=>264 | 0=>0 | 37=>266 | 3=>3 | 41=>269 | 44=>272 | 49=>285 | 51=>229 | 4=>4 | 54=>288 | 53=>287 | 58=>168 | 5=>5 | 9=>9 | 60=>296 | 64=>300 | 66=>302 | 67=>38 | 17=>17 | 32=>261 | 33=>262 | 82=>319 | 12=>12 | 75=>312 | 76=>313 | 77=>314 | 78=>315 | 79=>316 | 80=>317 | n=>n,fun | n=>n⟩
theorem Tryz.laysGg6:Go.Proofs.LaysGg.n6 prog Tryz.laysGg6_ren:={
 mixed:=by kernel_rfl
 f6:=func148.trans (congrArg some (by kernel_rfl))
 f10:=func191.trans (congrArg some (by kernel_rfl))
 f11:=func192.trans (congrArg some (by kernel_rfl))
 f12:=func193.trans (congrArg some (by kernel_rfl))
 f13:=func194.trans (congrArg some (by kernel_rfl))
 f14:=func195.trans (congrArg some (by kernel_rfl))
 f24:=func221.trans (congrArg some (by kernel_rfl))
 f25:=func222.trans (congrArg some (by kernel_rfl))
 f26:=func223.trans (congrArg some (by kernel_rfl))
 f27:=func224.trans (congrArg some (by kernel_rfl))
 f28:=func225.trans (congrArg some (by kernel_rfl))
 f29:=func226.trans (congrArg some (by kernel_rfl))
 f30:=func227.trans (congrArg some (by kernel_rfl))
 f31:=func228.trans (congrArg some (by kernel_rfl))
 f32:=func229.trans (congrArg some (by kernel_rfl))
 f33:=func230.trans (congrArg some (by kernel_rfl))
 f34:=func234.trans (congrArg some (by kernel_rfl))
 f35:=func235.trans (congrArg some (by kernel_rfl))
 f36:=func236.trans (congrArg some (by kernel_rfl))
 f37:=func237.trans (congrArg some (by kernel_rfl))
 f38:=func238.trans (congrArg some (by kernel_rfl))
 f39:=func242.trans (congrArg some (by kernel_rfl))
 t0:=Tryz.underlying0
 a0:=Tryz.isAgg0
 z0:=Tryz.sizeOf0
 v0:=Tryz.zeroValue0
 i0:=by kernel_rfl
 t3:=Tryz.underlying3
 a3:=Tryz.isAgg3
 z3:=Tryz.sizeOf3
 v3:=Tryz.zeroValue3
 i3:=by kernel_rfl
 t4:=Tryz.underlying4
 a4:=Tryz.isAgg4
 z4:=Tryz.sizeOf4
 v4:=Tryz.zeroValue4
 i4:=by kernel_rfl
 t5:=Tryz.underlying5
 a5:=Tryz.isAgg5
 z5:=Tryz.sizeOf5
 v5:=Tryz.zeroValue5
 i5:=by kernel_rfl
 t9:=Tryz.underlying9
 a9:=Tryz.isAgg9
 z9:=Tryz.sizeOf9
 v9:=Tryz.zeroValue9
 i9:=by kernel_rfl
 t12:=Tryz.underlying12
 a12:=Tryz.isAgg12
 z12:=Tryz.sizeOf12
 v12:=Tryz.zeroValue12
 i12:=by kernel_rfl
 t17:=Tryz.underlying17
 a17:=Tryz.isAgg17
 z17:=Tryz.sizeOf17
 v17:=Tryz.zeroValue17
 i17:=by kernel_rfl
 t20:=Tryz.underlying20
 a20:=Tryz.isAgg20
 z20:=Tryz.sizeOf20
 v20:=Tryz.zeroValue20
 i20:=by kernel_rfl
 t26:=Tryz.underlying224
 a26:=Tryz.isAgg224
 z26:=Tryz.sizeOf224
 v26:=Tryz.zeroValue224
 i26:=by kernel_rfl
 t32:=Tryz.underlying261
 a32:=Tryz.isAgg261
 z32:=Tryz.sizeOf261
 v32:=Tryz.zeroValue261
 i32:=by kernel_rfl
 t33:=Tryz.underlying262
 a33:=Tryz.isAgg262
 z33:=Tryz.sizeOf262
 v33:=Tryz.zeroValue262
 i33:=by kernel_rfl
 t35:=Tryz.underlying264
 a35:=Tryz.isAgg264
 z35:=Tryz.sizeOf264
 v35:=Tryz.zeroValue264
 i35:=by kernel_rfl
 t37:=Tryz.underlying266
 a37:=Tryz.isAgg266
 z37:=Tryz.sizeOf266
 v37:=Tryz.zeroValue266
 i37:=by kernel_rfl
 t41:=Tryz.underlying269
 a41:=Tryz.isAgg269
 z41:=Tryz.sizeOf269
 v41:=Tryz.zeroValue269
 i41:=by kernel_rfl
 t44:=Tryz.underlying272
 a44:=Tryz.isAgg272
 z44:=Tryz.sizeOf272
 v44:=Tryz.zeroValue272
 i44:=by kernel_rfl
 t49:=Tryz.underlying285
 a49:=Tryz.isAgg285
 z49:=Tryz.sizeOf285
 v49:=Tryz.zeroValue285
 i49:=by kernel_rfl
 t51:=Tryz.underlying229
 a51:=Tryz.isAgg229
 z51:=Tryz.sizeOf229
 v51:=Tryz.zeroValue229
 i51:=by kernel_rfl
 t53:=Tryz.underlying287
 a53:=Tryz.isAgg287
 z53:=Tryz.sizeOf287
 v53:=Tryz.zeroValue287
 i53:=by kernel_rfl
 t54:=Tryz.underlying288
 a54:=Tryz.isAgg288
 z54:=Tryz.sizeOf288
 v54:=Tryz.zeroValue288
 i54:=by kernel_rfl
 t58:=Tryz.underlying168
 a58:=Tryz.isAgg168
 z58:=Tryz.sizeOf168
 v58:=Tryz.zeroValue168
 i58:=by kernel_rfl
 t60:=Tryz.underlying296
 a60:=Tryz.isAgg296
 z60:=Tryz.sizeOf296
 v60:=Tryz.zeroValue296
 i60:=by kernel_rfl
 t64:=Tryz.underlying300
 a64:=Tryz.isAgg300
 z64:=Tryz.sizeOf300
 v64:=Tryz.zeroValue300
 i64:=by kernel_rfl
 t66:=Tryz.underlying302
 a66:=Tryz.isAgg302
 z66:=Tryz.sizeOf302
 v66:=Tryz.zeroValue302
 i66:=by kernel_rfl
 t67:=Tryz.underlying38
 a67:=Tryz.isAgg38
 z67:=Tryz.sizeOf38
 v67:=Tryz.zeroValue38
 i67:=by kernel_rfl
 t75:=Tryz.underlying312
 a75:=Tryz.isAgg312
 z75:=Tryz.sizeOf312
 v75:=Tryz.zeroValue312
 i75:=by kernel_rfl
 t76:=Tryz.underlying313
 a76:=Tryz.isAgg313
 z76:=Tryz.sizeOf313
 v76:=Tryz.zeroValue313
 i76:=by kernel_rfl
 t77:=Tryz.underlying314
 a77:=Tryz.isAgg314
 z77:=Tryz.sizeOf314
 v77:=Tryz.zeroValue314
 i77:=by kernel_rfl
 t78:=Tryz.underlying315
 a78:=Tryz.isAgg315
 z78:=Tryz.sizeOf315
 v78:=Tryz.zeroValue315
 i78:=by kernel_rfl
 t79:=Tryz.underlying316
 a79:=Tryz.isAgg316
 z79:=Tryz.sizeOf316
 v79:=Tryz.zeroValue316
 i79:=by kernel_rfl
 t80:=Tryz.underlying317
 a80:=Tryz.isAgg317
 z80:=Tryz.sizeOf317
 v80:=Tryz.zeroValue317
 i80:=by kernel_rfl
 t82:=Tryz.underlying319
 a82:=Tryz.isAgg319
 z82:=Tryz.sizeOf319
 v82:=Tryz.zeroValue319
 i82:=by kernel_rfl }
end Go.Proofs
namespace Go.Proofs.YtadhpeooehkklaaGreat
open Go Go.RowKit Go.Lib Go.Sort Go.Proofs.Tryz
noncomputable def siT:TypeInfo:=(prog.info? 69).get (by kernel_rfl)
noncomputable def W0:TypeInfo:=(prog.info? 3).get (by kernel_rfl)
theorem siK (n:Nat) (h2:2<=n):Lib.swapperK n W0 2=5:=by
 have a:W0.hasPointers=false:=by kernel_rfl
 have b:W0.bytes=8:=by kernel_rfl
 have c:(n == 0)=false:=by simp;omega
 have d:(n == 1)=false:=by simp;omega
 simp [Lib.swapperK,a,b,c,d]
theorem Na {α:Type} [Inhabited α] (enc:α->Value) (h1:∀ x,(enc x).oneCell'=true) {lt:α->α->Bool} (hO:SWO lt) (lb:Array Value) (Gz c:Nat) (d:Array α) (h2:2<=d.size) (bT:d.size < 4611686018427387904) (w:World)
  (Nb:LessReads prog 149 lb enc lt Gz 0 d.size w) (hH:Holds enc w Gz 0 d) (hblk:Gz < w.heap.size) :
  Calls prog 148 #[.iface 69 (.slice (some ⟨Gz,0,none⟩) d.size c),.func (.func 149) #[] lb] w fun e w'=>
   e = .returned (.tuple #[])/\∃ d' n os,PermIn 0 d.size d d' /\ SortedIn lt 0 d.size d' /\ w'=grow (putRow enc (Sort.ahead w n) Gz 0 d') os:=
 Any.sort_Slice_sorted Tryz.laysGg6 69 3 siT W0 (by kernel_rfl) (by kernel_rfl) (by kernel_rfl) (by kernel_rfl) 2 (fun _=>by kernel_rfl) (by kernel_rfl) (fun _=>by kernel_rfl) enc h1 lt hO 149 lb
  (enters_of func149 (by kernel_rfl) rfl) Gz 0 c d h2 bT 216 (by rw [siK _ h2];kernel_rfl) true
  (fun args W=>run_callFunc_extern func216 (by kernel_rfl) (by kernel_rfl) (by kernel_rfl) (e:=Extern.ReflectliteSwapper.swap true) (by kernel_rfl) args W) w Nb hH hblk
theorem KC (lb:Array Value) (p:Option Addr) (n c:Nat) (h1:n<=1) (w:World) :
  Calls prog 148 #[.iface 69 (.slice p n c),.func (.func 149) #[] lb] w fun e w'=>e = .returned (.tuple #[])/\∃ os,w'=grow w os:=by
 have h:n=0∨n=1:=by omega
 rcases h with rfl | rfl
 ·exact Any.sort_Slice_tiny Tryz.laysGg6 69 3 siT W0 (by kernel_rfl) (by kernel_rfl) (by kernel_rfl) (by kernel_rfl) 2 (fun _=>by kernel_rfl) p 0 c h1 212 (by kernel_rfl) _ _ _ w
 ·exact Any.sort_Slice_tiny Tryz.laysGg6 69 3 siT W0 (by kernel_rfl) (by kernel_rfl) (by kernel_rfl) (by kernel_rfl) 2 (fun _=>by kernel_rfl) p 1 c h1 213 (by kernel_rfl) _ _ _ w
end Go.Proofs.YtadhpeooehkklaaGreat
set_option maxRecDepth 100000
namespace Go.Proofs.YtadhpeooehkklaaGreat
open Go Go.RowKit Dv Go.Proofs.Tryz
theorem pP:∀ {a b:List UInt8},Op.bytesLess a b=false->a=b∨Op.bytesLess b a=true
 | [],[],_=>.inl rfl
 | a :: x,[],_=>.inr rfl
 | [],b :: r,h=>by simp [Op.bytesLess] at h
 | a :: x,b :: y,h=>by
  simp only [Op.bytesLess,Bool.or_eq_false_iff,decide_eq_false_iff_not,Bool.and_eq_false_imp,beq_iff_eq] at h;simp only [Op.bytesLess,Bool.or_eq_true,decide_eq_true_eq,aQ,beq_iff_eq];by_cases zN:a=b
  ·subst zN;rcases pP (h.2 rfl) with h2 | h2
   ·exact .inl (by rw [h2])
   ·exact .inr (.inr ⟨rfl,h2⟩)
  ·refine .inr (.inl ?_);rcases UInt8.lt_or_lt_of_ne zN with h3 | h3
   ·exact absurd h3 h.1
   ·exact h3
theorem gV:∀ {a b c:List UInt8},Op.bytesLess a b=true->Op.bytesLess b c=true->Op.bytesLess a c=true
 | _,[],_,h,_=>by simp [Op.bytesLess] at h
 | _,_ :: _,[],_,h=>by simp [Op.bytesLess] at h
 | [],b :: y,c :: z,_,_=>rfl
 | a :: x,b :: y,c :: z,h1,h2=>by
  simp only [Op.bytesLess,Bool.or_eq_true,decide_eq_true_eq,aQ,beq_iff_eq] at h1 h2 ⊢;rcases h1 with h1 | ⟨rfl,h1⟩
  ·rcases h2 with h2 | ⟨rfl,h2⟩
   ·exact .inl (UInt8.lt_trans h1 h2)
   ·exact .inl h1
  ·rcases h2 with h2 | ⟨rfl,h2⟩
   ·exact .inl h2
   ·exact .inr ⟨rfl,gV h1 h2⟩
theorem Jm {s t:ByteArray} (h:zQ s t=false):s=t∨zQ t s=true:=by
 rcases pP h with h | h
 ·exact .inl (ByteArray.ext (Array.ext' h))
 ·exact .inr h
def DM (L:List ByteArray) (p q:Nat):Bool:=
 if L.getD p az=L.getD q az then decide (p < q) else zQ (L.getD p az) (L.getD q az)
theorem QR (L:List ByteArray):Sort.SWO (DM L):=by
 have irr:∀ x,DM L x x=false:=fun x=>by simp [DM]
 have tr:∀ x y z,DM L x y=true->DM L y z=true->DM L x z=true:=by
  intro x y z h1 h2;unfold DM at *;generalize L.getD x az=a at *;generalize L.getD y az=b at *;generalize L.getD z az=c at *;by_cases zN:a=b
  ·subst zN;rw [ai rfl] at h1;by_cases Y1:a=c
   ·rw [ai Y1] at h2 ⊢;simp at h1 h2 ⊢;omega
   ·rw [ah Y1] at h2 ⊢;exact h2
  ·rw [ah zN] at h1;by_cases Y1:b=c
   ·subst Y1;rw [ah zN];exact h1
   ·rw [ah Y1] at h2
    have hac:a≠c:=by
     rintro rfl;have:=kL h1;rw [zQ,this] at h2;cases h2
    rw [ah hac];exact gV h1 h2
 have tot:∀ x y,DM L x y=false->x=y∨DM L y x=true:=by
  intro x y h;unfold DM at *;by_cases zN:L.getD x az=L.getD y az
  ·rw [ai zN] at h;rw [ai zN.symm];simp at h ⊢;omega
  ·rw [ah zN] at h;rw [ah (fun e=>zN e.symm)];rcases Jm h with h | h
   ·exact absurd h zN
   ·exact .inr h
 refine ⟨irr,tr,fun x y z h1 h2=>?_⟩;rcases tot x y h1 with rfl | h3
 ·exact h2
 ·rcases tot y z h2 with rfl | h4
  ·exact h1
  ·cases h5:DM L x z
   ·rfl
   ·have:=tr _ _ _ (tr _ _ _ h4 h3) h5;rw [irr] at this;cases this
theorem KD (L:List ByteArray) (d:List Nat) (i j p q:Nat) (hi:d[i]? = some p) (hj:d[j]? = some q) (hp:p < L.length) (hq:q < L.length) :
  EvS prog 149 [.v (.int .i64 i),.v (.int .i64 j),.pt [.sl 1 (dInts d) none] 0,.pt [.pt [.sl 1 (fp L) none,.v (.slice none 0 0)] 0] 0] [] [] (fun r _ _=>r = .v (.bool (DM L p q))):=by
 obtain ⟨s,hs⟩:∃ s,L[p]? = some s:=⟨_,gE hp⟩;obtain ⟨t,ht⟩:∃ t,L[q]? = some t:=⟨_,gE hq⟩
 have e:DM L p q=if s=t then decide (p < q) else zQ s t:=by
  simp [DM,aH,hs,ht]
 refine MC (s:=true) (P:=prog) tt Ax 5000 50 [.tmp 6] func149 rfl ntmps149 rfl (nL rfl) (fun _ _ _ _=>?_);refine dI ?_;refine iX (aG hi) ?_;refine iX (aG hj) ?_;refine dI ?_;refine iX (iG hs) ?_;refine iX (iG ht) ?_;refine br ?_ ?_<;>intro h
 ·have bF:s≠t:=sU h;refine dI ?_;refine iX (iG hs) ?_;refine iX (iG ht) ?_;refine (congrArg (fun b=>DV.v (.bool b)) ?_:_=_);rw [e,ah bF];rfl
 ·have aP:s=t:=sU h;refine (congrArg (fun b=>DV.v (.bool b)) ?_:_=_);rw [e,ai aP];simp
abbrev Nc (p:Nat):Value:=.int .i64 (p:Int)
theorem Er {E:En}:∀ {ds:List Nat} {arr:List Value},RvL E (dInts ds).flatten arr->arr=ds.map Nc
 | [],arr,h=>by simpa [dInts,RvL] using h
 | x :: r,arr,h=>by
  simp only [dInts,List.map_cons,List.flatten_cons,List.cons_append,List.nil_append,RvL] at h;obtain ⟨v,s,rfl,h1,h2⟩:=h;unfold Rv at h1;rw [h1.1,Er (ds:=r) h2];rfl
theorem xy {E:En}:∀ ds:List Nat,RvC E (dInts ds).flatten (ds.map Nc)
 | []=>⟨dh E,by simp⟩
 | x :: r=>by
  have ih:=xy (E:=E) r;refine ⟨?_,?_⟩
  ·simp only [dInts,List.map_cons,List.flatten_cons,List.cons_append,List.nil_append];exact rvL_cons (gJ rfl) ih.1
  ·intro v hv;simp only [List.map_cons,List.mem_cons] at hv;rcases hv with rfl | hv
   ·rfl
   ·exact ih.2 v hv
theorem Y2 {m:Nat}:∀ ds:List Nat,(∀ p∈ds,p < m + 1)->∃ D:List (Fin (m + 1)),D.map (·.val)=ds
 | [],_=>⟨[],rfl⟩
 | x :: r,h=>by
  obtain ⟨D,hD⟩:=Y2 r fun p hp=>h p (dj _ hp);exact ⟨⟨x,h x (by simp)⟩ :: D,by simp [hD]⟩
theorem xz {α:Type} [Inhabited α] (enc:α->Value) (w:World) (b n:Nat) (dk:Array α) (os:Array Obj) (arr:List Value) (ty:TypeId) (hw:w.heap[b]? = some (.cells arr.toArray ty (0,0))) (hl:arr.length=dk.size) :
  ∀ k,k < w.heap.size->(Sort.grow (Sort.putRow enc (Sort.ahead w n) b 0 dk) os).heap[k]? = (World.dX w b (.cells (dk.toList.map enc).toArray ty (0,0))).heap[k]?:=by
 intro k hk;simp only [Sort.grow,Sort.putRow,Sort.mapBlock,Sort.ahead];rw [Array.getElem?_append_left (sU hk),Array.getElem?_modify];by_cases KE:b=k
 ·subst KE;rw [ai rfl,hw,ij hw];simp only [Option.map_some,Sort.onCells,oI,Obj.cells.injEq,and_true];apply Array.ext_getElem?;intro j;simp only [Sort.putCells,Array.getElem?_mapIdx];rcases Nat.lt_or_ge j dk.size with hj | hj
  ·have h1:j < arr.length:=by omega
   simp [h1,hj]
  ·have h1:arr.length<=j:=by omega
   simp [h1,hj]
 ·rw [ah KE,dr (Ne.symm KE)]
theorem Nf {α:Type} {l:List α} {i:Nat} {x:α} (h:l[i]? = some x):l.set i x=l:=by
 apply List.ext_getElem?;intro j;by_cases hj:j=i
 ·subst hj;rw [cO (gS h).1,h]
 ·rw [List.getElem?_set_ne (Ne.symm hj)]
theorem KF {X:Ctx} {st:St} {k:List It} (hP:X.P=prog) {i c len:Nat} {ds:List Nat} (hlen:len=ds.length) {lbD:List DV} {d:Nat} (N:Nat) (hN:∀ p∈ds,p < N) (lt:Nat->Nat->Bool) (hO:Sort.SWO lt)
  (vw:st.bx[i]? = some (dInts ds).flatten) (hn:ds.length<=1099511627776) (lbF:List Nat->List DV) (QS:∀ dk:List Nat,dk.length=ds.length->CcL (st.bx.set i (dInts dk).flatten) 0 0 0 (lbF dk) lbD)
  (Nb:∀ dk:List Nat,dk.length=ds.length->(∀ p∈dk,p < N)->∀ i j p q:Nat,dk[i]? = some p->dk[j]? = some q->EvS prog 149 (.v (.int .i64 i) :: .v (.int .i64 j) :: lbF dk) [] [] (fun r _ _=>r = .v (.bool (lt p q))))
  (hd:gx X.nt st.sl (some d)=true)
  (hk:∀ Va:List Nat,Va.Perm ds->(∀ i j p q:Nat,i < j->Va[i]? = some p->Va[j]? = some q->lt q p=false)->go X 4000 k ⟨(d,⟨[],.tup []⟩) :: st.sl,st.bx.set i (dInts Va).flatten,st.tk⟩)
  (bd:X.still=false:=by exact rfl) (hX:X.bt=[]:=by exact rfl):ik X 148 [.sM 69 (.ms i 1 0 len c),.fn 149 [] lbD] (some d) k st:=by
 subst hlen;refine ⟨?_,bd,fun E a w vs h hv=>?_⟩
 ·rw [hP];exact Yy
 rw [hP];simp only [RvL] at hv;obtain ⟨v1,_,rfl,h1,v2,_,rfl,h2,rfl⟩:=hv;unfold Rv at h1;obtain ⟨z,rfl,h1⟩:=h1;unfold Rv at h1;obtain ⟨b,ad,hb,WR,rfl,hca⟩:=h1;unfold Rv at h2;obtain ⟨l,r,rfl,hl,hr⟩:=h2;simp only [RvL] at hl;subst hl;obtain ⟨b',ty,arr,gA,hw,uG⟩:=h.env.fm i _ vw;rw [hb] at gA;simp only [oI] at gA;subst gA;have Ng:=Er uG.1;have U0:=dE hw;by_cases h1:ds.length<=1
 ·refine (KC r.toArray ad ds.length c h1 w).mono ?_;rintro e w' ⟨rfl,os,rfl⟩
  have hh:∀ j,j < w.heap.size->(Sort.grow w os).heap[j]? = w.heap[j]?:=fun j hj=>by
   simp only [Sort.grow];rw [Array.getElem?_append_left hj]
  have cj:Rel X E st a (Sort.grow w os):=dF h (Ext.refl E) (h.env.ke hh) h.tk h.nw (h.fr.dn rfl rfl rfl (by simp [Sort.grow]) fun j hj=>.inr (hh j hj)) (nX bd) (.nil hX);have MK:=hk ds (List.Perm.refl _) (fun i j p q jF _ hj=>by have:=(gS hj).1;omega);rw [Nf vw] at MK;exact go_sound 4000 _ _ MK E _ _ (bM cj hd (.tup []) (.tuple #[]) (by unfold Rv;exact ⟨[],rfl,dh E⟩))
 ·have h2:2<=ds.length:=by omega
  have Xu:=hca (by omega);subst Xu
  obtain ⟨m,rfl⟩:∃ m,N=m + 1:=by
   cases DG:ds with
   | nil=>rw [DG] at h2;simp at h2
   | cons x r=>have:=hN x (by rw [DG];simp);exact ⟨N - 1,by omega⟩
  obtain ⟨D,hD⟩:=Y2 ds hN;have Qe:D.length=ds.length:=by rw [<- hD];simp
  let enc:Fin (m + 1)->Value:=fun x=>Nc x.val
  have hO':Sort.SWO (fun x y:Fin (m + 1)=>lt x.val y.val):=⟨fun x=>hO.irrefl _,fun x y z=>hO.trans _ _ _,fun x y z=>hO.ntrans _ _ _⟩;have Y3:∀ l:List (Fin (m + 1)),l.map enc=(l.map (·.val)).map Nc:=fun l=>by simp [enc]
  have hS:=Na enc (fun _=>rfl) hO' r.toArray b c D.toArray (by simpa [Qe] using h2) (by simp [Qe];omega) w ?_ ?_ U0
  ·simp only [List.size_toArray,Qe] at hS;refine hS.mono ?_;rintro e w' ⟨rfl,d',n,os,hp,hs,rfl⟩;have bT:d'.size=ds.length:=by have:=hp.1;simpa [Qe] using this
   have pQ:(d'.toList.map (·.val)).Perm ds:=by
    have h3:=hp.2.2;have e1:d'.extract 0 ds.length=d':=Array.extract_eq_self_of_le (by omega);have e2:D.toArray.extract 0 ds.length=D.toArray:=Array.extract_eq_self_of_le (by simp [Qe]);rw [e1,e2] at h3;rw [<- hD];exact h3.map _
   have KG:∀ i j p q:Nat,i < j->(d'.toList.map (·.val))[i]? = some p->(d'.toList.map (·.val))[j]? = some q->lt q p=false:=by
    intro i j p q jF hi hj;have nY:j < d'.size:=by have:=(gS hj).1;simpa using this
    have h3:=hs i j (Nat.zero_le _) jF (by omega);rw [getElem!_pos d' j nY,getElem!_pos d' i (by omega)] at h3;have Et:i < d'.size:=by omega
    simp [Et] at hi;simp [nY] at hj;rw [<- hi,<- hj];exact h3
   have hh:=xz enc w b n d' os arr ty hw (by rw [Ng];simp [bT]);have fC:=sR (ty:=ty) h bd hb (cs':=(dInts (d'.toList.map (·.val))).flatten) (arr':=(d'.toList.map (·.val)).map Nc) (xy _) ⟨_,hw⟩;rw [<- Y3] at fC;have nT:(Sort.grow (Sort.putRow enc (Sort.ahead w n) b 0 d') os).heap.size=w.heap.size + os.size:=by simp [Sort.grow,Sort.putRow,Sort.mapBlock,Sort.ahead]
   have cj:=dF fC (Ext.refl E) (w':=Sort.grow (Sort.putRow enc (Sort.ahead w n) b 0 d') os) (fC.env.ke fun j hj=>hh j (by rwa [fK] at hj)) fC.tk fC.nw
    (fC.fr.dn rfl rfl rfl (by rw [fK,nT];omega) fun j hj=>.inr (hh j (by rwa [fK] at hj))) (nX bd) (.nil hX)
   exact go_sound 4000 _ _ (hk _ pQ KG) E _ _ (bM cj hd (.tup []) (.tuple #[]) (by unfold Rv;exact ⟨[],rfl,dh E⟩))
  ·intro mm os dk hs i' j' hi hj;have bT:dk.size=ds.length:=sV Qe hs;have hh:=xz enc w b mm dk os arr ty hw (by rw [Ng];simp [bT]);have hE:=h.env.set hb U0 (ty:=ty) (xy (E:=E) (dk.toList.map (·.val)));rw [<- Y3] at hE;have hE':=hE.ke (w':=Go.Proofs.sortWorld enc w b 0 mm dk os) fun j hj=>hh j (by rwa [fK] at hj);have Et:i' < dk.size:=by rw [bT,<- Qe];simpa using hi
   have nY:j' < dk.size:=by rw [bT,<- Qe];simpa using hj
   have hLL:(dk.toList.map (·.val)).length=ds.length:=sU bT
   have hc:=Nb (dk.toList.map (·.val)) hLL (fun p hp=>by
    obtain ⟨x,_,rfl⟩:=List.mem_map.1 hp
    exact x.isLt) i' j' (dk[i']!).val (dk[j']!).val (by rw [getElem!_pos dk i' Et];simp [Et]) (by rw [getElem!_pos dk j' nY];simp [nY])
   have hv:RvL E (.v (.int .i64 (i':Int)) :: .v (.int .i64 (j':Int)) :: lbD) (.int .i64 (i':Int) :: .int .i64 (j':Int) :: r):=rvL_cons (gJ rfl) (rvL_cons (gJ rfl) hr);have hb:=kg hE' hc ⟨_,_,rfl,rfl,_,_,rfl,rfl,QS _ hLL⟩ hv;have hargs:(#[Value.int .i64 (i':Int),Value.int .i64 (j':Int)] ++ r.toArray)=(Value.int .i64 (i':Int) :: Value.int .i64 (j':Int) :: r).toArray:=by simp
   rw [hargs];refine hb.mono ?_;rintro e w' ⟨v,E2,rfl,Tf,_,hs2⟩;have:=cH Tf;subst this;exact ⟨rfl,hs2 rfl⟩
  ·intro j hj;have nY:j < D.length:=sU hj;rw [cT hw,Nat.zero_add,Ng];refine ⟨?_,?_⟩
   ·rw [getElem!_pos D.toArray j hj,<- hD];simp [nY,enc]
   ·simp [World.frozen?,hw]
end Go.Proofs.YtadhpeooehkklaaGreat
