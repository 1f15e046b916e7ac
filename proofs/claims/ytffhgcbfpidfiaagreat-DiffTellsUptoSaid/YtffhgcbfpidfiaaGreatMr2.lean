/- Part 2 of the proof: The evaluator 'go' is sound: the end of a call, the theorem; contracts; rules for branches, calls, loops; Rules for the evaluator: what is known made less, loops; A region that draws its order: where the operations with an effect are ordered among themselves, and what writes waits for all that reads, one run in the order of the text serves every order; The evaluator at regions that draw their order: one run in the order of the text; what is read is what was known at the region's beginning; A region that draws its order, in which two operations with an effect are not ordered: the run in either order of these two serves every order; Rules for the evaluator: a call that is handed the caller's own objects, to read them; Rules for the evaluator: objects that are written no more are frozen, ahead of a loop; Rules for the evaluator: a call that is handed one of the caller's objects, to write it; The table of this program's types, by which the evaluator goes; The program's functions are entered; The data of the document's types, plain, and as the evaluator has them; Names: the program's and the reference's functions say the same of a text; sort.Search; the program's table of texts: Find; The library's sort.Slice, laid at this program by the kit's tool (lay-plain; wip/tools/lay.sh); The order of the table; the closure handed to sort.Slice. No condition. -/
import Derived.Test.YtffhgcbfpidfiaaGreatProg
import Derived.Shelf.GgSortFunc.Whole
import Derived.Shelf.GgSortFunc.Tiny
import Derived.Test.YtffhgcbfpidfiaaGreatMr1
set_option linter.all false
namespace Go.Proofs.YtffhgcbfpidfiaaGreat
namespace Dv
open Go Go.RowKit
structure LV (E E':En) (bx:List (List DV)) (N:Nat):Prop where
 c:∀ a v,E.c a=some v->E'.c a=some v
 fz:∀ (i:Nat) cs,N<=i->bx[i]? = some cs->∃ b arr,E.β[i]? = some b/\RvC E cs arr/\∀ (j:Nat) u,arr[j]? = some u->E'.c ⟨b,j,none⟩=some u
theorem LV.cl {E E':En} {bx:List (List DV)} {N:Nat} (h:LV E E' bx N):LV E E'.cl bx N:=⟨h.c,h.fz⟩
structure H9 (E E':En) (n0 m0:Nat):Prop where
 β:∀ (i:Nat) b,i < n0->E.β[i]? = some b->E'.β[i]? = some b
 tk:∀ k,k < m0->E'.tk[k]? = E.tk[k]? /\ E'.τ[k]? = E.τ[k]?
theorem H9.zero (E E':En):H9 E E' 0 0:=⟨fun _ _ h=>absurd h (Nat.not_lt_zero _),fun _ h=>absurd h (Nat.not_lt_zero _)⟩
theorem Ext.Q4 (E:En):Ext E.cl E:=⟨fun _ _ h=>h,fun j b hj=>by simp [En.cl] at hj,fun k q hk=>by simp [En.cl] at hk⟩
theorem Co {E E':En} (hm:∀ e b o es,RvEs E.cl e b o es->RvEs E'.cl e b o es):∀ {l:List DV} {arr:List Value},(∀ x∈l,(∃ y,x = .v y)∨∃ e' BV,x = .sl e' BV none)->RvL E l arr->RvL E' l arr
 | [],arr,_,h=>by simp only [RvL] at h ⊢;exact h
 | d :: r,arr,hs,h=>by
  simp only [RvL] at h ⊢;obtain ⟨v,s,rfl,h1,h2⟩:=h;refine ⟨v,s,rfl,?_,Co hm (fun x hx=>hs x (List.mem_cons_of_mem _ hx)) h2⟩;rcases hs d (by simp) with ⟨y,rfl⟩ | ⟨e',BV,rfl⟩
  ·unfold Rv at h1 ⊢;exact h1
  ·unfold Rv at h1 ⊢;obtain ⟨b,n,cap,h3,h4,h5,_⟩:=h1;exact ⟨b,n,cap,h3,h4,fun hn=>⟨(h5 hn).1,hm _ _ _ _ (h5 hn).2⟩,fun k hk=>by cases hk⟩
theorem CcL.length {bx:List (List DV)} {N n0 m0:Nat}:∀ {l' l:List DV},CcL bx N n0 m0 l' l->l'.length=l.length
 | [],l,h=>by simp only [CcL] at h;subst h;rfl
 | d' :: r',l,h=>by
  simp only [CcL] at h;obtain ⟨d,r,rfl,_,h2⟩:=h;simp [CcL.length h2]
theorem CcE.length {bx:List (List DV)} {N:Nat}:∀ {l' l:List (List DV)},CcE bx N l' l->l'.length=l.length
 | [],l,h=>by simp only [CcE] at h;subst h;rfl
 | d' :: r',l,h=>by
  simp only [CcE] at h;obtain ⟨d,r,rfl,_,h2⟩:=h;simp [CcE.length h2]
mutual
theorem Cc.sound {bx:List (List DV)} {N:Nat} {E:En}:∀ {d':DV} {E':En} {n0 m0:Nat} {d:DV} {v:Value},LV E E' bx N->H9 E E' n0 m0->Cc bx N n0 m0 d' d->Rv E d v->Rv E' d' v
 | .v y,E',n0,m0,d,v,hf,hl,h,hv=>by
  simp only [Cc] at h;subst h;unfold Rv at hv ⊢;exact hv
 | .ud,E',n0,m0,d,v,hf,hl,h,hv=>by
  simp only [Cc] at h;subst h;unfold Rv at hv ⊢;exact hv
 | .agg l',E',n0,m0,d,v,hf,hl,h,hv=>by
  simp only [Cc] at h;obtain ⟨l,rfl,h⟩:=h;unfold Rv at hv ⊢;obtain ⟨vs,h1,h2,h3⟩:=hv;exact ⟨vs,h1,CcL.sound hf hl h h2,h3⟩
 | .tup l',E',n0,m0,d,v,hf,hl,h,hv=>by
  simp only [Cc] at h;obtain ⟨l,rfl,h⟩:=h;unfold Rv at hv ⊢;obtain ⟨vs,h1,h2⟩:=hv;exact ⟨vs,h1,CcL.sound hf hl h h2⟩
 | .sl e es tk,E',n0,m0,d,v,hf,hl,h,hv=>by
  have hm:∀ b o,RvEs E.cl e b o es->RvEs E'.cl e b o es:=fun b o hr=>RvEs.mono (Ext.HV hf.c) hr
  cases tk with
  | none=>
   simp only [Cc] at h;rcases h with ⟨rfl,rfl⟩ | ⟨bU,rfl⟩ | ⟨i,off,c,cs,rfl,hi,cG,Mm,j1,H7⟩ | ⟨es0,bU,rfl,h⟩
   ·have:=bq hv;subst this;unfold Rv;exact ⟨none,0,0,rfl,⟨rfl,Nat.le_refl _⟩,fun hn=>(hn rfl).elim,fun k hk=>by cases hk⟩
   ·unfold Rv at hv ⊢;obtain ⟨b,n,cap,h1,h2,h3,_⟩:=hv;exact ⟨b,n,cap,h1,h2,fun hn=>⟨(h3 hn).1,hm _ _ (h3 hn).2⟩,fun k hk=>by cases hk⟩
   ·obtain ⟨b,arr,hb,hc,hmm⟩:=hf.fz i cs hi cG;unfold Rv at hv ⊢;obtain ⟨b',ad,dO,Xx,rfl,hca⟩:=hv;rw [hb] at dO;simp only [oI] at dO;subst dO;refine ⟨ad,es.length,c,rfl,⟨rfl,Xx⟩,fun hn=>?_,fun k hk=>by cases hk⟩;have kx:0 < es.length:=List.length_pos_iff.2 hn;have Yo:=hca (by omega);subst Yo;refine ⟨rfl,?_⟩;have h1:=(hc.drop off).take (es.length * e);rw [<- Mm] at h1;refine rvEs_flat ⟨Co (E':=E'.cl) (fun e b o es hr=>(RvEs.mono (Ext.HV hf.c) hr:RvEs E'.cl e b o es)) H7 h1.1,h1.2⟩ j1 fun j u hj=>?_;rw [List.getElem?_take] at hj;split at hj
    ·rw [List.getElem?_drop] at hj;exact hmm (off + j) u hj
    ·cases hj
   ·have hlen:=CcE.length h;have hs:=fun b o=>CcE.sound (e:=e) (b:=b) (o:=o) hf h;unfold Rv at hv ⊢;obtain ⟨b,n,cap,h1,h2,h3,_⟩:=hv;refine ⟨b,n,cap,h1,by omega,fun hn=>?_,fun k hk=>by cases hk⟩;have jt:es0 ≠ []:=fun hc=>hn (List.eq_nil_of_length_eq_zero (by rw [hlen,hc];rfl));exact ⟨(h3 jt).1,hs _ _ (h3 jt).2⟩
  | some k=>
   simp only [Cc] at h;obtain ⟨hk,rfl⟩:=h;unfold Rv at hv ⊢;obtain ⟨b,n,cap,h1,h2,h3,h4⟩:=hv;refine ⟨b,n,cap,h1,h2,fun hn=>⟨(h3 hn).1,hm _ _ (h3 hn).2⟩,fun k' fF=>?_⟩;cases fF;obtain ⟨e1,e2⟩:=hl.tk k hk;obtain ⟨q,h5,h6,h7⟩:=h4 k rfl;exact ⟨q,by rw [e1];exact h5,h6,fun hh=>by rw [e2];exact h7 hh⟩
 | .pt cs' o,E',n0,m0,d,v,hf,hl,h,hv=>by
  simp only [Cc] at h;rcases h with rfl | ⟨i,cs,rfl,hi,cG,h⟩
  ·unfold Rv at hv ⊢;obtain ⟨b,p,h1,h2⟩:=hv;exact ⟨b,p,h1,RvAt.mono (Ext.HV hf.c) h2⟩
  ·obtain ⟨b,arr,hb,hc,hm⟩:=hf.fz i cs hi cG;unfold Rv at hv ⊢;obtain ⟨b',dO,rfl⟩:=hv;rw [hb] at dO;simp only [oI] at dO;subst dO;refine ⟨b,0,by simp,?_⟩;have:=CcL.sound hf.cl (H9.zero E E'.cl) h hc.1;exact Ao ⟨this,hc.2⟩ fun j u hj=>by rw [Nat.zero_add];exact hm j u hj
 | .loc i o,E',n0,m0,d,v,hf,hl,h,hv=>by
  simp only [Cc] at h;obtain ⟨hi,rfl⟩:=h;unfold Rv at hv ⊢;obtain ⟨b,hb,h1⟩:=hv;exact ⟨b,hl.β i b hi hb,h1⟩
 | .el i o,E',n0,m0,d,v,hf,hl,h,hv=>by
  simp only [Cc] at h;obtain ⟨hi,rfl⟩:=h;unfold Rv at hv ⊢;obtain ⟨b,hb,h1⟩:=hv;exact ⟨b,hl.β i b hi hb,h1⟩
 | .ms i e o l c,E',n0,m0,d,v,hf,hl,h,hv=>by
  simp only [Cc] at h;obtain ⟨hi,rfl⟩:=h;unfold Rv at hv ⊢;obtain ⟨b,ad,hb,h1⟩:=hv;exact ⟨b,ad,hl.β i b hi hb,h1⟩
 | .fn f a' b',E',n0,m0,d,v,hf,hl,h,hv=>by
  simp only [Cc] at h;obtain ⟨a,b,rfl,ha,hb⟩:=h;unfold Rv at hv ⊢;obtain ⟨l,r,h1,h2,h3⟩:=hv;exact ⟨l,r,h1,CcL.sound hf hl ha h2,CcL.sound hf hl hb h3⟩
 | .pI t x',E',n0,m0,d,v,hf,hl,h,hv=>by
  simp only [Cc] at h;obtain ⟨x,rfl,hx⟩:=h;unfold Rv at hv ⊢;obtain ⟨z,h1,h2⟩:=hv;exact ⟨z,h1,Cc.sound hf hl hx h2⟩
theorem CcL.sound {bx:List (List DV)} {N:Nat} {E:En}:∀ {l':List DV} {E':En} {n0 m0:Nat} {l:List DV} {vs:List Value},LV E E' bx N->H9 E E' n0 m0->CcL bx N n0 m0 l' l->RvL E l vs->RvL E' l' vs
 | [],E',n0,m0,l,vs,hf,hl,h,hv=>by
  simp only [CcL] at h;subst h;simp only [RvL] at hv ⊢;exact hv
 | d' :: r',E',n0,m0,l,vs,hf,hl,h,hv=>by
  simp only [CcL] at h;obtain ⟨d,r,rfl,h1,h2⟩:=h;simp only [RvL] at hv ⊢;obtain ⟨v,s,h3,h4,h5⟩:=hv;exact ⟨v,s,h3,Cc.sound hf hl h1 h4,CcL.sound hf hl h2 h5⟩
theorem CcA.sound {bx:List (List DV)} {N:Nat} {E:En}:∀ {l':List DV} {E':En} {l:List DV} {b p:Nat},LV E E' bx N->CcL bx N 0 0 l' l->RvAt E.cl b p l->RvAt E'.cl b p l'
 | [],E',l,b,p,hf,h,hv=>by simp only [RvAt]
 | d' :: r',E',l,b,p,hf,h,hv=>by
  simp only [CcL] at h;obtain ⟨d,r,rfl,h1,h2⟩:=h;simp only [RvAt] at hv ⊢;obtain ⟨⟨v,h3,h4,h5⟩,h6⟩:=hv;exact ⟨⟨v,hf.c _ _ h3,h4,Cc.sound hf.cl (H9.zero E E'.cl) h1 (Rv.mono (Ext.Q4 E) h5)⟩,CcA.sound hf h2 h6⟩
theorem CcE.sound {bx:List (List DV)} {N:Nat} {E:En}:∀ {l':List (List DV)} {E':En} {l:List (List DV)} {e b o:Nat},LV E E' bx N->CcE bx N l' l->RvEs E.cl e b o l->RvEs E'.cl e b o l'
 | [],E',l,e,b,o,hf,h,hv=>by simp only [RvEs]
 | a' :: r',E',l,e,b,o,hf,h,hv=>by
  simp only [CcE] at h;obtain ⟨a,r,rfl,h1,h2⟩:=h;simp only [RvEs] at hv ⊢;obtain ⟨h3,h4,h5⟩:=hv;refine ⟨?_,?_,CcE.sound hf h2 h5⟩
  ·rcases h1 with rfl | h1
   ·exact h3
   ·rw [CcL.length h1];exact h3
  ·rcases h1 with rfl | h1
   ·exact RvAt.mono (Ext.HV hf.c) h4
   ·exact CcA.sound hf h1 h4
end
theorem Te {E:En} {e:Nat} {es BV:List (List DV)} {tk:Option Nat} {v:Value} (h:CcE [] 0 BV es) (hv:Rv E (.sl e es tk) v):Rv E (.sl e BV tk) v:=by
 have hlen:=CcE.length h;have hs:=fun b o=>CcE.sound (E:=E) (E':=E) (bx:=[]) (N:=0) (e:=e) (b:=b) (o:=o) ⟨fun _ _ h=>h,fun i cs _ hi=>by simp at hi⟩ h;unfold Rv at hv ⊢;obtain ⟨b,n,cap,h1,h2,h3,h4⟩:=hv;refine ⟨b,n,cap,h1,by omega,fun hn=>?_,h4⟩;have jt:es ≠ []:=fun hc=>hn (List.eq_nil_of_length_eq_zero (by rw [hlen,hc];rfl));exact ⟨(h3 jt).1,hs _ _ (h3 jt).2⟩
theorem lB.get {bx:List (List DV)} {N n0 m0:Nat}:∀ {l' l:List (List DV)},lB bx N n0 m0 l' l->l'.length=l.length/\∀ (i:Nat) cs',l'[i]? = some cs' -> ∃ cs,l[i]? = some cs/\CcL bx N n0 m0 cs' cs
 | [],l,h=>by simp only [lB] at h;subst h;exact ⟨rfl,by simp⟩
 | a' :: r',l,h=>by
  simp only [lB] at h;obtain ⟨a,r,rfl,h1,h2⟩:=h;obtain ⟨h3,h4⟩:=lB.get h2;refine ⟨by simp [h3],fun i cs' hi=>?_⟩
  cases i with
  | zero=>simp only [List.getElem?_cons_zero,oI] at hi;subst hi;exact ⟨a,rfl,h1⟩
  | succ i=>simp only [List.getElem?_cons_succ] at hi ⊢;exact h4 i cs' hi
open Classical in
noncomputable def rz (E:En) (n:Nat) (w:World):Addr->Option Value:=
 fun a=>if ∃ i:Nat,n<=i/\E.β[i]? = some a.block then w.cell? a else E.c a
section
variable {X:Ctx} {E:En} {st:St} {a:Act} {w:World}
theorem eB {n:Nat} {x:Addr} {v:Value} (h:rz E n w x=some v):((∃ i:Nat,n<=i/\E.β[i]? = some x.block)/\w.cell? x=some v)∨E.c x=some v:=by
 unfold rz at h;split at h
 ·rename_i hc;exact .inl ⟨hc,h⟩
 ·exact .inr h
theorem lH {bx:List (List DV)} (h:Env E bx w) {n:Nat} {x:Addr} {v:Value} (hx:E.c x=some v):rz E n w x=some v:=by
 unfold rz;split
 ·exact h.sub x v hx
 ·exact hx
theorem Aw (h:Rel X E st a w) {d d':DV} {os:List (List DV)} {v:Value} (hv:Rv E d v) (M:Nat) (hM:(X.fr=false/\M=X.m0)∨(X.fr=true/\M=st.tk.length)) (hd:Cc st.bx X.n0 X.n0 M d' d) (uQ:lB st.bx X.n0 X.n0 M os (st.bx.take X.n0)) (hΦ:X.Φ d' os (st.tk.take M)):Ce X.still X.E0 X.w0 X.Φ v w X.fr:=by
 obtain ⟨r,Q5,hβl⟩:=h.nw.β;have gH:E.β.take X.n0=X.E0.β:=by rw [Q5,<- X.jt];simp
 have jl:∀ (i:Nat) b,i < X.n0->E.β[i]? = some b->X.E0.β[i]? = some b:=fun i b hi hb=>by
  rw [<- gH,List.getElem?_take,if_pos hi];exact hb
 have eo:∀ (i:Nat) b,X.n0<=i->E.β[i]? = some b->b∈r:=fun i b hi hb=>by
  rw [Q5,List.getElem?_append_right (by rw [X.jt];exact hi)] at hb;exact mG hb
 have U4:∀ b,b∈X.E0.β->b∈r->False:=fun b h1 h2=>by
  have:=h.env.inj;rw [Q5] at this;exact (List.nodup_append.1 this).2.2 b h1 b h2 rfl
 have hE0l:X.E0.τ.length=X.m0:=by rw [h.nw.l0,X.jG]
 have hEt:X.m0<=E.tk.length:=by
  rcases Nat.lt_or_ge E.tk.length X.m0 with h1 | h1
  ·have hk:E.tk.length < X.E0.tk.length:=by rw [X.jG];exact h1
   have fF:E.tk.length < X.E0.τ.length:=by rw [h.nw.l0];exact hk
   obtain ⟨q',y',h2,_⟩:=h.nw.tk E.tk.length _ _ (gE hk) (gE fF);have:=(gS h2).1;omega
  ·exact h1
 have hMm:X.m0<=M/\M<=E.tk.length:=by
  rcases hM with ⟨_,rfl⟩ | ⟨_,rfl⟩
  ·exact ⟨Nat.le_refl _,hEt⟩
  ·rw [<- h.tk];exact ⟨hEt,Nat.le_refl _⟩
 have XB:tkL X.fr (E.tk.take M).length X.E0.tk.length:=by
  rw [List.length_take];rcases hM with ⟨hf,rfl⟩ | ⟨hf,rfl⟩
  ·rw [hf];show min _ _=_;rw [X.jG];omega
  ·rw [hf];show _<=min _ _;rw [X.jG];omega
 let E':En:=⟨rz E X.n0 w,X.E0.β,E.tk.take M,E.τ.take M⟩
 have Mn:LV E E' st.bx X.n0:={
  c:=fun x u hx=>lH h.env hx
  fz:=fun i cs hi cG=>by
   obtain ⟨b,ty,arr,hb,hw,hc⟩:=h.env.ek i cs cG;refine ⟨b,arr,hb,hc,fun j u hj=>?_⟩;show rz E X.n0 w ⟨b,j,none⟩=some u;unfold rz;rw [if_pos ⟨i,hi,hb⟩,cy hw]
   simpa using hj }
 have yc:H9 E E' X.n0 M:={
  β:=jl
  tk:=fun k hk=>⟨by show (E.tk.take M)[k]? = _;rw [List.getElem?_take,if_pos hk],by show (E.τ.take M)[k]? = _;rw [List.getElem?_take,if_pos hk]⟩ }
 obtain ⟨kK,Yv⟩:=uQ.get;refine ⟨h.fr,h.sh,d',os,E',?_,rfl,XB,?_,hd.sound Mn yc hv,by show X.Φ d' os (E.tk.take M);rw [h.tk];exact hΦ⟩
 ·exact {
   len:=by
    show X.E0.β.length=os.length;rw [kK,X.jt,List.length_take]
    have:X.n0<=st.bx.length:=by
     rw [<- h.env.len,Q5,List.length_append,X.jt];omega
    omega
   tl:=by simp only [E',List.length_take];rw [h.env.tl]
   ek:=fun i cs' hi=>by
    obtain ⟨cs,cG,q7⟩:=Yv i cs' hi;rw [List.getElem?_take] at cG;split at cG
    ·rename_i au;obtain ⟨b,ty,arr,hb,hw,hc⟩:=h.env.ek i cs cG;exact ⟨b,ty,arr,jl i b au hb,hw,CcL.sound Mn yc q7 hc.1,hc.2⟩
    ·cases cG
   inj:=by rw [<- gH];exact h.env.inj.sublist (List.take_sublist _ _)
   sub:=fun x u hx=>by
    rcases eB hx with ⟨_,h1⟩ | h1
    ·exact h1
    ·exact h.env.sub x u h1
   pc:=fun x u hx hm=>by
    rcases eB hx with ⟨⟨i,hi,hb⟩,_⟩ | h1
    ·exact U4 _ hm (eo i _ hi hb)
    ·refine h.env.pc x u h1 ?_;rw [Q5];exact List.mem_append.2 (.inl hm)
   ct:=fun k q y hq hy=>by
    simp only [E',List.getElem?_take] at hq hy;split at hq
    ·rename_i hk;rw [if_pos hk] at hy;rcases h.env.ct k q y hq hy with h1 | ⟨g,cap,cur,rfl,h1,h2,h3,h4,h5,h6⟩
     ·exact .inl h1
     ·refine .inr ⟨g,cap,cur,rfl,h1,⟨h2.1,h2.2.mono fun _ _ hx=>lH h.env hx⟩,h3,h4,fun hm=>h5 (by rw [Q5];exact List.mem_append.2 (.inl hm)),fun x u hx hg=>?_⟩;rcases eB hx with ⟨⟨i,hi,hb⟩,_⟩ | h7
      ·rw [hg] at hb;exact (h5 (mG hb)).elim
      ·exact h6 x u h7 hg
    ·cases hq
   iW:=fun k k' y y' g Ci hy fG=>by
    simp only [E',List.getElem?_take] at hy fG;split at hy
    ·split at fG
     ·exact h.env.iW k k' y y' g Ci hy fG
     ·cases fG
    ·cases hy }
 ·exact {
   c:=fun x u hx=>lH h.env (h.nw.c x u hx)
   cn:=fun x u hx=>by
    rcases eB hx with ⟨⟨i,hi,hb⟩,_⟩ | h1
    ·exact .inr (.inl (hβl _ (eo i _ hi hb)))
    ·exact h.nw.cn x u h1
   β:=⟨[],by simp [E'],by simp⟩
   tk:=fun k q y hq hy=>by
    obtain ⟨q',y',h1,h2,h3⟩:=h.nw.tk k q y hq hy;have hk:k < X.m0:=by rw [<- X.jG];exact (gS hq).1
    exact ⟨q',y',by show (E.tk.take M)[k]? = _;rw [List.getElem?_take,if_pos (by omega)];exact h1,by show (E.τ.take M)[k]? = _;rw [List.getElem?_take,if_pos (by omega)];exact h2,h3⟩
   tn:=fun k y g hk hy hg=>by
    simp only [E',List.getElem?_take] at hy;split at hy
    ·exact h.nw.tn k y g hk hy hg
    ·cases hy
   l0:=h.nw.l0 }
def resOf (tmps:Array Value):ResultVar->Sem Value
 | .tmp t=>pure (tmps.getD t undef)
 | .cell x t=>do loadVar t (<- asAddr (tmps.getD x undef))
theorem Fo (fn:Func) (tmps:Array Value):results fn tmps=(do let vs <- fn.results.mapM (resOf tmps);pure (if h:vs.size=1 then vs[0] else .tuple vs)):=by
 unfold results;congr 2
theorem Fp (h:Rel X E st a w) {r:ResultVar} {d:DV} (hr:res1 X.T st r=some d):∃ v,Rv E d v/\(resOf a.tmps r).run X.P w = .ok v w:=by
 cases r with
 | tmp t=>
  simp only [res1] at hr;split at hr
  ·rename_i x hg;simp only [oI] at hr;subst hr;obtain ⟨v,h1,h2⟩:=(h.tm t _ hg).1 (bh _);exact ⟨v,h2,by simp [resOf,Array.getD_eq_getD_getElem?,h1]⟩
  ·cases hr
 | cell x t=>
  simp only [res1] at hr;split at hr
  ·rename_i i off hg;split at hr
   ·rename_i cs cG;obtain ⟨v,h1,h2⟩:=(h.tm x _ hg).1 (bh _);unfold Rv at h2;obtain ⟨b,hb,rfl⟩:=h2;obtain ⟨b',Fh,arr,dO,hw,hc⟩:=h.env.ek i cs cG;rw [hb] at dO;simp only [oI] at dO;subst dO;obtain ⟨v,hv,hl⟩:=lC X.hT hc (b:=b) (p:=0) hr;have hl:=hl w fun j u hj=>by rw [cy hw];simpa using hj
    rw [Nat.zero_add] at hl;exact ⟨v,hv,by simp only [resOf,Array.getD_eq_getD_getElem?,h1,Option.getD_some,asAddr,Sem.run_bind,Sem.run_pure,Result.andThen_ok,hl]⟩
   ·cases hr
  ·cases hr
theorem abd (h:Rel X E st a w):∀ {rs:List ResultVar} {ds:List DV},resD X.T st rs=some ds->∃ vs,RvL E ds vs/\(rs.mapM (resOf a.tmps)).run X.P w = .ok vs w
 | [],ds,hr=>by
  simp only [resD,oI] at hr;subst hr;exact ⟨[],cz E,rfl⟩
 | r :: rs,ds,hr=>by
  simp only [resD] at hr;split at hr
  ·rename_i d l hd hl;simp only [oI] at hr;subst hr;obtain ⟨v,hv,h1⟩:=Fp h hd;obtain ⟨vs,x9,h2⟩:=abd h hl;refine ⟨v :: vs,rvL_cons hv x9,?_⟩;simp only [List.mapM_cons,Sem.run_bind,h1,Result.andThen_ok,h2,Sem.run_pure]
  ·cases hr
theorem oO (h:Rel X E st a w) {d:DV} {v:Value} (hv:Rv E d v) (hf:finD X st d):Ce X.still X.E0 X.w0 X.Φ v w X.fr:=by
 unfold finD at hf;split at hf
 ·rename_i Q6;obtain ⟨d',os,hd,uQ,hΦ⟩:=hf;exact Aw h hv st.tk.length (.inr ⟨Q6,rfl⟩) hd uQ (by rw [List.take_length];exact hΦ)
 ·rename_i Q6;split at hf
  ·rename_i hn hm
   have key:∀ d',Cc st.bx 0 0 0 d' d->X.Φ d' [] []->Ce X.still X.E0 X.w0 X.Φ v w X.fr:=fun d' hd hΦ=>
    Aw h hv (d':=d') (os:=[]) X.m0 (.inl ⟨Q6,rfl⟩) (by rw [hn,hm];exact hd) (by rw [hn];simp [lB]) (by rw [hm];exact hΦ)
   split at hf
   ·rename_i x;exact key (.v x) (by simp only [Cc]) hf
   ·obtain ⟨d',hd,hΦ⟩:=hf;exact key d' hd hΦ
  ·obtain ⟨d',os,hd,uQ,hΦ⟩:=hf;exact Aw h hv X.m0 (.inl ⟨Q6,rfl⟩) hd uQ hΦ
theorem yF (h:Rel X E st a w) (hf:fin X st):kq X [] .ret a w:=by
 have B0:X.fn.results=X.rs.toArray:=by rw [<- X.Am]
 simp only [kq];refine ⟨h.df,?_⟩
 have hbt:oe X.bt X.E0.β w:=fun p hp b hb=>by
  obtain ⟨r,hr,_⟩:=h.nw.β;exact h.bt p hp b (by rw [hr,List.getElem?_append_left (gS hb).1];exact hb)
 unfold fin at hf
 have Mo:∀ (ds:List DV) (vs:List Value),(X.rs.mapM (resOf a.tmps)).run X.P w = .ok vs w->(results X.fn a.tmps).run X.P w = .ok (if h:vs.toArray.size=1 then vs.toArray[0] else .tuple vs.toArray) w:=by
  intro ds vs hv;rw [Fo,B0];simp only [List.mapM_toArray,Sem.run_bind,Sem.run_map,hv];rfl
 split at hf
 ·rename_i hr;obtain ⟨vs,x9,h1⟩:=abd h hr;simp only [RvL] at x9;subst x9;exact ⟨_,Mo [] [] h1,oO h (v:=.tuple #[]) (by unfold Rv;exact ⟨[],rfl,cz E⟩) hf,hbt⟩
 ·rename_i d hr;obtain ⟨vs,x9,h1⟩:=abd h hr;have hl:=x9.length;simp only [RvL] at x9;obtain ⟨v,s,rfl,hv,rfl⟩:=x9;exact ⟨_,Mo [d] [v] h1,oO h (v:=v) hv hf,hbt⟩
 ·rename_i d e l hr;obtain ⟨vs,x9,h1⟩:=abd h hr;have hl:=x9.length;have aT:¬ vs.toArray.size=1:=by simp at hl ⊢;omega
  have h2:=Mo [] vs h1;rw [dif_neg aT] at h2;exact ⟨_,h2,oO h (v:=.tuple vs.toArray) (by unfold Rv;exact ⟨vs,rfl,x9⟩) hf,hbt⟩
 ·exact hf.elim
theorem uV:∀ (k:List It) (a:Act) (w:World),kq X [] .ret a w->kq X k .ret a w
 | [],_,_,h=>h
 | .code _ :: k,a,w,h=>uV k a w h
 | .ops _ _ :: k,a,w,h=>uV k a w h
 | .EY _ :: k,a,w,h=>uV k a w h
 | .Cd _ :: k,a,w,h=>uV k a w h
theorem pW {id:Nat}:∀ (k k':List It) (a:Act) (w:World),dropBlk id k=some k' -> kq X k' .normal a w->kq X k (.exit id) a w
 | [],k',a,w,hd,_=>by simp [dropBlk] at hd
 | .code _ :: k,k',a,w,hd,h=>by simp only [dropBlk] at hd;exact pW k k' a w hd h
 | .ops _ _ :: k,k',a,w,hd,h=>by simp only [dropBlk] at hd;exact pW k k' a w hd h
 | .Cd _ :: k,k',a,w,hd,h=>by simp only [dropBlk] at hd;exact pW k k' a w hd h
 | .EY i :: k,k',a,w,hd,h=>by
  simp only [dropBlk] at hd;split at hd
  ·rename_i hi;have hi:id=i:=sU hi;simp only [oI] at hd;subst hd;simp only [kq];rw [if_pos hi];exact h
  ·rename_i hi
   have hi:id≠i:=by
    rintro rfl;rw [Nat.beq_refl] at hi;cases hi
   simp only [kq];rw [if_neg hi];exact pW k k' a w hd h
theorem JO {P:Program} {o:Oper} {a:Act} {K K':Act->World->Prop} {Q Q':Exit->Act->World->Prop} (hK:∀ a w,K a w->K' a w) (hQ:∀ e a w,Q e a w->Q' e a w)
  {r:Result Next} (h:o.upon P a K Q r):o.upon P a K' Q' r:=by
 unfold Oper.upon at *;split<;>simp_all
 ·refine h.mono ?_;intro e w' hq
  cases e with
  | returned v=>exact hK _ _ hq
  | panicked c=>exact hQ _ _ _ hq
  | outgrown=>obtain ⟨a,w,hq⟩:=hq;exact ⟨a,w,hQ _ _ _ hq⟩
 ·exact h.mono fun v w' hq=>hK _ _ hq
theorem Cp {P:Program} {o:Oper} {a:Act} {K K':Act->World->Prop} {Q Q':Exit->Act->World->Prop} {w:World} (hK:∀ a w,K a w->K' a w) (hQ:∀ e a w,Q e a w->Q' e a w)
  (h:o.wp P a w K Q):o.wp P a w K' Q':=JO hK hQ h
theorem ff (c:Code) (k:List It) (a:Act) (w:World):kq X (.code c :: k) .normal a w=c.wp X.P (kq X k) a w:=rfl
theorem Q7 (c:Code) (k:List It):kq X (.code c :: k)=Exit.then (c.wp X.P (kq X k)) (kq X k):=by
 funext e a w;cases e<;>rfl
theorem U5 (id:Nat) (k:List It) (e:Exit) (a:Act) (w:World) (h:kq X (.EY id :: k) e a w):Exit.inBlock id (kq X k) e a w:=by
 cases e<;>exact h
theorem wanted_spec (h:Rel X E st a w) {all:Array Oper} {o:Oper} {j d:Nat} {want:Bool} {lr:List (Nat × Bool)} {sd:DV} (Q8:o.guard=some (j,want)) (Fg:gslot all.toList j=some d) (JP:get st.sl d=some ⟨lr,sd⟩) :
  Region.wanted o (yielded all a.tmps)=true↔Holds a.tmps ((d,want) :: lr):=by
 have U6:yielded all a.tmps j=match a.tmps[d]? with | some (.bool b)=>some b | _=>none:=by
  unfold gslot at Fg;split at Fg
  ·rename_i oj hoj;have hoj':all[j]? = some oj:=sU hoj;simp only [yielded,hoj',Fg,Option.bind_some]
   cases a.tmps[d]? with
   | none=>rfl
   | some v=>cases v<;>rfl
  ·cases Fg
 have htd:=h.tm d _ JP;simp only [Region.wanted,Q8,U6];constructor
 ·intro hw
  have hb:a.tmps[d]? = some (.bool want):=by
   split at hw
   ·rename_i b hb;rw [hb];have:b=want:=sU hw;rw [this]
   ·simp at hw
  refine jH hb ?_;by_cases hh:Holds a.tmps lr
  ·exact hh
  ·have:=htd.2 hh;rw [hb] at this;simp [undef] at this
 ·intro hh;have:=hh (d,want) (by simp);simp only at this;rw [this];simp
theorem Cq (h:Rel X E st a w) {t:Nat} {b:Bool} (hg:get st.sl t=some ⟨[],.v (.bool b)⟩):a.tmps[t]? = some (.bool b):=by
 obtain ⟨v,h1,h2⟩:=(h.tm t _ hg).1 (bh _);rw [h1,jI h2]
theorem Mp (h:Rel X E st a w) {t:Nat} (hg:get st.sl t=some ⟨[],.ud⟩):a.tmps[t]? = some undef:=by
 obtain ⟨v,h1,h2⟩:=(h.tm t _ hg).1 (bh _);unfold Rv at h2;rw [h1,h2]
theorem uW {G:List (Nat × Bool)} {dst:Option Nat} (bS:okG G dst=true):∀ e,dst=some e->∀ p∈G,p.1≠e:=by
 intro e he p hp dy;rw [he] at bS;have:=(List.all_eq_true.1 bS) p hp;rw [dy] at this;simp at this
theorem go_sound:∀ n,Snd X (go X n)
 | 0=>fun k st hg=>hg.elim
 | n + 1=>by
  have ih:=go_sound n;intro k st hg E a w h
  match k with
  | []=>exact yF h (by simpa [go] using hg)
  | .EY id :: k=>exact ih k st (by simpa [go] using hg) E a w h
  | .Cd J :: k=>exact ⟨st,E,h,by simpa [go] using hg⟩
  | .ops all [] :: k=>exact ih k st (by simpa [go] using hg) E a w h
  | .ops all (o :: r) :: k=>
   simp only [go,nI,HU] at hg;split at hg
   ·exact hg.elim
   ·rename_i hd;split at hg
    ·rename_i Q8;simp only [kq,wpList,Region.wanted,Q8,if_true];split at hg
     ·rename_i s hs;obtain ⟨v,hv,cf⟩:=iq X.hT h.rl (bh _) hs;exact .inl (gK (cf w fun _=>rfl) (ih _ _ hg E _ w (aZ h hd s v hv)))
     ·exact .inl (Cp (fun a w hk=>hk) (fun e a w hq=>hq.elim) (yE ih hd h hg))
    ·rename_i j want Q8;split at hg
     ·exact hg.elim
     ·rename_i d Fg;split at hg
      ·exact hg.elim
      ·rename_i lr sd JP;have pX:=wanted_spec h Q8 Fg JP;simp only [kq,wpList];split at hg
       ·rename_i s hs;split at hg
        case h_2=>exact hg.elim
        rename_i bS;split
        ·rename_i hw;have hh:=pX.1 hw;obtain ⟨v,hv,cf⟩:=iq X.hT h.rl hh hs;exact .inl (gK (cf w fun _=>rfl) (ih _ _ hg E _ w (pT h hd _ s v (uW bS) (fun _=>hv) (fun hn=>(hn hh).elim))))
        ·rename_i hw;have hh:¬ Holds a.tmps ((d,want) :: lr):=fun hh=>hw (pX.2 hh);exact ih _ _ hg E _ w (pT h hd _ s undef (uW bS) (fun hn=>(hh hn).elim) (fun _=>rfl))
       ·split at hg
        ·rename_i b gH;have ht0:=Cq h gH
         cases lr with
         | nil=>
          simp only [lastG] at gH ht0;cases uX:(b == want)
          ·have Fq:b = !want:=by cases b<;>cases want<;>simp_all
           have hg:=hg.f uX
           have hn:¬ Region.wanted o (yielded all a.tmps)=true:=by
            intro hw;have:=(pX.1 hw) (d,want) (by simp);simp only at this;rw [ht0] at this;simp only [oI,Value.bool.injEq] at this;rw [this] at uX;simp at uX
           rw [if_neg hn];have hr:=j5 (d:=d) (b:=!want) h (by rw [ht0,Fq]);exact ih _ _ hg E _ w (aZ hr (j6 hd) .ud undef (sE E))
          ·have gf:b=want:=sU uX;have hg:=hg.t uX;subst gf;have hw:Region.wanted o (yielded all a.tmps)=true:=pX.2 (jH ht0 (bh _));rw [if_pos hw];have hr:=j5 (d:=d) (b:=b) h ht0;exact .inl (Cp (fun a w hk=>hk) (fun e a w hq=>hq.elim) (yE ih (j6 hd) hr hg))
         | cons g1 gr=>
          have key:∀ c,a.tmps[(lastG (d,want) (g1 :: gr)).1]? = some (.bool c)->go X n (.ops all (o :: r) :: k) (st.resolve (lastG (d,want) (g1 :: gr)).1 c)->wpList X.P all (kq X k) (o :: r) a w:=
           fun c hc mw=>ih _ _ mw E a w (j5 h hc)
          cases uX:(b == (lastG (d,want) (g1 :: gr)).2)
          ·have hg:=hg.f uX;have Fq:b = !(lastG (d,want) (g1 :: gr)).2:=by cases b<;>cases h0:(lastG (d,want) (g1 :: gr)).2<;>simp_all
           have:=key _ (by rw [ht0,Fq]) hg;simpa [wpList] using this
          ·have hg:=hg.t uX;have gf:b=(lastG (d,want) (g1 :: gr)).2:=sU uX;have:=key _ (by rw [ht0,gf]) hg;simpa [wpList] using this
        ·rename_i gH
         cases lr with
         | nil=>
          have ht0:=Mp h gH;simp only [lastG] at ht0
          have hn:¬ Region.wanted o (yielded all a.tmps)=true:=by
           intro hw;have:=(pX.1 hw) (d,want) (by simp);simp only at this;rw [ht0] at this;simp [undef] at this
          rw [if_neg hn];exact ih _ _ hg E _ w (aZ h hd .ud undef (sE E))
         | cons g1 gr=>exact hg.elim
        ·exact hg.elim
  | .code c :: k=>
   rw [ff]
   cases c with
   | skip=>exact wp_skip (ih k st (by simpa [go] using hg) E a w h)
   | seq x y=>
    have:=ih (.code x :: .code y :: k) st (by simpa [go] using hg) E a w h;rw [ff,Q7] at this;exact wp_seq this
   | block id b=>
    have:=ih (.code b :: .EY id :: k) st (by simpa [go] using hg) E a w h;rw [ff] at this;exact wp_block (wp_mono this (U5 id k))
   | exit id=>
    simp only [go] at hg;split at hg
    ·rename_i k' hk;exact wp_exit (pW k k' a w hk (ih k' st hg E a w h))
    ·exact hg.elim
   | cond x p q=>
    simp only [go] at hg;split at hg
    ·rename_i b hb;refine wp_cond (t:=b) (by rw [jI (aW h.rl hb)]) ?_;cases gH:b
     ·exact ih (.code q :: k) st (hg.f gH) E a w h
     ·exact ih (.code p :: k) st (hg.t gH) E a w h
    ·exact hg.elim
   | region id ops d=>
    simp only [go] at hg;cases d
    ·exact wp_region_list (ih (.ops ops ops.toList :: k) st hg E a w h)
    ·exact hg E a w h
   | loop b=>exact (by simpa [go] using hg:sD X b k st) E a w h
   | ret=>exact wp_ret (uV k a w (yF h (by simpa [go] using hg)))
   | _=>simp [go] at hg
theorem Cr {fn:Func} (B0:X.fn=fn) (e:Exit) (a:Act) (w:World) (h:kq X [] e a w):bodyPost X.P fn (fun e w'=>∃ v,e = .returned v/\Ce X.still X.E0 X.w0 X.Φ v w' X.fr/\oe X.bt X.E0.β w') e a w:=by
 subst B0
 cases e with
 | normal=>obtain ⟨h1,v,h2,h3⟩:=h;exact ⟨h1,v,h2,v,rfl,h3⟩
 | ret=>obtain ⟨h1,v,h2,h3⟩:=h;exact ⟨h1,v,h2,v,rfl,h3⟩
 | exit _=>exact h.elim
 | goto _=>exact h.elim
 | panic _=>exact h.elim
 | outgrown=>exact h.elim
end
def U7 (s:Bool) (P:Program) (f:FuncId) (args:List DV) (os:List (List DV)) (ct:List TkE) (Φ:DV->List (List DV)->List TkE->Prop) (fr:Bool:=false):Prop:=
 ∀ (E:En) (w:World) (vs:List Value),Env E os w->E.tk=ct->RvL E args vs->Calls P f vs.toArray w fun e w'=>∃ v,e = .returned v/\Ce s E w Φ v w' fr
def Ev (P:Program) (f:FuncId) (args:List DV) (os:List (List DV)) (ct:List TkE) (Φ:DV->List (List DV)->List TkE->Prop):Prop:=U7 false P f args os ct Φ
def EvS (P:Program) (f:FuncId) (args:List DV) (os:List (List DV)) (ct:List TkE) (Φ:DV->List (List DV)->List TkE->Prop):Prop:=U7 true P f args os ct Φ
def EvF (P:Program) (f:FuncId) (args:List DV) (os:List (List DV)) (ct:List TkE) (Φ:DV->List (List DV)->List TkE->Prop):Prop:=U7 false P f args os ct Φ true
def EvP (P:Program) (f:FuncId) (args:List DV) (d:DV):Prop:=Ev P f args [] [] fun d' _ _=>d'=d
def argSl:Nat->List DV->List (Nat × Sl)
 | _,[]=>[]
 | i,v :: r=>(i,⟨[],v⟩) :: argSl (i + 1) r
theorem yG:∀ (l:List DV) (i j:Nat) (x:Sl),get (argSl i l) j=some x->∃ v,x=⟨[],v⟩/\i<=j/\l[j - i]? = some v
 | [],_,_,_,h=>by simp [argSl,get] at h
 | v :: r,i,j,x,h=>by
  simp only [argSl,dp] at h;split at h
  ·rename_i lu;simp only [oI] at h;subst h lu;exact ⟨v,rfl,Nat.le_refl _,by simp⟩
  ·rename_i lu;obtain ⟨u,hu,eV,hg⟩:=yG r (i + 1) j x h;refine ⟨u,hu,by omega,?_⟩;rw [show j - i=(j - (i + 1)) + 1 by omega];simpa using hg
theorem Nw.refl {E:En} {bx:List (List DV)} {w:World} (h:Env E bx w):Nw E E w where
 c:=fun _ _ h=>h
 cn:=fun _ _ h=>.inl h
 β:=⟨[],by simp,by simp⟩
 tk:=fun k q y hq hy=>⟨q,y,hq,hy,rfl,rfl,.inl ⟨rfl,rfl⟩,.inl rfl⟩
 tn:=fun k y g hk hy=>by
  have:=(gS hy).1;rw [h.tl] at this;omega
 l0:=h.tl
def Yw (s:Bool) (P:Program) (f:FuncId) (args:List DV) (os:List (List DV)) (ct:List TkE) (bt:List (Nat × TypeId)) (Φ:DV->List (List DV)->List TkE->Prop) (fr:Bool:=false):Prop:=
 ∀ (E:En) (w:World) (vs:List Value),Env E os w->E.tk=ct->oe bt E.β w->RvL E args vs->Calls P f vs.toArray w fun e w'=>∃ v,e = .returned v/\Ce s E w Φ v w' fr/\oe bt E.β w'
theorem Ax {s:Bool} {P:Program} {f:FuncId} {fn:Func} {c:Code} {args:List DV} {os:List (List DV)} {ct:List TkE} {Φ:DV->List (List DV)->List TkE->Prop} (bt:List (Nat × TypeId)) (mu:List Nat) (fr:Bool) (T:TT) (hT:T.ok P=true) (n nt:Nat) (rs:List ResultVar)
  (hf:P.funcs[f]? = some fn) (hb:fn.body=some c) (JQ:fn.ntmps=nt) (Am:fn.results.toList=rs) (hlen:args.length<=nt)
  (h:∀ (E:En) (w:World) (hn:E.β.length=os.length) (hm:E.tk.length=ct.length),go ⟨P,T,hT,fn,nt,rs,Am,w,E,os.length,ct.length,hn,hm,s,Φ,bt,mu,fr⟩ n [.code c] ⟨argSl 0 args,os,ct⟩):Yw s P f args os ct bt Φ fr:=by
 intro E w vs hE iZ gH hv;have hl:=hv.length;have hg:=h E w hE.len (by rw [iZ]);refine calls_of_wp hf hb ?_
 have hs:=go_sound (X:=⟨P,T,hT,fn,nt,rs,Am,w,E,os.length,ct.length,hE.len,by rw [iZ],s,Φ,bt,mu,fr⟩) n _ _ hg E
  {tmps:=vs.toArray ++ Array.replicate (fn.ntmps - vs.toArray.size) undef,defers:=[] } w
  {env:=hE
   tk:=iZ
   sz:=by simp [JQ];omega
   tm:=by
    intro i x hx;obtain ⟨d,rfl,_,hd⟩:=yG args 0 i x hx;simp only [Nat.sub_zero] at hd;obtain ⟨v,pB,JH⟩:=hv.get hd;rw [Array.getElem?_append_left (by simpa using (gS pB).1)];exact ⟨fun _=>⟨v,by simpa using pB,JH⟩,fun hn=>(hn (bh _)).elim⟩
   df:=rfl
   nw:=Nw.refl hE
   fr:=⟨rfl,rfl,rfl,Nat.le_refl _,fun _ _ _=>rfl⟩
   sh:=fun _=>⟨0,rfl⟩
   bt:=gH }
 exact wp_mono hs (Cr rfl)
theorem uc {s:Bool} {P:Program} {f:FuncId} {fn:Func} {c:Code} {args:List DV} {os:List (List DV)} {ct:List TkE} {Φ:DV->List (List DV)->List TkE->Prop} (bt:List (Nat × TypeId)) (mu:List Nat) (hbt:∀ p∈bt,os.length<=p.1) (fr:Bool) (T:TT) (hT:T.ok P=true) (n nt:Nat) (rs:List ResultVar)
  (hf:P.funcs[f]? = some fn) (hb:fn.body=some c) (JQ:fn.ntmps=nt) (Am:fn.results.toList=rs) (hlen:args.length<=nt)
  (h:∀ (E:En) (w:World) (hn:E.β.length=os.length) (hm:E.tk.length=ct.length),go ⟨P,T,hT,fn,nt,rs,Am,w,E,os.length,ct.length,hn,hm,s,Φ,bt,mu,fr⟩ n [.code c] ⟨argSl 0 args,os,ct⟩):U7 s P f args os ct Φ fr:=fun E w vs hE iZ hv=>(Ax bt mu fr T hT n nt rs hf hb JQ Am hlen h E w vs hE iZ (fun p hp b hb=>by
  have h1:=hbt p hp;have h2:=(gS hb).1;have h3:=hE.len
  omega) hv).mono fun _ _ ⟨v,h1,h2,_⟩=>⟨v,h1,h2⟩
theorem abe {s:Bool} {P:Program} {f:FuncId} {fn:Func} {c:Code} {args:List DV} {os:List (List DV)} {ct:List TkE} {Φ:DV->List (List DV)->List TkE->Prop} (bt:List (Nat × TypeId)) (hbt:∀ p∈bt,os.length<=p.1) (T:TT) (hT:T.ok P=true) (n nt:Nat) (rs:List ResultVar)
  (hf:P.funcs[f]? = some fn) (hb:fn.body=some c) (JQ:fn.ntmps=nt) (Am:fn.results.toList=rs) (hlen:args.length<=nt)
  (h:∀ (E:En) (w:World) (hn:E.β.length=os.length) (hm:E.tk.length=ct.length),go ⟨P,T,hT,fn,nt,rs,Am,w,E,os.length,ct.length,hn,hm,s,Φ,bt,[],false⟩ n [.code c] ⟨argSl 0 args,os,ct⟩):U7 s P f args os ct Φ:=
 uc bt [] hbt false T hT n nt rs hf hb JQ Am hlen h
theorem Mq {s:Bool} {P:Program} {f:FuncId} {fn:Func} {c:Code} {args:List DV} {os:List (List DV)} {ct:List TkE} {Φ:DV->List (List DV)->List TkE->Prop} (T:TT) (hT:T.ok P=true) (n nt:Nat) (rs:List ResultVar)
  (hf:P.funcs[f]? = some fn) (hb:fn.body=some c) (JQ:fn.ntmps=nt) (Am:fn.results.toList=rs) (hlen:args.length<=nt)
  (h:∀ (E:En) (w:World) (hn:E.β.length=os.length) (hm:E.tk.length=ct.length),go ⟨P,T,hT,fn,nt,rs,Am,w,E,os.length,ct.length,hn,hm,s,Φ,[],[],false⟩ n [.code c] ⟨argSl 0 args,os,ct⟩):U7 s P f args os ct Φ:=
 abe [] (fun p hp=>by cases hp) T hT n nt rs hf hb JQ Am hlen h
theorem abV {P:Program} {f:FuncId} {fn:Func} {c:Code} {args:List DV} {os:List (List DV)} {ct:List TkE} {Φ:DV->List (List DV)->List TkE->Prop} (T:TT) (hT:T.ok P=true) (n nt:Nat) (rs:List ResultVar)
  (hf:P.funcs[f]? = some fn) (hb:fn.body=some c) (JQ:fn.ntmps=nt) (Am:fn.results.toList=rs) (hlen:args.length<=nt)
  (h:∀ (E:En) (w:World) (hn:E.β.length=os.length) (hm:E.tk.length=ct.length),go ⟨P,T,hT,fn,nt,rs,Am,w,E,os.length,ct.length,hn,hm,false,Φ,[],[],false⟩ n [.code c] ⟨argSl 0 args,os,ct⟩):Ev P f args os ct Φ:=
 Mq T hT n nt rs hf hb JQ Am hlen h
theorem Ev.mono {P:Program} {f:FuncId} {args:List DV} {os:List (List DV)} {ct:List TkE} {Φ Ψ:DV->List (List DV)->List TkE->Prop} (h:Ev P f args os ct Φ) (hΦ:∀ d o t,Φ d o t->Ψ d o t):Ev P f args os ct Ψ:=by
 intro E w vs h1 h2 h3;refine (h E w vs h1 h2 h3).mono ?_;rintro e w' ⟨v,rfl,h4,hs,d,o,E',h5,h6,h7,h8,h9,ru⟩;exact ⟨v,rfl,h4,hs,d,o,E',h5,h6,h7,h8,h9,hΦ _ _ _ ru⟩
theorem Ev.Yx {P:Program} {f:FuncId} {args:List DV} {os:List (List DV)} {ct:List TkE} {Φ:DV->List (List DV)->List TkE->Prop} {bt:List (Nat × TypeId)} (h:Ev P f args os ct Φ) (hb:bt=[]):Yw false P f args os ct bt Φ:=fun E w vs h1 h2 _ h4=>
 (h E w vs h1 h2 h4).mono fun _ _ ⟨v,h5,h6⟩=>⟨v,h5,h6,.nil hb⟩
theorem br {b:Bool} {A B:Prop} (h1:b=true->A) (h2:b=false->B):@Bool.rec (fun _=>Prop) B A b:=by
 cases b
 ·exact h2 rfl
 ·exact h1 rfl
section
variable {X:Ctx} {st:St} {k:List It} {E:En} {a:Act} {w:World}
theorem yH (h:Rel X E st a w) (aU:X.still=false) {E2:En} {w':World} (hm:pJ (E.cl).S w w') (he:Env E2 [] w') (hn:Nw E.cl E2 w):Rel X ⟨E2.c,E.β,E.tk,E.τ⟩ st a w':=by
 have hh:∀ i,i < w.heap.size->w'.heap[i]? = w.heap[i]?:=fun i hi=>hm.block i hi (by
  rintro (h1 | ⟨y,h1,_⟩)
  ·simp [En.cl] at h1
  ·simp [En.cl] at h1)
 have eo:∀ x v,E2.c x=some v->E.c x=some v∨w.heap.size<=x.block:=fun x v hx=>by
  rcases hn.cn x v hx with h1 | h1 | ⟨y,h1,_⟩
  ·exact .inl h1
  ·exact .inr h1
  ·simp [En.cl] at h1
 have hx:Ext E ⟨E2.c,E.β,E.tk,E.τ⟩:=⟨hn.c,fun _ _ h=>h,fun _ q h=>⟨q,h,.inl ⟨rfl,rfl⟩⟩⟩;have hk:=h.env.ku hh;refine dg h hx ?_ h.tk ?_ (h.fr.cj hm.os hm.tape hm.output hm.size fun i hi=>.inr (hh i hi)) (mh aU) (h.bt.ku fun b hb=>hh b (h.env.bc hb))
 ·exact {
   len:=h.env.len
   tl:=h.env.tl
   ek:=fun i cs hi=>by
    obtain ⟨b,ty,arr,hb,hw,hc⟩:=hk.ek i cs hi;exact ⟨b,ty,arr,hb,hw,hc.mono hx⟩
   inj:=h.env.inj
   sub:=he.sub
   pc:=fun x v hc oK=>by
    rcases eo x v hc with h1 | h1
    ·exact h.env.pc x v h1 oK
    ·have:=h.env.bc oK;omega
   ct:=fun k q y hq hy=>by
    rcases hk.ct k q y hq hy with h1 | ⟨g',cap,cur,rfl,h1,h2,h3,h4,h5,h6⟩
    ·exact .inl h1
    ·refine .inr ⟨g',cap,cur,rfl,h1,⟨h2.1,h2.2.mono hn.c⟩,h3,h4,h5,fun x v hc hg=>?_⟩;rcases eo x v hc with h7 | h7
     ·exact h6 x v h7 hg
     ·have:=(iY (h.env.ct k q _ hq hy) (g:=g') rfl).1;omega
   iW:=h.env.iW }
 ·exact {
   c:=fun x v hc=>hn.c x v (h.nw.c x v hc)
   cn:=fun x v hc=>by
    rcases eo x v hc with h1 | h1
    ·exact h.nw.cn x v h1
    ·have:=h.fr.size;exact .inr (.inl (by omega))
   β:=h.nw.β
   tk:=h.nw.tk
   tn:=h.nw.tn
   l0:=h.nw.l0 }
theorem Mr {bx:List (List DV)} (h:Env E bx w):Env E.cl [] w where
 len:=rfl
 tl:=rfl
 ek:=by simp
 inj:=List.nodup_nil
 sub:=h.sub
 pc:=by simp [En.cl]
 ct:=by simp [En.cl]
 iW:=by simp [En.cl]
theorem sJ {P:Program} (h:Rel X E st a w) (aU:X.still=false) {f:FuncId} {args bE:List DV} {vs:List Value} {Φ:DV->List (List DV)->List TkE->Prop} (hc:Ev P f bE [] [] Φ) (ha:CcL [] 0 0 0 bE args) (hv:RvL E args vs) :
  Calls P f vs.toArray w fun e w'=>∃ v E' d,e = .returned v/\Rel X E' st a w' /\ Rv E' d v/\Φ d [] []/\pJ E.cl.S w w' /\ Ext E E' /\ E'.β=E.β:=by
 have UL:RvL E.cl bE vs:=CcL.sound (E:=E) (E':=E.cl) ⟨fun _ _ h=>h,fun i cs _ hi=>by simp at hi⟩ (H9.zero _ _) ha hv;refine (hc E.cl w vs (Mr h.env) rfl UL).mono ?_;rintro e w' ⟨v,rfl,hm,_,d,os,E2,he,hβ,iZ,hn,Q9,hΦ⟩
 have uQ:os=[]:=by
  have:=he.len;rw [hβ] at this;exact List.eq_nil_of_length_eq_zero this.symm
 subst uQ;have ht0:E2.tk=[]:=List.eq_nil_of_length_eq_zero iZ;refine ⟨v,⟨E2.c,E.β,E.tk,E.τ⟩,d,rfl,yH h aU hm he hn,?_,by rw [ht0] at hΦ;exact hΦ,hm,⟨hn.c,fun _ _ h=>h,fun _ q h=>⟨q,h,.inl ⟨rfl,rfl⟩⟩⟩,rfl⟩;refine Rv.mono (E:=E2) (E':=⟨E2.c,E.β,E.tk,E.τ⟩) ⟨fun _ _ h=>h,fun i b hb=>?_,fun k q hq=>?_⟩ Q9
 ·rw [hβ] at hb;simp [En.cl] at hb
 ·rw [ht0] at hq;simp at hq
theorem bL {f:FuncId} {args bE:List DV} {d:Nat} (lx:Enters X.P f) (hd:eL X.nt st.sl (some d)=true) {Φ:DV->List (List DV)->List TkE->Prop} (hc:Ev X.P f bE [] [] Φ) (ha:CcL [] 0 0 0 bE args)
  (hk:∀ r,Φ r [] []->go X 4000 k ⟨(d,⟨[],r⟩) :: st.sl,st.bx,st.tk⟩) (aU:X.still=false:=by exact rfl):dx X f args (some d) k st:=by
 refine ⟨lx,aU,fun E a w vs h hv=>(sJ h aU hc ha hv).mono ?_⟩;rintro e w' ⟨v,E',r,rfl,bY,hr,hΦ,_⟩;exact go_sound 4000 _ _ (hk r hΦ) E' _ w' (aZ bY hd r v hr)
theorem abT {f:FuncId} {args bE:List DV} {d:Nat} {r:DV} (lx:Enters X.P f) (hc:EvP X.P f bE r) (ha:CcL [] 0 0 0 bE args) (hd:eL X.nt st.sl (some d)=true)
  (hk:go X 4000 k ⟨(d,⟨[],r⟩) :: st.sl,st.bx,st.tk⟩) (aU:X.still=false:=by exact rfl):dx X f args (some d) k st:=
 bL lx hd hc ha (fun _ hr=>hr ▸ hk) aU
def clB (n m:Nat):DV->Bool
 | .v _=>true
 | .ud=>true
 | .sl _ _ none=>true
 | .sl _ _ (some k)=>Nat.blt k m
 | .pt _ _=>true
 | .loc i _=>Nat.blt i n
 | .el i _=>Nat.blt i n
 | .ms i _ _ _ _=>Nat.blt i n
 | .agg l=>clL l
 | .tup l=>clL l
 | .fn _ l r=>clL l && clL r
 | .pI _ x=>clB n m x
where clL:List DV->Bool
 | []=>true
 | d :: r=>clB n m d && clL r
def En.cut (E:En) (n m:Nat):En:=⟨E.c,E.β.take n,E.tk.take m,E.τ.take m⟩
mutual
theorem Rv.cut {n m:Nat} {E:En}:∀ {d:DV} {v:Value},Rv E d v->clB n m d=true->Rv (E.cut n m) d v
 | .v x,v,h,_=>by unfold Rv at h ⊢;exact h
 | .ud,v,h,_=>by unfold Rv at h ⊢;exact h
 | .sl e es none,v,h,_=>by
  unfold Rv at h ⊢;obtain ⟨b,n,cap,h1,h2,h3,_⟩:=h;exact ⟨b,n,cap,h1,h2,h3,fun k hk=>by cases hk⟩
 | .sl e es (some k),v,h,hc=>by
  unfold Rv at h ⊢;obtain ⟨b,n',cap,h1,h2,h3,h4⟩:=h;refine ⟨b,n',cap,h1,h2,h3,fun k' fF=>?_⟩;cases fF;have hk:k < m:=by simpa [clB] using hc
  obtain ⟨q,h5,h6,h7⟩:=h4 k rfl;exact ⟨q,by show (E.tk.take m)[k]? = _;rw [List.getElem?_take,if_pos hk];exact h5,h6,fun hh=>by show (E.τ.take m)[k]? = _;rw [List.getElem?_take,if_pos hk];exact h7 hh⟩
 | .pt cs o,v,h,_=>by unfold Rv at h ⊢;exact h
 | .loc i o,v,h,hc=>by
  unfold Rv at h ⊢;obtain ⟨b,hb,h1⟩:=h;have hi:i < n:=by simpa [clB] using hc
  exact ⟨b,by show (E.β.take n)[i]? = _;rw [List.getElem?_take,if_pos hi];exact hb,h1⟩
 | .el i o,v,h,hc=>by
  unfold Rv at h ⊢;obtain ⟨b,hb,h1⟩:=h;have hi:i < n:=by simpa [clB] using hc
  exact ⟨b,by show (E.β.take n)[i]? = _;rw [List.getElem?_take,if_pos hi];exact hb,h1⟩
 | .ms i e o l c,v,h,hc=>by
  unfold Rv at h ⊢;obtain ⟨b,ad,hb,h1⟩:=h;have hi:i < n:=by simpa [clB] using hc
  exact ⟨b,ad,by show (E.β.take n)[i]? = _;rw [List.getElem?_take,if_pos hi];exact hb,h1⟩
 | .agg l,v,h,hc=>by
  unfold Rv at h ⊢;obtain ⟨vs,h1,h2,h3⟩:=h;simp only [clB] at hc;exact ⟨vs,h1,RvL.cut h2 hc,h3⟩
 | .tup l,v,h,hc=>by
  unfold Rv at h ⊢;obtain ⟨vs,h1,h2⟩:=h;simp only [clB] at hc;exact ⟨vs,h1,RvL.cut h2 hc⟩
 | .fn f l r,v,h,hc=>by
  unfold Rv at h ⊢;obtain ⟨l',r',h1,h2,h3⟩:=h;simp only [clB,Bool.and_eq_true] at hc;exact ⟨l',r',h1,RvL.cut h2 hc.1,RvL.cut h3 hc.2⟩
 | .pI t x,v,h,hc=>by
  unfold Rv at h ⊢;obtain ⟨z,h1,h2⟩:=h;simp only [clB] at hc;exact ⟨z,h1,Rv.cut h2 hc⟩
theorem RvL.cut {n m:Nat} {E:En}:∀ {l:List DV} {vs:List Value},RvL E l vs->clB.clL n m l=true->RvL (E.cut n m) l vs
 | [],vs,h,_=>by simp only [RvL] at h ⊢;exact h
 | d :: r,vs,h,hc=>by
  simp only [RvL] at h ⊢;obtain ⟨v,s,h1,h2,h3⟩:=h;simp only [clB.clL,Bool.and_eq_true] at hc;exact ⟨v,s,h1,Rv.cut h2 hc.1,RvL.cut h3 hc.2⟩
end
end
end Dv
end Go.Proofs.YtffhgcbfpidfiaaGreat
namespace Go.Proofs.YtffhgcbfpidfiaaGreat
namespace Dv
open Go Go.RowKit
def We (n m:Nat) (bU:List TkE) (x x':DV):Prop:=
 (x=x' /\ clB n m x=true)∨(x = .v (.slice none 0 0)/\∃ e k q,x' = .sl e [] (some k)/\m<=k/\bU[k]? = some q)∨(x = .v (.slice none 0 0)/\∃ e,x' = .sl e [] none)∨(∃ e es tk,x = .sl e es tk/\x' = .sl e es none)∨(∃ e es BV tk,x = .sl e es tk/\x' = .sl e BV none/\CcE [] 0 BV es)∨(∃ e es BV k,x = .sl e es (some k)/\x' = .sl e BV (some k)/\k < m/\CcE [] 0 BV es)
def WeL (n m:Nat) (bU:List TkE):List DV->List DV->Prop
 | [],l=>l=[]
 | x :: r,l=>∃ x' r',l=x' :: r' /\ We n m bU x x' /\ WeL n m bU r r'
def WeLL (n m:Nat) (bU:List TkE):List (List DV)->List (List DV)->Prop
 | [],l=>l=[]
 | x :: r,l=>∃ x' r',l=x' :: r' /\ WeL n m bU x x' /\ WeLL n m bU r r'
def pY (n m:Nat) (bU:List TkE) (sl:List (Nat × Sl)):List (Nat × Sl)->Prop
 | []=>True
 | p :: r=>(∃ x,get sl p.1=some ⟨p.2.gs,x⟩/\We n m bU x p.2.s)/\pY n m bU sl r
structure Ay (n0 m0:Nat) (st st':St):Prop where
 all:∃ kept dropped new b0 r,m0<=kept.length/\n0<=b0.length/\st.tk=kept ++ dropped/\st'.tk=kept ++ new/\(∀ q∈new,TkE.new q=true)/\st.bx=b0 ++ r/\WeLL b0.length kept.length st'.tk b0 st'.bx/\pY b0.length kept.length st'.tk st.sl st'.sl
theorem WeLL.length {n m:Nat} {bU:List TkE}:∀ {l l':List (List DV)},WeLL n m bU l l' -> l'.length=l.length
 | [],l',h=>by simp only [WeLL] at h;subst h;rfl
 | x :: r,l',h=>by
  simp only [WeLL] at h;obtain ⟨x',r',rfl,_,h2⟩:=h;simp [WeLL.length h2]
theorem WeLL.get {n m:Nat} {bU:List TkE}:∀ {l l':List (List DV)},WeLL n m bU l l' -> ∀ (i:Nat) cs',l'[i]? = some cs' -> ∃ cs,l[i]? = some cs/\WeL n m bU cs cs'
 | [],l',h,i,cs',hi=>by simp only [WeLL] at h;subst h;simp at hi
 | x :: r,l',h,i,cs',hi=>by
  simp only [WeLL] at h;obtain ⟨x',r',rfl,h1,h2⟩:=h
  cases i with
  | zero=>simp only [List.getElem?_cons_zero,oI] at hi;subst hi;exact ⟨x,rfl,h1⟩
  | succ i=>simp only [List.getElem?_cons_succ] at hi ⊢;exact WeLL.get h2 i cs' hi
theorem uY {n m:Nat} {bU:List TkE} {sl:List (Nat × Sl)}:∀ {l:List (Nat × Sl)},pY n m bU sl l->∀ i x',get l i=some x' -> ∃ x,get sl i=some ⟨x'.gs,x⟩/\We n m bU x x'.s
 | [],_,i,x',hx=>by cases hx
 | (k,y) :: r,h,i,x',hx=>by
  simp only [dp] at hx;split at hx
  ·rename_i mv;subst mv;simp only [oI] at hx;subst hx;exact h.1
  ·exact uY h.2 i x' hx
section
variable {X:Ctx} {E:En} {st st':St} {a:Act} {w:World} {k:List It}
def En.wk (E:En) (n:Nat) (kept new:List TkE):En:=⟨E.c,E.β.take n,kept ++ new,E.τ.take kept.length ++ List.replicate new.length (.slice none 0 0)⟩
theorem Cs {n:Nat} {kept dropped new:List TkE} (ht:E.tk=kept ++ dropped) (hl:E.τ.length=E.tk.length) (eo:∀ q∈new,TkE.new q=true) {x x':DV} {v:Value} (hx:We n kept.length (kept ++ new) x x') (hv:Rv E x v):Rv (E.wk n kept new) x' v:=by
 have jm:kept.length<=E.τ.length:=by rw [hl,ht];simp
 have first:∀ {x:DV},clB n kept.length x=true->Rv E x v->Rv (E.wk n kept new) x v:=by
  intro x hc hv;refine Rv.mono (E:=E.cut n kept.length) ⟨fun _ _ h=>h,fun _ _ h=>h,fun k q hq=>?_⟩ (Rv.cut hv hc);have lE:(E.tk.take kept.length)[k]? = some q:=hq;rw [List.getElem?_take] at lE;split at lE
  ·rename_i hk;refine ⟨q,?_,.inl ⟨rfl,?_⟩⟩
   ·show (kept ++ new)[k]? = _;rw [ht,List.getElem?_append_left hk] at lE;rw [List.getElem?_append_left hk];exact lE
   ·show (E.τ.take kept.length ++ _)[k]? = (E.τ.take kept.length)[k]?;rw [List.getElem?_append_left (by rw [List.length_take];omega)]
  ·cases lE
 rcases hx with ⟨rfl,hc⟩ | ⟨rfl,e,k,q,rfl,hk,hq⟩ | ⟨rfl,e,rfl⟩ | ⟨e,es,tk,rfl,rfl⟩ | ⟨e,es,BV,tk,rfl,rfl,he⟩ | ⟨e,es,BV,k,rfl,rfl,hk,he⟩
 ·exact first hc hv
 ·have:=bq hv;subst this;unfold Rv;refine ⟨none,0,0,rfl,⟨rfl,Nat.le_refl _⟩,fun hn=>(hn rfl).elim,fun k' fF=>?_⟩;cases fF;have Ms:(kept ++ new)[k]? = some q:=hq;rw [List.getElem?_append_right hk] at Ms;have rr:=TkE.L8 (eo q (mG Ms));refine ⟨q,hq,by omega,fun _=>?_⟩;have au:=(gS Ms).1;show (E.τ.take kept.length ++ List.replicate new.length _)[k]? = _;rw [List.getElem?_append_right (by rw [List.length_take];omega)];rw [List.length_take,Nat.min_eq_left jm,List.getElem?_replicate,if_pos au]
 ·have:=bq hv;subst this;unfold Rv;exact ⟨none,0,0,rfl,⟨rfl,Nat.le_refl _⟩,fun hn=>(hn rfl).elim,fun k hk=>by cases hk⟩
 ·unfold Rv at hv ⊢;obtain ⟨b,n,cap,h1,h2,h3,_⟩:=hv;exact ⟨b,n,cap,h1,h2,h3,fun k hk=>by cases hk⟩
 ·have hv:=Te he hv;unfold Rv at hv ⊢;obtain ⟨b,n,cap,h1,h2,h3,_⟩:=hv;exact ⟨b,n,cap,h1,h2,h3,fun k hk=>by cases hk⟩
 ·exact first (by simp only [clB];exact Nat.ble_eq_true_of_le hk) (Te he hv)
theorem rA {n:Nat} {kept dropped new:List TkE} (ht:E.tk=kept ++ dropped) (hl:E.τ.length=E.tk.length) (eo:∀ q∈new,TkE.new q=true):∀ {l l':List DV} {vs:List Value},WeL n kept.length (kept ++ new) l l' -> RvL E l vs->RvL (E.wk n kept new) l' vs
 | [],l',vs,h,hv=>by
  simp only [WeL] at h;subst h;simp only [RvL] at hv ⊢;exact hv
 | x :: r,l',vs,h,hv=>by
  simp only [WeL] at h;obtain ⟨x',r',rfl,h1,h2⟩:=h;simp only [RvL] at hv ⊢;obtain ⟨v,s,h3,h4,h5⟩:=hv;exact ⟨v,s,h3,Cs ht hl eo h1 h4,rA ht hl eo h2 h5⟩
theorem yI (h:Rel X E st a w) {kept dropped new:List TkE} {b0 r:List (List DV)} (ir:X.m0<=kept.length/\X.n0<=b0.length/\st.tk=kept ++ dropped/\st'.tk=kept ++ new/\(∀ q∈new,TkE.new q=true)/\st.bx=b0 ++ r/\WeLL b0.length kept.length st'.tk b0 st'.bx/\pY b0.length kept.length st'.tk st.sl st'.sl):Rel X (E.wk b0.length kept new) st' a w:=by
 obtain ⟨jG,jt,ht,tC,eo,hb,jL,mF⟩:=ir;rw [tC] at jL mF;have Yy:E.tk=kept ++ dropped:=by rw [h.tk,ht]
 have hbl:=jL.length;have jm:kept.length<=E.τ.length:=by rw [h.env.tl,Yy];simp
 have gH:b0.length<=E.β.length:=by rw [h.env.len,hb];simp
 have hτ:∀ (k:Nat) y,(E.τ.take kept.length ++ List.replicate new.length (Value.slice none 0 0))[k]? = some y->(k < kept.length/\E.τ[k]? = some y)∨(kept.length<=k/\y = .slice none 0 0):=fun k y hy=>by
  rw [List.getElem?_append] at hy;split at hy
  ·rename_i hk;rw [List.length_take] at hk;rw [List.getElem?_take,if_pos (by omega)] at hy;exact .inl ⟨by omega,hy⟩
  ·rename_i hk;rw [List.length_take] at hk;rw [List.getElem?_replicate] at hy;split at hy
   ·simp only [oI] at hy;exact .inr ⟨by omega,hy.symm⟩
   ·cases hy
 exact {
  env:={
   len:=by simp only [En.wk,List.length_take];omega
   tl:=by simp only [En.wk,List.length_append,List.length_take,List.length_replicate];omega
   ek:=fun i cs' hi=>by
    obtain ⟨cs,cG,hwe⟩:=jL.get i cs' hi;have au:=(gS cG).1;obtain ⟨b,ty,arr,hbb,hwb,hc⟩:=h.env.ek i cs (by rw [hb,List.getElem?_append_left au];exact cG);exact ⟨b,ty,arr,by simp only [En.wk];rw [List.getElem?_take,if_pos au];exact hbb,hwb,rA Yy h.env.tl eo hwe hc.1,hc.2⟩
   inj:=h.env.inj.sublist (List.take_sublist _ _)
   sub:=h.env.sub
   pc:=fun x v hx hm=>h.env.pc x v hx (List.mem_of_mem_take hm)
   ct:=fun k q y hq hy=>by
    rcases hτ k y hy with ⟨hk,fG⟩ | ⟨hk,rfl⟩
    ·have lE:(kept ++ new)[k]? = some q:=hq;rw [List.getElem?_append_left hk] at lE;rcases h.env.ct k q y (by rw [Yy,List.getElem?_append_left hk];exact lE) fG with h1 | ⟨g,cap,cur,rfl,h1,h2,h3,h4,h5,h6⟩
     ·exact .inl h1
     ·exact .inr ⟨g,cap,cur,rfl,h1,h2,h3,h4,fun hm=>h5 (List.mem_of_mem_take hm),h6⟩
    ·have lE:(kept ++ new)[k]? = some q:=hq;rw [List.getElem?_append_right hk] at lE;exact .inl ⟨rfl,TkE.L8 (eo q (mG lE)),TkE.S9 (eo q (mG lE))⟩
   iW:=fun k k' y y' g Ci hy fG hg sG=>by
    rcases hτ k y hy with ⟨_,BX⟩ | ⟨_,rfl⟩
    ·rcases hτ k' y' fG with ⟨_,mi⟩ | ⟨_,rfl⟩
     ·exact h.env.iW k k' y y' g Ci BX mi hg sG
     ·simp [Value.ownBlock] at sG
    ·simp [Value.ownBlock] at hg }
  tk:=by simp only [En.wk];exact tC.symm
  sz:=h.sz
  tm:=fun i x' BW=>by
   obtain ⟨x,hx,hwe⟩:=uY mF i x' BW;have:=h.tm i _ hx;refine ⟨fun hh=>?_,this.2⟩;obtain ⟨v,h1,h2⟩:=this.1 hh;exact ⟨v,h1,Cs Yy h.env.tl eo hwe h2⟩
  df:=h.df
  nw:={
   c:=h.nw.c
   cn:=h.nw.cn
   β:=by
    obtain ⟨r2,hr,hl⟩:=h.nw.β;refine ⟨r2.take (b0.length - X.n0),?_,fun b hb=>hl b (List.mem_of_mem_take hb)⟩;simp only [En.wk];rw [hr,List.take_append,List.take_of_length_le (by rw [X.jt];omega),X.jt]
   tk:=fun j q0 y0 rr Cj=>by
    obtain ⟨q',y',h1,h2,h3⟩:=h.nw.tk j q0 y0 rr Cj;have hj:j < X.m0:=by rw [<- X.jG];exact (gS rr).1
    have U8:j < kept.length:=by omega
    exact ⟨q',y',by simp only [En.wk];rw [List.getElem?_append_left U8];rw [Yy,List.getElem?_append_left U8] at h1;exact h1,by simp only [En.wk];rw [List.getElem?_append_left (by rw [List.length_take];omega),List.getElem?_take,if_pos U8];exact h2,h3⟩
   tn:=fun j y g hj hy hg=>by
    rcases hτ j y hy with ⟨_,BX⟩ | ⟨_,rfl⟩
    ·exact h.nw.tn j y g hj BX hg
    ·simp [Value.ownBlock] at hg
   l0:=h.nw.l0 }
  fr:=h.fr
  sh:=h.sh
  bt:=h.bt.sub _ }
theorem uZ (h:Rel X E st a w) (hw:Ay X.n0 X.m0 st st'):∃ E',Rel X E' st' a w:=by
 obtain ⟨_,_,_,_,_,ir⟩:=hw.all;exact ⟨_,yI h ir⟩
theorem least {p:Nat->Prop} (h:∃ n,p n):∃ n,p n/\∀ m,p m->n<=m:=by
 obtain ⟨n,hn⟩:=h
 induction n using Nat.strongRecOn with
 | _ n ih=>
  by_cases hm:∃ m,m < n/\p m
  ·obtain ⟨m,au,hp⟩:=hm;exact ih m au hp
  ·refine ⟨n,hn,fun m hp=>?_⟩;rcases Nat.lt_or_ge m n with h1 | h1
   ·exact (hm ⟨m,h1,hp⟩).elim
   ·exact h1
theorem av {c:Code} (I:Nat->St->Prop) (j0:Nat) (kP:St) (hw:Ay X.n0 X.m0 st kP) (h0:I j0 kP)
  (hr:∀ j s,I j s->go X 4000 (.code c :: .Cd (fun s'=>∃ Mt,Ay X.n0 X.m0 s' Mt /\ ∃ j',j' < j/\I j' Mt) :: k) s):sD X c k st:=by
 intro E a w h;obtain ⟨E0,hr0⟩:=uZ h hw
 classical
 let Inv:Act->World->Prop:=fun a w=>∃ j s E,Rel X E s a w/\I j s
 let μ:Act->World->Nat:=fun a w=>if hI:Inv a w then Classical.choose (least hI) else 0
 refine wp_loop Inv μ ⟨j0,kP,E0,hr0,h0⟩ ?_;intro a1 w1 hI;have yJ:=(Classical.choose_spec (least hI)).1;obtain ⟨s,E1,bY,hIs⟩:=yJ;have hs:=go_sound 4000 _ _ (hr _ s hIs) E1 a1 w1 bY;rw [ff] at hs;refine wp_mono hs ?_;intro e a2 w2 hq
 cases e with
 | normal=>
  obtain ⟨s',E2,Ct,Mt,Mu,j',iN,Yz⟩:=hq;obtain ⟨E3,Cu⟩:=uZ Ct Mu;have U9:Inv a2 w2:=⟨j',Mt,E3,Cu,Yz⟩;refine ⟨U9,?_⟩;simp only [μ,dif_pos hI,dif_pos U9];exact Nat.lt_of_le_of_lt ((Classical.choose_spec (least U9)).2 j' ⟨Mt,E3,Cu,Yz⟩) iN
 | exit id=>exact hq
 | goto l=>exact hq
 | ret=>exact hq
 | panic c=>exact hq
 | outgrown=>exact hq
theorem ah {n m:Nat} {bU:List TkE} {x:DV} (h:clB n m x=true):We n m bU x x:=.inl ⟨rfl,h⟩
theorem ai {n m:Nat} {bU:List TkE} {kd:IntKind} {x y:Int} (h:x=y):We n m bU (.v (.int kd x)) (.v (.int kd y)):=.inl ⟨by rw [h],rfl⟩
theorem bp {n m:Nat} {bU:List TkE} {e k:Nat} {q:TkE} (h1:m<=k) (h2:bU[k]? = some q):We n m bU (.v (.slice none 0 0)) (.sl e [] (some k)):=.inr (.inl ⟨rfl,e,k,q,rfl,h1,h2⟩)
theorem bi {n m:Nat} {bU:List TkE} {e k:Nat} {es BV:List (List DV)} (h:es=BV) (hk:Nat.blt k m=true):We n m bU (.sl e es (some k)) (.sl e BV (some k)):=.inl ⟨by rw [h],hk⟩
theorem ax {p:Prop} (h:p:=by repeat' (first | exact rfl | exact trivial | exact Or.inr (Or.inl ⟨_,rfl⟩) | exact Or.inr ⟨_,rfl⟩ | exact Or.inl ⟨rfl,rfl⟩ | exact Or.inl rfl | refine Or.inr ⟨_,_,rfl,Nat.zero_le _,rfl,?_⟩ | refine ⟨_,_,rfl,?_,?_⟩ | refine ⟨_,rfl,?_⟩ | refine Or.inr (Or.inr (Or.inr ⟨_,_,rfl,?_⟩)) | exact Or.inl rfl | refine Or.inr ?_)):p:=h
theorem wA {p:Prop} (h:p:=by repeat' (first | exact rfl | exact ah rfl | refine ⟨_,_,rfl,?_,?_⟩)):p:=h
theorem wB {p:Prop} (h:p:=by repeat' (first | exact trivial | exact ah rfl | refine ⟨⟨_,rfl,?_⟩,?_⟩)):p:=h
theorem weak_mk {n0 m0:Nat} {st st':St} (h1:∃ r,st.bx=st'.bx ++ r) (h2:WeLL st'.bx.length st'.tk.length st'.tk st'.bx st'.bx) (h3:st.tk=st'.tk) (h4:Nat.ble n0 st'.bx.length=true) (h5:Nat.ble m0 st'.tk.length=true)
  (h:pY st'.bx.length st'.tk.length st'.tk st.sl st'.sl):Ay n0 m0 st st':=by
 obtain ⟨r,hr⟩:=h1;exact ⟨st'.tk,[],[],st'.bx,r,by simpa using h5,by simpa using h4,by simp [h3],by simp,by simp,hr,h2,h⟩
theorem az {n0 m0:Nat} {st st':St} (n:Nat) (hn:Nat.ble n st.bx.length=true) (h2:WeLL n st'.tk.length st'.tk (st.bx.take n) st'.bx) (h3:st.tk=st'.tk) (h4:Nat.ble n0 n=true) (h5:Nat.ble m0 st'.tk.length=true)
  (h:pY n st'.tk.length st'.tk st.sl st'.sl):Ay n0 m0 st st':=by
 have hl:(st.bx.take n).length=n:=by
  have:=nL hn;rw [List.length_take];omega
 exact ⟨st'.tk,[],[],st.bx.take n,st.bx.drop n,by simpa using h5,by rw [hl];simpa using h4,by simp [h3],by simp,by simp,(List.take_append_drop n st.bx).symm,by rw [hl];exact h2,by rw [hl];exact h⟩
theorem dX {n0 m0:Nat} {st st':St} (q:TkE) (hq:q.new=true) (h1:∃ r,st.bx=st'.bx ++ r) (h3:st.tk ++ [q]=st'.tk) (h2:WeLL st'.bx.length st.tk.length st'.tk st'.bx st'.bx) (h4:Nat.ble n0 st'.bx.length=true) (h5:Nat.ble m0 st.tk.length=true)
  (h:pY st'.bx.length st.tk.length st'.tk st.sl st'.sl):Ay n0 m0 st st':=by
 obtain ⟨r,hr⟩:=h1;exact ⟨st.tk,[],[q],st'.bx,r,by simpa using h5,by simpa using h4,by simp,h3.symm,by simpa using hq,hr,h2,h⟩
end
end Dv
end Go.Proofs.YtffhgcbfpidfiaaGreat
namespace Go.Proofs.YtffhgcbfpidfiaaGreat
namespace Dv
theorem aL {p : Prop} (h : p := by repeat' (first | exact rfl | exact trivial | exact Or.inr (Or.inl ⟨_,rfl⟩) | exact Or.inr ⟨_,rfl⟩ | exact Or.inl ⟨rfl,rfl⟩ | exact Or.inl rfl | refine Or.inr ⟨_,_,rfl,Nat.zero_le _,rfl,?_⟩ | refine ⟨_,_,rfl,?_,?_⟩ | refine ⟨_,rfl,?_⟩ | exact ⟨nL rfl,rfl⟩ | refine Or.inr (Or.inr (Or.inr ⟨_,_,rfl,?_⟩)) | exact Or.inl rfl | refine Or.inr ?_)) : p := h
theorem aI {p : Prop} {a b : Int} (q : a=b) (h : a=b -> p := by intro q;repeat' (first | exact rfl | exact trivial | exact Or.inr (Or.inl ⟨_,rfl⟩) | exact Or.inr ⟨_,rfl⟩ | exact Or.inl ⟨rfl,rfl⟩ | exact Or.inl rfl | refine Or.inr ⟨_,_,rfl,Nat.zero_le _,rfl,?_⟩ | refine ⟨_,_,rfl,?_,?_⟩ | refine ⟨_,rfl,?_⟩ | exact congrArg (fun z=>DV.v (.int .i64 z)) q | refine Or.inr (Or.inr (Or.inr ⟨_,_,rfl,?_⟩)) | exact Or.inl rfl | refine Or.inr ?_)) : p := h q
theorem aB {p : Prop} {a b : Bool} (q : a=b) (h : a=b -> p := by intro q;repeat' (first | exact rfl | exact trivial | exact Or.inr (Or.inl ⟨_,rfl⟩) | exact Or.inr ⟨_,rfl⟩ | exact Or.inl ⟨rfl,rfl⟩ | exact Or.inl rfl | refine Or.inr ⟨_,_,rfl,Nat.zero_le _,rfl,?_⟩ | refine ⟨_,_,rfl,?_,?_⟩ | refine ⟨_,rfl,?_⟩ | exact congrArg (fun b=>DV.v (.bool b)) q | refine Or.inr (Or.inr (Or.inr ⟨_,_,rfl,?_⟩)) | exact Or.inl rfl | refine Or.inr ?_)) : p := h q
theorem Az {p : Prop} {a b : Nat} (q : a < b) (hn : b <= 4611686018427387904 := by omega) (h : a < b -> b <= 4611686018427387904 -> p := by intro q hn;repeat' (first | exact rfl | exact ah rfl | exact ai (nxt q hn) | refine ⟨_,_,rfl,?_,?_⟩)) : p := h q hn
theorem wNB {p : Prop} {a b : Nat} (q : a < b) (hn : b <= 4611686018427387904 := by omega) (h : a < b -> b <= 4611686018427387904 -> p := by intro q hn;repeat' (first | exact trivial | exact ah rfl | exact ai (nxt q hn) | refine ⟨⟨_,rfl,?_⟩,?_⟩)) : p := h q hn
theorem u0 {p r : Prop} {a b : Nat} (q : a < b) (s : r) (hn : b <= 4611686018427387904 := by omega) (h : a < b -> b <= 4611686018427387904 -> r -> p := by intro q hn s;repeat' (first | exact rfl | exact ah rfl | exact ai (nxt q hn) | exact bi s rfl | refine ⟨_,_,rfl,?_,?_⟩)) : p := h q hn s
theorem q8 {p r : Prop} {a b : Nat} (q : a < b) (s : r) (hn : b <= 4611686018427387904 := by omega) (h : a < b -> b <= 4611686018427387904 -> r -> p := by intro q hn s;repeat' (first | exact trivial | exact ah rfl | exact ai (nxt q hn) | exact bi s rfl | refine ⟨⟨_,rfl,?_⟩,?_⟩)) : p := h q hn s
theorem AA {p : Prop} (h : p := by repeat' (first | exact trivial | exact ah rfl | exact bp (Nat.le_refl _) rfl | refine ⟨⟨_,rfl,?_⟩,?_⟩)) : p := h
theorem wTA {p : Prop} (h : p := by repeat' (first | exact rfl | exact ah rfl | exact bp (Nat.le_refl _) rfl | refine ⟨_,_,rfl,?_,?_⟩)) : p := h
theorem Cv {p : Prop} (h : p := by repeat' (first | exact trivial | exact ah rfl | exact ai rfl | refine ⟨⟨_,rfl,?_⟩,?_⟩)) : p := h
theorem Tf {p : Prop} (h : p := by repeat' (first | exact rfl | exact ah rfl | exact ai rfl | refine ⟨_,_,rfl,?_,?_⟩)) : p := h
theorem wA0 {p:Prop}   (h:p:=by repeat' (first | exact rfl | exact ah rfl | exact nC rfl | exact dA rfl | exact gU _ | exact bp (Nat.le_refl _) rfl | exact bp (Nat.le_succ _) rfl | refine ⟨_,_,rfl,?_,?_⟩)):p:=h 
theorem wA1 {p:Prop} {P0:Prop} (x0:P0) (h:P0->p:=by intro x0;repeat' (first | exact rfl | exact ah rfl | exact ai x0 | exact nC x0 | exact bi x0 rfl | exact w9 x0 | exact dA x0 | exact ai (congrArg Nat.cast x0) | exact ah x0 | exact kE x0 | exact x0 | exact nC rfl | exact dA rfl | exact gU _ | exact bp (Nat.le_refl _) rfl | exact bp (Nat.le_succ _) rfl | refine ⟨_,_,rfl,?_,?_⟩)):p:=h x0
theorem wA2 {p:Prop} {P0:Prop} {P1:Prop} (x0:P0) (x1:P1) (h:P0->P1->p:=by intro x0 x1;repeat' (first | exact rfl | exact ah rfl | exact ai x0 | exact nC x0 | exact bi x0 rfl | exact w9 x0 | exact dA x0 | exact ai (congrArg Nat.cast x0) | exact ah x0 | exact kE x0 | exact x0 | exact ai x1 | exact nC x1 | exact bi x1 rfl | exact w9 x1 | exact dA x1 | exact ai (congrArg Nat.cast x1) | exact ah x1 | exact kE x1 | exact x1 | exact nC rfl | exact dA rfl | exact gU _ | exact bp (Nat.le_refl _) rfl | exact bp (Nat.le_succ _) rfl | refine ⟨_,_,rfl,?_,?_⟩)):p:=h x0 x1
theorem wA3 {p:Prop} {P0:Prop} {P1:Prop} {P2:Prop} (x0:P0) (x1:P1) (x2:P2) (h:P0->P1->P2->p:=by intro x0 x1 x2;repeat' (first | exact rfl | exact ah rfl | exact ai x0 | exact nC x0 | exact bi x0 rfl | exact w9 x0 | exact dA x0 | exact ai (congrArg Nat.cast x0) | exact ah x0 | exact kE x0 | exact x0 | exact ai x1 | exact nC x1 | exact bi x1 rfl | exact w9 x1 | exact dA x1 | exact ai (congrArg Nat.cast x1) | exact ah x1 | exact kE x1 | exact x1 | exact ai x2 | exact nC x2 | exact bi x2 rfl | exact w9 x2 | exact dA x2 | exact ai (congrArg Nat.cast x2) | exact ah x2 | exact kE x2 | exact x2 | exact nC rfl | exact dA rfl | exact gU _ | exact bp (Nat.le_refl _) rfl | exact bp (Nat.le_succ _) rfl | refine ⟨_,_,rfl,?_,?_⟩)):p:=h x0 x1 x2
theorem wB0 {p:Prop}   (h:p:=by repeat' (first | exact trivial | exact ah rfl | exact bp (Nat.le_refl _) rfl | exact bp (Nat.le_succ _) rfl | exact ai rfl | refine ⟨⟨_,rfl,?_⟩,?_⟩)):p:=h 
theorem wB1 {p:Prop} {P0:Prop} (x0:P0) (h:P0->p:=by intro x0;repeat' (first | exact trivial | exact ah rfl | exact ai x0 | exact nC x0 | exact bi x0 rfl | exact w9 x0 | exact dA x0 | exact ai (congrArg Nat.cast x0) | exact ah x0 | exact kE x0 | exact x0 | exact bp (Nat.le_refl _) rfl | exact bp (Nat.le_succ _) rfl | exact ai rfl | refine ⟨⟨_,rfl,?_⟩,?_⟩)):p:=h x0
theorem dm {p:Prop} {P0:Prop} {P1:Prop} (x0:P0) (x1:P1) (h:P0->P1->p:=by intro x0 x1;repeat' (first | exact trivial | exact ah rfl | exact ai x0 | exact nC x0 | exact bi x0 rfl | exact w9 x0 | exact dA x0 | exact ai (congrArg Nat.cast x0) | exact ah x0 | exact kE x0 | exact x0 | exact ai x1 | exact nC x1 | exact bi x1 rfl | exact w9 x1 | exact dA x1 | exact ai (congrArg Nat.cast x1) | exact ah x1 | exact kE x1 | exact x1 | exact bp (Nat.le_refl _) rfl | exact bp (Nat.le_succ _) rfl | exact ai rfl | refine ⟨⟨_,rfl,?_⟩,?_⟩)):p:=h x0 x1
theorem wB3 {p:Prop} {P0:Prop} {P1:Prop} {P2:Prop} (x0:P0) (x1:P1) (x2:P2) (h:P0->P1->P2->p:=by intro x0 x1 x2;repeat' (first | exact trivial | exact ah rfl | exact ai x0 | exact nC x0 | exact bi x0 rfl | exact w9 x0 | exact dA x0 | exact ai (congrArg Nat.cast x0) | exact ah x0 | exact kE x0 | exact x0 | exact ai x1 | exact nC x1 | exact bi x1 rfl | exact w9 x1 | exact dA x1 | exact ai (congrArg Nat.cast x1) | exact ah x1 | exact kE x1 | exact x1 | exact ai x2 | exact nC x2 | exact bi x2 rfl | exact w9 x2 | exact dA x2 | exact ai (congrArg Nat.cast x2) | exact ah x2 | exact kE x2 | exact x2 | exact bp (Nat.le_refl _) rfl | exact bp (Nat.le_succ _) rfl | exact ai rfl | refine ⟨⟨_,rfl,?_⟩,?_⟩)):p:=h x0 x1 x2
theorem wB4 {p:Prop} {P0:Prop} {P1:Prop} {P2:Prop} {P3:Prop} (x0:P0) (x1:P1) (x2:P2) (x3:P3) (h:P0->P1->P2->P3->p:=by intro x0 x1 x2 x3;repeat' (first | exact trivial | exact ah rfl | exact ai x0 | exact nC x0 | exact bi x0 rfl | exact w9 x0 | exact dA x0 | exact ai (congrArg Nat.cast x0) | exact ah x0 | exact kE x0 | exact x0 | exact ai x1 | exact nC x1 | exact bi x1 rfl | exact w9 x1 | exact dA x1 | exact ai (congrArg Nat.cast x1) | exact ah x1 | exact kE x1 | exact x1 | exact ai x2 | exact nC x2 | exact bi x2 rfl | exact w9 x2 | exact dA x2 | exact ai (congrArg Nat.cast x2) | exact ah x2 | exact kE x2 | exact x2 | exact ai x3 | exact nC x3 | exact bi x3 rfl | exact w9 x3 | exact dA x3 | exact ai (congrArg Nat.cast x3) | exact ah x3 | exact kE x3 | exact x3 | exact bp (Nat.le_refl _) rfl | exact bp (Nat.le_succ _) rfl | exact ai rfl | refine ⟨⟨_,rfl,?_⟩,?_⟩)):p:=h x0 x1 x2 x3
theorem wC0 {p:Prop}   (h:p:=by repeat' (first | exact rfl | exact trivial | exact Or.inr (Or.inl ⟨_,rfl⟩) | exact Or.inr ⟨_,rfl⟩ | exact Or.inl ⟨rfl,rfl⟩ | exact Or.inl rfl | refine Or.inr ⟨_,_,rfl,Nat.zero_le _,rfl,?_⟩ | refine ⟨_,_,rfl,?_,?_⟩ | refine ⟨_,rfl,?_⟩ | exact ⟨nL rfl,rfl⟩ | refine Or.inr (Or.inr (Or.inr ⟨_,_,rfl,?_⟩)) | exact Or.inl rfl | refine Or.inr ?_)):p:=h 
theorem wC1 {p:Prop} {P0:Prop} (x0:P0) (h:P0->p:=by intro x0;repeat' (first | exact rfl | exact trivial | exact Or.inr (Or.inl ⟨_,rfl⟩) | exact Or.inr ⟨_,rfl⟩ | exact Or.inl ⟨rfl,rfl⟩ | exact Or.inl rfl | refine Or.inr ⟨_,_,rfl,Nat.zero_le _,rfl,?_⟩ | refine ⟨_,_,rfl,?_,?_⟩ | refine ⟨_,rfl,?_⟩ | exact congrArg (fun z=>DV.v (.int .i64 z)) x0 | exact congrArg (fun z=>DV.v (.int .i64 z)) (congrArg Nat.cast x0) | exact congrArg (fun b=>DV.v (.bool b)) x0 | exact x0 | exact Or.inr (Or.inl ⟨_,x0⟩) | apply x0 | exact ⟨nL rfl,rfl⟩ | refine Or.inr (Or.inr (Or.inr ⟨_,_,rfl,?_⟩)) | exact Or.inl rfl | refine Or.inr ?_)):p:=h x0
theorem wC2 {p:Prop} {P0:Prop} {P1:Prop} (x0:P0) (x1:P1) (h:P0->P1->p:=by intro x0 x1;repeat' (first | exact rfl | exact trivial | exact Or.inr (Or.inl ⟨_,rfl⟩) | exact Or.inr ⟨_,rfl⟩ | exact Or.inl ⟨rfl,rfl⟩ | exact Or.inl rfl | refine Or.inr ⟨_,_,rfl,Nat.zero_le _,rfl,?_⟩ | refine ⟨_,_,rfl,?_,?_⟩ | refine ⟨_,rfl,?_⟩ | exact congrArg (fun z=>DV.v (.int .i64 z)) x0 | exact congrArg (fun z=>DV.v (.int .i64 z)) (congrArg Nat.cast x0) | exact congrArg (fun b=>DV.v (.bool b)) x0 | exact x0 | exact Or.inr (Or.inl ⟨_,x0⟩) | apply x0 | exact congrArg (fun z=>DV.v (.int .i64 z)) x1 | exact congrArg (fun z=>DV.v (.int .i64 z)) (congrArg Nat.cast x1) | exact congrArg (fun b=>DV.v (.bool b)) x1 | exact x1 | exact Or.inr (Or.inl ⟨_,x1⟩) | apply x1 | exact ⟨nL rfl,rfl⟩ | refine Or.inr (Or.inr (Or.inr ⟨_,_,rfl,?_⟩)) | exact Or.inl rfl | refine Or.inr ?_)):p:=h x0 x1
theorem iX {α:Type _} {P:α->Prop} {cs:α} {i:Int} {l:List α} (g:l[i.toNat]? = some cs) (k:P cs) (h:0<=i:=by omega):∃ cs,(0<=i/\l[i.toNat]? = some cs)/\P cs:=⟨cs,⟨h,g⟩,k⟩
theorem lI {X:Ctx} {st:St} {k:List It} {c:Code} (I:Nat->St->Prop) {j0:Nat} {kP:St} (h0:I j0 kP) (hw:Ay X.n0 X.m0 st kP)
 (hr:∀ j s,I j s->go X 4000 (.code c :: .Cd (fun s'=>∃ Mt,Ay X.n0 X.m0 s' Mt/\∃ j',j' < j/\I j' Mt) :: k) s):sD X c k st:=av I j0 kP hw h0 hr
theorem lJ {X:Ctx} {st:St} {k:List It} {c:Code} (S:Nat->St) (n:Nat) (hw:Ay X.n0 X.m0 st (S 0))
 (hr:∀ e,e<=n->go X 4000 (.code c :: .Cd (fun s'=>∃ Mt,Ay X.n0 X.m0 s' Mt/\∃ j',j' < n - e/\∃ e:Nat,Mt=S e/\e<=n/\j'=n - e) :: k) (S e)):sD X c k st:=av (fun j st=>∃ e:Nat,st=S e/\e<=n/\j=n - e) (n - 0) (S 0) hw ⟨0,rfl,Nat.zero_le _,rfl⟩ fun j s h=>by
 obtain ⟨e,rfl,he,rfl⟩:=h;exact hr e he
end Dv
end Go.Proofs.YtffhgcbfpidfiaaGreat
namespace Go.Proofs.YtffhgcbfpidfiaaGreat
namespace Dv
open Go
section
variable {P:Program} {ops:Array Oper} {C:World->Prop} {Q:Act->World->Prop} {W:Nat->Bool} {π:Nat->Nat}
theorem YA {o:Oper} {a:Act} {w:World} {K:Act->World->Prop} (h:wq P o a w K):∃ v w',K (a.put o.dst v) w':=by
 unfold wq at h;split at h
 ·exact ⟨_,_,h⟩
 ·exact ⟨_,_,h⟩
 ·obtain ⟨e,w',fr,⟨v,_,hv⟩,_⟩:=h [];exact ⟨v,w',hv⟩
 ·exact h.elim
theorem Va {x y:Oper} {v:Value} (XC:x.apart ops y=true) (hs:∀ cs b,y.op ≠ .select cs b) {a:Act} {w:World} {K:Act->World->Prop} :
  wq P y (a.put x.dst v) w K↔wq P y a w (fun a' w'=>K (a'.put x.dst v) w'):=by
 obtain ⟨h1,h2,h3⟩:=Oper.apart_spec XC;unfold wq;rw [execOp_put y hs a x.dst v h1];have hc:∀ u,(a.put x.dst v).put y.dst u=(a.put y.dst u).put x.dst v:=fun u=>Act.put_comm a v u h2
 cases (execOp a.eval y).run P w with
 | halt h w'=>rfl
 | ok n w'=>cases n<;>simp [hc]
def Yl (P:Program) (ops:Array Oper) (C:World->Prop) (o:Oper) (v:Value) (a:Act):Prop:=
 (Region.wanted o (yielded ops a.tmps)=true/\∀ w,(pP o.op=true->C w)->(execOp a.eval o).run P w = .ok (.value v) w) ∨
 (Region.wanted o (yielded ops a.tmps)=false/\v=undef)
theorem Yl.same {x y:Oper} {v u:Value} (XC:x.apart ops y=true) (hs:∀ cs b,y.op ≠ .select cs b) {a:Act}:Yl P ops C y v (a.put x.dst u)↔Yl P ops C y v a:=by
 obtain ⟨h1,h2,h3⟩:=Oper.apart_spec XC;unfold Yl;rw [execOp_put y hs a x.dst u h1,wanted_put y a x.dst u h1]
def dY (P:Program) (ops:Array Oper) (o:Oper) (a:Act) (w:World) (K:Act->World->Prop):Prop:=
 if Region.wanted o (yielded ops a.tmps)=true then wq P o a w K else K (a.put o.dst undef) w
theorem eC {o:Oper} {a:Act} {w:World} {K K':Act->World->Prop} (hk:∀ a w,K a w->K' a w) (h:dY P ops o a w K):dY P ops o a w K':=by
 unfold dY at *;split<;>rename_i hw
 ·rw [if_pos hw] at h;exact j7 hk h
 ·rw [if_neg hw] at h;exact hk _ _ h
theorem rB {x y:Oper} {v:Value} (XC:x.apart ops y=true) (hs:∀ cs b,y.op ≠ .select cs b) {a:Act} {w:World} {K:Act->World->Prop} :
  dY P ops y (a.put x.dst v) w K↔dY P ops y a w (fun a' w'=>K (a'.put x.dst v) w'):=by
 obtain ⟨h1,h2,h3⟩:=Oper.apart_spec XC;unfold dY;rw [wanted_put y a x.dst v h1];split
 ·exact Va XC hs
 ·rw [Act.put_comm a v undef h2]
theorem Mv {o:Oper} {a:Act} {w:World} {K:Act->World->Prop} (h:dY P ops o a w K):∃ v w',K (a.put o.dst v) w':=by
 unfold dY at h;split at h
 ·exact YA h
 ·exact ⟨_,_,h⟩
theorem oP {o:Oper} {a:Act} {w:World} {K:Act->World->Prop} (h:dY P ops o a w K):dY P ops o a w (fun a' w'=>K a' w' /\ ∃ u,a'=a.put o.dst u):=by
 unfold dY at *;split<;>rename_i hw
 ·rw [if_pos hw] at h;unfold wq at *;split at h
  ·rename_i hr;exact ⟨h,_,rfl⟩
  ·rename_i hr;exact ⟨h,_,rfl⟩
  ·rename_i hr;refine h.mono ?_;rintro e w' ⟨v,rfl,hv⟩;exact ⟨v,rfl,hv,v,rfl⟩
  ·exact h.elim
 ·rw [if_neg hw] at h;exact ⟨h,_,rfl⟩
theorem j8 {o:Oper} {a:Act} {w:World} {v:Value} {K:Act->World->Prop} (hy:Yl P ops C o v a) (hc:pP o.op=true->C w) (hk:K (a.put o.dst v) w):dY P ops o a w K:=by
 unfold dY;rcases hy with ⟨hw,hv⟩ | ⟨hw,rfl⟩
 ·rw [if_pos hw];unfold wq;rw [hv w hc];exact hk
 ·rw [if_neg (by simp [hw])];exact hk
theorem mI {o:Oper} {a:Act} {w:World} {v:Value} {K:Act->World->Prop} (hy:Yl P ops C o v a) (hc:pP o.op=true->C w) (h:dY P ops o a w K):K (a.put o.dst v) w:=by
 unfold dY at h;rcases hy with ⟨hw,hv⟩ | ⟨hw,rfl⟩
 ·rw [if_pos hw] at h;unfold wq at h;rw [hv w hc] at h;exact h
 ·rw [if_neg (by simp [hw])] at h;exact h
def runT (P:Program) (ops:Array Oper) (W:Nat->Bool) (C:World->Prop) (Q:Act->World->Prop):List Nat->Act->World->Prop
 | [],a,w=>Q a w
 | i :: r,a,w=>
  match ops[i]? with
  | none=>False
  | some o=>
   if mB o.op=true then dY P ops o a w fun a' w'=>(W i=false->C w->C w')/\runT P ops W C Q r a' w'
   else ∃ v,Yl P ops C o v a/\(pP o.op=true->C w)/\runT P ops W C Q r (a.put o.dst v) w
def mb (ops:Array Oper) (W:Nat->Bool) (j i:Nat):Bool:=
 match ops[j]?,ops[i]? with
 | some x,some y=>x.apart ops y && y.apart ops x && !(mB x.op && mB y.op) && !(pP x.op && W i)
 | _,_=>false
def Mw (ops:Array Oper) (l:List Nat):Prop:=∃ i o,i∈l/\ops[i]? = some o/\pP o.op=true
theorem gg {j i:Nat} {x y:Oper} (h:mb ops W j i=true) (hj:ops[j]? = some x) (hi:ops[i]? = some y) :
  x.apart ops y=true/\y.apart ops x=true/\¬ (mB x.op=true/\mB y.op=true)/\¬ (pP x.op=true/\W i=true):=by
 unfold mb at h;rw [hj,hi] at h;simp only [Bool.and_eq_true,Bool.not_eq_true',Bool.and_eq_false_iff] at h;refine ⟨h.1.1.1,h.1.1.2,?_,?_⟩
 ·rintro ⟨h1,h2⟩;rcases h.1.2 with h3 | h3<;>simp_all
 ·rintro ⟨h1,h2⟩;rcases h.2 with h3 | h3<;>simp_all
theorem oQ (hZ:∀ (j:Nat) (o:Oper) cs b,ops[j]? = some o->o.op ≠ .select cs b) {i:Nat} {o:Oper} (hi:ops[i]? = some o) (hR:mB o.op=false) :
  ∀ (rem:List Nat) (a:Act) (w:World),runT P ops W C Q rem a w->i∈rem->(∀ j∈rem,j≠i->π j < π i->mb ops W j i=true)->rem.Pairwise (fun a b=>π a < π b)->∃ v,Yl P ops C o v a
 | [],_,_,_,hm,_,_=>by cases hm
 | h :: rem,a,w,hr,hm,JR,hp=>by
  simp only [runT] at hr;by_cases sK:h=i
  ·subst sK;rw [hi] at hr;simp only [hR,Bool.false_eq_true,if_false] at hr;obtain ⟨v,hy,_⟩:=hr;exact ⟨v,hy⟩
  ·have oK:i∈rem:=by
    rcases List.mem_cons.1 hm with e | e
    ·exact (sK e.symm).elim
    ·exact e
   have au:π h < π i:=(List.pairwise_cons.1 hp).1 i oK;split at hr
   ·exact hr.elim
   ·rename_i x hx;obtain ⟨QD,Vb,_,_⟩:=gg (JR h (by simp) sK au) hx hi;have ih:=fun a w hr=>oQ hZ hi hR rem a w hr oK (fun j hj=>JR j (List.mem_cons_of_mem _ hj)) (List.pairwise_cons.1 hp).2;split at hr
    ·obtain ⟨u,w',_,j2⟩:=Mv hr;obtain ⟨v,hy⟩:=ih _ _ j2;exact ⟨v,(Yl.same QD (fun cs b=>hZ i o cs b hi)).1 hy⟩
    ·obtain ⟨u,_,_,j2⟩:=hr;obtain ⟨v,hy⟩:=ih _ _ j2;exact ⟨v,(Yl.same QD (fun cs b=>hZ i o cs b hi)).1 hy⟩
theorem yK {h:Nat} {rem:List Nat} (hl:Mw ops rem):Mw ops (h :: rem):=by
 obtain ⟨i,o,hm,ho,hL⟩:=hl;exact ⟨i,o,List.mem_cons_of_mem _ hm,ho,hL⟩
theorem jM (hZ:∀ (j:Nat) (o:Oper) cs b,ops[j]? = some o->o.op ≠ .select cs b) (QE:∀ j i x y,π j < π i->ops[i]? = some x->ops[j]? = some y->pP x.op=true->W j=false) {i:Nat} {o:Oper} (hi:ops[i]? = some o) :
  ∀ (rem:List Nat) (a:Act) (w:World),(Mw ops rem->C w)->runT P ops W C Q rem a w->i∈rem->(∀ j∈rem,j≠i->π j < π i->mb ops W j i=true)->rem.Pairwise (fun a b=>π a < π b) ->
   dY P ops o a w (fun a' w'=>(W i=false->C w->C w')/\runT P ops W C Q (rem.erase i) a' w')
 | [],_,_,_,_,hm,_,_=>by cases hm
 | h :: rem,a,w,hC,hr,hm,JR,hp=>by
  by_cases sK:h=i
  ·subst sK;rw [List.erase_cons_head];simp only [runT,hi] at hr;split at hr
   ·exact hr
   ·obtain ⟨v,hy,hc,j2⟩:=hr;exact j8 hy hc ⟨fun _ h=>h,j2⟩
  ·have oK:i∈rem:=by
    rcases List.mem_cons.1 hm with e | e
    ·exact (sK e.symm).elim
    ·exact e
   have au:π h < π i:=(List.pairwise_cons.1 hp).1 i oK;have pZ:=(List.pairwise_cons.1 hp).2;rw [List.erase_cons_tail (sU sK)];have hr0:=hr;simp only [runT] at hr;split at hr
   ·exact hr.elim
   ·rename_i x hx;obtain ⟨QD,Vb,hEE,hLW⟩:=gg (JR h (by simp) sK au) hx hi;have YB:=fun cs b=>hZ h x cs b hx;have Mx:=fun cs b=>hZ i o cs b hi;have YC:∀ j∈rem,j≠i->π j < π i->mb ops W j i=true:=fun j hj=>JR j (List.mem_cons_of_mem _ hj);split at hr
    ·-- the head has an effect: so o has none
     rename_i hEx
     have hRo:mB o.op=false:=by
      cases he:mB o.op
      ·rfl
      ·exact (hEE ⟨hEx,he⟩).elim
     obtain ⟨v,hy⟩:=oQ (π:=π) hZ hi hRo (h :: rem) a w hr0 hm JR hp;have hci:pP o.op=true->C w:=fun hL=>hC ⟨i,o,hm,hi,hL⟩;refine j8 hy hci ⟨fun _ h=>h,?_⟩;simp only [runT,hx,hEx,if_true];refine (rB Vb YB).2 ?_;refine eC ?_ (oP hr);rintro a' w' ⟨⟨E4,j2⟩,u,rfl⟩;refine ⟨E4,?_⟩
     have hC':Mw ops rem->C w':=by
      intro hl;have u2:=hl;obtain ⟨l,z,hlm,hz,hL⟩:=hl;exact E4 (QE h l z x ((List.pairwise_cons.1 hp).1 l hlm) hz hx hL) (hC (yK u2))
     have ih:=jM hZ QE hi rem _ w' hC' j2 oK YC pZ;have fG:=(Yl.same (u:=u) QD Mx).2 hy;exact (mI fG (fun hL=>hC' ⟨i,o,oK,hi,hL⟩) ih).2
    ·rename_i hEx;obtain ⟨v,hy,hc,j2⟩:=hr;have ih:=jM hZ QE hi rem (a.put x.dst v) w (fun hl=>hC (yK hl)) j2 oK YC pZ;refine eC ?_ (oP ((rB QD Mx).1 ih));rintro a' w' ⟨⟨E4,lp⟩,u,rfl⟩;refine ⟨E4,?_⟩;simp only [runT,hx];rw [if_neg hEx];refine ⟨v,?_,fun hL=>?_,lp⟩
     ·exact (Yl.same (u:=u) Vb YB).2 hy
     ·have hWi:W i=false:=by
       cases hw:W i
       ·rfl
       ·exact (hLW ⟨hL,hw⟩).elim
      exact E4 hWi (hc hL)
def ordB (ops:Array Oper):Nat->Nat->Nat->Bool
 | 0,_,_=>false
 | n + 1,j,i=>
  match ops[i]? with
  | some o=>o.after.toList.any fun e=>Region.binds .any e && (Nat.beq e.on j || ordB ops n j e.on)
  | none=>false
def tF (ops:Array Oper) (W:Nat->Bool) (π:Nat->Nat):Bool:=
 Region.noSelect ops &&
 (List.range ops.size).all fun i=>
  match ops[i]? with
   | some o=>o.after.toList.all (fun e=>!Region.binds .any e || (Nat.blt (π e.on) (π i) && Nat.blt e.on ops.size)) && (!pP o.op || (List.range ops.size).all fun j=>!Nat.blt (π j) (π i) || !W j)
   | none=>false
def Cw (ops:Array Oper) (W:Nat->Bool) (π:Nat->Nat) (ex:Nat->Nat->Bool):Bool:=
 (List.range ops.size).all fun i=>(List.range ops.size).all fun j=>!Nat.blt (π j) (π i) || ex j i || ordB ops ops.size j i || mb ops W j i
def YD:Nat->Nat->Bool:=fun _ _=>false
def My (ops:Array Oper) (W:Nat->Bool):Bool:=tF ops W (fun i=>i) && Cw ops W (fun i=>i) YD
def Dn (ops:Array Oper) (aO:Array Bool):Prop:=
 ∀ i o,ops[i]? = some o->aO.getD i true=true->∀ e∈o.after,Region.binds .any e=true->aO.getD e.on false=true
theorem mJ {aO:Array Bool} (hd:Dn ops aO):∀ (n:Nat) (j i:Nat) (o:Oper),ops[i]? = some o->(∀ e∈o.after,Region.binds .any e=true->aO.getD e.on false=true)->ordB ops n j i=true->aO.getD j false=true
 | 0,j,i,o,_,_,h=>by simp [ordB] at h
 | n + 1,j,i,o,ho,ir,h=>by
  simp only [ordB,ho,List.any_eq_true,Bool.and_eq_true,Bool.or_eq_true] at h;obtain ⟨e,he,hb,hj⟩:=h;have Ia:e∈o.after:=sU he;have h1:=ir e Ia hb;rcases hj with hj | hj
  ·have:e.on=j:=sU hj;rw [<- this];exact h1
  ·cases Vc:ops[e.on]? with
   | none=>
    cases n with
    | zero=>simp [ordB] at hj
    | succ n=>simp [ordB,Vc] at hj
   | some o'=>
    have hg:aO.getD e.on true=true:=by
     rcases Nat.lt_or_ge e.on aO.size with h' | h'
     ·simp [h'] at h1 ⊢;exact h1
     ·simp [Array.getElem?_eq_none h'] at h1
    exact mJ hd n j e.on o' Vc (hd e.on o' Vc hg) hj
theorem AB (hc:tF ops W π=true):∀ j i x y,π j < π i->ops[i]? = some x->ops[j]? = some y->pP x.op=true->W j=false:=by
 simp only [tF,Bool.and_eq_true,List.all_eq_true,List.mem_range] at hc;intro j i x y Td hx hy hL;have hj:=(Array.getElem?_eq_some_iff.1 hy).1;have:=hc.2 i (Array.getElem?_eq_some_iff.1 hx).1;simp only [hx,Bool.and_eq_true,Bool.or_eq_true,hL,Bool.not_true,Bool.false_eq_true,false_or,List.all_eq_true,List.mem_range,Bool.not_eq_true'] at this;rcases this.2 j hj with h1 | h1
 ·have:¬ Nat.blt (π j) (π i)=true:=by simp [h1]
  simp at this;omega
 ·exact h1
theorem yL (hc:tF ops W π=true):∀ i x,ops[i]? = some x->∀ e∈x.after,Region.binds .any e=true->π e.on < π i/\e.on < ops.size:=by
 simp only [tF,Bool.and_eq_true,List.all_eq_true,List.mem_range] at hc;intro i x hx e he hb;have:=hc.2 i (Array.getElem?_eq_some_iff.1 hx).1;simp only [hx,Bool.and_eq_true,List.all_eq_true,Bool.or_eq_true] at this;have h2:=this.1 e (sU he);rw [hb] at h2;simpa using h2
theorem Cx (hc:tF ops W π=true):∀ (j:Nat) (o:Oper) cs b,ops[j]? = some o->o.op ≠ .select cs b:=by
 simp only [tF,Bool.and_eq_true] at hc;exact Region.noSelect_spec hc.1
theorem AD:∀ {l:List Nat},l.Pairwise (fun a b=>π a < π b)->∀ {x y:Nat},x∈l->y∈l->x≠y->π x < π y∨π y < π x
 | [],_,x,y,hx,_,_=>by cases hx
 | h :: r,hp,x,y,hx,hy,aT=>by
  have pZ:=List.pairwise_cons.1 hp;rcases List.mem_cons.1 hx with e1 | e1
  ·rcases List.mem_cons.1 hy with e2 | e2
   ·exact (aT (e1.trans e2.symm)).elim
   ·subst e1;exact .inl (pZ.1 _ e2)
  ·rcases List.mem_cons.1 hy with e2 | e2
   ·subst e2;exact .inr (pZ.1 _ e1)
   ·exact AD pZ.2 e1 e2 aT
theorem oR {Q':Exit->Act->World->Prop} (ex:Nat->Nat->Bool) (hcO:tF ops W π=true) (hcS:Cw ops W π ex=true) (hQ:∀ a w,Q a w->Q' .normal a w):∀ (ky:Nat) (aO:Array Bool) (rem:List Nat) (a:Act) (w:World),
  aO.size=ops.size->Dn ops aO->(∀ i,i∈rem↔i < ops.size/\aO.getD i true=false)->rem.Pairwise (fun a b=>π a < π b)->rem.length<=ky->(∀ j∈rem,∀ i∈rem,ex j i=false)->(Mw ops rem->C w)->runT P ops W C Q rem a w ->
   wpAny P .any ops Q' ky aO a w:=by
 have hZ:=Cx hcO;have QE:=AB hcO;have Mz:=yL hcO;simp only [Cw,List.all_eq_true,List.mem_range,Bool.or_eq_true,Bool.not_eq_true'] at hcS;intro ky
 induction ky with
 | zero=>
  intro aO rem a w bJ Vd j3 hp hlen hex hC hr;have:rem=[]:=List.length_eq_zero_iff.1 (by omega);subst this;refine ⟨?_,hQ _ _ hr⟩;rw [List.eq_nil_iff_forall_not_mem];intro i hi;have:=(mem_ready.1 hi);obtain ⟨h1,o,ho,_⟩:=this;have:=(j3 i).2 ⟨(Array.getElem?_eq_some_iff.1 ho).1,h1⟩;cases this
 | succ ky ih=>
  intro aO rem a w bJ Vd j3 hp hlen hex hC hr
  have Ve:∀ i,i∈Region.ready .any ops aO->i∈rem:=by
   intro i hi;obtain ⟨h1,o,ho,_⟩:=mem_ready.1 hi;exact (j3 i).2 ⟨(Array.getElem?_eq_some_iff.1 ho).1,h1⟩
  refine ⟨fun h0=>?_,fun i hi=>?_⟩
  ·cases rem with
   | nil=>exact hQ _ _ hr
   | cons h rem=>
    have hh:=(j3 h).1 (by simp);have hx:ops[h]? = some ops[h]:=Array.getElem?_eq_getElem hh.1
    have:h∈Region.ready .any ops aO:=by
     refine mem_ready.2 ⟨hh.2,_,hx,fun e he hb=>?_⟩;obtain ⟨au,Fs⟩:=Mz h _ hx e he hb;cases hg:aO.getD e.on false
     ·have B3:aO.getD e.on true=false:=by
       have:e.on < aO.size:=by rw [bJ];omega
       simp [this] at hg ⊢;exact hg
      have hm:=(j3 e.on).2 ⟨by omega,B3⟩;rcases List.mem_cons.1 hm with e1 | e1
      ·rw [e1] at au;omega
      ·have:=(List.pairwise_cons.1 hp).1 _ e1;omega
     ·rfl
    rw [h0] at this;cases this
  ·have mK:=Ve i hi;obtain ⟨Fu,o,ho,ir⟩:=mem_ready.1 hi;have dF:=(Array.getElem?_eq_some_iff.1 ho).1
   have JR:∀ j∈rem,j≠i->π j < π i->mb ops W j i=true:=by
    intro j hj _ au;rcases hcS i dF j ((j3 j).1 hj).1 with ((h1 | h1) | h1) | h1
    ·have:¬ Nat.blt (π j) (π i)=true:=by simp [h1]
     simp at this;omega
    ·rw [hex j hj i mK] at h1;cases h1
    ·have h2:=mJ Vd _ _ _ _ ho ir h1;have h3:=((j3 j).1 hj).2;have:j < aO.size:=by rw [bJ];exact ((j3 j).1 hj).1
     simp [this] at h2 h3;rw [h2] at h3;cases h3
    ·exact h1
   have aU:=jM hZ QE ho rem a w hC hr mK JR hp;have hnd:rem.Nodup:=pF hp
   have key:∀ a' w',((W i=false->C w->C w')/\runT P ops W C Q (rem.erase i) a' w')->wpAny P .any ops Q' ky (aO.setIfInBounds i true) a' w':=by
    rintro a' w' ⟨E4,j2⟩;refine ih (aO.setIfInBounds i true) (rem.erase i) a' w' (by simp [bJ]) ?_ ?_ (hp.sublist List.erase_sublist) (by rw [List.length_erase_of_mem mK];omega) (fun j hj i hi=>hex j (List.mem_of_mem_erase hj) i (List.mem_of_mem_erase hi)) ?_ j2
    ·intro k x hx hk e he hb;by_cases mv:k=i
     ·subst mv;rw [ho] at hx;simp only [oI] at hx;subst hx;exact getD_set_true (ir e he hb)
     ·rw [getD_set_ne true (Ne.symm mv)] at hk;exact getD_set_true (Vd k x hx hk e he hb)
    ·intro k;rw [List.Nodup.mem_erase_iff hnd];by_cases mv:k=i
     ·subst mv;simp [bJ,dF]
     ·rw [getD_set_ne true (Ne.symm mv)];simp only [ne_eq,mv,not_false_eq_true,true_and];exact j3 k
    ·rintro ⟨l,z,hl,hz,hL⟩;have u2:=List.mem_of_mem_erase hl;have aT:l≠i:=fun e=>by subst e;exact (List.Nodup.mem_erase_iff hnd).1 hl |>.1 rfl
     have YE:=hC ⟨l,z,u2,hz,hL⟩;refine E4 ?_ YE;rcases Nat.lt_or_ge (π i) (π l) with h1 | h1
     ·exact QE i l z o h1 hz ho hL
     ·have h0:π l≠π i:=by
       intro he;rcases AD hp u2 mK aT with h2 | h2<;>omega
      have:=JR l u2 aT (by omega);obtain ⟨_,_,_,h4⟩:=gg this hz ho;cases hw:W i
      ·rfl
      ·exact (h4 ⟨hL,hw⟩).elim
   unfold wpOp;rw [ho];simp only;unfold dY at aU;split
   ·rename_i hw;rw [if_pos hw] at aU;exact .inl (Cn (j7 key aU))
   ·rename_i hw;rw [if_neg hw] at aU;exact key _ _ aU
theorem kz {id:Nat} {Q':Exit->Act->World->Prop} {a:Act} {w:World} (hm:P.follows .mixedOrders=true) (hc:My ops W=true) (hQ:∀ a w,Q a w->Q' .normal a w)
  (hC:C w.drew) (h:runT P ops W C Q (List.range ops.size) a w.drew):(Code.region id ops true).wp P Q' a w:=by
 refine wp_region_any hm ?_;simp only [My,Bool.and_eq_true] at hc;refine oR (π:=fun i=>i) YD hc.1 hc.2 hQ ops.size (Array.replicate ops.size false) (List.range ops.size) a _ (by simp) ?_ ?_ List.pairwise_lt_range (by simp) (fun _ _ _ _=>rfl) (fun _=>hC) h
 ·intro i o ho hl;have:i < ops.size:=(Array.getElem?_eq_some_iff.1 ho).1;simp [this] at hl
 ·intro i;simp only [List.mem_range];constructor
  ·intro hi;exact ⟨hi,by simp [hi]⟩
  ·intro hi;exact hi.1
end
end Dv
end Go.Proofs.YtffhgcbfpidfiaaGreat
namespace Go.Proofs.YtffhgcbfpidfiaaGreat
namespace Dv
open Go Go.RowKit
structure Dr where
 ops:Array Oper
 W:Nat->Bool
 k:List It
 kP:St
 fin:Option (Bool->List (Nat × Sl)->St->Prop)
structure Dw where
 d:Dr
 E0:En
 wr:World
structure CC (E0:En) (bx:List (List DV)) (wr w:World):Prop where
 o:∀ (i:Nat) b cs,E0.β[i]? = some b->bx[i]? = some cs->cs ≠ []->w.heap[b]? = wr.heap[b]?
 c:∀ x v,E0.c x=some v->w.cell? x=some v
abbrev Dw.C (D:Dw) (w:World):Prop:=CC D.E0 D.d.kP.bx D.wr w
structure tG (E:En) (bx:List (List DV)) (w:World):Prop where
 len:E.β.length=bx.length
 ek:∀ (i:Nat) cs,bx[i]? = some cs->cs ≠ []->∃ b ty arr,E.β[i]? = some b/\w.heap[b]? = some (.cells (List.toArray arr) ty (0,0))/\RvC E cs arr
theorem Env.em {E:En} {bx:List (List DV)} {w:World} (h:Env E bx w):tG E bx w:=⟨h.len,fun i cs hi _=>h.ek i cs hi⟩
def YF:Option (List DV)->Bool
 | some []=>true
 | _=>false
theorem Ra {o:Option (List DV)} (h:YF o=true):o=some []:=by
 cases o with
 | none=>cases h
 | some l=>
  cases l with
  | nil=>rfl
  | cons _ _=>cases h
def Dw.wc (D:Dw) (E:En):En:=⟨D.E0.c,E.β,E.tk,E.τ⟩
structure fq (X:Ctx) (D:Dw) (c:Bool) (E:En) (s0:List (Nat × Sl)) (st:St) (a:Act) (w:World):Prop where
 rel:Rel X E st a w
 x:Ext D.E0 E
 β:∃ r,E.β=D.E0.β ++ r
 t0:∀ i x,get s0 i=some x->(Holds a.tmps x.gs->∃ v,a.tmps[i]? = some v/\Rv (D.wc E) x.s v)/\(¬ Holds a.tmps x.gs->a.tmps[i]? = some undef)
 cc:c=true->D.C w
def Dw.Q (D:Dw) (X:Ctx) (a:Act) (w:World):Prop:=
 match D.d.fin with
 | none=>kq X D.d.k .normal a w
 | some F=>∃ c E s0 st,fq X D c E s0 st a w/\F c s0 st
def delF {γ:Type _} (d:Nat):List (Nat × Sl)->(List (Nat × Sl)->γ)->γ
 | [],K=>K []
 | p :: r,K=>
  match Nat.beq p.1 d with
  | true=>delF d r K
  | false=>delF d r (fun r'=>K (p :: r'))
theorem nN {γ:Type _} (d:Nat):∀ (l:List (Nat × Sl)) (K:List (Nat × Sl)->γ),delF d l K=K (l.filter fun p=>!Nat.beq p.1 d)
 | [],K=>rfl
 | p :: r,K=>by
  simp only [delF,List.filter_cons];cases h:Nat.beq p.1 d
  ·simp only [Bool.not_false,if_true];rw [nN d r]
  ·simp only [Bool.not_true,Bool.false_eq_true,if_false];rw [nN d r K]
theorem get_filter (d:Nat):∀ (l:List (Nat × Sl)) (i:Nat) (x:Sl),get (l.filter fun p=>!Nat.beq p.1 d) i=some x->i≠d/\get l i=some x
 | [],i,x,h=>by cases h
 | (k,y) :: r,i,x,h=>by
  simp only [List.filter_cons] at h;split at h
  ·rename_i hk
   have hk:k≠d:=by
    rintro rfl;simp at hk
   simp only [dp] at h ⊢;split at h
   ·rename_i mv;subst mv;exact ⟨hk,by rw [if_pos rfl];exact h⟩
   ·rename_i mv;rw [if_neg mv];exact get_filter d r i x h
  ·rename_i hk;have hk:k=d:=sU hk;obtain ⟨h1,h2⟩:=get_filter d r i x h;refine ⟨h1,?_⟩;simp only [dp];rw [if_neg (by omega)];exact h2
def scal:DV->Bool
 | .v _=>true
 | .ud=>true
 | .loc _ _=>true
 | .el _ _=>true
 | _=>false
def put2 (s0:List (Nat × Sl)) (st:St) (dst:Option Nat) (b:Bool) (gs:List (Nat × Bool)) (s:DV) (K:List (Nat × Sl)->St->Prop):Prop:=
 match dst with
 | none=>K s0 st
 | some d=>
  match st with
  | ⟨sl,bx,tk⟩=>
   match b || scal s with
   | true=>K ((d,⟨gs,s⟩) :: s0) ⟨(d,⟨gs,s⟩) :: sl,bx,tk⟩
   | false=>delF d s0 fun ic=>K ic ⟨(d,⟨gs,s⟩) :: sl,bx,tk⟩
def optP:Option Prop->Prop
 | some p=>p
 | none=>False
def pR (X:Ctx) (D:Dr) (c:Bool) (s0:List (Nat × Sl)) (st:St) (G:List (Nat × Bool)) (op:Op):Option (Bool × DV):=
 match !mB op && (!pP op || c) with
 | false=>none
 | true=>
  match pureT X.P X.T ⟨s0,D.kP.bx,[]⟩ G op with
  | some s=>some (true,s)
  | none=>
   match pP op with
   | true=>none
   | false=>
    match pureT X.P X.T ⟨st.sl,[],[]⟩ G op with
    | some s=>some (false,s)
    | none=>none
def eR (X:Ctx) (D:Dr) (c:Bool) (s0:List (Nat × Sl)) (st:St) (op:Op) (K:Bool->DV->Prop):Option Prop:=
 match mB op with
 | true=>none
 | false=>
  match pP op with
  | true=>
   match c with
   | true=>effR X ⟨s0,D.kP.bx,[]⟩ op (K true)
   | false=>none
  | false=>
   match effR X ⟨s0,[],[]⟩ op (K true) with
   | some p=>some p
   | none=>effR X ⟨st.sl,[],[]⟩ op (K false)
def yM (X:Ctx) (D:Dr) (c:Bool) (i:Nat) (l:List (Nat × Oper)) (f:FuncId) (args:List DV) (dst:Option Nat) (s0:List (Nat × Sl)) (st:St):Prop:=
 Go.Proofs.Enters X.P f/\((∀ p∈l,D.ops[p.1]? = some p.2)->∀ (E0:En) (wr:World),tG E0 D.kP.bx wr->∀ E a w vs,fq X ⟨D,E0,wr⟩ c E s0 st a w->RvL E args vs->Calls X.P f vs.toArray w fun e w'=>∃ v,e = .returned v /\
  (D.W i=false->CC E0 D.kP.bx wr w->CC E0 D.kP.bx wr w')/\runT X.P D.ops D.W (CC E0 D.kP.bx wr) (Dw.Q ⟨D,E0,wr⟩ X) (l.map (·.1)) (a.put dst v) w')
def OpD (X:Ctx) (D:Dr) (c:Bool) (i:Nat) (l:List (Nat × Oper)) (o:Oper) (s0:List (Nat × Sl)) (st:St):Prop:=
 (∀ p∈l,D.ops[p.1]? = some p.2)->∀ (E0:En) (wr:World),tG E0 D.kP.bx wr->∀ E a w,fq X ⟨D,E0,wr⟩ c E s0 st a w->wq X.P o a w fun a' w'=>
  (D.W i=false->CC E0 D.kP.bx wr w->CC E0 D.kP.bx wr w')/\runT X.P D.ops D.W (CC E0 D.kP.bx wr) (Dw.Q ⟨D,E0,wr⟩ X) (l.map (·.1)) a' w'
def effE (X:Ctx) (D:Dr) (c:Bool) (i:Nat) (l:List (Nat × Oper)) (o:Oper) (s0:List (Nat × Sl)) (st:St) (K:Bool->List (Nat × Sl)->St->Prop):Prop:=
 match o.op with
 | .store t x y=>
  match o.dst with
  | some _=>False
  | none=>
   match D.W i with
   | true=>optP (effC X st o (K false s0))
   | false=>
    match stObj st o.op with
    | some j=>
     match Nat.ble D.kP.bx.length j || YF D.kP.bx[j]? with
     | true=>optP (effC X st o (K c s0))
     | false=>False
    | none=>False
 | .call cl=>
  match cl.callee with
  | .value f=>
   match rv st [] f,argsV st [] cl.args.toList with
   | some (.fn g first captured),some vs=>yM X D c i l g (first ++ vs ++ captured) o.dst s0 st
   | _,_=>False
  | _=>
   match o.dst with
   | some d=>optP (effC X st o fun st'=>delF d s0 fun ic=>K c ic st')
   | none=>False
 | _=>
  match o.dst with
  | some d=>
   match effC X st o fun st'=>
    match get st'.sl d with
    | some ⟨[],.loc j off⟩=>K c ((d,⟨[],.loc j off⟩) :: s0) st'
    | _=>delF d s0 fun ic=>K c ic st' with
   | some p=>p
   | none=>OpD X D c i l o s0 st
  | none=>False
def goD (X:Ctx) (D:Dr):Nat->Bool->List (Nat × Oper)->List (Nat × Sl)->St->Prop
 | _,c,[],s0,st=>
  match D.fin with
  | none=>go X 4000 D.k st
  | some F=>F c s0 st
 | 0,_,_ :: _,_,_=>False
 | n + 1,c,(i,o) :: r,s0,st=>
  match eL X.nt st.sl o.dst && eL X.nt s0 o.dst with
  | false=>False
  | true=>
   match o.guard with
   | none=>
    match mB o.op with
    | true=>effE X D c i r o s0 st fun c' ic st'=>goD X D n c' r ic st'
    | false=>
     match pR X D c s0 st [] o.op with
     | some (b,s)=>put2 s0 st o.dst b [] s (goD X D n c r)
     | none=>optP (eR X D c s0 st o.op fun b s=>put2 s0 st o.dst b [] s (goD X D n c r))
   | some (j,want)=>
    match gslot D.ops.toList j with
    | none=>False
    | some d=>
     match get st.sl d with
     | none=>False
     | some ⟨lr,_⟩=>
      match pR X D c s0 st ((d,want) :: lr) o.op with
      | some (b,s)=>
       match okG ((d,want) :: lr) o.dst with
       | true=>put2 s0 st o.dst b ((d,want) :: lr) s (goD X D n c r)
       | false=>False
      | none=>
       match get st.sl (lastG (d,want) lr).1 with
       | some ⟨[],.v (.bool b)⟩=>
        match lr with
        | []=>Br (b == want)
          (x7 st d want fun JS=>resL d want s0 fun s2=>
           match mB o.op with
           | true=>effE X D c i r o s2 JS fun c' ic st'=>goD X D n c' r ic st'
           | false=>optP (eR X D c s2 JS o.op fun b s=>put2 s2 JS o.dst b [] s (goD X D n c r)))
          (match !pP o.op || c with
           | true=>x7 st d (!want) fun JS=>resL d (!want) s0 fun s2=>put2 s2 JS o.dst true [] .ud (goD X D n c r)
           | false=>False)
        | _ :: _=>Br (b == (lastG (d,want) lr).2)
          (x7 st (lastG (d,want) lr).1 (lastG (d,want) lr).2 fun JS=>resL (lastG (d,want) lr).1 (lastG (d,want) lr).2 s0 fun s2=>goD X D n c ((i,o) :: r) s2 JS)
          (x7 st (lastG (d,want) lr).1 (!(lastG (d,want) lr).2) fun JS=>resL (lastG (d,want) lr).1 (!(lastG (d,want) lr).2) s0 fun s2=>goD X D n c ((i,o) :: r) s2 JS)
       | some ⟨[],.ud⟩=>
        match lr with
        | []=>
         match !pP o.op || c with
         | true=>put2 s0 st o.dst true [] .ud (goD X D n c r)
         | false=>False
        | _ :: _=>False
       | _=>False
section
variable {X:Ctx} {D:Dw} {c:Bool} {i:Nat} {s0:List (Nat × Sl)} {st:St} {E:En} {a:Act} {w:World}
theorem Vf (h:Ext D.E0 E):Ext D.E0 (D.wc E):=⟨fun _ _ h=>h,h.β,h.tk⟩
theorem Fv (h:Ext D.E0 E):Ext (D.wc E) E:=⟨h.c,fun _ _ h=>h,fun k q hq=>⟨q,hq,.inl ⟨rfl,rfl⟩⟩⟩
theorem Ib {E':En} (h:Ext E E'):Ext (D.wc E) (D.wc E'):=⟨fun _ _ h=>h,h.β,h.tk⟩
theorem fq.rl0 (h:fq X D c E s0 st a w) (hD:tG D.E0 D.d.kP.bx D.wr):Rl (D.wc E) D.d.kP.bx D.C s0 a where
 tm:=h.t0
 ek:=fun i cs hi=>by
  by_cases aT:cs=[]
  ·subst aT;have au:i < D.E0.β.length:=by rw [hD.len];exact (gS hi).1
   exact ⟨_,[],h.x.β i _ (gE au),⟨cz _,by simp⟩,fun w' _ j u hj=>by simp at hj⟩
  ·obtain ⟨b,ty,arr,hb,hw,hc⟩:=hD.ek i cs hi aT;exact ⟨b,arr,h.x.β i b hb,hc.mono (Vf h.x),fun w' hC j u hj=>by rw [cy ((hC.o i b cs hb hi aT).trans hw)];simpa using hj⟩
 cc:=fun x v hx w' hC=>hC.c x v hx
theorem fq.rlE (h:fq X D c E s0 st a w):Rl E [] (fun w'=>∀ x v,E.c x=some v->w'.cell? x=some v) st.sl a where
 tm:=h.rel.tm
 ek:=fun i cs hi=>by simp at hi
 cc:=fun x v hx w' hC=>hC x v hx
theorem Ic {s:DV} {v:Value} (hs:scal s=true) (hv:Rv E s v):Rv (D.wc E) s v:=by
 cases s<;>simp [scal] at hs
 ·unfold Rv at hv ⊢;exact hv
 ·unfold Rv at hv ⊢;exact hv
 ·unfold Rv at hv ⊢;exact hv
 ·unfold Rv at hv ⊢;exact hv
theorem iP (h:fq X D c E s0 st a w) {dst:Option Nat} (hd:(eL X.nt st.sl dst && eL X.nt s0 dst)=true) (b:Bool) (gs:List (Nat × Bool)) (s:DV) (v:Value) (Fg:∀ d,dst=some d->∀ p∈gs,p.1≠d)
  (pB:Holds a.tmps gs->Rv E s v) (og:b=true->Holds a.tmps gs->Rv (D.wc E) s v) (JH:¬ Holds a.tmps gs->v=undef) {K:List (Nat × Sl)->St->Prop} (hk:put2 s0 st dst b gs s K) :
  ∃ ic st',K ic st' /\ fq X D c E ic st' (a.put dst v) w:=by
 simp only [Bool.and_eq_true] at hd;have h1:=pT h.rel hd.1 gs s v Fg pB JH
 cases dst with
 | none=>exact ⟨s0,st,hk,h1,h.x,h.β,h.t0,h.cc⟩
 | some d=>
  obtain ⟨sl,bx,tk⟩:=st;have MA:=hd.2;simp only [eL,Bool.and_eq_true,Nat.blt_eq] at MA
  have hold:∀ i x,i≠d->get s0 i=some x->(Holds (a.put (some d) v).tmps x.gs->∃ u,(a.put (some d) v).tmps[i]? = some u/\Rv (D.wc E) x.s u)/\(¬ Holds (a.put (some d) v).tmps x.gs->(a.put (some d) v).tmps[i]? = some undef):=by
   intro i x hi hx;simp only [Act.put];rw [Array.getElem?_setIfInBounds_ne (Ne.symm hi),kN (lD MA.2 i x hx)];exact h.t0 i x hx
  simp only [put2] at hk;split at hk
  ·rename_i hb;refine ⟨_,_,hk,h1,h.x,h.β,fun i x hx=>?_,h.cc⟩;simp only [dp] at hx;split at hx
   ·rename_i x8;subst x8;simp only [oI] at hx;subst hx;have h2:(a.tmps.setIfInBounds d v)[d]? = some v:=by simp [Array.getElem?_setIfInBounds,h.rel.sz,MA.1]
    simp only [Act.put];rw [kN (Fg d rfl),h2];refine ⟨fun hh=>⟨v,rfl,?_⟩,fun hh=>by rw [JH hh]⟩;rcases Bool.or_eq_true _ _ |>.mp hb with hb | hb
    ·exact og hb hh
    ·exact Ic hb (pB hh)
   ·rename_i x8;exact hold i x (Ne.symm x8) hx
  ·rw [nN] at hk;refine ⟨_,_,hk,h1,h.x,h.β,fun i x hx=>?_,h.cc⟩;obtain ⟨h3,h4⟩:=get_filter d s0 i x hx;exact hold i x h3 h4
theorem lK (h:fq X D c E s0 st a w) {d:Nat} {b:Bool} (hd:a.tmps[d]? = some (.bool b)):fq X D c E (s0.map (bF d b)) (st.resolve d b) a w where
 rel:=j5 h.rel hd
 x:=h.x
 β:=h.β
 t0:=by
  intro i y hy;simp only [get_map,Option.map_eq_some_iff] at hy;obtain ⟨x,hx,rfl⟩:=hy;have ht:=h.t0 i x hx;unfold bF;split
  ·rename_i hi;have dF:i=d:=sU hi;subst dF;exact ⟨fun _=>⟨_,hd,fD rfl⟩,fun hn=>(hn (bh _)).elim⟩
  ·split
   ·rename_i hc
    have hn:¬ Holds a.tmps x.gs:=by
     intro hh;have:=hh (d,!b) (sU hc);simp only at this;rw [hd] at this;cases b<;>simp at this
    exact ⟨fun _=>⟨_,ht.2 hn,sE _⟩,fun hn=>(hn (bh _)).elim⟩
   ·have he:Holds a.tmps (x.gs.filter fun p=>p != (d,b))↔Holds a.tmps x.gs:=by
     constructor
     ·intro hh p hp;by_cases HZ:p=(d,b)
      ·subst HZ;exact hd
      ·exact hh p (by simp [List.mem_filter,hp,HZ])
     ·intro hh p hp;exact hh p (List.mem_filter.1 hp).1
    simp only [he];exact ht
 cc:=h.cc
theorem lL {nt d:Nat} {b:Bool} {dst:Option Nat} (h:(eL nt st.sl dst && eL nt s0 dst)=true):(eL nt (st.resolve d b).sl dst && eL nt (s0.map (bF d b)) dst)=true:=by
 simp only [Bool.and_eq_true] at h ⊢;exact ⟨j6 h.1,j6 (st:=⟨s0,[],[]⟩) h.2⟩
theorem Cy (hD:tG D.E0 D.d.kP.bx D.wr) (h:fq X D c E s0 st a w) {G:List (Nat × Bool)} (hG:Holds a.tmps G) {o:Oper} {b:Bool} {s:DV} (hp:pR X D.d c s0 st G o.op=some (b,s)) :
  mB o.op=false/\(pP o.op=true->c=true)/\∃ v,Rv E s v/\(b=true->Rv (D.wc E) s v)/\∀ w,(pP o.op=true->D.C w)->(execOp a.eval o).run X.P w = .ok (.value v) w:=by
 unfold pR at hp;split at hp
 ·cases hp
 ·rename_i hc;simp only [Bool.and_eq_true,Bool.not_eq_true',Bool.or_eq_true] at hc;refine ⟨hc.1,fun hL=>?_,?_⟩
  ·rcases hc.2 with h1 | h1
   ·rw [hL] at h1;cases h1
   ·exact h1
  ·split at hp
   ·rename_i s' hs;simp only [oI,Prod.mk.injEq] at hp;obtain ⟨rfl,rfl⟩:=hp;obtain ⟨v,hv,hr⟩:=iq (st:=⟨s0,D.d.kP.bx,[]⟩) X.hT (h.rl0 hD) hG hs;exact ⟨v,Rv.mono (Fv h.x) hv,fun _=>hv,hr⟩
   ·split at hp
    ·cases hp
    ·rename_i hL;split at hp
     ·rename_i s' hs;simp only [oI,Prod.mk.injEq] at hp;obtain ⟨rfl,rfl⟩:=hp;obtain ⟨v,hv,hr⟩:=iq (st:=⟨st.sl,[],[]⟩) X.hT h.rlE hG hs;exact ⟨v,hv,(by intro h;cases h),fun w' _=>hr w' (by intro h1;rw [hL] at h1;cases h1)⟩
     ·cases hp
theorem MB (hD:tG D.E0 D.d.kP.bx D.wr) (h:fq X D c E s0 st a w) {o:Oper} {K:Bool->DV->Prop} (hp:optP (eR X D.d c s0 st o.op K)) :
  mB o.op=false/\(pP o.op=true->c=true)/\∃ b s v,K b s/\Rv E s v/\(b=true->Rv (D.wc E) s v)/\∀ w,(pP o.op=true->D.C w)->(execOp a.eval o).run X.P w = .ok (.value v) w:=by
 unfold eR at hp;split at hp
 ·exact hp.elim
 ·rename_i hE;refine ⟨hE,?_⟩;split at hp
  ·rename_i hL;split at hp
   ·refine ⟨fun _=>rfl,?_⟩
    cases hs:effR X ⟨s0,D.d.kP.bx,[]⟩ o.op (K true) with
    | none=>rw [hs] at hp;exact hp.elim
    | some p=>
     rw [hs] at hp;obtain ⟨s,hk,v,hv,hr⟩:=lF (st:=⟨s0,D.d.kP.bx,[]⟩) (h.rl0 hD) hs hp;exact ⟨true,s,v,hk,Rv.mono (Fv h.x) hv,fun _=>hv,hr⟩
   ·exact hp.elim
  ·rename_i hL;have eS:∀ w':World,pP o.op=true->False:=fun w' h1=>by rw [hL] at h1;cases h1
   refine ⟨fun h1=>(by rw [hL] at h1;cases h1),?_⟩;split at hp
   ·rename_i p hs;obtain ⟨s,hk,v,hv,hr⟩:=lF (st:=⟨s0,[],[]⟩) (C:=D.C) ⟨h.t0,fun i cs hi=>by simp at hi,(h.rl0 hD).cc⟩ hs hp;exact ⟨true,s,v,hk,Rv.mono (Fv h.x) hv,fun _=>hv,fun w' _=>hr w' fun h1=>(eS w' h1).elim⟩
   ·cases hs:effR X ⟨st.sl,[],[]⟩ o.op (K false) with
    | none=>rw [hs] at hp;exact hp.elim
    | some p=>
     rw [hs] at hp;obtain ⟨s,hk,v,hv,hr⟩:=lF (st:=⟨st.sl,[],[]⟩) h.rlE hs hp;exact ⟨false,s,v,hk,hv,(by intro h;cases h),fun w' _=>hr w' fun h1=>(eS w' h1).elim⟩
theorem Ie {P:Program} {o:Oper} {K:Act->World->Prop} (h:wq P o a w K):wq P o a w fun a' w'=>K a' w' /\ ∃ u,a'=a.put o.dst u:=by
 unfold wq at *;split at h
 ·exact ⟨h,_,rfl⟩
 ·exact ⟨h,_,rfl⟩
 ·refine h.mono ?_;rintro e w' ⟨v,rfl,hv⟩;exact ⟨v,rfl,hv,v,rfl⟩
 ·exact h.elim
theorem yN (h:fq X D c E s0 st a w) {t:Option Nat} {E':En} {st':St} {a':Act} {w':World} (hs:bV t E w E' w') (hr:Rel X E' st' a' w') (ht:∀ j,t=some j->D.E0.β.length<=j∨D.d.kP.bx[j]? = some []):D.C w->D.C w':=fun hC=>
 ⟨fun i b cs hb cG aT=>by
  have iN:=h.x.β i b hb
  rw [hs.o i _ iN fun e=>by
   rcases ht i e with h1 | h1
   ·have:=(gS hb).1;omega
   ·rw [cG] at h1;simp only [oI] at h1;exact aT h1]
  exact hC.o i b cs hb cG aT,fun x v hx=>hr.env.sub x v (hs.x.c x v (h.x.c x v hx))⟩
theorem mL (h:fq X D c E s0 st a w) {t:Option Nat} {E':En} {st':St} {w':World} {c':Bool} {ic:List (Nat × Sl)} {dst:Option Nat} {u:Value} (hs:bV t E w E' w') (hr:Rel X E' st' (a.put dst u) w') (q7:c'=true->D.C w')
  (ht0:∀ i x,get ic i=some x->(∃ d,dst=some d/\i=d/\scal x.s=true/\get st'.sl d=some x)∨(get s0 i=some x/\∀ d,dst=some d->i≠d)) (hd:eL X.nt s0 dst=true):fq X D c' E' ic st' (a.put dst u) w' where
 rel:=hr
 x:=by
  refine ⟨fun y v hy=>hs.x.c y v (h.x.c y v hy),fun j b hb=>hs.x.β j b (h.x.β j b hb),fun k q hq=>?_⟩;obtain ⟨q1,h1,h2⟩:=h.x.tk k q hq;obtain ⟨q2,h3,h4⟩:=hs.x.tk k q1 h1;refine ⟨q2,h3,?_⟩;rcases h2 with ⟨h2,h5⟩ | h2
  ·rcases h4 with ⟨h4,h6⟩ | h4
   ·exact .inl ⟨by omega,by rw [h6,h5]⟩
   ·exact .inr (by omega)
  ·rcases h4 with ⟨h4,h6⟩ | h4
   ·exact .inr (by omega)
   ·exact .inr (by omega)
 β:=by
  obtain ⟨r1,h1⟩:=h.β;obtain ⟨r2,h2⟩:=hs.β;exact ⟨r1 ++ r2,by rw [h2,h1,List.append_assoc]⟩
 t0:=fun i x hx=>by
  rcases ht0 i x hx with ⟨d,rfl,rfl,H7,hg⟩ | ⟨hg,aT⟩
  ·have:=hr.tm _ _ hg;refine ⟨fun hh=>?_,this.2⟩;obtain ⟨v,h1,h2⟩:=this.1 hh;exact ⟨v,h1,Ic H7 h2⟩
  ·have h1:=h.t0 i x hg
   cases dst with
   | none=>
    refine ⟨fun hh=>?_,h1.2⟩;obtain ⟨v,h2,h3⟩:=h1.1 hh;exact ⟨v,h2,Rv.mono (Ib hs.x) h3⟩
   | some d=>
    simp only [eL,Bool.and_eq_true,Nat.blt_eq] at hd;simp only [Act.put];rw [Array.getElem?_setIfInBounds_ne (Ne.symm (aT d rfl)),kN (lD hd.2 i x hg)];refine ⟨fun hh=>?_,h1.2⟩;obtain ⟨v,h2,h3⟩:=h1.1 hh;exact ⟨v,h2,Rv.mono (Ib hs.x) h3⟩
 cc:=q7
def YG (X:Ctx) (D:Dw) (l:List Nat) (G:Bool->List (Nat × Sl)->St->Prop):Prop:=∀ c s0 st,G c s0 st->∀ E a w,fq X D c E s0 st a w->runT X.P D.d.ops D.d.W D.C (D.Q X) l a w
theorem Fw (hD:tG D.E0 D.d.kP.bx D.wr) {l:List (Nat × Oper)} (hl:∀ p∈l,D.d.ops[p.1]? = some p.2) {G:Bool->List (Nat × Sl)->St->Prop} (hG:YG X D (l.map (·.1)) G) {o:Oper} (hd:(eL X.nt st.sl o.dst && eL X.nt s0 o.dst)=true) (h:fq X D c E s0 st a w)
  (he:effE X D.d c i l o s0 st G):wq X.P o a w fun a' w'=>(D.d.W i=false->D.C w->D.C w')/\runT X.P D.d.ops D.d.W D.C (D.Q X) (l.map (·.1)) a' w':=by
 have ra:=hd;simp only [Bool.and_eq_true] at ra;have hlen:D.E0.β.length=D.d.kP.bx.length:=hD.len
 have core:∀ (K:St->Prop) (p:Prop) (c1:Bool),effC X st o K=some p->p->(c1=true->c=true)->(c1=true∨D.d.W i=false->∀ j,stObj st o.op=some j->D.E0.β.length<=j∨D.d.kP.bx[j]? = some []) ->
   (∀ st',K st' -> ∃ ic,G c1 ic st' /\ ∀ i x,get ic i=some x->(∃ d,o.dst=some d/\i=d/\scal x.s=true/\get st'.sl d=some x)∨(get s0 i=some x/\∀ d,o.dst=some d->i≠d)) ->
   wq X.P o a w fun a' w'=>(D.d.W i=false->D.C w->D.C w')/\runT X.P D.d.ops D.d.W D.C (D.Q X) (l.map (·.1)) a' w':=by
  intro K p c1 hp hpp Ig aU hK;refine j7 ?_ (Ie (lG ra.1 h.rel hp hpp));rintro a' w' ⟨⟨st',E',hk,hr,hs⟩,u,rfl⟩;refine ⟨fun hW=>yN h hs hr (aU (.inr hW)),?_⟩;obtain ⟨ic,hg,ht0⟩:=hK st' hk;exact hG c1 ic st' hg E' _ w' (mL h hs hr (fun hc=>yN h hs hr (aU (.inl hc)) (h.cc (Ig hc))) ht0 ra.2)
 have Tg:(∀ t x y,o.op ≠ .store t x y)->∀ j,stObj st o.op=some j->D.E0.β.length<=j∨D.d.kP.bx[j]? = some []:=by
  intro aT j hj;unfold stObj at hj;split at hj
  ·rename_i t x y ly;exact (aT t x y ly).elim
  ·cases hj
 have YH:∀ (d:Nat) (st':St),o.dst=some d->∀ i x,get (s0.filter fun p=>!Nat.beq p.1 d) i=some x->(∃ d,o.dst=some d/\i=d/\scal x.s=true/\get st'.sl d=some x)∨(get s0 i=some x/\∀ d,o.dst=some d->i≠d):=by
  intro d st' fg i x hx;obtain ⟨h1,h2⟩:=get_filter d s0 i x hx;exact .inr ⟨h2,fun d' ra=>by rw [fg] at ra;cases ra;exact h1⟩
 unfold effE at he;split at he
 ·rename_i t x y ly;split at he
  ·exact he.elim
  ·rename_i fg;have uU:∀ st':St,∀ i x,get s0 i=some x->(∃ d,o.dst=some d/\i=d/\scal x.s=true/\get st'.sl d=some x)∨(get s0 i=some x/\∀ d,o.dst=some d->i≠d):=fun st' i x hx=>.inr ⟨hx,fun d hd=>by rw [fg] at hd;cases hd⟩;split at he
   ·rename_i hW
    cases hp:effC X st o (G false s0) with
    | none=>rw [hp] at he;exact he.elim
    | some p=>
     rw [hp] at he;exact core _ p false hp he (by intro h;cases h) (by rintro (h1 | h1);cases h1;rw [hW] at h1;cases h1) fun st' hk=>⟨s0,hk,uU st'⟩
   ·split at he
    ·rename_i j hj;split at he
     ·rename_i eV
      have eV:D.d.kP.bx.length<=j∨D.d.kP.bx[j]? = some []:=by
       rcases Bool.or_eq_true _ _ |>.mp eV with h1 | h1
       ·exact .inl (sU h1)
       ·exact .inr (Ra h1)
      cases hp:effC X st o (G c s0) with
      | none=>rw [hp] at he;exact he.elim
      | some p=>
       rw [hp] at he;exact core _ p c hp he id (fun _ j' iN=>by rw [hj] at iN;cases iN;rw [hlen];exact eV) fun st' hk=>⟨s0,hk,uU st'⟩
     ·exact he.elim
    ·exact he.elim
 ·rename_i cl ly;split at he
  ·rename_i f tH;split at he
   ·rename_i g first captured vs hf u2
    obtain ⟨lx,YI⟩:=he;have gG:=h.rel.rl;have e1:=aW gG hf;unfold Rv at e1;obtain ⟨l1,r1,e1,yb,hr1⟩:=e1;have hargs:=il gG (bh _) _ _ u2;obtain ⟨dst,op,ty,pos,after,gu⟩:=o;obtain ⟨callee,args,argTypes⟩:=cl;simp only at ly tH;subst ly tH
    have hr:(execOp a.eval ⟨dst,.call ⟨.value f,args,argTypes⟩,ty,pos,after,gu⟩).run X.P w = .ok (.enter g (l1 ++ args.toList.map a.eval ++ r1).toArray) w:=by
     have e3:(l1.toArray ++ args.map a.eval ++ r1.toArray)=(l1 ++ args.toList.map a.eval ++ r1).toArray:=by apply Array.ext';simp
     simp only [execOp,resolve,e1,Deferred.ofValue,Sem.run_bind,Sem.run_pure,Result.andThen_ok,invoke,e3];exact lx _ _
    unfold wq;rw [hr];exact YI hl D.E0 D.wr hD E a w _ h ((yb.append hargs).append hr1)
   ·exact he.elim
  ·split at he
   ·rename_i d fg
    cases hp:effC X st o (fun st'=>delF d s0 fun ic=>G c ic st') with
    | none=>rw [hp] at he;exact he.elim
    | some p=>
     rw [hp] at he;refine core _ p c hp he id (fun _=>Tg (fun t x y h1=>by rw [ly] at h1;cases h1)) fun st' hk=>?_;rw [nN] at hk;exact ⟨_,hk,YH d st' fg⟩
   ·exact he.elim
 ·rename_i hns tV;split at he
  ·rename_i d fg
   cases hp:effC X st o (fun st'=>
    match get st'.sl d with
    | some ⟨[],.loc j off⟩=>G c ((d,⟨[],.loc j off⟩) :: s0) st'
    | _=>delF d s0 fun ic=>G c ic st') with
   | none=>rw [hp] at he;exact he hl D.E0 D.wr hD E a w h
   | some p=>
    rw [hp] at he;refine core _ p c hp he id (fun _=>Tg hns) fun st' hk=>?_;split at hk
    ·rename_i j off hg;refine ⟨_,hk,fun i x hx=>?_⟩;simp only [dp] at hx;split at hx
     ·rename_i x8;simp only [oI] at hx;subst hx;exact .inl ⟨d,fg,x8.symm,rfl,hg⟩
     ·rename_i x8;exact .inr ⟨hx,fun d' ra=>by rw [fg] at ra;cases ra;exact Ne.symm x8⟩
    ·rw [nN] at hk;exact ⟨_,hk,YH d st' fg⟩
  ·exact he.elim
theorem eQ (hD:tG D.E0 D.d.kP.bx D.wr):∀ n c l s0 st,goD X D.d n c l s0 st->(∀ p∈l,D.d.ops[p.1]? = some p.2)->∀ E a w,fq X D c E s0 st a w->runT X.P D.d.ops D.d.W D.C (D.Q X) (l.map (·.1)) a w
 | n,c,[],s0,st,hg,hl=>by
  intro E a w h;have hg:(match D.d.fin with | none=>go X 4000 D.d.k st | some F=>F c s0 st):=by cases n<;>simpa only [goD] using hg
  show D.Q X a w;unfold Dw.Q
  cases hf:D.d.fin with
  | none=>
   rw [hf] at hg;exact go_sound 4000 _ _ hg E a w h.rel
  | some F=>
   rw [hf] at hg;exact ⟨c,E,s0,st,h,hg⟩
 | 0,c,_ :: _,s0,st,hg,_=>by exact hg.elim
 | n + 1,c,(i,o) :: r,s0,st,hg,hl=>by
  intro E a w h;have ho:D.d.ops[i]? = some o:=hl (i,o) (by simp);have u2:∀ p∈r,D.d.ops[p.1]? = some p.2:=fun p hp=>hl p (List.mem_cons_of_mem _ hp);simp only [List.map_cons];have ih:∀ c s0 st,goD X D.d n c r s0 st->∀ E a w,fq X D c E s0 st a w->runT X.P D.d.ops D.d.W D.C (D.Q X) (r.map (·.1)) a w:=fun c s0 st hg=>eQ hD n c r s0 st hg u2;have ihG:YG X D (r.map (·.1)) (fun c s0 st=>goD X D.d n c r s0 st):=fun c s0 st hg=>ih c s0 st hg;simp only [goD,HU,An] at hg;split at hg
  ·exact hg.elim
  ·rename_i hd
   have fR:∀ (v:Value) ic st',mB o.op=false->Yl X.P D.d.ops D.C o v a->(pP o.op=true->c=true)->goD X D.d n c r ic st' -> fq X D c E ic st' (a.put o.dst v) w ->
     runT X.P D.d.ops D.d.W D.C (D.Q X) (i :: r.map (·.1)) a w:=by
    intro v ic st' hE hy hY mw bY;simp only [runT,ho];rw [if_neg (by simp [hE])];exact ⟨v,hy,fun hL=>h.cc (hY hL),ih c ic st' mw E _ w bY⟩
   have fS:∀ ic st',mB o.op=true->Region.wanted o (yielded D.d.ops a.tmps)=false->goD X D.d n c r ic st' -> fq X D c E ic st' (a.put o.dst undef) w ->
     runT X.P D.d.ops D.d.W D.C (D.Q X) (i :: r.map (·.1)) a w:=by
    intro ic st' hE hw mw bY;simp only [runT,ho];rw [if_pos hE];unfold dY;rw [if_neg (by simp [hw])];exact ⟨fun _ h=>h,ih c ic st' mw E _ w bY⟩
   have fE:∀ ic st',mB o.op=true->Region.wanted o (yielded D.d.ops a.tmps)=true->(eL X.nt st'.sl o.dst && eL X.nt ic o.dst)=true->effE X D.d c i r o ic st' (fun c' ic st'=>goD X D.d n c' r ic st')->fq X D c E ic st' a w ->
     runT X.P D.d.ops D.d.W D.C (D.Q X) (i :: r.map (·.1)) a w:=by
    intro ic st' hE hw ra he bY;simp only [runT,ho];rw [if_pos hE];unfold dY;rw [if_pos hw];exact Fw hD u2 ihG ra bY he
   have fP:∀ ic st',Region.wanted o (yielded D.d.ops a.tmps)=true->(eL X.nt st'.sl o.dst && eL X.nt ic o.dst)=true->optP (eR X D.d c ic st' o.op fun b s=>put2 ic st' o.dst b [] s (goD X D.d n c r))->fq X D c E ic st' a w ->
     runT X.P D.d.ops D.d.W D.C (D.Q X) (i :: r.map (·.1)) a w:=by
    intro ic st' hw ra he bY;obtain ⟨hE,hY,b,s,v,hk,hv,og,cf⟩:=MB hD bY he;obtain ⟨s1,p8,om,er⟩:=iP bY ra b [] s v (fun _ _ p hp=>by cases hp) (fun _=>hv) (fun hb _=>og hb) (fun hn=>(hn (bh _)).elim) hk;exact fR v s1 p8 hE (.inl ⟨hw,cf⟩) hY om er
   have udE:∀ ic st',(eL X.nt st'.sl o.dst && eL X.nt ic o.dst)=true->fq X D c E ic st' a w->put2 ic st' o.dst true [] .ud (goD X D.d n c r)->∃ s1 p8,goD X D.d n c r s1 p8/\fq X D c E s1 p8 (a.put o.dst undef) w:=by
    intro ic st' ra bY hk;exact iP bY ra true [] .ud undef (fun _ _ p hp=>by cases hp) (fun _=>sE E) (fun _ _=>sE _) (fun hn=>(hn (bh _)).elim) hk
   split at hg
   ·rename_i Q8;have hw:Region.wanted o (yielded D.d.ops a.tmps)=true:=by simp [Region.wanted,Q8]
    split at hg
    ·rename_i hE;exact fE s0 st hE hw hd hg h
    ·split at hg
     ·rename_i b s hs;obtain ⟨hE,hY,v,hv,og,cf⟩:=Cy hD h (bh _) hs;obtain ⟨s1,p8,om,er⟩:=iP h hd b [] s v (fun _ _ p hp=>by cases hp) (fun _=>hv) (fun hb _=>og hb) (fun hn=>(hn (bh _)).elim) hg;exact fR v s1 p8 hE (.inl ⟨hw,cf⟩) hY om er
     ·exact fP s0 st hw hd hg h
   ·rename_i j want Q8;split at hg
    ·exact hg.elim
    ·rename_i d Fg;split at hg
     ·exact hg.elim
     ·rename_i lr sd JP;have pX:=wanted_spec h.rel Q8 Fg JP
      have Fx:¬ Holds a.tmps ((d,want) :: lr)->Region.wanted o (yielded D.d.ops a.tmps)=false:=by
       intro hn;cases hww:Region.wanted o (yielded D.d.ops a.tmps)
       ·rfl
       ·exact (hn (pX.1 hww)).elim
      split at hg
      ·rename_i b s hs;split at hg
       case h_2=>exact hg.elim
       rename_i bS;have YJ:=uW bS;by_cases hh:Holds a.tmps ((d,want) :: lr)
       ·obtain ⟨hE,hY,v,hv,og,cf⟩:=Cy hD h hh hs;obtain ⟨s1,p8,om,er⟩:=iP h hd b _ s v YJ (fun _=>hv) (fun hb _=>og hb) (fun hn=>(hn hh).elim) hg;exact fR v s1 p8 hE (.inl ⟨pX.2 hh,cf⟩) hY om er
       ·obtain ⟨s1,p8,om,er⟩:=iP h hd b _ s undef YJ (fun hn=>(hh hn).elim) (fun _ hn=>(hh hn).elim) (fun _=>rfl) hg
        have hY:mB o.op=false/\(pP o.op=true->c=true):=by
         unfold pR at hs;split at hs
         ·cases hs
         ·rename_i hc;simp only [Bool.and_eq_true,Bool.not_eq_true',Bool.or_eq_true] at hc;refine ⟨hc.1,fun hL=>?_⟩;rcases hc.2 with h1 | h1
          ·rw [hL] at h1;cases h1
          ·exact h1
        exact fR undef s1 p8 hY.1 (.inr ⟨Fx hh,rfl⟩) hY.2 om er
      ·split at hg
       ·rename_i b gH;have ht0:=Cq h.rel gH
        cases lr with
        | nil=>
         simp only [lastG] at gH ht0;cases uX:(b == want)
         ·have Fq:b = !want:=by cases b<;>cases want<;>simp_all
          have hg:=hg.f uX
          have hn:Region.wanted o (yielded D.d.ops a.tmps)=false:=by
           refine Fx fun hh=>?_;have:=hh (d,want) (by simp);simp only at this;rw [ht0] at this;simp only [oI,Value.bool.injEq] at this;rw [this] at uX;simp at uX
          have hr:=lK (d:=d) (b:=!want) h (by rw [ht0,Fq]);split at hg
          ·rename_i hY
           have Vg:pP o.op=true->c=true:=by
            intro hL;simpa [hL] using hY
           obtain ⟨s1,p8,om,er⟩:=udE _ _ (lL hd) hr hg;cases hE:mB o.op
           ·exact fR undef s1 p8 hE (.inr ⟨hn,rfl⟩) Vg om er
           ·exact fS s1 p8 hE hn om er
          ·exact hg.elim
         ·have gf:b=want:=sU uX;have hg:=hg.t uX;subst gf;have hw:Region.wanted o (yielded D.d.ops a.tmps)=true:=pX.2 (jH ht0 (bh _));have hr:=lK (d:=d) (b:=b) h ht0;split at hg
          ·rename_i hE;exact fE _ _ hE hw (lL hd) hg hr
          ·exact fP _ _ hw (lL hd) hg hr
        | cons g1 gr=>
         have key:∀ e,a.tmps[(lastG (d,want) (g1 :: gr)).1]? = some (.bool e)->goD X D.d n c ((i,o) :: r) (s0.map (bF (lastG (d,want) (g1 :: gr)).1 e)) (st.resolve (lastG (d,want) (g1 :: gr)).1 e)->_:=
          fun e Me mw=>eQ hD n c ((i,o) :: r) _ _ mw hl E a w (lK h Me)
         cases uX:(b == (lastG (d,want) (g1 :: gr)).2)
         ·have hg:=hg.f uX;have Fq:b = !(lastG (d,want) (g1 :: gr)).2:=by cases b<;>cases h0:(lastG (d,want) (g1 :: gr)).2<;>simp_all
          exact key _ (by rw [ht0,Fq]) hg
         ·have hg:=hg.t uX;have gf:b=(lastG (d,want) (g1 :: gr)).2:=sU uX;exact key _ (by rw [ht0,gf]) hg
       ·rename_i gH
        cases lr with
        | nil=>
         have ht0:=Mp h.rel gH;simp only [lastG] at ht0
         have hn:Region.wanted o (yielded D.d.ops a.tmps)=false:=by
          refine Fx fun hh=>?_;have:=hh (d,want) (by simp);simp only at this;rw [ht0] at this;simp [undef] at this
         simp only at hg;split at hg
         ·rename_i hY
          have Vg:pP o.op=true->c=true:=by
           intro hL;simpa [hL] using hY
          obtain ⟨s1,p8,om,er⟩:=udE _ _ hd h hg;cases hE:mB o.op
          ·exact fR undef s1 p8 hE (.inr ⟨hn,rfl⟩) Vg om er
          ·exact fS s1 p8 hE hn om er
         ·exact hg.elim
        | cons g1 gr=>exact hg.elim
       ·exact hg.elim
def YK (X:Ctx) (o:Oper) (st st':St):Prop:=∀ E a w,Rel X E st a w->wq X.P o a w fun a' w'=>∃ E',Rel X E' st' a' w' /\ bV none E w E' w'
theorem YK.g {o:Oper} {k:List It} {st st':St} (h:YK X o st st') (hk:go X 4000 k st'):HS X o k st:=fun E a w hr=>by
 refine Cn (j7 ?_ (h E a w hr));rintro a' w' ⟨E',j2,_⟩;exact go_sound 4000 _ _ hk E' a' w' j2
theorem YK.d {o:Oper} {D:Dr} {st':St} {d:Nat} {r:List (Nat × Oper)} (h:YK X o st st') (fg:o.dst=some d) (hd:eL X.nt s0 (some d)=true) (hk:delF d s0 fun ic=>goD X D 3000 c r ic st'):OpD X D c i r o s0 st:=fun hl E0 wr hD E a w hr=>by
 refine j7 ?_ (Ie (h E a w hr.rel));rintro a' w' ⟨⟨E',j2,hs⟩,u,rfl⟩;have hC:=yN hr hs j2 (fun j hj=>by cases hj);refine ⟨fun _=>hC,?_⟩;rw [nN] at hk;refine eQ (D:=⟨D,E0,wr⟩) hD 3000 c r _ _ hk hl E' _ w' (mL hr hs j2 (fun h1=>hC (hr.cc h1)) (fun i x hx=>?_) (by rw [fg];exact hd));obtain ⟨h1,h2⟩:=get_filter d s0 i x hx;exact .inr ⟨h2,fun d' ra=>by rw [fg] at ra;cases ra;exact h1⟩
def nOps:Nat->List Oper->List (Nat × Oper)
 | _,[]=>[]
 | i,o :: r=>(i,o) :: nOps (i + 1) r
theorem u3:∀ (l:List Oper) (i:Nat) (p:Nat × Oper),p∈nOps i l->i<=p.1/\l[p.1 - i]? = some p.2
 | [],_,_,h=>by cases h
 | o :: r,i,p,h=>by
  rcases List.mem_cons.1 h with h | h
  ·subst h;simp
  ·have:=u3 r (i + 1) p h;refine ⟨by omega,?_⟩;rw [show p.1 - i=(p.1 - (i + 1)) + 1 by omega];simpa using this.2
theorem u4:∀ (l:List Oper) (i:Nat),(nOps i l).map (·.1)=List.range' i l.length
 | [],_=>rfl
 | o :: r,i=>by simp only [nOps,List.map_cons,u4 r (i + 1),List.length_cons,List.range'_succ]
theorem oS (hr:Rel X E st a w) {ops:Array Oper} {W:Nat->Bool} {k:List It}:fq X ⟨⟨ops,W,k,st,none⟩,E,w⟩ true E st.sl st a w where
 rel:=hr
 x:=Ext.refl E
 β:=⟨[],by simp⟩
 t0:=hr.tm
 cc:=fun _=>⟨fun _ _ _ _ _ _=>rfl,hr.env.sub⟩
theorem aG {id:Nat} {ops:Array Oper} {k:List It} {st:St} (W:Nat->Bool) (hm:X.P.follows .mixedOrders=true) (hc:My ops W=true)
  (h:goD X ⟨ops,W,k,st,none⟩ 3000 true (nOps 0 ops.toList) st.sl st):pL X id ops k st:=by
 intro E a w hr;have j2:=kO hr;have hs:=oS j2 (ops:=ops) (W:=W) (k:=k);refine kz (C:=CC E st.bx w.drew) (W:=W) (Q:=kq X k .normal) hm hc (fun a w h=>h) (hs.cc rfl) ?_;have:=eQ (D:=⟨⟨ops,W,k,st,none⟩,E,w.drew⟩) j2.env.em 3000 true _ _ _ h (fun p hp=>by simpa using (u3 _ _ p hp).2) E a w.drew hs;rw [u4] at this;rw [List.range_eq_range'];simp only [Array.length_toList] at this;exact this
def maskL:List Nat->Nat->List (List DV)->List (List DV)
 | _,_,[]=>[]
 | m,i,cs :: r=>(match m.contains i with | true=>[] | false=>cs) :: maskL m (i + 1) r
theorem rC (m:List Nat):∀ (l:List (List DV)) (i:Nat),(maskL m i l).length=l.length
 | [],_=>rfl
 | cs :: r,i=>by simp [maskL,rC m r]
theorem rD (m:List Nat):∀ (l:List (List DV)) (i j:Nat) cs,(maskL m i l)[j]? = some cs->cs=[]∨l[j]? = some cs
 | [],_,_,_,h=>by simp [maskL] at h
 | c :: r,i,0,cs,h=>by
  simp only [maskL,List.getElem?_cons_zero,oI] at h;split at h
  ·exact .inl h.symm
  ·exact .inr (by simp [h])
 | c :: r,i,j + 1,cs,h=>by
  simp only [maskL,List.getElem?_cons_succ] at h ⊢;exact rD m r (i + 1) j cs h
theorem ue {id:Nat} {ops:Array Oper} {k:List It} {st:St} (m:List Nat) (W:Nat->Bool) (hm:X.P.follows .mixedOrders=true) (hc:My ops W=true)
  (h:goD X ⟨ops,W,k,⟨st.sl,maskL m 0 st.bx,st.tk⟩,none⟩ 3000 true (nOps 0 ops.toList) st.sl st):pL X id ops k st:=by
 intro E a w hr;have j2:=kO hr;have hs:fq X ⟨⟨ops,W,k,⟨st.sl,maskL m 0 st.bx,st.tk⟩,none⟩,E,w.drew⟩ true E st.sl st a w.drew:=⟨j2,Ext.refl E,⟨[],by simp⟩,j2.tm,fun _=>⟨fun _ _ _ _ _ _=>rfl,j2.env.sub⟩⟩;refine kz (C:=CC E (maskL m 0 st.bx) w.drew) (W:=W) (Q:=kq X k .normal) hm hc (fun a w h=>h) (hs.cc rfl) ?_
 have Vh:tG E (maskL m 0 st.bx) w.drew:=⟨by rw [rC];exact j2.env.len,fun i cs hi aT=>by
  rcases rD m _ _ _ _ hi with h1 | h1
  ·exact (aT h1).elim
  ·exact j2.env.ek i cs h1⟩
 have:=eQ (D:=⟨⟨ops,W,k,⟨st.sl,maskL m 0 st.bx,st.tk⟩,none⟩,E,w.drew⟩) Vh 3000 true _ _ _ h (fun p hp=>by simpa using (u3 _ _ p hp).2) E a w.drew hs;rw [u4] at this;rw [List.range_eq_range'];simp only [Array.length_toList] at this;exact this
def XD (ops:Array Oper) (i:Nat):Bool:=
 match ops.toList[i]? with
 | some o=>
  match o.op with
  | .store ..=>true
  | _=>false
 | none=>false
theorem bg {id:Nat} {ops:Array Oper} {k:List It} {st:St} (hm:X.P.follows .mixedOrders=true) (hc:My ops (XD ops)=true)
  (h:goD X ⟨ops,XD ops,k,st,none⟩ 3000 true (nOps 0 ops.toList) st.sl st):pL X id ops k st:=aG (XD ops) hm hc h
theorem p9 {D:Dr} {f:FuncId} {args bE:List DV} {d:Nat} {r:List (Nat × Oper)} (lx:Enters X.P f) (hd:(eL X.nt st.sl (some d) && eL X.nt s0 (some d))=true) {Φ:DV->List (List DV)->List TkE->Prop} (hc:Ev X.P f bE [] [] Φ) (ha:CcL [] 0 0 0 bE args)
  (hk:∀ yO,Φ yO [] []->put2 s0 st (some d) false [] yO (goD X D 3000 c r)) (aU:X.still=false:=by exact rfl):yM X D c i r f args (some d) s0 st:=by
 refine ⟨lx,fun hl E0 wr hD E a w vs h hv=>(sJ h.rel aU hc ha hv).mono ?_⟩;rintro e w' ⟨v,E',yO,rfl,bY,hr,hΦ,hm,hx,hβ⟩
 have hh:∀ b,b < w.heap.size->w'.heap[b]? = w.heap[b]?:=fun b hb=>hm.block b hb (by
  rintro (h1 | ⟨y,h1,_⟩)
  ·simp [En.cl] at h1
  ·simp [En.cl] at h1)
 have hs:bV none E w E' w':=⟨hx,⟨[],by rw [hβ];simp⟩,fun j b hb _=>hh b (h.rel.env.bc (mG hb))⟩;have hC:=yN h hs bY (fun j hj=>by cases hj);refine ⟨v,rfl,fun _=>hC,?_⟩;have Cz:fq X ⟨D,E0,wr⟩ c E' s0 st (a.put none v) w':=mL h hs bY (fun h1=>hC (h.cc h1)) (fun i x hx=>.inr ⟨hx,fun d hd=>by cases hd⟩) rfl;obtain ⟨s1,p8,om,er⟩:=iP Cz hd false [] yO v (fun _ _ p hp=>by cases hp) (fun _=>hr) (fun hb=>by cases hb) (fun hn=>(hn (bh _)).elim) (hk yO hΦ);exact eQ (D:=⟨D,E0,wr⟩) hD 3000 c r _ _ om hl E' _ w' er
theorem aC {D:Dr} {f:FuncId} {args bE:List DV} {d:Nat} {r:List (Nat × Oper)} {yO:DV} (lx:Enters X.P f) (hc:EvP X.P f bE yO) (ha:CcL [] 0 0 0 bE args) (hd:(eL X.nt st.sl (some d) && eL X.nt s0 (some d))=true)
  (hk:put2 s0 st (some d) false [] yO (goD X D 3000 c r)) (aU:X.still=false:=by exact rfl):yM X D c i r f args (some d) s0 st:=
 p9 lx hd hc ha (fun _ hr=>hr ▸ hk) aU
theorem gh {D:Dr} {i:Nat} {f:FuncId} {args:List DV} {dst:Option Nat} (hW:D.W i=true) (h:dx X f args dst D.k st) (hf:D.fin=none:=by exact rfl):yM X D c i [] f args dst s0 st:=by
 refine ⟨h.1,fun _ E0 wr _ E a w vs hr hv=>(h.2.2 E a w vs hr.rel hv).mono ?_⟩;intro e w' hq
 cases e with
 | returned v=>
  refine ⟨v,rfl,⟨(fun hw=>by rw [hW] at hw;cases hw),?_⟩⟩;show Dw.Q ⟨D,E0,wr⟩ X _ _;unfold Dw.Q;simp only [hf];exact hq
 | _=>exact hq.elim
end
end Dv
end Go.Proofs.YtffhgcbfpidfiaaGreat
namespace Go.Proofs.YtffhgcbfpidfiaaGreat
namespace Dv
open Go Go.RowKit
section
variable {P:Program} {ops:Array Oper} {C:World->Prop} {Q:Act->World->Prop} {W:Nat->Bool} {π π':Nat->Nat}
theorem yP {o:Oper} {i:Nat} {a:Act} {w:World} {K:Act->World->Prop} {Q':Exit->Act->World->Prop} (ho:ops[i]? = some o) (h:dY P ops o a w K):wpOp P ops Q' i K a w:=by
 unfold wpOp;rw [ho];simp only;unfold dY at h;split
 ·rename_i hw;rw [if_pos hw] at h;exact .inl (Cn h)
 ·rename_i hw;rw [if_neg hw] at h;exact h
def chkT (ops:Array Oper) (x y:Nat):Bool:=
 (List.range ops.size).all fun i=>Nat.beq i x || Nat.beq i y ||
  match ops[i]? with
  | some o=>!mB o.op || ordB ops ops.size x i
  | none=>false
def tI (x y:Nat):Nat->Nat->Bool:=fun j i=>Nat.beq j x && Nat.beq i y
theorem Fy {x y:Nat} {Q':Exit->Act->World->Prop} (Fz:x≠y) (XE:tF ops W π=true) (YL:Cw ops W π (tI x y)=true) (h2O:tF ops W π'=true) (YM:Cw ops W π' (tI y x)=true) (hT:chkT ops x y=true)
  (hQ:∀ a w,Q a w->Q' .normal a w):∀ (ky:Nat) (aO:Array Bool) (r1 r2:List Nat) (a:Act) (w:World),
  aO.size=ops.size->Dn ops aO->(∀ i,i∈r1↔i < ops.size/\aO.getD i true=false)->(∀ i,i∈r2↔i < ops.size/\aO.getD i true=false)->r1.Pairwise (fun a b=>π a < π b)->r2.Pairwise (fun a b=>π' a < π' b)->r1.length<=ky ->
   x∈r1->y∈r1->C w->runT P ops W C Q r1 a w->runT P ops W C Q r2 a w->wpAny P .any ops Q' ky aO a w:=by
 have hZ:=Cx XE;have QE:=AB XE;have Vi:=AB h2O;have h1S':=YL;have h2S':=YM;simp only [Cw,List.all_eq_true,List.mem_range,Bool.or_eq_true,Bool.not_eq_true'] at YL YM;intro ky
 induction ky with
 | zero=>
  intro aO r1 r2 a w bJ Vd fH q6 QF Th hlen hx hy hC hr1 lp;have:r1=[]:=List.length_eq_zero_iff.1 (by omega);rw [this] at hx;cases hx
 | succ ky ih=>
  intro aO r1 r2 a w bJ Vd fH q6 QF Th hlen hx hy hC hr1 lp;have YN:∀ i,i∈r1↔i∈r2:=fun i=>(fH i).trans (q6 i).symm;have FA:r1.Nodup:=pF QF;have u5:r2.Nodup:=pF Th;have Mz:=yL XE;refine ⟨fun h0=>?_,fun i hi=>?_⟩
  ·cases r1 with
   | nil=>cases hx
   | cons h rem=>
    have hh:=(fH h).1 (by simp);have XF:ops[h]? = some ops[h]:=Array.getElem?_eq_getElem hh.1
    have:h∈Region.ready .any ops aO:=by
     refine mem_ready.2 ⟨hh.2,_,XF,fun e he hb=>?_⟩;obtain ⟨au,Fs⟩:=Mz h _ XF e he hb;cases hg:aO.getD e.on false
     ·have B3:aO.getD e.on true=false:=by
       have:e.on < aO.size:=by rw [bJ];omega
       simp [this] at hg ⊢;exact hg
      have hm:=(fH e.on).2 ⟨by omega,B3⟩;rcases List.mem_cons.1 hm with e1 | e1
      ·rw [e1] at au;omega
      ·have:=(List.pairwise_cons.1 QF).1 _ e1;omega
     ·rfl
    rw [h0] at this;cases this
  ·obtain ⟨Fu,o,ho,ir⟩:=mem_ready.1 hi;have dF:=(Array.getElem?_eq_some_iff.1 ho).1;have mK:i∈r1:=(fH i).2 ⟨dF,Fu⟩;have Rb:i∈r2:=(YN i).1 mK
   have fV:∀ j,j∈r1->ordB ops ops.size j i=true->False:=by
    intro j hj h1;have h2:=mJ Vd _ _ _ _ ho ir h1;have h3:=((fH j).1 hj).2;have:j < aO.size:=by rw [bJ];exact ((fH j).1 hj).1
    simp [this] at h2 h3;rw [h2] at h3;cases h3
   have Rc:i≠y->∀ j∈r1,j≠i->π j < π i->mb ops W j i=true:=by
    intro Vj j hj _ au;rcases YL i dF j ((fH j).1 hj).1 with ((h1 | h1) | h1) | h1
    ·have:¬ Nat.blt (π j) (π i)=true:=by simp [h1]
     simp at this;omega
    ·simp [tI] at h1;exact (Vj h1.2).elim
    ·exact (fV j hj h1).elim
    ·exact h1
   have Vk:i≠x->∀ j∈r2,j≠i->π' j < π' i->mb ops W j i=true:=by
    intro MC j hj _ au;rcases YM i dF j ((q6 j).1 hj).1 with ((h1 | h1) | h1) | h1
    ·have:¬ Nat.blt (π' j) (π' i)=true:=by simp [h1]
     simp at this;omega
    ·simp [tI] at h1;exact (MC h1.2).elim
    ·exact (fV j ((YN j).2 hj) h1).elim
    ·exact h1
   have Vl:Dn ops (aO.setIfInBounds i true):=by
    intro k z hz hk e he hb;by_cases mv:k=i
    ·subst mv;rw [ho] at hz;simp only [oI] at hz;subst hz;exact getD_set_true (ir e he hb)
    ·rw [getD_set_ne true (Ne.symm mv)] at hk;exact getD_set_true (Vd k z hz hk e he hb)
   have yQ:∀ (rem:List Nat),rem.Nodup->(∀ i,i∈rem↔i < ops.size/\aO.getD i true=false)->∀ k,k∈rem.erase i↔k < ops.size/\(aO.setIfInBounds i true).getD k true=false:=by
    intro rem hnd j3 k;rw [List.Nodup.mem_erase_iff hnd];by_cases mv:k=i
    ·subst mv;simp [bJ,dF]
    ·rw [getD_set_ne true (Ne.symm mv)];simp only [ne_eq,mv,not_false_eq_true,true_and];exact j3 k
   refine yP ho ?_;by_cases MC:i=x
   ·subst MC;have aU:=jM hZ QE ho r1 a w (fun _=>hC) hr1 mK (Rc Fz) QF;refine eC ?_ aU;rintro a' w' ⟨E4,j2⟩;refine oR (C:=C) (tI i y) XE h1S' hQ ky _ (r1.erase i) a' w' (by simp [bJ]) Vl (yQ r1 FA fH) (QF.sublist List.erase_sublist) (by rw [List.length_erase_of_mem mK];omega) ?_ ?_ j2
    ·intro j hj k _;cases iN:tI i y j k
     ·rfl
     ·simp only [tI,Bool.and_eq_true,Nat.beq_eq] at iN;exact (((List.Nodup.mem_erase_iff FA).1 hj).1 iN.1).elim
    ·rintro ⟨l,z,hl,hz,hL⟩;refine E4 ?_ hC;have u2:=List.mem_of_mem_erase hl;have aT:l≠i:=((List.Nodup.mem_erase_iff FA).1 hl).1;rcases AD QF mK u2 aT.symm with h1 | h1
     ·exact QE i l z o h1 hz ho hL
     ·have:=Rc Fz l u2 aT h1;obtain ⟨_,_,_,h4⟩:=gg this hz ho;cases hw:W i
      ·rfl
      ·exact (h4 ⟨hL,hw⟩).elim
   ·by_cases Vj:i=y
    ·subst Vj;have aU:=jM hZ Vi ho r2 a w (fun _=>hC) lp Rb (Vk (Ne.symm Fz)) Th;refine eC ?_ aU;rintro a' w' ⟨E4,j2⟩;refine oR (C:=C) (tI i x) h2O h2S' hQ ky _ (r2.erase i) a' w' (by simp [bJ]) Vl (yQ r2 u5 q6) (Th.sublist List.erase_sublist) ?_ ?_ ?_ j2
     ·have e1:r1.length=r2.length:=(List.perm_iff_count.2 (fun z=>by rw [FA.count,u5.count];simp [YN z])).length_eq;rw [List.length_erase_of_mem Rb];omega
     ·intro j hj k _;cases iN:tI i x j k
      ·rfl
      ·simp only [tI,Bool.and_eq_true,Nat.beq_eq] at iN;exact (((List.Nodup.mem_erase_iff u5).1 hj).1 iN.1).elim
     ·rintro ⟨l,z,hl,hz,hL⟩;refine E4 ?_ hC;have u2:=List.mem_of_mem_erase hl;have aT:l≠i:=((List.Nodup.mem_erase_iff u5).1 hl).1;rcases AD Th Rb u2 aT.symm with h1 | h1
      ·exact Vi i l z o h1 hz ho hL
      ·have:=Vk (Ne.symm Fz) l u2 aT h1;obtain ⟨_,_,_,h4⟩:=gg this hz ho;cases hw:W i
       ·rfl
       ·exact (h4 ⟨hL,hw⟩).elim
    ·have hRo:mB o.op=false:=by
      simp only [chkT,List.all_eq_true,List.mem_range,Bool.or_eq_true,Nat.beq_eq] at hT;rcases hT i dF with (h1 | h1) | h1
      ·exact (MC h1).elim
      ·exact (Vj h1).elim
      ·rw [ho] at h1;simp only [Bool.or_eq_true,Bool.not_eq_true'] at h1;rcases h1 with h1 | h1
       ·exact h1
       ·exact (fV x hx h1).elim
     obtain ⟨v,Ti⟩:=oQ hZ ho hRo r1 a w hr1 mK (Rc Vj) QF;have Yb:=jM hZ QE ho r1 a w (fun _=>hC) hr1 mK (Rc Vj) QF;have tD:=jM hZ Vi ho r2 a w (fun _=>hC) lp Rb (Vk MC) Th;have om:=mI Ti (fun _=>hC) Yb;have MD:=mI Ti (fun _=>hC) tD;refine j8 Ti (fun _=>hC) ?_
     exact ih _ (r1.erase i) (r2.erase i) _ w (by simp [bJ]) Vl (yQ r1 FA fH) (yQ r2 u5 q6) (QF.sublist List.erase_sublist) (Th.sublist List.erase_sublist) (by rw [List.length_erase_of_mem mK];omega)
      ((List.Nodup.mem_erase_iff FA).2 ⟨Ne.symm MC,hx⟩) ((List.Nodup.mem_erase_iff FA).2 ⟨Ne.symm Vj,hy⟩) hC om.2 MD.2
end
def selL (ops:List Oper):List Nat->List (Nat × Oper)
 | []=>[]
 | i :: r=>
  match ops[i]? with
  | some o=>(i,o) :: selL ops r
  | none=>selL ops r
theorem ME {ops:List Oper} {l:List Nat} {p:Nat × Oper} (h:p∈selL ops l):ops[p.1]? = some p.2:=by
 induction l with
 | nil=>cases h
 | cons i r ih=>
  unfold selL at h;split at h
  ·rename_i o ho;rcases List.mem_cons.1 h with h | h
   ·rw [h];exact ho
   ·exact ih h
  ·exact ih h
def plc:List Nat->Nat->Nat
 | [],_=>0
 | x :: r,i=>if Nat.beq x i then 0 else plc r i + 1
def MF (ops:Array Oper) (l:List Nat):Bool:=
 (selL ops.toList l).map (·.1) == l && (List.range ops.size).all (fun i=>l.contains i) && l.all (fun i=>Nat.blt i ops.size) && Nat.ble l.length ops.size && pwB (plc l) l
where pwB (f:Nat->Nat):List Nat->Bool
 | []=>true
 | x :: r=>r.all (fun y=>Nat.blt (f x) (f y)) && pwB f r
theorem u6 {f:Nat->Nat}:∀ {l:List Nat},MF.pwB f l=true->l.Pairwise (fun a b=>f a < f b)
 | [],_=>List.Pairwise.nil
 | x :: r,h=>by
  simp only [MF.pwB,Bool.and_eq_true,List.all_eq_true,Nat.blt_eq] at h;exact List.pairwise_cons.2 ⟨h.1,u6 h.2⟩
def YO (ops:Array Oper) (W:Nat->Bool) (l l':List Nat) (x y:Nat):Bool:=
 !Nat.beq x y && Nat.blt x ops.size && Nat.blt y ops.size && MF ops l && MF ops l' && tF ops W (plc l) && Cw ops W (plc l) (tI x y) && tF ops W (plc l') && Cw ops W (plc l') (tI y x) && chkT ops x y
def swp (i j k:Nat):Nat:=
 match Nat.beq k i with
 | true=>j
 | false=>
  match Nat.beq k j with
  | true=>i
  | false=>k
theorem j9 (i j k:Nat):swp i j (swp i j k)=k:=by
 have hb:∀ a b:Nat,Nat.beq a b=decide (a=b):=fun a b=>by
  by_cases h:a=b
  ·subst h;simp
  ·rw [decide_eq_false h];cases h1:Nat.beq a b
   ·rfl
   ·exact (h (sU h1)).elim
 unfold swp;simp only [hb];by_cases h1:k=i
 ·subst h1;simp only [decide_true];by_cases h2:j=k
  ·subst h2;simp
  ·simp [h2]
 ·by_cases h2:k=j
  ·subst h2;simp [h1]
  ·simp [h1,h2]
mutual
def renD (f:Nat->Nat):DV->DV
 | .v x=>.v x
 | .ud=>.ud
 | .agg l=>.agg (renL f l)
 | .tup l=>.tup (renL f l)
 | .sl e es tk=>.sl e es tk
 | .pt cs o=>.pt cs o
 | .loc i o=>.loc (f i) o
 | .el i o=>.el (f i) o
 | .ms i e o l c=>.ms (f i) e o l c
 | .fn g l r=>.fn g (renL f l) (renL f r)
 | .pI t x=>.pI t (renD f x)
def renL (f:Nat->Nat):List DV->List DV
 | []=>[]
 | d :: r=>renD f d :: renL f r
end
def renS (f:Nat->Nat):List (Nat × Sl)->List (Nat × Sl)
 | []=>[]
 | (k,⟨gs,s⟩) :: r=>(k,⟨gs,renD f s⟩) :: renS f r
def renO (f:Nat->Nat):List (List DV)->List (List DV)
 | []=>[]
 | cs :: r=>renL f cs :: renO f r
def swL {α:Type} (i j:Nat) (l:List α):List α:=
 match l[i]?,l[j]? with
 | some a,some b=>(l.set i b).set j a
 | _,_=>l
def fh (i j:Nat) (S:St):St:=⟨renS (swp i j) S.sl,swL i j (renO (swp i j) S.bx),S.tk⟩
theorem qa (f:Nat->Nat):∀ (l:List (List DV)) (k:Nat),(renO f l)[k]? = (l[k]?).map (renL f)
 | [],k=>by simp [renO]
 | c :: r,0=>by simp [renO]
 | c :: r,k + 1=>by simp only [renO,List.getElem?_cons_succ];exact qa f r k
theorem dj (f:Nat->Nat):∀ (l:List (List DV)),(renO f l).length=l.length
 | []=>rfl
 | c :: r=>by simp [renO,dj f r]
theorem CA (f:Nat->Nat):∀ (l:List (Nat × Sl)) (k:Nat),get (renS f l) k=(get l k).map fun x=>⟨x.gs,renD f x.s⟩
 | [],k=>rfl
 | (i,⟨gs,s⟩) :: r,k=>by
  simp only [renS,dp];split
  ·rfl
  ·exact CA f r k
theorem cH {α:Type} (i j:Nat) (l:List α):(swL i j l).length=l.length:=by
 unfold swL;split<;>simp
theorem eD {α:Type} {i j:Nat} {l:List α} (hi:i < l.length) (hj:j < l.length) (k:Nat):(swL i j l)[k]? = l[swp i j k]?:=by
 have hb:∀ a b:Nat,Nat.beq a b=true↔a=b:=fun a b=>by simp
 unfold swL;rw [gE hi,gE hj];simp only;unfold swp;by_cases hkj:k=j
 ·subst hkj;rw [List.getElem?_set_self (sU hj)];cases h1:Nat.beq k i
  ·simp only [Nat.beq_refl];exact (gE hi).symm
  ·have:=(hb k i).1 h1;subst this;exact (gE hi).symm
 ·rw [List.getElem?_set_ne (Ne.symm hkj)];by_cases mv:k=i
  ·subst mv;rw [List.getElem?_set_self hi];simp only [Nat.beq_refl];exact (gE hj).symm
  ·rw [List.getElem?_set_ne (Ne.symm mv)]
   have h1:Nat.beq k i=false:=by
    cases h:Nat.beq k i
    ·rfl
    ·exact (mv ((hb k i).1 h)).elim
   have h2:Nat.beq k j=false:=by
    cases h:Nat.beq k j
    ·rfl
    ·exact (hkj ((hb k j).1 h)).elim
   simp only [h1,h2]
theorem Re {α:Type} {i j:Nat} {l:List α} (hi:i < l.length) (hj:j < l.length):swL i j (swL i j l)=l:=by
 apply List.ext_getElem?;intro k;rw [eD (by rw [cH];exact hi) (by rw [cH];exact hj),eD hi hj,j9]
section
variable {E:En} {i j:Nat}
mutual
theorem Rv.FB (hi:i < E.β.length) (hj:j < E.β.length):∀ {d:DV} {v:Value},Rv E (renD (swp i j) d) v->Rv ⟨E.c,swL i j E.β,E.tk,E.τ⟩ d v
 | .v x,v,h=>by simp only [renD] at h;unfold Rv at h ⊢;exact h
 | .ud,v,h=>by simp only [renD] at h;unfold Rv at h ⊢;exact h
 | .sl e es tk,v,h=>by simp only [renD] at h;unfold Rv at h ⊢;exact h
 | .pt cs o,v,h=>by simp only [renD] at h;unfold Rv at h ⊢;exact h
 | .loc k o,v,h=>by
  simp only [renD] at h;unfold Rv at h ⊢;obtain ⟨b,h1,h2⟩:=h;exact ⟨b,by show (swL i j E.β)[k]? = _;rw [eD hi hj];exact h1,h2⟩
 | .el k o,v,h=>by
  simp only [renD] at h;unfold Rv at h ⊢;obtain ⟨b,h1,h2⟩:=h;exact ⟨b,by show (swL i j E.β)[k]? = _;rw [eD hi hj];exact h1,h2⟩
 | .ms k e o l c,v,h=>by
  simp only [renD] at h;unfold Rv at h ⊢;obtain ⟨b,ad,h1,h2⟩:=h;exact ⟨b,ad,by show (swL i j E.β)[k]? = _;rw [eD hi hj];exact h1,h2⟩
 | .agg l,v,h=>by
  simp only [renD] at h;unfold Rv at h ⊢;obtain ⟨vs,h1,h2,h3⟩:=h;exact ⟨vs,h1,RvL.FB hi hj h2,h3⟩
 | .tup l,v,h=>by
  simp only [renD] at h;unfold Rv at h ⊢;obtain ⟨vs,h1,h2⟩:=h;exact ⟨vs,h1,RvL.FB hi hj h2⟩
 | .fn g l r,v,h=>by
  simp only [renD] at h;unfold Rv at h ⊢;obtain ⟨l',r',h1,h2,h3⟩:=h;exact ⟨l',r',h1,RvL.FB hi hj h2,RvL.FB hi hj h3⟩
 | .pI t x,v,h=>by
  simp only [renD] at h;unfold Rv at h ⊢;obtain ⟨z,h1,h2⟩:=h;exact ⟨z,h1,Rv.FB hi hj h2⟩
theorem RvL.FB (hi:i < E.β.length) (hj:j < E.β.length):∀ {l:List DV} {vs:List Value},RvL E (renL (swp i j) l) vs->RvL ⟨E.c,swL i j E.β,E.tk,E.τ⟩ l vs
 | [],vs,h=>by simp only [renL,RvL] at h ⊢;exact h
 | d :: r,vs,h=>by
  simp only [renL,RvL] at h ⊢;obtain ⟨v,s,h1,h2,h3⟩:=h;exact ⟨v,s,h1,Rv.FB hi hj h2,RvL.FB hi hj h3⟩
end
end
theorem Ih {α:Type} {i j:Nat} {l:List α} (hi:i < l.length) (hj:j < l.length) {x:α}:x∈swL i j l↔x∈l:=by
 have h1:∀ (l:List α),i < l.length->j < l.length->x∈swL i j l->x∈l:=by
  intro l hi hj h;obtain ⟨k,hk⟩:=List.mem_iff_getElem?.1 h;rw [eD hi hj] at hk;exact mG hk
 refine ⟨h1 l hi hj,fun h=>?_⟩;have:=h1 (swL i j l) (by rw [cH];exact hi) (by rw [cH];exact hj);rw [Re hi hj] at this;exact this h
theorem JT {i j:Nat} {l:List Nat} (hi:i < l.length) (hj:j < l.length) (h:l.Nodup):(swL i j l).Nodup:=by
 have au:∀ k,k < l.length->swp i j k < l.length:=by
  intro k hk;unfold swp;split
  ·exact hj
  ·split
   ·exact hi
   ·exact hk
 unfold List.Nodup;rw [List.pairwise_iff_getElem];intro a b ha hb oT he;rw [cH] at ha hb
 have hg:∀ k (hk:k < l.length),(swL i j l)[k]'(by rw [cH];exact hk)=l[swp i j k]'(au k hk):=by
  intro k hk;have:=eD hi hj k;rw [gE (by rw [cH];exact hk),gE (au k hk)] at this;exact Option.some.inj this
 rw [hg a ha,hg b hb] at he
 have h1:l[swp i j a]? = l[swp i j b]?:=by
  rw [gE (au a ha),gE (au b hb),he]
 have:=(List.getElem?_inj (au a ha) h).1 h1;have:=congrArg (swp i j) this;rw [j9,j9] at this;omega
theorem nO {P:Program} {ops:Array Oper} {W:Nat->Bool} {C:World->Prop} {Q Q':Act->World->Prop} (hQ:∀ a w,Q a w->Q' a w):∀ {l:List Nat} {a:Act} {w:World},runT P ops W C Q l a w->runT P ops W C Q' l a w
 | [],a,w,h=>hQ _ _ h
 | i :: r,a,w,h=>by
  simp only [runT] at h ⊢;split at h
  ·exact h.elim
  ·split at h
   ·rename_i hE;rw [if_pos hE];exact eC (fun a w hk=>⟨hk.1,nO hQ hk.2⟩) h
   ·rename_i hE;rw [if_neg hE];obtain ⟨v,h1,h2,h3⟩:=h;exact ⟨v,h1,h2,nO hQ h3⟩
section
variable {X:Ctx} {E:En} {S:St} {a:Act} {w:World} {i j:Nat}
theorem CB (hX:X.bt=[]) (h:Rel X E (fh i j S) a w) (LQ:X.n0<=i) (BZ:X.n0<=j) (hi:i < S.bx.length) (hj:j < S.bx.length):Rel X ⟨E.c,swL i j E.β,E.tk,E.τ⟩ S a w:=by
 have hlen:E.β.length=S.bx.length:=by
  rw [h.env.len];simp only [fh,cH,dj]
 have dF:i < E.β.length:=by rw [hlen];exact hi
 have iN:j < E.β.length:=by rw [hlen];exact hj
 have jL:∀ k,(fh i j S).bx[k]? = (S.bx[swp i j k]?).map (renL (swp i j)):=fun k=>by
  simp only [fh];rw [eD (by rw [dj];exact hi) (by rw [dj];exact hj),qa]
 exact {
  env:={
   len:=by rw [cH];exact hlen
   tl:=h.env.tl
   ek:=fun k cs hk=>by
    obtain ⟨b,ty,arr,hb,hw,hc⟩:=h.env.ek (swp i j k) (renL (swp i j) cs) (by rw [jL,j9,hk];rfl);exact ⟨b,ty,arr,by rw [eD dF iN];exact hb,hw,RvL.FB dF iN hc.1,hc.2⟩
   inj:=JT dF iN h.env.inj
   sub:=h.env.sub
   pc:=fun x v hx hm=>h.env.pc x v hx ((Ih dF iN).1 hm)
   ct:=fun k q y hq hy=>by
    rcases h.env.ct k q y hq hy with h1 | ⟨g,cap,cur,rfl,h1,h2,h3,h4,h5,h6⟩
    ·exact .inl h1
    ·exact .inr ⟨g,cap,cur,rfl,h1,h2,h3,h4,fun hm=>h5 ((Ih dF iN).1 hm),h6⟩
   iW:=h.env.iW }
  tk:=h.tk
  sz:=h.sz
  tm:=fun k x hx=>by
   have:=h.tm k ⟨x.gs,renD (swp i j) x.s⟩ (by simp only [fh];rw [CA,hx];rfl);refine ⟨fun hh=>?_,this.2⟩;obtain ⟨v,h1,h2⟩:=this.1 hh;exact ⟨v,h1,Rv.FB dF iN h2⟩
  df:=h.df
  nw:={
   c:=h.nw.c
   cn:=h.nw.cn
   β:=by
    obtain ⟨r,hr,hl⟩:=h.nw.β;have hE0:X.E0.β.length=X.n0:=X.jt;refine ⟨(swL i j E.β).drop X.n0,?_,fun b hb=>?_⟩
    ·show swL i j E.β=_
     have:(swL i j E.β).take X.n0=X.E0.β:=by
      apply List.ext_getElem?;intro k;rw [List.getElem?_take];split
      ·rename_i hk;rw [eD dF iN]
       have:swp i j k=k:=by
        unfold swp;have hb:∀ a b:Nat,Nat.beq a b=true↔a=b:=fun a b=>by simp
        cases h1:Nat.beq k i
        ·cases h2:Nat.beq k j
         ·rfl
         ·have:=(hb k j).1 h2;omega
        ·have:=(hb k i).1 h1;omega
       rw [this,hr,List.getElem?_append_left (by omega)]
      ·rename_i hk;exact (List.getElem?_eq_none (by omega)).symm
     rw [<- this,List.take_append_drop]
    ·have hnd:=h.env.inj;obtain ⟨k,hk⟩:=List.mem_iff_getElem?.1 hb;rw [List.getElem?_drop,eD dF iN] at hk
     have aN:X.n0<=swp i j (X.n0 + k):=by
      unfold swp;split
      ·exact BZ
      ·split
       ·exact LQ
       ·omega
     rw [hr,List.getElem?_append_right (by omega)] at hk;exact hl b (mG hk)
   tk:=h.nw.tk
   tn:=h.nw.tn
   l0:=h.nw.l0 }
  fr:=h.fr
  sh:=h.sh
  bt:=.nil hX }
theorem Ii (hX:X.bt=[]) (h:Rel X E (fh i j S) a w) (LQ:X.n0<=i) (BZ:X.n0<=j) (hi:i < S.bx.length) (hj:j < S.bx.length):∃ E',Rel X E' S a w:=⟨_,CB hX h LQ BZ hi hj⟩
end
def Ij (sl:List (Nat × Sl)):List (Nat × Sl)->Prop
 | []=>True
 | p :: r=>get sl p.1=some p.2/\Ij sl r
theorem u7 {sl:List (Nat × Sl)}:∀ {l:List (Nat × Sl)},Ij sl l->∀ i x,get l i=some x->get sl i=some x
 | [],_,i,x,hx=>by cases hx
 | (k,y) :: r,h,i,x,hx=>by
  simp only [dp] at hx;split at hx
  ·rename_i mv;subst mv;simp only [oI] at hx;subst hx;exact h.1
  ·exact u7 h.2 i x hx
def uniqS:List Nat->List (Nat × Sl)->List (Nat × Sl)
 | _,[]=>[]
 | m,p :: r=>
  match muB m p.1 with
  | true=>uniqS m r
  | false=>p :: uniqS (p.1 :: m) r
theorem abv:∀ (l:List (Nat × Sl)) (m:List Nat) (i:Nat),muB m i=false->get (uniqS m l) i=get l i
 | [],_,_,_=>rfl
 | (k,x) :: r,m,i,h=>by
  simp only [uniqS]
  cases hm:muB m k with
  | true=>
   simp only;rw [abv r m i h,dp,if_neg];rintro rfl;rw [hm] at h;cases h
  | false=>
   simp only [dp];by_cases hk:k=i
   ·rw [if_pos hk,if_pos hk]
   ·rw [if_neg hk,if_neg hk]
    exact abv r (k :: m) i (by simp only [muB,h,Bool.or_false];cases hb:Nat.beq k i with
     | true=>exact (hk (Nat.eq_of_beq_eq_true hb)).elim
     | false=>rfl)
def gL (s S:St):Prop:=s.bx=S.bx/\s.tk=S.tk/\Ij s.sl (uniqS [] S.sl)
theorem CD {X:Ctx} {E:En} {s S:St} {a:Act} {w:World} (h:Rel X E s a w) (hs:gL s S):Rel X E S a w where
 env:=by rw [<- hs.1];exact h.env
 tk:=by rw [<- hs.2.1];exact h.tk
 sz:=h.sz
 tm:=fun i x hx=>h.tm i x (u7 hs.2.2 i x (by rw [abv _ _ _ rfl];exact hx))
 df:=h.df
 nw:=h.nw
 fr:=h.fr
 sh:=h.sh
 bt:=h.bt
theorem nP {X:Ctx} {id:Nat} {ops:Array Oper} {k:List It} {st:St} (W:Nat->Bool) (x y:Nat) (l l':List Nat) (i j:Nat) (hm:X.P.follows .mixedOrders=true) (hc:YO ops W l l' x y=true) (S:St)
  (h:goD X ⟨ops,W,[.Cd fun s=>s=S],st,none⟩ 3000 true (selL ops.toList l) st.sl st) (h':goD X ⟨ops,W,[.Cd fun s=>gL s (fh i j S)],st,none⟩ 3000 true (selL ops.toList l') st.sl st)
  (lu:(Nat.ble X.n0 i && Nat.ble X.n0 j && Nat.blt i S.bx.length && Nat.blt j S.bx.length)=true) (hk:go X 4000 k S) (hX:X.bt=[]:=by exact rfl):pL X id ops k st:=by
 intro E a w hr;have j2:=kO hr;simp only [Bool.and_eq_true,Nat.ble_eq,Nat.blt_eq] at lu;simp only [YO,MF,Bool.and_eq_true,List.all_eq_true,Nat.blt_eq,Nat.ble_eq,beq_iff_eq,List.mem_range,Bool.not_eq_true'] at hc;obtain ⟨⟨⟨⟨⟨⟨⟨⟨⟨Fz,ya⟩,Yc⟩,⟨⟨⟨h1a,XG⟩,h1c⟩,hlen⟩,h1d⟩,⟨⟨⟨h2a,h2b⟩,h2c⟩,_⟩,h2d⟩,XE⟩,YL⟩,h2O⟩,YM⟩,hT⟩:=hc
 have hQ:∀ S',(S'=S∨S'=fh i j S)->∀ a w,(∃ st E,Rel X E st a w/\(st=S' ∨ gL st S'))->kq X k .normal a w:=by
  rintro S' hS a w ⟨p8,E1,Tj,sH⟩
  have bY:Rel X E1 S' a w:=by
   rcases sH with rfl | sH
   ·exact Tj
   ·exact CD Tj sH
  rcases hS with rfl | rfl
  ·exact go_sound 4000 _ _ hk E1 a w bY
  ·obtain ⟨E2,Ct⟩:=Ii hX bY lu.1.1.1 lu.1.1.2 lu.1.2 lu.2;exact go_sound 4000 _ _ hk E2 a w Ct
 have key:∀ (S':St),(S'=S∨S'=fh i j S)->∀ (l:List Nat),(selL ops.toList l).map (·.1)=l->∀ J:St->Prop,(∀ s,J s->s=S' ∨ gL s S')->(goD X ⟨ops,W,[.Cd J],st,none⟩ 3000 true (selL ops.toList l) st.sl st) ->
   runT X.P ops W (CC E st.bx w.drew) (fun a w=>kq X k .normal a w) l a w.drew:=by
  intro S' hS l hl J hJ h;have hs:=oS j2 (ops:=ops) (W:=W) (k:=[.Cd J]);have:=eQ (D:=⟨⟨ops,W,[.Cd J],st,none⟩,E,w.drew⟩) j2.env.em 3000 true _ _ _ h (fun p hp=>by simpa using ME hp) E a w.drew hs;rw [hl] at this;exact nO (fun a w ⟨st,E1,h1,h2⟩=>hQ S' hS a w ⟨st,E1,h1,hJ st h2⟩) this
 have e1:=key S (.inl rfl) l h1a _ (fun s hs=>.inl hs) h;have e2:=key (fh i j S) (.inr rfl) l' h2a _ (fun s hs=>.inr hs) h';refine wp_region_any hm ?_
 have FC:∀ (l:List Nat),(∀ i,i < ops.size->l.contains i=true)->(∀ i∈l,i < ops.size)->∀ i,i∈l↔i < ops.size/\(Array.replicate ops.size false).getD i true=false:=by
  intro l ha hb i;constructor
  ·intro hi;exact ⟨hb i hi,by simp [hb i hi]⟩
  ·intro hi;simpa using ha i hi.1
 have hxy':x≠y:=by
  intro e;subst e;simp at Fz
 refine Fy (C:=CC E st.bx w.drew) (π:=plc l) (π':=plc l') (Q:=kq X k .normal) hxy' XE YL h2O YM hT (fun a w h=>h) ops.size (Array.replicate ops.size false) l l' a _ (by simp) ?_ (FC l XG h1c) (FC l' h2b h2c) (u6 h1d) (u6 h2d) hlen
  (by simpa using XG x ya) (by simpa using XG y Yc) ⟨fun _ _ _ _ _ _=>rfl,j2.env.sub⟩ e1 e2
 intro i o ho hl;have:i < ops.size:=(Array.getElem?_eq_some_iff.1 ho).1;simp [this] at hl
end Dv
end Go.Proofs.YtffhgcbfpidfiaaGreat
namespace Go.Proofs.YtffhgcbfpidfiaaGreat
namespace Dv
open Go Go.RowKit
section
variable {X:Ctx} {st:St} {k:List It} {E:En} {a:Act} {w:World}
noncomputable def En.Ik (E:En) (w:World):En:=⟨rz E 0 w,[],[],[]⟩
theorem Rf {bx:List (List DV)} (h:Env E bx w):Env (E.Ik w) [] w where
 len:=rfl
 tl:=rfl
 ek:=by simp
 inj:=List.nodup_nil
 sub:=fun x u hx=>by
  rcases eB hx with ⟨_,h1⟩ | h1
  ·exact h1
  ·exact h.sub x u h1
 pc:=by simp [En.Ik]
 ct:=by simp [En.Ik]
 iW:=by simp [En.Ik]
theorem Rg {bx:List (List DV)} (h:Env E bx w):LV E (E.Ik w) bx 0 where
 c:=fun x u hx=>lH h hx
 fz:=fun i cs hi cG=>by
  obtain ⟨b,ty,arr,hb,hw,hc⟩:=h.ek i cs cG;refine ⟨b,arr,hb,hc,fun j u hj=>?_⟩;show rz E 0 w ⟨b,j,none⟩=some u;unfold rz;rw [if_pos ⟨i,hi,hb⟩,cy hw];simpa using hj
theorem jo {P:Program} {s:Bool} {bx:List (List DV)} (h:Env E bx w) {f:FuncId} {args bE:List DV} {vs:List Value} {y:DV} (hc:U7 s P f bE [] [] fun d _ _=>d=y) (ha:CcL bx 0 0 0 bE args) (hv:RvL E args vs) :
  Calls P f vs.toArray w fun e w'=>∃ v E2,e = .returned v/\Rv E2 y v/\pJ (fun _=>False) w w' /\ (s=true->∃ q,w'=w.drewN q):=by
 have UL:RvL (E.Ik w) bE vs:=CcL.sound (Rg h) (H9.zero _ _) ha hv;refine (hc (E.Ik w) w vs (Rf h) rfl UL).mono ?_;rintro e w' ⟨v,rfl,hm,hs,d,os,E2,he,hβ,iZ,hn,Q9,rfl⟩;refine ⟨v,E2,rfl,Q9,⟨hm.os,hm.tape,hm.output,hm.size,fun i hi _=>hm.block i hi ?_⟩,hs⟩;rintro (h1 | ⟨y,h1,_⟩)
 ·simp [En.Ik] at h1
 ·simp [En.Ik] at h1
theorem AE {f:FuncId} {args bE:List DV} {d:Nat} {y:Value} (lx:Enters X.P f) (hc:EvP X.P f bE (.v y)) (ha:CcL st.bx 0 0 0 bE args) (hd:eL X.nt st.sl (some d)=true)
  (hk:go X 4000 k ⟨(d,⟨[],.v y⟩) :: st.sl,st.bx,st.tk⟩) (aU:X.still=false:=by exact rfl):dx X f args (some d) k st:=by
 refine ⟨lx,aU,fun E a w vs h hv=>(jo h.env hc ha hv).mono ?_⟩;rintro e w' ⟨v,E2,rfl,hr,hm,_⟩;have hh:∀ i,i < w.heap.size->w'.heap[i]? = w.heap[i]?:=fun i hi=>hm.block i hi (fun h=>h);have bY:Rel X E st a w':=dg h (Ext.refl E) (h.env.ku hh) h.tk h.nw (h.fr.cj hm.os hm.tape hm.output hm.size fun i hi=>.inr (hh i hi)) (mh aU) (h.bt.ku fun b hb=>hh b (h.env.bc hb));unfold Rv at hr;exact go_sound 4000 _ _ hk E _ w' (aZ bY hd (.v y) v (by unfold Rv;exact hr))
end
end Dv
end Go.Proofs.YtffhgcbfpidfiaaGreat
namespace Go.Proofs.YtffhgcbfpidfiaaGreat
namespace Dv
open Go Go.RowKit
def MG (bx:List (List DV)) (N m:Nat) (sl:List (Nat × Sl)):List (Nat × Sl)->Prop
 | []=>True
 | p :: r=>(∃ x,get sl p.1=some ⟨p.2.gs,x⟩/\Cc bx N N m p.2.s x)/\MG bx N m sl r
theorem yR {bx:List (List DV)} {N m:Nat} {sl:List (Nat × Sl)}:∀ {l:List (Nat × Sl)},MG bx N m sl l->∀ i x',get l i=some x' -> ∃ x,get sl i=some ⟨x'.gs,x⟩/\Cc bx N N m x'.s x
 | [],_,i,x',hx=>by cases hx
 | (k,y) :: r,h,i,x',hx=>by
  simp only [dp] at hx;split at hx
  ·rename_i mv;subst mv;simp only [oI] at hx;subst hx;exact h.1
  ·exact yR h.2 i x' hx
section
variable {X:Ctx} {E:En} {st st':St} {a:Act} {w:World} {k:List It}
theorem Il (h:Rel X E st a w) (N:Nat) (hN:X.n0<=N) (CE:N<=st.bx.length) (jL:lB st.bx N N st.tk.length st'.bx (st.bx.take N)) (iZ:st'.tk=st.tk) (mF:MG st.bx N st.tk.length st.sl st'.sl):∃ E',Rel X E' st' a w:=by
 obtain ⟨r,Q5,hβl⟩:=h.nw.β;have hlen:E.β.length=st.bx.length:=h.env.len
 have eo:∀ (i:Nat) b,X.n0<=i->E.β[i]? = some b->b∈r:=fun i b hi hb=>by
  rw [Q5,List.getElem?_append_right (by rw [X.jt];exact hi)] at hb;exact mG hb
 let E':En:=⟨rz E N w,E.β.take N,E.tk,E.τ⟩
 have Mn:LV E E' st.bx N:={
  c:=fun x u hx=>lH h.env hx
  fz:=fun i cs hi cG=>by
   obtain ⟨b,ty,arr,hb,hw,hc⟩:=h.env.ek i cs cG;refine ⟨b,arr,hb,hc,fun j u hj=>?_⟩;show rz E N w ⟨b,j,none⟩=some u;unfold rz;rw [if_pos ⟨i,hi,hb⟩,cy hw]
   simpa using hj }
 have yc:H9 E E' N st.tk.length:={
  β:=fun i b hi hb=>by show (E.β.take N)[i]? = _;rw [List.getElem?_take,if_pos hi];exact hb
  tk:=fun k hk=>⟨rfl,rfl⟩ }
 have U4:∀ (i:Nat) b,N<=i->E.β[i]? = some b->b ∉ E.β.take N:=fun i b hi hb hm=>by
  obtain ⟨j,hj⟩:=List.getElem?_of_mem hm;rw [List.getElem?_take] at hj;split at hj
  ·rename_i hjN;have:=(List.getElem?_inj (gS hb).1 h.env.inj).1 (hb.trans hj.symm);omega
  ·cases hj
 obtain ⟨kK,Yv⟩:=jL.get;refine ⟨E',?_⟩
 exact {
  env:={
   len:=by
    show (E.β.take N).length=st'.bx.length;rw [kK,List.length_take,List.length_take];omega
   tl:=h.env.tl
   ek:=fun i cs' hi=>by
    obtain ⟨cs,cG,q7⟩:=Yv i cs' hi;rw [List.getElem?_take] at cG;split at cG
    ·rename_i au;obtain ⟨b,ty,arr,hb,hw,hc⟩:=h.env.ek i cs cG;exact ⟨b,ty,arr,yc.β i b au hb,hw,CcL.sound Mn yc q7 hc.1,hc.2⟩
    ·cases cG
   inj:=h.env.inj.sublist (List.take_sublist _ _)
   sub:=fun x u hx=>by
    rcases eB hx with ⟨_,h1⟩ | h1
    ·exact h1
    ·exact h.env.sub x u h1
   pc:=fun x u hx hm=>by
    rcases eB hx with ⟨⟨i,hi,hb⟩,_⟩ | h1
    ·exact U4 i _ hi hb hm
    ·exact h.env.pc x u h1 (List.mem_of_mem_take hm)
   ct:=fun k q y hq hy=>by
    rcases h.env.ct k q y hq hy with h1 | ⟨g,cap,cur,rfl,h1,h2,h3,h4,h5,h6⟩
    ·exact .inl h1
    ·refine .inr ⟨g,cap,cur,rfl,h1,⟨h2.1,h2.2.mono fun _ _ hx=>lH h.env hx⟩,h3,h4,fun hm=>h5 (List.mem_of_mem_take hm),fun x u hx hg=>?_⟩;rcases eB hx with ⟨⟨i,hi,hb⟩,_⟩ | h7
     ·rw [hg] at hb;exact (h5 (mG hb)).elim
     ·exact h6 x u h7 hg
   iW:=h.env.iW }
  tk:=by rw [iZ];exact h.tk
  sz:=h.sz
  tm:=fun i x' BW=>by
   obtain ⟨x,hx,q7⟩:=yR mF i x' BW;have:=h.tm i _ hx;refine ⟨fun hh=>?_,this.2⟩;obtain ⟨v,h1,h2⟩:=this.1 hh;exact ⟨v,h1,Cc.sound Mn yc q7 h2⟩
  df:=h.df
  nw:={
   c:=fun x u hx=>lH h.env (h.nw.c x u hx)
   cn:=fun x u hx=>by
    rcases eB hx with ⟨⟨i,hi,hb⟩,_⟩ | h1
    ·exact .inr (.inl (hβl _ (eo i _ (by omega) hb)))
    ·exact h.nw.cn x u h1
   β:=by
    refine ⟨r.take (N - X.n0),?_,fun b hb=>hβl b (List.mem_of_mem_take hb)⟩;show E.β.take N=_;rw [Q5,List.take_append,List.take_of_length_le (by rw [X.jt];omega),X.jt]
   tk:=h.nw.tk
   tn:=h.nw.tn
   l0:=h.nw.l0 }
  fr:=h.fr
  sh:=h.sh
  bt:=h.bt.sub _ }
theorem MH {c:Code} (N:Nat) (p8:St) (hN:Nat.ble X.n0 N=true) (CE:Nat.ble N st.bx.length=true) (iZ:p8.tk=st.tk) (jL:lB st.bx N N st.tk.length p8.bx (st.bx.take N)) (mF:MG st.bx N st.tk.length st.sl p8.sl)
  (hk:sD X c k p8):sD X c k st:=by
 intro E a w h;obtain ⟨E',h'⟩:=Il h N (nL hN) (nL CE) jL iZ mF;exact hk E' a w h'
theorem dG {n0 m0:Nat} {st st':St} (n:Nat) (q:TkE) (hq:q.new=true) (hn:Nat.ble n st.bx.length=true) (h3:st.tk ++ [q]=st'.tk) (h2:WeLL n st.tk.length st'.tk (st.bx.take n) st'.bx) (h4:Nat.ble n0 n=true) (h5:Nat.ble m0 st.tk.length=true)
  (h:pY n st.tk.length st'.tk st.sl st'.sl):Ay n0 m0 st st':=by
 have hl:(st.bx.take n).length=n:=by
  have:=nL hn;rw [List.length_take];omega
 exact ⟨st.tk,[],[q],st.bx.take n,st.bx.drop n,by simpa using h5,by rw [hl];simpa using h4,by simp,h3.symm,by simpa using hq,(List.take_append_drop n st.bx).symm,by rw [hl];exact h2,by rw [hl];exact h⟩
end
end Dv
end Go.Proofs.YtffhgcbfpidfiaaGreat
namespace Go.Proofs.YtffhgcbfpidfiaaGreat
namespace Dv
open Go Go.RowKit
section
variable {X:Ctx} {st:St} {k:List It} {E:En} {a:Act} {w:World}
theorem lM {f:FuncId} {rest MI cs cs':List DV} {i d:Nat} (lx:Enters X.P f) (hd:eL X.nt st.sl (some d)=true) (jL:st.bx[i]? = some cs) (cG:CcL [] 0 0 0 cs' cs) (ha:CcL [] 0 0 0 MI rest)
  {Φ:DV->List (List DV)->List TkE->Prop} (hc:Ev X.P f (.loc 0 0 :: MI) [cs'] [] Φ) (hY:∀ r os tk,Φ r os tk->clB 0 0 r=true/\∀ rF∈os,clB.clL 0 0 rF=true)
  (hk:∀ r rF,Φ r [rF] []->go X 4000 k ⟨(d,⟨[],r⟩) :: st.sl,st.bx.set i rF,st.tk⟩) (aU:X.still=false:=by exact rfl) (hX:X.bt=[]:=by exact rfl):dx X f (.loc i 0 :: rest) (some d) k st:=by
 refine ⟨lx,aU,fun E a w vs h hv=>?_⟩;simp only [RvL] at hv;obtain ⟨v1,vr,rfl,h1,hvr⟩:=hv;unfold Rv at h1;obtain ⟨b,hb,rfl⟩:=h1;obtain ⟨b',ty,arr,dO,hw,q7⟩:=h.env.ek i cs jL;rw [hb] at dO;simp only [oI] at dO;subst dO;have yd:b∈E.β:=mG hb;have Vm:=h.env.bc yd
 let E1:En:=⟨E.c,[b],[],[]⟩
 have hx1:Ext E.cl E1:=⟨fun _ _ h=>h,fun j b hj=>by simp [En.cl] at hj,fun k q hk=>by simp [En.cl] at hk⟩;have hfz:LV E E.cl [] 0:=⟨fun _ _ h=>h,fun i cs _ hi=>by simp at hi⟩
 have hE1:Env E1 [cs'] w:={
  len:=rfl
  tl:=rfl
  ek:=fun j Rh hj=>by
   cases j with
   | succ j=>simp at hj
   | zero=>
    simp only [List.getElem?_cons_zero,oI] at hj;subst hj;refine ⟨b,ty,arr,rfl,hw,RvL.mono hx1 (CcL.sound hfz (H9.zero _ _) cG q7.1),q7.2⟩
  inj:=by simp [E1]
  sub:=h.env.sub
  pc:=fun x v hx hm=>by
   simp only [E1,List.mem_singleton] at hm;exact h.env.pc x v hx (by rw [hm];exact yd)
  ct:=by simp [E1]
  iW:=by simp [E1] }
 have pB:RvL E1 (.loc 0 0 :: MI) (.pointer (some ⟨b,0,none⟩) :: vr):=rvL_cons (by unfold Rv;exact ⟨b,rfl,rfl⟩) (RvL.mono hx1 (CcL.sound hfz (H9.zero _ _) ha hvr));refine (hc E1 w _ hE1 rfl pB).mono ?_;rintro e w' ⟨v,rfl,hm,_,r,os,E2,he,hβ,iZ,hn,Q9,hΦ⟩;have ht0:E2.tk=[]:=List.eq_nil_of_length_eq_zero iZ;rw [ht0] at hΦ
 obtain ⟨rF,rfl⟩:∃ rF,os=[rF]:=by
  have:=he.len;rw [hβ] at this
  match os,this with
  | [x],_=>exact ⟨x,rfl⟩
 obtain ⟨hclr,hclc⟩:=hY _ _ _ hΦ
 have hh:∀ j,j < w.heap.size->j≠b->w'.heap[j]? = w.heap[j]?:=fun j hj aT=>hm.block j hj (by
  rintro (h1 | ⟨y,h1,_⟩)
  ·simp only [E1,List.mem_singleton] at h1;exact aT h1
  ·simp [E1] at h1)
 have eo:∀ x v,E2.c x=some v->E.c x=some v∨w.heap.size<=x.block:=fun x v hx=>by
  rcases hn.cn x v hx with h1 | h1 | ⟨y,h1,_⟩
  ·exact .inl h1
  ·exact .inr h1
  ·simp [E1] at h1
 let E':En:=⟨E2.c,E.β,E.tk,E.τ⟩
 have hx:Ext E E':=⟨hn.c,fun _ _ h=>h,fun _ q h=>⟨q,h,.inl ⟨rfl,rfl⟩⟩⟩;have QG:Ext (E2.cut 0 0) E':=⟨fun _ _ h=>h,fun j b hj=>by simp [En.cut] at hj,fun k q hk=>by simp [En.cut] at hk⟩
 have bY:Rel X E' ⟨st.sl,st.bx.set i rF,st.tk⟩ a w':=by
  refine dg h hx ?_ h.tk ?_ (h.fr.cj hm.os hm.tape hm.output hm.size fun j hj=>?_) (mh aU) (.nil hX)
  ·exact {
    len:=by rw [List.length_set];exact h.env.len
    tl:=h.env.tl
    ek:=fun j Rh hj=>by
     by_cases Td:j=i
     ·subst Td;rw [List.getElem?_set_self (gS jL).1] at hj;simp only [oI] at hj;subst hj;obtain ⟨b2,ty2,Vn,dQ,kv,nK⟩:=he.ek 0 rF rfl;rw [hβ] at dQ;simp only [E1,List.getElem?_cons_zero,oI] at dQ;subst dQ;exact ⟨b,ty2,Vn,hb,kv,RvL.mono QG (RvL.cut nK.1 (hclc rF (by simp))),nK.2⟩
     ·rw [List.getElem?_set_ne (Ne.symm Td)] at hj;obtain ⟨bj,tyj,Vo,Tk,YP,Mf⟩:=h.env.ek j Rh hj
      have aT:bj≠b:=by
       rintro rfl;exact Td ((List.getElem?_inj (gS Tk).1 h.env.inj).1 (Tk.trans hb.symm))
      exact ⟨bj,tyj,Vo,Tk,by rw [hh bj (cp YP) aT];exact YP,Mf.mono hx⟩
    inj:=h.env.inj
    sub:=he.sub
    pc:=fun x v hc oK=>by
     rcases eo x v hc with h1 | h1
     ·exact h.env.pc x v h1 oK
     ·have:=h.env.bc oK;omega
    ct:=fun k q y hq hy=>by
     rcases h.env.ct k q y hq hy with h1 | ⟨g',cap,cur,rfl,h1,h2,h3,h4,h5,h6⟩
     ·exact .inl h1
     ·refine .inr ⟨g',cap,cur,rfl,by rw [hh g' (cp h1) (fun e=>h5 (by rw [e];exact yd))];exact h1,⟨h2.1,h2.2.mono hn.c⟩,h3,h4,h5,fun x v hc hg=>?_⟩;rcases eo x v hc with h7 | h7
      ·exact h6 x v h7 hg
      ·have:=cp h1;omega
    iW:=h.env.iW }
  ·exact {
    c:=fun x v hc=>hn.c x v (h.nw.c x v hc)
    cn:=fun x v hc=>by
     rcases eo x v hc with h1 | h1
     ·exact h.nw.cn x v h1
     ·have:=h.fr.size;exact .inr (.inl (by omega))
    β:=h.nw.β
    tk:=h.nw.tk
    tn:=h.nw.tn
    l0:=h.nw.l0 }
  ·by_cases UR:j=b
   ·left;obtain ⟨r0,hr0,FC⟩:=h.nw.β;rw [hr0] at yd;rcases List.mem_append.1 yd with yd | yd
    ·exact .inl (.inl (UR ▸ yd))
    ·exact .inr (UR ▸ FC b yd)
   ·exact .inr (hh j hj UR)
 exact go_sound 4000 _ _ (hk r rF hΦ) E' _ w' (aZ bY hd r v (Rv.mono QG (Rv.cut Q9 hclr)))
end
end Dv
end Go.Proofs.YtffhgcbfpidfiaaGreat
namespace Go.Proofs.YtffhgcbfpidfiaaGreat
namespace Dv
open Go
def tt:TT:=.aj 187 ⟨1,false,.fn,[.nilFunc]⟩ (.aj 92 ⟨1,false,.fn,[.nilFunc]⟩ (.aj 45 ⟨1,false,.sl 104 7 88,[.slice none 0 0]⟩ (.aj 22 ⟨1,false,.sl 27 2 24,[.slice none 0 0]⟩ (.aj 11 ⟨1,false,.str,[.string ByteArray.empty]⟩ (.aj 6 ⟨1,false,.int .u8,[.int .u8 0]⟩ (.aj 3 ⟨1,false,.int .i64,[.int .i64 0]⟩ (.aj 2 ⟨1,false,.int .i64,[.int .i64 0]⟩ (.aj 1 ⟨1,false,.fn,[.nilFunc]⟩ (.nil) (.nil)) (.nil)) (.aj 5 ⟨1,false,.int .u8,[.int .u8 0]⟩ (.aj 4 ⟨1,false,.bool,[.bool false]⟩ (.nil) (.nil)) (.nil))) (.aj 9 ⟨1,false,.str,[.string ByteArray.empty]⟩ (.aj 8 ⟨4,true,.st [(0,2),(1,3),(2,4),(3,6)],[.int .i64 0,.int .i64 0,.bool false,.int .u8 0]⟩ (.aj 7 ⟨4,true,.st [(0,2),(1,3),(2,4),(3,6)],[.int .i64 0,.int .i64 0,.bool false,.int .u8 0]⟩ (.nil) (.nil)) (.nil)) (.aj 10 ⟨1,false,.str,[.string ByteArray.empty]⟩ (.nil) (.nil)))) (.aj 17 ⟨1,false,.ptr 376,[.pointer none]⟩ (.aj 14 ⟨2,true,.st [(0,9),(1,12)],[.string ByteArray.empty,.int .u64 0]⟩ (.aj 13 ⟨2,true,.st [(0,9),(1,12)],[.string ByteArray.empty,.int .u64 0]⟩ (.aj 12 ⟨1,false,.int .u64,[.int .u64 0]⟩ (.nil) (.nil)) (.nil)) (.aj 16 ⟨1,false,.ptr 369,[.pointer none]⟩ (.aj 15 ⟨1,false,.ptr 366,[.pointer none]⟩ (.nil) (.nil)) (.nil))) (.aj 20 ⟨1,false,.pI,[.nilIface]⟩ (.aj 19 ⟨1,true,.st [(0,17)],[.pointer none]⟩ (.aj 18 ⟨1,true,.st [(0,17)],[.pointer none]⟩ (.nil) (.nil)) (.nil)) (.aj 21 ⟨1,false,.int .i32,[.int .i32 0]⟩ (.nil) (.nil))))) (.aj 33 ⟨4,true,.st [(0,3),(1,3),(2,9),(3,32)],[.int .i64 0,.int .i64 0,.string ByteArray.empty,.slice none 0 0]⟩ (.aj 28 ⟨9,true,.st [(0,3),(1,3),(2,3),(3,3),(4,3),(5,22),(6,25),(7,27)],[.int .i64 0,.int .i64 0,.int .i64 0,.int .i64 0,.int .i64 0,.slice none 0 0,.slice none 0 0,.string ByteArray.empty,.int .i64 0]⟩ (.aj 25 ⟨1,false,.sl 79 18 224,[.slice none 0 0]⟩ (.aj 24 ⟨1,false,.sl 95 11 136,[.slice none 0 0]⟩ (.aj 23 ⟨1,false,.sl 218 4 48,[.slice none 0 0]⟩ (.nil) (.nil)) (.nil)) (.aj 27 ⟨2,true,.st [(0,9),(1,3)],[.string ByteArray.empty,.int .i64 0]⟩ (.aj 26 ⟨2,true,.st [(0,9),(1,3)],[.string ByteArray.empty,.int .i64 0]⟩ (.nil) (.nil)) (.nil))) (.aj 31 ⟨12,true,.st [(0,22),(1,23),(2,24),(3,29)],[.slice none 0 0,.slice none 0 0,.slice none 0 0,.int .i64 0,.int .i64 0,.int .i64 0,.int .i64 0,.int .i64 0,.slice none 0 0,.slice none 0 0,.string ByteArray.empty,.int .i64 0]⟩ (.aj 30 ⟨12,true,.st [(0,22),(1,23),(2,24),(3,29)],[.slice none 0 0,.slice none 0 0,.slice none 0 0,.int .i64 0,.int .i64 0,.int .i64 0,.int .i64 0,.int .i64 0,.slice none 0 0,.slice none 0 0,.string ByteArray.empty,.int .i64 0]⟩ (.aj 29 ⟨9,true,.st [(0,3),(1,3),(2,3),(3,3),(4,3),(5,22),(6,25),(7,27)],[.int .i64 0,.int .i64 0,.int .i64 0,.int .i64 0,.int .i64 0,.slice none 0 0,.slice none 0 0,.string ByteArray.empty,.int .i64 0]⟩ (.nil) (.nil)) (.nil)) (.aj 32 ⟨1,false,.sl 34 4 56,[.slice none 0 0]⟩ (.nil) (.nil)))) (.aj 39 ⟨1,false,.int .i64,[.int .i64 0]⟩ (.aj 36 ⟨1,false,.fn,[.nilFunc]⟩ (.aj 35 ⟨8,true,.ar 2 4,[.int .i64 0,.int .i64 0,.string ByteArray.empty,.slice none 0 0,.int .i64 0,.int .i64 0,.string ByteArray.empty,.slice none 0 0]⟩ (.aj 34 ⟨4,true,.st [(0,3),(1,3),(2,9),(3,32)],[.int .i64 0,.int .i64 0,.string ByteArray.empty,.slice none 0 0]⟩ (.nil) (.nil)) (.nil)) (.aj 38 ⟨1,false,.ptr 88,[.pointer none]⟩ (.aj 37 ⟨1,false,.fn,[.nilFunc]⟩ (.nil) (.nil)) (.nil))) (.aj 43 ⟨1,false,.fn,[.nilFunc]⟩ (.aj 41 ⟨2,true,.st [(0,39),(1,3)],[.int .i64 0,.int .i64 0]⟩ (.aj 40 ⟨2,true,.st [(0,39),(1,3)],[.int .i64 0,.int .i64 0]⟩ (.nil) (.nil)) (.nil)) (.aj 44 ⟨1,false,.sl 190 1 24,[.slice none 0 0]⟩ (.nil) (.nil)))))) (.aj 69 ⟨1,false,.fn,[.nilFunc]⟩ (.aj 57 ⟨10,true,.st [(0,3),(1,56),(2,34),(6,34)],[.int .i64 0,.slice none 0 0,.int .i64 0,.int .i64 0,.string ByteArray.empty,.slice none 0 0,.int .i64 0,.int .i64 0,.string ByteArray.empty,.slice none 0 0]⟩ (.aj 52 ⟨1,false,.fn,[.nilFunc]⟩ (.aj 48 ⟨1,false,.fn,[.nilFunc]⟩ (.aj 47 ⟨4,true,.st [(0,22),(1,44),(2,45),(3,3)],[.slice none 0 0,.slice none 0 0,.slice none 0 0,.int .i64 0]⟩ (.aj 46 ⟨4,true,.st [(0,22),(1,44),(2,45),(3,3)],[.slice none 0 0,.slice none 0 0,.slice none 0 0,.int .i64 0]⟩ (.nil) (.nil)) (.nil)) (.aj 51 ⟨1,false,.fn,[.nilFunc]⟩ (.aj 49 ⟨1,false,.sl 60 10 144,[.slice none 0 0]⟩ (.nil) (.nil)) (.nil))) (.aj 55 ⟨1,false,.fn,[.nilFunc]⟩ (.aj 54 ⟨1,false,.fn,[.nilFunc]⟩ (.aj 53 ⟨1,false,.sl 58 10 144,[.slice none 0 0]⟩ (.nil) (.nil)) (.nil)) (.aj 56 ⟨1,false,.sl 121 3 32,[.slice none 0 0]⟩ (.nil) (.nil)))) (.aj 63 ⟨2,true,.st [(0,3),(1,49)],[.int .i64 0,.slice none 0 0]⟩ (.aj 60 ⟨10,true,.st [(0,3),(1,56),(2,34),(6,34)],[.int .i64 0,.slice none 0 0,.int .i64 0,.int .i64 0,.string ByteArray.empty,.slice none 0 0,.int .i64 0,.int .i64 0,.string ByteArray.empty,.slice none 0 0]⟩ (.aj 59 ⟨1,false,.fn,[.nilFunc]⟩ (.aj 58 ⟨10,true,.st [(0,3),(1,56),(2,34),(6,34)],[.int .i64 0,.slice none 0 0,.int .i64 0,.int .i64 0,.string ByteArray.empty,.slice none 0 0,.int .i64 0,.int .i64 0,.string ByteArray.empty,.slice none 0 0]⟩ (.nil) (.nil)) (.nil)) (.aj 62 ⟨2,true,.st [(0,3),(1,49)],[.int .i64 0,.slice none 0 0]⟩ (.aj 61 ⟨1,false,.fn,[.nilFunc]⟩ (.nil) (.nil)) (.nil))) (.aj 67 ⟨1,false,.fn,[.nilFunc]⟩ (.aj 66 ⟨1,false,.fn,[.nilFunc]⟩ (.aj 64 ⟨1,false,.fn,[.nilFunc]⟩ (.nil) (.nil)) (.nil)) (.aj 68 ⟨1,false,.fn,[.nilFunc]⟩ (.nil) (.nil))))) (.aj 82 ⟨1,false,.fn,[.nilFunc]⟩ (.aj 76 ⟨4,true,.st [(0,3),(1,3),(2,3),(3,22)],[.int .i64 0,.int .i64 0,.int .i64 0,.slice none 0 0]⟩ (.aj 72 ⟨1,false,.fn,[.nilFunc]⟩ (.aj 71 ⟨1,false,.fn,[.nilFunc]⟩ (.aj 70 ⟨1,false,.fn,[.nilFunc]⟩ (.nil) (.nil)) (.nil)) (.aj 75 ⟨1,false,.fn,[.nilFunc]⟩ (.aj 74 ⟨1,false,.fn,[.nilFunc]⟩ (.nil) (.nil)) (.nil))) (.aj 79 ⟨18,true,.st [(0,27),(2,4),(3,22),(4,3),(5,77),(9,29)],[.string ByteArray.empty,.int .i64 0,.bool false,.slice none 0 0,.int .i64 0,.int .i64 0,.int .i64 0,.int .i64 0,.slice none 0 0,.int .i64 0,.int .i64 0,.int .i64 0,.int .i64 0,.int .i64 0,.slice none 0 0,.slice none 0 0,.string ByteArray.empty,.int .i64 0]⟩ (.aj 78 ⟨18,true,.st [(0,27),(2,4),(3,22),(4,3),(5,77),(9,29)],[.string ByteArray.empty,.int .i64 0,.bool false,.slice none 0 0,.int .i64 0,.int .i64 0,.int .i64 0,.int .i64 0,.slice none 0 0,.int .i64 0,.int .i64 0,.int .i64 0,.int .i64 0,.int .i64 0,.slice none 0 0,.slice none 0 0,.string ByteArray.empty,.int .i64 0]⟩ (.aj 77 ⟨4,true,.st [(0,3),(1,3),(2,3),(3,22)],[.int .i64 0,.int .i64 0,.int .i64 0,.slice none 0 0]⟩ (.nil) (.nil)) (.nil)) (.aj 80 ⟨1,false,.ptr 156,[.pointer none]⟩ (.nil) (.nil)))) (.aj 87 ⟨5,true,.st [(0,80),(1,84),(2,3),(3,85),(4,86)],[.pointer none,.slice none 0 0,.int .i64 0,.pointer none,.slice none 0 0]⟩ (.aj 85 ⟨1,false,.ptr 220,[.pointer none]⟩ (.aj 84 ⟨1,false,.sl 173 7 88,[.slice none 0 0]⟩ (.aj 83 ⟨1,false,.ptr 90,[.pointer none]⟩ (.nil) (.nil)) (.nil)) (.aj 86 ⟨1,false,.sl 3 1 8,[.slice none 0 0]⟩ (.nil) (.nil))) (.aj 90 ⟨15,true,.st [(0,31),(12,80),(13,38),(14,3)],[.slice none 0 0,.slice none 0 0,.slice none 0 0,.int .i64 0,.int .i64 0,.int .i64 0,.int .i64 0,.int .i64 0,.slice none 0 0,.slice none 0 0,.string ByteArray.empty,.int .i64 0,.pointer none,.pointer none,.int .i64 0]⟩ (.aj 89 ⟨15,true,.st [(0,31),(12,80),(13,38),(14,3)],[.slice none 0 0,.slice none 0 0,.slice none 0 0,.int .i64 0,.int .i64 0,.int .i64 0,.int .i64 0,.int .i64 0,.slice none 0 0,.slice none 0 0,.string ByteArray.empty,.int .i64 0,.pointer none,.pointer none,.int .i64 0]⟩ (.aj 88 ⟨5,true,.st [(0,80),(1,84),(2,3),(3,85),(4,86)],[.pointer none,.slice none 0 0,.int .i64 0,.pointer none,.slice none 0 0]⟩ (.nil) (.nil)) (.nil)) (.aj 91 ⟨1,false,.fn,[.nilFunc]⟩ (.nil) (.nil))))))) (.aj 136 ⟨1,false,.pI,[.nilIface]⟩ (.aj 114 ⟨1,false,.fn,[.nilFunc]⟩ (.aj 103 ⟨7,true,.st [(0,3),(1,3),(2,3),(3,3),(4,3),(5,101),(6,102)],[.int .i64 0,.int .i64 0,.int .i64 0,.int .i64 0,.int .i64 0,.slice none 0 0,.slice none 0 0]⟩ (.aj 98 ⟨1,false,.sl 29 9 112,[.slice none 0 0]⟩ (.aj 95 ⟨11,true,.st [(0,27),(2,29)],[.string ByteArray.empty,.int .i64 0,.int .i64 0,.int .i64 0,.int .i64 0,.int .i64 0,.int .i64 0,.slice none 0 0,.slice none 0 0,.string ByteArray.empty,.int .i64 0]⟩ (.aj 94 ⟨11,true,.st [(0,27),(2,29)],[.string ByteArray.empty,.int .i64 0,.int .i64 0,.int .i64 0,.int .i64 0,.int .i64 0,.int .i64 0,.slice none 0 0,.slice none 0 0,.string ByteArray.empty,.int .i64 0]⟩ (.aj 93 ⟨1,false,.fn,[.nilFunc]⟩ (.nil) (.nil)) (.nil)) (.aj 97 ⟨1,false,.fn,[.nilFunc]⟩ (.aj 96 ⟨1,false,.fn,[.nilFunc]⟩ (.nil) (.nil)) (.nil))) (.aj 101 ⟨1,false,.sl 9 1 16,[.slice none 0 0]⟩ (.aj 100 ⟨1,false,.fn,[.nilFunc]⟩ (.aj 99 ⟨1,false,.fn,[.nilFunc]⟩ (.nil) (.nil)) (.nil)) (.aj 102 ⟨1,false,.sl 117 10 88,[.slice none 0 0]⟩ (.nil) (.nil)))) (.aj 109 ⟨2,true,.st [(0,38),(1,49)],[.pointer none,.slice none 0 0]⟩ (.aj 106 ⟨1,false,.fn,[.nilFunc]⟩ (.aj 105 ⟨1,false,.fn,[.nilFunc]⟩ (.aj 104 ⟨7,true,.st [(0,3),(1,3),(2,3),(3,3),(4,3),(5,101),(6,102)],[.int .i64 0,.int .i64 0,.int .i64 0,.int .i64 0,.int .i64 0,.slice none 0 0,.slice none 0 0]⟩ (.nil) (.nil)) (.nil)) (.aj 108 ⟨1,false,.ptr 110,[.pointer none]⟩ (.aj 107 ⟨1,false,.fn,[.nilFunc]⟩ (.nil) (.nil)) (.nil))) (.aj 112 ⟨1,false,.fn,[.nilFunc]⟩ (.aj 111 ⟨1,false,.fn,[.nilFunc]⟩ (.aj 110 ⟨2,true,.st [(0,38),(1,49)],[.pointer none,.slice none 0 0]⟩ (.nil) (.nil)) (.nil)) (.aj 113 ⟨1,false,.fn,[.nilFunc]⟩ (.nil) (.nil))))) (.aj 125 ⟨1,false,.fn,[.nilFunc]⟩ (.aj 120 ⟨3,true,.st [(0,3),(1,3),(2,9)],[.int .i64 0,.int .i64 0,.string ByteArray.empty]⟩ (.aj 117 ⟨10,true,.st [(0,9),(1,4),(2,3),(3,3),(4,3),(5,3),(6,3),(7,3),(8,3),(9,3)],[.string ByteArray.empty,.bool false,.int .i64 0,.int .i64 0,.int .i64 0,.int .i64 0,.int .i64 0,.int .i64 0,.int .i64 0,.int .i64 0]⟩ (.aj 116 ⟨10,true,.st [(0,9),(1,4),(2,3),(3,3),(4,3),(5,3),(6,3),(7,3),(8,3),(9,3)],[.string ByteArray.empty,.bool false,.int .i64 0,.int .i64 0,.int .i64 0,.int .i64 0,.int .i64 0,.int .i64 0,.int .i64 0,.int .i64 0]⟩ (.aj 115 ⟨1,false,.fn,[.nilFunc]⟩ (.nil) (.nil)) (.nil)) (.aj 119 ⟨1,false,.fn,[.nilFunc]⟩ (.aj 118 ⟨1,false,.fn,[.nilFunc]⟩ (.nil) (.nil)) (.nil))) (.aj 123 ⟨1,false,.fn,[.nilFunc]⟩ (.aj 122 ⟨1,false,.fn,[.nilFunc]⟩ (.aj 121 ⟨3,true,.st [(0,3),(1,3),(2,9)],[.int .i64 0,.int .i64 0,.string ByteArray.empty]⟩ (.nil) (.nil)) (.nil)) (.aj 124 ⟨1,false,.fn,[.nilFunc]⟩ (.nil) (.nil)))) (.aj 131 ⟨1,false,.fn,[.nilFunc]⟩ (.aj 129 ⟨1,false,.fn,[.nilFunc]⟩ (.aj 127 ⟨3,true,.st [(0,38),(1,80),(2,3)],[.pointer none,.pointer none,.int .i64 0]⟩ (.aj 126 ⟨3,true,.st [(0,38),(1,80),(2,3)],[.pointer none,.pointer none,.int .i64 0]⟩ (.nil) (.nil)) (.nil)) (.aj 130 ⟨1,false,.fn,[.nilFunc]⟩ (.nil) (.nil))) (.aj 134 ⟨2,true,.st [(0,132),(1,133)],[.pointer none,.slice none 0 0]⟩ (.aj 133 ⟨1,false,.sl 5 1 1,[.slice none 0 0]⟩ (.aj 132 ⟨1,false,.ptr 135,[.pointer none]⟩ (.nil) (.nil)) (.nil)) (.aj 135 ⟨2,true,.st [(0,132),(1,133)],[.pointer none,.slice none 0 0]⟩ (.nil) (.nil)))))) (.aj 165 ⟨1,false,.fn,[.nilFunc]⟩ (.aj 151 ⟨1,false,.fn,[.nilFunc]⟩ (.aj 144 ⟨1,false,.fn,[.nilFunc]⟩ (.aj 140 ⟨1,false,.fn,[.nilFunc]⟩ (.aj 139 ⟨1,false,.fn,[.nilFunc]⟩ (.aj 137 ⟨1,false,.pI,[.nilIface]⟩ (.nil) (.nil)) (.nil)) (.aj 143 ⟨1,false,.fn,[.nilFunc]⟩ (.aj 141 ⟨1,false,.fn,[.nilFunc]⟩ (.nil) (.nil)) (.nil))) (.aj 148 ⟨1,false,.fn,[.nilFunc]⟩ (.aj 147 ⟨1,false,.fn,[.nilFunc]⟩ (.aj 145 ⟨1,false,.fn,[.nilFunc]⟩ (.nil) (.nil)) (.nil)) (.aj 150 ⟨1,false,.fn,[.nilFunc]⟩ (.nil) (.nil)))) (.aj 157 ⟨1,false,.sl 223 2 16,[.slice none 0 0]⟩ (.aj 154 ⟨1024,true,.ar 32 32,(List.replicate 1024 (.int .i64 0))⟩ (.aj 153 ⟨32,true,.ar 32 1,[.int .i64 0,.int .i64 0,.int .i64 0,.int .i64 0,.int .i64 0,.int .i64 0,.int .i64 0,.int .i64 0,.int .i64 0,.int .i64 0,.int .i64 0,.int .i64 0,.int .i64 0,.int .i64 0,.int .i64 0,.int .i64 0,.int .i64 0,.int .i64 0,.int .i64 0,.int .i64 0,.int .i64 0,.int .i64 0,.int .i64 0,.int .i64 0,.int .i64 0,.int .i64 0,.int .i64 0,.int .i64 0,.int .i64 0,.int .i64 0,.int .i64 0,.int .i64 0]⟩ (.aj 152 ⟨1,false,.ptr 226,[.pointer none]⟩ (.nil) (.nil)) (.nil)) (.aj 156 ⟨2051,true,.st [(0,101),(1,85),(2,152),(3,154),(1027,154)],(.slice none 0 0 :: .pointer none :: .pointer none :: List.replicate 2048 (.int .i64 0))⟩ (.aj 155 ⟨2051,true,.st [(0,101),(1,85),(2,152),(3,154),(1027,154)],(.slice none 0 0 :: .pointer none :: .pointer none :: List.replicate 2048 (.int .i64 0))⟩ (.nil) (.nil)) (.nil))) (.aj 163 ⟨1,false,.fn,[.nilFunc]⟩ (.aj 161 ⟨1,false,.fn,[.nilFunc]⟩ (.aj 159 ⟨1,false,.fn,[.nilFunc]⟩ (.nil) (.nil)) (.nil)) (.aj 164 ⟨1,false,.fn,[.nilFunc]⟩ (.nil) (.nil))))) (.aj 176 ⟨1,false,.fn,[.nilFunc]⟩ (.aj 171 ⟨1,false,.sl 174 10 88,[.slice none 0 0]⟩ (.aj 168 ⟨1,false,.sl 22 1 24,[.slice none 0 0]⟩ (.aj 167 ⟨1,false,.fn,[.nilFunc]⟩ (.aj 166 ⟨1,false,.fn,[.nilFunc]⟩ (.nil) (.nil)) (.nil)) (.aj 170 ⟨1,false,.fn,[.nilFunc]⟩ (.aj 169 ⟨1,false,.fn,[.nilFunc]⟩ (.nil) (.nil)) (.nil))) (.aj 174 ⟨10,true,.st [(0,9),(1,4),(2,3),(3,3),(4,3),(5,3),(6,3),(7,3),(8,3),(9,3)],[.string ByteArray.empty,.bool false,.int .i64 0,.int .i64 0,.int .i64 0,.int .i64 0,.int .i64 0,.int .i64 0,.int .i64 0,.int .i64 0]⟩ (.aj 173 ⟨7,true,.st [(0,3),(1,3),(2,3),(3,3),(4,3),(5,101),(6,171)],[.int .i64 0,.int .i64 0,.int .i64 0,.int .i64 0,.int .i64 0,.slice none 0 0,.slice none 0 0]⟩ (.aj 172 ⟨7,true,.st [(0,3),(1,3),(2,3),(3,3),(4,3),(5,101),(6,171)],[.int .i64 0,.int .i64 0,.int .i64 0,.int .i64 0,.int .i64 0,.slice none 0 0,.slice none 0 0]⟩ (.nil) (.nil)) (.nil)) (.aj 175 ⟨1,false,.fn,[.nilFunc]⟩ (.nil) (.nil)))) (.aj 182 ⟨1,false,.fn,[.nilFunc]⟩ (.aj 179 ⟨1,false,.fn,[.nilFunc]⟩ (.aj 178 ⟨1,false,.fn,[.nilFunc]⟩ (.aj 177 ⟨1,false,.fn,[.nilFunc]⟩ (.nil) (.nil)) (.nil)) (.aj 180 ⟨1,false,.fn,[.nilFunc]⟩ (.nil) (.nil))) (.aj 185 ⟨1,false,.fn,[.nilFunc]⟩ (.aj 184 ⟨1,false,.fn,[.nilFunc]⟩ (.aj 183 ⟨1,false,.fn,[.nilFunc]⟩ (.nil) (.nil)) (.nil)) (.aj 186 ⟨1,false,.fn,[.nilFunc]⟩ (.nil) (.nil)))))))) (.aj 283 ⟨1,false,.fn,[.nilFunc]⟩ (.aj 235 ⟨1,true,.st [(0,3)],[.int .i64 0]⟩ (.aj 212 ⟨1,false,.fn,[.nilFunc]⟩ (.aj 200 ⟨1,false,.fn,[.nilFunc]⟩ (.aj 193 ⟨1,false,.fn,[.nilFunc]⟩ (.aj 190 ⟨1,false,.sl 4 1 1,[.slice none 0 0]⟩ (.aj 189 ⟨1,false,.fn,[.nilFunc]⟩ (.aj 188 ⟨1,false,.fn,[.nilFunc]⟩ (.nil) (.nil)) (.nil)) (.aj 192 ⟨1,false,.fn,[.nilFunc]⟩ (.aj 191 ⟨1,false,.fn,[.nilFunc]⟩ (.nil) (.nil)) (.nil))) (.aj 197 ⟨1,false,.fn,[.nilFunc]⟩ (.aj 195 ⟨1,false,.fn,[.nilFunc]⟩ (.aj 194 ⟨1,false,.fn,[.nilFunc]⟩ (.nil) (.nil)) (.nil)) (.aj 199 ⟨1,false,.fn,[.nilFunc]⟩ (.nil) (.nil)))) (.aj 207 ⟨1,false,.fn,[.nilFunc]⟩ (.aj 203 ⟨1,false,.fn,[.nilFunc]⟩ (.aj 202 ⟨1,false,.fn,[.nilFunc]⟩ (.aj 201 ⟨1,false,.fn,[.nilFunc]⟩ (.nil) (.nil)) (.nil)) (.aj 206 ⟨1,false,.fn,[.nilFunc]⟩ (.aj 204 ⟨1,false,.fn,[.nilFunc]⟩ (.nil) (.nil)) (.nil))) (.aj 210 ⟨3,true,.st [(0,38),(1,80),(2,3)],[.pointer none,.pointer none,.int .i64 0]⟩ (.aj 209 ⟨1,false,.ptr 5,[.pointer none]⟩ (.aj 208 ⟨1,false,.fn,[.nilFunc]⟩ (.nil) (.nil)) (.nil)) (.aj 211 ⟨3,true,.st [(0,38),(1,80),(2,3)],[.pointer none,.pointer none,.int .i64 0]⟩ (.nil) (.nil))))) (.aj 223 ⟨2,true,.ar 2 1,[.int .i64 0,.int .i64 0]⟩ (.aj 218 ⟨4,true,.st [(0,27),(2,27)],[.string ByteArray.empty,.int .i64 0,.string ByteArray.empty,.int .i64 0]⟩ (.aj 215 ⟨1,false,.fn,[.nilFunc]⟩ (.aj 214 ⟨1,false,.fn,[.nilFunc]⟩ (.aj 213 ⟨1,false,.fn,[.nilFunc]⟩ (.nil) (.nil)) (.nil)) (.aj 217 ⟨4,true,.st [(0,27),(2,27)],[.string ByteArray.empty,.int .i64 0,.string ByteArray.empty,.int .i64 0]⟩ (.aj 216 ⟨1,false,.fn,[.nilFunc]⟩ (.nil) (.nil)) (.nil))) (.aj 221 ⟨1,false,.fn,[.nilFunc]⟩ (.aj 220 ⟨2,true,.st [(0,101),(1,86)],[.slice none 0 0,.slice none 0 0]⟩ (.aj 219 ⟨2,true,.st [(0,101),(1,86)],[.slice none 0 0,.slice none 0 0]⟩ (.nil) (.nil)) (.nil)) (.aj 222 ⟨1,false,.fn,[.nilFunc]⟩ (.nil) (.nil)))) (.aj 229 ⟨1,false,.fn,[.nilFunc]⟩ (.aj 226 ⟨1,true,.st [(0,224)],[.slice none 0 0]⟩ (.aj 225 ⟨1,true,.st [(0,224)],[.slice none 0 0]⟩ (.aj 224 ⟨1,false,.sl 227 1 8,[.slice none 0 0]⟩ (.nil) (.nil)) (.nil)) (.aj 228 ⟨1,false,.fn,[.nilFunc]⟩ (.aj 227 ⟨1,false,.int .u64,[.int .u64 0]⟩ (.nil) (.nil)) (.nil))) (.aj 233 ⟨1,false,.ptr 235,[.pointer none]⟩ (.aj 232 ⟨1,false,.fn,[.nilFunc]⟩ (.aj 230 ⟨1,false,.fn,[.nilFunc]⟩ (.nil) (.nil)) (.nil)) (.aj 234 ⟨1,true,.st [(0,3)],[.int .i64 0]⟩ (.nil) (.nil)))))) (.aj 260 ⟨1,false,.fn,[.nilFunc]⟩ (.aj 246 ⟨1,false,.fn,[.nilFunc]⟩ (.aj 241 ⟨1,false,.fn,[.nilFunc]⟩ (.aj 238 ⟨1,false,.fn,[.nilFunc]⟩ (.aj 237 ⟨1,false,.fn,[.nilFunc]⟩ (.aj 236 ⟨1,false,.fn,[.nilFunc]⟩ (.nil) (.nil)) (.nil)) (.aj 240 ⟨1,false,.fn,[.nilFunc]⟩ (.aj 239 ⟨1,false,.fn,[.nilFunc]⟩ (.nil) (.nil)) (.nil))) (.aj 244 ⟨1,false,.fn,[.nilFunc]⟩ (.aj 243 ⟨1,false,.fn,[.nilFunc]⟩ (.aj 242 ⟨1,false,.fn,[.nilFunc]⟩ (.nil) (.nil)) (.nil)) (.aj 245 ⟨1,false,.fn,[.nilFunc]⟩ (.nil) (.nil)))) (.aj 254 ⟨2,true,.st [(0,3),(1,3)],[.int .i64 0,.int .i64 0]⟩ (.aj 249 ⟨1,false,.fn,[.nilFunc]⟩ (.aj 248 ⟨1,false,.fn,[.nilFunc]⟩ (.aj 247 ⟨1,false,.fn,[.nilFunc]⟩ (.nil) (.nil)) (.nil)) (.aj 253 ⟨1,false,.fn,[.nilFunc]⟩ (.aj 251 ⟨1,false,.fn,[.nilFunc]⟩ (.nil) (.nil)) (.nil))) (.aj 258 ⟨1,false,.fn,[.nilFunc]⟩ (.aj 257 ⟨1,false,.fn,[.nilFunc]⟩ (.aj 255 ⟨2,true,.st [(0,3),(1,3)],[.int .i64 0,.int .i64 0]⟩ (.nil) (.nil)) (.nil)) (.aj 259 ⟨1,false,.fn,[.nilFunc]⟩ (.nil) (.nil))))) (.aj 273 ⟨1,false,.fn,[.nilFunc]⟩ (.aj 266 ⟨1,false,.fn,[.nilFunc]⟩ (.aj 263 ⟨3,true,.st [(0,41),(2,3)],[.int .i64 0,.int .i64 0,.int .i64 0]⟩ (.aj 262 ⟨3,true,.st [(0,41),(2,3)],[.int .i64 0,.int .i64 0,.int .i64 0]⟩ (.aj 261 ⟨1,false,.fn,[.nilFunc]⟩ (.nil) (.nil)) (.nil)) (.aj 265 ⟨1,false,.fn,[.nilFunc]⟩ (.aj 264 ⟨1,false,.fn,[.nilFunc]⟩ (.nil) (.nil)) (.nil))) (.aj 271 ⟨1,false,.fn,[.nilFunc]⟩ (.aj 270 ⟨1,false,.fn,[.nilFunc]⟩ (.aj 267 ⟨1,false,.int .u64,[.int .u64 0]⟩ (.nil) (.nil)) (.nil)) (.aj 272 ⟨1,false,.fn,[.nilFunc]⟩ (.nil) (.nil)))) (.aj 278 ⟨1,false,.fn,[.nilFunc]⟩ (.aj 276 ⟨2,true,.st [(0,222),(1,271)],[.nilFunc,.nilFunc]⟩ (.aj 275 ⟨1,false,.fn,[.nilFunc]⟩ (.aj 274 ⟨1,false,.int .u64,[.int .u64 0]⟩ (.nil) (.nil)) (.nil)) (.aj 277 ⟨2,true,.st [(0,222),(1,271)],[.nilFunc,.nilFunc]⟩ (.nil) (.nil))) (.aj 281 ⟨1,false,.fn,[.nilFunc]⟩ (.aj 280 ⟨1,false,.fn,[.nilFunc]⟩ (.aj 279 ⟨1,false,.fn,[.nilFunc]⟩ (.nil) (.nil)) (.nil)) (.aj 282 ⟨1,false,.fn,[.nilFunc]⟩ (.nil) (.nil))))))) (.aj 330 ⟨1,false,.ptr 3,[.pointer none]⟩ (.aj 307 ⟨1,false,.fn,[.nilFunc]⟩ (.aj 296 ⟨1,false,.fn,[.nilFunc]⟩ (.aj 291 ⟨1,false,.fn,[.nilFunc]⟩ (.aj 287 ⟨1,false,.fn,[.nilFunc]⟩ (.aj 286 ⟨1,false,.fn,[.nilFunc]⟩ (.aj 284 ⟨1,false,.fn,[.nilFunc]⟩ (.nil) (.nil)) (.nil)) (.aj 289 ⟨3,true,.st [(0,9),(1,9),(2,101)],[.string ByteArray.empty,.string ByteArray.empty,.slice none 0 0]⟩ (.aj 288 ⟨3,true,.st [(0,9),(1,9),(2,101)],[.string ByteArray.empty,.string ByteArray.empty,.slice none 0 0]⟩ (.nil) (.nil)) (.nil))) (.aj 294 ⟨1,false,.fn,[.nilFunc]⟩ (.aj 293 ⟨1,false,.fn,[.nilFunc]⟩ (.aj 292 ⟨1,false,.fn,[.nilFunc]⟩ (.nil) (.nil)) (.nil)) (.aj 295 ⟨1,false,.fn,[.nilFunc]⟩ (.nil) (.nil)))) (.aj 302 ⟨1,true,.st [(0,17)],[.pointer none]⟩ (.aj 299 ⟨1,false,.fn,[.nilFunc]⟩ (.aj 298 ⟨1,false,.fn,[.nilFunc]⟩ (.aj 297 ⟨1,false,.fn,[.nilFunc]⟩ (.nil) (.nil)) (.nil)) (.aj 301 ⟨1,false,.fn,[.nilFunc]⟩ (.aj 300 ⟨1,false,.fn,[.nilFunc]⟩ (.nil) (.nil)) (.nil))) (.aj 305 ⟨1,false,.fn,[.nilFunc]⟩ (.aj 304 ⟨1,false,.ptr 378,[.pointer none]⟩ (.aj 303 ⟨1,true,.st [(0,17)],[.pointer none]⟩ (.nil) (.nil)) (.nil)) (.aj 306 ⟨1,false,.int .u32,[.int .u32 0]⟩ (.nil) (.nil))))) (.aj 320 ⟨1,false,.fn,[.nilFunc]⟩ (.aj 314 ⟨1,false,.fn,[.nilFunc]⟩ (.aj 311 ⟨1,false,.fn,[.nilFunc]⟩ (.aj 310 ⟨1,false,.fn,[.nilFunc]⟩ (.aj 308 ⟨1,false,.int .i64,[.int .i64 0]⟩ (.nil) (.nil)) (.nil)) (.aj 313 ⟨1,false,.fn,[.nilFunc]⟩ (.aj 312 ⟨1,false,.fn,[.nilFunc]⟩ (.nil) (.nil)) (.nil))) (.aj 318 ⟨1,false,.fn,[.nilFunc]⟩ (.aj 316 ⟨1,false,.fn,[.nilFunc]⟩ (.aj 315 ⟨1,false,.fn,[.nilFunc]⟩ (.nil) (.nil)) (.nil)) (.aj 319 ⟨1,false,.fn,[.nilFunc]⟩ (.nil) (.nil)))) (.aj 325 ⟨1,false,.fn,[.nilFunc]⟩ (.aj 323 ⟨1,false,.fn,[.nilFunc]⟩ (.aj 322 ⟨1,false,.fn,[.nilFunc]⟩ (.aj 321 ⟨20,true,.ar 20 1,[.int .u8 0,.int .u8 0,.int .u8 0,.int .u8 0,.int .u8 0,.int .u8 0,.int .u8 0,.int .u8 0,.int .u8 0,.int .u8 0,.int .u8 0,.int .u8 0,.int .u8 0,.int .u8 0,.int .u8 0,.int .u8 0,.int .u8 0,.int .u8 0,.int .u8 0,.int .u8 0]⟩ (.nil) (.nil)) (.nil)) (.aj 324 ⟨1,false,.fn,[.nilFunc]⟩ (.nil) (.nil))) (.aj 328 ⟨1,false,.fn,[.nilFunc]⟩ (.aj 327 ⟨1,false,.fn,[.nilFunc]⟩ (.aj 326 ⟨1,false,.int .u64,[.int .u64 0]⟩ (.nil) (.nil)) (.nil)) (.aj 329 ⟨1,false,.fn,[.nilFunc]⟩ (.nil) (.nil)))))) (.aj 354 ⟨1,false,.fn,[.nilFunc]⟩ (.aj 343 ⟨1,false,.fn,[.nilFunc]⟩ (.aj 336 ⟨1,false,.sl 351 2 8,[.slice none 0 0]⟩ (.aj 333 ⟨1,false,.fn,[.nilFunc]⟩ (.aj 332 ⟨1,false,.fn,[.nilFunc]⟩ (.aj 331 ⟨1,false,.fn,[.nilFunc]⟩ (.nil) (.nil)) (.nil)) (.aj 335 ⟨1,false,.fn,[.nilFunc]⟩ (.aj 334 ⟨1,false,.fn,[.nilFunc]⟩ (.nil) (.nil)) (.nil))) (.aj 340 ⟨1,false,.fn,[.nilFunc]⟩ (.aj 339 ⟨1,false,.fn,[.nilFunc]⟩ (.aj 337 ⟨1,false,.fn,[.nilFunc]⟩ (.nil) (.nil)) (.nil)) (.aj 341 ⟨1,false,.fn,[.nilFunc]⟩ (.nil) (.nil)))) (.aj 349 ⟨1,false,.fn,[.nilFunc]⟩ (.aj 346 ⟨1,false,.ptr 326,[.pointer none]⟩ (.aj 345 ⟨1,false,.fn,[.nilFunc]⟩ (.aj 344 ⟨1,false,.fn,[.nilFunc]⟩ (.nil) (.nil)) (.nil)) (.aj 348 ⟨4,true,.ar 4 1,[.int .i64 0,.int .i64 0,.int .i64 0,.int .i64 0]⟩ (.aj 347 ⟨1,false,.fn,[.nilFunc]⟩ (.nil) (.nil)) (.nil))) (.aj 352 ⟨1,false,.fn,[.nilFunc]⟩ (.aj 351 ⟨2,true,.st [(0,21),(1,21)],[.int .i32 0,.int .i32 0]⟩ (.aj 350 ⟨2,true,.st [(0,21),(1,21)],[.int .i32 0,.int .i32 0]⟩ (.nil) (.nil)) (.nil)) (.aj 353 ⟨1,false,.sl 363 2 8,[.slice none 0 0]⟩ (.nil) (.nil))))) (.aj 367 ⟨0,true,.ar 0 1,[]⟩ (.aj 362 ⟨2,true,.st [(0,21),(1,21)],[.int .i32 0,.int .i32 0]⟩ (.aj 359 ⟨1,false,.fn,[.nilFunc]⟩ (.aj 357 ⟨1,false,.fn,[.nilFunc]⟩ (.aj 355 ⟨1,false,.fn,[.nilFunc]⟩ (.nil) (.nil)) (.nil)) (.aj 361 ⟨1,false,.fn,[.nilFunc]⟩ (.aj 360 ⟨1,false,.fn,[.nilFunc]⟩ (.nil) (.nil)) (.nil))) (.aj 365 ⟨4,true,.st [(0,17),(1,17),(2,17),(3,9)],[.pointer none,.pointer none,.pointer none,.string ByteArray.empty]⟩ (.aj 364 ⟨1,false,.fn,[.nilFunc]⟩ (.aj 363 ⟨2,true,.st [(0,21),(1,21)],[.int .i32 0,.int .i32 0]⟩ (.nil) (.nil)) (.nil)) (.aj 366 ⟨4,true,.st [(0,17),(1,17),(2,17),(3,9)],[.pointer none,.pointer none,.pointer none,.string ByteArray.empty]⟩ (.nil) (.nil)))) (.aj 374 ⟨1,false,.int .i32,[.int .i32 0]⟩ (.aj 372 ⟨1,false,.fn,[.nilFunc]⟩ (.aj 371 ⟨1,false,.int .u8,[.int .u8 0]⟩ (.aj 370 ⟨1,false,.int .u8,[.int .u8 0]⟩ (.nil) (.nil)) (.nil)) (.aj 373 ⟨1,false,.int .i32,[.int .i32 0]⟩ (.nil) (.nil))) (.aj 377 ⟨2,true,.st [(0,9),(1,371)],[.string ByteArray.empty,.int .u8 0]⟩ (.aj 376 ⟨11,true,.st [(0,12),(1,12),(2,306),(3,370),(4,5),(5,5),(6,371),(7,372),(8,209),(9,373),(10,374)],[.int .u64 0,.int .u64 0,.int .u32 0,.int .u8 0,.int .u8 0,.int .u8 0,.int .u8 0,.nilFunc,.pointer none,.int .i32 0,.int .i32 0]⟩ (.aj 375 ⟨11,true,.st [(0,12),(1,12),(2,306),(3,370),(4,5),(5,5),(6,371),(7,372),(8,209),(9,373),(10,374)],[.int .u64 0,.int .u64 0,.int .u32 0,.int .u8 0,.int .u8 0,.int .u8 0,.int .u8 0,.nilFunc,.pointer none,.int .i32 0,.int .i32 0]⟩ (.nil) (.nil)) (.nil)) (.aj 378 ⟨2,true,.st [(0,9),(1,371)],[.string ByteArray.empty,.int .u8 0]⟩ (.nil) (.nil))))))))
theorem aaP:tt.ok Tryz.prog=true:=by decide +kernel
theorem mo:Tryz.prog.follows .mixedOrders=true:=rfl
end Dv
end Go.Proofs.YtffhgcbfpidfiaaGreat
namespace Go.Proofs.YtffhgcbfpidfiaaGreat
namespace Dv
open Go
theorem eG {f:FuncId} {fn:Func} {c:Code} {args:List DV} {os:List (List DV)} {ct:List TkE} {Φ:DV->List (List DV)->List TkE->Prop} (nt:Nat) (rs:List ResultVar)
 (hf:Tryz.prog.funcs[f]? = some fn) (hb:fn.body=some c) (JQ:fn.ntmps=nt) (Am:fn.results.toList=rs)
 (h:∀ (E:En) (w:World) (hn:E.β.length=os.length) (hm:E.tk.length=ct.length),go ⟨Tryz.prog,tt,aaP,fn,nt,rs,Am,w,E,os.length,ct.length,hn,hm,false,Φ,[],[],false⟩ 5000 [.code c] ⟨argSl 0 args,os,ct⟩) (hlen:args.length<=nt:=by exact Nat.le_of_ble_eq_true rfl):Ev Tryz.prog f args os ct Φ:=abV tt aaP 5000 nt rs hf hb JQ Am hlen h
theorem cP {X:Ctx} {st:St} {k:List It} {f:FuncId} {args bE:List DV} {d:Nat} {r:DV} (lx:Enters X.P f) (hc:EvP X.P f bE r) (hk:go X 4000 k ⟨(d,⟨[],r⟩) :: st.sl,st.bx,st.tk⟩) (ha:CcL [] 0 0 0 bE args:=by exact ax) (hd:eL X.nt st.sl (some d)=true:=by exact rfl) (aU:X.still=false:=by exact rfl):dx X f args (some d) k st:=abT lx hc ha hd hk aU
theorem cD {X:Ctx} {st:St} {c:Bool} {s0:List (Nat×Sl)} {D:Dr} {i:Nat} {f:FuncId} {args bE:List DV} {d:Nat} {r:List (Nat×Oper)} {yO:DV} (lx:Enters X.P f) (hc:EvP X.P f bE yO) (hk:put2 s0 st (some d) false [] yO (goD X D 3000 c r)) (ha:CcL [] 0 0 0 bE args:=by exact ax) (hd:(eL X.nt st.sl (some d) && eL X.nt s0 (some d))=true:=by exact rfl) (aU:X.still=false:=by exact rfl):yM X D c i r f args (some d) s0 st:=aC lx hc ha hd hk aU
theorem dI {X:Ctx} {st:St} {k:List It} {id:Nat} {ops:Array Oper} (h:goD X ⟨ops,fun _=>false,k,st,none⟩ 3000 true (nOps 0 ops.toList) st.sl st) (hm:X.P.follows .mixedOrders=true:=by exact mo) (hc:My ops (fun _=>false)=true:=by decide +kernel):pL X id ops k st:=aG _ hm hc h
theorem dS {X:Ctx} {st:St} {k:List It} {id:Nat} {ops:Array Oper} (h:goD X ⟨ops,XD ops,k,st,none⟩ 3000 true (nOps 0 ops.toList) st.sl st) (hm:X.P.follows .mixedOrders=true:=by exact mo) (hc:My ops (XD ops)=true:=by decide +kernel):pL X id ops k st:=bg hm hc h
end Dv
end Go.Proofs.YtffhgcbfpidfiaaGreat
set_option maxRecDepth 100000
namespace Go.Proofs.YtffhgcbfpidfiaaGreat
open Go Go.RowKit Dv Go.Proofs.Tryz
theorem en6:Enters prog 6:=enters_of func6 (by decide +kernel) rfl
theorem en7:Enters prog 7:=enters_of func7 (by decide +kernel) rfl
theorem en8:Enters prog 8:=enters_of func8 (by decide +kernel) rfl
theorem en9:Enters prog 9:=enters_of func9 (by decide +kernel) rfl
theorem FD:Enters prog 10:=enters_of func10 (by decide +kernel) rfl
theorem MJ:Enters prog 11:=enters_of func11 (by decide +kernel) rfl
theorem Vp:Enters prog 12:=enters_of func12 (by decide +kernel) rfl
theorem en13:Enters prog 13:=enters_of func13 (by decide +kernel) rfl
theorem en14:Enters prog 14:=enters_of func14 (by decide +kernel) rfl
theorem YQ:Enters prog 18:=enters_of func18 (by decide +kernel) rfl
theorem en20:Enters prog 20:=enters_of func20 (by decide +kernel) rfl
theorem Vq:Enters prog 23:=enters_of func23 (by decide +kernel) rfl
theorem en24:Enters prog 24:=enters_of func24 (by decide +kernel) rfl
theorem en25:Enters prog 25:=enters_of func25 (by decide +kernel) rfl
theorem en26:Enters prog 26:=enters_of func26 (by decide +kernel) rfl
theorem en27:Enters prog 27:=enters_of func27 (by decide +kernel) rfl
theorem YR:Enters prog 28:=enters_of func28 (by decide +kernel) rfl
theorem YS:Enters prog 29:=enters_of func29 (by decide +kernel) rfl
theorem Vr:Enters prog 30:=enters_of func30 (by decide +kernel) rfl
theorem en31:Enters prog 31:=enters_of func31 (by decide +kernel) rfl
theorem en32:Enters prog 32:=enters_of func32 (by decide +kernel) rfl
theorem Ri:Enters prog 33:=enters_of func33 (by decide +kernel) rfl
theorem Vs:Enters prog 34:=enters_of func34 (by decide +kernel) rfl
theorem YT:Enters prog 35:=enters_of func35 (by decide +kernel) rfl
theorem Rj:Enters prog 36:=enters_of func36 (by decide +kernel) rfl
theorem en37:Enters prog 37:=enters_of func37 (by decide +kernel) rfl
theorem YU:Enters prog 38:=enters_of func38 (by decide +kernel) rfl
theorem JU:Enters prog 39:=enters_of func39 (by decide +kernel) rfl
theorem Vt:Enters prog 40:=enters_of func40 (by decide +kernel) rfl
theorem Vu:Enters prog 41:=enters_of func41 (by decide +kernel) rfl
theorem Vv:Enters prog 42:=enters_of func42 (by decide +kernel) rfl
theorem YV:Enters prog 43:=enters_of func43 (by decide +kernel) rfl
theorem en44:Enters prog 44:=enters_of func44 (by decide +kernel) rfl
theorem Vw:Enters prog 45:=enters_of func45 (by decide +kernel) rfl
theorem JV:Enters prog 46:=enters_of func46 (by decide +kernel) rfl
theorem YW:Enters prog 47:=enters_of func47 (by decide +kernel) rfl
theorem en48:Enters prog 48:=enters_of func48 (by decide +kernel) rfl
theorem YX:Enters prog 51:=enters_of func51 (by decide +kernel) rfl
theorem Vx:Enters prog 52:=enters_of func52 (by decide +kernel) rfl
theorem YY:Enters prog 53:=enters_of func53 (by decide +kernel) rfl
theorem Vy:Enters prog 55:=enters_of func55 (by decide +kernel) rfl
theorem MK:Enters prog 56:=enters_of func56 (by decide +kernel) rfl
theorem JW:Enters prog 57:=enters_of func57 (by decide +kernel) rfl
theorem Vz:Enters prog 58:=enters_of func58 (by decide +kernel) rfl
theorem YZ:Enters prog 59:=enters_of func59 (by decide +kernel) rfl
theorem Y0:Enters prog 60:=enters_of func60 (by decide +kernel) rfl
theorem Rk:Enters prog 64:=enters_of func64 (by decide +kernel) rfl
theorem en65:Enters prog 65:=enters_of func65 (by decide +kernel) rfl
theorem en66:Enters prog 66:=enters_of func66 (by decide +kernel) rfl
theorem Y1:Enters prog 67:=enters_of func67 (by decide +kernel) rfl
theorem VA:Enters prog 68:=enters_of func68 (by decide +kernel) rfl
theorem Y2:Enters prog 69:=enters_of func69 (by decide +kernel) rfl
theorem en70:Enters prog 70:=enters_of func70 (by decide +kernel) rfl
theorem Y3:Enters prog 71:=enters_of func71 (by decide +kernel) rfl
theorem Y4:Enters prog 72:=enters_of func72 (by decide +kernel) rfl
theorem en73:Enters prog 73:=enters_of func73 (by decide +kernel) rfl
theorem FE:Enters prog 74:=enters_of func74 (by decide +kernel) rfl
theorem VB:Enters prog 75:=enters_of func75 (by decide +kernel) rfl
theorem en76:Enters prog 76:=enters_of func76 (by decide +kernel) rfl
theorem Y5:Enters prog 77:=enters_of func77 (by decide +kernel) rfl
theorem u9:Enters prog 78:=enters_of func78 (by decide +kernel) rfl
theorem ML:Enters prog 79:=enters_of func79 (by decide +kernel) rfl
theorem en80:Enters prog 80:=enters_of func80 (by decide +kernel) rfl
theorem Y6:Enters prog 81:=enters_of func81 (by decide +kernel) rfl
theorem en82:Enters prog 82:=enters_of func82 (by decide +kernel) rfl
theorem en83:Enters prog 83:=enters_of func83 (by decide +kernel) rfl
theorem en84:Enters prog 84:=enters_of func84 (by decide +kernel) rfl
theorem Y7:Enters prog 85:=enters_of func85 (by decide +kernel) rfl
theorem VC:Enters prog 86:=enters_of func86 (by decide +kernel) rfl
theorem Rm:Enters prog 87:=enters_of func87 (by decide +kernel) rfl
theorem Y8:Enters prog 88:=enters_of func88 (by decide +kernel) rfl
theorem VD:Enters prog 89:=enters_of func89 (by decide +kernel) rfl
theorem va:Enters prog 90:=enters_of func90 (by decide +kernel) rfl
theorem Y9:Enters prog 91:=enters_of func91 (by decide +kernel) rfl
theorem JX:Enters prog 92:=enters_of func92 (by decide +kernel) rfl
theorem JY:Enters prog 93:=enters_of func93 (by decide +kernel) rfl
theorem Za:Enters prog 94:=enters_of func94 (by decide +kernel) rfl
theorem en95:Enters prog 95:=enters_of func95 (by decide +kernel) rfl
theorem JZ:Enters prog 96:=enters_of func96 (by decide +kernel) rfl
theorem en97:Enters prog 97:=enters_of func97 (by decide +kernel) rfl
theorem Zb:Enters prog 98:=enters_of func98 (by decide +kernel) rfl
theorem en99:Enters prog 99:=enters_of func99 (by decide +kernel) rfl
theorem Zc:Enters prog 100:=enters_of func100 (by decide +kernel) rfl
theorem Zd:Enters prog 107:=enters_of func107 (by decide +kernel) rfl
theorem Ze:Enters prog 108:=enters_of func108 (by decide +kernel) rfl
theorem Zf:Enters prog 109:=enters_of func109 (by decide +kernel) rfl
theorem Tl:Enters prog 110:=enters_of func110 (by decide +kernel) rfl
theorem Zg:Enters prog 111:=enters_of func111 (by decide +kernel) rfl
theorem Zh:Enters prog 114:=enters_of func114 (by decide +kernel) rfl
theorem Tm:Enters prog 116:=enters_of func116 (by decide +kernel) rfl
theorem Im:Enters prog 117:=enters_of func117 (by decide +kernel) rfl
theorem Tn:Enters prog 118:=enters_of func118 (by decide +kernel) rfl
theorem Io:Enters prog 121:=enters_of func121 (by decide +kernel) rfl
theorem Zi:Enters prog 122:=enters_of func122 (by decide +kernel) rfl
theorem Zj:Enters prog 123:=enters_of func123 (by decide +kernel) rfl
theorem Zk:Enters prog 124:=enters_of func124 (by decide +kernel) rfl
theorem Zl:Enters prog 125:=enters_of func125 (by decide +kernel) rfl
theorem MM:Enters prog 127:=enters_of func127 (by decide +kernel) rfl
theorem Zm:Enters prog 128:=enters_of func128 (by decide +kernel) rfl
theorem Zn:Enters prog 129:=enters_of func129 (by decide +kernel) rfl
theorem MN:Enters prog 130:=enters_of func130 (by decide +kernel) rfl
theorem CF:Enters prog 131:=enters_of func131 (by decide +kernel) rfl
theorem MO:Enters prog 132:=enters_of func132 (by decide +kernel) rfl
theorem Tp:Enters prog 133:=enters_of func133 (by decide +kernel) rfl
theorem Zo:Enters prog 134:=enters_of func134 (by decide +kernel) rfl
theorem Zp:Enters prog 135:=enters_of func135 (by decide +kernel) rfl
theorem Tq:Enters prog 136:=enters_of func136 (by decide +kernel) rfl
theorem MP:Enters prog 137:=enters_of func137 (by decide +kernel) rfl
theorem Tr:Enters prog 138:=enters_of func138 (by decide +kernel) rfl
theorem Ts:Enters prog 139:=enters_of func139 (by decide +kernel) rfl
theorem Tt:Enters prog 140:=enters_of func140 (by decide +kernel) rfl
theorem Ip:Enters prog 141:=enters_of func141 (by decide +kernel) rfl
theorem Iq:Enters prog 142:=enters_of func142 (by decide +kernel) rfl
theorem vb:Enters prog 143:=enters_of func143 (by decide +kernel) rfl
theorem Zq:Enters prog 144:=enters_of func144 (by decide +kernel) rfl
theorem Zr:Enters prog 145:=enters_of func145 (by decide +kernel) rfl
theorem Tu:Enters prog 146:=enters_of func146 (by decide +kernel) rfl
theorem Tv:Enters prog 147:=enters_of func147 (by decide +kernel) rfl
theorem Zs:Enters prog 148:=enters_of func148 (by decide +kernel) rfl
theorem Tw:Enters prog 149:=enters_of func149 (by decide +kernel) rfl
theorem Tx:Enters prog 150:=enters_of func150 (by decide +kernel) rfl
theorem Zt:Enters prog 151:=enters_of func151 (by decide +kernel) rfl
theorem Ir:Enters prog 152:=enters_of func152 (by decide +kernel) rfl
theorem Tz:Enters prog 153:=enters_of func153 (by decide +kernel) rfl
theorem TA:Enters prog 154:=enters_of func154 (by decide +kernel) rfl
theorem TB:Enters prog 156:=enters_of func156 (by decide +kernel) rfl
theorem Zu:Enters prog 157:=enters_of func157 (by decide +kernel) rfl
theorem MQ:Enters prog 158:=enters_of func158 (by decide +kernel) rfl
theorem Zv:Enters prog 159:=enters_of func159 (by decide +kernel) rfl
theorem yS:Enters prog 160:=enters_of func160 (by decide +kernel) rfl
theorem Is:Enters prog 162:=enters_of func162 (by decide +kernel) rfl
theorem Zw:Enters prog 163:=enters_of func163 (by decide +kernel) rfl
theorem TC:Enters prog 164:=enters_of func164 (by decide +kernel) rfl
theorem CG:Enters prog 165:=enters_of func165 (by decide +kernel) rfl
theorem TD:Enters prog 166:=enters_of func166 (by decide +kernel) rfl
theorem Zx:Enters prog 171:=enters_of func171 (by decide +kernel) rfl
theorem Zy:Enters prog 172:=enters_of func172 (by decide +kernel) rfl
theorem Zz:Enters prog 173:=enters_of func173 (by decide +kernel) rfl
theorem MR:Enters prog 174:=enters_of func174 (by decide +kernel) rfl
theorem MS:Enters prog 175:=enters_of func175 (by decide +kernel) rfl
theorem ZA:Enters prog 176:=enters_of func176 (by decide +kernel) rfl
theorem TF:Enters prog 182:=enters_of func182 (by decide +kernel) rfl
theorem ZB:Enters prog 183:=enters_of func183 (by decide +kernel) rfl
theorem dZ:Enters prog 184:=enters_of func184 (by decide +kernel) rfl
theorem ZC:Enters prog 185:=enters_of func185 (by decide +kernel) rfl
theorem ZD:Enters prog 186:=enters_of func186 (by decide +kernel) rfl
theorem TG:Enters prog 187:=enters_of func187 (by decide +kernel) rfl
theorem TH:Enters prog 188:=enters_of func188 (by decide +kernel) rfl
theorem TI:Enters prog 189:=enters_of func189 (by decide +kernel) rfl
theorem ZE:Enters prog 190:=enters_of func190 (by decide +kernel) rfl
theorem ZF:Enters prog 191:=enters_of func191 (by decide +kernel) rfl
theorem ZG:Enters prog 192:=enters_of func192 (by decide +kernel) rfl
theorem ZH:Enters prog 193:=enters_of func193 (by decide +kernel) rfl
theorem TJ:Enters prog 194:=enters_of func194 (by decide +kernel) rfl
theorem ZI:Enters prog 195:=enters_of func195 (by decide +kernel) rfl
theorem MT:Enters prog 196:=enters_of func196 (by decide +kernel) rfl
theorem ZJ:Enters prog 197:=enters_of func197 (by decide +kernel) rfl
theorem ZK:Enters prog 198:=enters_of func198 (by decide +kernel) rfl
theorem Iu:Enters prog 199:=enters_of func199 (by decide +kernel) rfl
theorem ZL:Enters prog 202:=enters_of func202 (by decide +kernel) rfl
theorem ZM:Enters prog 203:=enters_of func203 (by decide +kernel) rfl
theorem MU:Enters prog 204:=enters_of func204 (by decide +kernel) rfl
theorem gw:Enters prog 205:=enters_of func205 (by decide +kernel) rfl
theorem ZN:Enters prog 206:=enters_of func206 (by decide +kernel) rfl
theorem TL:Enters prog 207:=enters_of func207 (by decide +kernel) rfl
theorem MV:Enters prog 208:=enters_of func208 (by decide +kernel) rfl
theorem ZO:Enters prog 209:=enters_of func209 (by decide +kernel) rfl
theorem TM:Enters prog 210:=enters_of func210 (by decide +kernel) rfl
theorem TN:Enters prog 230:=enters_of func230 (by decide +kernel) rfl
theorem ZP:Enters prog 231:=enters_of func231 (by decide +kernel) rfl
theorem ZQ:Enters prog 232:=enters_of func232 (by decide +kernel) rfl
theorem ZR:Enters prog 233:=enters_of func233 (by decide +kernel) rfl
theorem ZS:Enters prog 234:=enters_of func234 (by decide +kernel) rfl
theorem MW:Enters prog 235:=enters_of func235 (by decide +kernel) rfl
theorem ZT:Enters prog 236:=enters_of func236 (by decide +kernel) rfl
theorem TO:Enters prog 237:=enters_of func237 (by decide +kernel) rfl
theorem ZU:Enters prog 238:=enters_of func238 (by decide +kernel) rfl
theorem mM:Enters prog 239:=enters_of func239 (by decide +kernel) rfl
theorem MX:Enters prog 240:=enters_of func240 (by decide +kernel) rfl
theorem ZV:Enters prog 241:=enters_of func241 (by decide +kernel) rfl
theorem ZW:Enters prog 242:=enters_of func242 (by decide +kernel) rfl
theorem ZX:Enters prog 243:=enters_of func243 (by decide +kernel) rfl
theorem MY:Enters prog 249:=enters_of func249 (by decide +kernel) rfl
theorem CH:Enters prog 250:=enters_of func250 (by decide +kernel) rfl
theorem ZY:Enters prog 251:=enters_of func251 (by decide +kernel) rfl
theorem M0:Enters prog 252:=enters_of func252 (by decide +kernel) rfl
theorem TP:Enters prog 253:=enters_of func253 (by decide +kernel) rfl
theorem TQ:Enters prog 254:=enters_of func254 (by decide +kernel) rfl
theorem ZZ:Enters prog 255:=enters_of func255 (by decide +kernel) rfl
theorem TR:Enters prog 256:=enters_of func256 (by decide +kernel) rfl
theorem Z0:Enters prog 257:=enters_of func257 (by decide +kernel) rfl
theorem Z1:Enters prog 258:=enters_of func258 (by decide +kernel) rfl
theorem Z2:Enters prog 259:=enters_of func259 (by decide +kernel) rfl
theorem Z3:Enters prog 260:=enters_of func260 (by decide +kernel) rfl
theorem Z4:Enters prog 261:=enters_of func261 (by decide +kernel) rfl
theorem Z5:Enters prog 262:=enters_of func262 (by decide +kernel) rfl
theorem Z6:Enters prog 263:=enters_of func263 (by decide +kernel) rfl
theorem Z7:Enters prog 264:=enters_of func264 (by decide +kernel) rfl
theorem Iv:Enters prog 270:=enters_of func270 (by decide +kernel) rfl
theorem Z8:Enters prog 271:=enters_of func271 (by decide +kernel) rfl
theorem TS:Enters prog 272:=enters_of func272 (by decide +kernel) rfl
theorem yT:Enters prog 273:=enters_of func273 (by decide +kernel) rfl
theorem Z9:Enters prog 274:=enters_of func274 (by decide +kernel) rfl
theorem aaa:Enters prog 275:=enters_of func275 (by decide +kernel) rfl
theorem aab:Enters prog 276:=enters_of func276 (by decide +kernel) rfl
theorem aac:Enters prog 277:=enters_of func277 (by decide +kernel) rfl
theorem aad:Enters prog 278:=enters_of func278 (by decide +kernel) rfl
theorem aae:Enters prog 283:=enters_of func283 (by decide +kernel) rfl
theorem TU:Enters prog 284:=enters_of func284 (by decide +kernel) rfl
theorem aaf:Enters prog 285:=enters_of func285 (by decide +kernel) rfl
theorem aag:Enters prog 286:=enters_of func286 (by decide +kernel) rfl
theorem aah:Enters prog 288:=enters_of func288 (by decide +kernel) rfl
theorem aai:Enters prog 289:=enters_of func289 (by decide +kernel) rfl
theorem aaj:Enters prog 290:=enters_of func290 (by decide +kernel) rfl
theorem aak:Enters prog 291:=enters_of func291 (by decide +kernel) rfl
end Go.Proofs.YtffhgcbfpidfiaaGreat
namespace Go.Proofs.YtffhgcbfpidfiaaGreat
open Go Go.RowKit Dv
structure Wd where
 s:ByteArray
 a:Int
structure Hd where
 ag:Int
 aD:Int
 lo:Int
 hi:Int
 most:Int
 af:List Wd
 name:Wd
structure Ph where
 name:Wd
 bare:Bool
 label:List Wd
 wide:Int
 ck:Int
 cn:Int
 ca:Int
 cl:List Wd
mutual
inductive Ty where
 | mk (h:Hd) (ps:Pts)
inductive Pts where
 | nil
 | cons (p:Ph) (t:Ty) (r:Pts)
end
def Ty.h:Ty->Hd | .mk h _=>h
def Ty.ps:Ty->Pts | .mk _ ps=>ps
def Pts.toList:Pts->List (Ph × Ty)
 | .nil=>[]
 | .cons p t r=>(p,t) :: r.toList
def Pts.len:Pts->Nat
 | .nil=>0
 | .cons _ _ r=>r.len + 1
theorem Pts.M3:∀ ps:Pts,ps.len=ps.toList.length
 | .nil=>rfl
 | .cons _ _ r=>by simp [Pts.len,Pts.toList,Pts.M3 r]
def Wd.wt (w:Wd):Nat:=w.s.size + 64
def wdsWt:List Wd->Nat
 | []=>0
 | w :: r=>w.wt + wdsWt r
def Hd.wt (h:Hd):Nat:=256 + wdsWt h.af + h.name.wt
def Ph.wt (p:Ph):Nat:=256 + p.name.wt + wdsWt p.label + wdsWt p.cl
mutual
def Ty.wt:Ty->Nat
 | .mk h ps=>h.wt + ps.wt
def Pts.wt:Pts->Nat
 | .nil=>0
 | .cons p t r=>p.wt + t.wt + r.wt
end
theorem bw:∀ l:List Wd,64 * l.length<=wdsWt l
 | []=>Nat.le_refl _
 | w :: r=>by have:=bw r;simp only [List.length_cons,wdsWt,Wd.wt];omega
theorem iu:∀ {l:List Wd} {w:Wd},w∈l->w.s.size + 64<=wdsWt l
 | x :: r,w,h=>by
  rcases List.mem_cons.1 h with h | h
  ·subst h;simp only [wdsWt,Wd.wt];omega
  ·have:=iu h;simp only [wdsWt];omega
theorem Pts.fy:∀ ps:Pts,256 * ps.len<=ps.wt
 | .nil=>Nat.le_refl _
 | .cons p t r=>by have:=Pts.fy r;simp only [Pts.len,Pts.wt,Ph.wt];omega
theorem Pts.gj:∀ {ps:Pts} {p:Ph} {t:Ty},(p,t)∈ps.toList->p.wt + t.wt<=ps.wt
 | .cons p t r,q,u,h=>by
  rcases List.mem_cons.1 h with h | h
  ·cases h;simp only [Pts.wt];omega
  ·have:=Pts.gj h;simp only [Pts.wt];omega
theorem Ty.dh (t:Ty):256<=t.wt:=by
 cases t;simp only [Ty.wt,Hd.wt];omega
def jN (w:Wd):List DV:=[.v (.string w.s),.v (.int .i64 w.a)]
def bG (l:List Wd):List (List DV):=l.map jN
def FF (p:Ph) (tl:List DV):List DV:=
 .v (.string p.name.s) :: .v (.int .i64 p.name.a) :: .v (.bool p.bare) :: .sl 2 (bG p.label) none :: .v (.int .i64 p.wide) :: .v (.int .i64 p.ck) :: .v (.int .i64 p.cn) :: .v (.int .i64 p.ca) :: .sl 2 (bG p.cl) none :: tl
mutual
def dV:Ty->List DV
 | .mk h ps=>[.v (.int .i64 h.ag),.v (.int .i64 h.aD),.v (.int .i64 h.lo),.v (.int .i64 h.hi),.v (.int .i64 h.most),.sl 2 (bG h.af) none,.sl 18 (fA ps) none,.v (.string h.name.s),.v (.int .i64 h.name.a)]
def fA:Pts->List (List DV)
 | .nil=>[]
 | .cons p t r=>FF p (dV t) :: fA r
end
theorem aA (l:List Wd):(bG l).length=l.length:=by simp [bG]
theorem aH:∀ ps:Pts,(fA ps).length=ps.len
 | .nil=>by simp [fA,Pts.len]
 | .cons p t r=>by simp [fA,Pts.len,aH r]
theorem aS {l:List Wd} {j:Nat} {w:Wd} (h:l[j]? = some w):(bG l)[j]? = some (jN w):=by simp [bG,h]
theorem yU {l:List Wd} {e:Nat} {x:Wd} (h:l[e]? = some x):bG (l.take e) ++ [jN x]=bG (l.take (e + 1)):=by
 rw [List.take_add_one,h];simp [bG]
theorem bQ:∀ {ps:Pts} {j:Nat} {p:Ph} {t:Ty},ps.toList[j]? = some (p,t)->(fA ps)[j]? = some (FF p (dV t))
 | .nil,j,p,t,h=>by simp [Pts.toList] at h
 | .cons q u r,0,p,t,h=>by
  simp only [Pts.toList,List.getElem?_cons_zero,oI,Prod.mk.injEq] at h;obtain ⟨rfl,rfl⟩:=h;simp [fA]
 | .cons q u r,j + 1,p,t,h=>by
  simp only [Pts.toList,List.getElem?_cons_succ] at h;simp only [fA,List.getElem?_cons_succ];exact bQ h
def Pts.drop:Nat->Pts->Pts
 | 0,ps=>ps
 | _ + 1,.nil=>.nil
 | e + 1,.cons _ _ r=>r.drop e
theorem Pts.drop_cons:∀ {e:Nat} {ps:Pts} {p:Ph} {t:Ty},ps.toList[e]? = some (p,t)->ps.drop e = .cons p t (ps.drop (e + 1))
 | 0,.cons q u r,p,t,h=>by
  simp only [Pts.toList,List.getElem?_cons_zero,oI,Prod.mk.injEq] at h;obtain ⟨rfl,rfl⟩:=h;rfl
 | e + 1,.cons q u r,p,t,h=>by
  simp only [Pts.toList,List.getElem?_cons_succ] at h;simp only [Pts.drop];exact Pts.drop_cons h
 | 0,.nil,p,t,h=>by simp [Pts.toList] at h
 | e + 1,.nil,p,t,h=>by simp [Pts.toList] at h
theorem Pts.cX:∀ (ps:Pts),ps.drop ps.len = .nil
 | .nil=>rfl
 | .cons _ _ r=>by simp only [Pts.len,Pts.drop];exact Pts.cX r
theorem Pts.eE {ps:Pts} {e:Nat} (h:e < ps.len):∃ p t,ps.toList[e]? = some (p,t):=by
 rw [Pts.M3] at h;exact ⟨_,_,gE h⟩
theorem drop_cons {α:Type} {l:List α} {e:Nat} {x:α} (h:l[e]? = some x):l.drop e=x :: l.drop (e + 1):=by
 obtain ⟨h1,h2⟩:=List.getElem?_eq_some_iff.1 h;rw [<- h2];exact List.drop_eq_getElem_cons h1
def aq:ByteArray:=⟨#[]⟩
def M4:Hd:=⟨0,0,0,0,0,[],⟨aq,0⟩⟩
def bW:Ty:=.mk M4 .nil
def eT:Ph:=⟨⟨aq,0⟩,false,[],0,0,0,0,[]⟩
def fi:Ph:=⟨⟨aq,0⟩,true,[],0,0,0,0,[]⟩
theorem nxt {e n:Nat} (h:e < n) (hn:n<=4611686018427387904):IntKind.i64.wrap ((e:Int) + 1)=((e + 1:Nat):Int):=by
 rw [IntWalk.i64_in _ ⟨by omega,by omega⟩];omega
theorem wrap64 {n:Int} (h1 : -9223372036854775808<=n) (h2:n<=9223372036854775807):IntKind.i64.wrap n=n:=IntWalk.i64_in n ⟨h1,h2⟩
theorem pickB_and (x a:Bool):pickB x a false=(x && a):=by cases x<;>rfl
theorem ap (x b:Bool):pickB x true b=(x || b):=by cases x<;>rfl
end Go.Proofs.YtffhgcbfpidfiaaGreat
set_option maxRecDepth 100000
namespace Go.Proofs.YtffhgcbfpidfiaaGreat
open Go Go.RowKit Dv Go.Proofs.Tryz
def isLet (c:Int):Bool:=decide (97<=c) && decide (c<=122)
def iv (c:Int):Bool:=(isLet c || (decide (48<=c) && decide (c<=57))) || decide (c=95)
def signs:List UInt8->Nat
 | []=>0
 | c :: r=>if iv c.toNat=true then signs r + 1 else 0
def dH:List UInt8->Nat
 | []=>0
 | c :: r=>if isLet c.toNat=true then signs r + 1 else 0
def bd (s:ByteArray):Bool:=decide (0 < s.size) && (decide (s.size<=32) && decide (dH s.data.toList=s.size))
theorem CI {c:Int} (h:isLet c=true):iv c=true:=by simp [iv,h]
theorem CJ:∀ l:List UInt8,signs l<=l.length
 | []=>Nat.le_refl _
 | c :: r=>by
  simp only [signs,List.length_cons];split
  ·have:=CJ r;omega
  ·omega
theorem vc {c:UInt8} {r:List UInt8} (h:isLet c.toNat=true):dH (c :: r)=signs (c :: r):=by
 simp [dH,signs,h,CI h]
theorem rG {s:ByteArray} {k:Nat} (h:k < s.size):∃ c:UInt8,s.data.toList.drop k=c :: s.data.toList.drop (k + 1)/\de s k=c.toNat:=by
 have hk:k < s.data.toList.length:=sU h;refine ⟨s.data.toList[k],by rw [<- List.drop_eq_getElem_cons hk],?_⟩;simp [de,List.getD_eq_getElem?_getD,gE hk]
theorem vd {s:ByteArray} {k:Nat} (h:s.size<=k):s.data.toList.drop k=[]:=List.drop_eq_nil_of_le (sU h)
theorem sL (c:Int):EvP prog 182 [.v (.int .u8 c)] (.v (.bool (isLet c))):=by
 refine eG 9 [.tmp 2] func182 rfl ntmps182 rfl fun _ _ _ _=>?_;exact (congrArg (fun b=>DV.v (.bool b)) (pickB_and _ _):_=_)
theorem J0 (c:Int):EvP prog 183 [.v (.int .u8 c)] (.v (.bool (iv c))):=by
 refine eG 17 [.tmp 2] func183 rfl ntmps183 rfl fun _ _ _ _=>?_;refine cP TF (sL c) ?_;refine (congrArg (fun b=>DV.v (.bool b)) ?_:_=_);simp only [pickB_and,ap,iv]
abbrev FG (s:ByteArray) (i e:Nat):St:=⟨[(5,⟨[],.v (.int .i64 e)⟩),(0,⟨[],.v (.string s)⟩),(1,⟨[],.v (.int .i64 i)⟩)],[],[]⟩
theorem AF (s:ByteArray) (i:Nat):s.extract i (i + 0)=⟨#[]⟩:=by
 apply ByteArray.ext;simp only [Nat.add_zero,ByteArray.extract,ByteArray.copySlice];apply Array.ext';simp
theorem J1 (s:ByteArray) (i:Nat) (hi:i < s.size) (hs:s.size<=4611686018427387904):EvP prog 136 [.v (.string s),.v (.int .i64 i)]
  (.tup [.v (.string (s.extract i (i + dH (s.data.toList.drop i)))),.v (.int .i64 ((i + dH (s.data.toList.drop i):Nat):Int))]):=by
 obtain ⟨c0,yV,gH⟩:=rG hi;refine eG 38 [.tmp 4,.tmp 5] func136 rfl ntmps136 rfl fun _ _ _ _=>?_;refine br (fun h=>?_) (fun _=>?_)
 ·simp [ap] at h;omega
 refine ⟨⟨by omega,by omega⟩,?_⟩;refine cP TF (sL _) ?_;refine br ?_ ?_<;>intro h
 ·have hl:isLet (c0.toNat:Int)=false:=by
   have:(!isLet ((de s i:Nat):Int))=true:=h;rw [gH] at this;simpa using this
  have hn:dH (s.data.toList.drop i)=0:=by rw [yV];simp [dH,hl]
  rw [hn,AF];exact ⟨_,ax,rfl⟩
 have hl:isLet (c0.toNat:Int)=true:=by
  have:(!isLet ((de s i:Nat):Int))=false:=h;rw [gH] at this;simpa using this
 have hn:dH (s.data.toList.drop i)=signs (s.data.toList.drop i):=by rw [yV];exact vc hl
 rw [hn]
 refine av (fun j st=>∃ e:Nat,st=FG s i e/\e<=s.size/\i<=e/\e + signs (s.data.toList.drop e)=i + signs (s.data.toList.drop i)/\j=s.size - e)
  (s.size - i) (FG s i i) (weak_mk ⟨_,rfl⟩ wA rfl rfl rfl wB) ⟨i,rfl,by omega,by omega,rfl,rfl⟩ ?_
 rintro j st ⟨e,rfl,he,CK,hinv,rfl⟩;refine br ?_ ?_<;>intro h
 ·have au:e < s.size:=sU h;refine ⟨⟨by omega,by omega⟩,?_⟩;refine cP ZB (J0 _) ?_;obtain ⟨c,hd,hb⟩:=rG au;refine br ?_ ?_<;>intro h2
  ·have hsg:iv (c.toNat:Int)=true:=by
    have:iv ((de s e:Nat):Int)=true:=h2
    rwa [hb] at this
   refine ⟨FG s i (e + 1),(weak_mk ⟨_,rfl⟩ wA rfl rfl rfl (wB1 (nxt au (by omega)))),s.size - (e + 1),by omega,e + 1,rfl,by omega,by omega,?_,rfl⟩;rw [hd] at hinv;simp only [signs,hsg,if_true] at hinv;omega
  ·have hsg:iv (c.toNat:Int)=false:=by
    have:iv ((de s e:Nat):Int)=false:=h2
    rwa [hb] at this
   rw [hd] at hinv;simp only [signs,hsg] at hinv;refine ⟨⟨by omega,by omega,by omega⟩,?_⟩;have:i + signs (s.data.toList.drop i)=e:=by simp at hinv;omega
   rw [this];exact ⟨_,ax,rfl⟩
 ·have aN:e=s.size:=by simp at h;omega
  rw [vd (by omega)] at hinv;simp only [signs] at hinv;refine ⟨⟨by omega,by omega,by omega⟩,?_⟩;have:i + signs (s.data.toList.drop i)=e:=by omega
  rw [this];exact ⟨_,ax,rfl⟩
theorem take_nil (s:ByteArray) (hs:s.size=0):EvP prog 136 [.v (.string s),.v (.int .i64 0)] (.tup [.v (.string ⟨#[]⟩),.v (.int .i64 0)]):=by
 refine eG 38 [.tmp 4,.tmp 5] func136 rfl ntmps136 rfl fun _ _ _ _=>?_;refine br (fun _=>?_) (fun h=>?_)
 ·exact ⟨_,ax,rfl⟩
 ·simp [ap,hs] at h
theorem FH (l:List UInt8):dH l<=l.length:=by
 cases l with
 | nil=>exact Nat.le_refl _
 | cons c r=>
  simp only [dH,List.length_cons];split
  ·have:=CJ r;omega
  ·omega
theorem CL (s:ByteArray):decide (s=⟨#[]⟩)=decide (s.size=0):=by
 rw [Bool.eq_iff_iff];simp only [decide_eq_true_eq];constructor
 ·rintro rfl;rfl
 ·intro h;apply ByteArray.ext;exact Array.eq_empty_of_size_eq_zero h
theorem iw (s:ByteArray) (hs:s.size<=4611686018427387904):EvP prog 74 [.v (.string s)] (.v (.bool (bd s))):=by
 refine eG 22 [.tmp 2] func74 rfl ntmps74 rfl fun _ _ _ _=>?_;by_cases h0:s.size=0
 ·refine cP Tq (take_nil s h0) ?_;refine (congrArg (fun b=>DV.v (.bool b)) ?_:_=_);simp [pickB_and,bd,CL,h0]
 ·refine cP Tq (J1 s 0 (by omega) hs) ?_;refine (congrArg (fun b=>DV.v (.bool b)) ?_:_=_);have hl:=FH s.data.toList;simp only [Array.length_toList,ByteArray.size_data] at hl;simp only [pickB_and,bd,CL,List.drop_zero,Nat.zero_add];rw [Bool.eq_iff_iff];simp only [Bool.and_eq_true,decide_eq_true_eq,Bool.not_eq_true',decide_eq_false_iff_not];omega
abbrev AG (s:ByteArray) (i n e:Nat):St:=⟨[(5,⟨[],.v (.int .i64 n)⟩),(6,⟨[],.v (.int .i64 e)⟩),(0,⟨[],.v (.string s)⟩),(1,⟨[],.v (.int .i64 i)⟩)],[],[]⟩
theorem CM (s:ByteArray) (hs:s.size<=4611686018427387904):EvP prog 171 [.v (.string s),.v (.int .i64 0)] (.v (.int .i64 (dH s.data.toList))):=by
 refine eG 47 [.tmp 4] func171 rfl ntmps171 rfl fun _ _ _ _=>?_
 refine av (fun j st=>∃ e:Nat,st=AG s 0 e e/\e<=s.size/\(e=0∨e + signs (s.data.toList.drop e)=dH s.data.toList)/\j=s.size - e)
  s.size (AG s 0 0 0) (weak_mk ⟨_,rfl⟩ wA rfl rfl rfl wB) ⟨0,rfl,by omega,.inl rfl,rfl⟩ ?_
 rintro j st ⟨e,rfl,he,hinv,rfl⟩;refine br ?_ ?_<;>intro h
 ·have au:e < s.size:=sU h;refine ⟨⟨by omega,by omega⟩,?_⟩;obtain ⟨c,hd,hb⟩:=rG au
  have key:dH s.data.toList=if (e=0/\isLet (c.toNat:Int)=true)∨(e≠0/\iv (c.toNat:Int)=true) then (e + 1) + signs (s.data.toList.drop (e + 1)) else e:=by
   by_cases h0:e=0
   ·subst h0;simp only [List.drop_zero] at hd;have hk:dH s.data.toList=if isLet (c.toNat:Int)=true then signs (s.data.toList.drop (0 + 1)) + 1 else 0:=congrArg dH hd
    rw [hk];by_cases hl:isLet (c.toNat:Int)=true
    ·rw [if_pos hl,if_pos (.inl ⟨rfl,hl⟩)];omega
    ·rw [if_neg hl,if_neg (by simp [hl])]
   ·have sI:=hinv.resolve_left h0;rw [hd] at sI;simp only [signs] at sI;by_cases hl:iv (c.toNat:Int)=true
    ·rw [if_pos hl] at sI;rw [if_pos (.inr ⟨h0,hl⟩)];omega
    ·rw [if_neg hl] at sI;rw [if_neg (by simp [hl,h0])];omega
  refine br ?_ ?_<;>intro h2
  ·have dQ:de s ((e:Int).toNat)=c.toNat:=hb;rw [dQ] at h2
   have:dH s.data.toList=e:=by
    rw [key,if_neg];simp only [pickB_and,ap,iv,isLet] at h2 ⊢;simp at h2 ⊢;omega
   rw [this];exact (rfl:_=_)
  ·have dQ:de s ((e:Int).toNat)=c.toNat:=hb;rw [dQ] at h2;refine ⟨AG s 0 (e + 1) (e + 1),(weak_mk ⟨_,rfl⟩ wA rfl rfl rfl (wB1 (nxt au (by omega)))),s.size - (e + 1),by omega,e + 1,rfl,by omega,.inr ?_,rfl⟩;rw [key,if_pos];simp only [pickB_and,ap,iv,isLet] at h2 ⊢;simp at h2 ⊢;omega
 ·have aN:e=s.size:=by simp at h;omega
  have:dH s.data.toList=e:=by
   rcases hinv with h0 | h0
   ·subst h0;have:s.data.toList=[]:=by rw [<- List.drop_zero (l:=s.data.toList)];exact vd (by omega)
    rw [this];all_goals rfl
   ·rw [vd (by omega)] at h0;simp only [signs] at h0;omega
  rw [this];exact (rfl:_=_)
theorem ka (s:ByteArray) (hs:s.size<=4611686018427387904):EvP prog 121 [.v (.string s)] (.v (.bool (bd s))):=by
 refine eG 18 [.tmp 2] func121 rfl ntmps121 rfl fun _ _ _ _=>?_;refine br ?_ ?_<;>intro h
 ·refine cP Zx (CM s hs) ?_;refine (congrArg (fun b=>DV.v (.bool b)) ?_:_=_);rw [Bool.eq_iff_iff];simp [pickB_and] at h;simp [pickB_and,bd];omega
 ·refine (congrArg (fun b=>DV.v (.bool b)) ?_:_=_);rw [Bool.eq_iff_iff];simp [pickB_and] at h;simp [pickB_and,bd];omega
def dM (l:List ByteArray):List (List DV):=l.map fun s=>[.v (.string s)]
def dInts (l:List Nat):List (List DV):=l.map fun (i:Nat)=>[.v (.int .i64 (i:Int))]
theorem cg (l:List ByteArray):(dM l).length=l.length:=by simp [dM]
theorem bz (l:List Nat):(dInts l).length=l.length:=by simp [dInts]
theorem fW {l:List ByteArray} {j:Nat} {x:ByteArray} (h:l[j]? = some x):(dM l)[j]? = some [.v (.string x)]:=by simp [dM,h]
theorem ee {l:List Nat} {j:Nat} {x:Nat} (h:l[j]? = some x):(dInts l)[j]? = some [.v (.int .i64 (x:Int))]:=by simp [dInts,h]
abbrev AH (g:Nat) (cb:List DV) (i j:Nat):St:=⟨[(1,⟨[],.fn g [] cb⟩),(5,⟨[],.v (.int .i64 i)⟩),(6,⟨[],.v (.int .i64 j)⟩)],[],[]⟩
theorem sM (g:Nat) (lx:Enters prog g) (cb:List DV) (n m:Nat) (hn:n<=1099511627776) (hm:m<=n) (M5:CcL [] 0 0 0 cb cb) (hY:clB.clL 0 0 cb=true)
  (hp:∀ i:Nat,i < n->EvP prog g (.v (.int .i64 i) :: cb) (.v (.bool (decide (m<=i))))) :
  EvP prog 138 [.v (.int .i64 n),.fn g [] cb] (.v (.int .i64 m)):=by
 refine eG 26 [.tmp 4] func138 rfl ntmps138 rfl fun _ _ _ _=>?_;have B0:clB 0 0 (.fn g [] cb)=true:=by simp only [clB,Bool.and_eq_true];exact ⟨rfl,hY⟩
 refine lI (fun j st=>∃ a b:Nat,st=AH g cb a b/\a<=m/\m<=b/\b<=n/\j=b - a) ⟨0,n,rfl,by omega,by omega,by omega,rfl⟩ (weak_mk ⟨_,rfl⟩ wA rfl rfl rfl (wB1 B0)) ?_;rintro j st ⟨a,b,rfl,h1,h2,h3,rfl⟩;refine br ?_ ?_<;>intro h
 ·have au:a < b:=sU h
  have VE:IntKind.i64.wrap ((IntKind.u64.wrap (IntKind.i64.wrap ((a:Int) + (b:Int)))).fdiv (2 ^ (min ((1:Int).toNat) IntKind.u64.bits)))=(((a + b) / 2:Nat):Int):=by
   rw [wrap64 (n:=(a:Int) + (b:Int)) (by omega) (by omega),IntKind.wrap_u64];have e2:(2:Int) ^ (min ((1:Int).toNat) IntKind.u64.bits)=2:=by decide
   rw [e2,Int.fdiv_eq_ediv_of_nonneg _ (by decide),wrap64 (by omega) (by omega)];omega
  refine ⟨by decide,?_⟩;refine cP lx (hp ((a + b) / 2) (by omega)) ?_ ⟨_,_,rfl,congrArg (fun z=>DV.v (.int .i64 z)) VE,M5⟩;refine br ?_ ?_<;>intro hq
  ·have hq:(a + b) / 2 < m:=sU hq;have Ch:=nxt (e:=(a + b) / 2) (n:=n) (by omega) (by omega);rw [<- VE] at Ch;refine ⟨AH g cb ((a + b) / 2 + 1) b,(weak_mk ⟨_,rfl⟩ wA rfl rfl rfl (dm B0 Ch)),b - ((a + b) / 2 + 1),by omega,(a + b) / 2 + 1,b,rfl,by omega,by omega,by omega,rfl⟩
  ·have hq:m<=(a + b) / 2:=sU hq;refine ⟨AH g cb a ((a + b) / 2),(weak_mk ⟨_,rfl⟩ wA rfl rfl rfl (dm B0 VE)),(a + b) / 2 - a,by omega,a,(a + b) / 2,rfl,by omega,by omega,by omega,rfl⟩
 ·have aN:¬ a < b:=sU h;have:a=m:=by omega
  subst this;exact (rfl:_=_)
def ye (a b:ByteArray):Bool:=Op.bytesLess a.data.toList b.data.toList
theorem kA:∀ l:List UInt8,Op.bytesLess l l=false
 | []=>rfl
 | a :: r=>by simp [Op.bytesLess,kA r]
theorem jO:∀ {a b:List UInt8},Op.bytesLess a b=true->Op.bytesLess b a=false
 | _,[],h=>by simp [Op.bytesLess] at h
 | [],b :: r,_=>rfl
 | a :: x,b :: y,h=>by
  simp only [Op.bytesLess,Bool.or_eq_true,decide_eq_true_eq,Bool.and_eq_true,beq_iff_eq] at h;simp only [Op.bytesLess,Bool.or_eq_false_iff,decide_eq_false_iff_not,Bool.and_eq_false_imp,beq_iff_eq];rcases h with h | ⟨rfl,h⟩
  ·refine ⟨fun h2=>?_,fun h2=>?_⟩
   ·exact absurd (UInt8.lt_trans h h2) (UInt8.lt_irrefl _)
   ·subst h2;exact absurd h (UInt8.lt_irrefl _)
  ·exact ⟨UInt8.lt_irrefl _,fun _=>jO h⟩
structure ie (L:List ByteArray) (aE:List Nat):Prop where
 lt:∀ (i p:Nat),aE[i]? = some p->p < L.length
 srt:∀ (i j p q:Nat) (s t:ByteArray),i < j->aE[i]? = some p->aE[j]? = some q->L[p]? = some s->L[q]? = some t->ye s t=true
 fst:∀ (i p j:Nat) (s:ByteArray),aE[i]? = some p->L[p]? = some s->L[j]? = some s->p<=j
 all:∀ (j:Nat) (s:ByteArray),L[j]? = some s->∃ i p:Nat,aE[i]? = some p/\L[p]? = some s
abbrev cJ (L:List ByteArray) (aE:List Nat):List DV:=[.sl 1 (dM L) none,.sl 1 (dInts aE) none]
theorem ve (L:List ByteArray) (aE:List Nat) (s:ByteArray) (i p:Nat) (t:ByteArray) (hi:aE[i]? = some p) (hp:L[p]? = some t) :
  EvP prog 139 [.v (.int .i64 i),.pt [.pt (cJ L aE) 0] 0,.pt [.v (.string s)] 0] (.v (.bool (!ye t s))):=by
 refine eG 20 [.tmp 4] func139 rfl ntmps139 rfl fun _ _ _ _=>?_;refine dI ?_;refine iX (ee hi) ?_;refine iX (fW hp) ?_;exact (rfl:_=_)
theorem find_spec (L:List ByteArray) (aE:List Nat) (s:ByteArray) (q p:Nat) (hT:ie L aE) (hl:aE.length<=1099511627776) (hq:aE[q]? = some p) (hp:L[p]? = some s) :
  EvP prog 78 [.pt (cJ L aE) 0,.v (.string s)] (.tup [.v (.int .i64 p),.v (.bool true)]):=by
 have hqlt:=(gS hq).1;refine eG 47 [.tmp 4,.tmp 5] func78 rfl ntmps78 rfl fun _ _ _ _=>?_
 have hY:∀ i:Nat,i < aE.length->EvP prog 139 [.v (.int .i64 i),.pt [.pt (cJ L aE) 0] 0,.pt [.v (.string s)] 0] (.v (.bool (decide (q<=i)))):=by
  intro i hi;obtain ⟨p',pZ⟩:∃ p',aE[i]? = some p':=⟨_,gE hi⟩;obtain ⟨t,ht⟩:∃ t,L[p']? = some t:=⟨_,gE (hT.lt i p' pZ)⟩;have:=ve L aE s i p' t pZ ht
  have e:(!ye t s)=decide (q<=i):=by
   rcases Nat.lt_trichotomy i q with h | h | h
   ·rw [hT.srt i q p' p t s h pZ hq ht hp];simp;omega
   ·subst h;rw [hq] at pZ;simp only [oI] at pZ;subst pZ;rw [hp] at ht;simp only [oI] at ht;subst ht;rw [ye,kA];simp
   ·have h2:=hT.srt q i p p' s t h hq pZ hp ht;rw [ye,jO h2];simp;omega
  rw [e] at this;exact this
 have hS:=sM 139 Ts [.pt [.pt (cJ L aE) 0] 0,.pt [.v (.string s)] 0] aE.length q hl (by omega) ax rfl hY;refine AE Tr hS (wC1 (bz aE)) rfl ?_;refine dI ?_;refine br ?_ ?_<;>intro h
 ·refine iX (ee hq) ?_;refine iX (fW hp) ?_;refine br ?_ ?_<;>intro h2
  ·exfalso;simp [ap,bz] at h2
  ·refine iX (ee hq) ?_;exact ⟨_,ax,rfl⟩
 ·exfalso;have:decide ((q:Int)=((dInts aE).length:Int))=true:=sU h;simp [bz] at this;omega
end Go.Proofs.YtffhgcbfpidfiaaGreat
set_option maxRecDepth 100000
namespace Go.Proofs
open Go.Shelf
def Tryz.laysGg6_ren:Go.Shelf.Ren:=⟨fun | 6=>125 | 10=>177 | 11=>178 | 12=>179 | 13=>180 | 14=>181 | 24=>220 | 25=>221 | 26=>222 | 27=>223 | 28=>224 | 29=>225 | 30=>226 | 31=>227 | 32=>228 | 33=>229 | 34=>244 | 35=>245 | 36=>246 | 37=>247 | 38=>248 | 39=>269 | n=>n,fun | 20=>20 | 26=>222 | 35=>269 | 0=>0 | 37=>271 | 3=>3 | 41=>274 | 44=>277 | 49=>306 | 51=>227 | 4=>4 | 54=>309 | 53=>308 | 58=>162 | 5=>5 | 9=>9 | 60=>326 | 64=>330 | 66=>346 | 67=>73 | 17=>17 | 32=>252 | 33=>267 | 82=>376 | 12=>12 | 75=>370 | 76=>371 | 77=>372 | 78=>209 | 79=>373 | 80=>374 | n=>n,fun | n=>n⟩
theorem Tryz.laysGg6:Go.Proofs.LaysGg.n6 prog Tryz.laysGg6_ren:={
 mixed:=by kernel_rfl
 f6:=func125.trans (congrArg some (by kernel_rfl))
 f10:=func177.trans (congrArg some (by kernel_rfl))
 f11:=func178.trans (congrArg some (by kernel_rfl))
 f12:=func179.trans (congrArg some (by kernel_rfl))
 f13:=func180.trans (congrArg some (by kernel_rfl))
 f14:=func181.trans (congrArg some (by kernel_rfl))
 f24:=func220.trans (congrArg some (by kernel_rfl))
 f25:=func221.trans (congrArg some (by kernel_rfl))
 f26:=func222.trans (congrArg some (by kernel_rfl))
 f27:=func223.trans (congrArg some (by kernel_rfl))
 f28:=func224.trans (congrArg some (by kernel_rfl))
 f29:=func225.trans (congrArg some (by kernel_rfl))
 f30:=func226.trans (congrArg some (by kernel_rfl))
 f31:=func227.trans (congrArg some (by kernel_rfl))
 f32:=func228.trans (congrArg some (by kernel_rfl))
 f33:=func229.trans (congrArg some (by kernel_rfl))
 f34:=func244.trans (congrArg some (by kernel_rfl))
 f35:=func245.trans (congrArg some (by kernel_rfl))
 f36:=func246.trans (congrArg some (by kernel_rfl))
 f37:=func247.trans (congrArg some (by kernel_rfl))
 f38:=func248.trans (congrArg some (by kernel_rfl))
 f39:=func269.trans (congrArg some (by kernel_rfl))
 t0:=Tryz.underlying0
 a0:=Tryz.isAgg0
 z0:=Tryz.sizeOf0
 v0:=Tryz.zeroValue0
 i0:=by kernel_rfl
 t3:=Tryz.underlying3
 a3:=Tryz.isAgg3
 z3:=Tryz.sizeOf3
 v3:=Tryz.zeroValue3
 i3:=by kernel_rfl
 t4:=Tryz.underlying4
 a4:=Tryz.isAgg4
 z4:=Tryz.sizeOf4
 v4:=Tryz.zeroValue4
 i4:=by kernel_rfl
 t5:=Tryz.underlying5
 a5:=Tryz.isAgg5
 z5:=Tryz.sizeOf5
 v5:=Tryz.zeroValue5
 i5:=by kernel_rfl
 t9:=Tryz.underlying9
 a9:=Tryz.isAgg9
 z9:=Tryz.sizeOf9
 v9:=Tryz.zeroValue9
 i9:=by kernel_rfl
 t12:=Tryz.underlying12
 a12:=Tryz.isAgg12
 z12:=Tryz.sizeOf12
 v12:=Tryz.zeroValue12
 i12:=by kernel_rfl
 t17:=Tryz.underlying17
 a17:=Tryz.isAgg17
 z17:=Tryz.sizeOf17
 v17:=Tryz.zeroValue17
 i17:=by kernel_rfl
 t20:=Tryz.underlying20
 a20:=Tryz.isAgg20
 z20:=Tryz.sizeOf20
 v20:=Tryz.zeroValue20
 i20:=by kernel_rfl
 t26:=Tryz.underlying222
 a26:=Tryz.isAgg222
 z26:=Tryz.sizeOf222
 v26:=Tryz.zeroValue222
 i26:=by kernel_rfl
 t32:=Tryz.underlying252
 a32:=Tryz.isAgg252
 z32:=Tryz.sizeOf252
 v32:=Tryz.zeroValue252
 i32:=by kernel_rfl
 t33:=Tryz.underlying267
 a33:=Tryz.isAgg267
 z33:=Tryz.sizeOf267
 v33:=Tryz.zeroValue267
 i33:=by kernel_rfl
 t35:=Tryz.underlying269
 a35:=Tryz.isAgg269
 z35:=Tryz.sizeOf269
 v35:=Tryz.zeroValue269
 i35:=by kernel_rfl
 t37:=Tryz.underlying271
 a37:=Tryz.isAgg271
 z37:=Tryz.sizeOf271
 v37:=Tryz.zeroValue271
 i37:=by kernel_rfl
 t41:=Tryz.underlying274
 a41:=Tryz.isAgg274
 z41:=Tryz.sizeOf274
 v41:=Tryz.zeroValue274
 i41:=by kernel_rfl
 t44:=Tryz.underlying277
 a44:=Tryz.isAgg277
 z44:=Tryz.sizeOf277
 v44:=Tryz.zeroValue277
 i44:=by kernel_rfl
 t49:=Tryz.underlying306
 a49:=Tryz.isAgg306
 z49:=Tryz.sizeOf306
 v49:=Tryz.zeroValue306
 i49:=by kernel_rfl
 t51:=Tryz.underlying227
 a51:=Tryz.isAgg227
 z51:=Tryz.sizeOf227
 v51:=Tryz.zeroValue227
 i51:=by kernel_rfl
 t53:=Tryz.underlying308
 a53:=Tryz.isAgg308
 z53:=Tryz.sizeOf308
 v53:=Tryz.zeroValue308
 i53:=by kernel_rfl
 t54:=Tryz.underlying309
 a54:=Tryz.isAgg309
 z54:=Tryz.sizeOf309
 v54:=Tryz.zeroValue309
 i54:=by kernel_rfl
 t58:=Tryz.underlying162
 a58:=Tryz.isAgg162
 z58:=Tryz.sizeOf162
 v58:=Tryz.zeroValue162
 i58:=by kernel_rfl
 t60:=Tryz.underlying326
 a60:=Tryz.isAgg326
 z60:=Tryz.sizeOf326
 v60:=Tryz.zeroValue326
 i60:=by kernel_rfl
 t64:=Tryz.underlying330
 a64:=Tryz.isAgg330
 z64:=Tryz.sizeOf330
 v64:=Tryz.zeroValue330
 i64:=by kernel_rfl
 t66:=Tryz.underlying346
 a66:=Tryz.isAgg346
 z66:=Tryz.sizeOf346
 v66:=Tryz.zeroValue346
 i66:=by kernel_rfl
 t67:=Tryz.underlying73
 a67:=Tryz.isAgg73
 z67:=Tryz.sizeOf73
 v67:=Tryz.zeroValue73
 i67:=by kernel_rfl
 t75:=Tryz.underlying370
 a75:=Tryz.isAgg370
 z75:=Tryz.sizeOf370
 v75:=Tryz.zeroValue370
 i75:=by kernel_rfl
 t76:=Tryz.underlying371
 a76:=Tryz.isAgg371
 z76:=Tryz.sizeOf371
 v76:=Tryz.zeroValue371
 i76:=by kernel_rfl
 t77:=Tryz.underlying372
 a77:=Tryz.isAgg372
 z77:=Tryz.sizeOf372
 v77:=Tryz.zeroValue372
 i77:=by kernel_rfl
 t78:=Tryz.underlying209
 a78:=Tryz.isAgg209
 z78:=Tryz.sizeOf209
 v78:=Tryz.zeroValue209
 i78:=by kernel_rfl
 t79:=Tryz.underlying373
 a79:=Tryz.isAgg373
 z79:=Tryz.sizeOf373
 v79:=Tryz.zeroValue373
 i79:=by kernel_rfl
 t80:=Tryz.underlying374
 a80:=Tryz.isAgg374
 z80:=Tryz.sizeOf374
 v80:=Tryz.zeroValue374
 i80:=by kernel_rfl
 t82:=Tryz.underlying376
 a82:=Tryz.isAgg376
 z82:=Tryz.sizeOf376
 v82:=Tryz.zeroValue376
 i82:=by kernel_rfl }
end Go.Proofs
namespace Go.Proofs.YtffhgcbfpidfiaaGreat
open Go Go.RowKit Go.Lib Go.Sort Go.Proofs.Tryz
noncomputable def siT:TypeInfo:=(prog.info? 86).get (by kernel_rfl)
noncomputable def XH:TypeInfo:=(prog.info? 3).get (by kernel_rfl)
theorem siK (n:Nat) (h2:2<=n):Lib.swapperK n XH 2=5:=by
 have a:XH.hasPointers=false:=by kernel_rfl
 have b:XH.bytes=8:=by kernel_rfl
 have c:(n == 0)=false:=by simp;omega
 have d:(n == 1)=false:=by simp;omega
 simp [Lib.swapperK,a,b,c,d]
theorem M6 {α:Type} [Inhabited α] (enc:α->Value) (h1:∀ x,(enc x).oneCell'=true) {lt:α->α->Bool} (hO:SWO lt) (lb:Array Value) (EY c:Nat) (d:Array α) (h2:2<=d.size) (bJ:d.size < 4611686018427387904) (w:World)
  (M7:LessReads prog 126 lb enc lt EY 0 d.size w) (hH:Holds enc w EY 0 d) (hblk:EY < w.heap.size) :
  Calls prog 125 #[.iface 86 (.slice (some ⟨EY,0,none⟩) d.size c),.func (.func 126) #[] lb] w fun e w'=>
   e = .returned (.tuple #[])/\∃ d' n os,PermIn 0 d.size d d' /\ SortedIn lt 0 d.size d' /\ w'=grow (putRow enc (Sort.ahead w n) EY 0 d') os:=
 Any.sort_Slice_sorted Tryz.laysGg6 86 3 siT XH (by kernel_rfl) (by kernel_rfl) (by kernel_rfl) (by kernel_rfl) 2 (fun _=>by kernel_rfl) (by kernel_rfl) (fun _=>by kernel_rfl) enc h1 lt hO 126 lb
  (enters_of func126 (by kernel_rfl) rfl) EY 0 c d h2 bJ 215 (by rw [siK _ h2];kernel_rfl) true
  (fun args W=>run_callFunc_extern func215 (by kernel_rfl) (by kernel_rfl) (by kernel_rfl) (e:=Extern.ReflectliteSwapper.swap true) (by kernel_rfl) args W) w M7 hH hblk
theorem J2 (lb:Array Value) (p:Option Addr) (n c:Nat) (h1:n<=1) (w:World) :
  Calls prog 125 #[.iface 86 (.slice p n c),.func (.func 126) #[] lb] w fun e w'=>e = .returned (.tuple #[])/\∃ os,w'=grow w os:=by
 have h:n=0∨n=1:=by omega
 rcases h with rfl | rfl
 ·exact Any.sort_Slice_tiny Tryz.laysGg6 86 3 siT XH (by kernel_rfl) (by kernel_rfl) (by kernel_rfl) (by kernel_rfl) 2 (fun _=>by kernel_rfl) p 0 c h1 211 (by kernel_rfl) _ _ _ w
 ·exact Any.sort_Slice_tiny Tryz.laysGg6 86 3 siT XH (by kernel_rfl) (by kernel_rfl) (by kernel_rfl) (by kernel_rfl) 2 (fun _=>by kernel_rfl) p 1 c h1 212 (by kernel_rfl) _ _ _ w
end Go.Proofs.YtffhgcbfpidfiaaGreat
set_option maxRecDepth 100000
namespace Go.Proofs.YtffhgcbfpidfiaaGreat
open Go Go.RowKit Dv Go.Proofs.Tryz
theorem ox:∀ {a b:List UInt8},Op.bytesLess a b=false->a=b∨Op.bytesLess b a=true
 | [],[],_=>.inl rfl
 | a :: x,[],_=>.inr rfl
 | [],b :: r,h=>by simp [Op.bytesLess] at h
 | a :: x,b :: y,h=>by
  simp only [Op.bytesLess,Bool.or_eq_false_iff,decide_eq_false_iff_not,Bool.and_eq_false_imp,beq_iff_eq] at h;simp only [Op.bytesLess,Bool.or_eq_true,decide_eq_true_eq,Bool.and_eq_true,beq_iff_eq];by_cases oT:a=b
  ·subst oT;rcases ox (h.2 rfl) with h2 | h2
   ·exact .inl (by rw [h2])
   ·exact .inr (.inr ⟨rfl,h2⟩)
  ·refine .inr (.inl ?_);rcases UInt8.lt_or_lt_of_ne oT with h3 | h3
   ·exact absurd h3 h.1
   ·exact h3
theorem fX:∀ {a b c:List UInt8},Op.bytesLess a b=true->Op.bytesLess b c=true->Op.bytesLess a c=true
 | _,[],_,h,_=>by simp [Op.bytesLess] at h
 | _,_ :: _,[],_,h=>by simp [Op.bytesLess] at h
 | [],b :: y,c :: z,_,_=>rfl
 | a :: x,b :: y,c :: z,h1,h2=>by
  simp only [Op.bytesLess,Bool.or_eq_true,decide_eq_true_eq,Bool.and_eq_true,beq_iff_eq] at h1 h2 ⊢;rcases h1 with h1 | ⟨rfl,h1⟩
  ·rcases h2 with h2 | ⟨rfl,h2⟩
   ·exact .inl (UInt8.lt_trans h1 h2)
   ·exact .inl h1
  ·rcases h2 with h2 | ⟨rfl,h2⟩
   ·exact .inl h2
   ·exact .inr ⟨rfl,fX h1 h2⟩
theorem Iw {s t:ByteArray} (h:ye s t=false):s=t∨ye t s=true:=by
 rcases ox h with h | h
 ·exact .inl (ByteArray.ext (Array.ext' h))
 ·exact .inr h
def B4 (L:List ByteArray) (p q:Nat):Bool:=
 if L.getD p aq=L.getD q aq then decide (p < q) else ye (L.getD p aq) (L.getD q aq)
theorem Rn (L:List ByteArray):Sort.SWO (B4 L):=by
 have irr:∀ x,B4 L x x=false:=fun x=>by simp [B4]
 have tr:∀ x y z,B4 L x y=true->B4 L y z=true->B4 L x z=true:=by
  intro x y z h1 h2;unfold B4 at *;generalize L.getD x aq=a at *;generalize L.getD y aq=b at *;generalize L.getD z aq=c at *;by_cases oT:a=b
  ·subst oT;rw [if_pos rfl] at h1;by_cases hbc:a=c
   ·rw [if_pos hbc] at h2 ⊢;simp at h1 h2 ⊢;omega
   ·rw [if_neg hbc] at h2 ⊢;exact h2
  ·rw [if_neg oT] at h1;by_cases hbc:b=c
   ·subst hbc;rw [if_neg oT];exact h1
   ·rw [if_neg hbc] at h2
    have hac:a≠c:=by
     rintro rfl;have:=jO h1;rw [ye,this] at h2;cases h2
    rw [if_neg hac];exact fX h1 h2
 have tot:∀ x y,B4 L x y=false->x=y∨B4 L y x=true:=by
  intro x y h;unfold B4 at *;by_cases oT:L.getD x aq=L.getD y aq
  ·rw [if_pos oT] at h;rw [if_pos oT.symm];simp at h ⊢;omega
  ·rw [if_neg oT] at h;rw [if_neg (fun e=>oT e.symm)];rcases Iw h with h | h
   ·exact absurd h oT
   ·exact .inr h
 refine ⟨irr,tr,fun x y z h1 h2=>?_⟩;rcases tot x y h1 with rfl | h3
 ·exact h2
 ·rcases tot y z h2 with rfl | h4
  ·exact h1
  ·cases h5:B4 L x z
   ·rfl
   ·have:=tr _ _ _ (tr _ _ _ h4 h3) h5;rw [irr] at this;cases this
theorem J3 (L:List ByteArray) (d:List Nat) (i j p q:Nat) (hi:d[i]? = some p) (hj:d[j]? = some q) (hp:p < L.length) (hq:q < L.length) :
  EvS prog 126 [.v (.int .i64 i),.v (.int .i64 j),.pt [.sl 1 (dInts d) none] 0,.pt [.pt [.sl 1 (dM L) none,.v (.slice none 0 0)] 0] 0] [] [] (fun r _ _=>r = .v (.bool (B4 L p q))):=by
 obtain ⟨s,hs⟩:∃ s,L[p]? = some s:=⟨_,gE hp⟩;obtain ⟨t,ht⟩:∃ t,L[q]? = some t:=⟨_,gE hq⟩
 have e:B4 L p q=if s=t then decide (p < q) else ye s t:=by
  simp [B4,List.getD_eq_getElem?_getD,hs,ht]
 refine Mq (s:=true) (P:=prog) tt aaP 5000 50 [.tmp 6] func126 rfl ntmps126 rfl (nL rfl) (fun _ _ _ _=>?_);refine dI ?_;refine iX (ee hi) ?_;refine iX (ee hj) ?_;refine dI ?_;refine iX (fW hs) ?_;refine iX (fW ht) ?_;refine br ?_ ?_<;>intro h
 ·have aT:s≠t:=sU h;refine dI ?_;refine iX (fW hs) ?_;refine iX (fW ht) ?_;refine (congrArg (fun b=>DV.v (.bool b)) ?_:_=_);rw [e,if_neg aT];rfl
 ·have aK:s=t:=sU h;refine (congrArg (fun b=>DV.v (.bool b)) ?_:_=_);rw [e,if_pos aK];simp
end Go.Proofs.YtffhgcbfpidfiaaGreat
