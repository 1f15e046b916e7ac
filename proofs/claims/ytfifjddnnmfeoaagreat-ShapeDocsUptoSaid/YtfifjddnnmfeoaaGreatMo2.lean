/- Part 2 of the proof: The evaluator 'go' is sound: the end of a call, the theorem; contracts; rules for branches, calls, loops; Rules for the evaluator: what is known made less, loops; A region that draws its order: where the operations with an effect are ordered among themselves, and what writes waits for all that reads, one run in the order of the text serves every order; The evaluator at regions that draw their order: one run in the order of the text; what is read is what was known at the region's beginning; A region that draws its order, in which two operations with an effect are not ordered: the run in either order of these two serves every order; Rules for the evaluator: a call that is handed the caller's own objects, to read them; Rules for the evaluator: objects that are written no more are frozen, ahead of a loop; Rules for the evaluator: a call that is handed one of the caller's objects, to write it; The table of this program's types, by which the evaluator goes; The program's functions are entered; The data of the document's types, plain, and as the evaluator has them; Names: the program's and the reference's functions say the same of a text; sort.Search; the program's table of texts: Find; The library's sort.Slice, laid at this program by the kit's tool (lay-plain; wip/tools/lay.sh); The order of the table; the closure handed to sort.Slice. No condition. -/
import Derived.Test.YtfifjddnnmfeoaaGreatProg
import Derived.Shelf.GgSortFunc.Whole
import Derived.Shelf.GgSortFunc.Tiny
import Derived.Test.YtfifjddnnmfeoaaGreatMo1
set_option linter.all false
namespace Go.Proofs.YtfifjddnnmfeoaaGreat
namespace Dv
open Go Go.RowKit
structure KI (E E':En) (bx:List (List DV)) (N:Nat):Prop where
 c:∀ a v,E.c a=some v->E'.c a=some v
 fz:∀ (i:Nat) cs,N<=i->bx[i]? = some cs->∃ b arr,E.β[i]? = some b/\RvC E cs arr/\∀ (j:Nat) u,arr[j]? = some u->E'.c ⟨b,j,none⟩=some u
theorem KI.cl {E E':En} {bx:List (List DV)} {N:Nat} (h:KI E E' bx N):KI E E'.cl bx N:=⟨h.c,h.fz⟩
structure I2 (E E':En) (n0 m0:Nat):Prop where
 β:∀ (i:Nat) b,i < n0->E.β[i]? = some b->E'.β[i]? = some b
 tk:∀ k,k < m0->E'.tk[k]? = E.tk[k]? /\ E'.τ[k]? = E.τ[k]?
theorem I2.zero (E E':En):I2 E E' 0 0:=⟨fun _ _ h=>absurd h (Nat.not_lt_zero _),fun _ h=>absurd h (Nat.not_lt_zero _)⟩
theorem Ext.Pu (E:En):Ext E.cl E:=⟨fun _ _ h=>h,fun j b hj=>by simp [En.cl] at hj,fun k q hk=>by simp [En.cl] at hk⟩
theorem BN {E E':En} (hm:∀ e b o es,RvEs E.cl e b o es->RvEs E'.cl e b o es):∀ {l:List DV} {arr:List Value},(∀ x∈l,(∃ y,x = .v y)∨∃ e' xe,x = .sl e' xe none)->RvL E l arr->RvL E' l arr
 | [],arr,_,h=>by simp only [RvL] at h ⊢;exact h
 | d :: r,arr,hs,h=>by
  simp only [RvL] at h ⊢;obtain ⟨v,s,rfl,h1,h2⟩:=h;refine ⟨v,s,rfl,?_,BN hm (fun x hx=>hs x (List.mem_cons_of_mem _ hx)) h2⟩;rcases hs d (by simp) with ⟨y,rfl⟩ | ⟨e',xe,rfl⟩
  ·unfold Rv at h1 ⊢;exact h1
  ·unfold Rv at h1 ⊢;obtain ⟨b,n,cap,h3,h4,h5,_⟩:=h1;exact ⟨b,n,cap,h3,h4,fun hn=>⟨(h5 hn).1,hm _ _ _ _ (h5 hn).2⟩,fun k hk=>by cases hk⟩
theorem CcL.length {bx:List (List DV)} {N n0 m0:Nat}:∀ {l' l:List DV},CcL bx N n0 m0 l' l->l'.length=l.length
 | [],l,h=>by simp only [CcL] at h;subst h;rfl
 | d' :: r',l,h=>by
  simp only [CcL] at h;obtain ⟨d,r,rfl,_,h2⟩:=h;simp [CcL.length h2]
theorem CcE.length {bx:List (List DV)} {N:Nat}:∀ {l' l:List (List DV)},CcE bx N l' l->l'.length=l.length
 | [],l,h=>by simp only [CcE] at h;subst h;rfl
 | d' :: r',l,h=>by
  simp only [CcE] at h;obtain ⟨d,r,rfl,_,h2⟩:=h;simp [CcE.length h2]
mutual
theorem Cc.sound {bx:List (List DV)} {N:Nat} {E:En}:∀ {d':DV} {E':En} {n0 m0:Nat} {d:DV} {v:Value},KI E E' bx N->I2 E E' n0 m0->Cc bx N n0 m0 d' d->Rv E d v->Rv E' d' v
 | .v y,E',n0,m0,d,v,hf,hl,h,hv=>by
  simp only [Cc] at h;subst h;unfold Rv at hv ⊢;exact hv
 | .ud,E',n0,m0,d,v,hf,hl,h,hv=>by
  simp only [Cc] at h;subst h;unfold Rv at hv ⊢;exact hv
 | .agg l',E',n0,m0,d,v,hf,hl,h,hv=>by
  simp only [Cc] at h;obtain ⟨l,rfl,h⟩:=h;unfold Rv at hv ⊢;obtain ⟨vs,h1,h2,h3⟩:=hv;exact ⟨vs,h1,CcL.sound hf hl h h2,h3⟩
 | .tup l',E',n0,m0,d,v,hf,hl,h,hv=>by
  simp only [Cc] at h;obtain ⟨l,rfl,h⟩:=h;unfold Rv at hv ⊢;obtain ⟨vs,h1,h2⟩:=hv;exact ⟨vs,h1,CcL.sound hf hl h h2⟩
 | .sl e es tk,E',n0,m0,d,v,hf,hl,h,hv=>by
  have hm:∀ b o,RvEs E.cl e b o es->RvEs E'.cl e b o es:=fun b o hr=>RvEs.mono (Ext.G9 hf.c) hr
  cases tk with
  | none=>
   simp only [Cc] at h;rcases h with ⟨rfl,rfl⟩ | ⟨bW,rfl⟩ | ⟨i,off,c,cs,rfl,hi,ct,Le,kj,El⟩ | ⟨Z9,bW,rfl,h⟩
   ·have:=bd hv;subst this;unfold Rv;exact ⟨none,0,0,rfl,⟨rfl,Nat.le_refl _⟩,fun hn=>(hn rfl).elim,fun k hk=>by cases hk⟩
   ·unfold Rv at hv ⊢;obtain ⟨b,n,cap,h1,h2,h3,_⟩:=hv;exact ⟨b,n,cap,h1,h2,fun hn=>⟨(h3 hn).1,hm _ _ (h3 hn).2⟩,fun k hk=>by cases hk⟩
   ·obtain ⟨b,arr,hb,hc,hmm⟩:=hf.fz i cs hi ct;unfold Rv at hv ⊢;obtain ⟨b',ad,dS,Vm,rfl,hca⟩:=hv;rw [hb] at dS;simp only [oI] at dS;subst dS;refine ⟨ad,es.length,c,rfl,⟨rfl,Vm⟩,fun hn=>?_,fun k hk=>by cases hk⟩;have ki:0 < es.length:=List.length_pos_iff.2 hn;have Wl:=hca (by omega);subst Wl;refine ⟨rfl,?_⟩;have h1:=(hc.drop off).take (es.length * e);rw [<- Le] at h1;refine rvEs_flat ⟨BN (E':=E'.cl) (fun e b o es hr=>(RvEs.mono (Ext.G9 hf.c) hr:RvEs E'.cl e b o es)) El h1.1,h1.2⟩ kj fun j u hj=>?_;rw [List.getElem?_take] at hj;split at hj
    ·rw [List.getElem?_drop] at hj;exact hmm (off + j) u hj
    ·cases hj
   ·have hlen:=CcE.length h;have hs:=fun b o=>CcE.sound (e:=e) (b:=b) (o:=o) hf h;unfold Rv at hv ⊢;obtain ⟨b,n,cap,h1,h2,h3,_⟩:=hv;refine ⟨b,n,cap,h1,by omega,fun hn=>?_,fun k hk=>by cases hk⟩;have jS:Z9 ≠ []:=fun hc=>hn (List.eq_nil_of_length_eq_zero (by rw [hlen,hc];rfl));exact ⟨(h3 jS).1,hs _ _ (h3 jS).2⟩
  | some k=>
   simp only [Cc] at h;obtain ⟨hk,rfl⟩:=h;unfold Rv at hv ⊢;obtain ⟨b,n,cap,h1,h2,h3,h4⟩:=hv;refine ⟨b,n,cap,h1,h2,fun hn=>⟨(h3 hn).1,hm _ _ (h3 hn).2⟩,fun k' gm=>?_⟩;cases gm;obtain ⟨e1,e2⟩:=hl.tk k hk;obtain ⟨q,h5,h6,h7⟩:=h4 k rfl;exact ⟨q,by rw [e1];exact h5,h6,fun hh=>by rw [e2];exact h7 hh⟩
 | .pt cs' o,E',n0,m0,d,v,hf,hl,h,hv=>by
  simp only [Cc] at h;rcases h with rfl | ⟨i,cs,rfl,hi,ct,h⟩
  ·unfold Rv at hv ⊢;obtain ⟨b,p,h1,h2⟩:=hv;exact ⟨b,p,h1,RvAt.mono (Ext.G9 hf.c) h2⟩
  ·obtain ⟨b,arr,hb,hc,hm⟩:=hf.fz i cs hi ct;unfold Rv at hv ⊢;obtain ⟨b',dS,rfl⟩:=hv;rw [hb] at dS;simp only [oI] at dS;subst dS;refine ⟨b,0,by simp,?_⟩;have:=CcL.sound hf.cl (I2.zero E E'.cl) h hc.1;exact zG ⟨this,hc.2⟩ fun j u hj=>by rw [Nat.zero_add];exact hm j u hj
 | .loc i o,E',n0,m0,d,v,hf,hl,h,hv=>by
  simp only [Cc] at h;obtain ⟨hi,rfl⟩:=h;unfold Rv at hv ⊢;obtain ⟨b,hb,h1⟩:=hv;exact ⟨b,hl.β i b hi hb,h1⟩
 | .el i o,E',n0,m0,d,v,hf,hl,h,hv=>by
  simp only [Cc] at h;obtain ⟨hi,rfl⟩:=h;unfold Rv at hv ⊢;obtain ⟨b,hb,h1⟩:=hv;exact ⟨b,hl.β i b hi hb,h1⟩
 | .ms i e o l c,E',n0,m0,d,v,hf,hl,h,hv=>by
  simp only [Cc] at h;obtain ⟨hi,rfl⟩:=h;unfold Rv at hv ⊢;obtain ⟨b,ad,hb,h1⟩:=hv;exact ⟨b,ad,hl.β i b hi hb,h1⟩
 | .fn f a' b',E',n0,m0,d,v,hf,hl,h,hv=>by
  simp only [Cc] at h;obtain ⟨a,b,rfl,ha,hb⟩:=h;unfold Rv at hv ⊢;obtain ⟨l,r,h1,h2,h3⟩:=hv;exact ⟨l,r,h1,CcL.sound hf hl ha h2,CcL.sound hf hl hb h3⟩
 | .sg t x',E',n0,m0,d,v,hf,hl,h,hv=>by
  simp only [Cc] at h;obtain ⟨x,rfl,hx⟩:=h;unfold Rv at hv ⊢;obtain ⟨z,h1,h2⟩:=hv;exact ⟨z,h1,Cc.sound hf hl hx h2⟩
theorem CcL.sound {bx:List (List DV)} {N:Nat} {E:En}:∀ {l':List DV} {E':En} {n0 m0:Nat} {l:List DV} {vs:List Value},KI E E' bx N->I2 E E' n0 m0->CcL bx N n0 m0 l' l->RvL E l vs->RvL E' l' vs
 | [],E',n0,m0,l,vs,hf,hl,h,hv=>by
  simp only [CcL] at h;subst h;simp only [RvL] at hv ⊢;exact hv
 | d' :: r',E',n0,m0,l,vs,hf,hl,h,hv=>by
  simp only [CcL] at h;obtain ⟨d,r,rfl,h1,h2⟩:=h;simp only [RvL] at hv ⊢;obtain ⟨v,s,h3,h4,h5⟩:=hv;exact ⟨v,s,h3,Cc.sound hf hl h1 h4,CcL.sound hf hl h2 h5⟩
theorem CcA.sound {bx:List (List DV)} {N:Nat} {E:En}:∀ {l':List DV} {E':En} {l:List DV} {b p:Nat},KI E E' bx N->CcL bx N 0 0 l' l->RvAt E.cl b p l->RvAt E'.cl b p l'
 | [],E',l,b,p,hf,h,hv=>by simp only [RvAt]
 | d' :: r',E',l,b,p,hf,h,hv=>by
  simp only [CcL] at h;obtain ⟨d,r,rfl,h1,h2⟩:=h;simp only [RvAt] at hv ⊢;obtain ⟨⟨v,h3,h4,h5⟩,h6⟩:=hv;exact ⟨⟨v,hf.c _ _ h3,h4,Cc.sound hf.cl (I2.zero E E'.cl) h1 (Rv.mono (Ext.Pu E) h5)⟩,CcA.sound hf h2 h6⟩
theorem CcE.sound {bx:List (List DV)} {N:Nat} {E:En}:∀ {l':List (List DV)} {E':En} {l:List (List DV)} {e b o:Nat},KI E E' bx N->CcE bx N l' l->RvEs E.cl e b o l->RvEs E'.cl e b o l'
 | [],E',l,e,b,o,hf,h,hv=>by simp only [RvEs]
 | a' :: r',E',l,e,b,o,hf,h,hv=>by
  simp only [CcE] at h;obtain ⟨a,r,rfl,h1,h2⟩:=h;simp only [RvEs] at hv ⊢;obtain ⟨h3,h4,h5⟩:=hv;refine ⟨?_,?_,CcE.sound hf h2 h5⟩
  ·rcases h1 with rfl | h1
   ·exact h3
   ·rw [CcL.length h1];exact h3
  ·rcases h1 with rfl | h1
   ·exact RvAt.mono (Ext.G9 hf.c) h4
   ·exact CcA.sound hf h1 h4
end
theorem Q5 {E:En} {e:Nat} {es xe:List (List DV)} {tk:Option Nat} {v:Value} (h:CcE [] 0 xe es) (hv:Rv E (.sl e es tk) v):Rv E (.sl e xe tk) v:=by
 have hlen:=CcE.length h;have hs:=fun b o=>CcE.sound (E:=E) (E':=E) (bx:=[]) (N:=0) (e:=e) (b:=b) (o:=o) ⟨fun _ _ h=>h,fun i cs _ hi=>by simp at hi⟩ h;unfold Rv at hv ⊢;obtain ⟨b,n,cap,h1,h2,h3,h4⟩:=hv;refine ⟨b,n,cap,h1,by omega,fun hn=>?_,h4⟩;have jS:es ≠ []:=fun hc=>hn (List.eq_nil_of_length_eq_zero (by rw [hlen,hc];rfl));exact ⟨(h3 jS).1,hs _ _ (h3 jS).2⟩
theorem ll.get {bx:List (List DV)} {N n0 m0:Nat}:∀ {l' l:List (List DV)},ll bx N n0 m0 l' l->l'.length=l.length/\∀ (i:Nat) cs',l'[i]? = some cs' -> ∃ cs,l[i]? = some cs/\CcL bx N n0 m0 cs' cs
 | [],l,h=>by simp only [ll] at h;subst h;exact ⟨rfl,by simp⟩
 | a' :: r',l,h=>by
  simp only [ll] at h;obtain ⟨a,r,rfl,h1,h2⟩:=h;obtain ⟨h3,h4⟩:=ll.get h2;refine ⟨by simp [h3],fun i cs' hi=>?_⟩
  cases i with
  | zero=>simp only [List.getElem?_cons_zero,oI] at hi;subst hi;exact ⟨a,rfl,h1⟩
  | succ i=>simp only [List.getElem?_cons_succ] at hi ⊢;exact h4 i cs' hi
open Classical in
noncomputable def qY (E:En) (n:Nat) (w:World):Addr->Option Value:=
 fun a=>if ∃ i:Nat,n<=i/\E.β[i]? = some a.block then w.cell? a else E.c a
section
variable {X:Ctx} {E:En} {st:St} {a:Act} {w:World}
theorem ee {n:Nat} {x:Addr} {v:Value} (h:qY E n w x=some v):((∃ i:Nat,n<=i/\E.β[i]? = some x.block)/\w.cell? x=some v)∨E.c x=some v:=by
 unfold qY at h;split at h
 ·rename_i hc;exact .inl ⟨hc,h⟩
 ·exact .inr h
theorem ly {bx:List (List DV)} (h:Env E bx w) {n:Nat} {x:Addr} {v:Value} (hx:E.c x=some v):qY E n w x=some v:=by
 unfold qY;split
 ·exact h.sub x v hx
 ·exact hx
theorem zN (h:Rel X E st a w) {d d':DV} {os:List (List DV)} {v:Value} (hv:Rv E d v) (M:Nat) (hM:(X.fr=false/\M=X.m0)∨(X.fr=true/\M=st.tk.length)) (hd:Cc st.bx X.n0 X.n0 M d' d) (xx:ll st.bx X.n0 X.n0 M os (st.bx.take X.n0)) (hΦ:X.Φ d' os (st.tk.take M)):BC X.still X.E0 X.w0 X.Φ v w X.fr:=by
 obtain ⟨r,Pv,hβl⟩:=h.nw.β;have gk:E.β.take X.n0=X.E0.β:=by rw [Pv,<- X.jS];simp
 have iR:∀ (i:Nat) b,i < X.n0->E.β[i]? = some b->X.E0.β[i]? = some b:=fun i b hi hb=>by
  rw [<- gk,List.getElem?_take,if_pos hi];exact hb
 have dV:∀ (i:Nat) b,X.n0<=i->E.β[i]? = some b->b∈r:=fun i b hi hb=>by
  rw [Pv,List.getElem?_append_right (by rw [X.jS];exact hi)] at hb;exact mG hb
 have S4:∀ b,b∈X.E0.β->b∈r->False:=fun b h1 h2=>by
  have:=h.env.inj;rw [Pv] at this;exact (List.nodup_append.1 this).2.2 b h1 b h2 rfl
 have hE0l:X.E0.τ.length=X.m0:=by rw [h.nw.l0,X.jX]
 have hEt:X.m0<=E.tk.length:=by
  rcases Nat.lt_or_ge E.tk.length X.m0 with h1 | h1
  ·have hk:E.tk.length < X.E0.tk.length:=by rw [X.jX];exact h1
   have gm:E.tk.length < X.E0.τ.length:=by rw [h.nw.l0];exact hk
   obtain ⟨q',y',h2,_⟩:=h.nw.tk E.tk.length _ _ (gE hk) (gE gm);have:=(gS h2).1;omega
  ·exact h1
 have hMm:X.m0<=M/\M<=E.tk.length:=by
  rcases hM with ⟨_,rfl⟩ | ⟨_,rfl⟩
  ·exact ⟨Nat.le_refl _,hEt⟩
  ·rw [<- h.tk];exact ⟨hEt,Nat.le_refl _⟩
 have Vr:tkL X.fr (E.tk.take M).length X.E0.tk.length:=by
  rw [List.length_take];rcases hM with ⟨hf,rfl⟩ | ⟨hf,rfl⟩
  ·rw [hf];show min _ _=_;rw [X.jX];omega
  ·rw [hf];show _<=min _ _;rw [X.jX];omega
 let E':En:=⟨qY E X.n0 w,X.E0.β,E.tk.take M,E.τ.take M⟩
 have Lf:KI E E' st.bx X.n0:={
  c:=fun x u hx=>ly h.env hx
  fz:=fun i cs hi ct=>by
   obtain ⟨b,ty,arr,hb,hw,hc⟩:=h.env.eu i cs ct;refine ⟨b,arr,hb,hc,fun j u hj=>?_⟩;show qY E X.n0 w ⟨b,j,none⟩=some u;unfold qY;rw [if_pos ⟨i,hi,hb⟩,ch hw]
   simpa using hj }
 have xz:I2 E E' X.n0 M:={
  β:=iR
  tk:=fun k hk=>⟨by show (E.tk.take M)[k]? = _;rw [List.getElem?_take,if_pos hk],by show (E.τ.take M)[k]? = _;rw [List.getElem?_take,if_pos hk]⟩ }
 obtain ⟨ja,Wr⟩:=xx.get;refine ⟨h.fr,h.sh,d',os,E',?_,rfl,Vr,?_,hd.sound Lf xz hv,by show X.Φ d' os (E.tk.take M);rw [h.tk];exact hΦ⟩
 ·exact {
   len:=by
    show X.E0.β.length=os.length;rw [ja,X.jS,List.length_take]
    have:X.n0<=st.bx.length:=by
     rw [<- h.env.len,Pv,List.length_append,X.jS];omega
    omega
   tl:=by simp only [E',List.length_take];rw [h.env.tl]
   eu:=fun i cs' hi=>by
    obtain ⟨cs,ct,n8⟩:=Wr i cs' hi;rw [List.getElem?_take] at ct;split at ct
    ·rename_i ap;obtain ⟨b,ty,arr,hb,hw,hc⟩:=h.env.eu i cs ct;exact ⟨b,ty,arr,iR i b ap hb,hw,CcL.sound Lf xz n8 hc.1,hc.2⟩
    ·cases ct
   inj:=by rw [<- gk];exact h.env.inj.sublist (List.take_sublist _ _)
   sub:=fun x u hx=>by
    rcases ee hx with ⟨_,h1⟩ | h1
    ·exact h1
    ·exact h.env.sub x u h1
   pc:=fun x u hx hm=>by
    rcases ee hx with ⟨⟨i,hi,hb⟩,_⟩ | h1
    ·exact S4 _ hm (dV i _ hi hb)
    ·refine h.env.pc x u h1 ?_;rw [Pv];exact List.mem_append.2 (.inl hm)
   cI:=fun k q y hq hy=>by
    simp only [E',List.getElem?_take] at hq hy;split at hq
    ·rename_i hk;rw [if_pos hk] at hy;rcases h.env.cI k q y hq hy with h1 | ⟨g,cap,cur,rfl,h1,h2,h3,h4,h5,h6⟩
     ·exact .inl h1
     ·refine .inr ⟨g,cap,cur,rfl,h1,⟨h2.1,h2.2.mono fun _ _ hx=>ly h.env hx⟩,h3,h4,fun hm=>h5 (by rw [Pv];exact List.mem_append.2 (.inl hm)),fun x u hx hg=>?_⟩;rcases ee hx with ⟨⟨i,hi,hb⟩,_⟩ | h7
      ·rw [hg] at hb;exact (h5 (mG hb)).elim
      ·exact h6 x u h7 hg
    ·cases hq
   iX:=fun k k' y y' g Bo hy gp=>by
    simp only [E',List.getElem?_take] at hy gp;split at hy
    ·split at gp
     ·exact h.env.iX k k' y y' g Bo hy gp
     ·cases gp
    ·cases hy }
 ·exact {
   c:=fun x u hx=>ly h.env (h.nw.c x u hx)
   cn:=fun x u hx=>by
    rcases ee hx with ⟨⟨i,hi,hb⟩,_⟩ | h1
    ·exact .inr (.inl (hβl _ (dV i _ hi hb)))
    ·exact h.nw.cn x u h1
   β:=⟨[],by simp [E'],by simp⟩
   tk:=fun k q y hq hy=>by
    obtain ⟨q',y',h1,h2,h3⟩:=h.nw.tk k q y hq hy;have hk:k < X.m0:=by rw [<- X.jX];exact (gS hq).1
    exact ⟨q',y',by show (E.tk.take M)[k]? = _;rw [List.getElem?_take,if_pos (by omega)];exact h1,by show (E.τ.take M)[k]? = _;rw [List.getElem?_take,if_pos (by omega)];exact h2,h3⟩
   tn:=fun k y g hk hy hg=>by
    simp only [E',List.getElem?_take] at hy;split at hy
    ·exact h.nw.tn k y g hk hy hg
    ·cases hy
   l0:=h.nw.l0 }
def resOf (tmps:Array Value):ResultVar->Sem Value
 | .tmp t=>pure (tmps.getD t undef)
 | .cell x t=>do loadVar t (<- asAddr (tmps.getD x undef))
theorem EG (fn:Func) (tmps:Array Value):results fn tmps=(do let vs <- fn.results.mapM (resOf tmps);pure (if h:vs.size=1 then vs[0] else .tuple vs)):=by
 unfold results;congr 2
theorem EH (h:Rel X E st a w) {r:ResultVar} {d:DV} (hr:res1 X.T st r=some d):∃ v,Rv E d v/\(resOf a.tmps r).run X.P w = .ok v w:=by
 cases r with
 | tmp t=>
  simp only [res1] at hr;split at hr
  ·rename_i x hg;simp only [oI] at hr;subst hr;obtain ⟨v,h1,h2⟩:=(h.tm t _ hg).1 (bc _);exact ⟨v,h2,by simp [resOf,Array.getD_eq_getD_getElem?,h1]⟩
  ·cases hr
 | cell x t=>
  simp only [res1] at hr;split at hr
  ·rename_i i off hg;split at hr
   ·rename_i cs ct;obtain ⟨v,h1,h2⟩:=(h.tm x _ hg).1 (bc _);unfold Rv at h2;obtain ⟨b,hb,rfl⟩:=h2;obtain ⟨b',Ey,arr,dS,hw,hc⟩:=h.env.eu i cs ct;rw [hb] at dS;simp only [oI] at dS;subst dS;obtain ⟨v,hv,hl⟩:=lm X.hT hc (b:=b) (p:=0) hr;have hl:=hl w fun j u hj=>by rw [ch hw];simpa using hj
    rw [Nat.zero_add] at hl;exact ⟨v,hv,by simp only [resOf,Array.getD_eq_getD_getElem?,h1,Option.getD_some,asAddr,Sem.run_bind,Sem.run_pure,Result.andThen_ok,hl]⟩
   ·cases hr
  ·cases hr
theorem lz (h:Rel X E st a w):∀ {rs:List ResultVar} {ds:List DV},resD X.T st rs=some ds->∃ vs,RvL E ds vs/\(rs.mapM (resOf a.tmps)).run X.P w = .ok vs w
 | [],ds,hr=>by
  simp only [resD,oI] at hr;subst hr;exact ⟨[],cj E,rfl⟩
 | r :: rs,ds,hr=>by
  simp only [resD] at hr;split at hr
  ·rename_i d l hd hl;simp only [oI] at hr;subst hr;obtain ⟨v,hv,h1⟩:=EH h hd;obtain ⟨vs,xy,h2⟩:=lz h hl;refine ⟨v :: vs,rvL_cons hv xy,?_⟩;simp only [List.mapM_cons,Sem.run_bind,h1,Result.andThen_ok,h2,Sem.run_pure]
  ·cases hr
theorem oC (h:Rel X E st a w) {d:DV} {v:Value} (hv:Rv E d v) (hf:finD X st d):BC X.still X.E0 X.w0 X.Φ v w X.fr:=by
 unfold finD at hf;split at hf
 ·rename_i hfr;obtain ⟨d',os,hd,xx,hΦ⟩:=hf;exact zN h hv st.tk.length (.inr ⟨hfr,rfl⟩) hd xx (by rw [List.take_length];exact hΦ)
 ·rename_i hfr;split at hf
  ·rename_i hn hm
   have key:∀ d',Cc st.bx 0 0 0 d' d->X.Φ d' [] []->BC X.still X.E0 X.w0 X.Φ v w X.fr:=fun d' hd hΦ=>
    zN h hv (d':=d') (os:=[]) X.m0 (.inl ⟨hfr,rfl⟩) (by rw [hn,hm];exact hd) (by rw [hn];simp [ll]) (by rw [hm];exact hΦ)
   split at hf
   ·rename_i x;exact key (.v x) (by simp only [Cc]) hf
   ·obtain ⟨d',hd,hΦ⟩:=hf;exact key d' hd hΦ
  ·obtain ⟨d',os,hd,xx,hΦ⟩:=hf;exact zN h hv X.m0 (.inl ⟨hfr,rfl⟩) hd xx hΦ
theorem x8 (h:Rel X E st a w) (hf:fin X st):kq X [] .ret a w:=by
 have Bq:X.fn.results=X.rs.toArray:=by rw [<- X.zC]
 simp only [kq];refine ⟨h.df,?_⟩
 have hbt:nW X.bt X.E0.β w:=fun p hp b hb=>by
  obtain ⟨r,hr,_⟩:=h.nw.β;exact h.bt p hp b (by rw [hr,List.getElem?_append_left (gS hb).1];exact hb)
 unfold fin at hf
 have Lg:∀ (ds:List DV) (vs:List Value),(X.rs.mapM (resOf a.tmps)).run X.P w = .ok vs w->(results X.fn a.tmps).run X.P w = .ok (if h:vs.toArray.size=1 then vs.toArray[0] else .tuple vs.toArray) w:=by
  intro ds vs hv;rw [EG,Bq];simp only [List.mapM_toArray,Sem.run_bind,Sem.run_map,hv];rfl
 split at hf
 ·rename_i hr;obtain ⟨vs,xy,h1⟩:=lz h hr;simp only [RvL] at xy;subst xy;exact ⟨_,Lg [] [] h1,oC h (v:=.tuple #[]) (by unfold Rv;exact ⟨[],rfl,cj E⟩) hf,hbt⟩
 ·rename_i d hr;obtain ⟨vs,xy,h1⟩:=lz h hr;have hl:=xy.length;simp only [RvL] at xy;obtain ⟨v,s,rfl,hv,rfl⟩:=xy;exact ⟨_,Lg [d] [v] h1,oC h (v:=v) hv hf,hbt⟩
 ·rename_i d e l hr;obtain ⟨vs,xy,h1⟩:=lz h hr;have hl:=xy.length;have aN:¬ vs.toArray.size=1:=by simp at hl ⊢;omega
  have h2:=Lg [] vs h1;rw [dif_neg aN] at h2;exact ⟨_,h2,oC h (v:=.tuple vs.toArray) (by unfold Rv;exact ⟨vs,rfl,xy⟩) hf,hbt⟩
 ·exact hf.elim
theorem uv:∀ (k:List It) (a:Act) (w:World),kq X [] .ret a w->kq X k .ret a w
 | [],_,_,h=>h
 | .code _ :: k,a,w,h=>uv k a w h
 | .ops _ _ :: k,a,w,h=>uv k a w h
 | .Ei _ :: k,a,w,h=>uv k a w h
 | .Ej _ :: k,a,w,h=>uv k a w h
theorem pu {id:Nat}:∀ (k k':List It) (a:Act) (w:World),dropBlk id k=some k' -> kq X k' .normal a w->kq X k (.exit id) a w
 | [],k',a,w,hd,_=>by simp [dropBlk] at hd
 | .code _ :: k,k',a,w,hd,h=>by simp only [dropBlk] at hd;exact pu k k' a w hd h
 | .ops _ _ :: k,k',a,w,hd,h=>by simp only [dropBlk] at hd;exact pu k k' a w hd h
 | .Ej _ :: k,k',a,w,hd,h=>by simp only [dropBlk] at hd;exact pu k k' a w hd h
 | .Ei i :: k,k',a,w,hd,h=>by
  simp only [dropBlk] at hd;split at hd
  ·rename_i hi;have hi:id=i:=by simpa using hi
   simp only [oI] at hd;subst hd;simp only [kq];rw [if_pos hi];exact h
  ·rename_i hi
   have hi:id≠i:=by
    rintro rfl;rw [Nat.beq_refl] at hi;cases hi
   simp only [kq];rw [if_neg hi];exact pu k k' a w hd h
theorem I3 {P:Program} {o:Oper} {a:Act} {K K':Act->World->Prop} {Q Q':Exit->Act->World->Prop} (hK:∀ a w,K a w->K' a w) (hQ:∀ e a w,Q e a w->Q' e a w)
  {r:Result Next} (h:o.upon P a K Q r):o.upon P a K' Q' r:=by
 unfold Oper.upon at *;split<;>simp_all
 ·refine h.mono ?_;intro e w' hq
  cases e with
  | returned v=>exact hK _ _ hq
  | panicked c=>exact hQ _ _ _ hq
  | outgrown=>obtain ⟨a,w,hq⟩:=hq;exact ⟨a,w,hQ _ _ _ hq⟩
 ·exact h.mono fun v w' hq=>hK _ _ hq
theorem BO {P:Program} {o:Oper} {a:Act} {K K':Act->World->Prop} {Q Q':Exit->Act->World->Prop} {w:World} (hK:∀ a w,K a w->K' a w) (hQ:∀ e a w,Q e a w->Q' e a w)
  (h:o.wp P a w K Q):o.wp P a w K' Q':=I3 hK hQ h
theorem eN (c:Code) (k:List It) (a:Act) (w:World):kq X (.code c :: k) .normal a w=c.wp X.P (kq X k) a w:=rfl
theorem Pw (c:Code) (k:List It):kq X (.code c :: k)=Exit.then (c.wp X.P (kq X k)) (kq X k):=by
 funext e a w;cases e<;>rfl
theorem S5 (id:Nat) (k:List It) (e:Exit) (a:Act) (w:World) (h:kq X (.Ei id :: k) e a w):Exit.inBlock id (kq X k) e a w:=by
 cases e<;>exact h
theorem wanted_spec (h:Rel X E st a w) {all:Array Oper} {o:Oper} {j d:Nat} {want:Bool} {lf:List (Nat × Bool)} {sd:DV} (Px:o.guard=some (j,want)) (Ex:gslot all.toList j=some d) (BP:get st.sl d=some ⟨lf,sd⟩) :
  Region.wanted o (yielded all a.tmps)=true↔Holds a.tmps ((d,want) :: lf):=by
 have S6:yielded all a.tmps j=match a.tmps[d]? with | some (.bool b)=>some b | _=>none:=by
  unfold gslot at Ex;split at Ex
  ·rename_i oj hoj;have hoj':all[j]? = some oj:=by simpa using hoj
   simp only [yielded,hoj',Ex,Option.bind_some]
   cases a.tmps[d]? with
   | none=>rfl
   | some v=>cases v<;>rfl
  ·cases Ex
 have htd:=h.tm d _ BP;simp only [Region.wanted,Px,S6];constructor
 ·intro hw
  have hb:a.tmps[d]? = some (.bool want):=by
   split at hw
   ·rename_i b hb;rw [hb];have:b=want:=by simpa using hw
    rw [this]
   ·simp at hw
  refine jl hb ?_;by_cases hh:Holds a.tmps lf
  ·exact hh
  ·have:=htd.2 hh;rw [hb] at this;simp [undef] at this
 ·intro hh;have:=hh (d,want) (by simp);simp only at this;rw [this];simp
theorem BQ (h:Rel X E st a w) {t:Nat} {b:Bool} (hg:get st.sl t=some ⟨[],.v (.bool b)⟩):a.tmps[t]? = some (.bool b):=by
 obtain ⟨v,h1,h2⟩:=(h.tm t _ hg).1 (bc _);rw [h1,jm h2]
theorem Lh (h:Rel X E st a w) {t:Nat} (hg:get st.sl t=some ⟨[],.ud⟩):a.tmps[t]? = some undef:=by
 obtain ⟨v,h1,h2⟩:=(h.tm t _ hg).1 (bc _);unfold Rv at h2;rw [h1,h2]
theorem uw {G:List (Nat × Bool)} {dst:Option Nat} (bG:okG G dst=true):∀ e,dst=some e->∀ p∈G,p.1≠e:=by
 intro e he p hp dp;rw [he] at bG;have:=(List.all_eq_true.1 bG) p hp;rw [dp] at this;simp at this
theorem go_sound:∀ n,Snd X (go X n)
 | 0=>fun k st hg=>hg.elim
 | n + 1=>by
  have ih:=go_sound n;intro k st hg E a w h
  match k with
  | []=>exact x8 h (by simpa [go] using hg)
  | .Ei id :: k=>exact ih k st (by simpa [go] using hg) E a w h
  | .Ej J :: k=>exact ⟨st,E,h,by simpa [go] using hg⟩
  | .ops all [] :: k=>exact ih k st (by simpa [go] using hg) E a w h
  | .ops all (o :: r) :: k=>
   simp only [go,nr,G8] at hg;split at hg
   ·exact hg.elim
   ·rename_i hd;split at hg
    ·rename_i Px;simp only [kq,wpList,Region.wanted,Px,if_true];split at hg
     ·rename_i s hs;obtain ⟨v,hv,bZ⟩:=gU X.hT h.rl (bc _) hs;exact .inl (ir (bZ w fun _=>rfl) (ih _ _ hg E _ w (aV h hd s v hv)))
     ·exact .inl (BO (fun a w hk=>hk) (fun e a w hq=>hq.elim) (x7 ih hd h hg))
    ·rename_i j want Px;split at hg
     ·exact hg.elim
     ·rename_i d Ex;split at hg
      ·exact hg.elim
      ·rename_i lf sd BP;have pw:=wanted_spec h Px Ex BP;simp only [kq,wpList];split at hg
       ·rename_i s hs;split at hg
        case h_2=>exact hg.elim
        rename_i bG;split
        ·rename_i hw;have hh:=pw.1 hw;obtain ⟨v,hv,bZ⟩:=gU X.hT h.rl hh hs;exact .inl (ir (bZ w fun _=>rfl) (ih _ _ hg E _ w (pk h hd _ s v (uw bG) (fun _=>hv) (fun hn=>(hn hh).elim))))
        ·rename_i hw;have hh:¬ Holds a.tmps ((d,want) :: lf):=fun hh=>hw (pw.2 hh);exact ih _ _ hg E _ w (pk h hd _ s undef (uw bG) (fun hn=>(hh hn).elim) (fun _=>rfl))
       ·split at hg
        ·rename_i b gk;have ht0:=BQ h gk
         cases lf with
         | nil=>
          simp only [lastG] at gk ht0;cases zO:(b == want)
          ·have EI:b = !want:=by cases b<;>cases want<;>simp_all
           have hg:=hg.f zO
           have hn:¬ Region.wanted o (yielded all a.tmps)=true:=by
            intro hw;have:=(pw.1 hw) (d,want) (by simp);simp only at this;rw [ht0] at this;simp only [oI,Value.bool.injEq] at this;rw [this] at zO;simp at zO
           rw [if_neg hn];have hr:=jY (d:=d) (b:=!want) h (by rw [ht0,EI]);exact ih _ _ hg E _ w (aV hr (jZ hd) .ud undef (sj E))
          ·have BR:b=want:=by simpa using zO
           have hg:=hg.t zO;subst BR;have hw:Region.wanted o (yielded all a.tmps)=true:=pw.2 (jl ht0 (bc _));rw [if_pos hw];have hr:=jY (d:=d) (b:=b) h ht0;exact .inl (BO (fun a w hk=>hk) (fun e a w hq=>hq.elim) (x7 ih (jZ hd) hr hg))
         | cons g1 gr=>
          have key:∀ c,a.tmps[(lastG (d,want) (g1 :: gr)).1]? = some (.bool c)->go X n (.ops all (o :: r) :: k) (st.resolve (lastG (d,want) (g1 :: gr)).1 c)->wpList X.P all (kq X k) (o :: r) a w:=
           fun c hc oB=>ih _ _ oB E a w (jY h hc)
          cases zO:(b == (lastG (d,want) (g1 :: gr)).2)
          ·have hg:=hg.f zO;have EI:b = !(lastG (d,want) (g1 :: gr)).2:=by cases b<;>cases h0:(lastG (d,want) (g1 :: gr)).2<;>simp_all
           have:=key _ (by rw [ht0,EI]) hg;simpa [wpList] using this
          ·have hg:=hg.t zO;have BR:b=(lastG (d,want) (g1 :: gr)).2:=by simpa using zO
           have:=key _ (by rw [ht0,BR]) hg;simpa [wpList] using this
        ·rename_i gk
         cases lf with
         | nil=>
          have ht0:=Lh h gk;simp only [lastG] at ht0
          have hn:¬ Region.wanted o (yielded all a.tmps)=true:=by
           intro hw;have:=(pw.1 hw) (d,want) (by simp);simp only at this;rw [ht0] at this;simp [undef] at this
          rw [if_neg hn];exact ih _ _ hg E _ w (aV h hd .ud undef (sj E))
         | cons g1 gr=>exact hg.elim
        ·exact hg.elim
  | .code c :: k=>
   rw [eN]
   cases c with
   | skip=>exact wp_skip (ih k st (by simpa [go] using hg) E a w h)
   | seq x y=>
    have:=ih (.code x :: .code y :: k) st (by simpa [go] using hg) E a w h;rw [eN,Pw] at this;exact wp_seq this
   | block id b=>
    have:=ih (.code b :: .Ei id :: k) st (by simpa [go] using hg) E a w h;rw [eN] at this;exact wp_block (wp_mono this (S5 id k))
   | exit id=>
    simp only [go] at hg;split at hg
    ·rename_i k' hk;exact wp_exit (pu k k' a w hk (ih k' st hg E a w h))
    ·exact hg.elim
   | cond x p q=>
    simp only [go] at hg;split at hg
    ·rename_i b hb;refine wp_cond (t:=b) (by rw [jm (aQ h.rl hb)]) ?_;cases gk:b
     ·exact ih (.code q :: k) st (hg.f gk) E a w h
     ·exact ih (.code p :: k) st (hg.t gk) E a w h
    ·exact hg.elim
   | region id ops d=>
    simp only [go] at hg;cases d
    ·exact wp_region_list (ih (.ops ops ops.toList :: k) st hg E a w h)
    ·exact hg E a w h
   | loop b=>exact (by simpa [go] using hg:si X b k st) E a w h
   | ret=>exact wp_ret (uv k a w (x8 h (by simpa [go] using hg)))
   | _=>simp [go] at hg
theorem BS {fn:Func} (Bq:X.fn=fn) (e:Exit) (a:Act) (w:World) (h:kq X [] e a w):bodyPost X.P fn (fun e w'=>∃ v,e = .returned v/\BC X.still X.E0 X.w0 X.Φ v w' X.fr/\nW X.bt X.E0.β w') e a w:=by
 subst Bq
 cases e with
 | normal=>obtain ⟨h1,v,h2,h3⟩:=h;exact ⟨h1,v,h2,v,rfl,h3⟩
 | ret=>obtain ⟨h1,v,h2,h3⟩:=h;exact ⟨h1,v,h2,v,rfl,h3⟩
 | exit _=>exact h.elim
 | goto _=>exact h.elim
 | panic _=>exact h.elim
 | outgrown=>exact h.elim
end
def Vs (s:Bool) (P:Program) (f:FuncId) (args:List DV) (os:List (List DV)) (cI:List TkE) (Φ:DV->List (List DV)->List TkE->Prop) (fr:Bool:=false):Prop:=
 ∀ (E:En) (w:World) (vs:List Value),Env E os w->E.tk=cI->RvL E args vs->Calls P f vs.toArray w fun e w'=>∃ v,e = .returned v/\BC s E w Φ v w' fr
def Ev (P:Program) (f:FuncId) (args:List DV) (os:List (List DV)) (cI:List TkE) (Φ:DV->List (List DV)->List TkE->Prop):Prop:=Vs false P f args os cI Φ
def EvS (P:Program) (f:FuncId) (args:List DV) (os:List (List DV)) (cI:List TkE) (Φ:DV->List (List DV)->List TkE->Prop):Prop:=Vs true P f args os cI Φ
def EvP (P:Program) (f:FuncId) (args:List DV) (d:DV):Prop:=Ev P f args [] [] fun d' _ _=>d'=d
def argSl:Nat->List DV->List (Nat × Sl)
 | _,[]=>[]
 | i,v :: r=>(i,⟨[],v⟩) :: argSl (i + 1) r
theorem x9:∀ (l:List DV) (i j:Nat) (x:Sl),get (argSl i l) j=some x->∃ v,x=⟨[],v⟩/\i<=j/\l[j - i]? = some v
 | [],_,_,_,h=>by simp [argSl,get] at h
 | v :: r,i,j,x,h=>by
  simp only [argSl,cY] at h;split at h
  ·rename_i tH;simp only [oI] at h;subst h tH;exact ⟨v,rfl,Nat.le_refl _,by simp⟩
  ·rename_i tH;obtain ⟨u,hu,fQ,hg⟩:=x9 r (i + 1) j x h;refine ⟨u,hu,by omega,?_⟩;rw [show j - i=(j - (i + 1)) + 1 by omega];simpa using hg
theorem Nw.refl {E:En} {bx:List (List DV)} {w:World} (h:Env E bx w):Nw E E w where
 c:=fun _ _ h=>h
 cn:=fun _ _ h=>.inl h
 β:=⟨[],by simp,by simp⟩
 tk:=fun k q y hq hy=>⟨q,y,hq,hy,rfl,rfl,.inl ⟨rfl,rfl⟩,.inl rfl⟩
 tn:=fun k y g hk hy=>by
  have:=(gS hy).1;rw [h.tl] at this;omega
 l0:=h.tl
def Ws (s:Bool) (P:Program) (f:FuncId) (args:List DV) (os:List (List DV)) (cI:List TkE) (bt:List (Nat × TypeId)) (Φ:DV->List (List DV)->List TkE->Prop) (fr:Bool:=false):Prop:=
 ∀ (E:En) (w:World) (vs:List Value),Env E os w->E.tk=cI->nW bt E.β w->RvL E args vs->Calls P f vs.toArray w fun e w'=>∃ v,e = .returned v/\BC s E w Φ v w' fr/\nW bt E.β w'
theorem zP {s:Bool} {P:Program} {f:FuncId} {fn:Func} {c:Code} {args:List DV} {os:List (List DV)} {cI:List TkE} {Φ:DV->List (List DV)->List TkE->Prop} (bt:List (Nat × TypeId)) (mu:List Nat) (fr:Bool) (T:TT) (hT:T.ok P=true) (n nt:Nat) (rs:List ResultVar)
  (hf:P.funcs[f]? = some fn) (hb:fn.body=some c) (I4:fn.ntmps=nt) (zC:fn.results.toList=rs) (hlen:args.length<=nt)
  (h:∀ (E:En) (w:World) (hn:E.β.length=os.length) (hm:E.tk.length=cI.length),go ⟨P,T,hT,fn,nt,rs,zC,w,E,os.length,cI.length,hn,hm,s,Φ,bt,mu,fr⟩ n [.code c] ⟨argSl 0 args,os,cI⟩):Ws s P f args os cI bt Φ fr:=by
 intro E w vs hE iH gk hv;have hl:=hv.length;have hg:=h E w hE.len (by rw [iH]);refine calls_of_wp hf hb ?_
 have hs:=go_sound (X:=⟨P,T,hT,fn,nt,rs,zC,w,E,os.length,cI.length,hE.len,by rw [iH],s,Φ,bt,mu,fr⟩) n _ _ hg E
  {tmps:=vs.toArray ++ Array.replicate (fn.ntmps - vs.toArray.size) undef,defers:=[] } w
  {env:=hE
   tk:=iH
   sz:=by simp [I4];omega
   tm:=by
    intro i x hx;obtain ⟨d,rfl,_,hd⟩:=x9 args 0 i x hx;simp only [Nat.sub_zero] at hd;obtain ⟨v,o6,IW⟩:=hv.get hd;rw [Array.getElem?_append_left (by simpa using (gS o6).1)];exact ⟨fun _=>⟨v,by simpa using o6,IW⟩,fun hn=>(hn (bc _)).elim⟩
   df:=rfl
   nw:=Nw.refl hE
   fr:=⟨rfl,rfl,rfl,Nat.le_refl _,fun _ _ _=>rfl⟩
   sh:=fun _=>⟨0,rfl⟩
   bt:=gk }
 exact wp_mono hs (BS rfl)
theorem zQ {s:Bool} {P:Program} {f:FuncId} {fn:Func} {c:Code} {args:List DV} {os:List (List DV)} {cI:List TkE} {Φ:DV->List (List DV)->List TkE->Prop} (bt:List (Nat × TypeId)) (mu:List Nat) (hbt:∀ p∈bt,os.length<=p.1) (fr:Bool) (T:TT) (hT:T.ok P=true) (n nt:Nat) (rs:List ResultVar)
  (hf:P.funcs[f]? = some fn) (hb:fn.body=some c) (I4:fn.ntmps=nt) (zC:fn.results.toList=rs) (hlen:args.length<=nt)
  (h:∀ (E:En) (w:World) (hn:E.β.length=os.length) (hm:E.tk.length=cI.length),go ⟨P,T,hT,fn,nt,rs,zC,w,E,os.length,cI.length,hn,hm,s,Φ,bt,mu,fr⟩ n [.code c] ⟨argSl 0 args,os,cI⟩):Vs s P f args os cI Φ fr:=fun E w vs hE iH hv=>(zP bt mu fr T hT n nt rs hf hb I4 zC hlen h E w vs hE iH (fun p hp b hb=>by
  have h1:=hbt p hp;have h2:=(gS hb).1;have h3:=hE.len
  omega) hv).mono fun _ _ ⟨v,h1,h2,_⟩=>⟨v,h1,h2⟩
theorem zR {s:Bool} {P:Program} {f:FuncId} {fn:Func} {c:Code} {args:List DV} {os:List (List DV)} {cI:List TkE} {Φ:DV->List (List DV)->List TkE->Prop} (bt:List (Nat × TypeId)) (hbt:∀ p∈bt,os.length<=p.1) (T:TT) (hT:T.ok P=true) (n nt:Nat) (rs:List ResultVar)
  (hf:P.funcs[f]? = some fn) (hb:fn.body=some c) (I4:fn.ntmps=nt) (zC:fn.results.toList=rs) (hlen:args.length<=nt)
  (h:∀ (E:En) (w:World) (hn:E.β.length=os.length) (hm:E.tk.length=cI.length),go ⟨P,T,hT,fn,nt,rs,zC,w,E,os.length,cI.length,hn,hm,s,Φ,bt,[],false⟩ n [.code c] ⟨argSl 0 args,os,cI⟩):Vs s P f args os cI Φ:=
 zQ bt [] hbt false T hT n nt rs hf hb I4 zC hlen h
theorem Li {s:Bool} {P:Program} {f:FuncId} {fn:Func} {c:Code} {args:List DV} {os:List (List DV)} {cI:List TkE} {Φ:DV->List (List DV)->List TkE->Prop} (T:TT) (hT:T.ok P=true) (n nt:Nat) (rs:List ResultVar)
  (hf:P.funcs[f]? = some fn) (hb:fn.body=some c) (I4:fn.ntmps=nt) (zC:fn.results.toList=rs) (hlen:args.length<=nt)
  (h:∀ (E:En) (w:World) (hn:E.β.length=os.length) (hm:E.tk.length=cI.length),go ⟨P,T,hT,fn,nt,rs,zC,w,E,os.length,cI.length,hn,hm,s,Φ,[],[],false⟩ n [.code c] ⟨argSl 0 args,os,cI⟩):Vs s P f args os cI Φ:=
 zR [] (fun p hp=>by cases hp) T hT n nt rs hf hb I4 zC hlen h
theorem ev_go {P:Program} {f:FuncId} {fn:Func} {c:Code} {args:List DV} {os:List (List DV)} {cI:List TkE} {Φ:DV->List (List DV)->List TkE->Prop} (T:TT) (hT:T.ok P=true) (n nt:Nat) (rs:List ResultVar)
  (hf:P.funcs[f]? = some fn) (hb:fn.body=some c) (I4:fn.ntmps=nt) (zC:fn.results.toList=rs) (hlen:args.length<=nt)
  (h:∀ (E:En) (w:World) (hn:E.β.length=os.length) (hm:E.tk.length=cI.length),go ⟨P,T,hT,fn,nt,rs,zC,w,E,os.length,cI.length,hn,hm,false,Φ,[],[],false⟩ n [.code c] ⟨argSl 0 args,os,cI⟩):Ev P f args os cI Φ:=
 Li T hT n nt rs hf hb I4 zC hlen h
theorem Ev.mono {P:Program} {f:FuncId} {args:List DV} {os:List (List DV)} {cI:List TkE} {Φ Ψ:DV->List (List DV)->List TkE->Prop} (h:Ev P f args os cI Φ) (hΦ:∀ d o t,Φ d o t->Ψ d o t):Ev P f args os cI Ψ:=by
 intro E w vs h1 h2 h3;refine (h E w vs h1 h2 h3).mono ?_;rintro e w' ⟨v,rfl,h4,hs,d,o,E',h5,h6,h7,h8,h9,pq⟩;exact ⟨v,rfl,h4,hs,d,o,E',h5,h6,h7,h8,h9,hΦ _ _ _ pq⟩
theorem Ev.Wt {P:Program} {f:FuncId} {args:List DV} {os:List (List DV)} {cI:List TkE} {Φ:DV->List (List DV)->List TkE->Prop} {bt:List (Nat × TypeId)} (h:Ev P f args os cI Φ) (hb:bt=[]):Ws false P f args os cI bt Φ:=fun E w vs h1 h2 _ h4=>
 (h E w vs h1 h2 h4).mono fun _ _ ⟨v,h5,h6⟩=>⟨v,h5,h6,.nil hb⟩
theorem br {b:Bool} {A B:Prop} (h1:b=true->A) (h2:b=false->B):@Bool.rec (fun _=>Prop) B A b:=by
 cases b
 ·exact h2 rfl
 ·exact h1 rfl
section
variable {X:Ctx} {st:St} {k:List It} {E:En} {a:Act} {w:World}
theorem I5 (h:Rel X E st a w) (aT:X.still=false) {E2:En} {w':World} (hm:s8 (E.cl).S w w') (he:Env E2 [] w') (hn:Nw E.cl E2 w):Rel X ⟨E2.c,E.β,E.tk,E.τ⟩ st a w':=by
 have hh:∀ i,i < w.heap.size->w'.heap[i]? = w.heap[i]?:=fun i hi=>hm.block i hi (by
  rintro (h1 | ⟨y,h1,_⟩)
  ·simp [En.cl] at h1
  ·simp [En.cl] at h1)
 have dV:∀ x v,E2.c x=some v->E.c x=some v∨w.heap.size<=x.block:=fun x v hx=>by
  rcases hn.cn x v hx with h1 | h1 | ⟨y,h1,_⟩
  ·exact .inl h1
  ·exact .inr h1
  ·simp [En.cl] at h1
 have hx:Ext E ⟨E2.c,E.β,E.tk,E.τ⟩:=⟨hn.c,fun _ _ h=>h,fun _ q h=>⟨q,h,.inl ⟨rfl,rfl⟩⟩⟩;have hk:=h.env.kh hh;refine di h hx ?_ h.tk ?_ (h.fr.cm hm.os hm.tape hm.output hm.size fun i hi=>.inr (hh i hi)) (nX aT) (h.bt.kh fun b hb=>hh b (h.env.aZ hb))
 ·exact {
   len:=h.env.len
   tl:=h.env.tl
   eu:=fun i cs hi=>by
    obtain ⟨b,ty,arr,hb,hw,hc⟩:=hk.eu i cs hi;exact ⟨b,ty,arr,hb,hw,hc.mono hx⟩
   inj:=h.env.inj
   sub:=he.sub
   pc:=fun x v hc ow=>by
    rcases dV x v hc with h1 | h1
    ·exact h.env.pc x v h1 ow
    ·have:=h.env.aZ ow;omega
   cI:=fun k q y hq hy=>by
    rcases hk.cI k q y hq hy with h1 | ⟨g',cap,cur,rfl,h1,h2,h3,h4,h5,h6⟩
    ·exact .inl h1
    ·refine .inr ⟨g',cap,cur,rfl,h1,⟨h2.1,h2.2.mono hn.c⟩,h3,h4,h5,fun x v hc hg=>?_⟩;rcases dV x v hc with h7 | h7
     ·exact h6 x v h7 hg
     ·have:=(iF (h.env.cI k q _ hq hy) (g:=g') rfl).1;omega
   iX:=h.env.iX }
 ·exact {
   c:=fun x v hc=>hn.c x v (h.nw.c x v hc)
   cn:=fun x v hc=>by
    rcases dV x v hc with h1 | h1
    ·exact h.nw.cn x v h1
    ·have:=h.fr.size;exact .inr (.inl (by omega))
   β:=h.nw.β
   tk:=h.nw.tk
   tn:=h.nw.tn
   l0:=h.nw.l0 }
theorem S7 {bx:List (List DV)} (h:Env E bx w):Env E.cl [] w where
 len:=rfl
 tl:=rfl
 eu:=by simp
 inj:=List.nodup_nil
 sub:=h.sub
 pc:=by simp [En.cl]
 cI:=by simp [En.cl]
 iX:=by simp [En.cl]
theorem ss {P:Program} (h:Rel X E st a w) (aT:X.still=false) {f:FuncId} {args bJ:List DV} {vs:List Value} {Φ:DV->List (List DV)->List TkE->Prop} (hc:Ev P f bJ [] [] Φ) (ha:CcL [] 0 0 0 bJ args) (hv:RvL E args vs) :
  Calls P f vs.toArray w fun e w'=>∃ v E' d,e = .returned v/\Rel X E' st a w' /\ Rv E' d v/\Φ d [] []/\s8 E.cl.S w w' /\ Ext E E' /\ E'.β=E.β:=by
 have V7:RvL E.cl bJ vs:=CcL.sound (E:=E) (E':=E.cl) ⟨fun _ _ h=>h,fun i cs _ hi=>by simp at hi⟩ (I2.zero _ _) ha hv;refine (hc E.cl w vs (S7 h.env) rfl V7).mono ?_;rintro e w' ⟨v,rfl,hm,_,d,os,E2,he,hβ,iH,hn,S8,hΦ⟩
 have xx:os=[]:=by
  have:=he.len;rw [hβ] at this;exact List.eq_nil_of_length_eq_zero this.symm
 subst xx;have ht0:E2.tk=[]:=List.eq_nil_of_length_eq_zero iH;refine ⟨v,⟨E2.c,E.β,E.tk,E.τ⟩,d,rfl,I5 h aT hm he hn,?_,by rw [ht0] at hΦ;exact hΦ,hm,⟨hn.c,fun _ _ h=>h,fun _ q h=>⟨q,h,.inl ⟨rfl,rfl⟩⟩⟩,rfl⟩;refine Rv.mono (E:=E2) (E':=⟨E2.c,E.β,E.tk,E.τ⟩) ⟨fun _ _ h=>h,fun i b hb=>?_,fun k q hq=>?_⟩ S8
 ·rw [hβ] at hb;simp [En.cl] at hb
 ·rw [ht0] at hq;simp at hq
theorem bq {f:FuncId} {args bJ:List DV} {d:Nat} (j1:Enters X.P f) (hd:fi X.nt st.sl (some d)=true) {Φ:DV->List (List DV)->List TkE->Prop} (hc:Ev X.P f bJ [] [] Φ) (ha:CcL [] 0 0 0 bJ args)
  (hk:∀ r,Φ r [] []->go X 4000 k ⟨(d,⟨[],r⟩) :: st.sl,st.bx,st.tk⟩) (aT:X.still=false:=by exact rfl):dL X f args (some d) k st:=by
 refine ⟨j1,aT,fun E a w vs h hv=>(ss h aT hc ha hv).mono ?_⟩;rintro e w' ⟨v,E',r,rfl,cf,hr,hΦ,_⟩;exact go_sound 4000 _ _ (hk r hΦ) E' _ w' (aV cf hd r v hr)
theorem call_p {f:FuncId} {args bJ:List DV} {d:Nat} {r:DV} (j1:Enters X.P f) (hc:EvP X.P f bJ r) (ha:CcL [] 0 0 0 bJ args) (hd:fi X.nt st.sl (some d)=true)
  (hk:go X 4000 k ⟨(d,⟨[],r⟩) :: st.sl,st.bx,st.tk⟩) (aT:X.still=false:=by exact rfl):dL X f args (some d) k st:=
 bq j1 hd hc ha (fun _ hr=>hr ▸ hk) aT
def clB (n m:Nat):DV->Bool
 | .v _=>true
 | .ud=>true
 | .sl _ _ none=>true
 | .sl _ _ (some k)=>Nat.blt k m
 | .pt _ _=>true
 | .loc i _=>Nat.blt i n
 | .el i _=>Nat.blt i n
 | .ms i _ _ _ _=>Nat.blt i n
 | .agg l=>clL l
 | .tup l=>clL l
 | .fn _ l r=>clL l && clL r
 | .sg _ x=>clB n m x
where clL:List DV->Bool
 | []=>true
 | d :: r=>clB n m d && clL r
def En.cut (E:En) (n m:Nat):En:=⟨E.c,E.β.take n,E.tk.take m,E.τ.take m⟩
mutual
theorem Rv.cut {n m:Nat} {E:En}:∀ {d:DV} {v:Value},Rv E d v->clB n m d=true->Rv (E.cut n m) d v
 | .v x,v,h,_=>by unfold Rv at h ⊢;exact h
 | .ud,v,h,_=>by unfold Rv at h ⊢;exact h
 | .sl e es none,v,h,_=>by
  unfold Rv at h ⊢;obtain ⟨b,n,cap,h1,h2,h3,_⟩:=h;exact ⟨b,n,cap,h1,h2,h3,fun k hk=>by cases hk⟩
 | .sl e es (some k),v,h,hc=>by
  unfold Rv at h ⊢;obtain ⟨b,n',cap,h1,h2,h3,h4⟩:=h;refine ⟨b,n',cap,h1,h2,h3,fun k' gm=>?_⟩;cases gm;have hk:k < m:=by simpa [clB] using hc
  obtain ⟨q,h5,h6,h7⟩:=h4 k rfl;exact ⟨q,by show (E.tk.take m)[k]? = _;rw [List.getElem?_take,if_pos hk];exact h5,h6,fun hh=>by show (E.τ.take m)[k]? = _;rw [List.getElem?_take,if_pos hk];exact h7 hh⟩
 | .pt cs o,v,h,_=>by unfold Rv at h ⊢;exact h
 | .loc i o,v,h,hc=>by
  unfold Rv at h ⊢;obtain ⟨b,hb,h1⟩:=h;have hi:i < n:=by simpa [clB] using hc
  exact ⟨b,by show (E.β.take n)[i]? = _;rw [List.getElem?_take,if_pos hi];exact hb,h1⟩
 | .el i o,v,h,hc=>by
  unfold Rv at h ⊢;obtain ⟨b,hb,h1⟩:=h;have hi:i < n:=by simpa [clB] using hc
  exact ⟨b,by show (E.β.take n)[i]? = _;rw [List.getElem?_take,if_pos hi];exact hb,h1⟩
 | .ms i e o l c,v,h,hc=>by
  unfold Rv at h ⊢;obtain ⟨b,ad,hb,h1⟩:=h;have hi:i < n:=by simpa [clB] using hc
  exact ⟨b,ad,by show (E.β.take n)[i]? = _;rw [List.getElem?_take,if_pos hi];exact hb,h1⟩
 | .agg l,v,h,hc=>by
  unfold Rv at h ⊢;obtain ⟨vs,h1,h2,h3⟩:=h;simp only [clB] at hc;exact ⟨vs,h1,RvL.cut h2 hc,h3⟩
 | .tup l,v,h,hc=>by
  unfold Rv at h ⊢;obtain ⟨vs,h1,h2⟩:=h;simp only [clB] at hc;exact ⟨vs,h1,RvL.cut h2 hc⟩
 | .fn f l r,v,h,hc=>by
  unfold Rv at h ⊢;obtain ⟨l',r',h1,h2,h3⟩:=h;simp only [clB,Bool.and_eq_true] at hc;exact ⟨l',r',h1,RvL.cut h2 hc.1,RvL.cut h3 hc.2⟩
 | .sg t x,v,h,hc=>by
  unfold Rv at h ⊢;obtain ⟨z,h1,h2⟩:=h;simp only [clB] at hc;exact ⟨z,h1,Rv.cut h2 hc⟩
theorem RvL.cut {n m:Nat} {E:En}:∀ {l:List DV} {vs:List Value},RvL E l vs->clB.clL n m l=true->RvL (E.cut n m) l vs
 | [],vs,h,_=>by simp only [RvL] at h ⊢;exact h
 | d :: r,vs,h,hc=>by
  simp only [RvL] at h ⊢;obtain ⟨v,s,h1,h2,h3⟩:=h;simp only [clB.clL,Bool.and_eq_true] at hc;exact ⟨v,s,h1,Rv.cut h2 hc.1,RvL.cut h3 hc.2⟩
end
end
end Dv
end Go.Proofs.YtfifjddnnmfeoaaGreat
namespace Go.Proofs.YtfifjddnnmfeoaaGreat
namespace Dv
open Go Go.RowKit
def We (n m:Nat) (bW:List TkE) (x x':DV):Prop:=
 (x=x' /\ clB n m x=true)∨(x = .v (.slice none 0 0)/\∃ e k q,x' = .sl e [] (some k)/\m<=k/\bW[k]? = some q)∨(x = .v (.slice none 0 0)/\∃ e,x' = .sl e [] none)∨(∃ e es tk,x = .sl e es tk/\x' = .sl e es none)∨(∃ e es xe tk,x = .sl e es tk/\x' = .sl e xe none/\CcE [] 0 xe es)∨(∃ e es xe k,x = .sl e es (some k)/\x' = .sl e xe (some k)/\k < m/\CcE [] 0 xe es)
def WeL (n m:Nat) (bW:List TkE):List DV->List DV->Prop
 | [],l=>l=[]
 | x :: r,l=>∃ x' r',l=x' :: r' /\ We n m bW x x' /\ WeL n m bW r r'
def WeLL (n m:Nat) (bW:List TkE):List (List DV)->List (List DV)->Prop
 | [],l=>l=[]
 | x :: r,l=>∃ x' r',l=x' :: r' /\ WeL n m bW x x' /\ WeLL n m bW r r'
def px (n m:Nat) (bW:List TkE) (sl:List (Nat × Sl)):List (Nat × Sl)->Prop
 | []=>True
 | p :: r=>(∃ x,get sl p.1=some ⟨p.2.gs,x⟩/\We n m bW x p.2.s)/\px n m bW sl r
structure BT (n0 m0:Nat) (st st':St):Prop where
 all:∃ kept dropped new b0 r,m0<=kept.length/\n0<=b0.length/\st.tk=kept ++ dropped/\st'.tk=kept ++ new/\(∀ q∈new,TkE.new q=true)/\st.bx=b0 ++ r/\WeLL b0.length kept.length st'.tk b0 st'.bx/\px b0.length kept.length st'.tk st.sl st'.sl
theorem WeLL.length {n m:Nat} {bW:List TkE}:∀ {l l':List (List DV)},WeLL n m bW l l' -> l'.length=l.length
 | [],l',h=>by simp only [WeLL] at h;subst h;rfl
 | x :: r,l',h=>by
  simp only [WeLL] at h;obtain ⟨x',r',rfl,_,h2⟩:=h;simp [WeLL.length h2]
theorem WeLL.get {n m:Nat} {bW:List TkE}:∀ {l l':List (List DV)},WeLL n m bW l l' -> ∀ (i:Nat) cs',l'[i]? = some cs' -> ∃ cs,l[i]? = some cs/\WeL n m bW cs cs'
 | [],l',h,i,cs',hi=>by simp only [WeLL] at h;subst h;simp at hi
 | x :: r,l',h,i,cs',hi=>by
  simp only [WeLL] at h;obtain ⟨x',r',rfl,h1,h2⟩:=h
  cases i with
  | zero=>simp only [List.getElem?_cons_zero,oI] at hi;subst hi;exact ⟨x,rfl,h1⟩
  | succ i=>simp only [List.getElem?_cons_succ] at hi ⊢;exact WeLL.get h2 i cs' hi
theorem ux {n m:Nat} {bW:List TkE} {sl:List (Nat × Sl)}:∀ {l:List (Nat × Sl)},px n m bW sl l->∀ i x',get l i=some x' -> ∃ x,get sl i=some ⟨x'.gs,x⟩/\We n m bW x x'.s
 | [],_,i,x',hx=>by cases hx
 | (k,y) :: r,h,i,x',hx=>by
  simp only [cY] at hx;split at hx
  ·rename_i lg;subst lg;simp only [oI] at hx;subst hx;exact h.1
  ·exact ux h.2 i x' hx
section
variable {X:Ctx} {E:En} {st st':St} {a:Act} {w:World} {k:List It}
def En.wk (E:En) (n:Nat) (kept new:List TkE):En:=⟨E.c,E.β.take n,kept ++ new,E.τ.take kept.length ++ List.replicate new.length (.slice none 0 0)⟩
theorem BU {n:Nat} {kept dropped new:List TkE} (ht:E.tk=kept ++ dropped) (hl:E.τ.length=E.tk.length) (dV:∀ q∈new,TkE.new q=true) {x x':DV} {v:Value} (hx:We n kept.length (kept ++ new) x x') (hv:Rv E x v):Rv (E.wk n kept new) x' v:=by
 have iL:kept.length<=E.τ.length:=by rw [hl,ht];simp
 have first:∀ {x:DV},clB n kept.length x=true->Rv E x v->Rv (E.wk n kept new) x v:=by
  intro x hc hv;refine Rv.mono (E:=E.cut n kept.length) ⟨fun _ _ h=>h,fun _ _ h=>h,fun k q hq=>?_⟩ (Rv.cut hv hc);have iG:(E.tk.take kept.length)[k]? = some q:=hq;rw [List.getElem?_take] at iG;split at iG
  ·rename_i hk;refine ⟨q,?_,.inl ⟨rfl,?_⟩⟩
   ·show (kept ++ new)[k]? = _;rw [ht,List.getElem?_append_left hk] at iG;rw [List.getElem?_append_left hk];exact iG
   ·show (E.τ.take kept.length ++ _)[k]? = (E.τ.take kept.length)[k]?;rw [List.getElem?_append_left (by rw [List.length_take];omega)]
  ·cases iG
 rcases hx with ⟨rfl,hc⟩ | ⟨rfl,e,k,q,rfl,hk,hq⟩ | ⟨rfl,e,rfl⟩ | ⟨e,es,tk,rfl,rfl⟩ | ⟨e,es,xe,tk,rfl,rfl,he⟩ | ⟨e,es,xe,k,rfl,rfl,hk,he⟩
 ·exact first hc hv
 ·have:=bd hv;subst this;unfold Rv;refine ⟨none,0,0,rfl,⟨rfl,Nat.le_refl _⟩,fun hn=>(hn rfl).elim,fun k' gm=>?_⟩;cases gm;have Lj:(kept ++ new)[k]? = some q:=hq;rw [List.getElem?_append_right hk] at Lj;have s9:=TkE.KZ (dV q (mG Lj));refine ⟨q,hq,by omega,fun _=>?_⟩;have ap:=(gS Lj).1;show (E.τ.take kept.length ++ List.replicate new.length _)[k]? = _;rw [List.getElem?_append_right (by rw [List.length_take];omega)];rw [List.length_take,Nat.min_eq_left iL,List.getElem?_replicate,if_pos ap]
 ·have:=bd hv;subst this;unfold Rv;exact ⟨none,0,0,rfl,⟨rfl,Nat.le_refl _⟩,fun hn=>(hn rfl).elim,fun k hk=>by cases hk⟩
 ·unfold Rv at hv ⊢;obtain ⟨b,n,cap,h1,h2,h3,_⟩:=hv;exact ⟨b,n,cap,h1,h2,h3,fun k hk=>by cases hk⟩
 ·have hv:=Q5 he hv;unfold Rv at hv ⊢;obtain ⟨b,n,cap,h1,h2,h3,_⟩:=hv;exact ⟨b,n,cap,h1,h2,h3,fun k hk=>by cases hk⟩
 ·exact first (by simp only [clB];exact Nat.ble_eq_true_of_le hk) (Q5 he hv)
theorem qZ {n:Nat} {kept dropped new:List TkE} (ht:E.tk=kept ++ dropped) (hl:E.τ.length=E.tk.length) (dV:∀ q∈new,TkE.new q=true):∀ {l l':List DV} {vs:List Value},WeL n kept.length (kept ++ new) l l' -> RvL E l vs->RvL (E.wk n kept new) l' vs
 | [],l',vs,h,hv=>by
  simp only [WeL] at h;subst h;simp only [RvL] at hv ⊢;exact hv
 | x :: r,l',vs,h,hv=>by
  simp only [WeL] at h;obtain ⟨x',r',rfl,h1,h2⟩:=h;simp only [RvL] at hv ⊢;obtain ⟨v,s,h3,h4,h5⟩:=hv;exact ⟨v,s,h3,BU ht hl dV h1 h4,qZ ht hl dV h2 h5⟩
theorem ya (h:Rel X E st a w) {kept dropped new:List TkE} {b0 r:List (List DV)} (gH:X.m0<=kept.length/\X.n0<=b0.length/\st.tk=kept ++ dropped/\st'.tk=kept ++ new/\(∀ q∈new,TkE.new q=true)/\st.bx=b0 ++ r/\WeLL b0.length kept.length st'.tk b0 st'.bx/\px b0.length kept.length st'.tk st.sl st'.sl):Rel X (E.wk b0.length kept new) st' a w:=by
 obtain ⟨jX,jS,ht,td,dV,hb,lx,mb⟩:=gH;rw [td] at lx mb;have Wu:E.tk=kept ++ dropped:=by rw [h.tk,ht]
 have hbl:=lx.length;have iL:kept.length<=E.τ.length:=by rw [h.env.tl,Wu];simp
 have gk:b0.length<=E.β.length:=by rw [h.env.len,hb];simp
 have hτ:∀ (k:Nat) y,(E.τ.take kept.length ++ List.replicate new.length (Value.slice none 0 0))[k]? = some y->(k < kept.length/\E.τ[k]? = some y)∨(kept.length<=k/\y = .slice none 0 0):=fun k y hy=>by
  rw [List.getElem?_append] at hy;split at hy
  ·rename_i hk;rw [List.length_take] at hk;rw [List.getElem?_take,if_pos (by omega)] at hy;exact .inl ⟨by omega,hy⟩
  ·rename_i hk;rw [List.length_take] at hk;rw [List.getElem?_replicate] at hy;split at hy
   ·simp only [oI] at hy;exact .inr ⟨by omega,hy.symm⟩
   ·cases hy
 exact {
  env:={
   len:=by simp only [En.wk,List.length_take];omega
   tl:=by simp only [En.wk,List.length_append,List.length_take,List.length_replicate];omega
   eu:=fun i cs' hi=>by
    obtain ⟨cs,ct,hwe⟩:=lx.get i cs' hi;have ap:=(gS ct).1;obtain ⟨b,ty,arr,hbb,hwb,hc⟩:=h.env.eu i cs (by rw [hb,List.getElem?_append_left ap];exact ct);exact ⟨b,ty,arr,by simp only [En.wk];rw [List.getElem?_take,if_pos ap];exact hbb,hwb,qZ Wu h.env.tl dV hwe hc.1,hc.2⟩
   inj:=h.env.inj.sublist (List.take_sublist _ _)
   sub:=h.env.sub
   pc:=fun x v hx hm=>h.env.pc x v hx (List.mem_of_mem_take hm)
   cI:=fun k q y hq hy=>by
    rcases hτ k y hy with ⟨hk,gp⟩ | ⟨hk,rfl⟩
    ·have iG:(kept ++ new)[k]? = some q:=hq;rw [List.getElem?_append_left hk] at iG;rcases h.env.cI k q y (by rw [Wu,List.getElem?_append_left hk];exact iG) gp with h1 | ⟨g,cap,cur,rfl,h1,h2,h3,h4,h5,h6⟩
     ·exact .inl h1
     ·exact .inr ⟨g,cap,cur,rfl,h1,h2,h3,h4,fun hm=>h5 (List.mem_of_mem_take hm),h6⟩
    ·have iG:(kept ++ new)[k]? = some q:=hq;rw [List.getElem?_append_right hk] at iG;exact .inl ⟨rfl,TkE.KZ (dV q (mG iG)),TkE.Q0 (dV q (mG iG))⟩
   iX:=fun k k' y y' g Bo hy gp hg xu=>by
    rcases hτ k y hy with ⟨_,BH⟩ | ⟨_,rfl⟩
    ·rcases hτ k' y' gp with ⟨_,mf⟩ | ⟨_,rfl⟩
     ·exact h.env.iX k k' y y' g Bo BH mf hg xu
     ·simp [Value.ownBlock] at xu
    ·simp [Value.ownBlock] at hg }
  tk:=by simp only [En.wk];exact td.symm
  sz:=h.sz
  tm:=fun i x' Bn=>by
   obtain ⟨x,hx,hwe⟩:=ux mb i x' Bn;have:=h.tm i _ hx;refine ⟨fun hh=>?_,this.2⟩;obtain ⟨v,h1,h2⟩:=this.1 hh;exact ⟨v,h1,BU Wu h.env.tl dV hwe h2⟩
  df:=h.df
  nw:={
   c:=h.nw.c
   cn:=h.nw.cn
   β:=by
    obtain ⟨r2,hr,hl⟩:=h.nw.β;refine ⟨r2.take (b0.length - X.n0),?_,fun b hb=>hl b (List.mem_of_mem_take hb)⟩;simp only [En.wk];rw [hr,List.take_append,List.take_of_length_le (by rw [X.jS];omega),X.jS]
   tk:=fun j q0 y0 s9 EA=>by
    obtain ⟨q',y',h1,h2,h3⟩:=h.nw.tk j q0 y0 s9 EA;have hj:j < X.m0:=by rw [<- X.jX];exact (gS s9).1
    have S9:j < kept.length:=by omega
    exact ⟨q',y',by simp only [En.wk];rw [List.getElem?_append_left S9];rw [Wu,List.getElem?_append_left S9] at h1;exact h1,by simp only [En.wk];rw [List.getElem?_append_left (by rw [List.length_take];omega),List.getElem?_take,if_pos S9];exact h2,h3⟩
   tn:=fun j y g hj hy hg=>by
    rcases hτ j y hy with ⟨_,BH⟩ | ⟨_,rfl⟩
    ·exact h.nw.tn j y g hj BH hg
    ·simp [Value.ownBlock] at hg
   l0:=h.nw.l0 }
  fr:=h.fr
  sh:=h.sh
  bt:=h.bt.sub _ }
theorem uy (h:Rel X E st a w) (hw:BT X.n0 X.m0 st st'):∃ E',Rel X E' st' a w:=by
 obtain ⟨_,_,_,_,_,gH⟩:=hw.all;exact ⟨_,ya h gH⟩
theorem least {p:Nat->Prop} (h:∃ n,p n):∃ n,p n/\∀ m,p m->n<=m:=by
 obtain ⟨n,hn⟩:=h
 induction n using Nat.strongRecOn with
 | _ n ih=>
  by_cases hm:∃ m,m < n/\p m
  ·obtain ⟨m,ap,hp⟩:=hm;exact ih m ap hp
  ·refine ⟨n,hn,fun m hp=>?_⟩;rcases Nat.lt_or_ge m n with h1 | h1
   ·exact (hm ⟨m,h1,hp⟩).elim
   ·exact h1
theorem aq {c:Code} (I:Nat->St->Prop) (j0:Nat) (kI:St) (hw:BT X.n0 X.m0 st kI) (h0:I j0 kI)
  (hr:∀ j s,I j s->go X 4000 (.code c :: .Ej (fun s'=>∃ Lk,BT X.n0 X.m0 s' Lk /\ ∃ j',j' < j/\I j' Lk) :: k) s):si X c k st:=by
 intro E a w h;obtain ⟨E0,hr0⟩:=uy h hw
 classical
 let Inv:Act->World->Prop:=fun a w=>∃ j s E,Rel X E s a w/\I j s
 let μ:Act->World->Nat:=fun a w=>if hI:Inv a w then Classical.choose (least hI) else 0
 refine wp_loop Inv μ ⟨j0,kI,E0,hr0,h0⟩ ?_;intro a1 w1 hI;have yb:=(Classical.choose_spec (least hI)).1;obtain ⟨s,E1,cf,hIs⟩:=yb;have hs:=go_sound 4000 _ _ (hr _ s hIs) E1 a1 w1 cf;rw [eN] at hs;refine wp_mono hs ?_;intro e a2 w2 hq
 cases e with
 | normal=>
  obtain ⟨s',E2,BV,Lk,Py,j',fT,Wv⟩:=hq;obtain ⟨E3,BW⟩:=uy BV Py;have Ta:Inv a2 w2:=⟨j',Lk,E3,BW,Wv⟩;refine ⟨Ta,?_⟩;simp only [μ,dif_pos hI,dif_pos Ta];exact Nat.lt_of_le_of_lt ((Classical.choose_spec (least Ta)).2 j' ⟨Lk,E3,BW,Wv⟩) fT
 | exit id=>exact hq
 | goto l=>exact hq
 | ret=>exact hq
 | panic c=>exact hq
 | outgrown=>exact hq
theorem ah {n m:Nat} {bW:List TkE} {x:DV} (h:clB n m x=true):We n m bW x x:=.inl ⟨rfl,h⟩
theorem ak {n m:Nat} {bW:List TkE} {kd:IntKind} {x y:Int} (h:x=y):We n m bW (.v (.int kd x)) (.v (.int kd y)):=.inl ⟨by rw [h],rfl⟩
theorem aX {n m:Nat} {bW:List TkE} {e k:Nat} {q:TkE} (h1:m<=k) (h2:bW[k]? = some q):We n m bW (.v (.slice none 0 0)) (.sl e [] (some k)):=.inr (.inl ⟨rfl,e,k,q,rfl,h1,h2⟩)
theorem cP {n m:Nat} {bW:List TkE} {e k:Nat} {es xe:List (List DV)} (h:es=xe) (hk:Nat.blt k m=true):We n m bW (.sl e es (some k)) (.sl e xe (some k)):=.inl ⟨by rw [h],hk⟩
theorem Hj {n m:Nat} {bW:List TkE} {e k:Nat} {es xe:List (List DV)} (h:CcE [] 0 xe es) (hk:Nat.blt k m=true):We n m bW (.sl e es (some k)) (.sl e xe (some k)):=.inr (.inr (.inr (.inr (.inr ⟨e,es,xe,k,rfl,rfl,nL hk,h⟩))))
theorem ax {p:Prop} (h:p:=by repeat' (first | exact rfl | exact trivial | exact Or.inr (Or.inl ⟨_,rfl⟩) | exact Or.inr ⟨_,rfl⟩ | exact Or.inl ⟨rfl,rfl⟩ | exact Or.inl rfl | refine Or.inr ⟨_,_,rfl,Nat.zero_le _,rfl,?_⟩ | refine ⟨_,_,rfl,?_,?_⟩ | refine ⟨_,rfl,?_⟩ | refine Or.inr (Or.inr (Or.inr ⟨_,_,rfl,?_⟩)) | exact Or.inl rfl | refine Or.inr ?_)):p:=h
theorem wA {p:Prop} (h:p:=by repeat' (first | exact rfl | exact ah rfl | refine ⟨_,_,rfl,?_,?_⟩)):p:=h
theorem wB {p:Prop} (h:p:=by repeat' (first | exact trivial | exact ah rfl | refine ⟨⟨_,rfl,?_⟩,?_⟩)):p:=h
theorem weak_mk {n0 m0:Nat} {st st':St} (h1:∃ r,st.bx=st'.bx ++ r) (h2:WeLL st'.bx.length st'.tk.length st'.tk st'.bx st'.bx) (h3:st.tk=st'.tk) (h4:Nat.ble n0 st'.bx.length=true) (h5:Nat.ble m0 st'.tk.length=true)
  (h:px st'.bx.length st'.tk.length st'.tk st.sl st'.sl):BT n0 m0 st st':=by
 obtain ⟨r,hr⟩:=h1;exact ⟨st'.tk,[],[],st'.bx,r,by simpa using h5,by simpa using h4,by simp [h3],by simp,by simp,hr,h2,h⟩
theorem az {n0 m0:Nat} {st st':St} (n:Nat) (hn:Nat.ble n st.bx.length=true) (h2:WeLL n st'.tk.length st'.tk (st.bx.take n) st'.bx) (h3:st.tk=st'.tk) (h4:Nat.ble n0 n=true) (h5:Nat.ble m0 st'.tk.length=true)
  (h:px n st'.tk.length st'.tk st.sl st'.sl):BT n0 m0 st st':=by
 have hl:(st.bx.take n).length=n:=by
  have:=nL hn;rw [List.length_take];omega
 exact ⟨st'.tk,[],[],st.bx.take n,st.bx.drop n,by simpa using h5,by rw [hl];simpa using h4,by simp [h3],by simp,by simp,(List.take_append_drop n st.bx).symm,by rw [hl];exact h2,by rw [hl];exact h⟩
theorem fk {n0 m0:Nat} {st st':St} (q:TkE) (hq:q.new=true) (h1:∃ r,st.bx=st'.bx ++ r) (h3:st.tk ++ [q]=st'.tk) (h2:WeLL st'.bx.length st.tk.length st'.tk st'.bx st'.bx) (h4:Nat.ble n0 st'.bx.length=true) (h5:Nat.ble m0 st.tk.length=true)
  (h:px st'.bx.length st.tk.length st'.tk st.sl st'.sl):BT n0 m0 st st':=by
 obtain ⟨r,hr⟩:=h1;exact ⟨st.tk,[],[q],st'.bx,r,by simpa using h5,by simpa using h4,by simp,h3.symm,by simpa using hq,hr,h2,h⟩
end
end Dv
end Go.Proofs.YtfifjddnnmfeoaaGreat
namespace Go.Proofs.YtfifjddnnmfeoaaGreat
namespace Dv
theorem aL {p : Prop} (h : p := by repeat' (first | exact rfl | exact trivial | exact Or.inr (Or.inl ⟨_,rfl⟩) | exact Or.inr ⟨_,rfl⟩ | exact Or.inl ⟨rfl,rfl⟩ | exact Or.inl rfl | refine Or.inr ⟨_,_,rfl,Nat.zero_le _,rfl,?_⟩ | refine ⟨_,_,rfl,?_,?_⟩ | refine ⟨_,rfl,?_⟩ | exact ⟨nL rfl,rfl⟩ | refine Or.inr (Or.inr (Or.inr ⟨_,_,rfl,?_⟩)) | exact Or.inl rfl | refine Or.inr ?_)) : p := h
theorem aI {p : Prop} {a b : Int} (q : a=b) (h : a=b -> p := by intro q;repeat' (first | exact rfl | exact trivial | exact Or.inr (Or.inl ⟨_,rfl⟩) | exact Or.inr ⟨_,rfl⟩ | exact Or.inl ⟨rfl,rfl⟩ | exact Or.inl rfl | refine Or.inr ⟨_,_,rfl,Nat.zero_le _,rfl,?_⟩ | refine ⟨_,_,rfl,?_,?_⟩ | refine ⟨_,rfl,?_⟩ | exact congrArg (fun z=>DV.v (.int .i64 z)) q | refine Or.inr (Or.inr (Or.inr ⟨_,_,rfl,?_⟩)) | exact Or.inl rfl | refine Or.inr ?_)) : p := h q
theorem aB {p : Prop} {a b : Bool} (q : a=b) (h : a=b -> p := by intro q;repeat' (first | exact rfl | exact trivial | exact Or.inr (Or.inl ⟨_,rfl⟩) | exact Or.inr ⟨_,rfl⟩ | exact Or.inl ⟨rfl,rfl⟩ | exact Or.inl rfl | refine Or.inr ⟨_,_,rfl,Nat.zero_le _,rfl,?_⟩ | refine ⟨_,_,rfl,?_,?_⟩ | refine ⟨_,rfl,?_⟩ | exact congrArg (fun b=>DV.v (.bool b)) q | refine Or.inr (Or.inr (Or.inr ⟨_,_,rfl,?_⟩)) | exact Or.inl rfl | refine Or.inr ?_)) : p := h q
theorem Em {p : Prop} {a b : Nat} (q : a < b) (hn : b <= 4611686018427387904 := by omega) (h : a < b -> b <= 4611686018427387904 -> p := by intro q hn;repeat' (first | exact rfl | exact ah rfl | exact ak (cx q hn) | refine ⟨_,_,rfl,?_,?_⟩)) : p := h q hn
theorem wNB {p : Prop} {a b : Nat} (q : a < b) (hn : b <= 4611686018427387904 := by omega) (h : a < b -> b <= 4611686018427387904 -> p := by intro q hn;repeat' (first | exact trivial | exact ah rfl | exact ak (cx q hn) | refine ⟨⟨_,rfl,?_⟩,?_⟩)) : p := h q hn
theorem yc {p r : Prop} {a b : Nat} (q : a < b) (s : r) (hn : b <= 4611686018427387904 := by omega) (h : a < b -> b <= 4611686018427387904 -> r -> p := by intro q hn s;repeat' (first | exact rfl | exact ah rfl | exact ak (cx q hn) | exact cP s rfl | refine ⟨_,_,rfl,?_,?_⟩)) : p := h q hn s
theorem tg {p r : Prop} {a b : Nat} (q : a < b) (s : r) (hn : b <= 4611686018427387904 := by omega) (h : a < b -> b <= 4611686018427387904 -> r -> p := by intro q hn s;repeat' (first | exact trivial | exact ah rfl | exact ak (cx q hn) | exact cP s rfl | refine ⟨⟨_,rfl,?_⟩,?_⟩)) : p := h q hn s
theorem zS {p : Prop} (h : p := by repeat' (first | exact trivial | exact ah rfl | exact aX (Nat.le_refl _) rfl | refine ⟨⟨_,rfl,?_⟩,?_⟩)) : p := h
theorem wTA {p : Prop} (h : p := by repeat' (first | exact rfl | exact ah rfl | exact aX (Nat.le_refl _) rfl | refine ⟨_,_,rfl,?_,?_⟩)) : p := h
theorem EJ {p : Prop} (h : p := by repeat' (first | exact trivial | exact ah rfl | exact ak rfl | refine ⟨⟨_,rfl,?_⟩,?_⟩)) : p := h
theorem wRA {p : Prop} (h : p := by repeat' (first | exact rfl | exact ah rfl | exact ak rfl | refine ⟨_,_,rfl,?_,?_⟩)) : p := h
end Dv
end Go.Proofs.YtfifjddnnmfeoaaGreat
namespace Go.Proofs.YtfifjddnnmfeoaaGreat
namespace Dv
open Go
section
variable {P:Program} {ops:Array Oper} {C:World->Prop} {Q:Act->World->Prop} {W:Nat->Bool} {π:Nat->Nat}
theorem Ww {o:Oper} {a:Act} {w:World} {K:Act->World->Prop} (h:wq P o a w K):∃ v w',K (a.put o.dst v) w':=by
 unfold wq at h;split at h
 ·exact ⟨_,_,h⟩
 ·exact ⟨_,_,h⟩
 ·obtain ⟨e,w',fr,⟨v,_,hv⟩,_⟩:=h [];exact ⟨v,w',hv⟩
 ·exact h.elim
theorem Tb {x y:Oper} {v:Value} (Vt:x.apart ops y=true) (hs:∀ cs b,y.op ≠ .select cs b) {a:Act} {w:World} {K:Act->World->Prop} :
  wq P y (a.put x.dst v) w K↔wq P y a w (fun a' w'=>K (a'.put x.dst v) w'):=by
 obtain ⟨h1,h2,h3⟩:=Oper.apart_spec Vt;unfold wq;rw [execOp_put y hs a x.dst v h1];have hc:∀ u,(a.put x.dst v).put y.dst u=(a.put y.dst u).put x.dst v:=fun u=>Act.put_comm a v u h2
 cases (execOp a.eval y).run P w with
 | halt h w'=>rfl
 | ok n w'=>cases n<;>simp [hc]
def Yl (P:Program) (ops:Array Oper) (C:World->Prop) (o:Oper) (v:Value) (a:Act):Prop:=
 (Region.wanted o (yielded ops a.tmps)=true/\∀ w,(ma o.op=true->C w)->(execOp a.eval o).run P w = .ok (.value v) w) ∨
 (Region.wanted o (yielded ops a.tmps)=false/\v=undef)
theorem Yl.same {x y:Oper} {v u:Value} (Vt:x.apart ops y=true) (hs:∀ cs b,y.op ≠ .select cs b) {a:Act}:Yl P ops C y v (a.put x.dst u)↔Yl P ops C y v a:=by
 obtain ⟨h1,h2,h3⟩:=Oper.apart_spec Vt;unfold Yl;rw [execOp_put y hs a x.dst u h1,wanted_put y a x.dst u h1]
def dG (P:Program) (ops:Array Oper) (o:Oper) (a:Act) (w:World) (K:Act->World->Prop):Prop:=
 if Region.wanted o (yielded ops a.tmps)=true then wq P o a w K else K (a.put o.dst undef) w
theorem dc {o:Oper} {a:Act} {w:World} {K K':Act->World->Prop} (hk:∀ a w,K a w->K' a w) (h:dG P ops o a w K):dG P ops o a w K':=by
 unfold dG at *;split<;>rename_i hw
 ·rw [if_pos hw] at h;exact lr hk h
 ·rw [if_neg hw] at h;exact hk _ _ h
theorem kJ {x y:Oper} {v:Value} (Vt:x.apart ops y=true) (hs:∀ cs b,y.op ≠ .select cs b) {a:Act} {w:World} {K:Act->World->Prop} :
  dG P ops y (a.put x.dst v) w K↔dG P ops y a w (fun a' w'=>K (a'.put x.dst v) w'):=by
 obtain ⟨h1,h2,h3⟩:=Oper.apart_spec Vt;unfold dG;rw [wanted_put y a x.dst v h1];split
 ·exact Tb Vt hs
 ·rw [Act.put_comm a v undef h2]
theorem Ll {o:Oper} {a:Act} {w:World} {K:Act->World->Prop} (h:dG P ops o a w K):∃ v w',K (a.put o.dst v) w':=by
 unfold dG at h;split at h
 ·exact Ww h
 ·exact ⟨_,_,h⟩
theorem jr {o:Oper} {a:Act} {w:World} {K:Act->World->Prop} (h:dG P ops o a w K):dG P ops o a w (fun a' w'=>K a' w' /\ ∃ u,a'=a.put o.dst u):=by
 unfold dG at *;split<;>rename_i hw
 ·rw [if_pos hw] at h;unfold wq at *;split at h
  ·rename_i hr;exact ⟨h,_,rfl⟩
  ·rename_i hr;exact ⟨h,_,rfl⟩
  ·rename_i hr;refine h.mono ?_;rintro e w' ⟨v,rfl,hv⟩;exact ⟨v,rfl,hv,v,rfl⟩
  ·exact h.elim
 ·rw [if_neg hw] at h;exact ⟨h,_,rfl⟩
theorem iv {o:Oper} {a:Act} {w:World} {v:Value} {K:Act->World->Prop} (hy:Yl P ops C o v a) (hc:ma o.op=true->C w) (hk:K (a.put o.dst v) w):dG P ops o a w K:=by
 unfold dG;rcases hy with ⟨hw,hv⟩ | ⟨hw,rfl⟩
 ·rw [if_pos hw];unfold wq;rw [hv w hc];exact hk
 ·rw [if_neg (by simp [hw])];exact hk
theorem fU {o:Oper} {a:Act} {w:World} {v:Value} {K:Act->World->Prop} (hy:Yl P ops C o v a) (hc:ma o.op=true->C w) (h:dG P ops o a w K):K (a.put o.dst v) w:=by
 unfold dG at h;rcases hy with ⟨hw,hv⟩ | ⟨hw,rfl⟩
 ·rw [if_pos hw] at h;unfold wq at h;rw [hv w hc] at h;exact h
 ·rw [if_neg (by simp [hw])] at h;exact h
def runT (P:Program) (ops:Array Oper) (W:Nat->Bool) (C:World->Prop) (Q:Act->World->Prop):List Nat->Act->World->Prop
 | [],a,w=>Q a w
 | i :: r,a,w=>
  match ops[i]? with
  | none=>False
  | some o=>
   if gQ o.op=true then dG P ops o a w fun a' w'=>(W i=false->C w->C w')/\runT P ops W C Q r a' w'
   else ∃ v,Yl P ops C o v a/\(ma o.op=true->C w)/\runT P ops W C Q r (a.put o.dst v) w
def fV (ops:Array Oper) (W:Nat->Bool) (j i:Nat):Bool:=
 match ops[j]?,ops[i]? with
 | some x,some y=>x.apart ops y && y.apart ops x && !(gQ x.op && gQ y.op) && !(ma x.op && W i)
 | _,_=>false
def xA (ops:Array Oper) (l:List Nat):Prop:=∃ i o,i∈l/\ops[i]? = some o/\ma o.op=true
theorem eO {j i:Nat} {x y:Oper} (h:fV ops W j i=true) (hj:ops[j]? = some x) (hi:ops[i]? = some y) :
  x.apart ops y=true/\y.apart ops x=true/\¬ (gQ x.op=true/\gQ y.op=true)/\¬ (ma x.op=true/\W i=true):=by
 unfold fV at h;rw [hj,hi] at h;simp only [Bool.and_eq_true,Bool.not_eq_true',Bool.and_eq_false_iff] at h;refine ⟨h.1.1.1,h.1.1.2,?_,?_⟩
 ·rintro ⟨h1,h2⟩;rcases h.1.2 with h3 | h3<;>simp_all
 ·rintro ⟨h1,h2⟩;rcases h.2 with h3 | h3<;>simp_all
theorem jt (dM:∀ (j:Nat) (o:Oper) cs b,ops[j]? = some o->o.op ≠ .select cs b) {i:Nat} {o:Oper} (hi:ops[i]? = some o) (hR:gQ o.op=false) :
  ∀ (rem:List Nat) (a:Act) (w:World),runT P ops W C Q rem a w->i∈rem->(∀ j∈rem,j≠i->π j < π i->fV ops W j i=true)->rem.Pairwise (fun a b=>π a < π b)->∃ v,Yl P ops C o v a
 | [],_,_,_,hm,_,_=>by cases hm
 | h :: rem,a,w,hr,hm,xg,hp=>by
  simp only [runT] at hr;by_cases jU:h=i
  ·subst jU;rw [hi] at hr;simp only [hR,Bool.false_eq_true,if_false] at hr;obtain ⟨v,hy,_⟩:=hr;exact ⟨v,hy⟩
  ·have ow:i∈rem:=by
    rcases List.mem_cons.1 hm with e | e
    ·exact (jU e.symm).elim
    ·exact e
   have ap:π h < π i:=(List.pairwise_cons.1 hp).1 i ow;split at hr
   ·exact hr.elim
   ·rename_i x hx;obtain ⟨O6,Q6,_,_⟩:=eO (xg h (by simp) jU ap) hx hi;have ih:=fun a w hr=>jt dM hi hR rem a w hr ow (fun j hj=>xg j (List.mem_cons_of_mem _ hj)) (List.pairwise_cons.1 hp).2;split at hr
    ·obtain ⟨u,w',_,gV⟩:=Ll hr;obtain ⟨v,hy⟩:=ih _ _ gV;exact ⟨v,(Yl.same O6 (fun cs b=>dM i o cs b hi)).1 hy⟩
    ·obtain ⟨u,_,_,gV⟩:=hr;obtain ⟨v,hy⟩:=ih _ _ gV;exact ⟨v,(Yl.same O6 (fun cs b=>dM i o cs b hi)).1 hy⟩
theorem yd {h:Nat} {rem:List Nat} (hl:xA ops rem):xA ops (h :: rem):=by
 obtain ⟨i,o,hm,ho,hL⟩:=hl;exact ⟨i,o,List.mem_cons_of_mem _ hm,ho,hL⟩
theorem fl (dM:∀ (j:Nat) (o:Oper) cs b,ops[j]? = some o->o.op ≠ .select cs b) (qL:∀ j i x y,π j < π i->ops[i]? = some x->ops[j]? = some y->ma x.op=true->W j=false) {i:Nat} {o:Oper} (hi:ops[i]? = some o) :
  ∀ (rem:List Nat) (a:Act) (w:World),(xA ops rem->C w)->runT P ops W C Q rem a w->i∈rem->(∀ j∈rem,j≠i->π j < π i->fV ops W j i=true)->rem.Pairwise (fun a b=>π a < π b) ->
   dG P ops o a w (fun a' w'=>(W i=false->C w->C w')/\runT P ops W C Q (rem.erase i) a' w')
 | [],_,_,_,_,hm,_,_=>by cases hm
 | h :: rem,a,w,hC,hr,hm,xg,hp=>by
  by_cases jU:h=i
  ·subst jU;rw [List.erase_cons_head];simp only [runT,hi] at hr;split at hr
   ·exact hr
   ·obtain ⟨v,hy,hc,gV⟩:=hr;exact iv hy hc ⟨fun _ h=>h,gV⟩
  ·have ow:i∈rem:=by
    rcases List.mem_cons.1 hm with e | e
    ·exact (jU e.symm).elim
    ·exact e
   have ap:π h < π i:=(List.pairwise_cons.1 hp).1 i ow;have pz:=(List.pairwise_cons.1 hp).2;rw [List.erase_cons_tail (by simpa using jU)];have hr0:=hr;simp only [runT] at hr;split at hr
   ·exact hr.elim
   ·rename_i x hx;obtain ⟨O6,Q6,hEE,hLW⟩:=eO (xg h (by simp) jU ap) hx hi;have xB:=fun cs b=>dM h x cs b hx;have KJ:=fun cs b=>dM i o cs b hi;have Lm:∀ j∈rem,j≠i->π j < π i->fV ops W j i=true:=fun j hj=>xg j (List.mem_cons_of_mem _ hj);split at hr
    ·-- the head has an effect: so o has none
     rename_i hEx
     have hRo:gQ o.op=false:=by
      cases he:gQ o.op
      ·rfl
      ·exact (hEE ⟨hEx,he⟩).elim
     obtain ⟨v,hy⟩:=jt (π:=π) dM hi hRo (h :: rem) a w hr0 hm xg hp;have Tc:ma o.op=true->C w:=fun hL=>hC ⟨i,o,hm,hi,hL⟩;refine iv hy Tc ⟨fun _ h=>h,?_⟩;simp only [runT,hx,hEx,if_true];refine (kJ Q6 xB).2 ?_;refine dc ?_ (jr hr);rintro a' w' ⟨⟨qM,gV⟩,u,rfl⟩;refine ⟨qM,?_⟩
     have Td:xA ops rem->C w':=by
      intro hl;have q4:=hl;obtain ⟨l,z,Ln,hz,hL⟩:=hl;exact qM (qL h l z x ((List.pairwise_cons.1 hp).1 l Ln) hz hx hL) (hC (yd q4))
     have ih:=fl dM qL hi rem _ w' Td gV ow Lm pz;have gp:=(Yl.same (u:=u) O6 KJ).2 hy;exact (fU gp (fun hL=>Td ⟨i,o,ow,hi,hL⟩) ih).2
    ·rename_i hEx;obtain ⟨v,hy,hc,gV⟩:=hr;have ih:=fl dM qL hi rem (a.put x.dst v) w (fun hl=>hC (yd hl)) gV ow Lm pz;refine dc ?_ (jr ((kJ O6 KJ).1 ih));rintro a' w' ⟨⟨qM,hr2⟩,u,rfl⟩;refine ⟨qM,?_⟩;simp only [runT,hx];rw [if_neg hEx];refine ⟨v,?_,fun hL=>?_,hr2⟩
     ·exact (Yl.same (u:=u) Q6 xB).2 hy
     ·have hWi:W i=false:=by
       cases hw:W i
       ·rfl
       ·exact (hLW ⟨hL,hw⟩).elim
      exact qM hWi (hc hL)
def ordB (ops:Array Oper):Nat->Nat->Nat->Bool
 | 0,_,_=>false
 | n + 1,j,i=>
  match ops[i]? with
  | some o=>o.after.toList.any fun e=>Region.binds .any e && (Nat.beq e.on j || ordB ops n j e.on)
  | none=>false
def pA (ops:Array Oper) (W:Nat->Bool) (π:Nat->Nat):Bool:=
 Region.noSelect ops &&
 (List.range ops.size).all fun i=>
  match ops[i]? with
   | some o=>o.after.toList.all (fun e=>!Region.binds .any e || (Nat.blt (π e.on) (π i) && Nat.blt e.on ops.size)) && (!ma o.op || (List.range ops.size).all fun j=>!Nat.blt (π j) (π i) || !W j)
   | none=>false
def ti (ops:Array Oper) (W:Nat->Bool) (π:Nat->Nat) (ex:Nat->Nat->Bool):Bool:=
 (List.range ops.size).all fun i=>(List.range ops.size).all fun j=>!Nat.blt (π j) (π i) || ex j i || ordB ops ops.size j i || fV ops W j i
def Wx:Nat->Nat->Bool:=fun _ _=>false
def Lo (ops:Array Oper) (W:Nat->Bool):Bool:=pA ops W (fun i=>i) && ti ops W (fun i=>i) Wx
def Dn (ops:Array Oper) (listed:Array Bool):Prop:=
 ∀ i o,ops[i]? = some o->listed.getD i true=true->∀ e∈o.after,Region.binds .any e=true->listed.getD e.on false=true
theorem j2 {listed:Array Bool} (hd:Dn ops listed):∀ (n:Nat) (j i:Nat) (o:Oper),ops[i]? = some o->(∀ e∈o.after,Region.binds .any e=true->listed.getD e.on false=true)->ordB ops n j i=true->listed.getD j false=true
 | 0,j,i,o,_,_,h=>by simp [ordB] at h
 | n + 1,j,i,o,ho,gH,h=>by
  simp only [ordB,ho,List.any_eq_true,Bool.and_eq_true,Bool.or_eq_true] at h;obtain ⟨e,he,hb,hj⟩:=h;have Lp:e∈o.after:=by simpa using he
  have h1:=gH e Lp hb;rcases hj with hj | hj
  ·have:e.on=j:=by simpa using hj
   rw [<- this];exact h1
  ·cases Wy:ops[e.on]? with
   | none=>
    cases n with
    | zero=>simp [ordB] at hj
    | succ n=>simp [ordB,Wy] at hj
   | some o'=>
    have hg:listed.getD e.on true=true:=by
     rcases Nat.lt_or_ge e.on listed.size with h' | h'
     ·simp [h'] at h1 ⊢;exact h1
     ·simp [Array.getElem?_eq_none h'] at h1
    exact j2 hd n j e.on o' Wy (hd e.on o' Wy hg) hj
theorem pB (hc:pA ops W π=true):∀ j i x y,π j < π i->ops[i]? = some x->ops[j]? = some y->ma x.op=true->W j=false:=by
 simp only [pA,Bool.and_eq_true,List.all_eq_true,List.mem_range] at hc;intro j i x y O5 hx hy hL;have hj:=(Array.getElem?_eq_some_iff.1 hy).1;have:=hc.2 i (Array.getElem?_eq_some_iff.1 hx).1;simp only [hx,Bool.and_eq_true,Bool.or_eq_true,hL,Bool.not_true,Bool.false_eq_true,false_or,List.all_eq_true,List.mem_range,Bool.not_eq_true'] at this;rcases this.2 j hj with h1 | h1
 ·have:¬ Nat.blt (π j) (π i)=true:=by simp [h1]
  simp at this;omega
 ·exact h1
theorem q5 (hc:pA ops W π=true):∀ i x,ops[i]? = some x->∀ e∈x.after,Region.binds .any e=true->π e.on < π i/\e.on < ops.size:=by
 simp only [pA,Bool.and_eq_true,List.all_eq_true,List.mem_range] at hc;intro i x hx e he hb;have:=hc.2 i (Array.getElem?_eq_some_iff.1 hx).1;simp only [hx,Bool.and_eq_true,List.all_eq_true,Bool.or_eq_true] at this;have h2:=this.1 e (by simpa using he);rw [hb] at h2;simpa using h2
theorem pD (hc:pA ops W π=true):∀ (j:Nat) (o:Oper) cs b,ops[j]? = some o->o.op ≠ .select cs b:=by
 simp only [pA,Bool.and_eq_true] at hc;exact Region.noSelect_spec hc.1
theorem uz:∀ {l:List Nat},l.Pairwise (fun a b=>π a < π b)->∀ {x y:Nat},x∈l->y∈l->x≠y->π x < π y∨π y < π x
 | [],_,x,y,hx,_,_=>by cases hx
 | h :: r,hp,x,y,hx,hy,aN=>by
  have pz:=List.pairwise_cons.1 hp;rcases List.mem_cons.1 hx with e1 | e1
  ·rcases List.mem_cons.1 hy with e2 | e2
   ·exact (aN (e1.trans e2.symm)).elim
   ·subst e1;exact .inl (pz.1 _ e2)
  ·rcases List.mem_cons.1 hy with e2 | e2
   ·subst e2;exact .inr (pz.1 _ e1)
   ·exact uz pz.2 e1 e2 aN
theorem lA {Q':Exit->Act->World->Prop} (ex:Nat->Nat->Bool) (Q7:pA ops W π=true) (Te:ti ops W π ex=true) (hQ:∀ a w,Q a w->Q' .normal a w):∀ (kk:Nat) (listed:Array Bool) (rem:List Nat) (a:Act) (w:World),
  listed.size=ops.size->Dn ops listed->(∀ i,i∈rem↔i < ops.size/\listed.getD i true=false)->rem.Pairwise (fun a b=>π a < π b)->rem.length<=kk->(∀ j∈rem,∀ i∈rem,ex j i=false)->(xA ops rem->C w)->runT P ops W C Q rem a w ->
   wpAny P .any ops Q' kk listed a w:=by
 have dM:=pD Q7;have qL:=pB Q7;have BX:=q5 Q7;simp only [ti,List.all_eq_true,List.mem_range,Bool.or_eq_true,Bool.not_eq_true'] at Te;intro kk
 induction kk with
 | zero=>
  intro listed rem a w bE O7 lB hp hlen hex hC hr;have:rem=[]:=List.length_eq_zero_iff.1 (by omega);subst this;refine ⟨?_,hQ _ _ hr⟩;rw [List.eq_nil_iff_forall_not_mem];intro i hi;have:=(mem_ready.1 hi);obtain ⟨h1,o,ho,_⟩:=this;have:=(lB i).2 ⟨(Array.getElem?_eq_some_iff.1 ho).1,h1⟩;cases this
 | succ kk ih=>
  intro listed rem a w bE O7 lB hp hlen hex hC hr
  have Tf:∀ i,i∈Region.ready .any ops listed->i∈rem:=by
   intro i hi;obtain ⟨h1,o,ho,_⟩:=mem_ready.1 hi;exact (lB i).2 ⟨(Array.getElem?_eq_some_iff.1 ho).1,h1⟩
  refine ⟨fun h0=>?_,fun i hi=>?_⟩
  ·cases rem with
   | nil=>exact hQ _ _ hr
   | cons h rem=>
    have hh:=(lB h).1 (by simp);have hx:ops[h]? = some ops[h]:=Array.getElem?_eq_getElem hh.1
    have:h∈Region.ready .any ops listed:=by
     refine mem_ready.2 ⟨hh.2,_,hx,fun e he hb=>?_⟩;obtain ⟨ap,BZ⟩:=BX h _ hx e he hb;cases hg:listed.getD e.on false
     ·have Eo:listed.getD e.on true=false:=by
       have:e.on < listed.size:=by rw [bE];omega
       simp [this] at hg ⊢;exact hg
      have hm:=(lB e.on).2 ⟨by omega,Eo⟩;rcases List.mem_cons.1 hm with e1 | e1
      ·rw [e1] at ap;omega
      ·have:=(List.pairwise_cons.1 hp).1 _ e1;omega
     ·rfl
    rw [h0] at this;cases this
  ·have B0:=Tf i hi;obtain ⟨ye,o,ho,gH⟩:=mem_ready.1 hi;have dE:=(Array.getElem?_eq_some_iff.1 ho).1
   have xg:∀ j∈rem,j≠i->π j < π i->fV ops W j i=true:=by
    intro j hj _ ap;rcases Te i dE j ((lB j).1 hj).1 with ((h1 | h1) | h1) | h1
    ·have:¬ Nat.blt (π j) (π i)=true:=by simp [h1]
     simp at this;omega
    ·rw [hex j hj i B0] at h1;cases h1
    ·have h2:=j2 O7 _ _ _ _ ho gH h1;have h3:=((lB j).1 hj).2;have:j < listed.size:=by rw [bE];exact ((lB j).1 hj).1
     simp [this] at h2 h3;rw [h2] at h3;cases h3
    ·exact h1
   have aT:=fl dM qL ho rem a w hC hr B0 xg hp;have hnd:rem.Nodup:=mq hp
   have key:∀ a' w',((W i=false->C w->C w')/\runT P ops W C Q (rem.erase i) a' w')->wpAny P .any ops Q' kk (listed.setIfInBounds i true) a' w':=by
    rintro a' w' ⟨qM,gV⟩;refine ih (listed.setIfInBounds i true) (rem.erase i) a' w' (by simp [bE]) ?_ ?_ (hp.sublist List.erase_sublist) (by rw [List.length_erase_of_mem B0];omega) (fun j hj i hi=>hex j (List.mem_of_mem_erase hj) i (List.mem_of_mem_erase hi)) ?_ gV
    ·intro k x hx hk e he hb;by_cases lg:k=i
     ·subst lg;rw [ho] at hx;simp only [oI] at hx;subst hx;exact getD_set_true (gH e he hb)
     ·rw [getD_set_ne true (Ne.symm lg)] at hk;exact getD_set_true (O7 k x hx hk e he hb)
    ·intro k;rw [List.Nodup.mem_erase_iff hnd];by_cases lg:k=i
     ·subst lg;simp [bE,dE]
     ·rw [getD_set_ne true (Ne.symm lg)];simp only [ne_eq,lg,not_false_eq_true,true_and];exact lB k
    ·rintro ⟨l,z,hl,hz,hL⟩;have q4:=List.mem_of_mem_erase hl;have aN:l≠i:=fun e=>by subst e;exact (List.Nodup.mem_erase_iff hnd).1 hl |>.1 rfl
     have Tg:=hC ⟨l,z,q4,hz,hL⟩;refine qM ?_ Tg;rcases Nat.lt_or_ge (π i) (π l) with h1 | h1
     ·exact qL i l z o h1 hz ho hL
     ·have h0:π l≠π i:=by
       intro he;rcases uz hp q4 B0 aN with h2 | h2<;>omega
      have:=xg l q4 aN (by omega);obtain ⟨_,_,_,h4⟩:=eO this hz ho;cases hw:W i
      ·rfl
      ·exact (h4 ⟨hL,hw⟩).elim
   unfold wpOp;rw [ho];simp only;unfold dG at aT;split
   ·rename_i hw;rw [if_pos hw] at aT;exact .inl (BK (lr key aT))
   ·rename_i hw;rw [if_neg hw] at aT;exact key _ _ aT
theorem km {id:Nat} {Q':Exit->Act->World->Prop} {a:Act} {w:World} (hm:P.follows .mixedOrders=true) (hc:Lo ops W=true) (hQ:∀ a w,Q a w->Q' .normal a w)
  (hC:C w.drew) (h:runT P ops W C Q (List.range ops.size) a w.drew):(Code.region id ops true).wp P Q' a w:=by
 refine wp_region_any hm ?_;simp only [Lo,Bool.and_eq_true] at hc;refine lA (π:=fun i=>i) Wx hc.1 hc.2 hQ ops.size (Array.replicate ops.size false) (List.range ops.size) a _ (by simp) ?_ ?_ List.pairwise_lt_range (by simp) (fun _ _ _ _=>rfl) (fun _=>hC) h
 ·intro i o ho hl;have:i < ops.size:=(Array.getElem?_eq_some_iff.1 ho).1;simp [this] at hl
 ·intro i;simp only [List.mem_range];constructor
  ·intro hi;exact ⟨hi,by simp [hi]⟩
  ·intro hi;exact hi.1
end
end Dv
end Go.Proofs.YtfifjddnnmfeoaaGreat
namespace Go.Proofs.YtfifjddnnmfeoaaGreat
namespace Dv
open Go Go.RowKit
structure Dr where
 ops:Array Oper
 W:Nat->Bool
 k:List It
 kI:St
 fin:Option (Bool->List (Nat × Sl)->St->Prop)
structure Dw where
 d:Dr
 E0:En
 wr:World
structure CC (E0:En) (bx:List (List DV)) (wr w:World):Prop where
 o:∀ (i:Nat) b cs,E0.β[i]? = some b->bx[i]? = some cs->cs ≠ []->w.heap[b]? = wr.heap[b]?
 c:∀ x v,E0.c x=some v->w.cell? x=some v
abbrev Dw.C (D:Dw) (w:World):Prop:=CC D.E0 D.d.kI.bx D.wr w
structure tj (E:En) (bx:List (List DV)) (w:World):Prop where
 len:E.β.length=bx.length
 eu:∀ (i:Nat) cs,bx[i]? = some cs->cs ≠ []->∃ b ty arr,E.β[i]? = some b/\w.heap[b]? = some (.cells (List.toArray arr) ty (0,0))/\RvC E cs arr
theorem Env.em {E:En} {bx:List (List DV)} {w:World} (h:Env E bx w):tj E bx w:=⟨h.len,fun i cs hi _=>h.eu i cs hi⟩
def Wz:Option (List DV)->Bool
 | some []=>true
 | _=>false
theorem Pz {o:Option (List DV)} (h:Wz o=true):o=some []:=by
 cases o with
 | none=>cases h
 | some l=>
  cases l with
  | nil=>rfl
  | cons _ _=>cases h
def Dw.wc (D:Dw) (E:En):En:=⟨D.E0.c,E.β,E.tk,E.τ⟩
structure fm (X:Ctx) (D:Dw) (c:Bool) (E:En) (s0:List (Nat × Sl)) (st:St) (a:Act) (w:World):Prop where
 rel:Rel X E st a w
 x:Ext D.E0 E
 β:∃ r,E.β=D.E0.β ++ r
 t0:∀ i x,get s0 i=some x->(Holds a.tmps x.gs->∃ v,a.tmps[i]? = some v/\Rv (D.wc E) x.s v)/\(¬ Holds a.tmps x.gs->a.tmps[i]? = some undef)
 cc:c=true->D.C w
def Dw.Q (D:Dw) (X:Ctx) (a:Act) (w:World):Prop:=
 match D.d.fin with
 | none=>kq X D.d.k .normal a w
 | some F=>∃ c E s0 st,fm X D c E s0 st a w/\F c s0 st
def delF {γ:Type _} (d:Nat):List (Nat × Sl)->(List (Nat × Sl)->γ)->γ
 | [],K=>K []
 | p :: r,K=>
  match Nat.beq p.1 d with
  | true=>delF d r K
  | false=>delF d r (fun r'=>K (p :: r'))
theorem pE {γ:Type _} (d:Nat):∀ (l:List (Nat × Sl)) (K:List (Nat × Sl)->γ),delF d l K=K (l.filter fun p=>!Nat.beq p.1 d)
 | [],K=>rfl
 | p :: r,K=>by
  simp only [delF,List.filter_cons];cases h:Nat.beq p.1 d
  ·simp only [Bool.not_false,if_true];rw [pE d r]
  ·simp only [Bool.not_true,Bool.false_eq_true,if_false];rw [pE d r K]
theorem get_filter (d:Nat):∀ (l:List (Nat × Sl)) (i:Nat) (x:Sl),get (l.filter fun p=>!Nat.beq p.1 d) i=some x->i≠d/\get l i=some x
 | [],i,x,h=>by cases h
 | (k,y) :: r,i,x,h=>by
  simp only [List.filter_cons] at h;split at h
  ·rename_i hk
   have hk:k≠d:=by
    rintro rfl;simp at hk
   simp only [cY] at h ⊢;split at h
   ·rename_i lg;subst lg;exact ⟨hk,by rw [if_pos rfl];exact h⟩
   ·rename_i lg;rw [if_neg lg];exact get_filter d r i x h
  ·rename_i hk;have hk:k=d:=by simpa using hk
   obtain ⟨h1,h2⟩:=get_filter d r i x h;refine ⟨h1,?_⟩;simp only [cY];rw [if_neg (by omega)];exact h2
def scal:DV->Bool
 | .v _=>true
 | .ud=>true
 | .loc _ _=>true
 | .el _ _=>true
 | _=>false
def put2 (s0:List (Nat × Sl)) (st:St) (dst:Option Nat) (b:Bool) (gs:List (Nat × Bool)) (s:DV) (K:List (Nat × Sl)->St->Prop):Prop:=
 match dst with
 | none=>K s0 st
 | some d=>
  match st with
  | ⟨sl,bx,tk⟩=>
   match b || scal s with
   | true=>K ((d,⟨gs,s⟩) :: s0) ⟨(d,⟨gs,s⟩) :: sl,bx,tk⟩
   | false=>delF d s0 fun iD=>K iD ⟨(d,⟨gs,s⟩) :: sl,bx,tk⟩
def optP:Option Prop->Prop
 | some p=>p
 | none=>False
def pR (X:Ctx) (D:Dr) (c:Bool) (s0:List (Nat × Sl)) (st:St) (G:List (Nat × Bool)) (op:Op):Option (Bool × DV):=
 match !gQ op && (!ma op || c) with
 | false=>none
 | true=>
  match pureT X.P X.T ⟨s0,D.kI.bx,[]⟩ G op with
  | some s=>some (true,s)
  | none=>
   match ma op with
   | true=>none
   | false=>
    match pureT X.P X.T ⟨st.sl,[],[]⟩ G op with
    | some s=>some (false,s)
    | none=>none
def eR (X:Ctx) (D:Dr) (c:Bool) (s0:List (Nat × Sl)) (st:St) (op:Op) (K:Bool->DV->Prop):Option Prop:=
 match gQ op with
 | true=>none
 | false=>
  match ma op with
  | true=>
   match c with
   | true=>effR X ⟨s0,D.kI.bx,[]⟩ op (K true)
   | false=>none
  | false=>
   match effR X ⟨s0,[],[]⟩ op (K true) with
   | some p=>some p
   | none=>effR X ⟨st.sl,[],[]⟩ op (K false)
def B1 (X:Ctx) (D:Dr) (c:Bool) (i:Nat) (l:List (Nat × Oper)) (f:FuncId) (args:List DV) (dst:Option Nat) (s0:List (Nat × Sl)) (st:St):Prop:=
 Go.Proofs.Enters X.P f/\((∀ p∈l,D.ops[p.1]? = some p.2)->∀ (E0:En) (wr:World),tj E0 D.kI.bx wr->∀ E a w vs,fm X ⟨D,E0,wr⟩ c E s0 st a w->RvL E args vs->Calls X.P f vs.toArray w fun e w'=>∃ v,e = .returned v /\
  (D.W i=false->CC E0 D.kI.bx wr w->CC E0 D.kI.bx wr w')/\runT X.P D.ops D.W (CC E0 D.kI.bx wr) (Dw.Q ⟨D,E0,wr⟩ X) (l.map (·.1)) (a.put dst v) w')
def OpD (X:Ctx) (D:Dr) (c:Bool) (i:Nat) (l:List (Nat × Oper)) (o:Oper) (s0:List (Nat × Sl)) (st:St):Prop:=
 (∀ p∈l,D.ops[p.1]? = some p.2)->∀ (E0:En) (wr:World),tj E0 D.kI.bx wr->∀ E a w,fm X ⟨D,E0,wr⟩ c E s0 st a w->wq X.P o a w fun a' w'=>
  (D.W i=false->CC E0 D.kI.bx wr w->CC E0 D.kI.bx wr w')/\runT X.P D.ops D.W (CC E0 D.kI.bx wr) (Dw.Q ⟨D,E0,wr⟩ X) (l.map (·.1)) a' w'
def effE (X:Ctx) (D:Dr) (c:Bool) (i:Nat) (l:List (Nat × Oper)) (o:Oper) (s0:List (Nat × Sl)) (st:St) (K:Bool->List (Nat × Sl)->St->Prop):Prop:=
 match o.op with
 | .store t x y=>
  match o.dst with
  | some _=>False
  | none=>
   match D.W i with
   | true=>optP (effC X st o (K false s0))
   | false=>
    match stObj st o.op with
    | some j=>
     match Nat.ble D.kI.bx.length j || Wz D.kI.bx[j]? with
     | true=>optP (effC X st o (K c s0))
     | false=>False
    | none=>False
 | .call cl=>
  match cl.callee with
  | .value f=>
   match rv st [] f,argsV st [] cl.args.toList with
   | some (.fn g first captured),some vs=>B1 X D c i l g (first ++ vs ++ captured) o.dst s0 st
   | _,_=>False
  | _=>
   match o.dst with
   | some d=>optP (effC X st o fun st'=>delF d s0 fun iD=>K c iD st')
   | none=>False
 | _=>
  match o.dst with
  | some d=>
   match effC X st o fun st'=>
    match get st'.sl d with
    | some ⟨[],.loc j off⟩=>K c ((d,⟨[],.loc j off⟩) :: s0) st'
    | _=>delF d s0 fun iD=>K c iD st' with
   | some p=>p
   | none=>OpD X D c i l o s0 st
  | none=>False
def goD (X:Ctx) (D:Dr):Nat->Bool->List (Nat × Oper)->List (Nat × Sl)->St->Prop
 | _,c,[],s0,st=>
  match D.fin with
  | none=>go X 4000 D.k st
  | some F=>F c s0 st
 | 0,_,_ :: _,_,_=>False
 | n + 1,c,(i,o) :: r,s0,st=>
  match fi X.nt st.sl o.dst && fi X.nt s0 o.dst with
  | false=>False
  | true=>
   match o.guard with
   | none=>
    match gQ o.op with
    | true=>effE X D c i r o s0 st fun c' iD st'=>goD X D n c' r iD st'
    | false=>
     match pR X D c s0 st [] o.op with
     | some (b,s)=>put2 s0 st o.dst b [] s (goD X D n c r)
     | none=>optP (eR X D c s0 st o.op fun b s=>put2 s0 st o.dst b [] s (goD X D n c r))
   | some (j,want)=>
    match gslot D.ops.toList j with
    | none=>False
    | some d=>
     match get st.sl d with
     | none=>False
     | some ⟨lf,_⟩=>
      match pR X D c s0 st ((d,want) :: lf) o.op with
      | some (b,s)=>
       match okG ((d,want) :: lf) o.dst with
       | true=>put2 s0 st o.dst b ((d,want) :: lf) s (goD X D n c r)
       | false=>False
      | none=>
       match get st.sl (lastG (d,want) lf).1 with
       | some ⟨[],.v (.bool b)⟩=>
        match lf with
        | []=>Br (b == want)
          (xq st d want fun I6=>resL d want s0 fun s2=>
           match gQ o.op with
           | true=>effE X D c i r o s2 I6 fun c' iD st'=>goD X D n c' r iD st'
           | false=>optP (eR X D c s2 I6 o.op fun b s=>put2 s2 I6 o.dst b [] s (goD X D n c r)))
          (match !ma o.op || c with
           | true=>xq st d (!want) fun I6=>resL d (!want) s0 fun s2=>put2 s2 I6 o.dst true [] .ud (goD X D n c r)
           | false=>False)
        | _ :: _=>Br (b == (lastG (d,want) lf).2)
          (xq st (lastG (d,want) lf).1 (lastG (d,want) lf).2 fun I6=>resL (lastG (d,want) lf).1 (lastG (d,want) lf).2 s0 fun s2=>goD X D n c ((i,o) :: r) s2 I6)
          (xq st (lastG (d,want) lf).1 (!(lastG (d,want) lf).2) fun I6=>resL (lastG (d,want) lf).1 (!(lastG (d,want) lf).2) s0 fun s2=>goD X D n c ((i,o) :: r) s2 I6)
       | some ⟨[],.ud⟩=>
        match lf with
        | []=>
         match !ma o.op || c with
         | true=>put2 s0 st o.dst true [] .ud (goD X D n c r)
         | false=>False
        | _ :: _=>False
       | _=>False
section
variable {X:Ctx} {D:Dw} {c:Bool} {i:Nat} {s0:List (Nat × Sl)} {st:St} {E:En} {a:Act} {w:World}
theorem Th (h:Ext D.E0 E):Ext D.E0 (D.wc E):=⟨fun _ _ h=>h,h.β,h.tk⟩
theorem EK (h:Ext D.E0 E):Ext (D.wc E) E:=⟨h.c,fun _ _ h=>h,fun k q hq=>⟨q,hq,.inl ⟨rfl,rfl⟩⟩⟩
theorem Hk {E':En} (h:Ext E E'):Ext (D.wc E) (D.wc E'):=⟨fun _ _ h=>h,h.β,h.tk⟩
theorem fm.rl0 (h:fm X D c E s0 st a w) (hD:tj D.E0 D.d.kI.bx D.wr):Rl (D.wc E) D.d.kI.bx D.C s0 a where
 tm:=h.t0
 eu:=fun i cs hi=>by
  by_cases aN:cs=[]
  ·subst aN;have ap:i < D.E0.β.length:=by rw [hD.len];exact (gS hi).1
   exact ⟨_,[],h.x.β i _ (gE ap),⟨cj _,by simp⟩,fun w' _ j u hj=>by simp at hj⟩
  ·obtain ⟨b,ty,arr,hb,hw,hc⟩:=hD.eu i cs hi aN;exact ⟨b,arr,h.x.β i b hb,hc.mono (Th h.x),fun w' hC j u hj=>by rw [ch ((hC.o i b cs hb hi aN).trans hw)];simpa using hj⟩
 cc:=fun x v hx w' hC=>hC.c x v hx
theorem fm.rlE (h:fm X D c E s0 st a w):Rl E [] (fun w'=>∀ x v,E.c x=some v->w'.cell? x=some v) st.sl a where
 tm:=h.rel.tm
 eu:=fun i cs hi=>by simp at hi
 cc:=fun x v hx w' hC=>hC x v hx
theorem Hl {s:DV} {v:Value} (hs:scal s=true) (hv:Rv E s v):Rv (D.wc E) s v:=by
 cases s<;>simp [scal] at hs
 ·unfold Rv at hv ⊢;exact hv
 ·unfold Rv at hv ⊢;exact hv
 ·unfold Rv at hv ⊢;exact hv
 ·unfold Rv at hv ⊢;exact hv
theorem ju (h:fm X D c E s0 st a w) {dst:Option Nat} (hd:(fi X.nt st.sl dst && fi X.nt s0 dst)=true) (b:Bool) (gs:List (Nat × Bool)) (s:DV) (v:Value) (Ex:∀ d,dst=some d->∀ p∈gs,p.1≠d)
  (o6:Holds a.tmps gs->Rv E s v) (nY:b=true->Holds a.tmps gs->Rv (D.wc E) s v) (IW:¬ Holds a.tmps gs->v=undef) {K:List (Nat × Sl)->St->Prop} (hk:put2 s0 st dst b gs s K) :
  ∃ iD st',K iD st' /\ fm X D c E iD st' (a.put dst v) w:=by
 simp only [Bool.and_eq_true] at hd;have h1:=pk h.rel hd.1 gs s v Ex o6 IW
 cases dst with
 | none=>exact ⟨s0,st,hk,h1,h.x,h.β,h.t0,h.cc⟩
 | some d=>
  obtain ⟨sl,bx,tk⟩:=st;have Lq:=hd.2;simp only [fi,Bool.and_eq_true,Nat.blt_eq] at Lq
  have hold:∀ i x,i≠d->get s0 i=some x->(Holds (a.put (some d) v).tmps x.gs->∃ u,(a.put (some d) v).tmps[i]? = some u/\Rv (D.wc E) x.s u)/\(¬ Holds (a.put (some d) v).tmps x.gs->(a.put (some d) v).tmps[i]? = some undef):=by
   intro i x hi hx;simp only [Act.put];rw [Array.getElem?_setIfInBounds_ne (Ne.symm hi),kG (ln Lq.2 i x hx)];exact h.t0 i x hx
  simp only [put2] at hk;split at hk
  ·rename_i hb;refine ⟨_,_,hk,h1,h.x,h.β,fun i x hx=>?_,h.cc⟩;simp only [cY] at hx;split at hx
   ·rename_i xr;subst xr;simp only [oI] at hx;subst hx;have h2:(a.tmps.setIfInBounds d v)[d]? = some v:=by simp [Array.getElem?_setIfInBounds,h.rel.sz,Lq.1]
    simp only [Act.put];rw [kG (Ex d rfl),h2];refine ⟨fun hh=>⟨v,rfl,?_⟩,fun hh=>by rw [IW hh]⟩;rcases Bool.or_eq_true _ _ |>.mp hb with hb | hb
    ·exact nY hb hh
    ·exact Hl hb (o6 hh)
   ·rename_i xr;exact hold i x (Ne.symm xr) hx
  ·rw [pE] at hk;refine ⟨_,_,hk,h1,h.x,h.β,fun i x hx=>?_,h.cc⟩;obtain ⟨h3,h4⟩:=get_filter d s0 i x hx;exact hold i x h3 h4
theorem lC (h:fm X D c E s0 st a w) {d:Nat} {b:Bool} (hd:a.tmps[d]? = some (.bool b)):fm X D c E (s0.map (bp d b)) (st.resolve d b) a w where
 rel:=jY h.rel hd
 x:=h.x
 β:=h.β
 t0:=by
  intro i y hy;simp only [get_map,Option.map_eq_some_iff] at hy;obtain ⟨x,hx,rfl⟩:=hy;have ht:=h.t0 i x hx;unfold bp;split
  ·rename_i hi;have dE:i=d:=by simpa using hi
   subst dE;exact ⟨fun _=>⟨_,hd,fj rfl⟩,fun hn=>(hn (bc _)).elim⟩
  ·split
   ·rename_i hc
    have hn:¬ Holds a.tmps x.gs:=by
     intro hh;have:=hh (d,!b) (by simpa using hc);simp only at this;rw [hd] at this;cases b<;>simp at this
    exact ⟨fun _=>⟨_,ht.2 hn,sj _⟩,fun hn=>(hn (bc _)).elim⟩
   ·have he:Holds a.tmps (x.gs.filter fun p=>p != (d,b))↔Holds a.tmps x.gs:=by
     constructor
     ·intro hh p hp;by_cases Hc:p=(d,b)
      ·subst Hc;exact hd
      ·exact hh p (by simp [List.mem_filter,hp,Hc])
     ·intro hh p hp;exact hh p (List.mem_filter.1 hp).1
    simp only [he];exact ht
 cc:=h.cc
theorem lD {nt d:Nat} {b:Bool} {dst:Option Nat} (h:(fi nt st.sl dst && fi nt s0 dst)=true):(fi nt (st.resolve d b).sl dst && fi nt (s0.map (bp d b)) dst)=true:=by
 simp only [Bool.and_eq_true] at h ⊢;exact ⟨jZ h.1,jZ (st:=⟨s0,[],[]⟩) h.2⟩
theorem B2 (hD:tj D.E0 D.d.kI.bx D.wr) (h:fm X D c E s0 st a w) {G:List (Nat × Bool)} (hG:Holds a.tmps G) {o:Oper} {b:Bool} {s:DV} (hp:pR X D.d c s0 st G o.op=some (b,s)) :
  gQ o.op=false/\(ma o.op=true->c=true)/\∃ v,Rv E s v/\(b=true->Rv (D.wc E) s v)/\∀ w,(ma o.op=true->D.C w)->(execOp a.eval o).run X.P w = .ok (.value v) w:=by
 unfold pR at hp;split at hp
 ·cases hp
 ·rename_i hc;simp only [Bool.and_eq_true,Bool.not_eq_true',Bool.or_eq_true] at hc;refine ⟨hc.1,fun hL=>?_,?_⟩
  ·rcases hc.2 with h1 | h1
   ·rw [hL] at h1;cases h1
   ·exact h1
  ·split at hp
   ·rename_i s' hs;simp only [oI,Prod.mk.injEq] at hp;obtain ⟨rfl,rfl⟩:=hp;obtain ⟨v,hv,hr⟩:=gU (st:=⟨s0,D.d.kI.bx,[]⟩) X.hT (h.rl0 hD) hG hs;exact ⟨v,Rv.mono (EK h.x) hv,fun _=>hv,hr⟩
   ·split at hp
    ·cases hp
    ·rename_i hL;split at hp
     ·rename_i s' hs;simp only [oI,Prod.mk.injEq] at hp;obtain ⟨rfl,rfl⟩:=hp;obtain ⟨v,hv,hr⟩:=gU (st:=⟨st.sl,[],[]⟩) X.hT h.rlE hG hs;exact ⟨v,hv,(by intro h;cases h),fun w' _=>hr w' (by intro h1;rw [hL] at h1;cases h1)⟩
     ·cases hp
theorem Lr (hD:tj D.E0 D.d.kI.bx D.wr) (h:fm X D c E s0 st a w) {o:Oper} {K:Bool->DV->Prop} (hp:optP (eR X D.d c s0 st o.op K)) :
  gQ o.op=false/\(ma o.op=true->c=true)/\∃ b s v,K b s/\Rv E s v/\(b=true->Rv (D.wc E) s v)/\∀ w,(ma o.op=true->D.C w)->(execOp a.eval o).run X.P w = .ok (.value v) w:=by
 unfold eR at hp;split at hp
 ·exact hp.elim
 ·rename_i hE;refine ⟨hE,?_⟩;split at hp
  ·rename_i hL;split at hp
   ·refine ⟨fun _=>rfl,?_⟩
    cases hs:effR X ⟨s0,D.d.kI.bx,[]⟩ o.op (K true) with
    | none=>rw [hs] at hp;exact hp.elim
    | some p=>
     rw [hs] at hp;obtain ⟨s,hk,v,hv,hr⟩:=lp (st:=⟨s0,D.d.kI.bx,[]⟩) (h.rl0 hD) hs hp;exact ⟨true,s,v,hk,Rv.mono (EK h.x) hv,fun _=>hv,hr⟩
   ·exact hp.elim
  ·rename_i hL;have eI:∀ w':World,ma o.op=true->False:=fun w' h1=>by rw [hL] at h1;cases h1
   refine ⟨fun h1=>(by rw [hL] at h1;cases h1),?_⟩;split at hp
   ·rename_i p hs;obtain ⟨s,hk,v,hv,hr⟩:=lp (st:=⟨s0,[],[]⟩) (C:=D.C) ⟨h.t0,fun i cs hi=>by simp at hi,(h.rl0 hD).cc⟩ hs hp;exact ⟨true,s,v,hk,Rv.mono (EK h.x) hv,fun _=>hv,fun w' _=>hr w' fun h1=>(eI w' h1).elim⟩
   ·cases hs:effR X ⟨st.sl,[],[]⟩ o.op (K false) with
    | none=>rw [hs] at hp;exact hp.elim
    | some p=>
     rw [hs] at hp;obtain ⟨s,hk,v,hv,hr⟩:=lp (st:=⟨st.sl,[],[]⟩) h.rlE hs hp;exact ⟨false,s,v,hk,hv,(by intro h;cases h),fun w' _=>hr w' fun h1=>(eI w' h1).elim⟩
theorem PA {P:Program} {o:Oper} {K:Act->World->Prop} (h:wq P o a w K):wq P o a w fun a' w'=>K a' w' /\ ∃ u,a'=a.put o.dst u:=by
 unfold wq at *;split at h
 ·exact ⟨h,_,rfl⟩
 ·exact ⟨h,_,rfl⟩
 ·refine h.mono ?_;rintro e w' ⟨v,rfl,hv⟩;exact ⟨v,rfl,hv,v,rfl⟩
 ·exact h.elim
theorem Hm (h:fm X D c E s0 st a w) {t:Option Nat} {E':En} {st':St} {a':Act} {w':World} (hs:KE t E w E' w') (hr:Rel X E' st' a' w') (ht:∀ j,t=some j->D.E0.β.length<=j∨D.d.kI.bx[j]? = some []):D.C w->D.C w':=fun hC=>
 ⟨fun i b cs hb ct aN=>by
  have fT:=h.x.β i b hb
  rw [hs.o i _ fT fun e=>by
   rcases ht i e with h1 | h1
   ·have:=(gS hb).1;omega
   ·rw [ct] at h1;simp only [oI] at h1;exact aN h1]
  exact hC.o i b cs hb ct aN,fun x v hx=>hr.env.sub x v (hs.x.c x v (h.x.c x v hx))⟩
theorem uA (h:fm X D c E s0 st a w) {t:Option Nat} {E':En} {st':St} {w':World} {c':Bool} {iD:List (Nat × Sl)} {dst:Option Nat} {u:Value} (hs:KE t E w E' w') (hr:Rel X E' st' (a.put dst u) w') (n8:c'=true->D.C w')
  (ht0:∀ i x,get iD i=some x->(∃ d,dst=some d/\i=d/\scal x.s=true/\get st'.sl d=some x)∨(get s0 i=some x/\∀ d,dst=some d->i≠d)) (hd:fi X.nt s0 dst=true):fm X D c' E' iD st' (a.put dst u) w' where
 rel:=hr
 x:=by
  refine ⟨fun y v hy=>hs.x.c y v (h.x.c y v hy),fun j b hb=>hs.x.β j b (h.x.β j b hb),fun k q hq=>?_⟩;obtain ⟨q1,h1,h2⟩:=h.x.tk k q hq;obtain ⟨q2,h3,h4⟩:=hs.x.tk k q1 h1;refine ⟨q2,h3,?_⟩;rcases h2 with ⟨h2,h5⟩ | h2
  ·rcases h4 with ⟨h4,h6⟩ | h4
   ·exact .inl ⟨by omega,by rw [h6,h5]⟩
   ·exact .inr (by omega)
  ·rcases h4 with ⟨h4,h6⟩ | h4
   ·exact .inr (by omega)
   ·exact .inr (by omega)
 β:=by
  obtain ⟨r1,h1⟩:=h.β;obtain ⟨r2,h2⟩:=hs.β;exact ⟨r1 ++ r2,by rw [h2,h1,List.append_assoc]⟩
 t0:=fun i x hx=>by
  rcases ht0 i x hx with ⟨d,rfl,rfl,El,hg⟩ | ⟨hg,aN⟩
  ·have:=hr.tm _ _ hg;refine ⟨fun hh=>?_,this.2⟩;obtain ⟨v,h1,h2⟩:=this.1 hh;exact ⟨v,h1,Hl El h2⟩
  ·have h1:=h.t0 i x hg
   cases dst with
   | none=>
    refine ⟨fun hh=>?_,h1.2⟩;obtain ⟨v,h2,h3⟩:=h1.1 hh;exact ⟨v,h2,Rv.mono (Hk hs.x) h3⟩
   | some d=>
    simp only [fi,Bool.and_eq_true,Nat.blt_eq] at hd;simp only [Act.put];rw [Array.getElem?_setIfInBounds_ne (Ne.symm (aN d rfl)),kG (ln hd.2 i x hg)];refine ⟨fun hh=>?_,h1.2⟩;obtain ⟨v,h2,h3⟩:=h1.1 hh;exact ⟨v,h2,Rv.mono (Hk hs.x) h3⟩
 cc:=n8
def WA (X:Ctx) (D:Dw) (l:List Nat) (G:Bool->List (Nat × Sl)->St->Prop):Prop:=∀ c s0 st,G c s0 st->∀ E a w,fm X D c E s0 st a w->runT X.P D.d.ops D.d.W D.C (D.Q X) l a w
theorem EL (hD:tj D.E0 D.d.kI.bx D.wr) {l:List (Nat × Oper)} (hl:∀ p∈l,D.d.ops[p.1]? = some p.2) {G:Bool->List (Nat × Sl)->St->Prop} (hG:WA X D (l.map (·.1)) G) {o:Oper} (hd:(fi X.nt st.sl o.dst && fi X.nt s0 o.dst)=true) (h:fm X D c E s0 st a w)
  (he:effE X D.d c i l o s0 st G):wq X.P o a w fun a' w'=>(D.d.W i=false->D.C w->D.C w')/\runT X.P D.d.ops D.d.W D.C (D.Q X) (l.map (·.1)) a' w':=by
 have xC:=hd;simp only [Bool.and_eq_true] at xC;have hlen:D.E0.β.length=D.d.kI.bx.length:=hD.len
 have core:∀ (K:St->Prop) (p:Prop) (c1:Bool),effC X st o K=some p->p->(c1=true->c=true)->(c1=true∨D.d.W i=false->∀ j,stObj st o.op=some j->D.E0.β.length<=j∨D.d.kI.bx[j]? = some []) ->
   (∀ st',K st' -> ∃ iD,G c1 iD st' /\ ∀ i x,get iD i=some x->(∃ d,o.dst=some d/\i=d/\scal x.s=true/\get st'.sl d=some x)∨(get s0 i=some x/\∀ d,o.dst=some d->i≠d)) ->
   wq X.P o a w fun a' w'=>(D.d.W i=false->D.C w->D.C w')/\runT X.P D.d.ops D.d.W D.C (D.Q X) (l.map (·.1)) a' w':=by
  intro K p c1 hp hpp I7 aT hK;refine lr ?_ (PA (lu xC.1 h.rel hp hpp));rintro a' w' ⟨⟨st',E',hk,hr,hs⟩,u,rfl⟩;refine ⟨fun hW=>Hm h hs hr (aT (.inr hW)),?_⟩;obtain ⟨iD,hg,ht0⟩:=hK st' hk;exact hG c1 iD st' hg E' _ w' (uA h hs hr (fun hc=>Hm h hs hr (aT (.inl hc)) (h.cc (I7 hc))) ht0 xC.2)
 have Q8:(∀ t x y,o.op ≠ .store t x y)->∀ j,stObj st o.op=some j->D.E0.β.length<=j∨D.d.kI.bx[j]? = some []:=by
  intro aN j hj;unfold stObj at hj;split at hj
  ·rename_i t x y kK;exact (aN t x y kK).elim
  ·cases hj
 have WB:∀ (d:Nat) (st':St),o.dst=some d->∀ i x,get (s0.filter fun p=>!Nat.beq p.1 d) i=some x->(∃ d,o.dst=some d/\i=d/\scal x.s=true/\get st'.sl d=some x)∨(get s0 i=some x/\∀ d,o.dst=some d->i≠d):=by
  intro d st' gW i x hx;obtain ⟨h1,h2⟩:=get_filter d s0 i x hx;exact .inr ⟨h2,fun d' xC=>by rw [gW] at xC;cases xC;exact h1⟩
 unfold effE at he;split at he
 ·rename_i t x y kK;split at he
  ·exact he.elim
  ·rename_i gW;have BM:∀ st':St,∀ i x,get s0 i=some x->(∃ d,o.dst=some d/\i=d/\scal x.s=true/\get st'.sl d=some x)∨(get s0 i=some x/\∀ d,o.dst=some d->i≠d):=fun st' i x hx=>.inr ⟨hx,fun d hd=>by rw [gW] at hd;cases hd⟩;split at he
   ·rename_i hW
    cases hp:effC X st o (G false s0) with
    | none=>rw [hp] at he;exact he.elim
    | some p=>
     rw [hp] at he;exact core _ p false hp he (by intro h;cases h) (by rintro (h1 | h1);cases h1;rw [hW] at h1;cases h1) fun st' hk=>⟨s0,hk,BM st'⟩
   ·split at he
    ·rename_i j hj;split at he
     ·rename_i fQ
      have fQ:D.d.kI.bx.length<=j∨D.d.kI.bx[j]? = some []:=by
       rcases Bool.or_eq_true _ _ |>.mp fQ with h1 | h1
       ·exact .inl (by simpa using h1)
       ·exact .inr (Pz h1)
      cases hp:effC X st o (G c s0) with
      | none=>rw [hp] at he;exact he.elim
      | some p=>
       rw [hp] at he;exact core _ p c hp he id (fun _ j' fT=>by rw [hj] at fT;cases fT;rw [hlen];exact fQ) fun st' hk=>⟨s0,hk,BM st'⟩
     ·exact he.elim
    ·exact he.elim
 ·rename_i cl kK;split at he
  ·rename_i f tp;split at he
   ·rename_i g first captured vs hf q4
    obtain ⟨j1,WC⟩:=he;have gl:=h.rel.rl;have e1:=aQ gl hf;unfold Rv at e1;obtain ⟨l1,r1,e1,Bp,hr1⟩:=e1;have hargs:=gT gl (bc _) _ _ q4;obtain ⟨dst,op,ty,pos,after,gu⟩:=o;obtain ⟨callee,args,argTypes⟩:=cl;simp only at kK tp;subst kK tp
    have hr:(execOp a.eval ⟨dst,.call ⟨.value f,args,argTypes⟩,ty,pos,after,gu⟩).run X.P w = .ok (.enter g (l1 ++ args.toList.map a.eval ++ r1).toArray) w:=by
     have e3:(l1.toArray ++ args.map a.eval ++ r1.toArray)=(l1 ++ args.toList.map a.eval ++ r1).toArray:=by apply Array.ext';simp
     simp only [execOp,resolve,e1,Deferred.ofValue,Sem.run_bind,Sem.run_pure,Result.andThen_ok,invoke,e3];exact j1 _ _
    unfold wq;rw [hr];exact WC hl D.E0 D.wr hD E a w _ h ((Bp.append hargs).append hr1)
   ·exact he.elim
  ·split at he
   ·rename_i d gW
    cases hp:effC X st o (fun st'=>delF d s0 fun iD=>G c iD st') with
    | none=>rw [hp] at he;exact he.elim
    | some p=>
     rw [hp] at he;refine core _ p c hp he id (fun _=>Q8 (fun t x y h1=>by rw [kK] at h1;cases h1)) fun st' hk=>?_;rw [pE] at hk;exact ⟨_,hk,WB d st' gW⟩
   ·exact he.elim
 ·rename_i su tC;split at he
  ·rename_i d gW
   cases hp:effC X st o (fun st'=>
    match get st'.sl d with
    | some ⟨[],.loc j off⟩=>G c ((d,⟨[],.loc j off⟩) :: s0) st'
    | _=>delF d s0 fun iD=>G c iD st') with
   | none=>rw [hp] at he;exact he hl D.E0 D.wr hD E a w h
   | some p=>
    rw [hp] at he;refine core _ p c hp he id (fun _=>Q8 su) fun st' hk=>?_;split at hk
    ·rename_i j off hg;refine ⟨_,hk,fun i x hx=>?_⟩;simp only [cY] at hx;split at hx
     ·rename_i xr;simp only [oI] at hx;subst hx;exact .inl ⟨d,gW,xr.symm,rfl,hg⟩
     ·rename_i xr;exact .inr ⟨hx,fun d' xC=>by rw [gW] at xC;cases xC;exact Ne.symm xr⟩
    ·rw [pE] at hk;exact ⟨_,hk,WB d st' gW⟩
  ·exact he.elim
theorem eA (hD:tj D.E0 D.d.kI.bx D.wr):∀ n c l s0 st,goD X D.d n c l s0 st->(∀ p∈l,D.d.ops[p.1]? = some p.2)->∀ E a w,fm X D c E s0 st a w->runT X.P D.d.ops D.d.W D.C (D.Q X) (l.map (·.1)) a w
 | n,c,[],s0,st,hg,hl=>by
  intro E a w h;have hg:(match D.d.fin with | none=>go X 4000 D.d.k st | some F=>F c s0 st):=by cases n<;>simpa only [goD] using hg
  show D.Q X a w;unfold Dw.Q
  cases hf:D.d.fin with
  | none=>
   rw [hf] at hg;exact go_sound 4000 _ _ hg E a w h.rel
  | some F=>
   rw [hf] at hg;exact ⟨c,E,s0,st,h,hg⟩
 | 0,c,_ :: _,s0,st,hg,_=>by exact hg.elim
 | n + 1,c,(i,o) :: r,s0,st,hg,hl=>by
  intro E a w h;have ho:D.d.ops[i]? = some o:=hl (i,o) (by simp);have q4:∀ p∈r,D.d.ops[p.1]? = some p.2:=fun p hp=>hl p (List.mem_cons_of_mem _ hp);simp only [List.map_cons];have ih:∀ c s0 st,goD X D.d n c r s0 st->∀ E a w,fm X D c E s0 st a w->runT X.P D.d.ops D.d.W D.C (D.Q X) (r.map (·.1)) a w:=fun c s0 st hg=>eA hD n c r s0 st hg q4;have ihG:WA X D (r.map (·.1)) (fun c s0 st=>goD X D.d n c r s0 st):=fun c s0 st hg=>ih c s0 st hg;simp only [goD,G8,zE] at hg;split at hg
  ·exact hg.elim
  ·rename_i hd
   have fR:∀ (v:Value) iD st',gQ o.op=false->Yl X.P D.d.ops D.C o v a->(ma o.op=true->c=true)->goD X D.d n c r iD st' -> fm X D c E iD st' (a.put o.dst v) w ->
     runT X.P D.d.ops D.d.W D.C (D.Q X) (i :: r.map (·.1)) a w:=by
    intro v iD st' hE hy jT oB cf;simp only [runT,ho];rw [if_neg (by simp [hE])];exact ⟨v,hy,fun hL=>h.cc (jT hL),ih c iD st' oB E _ w cf⟩
   have fS:∀ iD st',gQ o.op=true->Region.wanted o (yielded D.d.ops a.tmps)=false->goD X D.d n c r iD st' -> fm X D c E iD st' (a.put o.dst undef) w ->
     runT X.P D.d.ops D.d.W D.C (D.Q X) (i :: r.map (·.1)) a w:=by
    intro iD st' hE hw oB cf;simp only [runT,ho];rw [if_pos hE];unfold dG;rw [if_neg (by simp [hw])];exact ⟨fun _ h=>h,ih c iD st' oB E _ w cf⟩
   have fE:∀ iD st',gQ o.op=true->Region.wanted o (yielded D.d.ops a.tmps)=true->(fi X.nt st'.sl o.dst && fi X.nt iD o.dst)=true->effE X D.d c i r o iD st' (fun c' iD st'=>goD X D.d n c' r iD st')->fm X D c E iD st' a w ->
     runT X.P D.d.ops D.d.W D.C (D.Q X) (i :: r.map (·.1)) a w:=by
    intro iD st' hE hw xC he cf;simp only [runT,ho];rw [if_pos hE];unfold dG;rw [if_pos hw];exact EL hD q4 ihG xC cf he
   have fP:∀ iD st',Region.wanted o (yielded D.d.ops a.tmps)=true->(fi X.nt st'.sl o.dst && fi X.nt iD o.dst)=true->optP (eR X D.d c iD st' o.op fun b s=>put2 iD st' o.dst b [] s (goD X D.d n c r))->fm X D c E iD st' a w ->
     runT X.P D.d.ops D.d.W D.C (D.Q X) (i :: r.map (·.1)) a w:=by
    intro iD st' hw xC he cf;obtain ⟨hE,jT,b,s,v,hk,hv,nY,bZ⟩:=Lr hD cf he;obtain ⟨s1,qN,mn,eF⟩:=ju cf xC b [] s v (fun _ _ p hp=>by cases hp) (fun _=>hv) (fun hb _=>nY hb) (fun hn=>(hn (bc _)).elim) hk;exact fR v s1 qN hE (.inl ⟨hw,bZ⟩) jT mn eF
   have udE:∀ iD st',(fi X.nt st'.sl o.dst && fi X.nt iD o.dst)=true->fm X D c E iD st' a w->put2 iD st' o.dst true [] .ud (goD X D.d n c r)->∃ s1 qN,goD X D.d n c r s1 qN/\fm X D c E s1 qN (a.put o.dst undef) w:=by
    intro iD st' xC cf hk;exact ju cf xC true [] .ud undef (fun _ _ p hp=>by cases hp) (fun _=>sj E) (fun _ _=>sj _) (fun hn=>(hn (bc _)).elim) hk
   split at hg
   ·rename_i Px;have hw:Region.wanted o (yielded D.d.ops a.tmps)=true:=by simp [Region.wanted,Px]
    split at hg
    ·rename_i hE;exact fE s0 st hE hw hd hg h
    ·split at hg
     ·rename_i b s hs;obtain ⟨hE,jT,v,hv,nY,bZ⟩:=B2 hD h (bc _) hs;obtain ⟨s1,qN,mn,eF⟩:=ju h hd b [] s v (fun _ _ p hp=>by cases hp) (fun _=>hv) (fun hb _=>nY hb) (fun hn=>(hn (bc _)).elim) hg;exact fR v s1 qN hE (.inl ⟨hw,bZ⟩) jT mn eF
     ·exact fP s0 st hw hd hg h
   ·rename_i j want Px;split at hg
    ·exact hg.elim
    ·rename_i d Ex;split at hg
     ·exact hg.elim
     ·rename_i lf sd BP;have pw:=wanted_spec h.rel Px Ex BP
      have EM:¬ Holds a.tmps ((d,want) :: lf)->Region.wanted o (yielded D.d.ops a.tmps)=false:=by
       intro hn;cases hww:Region.wanted o (yielded D.d.ops a.tmps)
       ·rfl
       ·exact (hn (pw.1 hww)).elim
      split at hg
      ·rename_i b s hs;split at hg
       case h_2=>exact hg.elim
       rename_i bG;have WD:=uw bG;by_cases hh:Holds a.tmps ((d,want) :: lf)
       ·obtain ⟨hE,jT,v,hv,nY,bZ⟩:=B2 hD h hh hs;obtain ⟨s1,qN,mn,eF⟩:=ju h hd b _ s v WD (fun _=>hv) (fun hb _=>nY hb) (fun hn=>(hn hh).elim) hg;exact fR v s1 qN hE (.inl ⟨pw.2 hh,bZ⟩) jT mn eF
       ·obtain ⟨s1,qN,mn,eF⟩:=ju h hd b _ s undef WD (fun hn=>(hh hn).elim) (fun _ hn=>(hh hn).elim) (fun _=>rfl) hg
        have jT:gQ o.op=false/\(ma o.op=true->c=true):=by
         unfold pR at hs;split at hs
         ·cases hs
         ·rename_i hc;simp only [Bool.and_eq_true,Bool.not_eq_true',Bool.or_eq_true] at hc;refine ⟨hc.1,fun hL=>?_⟩;rcases hc.2 with h1 | h1
          ·rw [hL] at h1;cases h1
          ·exact h1
        exact fR undef s1 qN jT.1 (.inr ⟨EM hh,rfl⟩) jT.2 mn eF
      ·split at hg
       ·rename_i b gk;have ht0:=BQ h.rel gk
        cases lf with
        | nil=>
         simp only [lastG] at gk ht0;cases zO:(b == want)
         ·have EI:b = !want:=by cases b<;>cases want<;>simp_all
          have hg:=hg.f zO
          have hn:Region.wanted o (yielded D.d.ops a.tmps)=false:=by
           refine EM fun hh=>?_;have:=hh (d,want) (by simp);simp only at this;rw [ht0] at this;simp only [oI,Value.bool.injEq] at this;rw [this] at zO;simp at zO
          have hr:=lC (d:=d) (b:=!want) h (by rw [ht0,EI]);split at hg
          ·rename_i jT
           have Ti:ma o.op=true->c=true:=by
            intro hL;simpa [hL] using jT
           obtain ⟨s1,qN,mn,eF⟩:=udE _ _ (lD hd) hr hg;cases hE:gQ o.op
           ·exact fR undef s1 qN hE (.inr ⟨hn,rfl⟩) Ti mn eF
           ·exact fS s1 qN hE hn mn eF
          ·exact hg.elim
         ·have BR:b=want:=by simpa using zO
          have hg:=hg.t zO;subst BR;have hw:Region.wanted o (yielded D.d.ops a.tmps)=true:=pw.2 (jl ht0 (bc _));have hr:=lC (d:=d) (b:=b) h ht0;split at hg
          ·rename_i hE;exact fE _ _ hE hw (lD hd) hg hr
          ·exact fP _ _ hw (lD hd) hg hr
        | cons g1 gr=>
         have key:∀ e,a.tmps[(lastG (d,want) (g1 :: gr)).1]? = some (.bool e)->goD X D.d n c ((i,o) :: r) (s0.map (bp (lastG (d,want) (g1 :: gr)).1 e)) (st.resolve (lastG (d,want) (g1 :: gr)).1 e)->_:=
          fun e K6 oB=>eA hD n c ((i,o) :: r) _ _ oB hl E a w (lC h K6)
         cases zO:(b == (lastG (d,want) (g1 :: gr)).2)
         ·have hg:=hg.f zO;have EI:b = !(lastG (d,want) (g1 :: gr)).2:=by cases b<;>cases h0:(lastG (d,want) (g1 :: gr)).2<;>simp_all
          exact key _ (by rw [ht0,EI]) hg
         ·have hg:=hg.t zO;have BR:b=(lastG (d,want) (g1 :: gr)).2:=by simpa using zO
          exact key _ (by rw [ht0,BR]) hg
       ·rename_i gk
        cases lf with
        | nil=>
         have ht0:=Lh h.rel gk;simp only [lastG] at ht0
         have hn:Region.wanted o (yielded D.d.ops a.tmps)=false:=by
          refine EM fun hh=>?_;have:=hh (d,want) (by simp);simp only at this;rw [ht0] at this;simp [undef] at this
         simp only at hg;split at hg
         ·rename_i jT
          have Ti:ma o.op=true->c=true:=by
           intro hL;simpa [hL] using jT
          obtain ⟨s1,qN,mn,eF⟩:=udE _ _ hd h hg;cases hE:gQ o.op
          ·exact fR undef s1 qN hE (.inr ⟨hn,rfl⟩) Ti mn eF
          ·exact fS s1 qN hE hn mn eF
         ·exact hg.elim
        | cons g1 gr=>exact hg.elim
       ·exact hg.elim
def OpS (X:Ctx) (o:Oper) (st st':St):Prop:=∀ E a w,Rel X E st a w->wq X.P o a w fun a' w'=>∃ E',Rel X E' st' a' w' /\ KE none E w E' w'
theorem OpS.g {o:Oper} {k:List It} {st st':St} (h:OpS X o st st') (hk:go X 4000 k st'):IQ X o k st:=fun E a w hr=>by
 refine BK (lr ?_ (h E a w hr));rintro a' w' ⟨E',gV,_⟩;exact go_sound 4000 _ _ hk E' a' w' gV
def nOps:Nat->List Oper->List (Nat × Oper)
 | _,[]=>[]
 | i,o :: r=>(i,o) :: nOps (i + 1) r
theorem uB:∀ (l:List Oper) (i:Nat) (p:Nat × Oper),p∈nOps i l->i<=p.1/\l[p.1 - i]? = some p.2
 | [],_,_,h=>by cases h
 | o :: r,i,p,h=>by
  rcases List.mem_cons.1 h with h | h
  ·subst h;simp
  ·have:=uB r (i + 1) p h;refine ⟨by omega,?_⟩;rw [show p.1 - i=(p.1 - (i + 1)) + 1 by omega];simpa using this.2
theorem uC:∀ (l:List Oper) (i:Nat),(nOps i l).map (·.1)=List.range' i l.length
 | [],_=>rfl
 | o :: r,i=>by simp only [nOps,List.map_cons,uC r (i + 1),List.length_cons,List.range'_succ]
theorem oD (hr:Rel X E st a w) {ops:Array Oper} {W:Nat->Bool} {k:List It}:fm X ⟨⟨ops,W,k,st,none⟩,E,w⟩ true E st.sl st a w where
 rel:=hr
 x:=Ext.refl E
 β:=⟨[],by simp⟩
 t0:=hr.tm
 cc:=fun _=>⟨fun _ _ _ _ _ _=>rfl,hr.env.sub⟩
theorem aE {id:Nat} {ops:Array Oper} {k:List It} {st:St} (W:Nat->Bool) (hm:X.P.follows .mixedOrders=true) (hc:Lo ops W=true)
  (h:goD X ⟨ops,W,k,st,none⟩ 3000 true (nOps 0 ops.toList) st.sl st):x0 X id ops k st:=by
 intro E a w hr;have gV:=kH hr;have hs:=oD gV (ops:=ops) (W:=W) (k:=k);refine km (C:=CC E st.bx w.drew) (W:=W) (Q:=kq X k .normal) hm hc (fun a w h=>h) (hs.cc rfl) ?_;have:=eA (D:=⟨⟨ops,W,k,st,none⟩,E,w.drew⟩) gV.env.em 3000 true _ _ _ h (fun p hp=>by simpa using (uB _ _ p hp).2) E a w.drew hs;rw [uC] at this;rw [List.range_eq_range'];simp only [Array.length_toList] at this;exact this
def maskL:List Nat->Nat->List (List DV)->List (List DV)
 | _,_,[]=>[]
 | m,i,cs :: r=>(match m.contains i with | true=>[] | false=>cs) :: maskL m (i + 1) r
theorem q6 (m:List Nat):∀ (l:List (List DV)) (i:Nat),(maskL m i l).length=l.length
 | [],_=>rfl
 | cs :: r,i=>by simp [maskL,q6 m r]
theorem q7 (m:List Nat):∀ (l:List (List DV)) (i j:Nat) cs,(maskL m i l)[j]? = some cs->cs=[]∨l[j]? = some cs
 | [],_,_,_,h=>by simp [maskL] at h
 | c :: r,i,0,cs,h=>by
  simp only [maskL,List.getElem?_cons_zero,oI] at h;split at h
  ·exact .inl h.symm
  ·exact .inr (by simp [h])
 | c :: r,i,j + 1,cs,h=>by
  simp only [maskL,List.getElem?_cons_succ] at h ⊢;exact q7 m r (i + 1) j cs h
theorem tI {id:Nat} {ops:Array Oper} {k:List It} {st:St} (m:List Nat) (W:Nat->Bool) (hm:X.P.follows .mixedOrders=true) (hc:Lo ops W=true)
  (h:goD X ⟨ops,W,k,⟨st.sl,maskL m 0 st.bx,st.tk⟩,none⟩ 3000 true (nOps 0 ops.toList) st.sl st):x0 X id ops k st:=by
 intro E a w hr;have gV:=kH hr;have hs:fm X ⟨⟨ops,W,k,⟨st.sl,maskL m 0 st.bx,st.tk⟩,none⟩,E,w.drew⟩ true E st.sl st a w.drew:=⟨gV,Ext.refl E,⟨[],by simp⟩,gV.tm,fun _=>⟨fun _ _ _ _ _ _=>rfl,gV.env.sub⟩⟩;refine km (C:=CC E (maskL m 0 st.bx) w.drew) (W:=W) (Q:=kq X k .normal) hm hc (fun a w h=>h) (hs.cc rfl) ?_
 have Tj:tj E (maskL m 0 st.bx) w.drew:=⟨by rw [q6];exact gV.env.len,fun i cs hi aN=>by
  rcases q7 m _ _ _ _ hi with h1 | h1
  ·exact (aN h1).elim
  ·exact gV.env.eu i cs h1⟩
 have:=eA (D:=⟨⟨ops,W,k,⟨st.sl,maskL m 0 st.bx,st.tk⟩,none⟩,E,w.drew⟩) Tj 3000 true _ _ _ h (fun p hp=>by simpa using (uB _ _ p hp).2) E a w.drew hs;rw [uC] at this;rw [List.range_eq_range'];simp only [Array.length_toList] at this;exact this
def stW (ops:Array Oper) (i:Nat):Bool:=
 match ops.toList[i]? with
 | some o=>
  match o.op with
  | .store ..=>true
  | _=>false
 | none=>false
theorem aP {id:Nat} {ops:Array Oper} {k:List It} {st:St} (hm:X.P.follows .mixedOrders=true) (hc:Lo ops (stW ops)=true)
  (h:goD X ⟨ops,stW ops,k,st,none⟩ 3000 true (nOps 0 ops.toList) st.sl st):x0 X id ops k st:=aE (stW ops) hm hc h
theorem pF {D:Dr} {f:FuncId} {args bJ:List DV} {d:Nat} {r:List (Nat × Oper)} (j1:Enters X.P f) (hd:(fi X.nt st.sl (some d) && fi X.nt s0 (some d))=true) {Φ:DV->List (List DV)->List TkE->Prop} (hc:Ev X.P f bJ [] [] Φ) (ha:CcL [] 0 0 0 bJ args)
  (hk:∀ KK,Φ KK [] []->put2 s0 st (some d) false [] KK (goD X D 3000 c r)) (aT:X.still=false:=by exact rfl):B1 X D c i r f args (some d) s0 st:=by
 refine ⟨j1,fun hl E0 wr hD E a w vs h hv=>(ss h.rel aT hc ha hv).mono ?_⟩;rintro e w' ⟨v,E',KK,rfl,cf,hr,hΦ,hm,hx,hβ⟩
 have hh:∀ b,b < w.heap.size->w'.heap[b]? = w.heap[b]?:=fun b hb=>hm.block b hb (by
  rintro (h1 | ⟨y,h1,_⟩)
  ·simp [En.cl] at h1
  ·simp [En.cl] at h1)
 have hs:KE none E w E' w':=⟨hx,⟨[],by rw [hβ];simp⟩,fun j b hb _=>hh b (h.rel.env.aZ (mG hb))⟩;have hC:=Hm h hs cf (fun j hj=>by cases hj);refine ⟨v,rfl,fun _=>hC,?_⟩;have Ls:fm X ⟨D,E0,wr⟩ c E' s0 st (a.put none v) w':=uA h hs cf (fun h1=>hC (h.cc h1)) (fun i x hx=>.inr ⟨hx,fun d hd=>by cases hd⟩) rfl;obtain ⟨s1,qN,mn,eF⟩:=ju Ls hd false [] KK v (fun _ _ p hp=>by cases hp) (fun _=>hr) (fun hb=>by cases hb) (fun hn=>(hn (bc _)).elim) (hk KK hΦ);exact eA (D:=⟨D,E0,wr⟩) hD 3000 c r _ _ mn hl E' _ w' eF
theorem ay {D:Dr} {f:FuncId} {args bJ:List DV} {d:Nat} {r:List (Nat × Oper)} {KK:DV} (j1:Enters X.P f) (hc:EvP X.P f bJ KK) (ha:CcL [] 0 0 0 bJ args) (hd:(fi X.nt st.sl (some d) && fi X.nt s0 (some d))=true)
  (hk:put2 s0 st (some d) false [] KK (goD X D 3000 c r)) (aT:X.still=false:=by exact rfl):B1 X D c i r f args (some d) s0 st:=
 pF j1 hd hc ha (fun _ hr=>hr ▸ hk) aT
theorem jv {D:Dr} {i:Nat} {f:FuncId} {args:List DV} {dst:Option Nat} (hW:D.W i=true) (h:dL X f args dst D.k st) (hf:D.fin=none:=by exact rfl):B1 X D c i [] f args dst s0 st:=by
 refine ⟨h.1,fun _ E0 wr _ E a w vs hr hv=>(h.2.2 E a w vs hr.rel hv).mono ?_⟩;intro e w' hq
 cases e with
 | returned v=>
  refine ⟨v,rfl,⟨(fun hw=>by rw [hW] at hw;cases hw),?_⟩⟩;show Dw.Q ⟨D,E0,wr⟩ X _ _;unfold Dw.Q;simp only [hf];exact hq
 | _=>exact hq.elim
end
end Dv
end Go.Proofs.YtfifjddnnmfeoaaGreat
namespace Go.Proofs.YtfifjddnnmfeoaaGreat
namespace Dv
open Go Go.RowKit
section
variable {P:Program} {ops:Array Oper} {C:World->Prop} {Q:Act->World->Prop} {W:Nat->Bool} {π π':Nat->Nat}
theorem yf {o:Oper} {i:Nat} {a:Act} {w:World} {K:Act->World->Prop} {Q':Exit->Act->World->Prop} (ho:ops[i]? = some o) (h:dG P ops o a w K):wpOp P ops Q' i K a w:=by
 unfold wpOp;rw [ho];simp only;unfold dG at h;split
 ·rename_i hw;rw [if_pos hw] at h;exact .inl (BK h)
 ·rename_i hw;rw [if_neg hw] at h;exact h
def chkT (ops:Array Oper) (x y:Nat):Bool:=
 (List.range ops.size).all fun i=>Nat.beq i x || Nat.beq i y ||
  match ops[i]? with
  | some o=>!gQ o.op || ordB ops ops.size x i
  | none=>false
def tq (x y:Nat):Nat->Nat->Bool:=fun j i=>Nat.beq j x && Nat.beq i y
theorem EN {x y:Nat} {Q':Exit->Act->World->Prop} (EO:x≠y) (Vu:pA ops W π=true) (WE:ti ops W π (tq x y)=true) (h2O:pA ops W π'=true) (WG:ti ops W π' (tq y x)=true) (hT:chkT ops x y=true)
  (hQ:∀ a w,Q a w->Q' .normal a w):∀ (kk:Nat) (listed:Array Bool) (r1 r2:List Nat) (a:Act) (w:World),
  listed.size=ops.size->Dn ops listed->(∀ i,i∈r1↔i < ops.size/\listed.getD i true=false)->(∀ i,i∈r2↔i < ops.size/\listed.getD i true=false)->r1.Pairwise (fun a b=>π a < π b)->r2.Pairwise (fun a b=>π' a < π' b)->r1.length<=kk ->
   x∈r1->y∈r1->C w->runT P ops W C Q r1 a w->runT P ops W C Q r2 a w->wpAny P .any ops Q' kk listed a w:=by
 have dM:=pD Vu;have qL:=pB Vu;have Tk:=pB h2O;have h1S':=WE;have h2S':=WG;simp only [ti,List.all_eq_true,List.mem_range,Bool.or_eq_true,Bool.not_eq_true'] at WE WG;intro kk
 induction kk with
 | zero=>
  intro listed r1 r2 a w bE O7 fD qW q8 B3 hlen hx hy hC hr1 hr2;have:r1=[]:=List.length_eq_zero_iff.1 (by omega);rw [this] at hx;cases hx
 | succ kk ih=>
  intro listed r1 r2 a w bE O7 fD qW q8 B3 hlen hx hy hC hr1 hr2;have Tl:∀ i,i∈r1↔i∈r2:=fun i=>(fD i).trans (qW i).symm;have EP:r1.Nodup:=mq q8;have uD:r2.Nodup:=mq B3;have BX:=q5 Vu;refine ⟨fun h0=>?_,fun i hi=>?_⟩
  ·cases r1 with
   | nil=>cases hx
   | cons h rem=>
    have hh:=(fD h).1 (by simp);have hxx:ops[h]? = some ops[h]:=Array.getElem?_eq_getElem hh.1
    have:h∈Region.ready .any ops listed:=by
     refine mem_ready.2 ⟨hh.2,_,hxx,fun e he hb=>?_⟩;obtain ⟨ap,BZ⟩:=BX h _ hxx e he hb;cases hg:listed.getD e.on false
     ·have Eo:listed.getD e.on true=false:=by
       have:e.on < listed.size:=by rw [bE];omega
       simp [this] at hg ⊢;exact hg
      have hm:=(fD e.on).2 ⟨by omega,Eo⟩;rcases List.mem_cons.1 hm with e1 | e1
      ·rw [e1] at ap;omega
      ·have:=(List.pairwise_cons.1 q8).1 _ e1;omega
     ·rfl
    rw [h0] at this;cases this
  ·obtain ⟨ye,o,ho,gH⟩:=mem_ready.1 hi;have dE:=(Array.getElem?_eq_some_iff.1 ho).1;have B0:i∈r1:=(fD i).2 ⟨dE,ye⟩;have PB:i∈r2:=(Tl i).1 B0
   have gI:∀ j,j∈r1->ordB ops ops.size j i=true->False:=by
    intro j hj h1;have h2:=j2 O7 _ _ _ _ ho gH h1;have h3:=((fD j).1 hj).2;have:j < listed.size:=by rw [bE];exact ((fD j).1 hj).1
    simp [this] at h2 h3;rw [h2] at h3;cases h3
   have PD:i≠y->∀ j∈r1,j≠i->π j < π i->fV ops W j i=true:=by
    intro Tm j hj _ ap;rcases WE i dE j ((fD j).1 hj).1 with ((h1 | h1) | h1) | h1
    ·have:¬ Nat.blt (π j) (π i)=true:=by simp [h1]
     simp at this;omega
    ·simp [tq] at h1;exact (Tm h1.2).elim
    ·exact (gI j hj h1).elim
    ·exact h1
   have Tn:i≠x->∀ j∈r2,j≠i->π' j < π' i->fV ops W j i=true:=by
    intro Bs j hj _ ap;rcases WG i dE j ((qW j).1 hj).1 with ((h1 | h1) | h1) | h1
    ·have:¬ Nat.blt (π' j) (π' i)=true:=by simp [h1]
     simp at this;omega
    ·simp [tq] at h1;exact (Bs h1.2).elim
    ·exact (gI j ((Tl j).2 hj) h1).elim
    ·exact h1
   have I8:Dn ops (listed.setIfInBounds i true):=by
    intro k z hz hk e he hb;by_cases lg:k=i
    ·subst lg;rw [ho] at hz;simp only [oI] at hz;subst hz;exact getD_set_true (gH e he hb)
    ·rw [getD_set_ne true (Ne.symm lg)] at hk;exact getD_set_true (O7 k z hz hk e he hb)
   have Hn:∀ (rem:List Nat),rem.Nodup->(∀ i,i∈rem↔i < ops.size/\listed.getD i true=false)->∀ k,k∈rem.erase i↔k < ops.size/\(listed.setIfInBounds i true).getD k true=false:=by
    intro rem hnd lB k;rw [List.Nodup.mem_erase_iff hnd];by_cases lg:k=i
    ·subst lg;simp [bE,dE]
    ·rw [getD_set_ne true (Ne.symm lg)];simp only [ne_eq,lg,not_false_eq_true,true_and];exact lB k
   refine yf ho ?_;by_cases Bs:i=x
   ·subst Bs;have aT:=fl dM qL ho r1 a w (fun _=>hC) hr1 B0 (PD EO) q8;refine dc ?_ aT;rintro a' w' ⟨qM,gV⟩;refine lA (C:=C) (tq i y) Vu h1S' hQ kk _ (r1.erase i) a' w' (by simp [bE]) I8 (Hn r1 EP fD) (q8.sublist List.erase_sublist) (by rw [List.length_erase_of_mem B0];omega) ?_ ?_ gV
    ·intro j hj k _;cases fT:tq i y j k
     ·rfl
     ·simp only [tq,Bool.and_eq_true,Nat.beq_eq] at fT;exact (((List.Nodup.mem_erase_iff EP).1 hj).1 fT.1).elim
    ·rintro ⟨l,z,hl,hz,hL⟩;refine qM ?_ hC;have q4:=List.mem_of_mem_erase hl;have aN:l≠i:=((List.Nodup.mem_erase_iff EP).1 hl).1;rcases uz q8 B0 q4 aN.symm with h1 | h1
     ·exact qL i l z o h1 hz ho hL
     ·have:=PD EO l q4 aN h1;obtain ⟨_,_,_,h4⟩:=eO this hz ho;cases hw:W i
      ·rfl
      ·exact (h4 ⟨hL,hw⟩).elim
   ·by_cases Tm:i=y
    ·subst Tm;have aT:=fl dM Tk ho r2 a w (fun _=>hC) hr2 PB (Tn (Ne.symm EO)) B3;refine dc ?_ aT;rintro a' w' ⟨qM,gV⟩;refine lA (C:=C) (tq i x) h2O h2S' hQ kk _ (r2.erase i) a' w' (by simp [bE]) I8 (Hn r2 uD qW) (B3.sublist List.erase_sublist) ?_ ?_ ?_ gV
     ·have e1:r1.length=r2.length:=(List.perm_iff_count.2 (fun z=>by rw [EP.count,uD.count];simp [Tl z])).length_eq;rw [List.length_erase_of_mem PB];omega
     ·intro j hj k _;cases fT:tq i x j k
      ·rfl
      ·simp only [tq,Bool.and_eq_true,Nat.beq_eq] at fT;exact (((List.Nodup.mem_erase_iff uD).1 hj).1 fT.1).elim
     ·rintro ⟨l,z,hl,hz,hL⟩;refine qM ?_ hC;have q4:=List.mem_of_mem_erase hl;have aN:l≠i:=((List.Nodup.mem_erase_iff uD).1 hl).1;rcases uz B3 PB q4 aN.symm with h1 | h1
      ·exact Tk i l z o h1 hz ho hL
      ·have:=Tn (Ne.symm EO) l q4 aN h1;obtain ⟨_,_,_,h4⟩:=eO this hz ho;cases hw:W i
       ·rfl
       ·exact (h4 ⟨hL,hw⟩).elim
    ·have hRo:gQ o.op=false:=by
      simp only [chkT,List.all_eq_true,List.mem_range,Bool.or_eq_true,Nat.beq_eq] at hT;rcases hT i dE with (h1 | h1) | h1
      ·exact (Bs h1).elim
      ·exact (Tm h1).elim
      ·rw [ho] at h1;simp only [Bool.or_eq_true,Bool.not_eq_true'] at h1;rcases h1 with h1 | h1
       ·exact h1
       ·exact (gI x hx h1).elim
     obtain ⟨v,PE⟩:=jt dM ho hRo r1 a w hr1 B0 (PD Tm) q8;have BF:=fl dM qL ho r1 a w (fun _=>hC) hr1 B0 (PD Tm) q8;have EB:=fl dM Tk ho r2 a w (fun _=>hC) hr2 PB (Tn Bs) B3;have mn:=fU PE (fun _=>hC) BF;have Lt:=fU PE (fun _=>hC) EB;refine iv PE (fun _=>hC) ?_
     exact ih _ (r1.erase i) (r2.erase i) _ w (by simp [bE]) I8 (Hn r1 EP fD) (Hn r2 uD qW) (q8.sublist List.erase_sublist) (B3.sublist List.erase_sublist) (by rw [List.length_erase_of_mem B0];omega)
      ((List.Nodup.mem_erase_iff EP).2 ⟨Ne.symm Bs,hx⟩) ((List.Nodup.mem_erase_iff EP).2 ⟨Ne.symm Tm,hy⟩) hC mn.2 Lt.2
end
def selL (ops:List Oper):List Nat->List (Nat × Oper)
 | []=>[]
 | i :: r=>
  match ops[i]? with
  | some o=>(i,o) :: selL ops r
  | none=>selL ops r
theorem uE {ops:List Oper} {l:List Nat} {p:Nat × Oper} (h:p∈selL ops l):ops[p.1]? = some p.2:=by
 induction l with
 | nil=>cases h
 | cons i r ih=>
  unfold selL at h;split at h
  ·rename_i o ho;rcases List.mem_cons.1 h with h | h
   ·rw [h];exact ho
   ·exact ih h
  ·exact ih h
def plc:List Nat->Nat->Nat
 | [],_=>0
 | x :: r,i=>if Nat.beq x i then 0 else plc r i + 1
def EQ (ops:Array Oper) (l:List Nat):Bool:=
 (selL ops.toList l).map (·.1) == l && (List.range ops.size).all (fun i=>l.contains i) && l.all (fun i=>Nat.blt i ops.size) && Nat.ble l.length ops.size && pwB (plc l) l
where pwB (f:Nat->Nat):List Nat->Bool
 | []=>true
 | x :: r=>r.all (fun y=>Nat.blt (f x) (f y)) && pwB f r
theorem pG {f:Nat->Nat}:∀ {l:List Nat},EQ.pwB f l=true->l.Pairwise (fun a b=>f a < f b)
 | [],_=>List.Pairwise.nil
 | x :: r,h=>by
  simp only [EQ.pwB,Bool.and_eq_true,List.all_eq_true,Nat.blt_eq] at h;exact List.pairwise_cons.2 ⟨h.1,pG h.2⟩
def WH (ops:Array Oper) (W:Nat->Bool) (l l':List Nat) (x y:Nat):Bool:=
 !Nat.beq x y && Nat.blt x ops.size && Nat.blt y ops.size && EQ ops l && EQ ops l' && pA ops W (plc l) && ti ops W (plc l) (tq x y) && pA ops W (plc l') && ti ops W (plc l') (tq y x) && chkT ops x y
def swp (i j k:Nat):Nat:=
 match Nat.beq k i with
 | true=>j
 | false=>
  match Nat.beq k j with
  | true=>i
  | false=>k
theorem j3 (i j k:Nat):swp i j (swp i j k)=k:=by
 have hb:∀ a b:Nat,Nat.beq a b=decide (a=b):=fun a b=>by
  by_cases h:a=b
  ·subst h;simp
  ·rw [decide_eq_false h];cases h1:Nat.beq a b
   ·rfl
   ·exact (h (by simpa using h1)).elim
 unfold swp;simp only [hb];by_cases h1:k=i
 ·subst h1;simp only [decide_true];by_cases h2:j=k
  ·subst h2;simp
  ·simp [h2]
 ·by_cases h2:k=j
  ·subst h2;simp [h1]
  ·simp [h1,h2]
mutual
def renD (f:Nat->Nat):DV->DV
 | .v x=>.v x
 | .ud=>.ud
 | .agg l=>.agg (renL f l)
 | .tup l=>.tup (renL f l)
 | .sl e es tk=>.sl e es tk
 | .pt cs o=>.pt cs o
 | .loc i o=>.loc (f i) o
 | .el i o=>.el (f i) o
 | .ms i e o l c=>.ms (f i) e o l c
 | .fn g l r=>.fn g (renL f l) (renL f r)
 | .sg t x=>.sg t (renD f x)
def renL (f:Nat->Nat):List DV->List DV
 | []=>[]
 | d :: r=>renD f d :: renL f r
end
def renS (f:Nat->Nat):List (Nat × Sl)->List (Nat × Sl)
 | []=>[]
 | (k,⟨gs,s⟩) :: r=>(k,⟨gs,renD f s⟩) :: renS f r
def renO (f:Nat->Nat):List (List DV)->List (List DV)
 | []=>[]
 | cs :: r=>renL f cs :: renO f r
def swL {α:Type} (i j:Nat) (l:List α):List α:=
 match l[i]?,l[j]? with
 | some a,some b=>(l.set i b).set j a
 | _,_=>l
def fo (i j:Nat) (S:St):St:=⟨renS (swp i j) S.sl,swL i j (renO (swp i j) S.bx),S.tk⟩
theorem pH (f:Nat->Nat):∀ (l:List (List DV)) (k:Nat),(renO f l)[k]? = (l[k]?).map (renL f)
 | [],k=>by simp [renO]
 | c :: r,0=>by simp [renO]
 | c :: r,k + 1=>by simp only [renO,List.getElem?_cons_succ];exact pH f r k
theorem cV (f:Nat->Nat):∀ (l:List (List DV)),(renO f l).length=l.length
 | []=>rfl
 | c :: r=>by simp [renO,cV f r]
theorem B4 (f:Nat->Nat):∀ (l:List (Nat × Sl)) (k:Nat),get (renS f l) k=(get l k).map fun x=>⟨x.gs,renD f x.s⟩
 | [],k=>rfl
 | (i,⟨gs,s⟩) :: r,k=>by
  simp only [renS,cY];split
  ·rfl
  ·exact B4 f r k
theorem cu {α:Type} (i j:Nat) (l:List α):(swL i j l).length=l.length:=by
 unfold swL;split<;>simp
theorem ef {α:Type} {i j:Nat} {l:List α} (hi:i < l.length) (hj:j < l.length) (k:Nat):(swL i j l)[k]? = l[swp i j k]?:=by
 have hb:∀ a b:Nat,Nat.beq a b=true↔a=b:=fun a b=>by simp
 unfold swL;rw [gE hi,gE hj];simp only;unfold swp;by_cases hkj:k=j
 ·subst hkj;rw [List.getElem?_set_self (by simpa using hj)];cases h1:Nat.beq k i
  ·simp only [Nat.beq_refl];exact (gE hi).symm
  ·have:=(hb k i).1 h1;subst this;exact (gE hi).symm
 ·rw [List.getElem?_set_ne (Ne.symm hkj)];by_cases lg:k=i
  ·subst lg;rw [List.getElem?_set_self hi];simp only [Nat.beq_refl];exact (gE hj).symm
  ·rw [List.getElem?_set_ne (Ne.symm lg)]
   have h1:Nat.beq k i=false:=by
    cases h:Nat.beq k i
    ·rfl
    ·exact (lg ((hb k i).1 h)).elim
   have h2:Nat.beq k j=false:=by
    cases h:Nat.beq k j
    ·rfl
    ·exact (hkj ((hb k j).1 h)).elim
   simp only [h1,h2]
theorem PF {α:Type} {i j:Nat} {l:List α} (hi:i < l.length) (hj:j < l.length):swL i j (swL i j l)=l:=by
 apply List.ext_getElem?;intro k;rw [ef (by rw [cu];exact hi) (by rw [cu];exact hj),ef hi hj,j3]
section
variable {E:En} {i j:Nat}
mutual
theorem Rv.ER (hi:i < E.β.length) (hj:j < E.β.length):∀ {d:DV} {v:Value},Rv E (renD (swp i j) d) v->Rv ⟨E.c,swL i j E.β,E.tk,E.τ⟩ d v
 | .v x,v,h=>by simp only [renD] at h;unfold Rv at h ⊢;exact h
 | .ud,v,h=>by simp only [renD] at h;unfold Rv at h ⊢;exact h
 | .sl e es tk,v,h=>by simp only [renD] at h;unfold Rv at h ⊢;exact h
 | .pt cs o,v,h=>by simp only [renD] at h;unfold Rv at h ⊢;exact h
 | .loc k o,v,h=>by
  simp only [renD] at h;unfold Rv at h ⊢;obtain ⟨b,h1,h2⟩:=h;exact ⟨b,by show (swL i j E.β)[k]? = _;rw [ef hi hj];exact h1,h2⟩
 | .el k o,v,h=>by
  simp only [renD] at h;unfold Rv at h ⊢;obtain ⟨b,h1,h2⟩:=h;exact ⟨b,by show (swL i j E.β)[k]? = _;rw [ef hi hj];exact h1,h2⟩
 | .ms k e o l c,v,h=>by
  simp only [renD] at h;unfold Rv at h ⊢;obtain ⟨b,ad,h1,h2⟩:=h;exact ⟨b,ad,by show (swL i j E.β)[k]? = _;rw [ef hi hj];exact h1,h2⟩
 | .agg l,v,h=>by
  simp only [renD] at h;unfold Rv at h ⊢;obtain ⟨vs,h1,h2,h3⟩:=h;exact ⟨vs,h1,RvL.ER hi hj h2,h3⟩
 | .tup l,v,h=>by
  simp only [renD] at h;unfold Rv at h ⊢;obtain ⟨vs,h1,h2⟩:=h;exact ⟨vs,h1,RvL.ER hi hj h2⟩
 | .fn g l r,v,h=>by
  simp only [renD] at h;unfold Rv at h ⊢;obtain ⟨l',r',h1,h2,h3⟩:=h;exact ⟨l',r',h1,RvL.ER hi hj h2,RvL.ER hi hj h3⟩
 | .sg t x,v,h=>by
  simp only [renD] at h;unfold Rv at h ⊢;obtain ⟨z,h1,h2⟩:=h;exact ⟨z,h1,Rv.ER hi hj h2⟩
theorem RvL.ER (hi:i < E.β.length) (hj:j < E.β.length):∀ {l:List DV} {vs:List Value},RvL E (renL (swp i j) l) vs->RvL ⟨E.c,swL i j E.β,E.tk,E.τ⟩ l vs
 | [],vs,h=>by simp only [renL,RvL] at h ⊢;exact h
 | d :: r,vs,h=>by
  simp only [renL,RvL] at h ⊢;obtain ⟨v,s,h1,h2,h3⟩:=h;exact ⟨v,s,h1,Rv.ER hi hj h2,RvL.ER hi hj h3⟩
end
end
theorem Ho {α:Type} {i j:Nat} {l:List α} (hi:i < l.length) (hj:j < l.length) {x:α}:x∈swL i j l↔x∈l:=by
 have h1:∀ (l:List α),i < l.length->j < l.length->x∈swL i j l->x∈l:=by
  intro l hi hj h;obtain ⟨k,hk⟩:=List.mem_iff_getElem?.1 h;rw [ef hi hj] at hk;exact mG hk
 refine ⟨h1 l hi hj,fun h=>?_⟩;have:=h1 (swL i j l) (by rw [cu];exact hi) (by rw [cu];exact hj);rw [PF hi hj] at this;exact this h
theorem I9 {i j:Nat} {l:List Nat} (hi:i < l.length) (hj:j < l.length) (h:l.Nodup):(swL i j l).Nodup:=by
 have ap:∀ k,k < l.length->swp i j k < l.length:=by
  intro k hk;unfold swp;split
  ·exact hj
  ·split
   ·exact hi
   ·exact hk
 unfold List.Nodup;rw [List.pairwise_iff_getElem];intro a b ha hb oE he;rw [cu] at ha hb
 have hg:∀ k (hk:k < l.length),(swL i j l)[k]'(by rw [cu];exact hk)=l[swp i j k]'(ap k hk):=by
  intro k hk;have:=ef hi hj k;rw [gE (by rw [cu];exact hk),gE (ap k hk)] at this;exact Option.some.inj this
 rw [hg a ha,hg b hb] at he
 have h1:l[swp i j a]? = l[swp i j b]?:=by
  rw [gE (ap a ha),gE (ap b hb),he]
 have:=(List.getElem?_inj (ap a ha) h).1 h1;have:=congrArg (swp i j) this;rw [j3,j3] at this;omega
theorem ny {P:Program} {ops:Array Oper} {W:Nat->Bool} {C:World->Prop} {Q Q':Act->World->Prop} (hQ:∀ a w,Q a w->Q' a w):∀ {l:List Nat} {a:Act} {w:World},runT P ops W C Q l a w->runT P ops W C Q' l a w
 | [],a,w,h=>hQ _ _ h
 | i :: r,a,w,h=>by
  simp only [runT] at h ⊢;split at h
  ·exact h.elim
  ·split at h
   ·rename_i hE;rw [if_pos hE];exact dc (fun a w hk=>⟨hk.1,ny hQ hk.2⟩) h
   ·rename_i hE;rw [if_neg hE];obtain ⟨v,h1,h2,h3⟩:=h;exact ⟨v,h1,h2,ny hQ h3⟩
section
variable {X:Ctx} {E:En} {S:St} {a:Act} {w:World} {i j:Nat}
theorem B5 (hX:X.bt=[]) (h:Rel X E (fo i j S) a w) (KC:X.n0<=i) (sq:X.n0<=j) (hi:i < S.bx.length) (hj:j < S.bx.length):Rel X ⟨E.c,swL i j E.β,E.tk,E.τ⟩ S a w:=by
 have hlen:E.β.length=S.bx.length:=by
  rw [h.env.len];simp only [fo,cu,cV]
 have dE:i < E.β.length:=by rw [hlen];exact hi
 have fT:j < E.β.length:=by rw [hlen];exact hj
 have lx:∀ k,(fo i j S).bx[k]? = (S.bx[swp i j k]?).map (renL (swp i j)):=fun k=>by
  simp only [fo];rw [ef (by rw [cV];exact hi) (by rw [cV];exact hj),pH]
 exact {
  env:={
   len:=by rw [cu];exact hlen
   tl:=h.env.tl
   eu:=fun k cs hk=>by
    obtain ⟨b,ty,arr,hb,hw,hc⟩:=h.env.eu (swp i j k) (renL (swp i j) cs) (by rw [lx,j3,hk];rfl);exact ⟨b,ty,arr,by rw [ef dE fT];exact hb,hw,RvL.ER dE fT hc.1,hc.2⟩
   inj:=I9 dE fT h.env.inj
   sub:=h.env.sub
   pc:=fun x v hx hm=>h.env.pc x v hx ((Ho dE fT).1 hm)
   cI:=fun k q y hq hy=>by
    rcases h.env.cI k q y hq hy with h1 | ⟨g,cap,cur,rfl,h1,h2,h3,h4,h5,h6⟩
    ·exact .inl h1
    ·exact .inr ⟨g,cap,cur,rfl,h1,h2,h3,h4,fun hm=>h5 ((Ho dE fT).1 hm),h6⟩
   iX:=h.env.iX }
  tk:=h.tk
  sz:=h.sz
  tm:=fun k x hx=>by
   have:=h.tm k ⟨x.gs,renD (swp i j) x.s⟩ (by simp only [fo];rw [B4,hx];rfl);refine ⟨fun hh=>?_,this.2⟩;obtain ⟨v,h1,h2⟩:=this.1 hh;exact ⟨v,h1,Rv.ER dE fT h2⟩
  df:=h.df
  nw:={
   c:=h.nw.c
   cn:=h.nw.cn
   β:=by
    obtain ⟨r,hr,hl⟩:=h.nw.β;have hE0:X.E0.β.length=X.n0:=X.jS;refine ⟨(swL i j E.β).drop X.n0,?_,fun b hb=>?_⟩
    ·show swL i j E.β=_
     have:(swL i j E.β).take X.n0=X.E0.β:=by
      apply List.ext_getElem?;intro k;rw [List.getElem?_take];split
      ·rename_i hk;rw [ef dE fT]
       have:swp i j k=k:=by
        unfold swp;have hb:∀ a b:Nat,Nat.beq a b=true↔a=b:=fun a b=>by simp
        cases h1:Nat.beq k i
        ·cases h2:Nat.beq k j
         ·rfl
         ·have:=(hb k j).1 h2;omega
        ·have:=(hb k i).1 h1;omega
       rw [this,hr,List.getElem?_append_left (by omega)]
      ·rename_i hk;exact (List.getElem?_eq_none (by omega)).symm
     rw [<- this,List.take_append_drop]
    ·have hnd:=h.env.inj;obtain ⟨k,hk⟩:=List.mem_iff_getElem?.1 hb;rw [List.getElem?_drop,ef dE fT] at hk
     have aO:X.n0<=swp i j (X.n0 + k):=by
      unfold swp;split
      ·exact sq
      ·split
       ·exact KC
       ·omega
     rw [hr,List.getElem?_append_right (by omega)] at hk;exact hl b (mG hk)
   tk:=h.nw.tk
   tn:=h.nw.tn
   l0:=h.nw.l0 }
  fr:=h.fr
  sh:=h.sh
  bt:=.nil hX }
theorem Hp (hX:X.bt=[]) (h:Rel X E (fo i j S) a w) (KC:X.n0<=i) (sq:X.n0<=j) (hi:i < S.bx.length) (hj:j < S.bx.length):∃ E',Rel X E' S a w:=⟨_,B5 hX h KC sq hi hj⟩
end
def Hq (sl:List (Nat × Sl)):List (Nat × Sl)->Prop
 | []=>True
 | p :: r=>get sl p.1=some p.2/\Hq sl r
theorem uF {sl:List (Nat × Sl)}:∀ {l:List (Nat × Sl)},Hq sl l->∀ i x,get l i=some x->get sl i=some x
 | [],_,i,x,hx=>by cases hx
 | (k,y) :: r,h,i,x,hx=>by
  simp only [cY] at hx;split at hx
  ·rename_i lg;subst lg;simp only [oI] at hx;subst hx;exact h.1
  ·exact uF h.2 i x hx
def uniqS:List Nat->List (Nat × Sl)->List (Nat × Sl)
 | _,[]=>[]
 | m,p :: r=>
  match muB m p.1 with
  | true=>uniqS m r
  | false=>p :: uniqS (p.1 :: m) r
theorem ra:∀ (l:List (Nat × Sl)) (m:List Nat) (i:Nat),muB m i=false->get (uniqS m l) i=get l i
 | [],_,_,_=>rfl
 | (k,x) :: r,m,i,h=>by
  simp only [uniqS]
  cases hm:muB m k with
  | true=>
   simp only;rw [ra r m i h,cY,if_neg];rintro rfl;rw [hm] at h;cases h
  | false=>
   simp only [cY];by_cases hk:k=i
   ·rw [if_pos hk,if_pos hk]
   ·rw [if_neg hk,if_neg hk]
    exact ra r (k :: m) i (by simp only [muB,h,Bool.or_false];cases hb:Nat.beq k i with
     | true=>exact (hk (Nat.eq_of_beq_eq_true hb)).elim
     | false=>rfl)
def ko (s S:St):Prop:=s.bx=S.bx/\s.tk=S.tk/\Hq s.sl (uniqS [] S.sl)
theorem B6 {X:Ctx} {E:En} {s S:St} {a:Act} {w:World} (h:Rel X E s a w) (hs:ko s S):Rel X E S a w where
 env:=by rw [<- hs.1];exact h.env
 tk:=by rw [<- hs.2.1];exact h.tk
 sz:=h.sz
 tm:=fun i x hx=>h.tm i x (uF hs.2.2 i x (by rw [ra _ _ _ rfl];exact hx))
 df:=h.df
 nw:=h.nw
 fr:=h.fr
 sh:=h.sh
 bt:=h.bt
theorem nz {X:Ctx} {id:Nat} {ops:Array Oper} {k:List It} {st:St} (W:Nat->Bool) (x y:Nat) (l l':List Nat) (i j:Nat) (hm:X.P.follows .mixedOrders=true) (hc:WH ops W l l' x y=true) (S:St)
  (h:goD X ⟨ops,W,[.Ej fun s=>s=S],st,none⟩ 3000 true (selL ops.toList l) st.sl st) (h':goD X ⟨ops,W,[.Ej fun s=>ko s (fo i j S)],st,none⟩ 3000 true (selL ops.toList l') st.sl st)
  (tH:(Nat.ble X.n0 i && Nat.ble X.n0 j && Nat.blt i S.bx.length && Nat.blt j S.bx.length)=true) (hk:go X 4000 k S) (hX:X.bt=[]:=by exact rfl):x0 X id ops k st:=by
 intro E a w hr;have gV:=kH hr;simp only [Bool.and_eq_true,Nat.ble_eq,Nat.blt_eq] at tH;simp only [WH,EQ,Bool.and_eq_true,List.all_eq_true,Nat.blt_eq,Nat.ble_eq,beq_iff_eq,List.mem_range,Bool.not_eq_true'] at hc;obtain ⟨⟨⟨⟨⟨⟨⟨⟨⟨EO,oA⟩,V8⟩,⟨⟨⟨h1a,Q9⟩,h1c⟩,hlen⟩,h1d⟩,⟨⟨⟨h2a,h2b⟩,h2c⟩,_⟩,h2d⟩,Vu⟩,WE⟩,h2O⟩,WG⟩,hT⟩:=hc
 have hQ:∀ S',(S'=S∨S'=fo i j S)->∀ a w,(∃ st E,Rel X E st a w/\(st=S' ∨ ko st S'))->kq X k .normal a w:=by
  rintro S' hS a w ⟨qN,E1,Ra,sm⟩
  have cf:Rel X E1 S' a w:=by
   rcases sm with rfl | sm
   ·exact Ra
   ·exact B6 Ra sm
  rcases hS with rfl | rfl
  ·exact go_sound 4000 _ _ hk E1 a w cf
  ·obtain ⟨E2,BV⟩:=Hp hX cf tH.1.1.1 tH.1.1.2 tH.1.2 tH.2;exact go_sound 4000 _ _ hk E2 a w BV
 have key:∀ (S':St),(S'=S∨S'=fo i j S)->∀ (l:List Nat),(selL ops.toList l).map (·.1)=l->∀ J:St->Prop,(∀ s,J s->s=S' ∨ ko s S')->(goD X ⟨ops,W,[.Ej J],st,none⟩ 3000 true (selL ops.toList l) st.sl st) ->
   runT X.P ops W (CC E st.bx w.drew) (fun a w=>kq X k .normal a w) l a w.drew:=by
  intro S' hS l hl J hJ h;have hs:=oD gV (ops:=ops) (W:=W) (k:=[.Ej J]);have:=eA (D:=⟨⟨ops,W,[.Ej J],st,none⟩,E,w.drew⟩) gV.env.em 3000 true _ _ _ h (fun p hp=>by simpa using uE hp) E a w.drew hs;rw [hl] at this;exact ny (fun a w ⟨st,E1,h1,h2⟩=>hQ S' hS a w ⟨st,E1,h1,hJ st h2⟩) this
 have e1:=key S (.inl rfl) l h1a _ (fun s hs=>.inl hs) h;have e2:=key (fo i j S) (.inr rfl) l' h2a _ (fun s hs=>.inr hs) h';refine wp_region_any hm ?_
 have ES:∀ (l:List Nat),(∀ i,i < ops.size->l.contains i=true)->(∀ i∈l,i < ops.size)->∀ i,i∈l↔i < ops.size/\(Array.replicate ops.size false).getD i true=false:=by
  intro l ha hb i;constructor
  ·intro hi;exact ⟨hb i hi,by simp [hb i hi]⟩
  ·intro hi;simpa using ha i hi.1
 have hxy':x≠y:=by
  intro e;subst e;simp at EO
 refine EN (C:=CC E st.bx w.drew) (π:=plc l) (π':=plc l') (Q:=kq X k .normal) hxy' Vu WE h2O WG hT (fun a w h=>h) ops.size (Array.replicate ops.size false) l l' a _ (by simp) ?_ (ES l Q9 h1c) (ES l' h2b h2c) (pG h1d) (pG h2d) hlen
  (by simpa using Q9 x oA) (by simpa using Q9 y V8) ⟨fun _ _ _ _ _ _=>rfl,gV.env.sub⟩ e1 e2
 intro i o ho hl;have:i < ops.size:=(Array.getElem?_eq_some_iff.1 ho).1;simp [this] at hl
end Dv
end Go.Proofs.YtfifjddnnmfeoaaGreat
namespace Go.Proofs.YtfifjddnnmfeoaaGreat
namespace Dv
open Go Go.RowKit
section
variable {X:Ctx} {st:St} {k:List It} {E:En} {a:Act} {w:World}
noncomputable def En.Hr (E:En) (w:World):En:=⟨qY E 0 w,[],[],[]⟩
theorem PG {bx:List (List DV)} (h:Env E bx w):Env (E.Hr w) [] w where
 len:=rfl
 tl:=rfl
 eu:=by simp
 inj:=List.nodup_nil
 sub:=fun x u hx=>by
  rcases ee hx with ⟨_,h1⟩ | h1
  ·exact h1
  ·exact h.sub x u h1
 pc:=by simp [En.Hr]
 cI:=by simp [En.Hr]
 iX:=by simp [En.Hr]
theorem PH {bx:List (List DV)} (h:Env E bx w):KI E (E.Hr w) bx 0 where
 c:=fun x u hx=>ly h hx
 fz:=fun i cs hi ct=>by
  obtain ⟨b,ty,arr,hb,hw,hc⟩:=h.eu i cs ct;refine ⟨b,arr,hb,hc,fun j u hj=>?_⟩;show qY E 0 w ⟨b,j,none⟩=some u;unfold qY;rw [if_pos ⟨i,hi,hb⟩,ch hw];simpa using hj
theorem iS {P:Program} {s:Bool} {bx:List (List DV)} (h:Env E bx w) {f:FuncId} {args bJ:List DV} {vs:List Value} {y:DV} (hc:Vs s P f bJ [] [] fun d _ _=>d=y) (ha:CcL bx 0 0 0 bJ args) (hv:RvL E args vs) :
  Calls P f vs.toArray w fun e w'=>∃ v E2,e = .returned v/\Rv E2 y v/\s8 (fun _=>False) w w' /\ (s=true->∃ q,w'=w.drewN q):=by
 have V7:RvL (E.Hr w) bJ vs:=CcL.sound (PH h) (I2.zero _ _) ha hv;refine (hc (E.Hr w) w vs (PG h) rfl V7).mono ?_;rintro e w' ⟨v,rfl,hm,hs,d,os,E2,he,hβ,iH,hn,S8,rfl⟩;refine ⟨v,E2,rfl,S8,⟨hm.os,hm.tape,hm.output,hm.size,fun i hi _=>hm.block i hi ?_⟩,hs⟩;rintro (h1 | ⟨y,h1,_⟩)
 ·simp [En.Hr] at h1
 ·simp [En.Hr] at h1
theorem zT {f:FuncId} {args bJ:List DV} {d:Nat} {y:Value} (j1:Enters X.P f) (hc:EvP X.P f bJ (.v y)) (ha:CcL st.bx 0 0 0 bJ args) (hd:fi X.nt st.sl (some d)=true)
  (hk:go X 4000 k ⟨(d,⟨[],.v y⟩) :: st.sl,st.bx,st.tk⟩) (aT:X.still=false:=by exact rfl):dL X f args (some d) k st:=by
 refine ⟨j1,aT,fun E a w vs h hv=>(iS h.env hc ha hv).mono ?_⟩;rintro e w' ⟨v,E2,rfl,hr,hm,_⟩;have hh:∀ i,i < w.heap.size->w'.heap[i]? = w.heap[i]?:=fun i hi=>hm.block i hi (fun h=>h);have cf:Rel X E st a w':=di h (Ext.refl E) (h.env.kh hh) h.tk h.nw (h.fr.cm hm.os hm.tape hm.output hm.size fun i hi=>.inr (hh i hi)) (nX aT) (h.bt.kh fun b hb=>hh b (h.env.aZ hb));unfold Rv at hr;exact go_sound 4000 _ _ hk E _ w' (aV cf hd (.v y) v (by unfold Rv;exact hr))
end
end Dv
end Go.Proofs.YtfifjddnnmfeoaaGreat
namespace Go.Proofs.YtfifjddnnmfeoaaGreat
namespace Dv
open Go Go.RowKit
def Lu (bx:List (List DV)) (N m:Nat) (sl:List (Nat × Sl)):List (Nat × Sl)->Prop
 | []=>True
 | p :: r=>(∃ x,get sl p.1=some ⟨p.2.gs,x⟩/\Cc bx N N m p.2.s x)/\Lu bx N m sl r
theorem yg {bx:List (List DV)} {N m:Nat} {sl:List (Nat × Sl)}:∀ {l:List (Nat × Sl)},Lu bx N m sl l->∀ i x',get l i=some x' -> ∃ x,get sl i=some ⟨x'.gs,x⟩/\Cc bx N N m x'.s x
 | [],_,i,x',hx=>by cases hx
 | (k,y) :: r,h,i,x',hx=>by
  simp only [cY] at hx;split at hx
  ·rename_i lg;subst lg;simp only [oI] at hx;subst hx;exact h.1
  ·exact yg h.2 i x' hx
section
variable {X:Ctx} {E:En} {st st':St} {a:Act} {w:World} {k:List It}
theorem Hs (h:Rel X E st a w) (N:Nat) (hN:X.n0<=N) (B7:N<=st.bx.length) (lx:ll st.bx N N st.tk.length st'.bx (st.bx.take N)) (iH:st'.tk=st.tk) (mb:Lu st.bx N st.tk.length st.sl st'.sl):∃ E',Rel X E' st' a w:=by
 obtain ⟨r,Pv,hβl⟩:=h.nw.β;have hlen:E.β.length=st.bx.length:=h.env.len
 have dV:∀ (i:Nat) b,X.n0<=i->E.β[i]? = some b->b∈r:=fun i b hi hb=>by
  rw [Pv,List.getElem?_append_right (by rw [X.jS];exact hi)] at hb;exact mG hb
 let E':En:=⟨qY E N w,E.β.take N,E.tk,E.τ⟩
 have Lf:KI E E' st.bx N:={
  c:=fun x u hx=>ly h.env hx
  fz:=fun i cs hi ct=>by
   obtain ⟨b,ty,arr,hb,hw,hc⟩:=h.env.eu i cs ct;refine ⟨b,arr,hb,hc,fun j u hj=>?_⟩;show qY E N w ⟨b,j,none⟩=some u;unfold qY;rw [if_pos ⟨i,hi,hb⟩,ch hw]
   simpa using hj }
 have xz:I2 E E' N st.tk.length:={
  β:=fun i b hi hb=>by show (E.β.take N)[i]? = _;rw [List.getElem?_take,if_pos hi];exact hb
  tk:=fun k hk=>⟨rfl,rfl⟩ }
 have S4:∀ (i:Nat) b,N<=i->E.β[i]? = some b->b ∉ E.β.take N:=fun i b hi hb hm=>by
  obtain ⟨j,hj⟩:=List.getElem?_of_mem hm;rw [List.getElem?_take] at hj;split at hj
  ·rename_i hjN;have:=(List.getElem?_inj (gS hb).1 h.env.inj).1 (hb.trans hj.symm);omega
  ·cases hj
 obtain ⟨ja,Wr⟩:=lx.get;refine ⟨E',?_⟩
 exact {
  env:={
   len:=by
    show (E.β.take N).length=st'.bx.length;rw [ja,List.length_take,List.length_take];omega
   tl:=h.env.tl
   eu:=fun i cs' hi=>by
    obtain ⟨cs,ct,n8⟩:=Wr i cs' hi;rw [List.getElem?_take] at ct;split at ct
    ·rename_i ap;obtain ⟨b,ty,arr,hb,hw,hc⟩:=h.env.eu i cs ct;exact ⟨b,ty,arr,xz.β i b ap hb,hw,CcL.sound Lf xz n8 hc.1,hc.2⟩
    ·cases ct
   inj:=h.env.inj.sublist (List.take_sublist _ _)
   sub:=fun x u hx=>by
    rcases ee hx with ⟨_,h1⟩ | h1
    ·exact h1
    ·exact h.env.sub x u h1
   pc:=fun x u hx hm=>by
    rcases ee hx with ⟨⟨i,hi,hb⟩,_⟩ | h1
    ·exact S4 i _ hi hb hm
    ·exact h.env.pc x u h1 (List.mem_of_mem_take hm)
   cI:=fun k q y hq hy=>by
    rcases h.env.cI k q y hq hy with h1 | ⟨g,cap,cur,rfl,h1,h2,h3,h4,h5,h6⟩
    ·exact .inl h1
    ·refine .inr ⟨g,cap,cur,rfl,h1,⟨h2.1,h2.2.mono fun _ _ hx=>ly h.env hx⟩,h3,h4,fun hm=>h5 (List.mem_of_mem_take hm),fun x u hx hg=>?_⟩;rcases ee hx with ⟨⟨i,hi,hb⟩,_⟩ | h7
     ·rw [hg] at hb;exact (h5 (mG hb)).elim
     ·exact h6 x u h7 hg
   iX:=h.env.iX }
  tk:=by rw [iH];exact h.tk
  sz:=h.sz
  tm:=fun i x' Bn=>by
   obtain ⟨x,hx,n8⟩:=yg mb i x' Bn;have:=h.tm i _ hx;refine ⟨fun hh=>?_,this.2⟩;obtain ⟨v,h1,h2⟩:=this.1 hh;exact ⟨v,h1,Cc.sound Lf xz n8 h2⟩
  df:=h.df
  nw:={
   c:=fun x u hx=>ly h.env (h.nw.c x u hx)
   cn:=fun x u hx=>by
    rcases ee hx with ⟨⟨i,hi,hb⟩,_⟩ | h1
    ·exact .inr (.inl (hβl _ (dV i _ (by omega) hb)))
    ·exact h.nw.cn x u h1
   β:=by
    refine ⟨r.take (N - X.n0),?_,fun b hb=>hβl b (List.mem_of_mem_take hb)⟩;show E.β.take N=_;rw [Pv,List.take_append,List.take_of_length_le (by rw [X.jS];omega),X.jS]
   tk:=h.nw.tk
   tn:=h.nw.tn
   l0:=h.nw.l0 }
  fr:=h.fr
  sh:=h.sh
  bt:=h.bt.sub _ }
theorem Lv {c:Code} (N:Nat) (qN:St) (hN:Nat.ble X.n0 N=true) (B7:Nat.ble N st.bx.length=true) (iH:qN.tk=st.tk) (lx:ll st.bx N N st.tk.length qN.bx (st.bx.take N)) (mb:Lu st.bx N st.tk.length st.sl qN.sl)
  (hk:si X c k qN):si X c k st:=by
 intro E a w h;obtain ⟨E',h'⟩:=Hs h N (nL hN) (nL B7) lx iH mb;exact hk E' a w h'
theorem dj {n0 m0:Nat} {st st':St} (n:Nat) (q:TkE) (hq:q.new=true) (hn:Nat.ble n st.bx.length=true) (h3:st.tk ++ [q]=st'.tk) (h2:WeLL n st.tk.length st'.tk (st.bx.take n) st'.bx) (h4:Nat.ble n0 n=true) (h5:Nat.ble m0 st.tk.length=true)
  (h:px n st.tk.length st'.tk st.sl st'.sl):BT n0 m0 st st':=by
 have hl:(st.bx.take n).length=n:=by
  have:=nL hn;rw [List.length_take];omega
 exact ⟨st.tk,[],[q],st.bx.take n,st.bx.drop n,by simpa using h5,by rw [hl];simpa using h4,by simp,h3.symm,by simpa using hq,(List.take_append_drop n st.bx).symm,by rw [hl];exact h2,by rw [hl];exact h⟩
end
end Dv
end Go.Proofs.YtfifjddnnmfeoaaGreat
namespace Go.Proofs.YtfifjddnnmfeoaaGreat
namespace Dv
open Go Go.RowKit
section
variable {X:Ctx} {st:St} {k:List It} {E:En} {a:Act} {w:World}
theorem lE {f:FuncId} {rest Lw cs cs':List DV} {i d:Nat} (j1:Enters X.P f) (hd:fi X.nt st.sl (some d)=true) (lx:st.bx[i]? = some cs) (ct:CcL [] 0 0 0 cs' cs) (ha:CcL [] 0 0 0 Lw rest)
  {Φ:DV->List (List DV)->List TkE->Prop} (hc:Ev X.P f (.loc 0 0 :: Lw) [cs'] [] Φ) (jT:∀ r os tk,Φ r os tk->clB 0 0 r=true/\∀ rb∈os,clB.clL 0 0 rb=true)
  (hk:∀ r rb,Φ r [rb] []->go X 4000 k ⟨(d,⟨[],r⟩) :: st.sl,st.bx.set i rb,st.tk⟩) (aT:X.still=false:=by exact rfl) (hX:X.bt=[]:=by exact rfl):dL X f (.loc i 0 :: rest) (some d) k st:=by
 refine ⟨j1,aT,fun E a w vs h hv=>?_⟩;simp only [RvL] at hv;obtain ⟨v1,vr,rfl,h1,hvr⟩:=hv;unfold Rv at h1;obtain ⟨b,hb,rfl⟩:=h1;obtain ⟨b',ty,arr,dS,hw,n8⟩:=h.env.eu i cs lx;rw [hb] at dS;simp only [oI] at dS;subst dS;have xD:b∈E.β:=mG hb;have Tp:=h.env.aZ xD
 let E1:En:=⟨E.c,[b],[],[]⟩
 have hx1:Ext E.cl E1:=⟨fun _ _ h=>h,fun j b hj=>by simp [En.cl] at hj,fun k q hk=>by simp [En.cl] at hk⟩;have hfz:KI E E.cl [] 0:=⟨fun _ _ h=>h,fun i cs _ hi=>by simp at hi⟩
 have hE1:Env E1 [cs'] w:={
  len:=rfl
  tl:=rfl
  eu:=fun j Rb hj=>by
   cases j with
   | succ j=>simp at hj
   | zero=>
    simp only [List.getElem?_cons_zero,oI] at hj;subst hj;refine ⟨b,ty,arr,rfl,hw,RvL.mono hx1 (CcL.sound hfz (I2.zero _ _) ct n8.1),n8.2⟩
  inj:=by simp [E1]
  sub:=h.env.sub
  pc:=fun x v hx hm=>by
   simp only [E1,List.mem_singleton] at hm;exact h.env.pc x v hx (by rw [hm];exact xD)
  cI:=by simp [E1]
  iX:=by simp [E1] }
 have o6:RvL E1 (.loc 0 0 :: Lw) (.pointer (some ⟨b,0,none⟩) :: vr):=rvL_cons (by unfold Rv;exact ⟨b,rfl,rfl⟩) (RvL.mono hx1 (CcL.sound hfz (I2.zero _ _) ha hvr));refine (hc E1 w _ hE1 rfl o6).mono ?_;rintro e w' ⟨v,rfl,hm,_,r,os,E2,he,hβ,iH,hn,S8,hΦ⟩;have ht0:E2.tk=[]:=List.eq_nil_of_length_eq_zero iH;rw [ht0] at hΦ
 obtain ⟨rb,rfl⟩:∃ rb,os=[rb]:=by
  have:=he.len;rw [hβ] at this
  match os,this with
  | [x],_=>exact ⟨x,rfl⟩
 obtain ⟨hclr,hclc⟩:=jT _ _ _ hΦ
 have hh:∀ j,j < w.heap.size->j≠b->w'.heap[j]? = w.heap[j]?:=fun j hj aN=>hm.block j hj (by
  rintro (h1 | ⟨y,h1,_⟩)
  ·simp only [E1,List.mem_singleton] at h1;exact aN h1
  ·simp [E1] at h1)
 have dV:∀ x v,E2.c x=some v->E.c x=some v∨w.heap.size<=x.block:=fun x v hx=>by
  rcases hn.cn x v hx with h1 | h1 | ⟨y,h1,_⟩
  ·exact .inl h1
  ·exact .inr h1
  ·simp [E1] at h1
 let E':En:=⟨E2.c,E.β,E.tk,E.τ⟩
 have hx:Ext E E':=⟨hn.c,fun _ _ h=>h,fun _ q h=>⟨q,h,.inl ⟨rfl,rfl⟩⟩⟩;have Ja:Ext (E2.cut 0 0) E':=⟨fun _ _ h=>h,fun j b hj=>by simp [En.cut] at hj,fun k q hk=>by simp [En.cut] at hk⟩
 have cf:Rel X E' ⟨st.sl,st.bx.set i rb,st.tk⟩ a w':=by
  refine di h hx ?_ h.tk ?_ (h.fr.cm hm.os hm.tape hm.output hm.size fun j hj=>?_) (nX aT) (.nil hX)
  ·exact {
    len:=by rw [List.length_set];exact h.env.len
    tl:=h.env.tl
    eu:=fun j Rb hj=>by
     by_cases O5:j=i
     ·subst O5;rw [List.getElem?_set_self (gS lx).1] at hj;simp only [oI] at hj;subst hj;obtain ⟨b2,ty2,Tq,fH,hw2,mw⟩:=he.eu 0 rb rfl;rw [hβ] at fH;simp only [E1,List.getElem?_cons_zero,oI] at fH;subst fH;exact ⟨b,ty2,Tq,hb,hw2,RvL.mono Ja (RvL.cut mw.1 (hclc rb (by simp))),mw.2⟩
     ·rw [List.getElem?_set_ne (Ne.symm O5)] at hj;obtain ⟨bj,tyj,Tr,Rc,WI,K7⟩:=h.env.eu j Rb hj
      have aN:bj≠b:=by
       rintro rfl;exact O5 ((List.getElem?_inj (gS Rc).1 h.env.inj).1 (Rc.trans hb.symm))
      exact ⟨bj,tyj,Tr,Rc,by rw [hh bj (bX WI) aN];exact WI,K7.mono hx⟩
    inj:=h.env.inj
    sub:=he.sub
    pc:=fun x v hc ow=>by
     rcases dV x v hc with h1 | h1
     ·exact h.env.pc x v h1 ow
     ·have:=h.env.aZ ow;omega
    cI:=fun k q y hq hy=>by
     rcases h.env.cI k q y hq hy with h1 | ⟨g',cap,cur,rfl,h1,h2,h3,h4,h5,h6⟩
     ·exact .inl h1
     ·refine .inr ⟨g',cap,cur,rfl,by rw [hh g' (bX h1) (fun e=>h5 (by rw [e];exact xD))];exact h1,⟨h2.1,h2.2.mono hn.c⟩,h3,h4,h5,fun x v hc hg=>?_⟩;rcases dV x v hc with h7 | h7
      ·exact h6 x v h7 hg
      ·have:=bX h1;omega
    iX:=h.env.iX }
  ·exact {
    c:=fun x v hc=>hn.c x v (h.nw.c x v hc)
    cn:=fun x v hc=>by
     rcases dV x v hc with h1 | h1
     ·exact h.nw.cn x v h1
     ·have:=h.fr.size;exact .inr (.inl (by omega))
    β:=h.nw.β
    tk:=h.nw.tk
    tn:=h.nw.tn
    l0:=h.nw.l0 }
  ·by_cases SO:j=b
   ·left;obtain ⟨r0,hr0,ES⟩:=h.nw.β;rw [hr0] at xD;rcases List.mem_append.1 xD with xD | xD
    ·exact .inl (.inl (SO ▸ xD))
    ·exact .inr (SO ▸ ES b xD)
   ·exact .inr (hh j hj SO)
 exact go_sound 4000 _ _ (hk r rb hΦ) E' _ w' (aV cf hd r v (Rv.mono Ja (Rv.cut S8 hclr)))
end
end Dv
end Go.Proofs.YtfifjddnnmfeoaaGreat
namespace Go.Proofs.YtfifjddnnmfeoaaGreat
namespace Dv
open Go
def tt:TT:=.ai 192 ⟨1,false,.fn,[.nilFunc]⟩ (.ai 96 ⟨1,false,.fn,[.nilFunc]⟩ (.ai 45 ⟨4,true,.st [(0,3),(1,3),(2,9),(3,43)],[.int .i64 0,.int .i64 0,.string ByteArray.empty,.slice none 0 0]⟩ (.ai 22 ⟨1,false,.sl 137 3 32,[.slice none 0 0]⟩ (.ai 11 ⟨1,false,.str,[.string ByteArray.empty]⟩ (.ai 6 ⟨1,false,.int .u8,[.int .u8 0]⟩ (.ai 3 ⟨1,false,.int .i64,[.int .i64 0]⟩ (.ai 2 ⟨1,false,.int .i64,[.int .i64 0]⟩ (.ai 1 ⟨1,false,.fn,[.nilFunc]⟩ (.nil) (.nil)) (.nil)) (.ai 5 ⟨1,false,.int .u8,[.int .u8 0]⟩ (.ai 4 ⟨1,false,.bool,[.bool false]⟩ (.nil) (.nil)) (.nil))) (.ai 9 ⟨1,false,.str,[.string ByteArray.empty]⟩ (.ai 8 ⟨4,true,.st [(0,2),(1,3),(2,4),(3,6)],[.int .i64 0,.int .i64 0,.bool false,.int .u8 0]⟩ (.ai 7 ⟨4,true,.st [(0,2),(1,3),(2,4),(3,6)],[.int .i64 0,.int .i64 0,.bool false,.int .u8 0]⟩ (.nil) (.nil)) (.nil)) (.ai 10 ⟨1,false,.str,[.string ByteArray.empty]⟩ (.nil) (.nil)))) (.ai 17 ⟨1,false,.ptr 383,[.pointer none]⟩ (.ai 14 ⟨2,true,.st [(0,9),(1,12)],[.string ByteArray.empty,.int .u64 0]⟩ (.ai 13 ⟨2,true,.st [(0,9),(1,12)],[.string ByteArray.empty,.int .u64 0]⟩ (.ai 12 ⟨1,false,.int .u64,[.int .u64 0]⟩ (.nil) (.nil)) (.nil)) (.ai 16 ⟨1,false,.ptr 376,[.pointer none]⟩ (.ai 15 ⟨1,false,.ptr 373,[.pointer none]⟩ (.nil) (.nil)) (.nil))) (.ai 20 ⟨1,false,.sg,[.nilIface]⟩ (.ai 19 ⟨1,true,.st [(0,17)],[.pointer none]⟩ (.ai 18 ⟨1,true,.st [(0,17)],[.pointer none]⟩ (.nil) (.nil)) (.nil)) (.ai 21 ⟨1,false,.int .i32,[.int .i32 0]⟩ (.nil) (.nil))))) (.ai 34 ⟨1,false,.sl 146 4 48,[.slice none 0 0]⟩ (.ai 29 ⟨1,false,.fn,[.nilFunc]⟩ (.ai 26 ⟨1,false,.fn,[.nilFunc]⟩ (.ai 25 ⟨1,false,.ptr 116,[.pointer none]⟩ (.ai 24 ⟨1,false,.fn,[.nilFunc]⟩ (.nil) (.nil)) (.nil)) (.ai 28 ⟨1,false,.sl 3 1 8,[.slice none 0 0]⟩ (.ai 27 ⟨1,false,.sl 9 1 16,[.slice none 0 0]⟩ (.nil) (.nil)) (.nil))) (.ai 32 ⟨1,false,.fn,[.nilFunc]⟩ (.ai 31 ⟨1,false,.fn,[.nilFunc]⟩ (.ai 30 ⟨1,false,.fn,[.nilFunc]⟩ (.nil) (.nil)) (.nil)) (.ai 33 ⟨1,false,.sl 38 2 24,[.slice none 0 0]⟩ (.nil) (.nil)))) (.ai 40 ⟨9,true,.st [(0,3),(1,3),(2,3),(3,3),(4,3),(5,33),(6,36),(7,38)],[.int .i64 0,.int .i64 0,.int .i64 0,.int .i64 0,.int .i64 0,.slice none 0 0,.slice none 0 0,.string ByteArray.empty,.int .i64 0]⟩ (.ai 37 ⟨2,true,.st [(0,9),(1,3)],[.string ByteArray.empty,.int .i64 0]⟩ (.ai 36 ⟨1,false,.sl 144 18 224,[.slice none 0 0]⟩ (.ai 35 ⟨1,false,.sl 109 11 136,[.slice none 0 0]⟩ (.nil) (.nil)) (.nil)) (.ai 39 ⟨9,true,.st [(0,3),(1,3),(2,3),(3,3),(4,3),(5,33),(6,36),(7,38)],[.int .i64 0,.int .i64 0,.int .i64 0,.int .i64 0,.int .i64 0,.slice none 0 0,.slice none 0 0,.string ByteArray.empty,.int .i64 0]⟩ (.ai 38 ⟨2,true,.st [(0,9),(1,3)],[.string ByteArray.empty,.int .i64 0]⟩ (.nil) (.nil)) (.nil))) (.ai 43 ⟨1,false,.sl 45 4 56,[.slice none 0 0]⟩ (.ai 42 ⟨12,true,.st [(0,33),(1,34),(2,35),(3,40)],[.slice none 0 0,.slice none 0 0,.slice none 0 0,.int .i64 0,.int .i64 0,.int .i64 0,.int .i64 0,.int .i64 0,.slice none 0 0,.slice none 0 0,.string ByteArray.empty,.int .i64 0]⟩ (.ai 41 ⟨12,true,.st [(0,33),(1,34),(2,35),(3,40)],[.slice none 0 0,.slice none 0 0,.slice none 0 0,.int .i64 0,.int .i64 0,.int .i64 0,.int .i64 0,.int .i64 0,.slice none 0 0,.slice none 0 0,.string ByteArray.empty,.int .i64 0]⟩ (.nil) (.nil)) (.nil)) (.ai 44 ⟨4,true,.st [(0,3),(1,3),(2,9),(3,43)],[.int .i64 0,.int .i64 0,.string ByteArray.empty,.slice none 0 0]⟩ (.nil) (.nil)))))) (.ai 73 ⟨1,false,.fn,[.nilFunc]⟩ (.ai 59 ⟨1,false,.fn,[.nilFunc]⟩ (.ai 52 ⟨1,false,.int .i64,[.int .i64 0]⟩ (.ai 48 ⟨6,true,.st [(0,3),(1,3),(2,3),(3,9),(4,33),(5,46)],[.int .i64 0,.int .i64 0,.int .i64 0,.string ByteArray.empty,.slice none 0 0,.slice none 0 0]⟩ (.ai 47 ⟨6,true,.st [(0,3),(1,3),(2,3),(3,9),(4,33),(5,46)],[.int .i64 0,.int .i64 0,.int .i64 0,.string ByteArray.empty,.slice none 0 0,.slice none 0 0]⟩ (.ai 46 ⟨1,false,.sl 48 6 88,[.slice none 0 0]⟩ (.nil) (.nil)) (.nil)) (.ai 51 ⟨1,false,.fn,[.nilFunc]⟩ (.ai 50 ⟨1,false,.fn,[.nilFunc]⟩ (.nil) (.nil)) (.nil))) (.ai 56 ⟨1,false,.fn,[.nilFunc]⟩ (.ai 54 ⟨2,true,.st [(0,52),(1,3)],[.int .i64 0,.int .i64 0]⟩ (.ai 53 ⟨2,true,.st [(0,52),(1,3)],[.int .i64 0,.int .i64 0]⟩ (.nil) (.nil)) (.nil)) (.ai 57 ⟨1,false,.fn,[.nilFunc]⟩ (.nil) (.nil)))) (.ai 67 ⟨1,false,.fn,[.nilFunc]⟩ (.ai 63 ⟨1,false,.fn,[.nilFunc]⟩ (.ai 61 ⟨1,false,.fn,[.nilFunc]⟩ (.ai 60 ⟨1,false,.fn,[.nilFunc]⟩ (.nil) (.nil)) (.nil)) (.ai 65 ⟨1,false,.fn,[.nilFunc]⟩ (.ai 64 ⟨1,false,.sl 22 1 24,[.slice none 0 0]⟩ (.nil) (.nil)) (.nil))) (.ai 70 ⟨1,false,.fn,[.nilFunc]⟩ (.ai 69 ⟨1,false,.fn,[.nilFunc]⟩ (.ai 68 ⟨1,false,.fn,[.nilFunc]⟩ (.nil) (.nil)) (.nil)) (.ai 72 ⟨1,false,.fn,[.nilFunc]⟩ (.nil) (.nil))))) (.ai 84 ⟨2,true,.st [(0,3),(1,3)],[.int .i64 0,.int .i64 0]⟩ (.ai 79 ⟨1,false,.fn,[.nilFunc]⟩ (.ai 76 ⟨1,false,.sl 155 7 88,[.slice none 0 0]⟩ (.ai 75 ⟨1,false,.sl 206 1 24,[.slice none 0 0]⟩ (.ai 74 ⟨1,false,.fn,[.nilFunc]⟩ (.nil) (.nil)) (.nil)) (.ai 78 ⟨4,true,.st [(0,33),(1,75),(2,76),(3,3)],[.slice none 0 0,.slice none 0 0,.slice none 0 0,.int .i64 0]⟩ (.ai 77 ⟨4,true,.st [(0,33),(1,75),(2,76),(3,3)],[.slice none 0 0,.slice none 0 0,.slice none 0 0,.int .i64 0]⟩ (.nil) (.nil)) (.nil))) (.ai 82 ⟨1,false,.fn,[.nilFunc]⟩ (.ai 81 ⟨1,false,.fn,[.nilFunc]⟩ (.ai 80 ⟨1,false,.fn,[.nilFunc]⟩ (.nil) (.nil)) (.nil)) (.ai 83 ⟨1,false,.fn,[.nilFunc]⟩ (.nil) (.nil)))) (.ai 91 ⟨1,false,.fn,[.nilFunc]⟩ (.ai 87 ⟨4,true,.st [(0,3),(1,3),(2,9),(3,86)],[.int .i64 0,.int .i64 0,.string ByteArray.empty,.slice none 0 0]⟩ (.ai 86 ⟨1,false,.sl 88 4 56,[.slice none 0 0]⟩ (.ai 85 ⟨2,true,.st [(0,3),(1,3)],[.int .i64 0,.int .i64 0]⟩ (.nil) (.nil)) (.nil)) (.ai 90 ⟨1,false,.fn,[.nilFunc]⟩ (.ai 88 ⟨4,true,.st [(0,3),(1,3),(2,9),(3,86)],[.int .i64 0,.int .i64 0,.string ByteArray.empty,.slice none 0 0]⟩ (.nil) (.nil)) (.nil))) (.ai 94 ⟨1,false,.fn,[.nilFunc]⟩ (.ai 93 ⟨1,false,.fn,[.nilFunc]⟩ (.ai 92 ⟨1,false,.fn,[.nilFunc]⟩ (.nil) (.nil)) (.nil)) (.ai 95 ⟨1,false,.ptr 182,[.pointer none]⟩ (.nil) (.nil))))))) (.ai 145 ⟨4,true,.st [(0,38),(2,38)],[.string ByteArray.empty,.int .i64 0,.string ByteArray.empty,.int .i64 0]⟩ (.ai 121 ⟨1,false,.fn,[.nilFunc]⟩ (.ai 109 ⟨11,true,.st [(0,38),(2,40)],[.string ByteArray.empty,.int .i64 0,.int .i64 0,.int .i64 0,.int .i64 0,.int .i64 0,.int .i64 0,.slice none 0 0,.slice none 0 0,.string ByteArray.empty,.int .i64 0]⟩ (.ai 103 ⟨2,true,.st [(0,3),(1,3)],[.int .i64 0,.int .i64 0]⟩ (.ai 100 ⟨7,true,.st [(0,25),(1,25),(2,28),(3,95),(4,98),(5,3),(6,22)],[.pointer none,.pointer none,.slice none 0 0,.pointer none,.map none,.int .i64 0,.slice none 0 0]⟩ (.ai 99 ⟨7,true,.st [(0,25),(1,25),(2,28),(3,95),(4,98),(5,3),(6,22)],[.pointer none,.pointer none,.slice none 0 0,.pointer none,.map none,.int .i64 0,.slice none 0 0]⟩ (.ai 97 ⟨1,false,.ptr 100,[.pointer none]⟩ (.nil) (.nil)) (.nil)) (.ai 102 ⟨2,true,.st [(0,3),(1,3)],[.int .i64 0,.int .i64 0]⟩ (.ai 101 ⟨1,false,.fn,[.nilFunc]⟩ (.nil) (.nil)) (.nil))) (.ai 107 ⟨1,false,.fn,[.nilFunc]⟩ (.ai 106 ⟨1,false,.fn,[.nilFunc]⟩ (.ai 104 ⟨1,false,.fn,[.nilFunc]⟩ (.nil) (.nil)) (.nil)) (.ai 108 ⟨11,true,.st [(0,38),(2,40)],[.string ByteArray.empty,.int .i64 0,.int .i64 0,.int .i64 0,.int .i64 0,.int .i64 0,.int .i64 0,.slice none 0 0,.slice none 0 0,.string ByteArray.empty,.int .i64 0]⟩ (.nil) (.nil)))) (.ai 116 ⟨5,true,.st [(0,95),(1,113),(2,3),(3,114),(4,28)],[.pointer none,.slice none 0 0,.int .i64 0,.pointer none,.slice none 0 0]⟩ (.ai 113 ⟨1,false,.sl 125 7 88,[.slice none 0 0]⟩ (.ai 112 ⟨1,false,.ptr 118,[.pointer none]⟩ (.ai 111 ⟨1,false,.fn,[.nilFunc]⟩ (.nil) (.nil)) (.nil)) (.ai 115 ⟨5,true,.st [(0,95),(1,113),(2,3),(3,114),(4,28)],[.pointer none,.slice none 0 0,.int .i64 0,.pointer none,.slice none 0 0]⟩ (.ai 114 ⟨1,false,.ptr 255,[.pointer none]⟩ (.nil) (.nil)) (.nil))) (.ai 119 ⟨1,false,.fn,[.nilFunc]⟩ (.ai 118 ⟨15,true,.st [(0,42),(12,95),(13,25),(14,3)],[.slice none 0 0,.slice none 0 0,.slice none 0 0,.int .i64 0,.int .i64 0,.int .i64 0,.int .i64 0,.int .i64 0,.slice none 0 0,.slice none 0 0,.string ByteArray.empty,.int .i64 0,.pointer none,.pointer none,.int .i64 0]⟩ (.ai 117 ⟨15,true,.st [(0,42),(12,95),(13,25),(14,3)],[.slice none 0 0,.slice none 0 0,.slice none 0 0,.int .i64 0,.int .i64 0,.int .i64 0,.int .i64 0,.int .i64 0,.slice none 0 0,.slice none 0 0,.string ByteArray.empty,.int .i64 0,.pointer none,.pointer none,.int .i64 0]⟩ (.nil) (.nil)) (.nil)) (.ai 120 ⟨1,false,.fn,[.nilFunc]⟩ (.nil) (.nil))))) (.ai 134 ⟨1,false,.fn,[.nilFunc]⟩ (.ai 128 ⟨1,false,.fn,[.nilFunc]⟩ (.ai 124 ⟨7,true,.st [(0,3),(1,3),(2,3),(3,3),(4,3),(5,27),(6,123)],[.int .i64 0,.int .i64 0,.int .i64 0,.int .i64 0,.int .i64 0,.slice none 0 0,.slice none 0 0]⟩ (.ai 123 ⟨1,false,.sl 176 10 88,[.slice none 0 0]⟩ (.ai 122 ⟨1,false,.fn,[.nilFunc]⟩ (.nil) (.nil)) (.nil)) (.ai 127 ⟨1,false,.fn,[.nilFunc]⟩ (.ai 125 ⟨7,true,.st [(0,3),(1,3),(2,3),(3,3),(4,3),(5,27),(6,123)],[.int .i64 0,.int .i64 0,.int .i64 0,.int .i64 0,.int .i64 0,.slice none 0 0,.slice none 0 0]⟩ (.nil) (.nil)) (.nil))) (.ai 131 ⟨1,false,.fn,[.nilFunc]⟩ (.ai 130 ⟨1,false,.fn,[.nilFunc]⟩ (.ai 129 ⟨1,false,.fn,[.nilFunc]⟩ (.nil) (.nil)) (.nil)) (.ai 133 ⟨1,false,.fn,[.nilFunc]⟩ (.nil) (.nil)))) (.ai 140 ⟨1,false,.fn,[.nilFunc]⟩ (.ai 137 ⟨3,true,.st [(0,3),(1,3),(2,9)],[.int .i64 0,.int .i64 0,.string ByteArray.empty]⟩ (.ai 136 ⟨3,true,.st [(0,3),(1,3),(2,9)],[.int .i64 0,.int .i64 0,.string ByteArray.empty]⟩ (.ai 135 ⟨1,false,.fn,[.nilFunc]⟩ (.nil) (.nil)) (.nil)) (.ai 139 ⟨1,false,.fn,[.nilFunc]⟩ (.ai 138 ⟨1,false,.fn,[.nilFunc]⟩ (.nil) (.nil)) (.nil))) (.ai 143 ⟨18,true,.st [(0,38),(2,4),(3,33),(4,3),(5,142),(9,40)],[.string ByteArray.empty,.int .i64 0,.bool false,.slice none 0 0,.int .i64 0,.int .i64 0,.int .i64 0,.int .i64 0,.slice none 0 0,.int .i64 0,.int .i64 0,.int .i64 0,.int .i64 0,.int .i64 0,.slice none 0 0,.slice none 0 0,.string ByteArray.empty,.int .i64 0]⟩ (.ai 142 ⟨4,true,.st [(0,3),(1,3),(2,3),(3,33)],[.int .i64 0,.int .i64 0,.int .i64 0,.slice none 0 0]⟩ (.ai 141 ⟨4,true,.st [(0,3),(1,3),(2,3),(3,33)],[.int .i64 0,.int .i64 0,.int .i64 0,.slice none 0 0]⟩ (.nil) (.nil)) (.nil)) (.ai 144 ⟨18,true,.st [(0,38),(2,4),(3,33),(4,3),(5,142),(9,40)],[.string ByteArray.empty,.int .i64 0,.bool false,.slice none 0 0,.int .i64 0,.int .i64 0,.int .i64 0,.int .i64 0,.slice none 0 0,.int .i64 0,.int .i64 0,.int .i64 0,.int .i64 0,.int .i64 0,.slice none 0 0,.slice none 0 0,.string ByteArray.empty,.int .i64 0]⟩ (.nil) (.nil)))))) (.ai 167 ⟨10,true,.st [(0,9),(1,4),(2,3),(3,3),(4,3),(5,3),(6,3),(7,3),(8,3),(9,3)],[.string ByteArray.empty,.bool false,.int .i64 0,.int .i64 0,.int .i64 0,.int .i64 0,.int .i64 0,.int .i64 0,.int .i64 0,.int .i64 0]⟩ (.ai 156 ⟨1,false,.fn,[.nilFunc]⟩ (.ai 151 ⟨1,false,.fn,[.nilFunc]⟩ (.ai 148 ⟨1,false,.fn,[.nilFunc]⟩ (.ai 147 ⟨1,false,.fn,[.nilFunc]⟩ (.ai 146 ⟨4,true,.st [(0,38),(2,38)],[.string ByteArray.empty,.int .i64 0,.string ByteArray.empty,.int .i64 0]⟩ (.nil) (.nil)) (.nil)) (.ai 150 ⟨1,false,.sl 40 9 112,[.slice none 0 0]⟩ (.ai 149 ⟨1,false,.fn,[.nilFunc]⟩ (.nil) (.nil)) (.nil))) (.ai 154 ⟨7,true,.st [(0,3),(1,3),(2,3),(3,3),(4,3),(5,27),(6,153)],[.int .i64 0,.int .i64 0,.int .i64 0,.int .i64 0,.int .i64 0,.slice none 0 0,.slice none 0 0]⟩ (.ai 153 ⟨1,false,.sl 168 10 88,[.slice none 0 0]⟩ (.ai 152 ⟨1,false,.fn,[.nilFunc]⟩ (.nil) (.nil)) (.nil)) (.ai 155 ⟨7,true,.st [(0,3),(1,3),(2,3),(3,3),(4,3),(5,27),(6,153)],[.int .i64 0,.int .i64 0,.int .i64 0,.int .i64 0,.int .i64 0,.slice none 0 0,.slice none 0 0]⟩ (.nil) (.nil)))) (.ai 162 ⟨1,false,.fn,[.nilFunc]⟩ (.ai 159 ⟨1,false,.sl 5 1 1,[.slice none 0 0]⟩ (.ai 158 ⟨1,false,.ptr 161,[.pointer none]⟩ (.ai 157 ⟨1,false,.fn,[.nilFunc]⟩ (.nil) (.nil)) (.nil)) (.ai 161 ⟨2,true,.st [(0,158),(1,159)],[.pointer none,.slice none 0 0]⟩ (.ai 160 ⟨2,true,.st [(0,158),(1,159)],[.pointer none,.slice none 0 0]⟩ (.nil) (.nil)) (.nil))) (.ai 165 ⟨1,false,.fn,[.nilFunc]⟩ (.ai 164 ⟨1,false,.fn,[.nilFunc]⟩ (.ai 163 ⟨1,false,.fn,[.nilFunc]⟩ (.nil) (.nil)) (.nil)) (.ai 166 ⟨1,false,.fn,[.nilFunc]⟩ (.nil) (.nil))))) (.ai 178 ⟨1,false,.ptr 260,[.pointer none]⟩ (.ai 173 ⟨1,false,.fn,[.nilFunc]⟩ (.ai 170 ⟨1,false,.fn,[.nilFunc]⟩ (.ai 169 ⟨1,false,.fn,[.nilFunc]⟩ (.ai 168 ⟨10,true,.st [(0,9),(1,4),(2,3),(3,3),(4,3),(5,3),(6,3),(7,3),(8,3),(9,3)],[.string ByteArray.empty,.bool false,.int .i64 0,.int .i64 0,.int .i64 0,.int .i64 0,.int .i64 0,.int .i64 0,.int .i64 0,.int .i64 0]⟩ (.nil) (.nil)) (.nil)) (.ai 172 ⟨1,false,.fn,[.nilFunc]⟩ (.ai 171 ⟨1,false,.fn,[.nilFunc]⟩ (.nil) (.nil)) (.nil))) (.ai 176 ⟨10,true,.st [(0,9),(1,4),(2,3),(3,3),(4,3),(5,3),(6,3),(7,3),(8,3),(9,3)],[.string ByteArray.empty,.bool false,.int .i64 0,.int .i64 0,.int .i64 0,.int .i64 0,.int .i64 0,.int .i64 0,.int .i64 0,.int .i64 0]⟩ (.ai 175 ⟨1,false,.fn,[.nilFunc]⟩ (.ai 174 ⟨1,false,.fn,[.nilFunc]⟩ (.nil) (.nil)) (.nil)) (.ai 177 ⟨1,false,.fn,[.nilFunc]⟩ (.nil) (.nil)))) (.ai 185 ⟨1,false,.fn,[.nilFunc]⟩ (.ai 181 ⟨2051,true,.st [(0,27),(1,114),(2,178),(3,180),(1027,180)],(.slice none 0 0 :: .pointer none :: .pointer none :: List.replicate 2048 (.int .i64 0))⟩ (.ai 180 ⟨1024,true,.ar 32 32,(List.replicate 1024 (.int .i64 0))⟩ (.ai 179 ⟨32,true,.ar 32 1,[.int .i64 0,.int .i64 0,.int .i64 0,.int .i64 0,.int .i64 0,.int .i64 0,.int .i64 0,.int .i64 0,.int .i64 0,.int .i64 0,.int .i64 0,.int .i64 0,.int .i64 0,.int .i64 0,.int .i64 0,.int .i64 0,.int .i64 0,.int .i64 0,.int .i64 0,.int .i64 0,.int .i64 0,.int .i64 0,.int .i64 0,.int .i64 0,.int .i64 0,.int .i64 0,.int .i64 0,.int .i64 0,.int .i64 0,.int .i64 0,.int .i64 0,.int .i64 0]⟩ (.nil) (.nil)) (.nil)) (.ai 183 ⟨1,false,.fn,[.nilFunc]⟩ (.ai 182 ⟨2051,true,.st [(0,27),(1,114),(2,178),(3,180),(1027,180)],(.slice none 0 0 :: .pointer none :: .pointer none :: List.replicate 2048 (.int .i64 0))⟩ (.nil) (.nil)) (.nil))) (.ai 189 ⟨1,false,.fn,[.nilFunc]⟩ (.ai 187 ⟨1,false,.sl 257 2 16,[.slice none 0 0]⟩ (.ai 186 ⟨1,false,.fn,[.nilFunc]⟩ (.nil) (.nil)) (.nil)) (.ai 191 ⟨1,false,.fn,[.nilFunc]⟩ (.nil) (.nil)))))))) (.ai 290 ⟨1,false,.fn,[.nilFunc]⟩ (.ai 242 ⟨1,false,.fn,[.nilFunc]⟩ (.ai 215 ⟨1,false,.sg,[.nilIface]⟩ (.ai 204 ⟨1,false,.fn,[.nilFunc]⟩ (.ai 199 ⟨1,false,.fn,[.nilFunc]⟩ (.ai 195 ⟨1,false,.fn,[.nilFunc]⟩ (.ai 194 ⟨1,false,.fn,[.nilFunc]⟩ (.ai 193 ⟨1,false,.fn,[.nilFunc]⟩ (.nil) (.nil)) (.nil)) (.ai 198 ⟨1,false,.fn,[.nilFunc]⟩ (.ai 196 ⟨1,false,.sl 33 1 24,[.slice none 0 0]⟩ (.nil) (.nil)) (.nil))) (.ai 202 ⟨1,false,.fn,[.nilFunc]⟩ (.ai 201 ⟨1,false,.fn,[.nilFunc]⟩ (.ai 200 ⟨1,false,.fn,[.nilFunc]⟩ (.nil) (.nil)) (.nil)) (.ai 203 ⟨1,false,.fn,[.nilFunc]⟩ (.nil) (.nil)))) (.ai 210 ⟨1,false,.fn,[.nilFunc]⟩ (.ai 207 ⟨1,false,.fn,[.nilFunc]⟩ (.ai 206 ⟨1,false,.sl 4 1 1,[.slice none 0 0]⟩ (.ai 205 ⟨1,false,.fn,[.nilFunc]⟩ (.nil) (.nil)) (.nil)) (.ai 209 ⟨1,false,.fn,[.nilFunc]⟩ (.ai 208 ⟨1,false,.fn,[.nilFunc]⟩ (.nil) (.nil)) (.nil))) (.ai 213 ⟨20,true,.ar 20 1,[.int .u8 0,.int .u8 0,.int .u8 0,.int .u8 0,.int .u8 0,.int .u8 0,.int .u8 0,.int .u8 0,.int .u8 0,.int .u8 0,.int .u8 0,.int .u8 0,.int .u8 0,.int .u8 0,.int .u8 0,.int .u8 0,.int .u8 0,.int .u8 0,.int .u8 0,.int .u8 0]⟩ (.ai 212 ⟨1,false,.int .u64,[.int .u64 0]⟩ (.ai 211 ⟨1,false,.fn,[.nilFunc]⟩ (.nil) (.nil)) (.nil)) (.ai 214 ⟨1,false,.sg,[.nilIface]⟩ (.nil) (.nil))))) (.ai 229 ⟨1,false,.fn,[.nilFunc]⟩ (.ai 224 ⟨1,false,.fn,[.nilFunc]⟩ (.ai 220 ⟨1,false,.fn,[.nilFunc]⟩ (.ai 218 ⟨1,false,.fn,[.nilFunc]⟩ (.ai 216 ⟨1,false,.fn,[.nilFunc]⟩ (.nil) (.nil)) (.nil)) (.ai 223 ⟨1,false,.fn,[.nilFunc]⟩ (.ai 221 ⟨1,false,.int .u64,[.int .u64 0]⟩ (.nil) (.nil)) (.nil))) (.ai 227 ⟨1,false,.fn,[.nilFunc]⟩ (.ai 226 ⟨1,false,.fn,[.nilFunc]⟩ (.ai 225 ⟨1,false,.fn,[.nilFunc]⟩ (.nil) (.nil)) (.nil)) (.ai 228 ⟨1,false,.fn,[.nilFunc]⟩ (.nil) (.nil)))) (.ai 236 ⟨1,false,.fn,[.nilFunc]⟩ (.ai 232 ⟨3,true,.st [(0,25),(1,95),(2,3)],[.pointer none,.pointer none,.int .i64 0]⟩ (.ai 231 ⟨3,true,.st [(0,25),(1,95),(2,3)],[.pointer none,.pointer none,.int .i64 0]⟩ (.ai 230 ⟨1,false,.fn,[.nilFunc]⟩ (.nil) (.nil)) (.nil)) (.ai 235 ⟨1,false,.fn,[.nilFunc]⟩ (.ai 234 ⟨1,false,.fn,[.nilFunc]⟩ (.nil) (.nil)) (.nil))) (.ai 240 ⟨1,false,.fn,[.nilFunc]⟩ (.ai 238 ⟨3,true,.st [(0,9),(1,9),(2,27)],[.string ByteArray.empty,.string ByteArray.empty,.slice none 0 0]⟩ (.ai 237 ⟨3,true,.st [(0,9),(1,9),(2,27)],[.string ByteArray.empty,.string ByteArray.empty,.slice none 0 0]⟩ (.nil) (.nil)) (.nil)) (.ai 241 ⟨1,false,.ptr 5,[.pointer none]⟩ (.nil) (.nil)))))) (.ai 264 ⟨1,false,.ptr 266,[.pointer none]⟩ (.ai 253 ⟨1,false,.fn,[.nilFunc]⟩ (.ai 248 ⟨1,false,.fn,[.nilFunc]⟩ (.ai 245 ⟨1,false,.fn,[.nilFunc]⟩ (.ai 244 ⟨1,false,.fn,[.nilFunc]⟩ (.ai 243 ⟨1,false,.fn,[.nilFunc]⟩ (.nil) (.nil)) (.nil)) (.ai 247 ⟨1,false,.fn,[.nilFunc]⟩ (.ai 246 ⟨1,false,.fn,[.nilFunc]⟩ (.nil) (.nil)) (.nil))) (.ai 251 ⟨1,false,.fn,[.nilFunc]⟩ (.ai 250 ⟨1,false,.fn,[.nilFunc]⟩ (.ai 249 ⟨1,false,.fn,[.nilFunc]⟩ (.nil) (.nil)) (.nil)) (.ai 252 ⟨1,false,.fn,[.nilFunc]⟩ (.nil) (.nil)))) (.ai 259 ⟨1,true,.st [(0,258)],[.slice none 0 0]⟩ (.ai 256 ⟨1,false,.fn,[.nilFunc]⟩ (.ai 255 ⟨2,true,.st [(0,27),(1,28)],[.slice none 0 0,.slice none 0 0]⟩ (.ai 254 ⟨2,true,.st [(0,27),(1,28)],[.slice none 0 0,.slice none 0 0]⟩ (.nil) (.nil)) (.nil)) (.ai 258 ⟨1,false,.sl 212 1 8,[.slice none 0 0]⟩ (.ai 257 ⟨2,true,.ar 2 1,[.int .i64 0,.int .i64 0]⟩ (.nil) (.nil)) (.nil))) (.ai 262 ⟨1,false,.fn,[.nilFunc]⟩ (.ai 261 ⟨1,false,.fn,[.nilFunc]⟩ (.ai 260 ⟨1,true,.st [(0,258)],[.slice none 0 0]⟩ (.nil) (.nil)) (.nil)) (.ai 263 ⟨1,false,.fn,[.nilFunc]⟩ (.nil) (.nil))))) (.ai 276 ⟨1,false,.fn,[.nilFunc]⟩ (.ai 270 ⟨1,false,.fn,[.nilFunc]⟩ (.ai 267 ⟨1,false,.fn,[.nilFunc]⟩ (.ai 266 ⟨1,true,.st [(0,3)],[.int .i64 0]⟩ (.ai 265 ⟨1,true,.st [(0,3)],[.int .i64 0]⟩ (.nil) (.nil)) (.nil)) (.ai 269 ⟨1,false,.fn,[.nilFunc]⟩ (.ai 268 ⟨1,false,.fn,[.nilFunc]⟩ (.nil) (.nil)) (.nil))) (.ai 274 ⟨1,false,.fn,[.nilFunc]⟩ (.ai 272 ⟨1,false,.fn,[.nilFunc]⟩ (.ai 271 ⟨1,false,.fn,[.nilFunc]⟩ (.nil) (.nil)) (.nil)) (.ai 275 ⟨1,false,.fn,[.nilFunc]⟩ (.nil) (.nil)))) (.ai 284 ⟨1,false,.fn,[.nilFunc]⟩ (.ai 280 ⟨1,false,.fn,[.nilFunc]⟩ (.ai 278 ⟨1,false,.int .u32,[.int .u32 0]⟩ (.ai 277 ⟨1,false,.fn,[.nilFunc]⟩ (.nil) (.nil)) (.nil)) (.ai 283 ⟨1,false,.fn,[.nilFunc]⟩ (.ai 282 ⟨1,false,.fn,[.nilFunc]⟩ (.nil) (.nil)) (.nil))) (.ai 287 ⟨1,false,.fn,[.nilFunc]⟩ (.ai 286 ⟨1,false,.fn,[.nilFunc]⟩ (.ai 285 ⟨1,false,.fn,[.nilFunc]⟩ (.nil) (.nil)) (.nil)) (.ai 288 ⟨1,false,.fn,[.nilFunc]⟩ (.nil) (.nil))))))) (.ai 340 ⟨1,false,.fn,[.nilFunc]⟩ (.ai 316 ⟨1,false,.fn,[.nilFunc]⟩ (.ai 304 ⟨1,false,.fn,[.nilFunc]⟩ (.ai 297 ⟨1,false,.int .u64,[.int .u64 0]⟩ (.ai 293 ⟨1,false,.fn,[.nilFunc]⟩ (.ai 292 ⟨1,false,.fn,[.nilFunc]⟩ (.ai 291 ⟨1,false,.fn,[.nilFunc]⟩ (.nil) (.nil)) (.nil)) (.ai 295 ⟨1,false,.fn,[.nilFunc]⟩ (.ai 294 ⟨1,false,.fn,[.nilFunc]⟩ (.nil) (.nil)) (.nil))) (.ai 302 ⟨1,false,.fn,[.nilFunc]⟩ (.ai 301 ⟨1,false,.fn,[.nilFunc]⟩ (.ai 300 ⟨1,false,.fn,[.nilFunc]⟩ (.nil) (.nil)) (.nil)) (.ai 303 ⟨1,false,.fn,[.nilFunc]⟩ (.nil) (.nil)))) (.ai 310 ⟨1,false,.fn,[.nilFunc]⟩ (.ai 307 ⟨1,false,.fn,[.nilFunc]⟩ (.ai 306 ⟨2,true,.st [(0,173),(1,301)],[.nilFunc,.nilFunc]⟩ (.ai 305 ⟨2,true,.st [(0,173),(1,301)],[.nilFunc,.nilFunc]⟩ (.nil) (.nil)) (.nil)) (.ai 309 ⟨1,false,.fn,[.nilFunc]⟩ (.ai 308 ⟨1,false,.fn,[.nilFunc]⟩ (.nil) (.nil)) (.nil))) (.ai 314 ⟨1,false,.fn,[.nilFunc]⟩ (.ai 313 ⟨1,false,.fn,[.nilFunc]⟩ (.ai 312 ⟨1,false,.fn,[.nilFunc]⟩ (.nil) (.nil)) (.nil)) (.ai 315 ⟨1,false,.fn,[.nilFunc]⟩ (.nil) (.nil))))) (.ai 328 ⟨1,true,.st [(0,17)],[.pointer none]⟩ (.ai 322 ⟨1,false,.fn,[.nilFunc]⟩ (.ai 319 ⟨3,true,.st [(0,54),(2,3)],[.int .i64 0,.int .i64 0,.int .i64 0]⟩ (.ai 318 ⟨1,false,.fn,[.nilFunc]⟩ (.ai 317 ⟨1,false,.sl 348 2 8,[.slice none 0 0]⟩ (.nil) (.nil)) (.nil)) (.ai 321 ⟨1,false,.fn,[.nilFunc]⟩ (.ai 320 ⟨3,true,.st [(0,54),(2,3)],[.int .i64 0,.int .i64 0,.int .i64 0]⟩ (.nil) (.nil)) (.nil))) (.ai 326 ⟨1,false,.fn,[.nilFunc]⟩ (.ai 324 ⟨1,false,.fn,[.nilFunc]⟩ (.ai 323 ⟨1,false,.fn,[.nilFunc]⟩ (.nil) (.nil)) (.nil)) (.ai 327 ⟨1,false,.fn,[.nilFunc]⟩ (.nil) (.nil)))) (.ai 335 ⟨1,false,.fn,[.nilFunc]⟩ (.ai 331 ⟨1,false,.fn,[.nilFunc]⟩ (.ai 330 ⟨1,false,.ptr 385,[.pointer none]⟩ (.ai 329 ⟨1,true,.st [(0,17)],[.pointer none]⟩ (.nil) (.nil)) (.nil)) (.ai 333 ⟨1,false,.int .i64,[.int .i64 0]⟩ (.ai 332 ⟨1,false,.fn,[.nilFunc]⟩ (.nil) (.nil)) (.nil))) (.ai 338 ⟨1,false,.fn,[.nilFunc]⟩ (.ai 337 ⟨1,false,.fn,[.nilFunc]⟩ (.ai 336 ⟨1,false,.fn,[.nilFunc]⟩ (.nil) (.nil)) (.nil)) (.ai 339 ⟨1,false,.fn,[.nilFunc]⟩ (.nil) (.nil)))))) (.ai 362 ⟨2,true,.st [(0,21),(1,21)],[.int .i32 0,.int .i32 0]⟩ (.ai 351 ⟨1,false,.fn,[.nilFunc]⟩ (.ai 346 ⟨1,false,.fn,[.nilFunc]⟩ (.ai 343 ⟨1,false,.sl 363 2 8,[.slice none 0 0]⟩ (.ai 342 ⟨1,false,.fn,[.nilFunc]⟩ (.ai 341 ⟨1,false,.fn,[.nilFunc]⟩ (.nil) (.nil)) (.nil)) (.ai 345 ⟨4,true,.ar 4 1,[.int .i64 0,.int .i64 0,.int .i64 0,.int .i64 0]⟩ (.ai 344 ⟨1,false,.fn,[.nilFunc]⟩ (.nil) (.nil)) (.nil))) (.ai 349 ⟨1,false,.fn,[.nilFunc]⟩ (.ai 348 ⟨2,true,.st [(0,21),(1,21)],[.int .i32 0,.int .i32 0]⟩ (.ai 347 ⟨2,true,.st [(0,21),(1,21)],[.int .i32 0,.int .i32 0]⟩ (.nil) (.nil)) (.nil)) (.ai 350 ⟨1,false,.fn,[.nilFunc]⟩ (.nil) (.nil)))) (.ai 357 ⟨1,false,.fn,[.nilFunc]⟩ (.ai 354 ⟨1,false,.fn,[.nilFunc]⟩ (.ai 353 ⟨1,false,.fn,[.nilFunc]⟩ (.ai 352 ⟨1,false,.fn,[.nilFunc]⟩ (.nil) (.nil)) (.nil)) (.ai 356 ⟨1,false,.fn,[.nilFunc]⟩ (.ai 355 ⟨1,false,.int .u64,[.int .u64 0]⟩ (.nil) (.nil)) (.nil))) (.ai 360 ⟨1,false,.fn,[.nilFunc]⟩ (.ai 359 ⟨1,false,.ptr 3,[.pointer none]⟩ (.ai 358 ⟨1,false,.fn,[.nilFunc]⟩ (.nil) (.nil)) (.nil)) (.ai 361 ⟨1,false,.fn,[.nilFunc]⟩ (.nil) (.nil))))) (.ai 373 ⟨4,true,.st [(0,17),(1,17),(2,17),(3,9)],[.pointer none,.pointer none,.pointer none,.string ByteArray.empty]⟩ (.ai 368 ⟨1,false,.ptr 355,[.pointer none]⟩ (.ai 365 ⟨1,false,.fn,[.nilFunc]⟩ (.ai 364 ⟨1,false,.fn,[.nilFunc]⟩ (.ai 363 ⟨2,true,.st [(0,21),(1,21)],[.int .i32 0,.int .i32 0]⟩ (.nil) (.nil)) (.nil)) (.ai 367 ⟨1,false,.fn,[.nilFunc]⟩ (.ai 366 ⟨1,false,.fn,[.nilFunc]⟩ (.nil) (.nil)) (.nil))) (.ai 371 ⟨1,false,.fn,[.nilFunc]⟩ (.ai 370 ⟨1,false,.fn,[.nilFunc]⟩ (.ai 369 ⟨1,false,.fn,[.nilFunc]⟩ (.nil) (.nil)) (.nil)) (.ai 372 ⟨4,true,.st [(0,17),(1,17),(2,17),(3,9)],[.pointer none,.pointer none,.pointer none,.string ByteArray.empty]⟩ (.nil) (.nil)))) (.ai 381 ⟨1,false,.int .i32,[.int .i32 0]⟩ (.ai 378 ⟨1,false,.int .u8,[.int .u8 0]⟩ (.ai 377 ⟨1,false,.int .u8,[.int .u8 0]⟩ (.ai 374 ⟨0,true,.ar 0 1,[]⟩ (.nil) (.nil)) (.nil)) (.ai 380 ⟨1,false,.int .i32,[.int .i32 0]⟩ (.ai 379 ⟨1,false,.fn,[.nilFunc]⟩ (.nil) (.nil)) (.nil))) (.ai 384 ⟨2,true,.st [(0,9),(1,378)],[.string ByteArray.empty,.int .u8 0]⟩ (.ai 383 ⟨11,true,.st [(0,12),(1,12),(2,278),(3,377),(4,5),(5,5),(6,378),(7,379),(8,241),(9,380),(10,381)],[.int .u64 0,.int .u64 0,.int .u32 0,.int .u8 0,.int .u8 0,.int .u8 0,.int .u8 0,.nilFunc,.pointer none,.int .i32 0,.int .i32 0]⟩ (.ai 382 ⟨11,true,.st [(0,12),(1,12),(2,278),(3,377),(4,5),(5,5),(6,378),(7,379),(8,241),(9,380),(10,381)],[.int .u64 0,.int .u64 0,.int .u32 0,.int .u8 0,.int .u8 0,.int .u8 0,.int .u8 0,.nilFunc,.pointer none,.int .i32 0,.int .i32 0]⟩ (.nil) (.nil)) (.nil)) (.ai 385 ⟨2,true,.st [(0,9),(1,378)],[.string ByteArray.empty,.int .u8 0]⟩ (.nil) (.nil))))))))
theorem tt_ok:tt.ok Tryz.prog=true:=by decide +kernel
theorem mo:Tryz.prog.follows .mixedOrders=true:=rfl
end Dv
end Go.Proofs.YtfifjddnnmfeoaaGreat
set_option maxRecDepth 100000
namespace Go.Proofs.YtfifjddnnmfeoaaGreat
open Go Go.RowKit Dv Tryz
theorem WJ:Enters Tryz.prog 13:=enters_of Tryz.func13 (by decide +kernel) rfl
theorem en14:Enters Tryz.prog 14:=enters_of Tryz.func14 (by decide +kernel) rfl
theorem WK:Enters Tryz.prog 16:=enters_of Tryz.func16 (by decide +kernel) rfl
theorem Ts:Enters Tryz.prog 19:=enters_of Tryz.func19 (by decide +kernel) rfl
theorem WL:Enters Tryz.prog 20:=enters_of Tryz.func20 (by decide +kernel) rfl
theorem Tt:Enters Tryz.prog 26:=enters_of Tryz.func26 (by decide +kernel) rfl
theorem en27:Enters Tryz.prog 27:=enters_of Tryz.func27 (by decide +kernel) rfl
theorem en28:Enters Tryz.prog 28:=enters_of Tryz.func28 (by decide +kernel) rfl
theorem en29:Enters Tryz.prog 29:=enters_of Tryz.func29 (by decide +kernel) rfl
theorem Tu:Enters Tryz.prog 30:=enters_of Tryz.func30 (by decide +kernel) rfl
theorem en31:Enters Tryz.prog 31:=enters_of Tryz.func31 (by decide +kernel) rfl
theorem WM:Enters Tryz.prog 32:=enters_of Tryz.func32 (by decide +kernel) rfl
theorem Ly:Enters Tryz.prog 33:=enters_of Tryz.func33 (by decide +kernel) rfl
theorem WN:Enters Tryz.prog 34:=enters_of Tryz.func34 (by decide +kernel) rfl
theorem Tv:Enters Tryz.prog 35:=enters_of Tryz.func35 (by decide +kernel) rfl
theorem Tw:Enters Tryz.prog 36:=enters_of Tryz.func36 (by decide +kernel) rfl
theorem en38:Enters Tryz.prog 38:=enters_of Tryz.func38 (by decide +kernel) rfl
theorem WO:Enters Tryz.prog 41:=enters_of Tryz.func41 (by decide +kernel) rfl
theorem PI:Enters Tryz.prog 42:=enters_of Tryz.func42 (by decide +kernel) rfl
theorem en43:Enters Tryz.prog 43:=enters_of Tryz.func43 (by decide +kernel) rfl
theorem en44:Enters Tryz.prog 44:=enters_of Tryz.func44 (by decide +kernel) rfl
theorem WQ:Enters Tryz.prog 45:=enters_of Tryz.func45 (by decide +kernel) rfl
theorem WR:Enters Tryz.prog 46:=enters_of Tryz.func46 (by decide +kernel) rfl
theorem Tx:Enters Tryz.prog 47:=enters_of Tryz.func47 (by decide +kernel) rfl
theorem en48:Enters Tryz.prog 48:=enters_of Tryz.func48 (by decide +kernel) rfl
theorem en49:Enters Tryz.prog 49:=enters_of Tryz.func49 (by decide +kernel) rfl
theorem PJ:Enters Tryz.prog 50:=enters_of Tryz.func50 (by decide +kernel) rfl
theorem zU:Enters Tryz.prog 51:=enters_of Tryz.func51 (by decide +kernel) rfl
theorem en60:Enters Tryz.prog 60:=enters_of Tryz.func60 (by decide +kernel) rfl
theorem en61:Enters Tryz.prog 61:=enters_of Tryz.func61 (by decide +kernel) rfl
theorem Tz:Enters Tryz.prog 67:=enters_of Tryz.func67 (by decide +kernel) rfl
theorem WS:Enters Tryz.prog 68:=enters_of Tryz.func68 (by decide +kernel) rfl
theorem en69:Enters Tryz.prog 69:=enters_of Tryz.func69 (by decide +kernel) rfl
theorem B8:Enters Tryz.prog 70:=enters_of Tryz.func70 (by decide +kernel) rfl
theorem WT:Enters Tryz.prog 71:=enters_of Tryz.func71 (by decide +kernel) rfl
theorem en72:Enters Tryz.prog 72:=enters_of Tryz.func72 (by decide +kernel) rfl
theorem TA:Enters Tryz.prog 73:=enters_of Tryz.func73 (by decide +kernel) rfl
theorem WU:Enters Tryz.prog 74:=enters_of Tryz.func74 (by decide +kernel) rfl
theorem PK:Enters Tryz.prog 75:=enters_of Tryz.func75 (by decide +kernel) rfl
theorem en76:Enters Tryz.prog 76:=enters_of Tryz.func76 (by decide +kernel) rfl
theorem WV:Enters Tryz.prog 77:=enters_of Tryz.func77 (by decide +kernel) rfl
theorem WW:Enters Tryz.prog 78:=enters_of Tryz.func78 (by decide +kernel) rfl
theorem Lz:Enters Tryz.prog 79:=enters_of Tryz.func79 (by decide +kernel) rfl
theorem en80:Enters Tryz.prog 80:=enters_of Tryz.func80 (by decide +kernel) rfl
theorem WX:Enters Tryz.prog 81:=enters_of Tryz.func81 (by decide +kernel) rfl
theorem en82:Enters Tryz.prog 82:=enters_of Tryz.func82 (by decide +kernel) rfl
theorem TB:Enters Tryz.prog 83:=enters_of Tryz.func83 (by decide +kernel) rfl
theorem LA:Enters Tryz.prog 84:=enters_of Tryz.func84 (by decide +kernel) rfl
theorem TC:Enters Tryz.prog 85:=enters_of Tryz.func85 (by decide +kernel) rfl
theorem WY:Enters Tryz.prog 86:=enters_of Tryz.func86 (by decide +kernel) rfl
theorem Jb:Enters Tryz.prog 87:=enters_of Tryz.func87 (by decide +kernel) rfl
theorem en88:Enters Tryz.prog 88:=enters_of Tryz.func88 (by decide +kernel) rfl
theorem uG:Enters Tryz.prog 93:=enters_of Tryz.func93 (by decide +kernel) rfl
theorem en94:Enters Tryz.prog 94:=enters_of Tryz.func94 (by decide +kernel) rfl
theorem WZ:Enters Tryz.prog 95:=enters_of Tryz.func95 (by decide +kernel) rfl
theorem TD:Enters Tryz.prog 96:=enters_of Tryz.func96 (by decide +kernel) rfl
theorem W0:Enters Tryz.prog 97:=enters_of Tryz.func97 (by decide +kernel) rfl
theorem en98:Enters Tryz.prog 98:=enters_of Tryz.func98 (by decide +kernel) rfl
theorem W2:Enters Tryz.prog 99:=enters_of Tryz.func99 (by decide +kernel) rfl
theorem Re:Enters Tryz.prog 100:=enters_of Tryz.func100 (by decide +kernel) rfl
theorem W3:Enters Tryz.prog 101:=enters_of Tryz.func101 (by decide +kernel) rfl
theorem B9:Enters Tryz.prog 102:=enters_of Tryz.func102 (by decide +kernel) rfl
theorem LB:Enters Tryz.prog 103:=enters_of Tryz.func103 (by decide +kernel) rfl
theorem W4:Enters Tryz.prog 104:=enters_of Tryz.func104 (by decide +kernel) rfl
theorem Rf:Enters Tryz.prog 105:=enters_of Tryz.func105 (by decide +kernel) rfl
theorem Ca:Enters Tryz.prog 106:=enters_of Tryz.func106 (by decide +kernel) rfl
theorem en107:Enters Tryz.prog 107:=enters_of Tryz.func107 (by decide +kernel) rfl
theorem Rg:Enters Tryz.prog 108:=enters_of Tryz.func108 (by decide +kernel) rfl
theorem W5:Enters Tryz.prog 109:=enters_of Tryz.func109 (by decide +kernel) rfl
theorem Rh:Enters Tryz.prog 110:=enters_of Tryz.func110 (by decide +kernel) rfl
theorem W6:Enters Tryz.prog 111:=enters_of Tryz.func111 (by decide +kernel) rfl
theorem Ri:Enters Tryz.prog 112:=enters_of Tryz.func112 (by decide +kernel) rfl
theorem W7:Enters Tryz.prog 122:=enters_of Tryz.func122 (by decide +kernel) rfl
theorem W8:Enters Tryz.prog 123:=enters_of Tryz.func123 (by decide +kernel) rfl
theorem Rj:Enters Tryz.prog 124:=enters_of Tryz.func124 (by decide +kernel) rfl
theorem W9:Enters Tryz.prog 129:=enters_of Tryz.func129 (by decide +kernel) rfl
theorem Xa:Enters Tryz.prog 130:=enters_of Tryz.func130 (by decide +kernel) rfl
theorem Xb:Enters Tryz.prog 131:=enters_of Tryz.func131 (by decide +kernel) rfl
theorem Xc:Enters Tryz.prog 132:=enters_of Tryz.func132 (by decide +kernel) rfl
theorem Rk:Enters Tryz.prog 133:=enters_of Tryz.func133 (by decide +kernel) rfl
theorem LD:Enters Tryz.prog 134:=enters_of Tryz.func134 (by decide +kernel) rfl
theorem Ht:Enters Tryz.prog 135:=enters_of Tryz.func135 (by decide +kernel) rfl
theorem Rm:Enters Tryz.prog 136:=enters_of Tryz.func136 (by decide +kernel) rfl
theorem Rn:Enters Tryz.prog 137:=enters_of Tryz.func137 (by decide +kernel) rfl
theorem Ro:Enters Tryz.prog 138:=enters_of Tryz.func138 (by decide +kernel) rfl
theorem Cb:Enters Tryz.prog 139:=enters_of Tryz.func139 (by decide +kernel) rfl
theorem Rp:Enters Tryz.prog 140:=enters_of Tryz.func140 (by decide +kernel) rfl
theorem LF:Enters Tryz.prog 141:=enters_of Tryz.func141 (by decide +kernel) rfl
theorem Rq:Enters Tryz.prog 142:=enters_of Tryz.func142 (by decide +kernel) rfl
theorem Xd:Enters Tryz.prog 143:=enters_of Tryz.func143 (by decide +kernel) rfl
theorem yh:Enters Tryz.prog 144:=enters_of Tryz.func144 (by decide +kernel) rfl
theorem Xe:Enters Tryz.prog 145:=enters_of Tryz.func145 (by decide +kernel) rfl
theorem Rr:Enters Tryz.prog 146:=enters_of Tryz.func146 (by decide +kernel) rfl
theorem Xf:Enters Tryz.prog 147:=enters_of Tryz.func147 (by decide +kernel) rfl
theorem yi:Enters Tryz.prog 148:=enters_of Tryz.func148 (by decide +kernel) rfl
theorem LG:Enters Tryz.prog 149:=enters_of Tryz.func149 (by decide +kernel) rfl
theorem Xg:Enters Tryz.prog 150:=enters_of Tryz.func150 (by decide +kernel) rfl
theorem Xh:Enters Tryz.prog 151:=enters_of Tryz.func151 (by decide +kernel) rfl
theorem Xi:Enters Tryz.prog 152:=enters_of Tryz.func152 (by decide +kernel) rfl
theorem Xj:Enters Tryz.prog 153:=enters_of Tryz.func153 (by decide +kernel) rfl
theorem Rs:Enters Tryz.prog 154:=enters_of Tryz.func154 (by decide +kernel) rfl
theorem yj:Enters Tryz.prog 155:=enters_of Tryz.func155 (by decide +kernel) rfl
theorem Cd:Enters Tryz.prog 156:=enters_of Tryz.func156 (by decide +kernel) rfl
theorem Rt:Enters Tryz.prog 159:=enters_of Tryz.func159 (by decide +kernel) rfl
theorem Ru:Enters Tryz.prog 160:=enters_of Tryz.func160 (by decide +kernel) rfl
theorem Xk:Enters Tryz.prog 161:=enters_of Tryz.func161 (by decide +kernel) rfl
theorem LH:Enters Tryz.prog 163:=enters_of Tryz.func163 (by decide +kernel) rfl
theorem Xl:Enters Tryz.prog 164:=enters_of Tryz.func164 (by decide +kernel) rfl
theorem Xm:Enters Tryz.prog 165:=enters_of Tryz.func165 (by decide +kernel) rfl
theorem LI:Enters Tryz.prog 166:=enters_of Tryz.func166 (by decide +kernel) rfl
theorem LJ:Enters Tryz.prog 167:=enters_of Tryz.func167 (by decide +kernel) rfl
theorem Rw:Enters Tryz.prog 168:=enters_of Tryz.func168 (by decide +kernel) rfl
theorem Xn:Enters Tryz.prog 169:=enters_of Tryz.func169 (by decide +kernel) rfl
theorem Xo:Enters Tryz.prog 170:=enters_of Tryz.func170 (by decide +kernel) rfl
theorem Rx:Enters Tryz.prog 171:=enters_of Tryz.func171 (by decide +kernel) rfl
theorem LK:Enters Tryz.prog 172:=enters_of Tryz.func172 (by decide +kernel) rfl
theorem LL:Enters Tryz.prog 173:=enters_of Tryz.func173 (by decide +kernel) rfl
theorem Hu:Enters Tryz.prog 174:=enters_of Tryz.func174 (by decide +kernel) rfl
theorem LM:Enters Tryz.prog 179:=enters_of Tryz.func179 (by decide +kernel) rfl
theorem Xp:Enters Tryz.prog 180:=enters_of Tryz.func180 (by decide +kernel) rfl
theorem Xq:Enters Tryz.prog 181:=enters_of Tryz.func181 (by decide +kernel) rfl
theorem Xr:Enters Tryz.prog 182:=enters_of Tryz.func182 (by decide +kernel) rfl
theorem Ry:Enters Tryz.prog 187:=enters_of Tryz.func187 (by decide +kernel) rfl
theorem Hv:Enters Tryz.prog 188:=enters_of Tryz.func188 (by decide +kernel) rfl
theorem Xs:Enters Tryz.prog 189:=enters_of Tryz.func189 (by decide +kernel) rfl
theorem Xt:Enters Tryz.prog 190:=enters_of Tryz.func190 (by decide +kernel) rfl
theorem Xu:Enters Tryz.prog 191:=enters_of Tryz.func191 (by decide +kernel) rfl
theorem Xv:Enters Tryz.prog 192:=enters_of Tryz.func192 (by decide +kernel) rfl
theorem uH:Enters Tryz.prog 193:=enters_of Tryz.func193 (by decide +kernel) rfl
theorem Xw:Enters Tryz.prog 194:=enters_of Tryz.func194 (by decide +kernel) rfl
theorem Hw:Enters Tryz.prog 195:=enters_of Tryz.func195 (by decide +kernel) rfl
theorem Xx:Enters Tryz.prog 196:=enters_of Tryz.func196 (by decide +kernel) rfl
theorem Xy:Enters Tryz.prog 197:=enters_of Tryz.func197 (by decide +kernel) rfl
theorem Rz:Enters Tryz.prog 198:=enters_of Tryz.func198 (by decide +kernel) rfl
theorem Xz:Enters Tryz.prog 199:=enters_of Tryz.func199 (by decide +kernel) rfl
theorem RA:Enters Tryz.prog 200:=enters_of Tryz.func200 (by decide +kernel) rfl
theorem XA:Enters Tryz.prog 201:=enters_of Tryz.func201 (by decide +kernel) rfl
theorem XB:Enters Tryz.prog 202:=enters_of Tryz.func202 (by decide +kernel) rfl
theorem Hx:Enters Tryz.prog 203:=enters_of Tryz.func203 (by decide +kernel) rfl
theorem RB:Enters Tryz.prog 204:=enters_of Tryz.func204 (by decide +kernel) rfl
theorem RC:Enters Tryz.prog 205:=enters_of Tryz.func205 (by decide +kernel) rfl
theorem RD:Enters Tryz.prog 212:=enters_of Tryz.func212 (by decide +kernel) rfl
theorem XC:Enters Tryz.prog 213:=enters_of Tryz.func213 (by decide +kernel) rfl
theorem dN:Enters Tryz.prog 214:=enters_of Tryz.func214 (by decide +kernel) rfl
theorem XD:Enters Tryz.prog 215:=enters_of Tryz.func215 (by decide +kernel) rfl
theorem XE:Enters Tryz.prog 216:=enters_of Tryz.func216 (by decide +kernel) rfl
theorem RE:Enters Tryz.prog 217:=enters_of Tryz.func217 (by decide +kernel) rfl
theorem RF:Enters Tryz.prog 218:=enters_of Tryz.func218 (by decide +kernel) rfl
theorem XF:Enters Tryz.prog 220:=enters_of Tryz.func220 (by decide +kernel) rfl
theorem XG:Enters Tryz.prog 221:=enters_of Tryz.func221 (by decide +kernel) rfl
theorem XH:Enters Tryz.prog 222:=enters_of Tryz.func222 (by decide +kernel) rfl
theorem LN:Enters Tryz.prog 224:=enters_of Tryz.func224 (by decide +kernel) rfl
theorem RG:Enters Tryz.prog 225:=enters_of Tryz.func225 (by decide +kernel) rfl
theorem RH:Enters Tryz.prog 226:=enters_of Tryz.func226 (by decide +kernel) rfl
theorem XI:Enters Tryz.prog 227:=enters_of Tryz.func227 (by decide +kernel) rfl
theorem Hy:Enters Tryz.prog 228:=enters_of Tryz.func228 (by decide +kernel) rfl
theorem XJ:Enters Tryz.prog 229:=enters_of Tryz.func229 (by decide +kernel) rfl
theorem XK:Enters Tryz.prog 230:=enters_of Tryz.func230 (by decide +kernel) rfl
theorem XL:Enters Tryz.prog 231:=enters_of Tryz.func231 (by decide +kernel) rfl
theorem XM:Enters Tryz.prog 232:=enters_of Tryz.func232 (by decide +kernel) rfl
theorem LO:Enters Tryz.prog 233:=enters_of Tryz.func233 (by decide +kernel) rfl
theorem LP:Enters Tryz.prog 234:=enters_of Tryz.func234 (by decide +kernel) rfl
theorem XN:Enters Tryz.prog 235:=enters_of Tryz.func235 (by decide +kernel) rfl
theorem RI:Enters Tryz.prog 236:=enters_of Tryz.func236 (by decide +kernel) rfl
theorem RJ:Enters Tryz.prog 237:=enters_of Tryz.func237 (by decide +kernel) rfl
theorem XO:Enters Tryz.prog 238:=enters_of Tryz.func238 (by decide +kernel) rfl
theorem XP:Enters Tryz.prog 239:=enters_of Tryz.func239 (by decide +kernel) rfl
theorem XQ:Enters Tryz.prog 240:=enters_of Tryz.func240 (by decide +kernel) rfl
theorem RK:Enters Tryz.prog 260:=enters_of Tryz.func260 (by decide +kernel) rfl
theorem XR:Enters Tryz.prog 261:=enters_of Tryz.func261 (by decide +kernel) rfl
theorem XS:Enters Tryz.prog 262:=enters_of Tryz.func262 (by decide +kernel) rfl
theorem ym:Enters Tryz.prog 263:=enters_of Tryz.func263 (by decide +kernel) rfl
theorem XT:Enters Tryz.prog 264:=enters_of Tryz.func264 (by decide +kernel) rfl
theorem XU:Enters Tryz.prog 265:=enters_of Tryz.func265 (by decide +kernel) rfl
theorem XV:Enters Tryz.prog 266:=enters_of Tryz.func266 (by decide +kernel) rfl
theorem XW:Enters Tryz.prog 267:=enters_of Tryz.func267 (by decide +kernel) rfl
theorem RL:Enters Tryz.prog 268:=enters_of Tryz.func268 (by decide +kernel) rfl
theorem Hz:Enters Tryz.prog 269:=enters_of Tryz.func269 (by decide +kernel) rfl
theorem XX:Enters Tryz.prog 270:=enters_of Tryz.func270 (by decide +kernel) rfl
theorem XY:Enters Tryz.prog 271:=enters_of Tryz.func271 (by decide +kernel) rfl
theorem LQ:Enters Tryz.prog 272:=enters_of Tryz.func272 (by decide +kernel) rfl
theorem fW:Enters Tryz.prog 273:=enters_of Tryz.func273 (by decide +kernel) rfl
theorem XZ:Enters Tryz.prog 274:=enters_of Tryz.func274 (by decide +kernel) rfl
theorem RM:Enters Tryz.prog 275:=enters_of Tryz.func275 (by decide +kernel) rfl
theorem LR:Enters Tryz.prog 276:=enters_of Tryz.func276 (by decide +kernel) rfl
theorem X0:Enters Tryz.prog 277:=enters_of Tryz.func277 (by decide +kernel) rfl
theorem RN:Enters Tryz.prog 278:=enters_of Tryz.func278 (by decide +kernel) rfl
theorem LS:Enters Tryz.prog 279:=enters_of Tryz.func279 (by decide +kernel) rfl
theorem X1:Enters Tryz.prog 280:=enters_of Tryz.func280 (by decide +kernel) rfl
theorem X2:Enters Tryz.prog 281:=enters_of Tryz.func281 (by decide +kernel) rfl
theorem LU:Enters Tryz.prog 287:=enters_of Tryz.func287 (by decide +kernel) rfl
theorem Ce:Enters Tryz.prog 288:=enters_of Tryz.func288 (by decide +kernel) rfl
theorem X3:Enters Tryz.prog 289:=enters_of Tryz.func289 (by decide +kernel) rfl
theorem X4:Enters Tryz.prog 290:=enters_of Tryz.func290 (by decide +kernel) rfl
theorem mC:Enters Tryz.prog 291:=enters_of Tryz.func291 (by decide +kernel) rfl
theorem LV:Enters Tryz.prog 292:=enters_of Tryz.func292 (by decide +kernel) rfl
theorem X5:Enters Tryz.prog 293:=enters_of Tryz.func293 (by decide +kernel) rfl
theorem X6:Enters Tryz.prog 294:=enters_of Tryz.func294 (by decide +kernel) rfl
theorem X7:Enters Tryz.prog 295:=enters_of Tryz.func295 (by decide +kernel) rfl
theorem X8:Enters Tryz.prog 296:=enters_of Tryz.func296 (by decide +kernel) rfl
theorem X9:Enters Tryz.prog 297:=enters_of Tryz.func297 (by decide +kernel) rfl
theorem Ya:Enters Tryz.prog 298:=enters_of Tryz.func298 (by decide +kernel) rfl
theorem HA:Enters Tryz.prog 300:=enters_of Tryz.func300 (by decide +kernel) rfl
theorem Yb:Enters Tryz.prog 301:=enters_of Tryz.func301 (by decide +kernel) rfl
theorem Yc:Enters Tryz.prog 302:=enters_of Tryz.func302 (by decide +kernel) rfl
theorem Yd:Enters Tryz.prog 303:=enters_of Tryz.func303 (by decide +kernel) rfl
theorem Ye:Enters Tryz.prog 304:=enters_of Tryz.func304 (by decide +kernel) rfl
theorem RO:Enters Tryz.prog 305:=enters_of Tryz.func305 (by decide +kernel) rfl
theorem Yf:Enters Tryz.prog 306:=enters_of Tryz.func306 (by decide +kernel) rfl
theorem Yg:Enters Tryz.prog 307:=enters_of Tryz.func307 (by decide +kernel) rfl
theorem Yh:Enters Tryz.prog 308:=enters_of Tryz.func308 (by decide +kernel) rfl
end Go.Proofs.YtfifjddnnmfeoaaGreat
namespace Go.Proofs.YtfifjddnnmfeoaaGreat
open Go Go.RowKit Dv
structure Wd where
 s:ByteArray
 a:Int
structure Hd where
 ag:Int
 aC:Int
 lo:Int
 hi:Int
 most:Int
 af:List Wd
 name:Wd
structure Ph where
 name:Wd
 bare:Bool
 label:List Wd
 wide:Int
 ck:Int
 cn:Int
 ca:Int
 cl:List Wd
mutual
inductive Ty where
 | mk (h:Hd) (ps:Pts)
inductive Pts where
 | nil
 | cons (p:Ph) (t:Ty) (r:Pts)
end
def Ty.h:Ty->Hd | .mk h _=>h
def Ty.ps:Ty->Pts | .mk _ ps=>ps
def Pts.toList:Pts->List (Ph × Ty)
 | .nil=>[]
 | .cons p t r=>(p,t) :: r.toList
def Pts.len:Pts->Nat
 | .nil=>0
 | .cons _ _ r=>r.len + 1
theorem Pts.LW:∀ ps:Pts,ps.len=ps.toList.length
 | .nil=>rfl
 | .cons _ _ r=>by simp [Pts.len,Pts.toList,Pts.LW r]
def Wd.wt (w:Wd):Nat:=w.s.size + 64
def wdsWt:List Wd->Nat
 | []=>0
 | w :: r=>w.wt + wdsWt r
def Hd.wt (h:Hd):Nat:=256 + wdsWt h.af + h.name.wt
def Ph.wt (p:Ph):Nat:=256 + p.name.wt + wdsWt p.label + wdsWt p.cl
mutual
def Ty.wt:Ty->Nat
 | .mk h ps=>h.wt + ps.wt
def Pts.wt:Pts->Nat
 | .nil=>0
 | .cons p t r=>p.wt + t.wt + r.wt
end
theorem bg:∀ l:List Wd,64 * l.length<=wdsWt l
 | []=>Nat.le_refl _
 | w :: r=>by have:=bg r;simp only [List.length_cons,wdsWt,Wd.wt];omega
theorem gX:∀ {l:List Wd} {w:Wd},w∈l->w.s.size + 64<=wdsWt l
 | x :: r,w,h=>by
  rcases List.mem_cons.1 h with h | h
  ·subst h;simp only [wdsWt,Wd.wt];omega
  ·have:=gX h;simp only [wdsWt];omega
theorem Pts.fb:∀ ps:Pts,256 * ps.len<=ps.wt
 | .nil=>Nat.le_refl _
 | .cons p t r=>by have:=Pts.fb r;simp only [Pts.len,Pts.wt,Ph.wt];omega
theorem Pts.fI:∀ {ps:Pts} {p:Ph} {t:Ty},(p,t)∈ps.toList->p.wt + t.wt<=ps.wt
 | .cons p t r,q,u,h=>by
  rcases List.mem_cons.1 h with h | h
  ·cases h;simp only [Pts.wt];omega
  ·have:=Pts.fI h;simp only [Pts.wt];omega
theorem Ty.de (t:Ty):256<=t.wt:=by
 cases t;simp only [Ty.wt,Hd.wt];omega
def jw (w:Wd):List DV:=[.v (.string w.s),.v (.int .i64 w.a)]
def bu (l:List Wd):List (List DV):=l.map jw
def ET (p:Ph) (tl:List DV):List DV:=
 .v (.string p.name.s) :: .v (.int .i64 p.name.a) :: .v (.bool p.bare) :: .sl 2 (bu p.label) none :: .v (.int .i64 p.wide) :: .v (.int .i64 p.ck) :: .v (.int .i64 p.cn) :: .v (.int .i64 p.ca) :: .sl 2 (bu p.cl) none :: tl
mutual
def dK:Ty->List DV
 | .mk h ps=>[.v (.int .i64 h.ag),.v (.int .i64 h.aC),.v (.int .i64 h.lo),.v (.int .i64 h.hi),.v (.int .i64 h.most),.sl 2 (bu h.af) none,.sl 18 (fc ps) none,.v (.string h.name.s),.v (.int .i64 h.name.a)]
def fc:Pts->List (List DV)
 | .nil=>[]
 | .cons p t r=>ET p (dK t) :: fc r
end
theorem aw (l:List Wd):(bu l).length=l.length:=by simp [bu]
theorem aF:∀ ps:Pts,(fc ps).length=ps.len
 | .nil=>by simp [fc,Pts.len]
 | .cons p t r=>by simp [fc,Pts.len,aF r]
theorem aK {l:List Wd} {j:Nat} {w:Wd} (h:l[j]? = some w):(bu l)[j]? = some (jw w):=by simp [bu,h]
theorem yo {l:List Wd} {e:Nat} {x:Wd} (h:l[e]? = some x):bu (l.take e) ++ [jw x]=bu (l.take (e + 1)):=by
 rw [List.take_add_one,h];simp [bu]
theorem bH:∀ {ps:Pts} {j:Nat} {p:Ph} {t:Ty},ps.toList[j]? = some (p,t)->(fc ps)[j]? = some (ET p (dK t))
 | .nil,j,p,t,h=>by simp [Pts.toList] at h
 | .cons q u r,0,p,t,h=>by
  simp only [Pts.toList,List.getElem?_cons_zero,oI,Prod.mk.injEq] at h;obtain ⟨rfl,rfl⟩:=h;simp [fc]
 | .cons q u r,j + 1,p,t,h=>by
  simp only [Pts.toList,List.getElem?_cons_succ] at h;simp only [fc,List.getElem?_cons_succ];exact bH h
def Pts.drop:Nat->Pts->Pts
 | 0,ps=>ps
 | _ + 1,.nil=>.nil
 | e + 1,.cons _ _ r=>r.drop e
theorem Pts.drop_cons:∀ {e:Nat} {ps:Pts} {p:Ph} {t:Ty},ps.toList[e]? = some (p,t)->ps.drop e = .cons p t (ps.drop (e + 1))
 | 0,.cons q u r,p,t,h=>by
  simp only [Pts.toList,List.getElem?_cons_zero,oI,Prod.mk.injEq] at h;obtain ⟨rfl,rfl⟩:=h;rfl
 | e + 1,.cons q u r,p,t,h=>by
  simp only [Pts.toList,List.getElem?_cons_succ] at h;simp only [Pts.drop];exact Pts.drop_cons h
 | 0,.nil,p,t,h=>by simp [Pts.toList] at h
 | e + 1,.nil,p,t,h=>by simp [Pts.toList] at h
theorem Pts.cQ:∀ (ps:Pts),ps.drop ps.len = .nil
 | .nil=>rfl
 | .cons _ _ r=>by simp only [Pts.len,Pts.drop];exact Pts.cQ r
theorem Pts.ei {ps:Pts} {e:Nat} (h:e < ps.len):∃ p t,ps.toList[e]? = some (p,t):=by
 rw [Pts.LW] at h;exact ⟨_,_,gE h⟩
theorem drop_cons {α:Type} {l:List α} {e:Nat} {x:α} (h:l[e]? = some x):l.drop e=x :: l.drop (e + 1):=by
 obtain ⟨h1,h2⟩:=List.getElem?_eq_some_iff.1 h;rw [<- h2];exact List.drop_eq_getElem_cons h1
def al:ByteArray:=⟨#[]⟩
def LX:Hd:=⟨0,0,0,0,0,[],⟨al,0⟩⟩
def bK:Ty:=.mk LX .nil
def eC:Ph:=⟨⟨al,0⟩,false,[],0,0,0,0,[]⟩
def eP:Ph:=⟨⟨al,0⟩,true,[],0,0,0,0,[]⟩
theorem cx {e n:Nat} (h:e < n) (hn:n<=4611686018427387904):IntKind.i64.wrap ((e:Int) + 1)=((e + 1:Nat):Int):=by
 rw [IntWalk.i64_in _ ⟨by omega,by omega⟩];omega
theorem wrap64 {n:Int} (h1 : -9223372036854775808<=n) (h2:n<=9223372036854775807):IntKind.i64.wrap n=n:=IntWalk.i64_in n ⟨h1,h2⟩
theorem pickB_and (x a:Bool):pickB x a false=(x && a):=by cases x<;>rfl
theorem aj (x b:Bool):pickB x true b=(x || b):=by cases x<;>rfl
end Go.Proofs.YtfifjddnnmfeoaaGreat
set_option maxRecDepth 100000
namespace Go.Proofs.YtfifjddnnmfeoaaGreat
open Go Go.RowKit Dv Tryz
def isLet (c:Int):Bool:=decide (97<=c) && decide (c<=122)
def gY (c:Int):Bool:=(isLet c || (decide (48<=c) && decide (c<=57))) || decide (c=95)
def signs:List UInt8->Nat
 | []=>0
 | c :: r=>if gY c.toNat=true then signs r + 1 else 0
def dz:List UInt8->Nat
 | []=>0
 | c :: r=>if isLet c.toNat=true then signs r + 1 else 0
def aY (s:ByteArray):Bool:=decide (0 < s.size) && (decide (s.size<=32) && decide (dz s.data.toList=s.size))
theorem Cf {c:Int} (h:isLet c=true):gY c=true:=by simp [gY,h]
theorem Cg:∀ l:List UInt8,signs l<=l.length
 | []=>Nat.le_refl _
 | c :: r=>by
  simp only [signs,List.length_cons];split
  ·have:=Cg r;omega
  ·omega
theorem uI {c:UInt8} {r:List UInt8} (h:isLet c.toNat=true):dz (c :: r)=signs (c :: r):=by
 simp [dz,signs,h,Cf h]
theorem rc {s:ByteArray} {k:Nat} (h:k < s.size):∃ c:UInt8,s.data.toList.drop k=c :: s.data.toList.drop (k + 1)/\cL s k=c.toNat:=by
 have hk:k < s.data.toList.length:=by simpa using h
 refine ⟨s.data.toList[k],by rw [<- List.drop_eq_getElem_cons hk],?_⟩;simp [cL,List.getD_eq_getElem?_getD,gE hk]
theorem uJ {s:ByteArray} {k:Nat} (h:s.size<=k):s.data.toList.drop k=[]:=List.drop_eq_nil_of_le (by simpa using h)
theorem sv (c:Int):EvP Tryz.prog 212 [.v (.int .u8 c)] (.v (.bool (isLet c))):=by
 refine ev_go (P:=Tryz.prog) tt tt_ok 5000 9 [.tmp 2] Tryz.func212 rfl Tryz.ntmps212 rfl (nL rfl) (fun E9 w9 hn9 hm9=>?_);exact (congrArg (fun b=>DV.v (.bool b)) (pickB_and _ _):_=_)
theorem Jc (c:Int):EvP Tryz.prog 213 [.v (.int .u8 c)] (.v (.bool (gY c))):=by
 refine ev_go (P:=Tryz.prog) tt tt_ok 5000 17 [.tmp 2] Tryz.func213 rfl Tryz.ntmps213 rfl (nL rfl) (fun E9 w9 hn9 hm9=>?_);refine call_p RD (sv c) ax rfl ?_;refine (congrArg (fun b=>DV.v (.bool b)) ?_:_=_);simp only [pickB_and,aj,gY]
abbrev EU (s:ByteArray) (i e:Nat):St:=⟨[(5,⟨[],.v (.int .i64 e)⟩),(0,⟨[],.v (.string s)⟩),(1,⟨[],.v (.int .i64 i)⟩)],[],[]⟩
theorem zV (s:ByteArray) (i:Nat):s.extract i (i + 0)=⟨#[]⟩:=by
 apply ByteArray.ext;simp only [Nat.add_zero,ByteArray.extract,ByteArray.copySlice];apply Array.ext';simp
theorem Jd (s:ByteArray) (i:Nat) (hi:i < s.size) (hs:s.size<=4611686018427387904):EvP Tryz.prog 171 [.v (.string s),.v (.int .i64 i)]
  (.tup [.v (.string (s.extract i (i + dz (s.data.toList.drop i)))),.v (.int .i64 ((i + dz (s.data.toList.drop i):Nat):Int))]):=by
 obtain ⟨c0,yp,gk⟩:=rc hi;refine ev_go (P:=Tryz.prog) tt tt_ok 5000 38 [.tmp 4,.tmp 5] Tryz.func171 rfl Tryz.ntmps171 rfl (nL rfl) (fun E9 w9 hn9 hm9=>?_);refine br (fun h=>?_) (fun _=>?_)
 ·simp [aj] at h;omega
 refine ⟨⟨by omega,by omega⟩,?_⟩;refine call_p RD (sv _) ax rfl ?_;refine br (fun h=>?_) (fun h=>?_)
 ·have hl:isLet (c0.toNat:Int)=false:=by
   have:(!isLet ((cL s i:Nat):Int))=true:=h;rw [gk] at this;simpa using this
  have hn:dz (s.data.toList.drop i)=0:=by rw [yp];simp [dz,hl]
  rw [hn,zV];exact ⟨_,ax,rfl⟩
 have hl:isLet (c0.toNat:Int)=true:=by
  have:(!isLet ((cL s i:Nat):Int))=false:=h;rw [gk] at this;simpa using this
 have hn:dz (s.data.toList.drop i)=signs (s.data.toList.drop i):=by rw [yp];exact uI hl
 rw [hn]
 refine aq (fun j st=>∃ e:Nat,st=EU s i e/\e<=s.size/\i<=e/\e + signs (s.data.toList.drop e)=i + signs (s.data.toList.drop i)/\j=s.size - e)
  (s.size - i) (EU s i i) (weak_mk ⟨_,rfl⟩ wA rfl rfl rfl wB) ⟨i,rfl,by omega,by omega,rfl,rfl⟩ ?_
 rintro j st ⟨e,rfl,he,HB,hinv,rfl⟩;refine br (fun h=>?_) (fun h=>?_)
 ·have ap:e < s.size:=by simpa using h
  refine ⟨⟨by omega,by omega⟩,?_⟩;refine call_p XC (Jc _) ax rfl ?_;obtain ⟨c,hd,hb⟩:=rc ap;refine br (fun h2=>?_) (fun h2=>?_)
  ·have hsg:gY (c.toNat:Int)=true:=by
    have:gY ((cL s e:Nat):Int)=true:=h2
    rwa [hb] at this
   refine ⟨EU s i (e + 1),(weak_mk ⟨_,rfl⟩ wA rfl rfl rfl (wNB ap)),s.size - (e + 1),by omega,e + 1,rfl,by omega,by omega,?_,rfl⟩;rw [hd] at hinv;simp only [signs,hsg,if_true] at hinv;omega
  ·have hsg:gY (c.toNat:Int)=false:=by
    have:gY ((cL s e:Nat):Int)=false:=h2
    rwa [hb] at this
   rw [hd] at hinv;simp only [signs,hsg] at hinv;refine ⟨⟨by omega,by omega,by omega⟩,?_⟩;have:i + signs (s.data.toList.drop i)=e:=by simp at hinv;omega
   rw [this];exact ⟨_,ax,rfl⟩
 ·have aO:e=s.size:=by simp at h;omega
  rw [uJ (by omega)] at hinv;simp only [signs] at hinv;refine ⟨⟨by omega,by omega,by omega⟩,?_⟩;have:i + signs (s.data.toList.drop i)=e:=by omega
  rw [this];exact ⟨_,ax,rfl⟩
theorem take_nil (s:ByteArray) (hs:s.size=0):EvP Tryz.prog 171 [.v (.string s),.v (.int .i64 0)] (.tup [.v (.string ⟨#[]⟩),.v (.int .i64 0)]):=by
 refine ev_go (P:=Tryz.prog) tt tt_ok 5000 38 [.tmp 4,.tmp 5] Tryz.func171 rfl Tryz.ntmps171 rfl (nL rfl) (fun E9 w9 hn9 hm9=>?_);refine br (fun _=>?_) (fun h=>?_)
 ·exact ⟨_,ax,rfl⟩
 ·simp [aj,hs] at h
theorem EV (l:List UInt8):dz l<=l.length:=by
 cases l with
 | nil=>exact Nat.le_refl _
 | cons c r=>
  simp only [dz,List.length_cons];split
  ·have:=Cg r;omega
  ·omega
theorem Ch (s:ByteArray):decide (s=⟨#[]⟩)=decide (s.size=0):=by
 rw [Bool.eq_iff_iff];simp only [decide_eq_true_eq];constructor
 ·rintro rfl;rfl
 ·intro h;apply ByteArray.ext;exact Array.eq_empty_of_size_eq_zero h
theorem jx (s:ByteArray) (hs:s.size<=4611686018427387904):EvP Tryz.prog 102 [.v (.string s)] (.v (.bool (aY s))):=by
 refine ev_go (P:=Tryz.prog) tt tt_ok 5000 22 [.tmp 2] Tryz.func102 rfl Tryz.ntmps102 rfl (nL rfl) (fun E9 w9 hn9 hm9=>?_);by_cases h0:s.size=0
 ·refine call_p Rx (take_nil s h0) ax rfl ?_;refine (congrArg (fun b=>DV.v (.bool b)) ?_:_=_);simp [pickB_and,aY,Ch,h0]
 ·refine call_p Rx (Jd s 0 (by omega) hs) ax rfl ?_;refine (congrArg (fun b=>DV.v (.bool b)) ?_:_=_);have hl:=EV s.data.toList;simp only [Array.length_toList,ByteArray.size_data] at hl;simp only [pickB_and,aY,Ch,List.drop_zero,Nat.zero_add];rw [Bool.eq_iff_iff];simp only [Bool.and_eq_true,decide_eq_true_eq,Bool.not_eq_true',decide_eq_false_iff_not];omega
abbrev zW (s:ByteArray) (i n e:Nat):St:=⟨[(5,⟨[],.v (.int .i64 n)⟩),(6,⟨[],.v (.int .i64 e)⟩),(0,⟨[],.v (.string s)⟩),(1,⟨[],.v (.int .i64 i)⟩)],[],[]⟩
theorem Ci (s:ByteArray) (hs:s.size<=4611686018427387904):EvP Tryz.prog 290 [.v (.string s),.v (.int .i64 0)] (.v (.int .i64 (dz s.data.toList))):=by
 refine ev_go (P:=Tryz.prog) tt tt_ok 5000 47 [.tmp 4] Tryz.func290 rfl Tryz.ntmps290 rfl (nL rfl) (fun E9 w9 hn9 hm9=>?_)
 refine aq (fun j st=>∃ e:Nat,st=zW s 0 e e/\e<=s.size/\(e=0∨e + signs (s.data.toList.drop e)=dz s.data.toList)/\j=s.size - e)
  s.size (zW s 0 0 0) (weak_mk ⟨_,rfl⟩ wA rfl rfl rfl wB) ⟨0,rfl,by omega,.inl rfl,rfl⟩ ?_
 rintro j st ⟨e,rfl,he,hinv,rfl⟩;refine br (fun h=>?_) (fun h=>?_)
 ·have ap:e < s.size:=by simpa using h
  refine ⟨⟨by omega,by omega⟩,?_⟩;obtain ⟨c,hd,hb⟩:=rc ap
  have key:dz s.data.toList=if (e=0/\isLet (c.toNat:Int)=true)∨(e≠0/\gY (c.toNat:Int)=true) then (e + 1) + signs (s.data.toList.drop (e + 1)) else e:=by
   by_cases h0:e=0
   ·subst h0;simp only [List.drop_zero] at hd;have hk:dz s.data.toList=if isLet (c.toNat:Int)=true then signs (s.data.toList.drop (0 + 1)) + 1 else 0:=congrArg dz hd
    rw [hk];by_cases hl:isLet (c.toNat:Int)=true
    ·rw [if_pos hl,if_pos (.inl ⟨rfl,hl⟩)];omega
    ·rw [if_neg hl,if_neg (by simp [hl])]
   ·have sr:=hinv.resolve_left h0;rw [hd] at sr;simp only [signs] at sr;by_cases hl:gY (c.toNat:Int)=true
    ·rw [if_pos hl] at sr;rw [if_pos (.inr ⟨h0,hl⟩)];omega
    ·rw [if_neg hl] at sr;rw [if_neg (by simp [hl,h0])];omega
  refine br (fun h2=>?_) (fun h2=>?_)
  ·have fH:cL s ((e:Int).toNat)=c.toNat:=hb;rw [fH] at h2
   have:dz s.data.toList=e:=by
    rw [key,if_neg];simp only [pickB_and,aj,gY,isLet] at h2 ⊢;simp at h2 ⊢;omega
   rw [this];exact (rfl:_=_)
  ·have fH:cL s ((e:Int).toNat)=c.toNat:=hb;rw [fH] at h2;refine ⟨zW s 0 (e + 1) (e + 1),(weak_mk ⟨_,rfl⟩ wA rfl rfl rfl (wNB ap)),s.size - (e + 1),by omega,e + 1,rfl,by omega,.inr ?_,rfl⟩;rw [key,if_pos];simp only [pickB_and,aj,gY,isLet] at h2 ⊢;simp at h2 ⊢;omega
 ·have aO:e=s.size:=by simp at h;omega
  have:dz s.data.toList=e:=by
   rcases hinv with h0 | h0
   ·subst h0;have:s.data.toList=[]:=by rw [<- List.drop_zero (l:=s.data.toList)];exact uJ (by omega)
    rw [this];all_goals rfl
   ·rw [uJ (by omega)] at h0;simp only [signs] at h0;omega
  rw [this];exact (rfl:_=_)
theorem j4 (s:ByteArray) (hs:s.size<=4611686018427387904):EvP Tryz.prog 269 [.v (.string s)] (.v (.bool (aY s))):=by
 refine ev_go (P:=Tryz.prog) tt tt_ok 5000 18 [.tmp 2] Tryz.func269 rfl Tryz.ntmps269 rfl (nL rfl) (fun E9 w9 hn9 hm9=>?_);refine br (fun h=>?_) (fun h=>?_)
 ·refine call_p X4 (Ci s hs) ax rfl ?_;refine (congrArg (fun b=>DV.v (.bool b)) ?_:_=_);rw [Bool.eq_iff_iff];simp [pickB_and] at h;simp [pickB_and,aY];omega
 ·refine (congrArg (fun b=>DV.v (.bool b)) ?_:_=_);rw [Bool.eq_iff_iff];simp [pickB_and] at h;simp [pickB_and,aY];omega
def dF (l:List ByteArray):List (List DV):=l.map fun s=>[.v (.string s)]
def dInts (l:List Nat):List (List DV):=l.map fun (i:Nat)=>[.v (.int .i64 (i:Int))]
theorem bR (l:List ByteArray):(dF l).length=l.length:=by simp [dF]
theorem bh (l:List Nat):(dInts l).length=l.length:=by simp [dInts]
theorem eX {l:List ByteArray} {j:Nat} {x:ByteArray} (h:l[j]? = some x):(dF l)[j]? = some [.v (.string x)]:=by simp [dF,h]
theorem dO {l:List Nat} {j:Nat} {x:Nat} (h:l[j]? = some x):(dInts l)[j]? = some [.v (.int .i64 (x:Int))]:=by simp [dInts,h]
abbrev zX (g:Nat) (cb:List DV) (i j:Nat):St:=⟨[(1,⟨[],.fn g [] cb⟩),(5,⟨[],.v (.int .i64 i)⟩),(6,⟨[],.v (.int .i64 j)⟩)],[],[]⟩
theorem sw (g:Nat) (j1:Enters Tryz.prog g) (cb:List DV) (n m:Nat) (hn:n<=1099511627776) (hm:m<=n) (Yi:CcL [] 0 0 0 cb cb) (jT:clB.clL 0 0 cb=true)
  (hp:∀ i:Nat,i < n->EvP Tryz.prog g (.v (.int .i64 i) :: cb) (.v (.bool (decide (m<=i))))) :
  EvP Tryz.prog 159 [.v (.int .i64 n),.fn g [] cb] (.v (.int .i64 m)):=by
 refine ev_go (P:=Tryz.prog) tt tt_ok 5000 26 [.tmp 4] Tryz.func159 rfl Tryz.ntmps159 rfl (nL rfl) (fun E9 w9 hn9 hm9=>?_);have Bq:clB 0 0 (.fn g [] cb)=true:=by simp only [clB,Bool.and_eq_true];exact ⟨rfl,jT⟩
 refine aq (fun j st=>∃ a b:Nat,st=zX g cb a b/\a<=m/\m<=b/\b<=n/\j=b - a) n (zX g cb 0 n) (weak_mk ⟨_,rfl⟩ wA rfl rfl rfl (by repeat' (first | exact trivial | exact ah rfl | exact ah Bq | refine ⟨⟨_,rfl,?_⟩,?_⟩))) ⟨0,n,rfl,by omega,by omega,by omega,by omega⟩ ?_;rintro j st ⟨a,b,rfl,h1,h2,h3,rfl⟩;refine br (fun h=>?_) (fun h=>?_)
 ·have ap:a < b:=by simpa using h
  have TF:IntKind.i64.wrap ((IntKind.u64.wrap (IntKind.i64.wrap ((a:Int) + (b:Int)))).fdiv (2 ^ (min ((1:Int).toNat) IntKind.u64.bits)))=(((a + b) / 2:Nat):Int):=by
   rw [wrap64 (n:=(a:Int) + (b:Int)) (by omega) (by omega),IntKind.wrap_u64];have e2:(2:Int) ^ (min ((1:Int).toNat) IntKind.u64.bits)=2:=by decide
   rw [e2,Int.fdiv_eq_ediv_of_nonneg _ (by decide),wrap64 (by omega) (by omega)];omega
  refine ⟨by decide,?_⟩;refine call_p j1 (hp ((a + b) / 2) (by omega)) ⟨_,_,rfl,congrArg (fun z=>DV.v (.int .i64 z)) TF,Yi⟩ rfl ?_;refine br (fun hq=>?_) (fun hq=>?_)
  ·have hq:(a + b) / 2 < m:=by simpa using hq
   have BG:=cx (e:=(a + b) / 2) (n:=n) (by omega) (by omega);rw [<- TF] at BG;refine ⟨zX g cb ((a + b) / 2 + 1) b,(weak_mk ⟨_,rfl⟩ wA rfl rfl rfl (by repeat' (first | exact trivial | exact ah rfl | exact ah Bq | exact ak BG | refine ⟨⟨_,rfl,?_⟩,?_⟩))),b - ((a + b) / 2 + 1),by omega,(a + b) / 2 + 1,b,rfl,by omega,by omega,by omega,rfl⟩
  ·have hq:m<=(a + b) / 2:=by simpa using hq
   refine ⟨zX g cb a ((a + b) / 2),(weak_mk ⟨_,rfl⟩ wA rfl rfl rfl (by repeat' (first | exact trivial | exact ah rfl | exact ah Bq | exact ak TF | refine ⟨⟨_,rfl,?_⟩,?_⟩))),(a + b) / 2 - a,by omega,a,(a + b) / 2,rfl,by omega,by omega,by omega,rfl⟩
 ·have aO:¬ a < b:=by simpa using h
  have:a=m:=by omega
  subst this;exact (rfl:_=_)
def xE (a b:ByteArray):Bool:=Op.bytesLess a.data.toList b.data.toList
theorem kp:∀ l:List UInt8,Op.bytesLess l l=false
 | []=>rfl
 | a :: r=>by simp [Op.bytesLess,kp r]
theorem jy:∀ {a b:List UInt8},Op.bytesLess a b=true->Op.bytesLess b a=false
 | _,[],h=>by simp [Op.bytesLess] at h
 | [],b :: r,_=>rfl
 | a :: x,b :: y,h=>by
  simp only [Op.bytesLess,Bool.or_eq_true,decide_eq_true_eq,Bool.and_eq_true,beq_iff_eq] at h;simp only [Op.bytesLess,Bool.or_eq_false_iff,decide_eq_false_iff_not,Bool.and_eq_false_imp,beq_iff_eq];rcases h with h | ⟨rfl,h⟩
  ·refine ⟨fun h2=>?_,fun h2=>?_⟩
   ·exact absurd (UInt8.lt_trans h h2) (UInt8.lt_irrefl _)
   ·subst h2;exact absurd h (UInt8.lt_irrefl _)
  ·exact ⟨UInt8.lt_irrefl _,fun _=>jy h⟩
structure gL (L:List ByteArray) (aA:List Nat):Prop where
 lt:∀ (i p:Nat),aA[i]? = some p->p < L.length
 srt:∀ (i j p q:Nat) (s t:ByteArray),i < j->aA[i]? = some p->aA[j]? = some q->L[p]? = some s->L[q]? = some t->xE s t=true
 fst:∀ (i p j:Nat) (s:ByteArray),aA[i]? = some p->L[p]? = some s->L[j]? = some s->p<=j
 all:∀ (j:Nat) (s:ByteArray),L[j]? = some s->∃ i p:Nat,aA[i]? = some p/\L[p]? = some s
abbrev cy (L:List ByteArray) (aA:List Nat):List DV:=[.sl 1 (dF L) none,.sl 1 (dInts aA) none]
theorem uK (L:List ByteArray) (aA:List Nat) (s:ByteArray) (i p:Nat) (t:ByteArray) (hi:aA[i]? = some p) (hp:L[p]? = some t) :
  EvP Tryz.prog 160 [.v (.int .i64 i),.pt [.pt (cy L aA) 0] 0,.pt [.v (.string s)] 0] (.v (.bool (!xE t s))):=by
 refine ev_go (P:=Tryz.prog) tt tt_ok 5000 20 [.tmp 4] Tryz.func160 rfl Tryz.ntmps160 rfl (nL rfl) (fun E9 w9 hn9 hm9=>?_);refine aE (fun _=>false) mo (by decide +kernel) ?_;refine ⟨_,⟨by omega,dO hi⟩,?_⟩;refine ⟨_,⟨by omega,eX hp⟩,?_⟩;exact (rfl:_=_)
theorem find_spec (L:List ByteArray) (aA:List Nat) (s:ByteArray) (q p:Nat) (hT:gL L aA) (hl:aA.length<=1099511627776) (hq:aA[q]? = some p) (hp:L[p]? = some s) :
  EvP Tryz.prog 93 [.pt (cy L aA) 0,.v (.string s)] (.tup [.v (.int .i64 p),.v (.bool true)]):=by
 have hqlt:=(gS hq).1;refine ev_go (P:=Tryz.prog) tt tt_ok 5000 47 [.tmp 4,.tmp 5] Tryz.func93 rfl Tryz.ntmps93 rfl (nL rfl) (fun E9 w9 hn9 hm9=>?_)
 have jT:∀ i:Nat,i < aA.length->EvP Tryz.prog 160 [.v (.int .i64 i),.pt [.pt (cy L aA) 0] 0,.pt [.v (.string s)] 0] (.v (.bool (decide (q<=i)))):=by
  intro i hi;obtain ⟨p',pz⟩:∃ p',aA[i]? = some p':=⟨_,gE hi⟩;obtain ⟨t,ht⟩:∃ t,L[p']? = some t:=⟨_,gE (hT.lt i p' pz)⟩;have:=uK L aA s i p' t pz ht
  have e:(!xE t s)=decide (q<=i):=by
   rcases Nat.lt_trichotomy i q with h | h | h
   ·rw [hT.srt i q p' p t s h pz hq ht hp];simp;omega
   ·subst h;rw [hq] at pz;simp only [oI] at pz;subst pz;rw [hp] at ht;simp only [oI] at ht;subst ht;rw [xE,kp];simp
   ·have h2:=hT.srt q i p p' s t h hq pz hp ht;rw [xE,jy h2];simp;omega
  rw [e] at this;exact this
 have hS:=sw 160 Ru [.pt [.pt (cy L aA) 0] 0,.pt [.v (.string s)] 0] aA.length q hl (by omega) ax rfl jT;refine zT Rt hS (by repeat' (first | exact rfl | exact trivial | exact Or.inr (Or.inl ⟨_,rfl⟩) | exact Or.inr ⟨_,rfl⟩ | exact Or.inl ⟨rfl,rfl⟩ | exact Or.inl rfl | refine Or.inr ⟨_,_,rfl,Nat.zero_le _,rfl,?_⟩ | refine ⟨_,_,rfl,?_,?_⟩ | refine ⟨_,rfl,?_⟩ | exact congrArg (fun z=>DV.v (.int .i64 z)) (congrArg Nat.cast (bh aA)) | refine Or.inr (Or.inr (Or.inr ⟨_,_,rfl,?_⟩)) | exact Or.inl rfl | refine Or.inr ?_)) rfl ?_;refine aE (fun _=>false) mo (by decide +kernel) ?_;refine br (fun h=>?_) (fun h=>?_)
 ·refine ⟨_,⟨by omega,dO hq⟩,?_⟩;refine ⟨_,⟨by omega,eX hp⟩,?_⟩;refine br (fun h2=>?_) (fun h2=>?_)
  ·exfalso;simp [aj,bh] at h2
  ·refine ⟨_,⟨by omega,dO hq⟩,?_⟩;exact ⟨_,ax,rfl⟩
 ·exfalso;have:decide ((q:Int)=((dInts aA).length:Int))=true:=by simpa using h
  simp [bh] at this;omega
end Go.Proofs.YtfifjddnnmfeoaaGreat
set_option maxRecDepth 100000
namespace Go.Proofs
open Go.Shelf
def Tryz.laysGg6_ren:Go.Shelf.Ren:=⟨fun | 6=>161 | 10=>207 | 11=>208 | 12=>209 | 13=>210 | 14=>211 | 24=>250 | 25=>251 | 26=>252 | 27=>253 | 28=>254 | 29=>255 | 30=>256 | 31=>257 | 32=>258 | 33=>259 | 34=>282 | 35=>283 | 36=>284 | 37=>285 | 38=>286 | 39=>299 | n=>n,fun | 20=>20 | 26=>173 | 35=>299 | 0=>0 | 37=>301 | 3=>3 | 41=>221 | 44=>306 | 49=>278 | 51=>212 | 4=>4 | 54=>334 | 53=>333 | 58=>105 | 5=>5 | 9=>9 | 60=>355 | 64=>359 | 66=>368 | 67=>49 | 17=>17 | 32=>296 | 33=>297 | 82=>383 | 12=>12 | 75=>377 | 76=>378 | 77=>379 | 78=>241 | 79=>380 | 80=>381 | n=>n,fun | n=>n⟩
theorem Tryz.laysGg6:Go.Proofs.LaysGg.n6 Tryz.prog Tryz.laysGg6_ren:={
 mixed:=by kernel_rfl
 f6:=Tryz.func161.trans (congrArg some (by kernel_rfl))
 f10:=Tryz.func207.trans (congrArg some (by kernel_rfl))
 f11:=Tryz.func208.trans (congrArg some (by kernel_rfl))
 f12:=Tryz.func209.trans (congrArg some (by kernel_rfl))
 f13:=Tryz.func210.trans (congrArg some (by kernel_rfl))
 f14:=Tryz.func211.trans (congrArg some (by kernel_rfl))
 f24:=Tryz.func250.trans (congrArg some (by kernel_rfl))
 f25:=Tryz.func251.trans (congrArg some (by kernel_rfl))
 f26:=Tryz.func252.trans (congrArg some (by kernel_rfl))
 f27:=Tryz.func253.trans (congrArg some (by kernel_rfl))
 f28:=Tryz.func254.trans (congrArg some (by kernel_rfl))
 f29:=Tryz.func255.trans (congrArg some (by kernel_rfl))
 f30:=Tryz.func256.trans (congrArg some (by kernel_rfl))
 f31:=Tryz.func257.trans (congrArg some (by kernel_rfl))
 f32:=Tryz.func258.trans (congrArg some (by kernel_rfl))
 f33:=Tryz.func259.trans (congrArg some (by kernel_rfl))
 f34:=Tryz.func282.trans (congrArg some (by kernel_rfl))
 f35:=Tryz.func283.trans (congrArg some (by kernel_rfl))
 f36:=Tryz.func284.trans (congrArg some (by kernel_rfl))
 f37:=Tryz.func285.trans (congrArg some (by kernel_rfl))
 f38:=Tryz.func286.trans (congrArg some (by kernel_rfl))
 f39:=Tryz.func299.trans (congrArg some (by kernel_rfl))
 t0:=Tryz.underlying0
 a0:=Tryz.isAgg0
 z0:=Tryz.sizeOf0
 v0:=Tryz.zeroValue0
 i0:=by kernel_rfl
 t3:=Tryz.underlying3
 a3:=Tryz.isAgg3
 z3:=Tryz.sizeOf3
 v3:=Tryz.zeroValue3
 i3:=by kernel_rfl
 t4:=Tryz.underlying4
 a4:=Tryz.isAgg4
 z4:=Tryz.sizeOf4
 v4:=Tryz.zeroValue4
 i4:=by kernel_rfl
 t5:=Tryz.underlying5
 a5:=Tryz.isAgg5
 z5:=Tryz.sizeOf5
 v5:=Tryz.zeroValue5
 i5:=by kernel_rfl
 t9:=Tryz.underlying9
 a9:=Tryz.isAgg9
 z9:=Tryz.sizeOf9
 v9:=Tryz.zeroValue9
 i9:=by kernel_rfl
 t12:=Tryz.underlying12
 a12:=Tryz.isAgg12
 z12:=Tryz.sizeOf12
 v12:=Tryz.zeroValue12
 i12:=by kernel_rfl
 t17:=Tryz.underlying17
 a17:=Tryz.isAgg17
 z17:=Tryz.sizeOf17
 v17:=Tryz.zeroValue17
 i17:=by kernel_rfl
 t20:=Tryz.underlying20
 a20:=Tryz.isAgg20
 z20:=Tryz.sizeOf20
 v20:=Tryz.zeroValue20
 i20:=by kernel_rfl
 t26:=Tryz.underlying173
 a26:=Tryz.isAgg173
 z26:=Tryz.sizeOf173
 v26:=Tryz.zeroValue173
 i26:=by kernel_rfl
 t32:=Tryz.underlying296
 a32:=Tryz.isAgg296
 z32:=Tryz.sizeOf296
 v32:=Tryz.zeroValue296
 i32:=by kernel_rfl
 t33:=Tryz.underlying297
 a33:=Tryz.isAgg297
 z33:=Tryz.sizeOf297
 v33:=Tryz.zeroValue297
 i33:=by kernel_rfl
 t35:=Tryz.underlying299
 a35:=Tryz.isAgg299
 z35:=Tryz.sizeOf299
 v35:=Tryz.zeroValue299
 i35:=by kernel_rfl
 t37:=Tryz.underlying301
 a37:=Tryz.isAgg301
 z37:=Tryz.sizeOf301
 v37:=Tryz.zeroValue301
 i37:=by kernel_rfl
 t41:=Tryz.underlying221
 a41:=Tryz.isAgg221
 z41:=Tryz.sizeOf221
 v41:=Tryz.zeroValue221
 i41:=by kernel_rfl
 t44:=Tryz.underlying306
 a44:=Tryz.isAgg306
 z44:=Tryz.sizeOf306
 v44:=Tryz.zeroValue306
 i44:=by kernel_rfl
 t49:=Tryz.underlying278
 a49:=Tryz.isAgg278
 z49:=Tryz.sizeOf278
 v49:=Tryz.zeroValue278
 i49:=by kernel_rfl
 t51:=Tryz.underlying212
 a51:=Tryz.isAgg212
 z51:=Tryz.sizeOf212
 v51:=Tryz.zeroValue212
 i51:=by kernel_rfl
 t53:=Tryz.underlying333
 a53:=Tryz.isAgg333
 z53:=Tryz.sizeOf333
 v53:=Tryz.zeroValue333
 i53:=by kernel_rfl
 t54:=Tryz.underlying334
 a54:=Tryz.isAgg334
 z54:=Tryz.sizeOf334
 v54:=Tryz.zeroValue334
 i54:=by kernel_rfl
 t58:=Tryz.underlying105
 a58:=Tryz.isAgg105
 z58:=Tryz.sizeOf105
 v58:=Tryz.zeroValue105
 i58:=by kernel_rfl
 t60:=Tryz.underlying355
 a60:=Tryz.isAgg355
 z60:=Tryz.sizeOf355
 v60:=Tryz.zeroValue355
 i60:=by kernel_rfl
 t64:=Tryz.underlying359
 a64:=Tryz.isAgg359
 z64:=Tryz.sizeOf359
 v64:=Tryz.zeroValue359
 i64:=by kernel_rfl
 t66:=Tryz.underlying368
 a66:=Tryz.isAgg368
 z66:=Tryz.sizeOf368
 v66:=Tryz.zeroValue368
 i66:=by kernel_rfl
 t67:=Tryz.underlying49
 a67:=Tryz.isAgg49
 z67:=Tryz.sizeOf49
 v67:=Tryz.zeroValue49
 i67:=by kernel_rfl
 t75:=Tryz.underlying377
 a75:=Tryz.isAgg377
 z75:=Tryz.sizeOf377
 v75:=Tryz.zeroValue377
 i75:=by kernel_rfl
 t76:=Tryz.underlying378
 a76:=Tryz.isAgg378
 z76:=Tryz.sizeOf378
 v76:=Tryz.zeroValue378
 i76:=by kernel_rfl
 t77:=Tryz.underlying379
 a77:=Tryz.isAgg379
 z77:=Tryz.sizeOf379
 v77:=Tryz.zeroValue379
 i77:=by kernel_rfl
 t78:=Tryz.underlying241
 a78:=Tryz.isAgg241
 z78:=Tryz.sizeOf241
 v78:=Tryz.zeroValue241
 i78:=by kernel_rfl
 t79:=Tryz.underlying380
 a79:=Tryz.isAgg380
 z79:=Tryz.sizeOf380
 v79:=Tryz.zeroValue380
 i79:=by kernel_rfl
 t80:=Tryz.underlying381
 a80:=Tryz.isAgg381
 z80:=Tryz.sizeOf381
 v80:=Tryz.zeroValue381
 i80:=by kernel_rfl
 t82:=Tryz.underlying383
 a82:=Tryz.isAgg383
 z82:=Tryz.sizeOf383
 v82:=Tryz.zeroValue383
 i82:=by kernel_rfl }
end Go.Proofs
namespace Go.Proofs.YtfifjddnnmfeoaaGreat
open Go Go.RowKit Go.Lib Go.Sort Tryz
noncomputable def siT:TypeInfo:=(Tryz.prog.info? 28).get (by kernel_rfl)
noncomputable def Vv:TypeInfo:=(Tryz.prog.info? 3).get (by kernel_rfl)
theorem siK (n:Nat) (h2:2<=n):Lib.swapperK n Vv 2=5:=by
 have a:Vv.hasPointers=false:=by kernel_rfl
 have b:Vv.bytes=8:=by kernel_rfl
 have c:(n == 0)=false:=by simp;omega
 have d:(n == 1)=false:=by simp;omega
 simp [Lib.swapperK,a,b,c,d]
theorem LY {α:Type} [Inhabited α] (enc:α->Value) (h1:∀ x,(enc x).oneCell'=true) {lt:α->α->Bool} (hO:SWO lt) (lb:Array Value) (Ei c:Nat) (d:Array α) (h2:2<=d.size) (bE:d.size < 4611686018427387904) (w:World)
  (LZ:LessReads Tryz.prog 162 lb enc lt Ei 0 d.size w) (hH:Holds enc w Ei 0 d) (hblk:Ei < w.heap.size) :
  Calls Tryz.prog 161 #[.iface 28 (.slice (some ⟨Ei,0,none⟩) d.size c),.func (.func 162) #[] lb] w fun e w'=>
   e = .returned (.tuple #[])/\∃ d' n os,PermIn 0 d.size d d' /\ SortedIn lt 0 d.size d' /\ w'=grow (putRow enc (Sort.ahead w n) Ei 0 d') os:=
 Any.sort_Slice_sorted Tryz.laysGg6 28 3 siT Vv (by kernel_rfl) (by kernel_rfl) (by kernel_rfl) (by kernel_rfl) 2 (fun _=>by kernel_rfl) (by kernel_rfl) (fun _=>by kernel_rfl) enc h1 lt hO 162 lb
  (enters_of Tryz.func162 (by kernel_rfl) rfl) Ei 0 c d h2 bE 245 (by rw [siK _ h2];kernel_rfl) true
  (fun args W=>run_callFunc_extern Tryz.func245 (by kernel_rfl) (by kernel_rfl) (by kernel_rfl) (e:=Extern.ReflectliteSwapper.swap true) (by kernel_rfl) args W) w LZ hH hblk
theorem Je (lb:Array Value) (p:Option Addr) (n c:Nat) (h1:n<=1) (w:World) :
  Calls Tryz.prog 161 #[.iface 28 (.slice p n c),.func (.func 162) #[] lb] w fun e w'=>e = .returned (.tuple #[])/\∃ os,w'=grow w os:=by
 have h:n=0∨n=1:=by omega
 rcases h with rfl | rfl
 ·exact Any.sort_Slice_tiny Tryz.laysGg6 28 3 siT Vv (by kernel_rfl) (by kernel_rfl) (by kernel_rfl) (by kernel_rfl) 2 (fun _=>by kernel_rfl) p 0 c h1 241 (by kernel_rfl) _ _ _ w
 ·exact Any.sort_Slice_tiny Tryz.laysGg6 28 3 siT Vv (by kernel_rfl) (by kernel_rfl) (by kernel_rfl) (by kernel_rfl) 2 (fun _=>by kernel_rfl) p 1 c h1 242 (by kernel_rfl) _ _ _ w
end Go.Proofs.YtfifjddnnmfeoaaGreat
set_option maxRecDepth 100000
namespace Go.Proofs.YtfifjddnnmfeoaaGreat
open Go Go.RowKit Dv Tryz
theorem oa:∀ {a b:List UInt8},Op.bytesLess a b=false->a=b∨Op.bytesLess b a=true
 | [],[],_=>.inl rfl
 | a :: x,[],_=>.inr rfl
 | [],b :: r,h=>by simp [Op.bytesLess] at h
 | a :: x,b :: y,h=>by
  simp only [Op.bytesLess,Bool.or_eq_false_iff,decide_eq_false_iff_not,Bool.and_eq_false_imp,beq_iff_eq] at h;simp only [Op.bytesLess,Bool.or_eq_true,decide_eq_true_eq,Bool.and_eq_true,beq_iff_eq];by_cases oE:a=b
  ·subst oE;rcases oa (h.2 rfl) with h2 | h2
   ·exact .inl (by rw [h2])
   ·exact .inr (.inr ⟨rfl,h2⟩)
  ·refine .inr (.inl ?_);rcases UInt8.lt_or_lt_of_ne oE with h3 | h3
   ·exact absurd h3 h.1
   ·exact h3
theorem fF:∀ {a b c:List UInt8},Op.bytesLess a b=true->Op.bytesLess b c=true->Op.bytesLess a c=true
 | _,[],_,h,_=>by simp [Op.bytesLess] at h
 | _,_ :: _,[],_,h=>by simp [Op.bytesLess] at h
 | [],b :: y,c :: z,_,_=>rfl
 | a :: x,b :: y,c :: z,h1,h2=>by
  simp only [Op.bytesLess,Bool.or_eq_true,decide_eq_true_eq,Bool.and_eq_true,beq_iff_eq] at h1 h2 ⊢;rcases h1 with h1 | ⟨rfl,h1⟩
  ·rcases h2 with h2 | ⟨rfl,h2⟩
   ·exact .inl (UInt8.lt_trans h1 h2)
   ·exact .inl h1
  ·rcases h2 with h2 | ⟨rfl,h2⟩
   ·exact .inl h2
   ·exact .inr ⟨rfl,fF h1 h2⟩
theorem HC {s t:ByteArray} (h:xE s t=false):s=t∨xE t s=true:=by
 rcases oa h with h | h
 ·exact .inl (ByteArray.ext (Array.ext' h))
 ·exact .inr h
def Bt (L:List ByteArray) (p q:Nat):Bool:=
 if L.getD p al=L.getD q al then decide (p < q) else xE (L.getD p al) (L.getD q al)
theorem PL (L:List ByteArray):Sort.SWO (Bt L):=by
 have irr:∀ x,Bt L x x=false:=fun x=>by simp [Bt]
 have tr:∀ x y z,Bt L x y=true->Bt L y z=true->Bt L x z=true:=by
  intro x y z h1 h2;unfold Bt at *;generalize L.getD x al=a at *;generalize L.getD y al=b at *;generalize L.getD z al=c at *;by_cases oE:a=b
  ·subst oE;rw [if_pos rfl] at h1;by_cases Yj:a=c
   ·rw [if_pos Yj] at h2 ⊢;simp at h1 h2 ⊢;omega
   ·rw [if_neg Yj] at h2 ⊢;exact h2
  ·rw [if_neg oE] at h1;by_cases Yj:b=c
   ·subst Yj;rw [if_neg oE];exact h1
   ·rw [if_neg Yj] at h2
    have hac:a≠c:=by
     rintro rfl;have:=jy h1;rw [xE,this] at h2;cases h2
    rw [if_neg hac];exact fF h1 h2
 have tot:∀ x y,Bt L x y=false->x=y∨Bt L y x=true:=by
  intro x y h;unfold Bt at *;by_cases oE:L.getD x al=L.getD y al
  ·rw [if_pos oE] at h;rw [if_pos oE.symm];simp at h ⊢;omega
  ·rw [if_neg oE] at h;rw [if_neg (fun e=>oE e.symm)];rcases HC h with h | h
   ·exact absurd h oE
   ·exact .inr h
 refine ⟨irr,tr,fun x y z h1 h2=>?_⟩;rcases tot x y h1 with rfl | h3
 ·exact h2
 ·rcases tot y z h2 with rfl | h4
  ·exact h1
  ·cases h5:Bt L x z
   ·rfl
   ·have:=tr _ _ _ (tr _ _ _ h4 h3) h5;rw [irr] at this;cases this
theorem Jf (L:List ByteArray) (d:List Nat) (i j p q:Nat) (hi:d[i]? = some p) (hj:d[j]? = some q) (hp:p < L.length) (hq:q < L.length) :
  EvS Tryz.prog 162 [.v (.int .i64 i),.v (.int .i64 j),.pt [.sl 1 (dInts d) none] 0,.pt [.pt [.sl 1 (dF L) none,.v (.slice none 0 0)] 0] 0] [] [] (fun r _ _=>r = .v (.bool (Bt L p q))):=by
 obtain ⟨s,hs⟩:∃ s,L[p]? = some s:=⟨_,gE hp⟩;obtain ⟨t,ht⟩:∃ t,L[q]? = some t:=⟨_,gE hq⟩
 have e:Bt L p q=if s=t then decide (p < q) else xE s t:=by
  simp [Bt,List.getD_eq_getElem?_getD,hs,ht]
 refine Li (s:=true) (P:=Tryz.prog) tt tt_ok 5000 50 [.tmp 6] Tryz.func162 rfl Tryz.ntmps162 rfl (nL rfl) (fun E9 w9 hn9 hm9=>?_);refine aE (fun _=>false) mo (by decide +kernel) ?_;refine ⟨_,⟨by omega,dO hi⟩,?_⟩;refine ⟨_,⟨by omega,dO hj⟩,?_⟩;refine aE (fun _=>false) mo (by decide +kernel) ?_;refine ⟨_,⟨by omega,eX hs⟩,?_⟩;refine ⟨_,⟨by omega,eX ht⟩,?_⟩;refine br (fun h=>?_) (fun h=>?_)
 ·have aN:s≠t:=by simpa using h
  refine aE (fun _=>false) mo (by decide +kernel) ?_;refine ⟨_,⟨by omega,eX hs⟩,?_⟩;refine ⟨_,⟨by omega,eX ht⟩,?_⟩;refine (congrArg (fun b=>DV.v (.bool b)) ?_:_=_);rw [e,if_neg aN];rfl
 ·have aH:s=t:=by simpa using h
  refine (congrArg (fun b=>DV.v (.bool b)) ?_:_=_);rw [e,if_pos aH];simp
end Go.Proofs.YtfifjddnnmfeoaaGreat
