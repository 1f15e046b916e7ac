/- Part 2 of the proof: The evaluator 'go' is sound: the end of a call, the theorem; contracts; rules for branches, calls, loops; Rules for the evaluator: what is known made less, loops; A region that draws its order: where the operations with an effect are ordered among themselves, and what writes waits for all that reads, one run in the order of the text serves every order; The evaluator at regions that draw their order: one run in the order of the text; what is read is what was known at the region's beginning; A region that draws its order, in which two operations with an effect are not ordered: the run in either order of these two serves every order; Rules for the evaluator: a call that is handed the caller's own objects, to read them; Rules for the evaluator: objects that are written no more are frozen, ahead of a loop; Rules for the evaluator: a call that is handed one of the caller's objects, to write it; The table of this program's types, by which the evaluator goes; The program's functions are entered; The data of the document's types, plain, and as the evaluator has them; Names: the program's and the reference's functions say the same of a text; sort.Search; the program's table of texts: Find; The library's sort.Slice, laid at this program by the kit's tool (lay-plain; wip/tools/lay.sh); The order of the table; the closure handed to sort.Slice; sort.Slice of the table's places, at a call. No condition. -/
import Derived.Test.YtfifjddnnmfeoaaGreatProg
import Derived.Shelf.GgSortFunc.Whole
import Derived.Shelf.GgSortFunc.Tiny
import Derived.Test.YtfifjddnnmfeoaaGreatMl1
set_option linter.all false
namespace Go.Proofs.YtfifjddnnmfeoaaGreat
namespace Dv
open Go Go.RowKit
structure CK (E E':En) (bx:List (List DV)) (N:Nat):Prop where
 c:∀ a v,E.c a=some v->E'.c a=some v
 fz:∀ (i:Nat) cs,N<=i->bx[i]? = some cs->∃ b arr,E.β[i]? = some b/\RvC E cs arr/\∀ (j:Nat) u,arr[j]? = some u->E'.c ⟨b,j,none⟩=some u
theorem CK.cl {E E':En} {bx:List (List DV)} {N:Nat} (h:CK E E' bx N):CK E E'.cl bx N:=⟨h.c,h.fz⟩
structure A5 (E E':En) (n0 m0:Nat):Prop where
 β:∀ (i:Nat) b,i < n0->E.β[i]? = some b->E'.β[i]? = some b
 tk:∀ k,k < m0->E'.tk[k]? = E.tk[k]? /\ E'.τ[k]? = E.τ[k]?
theorem A5.zero (E E':En):A5 E E' 0 0:=⟨fun _ _ h=>absurd h (Nat.not_lt_zero _),fun _ h=>absurd h (Nat.not_lt_zero _)⟩
theorem Ext.G1 (E:En):Ext E.cl E:=⟨fun _ _ h=>h,fun j b hj=>by simp [En.cl] at hj,fun k q hk=>by simp [En.cl] at hk⟩
theorem uZ {E E':En} (hm:∀ e b o es,RvEs E.cl e b o es->RvEs E'.cl e b o es):∀ {l:List DV} {arr:List Value},(∀ x∈l,(∃ y,x = .v y)∨∃ e' uw,x = .sl e' uw none)->RvL E l arr->RvL E' l arr
 | [],arr,_,h=>by simp only [RvL] at h ⊢;exact h
 | d :: r,arr,hs,h=>by
  simp only [RvL] at h ⊢;obtain ⟨v,s,rfl,h1,h2⟩:=h;refine ⟨v,s,rfl,?_,uZ hm (fun x hx=>hs x (List.mem_cons_of_mem _ hx)) h2⟩;rcases hs d (by simp) with ⟨y,rfl⟩ | ⟨e',uw,rfl⟩
  ·unfold Rv at h1 ⊢;exact h1
  ·unfold Rv at h1 ⊢;obtain ⟨b,n,cap,h3,h4,h5,_⟩:=h1;exact ⟨b,n,cap,h3,h4,fun hn=>⟨(h5 hn).1,hm _ _ _ _ (h5 hn).2⟩,fun k hk=>by cases hk⟩
theorem CcL.length {bx:List (List DV)} {N n0 m0:Nat}:∀ {l' l:List DV},CcL bx N n0 m0 l' l->l'.length=l.length
 | [],l,h=>by simp only [CcL] at h;subst h;rfl
 | d' :: r',l,h=>by
  simp only [CcL] at h;obtain ⟨d,r,rfl,_,h2⟩:=h;simp [CcL.length h2]
theorem CcE.length {bx:List (List DV)} {N:Nat}:∀ {l' l:List (List DV)},CcE bx N l' l->l'.length=l.length
 | [],l,h=>by simp only [CcE] at h;subst h;rfl
 | d' :: r',l,h=>by
  simp only [CcE] at h;obtain ⟨d,r,rfl,_,h2⟩:=h;simp [CcE.length h2]
mutual
theorem Cc.sound {bx:List (List DV)} {N:Nat} {E:En}:∀ {d':DV} {E':En} {n0 m0:Nat} {d:DV} {v:Value},CK E E' bx N->A5 E E' n0 m0->Cc bx N n0 m0 d' d->Rv E d v->Rv E' d' v
 | .v y,E',n0,m0,d,v,hf,hl,h,hv=>by
  simp only [Cc] at h;subst h;unfold Rv at hv ⊢;exact hv
 | .ud,E',n0,m0,d,v,hf,hl,h,hv=>by
  simp only [Cc] at h;subst h;unfold Rv at hv ⊢;exact hv
 | .agg l',E',n0,m0,d,v,hf,hl,h,hv=>by
  simp only [Cc] at h;obtain ⟨l,rfl,h⟩:=h;unfold Rv at hv ⊢;obtain ⟨vs,h1,h2,h3⟩:=hv;exact ⟨vs,h1,CcL.sound hf hl h h2,h3⟩
 | .tup l',E',n0,m0,d,v,hf,hl,h,hv=>by
  simp only [Cc] at h;obtain ⟨l,rfl,h⟩:=h;unfold Rv at hv ⊢;obtain ⟨vs,h1,h2⟩:=hv;exact ⟨vs,h1,CcL.sound hf hl h h2⟩
 | .sl e es tk,E',n0,m0,d,v,hf,hl,h,hv=>by
  have hm:∀ b o,RvEs E.cl e b o es->RvEs E'.cl e b o es:=fun b o hr=>RvEs.mono (Ext.zy hf.c) hr
  cases tk with
  | none=>
   simp only [Cc] at h;rcases h with ⟨rfl,rfl⟩ | ⟨bi,rfl⟩ | ⟨i,off,c,cs,rfl,hi,bE,Kg,rr,xD⟩ | ⟨P7,bi,rfl,h⟩
   ·have:=aN hv;subst this;unfold Rv;exact ⟨none,0,0,rfl,⟨rfl,Nat.le_refl _⟩,fun hn=>(hn rfl).elim,fun k hk=>by cases hk⟩
   ·unfold Rv at hv ⊢;obtain ⟨b,n,cap,h1,h2,h3,_⟩:=hv;exact ⟨b,n,cap,h1,h2,fun hn=>⟨(h3 hn).1,hm _ _ (h3 hn).2⟩,fun k hk=>by cases hk⟩
   ·obtain ⟨b,arr,hb,hc,hmm⟩:=hf.fz i cs hi bE;unfold Rv at hv ⊢;obtain ⟨b',ad,cJ,L5,rfl,hca⟩:=hv;rw [hb] at cJ;simp only [oI] at cJ;subst cJ;refine ⟨ad,es.length,c,rfl,⟨rfl,L5⟩,fun hn=>?_,fun k hk=>by cases hk⟩;have ke:0 < es.length:=List.length_pos_iff.2 hn;have ML:=hca (by omega);subst ML;refine ⟨rfl,?_⟩;have h1:=(hc.drop off).take (es.length * e);rw [<- Kg] at h1;refine rvEs_flat ⟨uZ (E':=E'.cl) (fun e b o es hr=>(RvEs.mono (Ext.zy hf.c) hr:RvEs E'.cl e b o es)) xD h1.1,h1.2⟩ rr fun j u hj=>?_;rw [List.getElem?_take] at hj;split at hj
    ·rw [List.getElem?_drop] at hj;exact hmm (off + j) u hj
    ·cases hj
   ·have hlen:=CcE.length h;have hs:=fun b o=>CcE.sound (e:=e) (b:=b) (o:=o) hf h;unfold Rv at hv ⊢;obtain ⟨b,n,cap,h1,h2,h3,_⟩:=hv;refine ⟨b,n,cap,h1,by omega,fun hn=>?_,fun k hk=>by cases hk⟩;have gI:P7 ≠ []:=fun hc=>hn (List.eq_nil_of_length_eq_zero (by rw [hlen,hc];rfl));exact ⟨(h3 gI).1,hs _ _ (h3 gI).2⟩
  | some k=>
   simp only [Cc] at h;obtain ⟨hk,rfl⟩:=h;unfold Rv at hv ⊢;obtain ⟨b,n,cap,h1,h2,h3,h4⟩:=hv;refine ⟨b,n,cap,h1,h2,fun hn=>⟨(h3 hn).1,hm _ _ (h3 hn).2⟩,fun k' gg=>?_⟩;cases gg;obtain ⟨e1,e2⟩:=hl.tk k hk;obtain ⟨q,h5,h6,h7⟩:=h4 k rfl;exact ⟨q,by rw [e1];exact h5,h6,fun hh=>by rw [e2];exact h7 hh⟩
 | .pt cs' o,E',n0,m0,d,v,hf,hl,h,hv=>by
  simp only [Cc] at h;rcases h with rfl | ⟨i,cs,rfl,hi,bE,h⟩
  ·unfold Rv at hv ⊢;obtain ⟨b,p,h1,h2⟩:=hv;exact ⟨b,p,h1,RvAt.mono (Ext.zy hf.c) h2⟩
  ·obtain ⟨b,arr,hb,hc,hm⟩:=hf.fz i cs hi bE;unfold Rv at hv ⊢;obtain ⟨b',cJ,rfl⟩:=hv;rw [hb] at cJ;simp only [oI] at cJ;subst cJ;refine ⟨b,0,by simp,?_⟩;have:=CcL.sound hf.cl (A5.zero E E'.cl) h hc.1;exact sV ⟨this,hc.2⟩ fun j u hj=>by rw [Nat.zero_add];exact hm j u hj
 | .loc i o,E',n0,m0,d,v,hf,hl,h,hv=>by
  simp only [Cc] at h;obtain ⟨hi,rfl⟩:=h;unfold Rv at hv ⊢;obtain ⟨b,hb,h1⟩:=hv;exact ⟨b,hl.β i b hi hb,h1⟩
 | .el i o,E',n0,m0,d,v,hf,hl,h,hv=>by
  simp only [Cc] at h;obtain ⟨hi,rfl⟩:=h;unfold Rv at hv ⊢;obtain ⟨b,hb,h1⟩:=hv;exact ⟨b,hl.β i b hi hb,h1⟩
 | .ms i e o l c,E',n0,m0,d,v,hf,hl,h,hv=>by
  simp only [Cc] at h;obtain ⟨hi,rfl⟩:=h;unfold Rv at hv ⊢;obtain ⟨b,ad,hb,h1⟩:=hv;exact ⟨b,ad,hl.β i b hi hb,h1⟩
 | .fn f a' b',E',n0,m0,d,v,hf,hl,h,hv=>by
  simp only [Cc] at h;obtain ⟨a,b,rfl,ha,hb⟩:=h;unfold Rv at hv ⊢;obtain ⟨l,r,h1,h2,h3⟩:=hv;exact ⟨l,r,h1,CcL.sound hf hl ha h2,CcL.sound hf hl hb h3⟩
 | .nq t x',E',n0,m0,d,v,hf,hl,h,hv=>by
  simp only [Cc] at h;obtain ⟨x,rfl,hx⟩:=h;unfold Rv at hv ⊢;obtain ⟨z,h1,h2⟩:=hv;exact ⟨z,h1,Cc.sound hf hl hx h2⟩
theorem CcL.sound {bx:List (List DV)} {N:Nat} {E:En}:∀ {l':List DV} {E':En} {n0 m0:Nat} {l:List DV} {vs:List Value},CK E E' bx N->A5 E E' n0 m0->CcL bx N n0 m0 l' l->RvL E l vs->RvL E' l' vs
 | [],E',n0,m0,l,vs,hf,hl,h,hv=>by
  simp only [CcL] at h;subst h;simp only [RvL] at hv ⊢;exact hv
 | d' :: r',E',n0,m0,l,vs,hf,hl,h,hv=>by
  simp only [CcL] at h;obtain ⟨d,r,rfl,h1,h2⟩:=h;simp only [RvL] at hv ⊢;obtain ⟨v,s,h3,h4,h5⟩:=hv;exact ⟨v,s,h3,Cc.sound hf hl h1 h4,CcL.sound hf hl h2 h5⟩
theorem TM.sound {bx:List (List DV)} {N:Nat} {E:En}:∀ {l':List DV} {E':En} {l:List DV} {b p:Nat},CK E E' bx N->CcL bx N 0 0 l' l->RvAt E.cl b p l->RvAt E'.cl b p l'
 | [],E',l,b,p,hf,h,hv=>by simp only [RvAt]
 | d' :: r',E',l,b,p,hf,h,hv=>by
  simp only [CcL] at h;obtain ⟨d,r,rfl,h1,h2⟩:=h;simp only [RvAt] at hv ⊢;obtain ⟨⟨v,h3,h4,h5⟩,h6⟩:=hv;exact ⟨⟨v,hf.c _ _ h3,h4,Cc.sound hf.cl (A5.zero E E'.cl) h1 (Rv.mono (Ext.G1 E) h5)⟩,TM.sound hf h2 h6⟩
theorem CcE.sound {bx:List (List DV)} {N:Nat} {E:En}:∀ {l':List (List DV)} {E':En} {l:List (List DV)} {e b o:Nat},CK E E' bx N->CcE bx N l' l->RvEs E.cl e b o l->RvEs E'.cl e b o l'
 | [],E',l,e,b,o,hf,h,hv=>by simp only [RvEs]
 | a' :: r',E',l,e,b,o,hf,h,hv=>by
  simp only [CcE] at h;obtain ⟨a,r,rfl,h1,h2⟩:=h;simp only [RvEs] at hv ⊢;obtain ⟨h3,h4,h5⟩:=hv;refine ⟨?_,?_,CcE.sound hf h2 h5⟩
  ·rcases h1 with rfl | h1
   ·exact h3
   ·rw [CcL.length h1];exact h3
  ·rcases h1 with rfl | h1
   ·exact RvAt.mono (Ext.zy hf.c) h4
   ·exact TM.sound hf h1 h4
end
theorem IG {E:En} {e:Nat} {es uw:List (List DV)} {tk:Option Nat} {v:Value} (h:CcE [] 0 uw es) (hv:Rv E (.sl e es tk) v):Rv E (.sl e uw tk) v:=by
 have hlen:=CcE.length h;have hs:=fun b o=>CcE.sound (E:=E) (E':=E) (bx:=[]) (N:=0) (e:=e) (b:=b) (o:=o) ⟨fun _ _ h=>h,fun i cs _ hi=>by simp at hi⟩ h;unfold Rv at hv ⊢;obtain ⟨b,n,cap,h1,h2,h3,h4⟩:=hv;refine ⟨b,n,cap,h1,by omega,fun hn=>?_,h4⟩;have gI:es ≠ []:=fun hc=>hn (List.eq_nil_of_length_eq_zero (by rw [hlen,hc];rfl));exact ⟨(h3 gI).1,hs _ _ (h3 gI).2⟩
theorem iV.get {bx:List (List DV)} {N n0 m0:Nat}:∀ {l' l:List (List DV)},iV bx N n0 m0 l' l->l'.length=l.length/\∀ (i:Nat) cs',l'[i]? = some cs' -> ∃ cs,l[i]? = some cs/\CcL bx N n0 m0 cs' cs
 | [],l,h=>by simp only [iV] at h;subst h;exact ⟨rfl,by simp⟩
 | a' :: r',l,h=>by
  simp only [iV] at h;obtain ⟨a,r,rfl,h1,h2⟩:=h;obtain ⟨h3,h4⟩:=iV.get h2;refine ⟨by simp [h3],fun i cs' hi=>?_⟩
  cases i with
  | zero=>simp only [List.getElem?_cons_zero,oI] at hi;subst hi;exact ⟨a,rfl,h1⟩
  | succ i=>simp only [List.getElem?_cons_succ] at hi ⊢;exact h4 i cs' hi
open Classical in
noncomputable def mE (E:En) (n:Nat) (w:World):Addr->Option Value:=
 fun a=>if ∃ i:Nat,n<=i/\E.β[i]? = some a.block then w.cell? a else E.c a
section
variable {X:Ctx} {E:En} {st:St} {a:Act} {w:World}
theorem cE {n:Nat} {x:Addr} {v:Value} (h:mE E n w x=some v):((∃ i:Nat,n<=i/\E.β[i]? = some x.block)/\w.cell? x=some v)∨E.c x=some v:=by
 unfold mE at h;split at h
 ·rename_i hc;exact .inl ⟨hc,h⟩
 ·exact .inr h
theorem iq {bx:List (List DV)} (h:Env E bx w) {n:Nat} {x:Addr} {v:Value} (hx:E.c x=some v):mE E n w x=some v:=by
 unfold mE;split
 ·exact h.sub x v hx
 ·exact hx
theorem s7 (h:Rel X E st a w) {d d':DV} {os:List (List DV)} {v:Value} (hv:Rv E d v) (M:Nat) (hM:(X.fr=false/\M=X.m0)∨(X.fr=true/\M=st.tk.length)) (hd:Cc st.bx X.n0 X.n0 M d' d) (qU:iV st.bx X.n0 X.n0 M os (st.bx.take X.n0)) (hΦ:X.Φ d' os (st.tk.take M)):uO X.still X.E0 X.w0 X.Φ v w X.fr:=by
 obtain ⟨r,G2,Qc⟩:=h.nw.β;have eG:E.β.take X.n0=X.E0.β:=by rw [G2,<- X.gI];simp
 have oS:∀ (i:Nat) b,i < X.n0->E.β[i]? = some b->X.E0.β[i]? = some b:=fun i b hi hb=>by
  rw [<- eG,List.getElem?_take,if_pos hi];exact hb
 have cC:∀ (i:Nat) b,X.n0<=i->E.β[i]? = some b->b∈r:=fun i b hi hb=>by
  rw [G2,List.getElem?_append_right (by rw [X.gI];exact hi)] at hb;exact mG hb
 have Kh:∀ b,b∈X.E0.β->b∈r->False:=fun b h1 h2=>by
  have:=h.env.inj;rw [G2] at this;exact (List.nodup_append.1 this).2.2 b h1 b h2 rfl
 have hE0l:X.E0.τ.length=X.m0:=by rw [h.nw.l0,X.kz]
 have TN:X.m0<=E.tk.length:=by
  rcases Nat.lt_or_ge E.tk.length X.m0 with h1 | h1
  ·have hk:E.tk.length < X.E0.tk.length:=by rw [X.kz];exact h1
   have gg:E.tk.length < X.E0.τ.length:=by rw [h.nw.l0];exact hk
   obtain ⟨q',y',h2,_⟩:=h.nw.tk E.tk.length _ _ (gE hk) (gE gg);have:=(gS h2).1;omega
  ·exact h1
 have hMm:X.m0<=M/\M<=E.tk.length:=by
  rcases hM with ⟨_,rfl⟩ | ⟨_,rfl⟩
  ·exact ⟨Nat.le_refl _,TN⟩
  ·rw [<- h.tk];exact ⟨TN,Nat.le_refl _⟩
 have L9:TD X.fr (E.tk.take M).length X.E0.tk.length:=by
  rw [List.length_take];rcases hM with ⟨hf,rfl⟩ | ⟨hf,rfl⟩
  ·rw [hf];show min _ _=_;rw [X.kz];omega
  ·rw [hf];show _<=min _ _;rw [X.kz];omega
 let E':En:=⟨mE E X.n0 w,X.E0.β,E.tk.take M,E.τ.take M⟩
 have Dc:CK E E' st.bx X.n0:={
  c:=fun x u hx=>iq h.env hx
  fz:=fun i cs hi bE=>by
   obtain ⟨b,ty,arr,hb,hw,hc⟩:=h.env.cL i cs bE;refine ⟨b,arr,hb,hc,fun j u hj=>?_⟩;show mE E X.n0 w ⟨b,j,none⟩=some u;unfold mE;rw [if_pos ⟨i,hi,hb⟩,bB hw]
   simpa using hj }
 have qV:A5 E E' X.n0 M:={
  β:=oS
  tk:=fun k hk=>⟨by show (E.tk.take M)[k]? = _;rw [List.getElem?_take,if_pos hk],by show (E.τ.take M)[k]? = _;rw [List.getElem?_take,if_pos hk]⟩ }
 obtain ⟨gJ,MS⟩:=qU.get;refine ⟨h.fr,h.sh,d',os,E',?_,rfl,L9,?_,hd.sound Dc qV hv,by show X.Φ d' os (E.tk.take M);rw [h.tk];exact hΦ⟩
 ·exact {
   len:=by
    show X.E0.β.length=os.length;rw [gJ,X.gI,List.length_take]
    have:X.n0<=st.bx.length:=by
     rw [<- h.env.len,G2,List.length_append,X.gI];omega
    omega
   tl:=by simp only [E',List.length_take];rw [h.env.tl]
   cL:=fun i cs' hi=>by
    obtain ⟨cs,bE,qP⟩:=MS i cs' hi;rw [List.getElem?_take] at bE;split at bE
    ·rename_i aq;obtain ⟨b,ty,arr,hb,hw,hc⟩:=h.env.cL i cs bE;exact ⟨b,ty,arr,oS i b aq hb,hw,CcL.sound Dc qV qP hc.1,hc.2⟩
    ·cases bE
   inj:=by rw [<- eG];exact h.env.inj.sublist (List.take_sublist _ _)
   sub:=fun x u hx=>by
    rcases cE hx with ⟨_,h1⟩ | h1
    ·exact h1
    ·exact h.env.sub x u h1
   pc:=fun x u hx hm=>by
    rcases cE hx with ⟨⟨i,hi,hb⟩,_⟩ | h1
    ·exact Kh _ hm (cC i _ hi hb)
    ·refine h.env.pc x u h1 ?_;rw [G2];exact List.mem_append.2 (.inl hm)
   bQ:=fun k q y hq hy=>by
    simp only [E',List.getElem?_take] at hq hy;split at hq
    ·rename_i hk;rw [if_pos hk] at hy;rcases h.env.bQ k q y hq hy with h1 | ⟨g,cap,cur,rfl,h1,h2,h3,h4,h5,h6⟩
     ·exact .inl h1
     ·refine .inr ⟨g,cap,cur,rfl,h1,⟨h2.1,h2.2.mono fun _ _ hx=>iq h.env hx⟩,h3,h4,fun hm=>h5 (by rw [G2];exact List.mem_append.2 (.inl hm)),fun x u hx hg=>?_⟩;rcases cE hx with ⟨⟨i,hi,hb⟩,_⟩ | h7
      ·rw [hg] at hb;exact (h5 (mG hb)).elim
      ·exact h6 x u h7 hg
    ·cases hq
   gf:=fun k k' y y' g zE hy eQ=>by
    simp only [E',List.getElem?_take] at hy eQ;split at hy
    ·split at eQ
     ·exact h.env.gf k k' y y' g zE hy eQ
     ·cases eQ
    ·cases hy }
 ·exact {
   c:=fun x u hx=>iq h.env (h.nw.c x u hx)
   cn:=fun x u hx=>by
    rcases cE hx with ⟨⟨i,hi,hb⟩,_⟩ | h1
    ·exact .inr (.inl (Qc _ (cC i _ hi hb)))
    ·exact h.nw.cn x u h1
   β:=⟨[],by simp [E'],by simp⟩
   tk:=fun k q y hq hy=>by
    obtain ⟨q',y',h1,h2,h3⟩:=h.nw.tk k q y hq hy;have hk:k < X.m0:=by rw [<- X.kz];exact (gS hq).1
    exact ⟨q',y',by show (E.tk.take M)[k]? = _;rw [List.getElem?_take,if_pos (by omega)];exact h1,by show (E.τ.take M)[k]? = _;rw [List.getElem?_take,if_pos (by omega)];exact h2,h3⟩
   tn:=fun k y g hk hy hg=>by
    simp only [E',List.getElem?_take] at hy;split at hy
    ·exact h.nw.tn k y g hk hy hg
    ·cases hy
   l0:=h.nw.l0 }
def resOf (tmps:Array Value):ResultVar->Sem Value
 | .tmp t=>pure (tmps.getD t undef)
 | .cell x t=>do loadVar t (<- asAddr (tmps.getD x undef))
theorem xQ (fn:Func) (tmps:Array Value):results fn tmps=(do let vs <- fn.results.mapM (resOf tmps);pure (if h:vs.size=1 then vs[0] else .tuple vs)):=by
 unfold results;congr 2
theorem xR (h:Rel X E st a w) {r:ResultVar} {d:DV} (hr:res1 X.T st r=some d):∃ v,Rv E d v/\(resOf a.tmps r).run X.P w = .ok v w:=by
 cases r with
 | tmp t=>
  simp only [res1] at hr;split at hr
  ·rename_i x hg;simp only [oI] at hr;subst hr;obtain ⟨v,h1,h2⟩:=(h.tm t _ hg).1 (aJ _);exact ⟨v,h2,by simp [resOf,Array.getD_eq_getD_getElem?,h1]⟩
  ·cases hr
 | cell x t=>
  simp only [res1] at hr;split at hr
  ·rename_i i off hg;split at hr
   ·rename_i cs bE;obtain ⟨v,h1,h2⟩:=(h.tm x _ hg).1 (aJ _);unfold Rv at h2;obtain ⟨b,hb,rfl⟩:=h2;obtain ⟨b',xK,arr,cJ,hw,hc⟩:=h.env.cL i cs bE;rw [hb] at cJ;simp only [oI] at cJ;subst cJ;obtain ⟨v,hv,hl⟩:=ij X.hT hc (b:=b) (p:=0) hr;have hl:=hl w fun j u hj=>by rw [bB hw];simpa using hj
    rw [Nat.zero_add] at hl;exact ⟨v,hv,by simp only [resOf,Array.getD_eq_getD_getElem?,h1,Option.getD_some,asAddr,Sem.run_bind,Sem.run_pure,Result.andThen_ok,hl]⟩
   ·cases hr
  ·cases hr
theorem ir (h:Rel X E st a w):∀ {rs:List ResultVar} {ds:List DV},resD X.T st rs=some ds->∃ vs,RvL E ds vs/\(rs.mapM (resOf a.tmps)).run X.P w = .ok vs w
 | [],ds,hr=>by
  simp only [resD,oI] at hr;subst hr;exact ⟨[],bn E,rfl⟩
 | r :: rs,ds,hr=>by
  simp only [resD] at hr;split at hr
  ·rename_i d l hd hl;simp only [oI] at hr;subst hr;obtain ⟨v,hv,h1⟩:=xR h hd;obtain ⟨vs,uW,h2⟩:=ir h hl;refine ⟨v :: vs,rvL_cons hv uW,?_⟩;simp only [List.mapM_cons,Sem.run_bind,h1,Result.andThen_ok,h2,Sem.run_pure]
  ·cases hr
theorem kE (h:Rel X E st a w) {d:DV} {v:Value} (hv:Rv E d v) (hf:finD X st d):uO X.still X.E0 X.w0 X.Φ v w X.fr:=by
 unfold finD at hf;split at hf
 ·rename_i Qd;obtain ⟨d',os,hd,qU,hΦ⟩:=hf;exact s7 h hv st.tk.length (.inr ⟨Qd,rfl⟩) hd qU (by rw [List.take_length];exact hΦ)
 ·rename_i Qd;split at hf
  ·rename_i hn hm
   have key:∀ d',Cc st.bx 0 0 0 d' d->X.Φ d' [] []->uO X.still X.E0 X.w0 X.Φ v w X.fr:=fun d' hd hΦ=>
    s7 h hv (d':=d') (os:=[]) X.m0 (.inl ⟨Qd,rfl⟩) (by rw [hn,hm];exact hd) (by rw [hn];simp [iV]) (by rw [hm];exact hΦ)
   split at hf
   ·rename_i x;exact key (.v x) (by simp only [Cc]) hf
   ·obtain ⟨d',hd,hΦ⟩:=hf;exact key d' hd hΦ
  ·obtain ⟨d',os,hd,qU,hΦ⟩:=hf;exact s7 h hv X.m0 (.inl ⟨Qd,rfl⟩) hd qU hΦ
theorem rz (h:Rel X E st a w) (hf:fin X st):kq X [] .ret a w:=by
 have xE:X.fn.results=X.rs.toArray:=by rw [<- X.xz]
 simp only [kq];refine ⟨h.df,?_⟩
 have hbt:j7 X.bt X.E0.β w:=fun p hp b hb=>by
  obtain ⟨r,hr,_⟩:=h.nw.β;exact h.bt p hp b (by rw [hr,List.getElem?_append_left (gS hb).1];exact hb)
 unfold fin at hf
 have Dd:∀ (ds:List DV) (vs:List Value),(X.rs.mapM (resOf a.tmps)).run X.P w = .ok vs w->(results X.fn a.tmps).run X.P w = .ok (if h:vs.toArray.size=1 then vs.toArray[0] else .tuple vs.toArray) w:=by
  intro ds vs hv;rw [xQ,xE];simp only [List.mapM_toArray,Sem.run_bind,Sem.run_map,hv];rfl
 split at hf
 ·rename_i hr;obtain ⟨vs,uW,h1⟩:=ir h hr;simp only [RvL] at uW;subst uW;exact ⟨_,Dd [] [] h1,kE h (v:=.tuple #[]) (by unfold Rv;exact ⟨[],rfl,bn E⟩) hf,hbt⟩
 ·rename_i d hr;obtain ⟨vs,uW,h1⟩:=ir h hr;have hl:=uW.length;simp only [RvL] at uW;obtain ⟨v,s,rfl,hv,rfl⟩:=uW;exact ⟨_,Dd [d] [v] h1,kE h (v:=v) hv hf,hbt⟩
 ·rename_i d e l hr;obtain ⟨vs,uW,h1⟩:=ir h hr;have hl:=uW.length;have aM:¬ vs.toArray.size=1:=by simp at hl ⊢;omega
  have h2:=Dd [] vs h1;rw [dif_neg aM] at h2;exact ⟨_,h2,kE h (v:=.tuple vs.toArray) (by unfold Rv;exact ⟨vs,rfl,uW⟩) hf,hbt⟩
 ·exact hf.elim
theorem oT:∀ (k:List It) (a:Act) (w:World),kq X [] .ret a w->kq X k .ret a w
 | [],_,_,h=>h
 | .code _ :: k,a,w,h=>oT k a w h
 | .ops _ _ :: k,a,w,h=>oT k a w h
 | .xA _ :: k,a,w,h=>oT k a w h
 | .CB _ :: k,a,w,h=>oT k a w h
theorem lz {id:Nat}:∀ (k k':List It) (a:Act) (w:World),dropBlk id k=some k' -> kq X k' .normal a w->kq X k (.exit id) a w
 | [],k',a,w,hd,_=>by simp [dropBlk] at hd
 | .code _ :: k,k',a,w,hd,h=>by simp only [dropBlk] at hd;exact lz k k' a w hd h
 | .ops _ _ :: k,k',a,w,hd,h=>by simp only [dropBlk] at hd;exact lz k k' a w hd h
 | .CB _ :: k,k',a,w,hd,h=>by simp only [dropBlk] at hd;exact lz k k' a w hd h
 | .xA i :: k,k',a,w,hd,h=>by
  simp only [dropBlk] at hd;split at hd
  ·rename_i hi;have hi:id=i:=by simpa using hi
   simp only [oI] at hd;subst hd;simp only [kq];rw [if_pos hi];exact h
  ·rename_i hi
   have hi:id≠i:=by
    rintro rfl;rw [Nat.beq_refl] at hi;cases hi
   simp only [kq];rw [if_neg hi];exact lz k k' a w hd h
theorem A6 {P:Program} {o:Oper} {a:Act} {K K':Act->World->Prop} {Q Q':Exit->Act->World->Prop} (hK:∀ a w,K a w->K' a w) (hQ:∀ e a w,Q e a w->Q' e a w)
  {r:Result Next} (h:o.upon P a K Q r):o.upon P a K' Q' r:=by
 unfold Oper.upon at *;split<;>simp_all
 ·refine h.mono ?_;intro e w' hq
  cases e with
  | returned v=>exact hK _ _ hq
  | panicked c=>exact hQ _ _ _ hq
  | outgrown=>obtain ⟨a,w,hq⟩:=hq;exact ⟨a,w,hQ _ _ _ hq⟩
 ·exact h.mono fun v w' hq=>hK _ _ hq
theorem u0 {P:Program} {o:Oper} {a:Act} {K K':Act->World->Prop} {Q Q':Exit->Act->World->Prop} {w:World} (hK:∀ a w,K a w->K' a w) (hQ:∀ e a w,Q e a w->Q' e a w)
  (h:o.wp P a w K Q):o.wp P a w K' Q':=A6 hK hQ h
theorem cV (c:Code) (k:List It) (a:Act) (w:World):kq X (.code c :: k) .normal a w=c.wp X.P (kq X k) a w:=rfl
theorem G3 (c:Code) (k:List It):kq X (.code c :: k)=Exit.then (c.wp X.P (kq X k)) (kq X k):=by
 funext e a w;cases e<;>rfl
theorem Ki (id:Nat) (k:List It) (e:Exit) (a:Act) (w:World) (h:kq X (.xA id :: k) e a w):Exit.inBlock id (kq X k) e a w:=by
 cases e<;>exact h
theorem wanted_spec (h:Rel X E st a w) {all:Array Oper} {o:Oper} {j d:Nat} {want:Bool} {hZ:List (Nat × Bool)} {sd:DV} (G4:o.guard=some (j,want)) (xJ:gslot all.toList j=some d) (De:get st.sl d=some ⟨hZ,sd⟩) :
  Region.wanted o (yielded all a.tmps)=true↔Holds a.tmps ((d,want) :: hZ):=by
 have Kj:yielded all a.tmps j=match a.tmps[d]? with | some (.bool b)=>some b | _=>none:=by
  unfold gslot at xJ;split at xJ
  ·rename_i oj hoj;have Q7:all[j]? = some oj:=by simpa using hoj
   simp only [yielded,Q7,xJ,Option.bind_some]
   cases a.tmps[d]? with
   | none=>rfl
   | some v=>cases v<;>rfl
  ·cases xJ
 have htd:=h.tm d _ De;simp only [Region.wanted,G4,Kj];constructor
 ·intro hw
  have hb:a.tmps[d]? = some (.bool want):=by
   split at hw
   ·rename_i b hb;rw [hb];have:b=want:=by simpa using hw
    rw [this]
   ·simp at hw
  refine fw hb ?_;by_cases hh:Holds a.tmps hZ
  ·exact hh
  ·have:=htd.2 hh;rw [hb] at this;simp [undef] at this
 ·intro hh;have:=hh (d,want) (by simp);simp only at this;rw [this];simp
theorem u1 (h:Rel X E st a w) {t:Nat} {b:Bool} (hg:get st.sl t=some ⟨[],.v (.bool b)⟩):a.tmps[t]? = some (.bool b):=by
 obtain ⟨v,h1,h2⟩:=(h.tm t _ hg).1 (aJ _);rw [h1,fx h2]
theorem Df (h:Rel X E st a w) {t:Nat} (hg:get st.sl t=some ⟨[],.ud⟩):a.tmps[t]? = some undef:=by
 obtain ⟨v,h1,h2⟩:=(h.tm t _ hg).1 (aJ _);unfold Rv at h2;rw [h1,h2]
theorem oU {G:List (Nat × Bool)} {dst:Option Nat} (cj:QT G dst=true):∀ e,dst=some e->∀ p∈G,p.1≠e:=by
 intro e he p hp b9;rw [he] at cj;have:=(List.all_eq_true.1 cj) p hp;rw [b9] at this;simp at this
theorem go_sound:∀ n,TL X (go X n)
 | 0=>fun k st hg=>hg.elim
 | n + 1=>by
  have ih:=go_sound n;intro k st hg E a w h
  match k with
  | []=>exact rz h (by simpa [go] using hg)
  | .xA id :: k=>exact ih k st (by simpa [go] using hg) E a w h
  | .CB J :: k=>exact ⟨st,E,h,by simpa [go] using hg⟩
  | .ops all [] :: k=>exact ih k st (by simpa [go] using hg) E a w h
  | .ops all (o :: r) :: k=>
   simp only [go,jO,zx] at hg;split at hg
   ·exact hg.elim
   ·rename_i hd;split at hg
    ·rename_i G4;simp only [kq,wpList,Region.wanted,G4,if_true];split at hg
     ·rename_i s hs;obtain ⟨v,hv,bz⟩:=ei X.hT h.rl (aJ _) hs;exact .inl (fB (bz w fun _=>rfl) (ih _ _ hg E _ w (aG h hd s v hv)))
     ·exact .inl (u0 (fun a w hk=>hk) (fun e a w hq=>hq.elim) (ry ih hd h hg))
    ·rename_i j want G4;split at hg
     ·exact hg.elim
     ·rename_i d xJ;split at hg
      ·exact hg.elim
      ·rename_i hZ sd De;have lA:=wanted_spec h G4 xJ De;simp only [kq,wpList];split at hg
       ·rename_i s hs;split at hg
        case h_2=>exact hg.elim
        rename_i cj;split
        ·rename_i hw;have hh:=lA.1 hw;obtain ⟨v,hv,bz⟩:=ei X.hT h.rl hh hs;exact .inl (fB (bz w fun _=>rfl) (ih _ _ hg E _ w (lr h hd _ s v (oU cj) (fun _=>hv) (fun hn=>(hn hh).elim))))
        ·rename_i hw;have hh:¬ Holds a.tmps ((d,want) :: hZ):=fun hh=>hw (lA.2 hh);exact ih _ _ hg E _ w (lr h hd _ s undef (oU cj) (fun hn=>(hh hn).elim) (fun _=>rfl))
       ·split at hg
        ·rename_i b eG;have ht0:=u1 h eG
         cases hZ with
         | nil=>
          simp only [lastG] at eG ht0;cases s8:(b == want)
          ·have xS:b = !want:=by cases b<;>cases want<;>simp_all
           have hg:=hg.f s8
           have hn:¬ Region.wanted o (yielded all a.tmps)=true:=by
            intro hw;have:=(lA.1 hw) (d,want) (by simp);simp only at this;rw [ht0] at this;simp only [oI,Value.bool.injEq] at this;rw [this] at s8;simp at s8
           rw [if_neg hn];have hr:=gk (d:=d) (b:=!want) h (by rw [ht0,xS]);exact ih _ _ hg E _ w (aG hr (gl hd) .ud undef (nr E))
          ·have Gt:b=want:=by simpa using s8
           have hg:=hg.t s8;subst Gt;have hw:Region.wanted o (yielded all a.tmps)=true:=lA.2 (fw ht0 (aJ _));rw [if_pos hw];have hr:=gk (d:=d) (b:=b) h ht0;exact .inl (u0 (fun a w hk=>hk) (fun e a w hq=>hq.elim) (ry ih (gl hd) hr hg))
         | cons g1 gr=>
          have key:∀ c,a.tmps[(lastG (d,want) (g1 :: gr)).1]? = some (.bool c)->go X n (.ops all (o :: r) :: k) (st.resolve (lastG (d,want) (g1 :: gr)).1 c)->wpList X.P all (kq X k) (o :: r) a w:=
           fun c hc nV=>ih _ _ nV E a w (gk h hc)
          cases s8:(b == (lastG (d,want) (g1 :: gr)).2)
          ·have hg:=hg.f s8;have xS:b = !(lastG (d,want) (g1 :: gr)).2:=by cases b<;>cases h0:(lastG (d,want) (g1 :: gr)).2<;>simp_all
           have:=key _ (by rw [ht0,xS]) hg;simpa [wpList] using this
          ·have hg:=hg.t s8;have Gt:b=(lastG (d,want) (g1 :: gr)).2:=by simpa using s8
           have:=key _ (by rw [ht0,Gt]) hg;simpa [wpList] using this
        ·rename_i eG
         cases hZ with
         | nil=>
          have ht0:=Df h eG;simp only [lastG] at ht0
          have hn:¬ Region.wanted o (yielded all a.tmps)=true:=by
           intro hw;have:=(lA.1 hw) (d,want) (by simp);simp only at this;rw [ht0] at this;simp [undef] at this
          rw [if_neg hn];exact ih _ _ hg E _ w (aG h hd .ud undef (nr E))
         | cons g1 gr=>exact hg.elim
        ·exact hg.elim
  | .code c :: k=>
   rw [cV]
   cases c with
   | skip=>exact wp_skip (ih k st (by simpa [go] using hg) E a w h)
   | seq x y=>
    have:=ih (.code x :: .code y :: k) st (by simpa [go] using hg) E a w h;rw [cV,G3] at this;exact wp_seq this
   | block id b=>
    have:=ih (.code b :: .xA id :: k) st (by simpa [go] using hg) E a w h;rw [cV] at this;exact wp_block (wp_mono this (Ki id k))
   | exit id=>
    simp only [go] at hg;split at hg
    ·rename_i k' hk;exact wp_exit (lz k k' a w hk (ih k' st hg E a w h))
    ·exact hg.elim
   | cond x p q=>
    simp only [go] at hg;split at hg
    ·rename_i b hb;refine wp_cond (t:=b) (by rw [fx (aE h.rl hb)]) ?_;cases eG:b
     ·exact ih (.code q :: k) st (hg.f eG) E a w h
     ·exact ih (.code p :: k) st (hg.t eG) E a w h
    ·exact hg.elim
   | region id ops d=>
    simp only [go] at hg;cases d
    ·exact wp_region_list (ih (.ops ops ops.toList :: k) st hg E a w h)
    ·exact hg E a w h
   | loop b=>exact (by simpa [go] using hg:rk X b k st) E a w h
   | ret=>exact wp_ret (oT k a w (rz h (by simpa [go] using hg)))
   | _=>simp [go] at hg
theorem u2 {fn:Func} (xE:X.fn=fn) (e:Exit) (a:Act) (w:World) (h:kq X [] e a w):bodyPost X.P fn (fun e w'=>∃ v,e = .returned v/\uO X.still X.E0 X.w0 X.Φ v w' X.fr/\j7 X.bt X.E0.β w') e a w:=by
 subst xE
 cases e with
 | normal=>obtain ⟨h1,v,h2,h3⟩:=h;exact ⟨h1,v,h2,v,rfl,h3⟩
 | ret=>obtain ⟨h1,v,h2,h3⟩:=h;exact ⟨h1,v,h2,v,rfl,h3⟩
 | exit _=>exact h.elim
 | goto _=>exact h.elim
 | panic _=>exact h.elim
 | outgrown=>exact h.elim
end
def Ma (s:Bool) (P:Program) (f:FuncId) (args:List DV) (os:List (List DV)) (bQ:List TkE) (Φ:DV->List (List DV)->List TkE->Prop) (fr:Bool:=false):Prop:=
 ∀ (E:En) (w:World) (vs:List Value),Env E os w->E.tk=bQ->RvL E args vs->Calls P f vs.toArray w fun e w'=>∃ v,e = .returned v/\uO s E w Φ v w' fr
def Ev (P:Program) (f:FuncId) (args:List DV) (os:List (List DV)) (bQ:List TkE) (Φ:DV->List (List DV)->List TkE->Prop):Prop:=Ma false P f args os bQ Φ
def TO (P:Program) (f:FuncId) (args:List DV) (os:List (List DV)) (bQ:List TkE) (Φ:DV->List (List DV)->List TkE->Prop):Prop:=Ma true P f args os bQ Φ
def EvP (P:Program) (f:FuncId) (args:List DV) (d:DV):Prop:=Ev P f args [] [] fun d' _ _=>d'=d
def argSl:Nat->List DV->List (Nat × Sl)
 | _,[]=>[]
 | i,v :: r=>(i,⟨[],v⟩) :: argSl (i + 1) r
theorem rA:∀ (l:List DV) (i j:Nat) (x:Sl),get (argSl i l) j=some x->∃ v,x=⟨[],v⟩/\i<=j/\l[j - i]? = some v
 | [],_,_,_,h=>by simp [argSl,get] at h
 | v :: r,i,j,x,h=>by
  simp only [argSl,bV] at h;split at h
  ·rename_i om;simp only [oI] at h;subst h om;exact ⟨v,rfl,Nat.le_refl _,by simp⟩
  ·rename_i om;obtain ⟨u,hu,iO,hg⟩:=rA r (i + 1) j x h;refine ⟨u,hu,by omega,?_⟩;rw [show j - i=(j - (i + 1)) + 1 by omega];simpa using hg
theorem Nw.refl {E:En} {bx:List (List DV)} {w:World} (h:Env E bx w):Nw E E w where
 c:=fun _ _ h=>h
 cn:=fun _ _ h=>.inl h
 β:=⟨[],by simp,by simp⟩
 tk:=fun k q y hq hy=>⟨q,y,hq,hy,rfl,rfl,.inl ⟨rfl,rfl⟩,.inl rfl⟩
 tn:=fun k y g hk hy=>by
  have:=(gS hy).1;rw [h.tl] at this;omega
 l0:=h.tl
def MT (s:Bool) (P:Program) (f:FuncId) (args:List DV) (os:List (List DV)) (bQ:List TkE) (bt:List (Nat × TypeId)) (Φ:DV->List (List DV)->List TkE->Prop) (fr:Bool:=false):Prop:=
 ∀ (E:En) (w:World) (vs:List Value),Env E os w->E.tk=bQ->j7 bt E.β w->RvL E args vs->Calls P f vs.toArray w fun e w'=>∃ v,e = .returned v/\uO s E w Φ v w' fr/\j7 bt E.β w'
theorem s9 {s:Bool} {P:Program} {f:FuncId} {fn:Func} {c:Code} {args:List DV} {os:List (List DV)} {bQ:List TkE} {Φ:DV->List (List DV)->List TkE->Prop} (bt:List (Nat × TypeId)) (mu:List Nat) (fr:Bool) (T:TT) (hT:T.ok P=true) (n nt:Nat) (rs:List ResultVar)
  (hf:P.funcs[f]? = some fn) (hb:fn.body=some c) (G5:fn.ntmps=nt) (xz:fn.results.toList=rs) (hlen:args.length<=nt)
  (h:∀ (E:En) (w:World) (hn:E.β.length=os.length) (hm:E.tk.length=bQ.length),go ⟨P,T,hT,fn,nt,rs,xz,w,E,os.length,bQ.length,hn,hm,s,Φ,bt,mu,fr⟩ n [.code c] ⟨argSl 0 args,os,bQ⟩):MT s P f args os bQ bt Φ fr:=by
 intro E w vs hE ib eG hv;have hl:=hv.length;have hg:=h E w hE.len (by rw [ib]);refine calls_of_wp hf hb ?_
 have hs:=go_sound (X:=⟨P,T,hT,fn,nt,rs,xz,w,E,os.length,bQ.length,hE.len,by rw [ib],s,Φ,bt,mu,fr⟩) n _ _ hg E
  {tmps:=vs.toArray ++ Array.replicate (fn.ntmps - vs.toArray.size) undef,defers:=[] } w
  {env:=hE
   tk:=ib
   sz:=by simp [G5];omega
   tm:=by
    intro i x hx;obtain ⟨d,rfl,_,hd⟩:=rA args 0 i x hx;simp only [Nat.sub_zero] at hd;obtain ⟨v,oi,Gm⟩:=hv.get hd;rw [Array.getElem?_append_left (by simpa using (gS oi).1)];exact ⟨fun _=>⟨v,by simpa using oi,Gm⟩,fun hn=>(hn (aJ _)).elim⟩
   df:=rfl
   nw:=Nw.refl hE
   fr:=⟨rfl,rfl,rfl,Nat.le_refl _,fun _ _ _=>rfl⟩
   sh:=fun _=>⟨0,rfl⟩
   bt:=eG }
 exact wp_mono hs (u2 rfl)
theorem zM {s:Bool} {P:Program} {f:FuncId} {fn:Func} {c:Code} {args:List DV} {os:List (List DV)} {bQ:List TkE} {Φ:DV->List (List DV)->List TkE->Prop} (bt:List (Nat × TypeId)) (mu:List Nat) (hbt:∀ p∈bt,os.length<=p.1) (fr:Bool) (T:TT) (hT:T.ok P=true) (n nt:Nat) (rs:List ResultVar)
  (hf:P.funcs[f]? = some fn) (hb:fn.body=some c) (G5:fn.ntmps=nt) (xz:fn.results.toList=rs) (hlen:args.length<=nt)
  (h:∀ (E:En) (w:World) (hn:E.β.length=os.length) (hm:E.tk.length=bQ.length),go ⟨P,T,hT,fn,nt,rs,xz,w,E,os.length,bQ.length,hn,hm,s,Φ,bt,mu,fr⟩ n [.code c] ⟨argSl 0 args,os,bQ⟩):Ma s P f args os bQ Φ fr:=fun E w vs hE ib hv=>(s9 bt mu fr T hT n nt rs hf hb G5 xz hlen h E w vs hE ib (fun p hp b hb=>by
  have h1:=hbt p hp;have h2:=(gS hb).1;have h3:=hE.len
  omega) hv).mono fun _ _ ⟨v,h1,h2,_⟩=>⟨v,h1,h2⟩
theorem ta {s:Bool} {P:Program} {f:FuncId} {fn:Func} {c:Code} {args:List DV} {os:List (List DV)} {bQ:List TkE} {Φ:DV->List (List DV)->List TkE->Prop} (bt:List (Nat × TypeId)) (hbt:∀ p∈bt,os.length<=p.1) (T:TT) (hT:T.ok P=true) (n nt:Nat) (rs:List ResultVar)
  (hf:P.funcs[f]? = some fn) (hb:fn.body=some c) (G5:fn.ntmps=nt) (xz:fn.results.toList=rs) (hlen:args.length<=nt)
  (h:∀ (E:En) (w:World) (hn:E.β.length=os.length) (hm:E.tk.length=bQ.length),go ⟨P,T,hT,fn,nt,rs,xz,w,E,os.length,bQ.length,hn,hm,s,Φ,bt,[],false⟩ n [.code c] ⟨argSl 0 args,os,bQ⟩):Ma s P f args os bQ Φ:=
 zM bt [] hbt false T hT n nt rs hf hb G5 xz hlen h
theorem Dg {s:Bool} {P:Program} {f:FuncId} {fn:Func} {c:Code} {args:List DV} {os:List (List DV)} {bQ:List TkE} {Φ:DV->List (List DV)->List TkE->Prop} (T:TT) (hT:T.ok P=true) (n nt:Nat) (rs:List ResultVar)
  (hf:P.funcs[f]? = some fn) (hb:fn.body=some c) (G5:fn.ntmps=nt) (xz:fn.results.toList=rs) (hlen:args.length<=nt)
  (h:∀ (E:En) (w:World) (hn:E.β.length=os.length) (hm:E.tk.length=bQ.length),go ⟨P,T,hT,fn,nt,rs,xz,w,E,os.length,bQ.length,hn,hm,s,Φ,[],[],false⟩ n [.code c] ⟨argSl 0 args,os,bQ⟩):Ma s P f args os bQ Φ:=
 ta [] (fun p hp=>by cases hp) T hT n nt rs hf hb G5 xz hlen h
theorem ev_go {P:Program} {f:FuncId} {fn:Func} {c:Code} {args:List DV} {os:List (List DV)} {bQ:List TkE} {Φ:DV->List (List DV)->List TkE->Prop} (T:TT) (hT:T.ok P=true) (n nt:Nat) (rs:List ResultVar)
  (hf:P.funcs[f]? = some fn) (hb:fn.body=some c) (G5:fn.ntmps=nt) (xz:fn.results.toList=rs) (hlen:args.length<=nt)
  (h:∀ (E:En) (w:World) (hn:E.β.length=os.length) (hm:E.tk.length=bQ.length),go ⟨P,T,hT,fn,nt,rs,xz,w,E,os.length,bQ.length,hn,hm,false,Φ,[],[],false⟩ n [.code c] ⟨argSl 0 args,os,bQ⟩):Ev P f args os bQ Φ:=
 Dg T hT n nt rs hf hb G5 xz hlen h
theorem Ev.mono {P:Program} {f:FuncId} {args:List DV} {os:List (List DV)} {bQ:List TkE} {Φ Ψ:DV->List (List DV)->List TkE->Prop} (h:Ev P f args os bQ Φ) (hΦ:∀ d o t,Φ d o t->Ψ d o t):Ev P f args os bQ Ψ:=by
 intro E w vs h1 h2 h3;refine (h E w vs h1 h2 h3).mono ?_;rintro e w' ⟨v,rfl,h4,hs,d,o,E',h5,h6,h7,h8,h9,ly⟩;exact ⟨v,rfl,h4,hs,d,o,E',h5,h6,h7,h8,h9,hΦ _ _ _ ly⟩
theorem Ev.MU {P:Program} {f:FuncId} {args:List DV} {os:List (List DV)} {bQ:List TkE} {Φ:DV->List (List DV)->List TkE->Prop} {bt:List (Nat × TypeId)} (h:Ev P f args os bQ Φ) (hb:bt=[]):MT false P f args os bQ bt Φ:=fun E w vs h1 h2 _ h4=>
 (h E w vs h1 h2 h4).mono fun _ _ ⟨v,h5,h6⟩=>⟨v,h5,h6,.nil hb⟩
theorem br {b:Bool} {A B:Prop} (h1:b=true->A) (h2:b=false->B):@Bool.rec (fun _=>Prop) B A b:=by
 cases b
 ·exact h2 rfl
 ·exact h1 rfl
section
variable {X:Ctx} {st:St} {k:List It} {E:En} {a:Act} {w:World}
theorem A7 (h:Rel X E st a w) (aX:X.still=false) {E2:En} {w':World} (hm:nT (E.cl).S w w') (he:Env E2 [] w') (hn:Nw E.cl E2 w):Rel X ⟨E2.c,E.β,E.tk,E.τ⟩ st a w':=by
 have hh:∀ i,i < w.heap.size->w'.heap[i]? = w.heap[i]?:=fun i hi=>hm.block i hi (by
  rintro (h1 | ⟨y,h1,_⟩)
  ·simp [En.cl] at h1
  ·simp [En.cl] at h1)
 have cC:∀ x v,E2.c x=some v->E.c x=some v∨w.heap.size<=x.block:=fun x v hx=>by
  rcases hn.cn x v hx with h1 | h1 | ⟨y,h1,_⟩
  ·exact .inl h1
  ·exact .inr h1
  ·simp [En.cl] at h1
 have hx:Ext E ⟨E2.c,E.β,E.tk,E.τ⟩:=⟨hn.c,fun _ _ h=>h,fun _ q h=>⟨q,h,.inl ⟨rfl,rfl⟩⟩⟩;have hk:=h.env.gw hh;refine cg h hx ?_ h.tk ?_ (h.fr.bo hm.os hm.tape hm.output hm.size fun i hi=>.inr (hh i hi)) (kA aX) (h.bt.gw fun b hb=>hh b (h.env.aK hb))
 ·exact {
   len:=h.env.len
   tl:=h.env.tl
   cL:=fun i cs hi=>by
    obtain ⟨b,ty,arr,hb,hw,hc⟩:=hk.cL i cs hi;exact ⟨b,ty,arr,hb,hw,hc.mono hx⟩
   inj:=h.env.inj
   sub:=he.sub
   pc:=fun x v hc nv=>by
    rcases cC x v hc with h1 | h1
    ·exact h.env.pc x v h1 nv
    ·have:=h.env.aK nv;omega
   bQ:=fun k q y hq hy=>by
    rcases hk.bQ k q y hq hy with h1 | ⟨g',cap,cur,rfl,h1,h2,h3,h4,h5,h6⟩
    ·exact .inl h1
    ·refine .inr ⟨g',cap,cur,rfl,h1,⟨h2.1,h2.2.mono hn.c⟩,h3,h4,h5,fun x v hc hg=>?_⟩;rcases cC x v hc with h7 | h7
     ·exact h6 x v h7 hg
     ·have:=(eU (h.env.bQ k q _ hq hy) (g:=g') rfl).1;omega
   gf:=h.env.gf }
 ·exact {
   c:=fun x v hc=>hn.c x v (h.nw.c x v hc)
   cn:=fun x v hc=>by
    rcases cC x v hc with h1 | h1
    ·exact h.nw.cn x v h1
    ·have:=h.fr.size;exact .inr (.inl (by omega))
   β:=h.nw.β
   tk:=h.nw.tk
   tn:=h.nw.tn
   l0:=h.nw.l0 }
theorem Kk {bx:List (List DV)} (h:Env E bx w):Env E.cl [] w where
 len:=rfl
 tl:=rfl
 cL:=by simp
 inj:=List.nodup_nil
 sub:=h.sub
 pc:=by simp [En.cl]
 bQ:=by simp [En.cl]
 gf:=by simp [En.cl]
theorem nz {P:Program} (h:Rel X E st a w) (aX:X.still=false) {f:FuncId} {args aV:List DV} {vs:List Value} {Φ:DV->List (List DV)->List TkE->Prop} (hc:Ev P f aV [] [] Φ) (ha:CcL [] 0 0 0 aV args) (hv:RvL E args vs) :
  Calls P f vs.toArray w fun e w'=>∃ v E' d,e = .returned v/\Rel X E' st a w' /\ Rv E' d v/\Φ d [] []/\nT E.cl.S w w' /\ Ext E E' /\ E'.β=E.β:=by
 have Mx:RvL E.cl aV vs:=CcL.sound (E:=E) (E':=E.cl) ⟨fun _ _ h=>h,fun i cs _ hi=>by simp at hi⟩ (A5.zero _ _) ha hv;refine (hc E.cl w vs (Kk h.env) rfl Mx).mono ?_;rintro e w' ⟨v,rfl,hm,_,d,os,E2,he,hβ,ib,hn,Kl,hΦ⟩
 have qU:os=[]:=by
  have:=he.len;rw [hβ] at this;exact List.eq_nil_of_length_eq_zero this.symm
 subst qU;have ht0:E2.tk=[]:=List.eq_nil_of_length_eq_zero ib;refine ⟨v,⟨E2.c,E.β,E.tk,E.τ⟩,d,rfl,A7 h aX hm he hn,?_,by rw [ht0] at hΦ;exact hΦ,hm,⟨hn.c,fun _ _ h=>h,fun _ q h=>⟨q,h,.inl ⟨rfl,rfl⟩⟩⟩,rfl⟩;refine Rv.mono (E:=E2) (E':=⟨E2.c,E.β,E.tk,E.τ⟩) ⟨fun _ _ h=>h,fun i b hb=>?_,fun k q hq=>?_⟩ Kl
 ·rw [hβ] at hb;simp [En.cl] at hb
 ·rw [ht0] at hq;simp at hq
theorem bP {f:FuncId} {args aV:List DV} {d:Nat} (iP:Enters X.P f) (hd:dq X.nt st.sl (some d)=true) {Φ:DV->List (List DV)->List TkE->Prop} (hc:Ev X.P f aV [] [] Φ) (ha:CcL [] 0 0 0 aV args)
  (hk:∀ r,Φ r [] []->go X 4000 k ⟨(d,⟨[],r⟩) :: st.sl,st.bx,st.tk⟩) (aX:X.still=false:=by exact rfl):ct X f args (some d) k st:=by
 refine ⟨iP,aX,fun E a w vs h hv=>(nz h aX hc ha hv).mono ?_⟩;rintro e w' ⟨v,E',r,rfl,bA,hr,hΦ,_⟩;exact go_sound 4000 _ _ (hk r hΦ) E' _ w' (aG bA hd r v hr)
theorem call_p {f:FuncId} {args aV:List DV} {d:Nat} {r:DV} (iP:Enters X.P f) (hc:EvP X.P f aV r) (ha:CcL [] 0 0 0 aV args) (hd:dq X.nt st.sl (some d)=true)
  (hk:go X 4000 k ⟨(d,⟨[],r⟩) :: st.sl,st.bx,st.tk⟩) (aX:X.still=false:=by exact rfl):ct X f args (some d) k st:=
 bP iP hd hc ha (fun _ hr=>hr ▸ hk) aX
def clB (n m:Nat):DV->Bool
 | .v _=>true
 | .ud=>true
 | .sl _ _ none=>true
 | .sl _ _ (some k)=>Nat.blt k m
 | .pt _ _=>true
 | .loc i _=>Nat.blt i n
 | .el i _=>Nat.blt i n
 | .ms i _ _ _ _=>Nat.blt i n
 | .agg l=>clL l
 | .tup l=>clL l
 | .fn _ l r=>clL l && clL r
 | .nq _ x=>clB n m x
where clL:List DV->Bool
 | []=>true
 | d :: r=>clB n m d && clL r
def En.cut (E:En) (n m:Nat):En:=⟨E.c,E.β.take n,E.tk.take m,E.τ.take m⟩
mutual
theorem Rv.cut {n m:Nat} {E:En}:∀ {d:DV} {v:Value},Rv E d v->clB n m d=true->Rv (E.cut n m) d v
 | .v x,v,h,_=>by unfold Rv at h ⊢;exact h
 | .ud,v,h,_=>by unfold Rv at h ⊢;exact h
 | .sl e es none,v,h,_=>by
  unfold Rv at h ⊢;obtain ⟨b,n,cap,h1,h2,h3,_⟩:=h;exact ⟨b,n,cap,h1,h2,h3,fun k hk=>by cases hk⟩
 | .sl e es (some k),v,h,hc=>by
  unfold Rv at h ⊢;obtain ⟨b,n',cap,h1,h2,h3,h4⟩:=h;refine ⟨b,n',cap,h1,h2,h3,fun k' gg=>?_⟩;cases gg;have hk:k < m:=by simpa [clB] using hc
  obtain ⟨q,h5,h6,h7⟩:=h4 k rfl;exact ⟨q,by show (E.tk.take m)[k]? = _;rw [List.getElem?_take,if_pos hk];exact h5,h6,fun hh=>by show (E.τ.take m)[k]? = _;rw [List.getElem?_take,if_pos hk];exact h7 hh⟩
 | .pt cs o,v,h,_=>by unfold Rv at h ⊢;exact h
 | .loc i o,v,h,hc=>by
  unfold Rv at h ⊢;obtain ⟨b,hb,h1⟩:=h;have hi:i < n:=by simpa [clB] using hc
  exact ⟨b,by show (E.β.take n)[i]? = _;rw [List.getElem?_take,if_pos hi];exact hb,h1⟩
 | .el i o,v,h,hc=>by
  unfold Rv at h ⊢;obtain ⟨b,hb,h1⟩:=h;have hi:i < n:=by simpa [clB] using hc
  exact ⟨b,by show (E.β.take n)[i]? = _;rw [List.getElem?_take,if_pos hi];exact hb,h1⟩
 | .ms i e o l c,v,h,hc=>by
  unfold Rv at h ⊢;obtain ⟨b,ad,hb,h1⟩:=h;have hi:i < n:=by simpa [clB] using hc
  exact ⟨b,ad,by show (E.β.take n)[i]? = _;rw [List.getElem?_take,if_pos hi];exact hb,h1⟩
 | .agg l,v,h,hc=>by
  unfold Rv at h ⊢;obtain ⟨vs,h1,h2,h3⟩:=h;simp only [clB] at hc;exact ⟨vs,h1,RvL.cut h2 hc,h3⟩
 | .tup l,v,h,hc=>by
  unfold Rv at h ⊢;obtain ⟨vs,h1,h2⟩:=h;simp only [clB] at hc;exact ⟨vs,h1,RvL.cut h2 hc⟩
 | .fn f l r,v,h,hc=>by
  unfold Rv at h ⊢;obtain ⟨l',r',h1,h2,h3⟩:=h;simp only [clB,Bool.and_eq_true] at hc;exact ⟨l',r',h1,RvL.cut h2 hc.1,RvL.cut h3 hc.2⟩
 | .nq t x,v,h,hc=>by
  unfold Rv at h ⊢;obtain ⟨z,h1,h2⟩:=h;simp only [clB] at hc;exact ⟨z,h1,Rv.cut h2 hc⟩
theorem RvL.cut {n m:Nat} {E:En}:∀ {l:List DV} {vs:List Value},RvL E l vs->clB.clL n m l=true->RvL (E.cut n m) l vs
 | [],vs,h,_=>by simp only [RvL] at h ⊢;exact h
 | d :: r,vs,h,hc=>by
  simp only [RvL] at h ⊢;obtain ⟨v,s,h1,h2,h3⟩:=h;simp only [clB.clL,Bool.and_eq_true] at hc;exact ⟨v,s,h1,Rv.cut h2 hc.1,RvL.cut h3 hc.2⟩
end
end
end Dv
end Go.Proofs.YtfifjddnnmfeoaaGreat
namespace Go.Proofs.YtfifjddnnmfeoaaGreat
namespace Dv
open Go Go.RowKit
def We (n m:Nat) (bi:List TkE) (x x':DV):Prop:=
 (x=x' /\ clB n m x=true)∨(x = .v (.slice none 0 0)/\∃ e k q,x' = .sl e [] (some k)/\m<=k/\bi[k]? = some q)∨(x = .v (.slice none 0 0)/\∃ e,x' = .sl e [] none)∨(∃ e es tk,x = .sl e es tk/\x' = .sl e es none)∨(∃ e es uw tk,x = .sl e es tk/\x' = .sl e uw none/\CcE [] 0 uw es)∨(∃ e es uw k,x = .sl e es (some k)/\x' = .sl e uw (some k)/\k < m/\CcE [] 0 uw es)
def WeL (n m:Nat) (bi:List TkE):List DV->List DV->Prop
 | [],l=>l=[]
 | x :: r,l=>∃ x' r',l=x' :: r' /\ We n m bi x x' /\ WeL n m bi r r'
def WeLL (n m:Nat) (bi:List TkE):List (List DV)->List (List DV)->Prop
 | [],l=>l=[]
 | x :: r,l=>∃ x' r',l=x' :: r' /\ WeL n m bi x x' /\ WeLL n m bi r r'
def lB (n m:Nat) (bi:List TkE) (sl:List (Nat × Sl)):List (Nat × Sl)->Prop
 | []=>True
 | p :: r=>(∃ x,get sl p.1=some ⟨p.2.gs,x⟩/\We n m bi x p.2.s)/\lB n m bi sl r
structure u3 (n0 m0:Nat) (st st':St):Prop where
 all:∃ kept dropped new b0 r,m0<=kept.length/\n0<=b0.length/\st.tk=kept ++ dropped/\st'.tk=kept ++ new/\(∀ q∈new,TkE.new q=true)/\st.bx=b0 ++ r/\WeLL b0.length kept.length st'.tk b0 st'.bx/\lB b0.length kept.length st'.tk st.sl st'.sl
theorem WeLL.length {n m:Nat} {bi:List TkE}:∀ {l l':List (List DV)},WeLL n m bi l l' -> l'.length=l.length
 | [],l',h=>by simp only [WeLL] at h;subst h;rfl
 | x :: r,l',h=>by
  simp only [WeLL] at h;obtain ⟨x',r',rfl,_,h2⟩:=h;simp [WeLL.length h2]
theorem WeLL.get {n m:Nat} {bi:List TkE}:∀ {l l':List (List DV)},WeLL n m bi l l' -> ∀ (i:Nat) cs',l'[i]? = some cs' -> ∃ cs,l[i]? = some cs/\WeL n m bi cs cs'
 | [],l',h,i,cs',hi=>by simp only [WeLL] at h;subst h;simp at hi
 | x :: r,l',h,i,cs',hi=>by
  simp only [WeLL] at h;obtain ⟨x',r',rfl,h1,h2⟩:=h
  cases i with
  | zero=>simp only [List.getElem?_cons_zero,oI] at hi;subst hi;exact ⟨x,rfl,h1⟩
  | succ i=>simp only [List.getElem?_cons_succ] at hi ⊢;exact WeLL.get h2 i cs' hi
theorem oV {n m:Nat} {bi:List TkE} {sl:List (Nat × Sl)}:∀ {l:List (Nat × Sl)},lB n m bi sl l->∀ i x',get l i=some x' -> ∃ x,get sl i=some ⟨x'.gs,x⟩/\We n m bi x x'.s
 | [],_,i,x',hx=>by cases hx
 | (k,y) :: r,h,i,x',hx=>by
  simp only [bV] at hx;split at hx
  ·rename_i lu;subst lu;simp only [oI] at hx;subst hx;exact h.1
  ·exact oV h.2 i x' hx
section
variable {X:Ctx} {E:En} {st st':St} {a:Act} {w:World} {k:List It}
def En.wk (E:En) (n:Nat) (kept new:List TkE):En:=⟨E.c,E.β.take n,kept ++ new,E.τ.take kept.length ++ List.replicate new.length (.slice none 0 0)⟩
theorem u4 {n:Nat} {kept dropped new:List TkE} (ht:E.tk=kept ++ dropped) (hl:E.τ.length=E.tk.length) (cC:∀ q∈new,TkE.new q=true) {x x':DV} {v:Value} (hx:We n kept.length (kept ++ new) x x') (hv:Rv E x v):Rv (E.wk n kept new) x' v:=by
 have mn:kept.length<=E.τ.length:=by rw [hl,ht];simp
 have first:∀ {x:DV},clB n kept.length x=true->Rv E x v->Rv (E.wk n kept new) x v:=by
  intro x hc hv;refine Rv.mono (E:=E.cut n kept.length) ⟨fun _ _ h=>h,fun _ _ h=>h,fun k q hq=>?_⟩ (Rv.cut hv hc);have jR:(E.tk.take kept.length)[k]? = some q:=hq;rw [List.getElem?_take] at jR;split at jR
  ·rename_i hk;refine ⟨q,?_,.inl ⟨rfl,?_⟩⟩
   ·show (kept ++ new)[k]? = _;rw [ht,List.getElem?_append_left hk] at jR;rw [List.getElem?_append_left hk];exact jR
   ·show (E.τ.take kept.length ++ _)[k]? = (E.τ.take kept.length)[k]?;rw [List.getElem?_append_left (by rw [List.length_take];omega)]
  ·cases jR
 rcases hx with ⟨rfl,hc⟩ | ⟨rfl,e,k,q,rfl,hk,hq⟩ | ⟨rfl,e,rfl⟩ | ⟨e,es,tk,rfl,rfl⟩ | ⟨e,es,uw,tk,rfl,rfl,he⟩ | ⟨e,es,uw,k,rfl,rfl,hk,he⟩
 ·exact first hc hv
 ·have:=aN hv;subst this;unfold Rv;refine ⟨none,0,0,rfl,⟨rfl,Nat.le_refl _⟩,fun hn=>(hn rfl).elim,fun k' gg=>?_⟩;cases gg;have MV:(kept ++ new)[k]? = some q:=hq;rw [List.getElem?_append_right hk] at MV;have xM:=TkE.CV (cC q (mG MV));refine ⟨q,hq,by omega,fun _=>?_⟩;have aq:=(gS MV).1;show (E.τ.take kept.length ++ List.replicate new.length _)[k]? = _;rw [List.getElem?_append_right (by rw [List.length_take];omega)];rw [List.length_take,Nat.min_eq_left mn,List.getElem?_replicate,if_pos aq]
 ·have:=aN hv;subst this;unfold Rv;exact ⟨none,0,0,rfl,⟨rfl,Nat.le_refl _⟩,fun hn=>(hn rfl).elim,fun k hk=>by cases hk⟩
 ·unfold Rv at hv ⊢;obtain ⟨b,n,cap,h1,h2,h3,_⟩:=hv;exact ⟨b,n,cap,h1,h2,h3,fun k hk=>by cases hk⟩
 ·have hv:=IG he hv;unfold Rv at hv ⊢;obtain ⟨b,n,cap,h1,h2,h3,_⟩:=hv;exact ⟨b,n,cap,h1,h2,h3,fun k hk=>by cases hk⟩
 ·exact first (by simp only [clB];exact Nat.ble_eq_true_of_le hk) (IG he hv)
theorem mF {n:Nat} {kept dropped new:List TkE} (ht:E.tk=kept ++ dropped) (hl:E.τ.length=E.tk.length) (cC:∀ q∈new,TkE.new q=true):∀ {l l':List DV} {vs:List Value},WeL n kept.length (kept ++ new) l l' -> RvL E l vs->RvL (E.wk n kept new) l' vs
 | [],l',vs,h,hv=>by
  simp only [WeL] at h;subst h;simp only [RvL] at hv ⊢;exact hv
 | x :: r,l',vs,h,hv=>by
  simp only [WeL] at h;obtain ⟨x',r',rfl,h1,h2⟩:=h;simp only [RvL] at hv ⊢;obtain ⟨v,s,h3,h4,h5⟩:=hv;exact ⟨v,s,h3,u4 ht hl cC h1 h4,mF ht hl cC h2 h5⟩
theorem rB (h:Rel X E st a w) {kept dropped new:List TkE} {b0 r:List (List DV)} (jf:X.m0<=kept.length/\X.n0<=b0.length/\st.tk=kept ++ dropped/\st'.tk=kept ++ new/\(∀ q∈new,TkE.new q=true)/\st.bx=b0 ++ r/\WeLL b0.length kept.length st'.tk b0 st'.bx/\lB b0.length kept.length st'.tk st.sl st'.sl):Rel X (E.wk b0.length kept new) st' a w:=by
 obtain ⟨kz,gI,ht,oo,cC,hb,jT,oN⟩:=jf;rw [oo] at jT oN;have MW:E.tk=kept ++ dropped:=by rw [h.tk,ht]
 have hbl:=jT.length;have mn:kept.length<=E.τ.length:=by rw [h.env.tl,MW];simp
 have eG:b0.length<=E.β.length:=by rw [h.env.len,hb];simp
 have hτ:∀ (k:Nat) y,(E.τ.take kept.length ++ List.replicate new.length (Value.slice none 0 0))[k]? = some y->(k < kept.length/\E.τ[k]? = some y)∨(kept.length<=k/\y = .slice none 0 0):=fun k y hy=>by
  rw [List.getElem?_append] at hy;split at hy
  ·rename_i hk;rw [List.length_take] at hk;rw [List.getElem?_take,if_pos (by omega)] at hy;exact .inl ⟨by omega,hy⟩
  ·rename_i hk;rw [List.length_take] at hk;rw [List.getElem?_replicate] at hy;split at hy
   ·simp only [oI] at hy;exact .inr ⟨by omega,hy.symm⟩
   ·cases hy
 exact {
  env:={
   len:=by simp only [En.wk,List.length_take];omega
   tl:=by simp only [En.wk,List.length_append,List.length_take,List.length_replicate];omega
   cL:=fun i cs' hi=>by
    obtain ⟨cs,bE,Q8⟩:=jT.get i cs' hi;have aq:=(gS bE).1;obtain ⟨b,ty,arr,Q9,P9,hc⟩:=h.env.cL i cs (by rw [hb,List.getElem?_append_left aq];exact bE);exact ⟨b,ty,arr,by simp only [En.wk];rw [List.getElem?_take,if_pos aq];exact Q9,P9,mF MW h.env.tl cC Q8 hc.1,hc.2⟩
   inj:=h.env.inj.sublist (List.take_sublist _ _)
   sub:=h.env.sub
   pc:=fun x v hx hm=>h.env.pc x v hx (List.mem_of_mem_take hm)
   bQ:=fun k q y hq hy=>by
    rcases hτ k y hy with ⟨hk,eQ⟩ | ⟨hk,rfl⟩
    ·have jR:(kept ++ new)[k]? = some q:=hq;rw [List.getElem?_append_left hk] at jR;rcases h.env.bQ k q y (by rw [MW,List.getElem?_append_left hk];exact jR) eQ with h1 | ⟨g,cap,cur,rfl,h1,h2,h3,h4,h5,h6⟩
     ·exact .inl h1
     ·exact .inr ⟨g,cap,cur,rfl,h1,h2,h3,h4,fun hm=>h5 (List.mem_of_mem_take hm),h6⟩
    ·have jR:(kept ++ new)[k]? = some q:=hq;rw [List.getElem?_append_right hk] at jR;exact .inl ⟨rfl,TkE.CV (cC q (mG jR)),TkE.IA (cC q (mG jR))⟩
   gf:=fun k k' y y' g zE hy eQ hg uz=>by
    rcases hτ k y hy with ⟨_,CF⟩ | ⟨_,rfl⟩
    ·rcases hτ k' y' eQ with ⟨_,j9⟩ | ⟨_,rfl⟩
     ·exact h.env.gf k k' y y' g zE CF j9 hg uz
     ·simp [Value.ownBlock] at uz
    ·simp [Value.ownBlock] at hg }
  tk:=by simp only [En.wk];exact oo.symm
  sz:=h.sz
  tm:=fun i x' uy=>by
   obtain ⟨x,hx,Q8⟩:=oV oN i x' uy;have:=h.tm i _ hx;refine ⟨fun hh=>?_,this.2⟩;obtain ⟨v,h1,h2⟩:=this.1 hh;exact ⟨v,h1,u4 MW h.env.tl cC Q8 h2⟩
  df:=h.df
  nw:={
   c:=h.nw.c
   cn:=h.nw.cn
   β:=by
    obtain ⟨r2,hr,hl⟩:=h.nw.β;refine ⟨r2.take (b0.length - X.n0),?_,fun b hb=>hl b (List.mem_of_mem_take hb)⟩;simp only [En.wk];rw [hr,List.take_append,List.take_of_length_le (by rw [X.gI];omega),X.gI]
   tk:=fun j q0 y0 xM A0=>by
    obtain ⟨q',y',h1,h2,h3⟩:=h.nw.tk j q0 y0 xM A0;have hj:j < X.m0:=by rw [<- X.kz];exact (gS xM).1
    have Km:j < kept.length:=by omega
    exact ⟨q',y',by simp only [En.wk];rw [List.getElem?_append_left Km];rw [MW,List.getElem?_append_left Km] at h1;exact h1,by simp only [En.wk];rw [List.getElem?_append_left (by rw [List.length_take];omega),List.getElem?_take,if_pos Km];exact h2,h3⟩
   tn:=fun j y g hj hy hg=>by
    rcases hτ j y hy with ⟨_,CF⟩ | ⟨_,rfl⟩
    ·exact h.nw.tn j y g hj CF hg
    ·simp [Value.ownBlock] at hg
   l0:=h.nw.l0 }
  fr:=h.fr
  sh:=h.sh
  bt:=h.bt.sub _ }
theorem oW (h:Rel X E st a w) (hw:u3 X.n0 X.m0 st st'):∃ E',Rel X E' st' a w:=by
 obtain ⟨_,_,_,_,_,jf⟩:=hw.all;exact ⟨_,rB h jf⟩
theorem least {p:Nat->Prop} (h:∃ n,p n):∃ n,p n/\∀ m,p m->n<=m:=by
 obtain ⟨n,hn⟩:=h
 induction n using Nat.strongRecOn with
 | _ n ih=>
  by_cases hm:∃ m,m < n/\p m
  ·obtain ⟨m,aq,hp⟩:=hm;exact ih m aq hp
  ·refine ⟨n,hn,fun m hp=>?_⟩;rcases Nat.lt_or_ge m n with h1 | h1
   ·exact (hm ⟨m,h1,hp⟩).elim
   ·exact h1
theorem aw {c:Code} (I:Nat->St->Prop) (j0:Nat) (jc:St) (hw:u3 X.n0 X.m0 st jc) (h0:I j0 jc)
  (hr:∀ j s,I j s->go X 4000 (.code c :: .CB (fun s'=>∃ Dh,u3 X.n0 X.m0 s' Dh /\ ∃ j',j' < j/\I j' Dh) :: k) s):rk X c k st:=by
 intro E a w h;obtain ⟨E0,hr0⟩:=oW h hw
 classical
 let Inv:Act->World->Prop:=fun a w=>∃ j s E,Rel X E s a w/\I j s
 let μ:Act->World->Nat:=fun a w=>if hI:Inv a w then Classical.choose (least hI) else 0
 refine wp_loop Inv μ ⟨j0,jc,E0,hr0,h0⟩ ?_;intro a1 w1 hI;have rC:=(Classical.choose_spec (least hI)).1;obtain ⟨s,E1,bA,Ra⟩:=rC;have hs:=go_sound 4000 _ _ (hr _ s Ra) E1 a1 w1 bA;rw [cV] at hs;refine wp_mono hs ?_;intro e a2 w2 hq
 cases e with
 | normal=>
  obtain ⟨s',E2,u5,Dh,Kn,j',eS,MX⟩:=hq;obtain ⟨E3,u6⟩:=oW u5 Kn;have Ko:Inv a2 w2:=⟨j',Dh,E3,u6,MX⟩;refine ⟨Ko,?_⟩;simp only [μ,dif_pos hI,dif_pos Ko];exact Nat.lt_of_le_of_lt ((Classical.choose_spec (least Ko)).2 j' ⟨Dh,E3,u6,MX⟩) eS
 | exit id=>exact hq
 | goto l=>exact hq
 | ret=>exact hq
 | panic c=>exact hq
 | outgrown=>exact hq
theorem ai {n m:Nat} {bi:List TkE} {x:DV} (h:clB n m x=true):We n m bi x x:=.inl ⟨rfl,h⟩
theorem aj {n m:Nat} {bi:List TkE} {kd:IntKind} {x y:Int} (h:x=y):We n m bi (.v (.int kd x)) (.v (.int kd y)):=.inl ⟨by rw [h],rfl⟩
theorem bp {n m:Nat} {bi:List TkE} {e k:Nat} {q:TkE} (h1:m<=k) (h2:bi[k]? = some q):We n m bi (.v (.slice none 0 0)) (.sl e [] (some k)):=.inr (.inl ⟨rfl,e,k,q,rfl,h1,h2⟩)
theorem iQ {n m:Nat} {bi:List TkE} {e k:Nat} {es uw:List (List DV)} (h:es=uw) (hk:Nat.blt k m=true):We n m bi (.sl e es (some k)) (.sl e uw (some k)):=.inl ⟨by rw [h],hk⟩
theorem ax {p:Prop} (h:p:=by repeat' (first | exact rfl | exact trivial | exact Or.inr (Or.inl ⟨_,rfl⟩) | exact Or.inr ⟨_,rfl⟩ | exact Or.inl ⟨rfl,rfl⟩ | exact Or.inl rfl | refine Or.inr ⟨_,_,rfl,Nat.zero_le _,rfl,?_⟩ | refine ⟨_,_,rfl,?_,?_⟩ | refine ⟨_,rfl,?_⟩ | refine Or.inr (Or.inr (Or.inr ⟨_,_,rfl,?_⟩)) | exact Or.inl rfl | refine Or.inr ?_)):p:=h
theorem wA {p:Prop} (h:p:=by repeat' (first | exact rfl | exact ai rfl | refine ⟨_,_,rfl,?_,?_⟩)):p:=h
theorem wB {p:Prop} (h:p:=by repeat' (first | exact trivial | exact ai rfl | refine ⟨⟨_,rfl,?_⟩,?_⟩)):p:=h
theorem weak_mk {n0 m0:Nat} {st st':St} (h1:∃ r,st.bx=st'.bx ++ r) (h2:WeLL st'.bx.length st'.tk.length st'.tk st'.bx st'.bx) (h3:st.tk=st'.tk) (h4:Nat.ble n0 st'.bx.length=true) (h5:Nat.ble m0 st'.tk.length=true)
  (h:lB st'.bx.length st'.tk.length st'.tk st.sl st'.sl):u3 n0 m0 st st':=by
 obtain ⟨r,hr⟩:=h1;exact ⟨st'.tk,[],[],st'.bx,r,by simpa using h5,by simpa using h4,by simp [h3],by simp,by simp,hr,h2,h⟩
theorem aH {n0 m0:Nat} {st st':St} (n:Nat) (hn:Nat.ble n st.bx.length=true) (h2:WeLL n st'.tk.length st'.tk (st.bx.take n) st'.bx) (h3:st.tk=st'.tk) (h4:Nat.ble n0 n=true) (h5:Nat.ble m0 st'.tk.length=true)
  (h:lB n st'.tk.length st'.tk st.sl st'.sl):u3 n0 m0 st st':=by
 have hl:(st.bx.take n).length=n:=by
  have:=nL hn;rw [List.length_take];omega
 exact ⟨st'.tk,[],[],st.bx.take n,st.bx.drop n,by simpa using h5,by rw [hl];simpa using h4,by simp [h3],by simp,by simp,(List.take_append_drop n st.bx).symm,by rw [hl];exact h2,by rw [hl];exact h⟩
theorem jj {n0 m0:Nat} {st st':St} (q:TkE) (hq:q.new=true) (h1:∃ r,st.bx=st'.bx ++ r) (h3:st.tk ++ [q]=st'.tk) (h2:WeLL st'.bx.length st.tk.length st'.tk st'.bx st'.bx) (h4:Nat.ble n0 st'.bx.length=true) (h5:Nat.ble m0 st.tk.length=true)
  (h:lB st'.bx.length st.tk.length st'.tk st.sl st'.sl):u3 n0 m0 st st':=by
 obtain ⟨r,hr⟩:=h1;exact ⟨st.tk,[],[q],st'.bx,r,by simpa using h5,by simpa using h4,by simp,h3.symm,by simpa using hq,hr,h2,h⟩
end
end Dv
end Go.Proofs.YtfifjddnnmfeoaaGreat
namespace Go.Proofs.YtfifjddnnmfeoaaGreat
namespace Dv
theorem aL {p : Prop} (h : p := by repeat' (first | exact rfl | exact trivial | exact Or.inr (Or.inl ⟨_,rfl⟩) | exact Or.inr ⟨_,rfl⟩ | exact Or.inl ⟨rfl,rfl⟩ | exact Or.inl rfl | refine Or.inr ⟨_,_,rfl,Nat.zero_le _,rfl,?_⟩ | refine ⟨_,_,rfl,?_,?_⟩ | refine ⟨_,rfl,?_⟩ | exact ⟨nL rfl,rfl⟩ | refine Or.inr (Or.inr (Or.inr ⟨_,_,rfl,?_⟩)) | exact Or.inl rfl | refine Or.inr ?_)) : p := h
theorem aI {p : Prop} {a b : Int} (q : a=b) (h : a=b -> p := by intro q;repeat' (first | exact rfl | exact trivial | exact Or.inr (Or.inl ⟨_,rfl⟩) | exact Or.inr ⟨_,rfl⟩ | exact Or.inl ⟨rfl,rfl⟩ | exact Or.inl rfl | refine Or.inr ⟨_,_,rfl,Nat.zero_le _,rfl,?_⟩ | refine ⟨_,_,rfl,?_,?_⟩ | refine ⟨_,rfl,?_⟩ | exact congrArg (fun z=>DV.v (.int .i64 z)) q | refine Or.inr (Or.inr (Or.inr ⟨_,_,rfl,?_⟩)) | exact Or.inl rfl | refine Or.inr ?_)) : p := h q
theorem aB {p : Prop} {a b : Bool} (q : a=b) (h : a=b -> p := by intro q;repeat' (first | exact rfl | exact trivial | exact Or.inr (Or.inl ⟨_,rfl⟩) | exact Or.inr ⟨_,rfl⟩ | exact Or.inl ⟨rfl,rfl⟩ | exact Or.inl rfl | refine Or.inr ⟨_,_,rfl,Nat.zero_le _,rfl,?_⟩ | refine ⟨_,_,rfl,?_,?_⟩ | refine ⟨_,rfl,?_⟩ | exact congrArg (fun b=>DV.v (.bool b)) q | refine Or.inr (Or.inr (Or.inr ⟨_,_,rfl,?_⟩)) | exact Or.inl rfl | refine Or.inr ?_)) : p := h q
theorem G6 {p : Prop} {a b : Nat} (q : a < b) (hn : b <= 4611686018427387904 := by omega) (h : a < b -> b <= 4611686018427387904 -> p := by intro q hn;repeat' (first | exact rfl | exact ai rfl | exact aj (ej q hn) | refine ⟨_,_,rfl,?_,?_⟩)) : p := h q hn
theorem wNB {p : Prop} {a b : Nat} (q : a < b) (hn : b <= 4611686018427387904 := by omega) (h : a < b -> b <= 4611686018427387904 -> p := by intro q hn;repeat' (first | exact trivial | exact ai rfl | exact aj (ej q hn) | refine ⟨⟨_,rfl,?_⟩,?_⟩)) : p := h q hn
theorem Gu {p r : Prop} {a b : Nat} (q : a < b) (s : r) (hn : b <= 4611686018427387904 := by omega) (h : a < b -> b <= 4611686018427387904 -> r -> p := by intro q hn s;repeat' (first | exact rfl | exact ai rfl | exact aj (ej q hn) | exact iQ s rfl | refine ⟨_,_,rfl,?_,?_⟩)) : p := h q hn s
theorem A8 {p r : Prop} {a b : Nat} (q : a < b) (s : r) (hn : b <= 4611686018427387904 := by omega) (h : a < b -> b <= 4611686018427387904 -> r -> p := by intro q hn s;repeat' (first | exact trivial | exact ai rfl | exact aj (ej q hn) | exact iQ s rfl | refine ⟨⟨_,rfl,?_⟩,?_⟩)) : p := h q hn s
theorem Gv {p : Prop} (h : p := by repeat' (first | exact trivial | exact ai rfl | exact bp (Nat.le_refl _) rfl | refine ⟨⟨_,rfl,?_⟩,?_⟩)) : p := h
theorem wTA {p : Prop} (h : p := by repeat' (first | exact rfl | exact ai rfl | exact bp (Nat.le_refl _) rfl | refine ⟨_,_,rfl,?_,?_⟩)) : p := h
theorem Di {p : Prop} (h : p := by repeat' (first | exact trivial | exact ai rfl | exact aj rfl | refine ⟨⟨_,rfl,?_⟩,?_⟩)) : p := h
theorem wRA {p : Prop} (h : p := by repeat' (first | exact rfl | exact ai rfl | exact aj rfl | refine ⟨_,_,rfl,?_,?_⟩)) : p := h
end Dv
end Go.Proofs.YtfifjddnnmfeoaaGreat
namespace Go.Proofs.YtfifjddnnmfeoaaGreat
namespace Dv
open Go
section
variable {P:Program} {ops:Array Oper} {C:World->Prop} {Q:Act->World->Prop} {W:Nat->Bool} {π:Nat->Nat}
theorem MY {o:Oper} {a:Act} {w:World} {K:Act->World->Prop} (h:wq P o a w K):∃ v w',K (a.put o.dst v) w':=by
 unfold wq at h;split at h
 ·exact ⟨_,_,h⟩
 ·exact ⟨_,_,h⟩
 ·obtain ⟨e,w',fr,⟨v,_,hv⟩,_⟩:=h [];exact ⟨v,w',hv⟩
 ·exact h.elim
theorem Kp {x y:Oper} {v:Value} (Mb:x.apart ops y=true) (hs:∀ cs b,y.op ≠ .select cs b) {a:Act} {w:World} {K:Act->World->Prop} :
  wq P y (a.put x.dst v) w K↔wq P y a w (fun a' w'=>K (a'.put x.dst v) w'):=by
 obtain ⟨h1,h2,h3⟩:=Oper.apart_spec Mb;unfold wq;rw [execOp_put y hs a x.dst v h1];have hc:∀ u,(a.put x.dst v).put y.dst u=(a.put y.dst u).put x.dst v:=fun u=>Act.put_comm a v u h2
 cases (execOp a.eval y).run P w with
 | halt h w'=>rfl
 | ok n w'=>cases n<;>simp [hc]
def Yl (P:Program) (ops:Array Oper) (C:World->Prop) (o:Oper) (v:Value) (a:Act):Prop:=
 (Region.wanted o (yielded ops a.tmps)=true/\∀ w,(mB o.op=true->C w)->(execOp a.eval o).run P w = .ok (.value v) w) ∨
 (Region.wanted o (yielded ops a.tmps)=false/\v=undef)
theorem Yl.same {x y:Oper} {v u:Value} (Mb:x.apart ops y=true) (hs:∀ cs b,y.op ≠ .select cs b) {a:Act}:Yl P ops C y v (a.put x.dst u)↔Yl P ops C y v a:=by
 obtain ⟨h1,h2,h3⟩:=Oper.apart_spec Mb;unfold Yl;rw [execOp_put y hs a x.dst u h1,wanted_put y a x.dst u h1]
def cO (P:Program) (ops:Array Oper) (o:Oper) (a:Act) (w:World) (K:Act->World->Prop):Prop:=
 if Region.wanted o (yielded ops a.tmps)=true then wq P o a w K else K (a.put o.dst undef) w
theorem fF {o:Oper} {a:Act} {w:World} {K K':Act->World->Prop} (hk:∀ a w,K a w->K' a w) (h:cO P ops o a w K):cO P ops o a w K':=by
 unfold cO at *;split<;>rename_i hw
 ·rw [if_pos hw] at h;exact jS hk h
 ·rw [if_neg hw] at h;exact hk _ _ h
theorem rD {x y:Oper} {v:Value} (Mb:x.apart ops y=true) (hs:∀ cs b,y.op ≠ .select cs b) {a:Act} {w:World} {K:Act->World->Prop} :
  cO P ops y (a.put x.dst v) w K↔cO P ops y a w (fun a' w'=>K (a'.put x.dst v) w'):=by
 obtain ⟨h1,h2,h3⟩:=Oper.apart_spec Mb;unfold cO;rw [wanted_put y a x.dst v h1];split
 ·exact Kp Mb hs
 ·rw [Act.put_comm a v undef h2]
theorem Dj {o:Oper} {a:Act} {w:World} {K:Act->World->Prop} (h:cO P ops o a w K):∃ v w',K (a.put o.dst v) w':=by
 unfold cO at h;split at h
 ·exact MY h
 ·exact ⟨_,_,h⟩
theorem oX {o:Oper} {a:Act} {w:World} {K:Act->World->Prop} (h:cO P ops o a w K):cO P ops o a w (fun a' w'=>K a' w' /\ ∃ u,a'=a.put o.dst u):=by
 unfold cO at *;split<;>rename_i hw
 ·rw [if_pos hw] at h;unfold wq at *;split at h
  ·rename_i hr;exact ⟨h,_,rfl⟩
  ·rename_i hr;exact ⟨h,_,rfl⟩
  ·rename_i hr;refine h.mono ?_;rintro e w' ⟨v,rfl,hv⟩;exact ⟨v,rfl,hv,v,rfl⟩
  ·exact h.elim
 ·rw [if_neg hw] at h;exact ⟨h,_,rfl⟩
theorem jk {o:Oper} {a:Act} {w:World} {v:Value} {K:Act->World->Prop} (hy:Yl P ops C o v a) (hc:mB o.op=true->C w) (hk:K (a.put o.dst v) w):cO P ops o a w K:=by
 unfold cO;rcases hy with ⟨hw,hv⟩ | ⟨hw,rfl⟩
 ·rw [if_pos hw];unfold wq;rw [hv w hc];exact hk
 ·rw [if_neg (by simp [hw])];exact hk
theorem jl {o:Oper} {a:Act} {w:World} {v:Value} {K:Act->World->Prop} (hy:Yl P ops C o v a) (hc:mB o.op=true->C w) (h:cO P ops o a w K):K (a.put o.dst v) w:=by
 unfold cO at h;rcases hy with ⟨hw,hv⟩ | ⟨hw,rfl⟩
 ·rw [if_pos hw] at h;unfold wq at h;rw [hv w hc] at h;exact h
 ·rw [if_neg (by simp [hw])] at h;exact h
def runT (P:Program) (ops:Array Oper) (W:Nat->Bool) (C:World->Prop) (Q:Act->World->Prop):List Nat->Act->World->Prop
 | [],a,w=>Q a w
 | i :: r,a,w=>
  match ops[i]? with
  | none=>False
  | some o=>
   if mA o.op=true then cO P ops o a w fun a' w'=>(W i=false->C w->C w')/\runT P ops W C Q r a' w'
   else ∃ v,Yl P ops C o v a/\(mB o.op=true->C w)/\runT P ops W C Q r (a.put o.dst v) w
def lC (ops:Array Oper) (W:Nat->Bool) (j i:Nat):Bool:=
 match ops[j]?,ops[i]? with
 | some x,some y=>x.apart ops y && y.apart ops x && !(mA x.op && mA y.op) && !(mB x.op && W i)
 | _,_=>false
def Dk (ops:Array Oper) (l:List Nat):Prop:=∃ i o,i∈l/\ops[i]? = some o/\mB o.op=true
theorem fG {j i:Nat} {x y:Oper} (h:lC ops W j i=true) (hj:ops[j]? = some x) (hi:ops[i]? = some y) :
  x.apart ops y=true/\y.apart ops x=true/\¬ (mA x.op=true/\mA y.op=true)/\¬ (mB x.op=true/\W i=true):=by
 unfold lC at h;rw [hj,hi] at h;simp only [Bool.and_eq_true,Bool.not_eq_true',Bool.and_eq_false_iff] at h;refine ⟨h.1.1.1,h.1.1.2,?_,?_⟩
 ·rintro ⟨h1,h2⟩;rcases h.1.2 with h3 | h3<;>simp_all
 ·rintro ⟨h1,h2⟩;rcases h.2 with h3 | h3<;>simp_all
theorem kF (jm:∀ (j:Nat) (o:Oper) cs b,ops[j]? = some o->o.op ≠ .select cs b) {i:Nat} {o:Oper} (hi:ops[i]? = some o) (hR:mA o.op=false) :
  ∀ (rem:List Nat) (a:Act) (w:World),runT P ops W C Q rem a w->i∈rem->(∀ j∈rem,j≠i->π j < π i->lC ops W j i=true)->rem.Pairwise (fun a b=>π a < π b)->∃ v,Yl P ops C o v a
 | [],_,_,_,hm,_,_=>by cases hm
 | h :: rem,a,w,hr,hm,G7,hp=>by
  simp only [runT] at hr;by_cases qQ:h=i
  ·subst qQ;rw [hi] at hr;simp only [hR,Bool.false_eq_true,if_false] at hr;obtain ⟨v,hy,_⟩:=hr;exact ⟨v,hy⟩
  ·have nv:i∈rem:=by
    rcases List.mem_cons.1 hm with e | e
    ·exact (qQ e.symm).elim
    ·exact e
   have aq:π h < π i:=(List.pairwise_cons.1 hp).1 i nv;split at hr
   ·exact hr.elim
   ·rename_i x hx;obtain ⟨MZ,Rb,_,_⟩:=fG (G7 h (by simp) qQ aq) hx hi;have ih:=fun a w hr=>kF jm hi hR rem a w hr nv (fun j hj=>G7 j (List.mem_cons_of_mem _ hj)) (List.pairwise_cons.1 hp).2;split at hr
    ·obtain ⟨u,w',_,iR⟩:=Dj hr;obtain ⟨v,hy⟩:=ih _ _ iR;exact ⟨v,(Yl.same MZ (fun cs b=>jm i o cs b hi)).1 hy⟩
    ·obtain ⟨u,_,_,iR⟩:=hr;obtain ⟨v,hy⟩:=ih _ _ iR;exact ⟨v,(Yl.same MZ (fun cs b=>jm i o cs b hi)).1 hy⟩
theorem rE {h:Nat} {rem:List Nat} (hl:Dk ops rem):Dk ops (h :: rem):=by
 obtain ⟨i,o,hm,ho,hL⟩:=hl;exact ⟨i,o,List.mem_cons_of_mem _ hm,ho,hL⟩
theorem fH (jm:∀ (j:Nat) (o:Oper) cs b,ops[j]? = some o->o.op ≠ .select cs b) (Gw:∀ j i x y,π j < π i->ops[i]? = some x->ops[j]? = some y->mB x.op=true->W j=false) {i:Nat} {o:Oper} (hi:ops[i]? = some o) :
  ∀ (rem:List Nat) (a:Act) (w:World),(Dk ops rem->C w)->runT P ops W C Q rem a w->i∈rem->(∀ j∈rem,j≠i->π j < π i->lC ops W j i=true)->rem.Pairwise (fun a b=>π a < π b) ->
   cO P ops o a w (fun a' w'=>(W i=false->C w->C w')/\runT P ops W C Q (rem.erase i) a' w')
 | [],_,_,_,_,hm,_,_=>by cases hm
 | h :: rem,a,w,hC,hr,hm,G7,hp=>by
  by_cases qQ:h=i
  ·subst qQ;rw [List.erase_cons_head];simp only [runT,hi] at hr;split at hr
   ·exact hr
   ·obtain ⟨v,hy,hc,iR⟩:=hr;exact jk hy hc ⟨fun _ h=>h,iR⟩
  ·have nv:i∈rem:=by
    rcases List.mem_cons.1 hm with e | e
    ·exact (qQ e.symm).elim
    ·exact e
   have aq:π h < π i:=(List.pairwise_cons.1 hp).1 i nv;have lD:=(List.pairwise_cons.1 hp).2;rw [List.erase_cons_tail (by simpa using qQ)];have hr0:=hr;simp only [runT] at hr;split at hr
   ·exact hr.elim
   ·rename_i x hx;obtain ⟨MZ,Rb,hEE,hLW⟩:=fG (G7 h (by simp) qQ aq) hx hi;have TP:=fun cs b=>jm h x cs b hx;have Qe:=fun cs b=>jm i o cs b hi;have M0:∀ j∈rem,j≠i->π j < π i->lC ops W j i=true:=fun j hj=>G7 j (List.mem_cons_of_mem _ hj);split at hr
    ·-- the head has an effect: so o has none
     rename_i Qf
     have Rc:mA o.op=false:=by
      cases he:mA o.op
      ·rfl
      ·exact (hEE ⟨Qf,he⟩).elim
     obtain ⟨v,hy⟩:=kF (π:=π) jm hi Rc (h :: rem) a w hr0 hm G7 hp;have hci:mB o.op=true->C w:=fun hL=>hC ⟨i,o,hm,hi,hL⟩;refine jk hy hci ⟨fun _ h=>h,?_⟩;simp only [runT,hx,Qf,if_true];refine (rD Rb TP).2 ?_;refine fF ?_ (oX hr);rintro a' w' ⟨⟨CL,iR⟩,u,rfl⟩;refine ⟨CL,?_⟩
     have Qg:Dk ops rem->C w':=by
      intro hl;have uB:=hl;obtain ⟨l,z,hlm,hz,hL⟩:=hl;exact CL (Gw h l z x ((List.pairwise_cons.1 hp).1 l hlm) hz hx hL) (hC (rE uB))
     have ih:=fH jm Gw hi rem _ w' Qg iR nv M0 lD;have eQ:=(Yl.same (u:=u) MZ Qe).2 hy;exact (jl eQ (fun hL=>Qg ⟨i,o,nv,hi,hL⟩) ih).2
    ·rename_i Qf;obtain ⟨v,hy,hc,iR⟩:=hr;have ih:=fH jm Gw hi rem (a.put x.dst v) w (fun hl=>hC (rE hl)) iR nv M0 lD;refine fF ?_ (oX ((rD MZ Qe).1 ih));rintro a' w' ⟨⟨CL,jb⟩,u,rfl⟩;refine ⟨CL,?_⟩;simp only [runT,hx];rw [if_neg Qf];refine ⟨v,?_,fun hL=>?_,jb⟩
     ·exact (Yl.same (u:=u) Rb TP).2 hy
     ·have hWi:W i=false:=by
       cases hw:W i
       ·rfl
       ·exact (hLW ⟨hL,hw⟩).elim
      exact CL hWi (hc hL)
def ordB (ops:Array Oper):Nat->Nat->Nat->Bool
 | 0,_,_=>false
 | n + 1,j,i=>
  match ops[i]? with
  | some o=>o.after.toList.any fun e=>Region.binds .any e && (Nat.beq e.on j || ordB ops n j e.on)
  | none=>false
def nW (ops:Array Oper) (W:Nat->Bool) (π:Nat->Nat):Bool:=
 Region.noSelect ops &&
 (List.range ops.size).all fun i=>
  match ops[i]? with
   | some o=>o.after.toList.all (fun e=>!Region.binds .any e || (Nat.blt (π e.on) (π i) && Nat.blt e.on ops.size)) && (!mB o.op || (List.range ops.size).all fun j=>!Nat.blt (π j) (π i) || !W j)
   | none=>false
def u7 (ops:Array Oper) (W:Nat->Bool) (π:Nat->Nat) (ex:Nat->Nat->Bool):Bool:=
 (List.range ops.size).all fun i=>(List.range ops.size).all fun j=>!Nat.blt (π j) (π i) || ex j i || ordB ops ops.size j i || lC ops W j i
def M3:Nat->Nat->Bool:=fun _ _=>false
def Dl (ops:Array Oper) (W:Nat->Bool):Bool:=nW ops W (fun i=>i) && u7 ops W (fun i=>i) M3
def Dn (ops:Array Oper) (aP:Array Bool):Prop:=
 ∀ i o,ops[i]? = some o->aP.getD i true=true->∀ e∈o.after,Region.binds .any e=true->aP.getD e.on false=true
theorem jo {aP:Array Bool} (hd:Dn ops aP):∀ (n:Nat) (j i:Nat) (o:Oper),ops[i]? = some o->(∀ e∈o.after,Region.binds .any e=true->aP.getD e.on false=true)->ordB ops n j i=true->aP.getD j false=true
 | 0,j,i,o,_,_,h=>by simp [ordB] at h
 | n + 1,j,i,o,ho,jf,h=>by
  simp only [ordB,ho,List.any_eq_true,Bool.and_eq_true,Bool.or_eq_true] at h;obtain ⟨e,he,hb,hj⟩:=h;have M4:e∈o.after:=by simpa using he
  have h1:=jf e M4 hb;rcases hj with hj | hj
  ·have:e.on=j:=by simpa using hj
   rw [<- this];exact h1
  ·cases Re:ops[e.on]? with
   | none=>
    cases n with
    | zero=>simp [ordB] at hj
    | succ n=>simp [ordB,Re] at hj
   | some o'=>
    have hg:aP.getD e.on true=true:=by
     rcases Nat.lt_or_ge e.on aP.size with h' | h'
     ·simp [h'] at h1 ⊢;exact h1
     ·simp [Array.getElem?_eq_none h'] at h1
    exact jo hd n j e.on o' Re (hd e.on o' Re hg) hj
theorem td (hc:nW ops W π=true):∀ j i x y,π j < π i->ops[i]? = some x->ops[j]? = some y->mB x.op=true->W j=false:=by
 simp only [nW,Bool.and_eq_true,List.all_eq_true,List.mem_range] at hc;intro j i x y J9 hx hy hL;have hj:=(Array.getElem?_eq_some_iff.1 hy).1;have:=hc.2 i (Array.getElem?_eq_some_iff.1 hx).1;simp only [hx,Bool.and_eq_true,Bool.or_eq_true,hL,Bool.not_true,Bool.false_eq_true,false_or,List.all_eq_true,List.mem_range,Bool.not_eq_true'] at this;rcases this.2 j hj with h1 | h1
 ·have:¬ Nat.blt (π j) (π i)=true:=by simp [h1]
  simp at this;omega
 ·exact h1
theorem rF (hc:nW ops W π=true):∀ i x,ops[i]? = some x->∀ e∈x.after,Region.binds .any e=true->π e.on < π i/\e.on < ops.size:=by
 simp only [nW,Bool.and_eq_true,List.all_eq_true,List.mem_range] at hc;intro i x hx e he hb;have:=hc.2 i (Array.getElem?_eq_some_iff.1 hx).1;simp only [hx,Bool.and_eq_true,List.all_eq_true,Bool.or_eq_true] at this;have h2:=this.1 e (by simpa using he);rw [hb] at h2;simpa using h2
theorem u9 (hc:nW ops W π=true):∀ (j:Nat) (o:Oper) cs b,ops[j]? = some o->o.op ≠ .select cs b:=by
 simp only [nW,Bool.and_eq_true] at hc;exact Region.noSelect_spec hc.1
theorem te:∀ {l:List Nat},l.Pairwise (fun a b=>π a < π b)->∀ {x y:Nat},x∈l->y∈l->x≠y->π x < π y∨π y < π x
 | [],_,x,y,hx,_,_=>by cases hx
 | h :: r,hp,x,y,hx,hy,aM=>by
  have lD:=List.pairwise_cons.1 hp;rcases List.mem_cons.1 hx with e1 | e1
  ·rcases List.mem_cons.1 hy with e2 | e2
   ·exact (aM (e1.trans e2.symm)).elim
   ·subst e1;exact .inl (lD.1 _ e2)
  ·rcases List.mem_cons.1 hy with e2 | e2
   ·subst e2;exact .inr (lD.1 _ e1)
   ·exact te lD.2 e1 e2 aM
theorem kG {Q':Exit->Act->World->Prop} (ex:Nat->Nat->Bool) (Rf:nW ops W π=true) (TQ:u7 ops W π ex=true) (hQ:∀ a w,Q a w->Q' .normal a w):∀ (lE:Nat) (aP:Array Bool) (rem:List Nat) (a:Act) (w:World),
  aP.size=ops.size->Dn ops aP->(∀ i,i∈rem↔i < ops.size/\aP.getD i true=false)->rem.Pairwise (fun a b=>π a < π b)->rem.length<=lE->(∀ j∈rem,∀ i∈rem,ex j i=false)->(Dk ops rem->C w)->runT P ops W C Q rem a w ->
   wpAny P .any ops Q' lE aP a w:=by
 have jm:=u9 Rf;have Gw:=td Rf;have Dm:=rF Rf;simp only [u7,List.all_eq_true,List.mem_range,Bool.or_eq_true,Bool.not_eq_true'] at TQ;intro lE
 induction lE with
 | zero=>
  intro aP rem a w bI Kq oY hp hlen hex hC hr;have:rem=[]:=List.length_eq_zero_iff.1 (by omega);subst this;refine ⟨?_,hQ _ _ hr⟩;rw [List.eq_nil_iff_forall_not_mem];intro i hi;have:=(mem_ready.1 hi);obtain ⟨h1,o,ho,_⟩:=this;have:=(oY i).2 ⟨(Array.getElem?_eq_some_iff.1 ho).1,h1⟩;cases this
 | succ lE ih=>
  intro aP rem a w bI Kq oY hp hlen hex hC hr
  have Kr:∀ i,i∈Region.ready .any ops aP->i∈rem:=by
   intro i hi;obtain ⟨h1,o,ho,_⟩:=mem_ready.1 hi;exact (oY i).2 ⟨(Array.getElem?_eq_some_iff.1 ho).1,h1⟩
  refine ⟨fun h0=>?_,fun i hi=>?_⟩
  ·cases rem with
   | nil=>exact hQ _ _ hr
   | cons h rem=>
    have hh:=(oY h).1 (by simp);have hx:ops[h]? = some ops[h]:=Array.getElem?_eq_getElem hh.1
    have:h∈Region.ready .any ops aP:=by
     refine mem_ready.2 ⟨hh.2,_,hx,fun e he hb=>?_⟩;obtain ⟨aq,xT⟩:=Dm h _ hx e he hb;cases hg:aP.getD e.on false
     ·have Ks:aP.getD e.on true=false:=by
       have:e.on < aP.size:=by rw [bI];omega
       simp [this] at hg ⊢;exact hg
      have hm:=(oY e.on).2 ⟨by omega,Ks⟩;rcases List.mem_cons.1 hm with e1 | e1
      ·rw [e1] at aq;omega
      ·have:=(List.pairwise_cons.1 hp).1 _ e1;omega
     ·rfl
    rw [h0] at this;cases this
  ·have CM:=Kr i hi;obtain ⟨Dp,o,ho,jf⟩:=mem_ready.1 hi;have dE:=(Array.getElem?_eq_some_iff.1 ho).1
   have G7:∀ j∈rem,j≠i->π j < π i->lC ops W j i=true:=by
    intro j hj _ aq;rcases TQ i dE j ((oY j).1 hj).1 with ((h1 | h1) | h1) | h1
    ·have:¬ Nat.blt (π j) (π i)=true:=by simp [h1]
     simp at this;omega
    ·rw [hex j hj i CM] at h1;cases h1
    ·have h2:=jo Kq _ _ _ _ ho jf h1;have h3:=((oY j).1 hj).2;have:j < aP.size:=by rw [bI];exact ((oY j).1 hj).1
     simp [this] at h2 h3;rw [h2] at h3;cases h3
    ·exact h1
   have aX:=fH jm Gw ho rem a w hC hr CM G7 hp;have hnd:rem.Nodup:=ld hp
   have key:∀ a' w',((W i=false->C w->C w')/\runT P ops W C Q (rem.erase i) a' w')->wpAny P .any ops Q' lE (aP.setIfInBounds i true) a' w':=by
    rintro a' w' ⟨CL,iR⟩;refine ih (aP.setIfInBounds i true) (rem.erase i) a' w' (by simp [bI]) ?_ ?_ (hp.sublist List.erase_sublist) (by rw [List.length_erase_of_mem CM];omega) (fun j hj i hi=>hex j (List.mem_of_mem_erase hj) i (List.mem_of_mem_erase hi)) ?_ iR
    ·intro k x hx hk e he hb;by_cases lu:k=i
     ·subst lu;rw [ho] at hx;simp only [oI] at hx;subst hx;exact getD_set_true (jf e he hb)
     ·rw [getD_set_ne true (Ne.symm lu)] at hk;exact getD_set_true (Kq k x hx hk e he hb)
    ·intro k;rw [List.Nodup.mem_erase_iff hnd];by_cases lu:k=i
     ·subst lu;simp [bI,dE]
     ·rw [getD_set_ne true (Ne.symm lu)];simp only [ne_eq,lu,not_false_eq_true,true_and];exact oY k
    ·rintro ⟨l,z,hl,hz,hL⟩;have uB:=List.mem_of_mem_erase hl;have aM:l≠i:=fun e=>by subst e;exact (List.Nodup.mem_erase_iff hnd).1 hl |>.1 rfl
     have M5:=hC ⟨l,z,uB,hz,hL⟩;refine CL ?_ M5;rcases Nat.lt_or_ge (π i) (π l) with h1 | h1
     ·exact Gw i l z o h1 hz ho hL
     ·have h0:π l≠π i:=by
       intro he;rcases te hp uB CM aM with h2 | h2<;>omega
      have:=G7 l uB aM (by omega);obtain ⟨_,_,_,h4⟩:=fG this hz ho;cases hw:W i
      ·rfl
      ·exact (h4 ⟨hL,hw⟩).elim
   unfold wpOp;rw [ho];simp only;unfold cO at aX;split
   ·rename_i hw;rw [if_pos hw] at aX;exact .inl (zJ (jS key aX))
   ·rename_i hw;rw [if_neg hw] at aX;exact key _ _ aX
theorem gx {id:Nat} {Q':Exit->Act->World->Prop} {a:Act} {w:World} (hm:P.follows .mixedOrders=true) (hc:Dl ops W=true) (hQ:∀ a w,Q a w->Q' .normal a w)
  (hC:C w.drew) (h:runT P ops W C Q (List.range ops.size) a w.drew):(Code.region id ops true).wp P Q' a w:=by
 refine wp_region_any hm ?_;simp only [Dl,Bool.and_eq_true] at hc;refine kG (π:=fun i=>i) M3 hc.1 hc.2 hQ ops.size (Array.replicate ops.size false) (List.range ops.size) a _ (by simp) ?_ ?_ List.pairwise_lt_range (by simp) (fun _ _ _ _=>rfl) (fun _=>hC) h
 ·intro i o ho hl;have:i < ops.size:=(Array.getElem?_eq_some_iff.1 ho).1;simp [this] at hl
 ·intro i;simp only [List.mem_range];constructor
  ·intro hi;exact ⟨hi,by simp [hi]⟩
  ·intro hi;exact hi.1
end
end Dv
end Go.Proofs.YtfifjddnnmfeoaaGreat
namespace Go.Proofs.YtfifjddnnmfeoaaGreat
namespace Dv
open Go Go.RowKit
structure Dr where
 ops:Array Oper
 W:Nat->Bool
 k:List It
 jc:St
 fin:Option (Bool->List (Nat × Sl)->St->Prop)
structure Dw where
 d:Dr
 E0:En
 wr:World
structure CC (E0:En) (bx:List (List DV)) (wr w:World):Prop where
 o:∀ (i:Nat) b cs,E0.β[i]? = some b->bx[i]? = some cs->cs ≠ []->w.heap[b]? = wr.heap[b]?
 c:∀ x v,E0.c x=some v->w.cell? x=some v
abbrev Dw.C (D:Dw) (w:World):Prop:=CC D.E0 D.d.jc.bx D.wr w
structure oZ (E:En) (bx:List (List DV)) (w:World):Prop where
 len:E.β.length=bx.length
 cL:∀ (i:Nat) cs,bx[i]? = some cs->cs ≠ []->∃ b ty arr,E.β[i]? = some b/\w.heap[b]? = some (.cells (List.toArray arr) ty (0,0))/\RvC E cs arr
theorem Env.em {E:En} {bx:List (List DV)} {w:World} (h:Env E bx w):oZ E bx w:=⟨h.len,fun i cs hi _=>h.cL i cs hi⟩
def M6:Option (List DV)->Bool
 | some []=>true
 | _=>false
theorem G8 {o:Option (List DV)} (h:M6 o=true):o=some []:=by
 cases o with
 | none=>cases h
 | some l=>
  cases l with
  | nil=>rfl
  | cons _ _=>cases h
def Dw.wc (D:Dw) (E:En):En:=⟨D.E0.c,E.β,E.tk,E.τ⟩
structure dF (X:Ctx) (D:Dw) (c:Bool) (E:En) (s0:List (Nat × Sl)) (st:St) (a:Act) (w:World):Prop where
 rel:Rel X E st a w
 x:Ext D.E0 E
 β:∃ r,E.β=D.E0.β ++ r
 t0:∀ i x,get s0 i=some x->(Holds a.tmps x.gs->∃ v,a.tmps[i]? = some v/\Rv (D.wc E) x.s v)/\(¬ Holds a.tmps x.gs->a.tmps[i]? = some undef)
 cc:c=true->D.C w
def Dw.Q (D:Dw) (X:Ctx) (a:Act) (w:World):Prop:=
 match D.d.fin with
 | none=>kq X D.d.k .normal a w
 | some F=>∃ c E s0 st,dF X D c E s0 st a w/\F c s0 st
def delF {γ:Type _} (d:Nat):List (Nat × Sl)->(List (Nat × Sl)->γ)->γ
 | [],K=>K []
 | p :: r,K=>
  match Nat.beq p.1 d with
  | true=>delF d r K
  | false=>delF d r (fun r'=>K (p :: r'))
theorem lF {γ:Type _} (d:Nat):∀ (l:List (Nat × Sl)) (K:List (Nat × Sl)->γ),delF d l K=K (l.filter fun p=>!Nat.beq p.1 d)
 | [],K=>rfl
 | p :: r,K=>by
  simp only [delF,List.filter_cons];cases h:Nat.beq p.1 d
  ·simp only [Bool.not_false,if_true];rw [lF d r]
  ·simp only [Bool.not_true,Bool.false_eq_true,if_false];rw [lF d r K]
theorem get_filter (d:Nat):∀ (l:List (Nat × Sl)) (i:Nat) (x:Sl),get (l.filter fun p=>!Nat.beq p.1 d) i=some x->i≠d/\get l i=some x
 | [],i,x,h=>by cases h
 | (k,y) :: r,i,x,h=>by
  simp only [List.filter_cons] at h;split at h
  ·rename_i hk
   have hk:k≠d:=by
    rintro rfl;simp at hk
   simp only [bV] at h ⊢;split at h
   ·rename_i lu;subst lu;exact ⟨hk,by rw [if_pos rfl];exact h⟩
   ·rename_i lu;rw [if_neg lu];exact get_filter d r i x h
  ·rename_i hk;have hk:k=d:=by simpa using hk
   obtain ⟨h1,h2⟩:=get_filter d r i x h;refine ⟨h1,?_⟩;simp only [bV];rw [if_neg (by omega)];exact h2
def scal:DV->Bool
 | .v _=>true
 | .ud=>true
 | .loc _ _=>true
 | .el _ _=>true
 | _=>false
def put2 (s0:List (Nat × Sl)) (st:St) (dst:Option Nat) (b:Bool) (gs:List (Nat × Bool)) (s:DV) (K:List (Nat × Sl)->St->Prop):Prop:=
 match dst with
 | none=>K s0 st
 | some d=>
  match st with
  | ⟨sl,bx,tk⟩=>
   match b || scal s with
   | true=>K ((d,⟨gs,s⟩) :: s0) ⟨(d,⟨gs,s⟩) :: sl,bx,tk⟩
   | false=>delF d s0 fun eT=>K eT ⟨(d,⟨gs,s⟩) :: sl,bx,tk⟩
def optP:Option Prop->Prop
 | some p=>p
 | none=>False
def pR (X:Ctx) (D:Dr) (c:Bool) (s0:List (Nat × Sl)) (st:St) (G:List (Nat × Bool)) (op:Op):Option (Bool × DV):=
 match !mA op && (!mB op || c) with
 | false=>none
 | true=>
  match pureT X.P X.T ⟨s0,D.jc.bx,[]⟩ G op with
  | some s=>some (true,s)
  | none=>
   match mB op with
   | true=>none
   | false=>
    match pureT X.P X.T ⟨st.sl,[],[]⟩ G op with
    | some s=>some (false,s)
    | none=>none
def eR (X:Ctx) (D:Dr) (c:Bool) (s0:List (Nat × Sl)) (st:St) (op:Op) (K:Bool->DV->Prop):Option Prop:=
 match mA op with
 | true=>none
 | false=>
  match mB op with
  | true=>
   match c with
   | true=>effR X ⟨s0,D.jc.bx,[]⟩ op (K true)
   | false=>none
  | false=>
   match effR X ⟨s0,[],[]⟩ op (K true) with
   | some p=>some p
   | none=>effR X ⟨st.sl,[],[]⟩ op (K false)
def va (X:Ctx) (D:Dr) (c:Bool) (i:Nat) (l:List (Nat × Oper)) (f:FuncId) (args:List DV) (dst:Option Nat) (s0:List (Nat × Sl)) (st:St):Prop:=
 Go.Proofs.Enters X.P f/\((∀ p∈l,D.ops[p.1]? = some p.2)->∀ (E0:En) (wr:World),oZ E0 D.jc.bx wr->∀ E a w vs,dF X ⟨D,E0,wr⟩ c E s0 st a w->RvL E args vs->Calls X.P f vs.toArray w fun e w'=>∃ v,e = .returned v /\
  (D.W i=false->CC E0 D.jc.bx wr w->CC E0 D.jc.bx wr w')/\runT X.P D.ops D.W (CC E0 D.jc.bx wr) (Dw.Q ⟨D,E0,wr⟩ X) (l.map (·.1)) (a.put dst v) w')
def OpD (X:Ctx) (D:Dr) (c:Bool) (i:Nat) (l:List (Nat × Oper)) (o:Oper) (s0:List (Nat × Sl)) (st:St):Prop:=
 (∀ p∈l,D.ops[p.1]? = some p.2)->∀ (E0:En) (wr:World),oZ E0 D.jc.bx wr->∀ E a w,dF X ⟨D,E0,wr⟩ c E s0 st a w->wq X.P o a w fun a' w'=>
  (D.W i=false->CC E0 D.jc.bx wr w->CC E0 D.jc.bx wr w')/\runT X.P D.ops D.W (CC E0 D.jc.bx wr) (Dw.Q ⟨D,E0,wr⟩ X) (l.map (·.1)) a' w'
def effE (X:Ctx) (D:Dr) (c:Bool) (i:Nat) (l:List (Nat × Oper)) (o:Oper) (s0:List (Nat × Sl)) (st:St) (K:Bool->List (Nat × Sl)->St->Prop):Prop:=
 match o.op with
 | .store t x y=>
  match o.dst with
  | some _=>False
  | none=>
   match D.W i with
   | true=>optP (effC X st o (K false s0))
   | false=>
    match stObj st o.op with
    | some j=>
     match Nat.ble D.jc.bx.length j || M6 D.jc.bx[j]? with
     | true=>optP (effC X st o (K c s0))
     | false=>False
    | none=>False
 | .call cl=>
  match cl.callee with
  | .value f=>
   match rv st [] f,argsV st [] cl.args.toList with
   | some (.fn g first captured),some vs=>va X D c i l g (first ++ vs ++ captured) o.dst s0 st
   | _,_=>False
  | _=>
   match o.dst with
   | some d=>optP (effC X st o fun st'=>delF d s0 fun eT=>K c eT st')
   | none=>False
 | _=>
  match o.dst with
  | some d=>
   match effC X st o fun st'=>
    match get st'.sl d with
    | some ⟨[],.loc j off⟩=>K c ((d,⟨[],.loc j off⟩) :: s0) st'
    | _=>delF d s0 fun eT=>K c eT st' with
   | some p=>p
   | none=>OpD X D c i l o s0 st
  | none=>False
def goD (X:Ctx) (D:Dr):Nat->Bool->List (Nat × Oper)->List (Nat × Sl)->St->Prop
 | _,c,[],s0,st=>
  match D.fin with
  | none=>go X 4000 D.k st
  | some F=>F c s0 st
 | 0,_,_ :: _,_,_=>False
 | n + 1,c,(i,o) :: r,s0,st=>
  match dq X.nt st.sl o.dst && dq X.nt s0 o.dst with
  | false=>False
  | true=>
   match o.guard with
   | none=>
    match mA o.op with
    | true=>effE X D c i r o s0 st fun c' eT st'=>goD X D n c' r eT st'
    | false=>
     match pR X D c s0 st [] o.op with
     | some (b,s)=>put2 s0 st o.dst b [] s (goD X D n c r)
     | none=>optP (eR X D c s0 st o.op fun b s=>put2 s0 st o.dst b [] s (goD X D n c r))
   | some (j,want)=>
    match gslot D.ops.toList j with
    | none=>False
    | some d=>
     match get st.sl d with
     | none=>False
     | some ⟨hZ,_⟩=>
      match pR X D c s0 st ((d,want) :: hZ) o.op with
      | some (b,s)=>
       match QT ((d,want) :: hZ) o.dst with
       | true=>put2 s0 st o.dst b ((d,want) :: hZ) s (goD X D n c r)
       | false=>False
      | none=>
       match get st.sl (lastG (d,want) hZ).1 with
       | some ⟨[],.v (.bool b)⟩=>
        match hZ with
        | []=>Br (b == want)
          (qT st d want fun CN=>resL d want s0 fun s2=>
           match mA o.op with
           | true=>effE X D c i r o s2 CN fun c' eT st'=>goD X D n c' r eT st'
           | false=>optP (eR X D c s2 CN o.op fun b s=>put2 s2 CN o.dst b [] s (goD X D n c r)))
          (match !mB o.op || c with
           | true=>qT st d (!want) fun CN=>resL d (!want) s0 fun s2=>put2 s2 CN o.dst true [] .ud (goD X D n c r)
           | false=>False)
        | _ :: _=>Br (b == (lastG (d,want) hZ).2)
          (qT st (lastG (d,want) hZ).1 (lastG (d,want) hZ).2 fun CN=>resL (lastG (d,want) hZ).1 (lastG (d,want) hZ).2 s0 fun s2=>goD X D n c ((i,o) :: r) s2 CN)
          (qT st (lastG (d,want) hZ).1 (!(lastG (d,want) hZ).2) fun CN=>resL (lastG (d,want) hZ).1 (!(lastG (d,want) hZ).2) s0 fun s2=>goD X D n c ((i,o) :: r) s2 CN)
       | some ⟨[],.ud⟩=>
        match hZ with
        | []=>
         match !mB o.op || c with
         | true=>put2 s0 st o.dst true [] .ud (goD X D n c r)
         | false=>False
        | _ :: _=>False
       | _=>False
section
variable {X:Ctx} {D:Dw} {c:Bool} {i:Nat} {s0:List (Nat × Sl)} {st:St} {E:En} {a:Act} {w:World}
theorem Kt (h:Ext D.E0 E):Ext D.E0 (D.wc E):=⟨fun _ _ h=>h,h.β,h.tk⟩
theorem xU (h:Ext D.E0 E):Ext (D.wc E) E:=⟨h.c,fun _ _ h=>h,fun k q hq=>⟨q,hq,.inl ⟨rfl,rfl⟩⟩⟩
theorem zN {E':En} (h:Ext E E'):Ext (D.wc E) (D.wc E'):=⟨fun _ _ h=>h,h.β,h.tk⟩
theorem dF.Rg (h:dF X D c E s0 st a w) (hD:oZ D.E0 D.d.jc.bx D.wr):Rl (D.wc E) D.d.jc.bx D.C s0 a where
 tm:=h.t0
 cL:=fun i cs hi=>by
  by_cases aM:cs=[]
  ·subst aM;have aq:i < D.E0.β.length:=by rw [hD.len];exact (gS hi).1
   exact ⟨_,[],h.x.β i _ (gE aq),⟨bn _,by simp⟩,fun w' _ j u hj=>by simp at hj⟩
  ·obtain ⟨b,ty,arr,hb,hw,hc⟩:=hD.cL i cs hi aM;exact ⟨b,arr,h.x.β i b hb,hc.mono (Kt h.x),fun w' hC j u hj=>by rw [bB ((hC.o i b cs hb hi aM).trans hw)];simpa using hj⟩
 cc:=fun x v hx w' hC=>hC.c x v hx
theorem dF.TR (h:dF X D c E s0 st a w):Rl E [] (fun w'=>∀ x v,E.c x=some v->w'.cell? x=some v) st.sl a where
 tm:=h.rel.tm
 cL:=fun i cs hi=>by simp at hi
 cc:=fun x v hx w' hC=>hC x v hx
theorem zO {s:DV} {v:Value} (hs:scal s=true) (hv:Rv E s v):Rv (D.wc E) s v:=by
 cases s<;>simp [scal] at hs
 ·unfold Rv at hv ⊢;exact hv
 ·unfold Rv at hv ⊢;exact hv
 ·unfold Rv at hv ⊢;exact hv
 ·unfold Rv at hv ⊢;exact hv
theorem fI (h:dF X D c E s0 st a w) {dst:Option Nat} (hd:(dq X.nt st.sl dst && dq X.nt s0 dst)=true) (b:Bool) (gs:List (Nat × Bool)) (s:DV) (v:Value) (xJ:∀ d,dst=some d->∀ p∈gs,p.1≠d)
  (oi:Holds a.tmps gs->Rv E s v) (ka:b=true->Holds a.tmps gs->Rv (D.wc E) s v) (Gm:¬ Holds a.tmps gs->v=undef) {K:List (Nat × Sl)->St->Prop} (hk:put2 s0 st dst b gs s K) :
  ∃ eT st',K eT st' /\ dF X D c E eT st' (a.put dst v) w:=by
 simp only [Bool.and_eq_true] at hd;have h1:=lr h.rel hd.1 gs s v xJ oi Gm
 cases dst with
 | none=>exact ⟨s0,st,hk,h1,h.x,h.β,h.t0,h.cc⟩
 | some d=>
  obtain ⟨sl,bx,tk⟩:=st;have Ku:=hd.2;simp only [dq,Bool.and_eq_true,Nat.blt_eq] at Ku
  have hold:∀ i x,i≠d->get s0 i=some x->(Holds (a.put (some d) v).tmps x.gs->∃ u,(a.put (some d) v).tmps[i]? = some u/\Rv (D.wc E) x.s u)/\(¬ Holds (a.put (some d) v).tmps x.gs->(a.put (some d) v).tmps[i]? = some undef):=by
   intro i x hi hx;simp only [Act.put];rw [Array.getElem?_setIfInBounds_ne (Ne.symm hi),gL (ik Ku.2 i x hx)];exact h.t0 i x hx
  simp only [put2] at hk;split at hk
  ·rename_i hb;refine ⟨_,_,hk,h1,h.x,h.β,fun i x hx=>?_,h.cc⟩;simp only [bV] at hx;split at hx
   ·rename_i ux;subst ux;simp only [oI] at hx;subst hx;have h2:(a.tmps.setIfInBounds d v)[d]? = some v:=by simp [Array.getElem?_setIfInBounds,h.rel.sz,Ku.1]
    simp only [Act.put];rw [gL (xJ d rfl),h2];refine ⟨fun hh=>⟨v,rfl,?_⟩,fun hh=>by rw [Gm hh]⟩;rcases Bool.or_eq_true _ _ |>.mp hb with hb | hb
    ·exact ka hb hh
    ·exact zO hb (oi hh)
   ·rename_i ux;exact hold i x (Ne.symm ux) hx
  ·rw [lF] at hk;refine ⟨_,_,hk,h1,h.x,h.β,fun i x hx=>?_,h.cc⟩;obtain ⟨h3,h4⟩:=get_filter d s0 i x hx;exact hold i x h3 h4
theorem iu (h:dF X D c E s0 st a w) {d:Nat} {b:Bool} (hd:a.tmps[d]? = some (.bool b)):dF X D c E (s0.map (aT d b)) (st.resolve d b) a w where
 rel:=gk h.rel hd
 x:=h.x
 β:=h.β
 t0:=by
  intro i y hy;simp only [get_map,Option.map_eq_some_iff] at hy;obtain ⟨x,hx,rfl⟩:=hy;have ht:=h.t0 i x hx;unfold aT;split
  ·rename_i hi;have dE:i=d:=by simpa using hi
   subst dE;exact ⟨fun _=>⟨_,hd,dh rfl⟩,fun hn=>(hn (aJ _)).elim⟩
  ·split
   ·rename_i hc
    have hn:¬ Holds a.tmps x.gs:=by
     intro hh;have:=hh (d,!b) (by simpa using hc);simp only at this;rw [hd] at this;cases b<;>simp at this
    exact ⟨fun _=>⟨_,ht.2 hn,nr _⟩,fun hn=>(hn (aJ _)).elim⟩
   ·have he:Holds a.tmps (x.gs.filter fun p=>p != (d,b))↔Holds a.tmps x.gs:=by
     constructor
     ·intro hh p hp;by_cases J0:p=(d,b)
      ·subst J0;exact hd
      ·exact hh p (by simp [List.mem_filter,hp,J0])
     ·intro hh p hp;exact hh p (List.mem_filter.1 hp).1
    simp only [he];exact ht
 cc:=h.cc
theorem iv {nt d:Nat} {b:Bool} {dst:Option Nat} (h:(dq nt st.sl dst && dq nt s0 dst)=true):(dq nt (st.resolve d b).sl dst && dq nt (s0.map (aT d b)) dst)=true:=by
 simp only [Bool.and_eq_true] at h ⊢;exact ⟨gl h.1,gl (st:=⟨s0,[],[]⟩) h.2⟩
theorem vb (hD:oZ D.E0 D.d.jc.bx D.wr) (h:dF X D c E s0 st a w) {G:List (Nat × Bool)} (hG:Holds a.tmps G) {o:Oper} {b:Bool} {s:DV} (hp:pR X D.d c s0 st G o.op=some (b,s)) :
  mA o.op=false/\(mB o.op=true->c=true)/\∃ v,Rv E s v/\(b=true->Rv (D.wc E) s v)/\∀ w,(mB o.op=true->D.C w)->(execOp a.eval o).run X.P w = .ok (.value v) w:=by
 unfold pR at hp;split at hp
 ·cases hp
 ·rename_i hc;simp only [Bool.and_eq_true,Bool.not_eq_true',Bool.or_eq_true] at hc;refine ⟨hc.1,fun hL=>?_,?_⟩
  ·rcases hc.2 with h1 | h1
   ·rw [hL] at h1;cases h1
   ·exact h1
  ·split at hp
   ·rename_i s' hs;simp only [oI,Prod.mk.injEq] at hp;obtain ⟨rfl,rfl⟩:=hp;obtain ⟨v,hv,hr⟩:=ei (st:=⟨s0,D.d.jc.bx,[]⟩) X.hT (h.Rg hD) hG hs;exact ⟨v,Rv.mono (xU h.x) hv,fun _=>hv,hr⟩
   ·split at hp
    ·cases hp
    ·rename_i hL;split at hp
     ·rename_i s' hs;simp only [oI,Prod.mk.injEq] at hp;obtain ⟨rfl,rfl⟩:=hp;obtain ⟨v,hv,hr⟩:=ei (st:=⟨st.sl,[],[]⟩) X.hT h.TR hG hs;exact ⟨v,hv,(by intro h;cases h),fun w' _=>hr w' (by intro h1;rw [hL] at h1;cases h1)⟩
     ·cases hp
theorem Dq (hD:oZ D.E0 D.d.jc.bx D.wr) (h:dF X D c E s0 st a w) {o:Oper} {K:Bool->DV->Prop} (hp:optP (eR X D.d c s0 st o.op K)) :
  mA o.op=false/\(mB o.op=true->c=true)/\∃ b s v,K b s/\Rv E s v/\(b=true->Rv (D.wc E) s v)/\∀ w,(mB o.op=true->D.C w)->(execOp a.eval o).run X.P w = .ok (.value v) w:=by
 unfold eR at hp;split at hp
 ·exact hp.elim
 ·rename_i hE;refine ⟨hE,?_⟩;split at hp
  ·rename_i hL;split at hp
   ·refine ⟨fun _=>rfl,?_⟩
    cases hs:effR X ⟨s0,D.d.jc.bx,[]⟩ o.op (K true) with
    | none=>rw [hs] at hp;exact hp.elim
    | some p=>
     rw [hs] at hp;obtain ⟨s,hk,v,hv,hr⟩:=im (st:=⟨s0,D.d.jc.bx,[]⟩) (h.Rg hD) hs hp;exact ⟨true,s,v,hk,Rv.mono (xU h.x) hv,fun _=>hv,hr⟩
   ·exact hp.elim
  ·rename_i hL;have mq:∀ w':World,mB o.op=true->False:=fun w' h1=>by rw [hL] at h1;cases h1
   refine ⟨fun h1=>(by rw [hL] at h1;cases h1),?_⟩;split at hp
   ·rename_i p hs;obtain ⟨s,hk,v,hv,hr⟩:=im (st:=⟨s0,[],[]⟩) (C:=D.C) ⟨h.t0,fun i cs hi=>by simp at hi,(h.Rg hD).cc⟩ hs hp;exact ⟨true,s,v,hk,Rv.mono (xU h.x) hv,fun _=>hv,fun w' _=>hr w' fun h1=>(mq w' h1).elim⟩
   ·cases hs:effR X ⟨st.sl,[],[]⟩ o.op (K false) with
    | none=>rw [hs] at hp;exact hp.elim
    | some p=>
     rw [hs] at hp;obtain ⟨s,hk,v,hv,hr⟩:=im (st:=⟨st.sl,[],[]⟩) h.TR hs hp;exact ⟨false,s,v,hk,hv,(by intro h;cases h),fun w' _=>hr w' fun h1=>(mq w' h1).elim⟩
theorem G9 {P:Program} {o:Oper} {K:Act->World->Prop} (h:wq P o a w K):wq P o a w fun a' w'=>K a' w' /\ ∃ u,a'=a.put o.dst u:=by
 unfold wq at *;split at h
 ·exact ⟨h,_,rfl⟩
 ·exact ⟨h,_,rfl⟩
 ·refine h.mono ?_;rintro e w' ⟨v,rfl,hv⟩;exact ⟨v,rfl,hv,v,rfl⟩
 ·exact h.elim
theorem zP (h:dF X D c E s0 st a w) {t:Option Nat} {E':En} {st':St} {a':Act} {w':World} (hs:CH t E w E' w') (hr:Rel X E' st' a' w') (ht:∀ j,t=some j->D.E0.β.length<=j∨D.d.jc.bx[j]? = some []):D.C w->D.C w':=fun hC=>
 ⟨fun i b cs hb bE aM=>by
  have eS:=h.x.β i b hb
  rw [hs.o i _ eS fun e=>by
   rcases ht i e with h1 | h1
   ·have:=(gS hb).1;omega
   ·rw [bE] at h1;simp only [oI] at h1;exact aM h1]
  exact hC.o i b cs hb bE aM,fun x v hx=>hr.env.sub x v (hs.x.c x v (h.x.c x v hx))⟩
theorem o0 (h:dF X D c E s0 st a w) {t:Option Nat} {E':En} {st':St} {w':World} {c':Bool} {eT:List (Nat × Sl)} {dst:Option Nat} {u:Value} (hs:CH t E w E' w') (hr:Rel X E' st' (a.put dst u) w') (qP:c'=true->D.C w')
  (ht0:∀ i x,get eT i=some x->(∃ d,dst=some d/\i=d/\scal x.s=true/\get st'.sl d=some x)∨(get s0 i=some x/\∀ d,dst=some d->i≠d)) (hd:dq X.nt s0 dst=true):dF X D c' E' eT st' (a.put dst u) w' where
 rel:=hr
 x:=by
  refine ⟨fun y v hy=>hs.x.c y v (h.x.c y v hy),fun j b hb=>hs.x.β j b (h.x.β j b hb),fun k q hq=>?_⟩;obtain ⟨q1,h1,h2⟩:=h.x.tk k q hq;obtain ⟨q2,h3,h4⟩:=hs.x.tk k q1 h1;refine ⟨q2,h3,?_⟩;rcases h2 with ⟨h2,h5⟩ | h2
  ·rcases h4 with ⟨h4,h6⟩ | h4
   ·exact .inl ⟨by omega,by rw [h6,h5]⟩
   ·exact .inr (by omega)
  ·rcases h4 with ⟨h4,h6⟩ | h4
   ·exact .inr (by omega)
   ·exact .inr (by omega)
 β:=by
  obtain ⟨r1,h1⟩:=h.β;obtain ⟨r2,h2⟩:=hs.β;exact ⟨r1 ++ r2,by rw [h2,h1,List.append_assoc]⟩
 t0:=fun i x hx=>by
  rcases ht0 i x hx with ⟨d,rfl,rfl,xD,hg⟩ | ⟨hg,aM⟩
  ·have:=hr.tm _ _ hg;refine ⟨fun hh=>?_,this.2⟩;obtain ⟨v,h1,h2⟩:=this.1 hh;exact ⟨v,h1,zO xD h2⟩
  ·have h1:=h.t0 i x hg
   cases dst with
   | none=>
    refine ⟨fun hh=>?_,h1.2⟩;obtain ⟨v,h2,h3⟩:=h1.1 hh;exact ⟨v,h2,Rv.mono (zN hs.x) h3⟩
   | some d=>
    simp only [dq,Bool.and_eq_true,Nat.blt_eq] at hd;simp only [Act.put];rw [Array.getElem?_setIfInBounds_ne (Ne.symm (aM d rfl)),gL (ik hd.2 i x hg)];refine ⟨fun hh=>?_,h1.2⟩;obtain ⟨v,h2,h3⟩:=h1.1 hh;exact ⟨v,h2,Rv.mono (zN hs.x) h3⟩
 cc:=qP
def M7 (X:Ctx) (D:Dw) (l:List Nat) (G:Bool->List (Nat × Sl)->St->Prop):Prop:=∀ c s0 st,G c s0 st->∀ E a w,dF X D c E s0 st a w->runT X.P D.d.ops D.d.W D.C (D.Q X) l a w
theorem xV (hD:oZ D.E0 D.d.jc.bx D.wr) {l:List (Nat × Oper)} (hl:∀ p∈l,D.d.ops[p.1]? = some p.2) {G:Bool->List (Nat × Sl)->St->Prop} (hG:M7 X D (l.map (·.1)) G) {o:Oper} (hd:(dq X.nt st.sl o.dst && dq X.nt s0 o.dst)=true) (h:dF X D c E s0 st a w)
  (he:effE X D.d c i l o s0 st G):wq X.P o a w fun a' w'=>(D.d.W i=false->D.C w->D.C w')/\runT X.P D.d.ops D.d.W D.C (D.Q X) (l.map (·.1)) a' w':=by
 have vc:=hd;simp only [Bool.and_eq_true] at vc;have hlen:D.E0.β.length=D.d.jc.bx.length:=hD.len
 have core:∀ (K:St->Prop) (p:Prop) (c1:Bool),effC X st o K=some p->p->(c1=true->c=true)->(c1=true∨D.d.W i=false->∀ j,stObj st o.op=some j->D.E0.β.length<=j∨D.d.jc.bx[j]? = some []) ->
   (∀ st',K st' -> ∃ eT,G c1 eT st' /\ ∀ i x,get eT i=some x->(∃ d,o.dst=some d/\i=d/\scal x.s=true/\get st'.sl d=some x)∨(get s0 i=some x/\∀ d,o.dst=some d->i≠d)) ->
   wq X.P o a w fun a' w'=>(D.d.W i=false->D.C w->D.C w')/\runT X.P D.d.ops D.d.W D.C (D.Q X) (l.map (·.1)) a' w':=by
  intro K p c1 hp hpp A9 aX hK;refine jS ?_ (G9 (kD vc.1 h.rel hp hpp));rintro a' w' ⟨⟨st',E',hk,hr,hs⟩,u,rfl⟩;refine ⟨fun hW=>zP h hs hr (aX (.inr hW)),?_⟩;obtain ⟨eT,hg,ht0⟩:=hK st' hk;exact hG c1 eT st' hg E' _ w' (o0 h hs hr (fun hc=>zP h hs hr (aX (.inl hc)) (h.cc (A9 hc))) ht0 vc.2)
 have IH:(∀ t x y,o.op ≠ .store t x y)->∀ j,stObj st o.op=some j->D.E0.β.length<=j∨D.d.jc.bx[j]? = some []:=by
  intro aM j hj;unfold stObj at hj;split at hj
  ·rename_i t x y kk;exact (aM t x y kk).elim
  ·cases hj
 have M8:∀ (d:Nat) (st':St),o.dst=some d->∀ i x,get (s0.filter fun p=>!Nat.beq p.1 d) i=some x->(∃ d,o.dst=some d/\i=d/\scal x.s=true/\get st'.sl d=some x)∨(get s0 i=some x/\∀ d,o.dst=some d->i≠d):=by
  intro d st' eW i x hx;obtain ⟨h1,h2⟩:=get_filter d s0 i x hx;exact .inr ⟨h2,fun d' vc=>by rw [eW] at vc;cases vc;exact h1⟩
 unfold effE at he;split at he
 ·rename_i t x y kk;split at he
  ·exact he.elim
  ·rename_i eW;have uY:∀ st':St,∀ i x,get s0 i=some x->(∃ d,o.dst=some d/\i=d/\scal x.s=true/\get st'.sl d=some x)∨(get s0 i=some x/\∀ d,o.dst=some d->i≠d):=fun st' i x hx=>.inr ⟨hx,fun d hd=>by rw [eW] at hd;cases hd⟩;split at he
   ·rename_i hW
    cases hp:effC X st o (G false s0) with
    | none=>rw [hp] at he;exact he.elim
    | some p=>
     rw [hp] at he;exact core _ p false hp he (by intro h;cases h) (by rintro (h1 | h1);cases h1;rw [hW] at h1;cases h1) fun st' hk=>⟨s0,hk,uY st'⟩
   ·split at he
    ·rename_i j hj;split at he
     ·rename_i iO
      have iO:D.d.jc.bx.length<=j∨D.d.jc.bx[j]? = some []:=by
       rcases Bool.or_eq_true _ _ |>.mp iO with h1 | h1
       ·exact .inl (by simpa using h1)
       ·exact .inr (G8 h1)
      cases hp:effC X st o (G c s0) with
      | none=>rw [hp] at he;exact he.elim
      | some p=>
       rw [hp] at he;exact core _ p c hp he id (fun _ j' eS=>by rw [hj] at eS;cases eS;rw [hlen];exact iO) fun st' hk=>⟨s0,hk,uY st'⟩
     ·exact he.elim
    ·exact he.elim
 ·rename_i cl kk;split at he
  ·rename_i f nX;split at he
   ·rename_i g first captured vs hf uB
    obtain ⟨iP,M9⟩:=he;have eV:=h.rel.rl;have e1:=aE eV hf;unfold Rv at e1;obtain ⟨l1,r1,e1,zL,hr1⟩:=e1;have hargs:=eh eV (aJ _) _ _ uB;obtain ⟨dst,op,ty,pos,after,gu⟩:=o;obtain ⟨callee,args,argTypes⟩:=cl;simp only at kk nX;subst kk nX
    have hr:(execOp a.eval ⟨dst,.call ⟨.value f,args,argTypes⟩,ty,pos,after,gu⟩).run X.P w = .ok (.enter g (l1 ++ args.toList.map a.eval ++ r1).toArray) w:=by
     have e3:(l1.toArray ++ args.map a.eval ++ r1.toArray)=(l1 ++ args.toList.map a.eval ++ r1).toArray:=by apply Array.ext';simp
     simp only [execOp,resolve,e1,Deferred.ofValue,Sem.run_bind,Sem.run_pure,Result.andThen_ok,invoke,e3];exact iP _ _
    unfold wq;rw [hr];exact M9 hl D.E0 D.wr hD E a w _ h ((zL.append hargs).append hr1)
   ·exact he.elim
  ·split at he
   ·rename_i d eW
    cases hp:effC X st o (fun st'=>delF d s0 fun eT=>G c eT st') with
    | none=>rw [hp] at he;exact he.elim
    | some p=>
     rw [hp] at he;refine core _ p c hp he id (fun _=>IH (fun t x y h1=>by rw [kk] at h1;cases h1)) fun st' hk=>?_;rw [lF] at hk;exact ⟨_,hk,M8 d st' eW⟩
   ·exact he.elim
 ·rename_i qR oc;split at he
  ·rename_i d eW
   cases hp:effC X st o (fun st'=>
    match get st'.sl d with
    | some ⟨[],.loc j off⟩=>G c ((d,⟨[],.loc j off⟩) :: s0) st'
    | _=>delF d s0 fun eT=>G c eT st') with
   | none=>rw [hp] at he;exact he hl D.E0 D.wr hD E a w h
   | some p=>
    rw [hp] at he;refine core _ p c hp he id (fun _=>IH qR) fun st' hk=>?_;split at hk
    ·rename_i j off hg;refine ⟨_,hk,fun i x hx=>?_⟩;simp only [bV] at hx;split at hx
     ·rename_i ux;simp only [oI] at hx;subst hx;exact .inl ⟨d,eW,ux.symm,rfl,hg⟩
     ·rename_i ux;exact .inr ⟨hx,fun d' vc=>by rw [eW] at vc;cases vc;exact Ne.symm ux⟩
    ·rw [lF] at hk;exact ⟨_,hk,M8 d st' eW⟩
  ·exact he.elim
theorem ek (hD:oZ D.E0 D.d.jc.bx D.wr):∀ n c l s0 st,goD X D.d n c l s0 st->(∀ p∈l,D.d.ops[p.1]? = some p.2)->∀ E a w,dF X D c E s0 st a w->runT X.P D.d.ops D.d.W D.C (D.Q X) (l.map (·.1)) a w
 | n,c,[],s0,st,hg,hl=>by
  intro E a w h;have hg:(match D.d.fin with | none=>go X 4000 D.d.k st | some F=>F c s0 st):=by cases n<;>simpa only [goD] using hg
  show D.Q X a w;unfold Dw.Q
  cases hf:D.d.fin with
  | none=>
   rw [hf] at hg;exact go_sound 4000 _ _ hg E a w h.rel
  | some F=>
   rw [hf] at hg;exact ⟨c,E,s0,st,h,hg⟩
 | 0,c,_ :: _,s0,st,hg,_=>by exact hg.elim
 | n + 1,c,(i,o) :: r,s0,st,hg,hl=>by
  intro E a w h;have ho:D.d.ops[i]? = some o:=hl (i,o) (by simp);have uB:∀ p∈r,D.d.ops[p.1]? = some p.2:=fun p hp=>hl p (List.mem_cons_of_mem _ hp);simp only [List.map_cons];have ih:∀ c s0 st,goD X D.d n c r s0 st->∀ E a w,dF X D c E s0 st a w->runT X.P D.d.ops D.d.W D.C (D.Q X) (r.map (·.1)) a w:=fun c s0 st hg=>ek hD n c r s0 st hg uB;have ihG:M7 X D (r.map (·.1)) (fun c s0 st=>goD X D.d n c r s0 st):=fun c s0 st hg=>ih c s0 st hg;simp only [goD,zx,sU] at hg;split at hg
  ·exact hg.elim
  ·rename_i hd
   have fR:∀ (v:Value) eT st',mA o.op=false->Yl X.P D.d.ops D.C o v a->(mB o.op=true->c=true)->goD X D.d n c r eT st' -> dF X D c E eT st' (a.put o.dst v) w ->
     runT X.P D.d.ops D.d.W D.C (D.Q X) (i :: r.map (·.1)) a w:=by
    intro v eT st' hE hy ia nV bA;simp only [runT,ho];rw [if_neg (by simp [hE])];exact ⟨v,hy,fun hL=>h.cc (ia hL),ih c eT st' nV E _ w bA⟩
   have fS:∀ eT st',mA o.op=true->Region.wanted o (yielded D.d.ops a.tmps)=false->goD X D.d n c r eT st' -> dF X D c E eT st' (a.put o.dst undef) w ->
     runT X.P D.d.ops D.d.W D.C (D.Q X) (i :: r.map (·.1)) a w:=by
    intro eT st' hE hw nV bA;simp only [runT,ho];rw [if_pos hE];unfold cO;rw [if_neg (by simp [hw])];exact ⟨fun _ h=>h,ih c eT st' nV E _ w bA⟩
   have fE:∀ eT st',mA o.op=true->Region.wanted o (yielded D.d.ops a.tmps)=true->(dq X.nt st'.sl o.dst && dq X.nt eT o.dst)=true->effE X D.d c i r o eT st' (fun c' eT st'=>goD X D.d n c' r eT st')->dF X D c E eT st' a w ->
     runT X.P D.d.ops D.d.W D.C (D.Q X) (i :: r.map (·.1)) a w:=by
    intro eT st' hE hw vc he bA;simp only [runT,ho];rw [if_pos hE];unfold cO;rw [if_pos hw];exact xV hD uB ihG vc bA he
   have fP:∀ eT st',Region.wanted o (yielded D.d.ops a.tmps)=true->(dq X.nt st'.sl o.dst && dq X.nt eT o.dst)=true->optP (eR X D.d c eT st' o.op fun b s=>put2 eT st' o.dst b [] s (goD X D.d n c r))->dF X D c E eT st' a w ->
     runT X.P D.d.ops D.d.W D.C (D.Q X) (i :: r.map (·.1)) a w:=by
    intro eT st' hw vc he bA;obtain ⟨hE,ia,b,s,v,hk,hv,ka,bz⟩:=Dq hD bA he;obtain ⟨s1,mH,mr,cP⟩:=fI bA vc b [] s v (fun _ _ p hp=>by cases hp) (fun _=>hv) (fun hb _=>ka hb) (fun hn=>(hn (aJ _)).elim) hk;exact fR v s1 mH hE (.inl ⟨hw,bz⟩) ia mr cP
   have TS:∀ eT st',(dq X.nt st'.sl o.dst && dq X.nt eT o.dst)=true->dF X D c E eT st' a w->put2 eT st' o.dst true [] .ud (goD X D.d n c r)->∃ s1 mH,goD X D.d n c r s1 mH/\dF X D c E s1 mH (a.put o.dst undef) w:=by
    intro eT st' vc bA hk;exact fI bA vc true [] .ud undef (fun _ _ p hp=>by cases hp) (fun _=>nr E) (fun _ _=>nr _) (fun hn=>(hn (aJ _)).elim) hk
   split at hg
   ·rename_i G4;have hw:Region.wanted o (yielded D.d.ops a.tmps)=true:=by simp [Region.wanted,G4]
    split at hg
    ·rename_i hE;exact fE s0 st hE hw hd hg h
    ·split at hg
     ·rename_i b s hs;obtain ⟨hE,ia,v,hv,ka,bz⟩:=vb hD h (aJ _) hs;obtain ⟨s1,mH,mr,cP⟩:=fI h hd b [] s v (fun _ _ p hp=>by cases hp) (fun _=>hv) (fun hb _=>ka hb) (fun hn=>(hn (aJ _)).elim) hg;exact fR v s1 mH hE (.inl ⟨hw,bz⟩) ia mr cP
     ·exact fP s0 st hw hd hg h
   ·rename_i j want G4;split at hg
    ·exact hg.elim
    ·rename_i d xJ;split at hg
     ·exact hg.elim
     ·rename_i hZ sd De;have lA:=wanted_spec h.rel G4 xJ De
      have xW:¬ Holds a.tmps ((d,want) :: hZ)->Region.wanted o (yielded D.d.ops a.tmps)=false:=by
       intro hn;cases hww:Region.wanted o (yielded D.d.ops a.tmps)
       ·rfl
       ·exact (hn (lA.1 hww)).elim
      split at hg
      ·rename_i b s hs;split at hg
       case h_2=>exact hg.elim
       rename_i cj;have Na:=oU cj;by_cases hh:Holds a.tmps ((d,want) :: hZ)
       ·obtain ⟨hE,ia,v,hv,ka,bz⟩:=vb hD h hh hs;obtain ⟨s1,mH,mr,cP⟩:=fI h hd b _ s v Na (fun _=>hv) (fun hb _=>ka hb) (fun hn=>(hn hh).elim) hg;exact fR v s1 mH hE (.inl ⟨lA.2 hh,bz⟩) ia mr cP
       ·obtain ⟨s1,mH,mr,cP⟩:=fI h hd b _ s undef Na (fun hn=>(hh hn).elim) (fun _ hn=>(hh hn).elim) (fun _=>rfl) hg
        have ia:mA o.op=false/\(mB o.op=true->c=true):=by
         unfold pR at hs;split at hs
         ·cases hs
         ·rename_i hc;simp only [Bool.and_eq_true,Bool.not_eq_true',Bool.or_eq_true] at hc;refine ⟨hc.1,fun hL=>?_⟩;rcases hc.2 with h1 | h1
          ·rw [hL] at h1;cases h1
          ·exact h1
        exact fR undef s1 mH ia.1 (.inr ⟨xW hh,rfl⟩) ia.2 mr cP
      ·split at hg
       ·rename_i b eG;have ht0:=u1 h.rel eG
        cases hZ with
        | nil=>
         simp only [lastG] at eG ht0;cases s8:(b == want)
         ·have xS:b = !want:=by cases b<;>cases want<;>simp_all
          have hg:=hg.f s8
          have hn:Region.wanted o (yielded D.d.ops a.tmps)=false:=by
           refine xW fun hh=>?_;have:=hh (d,want) (by simp);simp only at this;rw [ht0] at this;simp only [oI,Value.bool.injEq] at this;rw [this] at s8;simp at s8
          have hr:=iu (d:=d) (b:=!want) h (by rw [ht0,xS]);split at hg
          ·rename_i ia
           have Kv:mB o.op=true->c=true:=by
            intro hL;simpa [hL] using ia
           obtain ⟨s1,mH,mr,cP⟩:=TS _ _ (iv hd) hr hg;cases hE:mA o.op
           ·exact fR undef s1 mH hE (.inr ⟨hn,rfl⟩) Kv mr cP
           ·exact fS s1 mH hE hn mr cP
          ·exact hg.elim
         ·have Gt:b=want:=by simpa using s8
          have hg:=hg.t s8;subst Gt;have hw:Region.wanted o (yielded D.d.ops a.tmps)=true:=lA.2 (fw ht0 (aJ _));have hr:=iu (d:=d) (b:=b) h ht0;split at hg
          ·rename_i hE;exact fE _ _ hE hw (iv hd) hg hr
          ·exact fP _ _ hw (iv hd) hg hr
        | cons g1 gr=>
         have key:∀ e,a.tmps[(lastG (d,want) (g1 :: gr)).1]? = some (.bool e)->goD X D.d n c ((i,o) :: r) (s0.map (aT (lastG (d,want) (g1 :: gr)).1 e)) (st.resolve (lastG (d,want) (g1 :: gr)).1 e)->_:=
          fun e C3 nV=>ek hD n c ((i,o) :: r) _ _ nV hl E a w (iu h C3)
         cases s8:(b == (lastG (d,want) (g1 :: gr)).2)
         ·have hg:=hg.f s8;have xS:b = !(lastG (d,want) (g1 :: gr)).2:=by cases b<;>cases h0:(lastG (d,want) (g1 :: gr)).2<;>simp_all
          exact key _ (by rw [ht0,xS]) hg
         ·have hg:=hg.t s8;have Gt:b=(lastG (d,want) (g1 :: gr)).2:=by simpa using s8
          exact key _ (by rw [ht0,Gt]) hg
       ·rename_i eG
        cases hZ with
        | nil=>
         have ht0:=Df h.rel eG;simp only [lastG] at ht0
         have hn:Region.wanted o (yielded D.d.ops a.tmps)=false:=by
          refine xW fun hh=>?_;have:=hh (d,want) (by simp);simp only at this;rw [ht0] at this;simp [undef] at this
         simp only at hg;split at hg
         ·rename_i ia
          have Kv:mB o.op=true->c=true:=by
           intro hL;simpa [hL] using ia
          obtain ⟨s1,mH,mr,cP⟩:=TS _ _ hd h hg;cases hE:mA o.op
          ·exact fR undef s1 mH hE (.inr ⟨hn,rfl⟩) Kv mr cP
          ·exact fS s1 mH hE hn mr cP
         ·exact hg.elim
        | cons g1 gr=>exact hg.elim
       ·exact hg.elim
def Rh (X:Ctx) (o:Oper) (st st':St):Prop:=∀ E a w,Rel X E st a w->wq X.P o a w fun a' w'=>∃ E',Rel X E' st' a' w' /\ CH none E w E' w'
theorem Rh.g {o:Oper} {k:List It} {st st':St} (h:Rh X o st st') (hk:go X 4000 k st'):IC X o k st:=fun E a w hr=>by
 refine zJ (jS ?_ (h E a w hr));rintro a' w' ⟨E',iR,_⟩;exact go_sound 4000 _ _ hk E' a' w' iR
def nOps:Nat->List Oper->List (Nat × Oper)
 | _,[]=>[]
 | i,o :: r=>(i,o) :: nOps (i + 1) r
theorem o6:∀ (l:List Oper) (i:Nat) (p:Nat × Oper),p∈nOps i l->i<=p.1/\l[p.1 - i]? = some p.2
 | [],_,_,h=>by cases h
 | o :: r,i,p,h=>by
  rcases List.mem_cons.1 h with h | h
  ·subst h;simp
  ·have:=o6 r (i + 1) p h;refine ⟨by omega,?_⟩;rw [show p.1 - i=(p.1 - (i + 1)) + 1 by omega];simpa using this.2
theorem o8:∀ (l:List Oper) (i:Nat),(nOps i l).map (·.1)=List.range' i l.length
 | [],_=>rfl
 | o :: r,i=>by simp only [nOps,List.map_cons,o8 r (i + 1),List.length_cons,List.range'_succ]
theorem o9 (hr:Rel X E st a w) {ops:Array Oper} {W:Nat->Bool} {k:List It}:dF X ⟨⟨ops,W,k,st,none⟩,E,w⟩ true E st.sl st a w where
 rel:=hr
 x:=Ext.refl E
 β:=⟨[],by simp⟩
 t0:=hr.tm
 cc:=fun _=>⟨fun _ _ _ _ _ _=>rfl,hr.env.sub⟩
theorem aR {id:Nat} {ops:Array Oper} {k:List It} {st:St} (W:Nat->Bool) (hm:X.P.follows .mixedOrders=true) (hc:Dl ops W=true)
  (h:goD X ⟨ops,W,k,st,none⟩ 3000 true (nOps 0 ops.toList) st.sl st):uP X id ops k st:=by
 intro E a w hr;have iR:=jg hr;have hs:=o9 iR (ops:=ops) (W:=W) (k:=k);refine gx (C:=CC E st.bx w.drew) (W:=W) (Q:=kq X k .normal) hm hc (fun a w h=>h) (hs.cc rfl) ?_;have:=ek (D:=⟨⟨ops,W,k,st,none⟩,E,w.drew⟩) iR.env.em 3000 true _ _ _ h (fun p hp=>by simpa using (o6 _ _ p hp).2) E a w.drew hs;rw [o8] at this;rw [List.range_eq_range'];simp only [Array.length_toList] at this;exact this
def maskL:List Nat->Nat->List (List DV)->List (List DV)
 | _,_,[]=>[]
 | m,i,cs :: r=>(match m.contains i with | true=>[] | false=>cs) :: maskL m (i + 1) r
theorem mI (m:List Nat):∀ (l:List (List DV)) (i:Nat),(maskL m i l).length=l.length
 | [],_=>rfl
 | cs :: r,i=>by simp [maskL,mI m r]
theorem mJ (m:List Nat):∀ (l:List (List DV)) (i j:Nat) cs,(maskL m i l)[j]? = some cs->cs=[]∨l[j]? = some cs
 | [],_,_,_,h=>by simp [maskL] at h
 | c :: r,i,0,cs,h=>by
  simp only [maskL,List.getElem?_cons_zero,oI] at h;split at h
  ·exact .inl h.symm
  ·exact .inr (by simp [h])
 | c :: r,i,j + 1,cs,h=>by
  simp only [maskL,List.getElem?_cons_succ] at h ⊢;exact mJ m r (i + 1) j cs h
theorem oq {id:Nat} {ops:Array Oper} {k:List It} {st:St} (m:List Nat) (W:Nat->Bool) (hm:X.P.follows .mixedOrders=true) (hc:Dl ops W=true)
  (h:goD X ⟨ops,W,k,⟨st.sl,maskL m 0 st.bx,st.tk⟩,none⟩ 3000 true (nOps 0 ops.toList) st.sl st):uP X id ops k st:=by
 intro E a w hr;have iR:=jg hr;have hs:dF X ⟨⟨ops,W,k,⟨st.sl,maskL m 0 st.bx,st.tk⟩,none⟩,E,w.drew⟩ true E st.sl st a w.drew:=⟨iR,Ext.refl E,⟨[],by simp⟩,iR.tm,fun _=>⟨fun _ _ _ _ _ _=>rfl,iR.env.sub⟩⟩;refine gx (C:=CC E (maskL m 0 st.bx) w.drew) (W:=W) (Q:=kq X k .normal) hm hc (fun a w h=>h) (hs.cc rfl) ?_
 have Kw:oZ E (maskL m 0 st.bx) w.drew:=⟨by rw [mI];exact iR.env.len,fun i cs hi aM=>by
  rcases mJ m _ _ _ _ hi with h1 | h1
  ·exact (aM h1).elim
  ·exact iR.env.cL i cs h1⟩
 have:=ek (D:=⟨⟨ops,W,k,⟨st.sl,maskL m 0 st.bx,st.tk⟩,none⟩,E,w.drew⟩) Kw 3000 true _ _ _ h (fun p hp=>by simpa using (o6 _ _ p hp).2) E a w.drew hs;rw [o8] at this;rw [List.range_eq_range'];simp only [Array.length_toList] at this;exact this
def Ri (ops:Array Oper) (i:Nat):Bool:=
 match ops.toList[i]? with
 | some o=>
  match o.op with
  | .store ..=>true
  | _=>false
 | none=>false
theorem aZ {id:Nat} {ops:Array Oper} {k:List It} {st:St} (hm:X.P.follows .mixedOrders=true) (hc:Dl ops (Ri ops)=true)
  (h:goD X ⟨ops,Ri ops,k,st,none⟩ 3000 true (nOps 0 ops.toList) st.sl st):uP X id ops k st:=aR (Ri ops) hm hc h
theorem lG {D:Dr} {f:FuncId} {args aV:List DV} {d:Nat} {r:List (Nat × Oper)} (iP:Enters X.P f) (hd:(dq X.nt st.sl (some d) && dq X.nt s0 (some d))=true) {Φ:DV->List (List DV)->List TkE->Prop} (hc:Ev X.P f aV [] [] Φ) (ha:CcL [] 0 0 0 aV args)
  (hk:∀ Ha,Φ Ha [] []->put2 s0 st (some d) false [] Ha (goD X D 3000 c r)) (aX:X.still=false:=by exact rfl):va X D c i r f args (some d) s0 st:=by
 refine ⟨iP,fun hl E0 wr hD E a w vs h hv=>(nz h.rel aX hc ha hv).mono ?_⟩;rintro e w' ⟨v,E',Ha,rfl,bA,hr,hΦ,hm,hx,hβ⟩
 have hh:∀ b,b < w.heap.size->w'.heap[b]? = w.heap[b]?:=fun b hb=>hm.block b hb (by
  rintro (h1 | ⟨y,h1,_⟩)
  ·simp [En.cl] at h1
  ·simp [En.cl] at h1)
 have hs:CH none E w E' w':=⟨hx,⟨[],by rw [hβ];simp⟩,fun j b hb _=>hh b (h.rel.env.aK (mG hb))⟩;have hC:=zP h hs bA (fun j hj=>by cases hj);refine ⟨v,rfl,fun _=>hC,?_⟩;have Ds:dF X ⟨D,E0,wr⟩ c E' s0 st (a.put none v) w':=o0 h hs bA (fun h1=>hC (h.cc h1)) (fun i x hx=>.inr ⟨hx,fun d hd=>by cases hd⟩) rfl;obtain ⟨s1,mH,mr,cP⟩:=fI Ds hd false [] Ha v (fun _ _ p hp=>by cases hp) (fun _=>hr) (fun hb=>by cases hb) (fun hn=>(hn (aJ _)).elim) (hk Ha hΦ);exact ek (D:=⟨D,E0,wr⟩) hD 3000 c r _ _ mr hl E' _ w' cP
theorem cr {D:Dr} {f:FuncId} {args aV:List DV} {d:Nat} {r:List (Nat × Oper)} {Ha:DV} (iP:Enters X.P f) (hc:EvP X.P f aV Ha) (ha:CcL [] 0 0 0 aV args) (hd:(dq X.nt st.sl (some d) && dq X.nt s0 (some d))=true)
  (hk:put2 s0 st (some d) false [] Ha (goD X D 3000 c r)) (aX:X.still=false:=by exact rfl):va X D c i r f args (some d) s0 st:=
 lG iP hd hc ha (fun _ hr=>hr ▸ hk) aX
theorem fJ {D:Dr} {i:Nat} {f:FuncId} {args:List DV} {dst:Option Nat} (hW:D.W i=true) (h:ct X f args dst D.k st) (hf:D.fin=none:=by exact rfl):va X D c i [] f args dst s0 st:=by
 refine ⟨h.1,fun _ E0 wr _ E a w vs hr hv=>(h.2.2 E a w vs hr.rel hv).mono ?_⟩;intro e w' hq
 cases e with
 | returned v=>
  refine ⟨v,rfl,⟨(fun hw=>by rw [hW] at hw;cases hw),?_⟩⟩;show Dw.Q ⟨D,E0,wr⟩ X _ _;unfold Dw.Q;simp only [hf];exact hq
 | _=>exact hq.elim
end
end Dv
end Go.Proofs.YtfifjddnnmfeoaaGreat
namespace Go.Proofs.YtfifjddnnmfeoaaGreat
namespace Dv
open Go Go.RowKit
section
variable {P:Program} {ops:Array Oper} {C:World->Prop} {Q:Act->World->Prop} {W:Nat->Bool} {π π':Nat->Nat}
theorem Ba {o:Oper} {i:Nat} {a:Act} {w:World} {K:Act->World->Prop} {Q':Exit->Act->World->Prop} (ho:ops[i]? = some o) (h:cO P ops o a w K):wpOp P ops Q' i K a w:=by
 unfold wpOp;rw [ho];simp only;unfold cO at h;split
 ·rename_i hw;rw [if_pos hw] at h;exact .inl (zJ h)
 ·rename_i hw;rw [if_neg hw] at h;exact h
def chkT (ops:Array Oper) (x y:Nat):Bool:=
 (List.range ops.size).all fun i=>Nat.beq i x || Nat.beq i y ||
  match ops[i]? with
  | some o=>!mA o.op || ordB ops ops.size x i
  | none=>false
def nY (x y:Nat):Nat->Nat->Bool:=fun j i=>Nat.beq j x && Nat.beq i y
theorem xX {x y:Nat} {Q':Exit->Act->World->Prop} (xY:x≠y) (Mc:nW ops W π=true) (Nb:u7 ops W π (nY x y)=true) (Qh:nW ops W π'=true) (Nc:u7 ops W π' (nY y x)=true) (hT:chkT ops x y=true)
  (hQ:∀ a w,Q a w->Q' .normal a w):∀ (lE:Nat) (aP:Array Bool) (r1 r2:List Nat) (a:Act) (w:World),
  aP.size=ops.size->Dn ops aP->(∀ i,i∈r1↔i < ops.size/\aP.getD i true=false)->(∀ i,i∈r2↔i < ops.size/\aP.getD i true=false)->r1.Pairwise (fun a b=>π a < π b)->r2.Pairwise (fun a b=>π' a < π' b)->r1.length<=lE ->
   x∈r1->y∈r1->C w->runT P ops W C Q r1 a w->runT P ops W C Q r2 a w->wpAny P .any ops Q' lE aP a w:=by
 have jm:=u9 Mc;have Gw:=td Mc;have Kx:=td Qh;have Rj:=Nb;have Rk:=Nc;simp only [u7,List.all_eq_true,List.mem_range,Bool.or_eq_true,Bool.not_eq_true'] at Nb Nc;intro lE
 induction lE with
 | zero=>
  intro aP r1 r2 a w bI Kq fm qO Hb Ky hlen hx hy hC hr1 jb;have:r1=[]:=List.length_eq_zero_iff.1 (by omega);rw [this] at hx;cases hx
 | succ lE ih=>
  intro aP r1 r2 a w bI Kq fm qO Hb Ky hlen hx hy hC hr1 jb;have Kz:∀ i,i∈r1↔i∈r2:=fun i=>(fm i).trans (qO i).symm;have xZ:r1.Nodup:=ld Hb;have pa:r2.Nodup:=ld Ky;have Dm:=rF Mc;refine ⟨fun h0=>?_,fun i hi=>?_⟩
  ·cases r1 with
   | nil=>cases hx
   | cons h rem=>
    have hh:=(fm h).1 (by simp);have TU:ops[h]? = some ops[h]:=Array.getElem?_eq_getElem hh.1
    have:h∈Region.ready .any ops aP:=by
     refine mem_ready.2 ⟨hh.2,_,TU,fun e he hb=>?_⟩;obtain ⟨aq,xT⟩:=Dm h _ TU e he hb;cases hg:aP.getD e.on false
     ·have Ks:aP.getD e.on true=false:=by
       have:e.on < aP.size:=by rw [bI];omega
       simp [this] at hg ⊢;exact hg
      have hm:=(fm e.on).2 ⟨by omega,Ks⟩;rcases List.mem_cons.1 hm with e1 | e1
      ·rw [e1] at aq;omega
      ·have:=(List.pairwise_cons.1 Hb).1 _ e1;omega
     ·rfl
    rw [h0] at this;cases this
  ·obtain ⟨Dp,o,ho,jf⟩:=mem_ready.1 hi;have dE:=(Array.getElem?_eq_some_iff.1 ho).1;have CM:i∈r1:=(fm i).2 ⟨dE,Dp⟩;have Hc:i∈r2:=(Kz i).1 CM
   have iX:∀ j,j∈r1->ordB ops ops.size j i=true->False:=by
    intro j hj h1;have h2:=jo Kq _ _ _ _ ho jf h1;have h3:=((fm j).1 hj).2;have:j < aP.size:=by rw [bI];exact ((fm j).1 hj).1
    simp [this] at h2 h3;rw [h2] at h3;cases h3
   have He:i≠y->∀ j∈r1,j≠i->π j < π i->lC ops W j i=true:=by
    intro KA j hj _ aq;rcases Nb i dE j ((fm j).1 hj).1 with ((h1 | h1) | h1) | h1
    ·have:¬ Nat.blt (π j) (π i)=true:=by simp [h1]
     simp at this;omega
    ·simp [nY] at h1;exact (KA h1.2).elim
    ·exact (iX j hj h1).elim
    ·exact h1
   have KB:i≠x->∀ j∈r2,j≠i->π' j < π' i->lC ops W j i=true:=by
    intro Hf j hj _ aq;rcases Nc i dE j ((qO j).1 hj).1 with ((h1 | h1) | h1) | h1
    ·have:¬ Nat.blt (π' j) (π' i)=true:=by simp [h1]
     simp at this;omega
    ·simp [nY] at h1;exact (Hf h1.2).elim
    ·exact (iX j ((Kz j).2 hj) h1).elim
    ·exact h1
   have KC:Dn ops (aP.setIfInBounds i true):=by
    intro k z hz hk e he hb;by_cases lu:k=i
    ·subst lu;rw [ho] at hz;simp only [oI] at hz;subst hz;exact getD_set_true (jf e he hb)
    ·rw [getD_set_ne true (Ne.symm lu)] at hk;exact getD_set_true (Kq k z hz hk e he hb)
   have zQ:∀ (rem:List Nat),rem.Nodup->(∀ i,i∈rem↔i < ops.size/\aP.getD i true=false)->∀ k,k∈rem.erase i↔k < ops.size/\(aP.setIfInBounds i true).getD k true=false:=by
    intro rem hnd oY k;rw [List.Nodup.mem_erase_iff hnd];by_cases lu:k=i
    ·subst lu;simp [bI,dE]
    ·rw [getD_set_ne true (Ne.symm lu)];simp only [ne_eq,lu,not_false_eq_true,true_and];exact oY k
   refine Ba ho ?_;by_cases Hf:i=x
   ·subst Hf;have aX:=fH jm Gw ho r1 a w (fun _=>hC) hr1 CM (He xY) Hb;refine fF ?_ aX;rintro a' w' ⟨CL,iR⟩;refine kG (C:=C) (nY i y) Mc Rj hQ lE _ (r1.erase i) a' w' (by simp [bI]) KC (zQ r1 xZ fm) (Hb.sublist List.erase_sublist) (by rw [List.length_erase_of_mem CM];omega) ?_ ?_ iR
    ·intro j hj k _;cases eS:nY i y j k
     ·rfl
     ·simp only [nY,Bool.and_eq_true,Nat.beq_eq] at eS;exact (((List.Nodup.mem_erase_iff xZ).1 hj).1 eS.1).elim
    ·rintro ⟨l,z,hl,hz,hL⟩;refine CL ?_ hC;have uB:=List.mem_of_mem_erase hl;have aM:l≠i:=((List.Nodup.mem_erase_iff xZ).1 hl).1;rcases te Hb CM uB aM.symm with h1 | h1
     ·exact Gw i l z o h1 hz ho hL
     ·have:=He xY l uB aM h1;obtain ⟨_,_,_,h4⟩:=fG this hz ho;cases hw:W i
      ·rfl
      ·exact (h4 ⟨hL,hw⟩).elim
   ·by_cases KA:i=y
    ·subst KA;have aX:=fH jm Kx ho r2 a w (fun _=>hC) jb Hc (KB (Ne.symm xY)) Ky;refine fF ?_ aX;rintro a' w' ⟨CL,iR⟩;refine kG (C:=C) (nY i x) Qh Rk hQ lE _ (r2.erase i) a' w' (by simp [bI]) KC (zQ r2 pa qO) (Ky.sublist List.erase_sublist) ?_ ?_ ?_ iR
     ·have e1:r1.length=r2.length:=(List.perm_iff_count.2 (fun z=>by rw [xZ.count,pa.count];simp [Kz z])).length_eq;rw [List.length_erase_of_mem Hc];omega
     ·intro j hj k _;cases eS:nY i x j k
      ·rfl
      ·simp only [nY,Bool.and_eq_true,Nat.beq_eq] at eS;exact (((List.Nodup.mem_erase_iff pa).1 hj).1 eS.1).elim
     ·rintro ⟨l,z,hl,hz,hL⟩;refine CL ?_ hC;have uB:=List.mem_of_mem_erase hl;have aM:l≠i:=((List.Nodup.mem_erase_iff pa).1 hl).1;rcases te Ky Hc uB aM.symm with h1 | h1
      ·exact Kx i l z o h1 hz ho hL
      ·have:=KB (Ne.symm xY) l uB aM h1;obtain ⟨_,_,_,h4⟩:=fG this hz ho;cases hw:W i
       ·rfl
       ·exact (h4 ⟨hL,hw⟩).elim
    ·have Rc:mA o.op=false:=by
      simp only [chkT,List.all_eq_true,List.mem_range,Bool.or_eq_true,Nat.beq_eq] at hT;rcases hT i dE with (h1 | h1) | h1
      ·exact (Hf h1).elim
      ·exact (KA h1).elim
      ·rw [ho] at h1;simp only [Bool.or_eq_true,Bool.not_eq_true'] at h1;rcases h1 with h1 | h1
       ·exact h1
       ·exact (iX x hx h1).elim
     obtain ⟨v,Rm⟩:=kF jm ho Rc r1 a w hr1 CM (He KA) Hb;have Mz:=fH jm Gw ho r1 a w (fun _=>hC) hr1 CM (He KA) Hb;have Gn:=fH jm Kx ho r2 a w (fun _=>hC) jb Hc (KB Hf) Ky;have mr:=jl Rm (fun _=>hC) Mz;have Dt:=jl Rm (fun _=>hC) Gn;refine jk Rm (fun _=>hC) ?_
     exact ih _ (r1.erase i) (r2.erase i) _ w (by simp [bI]) KC (zQ r1 xZ fm) (zQ r2 pa qO) (Hb.sublist List.erase_sublist) (Ky.sublist List.erase_sublist) (by rw [List.length_erase_of_mem CM];omega)
      ((List.Nodup.mem_erase_iff xZ).2 ⟨Ne.symm Hf,hx⟩) ((List.Nodup.mem_erase_iff xZ).2 ⟨Ne.symm KA,hy⟩) hC mr.2 Dt.2
end
def selL (ops:List Oper):List Nat->List (Nat × Oper)
 | []=>[]
 | i :: r=>
  match ops[i]? with
  | some o=>(i,o) :: selL ops r
  | none=>selL ops r
theorem Du {ops:List Oper} {l:List Nat} {p:Nat × Oper} (h:p∈selL ops l):ops[p.1]? = some p.2:=by
 induction l with
 | nil=>cases h
 | cons i r ih=>
  unfold selL at h;split at h
  ·rename_i o ho;rcases List.mem_cons.1 h with h | h
   ·rw [h];exact ho
   ·exact ih h
  ·exact ih h
def plc:List Nat->Nat->Nat
 | [],_=>0
 | x :: r,i=>if Nat.beq x i then 0 else plc r i + 1
def Dx (ops:Array Oper) (l:List Nat):Bool:=
 (selL ops.toList l).map (·.1) == l && (List.range ops.size).all (fun i=>l.contains i) && l.all (fun i=>Nat.blt i ops.size) && Nat.ble l.length ops.size && Qi (plc l) l
where Qi (f:Nat->Nat):List Nat->Bool
 | []=>true
 | x :: r=>r.all (fun y=>Nat.blt (f x) (f y)) && Qi f r
theorem pe {f:Nat->Nat}:∀ {l:List Nat},Dx.Qi f l=true->l.Pairwise (fun a b=>f a < f b)
 | [],_=>List.Pairwise.nil
 | x :: r,h=>by
  simp only [Dx.Qi,Bool.and_eq_true,List.all_eq_true,Nat.blt_eq] at h;exact List.pairwise_cons.2 ⟨h.1,pe h.2⟩
def Nf (ops:Array Oper) (W:Nat->Bool) (l l':List Nat) (x y:Nat):Bool:=
 !Nat.beq x y && Nat.blt x ops.size && Nat.blt y ops.size && Dx ops l && Dx ops l' && nW ops W (plc l) && u7 ops W (plc l) (nY x y) && nW ops W (plc l') && u7 ops W (plc l') (nY y x) && chkT ops x y
def swp (i j k:Nat):Nat:=
 match Nat.beq k i with
 | true=>j
 | false=>
  match Nat.beq k j with
  | true=>i
  | false=>k
theorem gm (i j k:Nat):swp i j (swp i j k)=k:=by
 have hb:∀ a b:Nat,Nat.beq a b=decide (a=b):=fun a b=>by
  by_cases h:a=b
  ·subst h;simp
  ·rw [decide_eq_false h];cases h1:Nat.beq a b
   ·rfl
   ·exact (h (by simpa using h1)).elim
 unfold swp;simp only [hb];by_cases h1:k=i
 ·subst h1;simp only [decide_true];by_cases h2:j=k
  ·subst h2;simp
  ·simp [h2]
 ·by_cases h2:k=j
  ·subst h2;simp [h1]
  ·simp [h1,h2]
mutual
def renD (f:Nat->Nat):DV->DV
 | .v x=>.v x
 | .ud=>.ud
 | .agg l=>.agg (renL f l)
 | .tup l=>.tup (renL f l)
 | .sl e es tk=>.sl e es tk
 | .pt cs o=>.pt cs o
 | .loc i o=>.loc (f i) o
 | .el i o=>.el (f i) o
 | .ms i e o l c=>.ms (f i) e o l c
 | .fn g l r=>.fn g (renL f l) (renL f r)
 | .nq t x=>.nq t (renD f x)
def renL (f:Nat->Nat):List DV->List DV
 | []=>[]
 | d :: r=>renD f d :: renL f r
end
def renS (f:Nat->Nat):List (Nat × Sl)->List (Nat × Sl)
 | []=>[]
 | (k,⟨gs,s⟩) :: r=>(k,⟨gs,renD f s⟩) :: renS f r
def renO (f:Nat->Nat):List (List DV)->List (List DV)
 | []=>[]
 | cs :: r=>renL f cs :: renO f r
def swL {α:Type} (i j:Nat) (l:List α):List α:=
 match l[i]?,l[j]? with
 | some a,some b=>(l.set i b).set j a
 | _,_=>l
def di (i j:Nat) (S:St):St:=⟨renS (swp i j) S.sl,swL i j (renO (swp i j) S.bx),S.tk⟩
theorem lH (f:Nat->Nat):∀ (l:List (List DV)) (k:Nat),(renO f l)[k]? = (l[k]?).map (renL f)
 | [],k=>by simp [renO]
 | c :: r,0=>by simp [renO]
 | c :: r,k + 1=>by simp only [renO,List.getElem?_cons_succ];exact lH f r k
theorem bS (f:Nat->Nat):∀ (l:List (List DV)),(renO f l).length=l.length
 | []=>rfl
 | c :: r=>by simp [renO,bS f r]
theorem vd (f:Nat->Nat):∀ (l:List (Nat × Sl)) (k:Nat),get (renS f l) k=(get l k).map fun x=>⟨x.gs,renD f x.s⟩
 | [],k=>rfl
 | (i,⟨gs,s⟩) :: r,k=>by
  simp only [renS,bV];split
  ·rfl
  ·exact vd f r k
theorem bF {α:Type} (i j:Nat) (l:List α):(swL i j l).length=l.length:=by
 unfold swL;split<;>simp
theorem cF {α:Type} {i j:Nat} {l:List α} (hi:i < l.length) (hj:j < l.length) (k:Nat):(swL i j l)[k]? = l[swp i j k]?:=by
 have hb:∀ a b:Nat,Nat.beq a b=true↔a=b:=fun a b=>by simp
 unfold swL;rw [gE hi,gE hj];simp only;unfold swp;by_cases Rn:k=j
 ·subst Rn;rw [List.getElem?_set_self (by simpa using hj)];cases h1:Nat.beq k i
  ·simp only [Nat.beq_refl];exact (gE hi).symm
  ·have:=(hb k i).1 h1;subst this;exact (gE hi).symm
 ·rw [List.getElem?_set_ne (Ne.symm Rn)];by_cases lu:k=i
  ·subst lu;rw [List.getElem?_set_self hi];simp only [Nat.beq_refl];exact (gE hj).symm
  ·rw [List.getElem?_set_ne (Ne.symm lu)]
   have h1:Nat.beq k i=false:=by
    cases h:Nat.beq k i
    ·rfl
    ·exact (lu ((hb k i).1 h)).elim
   have h2:Nat.beq k j=false:=by
    cases h:Nat.beq k j
    ·rfl
    ·exact (Rn ((hb k j).1 h)).elim
   simp only [h1,h2]
theorem Hg {α:Type} {i j:Nat} {l:List α} (hi:i < l.length) (hj:j < l.length):swL i j (swL i j l)=l:=by
 apply List.ext_getElem?;intro k;rw [cF (by rw [bF];exact hi) (by rw [bF];exact hj),cF hi hj,gm]
section
variable {E:En} {i j:Nat}
mutual
theorem Rv.x0 (hi:i < E.β.length) (hj:j < E.β.length):∀ {d:DV} {v:Value},Rv E (renD (swp i j) d) v->Rv ⟨E.c,swL i j E.β,E.tk,E.τ⟩ d v
 | .v x,v,h=>by simp only [renD] at h;unfold Rv at h ⊢;exact h
 | .ud,v,h=>by simp only [renD] at h;unfold Rv at h ⊢;exact h
 | .sl e es tk,v,h=>by simp only [renD] at h;unfold Rv at h ⊢;exact h
 | .pt cs o,v,h=>by simp only [renD] at h;unfold Rv at h ⊢;exact h
 | .loc k o,v,h=>by
  simp only [renD] at h;unfold Rv at h ⊢;obtain ⟨b,h1,h2⟩:=h;exact ⟨b,by show (swL i j E.β)[k]? = _;rw [cF hi hj];exact h1,h2⟩
 | .el k o,v,h=>by
  simp only [renD] at h;unfold Rv at h ⊢;obtain ⟨b,h1,h2⟩:=h;exact ⟨b,by show (swL i j E.β)[k]? = _;rw [cF hi hj];exact h1,h2⟩
 | .ms k e o l c,v,h=>by
  simp only [renD] at h;unfold Rv at h ⊢;obtain ⟨b,ad,h1,h2⟩:=h;exact ⟨b,ad,by show (swL i j E.β)[k]? = _;rw [cF hi hj];exact h1,h2⟩
 | .agg l,v,h=>by
  simp only [renD] at h;unfold Rv at h ⊢;obtain ⟨vs,h1,h2,h3⟩:=h;exact ⟨vs,h1,RvL.x0 hi hj h2,h3⟩
 | .tup l,v,h=>by
  simp only [renD] at h;unfold Rv at h ⊢;obtain ⟨vs,h1,h2⟩:=h;exact ⟨vs,h1,RvL.x0 hi hj h2⟩
 | .fn g l r,v,h=>by
  simp only [renD] at h;unfold Rv at h ⊢;obtain ⟨l',r',h1,h2,h3⟩:=h;exact ⟨l',r',h1,RvL.x0 hi hj h2,RvL.x0 hi hj h3⟩
 | .nq t x,v,h=>by
  simp only [renD] at h;unfold Rv at h ⊢;obtain ⟨z,h1,h2⟩:=h;exact ⟨z,h1,Rv.x0 hi hj h2⟩
theorem RvL.x0 (hi:i < E.β.length) (hj:j < E.β.length):∀ {l:List DV} {vs:List Value},RvL E (renL (swp i j) l) vs->RvL ⟨E.c,swL i j E.β,E.tk,E.τ⟩ l vs
 | [],vs,h=>by simp only [renL,RvL] at h ⊢;exact h
 | d :: r,vs,h=>by
  simp only [renL,RvL] at h ⊢;obtain ⟨v,s,h1,h2,h3⟩:=h;exact ⟨v,s,h1,Rv.x0 hi hj h2,RvL.x0 hi hj h3⟩
end
end
theorem zR {α:Type} {i j:Nat} {l:List α} (hi:i < l.length) (hj:j < l.length) {x:α}:x∈swL i j l↔x∈l:=by
 have h1:∀ (l:List α),i < l.length->j < l.length->x∈swL i j l->x∈l:=by
  intro l hi hj h;obtain ⟨k,hk⟩:=List.mem_iff_getElem?.1 h;rw [cF hi hj] at hk;exact mG hk
 refine ⟨h1 l hi hj,fun h=>?_⟩;have:=h1 (swL i j l) (by rw [bF];exact hi) (by rw [bF];exact hj);rw [Hg hi hj] at this;exact this h
theorem Bb {i j:Nat} {l:List Nat} (hi:i < l.length) (hj:j < l.length) (h:l.Nodup):(swL i j l).Nodup:=by
 have aq:∀ k,k < l.length->swp i j k < l.length:=by
  intro k hk;unfold swp;split
  ·exact hj
  ·split
   ·exact hi
   ·exact hk
 unfold List.Nodup;rw [List.pairwise_iff_getElem];intro a b ha hb kH he;rw [bF] at ha hb
 have hg:∀ k (hk:k < l.length),(swL i j l)[k]'(by rw [bF];exact hk)=l[swp i j k]'(aq k hk):=by
  intro k hk;have:=cF hi hj k;rw [gE (by rw [bF];exact hk),gE (aq k hk)] at this;exact Option.some.inj this
 rw [hg a ha,hg b hb] at he
 have h1:l[swp i j a]? = l[swp i j b]?:=by
  rw [gE (aq a ha),gE (aq b hb),he]
 have:=(List.getElem?_inj (aq a ha) h).1 h1;have:=congrArg (swp i j) this;rw [gm,gm] at this;omega
theorem mK {P:Program} {ops:Array Oper} {W:Nat->Bool} {C:World->Prop} {Q Q':Act->World->Prop} (hQ:∀ a w,Q a w->Q' a w):∀ {l:List Nat} {a:Act} {w:World},runT P ops W C Q l a w->runT P ops W C Q' l a w
 | [],a,w,h=>hQ _ _ h
 | i :: r,a,w,h=>by
  simp only [runT] at h ⊢;split at h
  ·exact h.elim
  ·split at h
   ·rename_i hE;rw [if_pos hE];exact fF (fun a w hk=>⟨hk.1,mK hQ hk.2⟩) h
   ·rename_i hE;rw [if_neg hE];obtain ⟨v,h1,h2,h3⟩:=h;exact ⟨v,h1,h2,mK hQ h3⟩
section
variable {X:Ctx} {E:En} {S:St} {a:Act} {w:World} {i j:Nat}
theorem ve (hX:X.bt=[]) (h:Rel X E (di i j S) a w) (CE:X.n0<=i) (uA:X.n0<=j) (hi:i < S.bx.length) (hj:j < S.bx.length):Rel X ⟨E.c,swL i j E.β,E.tk,E.τ⟩ S a w:=by
 have hlen:E.β.length=S.bx.length:=by
  rw [h.env.len];simp only [di,bF,bS]
 have dE:i < E.β.length:=by rw [hlen];exact hi
 have eS:j < E.β.length:=by rw [hlen];exact hj
 have jT:∀ k,(di i j S).bx[k]? = (S.bx[swp i j k]?).map (renL (swp i j)):=fun k=>by
  simp only [di];rw [cF (by rw [bS];exact hi) (by rw [bS];exact hj),lH]
 exact {
  env:={
   len:=by rw [bF];exact hlen
   tl:=h.env.tl
   cL:=fun k cs hk=>by
    obtain ⟨b,ty,arr,hb,hw,hc⟩:=h.env.cL (swp i j k) (renL (swp i j) cs) (by rw [jT,gm,hk];rfl);exact ⟨b,ty,arr,by rw [cF dE eS];exact hb,hw,RvL.x0 dE eS hc.1,hc.2⟩
   inj:=Bb dE eS h.env.inj
   sub:=h.env.sub
   pc:=fun x v hx hm=>h.env.pc x v hx ((zR dE eS).1 hm)
   bQ:=fun k q y hq hy=>by
    rcases h.env.bQ k q y hq hy with h1 | ⟨g,cap,cur,rfl,h1,h2,h3,h4,h5,h6⟩
    ·exact .inl h1
    ·exact .inr ⟨g,cap,cur,rfl,h1,h2,h3,h4,fun hm=>h5 ((zR dE eS).1 hm),h6⟩
   gf:=h.env.gf }
  tk:=h.tk
  sz:=h.sz
  tm:=fun k x hx=>by
   have:=h.tm k ⟨x.gs,renD (swp i j) x.s⟩ (by simp only [di];rw [vd,hx];rfl);refine ⟨fun hh=>?_,this.2⟩;obtain ⟨v,h1,h2⟩:=this.1 hh;exact ⟨v,h1,Rv.x0 dE eS h2⟩
  df:=h.df
  nw:={
   c:=h.nw.c
   cn:=h.nw.cn
   β:=by
    obtain ⟨r,hr,hl⟩:=h.nw.β;have TV:X.E0.β.length=X.n0:=X.gI;refine ⟨(swL i j E.β).drop X.n0,?_,fun b hb=>?_⟩
    ·show swL i j E.β=_
     have:(swL i j E.β).take X.n0=X.E0.β:=by
      apply List.ext_getElem?;intro k;rw [List.getElem?_take];split
      ·rename_i hk;rw [cF dE eS]
       have:swp i j k=k:=by
        unfold swp;have hb:∀ a b:Nat,Nat.beq a b=true↔a=b:=fun a b=>by simp
        cases h1:Nat.beq k i
        ·cases h2:Nat.beq k j
         ·rfl
         ·have:=(hb k j).1 h2;omega
        ·have:=(hb k i).1 h1;omega
       rw [this,hr,List.getElem?_append_left (by omega)]
      ·rename_i hk;exact (List.getElem?_eq_none (by omega)).symm
     rw [<- this,List.take_append_drop]
    ·have hnd:=h.env.inj;obtain ⟨k,hk⟩:=List.mem_iff_getElem?.1 hb;rw [List.getElem?_drop,cF dE eS] at hk
     have bJ:X.n0<=swp i j (X.n0 + k):=by
      unfold swp;split
      ·exact uA
      ·split
       ·exact CE
       ·omega
     rw [hr,List.getElem?_append_right (by omega)] at hk;exact hl b (mG hk)
   tk:=h.nw.tk
   tn:=h.nw.tn
   l0:=h.nw.l0 }
  fr:=h.fr
  sh:=h.sh
  bt:=.nil hX }
theorem zS (hX:X.bt=[]) (h:Rel X E (di i j S) a w) (CE:X.n0<=i) (uA:X.n0<=j) (hi:i < S.bx.length) (hj:j < S.bx.length):∃ E',Rel X E' S a w:=⟨_,ve hX h CE uA hi hj⟩
end
def zT (sl:List (Nat × Sl)):List (Nat × Sl)->Prop
 | []=>True
 | p :: r=>get sl p.1=some p.2/\zT sl r
theorem pf {sl:List (Nat × Sl)}:∀ {l:List (Nat × Sl)},zT sl l->∀ i x,get l i=some x->get sl i=some x
 | [],_,i,x,hx=>by cases hx
 | (k,y) :: r,h,i,x,hx=>by
  simp only [bV] at hx;split at hx
  ·rename_i lu;subst lu;simp only [oI] at hx;subst hx;exact h.1
  ·exact pf h.2 i x hx
def uniqS:List Nat->List (Nat × Sl)->List (Nat × Sl)
 | _,[]=>[]
 | m,p :: r=>
  match muB m p.1 with
  | true=>uniqS m r
  | false=>p :: uniqS (p.1 :: m) r
theorem mL:∀ (l:List (Nat × Sl)) (m:List Nat) (i:Nat),muB m i=false->get (uniqS m l) i=get l i
 | [],_,_,_=>rfl
 | (k,x) :: r,m,i,h=>by
  simp only [uniqS]
  cases hm:muB m k with
  | true=>
   simp only;rw [mL r m i h,bV,if_neg];rintro rfl;rw [hm] at h;cases h
  | false=>
   simp only [bV];by_cases hk:k=i
   ·rw [if_pos hk,if_pos hk]
   ·rw [if_neg hk,if_neg hk]
    exact mL r (k :: m) i (by simp only [muB,h,Bool.or_false];cases hb:Nat.beq k i with
     | true=>exact (hk (Nat.eq_of_beq_eq_true hb)).elim
     | false=>rfl)
def tf (s S:St):Prop:=s.bx=S.bx/\s.tk=S.tk/\zT s.sl (uniqS [] S.sl)
theorem Dy {X:Ctx} {E:En} {s S:St} {a:Act} {w:World} (h:Rel X E s a w) (hs:tf s S):Rel X E S a w where
 env:=by rw [<- hs.1];exact h.env
 tk:=by rw [<- hs.2.1];exact h.tk
 sz:=h.sz
 tm:=fun i x hx=>h.tm i x (pf hs.2.2 i x (by rw [mL _ _ _ rfl];exact hx))
 df:=h.df
 nw:=h.nw
 fr:=h.fr
 sh:=h.sh
 bt:=h.bt
theorem Bc {X:Ctx} {id:Nat} {ops:Array Oper} {k:List It} {st:St} (W:Nat->Bool) (x y:Nat) (l l':List Nat) (i j:Nat) (hm:X.P.follows .mixedOrders=true) (hc:Nf ops W l l' x y=true) (S:St)
  (h:goD X ⟨ops,W,[.CB fun s=>s=S],st,none⟩ 3000 true (selL ops.toList l) st.sl st) (h':goD X ⟨ops,W,[.CB fun s=>tf s (di i j S)],st,none⟩ 3000 true (selL ops.toList l') st.sl st)
  (om:(Nat.ble X.n0 i && Nat.ble X.n0 j && Nat.blt i S.bx.length && Nat.blt j S.bx.length)=true) (hk:go X 4000 k S) (hX:X.bt=[]:=by exact rfl):uP X id ops k st:=by
 intro E a w hr;have iR:=jg hr;simp only [Bool.and_eq_true,Nat.ble_eq,Nat.blt_eq] at om;simp only [Nf,Dx,Bool.and_eq_true,List.all_eq_true,Nat.blt_eq,Nat.ble_eq,beq_iff_eq,List.mem_range,Bool.not_eq_true'] at hc;obtain ⟨⟨⟨⟨⟨⟨⟨⟨⟨xY,A2⟩,MA⟩,⟨⟨⟨h1a,Md⟩,h1c⟩,hlen⟩,h1d⟩,⟨⟨⟨h2a,Ro⟩,h2c⟩,_⟩,h2d⟩,Mc⟩,Nb⟩,Qh⟩,Nc⟩,hT⟩:=hc
 have hQ:∀ S',(S'=S∨S'=di i j S)->∀ a w,(∃ st E,Rel X E st a w/\(st=S' ∨ tf st S'))->kq X k .normal a w:=by
  rintro S' hS a w ⟨mH,E1,II,ny⟩
  have bA:Rel X E1 S' a w:=by
   rcases ny with rfl | ny
   ·exact II
   ·exact Dy II ny
  rcases hS with rfl | rfl
  ·exact go_sound 4000 _ _ hk E1 a w bA
  ·obtain ⟨E2,u5⟩:=zS hX bA om.1.1.1 om.1.1.2 om.1.2 om.2;exact go_sound 4000 _ _ hk E2 a w u5
 have key:∀ (S':St),(S'=S∨S'=di i j S)->∀ (l:List Nat),(selL ops.toList l).map (·.1)=l->∀ J:St->Prop,(∀ s,J s->s=S' ∨ tf s S')->(goD X ⟨ops,W,[.CB J],st,none⟩ 3000 true (selL ops.toList l) st.sl st) ->
   runT X.P ops W (CC E st.bx w.drew) (fun a w=>kq X k .normal a w) l a w.drew:=by
  intro S' hS l hl J hJ h;have hs:=o9 iR (ops:=ops) (W:=W) (k:=[.CB J]);have:=ek (D:=⟨⟨ops,W,[.CB J],st,none⟩,E,w.drew⟩) iR.env.em 3000 true _ _ _ h (fun p hp=>by simpa using Du hp) E a w.drew hs;rw [hl] at this;exact mK (fun a w ⟨st,E1,h1,h2⟩=>hQ S' hS a w ⟨st,E1,h1,hJ st h2⟩) this
 have e1:=key S (.inl rfl) l h1a _ (fun s hs=>.inl hs) h;have e2:=key (di i j S) (.inr rfl) l' h2a _ (fun s hs=>.inr hs) h';refine wp_region_any hm ?_
 have x3:∀ (l:List Nat),(∀ i,i < ops.size->l.contains i=true)->(∀ i∈l,i < ops.size)->∀ i,i∈l↔i < ops.size/\(Array.replicate ops.size false).getD i true=false:=by
  intro l ha hb i;constructor
  ·intro hi;exact ⟨hb i hi,by simp [hb i hi]⟩
  ·intro hi;simpa using ha i hi.1
 have Rp:x≠y:=by
  intro e;subst e;simp at xY
 refine xX (C:=CC E st.bx w.drew) (π:=plc l) (π':=plc l') (Q:=kq X k .normal) Rp Mc Nb Qh Nc hT (fun a w h=>h) ops.size (Array.replicate ops.size false) l l' a _ (by simp) ?_ (x3 l Md h1c) (x3 l' Ro h2c) (pe h1d) (pe h2d) hlen
  (by simpa using Md x A2) (by simpa using Md y MA) ⟨fun _ _ _ _ _ _=>rfl,iR.env.sub⟩ e1 e2
 intro i o ho hl;have:i < ops.size:=(Array.getElem?_eq_some_iff.1 ho).1;simp [this] at hl
end Dv
end Go.Proofs.YtfifjddnnmfeoaaGreat
namespace Go.Proofs.YtfifjddnnmfeoaaGreat
namespace Dv
open Go Go.RowKit
section
variable {X:Ctx} {st:St} {k:List It} {E:En} {a:Act} {w:World}
noncomputable def En.Hh (E:En) (w:World):En:=⟨mE E 0 w,[],[],[]⟩
theorem Hi {bx:List (List DV)} (h:Env E bx w):Env (E.Hh w) [] w where
 len:=rfl
 tl:=rfl
 cL:=by simp
 inj:=List.nodup_nil
 sub:=fun x u hx=>by
  rcases cE hx with ⟨_,h1⟩ | h1
  ·exact h1
  ·exact h.sub x u h1
 pc:=by simp [En.Hh]
 bQ:=by simp [En.Hh]
 gf:=by simp [En.Hh]
theorem Hj {bx:List (List DV)} (h:Env E bx w):CK E (E.Hh w) bx 0 where
 c:=fun x u hx=>iq h hx
 fz:=fun i cs hi bE=>by
  obtain ⟨b,ty,arr,hb,hw,hc⟩:=h.cL i cs bE;refine ⟨b,arr,hb,hc,fun j u hj=>?_⟩;show mE E 0 w ⟨b,j,none⟩=some u;unfold mE;rw [if_pos ⟨i,hi,hb⟩,bB hw];simpa using hj
theorem fh {P:Program} {s:Bool} {bx:List (List DV)} (h:Env E bx w) {f:FuncId} {args aV:List DV} {vs:List Value} {y:DV} (hc:Ma s P f aV [] [] fun d _ _=>d=y) (ha:CcL bx 0 0 0 aV args) (hv:RvL E args vs) :
  Calls P f vs.toArray w fun e w'=>∃ v E2,e = .returned v/\Rv E2 y v/\nT (fun _=>False) w w' /\ (s=true->∃ q,w'=w.drewN q):=by
 have Mx:RvL (E.Hh w) aV vs:=CcL.sound (Hj h) (A5.zero _ _) ha hv;refine (hc (E.Hh w) w vs (Hi h) rfl Mx).mono ?_;rintro e w' ⟨v,rfl,hm,hs,d,os,E2,he,hβ,ib,hn,Kl,rfl⟩;refine ⟨v,E2,rfl,Kl,⟨hm.os,hm.tape,hm.output,hm.size,fun i hi _=>hm.block i hi ?_⟩,hs⟩;rintro (h1 | ⟨y,h1,_⟩)
 ·simp [En.Hh] at h1
 ·simp [En.Hh] at h1
theorem tg {f:FuncId} {args aV:List DV} {d:Nat} {y:Value} (iP:Enters X.P f) (hc:EvP X.P f aV (.v y)) (ha:CcL st.bx 0 0 0 aV args) (hd:dq X.nt st.sl (some d)=true)
  (hk:go X 4000 k ⟨(d,⟨[],.v y⟩) :: st.sl,st.bx,st.tk⟩) (aX:X.still=false:=by exact rfl):ct X f args (some d) k st:=by
 refine ⟨iP,aX,fun E a w vs h hv=>(fh h.env hc ha hv).mono ?_⟩;rintro e w' ⟨v,E2,rfl,hr,hm,_⟩;have hh:∀ i,i < w.heap.size->w'.heap[i]? = w.heap[i]?:=fun i hi=>hm.block i hi (fun h=>h);have bA:Rel X E st a w':=cg h (Ext.refl E) (h.env.gw hh) h.tk h.nw (h.fr.bo hm.os hm.tape hm.output hm.size fun i hi=>.inr (hh i hi)) (kA aX) (h.bt.gw fun b hb=>hh b (h.env.aK hb));unfold Rv at hr;exact go_sound 4000 _ _ hk E _ w' (aG bA hd (.v y) v (by unfold Rv;exact hr))
end
end Dv
end Go.Proofs.YtfifjddnnmfeoaaGreat
namespace Go.Proofs.YtfifjddnnmfeoaaGreat
namespace Dv
open Go Go.RowKit
def Hk (bx:List (List DV)) (N m:Nat) (sl:List (Nat × Sl)):List (Nat × Sl)->Prop
 | []=>True
 | p :: r=>(∃ x,get sl p.1=some ⟨p.2.gs,x⟩/\Cc bx N N m p.2.s x)/\Hk bx N m sl r
theorem rG {bx:List (List DV)} {N m:Nat} {sl:List (Nat × Sl)}:∀ {l:List (Nat × Sl)},Hk bx N m sl l->∀ i x',get l i=some x' -> ∃ x,get sl i=some ⟨x'.gs,x⟩/\Cc bx N N m x'.s x
 | [],_,i,x',hx=>by cases hx
 | (k,y) :: r,h,i,x',hx=>by
  simp only [bV] at hx;split at hx
  ·rename_i lu;subst lu;simp only [oI] at hx;subst hx;exact h.1
  ·exact rG h.2 i x' hx
section
variable {X:Ctx} {E:En} {st st':St} {a:Act} {w:World} {k:List It}
theorem Hl (h:Rel X E st a w) (N:Nat) (hN:X.n0<=N) (Me:N<=st.bx.length) (jT:iV st.bx N N st.tk.length st'.bx (st.bx.take N)) (ib:st'.tk=st.tk) (oN:Hk st.bx N st.tk.length st.sl st'.sl):∃ E',Rel X E' st' a w:=by
 obtain ⟨r,G2,Qc⟩:=h.nw.β;have hlen:E.β.length=st.bx.length:=h.env.len
 have cC:∀ (i:Nat) b,X.n0<=i->E.β[i]? = some b->b∈r:=fun i b hi hb=>by
  rw [G2,List.getElem?_append_right (by rw [X.gI];exact hi)] at hb;exact mG hb
 let E':En:=⟨mE E N w,E.β.take N,E.tk,E.τ⟩
 have Dc:CK E E' st.bx N:={
  c:=fun x u hx=>iq h.env hx
  fz:=fun i cs hi bE=>by
   obtain ⟨b,ty,arr,hb,hw,hc⟩:=h.env.cL i cs bE;refine ⟨b,arr,hb,hc,fun j u hj=>?_⟩;show mE E N w ⟨b,j,none⟩=some u;unfold mE;rw [if_pos ⟨i,hi,hb⟩,bB hw]
   simpa using hj }
 have qV:A5 E E' N st.tk.length:={
  β:=fun i b hi hb=>by show (E.β.take N)[i]? = _;rw [List.getElem?_take,if_pos hi];exact hb
  tk:=fun k hk=>⟨rfl,rfl⟩ }
 have Kh:∀ (i:Nat) b,N<=i->E.β[i]? = some b->b ∉ E.β.take N:=fun i b hi hb hm=>by
  obtain ⟨j,hj⟩:=List.getElem?_of_mem hm;rw [List.getElem?_take] at hj;split at hj
  ·rename_i hjN;have:=(List.getElem?_inj (gS hb).1 h.env.inj).1 (hb.trans hj.symm);omega
  ·cases hj
 obtain ⟨gJ,MS⟩:=jT.get;refine ⟨E',?_⟩
 exact {
  env:={
   len:=by
    show (E.β.take N).length=st'.bx.length;rw [gJ,List.length_take,List.length_take];omega
   tl:=h.env.tl
   cL:=fun i cs' hi=>by
    obtain ⟨cs,bE,qP⟩:=MS i cs' hi;rw [List.getElem?_take] at bE;split at bE
    ·rename_i aq;obtain ⟨b,ty,arr,hb,hw,hc⟩:=h.env.cL i cs bE;exact ⟨b,ty,arr,qV.β i b aq hb,hw,CcL.sound Dc qV qP hc.1,hc.2⟩
    ·cases bE
   inj:=h.env.inj.sublist (List.take_sublist _ _)
   sub:=fun x u hx=>by
    rcases cE hx with ⟨_,h1⟩ | h1
    ·exact h1
    ·exact h.env.sub x u h1
   pc:=fun x u hx hm=>by
    rcases cE hx with ⟨⟨i,hi,hb⟩,_⟩ | h1
    ·exact Kh i _ hi hb hm
    ·exact h.env.pc x u h1 (List.mem_of_mem_take hm)
   bQ:=fun k q y hq hy=>by
    rcases h.env.bQ k q y hq hy with h1 | ⟨g,cap,cur,rfl,h1,h2,h3,h4,h5,h6⟩
    ·exact .inl h1
    ·refine .inr ⟨g,cap,cur,rfl,h1,⟨h2.1,h2.2.mono fun _ _ hx=>iq h.env hx⟩,h3,h4,fun hm=>h5 (List.mem_of_mem_take hm),fun x u hx hg=>?_⟩;rcases cE hx with ⟨⟨i,hi,hb⟩,_⟩ | h7
     ·rw [hg] at hb;exact (h5 (mG hb)).elim
     ·exact h6 x u h7 hg
   gf:=h.env.gf }
  tk:=by rw [ib];exact h.tk
  sz:=h.sz
  tm:=fun i x' uy=>by
   obtain ⟨x,hx,qP⟩:=rG oN i x' uy;have:=h.tm i _ hx;refine ⟨fun hh=>?_,this.2⟩;obtain ⟨v,h1,h2⟩:=this.1 hh;exact ⟨v,h1,Cc.sound Dc qV qP h2⟩
  df:=h.df
  nw:={
   c:=fun x u hx=>iq h.env (h.nw.c x u hx)
   cn:=fun x u hx=>by
    rcases cE hx with ⟨⟨i,hi,hb⟩,_⟩ | h1
    ·exact .inr (.inl (Qc _ (cC i _ (by omega) hb)))
    ·exact h.nw.cn x u h1
   β:=by
    refine ⟨r.take (N - X.n0),?_,fun b hb=>Qc b (List.mem_of_mem_take hb)⟩;show E.β.take N=_;rw [G2,List.take_append,List.take_of_length_le (by rw [X.gI];omega),X.gI]
   tk:=h.nw.tk
   tn:=h.nw.tn
   l0:=h.nw.l0 }
  fr:=h.fr
  sh:=h.sh
  bt:=h.bt.sub _ }
theorem Dz {c:Code} (N:Nat) (mH:St) (hN:Nat.ble X.n0 N=true) (Me:Nat.ble N st.bx.length=true) (ib:mH.tk=st.tk) (jT:iV st.bx N N st.tk.length mH.bx (st.bx.take N)) (oN:Hk st.bx N st.tk.length st.sl mH.sl)
  (hk:rk X c k mH):rk X c k st:=by
 intro E a w h;obtain ⟨E',h'⟩:=Hl h N (nL hN) (nL Me) jT ib oN;exact hk E' a w h'
theorem dI {n0 m0:Nat} {st st':St} (n:Nat) (q:TkE) (hq:q.new=true) (hn:Nat.ble n st.bx.length=true) (h3:st.tk ++ [q]=st'.tk) (h2:WeLL n st.tk.length st'.tk (st.bx.take n) st'.bx) (h4:Nat.ble n0 n=true) (h5:Nat.ble m0 st.tk.length=true)
  (h:lB n st.tk.length st'.tk st.sl st'.sl):u3 n0 m0 st st':=by
 have hl:(st.bx.take n).length=n:=by
  have:=nL hn;rw [List.length_take];omega
 exact ⟨st.tk,[],[q],st.bx.take n,st.bx.drop n,by simpa using h5,by rw [hl];simpa using h4,by simp,h3.symm,by simpa using hq,(List.take_append_drop n st.bx).symm,by rw [hl];exact h2,by rw [hl];exact h⟩
end
end Dv
end Go.Proofs.YtfifjddnnmfeoaaGreat
namespace Go.Proofs.YtfifjddnnmfeoaaGreat
namespace Dv
open Go Go.RowKit
section
variable {X:Ctx} {st:St} {k:List It} {E:En} {a:Act} {w:World}
theorem iw {f:FuncId} {rest DA cs cs':List DV} {i d:Nat} (iP:Enters X.P f) (hd:dq X.nt st.sl (some d)=true) (jT:st.bx[i]? = some cs) (bE:CcL [] 0 0 0 cs' cs) (ha:CcL [] 0 0 0 DA rest)
  {Φ:DV->List (List DV)->List TkE->Prop} (hc:Ev X.P f (.loc 0 0 :: DA) [cs'] [] Φ) (ia:∀ r os tk,Φ r os tk->clB 0 0 r=true/\∀ mM∈os,clB.clL 0 0 mM=true)
  (hk:∀ r mM,Φ r [mM] []->go X 4000 k ⟨(d,⟨[],r⟩) :: st.sl,st.bx.set i mM,st.tk⟩) (aX:X.still=false:=by exact rfl) (hX:X.bt=[]:=by exact rfl):ct X f (.loc i 0 :: rest) (some d) k st:=by
 refine ⟨iP,aX,fun E a w vs h hv=>?_⟩;simp only [RvL] at hv;obtain ⟨v1,vr,rfl,h1,hvr⟩:=hv;unfold Rv at h1;obtain ⟨b,hb,rfl⟩:=h1;obtain ⟨b',ty,arr,cJ,hw,qP⟩:=h.env.cL i cs jT;rw [hb] at cJ;simp only [oI] at cJ;subst cJ;have qW:b∈E.β:=mG hb;have KD:=h.env.aK qW
 let E1:En:=⟨E.c,[b],[],[]⟩
 have hx1:Ext E.cl E1:=⟨fun _ _ h=>h,fun j b hj=>by simp [En.cl] at hj,fun k q hk=>by simp [En.cl] at hk⟩;have hfz:CK E E.cl [] 0:=⟨fun _ _ h=>h,fun i cs _ hi=>by simp at hi⟩
 have Rq:Env E1 [cs'] w:={
  len:=rfl
  tl:=rfl
  cL:=fun j IJ hj=>by
   cases j with
   | succ j=>simp at hj
   | zero=>
    simp only [List.getElem?_cons_zero,oI] at hj;subst hj;refine ⟨b,ty,arr,rfl,hw,RvL.mono hx1 (CcL.sound hfz (A5.zero _ _) bE qP.1),qP.2⟩
  inj:=by simp [E1]
  sub:=h.env.sub
  pc:=fun x v hx hm=>by
   simp only [E1,List.mem_singleton] at hm;exact h.env.pc x v hx (by rw [hm];exact qW)
  bQ:=by simp [E1]
  gf:=by simp [E1] }
 have oi:RvL E1 (.loc 0 0 :: DA) (.pointer (some ⟨b,0,none⟩) :: vr):=rvL_cons (by unfold Rv;exact ⟨b,rfl,rfl⟩) (RvL.mono hx1 (CcL.sound hfz (A5.zero _ _) ha hvr));refine (hc E1 w _ Rq rfl oi).mono ?_;rintro e w' ⟨v,rfl,hm,_,r,os,E2,he,hβ,ib,hn,Kl,hΦ⟩;have ht0:E2.tk=[]:=List.eq_nil_of_length_eq_zero ib;rw [ht0] at hΦ
 obtain ⟨mM,rfl⟩:∃ mM,os=[mM]:=by
  have:=he.len;rw [hβ] at this
  match os,this with
  | [x],_=>exact ⟨x,rfl⟩
 obtain ⟨Rr,Rs⟩:=ia _ _ _ hΦ
 have hh:∀ j,j < w.heap.size->j≠b->w'.heap[j]? = w.heap[j]?:=fun j hj aM=>hm.block j hj (by
  rintro (h1 | ⟨y,h1,_⟩)
  ·simp only [E1,List.mem_singleton] at h1;exact aM h1
  ·simp [E1] at h1)
 have cC:∀ x v,E2.c x=some v->E.c x=some v∨w.heap.size<=x.block:=fun x v hx=>by
  rcases hn.cn x v hx with h1 | h1 | ⟨y,h1,_⟩
  ·exact .inl h1
  ·exact .inr h1
  ·simp [E1] at h1
 let E':En:=⟨E2.c,E.β,E.tk,E.τ⟩
 have hx:Ext E E':=⟨hn.c,fun _ _ h=>h,fun _ q h=>⟨q,h,.inl ⟨rfl,rfl⟩⟩⟩;have Bd:Ext (E2.cut 0 0) E':=⟨fun _ _ h=>h,fun j b hj=>by simp [En.cut] at hj,fun k q hk=>by simp [En.cut] at hk⟩
 have bA:Rel X E' ⟨st.sl,st.bx.set i mM,st.tk⟩ a w':=by
  refine cg h hx ?_ h.tk ?_ (h.fr.bo hm.os hm.tape hm.output hm.size fun j hj=>?_) (kA aX) (.nil hX)
  ·exact {
    len:=by rw [List.length_set];exact h.env.len
    tl:=h.env.tl
    cL:=fun j IJ hj=>by
     by_cases J9:j=i
     ·subst J9;rw [List.getElem?_set_self (gS jT).1] at hj;simp only [oI] at hj;subst hj;obtain ⟨b2,Rt,KE,eF,ml,j8⟩:=he.cL 0 mM rfl;rw [hβ] at eF;simp only [E1,List.getElem?_cons_zero,oI] at eF;subst eF;exact ⟨b,Rt,KE,hb,ml,RvL.mono Bd (RvL.cut j8.1 (Rs mM (by simp))),j8.2⟩
     ·rw [List.getElem?_set_ne (Ne.symm J9)] at hj;obtain ⟨bj,Ru,KF,IK,Ng,C4⟩:=h.env.cL j IJ hj
      have aM:bj≠b:=by
       rintro rfl;exact J9 ((List.getElem?_inj (gS IK).1 h.env.inj).1 (IK.trans hb.symm))
      exact ⟨bj,Ru,KF,IK,by rw [hh bj (bg Ng) aM];exact Ng,C4.mono hx⟩
    inj:=h.env.inj
    sub:=he.sub
    pc:=fun x v hc nv=>by
     rcases cC x v hc with h1 | h1
     ·exact h.env.pc x v h1 nv
     ·have:=h.env.aK nv;omega
    bQ:=fun k q y hq hy=>by
     rcases h.env.bQ k q y hq hy with h1 | ⟨g',cap,cur,rfl,h1,h2,h3,h4,h5,h6⟩
     ·exact .inl h1
     ·refine .inr ⟨g',cap,cur,rfl,by rw [hh g' (bg h1) (fun e=>h5 (by rw [e];exact qW))];exact h1,⟨h2.1,h2.2.mono hn.c⟩,h3,h4,h5,fun x v hc hg=>?_⟩;rcases cC x v hc with h7 | h7
      ·exact h6 x v h7 hg
      ·have:=bg h1;omega
    gf:=h.env.gf }
  ·exact {
    c:=fun x v hc=>hn.c x v (h.nw.c x v hc)
    cn:=fun x v hc=>by
     rcases cC x v hc with h1 | h1
     ·exact h.nw.cn x v h1
     ·have:=h.fr.size;exact .inr (.inl (by omega))
    β:=h.nw.β
    tk:=h.nw.tk
    tn:=h.nw.tn
    l0:=h.nw.l0 }
  ·by_cases J2:j=b
   ·left;obtain ⟨r0,hr0,x3⟩:=h.nw.β;rw [hr0] at qW;rcases List.mem_append.1 qW with qW | qW
    ·exact .inl (.inl (J2 ▸ qW))
    ·exact .inr (J2 ▸ x3 b qW)
   ·exact .inr (hh j hj J2)
 exact go_sound 4000 _ _ (hk r mM hΦ) E' _ w' (aG bA hd r v (Rv.mono Bd (Rv.cut Kl Rr)))
end
end Dv
end Go.Proofs.YtfifjddnnmfeoaaGreat
namespace Go.Proofs.YtfifjddnnmfeoaaGreat
namespace Dv
open Go
def tt:TT:=.ah 192 ⟨1,false,.fn,[.nilFunc]⟩ (.ah 96 ⟨1,false,.fn,[.nilFunc]⟩ (.ah 45 ⟨4,true,.st [(0,3),(1,3),(2,9),(3,43)],[.int .i64 0,.int .i64 0,.string ByteArray.empty,.slice none 0 0]⟩ (.ah 22 ⟨1,false,.sl 137 3 32,[.slice none 0 0]⟩ (.ah 11 ⟨1,false,.str,[.string ByteArray.empty]⟩ (.ah 6 ⟨1,false,.int .u8,[.int .u8 0]⟩ (.ah 3 ⟨1,false,.int .i64,[.int .i64 0]⟩ (.ah 2 ⟨1,false,.int .i64,[.int .i64 0]⟩ (.ah 1 ⟨1,false,.fn,[.nilFunc]⟩ (.nil) (.nil)) (.nil)) (.ah 5 ⟨1,false,.int .u8,[.int .u8 0]⟩ (.ah 4 ⟨1,false,.bool,[.bool false]⟩ (.nil) (.nil)) (.nil))) (.ah 9 ⟨1,false,.str,[.string ByteArray.empty]⟩ (.ah 8 ⟨4,true,.st [(0,2),(1,3),(2,4),(3,6)],[.int .i64 0,.int .i64 0,.bool false,.int .u8 0]⟩ (.ah 7 ⟨4,true,.st [(0,2),(1,3),(2,4),(3,6)],[.int .i64 0,.int .i64 0,.bool false,.int .u8 0]⟩ (.nil) (.nil)) (.nil)) (.ah 10 ⟨1,false,.str,[.string ByteArray.empty]⟩ (.nil) (.nil)))) (.ah 17 ⟨1,false,.ptr 383,[.pointer none]⟩ (.ah 14 ⟨2,true,.st [(0,9),(1,12)],[.string ByteArray.empty,.int .u64 0]⟩ (.ah 13 ⟨2,true,.st [(0,9),(1,12)],[.string ByteArray.empty,.int .u64 0]⟩ (.ah 12 ⟨1,false,.int .u64,[.int .u64 0]⟩ (.nil) (.nil)) (.nil)) (.ah 16 ⟨1,false,.ptr 376,[.pointer none]⟩ (.ah 15 ⟨1,false,.ptr 373,[.pointer none]⟩ (.nil) (.nil)) (.nil))) (.ah 20 ⟨1,false,.nq,[.nilIface]⟩ (.ah 19 ⟨1,true,.st [(0,17)],[.pointer none]⟩ (.ah 18 ⟨1,true,.st [(0,17)],[.pointer none]⟩ (.nil) (.nil)) (.nil)) (.ah 21 ⟨1,false,.int .i32,[.int .i32 0]⟩ (.nil) (.nil))))) (.ah 34 ⟨1,false,.sl 146 4 48,[.slice none 0 0]⟩ (.ah 29 ⟨1,false,.fn,[.nilFunc]⟩ (.ah 26 ⟨1,false,.fn,[.nilFunc]⟩ (.ah 25 ⟨1,false,.ptr 116,[.pointer none]⟩ (.ah 24 ⟨1,false,.fn,[.nilFunc]⟩ (.nil) (.nil)) (.nil)) (.ah 28 ⟨1,false,.sl 3 1 8,[.slice none 0 0]⟩ (.ah 27 ⟨1,false,.sl 9 1 16,[.slice none 0 0]⟩ (.nil) (.nil)) (.nil))) (.ah 32 ⟨1,false,.fn,[.nilFunc]⟩ (.ah 31 ⟨1,false,.fn,[.nilFunc]⟩ (.ah 30 ⟨1,false,.fn,[.nilFunc]⟩ (.nil) (.nil)) (.nil)) (.ah 33 ⟨1,false,.sl 38 2 24,[.slice none 0 0]⟩ (.nil) (.nil)))) (.ah 40 ⟨9,true,.st [(0,3),(1,3),(2,3),(3,3),(4,3),(5,33),(6,36),(7,38)],[.int .i64 0,.int .i64 0,.int .i64 0,.int .i64 0,.int .i64 0,.slice none 0 0,.slice none 0 0,.string ByteArray.empty,.int .i64 0]⟩ (.ah 37 ⟨2,true,.st [(0,9),(1,3)],[.string ByteArray.empty,.int .i64 0]⟩ (.ah 36 ⟨1,false,.sl 144 18 224,[.slice none 0 0]⟩ (.ah 35 ⟨1,false,.sl 109 11 136,[.slice none 0 0]⟩ (.nil) (.nil)) (.nil)) (.ah 39 ⟨9,true,.st [(0,3),(1,3),(2,3),(3,3),(4,3),(5,33),(6,36),(7,38)],[.int .i64 0,.int .i64 0,.int .i64 0,.int .i64 0,.int .i64 0,.slice none 0 0,.slice none 0 0,.string ByteArray.empty,.int .i64 0]⟩ (.ah 38 ⟨2,true,.st [(0,9),(1,3)],[.string ByteArray.empty,.int .i64 0]⟩ (.nil) (.nil)) (.nil))) (.ah 43 ⟨1,false,.sl 45 4 56,[.slice none 0 0]⟩ (.ah 42 ⟨12,true,.st [(0,33),(1,34),(2,35),(3,40)],[.slice none 0 0,.slice none 0 0,.slice none 0 0,.int .i64 0,.int .i64 0,.int .i64 0,.int .i64 0,.int .i64 0,.slice none 0 0,.slice none 0 0,.string ByteArray.empty,.int .i64 0]⟩ (.ah 41 ⟨12,true,.st [(0,33),(1,34),(2,35),(3,40)],[.slice none 0 0,.slice none 0 0,.slice none 0 0,.int .i64 0,.int .i64 0,.int .i64 0,.int .i64 0,.int .i64 0,.slice none 0 0,.slice none 0 0,.string ByteArray.empty,.int .i64 0]⟩ (.nil) (.nil)) (.nil)) (.ah 44 ⟨4,true,.st [(0,3),(1,3),(2,9),(3,43)],[.int .i64 0,.int .i64 0,.string ByteArray.empty,.slice none 0 0]⟩ (.nil) (.nil)))))) (.ah 73 ⟨1,false,.fn,[.nilFunc]⟩ (.ah 59 ⟨1,false,.fn,[.nilFunc]⟩ (.ah 52 ⟨1,false,.int .i64,[.int .i64 0]⟩ (.ah 48 ⟨6,true,.st [(0,3),(1,3),(2,3),(3,9),(4,33),(5,46)],[.int .i64 0,.int .i64 0,.int .i64 0,.string ByteArray.empty,.slice none 0 0,.slice none 0 0]⟩ (.ah 47 ⟨6,true,.st [(0,3),(1,3),(2,3),(3,9),(4,33),(5,46)],[.int .i64 0,.int .i64 0,.int .i64 0,.string ByteArray.empty,.slice none 0 0,.slice none 0 0]⟩ (.ah 46 ⟨1,false,.sl 48 6 88,[.slice none 0 0]⟩ (.nil) (.nil)) (.nil)) (.ah 51 ⟨1,false,.fn,[.nilFunc]⟩ (.ah 50 ⟨1,false,.fn,[.nilFunc]⟩ (.nil) (.nil)) (.nil))) (.ah 56 ⟨1,false,.fn,[.nilFunc]⟩ (.ah 54 ⟨2,true,.st [(0,52),(1,3)],[.int .i64 0,.int .i64 0]⟩ (.ah 53 ⟨2,true,.st [(0,52),(1,3)],[.int .i64 0,.int .i64 0]⟩ (.nil) (.nil)) (.nil)) (.ah 57 ⟨1,false,.fn,[.nilFunc]⟩ (.nil) (.nil)))) (.ah 67 ⟨1,false,.fn,[.nilFunc]⟩ (.ah 63 ⟨1,false,.fn,[.nilFunc]⟩ (.ah 61 ⟨1,false,.fn,[.nilFunc]⟩ (.ah 60 ⟨1,false,.fn,[.nilFunc]⟩ (.nil) (.nil)) (.nil)) (.ah 65 ⟨1,false,.fn,[.nilFunc]⟩ (.ah 64 ⟨1,false,.sl 22 1 24,[.slice none 0 0]⟩ (.nil) (.nil)) (.nil))) (.ah 70 ⟨1,false,.fn,[.nilFunc]⟩ (.ah 69 ⟨1,false,.fn,[.nilFunc]⟩ (.ah 68 ⟨1,false,.fn,[.nilFunc]⟩ (.nil) (.nil)) (.nil)) (.ah 72 ⟨1,false,.fn,[.nilFunc]⟩ (.nil) (.nil))))) (.ah 84 ⟨2,true,.st [(0,3),(1,3)],[.int .i64 0,.int .i64 0]⟩ (.ah 79 ⟨1,false,.fn,[.nilFunc]⟩ (.ah 76 ⟨1,false,.sl 155 7 88,[.slice none 0 0]⟩ (.ah 75 ⟨1,false,.sl 206 1 24,[.slice none 0 0]⟩ (.ah 74 ⟨1,false,.fn,[.nilFunc]⟩ (.nil) (.nil)) (.nil)) (.ah 78 ⟨4,true,.st [(0,33),(1,75),(2,76),(3,3)],[.slice none 0 0,.slice none 0 0,.slice none 0 0,.int .i64 0]⟩ (.ah 77 ⟨4,true,.st [(0,33),(1,75),(2,76),(3,3)],[.slice none 0 0,.slice none 0 0,.slice none 0 0,.int .i64 0]⟩ (.nil) (.nil)) (.nil))) (.ah 82 ⟨1,false,.fn,[.nilFunc]⟩ (.ah 81 ⟨1,false,.fn,[.nilFunc]⟩ (.ah 80 ⟨1,false,.fn,[.nilFunc]⟩ (.nil) (.nil)) (.nil)) (.ah 83 ⟨1,false,.fn,[.nilFunc]⟩ (.nil) (.nil)))) (.ah 91 ⟨1,false,.fn,[.nilFunc]⟩ (.ah 87 ⟨4,true,.st [(0,3),(1,3),(2,9),(3,86)],[.int .i64 0,.int .i64 0,.string ByteArray.empty,.slice none 0 0]⟩ (.ah 86 ⟨1,false,.sl 88 4 56,[.slice none 0 0]⟩ (.ah 85 ⟨2,true,.st [(0,3),(1,3)],[.int .i64 0,.int .i64 0]⟩ (.nil) (.nil)) (.nil)) (.ah 90 ⟨1,false,.fn,[.nilFunc]⟩ (.ah 88 ⟨4,true,.st [(0,3),(1,3),(2,9),(3,86)],[.int .i64 0,.int .i64 0,.string ByteArray.empty,.slice none 0 0]⟩ (.nil) (.nil)) (.nil))) (.ah 94 ⟨1,false,.fn,[.nilFunc]⟩ (.ah 93 ⟨1,false,.fn,[.nilFunc]⟩ (.ah 92 ⟨1,false,.fn,[.nilFunc]⟩ (.nil) (.nil)) (.nil)) (.ah 95 ⟨1,false,.ptr 182,[.pointer none]⟩ (.nil) (.nil))))))) (.ah 145 ⟨4,true,.st [(0,38),(2,38)],[.string ByteArray.empty,.int .i64 0,.string ByteArray.empty,.int .i64 0]⟩ (.ah 121 ⟨1,false,.fn,[.nilFunc]⟩ (.ah 109 ⟨11,true,.st [(0,38),(2,40)],[.string ByteArray.empty,.int .i64 0,.int .i64 0,.int .i64 0,.int .i64 0,.int .i64 0,.int .i64 0,.slice none 0 0,.slice none 0 0,.string ByteArray.empty,.int .i64 0]⟩ (.ah 103 ⟨2,true,.st [(0,3),(1,3)],[.int .i64 0,.int .i64 0]⟩ (.ah 100 ⟨7,true,.st [(0,25),(1,25),(2,28),(3,95),(4,98),(5,3),(6,22)],[.pointer none,.pointer none,.slice none 0 0,.pointer none,.map none,.int .i64 0,.slice none 0 0]⟩ (.ah 99 ⟨7,true,.st [(0,25),(1,25),(2,28),(3,95),(4,98),(5,3),(6,22)],[.pointer none,.pointer none,.slice none 0 0,.pointer none,.map none,.int .i64 0,.slice none 0 0]⟩ (.ah 97 ⟨1,false,.ptr 100,[.pointer none]⟩ (.nil) (.nil)) (.nil)) (.ah 102 ⟨2,true,.st [(0,3),(1,3)],[.int .i64 0,.int .i64 0]⟩ (.ah 101 ⟨1,false,.fn,[.nilFunc]⟩ (.nil) (.nil)) (.nil))) (.ah 107 ⟨1,false,.fn,[.nilFunc]⟩ (.ah 106 ⟨1,false,.fn,[.nilFunc]⟩ (.ah 104 ⟨1,false,.fn,[.nilFunc]⟩ (.nil) (.nil)) (.nil)) (.ah 108 ⟨11,true,.st [(0,38),(2,40)],[.string ByteArray.empty,.int .i64 0,.int .i64 0,.int .i64 0,.int .i64 0,.int .i64 0,.int .i64 0,.slice none 0 0,.slice none 0 0,.string ByteArray.empty,.int .i64 0]⟩ (.nil) (.nil)))) (.ah 116 ⟨5,true,.st [(0,95),(1,113),(2,3),(3,114),(4,28)],[.pointer none,.slice none 0 0,.int .i64 0,.pointer none,.slice none 0 0]⟩ (.ah 113 ⟨1,false,.sl 125 7 88,[.slice none 0 0]⟩ (.ah 112 ⟨1,false,.ptr 118,[.pointer none]⟩ (.ah 111 ⟨1,false,.fn,[.nilFunc]⟩ (.nil) (.nil)) (.nil)) (.ah 115 ⟨5,true,.st [(0,95),(1,113),(2,3),(3,114),(4,28)],[.pointer none,.slice none 0 0,.int .i64 0,.pointer none,.slice none 0 0]⟩ (.ah 114 ⟨1,false,.ptr 255,[.pointer none]⟩ (.nil) (.nil)) (.nil))) (.ah 119 ⟨1,false,.fn,[.nilFunc]⟩ (.ah 118 ⟨15,true,.st [(0,42),(12,95),(13,25),(14,3)],[.slice none 0 0,.slice none 0 0,.slice none 0 0,.int .i64 0,.int .i64 0,.int .i64 0,.int .i64 0,.int .i64 0,.slice none 0 0,.slice none 0 0,.string ByteArray.empty,.int .i64 0,.pointer none,.pointer none,.int .i64 0]⟩ (.ah 117 ⟨15,true,.st [(0,42),(12,95),(13,25),(14,3)],[.slice none 0 0,.slice none 0 0,.slice none 0 0,.int .i64 0,.int .i64 0,.int .i64 0,.int .i64 0,.int .i64 0,.slice none 0 0,.slice none 0 0,.string ByteArray.empty,.int .i64 0,.pointer none,.pointer none,.int .i64 0]⟩ (.nil) (.nil)) (.nil)) (.ah 120 ⟨1,false,.fn,[.nilFunc]⟩ (.nil) (.nil))))) (.ah 134 ⟨1,false,.fn,[.nilFunc]⟩ (.ah 128 ⟨1,false,.fn,[.nilFunc]⟩ (.ah 124 ⟨7,true,.st [(0,3),(1,3),(2,3),(3,3),(4,3),(5,27),(6,123)],[.int .i64 0,.int .i64 0,.int .i64 0,.int .i64 0,.int .i64 0,.slice none 0 0,.slice none 0 0]⟩ (.ah 123 ⟨1,false,.sl 176 10 88,[.slice none 0 0]⟩ (.ah 122 ⟨1,false,.fn,[.nilFunc]⟩ (.nil) (.nil)) (.nil)) (.ah 127 ⟨1,false,.fn,[.nilFunc]⟩ (.ah 125 ⟨7,true,.st [(0,3),(1,3),(2,3),(3,3),(4,3),(5,27),(6,123)],[.int .i64 0,.int .i64 0,.int .i64 0,.int .i64 0,.int .i64 0,.slice none 0 0,.slice none 0 0]⟩ (.nil) (.nil)) (.nil))) (.ah 131 ⟨1,false,.fn,[.nilFunc]⟩ (.ah 130 ⟨1,false,.fn,[.nilFunc]⟩ (.ah 129 ⟨1,false,.fn,[.nilFunc]⟩ (.nil) (.nil)) (.nil)) (.ah 133 ⟨1,false,.fn,[.nilFunc]⟩ (.nil) (.nil)))) (.ah 140 ⟨1,false,.fn,[.nilFunc]⟩ (.ah 137 ⟨3,true,.st [(0,3),(1,3),(2,9)],[.int .i64 0,.int .i64 0,.string ByteArray.empty]⟩ (.ah 136 ⟨3,true,.st [(0,3),(1,3),(2,9)],[.int .i64 0,.int .i64 0,.string ByteArray.empty]⟩ (.ah 135 ⟨1,false,.fn,[.nilFunc]⟩ (.nil) (.nil)) (.nil)) (.ah 139 ⟨1,false,.fn,[.nilFunc]⟩ (.ah 138 ⟨1,false,.fn,[.nilFunc]⟩ (.nil) (.nil)) (.nil))) (.ah 143 ⟨18,true,.st [(0,38),(2,4),(3,33),(4,3),(5,142),(9,40)],[.string ByteArray.empty,.int .i64 0,.bool false,.slice none 0 0,.int .i64 0,.int .i64 0,.int .i64 0,.int .i64 0,.slice none 0 0,.int .i64 0,.int .i64 0,.int .i64 0,.int .i64 0,.int .i64 0,.slice none 0 0,.slice none 0 0,.string ByteArray.empty,.int .i64 0]⟩ (.ah 142 ⟨4,true,.st [(0,3),(1,3),(2,3),(3,33)],[.int .i64 0,.int .i64 0,.int .i64 0,.slice none 0 0]⟩ (.ah 141 ⟨4,true,.st [(0,3),(1,3),(2,3),(3,33)],[.int .i64 0,.int .i64 0,.int .i64 0,.slice none 0 0]⟩ (.nil) (.nil)) (.nil)) (.ah 144 ⟨18,true,.st [(0,38),(2,4),(3,33),(4,3),(5,142),(9,40)],[.string ByteArray.empty,.int .i64 0,.bool false,.slice none 0 0,.int .i64 0,.int .i64 0,.int .i64 0,.int .i64 0,.slice none 0 0,.int .i64 0,.int .i64 0,.int .i64 0,.int .i64 0,.int .i64 0,.slice none 0 0,.slice none 0 0,.string ByteArray.empty,.int .i64 0]⟩ (.nil) (.nil)))))) (.ah 167 ⟨10,true,.st [(0,9),(1,4),(2,3),(3,3),(4,3),(5,3),(6,3),(7,3),(8,3),(9,3)],[.string ByteArray.empty,.bool false,.int .i64 0,.int .i64 0,.int .i64 0,.int .i64 0,.int .i64 0,.int .i64 0,.int .i64 0,.int .i64 0]⟩ (.ah 156 ⟨1,false,.fn,[.nilFunc]⟩ (.ah 151 ⟨1,false,.fn,[.nilFunc]⟩ (.ah 148 ⟨1,false,.fn,[.nilFunc]⟩ (.ah 147 ⟨1,false,.fn,[.nilFunc]⟩ (.ah 146 ⟨4,true,.st [(0,38),(2,38)],[.string ByteArray.empty,.int .i64 0,.string ByteArray.empty,.int .i64 0]⟩ (.nil) (.nil)) (.nil)) (.ah 150 ⟨1,false,.sl 40 9 112,[.slice none 0 0]⟩ (.ah 149 ⟨1,false,.fn,[.nilFunc]⟩ (.nil) (.nil)) (.nil))) (.ah 154 ⟨7,true,.st [(0,3),(1,3),(2,3),(3,3),(4,3),(5,27),(6,153)],[.int .i64 0,.int .i64 0,.int .i64 0,.int .i64 0,.int .i64 0,.slice none 0 0,.slice none 0 0]⟩ (.ah 153 ⟨1,false,.sl 168 10 88,[.slice none 0 0]⟩ (.ah 152 ⟨1,false,.fn,[.nilFunc]⟩ (.nil) (.nil)) (.nil)) (.ah 155 ⟨7,true,.st [(0,3),(1,3),(2,3),(3,3),(4,3),(5,27),(6,153)],[.int .i64 0,.int .i64 0,.int .i64 0,.int .i64 0,.int .i64 0,.slice none 0 0,.slice none 0 0]⟩ (.nil) (.nil)))) (.ah 162 ⟨1,false,.fn,[.nilFunc]⟩ (.ah 159 ⟨1,false,.sl 5 1 1,[.slice none 0 0]⟩ (.ah 158 ⟨1,false,.ptr 161,[.pointer none]⟩ (.ah 157 ⟨1,false,.fn,[.nilFunc]⟩ (.nil) (.nil)) (.nil)) (.ah 161 ⟨2,true,.st [(0,158),(1,159)],[.pointer none,.slice none 0 0]⟩ (.ah 160 ⟨2,true,.st [(0,158),(1,159)],[.pointer none,.slice none 0 0]⟩ (.nil) (.nil)) (.nil))) (.ah 165 ⟨1,false,.fn,[.nilFunc]⟩ (.ah 164 ⟨1,false,.fn,[.nilFunc]⟩ (.ah 163 ⟨1,false,.fn,[.nilFunc]⟩ (.nil) (.nil)) (.nil)) (.ah 166 ⟨1,false,.fn,[.nilFunc]⟩ (.nil) (.nil))))) (.ah 178 ⟨1,false,.ptr 260,[.pointer none]⟩ (.ah 173 ⟨1,false,.fn,[.nilFunc]⟩ (.ah 170 ⟨1,false,.fn,[.nilFunc]⟩ (.ah 169 ⟨1,false,.fn,[.nilFunc]⟩ (.ah 168 ⟨10,true,.st [(0,9),(1,4),(2,3),(3,3),(4,3),(5,3),(6,3),(7,3),(8,3),(9,3)],[.string ByteArray.empty,.bool false,.int .i64 0,.int .i64 0,.int .i64 0,.int .i64 0,.int .i64 0,.int .i64 0,.int .i64 0,.int .i64 0]⟩ (.nil) (.nil)) (.nil)) (.ah 172 ⟨1,false,.fn,[.nilFunc]⟩ (.ah 171 ⟨1,false,.fn,[.nilFunc]⟩ (.nil) (.nil)) (.nil))) (.ah 176 ⟨10,true,.st [(0,9),(1,4),(2,3),(3,3),(4,3),(5,3),(6,3),(7,3),(8,3),(9,3)],[.string ByteArray.empty,.bool false,.int .i64 0,.int .i64 0,.int .i64 0,.int .i64 0,.int .i64 0,.int .i64 0,.int .i64 0,.int .i64 0]⟩ (.ah 175 ⟨1,false,.fn,[.nilFunc]⟩ (.ah 174 ⟨1,false,.fn,[.nilFunc]⟩ (.nil) (.nil)) (.nil)) (.ah 177 ⟨1,false,.fn,[.nilFunc]⟩ (.nil) (.nil)))) (.ah 185 ⟨1,false,.fn,[.nilFunc]⟩ (.ah 181 ⟨2051,true,.st [(0,27),(1,114),(2,178),(3,180),(1027,180)],(.slice none 0 0 :: .pointer none :: .pointer none :: List.replicate 2048 (.int .i64 0))⟩ (.ah 180 ⟨1024,true,.ar 32 32,(List.replicate 1024 (.int .i64 0))⟩ (.ah 179 ⟨32,true,.ar 32 1,[.int .i64 0,.int .i64 0,.int .i64 0,.int .i64 0,.int .i64 0,.int .i64 0,.int .i64 0,.int .i64 0,.int .i64 0,.int .i64 0,.int .i64 0,.int .i64 0,.int .i64 0,.int .i64 0,.int .i64 0,.int .i64 0,.int .i64 0,.int .i64 0,.int .i64 0,.int .i64 0,.int .i64 0,.int .i64 0,.int .i64 0,.int .i64 0,.int .i64 0,.int .i64 0,.int .i64 0,.int .i64 0,.int .i64 0,.int .i64 0,.int .i64 0,.int .i64 0]⟩ (.nil) (.nil)) (.nil)) (.ah 183 ⟨1,false,.fn,[.nilFunc]⟩ (.ah 182 ⟨2051,true,.st [(0,27),(1,114),(2,178),(3,180),(1027,180)],(.slice none 0 0 :: .pointer none :: .pointer none :: List.replicate 2048 (.int .i64 0))⟩ (.nil) (.nil)) (.nil))) (.ah 189 ⟨1,false,.fn,[.nilFunc]⟩ (.ah 187 ⟨1,false,.sl 257 2 16,[.slice none 0 0]⟩ (.ah 186 ⟨1,false,.fn,[.nilFunc]⟩ (.nil) (.nil)) (.nil)) (.ah 191 ⟨1,false,.fn,[.nilFunc]⟩ (.nil) (.nil)))))))) (.ah 290 ⟨1,false,.fn,[.nilFunc]⟩ (.ah 242 ⟨1,false,.fn,[.nilFunc]⟩ (.ah 215 ⟨1,false,.nq,[.nilIface]⟩ (.ah 204 ⟨1,false,.fn,[.nilFunc]⟩ (.ah 199 ⟨1,false,.fn,[.nilFunc]⟩ (.ah 195 ⟨1,false,.fn,[.nilFunc]⟩ (.ah 194 ⟨1,false,.fn,[.nilFunc]⟩ (.ah 193 ⟨1,false,.fn,[.nilFunc]⟩ (.nil) (.nil)) (.nil)) (.ah 198 ⟨1,false,.fn,[.nilFunc]⟩ (.ah 196 ⟨1,false,.sl 33 1 24,[.slice none 0 0]⟩ (.nil) (.nil)) (.nil))) (.ah 202 ⟨1,false,.fn,[.nilFunc]⟩ (.ah 201 ⟨1,false,.fn,[.nilFunc]⟩ (.ah 200 ⟨1,false,.fn,[.nilFunc]⟩ (.nil) (.nil)) (.nil)) (.ah 203 ⟨1,false,.fn,[.nilFunc]⟩ (.nil) (.nil)))) (.ah 210 ⟨1,false,.fn,[.nilFunc]⟩ (.ah 207 ⟨1,false,.fn,[.nilFunc]⟩ (.ah 206 ⟨1,false,.sl 4 1 1,[.slice none 0 0]⟩ (.ah 205 ⟨1,false,.fn,[.nilFunc]⟩ (.nil) (.nil)) (.nil)) (.ah 209 ⟨1,false,.fn,[.nilFunc]⟩ (.ah 208 ⟨1,false,.fn,[.nilFunc]⟩ (.nil) (.nil)) (.nil))) (.ah 213 ⟨20,true,.ar 20 1,[.int .u8 0,.int .u8 0,.int .u8 0,.int .u8 0,.int .u8 0,.int .u8 0,.int .u8 0,.int .u8 0,.int .u8 0,.int .u8 0,.int .u8 0,.int .u8 0,.int .u8 0,.int .u8 0,.int .u8 0,.int .u8 0,.int .u8 0,.int .u8 0,.int .u8 0,.int .u8 0]⟩ (.ah 212 ⟨1,false,.int .u64,[.int .u64 0]⟩ (.ah 211 ⟨1,false,.fn,[.nilFunc]⟩ (.nil) (.nil)) (.nil)) (.ah 214 ⟨1,false,.nq,[.nilIface]⟩ (.nil) (.nil))))) (.ah 229 ⟨1,false,.fn,[.nilFunc]⟩ (.ah 224 ⟨1,false,.fn,[.nilFunc]⟩ (.ah 220 ⟨1,false,.fn,[.nilFunc]⟩ (.ah 218 ⟨1,false,.fn,[.nilFunc]⟩ (.ah 216 ⟨1,false,.fn,[.nilFunc]⟩ (.nil) (.nil)) (.nil)) (.ah 223 ⟨1,false,.fn,[.nilFunc]⟩ (.ah 221 ⟨1,false,.int .u64,[.int .u64 0]⟩ (.nil) (.nil)) (.nil))) (.ah 227 ⟨1,false,.fn,[.nilFunc]⟩ (.ah 226 ⟨1,false,.fn,[.nilFunc]⟩ (.ah 225 ⟨1,false,.fn,[.nilFunc]⟩ (.nil) (.nil)) (.nil)) (.ah 228 ⟨1,false,.fn,[.nilFunc]⟩ (.nil) (.nil)))) (.ah 236 ⟨1,false,.fn,[.nilFunc]⟩ (.ah 232 ⟨3,true,.st [(0,25),(1,95),(2,3)],[.pointer none,.pointer none,.int .i64 0]⟩ (.ah 231 ⟨3,true,.st [(0,25),(1,95),(2,3)],[.pointer none,.pointer none,.int .i64 0]⟩ (.ah 230 ⟨1,false,.fn,[.nilFunc]⟩ (.nil) (.nil)) (.nil)) (.ah 235 ⟨1,false,.fn,[.nilFunc]⟩ (.ah 234 ⟨1,false,.fn,[.nilFunc]⟩ (.nil) (.nil)) (.nil))) (.ah 240 ⟨1,false,.fn,[.nilFunc]⟩ (.ah 238 ⟨3,true,.st [(0,9),(1,9),(2,27)],[.string ByteArray.empty,.string ByteArray.empty,.slice none 0 0]⟩ (.ah 237 ⟨3,true,.st [(0,9),(1,9),(2,27)],[.string ByteArray.empty,.string ByteArray.empty,.slice none 0 0]⟩ (.nil) (.nil)) (.nil)) (.ah 241 ⟨1,false,.ptr 5,[.pointer none]⟩ (.nil) (.nil)))))) (.ah 264 ⟨1,false,.ptr 266,[.pointer none]⟩ (.ah 253 ⟨1,false,.fn,[.nilFunc]⟩ (.ah 248 ⟨1,false,.fn,[.nilFunc]⟩ (.ah 245 ⟨1,false,.fn,[.nilFunc]⟩ (.ah 244 ⟨1,false,.fn,[.nilFunc]⟩ (.ah 243 ⟨1,false,.fn,[.nilFunc]⟩ (.nil) (.nil)) (.nil)) (.ah 247 ⟨1,false,.fn,[.nilFunc]⟩ (.ah 246 ⟨1,false,.fn,[.nilFunc]⟩ (.nil) (.nil)) (.nil))) (.ah 251 ⟨1,false,.fn,[.nilFunc]⟩ (.ah 250 ⟨1,false,.fn,[.nilFunc]⟩ (.ah 249 ⟨1,false,.fn,[.nilFunc]⟩ (.nil) (.nil)) (.nil)) (.ah 252 ⟨1,false,.fn,[.nilFunc]⟩ (.nil) (.nil)))) (.ah 259 ⟨1,true,.st [(0,258)],[.slice none 0 0]⟩ (.ah 256 ⟨1,false,.fn,[.nilFunc]⟩ (.ah 255 ⟨2,true,.st [(0,27),(1,28)],[.slice none 0 0,.slice none 0 0]⟩ (.ah 254 ⟨2,true,.st [(0,27),(1,28)],[.slice none 0 0,.slice none 0 0]⟩ (.nil) (.nil)) (.nil)) (.ah 258 ⟨1,false,.sl 212 1 8,[.slice none 0 0]⟩ (.ah 257 ⟨2,true,.ar 2 1,[.int .i64 0,.int .i64 0]⟩ (.nil) (.nil)) (.nil))) (.ah 262 ⟨1,false,.fn,[.nilFunc]⟩ (.ah 261 ⟨1,false,.fn,[.nilFunc]⟩ (.ah 260 ⟨1,true,.st [(0,258)],[.slice none 0 0]⟩ (.nil) (.nil)) (.nil)) (.ah 263 ⟨1,false,.fn,[.nilFunc]⟩ (.nil) (.nil))))) (.ah 276 ⟨1,false,.fn,[.nilFunc]⟩ (.ah 270 ⟨1,false,.fn,[.nilFunc]⟩ (.ah 267 ⟨1,false,.fn,[.nilFunc]⟩ (.ah 266 ⟨1,true,.st [(0,3)],[.int .i64 0]⟩ (.ah 265 ⟨1,true,.st [(0,3)],[.int .i64 0]⟩ (.nil) (.nil)) (.nil)) (.ah 269 ⟨1,false,.fn,[.nilFunc]⟩ (.ah 268 ⟨1,false,.fn,[.nilFunc]⟩ (.nil) (.nil)) (.nil))) (.ah 274 ⟨1,false,.fn,[.nilFunc]⟩ (.ah 272 ⟨1,false,.fn,[.nilFunc]⟩ (.ah 271 ⟨1,false,.fn,[.nilFunc]⟩ (.nil) (.nil)) (.nil)) (.ah 275 ⟨1,false,.fn,[.nilFunc]⟩ (.nil) (.nil)))) (.ah 284 ⟨1,false,.fn,[.nilFunc]⟩ (.ah 280 ⟨1,false,.fn,[.nilFunc]⟩ (.ah 278 ⟨1,false,.int .u32,[.int .u32 0]⟩ (.ah 277 ⟨1,false,.fn,[.nilFunc]⟩ (.nil) (.nil)) (.nil)) (.ah 283 ⟨1,false,.fn,[.nilFunc]⟩ (.ah 282 ⟨1,false,.fn,[.nilFunc]⟩ (.nil) (.nil)) (.nil))) (.ah 287 ⟨1,false,.fn,[.nilFunc]⟩ (.ah 286 ⟨1,false,.fn,[.nilFunc]⟩ (.ah 285 ⟨1,false,.fn,[.nilFunc]⟩ (.nil) (.nil)) (.nil)) (.ah 288 ⟨1,false,.fn,[.nilFunc]⟩ (.nil) (.nil))))))) (.ah 340 ⟨1,false,.fn,[.nilFunc]⟩ (.ah 316 ⟨1,false,.fn,[.nilFunc]⟩ (.ah 304 ⟨1,false,.fn,[.nilFunc]⟩ (.ah 297 ⟨1,false,.int .u64,[.int .u64 0]⟩ (.ah 293 ⟨1,false,.fn,[.nilFunc]⟩ (.ah 292 ⟨1,false,.fn,[.nilFunc]⟩ (.ah 291 ⟨1,false,.fn,[.nilFunc]⟩ (.nil) (.nil)) (.nil)) (.ah 295 ⟨1,false,.fn,[.nilFunc]⟩ (.ah 294 ⟨1,false,.fn,[.nilFunc]⟩ (.nil) (.nil)) (.nil))) (.ah 302 ⟨1,false,.fn,[.nilFunc]⟩ (.ah 301 ⟨1,false,.fn,[.nilFunc]⟩ (.ah 300 ⟨1,false,.fn,[.nilFunc]⟩ (.nil) (.nil)) (.nil)) (.ah 303 ⟨1,false,.fn,[.nilFunc]⟩ (.nil) (.nil)))) (.ah 310 ⟨1,false,.fn,[.nilFunc]⟩ (.ah 307 ⟨1,false,.fn,[.nilFunc]⟩ (.ah 306 ⟨2,true,.st [(0,173),(1,301)],[.nilFunc,.nilFunc]⟩ (.ah 305 ⟨2,true,.st [(0,173),(1,301)],[.nilFunc,.nilFunc]⟩ (.nil) (.nil)) (.nil)) (.ah 309 ⟨1,false,.fn,[.nilFunc]⟩ (.ah 308 ⟨1,false,.fn,[.nilFunc]⟩ (.nil) (.nil)) (.nil))) (.ah 314 ⟨1,false,.fn,[.nilFunc]⟩ (.ah 313 ⟨1,false,.fn,[.nilFunc]⟩ (.ah 312 ⟨1,false,.fn,[.nilFunc]⟩ (.nil) (.nil)) (.nil)) (.ah 315 ⟨1,false,.fn,[.nilFunc]⟩ (.nil) (.nil))))) (.ah 328 ⟨1,true,.st [(0,17)],[.pointer none]⟩ (.ah 322 ⟨1,false,.fn,[.nilFunc]⟩ (.ah 319 ⟨3,true,.st [(0,54),(2,3)],[.int .i64 0,.int .i64 0,.int .i64 0]⟩ (.ah 318 ⟨1,false,.fn,[.nilFunc]⟩ (.ah 317 ⟨1,false,.sl 348 2 8,[.slice none 0 0]⟩ (.nil) (.nil)) (.nil)) (.ah 321 ⟨1,false,.fn,[.nilFunc]⟩ (.ah 320 ⟨3,true,.st [(0,54),(2,3)],[.int .i64 0,.int .i64 0,.int .i64 0]⟩ (.nil) (.nil)) (.nil))) (.ah 326 ⟨1,false,.fn,[.nilFunc]⟩ (.ah 324 ⟨1,false,.fn,[.nilFunc]⟩ (.ah 323 ⟨1,false,.fn,[.nilFunc]⟩ (.nil) (.nil)) (.nil)) (.ah 327 ⟨1,false,.fn,[.nilFunc]⟩ (.nil) (.nil)))) (.ah 335 ⟨1,false,.fn,[.nilFunc]⟩ (.ah 331 ⟨1,false,.fn,[.nilFunc]⟩ (.ah 330 ⟨1,false,.ptr 385,[.pointer none]⟩ (.ah 329 ⟨1,true,.st [(0,17)],[.pointer none]⟩ (.nil) (.nil)) (.nil)) (.ah 333 ⟨1,false,.int .i64,[.int .i64 0]⟩ (.ah 332 ⟨1,false,.fn,[.nilFunc]⟩ (.nil) (.nil)) (.nil))) (.ah 338 ⟨1,false,.fn,[.nilFunc]⟩ (.ah 337 ⟨1,false,.fn,[.nilFunc]⟩ (.ah 336 ⟨1,false,.fn,[.nilFunc]⟩ (.nil) (.nil)) (.nil)) (.ah 339 ⟨1,false,.fn,[.nilFunc]⟩ (.nil) (.nil)))))) (.ah 362 ⟨2,true,.st [(0,21),(1,21)],[.int .i32 0,.int .i32 0]⟩ (.ah 351 ⟨1,false,.fn,[.nilFunc]⟩ (.ah 346 ⟨1,false,.fn,[.nilFunc]⟩ (.ah 343 ⟨1,false,.sl 363 2 8,[.slice none 0 0]⟩ (.ah 342 ⟨1,false,.fn,[.nilFunc]⟩ (.ah 341 ⟨1,false,.fn,[.nilFunc]⟩ (.nil) (.nil)) (.nil)) (.ah 345 ⟨4,true,.ar 4 1,[.int .i64 0,.int .i64 0,.int .i64 0,.int .i64 0]⟩ (.ah 344 ⟨1,false,.fn,[.nilFunc]⟩ (.nil) (.nil)) (.nil))) (.ah 349 ⟨1,false,.fn,[.nilFunc]⟩ (.ah 348 ⟨2,true,.st [(0,21),(1,21)],[.int .i32 0,.int .i32 0]⟩ (.ah 347 ⟨2,true,.st [(0,21),(1,21)],[.int .i32 0,.int .i32 0]⟩ (.nil) (.nil)) (.nil)) (.ah 350 ⟨1,false,.fn,[.nilFunc]⟩ (.nil) (.nil)))) (.ah 357 ⟨1,false,.fn,[.nilFunc]⟩ (.ah 354 ⟨1,false,.fn,[.nilFunc]⟩ (.ah 353 ⟨1,false,.fn,[.nilFunc]⟩ (.ah 352 ⟨1,false,.fn,[.nilFunc]⟩ (.nil) (.nil)) (.nil)) (.ah 356 ⟨1,false,.fn,[.nilFunc]⟩ (.ah 355 ⟨1,false,.int .u64,[.int .u64 0]⟩ (.nil) (.nil)) (.nil))) (.ah 360 ⟨1,false,.fn,[.nilFunc]⟩ (.ah 359 ⟨1,false,.ptr 3,[.pointer none]⟩ (.ah 358 ⟨1,false,.fn,[.nilFunc]⟩ (.nil) (.nil)) (.nil)) (.ah 361 ⟨1,false,.fn,[.nilFunc]⟩ (.nil) (.nil))))) (.ah 373 ⟨4,true,.st [(0,17),(1,17),(2,17),(3,9)],[.pointer none,.pointer none,.pointer none,.string ByteArray.empty]⟩ (.ah 368 ⟨1,false,.ptr 355,[.pointer none]⟩ (.ah 365 ⟨1,false,.fn,[.nilFunc]⟩ (.ah 364 ⟨1,false,.fn,[.nilFunc]⟩ (.ah 363 ⟨2,true,.st [(0,21),(1,21)],[.int .i32 0,.int .i32 0]⟩ (.nil) (.nil)) (.nil)) (.ah 367 ⟨1,false,.fn,[.nilFunc]⟩ (.ah 366 ⟨1,false,.fn,[.nilFunc]⟩ (.nil) (.nil)) (.nil))) (.ah 371 ⟨1,false,.fn,[.nilFunc]⟩ (.ah 370 ⟨1,false,.fn,[.nilFunc]⟩ (.ah 369 ⟨1,false,.fn,[.nilFunc]⟩ (.nil) (.nil)) (.nil)) (.ah 372 ⟨4,true,.st [(0,17),(1,17),(2,17),(3,9)],[.pointer none,.pointer none,.pointer none,.string ByteArray.empty]⟩ (.nil) (.nil)))) (.ah 381 ⟨1,false,.int .i32,[.int .i32 0]⟩ (.ah 378 ⟨1,false,.int .u8,[.int .u8 0]⟩ (.ah 377 ⟨1,false,.int .u8,[.int .u8 0]⟩ (.ah 374 ⟨0,true,.ar 0 1,[]⟩ (.nil) (.nil)) (.nil)) (.ah 380 ⟨1,false,.int .i32,[.int .i32 0]⟩ (.ah 379 ⟨1,false,.fn,[.nilFunc]⟩ (.nil) (.nil)) (.nil))) (.ah 384 ⟨2,true,.st [(0,9),(1,378)],[.string ByteArray.empty,.int .u8 0]⟩ (.ah 383 ⟨11,true,.st [(0,12),(1,12),(2,278),(3,377),(4,5),(5,5),(6,378),(7,379),(8,241),(9,380),(10,381)],[.int .u64 0,.int .u64 0,.int .u32 0,.int .u8 0,.int .u8 0,.int .u8 0,.int .u8 0,.nilFunc,.pointer none,.int .i32 0,.int .i32 0]⟩ (.ah 382 ⟨11,true,.st [(0,12),(1,12),(2,278),(3,377),(4,5),(5,5),(6,378),(7,379),(8,241),(9,380),(10,381)],[.int .u64 0,.int .u64 0,.int .u32 0,.int .u8 0,.int .u8 0,.int .u8 0,.int .u8 0,.nilFunc,.pointer none,.int .i32 0,.int .i32 0]⟩ (.nil) (.nil)) (.nil)) (.ah 385 ⟨2,true,.st [(0,9),(1,378)],[.string ByteArray.empty,.int .u8 0]⟩ (.nil) (.nil))))))))
theorem tt_ok:tt.ok Tryz.prog=true:=by decide +kernel
theorem mo:Tryz.prog.follows .mixedOrders=true:=rfl
end Dv
end Go.Proofs.YtfifjddnnmfeoaaGreat
set_option maxRecDepth 100000
namespace Go.Proofs.YtfifjddnnmfeoaaGreat
open Go Go.RowKit Dv Tryz
theorem Rw:Enters Tryz.prog 16:=enters_of Tryz.func16 (by decide +kernel) rfl
theorem Nh:Enters Tryz.prog 19:=enters_of Tryz.func19 (by decide +kernel) rfl
theorem Ni:Enters Tryz.prog 20:=enters_of Tryz.func20 (by decide +kernel) rfl
theorem Nj:Enters Tryz.prog 26:=enters_of Tryz.func26 (by decide +kernel) rfl
theorem Nk:Enters Tryz.prog 27:=enters_of Tryz.func27 (by decide +kernel) rfl
theorem Rx:Enters Tryz.prog 28:=enters_of Tryz.func28 (by decide +kernel) rfl
theorem Ry:Enters Tryz.prog 31:=enters_of Tryz.func31 (by decide +kernel) rfl
theorem Rz:Enters Tryz.prog 38:=enters_of Tryz.func38 (by decide +kernel) rfl
theorem Nl:Enters Tryz.prog 41:=enters_of Tryz.func41 (by decide +kernel) rfl
theorem RA:Enters Tryz.prog 43:=enters_of Tryz.func43 (by decide +kernel) rfl
theorem RB:Enters Tryz.prog 44:=enters_of Tryz.func44 (by decide +kernel) rfl
theorem Nn:Enters Tryz.prog 45:=enters_of Tryz.func45 (by decide +kernel) rfl
theorem Np:Enters Tryz.prog 46:=enters_of Tryz.func46 (by decide +kernel) rfl
theorem KG:Enters Tryz.prog 47:=enters_of Tryz.func47 (by decide +kernel) rfl
theorem RC:Enters Tryz.prog 48:=enters_of Tryz.func48 (by decide +kernel) rfl
theorem RD:Enters Tryz.prog 49:=enters_of Tryz.func49 (by decide +kernel) rfl
theorem Hm:Enters Tryz.prog 50:=enters_of Tryz.func50 (by decide +kernel) rfl
theorem Be:Enters Tryz.prog 51:=enters_of Tryz.func51 (by decide +kernel) rfl
theorem RE:Enters Tryz.prog 60:=enters_of Tryz.func60 (by decide +kernel) rfl
theorem RF:Enters Tryz.prog 61:=enters_of Tryz.func61 (by decide +kernel) rfl
theorem KH:Enters Tryz.prog 67:=enters_of Tryz.func67 (by decide +kernel) rfl
theorem Nq:Enters Tryz.prog 68:=enters_of Tryz.func68 (by decide +kernel) rfl
theorem RG:Enters Tryz.prog 69:=enters_of Tryz.func69 (by decide +kernel) rfl
theorem vf:Enters Tryz.prog 70:=enters_of Tryz.func70 (by decide +kernel) rfl
theorem Nr:Enters Tryz.prog 71:=enters_of Tryz.func71 (by decide +kernel) rfl
theorem RH:Enters Tryz.prog 78:=enters_of Tryz.func78 (by decide +kernel) rfl
theorem DB:Enters Tryz.prog 79:=enters_of Tryz.func79 (by decide +kernel) rfl
theorem RI:Enters Tryz.prog 80:=enters_of Tryz.func80 (by decide +kernel) rfl
theorem RJ:Enters Tryz.prog 88:=enters_of Tryz.func88 (by decide +kernel) rfl
theorem pg:Enters Tryz.prog 93:=enters_of Tryz.func93 (by decide +kernel) rfl
theorem RK:Enters Tryz.prog 94:=enters_of Tryz.func94 (by decide +kernel) rfl
theorem Ns:Enters Tryz.prog 95:=enters_of Tryz.func95 (by decide +kernel) rfl
theorem KI:Enters Tryz.prog 96:=enters_of Tryz.func96 (by decide +kernel) rfl
theorem Nt:Enters Tryz.prog 97:=enters_of Tryz.func97 (by decide +kernel) rfl
theorem RL:Enters Tryz.prog 98:=enters_of Tryz.func98 (by decide +kernel) rfl
theorem Nu:Enters Tryz.prog 99:=enters_of Tryz.func99 (by decide +kernel) rfl
theorem IL:Enters Tryz.prog 100:=enters_of Tryz.func100 (by decide +kernel) rfl
theorem Nv:Enters Tryz.prog 101:=enters_of Tryz.func101 (by decide +kernel) rfl
theorem vg:Enters Tryz.prog 102:=enters_of Tryz.func102 (by decide +kernel) rfl
theorem DC:Enters Tryz.prog 103:=enters_of Tryz.func103 (by decide +kernel) rfl
theorem Nx:Enters Tryz.prog 104:=enters_of Tryz.func104 (by decide +kernel) rfl
theorem IM:Enters Tryz.prog 105:=enters_of Tryz.func105 (by decide +kernel) rfl
theorem vi:Enters Tryz.prog 106:=enters_of Tryz.func106 (by decide +kernel) rfl
theorem en107:Enters Tryz.prog 107:=enters_of Tryz.func107 (by decide +kernel) rfl
theorem IP:Enters Tryz.prog 108:=enters_of Tryz.func108 (by decide +kernel) rfl
theorem Ny:Enters Tryz.prog 109:=enters_of Tryz.func109 (by decide +kernel) rfl
theorem IQ:Enters Tryz.prog 110:=enters_of Tryz.func110 (by decide +kernel) rfl
theorem Nz:Enters Tryz.prog 111:=enters_of Tryz.func111 (by decide +kernel) rfl
theorem IU:Enters Tryz.prog 112:=enters_of Tryz.func112 (by decide +kernel) rfl
theorem NA:Enters Tryz.prog 122:=enters_of Tryz.func122 (by decide +kernel) rfl
theorem NB:Enters Tryz.prog 123:=enters_of Tryz.func123 (by decide +kernel) rfl
theorem IV:Enters Tryz.prog 124:=enters_of Tryz.func124 (by decide +kernel) rfl
theorem NC:Enters Tryz.prog 129:=enters_of Tryz.func129 (by decide +kernel) rfl
theorem IW:Enters Tryz.prog 136:=enters_of Tryz.func136 (by decide +kernel) rfl
theorem IX:Enters Tryz.prog 137:=enters_of Tryz.func137 (by decide +kernel) rfl
theorem IY:Enters Tryz.prog 138:=enters_of Tryz.func138 (by decide +kernel) rfl
theorem IZ:Enters Tryz.prog 139:=enters_of Tryz.func139 (by decide +kernel) rfl
theorem NE:Enters Tryz.prog 140:=enters_of Tryz.func140 (by decide +kernel) rfl
theorem NF:Enters Tryz.prog 141:=enters_of Tryz.func141 (by decide +kernel) rfl
theorem rH:Enters Tryz.prog 155:=enters_of Tryz.func155 (by decide +kernel) rfl
theorem vj:Enters Tryz.prog 156:=enters_of Tryz.func156 (by decide +kernel) rfl
theorem I0:Enters Tryz.prog 159:=enters_of Tryz.func159 (by decide +kernel) rfl
theorem I1:Enters Tryz.prog 160:=enters_of Tryz.func160 (by decide +kernel) rfl
theorem NG:Enters Tryz.prog 161:=enters_of Tryz.func161 (by decide +kernel) rfl
theorem DD:Enters Tryz.prog 163:=enters_of Tryz.func163 (by decide +kernel) rfl
theorem NH:Enters Tryz.prog 164:=enters_of Tryz.func164 (by decide +kernel) rfl
theorem NI:Enters Tryz.prog 165:=enters_of Tryz.func165 (by decide +kernel) rfl
theorem DE:Enters Tryz.prog 166:=enters_of Tryz.func166 (by decide +kernel) rfl
theorem DF:Enters Tryz.prog 167:=enters_of Tryz.func167 (by decide +kernel) rfl
theorem I2:Enters Tryz.prog 168:=enters_of Tryz.func168 (by decide +kernel) rfl
theorem NJ:Enters Tryz.prog 169:=enters_of Tryz.func169 (by decide +kernel) rfl
theorem NK:Enters Tryz.prog 170:=enters_of Tryz.func170 (by decide +kernel) rfl
theorem I3:Enters Tryz.prog 171:=enters_of Tryz.func171 (by decide +kernel) rfl
theorem DG:Enters Tryz.prog 172:=enters_of Tryz.func172 (by decide +kernel) rfl
theorem DH:Enters Tryz.prog 173:=enters_of Tryz.func173 (by decide +kernel) rfl
theorem zU:Enters Tryz.prog 174:=enters_of Tryz.func174 (by decide +kernel) rfl
theorem DI:Enters Tryz.prog 179:=enters_of Tryz.func179 (by decide +kernel) rfl
theorem NL:Enters Tryz.prog 180:=enters_of Tryz.func180 (by decide +kernel) rfl
theorem NN:Enters Tryz.prog 181:=enters_of Tryz.func181 (by decide +kernel) rfl
theorem NO:Enters Tryz.prog 182:=enters_of Tryz.func182 (by decide +kernel) rfl
theorem NP:Enters Tryz.prog 187:=enters_of Tryz.func187 (by decide +kernel) rfl
theorem zV:Enters Tryz.prog 188:=enters_of Tryz.func188 (by decide +kernel) rfl
theorem NQ:Enters Tryz.prog 189:=enters_of Tryz.func189 (by decide +kernel) rfl
theorem zW:Enters Tryz.prog 195:=enters_of Tryz.func195 (by decide +kernel) rfl
theorem NR:Enters Tryz.prog 196:=enters_of Tryz.func196 (by decide +kernel) rfl
theorem NS:Enters Tryz.prog 197:=enters_of Tryz.func197 (by decide +kernel) rfl
theorem I4:Enters Tryz.prog 198:=enters_of Tryz.func198 (by decide +kernel) rfl
theorem NT:Enters Tryz.prog 199:=enters_of Tryz.func199 (by decide +kernel) rfl
theorem I5:Enters Tryz.prog 200:=enters_of Tryz.func200 (by decide +kernel) rfl
theorem NU:Enters Tryz.prog 201:=enters_of Tryz.func201 (by decide +kernel) rfl
theorem I6:Enters Tryz.prog 212:=enters_of Tryz.func212 (by decide +kernel) rfl
theorem NV:Enters Tryz.prog 213:=enters_of Tryz.func213 (by decide +kernel) rfl
theorem cu:Enters Tryz.prog 214:=enters_of Tryz.func214 (by decide +kernel) rfl
theorem NW:Enters Tryz.prog 215:=enters_of Tryz.func215 (by decide +kernel) rfl
theorem NX:Enters Tryz.prog 216:=enters_of Tryz.func216 (by decide +kernel) rfl
theorem I7:Enters Tryz.prog 217:=enters_of Tryz.func217 (by decide +kernel) rfl
theorem I8:Enters Tryz.prog 218:=enters_of Tryz.func218 (by decide +kernel) rfl
theorem NY:Enters Tryz.prog 220:=enters_of Tryz.func220 (by decide +kernel) rfl
theorem NZ:Enters Tryz.prog 221:=enters_of Tryz.func221 (by decide +kernel) rfl
theorem N1:Enters Tryz.prog 222:=enters_of Tryz.func222 (by decide +kernel) rfl
theorem DJ:Enters Tryz.prog 224:=enters_of Tryz.func224 (by decide +kernel) rfl
theorem I9:Enters Tryz.prog 225:=enters_of Tryz.func225 (by decide +kernel) rfl
theorem Ja:Enters Tryz.prog 226:=enters_of Tryz.func226 (by decide +kernel) rfl
theorem N2:Enters Tryz.prog 227:=enters_of Tryz.func227 (by decide +kernel) rfl
theorem Jb:Enters Tryz.prog 228:=enters_of Tryz.func228 (by decide +kernel) rfl
theorem N3:Enters Tryz.prog 229:=enters_of Tryz.func229 (by decide +kernel) rfl
theorem N4:Enters Tryz.prog 230:=enters_of Tryz.func230 (by decide +kernel) rfl
theorem Jc:Enters Tryz.prog 237:=enters_of Tryz.func237 (by decide +kernel) rfl
theorem N5:Enters Tryz.prog 238:=enters_of Tryz.func238 (by decide +kernel) rfl
theorem N6:Enters Tryz.prog 239:=enters_of Tryz.func239 (by decide +kernel) rfl
theorem Jd:Enters Tryz.prog 260:=enters_of Tryz.func260 (by decide +kernel) rfl
theorem N7:Enters Tryz.prog 261:=enters_of Tryz.func261 (by decide +kernel) rfl
theorem N8:Enters Tryz.prog 262:=enters_of Tryz.func262 (by decide +kernel) rfl
theorem rI:Enters Tryz.prog 263:=enters_of Tryz.func263 (by decide +kernel) rfl
theorem N9:Enters Tryz.prog 264:=enters_of Tryz.func264 (by decide +kernel) rfl
theorem Oa:Enters Tryz.prog 265:=enters_of Tryz.func265 (by decide +kernel) rfl
theorem Ob:Enters Tryz.prog 266:=enters_of Tryz.func266 (by decide +kernel) rfl
theorem Oc:Enters Tryz.prog 267:=enters_of Tryz.func267 (by decide +kernel) rfl
theorem Je:Enters Tryz.prog 268:=enters_of Tryz.func268 (by decide +kernel) rfl
theorem DK:Enters Tryz.prog 279:=enters_of Tryz.func279 (by decide +kernel) rfl
theorem Od:Enters Tryz.prog 280:=enters_of Tryz.func280 (by decide +kernel) rfl
theorem DL:Enters Tryz.prog 287:=enters_of Tryz.func287 (by decide +kernel) rfl
theorem vl:Enters Tryz.prog 288:=enters_of Tryz.func288 (by decide +kernel) rfl
theorem Oe:Enters Tryz.prog 289:=enters_of Tryz.func289 (by decide +kernel) rfl
theorem Og:Enters Tryz.prog 296:=enters_of Tryz.func296 (by decide +kernel) rfl
theorem zX:Enters Tryz.prog 300:=enters_of Tryz.func300 (by decide +kernel) rfl
theorem Oh:Enters Tryz.prog 301:=enters_of Tryz.func301 (by decide +kernel) rfl
theorem Oi:Enters Tryz.prog 302:=enters_of Tryz.func302 (by decide +kernel) rfl
theorem Oj:Enters Tryz.prog 303:=enters_of Tryz.func303 (by decide +kernel) rfl
theorem Ol:Enters Tryz.prog 304:=enters_of Tryz.func304 (by decide +kernel) rfl
theorem Jf:Enters Tryz.prog 305:=enters_of Tryz.func305 (by decide +kernel) rfl
theorem Om:Enters Tryz.prog 306:=enters_of Tryz.func306 (by decide +kernel) rfl
theorem On:Enters Tryz.prog 307:=enters_of Tryz.func307 (by decide +kernel) rfl
theorem Oo:Enters Tryz.prog 308:=enters_of Tryz.func308 (by decide +kernel) rfl
end Go.Proofs.YtfifjddnnmfeoaaGreat
namespace Go.Proofs.YtfifjddnnmfeoaaGreat
open Go Go.RowKit Dv
structure Wd where
 s:ByteArray
 a:Int
structure Hd where
 ag:Int
 aC:Int
 lo:Int
 hi:Int
 most:Int
 ae:List Wd
 name:Wd
structure Ph where
 name:Wd
 bare:Bool
 label:List Wd
 wide:Int
 ck:Int
 cn:Int
 ca:Int
 cl:List Wd
mutual
inductive Ty where
 | mk (h:Hd) (ps:Pts)
inductive Pts where
 | nil
 | cons (p:Ph) (t:Ty) (r:Pts)
end
def Ty.h:Ty->Hd | .mk h _=>h
def Ty.ps:Ty->Pts | .mk _ ps=>ps
def Pts.toList:Pts->List (Ph × Ty)
 | .nil=>[]
 | .cons p t r=>(p,t) :: r.toList
def Pts.len:Pts->Nat
 | .nil=>0
 | .cons _ _ r=>r.len + 1
theorem Pts.DM:∀ ps:Pts,ps.len=ps.toList.length
 | .nil=>rfl
 | .cons _ _ r=>by simp [Pts.len,Pts.toList,Pts.DM r]
def Wd.wt (w:Wd):Nat:=w.s.size + 64
def wdsWt:List Wd->Nat
 | []=>0
 | w :: r=>w.wt + wdsWt r
def Hd.wt (h:Hd):Nat:=256 + wdsWt h.ae + h.name.wt
def Ph.wt (p:Ph):Nat:=256 + p.name.wt + wdsWt p.label + wdsWt p.cl
mutual
def Ty.wt:Ty->Nat
 | .mk h ps=>h.wt + ps.wt
def Pts.wt:Pts->Nat
 | .nil=>0
 | .cons p t r=>p.wt + t.wt + r.wt
end
theorem cw:∀ l:List Wd,64 * l.length<=wdsWt l
 | []=>Nat.le_refl _
 | w :: r=>by have:=cw r;simp only [List.length_cons,wdsWt,Wd.wt];omega
theorem jU:∀ {l:List Wd} {w:Wd},w∈l->w.s.size + 64<=wdsWt l
 | x :: r,w,h=>by
  rcases List.mem_cons.1 h with h | h
  ·subst h;simp only [wdsWt,Wd.wt];omega
  ·have:=jU h;simp only [wdsWt];omega
theorem Pts.jq:∀ ps:Pts,256 * ps.len<=ps.wt
 | .nil=>Nat.le_refl _
 | .cons p t r=>by have:=Pts.jq r;simp only [Pts.len,Pts.wt,Ph.wt];omega
theorem Pts.iy:∀ {ps:Pts} {p:Ph} {t:Ty},(p,t)∈ps.toList->p.wt + t.wt<=ps.wt
 | .cons p t r,q,u,h=>by
  rcases List.mem_cons.1 h with h | h
  ·cases h;simp only [Pts.wt];omega
  ·have:=Pts.iy h;simp only [Pts.wt];omega
theorem Ty.eX (t:Ty):256<=t.wt:=by
 cases t;simp only [Ty.wt,Hd.wt];omega
def uC (w:Wd):List DV:=[.v (.string w.s),.v (.int .i64 w.a)]
def bY (l:List Wd):List (List DV):=l.map uC
def DN (p:Ph) (tl:List DV):List DV:=
 .v (.string p.name.s) :: .v (.int .i64 p.name.a) :: .v (.bool p.bare) :: .sl 2 (bY p.label) none :: .v (.int .i64 p.wide) :: .v (.int .i64 p.ck) :: .v (.int .i64 p.cn) :: .v (.int .i64 p.ca) :: .sl 2 (bY p.cl) none :: tl
mutual
def gn:Ty->List DV
 | .mk h ps=>[.v (.int .i64 h.ag),.v (.int .i64 h.aC),.v (.int .i64 h.lo),.v (.int .i64 h.hi),.v (.int .i64 h.most),.sl 2 (bY h.ae) none,.sl 18 (dV ps) none,.v (.string h.name.s),.v (.int .i64 h.name.a)]
def dV:Pts->List (List DV)
 | .nil=>[]
 | .cons p t r=>DN p (gn t) :: dV r
end
theorem aA (l:List Wd):(bY l).length=l.length:=by simp [bY]
theorem aS:∀ ps:Pts,(dV ps).length=ps.len
 | .nil=>by simp [dV,Pts.len]
 | .cons p t r=>by simp [dV,Pts.len,aS r]
theorem cx {l:List Wd} {j:Nat} {w:Wd} (h:l[j]? = some w):(bY l)[j]? = some (uC w):=by simp [bY,h]
theorem Bf {l:List Wd} {e:Nat} {x:Wd} (h:l[e]? = some x):bY (l.take e) ++ [uC x]=bY (l.take (e + 1)):=by
 rw [List.take_add_one,h];simp [bY]
theorem dj:∀ {ps:Pts} {j:Nat} {p:Ph} {t:Ty},ps.toList[j]? = some (p,t)->(dV ps)[j]? = some (DN p (gn t))
 | .nil,j,p,t,h=>by simp [Pts.toList] at h
 | .cons q u r,0,p,t,h=>by
  simp only [Pts.toList,List.getElem?_cons_zero,oI,Prod.mk.injEq] at h;obtain ⟨rfl,rfl⟩:=h;simp [dV]
 | .cons q u r,j + 1,p,t,h=>by
  simp only [Pts.toList,List.getElem?_cons_succ] at h;simp only [dV,List.getElem?_cons_succ];exact dj h
def Pts.drop:Nat->Pts->Pts
 | 0,ps=>ps
 | _ + 1,.nil=>.nil
 | e + 1,.cons _ _ r=>r.drop e
theorem Pts.drop_cons:∀ {e:Nat} {ps:Pts} {p:Ph} {t:Ty},ps.toList[e]? = some (p,t)->ps.drop e = .cons p t (ps.drop (e + 1))
 | 0,.cons q u r,p,t,h=>by
  simp only [Pts.toList,List.getElem?_cons_zero,oI,Prod.mk.injEq] at h;obtain ⟨rfl,rfl⟩:=h;rfl
 | e + 1,.cons q u r,p,t,h=>by
  simp only [Pts.toList,List.getElem?_cons_succ] at h;simp only [Pts.drop];exact Pts.drop_cons h
 | 0,.nil,p,t,h=>by simp [Pts.toList] at h
 | e + 1,.nil,p,t,h=>by simp [Pts.toList] at h
theorem Pts.dJ:∀ (ps:Pts),ps.drop ps.len = .nil
 | .nil=>rfl
 | .cons _ _ r=>by simp only [Pts.len,Pts.drop];exact Pts.dJ r
theorem Pts.gy {ps:Pts} {e:Nat} (h:e < ps.len):∃ p t,ps.toList[e]? = some (p,t):=by
 rw [Pts.DM] at h;exact ⟨_,_,gE h⟩
theorem drop_cons {α:Type} {l:List α} {e:Nat} {x:α} (h:l[e]? = some x):l.drop e=x :: l.drop (e + 1):=by
 obtain ⟨h1,h2⟩:=List.getElem?_eq_some_iff.1 h;rw [<- h2];exact List.drop_eq_getElem_cons h1
def al:ByteArray:=⟨#[]⟩
def DO:Hd:=⟨0,0,0,0,0,[],⟨al,0⟩⟩
def bG:Ty:=.mk DO .nil
def du:Ph:=⟨⟨al,0⟩,false,[],0,0,0,0,[]⟩
def dK:Ph:=⟨⟨al,0⟩,true,[],0,0,0,0,[]⟩
theorem ej {e n:Nat} (h:e < n) (hn:n<=4611686018427387904):IntKind.i64.wrap ((e:Int) + 1)=((e + 1:Nat):Int):=by
 rw [IntWalk.i64_in _ ⟨by omega,by omega⟩];omega
theorem wrap64 {n:Int} (h1 : -9223372036854775808<=n) (h2:n<=9223372036854775807):IntKind.i64.wrap n=n:=IntWalk.i64_in n ⟨h1,h2⟩
theorem pickB_and (x a:Bool):pickB x a false=(x && a):=by cases x<;>rfl
theorem ak (x b:Bool):pickB x true b=(x || b):=by cases x<;>rfl
end Go.Proofs.YtfifjddnnmfeoaaGreat
set_option maxRecDepth 100000
namespace Go.Proofs.YtfifjddnnmfeoaaGreat
open Go Go.RowKit Dv Tryz
def isLet (c:Int):Bool:=decide (97<=c) && decide (c<=122)
def iz (c:Int):Bool:=(isLet c || (decide (48<=c) && decide (c<=57))) || decide (c=95)
def signs:List UInt8->Nat
 | []=>0
 | c :: r=>if iz c.toNat=true then signs r + 1 else 0
def eD:List UInt8->Nat
 | []=>0
 | c :: r=>if isLet c.toNat=true then signs r + 1 else 0
def a7 (s:ByteArray):Bool:=decide (0 < s.size) && (decide (s.size<=32) && decide (eD s.data.toList=s.size))
theorem vm {c:Int} (h:isLet c=true):iz c=true:=by simp [iz,h]
theorem vo:∀ l:List UInt8,signs l<=l.length
 | []=>Nat.le_refl _
 | c :: r=>by
  simp only [signs,List.length_cons];split
  ·have:=vo r;omega
  ·omega
theorem ph {c:UInt8} {r:List UInt8} (h:isLet c.toNat=true):eD (c :: r)=signs (c :: r):=by
 simp [eD,signs,h,vm h]
theorem rJ {s:ByteArray} {k:Nat} (h:k < s.size):∃ c:UInt8,s.data.toList.drop k=c :: s.data.toList.drop (k + 1)/\bU s k=c.toNat:=by
 have hk:k < s.data.toList.length:=by simpa using h
 refine ⟨s.data.toList[k],by rw [<- List.drop_eq_getElem_cons hk],?_⟩;simp [bU,List.getD_eq_getElem?_getD,gE hk]
theorem DP {s:ByteArray} {k:Nat} (h:s.size<=k):s.data.toList.drop k=[]:=List.drop_eq_nil_of_le (by simpa using h)
theorem nA (c:Int):EvP Tryz.prog 212 [.v (.int .u8 c)] (.v (.bool (isLet c))):=by
 refine ev_go (P:=Tryz.prog) tt tt_ok 5000 9 [.tmp 2] Tryz.func212 rfl Tryz.ntmps212 rfl (nL rfl) (fun E9 w9 hn9 hm9=>?_);exact (congrArg (fun b=>DV.v (.bool b)) (pickB_and _ _):_=_)
theorem Bg (c:Int):EvP Tryz.prog 213 [.v (.int .u8 c)] (.v (.bool (iz c))):=by
 refine ev_go (P:=Tryz.prog) tt tt_ok 5000 17 [.tmp 2] Tryz.func213 rfl Tryz.ntmps213 rfl (nL rfl) (fun E9 w9 hn9 hm9=>?_);refine call_p I6 (nA c) ax rfl ?_;refine (congrArg (fun b=>DV.v (.bool b)) ?_:_=_);simp only [pickB_and,ak,iz]
abbrev x4 (s:ByteArray) (i e:Nat):St:=⟨[(5,⟨[],.v (.int .i64 e)⟩),(0,⟨[],.v (.string s)⟩),(1,⟨[],.v (.int .i64 i)⟩)],[],[]⟩
theorem ti (s:ByteArray) (i:Nat):s.extract i (i + 0)=⟨#[]⟩:=by
 apply ByteArray.ext;simp only [Nat.add_zero,ByteArray.extract,ByteArray.copySlice];apply Array.ext';simp
theorem Bh (s:ByteArray) (i:Nat) (hi:i < s.size) (hs:s.size<=4611686018427387904):EvP Tryz.prog 171 [.v (.string s),.v (.int .i64 i)]
  (.tup [.v (.string (s.extract i (i + eD (s.data.toList.drop i)))),.v (.int .i64 ((i + eD (s.data.toList.drop i):Nat):Int))]):=by
 obtain ⟨c0,Bi,eG⟩:=rJ hi;refine ev_go (P:=Tryz.prog) tt tt_ok 5000 38 [.tmp 4,.tmp 5] Tryz.func171 rfl Tryz.ntmps171 rfl (nL rfl) (fun E9 w9 hn9 hm9=>?_);refine br (fun h=>?_) (fun _=>?_)
 ·simp [ak] at h;omega
 refine ⟨⟨by omega,by omega⟩,?_⟩;refine call_p I6 (nA _) ax rfl ?_;refine br (fun h=>?_) (fun h=>?_)
 ·have hl:isLet (c0.toNat:Int)=false:=by
   have:(!isLet ((bU s i:Nat):Int))=true:=h;rw [eG] at this;simpa using this
  have hn:eD (s.data.toList.drop i)=0:=by rw [Bi];simp [eD,hl]
  rw [hn,ti];exact ⟨_,ax,rfl⟩
 have hl:isLet (c0.toNat:Int)=true:=by
  have:(!isLet ((bU s i:Nat):Int))=false:=h;rw [eG] at this;simpa using this
 have hn:eD (s.data.toList.drop i)=signs (s.data.toList.drop i):=by rw [Bi];exact ph hl
 rw [hn]
 refine aw (fun j st=>∃ e:Nat,st=x4 s i e/\e<=s.size/\i<=e/\e + signs (s.data.toList.drop e)=i + signs (s.data.toList.drop i)/\j=s.size - e)
  (s.size - i) (x4 s i i) (weak_mk ⟨_,rfl⟩ wA rfl rfl rfl wB) ⟨i,rfl,by omega,by omega,rfl,rfl⟩ ?_
 rintro j st ⟨e,rfl,he,Oq,hinv,rfl⟩;refine br (fun h=>?_) (fun h=>?_)
 ·have aq:e < s.size:=by simpa using h
  refine ⟨⟨by omega,by omega⟩,?_⟩;refine call_p NV (Bg _) ax rfl ?_;obtain ⟨c,hd,hb⟩:=rJ aq;refine br (fun h2=>?_) (fun h2=>?_)
  ·have RM:iz (c.toNat:Int)=true:=by
    have:iz ((bU s e:Nat):Int)=true:=h2
    rwa [hb] at this
   refine ⟨x4 s i (e + 1),(weak_mk ⟨_,rfl⟩ wA rfl rfl rfl (wNB aq)),s.size - (e + 1),by omega,e + 1,rfl,by omega,by omega,?_,rfl⟩;rw [hd] at hinv;simp only [signs,RM,if_true] at hinv;omega
  ·have RM:iz (c.toNat:Int)=false:=by
    have:iz ((bU s e:Nat):Int)=false:=h2
    rwa [hb] at this
   rw [hd] at hinv;simp only [signs,RM] at hinv;refine ⟨⟨by omega,by omega,by omega⟩,?_⟩;have:i + signs (s.data.toList.drop i)=e:=by simp at hinv;omega
   rw [this];exact ⟨_,ax,rfl⟩
 ·have bJ:e=s.size:=by simp at h;omega
  rw [DP (by omega)] at hinv;simp only [signs] at hinv;refine ⟨⟨by omega,by omega,by omega⟩,?_⟩;have:i + signs (s.data.toList.drop i)=e:=by omega
  rw [this];exact ⟨_,ax,rfl⟩
theorem take_nil (s:ByteArray) (hs:s.size=0):EvP Tryz.prog 171 [.v (.string s),.v (.int .i64 0)] (.tup [.v (.string ⟨#[]⟩),.v (.int .i64 0)]):=by
 refine ev_go (P:=Tryz.prog) tt tt_ok 5000 38 [.tmp 4,.tmp 5] Tryz.func171 rfl Tryz.ntmps171 rfl (nL rfl) (fun E9 w9 hn9 hm9=>?_);refine br (fun _=>?_) (fun h=>?_)
 ·exact ⟨_,ax,rfl⟩
 ·simp [ak,hs] at h
theorem x5 (l:List UInt8):eD l<=l.length:=by
 cases l with
 | nil=>exact Nat.le_refl _
 | cons c r=>
  simp only [eD,List.length_cons];split
  ·have:=vo r;omega
  ·omega
theorem vp (s:ByteArray):decide (s=⟨#[]⟩)=decide (s.size=0):=by
 rw [Bool.eq_iff_iff];simp only [decide_eq_true_eq];constructor
 ·rintro rfl;rfl
 ·intro h;apply ByteArray.ext;exact Array.eq_empty_of_size_eq_zero h
theorem fK (s:ByteArray) (hs:s.size<=4611686018427387904):EvP Tryz.prog 102 [.v (.string s)] (.v (.bool (a7 s))):=by
 refine ev_go (P:=Tryz.prog) tt tt_ok 5000 22 [.tmp 2] Tryz.func102 rfl Tryz.ntmps102 rfl (nL rfl) (fun E9 w9 hn9 hm9=>?_);by_cases h0:s.size=0
 ·refine call_p I3 (take_nil s h0) ax rfl ?_;refine (congrArg (fun b=>DV.v (.bool b)) ?_:_=_);simp [pickB_and,a7,vp,h0]
 ·refine call_p I3 (Bh s 0 (by omega) hs) ax rfl ?_;refine (congrArg (fun b=>DV.v (.bool b)) ?_:_=_);have hl:=x5 s.data.toList;simp only [Array.length_toList,ByteArray.size_data] at hl;simp only [pickB_and,a7,vp,List.drop_zero,Nat.zero_add];rw [Bool.eq_iff_iff];simp only [Bool.and_eq_true,decide_eq_true_eq,Bool.not_eq_true',decide_eq_false_iff_not];omega
def cD (l:List ByteArray):List (List DV):=l.map fun s=>[.v (.string s)]
def dInts (l:List Nat):List (List DV):=l.map fun (i:Nat)=>[.v (.int .i64 (i:Int))]
theorem bl (l:List ByteArray):(cD l).length=l.length:=by simp [cD]
theorem bw (l:List Nat):(dInts l).length=l.length:=by simp [dInts]
theorem dr {l:List ByteArray} {j:Nat} {x:ByteArray} (h:l[j]? = some x):(cD l)[j]? = some [.v (.string x)]:=by simp [cD,h]
theorem dc {l:List Nat} {j:Nat} {x:Nat} (h:l[j]? = some x):(dInts l)[j]? = some [.v (.int .i64 (x:Int))]:=by simp [dInts,h]
abbrev tj (g:Nat) (cb:List DV) (i j:Nat):St:=⟨[(1,⟨[],.fn g [] cb⟩),(5,⟨[],.v (.int .i64 i)⟩),(6,⟨[],.v (.int .i64 j)⟩)],[],[]⟩
theorem nB (g:Nat) (iP:Enters Tryz.prog g) (cb:List DV) (n m:Nat) (hn:n<=1099511627776) (hm:m<=n) (Ot:CcL [] 0 0 0 cb cb) (ia:clB.clL 0 0 cb=true)
  (hp:∀ i:Nat,i < n->EvP Tryz.prog g (.v (.int .i64 i) :: cb) (.v (.bool (decide (m<=i))))) :
  EvP Tryz.prog 159 [.v (.int .i64 n),.fn g [] cb] (.v (.int .i64 m)):=by
 refine ev_go (P:=Tryz.prog) tt tt_ok 5000 26 [.tmp 4] Tryz.func159 rfl Tryz.ntmps159 rfl (nL rfl) (fun E9 w9 hn9 hm9=>?_);have xE:clB 0 0 (.fn g [] cb)=true:=by simp only [clB,Bool.and_eq_true];exact ⟨rfl,ia⟩
 refine aw (fun j st=>∃ a b:Nat,st=tj g cb a b/\a<=m/\m<=b/\b<=n/\j=b - a) n (tj g cb 0 n) (weak_mk ⟨_,rfl⟩ wA rfl rfl rfl (by repeat' (first | exact trivial | exact ai rfl | exact ai xE | refine ⟨⟨_,rfl,?_⟩,?_⟩))) ⟨0,n,rfl,by omega,by omega,by omega,by omega⟩ ?_;rintro j st ⟨a,b,rfl,h1,h2,h3,rfl⟩;refine br (fun h=>?_) (fun h=>?_)
 ·have aq:a < b:=by simpa using h
  have KJ:IntKind.i64.wrap ((IntKind.u64.wrap (IntKind.i64.wrap ((a:Int) + (b:Int)))).fdiv (2 ^ (min ((1:Int).toNat) IntKind.u64.bits)))=(((a + b) / 2:Nat):Int):=by
   rw [wrap64 (n:=(a:Int) + (b:Int)) (by omega) (by omega),IntKind.wrap_u64];have e2:(2:Int) ^ (min ((1:Int).toNat) IntKind.u64.bits)=2:=by decide
   rw [e2,Int.fdiv_eq_ediv_of_nonneg _ (by decide),wrap64 (by omega) (by omega)];omega
  refine ⟨by decide,?_⟩;refine call_p iP (hp ((a + b) / 2) (by omega)) ⟨_,_,rfl,congrArg (fun z=>DV.v (.int .i64 z)) KJ,Ot⟩ rfl ?_;refine br (fun hq=>?_) (fun hq=>?_)
  ·have hq:(a + b) / 2 < m:=by simpa using hq
   have uS:=ej (e:=(a + b) / 2) (n:=n) (by omega) (by omega);rw [<- KJ] at uS;refine ⟨tj g cb ((a + b) / 2 + 1) b,(weak_mk ⟨_,rfl⟩ wA rfl rfl rfl (by repeat' (first | exact trivial | exact ai rfl | exact ai xE | exact aj uS | refine ⟨⟨_,rfl,?_⟩,?_⟩))),b - ((a + b) / 2 + 1),by omega,(a + b) / 2 + 1,b,rfl,by omega,by omega,by omega,rfl⟩
  ·have hq:m<=(a + b) / 2:=by simpa using hq
   refine ⟨tj g cb a ((a + b) / 2),(weak_mk ⟨_,rfl⟩ wA rfl rfl rfl (by repeat' (first | exact trivial | exact ai rfl | exact ai xE | exact aj KJ | refine ⟨⟨_,rfl,?_⟩,?_⟩))),(a + b) / 2 - a,by omega,a,(a + b) / 2,rfl,by omega,by omega,by omega,rfl⟩
 ·have bJ:¬ a < b:=by simpa using h
  have:a=m:=by omega
  subst this;exact (rfl:_=_)
def qX (a b:ByteArray):Bool:=Op.bytesLess a.data.toList b.data.toList
theorem gz:∀ l:List UInt8,Op.bytesLess l l=false
 | []=>rfl
 | a :: r=>by simp [Op.bytesLess,gz r]
theorem fL:∀ {a b:List UInt8},Op.bytesLess a b=true->Op.bytesLess b a=false
 | _,[],h=>by simp [Op.bytesLess] at h
 | [],b :: r,_=>rfl
 | a :: x,b :: y,h=>by
  simp only [Op.bytesLess,Bool.or_eq_true,decide_eq_true_eq,Bool.and_eq_true,beq_iff_eq] at h;simp only [Op.bytesLess,Bool.or_eq_false_iff,decide_eq_false_iff_not,Bool.and_eq_false_imp,beq_iff_eq];rcases h with h | ⟨rfl,h⟩
  ·refine ⟨fun h2=>?_,fun h2=>?_⟩
   ·exact absurd (UInt8.lt_trans h h2) (UInt8.lt_irrefl _)
   ·subst h2;exact absurd h (UInt8.lt_irrefl _)
  ·exact ⟨UInt8.lt_irrefl _,fun _=>fL h⟩
structure dY (L:List ByteArray) (ap:List Nat):Prop where
 lt:∀ (i p:Nat),ap[i]? = some p->p < L.length
 RN:∀ (i j p q:Nat) (s t:ByteArray),i < j->ap[i]? = some p->ap[j]? = some q->L[p]? = some s->L[q]? = some t->qX s t=true
 fst:∀ (i p j:Nat) (s:ByteArray),ap[i]? = some p->L[p]? = some s->L[j]? = some s->p<=j
 all:∀ (j:Nat) (s:ByteArray),L[j]? = some s->∃ i p:Nat,ap[i]? = some p/\L[p]? = some s
abbrev bK (L:List ByteArray) (ap:List Nat):List DV:=[.sl 1 (cD L) none,.sl 1 (dInts ap) none]
theorem pj (L:List ByteArray) (ap:List Nat) (s:ByteArray) (i p:Nat) (t:ByteArray) (hi:ap[i]? = some p) (hp:L[p]? = some t) :
  EvP Tryz.prog 160 [.v (.int .i64 i),.pt [.pt (bK L ap) 0] 0,.pt [.v (.string s)] 0] (.v (.bool (!qX t s))):=by
 refine ev_go (P:=Tryz.prog) tt tt_ok 5000 20 [.tmp 4] Tryz.func160 rfl Tryz.ntmps160 rfl (nL rfl) (fun E9 w9 hn9 hm9=>?_);refine aR (fun _=>false) mo (by decide +kernel) ?_;refine ⟨_,⟨by omega,dc hi⟩,?_⟩;refine ⟨_,⟨by omega,dr hp⟩,?_⟩;exact (rfl:_=_)
theorem find_spec (L:List ByteArray) (ap:List Nat) (s:ByteArray) (q p:Nat) (hT:dY L ap) (hl:ap.length<=1099511627776) (hq:ap[q]? = some p) (hp:L[p]? = some s) :
  EvP Tryz.prog 93 [.pt (bK L ap) 0,.v (.string s)] (.tup [.v (.int .i64 p),.v (.bool true)]):=by
 have hqlt:=(gS hq).1;refine ev_go (P:=Tryz.prog) tt tt_ok 5000 47 [.tmp 4,.tmp 5] Tryz.func93 rfl Tryz.ntmps93 rfl (nL rfl) (fun E9 w9 hn9 hm9=>?_)
 have ia:∀ i:Nat,i < ap.length->EvP Tryz.prog 160 [.v (.int .i64 i),.pt [.pt (bK L ap) 0] 0,.pt [.v (.string s)] 0] (.v (.bool (decide (q<=i)))):=by
  intro i hi;obtain ⟨p',lD⟩:∃ p',ap[i]? = some p':=⟨_,gE hi⟩;obtain ⟨t,ht⟩:∃ t,L[p']? = some t:=⟨_,gE (hT.lt i p' lD)⟩;have:=pj L ap s i p' t lD ht
  have e:(!qX t s)=decide (q<=i):=by
   rcases Nat.lt_trichotomy i q with h | h | h
   ·rw [hT.RN i q p' p t s h lD hq ht hp];simp;omega
   ·subst h;rw [hq] at lD;simp only [oI] at lD;subst lD;rw [hp] at ht;simp only [oI] at ht;subst ht;rw [qX,gz];simp
   ·have h2:=hT.RN q i p p' s t h hq lD hp ht;rw [qX,fL h2];simp;omega
  rw [e] at this;exact this
 have hS:=nB 160 I1 [.pt [.pt (bK L ap) 0] 0,.pt [.v (.string s)] 0] ap.length q hl (by omega) ax rfl ia;refine tg I0 hS (by repeat' (first | exact rfl | exact trivial | exact Or.inr (Or.inl ⟨_,rfl⟩) | exact Or.inr ⟨_,rfl⟩ | exact Or.inl ⟨rfl,rfl⟩ | exact Or.inl rfl | refine Or.inr ⟨_,_,rfl,Nat.zero_le _,rfl,?_⟩ | refine ⟨_,_,rfl,?_,?_⟩ | refine ⟨_,rfl,?_⟩ | exact congrArg (fun z=>DV.v (.int .i64 z)) (congrArg Nat.cast (bw ap)) | refine Or.inr (Or.inr (Or.inr ⟨_,_,rfl,?_⟩)) | exact Or.inl rfl | refine Or.inr ?_)) rfl ?_;refine aR (fun _=>false) mo (by decide +kernel) ?_;refine br (fun h=>?_) (fun h=>?_)
 ·refine ⟨_,⟨by omega,dc hq⟩,?_⟩;refine ⟨_,⟨by omega,dr hp⟩,?_⟩;refine br (fun h2=>?_) (fun h2=>?_)
  ·exfalso;simp [ak,bw] at h2
  ·refine ⟨_,⟨by omega,dc hq⟩,?_⟩;exact ⟨_,ax,rfl⟩
 ·exfalso;have:decide ((q:Int)=((dInts ap).length:Int))=true:=by simpa using h
  simp [bw] at this;omega
end Go.Proofs.YtfifjddnnmfeoaaGreat
set_option maxRecDepth 100000
namespace Go.Proofs
open Go.Shelf
def Tryz.laysGg6_ren:Go.Shelf.Ren:=⟨fun | 6=>161 | 10=>207 | 11=>208 | 12=>209 | 13=>210 | 14=>211 | 24=>250 | 25=>251 | 26=>252 | 27=>253 | 28=>254 | 29=>255 | 30=>256 | 31=>257 | 32=>258 | 33=>259 | 34=>282 | 35=>283 | 36=>284 | 37=>285 | 38=>286 | 39=>299 | n=>n,fun | 20=>20 | 26=>173 | 35=>299 | 0=>0 | 37=>301 | 3=>3 | 41=>221 | 44=>306 | 49=>278 | 51=>212 | 4=>4 | 54=>334 | 53=>333 | 58=>105 | 5=>5 | 9=>9 | 60=>355 | 64=>359 | 66=>368 | 67=>49 | 17=>17 | 32=>296 | 33=>297 | 82=>383 | 12=>12 | 75=>377 | 76=>378 | 77=>379 | 78=>241 | 79=>380 | 80=>381 | n=>n,fun | n=>n⟩
theorem Tryz.laysGg6:Go.Proofs.LaysGg.n6 Tryz.prog Tryz.laysGg6_ren:={
 mixed:=by kernel_rfl
 f6:=Tryz.func161.trans (congrArg some (by kernel_rfl))
 f10:=Tryz.func207.trans (congrArg some (by kernel_rfl))
 f11:=Tryz.func208.trans (congrArg some (by kernel_rfl))
 f12:=Tryz.func209.trans (congrArg some (by kernel_rfl))
 f13:=Tryz.func210.trans (congrArg some (by kernel_rfl))
 f14:=Tryz.func211.trans (congrArg some (by kernel_rfl))
 f24:=Tryz.func250.trans (congrArg some (by kernel_rfl))
 f25:=Tryz.func251.trans (congrArg some (by kernel_rfl))
 f26:=Tryz.func252.trans (congrArg some (by kernel_rfl))
 f27:=Tryz.func253.trans (congrArg some (by kernel_rfl))
 f28:=Tryz.func254.trans (congrArg some (by kernel_rfl))
 f29:=Tryz.func255.trans (congrArg some (by kernel_rfl))
 f30:=Tryz.func256.trans (congrArg some (by kernel_rfl))
 f31:=Tryz.func257.trans (congrArg some (by kernel_rfl))
 f32:=Tryz.func258.trans (congrArg some (by kernel_rfl))
 f33:=Tryz.func259.trans (congrArg some (by kernel_rfl))
 f34:=Tryz.func282.trans (congrArg some (by kernel_rfl))
 f35:=Tryz.func283.trans (congrArg some (by kernel_rfl))
 f36:=Tryz.func284.trans (congrArg some (by kernel_rfl))
 f37:=Tryz.func285.trans (congrArg some (by kernel_rfl))
 f38:=Tryz.func286.trans (congrArg some (by kernel_rfl))
 f39:=Tryz.func299.trans (congrArg some (by kernel_rfl))
 t0:=Tryz.underlying0
 a0:=Tryz.isAgg0
 z0:=Tryz.sizeOf0
 v0:=Tryz.zeroValue0
 i0:=by kernel_rfl
 t3:=Tryz.underlying3
 a3:=Tryz.isAgg3
 z3:=Tryz.sizeOf3
 v3:=Tryz.zeroValue3
 i3:=by kernel_rfl
 t4:=Tryz.underlying4
 a4:=Tryz.isAgg4
 z4:=Tryz.sizeOf4
 v4:=Tryz.zeroValue4
 i4:=by kernel_rfl
 t5:=Tryz.underlying5
 a5:=Tryz.isAgg5
 z5:=Tryz.sizeOf5
 v5:=Tryz.zeroValue5
 i5:=by kernel_rfl
 t9:=Tryz.underlying9
 a9:=Tryz.isAgg9
 z9:=Tryz.sizeOf9
 v9:=Tryz.zeroValue9
 i9:=by kernel_rfl
 t12:=Tryz.underlying12
 a12:=Tryz.isAgg12
 z12:=Tryz.sizeOf12
 v12:=Tryz.zeroValue12
 i12:=by kernel_rfl
 t17:=Tryz.underlying17
 a17:=Tryz.isAgg17
 z17:=Tryz.sizeOf17
 v17:=Tryz.zeroValue17
 i17:=by kernel_rfl
 t20:=Tryz.underlying20
 a20:=Tryz.isAgg20
 z20:=Tryz.sizeOf20
 v20:=Tryz.zeroValue20
 i20:=by kernel_rfl
 t26:=Tryz.underlying173
 a26:=Tryz.isAgg173
 z26:=Tryz.sizeOf173
 v26:=Tryz.zeroValue173
 i26:=by kernel_rfl
 t32:=Tryz.underlying296
 a32:=Tryz.isAgg296
 z32:=Tryz.sizeOf296
 v32:=Tryz.zeroValue296
 i32:=by kernel_rfl
 t33:=Tryz.underlying297
 a33:=Tryz.isAgg297
 z33:=Tryz.sizeOf297
 v33:=Tryz.zeroValue297
 i33:=by kernel_rfl
 t35:=Tryz.underlying299
 a35:=Tryz.isAgg299
 z35:=Tryz.sizeOf299
 v35:=Tryz.zeroValue299
 i35:=by kernel_rfl
 t37:=Tryz.underlying301
 a37:=Tryz.isAgg301
 z37:=Tryz.sizeOf301
 v37:=Tryz.zeroValue301
 i37:=by kernel_rfl
 t41:=Tryz.underlying221
 a41:=Tryz.isAgg221
 z41:=Tryz.sizeOf221
 v41:=Tryz.zeroValue221
 i41:=by kernel_rfl
 t44:=Tryz.underlying306
 a44:=Tryz.isAgg306
 z44:=Tryz.sizeOf306
 v44:=Tryz.zeroValue306
 i44:=by kernel_rfl
 t49:=Tryz.underlying278
 a49:=Tryz.isAgg278
 z49:=Tryz.sizeOf278
 v49:=Tryz.zeroValue278
 i49:=by kernel_rfl
 t51:=Tryz.underlying212
 a51:=Tryz.isAgg212
 z51:=Tryz.sizeOf212
 v51:=Tryz.zeroValue212
 i51:=by kernel_rfl
 t53:=Tryz.underlying333
 a53:=Tryz.isAgg333
 z53:=Tryz.sizeOf333
 v53:=Tryz.zeroValue333
 i53:=by kernel_rfl
 t54:=Tryz.underlying334
 a54:=Tryz.isAgg334
 z54:=Tryz.sizeOf334
 v54:=Tryz.zeroValue334
 i54:=by kernel_rfl
 t58:=Tryz.underlying105
 a58:=Tryz.isAgg105
 z58:=Tryz.sizeOf105
 v58:=Tryz.zeroValue105
 i58:=by kernel_rfl
 t60:=Tryz.underlying355
 a60:=Tryz.isAgg355
 z60:=Tryz.sizeOf355
 v60:=Tryz.zeroValue355
 i60:=by kernel_rfl
 t64:=Tryz.underlying359
 a64:=Tryz.isAgg359
 z64:=Tryz.sizeOf359
 v64:=Tryz.zeroValue359
 i64:=by kernel_rfl
 t66:=Tryz.underlying368
 a66:=Tryz.isAgg368
 z66:=Tryz.sizeOf368
 v66:=Tryz.zeroValue368
 i66:=by kernel_rfl
 t67:=Tryz.underlying49
 a67:=Tryz.isAgg49
 z67:=Tryz.sizeOf49
 v67:=Tryz.zeroValue49
 i67:=by kernel_rfl
 t75:=Tryz.underlying377
 a75:=Tryz.isAgg377
 z75:=Tryz.sizeOf377
 v75:=Tryz.zeroValue377
 i75:=by kernel_rfl
 t76:=Tryz.underlying378
 a76:=Tryz.isAgg378
 z76:=Tryz.sizeOf378
 v76:=Tryz.zeroValue378
 i76:=by kernel_rfl
 t77:=Tryz.underlying379
 a77:=Tryz.isAgg379
 z77:=Tryz.sizeOf379
 v77:=Tryz.zeroValue379
 i77:=by kernel_rfl
 t78:=Tryz.underlying241
 a78:=Tryz.isAgg241
 z78:=Tryz.sizeOf241
 v78:=Tryz.zeroValue241
 i78:=by kernel_rfl
 t79:=Tryz.underlying380
 a79:=Tryz.isAgg380
 z79:=Tryz.sizeOf380
 v79:=Tryz.zeroValue380
 i79:=by kernel_rfl
 t80:=Tryz.underlying381
 a80:=Tryz.isAgg381
 z80:=Tryz.sizeOf381
 v80:=Tryz.zeroValue381
 i80:=by kernel_rfl
 t82:=Tryz.underlying383
 a82:=Tryz.isAgg383
 z82:=Tryz.sizeOf383
 v82:=Tryz.zeroValue383
 i82:=by kernel_rfl }
end Go.Proofs
namespace Go.Proofs.YtfifjddnnmfeoaaGreat
open Go Go.RowKit Go.Lib Go.Sort Tryz
noncomputable def RO:TypeInfo:=(Tryz.prog.info? 28).get (by kernel_rfl)
noncomputable def Mf:TypeInfo:=(Tryz.prog.info? 3).get (by kernel_rfl)
theorem siK (n:Nat) (h2:2<=n):Lib.swapperK n Mf 2=5:=by
 have a:Mf.hasPointers=false:=by kernel_rfl
 have b:Mf.bytes=8:=by kernel_rfl
 have c:(n == 0)=false:=by simp;omega
 have d:(n == 1)=false:=by simp;omega
 simp [Lib.swapperK,a,b,c,d]
theorem DQ {α:Type} [Inhabited α] (enc:α->Value) (h1:∀ x,(enc x).oneCell'=true) {lt:α->α->Bool} (hO:SWO lt) (lb:Array Value) (xA c:Nat) (d:Array α) (h2:2<=d.size) (bI:d.size < 4611686018427387904) (w:World)
  (DR:LessReads Tryz.prog 162 lb enc lt xA 0 d.size w) (hH:Holds enc w xA 0 d) (RP:xA < w.heap.size) :
  Calls Tryz.prog 161 #[.iface 28 (.slice (some ⟨xA,0,none⟩) d.size c),.func (.func 162) #[] lb] w fun e w'=>
   e = .returned (.tuple #[])/\∃ d' n os,PermIn 0 d.size d d' /\ SortedIn lt 0 d.size d' /\ w'=grow (putRow enc (Sort.ahead w n) xA 0 d') os:=
 Any.sort_Slice_sorted Tryz.laysGg6 28 3 RO Mf (by kernel_rfl) (by kernel_rfl) (by kernel_rfl) (by kernel_rfl) 2 (fun _=>by kernel_rfl) (by kernel_rfl) (fun _=>by kernel_rfl) enc h1 lt hO 162 lb
  (enters_of Tryz.func162 (by kernel_rfl) rfl) xA 0 c d h2 bI 245 (by rw [siK _ h2];kernel_rfl) true
  (fun args W=>run_callFunc_extern Tryz.func245 (by kernel_rfl) (by kernel_rfl) (by kernel_rfl) (e:=Extern.ReflectliteSwapper.swap true) (by kernel_rfl) args W) w DR hH RP
theorem Bj (lb:Array Value) (p:Option Addr) (n c:Nat) (h1:n<=1) (w:World) :
  Calls Tryz.prog 161 #[.iface 28 (.slice p n c),.func (.func 162) #[] lb] w fun e w'=>e = .returned (.tuple #[])/\∃ os,w'=grow w os:=by
 have h:n=0∨n=1:=by omega
 rcases h with rfl | rfl
 ·exact Any.sort_Slice_tiny Tryz.laysGg6 28 3 RO Mf (by kernel_rfl) (by kernel_rfl) (by kernel_rfl) (by kernel_rfl) 2 (fun _=>by kernel_rfl) p 0 c h1 241 (by kernel_rfl) _ _ _ w
 ·exact Any.sort_Slice_tiny Tryz.laysGg6 28 3 RO Mf (by kernel_rfl) (by kernel_rfl) (by kernel_rfl) (by kernel_rfl) 2 (fun _=>by kernel_rfl) p 1 c h1 242 (by kernel_rfl) _ _ _ w
end Go.Proofs.YtfifjddnnmfeoaaGreat
set_option maxRecDepth 100000
namespace Go.Proofs.YtfifjddnnmfeoaaGreat
open Go Go.RowKit Dv Tryz
theorem km:∀ {a b:List UInt8},Op.bytesLess a b=false->a=b∨Op.bytesLess b a=true
 | [],[],_=>.inl rfl
 | a :: x,[],_=>.inr rfl
 | [],b :: r,h=>by simp [Op.bytesLess] at h
 | a :: x,b :: y,h=>by
  simp only [Op.bytesLess,Bool.or_eq_false_iff,decide_eq_false_iff_not,Bool.and_eq_false_imp,beq_iff_eq] at h;simp only [Op.bytesLess,Bool.or_eq_true,decide_eq_true_eq,Bool.and_eq_true,beq_iff_eq];by_cases kH:a=b
  ·subst kH;rcases km (h.2 rfl) with h2 | h2
   ·exact .inl (by rw [h2])
   ·exact .inr (.inr ⟨rfl,h2⟩)
  ·refine .inr (.inl ?_);rcases UInt8.lt_or_lt_of_ne kH with h3 | h3
   ·exact absurd h3 h.1
   ·exact h3
theorem dt:∀ {a b c:List UInt8},Op.bytesLess a b=true->Op.bytesLess b c=true->Op.bytesLess a c=true
 | _,[],_,h,_=>by simp [Op.bytesLess] at h
 | _,_ :: _,[],_,h=>by simp [Op.bytesLess] at h
 | [],b :: y,c :: z,_,_=>rfl
 | a :: x,b :: y,c :: z,h1,h2=>by
  simp only [Op.bytesLess,Bool.or_eq_true,decide_eq_true_eq,Bool.and_eq_true,beq_iff_eq] at h1 h2 ⊢;rcases h1 with h1 | ⟨rfl,h1⟩
  ·rcases h2 with h2 | ⟨rfl,h2⟩
   ·exact .inl (UInt8.lt_trans h1 h2)
   ·exact .inl h1
  ·rcases h2 with h2 | ⟨rfl,h2⟩
   ·exact .inl h2
   ·exact .inr ⟨rfl,dt h1 h2⟩
theorem zY {s t:ByteArray} (h:qX s t=false):s=t∨qX t s=true:=by
 rcases km h with h | h
 ·exact .inl (ByteArray.ext (Array.ext' h))
 ·exact .inr h
def uD (L:List ByteArray) (p q:Nat):Bool:=
 if L.getD p al=L.getD q al then decide (p < q) else qX (L.getD p al) (L.getD q al)
theorem Hn (L:List ByteArray):Sort.SWO (uD L):=by
 have TW:∀ x,uD L x x=false:=fun x=>by simp [uD]
 have tr:∀ x y z,uD L x y=true->uD L y z=true->uD L x z=true:=by
  intro x y z h1 h2;unfold uD at *;generalize L.getD x al=a at *;generalize L.getD y al=b at *;generalize L.getD z al=c at *;by_cases kH:a=b
  ·subst kH;rw [if_pos rfl] at h1;by_cases Ou:a=c
   ·rw [if_pos Ou] at h2 ⊢;simp at h1 h2 ⊢;omega
   ·rw [if_neg Ou] at h2 ⊢;exact h2
  ·rw [if_neg kH] at h1;by_cases Ou:b=c
   ·subst Ou;rw [if_neg kH];exact h1
   ·rw [if_neg Ou] at h2
    have hac:a≠c:=by
     rintro rfl;have:=fL h1;rw [qX,this] at h2;cases h2
    rw [if_neg hac];exact dt h1 h2
 have TX:∀ x y,uD L x y=false->x=y∨uD L y x=true:=by
  intro x y h;unfold uD at *;by_cases kH:L.getD x al=L.getD y al
  ·rw [if_pos kH] at h;rw [if_pos kH.symm];simp at h ⊢;omega
  ·rw [if_neg kH] at h;rw [if_neg (fun e=>kH e.symm)];rcases zY h with h | h
   ·exact absurd h kH
   ·exact .inr h
 refine ⟨TW,tr,fun x y z h1 h2=>?_⟩;rcases TX x y h1 with rfl | h3
 ·exact h2
 ·rcases TX y z h2 with rfl | h4
  ·exact h1
  ·cases h5:uD L x z
   ·rfl
   ·have:=tr _ _ _ (tr _ _ _ h4 h3) h5;rw [TW] at this;cases this
theorem Bl (L:List ByteArray) (d:List Nat) (i j p q:Nat) (hi:d[i]? = some p) (hj:d[j]? = some q) (hp:p < L.length) (hq:q < L.length) :
  TO Tryz.prog 162 [.v (.int .i64 i),.v (.int .i64 j),.pt [.sl 1 (dInts d) none] 0,.pt [.pt [.sl 1 (cD L) none,.v (.slice none 0 0)] 0] 0] [] [] (fun r _ _=>r = .v (.bool (uD L p q))):=by
 obtain ⟨s,hs⟩:∃ s,L[p]? = some s:=⟨_,gE hp⟩;obtain ⟨t,ht⟩:∃ t,L[q]? = some t:=⟨_,gE hq⟩
 have e:uD L p q=if s=t then decide (p < q) else qX s t:=by
  simp [uD,List.getD_eq_getElem?_getD,hs,ht]
 refine Dg (s:=true) (P:=Tryz.prog) tt tt_ok 5000 50 [.tmp 6] Tryz.func162 rfl Tryz.ntmps162 rfl (nL rfl) (fun E9 w9 hn9 hm9=>?_);refine aR (fun _=>false) mo (by decide +kernel) ?_;refine ⟨_,⟨by omega,dc hi⟩,?_⟩;refine ⟨_,⟨by omega,dc hj⟩,?_⟩;refine aR (fun _=>false) mo (by decide +kernel) ?_;refine ⟨_,⟨by omega,dr hs⟩,?_⟩;refine ⟨_,⟨by omega,dr ht⟩,?_⟩;refine br (fun h=>?_) (fun h=>?_)
 ·have aM:s≠t:=by simpa using h
  refine aR (fun _=>false) mo (by decide +kernel) ?_;refine ⟨_,⟨by omega,dr hs⟩,?_⟩;refine ⟨_,⟨by omega,dr ht⟩,?_⟩;refine (congrArg (fun b=>DV.v (.bool b)) ?_:_=_);rw [e,if_neg aM];rfl
 ·have bd:s=t:=by simpa using h
  refine (congrArg (fun b=>DV.v (.bool b)) ?_:_=_);rw [e,if_pos bd];simp
abbrev DS (p:Nat):Value:=.int .i64 (p:Int)
theorem vq {E:En}:∀ {ds:List Nat} {arr:List Value},RvL E (dInts ds).flatten arr->arr=ds.map DS
 | [],arr,h=>by simpa [dInts,RvL] using h
 | x :: r,arr,h=>by
  simp only [dInts,List.map_cons,List.flatten_cons,List.cons_append,List.nil_append,RvL] at h;obtain ⟨v,s,rfl,h1,h2⟩:=h;unfold Rv at h1;rw [h1.1,vq (ds:=r) h2];rfl
theorem pk {E:En}:∀ ds:List Nat,RvC E (dInts ds).flatten (ds.map DS)
 | []=>⟨bn E,by simp⟩
 | x :: r=>by
  have ih:=pk (E:=E) r;refine ⟨?_,?_⟩
  ·simp only [dInts,List.map_cons,List.flatten_cons,List.cons_append,List.nil_append];exact rvL_cons (dh rfl) ih.1
  ·intro v hv;simp only [List.map_cons,List.mem_cons] at hv;rcases hv with rfl | hv
   ·rfl
   ·exact ih.2 v hv
theorem Ov {m:Nat}:∀ ds:List Nat,(∀ p∈ds,p < m + 1)->∃ D:List (Fin (m + 1)),D.map (·.val)=ds
 | [],_=>⟨[],rfl⟩
 | x :: r,h=>by
  obtain ⟨D,hD⟩:=Ov r fun p hp=>h p (List.mem_cons_of_mem _ hp);exact ⟨⟨x,h x (by simp)⟩ :: D,by simp [hD]⟩
theorem po {α:Type} [Inhabited α] (enc:α->Value) (w:World) (b n:Nat) (dk:Array α) (os:Array Obj) (arr:List Value) (ty:TypeId) (hw:w.heap[b]? = some (.cells arr.toArray ty (0,0))) (hl:arr.length=dk.size) :
  ∀ k,k < w.heap.size->(Sort.grow (Sort.putRow enc (Sort.ahead w n) b 0 dk) os).heap[k]? = (World.bN w b (.cells (dk.toList.map enc).toArray ty (0,0))).heap[k]?:=by
 intro k hk;simp only [Sort.grow,Sort.putRow,Sort.mapBlock,Sort.ahead];rw [Array.getElem?_append_left (by simpa using hk),Array.getElem?_modify];by_cases RQ:b=k
 ·subst RQ;rw [if_pos rfl,hw,cf hw];simp only [Option.map_some,Sort.onCells,oI,Obj.cells.injEq,and_true];apply Array.ext_getElem?;intro j;simp only [Sort.putCells,Array.getElem?_mapIdx];rcases Nat.lt_or_ge j dk.size with hj | hj
  ·have h1:j < arr.length:=by omega
   simp [h1,hj]
  ·have h1:arr.length<=j:=by omega
   simp [h1,hj]
 ·rw [if_neg RQ,bm (Ne.symm RQ)]
theorem DT {α:Type} {l:List α} {i:Nat} {x:α} (h:l[i]? = some x):l.set i x=l:=by
 apply List.ext_getElem?;intro j;by_cases hj:j=i
 ·subst hj;rw [List.getElem?_set_self (gS h).1,h]
 ·rw [List.getElem?_set_ne (Ne.symm hj)]
theorem Bm {X:Ctx} {st:St} {k:List It} (hP:X.P=Tryz.prog) {i c len:Nat} {ds:List Nat} (hlen:len=ds.length) {RR:List DV} {d:Nat} (N:Nat) (hN:∀ p∈ds,p < N) (lt:Nat->Nat->Bool) (hO:Sort.SWO lt)
  (jT:st.bx[i]? = some (dInts ds).flatten) (hn:ds.length<=1099511627776) (TY:List Nat->List DV) (Ho:∀ dk:List Nat,dk.length=ds.length->CcL (st.bx.set i (dInts dk).flatten) 0 0 0 (TY dk) RR)
  (DR:∀ dk:List Nat,dk.length=ds.length->(∀ p∈dk,p < N)->∀ i j p q:Nat,dk[i]? = some p->dk[j]? = some q->TO Tryz.prog 162 (.v (.int .i64 i) :: .v (.int .i64 j) :: TY dk) [] [] (fun r _ _=>r = .v (.bool (lt p q))))
  (hd:dq X.nt st.sl (some d)=true)
  (hk:∀ KK:List Nat,KK.Perm ds->(∀ i j p q:Nat,i < j->KK[i]? = some p->KK[j]? = some q->lt q p=false)->go X 4000 k ⟨(d,⟨[],.tup []⟩) :: st.sl,st.bx.set i (dInts KK).flatten,st.tk⟩)
  (aX:X.still=false:=by exact rfl) (hX:X.bt=[]:=by exact rfl):ct X 161 [.nq 28 (.ms i 1 0 len c),.fn 162 [] RR] (some d) k st:=by
 subst hlen;refine ⟨?_,aX,fun E a w vs h hv=>?_⟩
 ·rw [hP];exact NG
 rw [hP];simp only [RvL] at hv;obtain ⟨v1,_,rfl,h1,v2,_,rfl,h2,rfl⟩:=hv;unfold Rv at h1;obtain ⟨z,rfl,h1⟩:=h1;unfold Rv at h1;obtain ⟨b,ad,hb,L5,rfl,hca⟩:=h1;unfold Rv at h2;obtain ⟨l,r,rfl,hl,hr⟩:=h2;simp only [RvL] at hl;subst hl;obtain ⟨b',ty,arr,cJ,hw,qP⟩:=h.env.cL i _ jT;rw [hb] at cJ;simp only [oI] at cJ;subst cJ;have DU:=vq qP.1;have KD:=bg hw;by_cases h1:ds.length<=1
 ·refine (Bj r.toArray ad ds.length c h1 w).mono ?_;rintro e w' ⟨rfl,os,rfl⟩
  have hh:∀ j,j < w.heap.size->(Sort.grow w os).heap[j]? = w.heap[j]?:=fun j hj=>by
   simp only [Sort.grow];rw [Array.getElem?_append_left hj]
  have bA:Rel X E st a (Sort.grow w os):=cg h (Ext.refl E) (h.env.gw hh) h.tk h.nw (h.fr.bo rfl rfl rfl (by simp [Sort.grow]) fun j hj=>.inr (hh j hj)) (kA aX) (.nil hX);have Dt:=hk ds (List.Perm.refl _) (fun i j p q om _ hj=>by have:=(gS hj).1;omega);rw [DT jT] at Dt;exact go_sound 4000 _ _ Dt E _ _ (aG bA hd (.tup []) (.tuple #[]) (by unfold Rv;exact ⟨[],rfl,bn E⟩))
 ·have h2:2<=ds.length:=by omega
  have ML:=hca (by omega);subst ML
  obtain ⟨m,rfl⟩:∃ m,N=m + 1:=by
   cases Qa:ds with
   | nil=>rw [Qa] at h2;simp at h2
   | cons x r=>have:=hN x (by rw [Qa];simp);exact ⟨N - 1,by omega⟩
  obtain ⟨D,hD⟩:=Ov ds hN;have Jg:D.length=ds.length:=by rw [<- hD];simp
  let enc:Fin (m + 1)->Value:=fun x=>DS x.val
  have hO':Sort.SWO (fun x y:Fin (m + 1)=>lt x.val y.val):=⟨fun x=>hO.irrefl _,fun x y z=>hO.trans _ _ _,fun x y z=>hO.ntrans _ _ _⟩;have Ow:∀ l:List (Fin (m + 1)),l.map enc=(l.map (·.val)).map DS:=fun l=>by simp [enc]
  have hS:=DQ enc (fun _=>rfl) hO' r.toArray b c D.toArray (by simpa [Jg] using h2) (by simp [Jg];omega) w ?_ ?_ KD
  ·simp only [List.size_toArray,Jg] at hS;refine hS.mono ?_;rintro e w' ⟨rfl,d',n,os,hp,hs,rfl⟩;have bI:d'.size=ds.length:=by have:=hp.1;simpa [Jg] using this
   have ko:(d'.toList.map (·.val)).Perm ds:=by
    have h3:=hp.2.2;have e1:d'.extract 0 ds.length=d':=Array.extract_eq_self_of_le (by omega);have e2:D.toArray.extract 0 ds.length=D.toArray:=Array.extract_eq_self_of_le (by simp [Jg]);rw [e1,e2] at h3;rw [<- hD];exact h3.map _
   have Bn:∀ i j p q:Nat,i < j->(d'.toList.map (·.val))[i]? = some p->(d'.toList.map (·.val))[j]? = some q->lt q p=false:=by
    intro i j p q om hi hj;have qN:j < d'.size:=by have:=(gS hj).1;simpa using this
    have h3:=hs i j (Nat.zero_le _) om (by omega);rw [getElem!_pos d' j qN,getElem!_pos d' i (by omega)] at h3;have Ox:i < d'.size:=by omega
    simp [Ox] at hi;simp [qN] at hj;rw [<- hi,<- hj];exact h3
   have hh:=po enc w b n d' os arr ty hw (by rw [DU];simp [bI]);have cP:=fl (ty:=ty) h aX hb (cs':=(dInts (d'.toList.map (·.val))).flatten) (arr':=(d'.toList.map (·.val)).map DS) (pk _) ⟨_,hw⟩;rw [<- Ow] at cP;have fu:(Sort.grow (Sort.putRow enc (Sort.ahead w n) b 0 d') os).heap.size=w.heap.size + os.size:=by simp [Sort.grow,Sort.putRow,Sort.mapBlock,Sort.ahead]
   have bA:=cg cP (Ext.refl E) (w':=Sort.grow (Sort.putRow enc (Sort.ahead w n) b 0 d') os) (cP.env.gw fun j hj=>hh j (by rwa [dz] at hj)) cP.tk cP.nw
    (cP.fr.bo rfl rfl rfl (by rw [dz,fu];omega) fun j hj=>.inr (hh j (by rwa [dz] at hj))) (kA aX) (.nil hX)
   exact go_sound 4000 _ _ (hk _ ko Bn) E _ _ (aG bA hd (.tup []) (.tuple #[]) (by unfold Rv;exact ⟨[],rfl,bn E⟩))
  ·intro mm os dk hs i' j' hi hj;have bI:dk.size=ds.length:=by simpa [Jg] using hs
   have hh:=po enc w b mm dk os arr ty hw (by rw [DU];simp [bI]);have hE:=h.env.set hb KD (ty:=ty) (pk (E:=E) (dk.toList.map (·.val)));rw [<- Ow] at hE;have hE':=hE.gw (w':=Go.Proofs.sortWorld enc w b 0 mm dk os) fun j hj=>hh j (by rwa [dz] at hj);have Ox:i' < dk.size:=by rw [bI,<- Jg];simpa using hi
   have qN:j' < dk.size:=by rw [bI,<- Jg];simpa using hj
   have TZ:(dk.toList.map (·.val)).length=ds.length:=by simpa using bI
   have hc:=DR (dk.toList.map (·.val)) TZ (fun p hp=>by
    obtain ⟨x,_,rfl⟩:=List.mem_map.1 hp
    exact x.isLt) i' j' (dk[i']!).val (dk[j']!).val (by rw [getElem!_pos dk i' Ox];simp [Ox]) (by rw [getElem!_pos dk j' qN];simp [qN])
   have hv:RvL E (.v (.int .i64 (i':Int)) :: .v (.int .i64 (j':Int)) :: RR) (.int .i64 (i':Int) :: .int .i64 (j':Int) :: r):=rvL_cons (dh rfl) (rvL_cons (dh rfl) hr);have hb:=fh hE' hc ⟨_,_,rfl,rfl,_,_,rfl,rfl,Ho _ TZ⟩ hv;have hargs:(#[Value.int .i64 (i':Int),Value.int .i64 (j':Int)] ++ r.toArray)=(Value.int .i64 (i':Int) :: Value.int .i64 (j':Int) :: r).toArray:=by simp
   rw [hargs];refine hb.mono ?_;rintro e w' ⟨v,E2,rfl,CO,_,Gn⟩;have:=aN CO;subst this;exact ⟨rfl,Gn rfl⟩
  ·intro j hj;have qN:j < D.length:=by simpa using hj
   rw [bB hw,Nat.zero_add,DU];refine ⟨?_,?_⟩
   ·rw [getElem!_pos D.toArray j hj,<- hD];simp [qN,enc]
   ·simp [World.frozen?,hw]
end Go.Proofs.YtfifjddnnmfeoaaGreat
