/- Part 2 of the proof: The evaluator 'go' is sound: the end of a call, the theorem; contracts; rules for branches, calls, loops; Rules for the evaluator: what is known made less, loops; A region that draws its order: where the operations with an effect are ordered among themselves, and what writes waits for all that reads, one run in the order of the text serves every order; The evaluator at regions that draw their order: one run in the order of the text; what is read is what was known at the region's beginning; A region that draws its order, in which two operations with an effect are not ordered: the run in either order of these two serves every order; Rules for the evaluator: a call that is handed the caller's own objects, to read them; Rules for the evaluator: objects that are written no more are frozen, ahead of a loop; Rules for the evaluator: a call that is handed one of the caller's objects, to write it; The table of this program's types, by which the evaluator goes; The program's functions are entered; The data of the document's types, plain, and as the evaluator has them; Names: the program's and the reference's functions say the same of a text; sort.Search; the program's table of texts: Find; The library's sort.Slice, laid at this program by the kit's tool (lay-plain; wip/tools/lay.sh); The order of the table; the closure handed to sort.Slice. No condition. -/
import Derived.Test.YtgjagnmeonoehaaGreatProg
import Derived.Shelf.GgSortFunc.Whole
import Derived.Shelf.GgSortFunc.Tiny
import Derived.Test.YtgjagnmeonoehaaGreatMs1
set_option linter.all false
namespace Go.Proofs.YtgjagnmeonoehaaGreat
namespace Dv
open Go Go.RowKit
structure Nr (E E':En) (bx:List (List DV)) (N:Nat):Prop where
 c:∀ a v,E.c a=some v->E'.c a=some v
 fz:∀ (i:Nat) cs,N<=i->bx[i]? = some cs->∃ b arr,E.β[i]? = some b/\RvC E cs arr/\∀ (j:Nat) u,arr[j]? = some u->E'.c ⟨b,j,none⟩=some u
theorem Nr.cl {E E':En} {bx:List (List DV)} {N:Nat} (h:Nr E E' bx N):Nr E E'.cl bx N:=⟨h.c,h.fz⟩
structure JB (E E':En) (n0 m0:Nat):Prop where
 β:∀ (i:Nat) b,i < n0->E.β[i]? = some b->E'.β[i]? = some b
 tk:∀ k,k < m0->E'.tk[k]? = E.tk[k]? /\ E'.τ[k]? = E.τ[k]?
theorem JB.zero (E E':En):JB E E' 0 0:=⟨fun _ _ h=>absurd h (Nat.not_lt_zero _),fun _ h=>absurd h (Nat.not_lt_zero _)⟩
theorem Ext.Sg (E:En):Ext E.cl E:=⟨fun _ _ h=>h,fun j b hj=>by simp [En.cl] at hj,fun k q hk=>by simp [En.cl] at hk⟩
theorem DD {E E':En} (hm:∀ e b o es,RvEs E.cl e b o es->RvEs E'.cl e b o es):∀ {l:List DV} {arr:List Value},(∀ x∈l,(∃ y,x = .v y)∨∃ e' C8,x = .sl e' C8 none)->RvL E l arr->RvL E' l arr
 | [],arr,_,h=>by simp only [RvL] at h ⊢;exact h
 | d :: r,arr,hs,h=>by
  simp only [RvL] at h ⊢;obtain ⟨v,s,rfl,h1,h2⟩:=h;refine ⟨v,s,rfl,?_,DD hm (fun x hx=>hs x (dB _ hx)) h2⟩;rcases hs d (by simp) with ⟨y,rfl⟩ | ⟨e',C8,rfl⟩
  ·unfold Rv at h1 ⊢;exact h1
  ·unfold Rv at h1 ⊢;obtain ⟨b,n,cap,h3,h4,h5,_⟩:=h1;exact ⟨b,n,cap,h3,h4,fun hn=>⟨(h5 hn).1,hm _ _ _ _ (h5 hn).2⟩,fun k hk=>by cases hk⟩
theorem CcL.length {bx:List (List DV)} {N n0 m0:Nat}:∀ {l' l:List DV},CcL bx N n0 m0 l' l->l'.length=l.length
 | [],l,h=>by simp only [CcL] at h;subst h;rfl
 | d' :: r',l,h=>by
  simp only [CcL] at h;obtain ⟨d,r,rfl,_,h2⟩:=h;simp [CcL.length h2]
theorem CcE.length {bx:List (List DV)} {N:Nat}:∀ {l' l:List (List DV)},CcE bx N l' l->l'.length=l.length
 | [],l,h=>by simp only [CcE] at h;subst h;rfl
 | d' :: r',l,h=>by
  simp only [CcE] at h;obtain ⟨d,r,rfl,_,h2⟩:=h;simp [CcE.length h2]
mutual
theorem Cc.sound {bx:List (List DV)} {N:Nat} {E:En}:∀ {d':DV} {E':En} {n0 m0:Nat} {d:DV} {v:Value},Nr E E' bx N->JB E E' n0 m0->Cc bx N n0 m0 d' d->Rv E d v->Rv E' d' v
 | .v y,E',n0,m0,d,v,hf,hl,h,hv=>by
  simp only [Cc] at h;subst h;unfold Rv at hv ⊢;exact hv
 | .ud,E',n0,m0,d,v,hf,hl,h,hv=>by
  simp only [Cc] at h;subst h;unfold Rv at hv ⊢;exact hv
 | .agg l',E',n0,m0,d,v,hf,hl,h,hv=>by
  simp only [Cc] at h;obtain ⟨l,rfl,h⟩:=h;unfold Rv at hv ⊢;obtain ⟨vs,h1,h2,h3⟩:=hv;exact ⟨vs,h1,CcL.sound hf hl h h2,h3⟩
 | .tup l',E',n0,m0,d,v,hf,hl,h,hv=>by
  simp only [Cc] at h;obtain ⟨l,rfl,h⟩:=h;unfold Rv at hv ⊢;obtain ⟨vs,h1,h2⟩:=hv;exact ⟨vs,h1,CcL.sound hf hl h h2⟩
 | .sl e es tk,E',n0,m0,d,v,hf,hl,h,hv=>by
  have hm:∀ b o,RvEs E.cl e b o es->RvEs E'.cl e b o es:=fun b o hr=>RvEs.mono (Ext.Jq hf.c) hr
  cases tk with
  | none=>
   simp only [Cc] at h;rcases h with ⟨rfl,rfl⟩ | ⟨cd,rfl⟩ | ⟨i,off,c,cs,rfl,hi,cQ,NT,kL,DB⟩ | ⟨es0,cd,rfl,h⟩
   ·have:=bo hv;subst this;unfold Rv;exact ⟨none,0,0,rfl,⟨rfl,aO _⟩,fun hn=>(hn rfl).elim,fun k hk=>by cases hk⟩
   ·unfold Rv at hv ⊢;obtain ⟨b,n,cap,h1,h2,h3,_⟩:=hv;exact ⟨b,n,cap,h1,h2,fun hn=>⟨(h3 hn).1,hm _ _ (h3 hn).2⟩,fun k hk=>by cases hk⟩
   ·obtain ⟨b,arr,hb,hc,hmm⟩:=hf.fz i cs hi cQ;unfold Rv at hv ⊢;obtain ⟨b',ad,eC,Za,rfl,hca⟩:=hv;rw [hb] at eC;simp only [oI] at eC;subst eC;refine ⟨ad,es.length,c,rfl,⟨rfl,Za⟩,fun hn=>?_,fun k hk=>by cases hk⟩;have kN:0 < es.length:=List.length_pos_iff.2 hn;have ZZ:=hca (by omega);subst ZZ;refine ⟨rfl,?_⟩;have h1:=(hc.drop off).take (es.length * e);rw [<- NT] at h1;refine rvEs_flat ⟨DD (E':=E'.cl) (fun e b o es hr=>(RvEs.mono (Ext.Jq hf.c) hr:RvEs E'.cl e b o es)) DB h1.1,h1.2⟩ kL fun j u hj=>?_;rw [bG] at hj;split at hj
    ·rw [List.getElem?_drop] at hj;exact hmm (off + j) u hj
    ·cases hj
   ·have hlen:=CcE.length h;have hs:=fun b o=>CcE.sound (e:=e) (b:=b) (o:=o) hf h;unfold Rv at hv ⊢;obtain ⟨b,n,cap,h1,h2,h3,_⟩:=hv;refine ⟨b,n,cap,h1,by omega,fun hn=>?_,fun k hk=>by cases hk⟩;have jO:es0 ≠ []:=fun hc=>hn (List.eq_nil_of_length_eq_zero (by rw [hlen,hc];rfl));exact ⟨(h3 jO).1,hs _ _ (h3 jO).2⟩
  | some k=>
   simp only [Cc] at h;obtain ⟨hk,rfl⟩:=h;unfold Rv at hv ⊢;obtain ⟨b,n,cap,h1,h2,h3,h4⟩:=hv;refine ⟨b,n,cap,h1,h2,fun hn=>⟨(h3 hn).1,hm _ _ (h3 hn).2⟩,fun k' fq=>?_⟩;cases fq;obtain ⟨e1,e2⟩:=hl.tk k hk;obtain ⟨q,h5,h6,h7⟩:=h4 k rfl;exact ⟨q,by rw [e1];exact h5,h6,fun hh=>by rw [e2];exact h7 hh⟩
 | .pt cs' o,E',n0,m0,d,v,hf,hl,h,hv=>by
  simp only [Cc] at h;rcases h with rfl | ⟨i,cs,rfl,hi,cQ,h⟩
  ·unfold Rv at hv ⊢;obtain ⟨b,p,h1,h2⟩:=hv;exact ⟨b,p,h1,RvAt.mono (Ext.Jq hf.c) h2⟩
  ·obtain ⟨b,arr,hb,hc,hm⟩:=hf.fz i cs hi cQ;unfold Rv at hv ⊢;obtain ⟨b',eC,rfl⟩:=hv;rw [hb] at eC;simp only [oI] at eC;subst eC;refine ⟨b,0,by simp,?_⟩;have:=CcL.sound hf.cl (JB.zero E E'.cl) h hc.1;exact BB ⟨this,hc.2⟩ fun j u hj=>by rw [Nat.zero_add];exact hm j u hj
 | .loc i o,E',n0,m0,d,v,hf,hl,h,hv=>by
  simp only [Cc] at h;obtain ⟨hi,rfl⟩:=h;unfold Rv at hv ⊢;obtain ⟨b,hb,h1⟩:=hv;exact ⟨b,hl.β i b hi hb,h1⟩
 | .el i o,E',n0,m0,d,v,hf,hl,h,hv=>by
  simp only [Cc] at h;obtain ⟨hi,rfl⟩:=h;unfold Rv at hv ⊢;obtain ⟨b,hb,h1⟩:=hv;exact ⟨b,hl.β i b hi hb,h1⟩
 | .ms i e o l c,E',n0,m0,d,v,hf,hl,h,hv=>by
  simp only [Cc] at h;obtain ⟨hi,rfl⟩:=h;unfold Rv at hv ⊢;obtain ⟨b,ad,hb,h1⟩:=hv;exact ⟨b,ad,hl.β i b hi hb,h1⟩
 | .fn f a' b',E',n0,m0,d,v,hf,hl,h,hv=>by
  simp only [Cc] at h;obtain ⟨a,b,rfl,ha,hb⟩:=h;unfold Rv at hv ⊢;obtain ⟨l,r,h1,h2,h3⟩:=hv;exact ⟨l,r,h1,CcL.sound hf hl ha h2,CcL.sound hf hl hb h3⟩
 | .qG t x',E',n0,m0,d,v,hf,hl,h,hv=>by
  simp only [Cc] at h;obtain ⟨x,rfl,hx⟩:=h;unfold Rv at hv ⊢;obtain ⟨z,h1,h2⟩:=hv;exact ⟨z,h1,Cc.sound hf hl hx h2⟩
theorem CcL.sound {bx:List (List DV)} {N:Nat} {E:En}:∀ {l':List DV} {E':En} {n0 m0:Nat} {l:List DV} {vs:List Value},Nr E E' bx N->JB E E' n0 m0->CcL bx N n0 m0 l' l->RvL E l vs->RvL E' l' vs
 | [],E',n0,m0,l,vs,hf,hl,h,hv=>by
  simp only [CcL] at h;subst h;simp only [RvL] at hv ⊢;exact hv
 | d' :: r',E',n0,m0,l,vs,hf,hl,h,hv=>by
  simp only [CcL] at h;obtain ⟨d,r,rfl,h1,h2⟩:=h;simp only [RvL] at hv ⊢;obtain ⟨v,s,h3,h4,h5⟩:=hv;exact ⟨v,s,h3,Cc.sound hf hl h1 h4,CcL.sound hf hl h2 h5⟩
theorem CcA.sound {bx:List (List DV)} {N:Nat} {E:En}:∀ {l':List DV} {E':En} {l:List DV} {b p:Nat},Nr E E' bx N->CcL bx N 0 0 l' l->RvAt E.cl b p l->RvAt E'.cl b p l'
 | [],E',l,b,p,hf,h,hv=>by simp only [RvAt]
 | d' :: r',E',l,b,p,hf,h,hv=>by
  simp only [CcL] at h;obtain ⟨d,r,rfl,h1,h2⟩:=h;simp only [RvAt] at hv ⊢;obtain ⟨⟨v,h3,h4,h5⟩,h6⟩:=hv;exact ⟨⟨v,hf.c _ _ h3,h4,Cc.sound hf.cl (JB.zero E E'.cl) h1 (Rv.mono (Ext.Sg E) h5)⟩,CcA.sound hf h2 h6⟩
theorem CcE.sound {bx:List (List DV)} {N:Nat} {E:En}:∀ {l':List (List DV)} {E':En} {l:List (List DV)} {e b o:Nat},Nr E E' bx N->CcE bx N l' l->RvEs E.cl e b o l->RvEs E'.cl e b o l'
 | [],E',l,e,b,o,hf,h,hv=>by simp only [RvEs]
 | a' :: r',E',l,e,b,o,hf,h,hv=>by
  simp only [CcE] at h;obtain ⟨a,r,rfl,h1,h2⟩:=h;simp only [RvEs] at hv ⊢;obtain ⟨h3,h4,h5⟩:=hv;refine ⟨?_,?_,CcE.sound hf h2 h5⟩
  ·rcases h1 with rfl | h1
   ·exact h3
   ·rw [CcL.length h1];exact h3
  ·rcases h1 with rfl | h1
   ·exact RvAt.mono (Ext.Jq hf.c) h4
   ·exact CcA.sound hf h1 h4
end
theorem Ux {E:En} {e:Nat} {es C8:List (List DV)} {tk:Option Nat} {v:Value} (h:CcE [] 0 C8 es) (hv:Rv E (.sl e es tk) v):Rv E (.sl e C8 tk) v:=by
 have hlen:=CcE.length h;have hs:=fun b o=>CcE.sound (E:=E) (E':=E) (bx:=[]) (N:=0) (e:=e) (b:=b) (o:=o) ⟨fun _ _ h=>h,fun i cs _ hi=>by simp at hi⟩ h;unfold Rv at hv ⊢;obtain ⟨b,n,cap,h1,h2,h3,h4⟩:=hv;refine ⟨b,n,cap,h1,by omega,fun hn=>?_,h4⟩;have jO:es ≠ []:=fun hc=>hn (List.eq_nil_of_length_eq_zero (by rw [hlen,hc];rfl));exact ⟨(h3 jO).1,hs _ _ (h3 jO).2⟩
theorem my.get {bx:List (List DV)} {N n0 m0:Nat}:∀ {l' l:List (List DV)},my bx N n0 m0 l' l->l'.length=l.length/\∀ (i:Nat) cs',l'[i]? = some cs' -> ∃ cs,l[i]? = some cs/\CcL bx N n0 m0 cs' cs
 | [],l,h=>by simp only [my] at h;subst h;exact ⟨rfl,by simp⟩
 | a' :: r',l,h=>by
  simp only [my] at h;obtain ⟨a,r,rfl,h1,h2⟩:=h;obtain ⟨h3,h4⟩:=my.get h2;refine ⟨by simp [h3],fun i cs' hi=>?_⟩
  cases i with
  | zero=>simp only [List.getElem?_cons_zero,oI] at hi;subst hi;exact ⟨a,rfl,h1⟩
  | succ i=>simp only [List.getElem?_cons_succ] at hi ⊢;exact h4 i cs' hi
open Classical in
noncomputable def sw (E:En) (n:Nat) (w:World):Addr->Option Value:=
 fun a=>if ∃ i:Nat,n<=i/\E.β[i]? = some a.block then w.cell? a else E.c a
section
variable {X:Ctx} {E:En} {st:St} {a:Act} {w:World}
theorem eV {n:Nat} {x:Addr} {v:Value} (h:sw E n w x=some v):((∃ i:Nat,n<=i/\E.β[i]? = some x.block)/\w.cell? x=some v)∨E.c x=some v:=by
 unfold sw at h;split at h
 ·rename_i hc;exact .inl ⟨hc,h⟩
 ·exact .inr h
theorem mE {bx:List (List DV)} (h:Env E bx w) {n:Nat} {x:Addr} {v:Value} (hx:E.c x=some v):sw E n w x=some v:=by
 unfold sw;split
 ·exact h.sub x v hx
 ·exact hx
theorem BJ (h:Rel X E st a w) {d d':DV} {os:List (List DV)} {v:Value} (hv:Rv E d v) (M:Nat) (hM:(X.fr=false/\M=X.m0)∨(X.fr=true/\M=st.tk.length)) (hd:Cc st.bx X.n0 X.n0 M d' d) (vS:my st.bx X.n0 X.n0 M os (st.bx.take X.n0)) (hΦ:X.Φ d' os (st.tk.take M)):Dq X.still X.E0 X.w0 X.Φ v w X.fr:=by
 obtain ⟨r,Sh,hβl⟩:=h.nw.β;have gv:E.β.take X.n0=X.E0.β:=by rw [Sh,<- X.jO];simp
 have jV:∀ (i:Nat) b,i < X.n0->E.β[i]? = some b->X.E0.β[i]? = some b:=fun i b hi hb=>by
  rw [<- gv,bG,ai hi];exact hb
 have eN:∀ (i:Nat) b,X.n0<=i->E.β[i]? = some b->b∈r:=fun i b hi hb=>by
  rw [Sh,List.getElem?_append_right (by rw [X.jO];exact hi)] at hb;exact mG hb
 have WL:∀ b,b∈X.E0.β->b∈r->False:=fun b h1 h2=>by
  have:=h.env.inj;rw [Sh] at this;exact (List.nodup_append.1 this).2.2 b h1 b h2 rfl
 have hE0l:X.E0.τ.length=X.m0:=by rw [h.nw.l0,X.kg]
 have hEt:X.m0<=E.tk.length:=by
  rcases Nat.lt_or_ge E.tk.length X.m0 with h1 | h1
  ·have hk:E.tk.length < X.E0.tk.length:=by rw [X.kg];exact h1
   have fq:E.tk.length < X.E0.τ.length:=by rw [h.nw.l0];exact hk
   obtain ⟨q',y',h2,_⟩:=h.nw.tk E.tk.length _ _ (gE hk) (gE fq);have:=(gS h2).1;omega
  ·exact h1
 have hMm:X.m0<=M/\M<=E.tk.length:=by
  rcases hM with ⟨_,rfl⟩ | ⟨_,rfl⟩
  ·exact ⟨aO _,hEt⟩
  ·rw [<- h.tk];exact ⟨hEt,aO _⟩
 have Ze:tkL X.fr (E.tk.take M).length X.E0.tk.length:=by
  rw [zLenT];rcases hM with ⟨hf,rfl⟩ | ⟨hf,rfl⟩
  ·rw [hf];show min _ _=_;rw [X.kg];omega
  ·rw [hf];show _<=min _ _;rw [X.kg];omega
 let E':En:=⟨sw E X.n0 w,X.E0.β,E.tk.take M,E.τ.take M⟩
 have NU:Nr E E' st.bx X.n0:={
  c:=fun x u hx=>mE h.env hx
  fz:=fun i cs hi cQ=>by
   obtain ⟨b,ty,arr,hb,hw,hc⟩:=h.env.eA i cs cQ;refine ⟨b,arr,hb,hc,fun j u hj=>?_⟩;show sw E X.n0 w ⟨b,j,none⟩=some u;unfold sw;rw [ai ⟨i,hi,hb⟩,cK hw]
   simpa using hj }
 have zh:JB E E' X.n0 M:={
  β:=jV
  tk:=fun k hk=>⟨by show (E.tk.take M)[k]? = _;rw [bG,ai hk],by show (E.τ.take M)[k]? = _;rw [bG,ai hk]⟩ }
 obtain ⟨kO,Z5⟩:=vS.get;refine ⟨h.fr,h.sh,d',os,E',?_,rfl,Ze,?_,hd.sound NU zh hv,by show X.Φ d' os (E.tk.take M);rw [h.tk];exact hΦ⟩
 ·exact {
   len:=by
    show X.E0.β.length=os.length;rw [kO,X.jO,zLenT]
    have:X.n0<=st.bx.length:=by
     rw [<- h.env.len,Sh,List.length_append,X.jO];omega
    omega
   tl:=by simp only [E',zLenT];rw [h.env.tl]
   eA:=fun i cs' hi=>by
    obtain ⟨cs,cQ,u7⟩:=Z5 i cs' hi;rw [bG] at cQ;split at cQ
    ·rename_i aq;obtain ⟨b,ty,arr,hb,hw,hc⟩:=h.env.eA i cs cQ;exact ⟨b,ty,arr,jV i b aq hb,hw,CcL.sound NU zh u7 hc.1,hc.2⟩
    ·cases cQ
   inj:=by rw [<- gv];exact h.env.inj.sublist (List.take_sublist _ _)
   sub:=fun x u hx=>by
    rcases eV hx with ⟨_,h1⟩ | h1
    ·exact h1
    ·exact h.env.sub x u h1
   pc:=fun x u hx hm=>by
    rcases eV hx with ⟨⟨i,hi,hb⟩,_⟩ | h1
    ·exact WL _ hm (eN i _ hi hb)
    ·refine h.env.pc x u h1 ?_;rw [Sh];exact List.mem_append.2 (.inl hm)
   bQ:=fun k q y hq hy=>by
    simp only [E',bG] at hq hy;split at hq
    ·rename_i hk;rw [ai hk] at hy;rcases h.env.bQ k q y hq hy with h1 | ⟨g,cap,cur,rfl,h1,h2,h3,h4,h5,h6⟩
     ·exact .inl h1
     ·refine .inr ⟨g,cap,cur,rfl,h1,⟨h2.1,h2.2.mono fun _ _ hx=>mE h.env hx⟩,h3,h4,fun hm=>h5 (by rw [Sh];exact List.mem_append.2 (.inl hm)),fun x u hx hg=>?_⟩;rcases eV hx with ⟨⟨i,hi,hb⟩,_⟩ | h7
      ·rw [hg] at hb;exact (h5 (mG hb)).elim
      ·exact h6 x u h7 hg
    ·cases hq
   iZ:=fun k k' y y' g zM hy fy=>by
    simp only [E',bG] at hy fy;split at hy
    ·split at fy
     ·exact h.env.iZ k k' y y' g zM hy fy
     ·cases fy
    ·cases hy }
 ·exact {
   c:=fun x u hx=>mE h.env (h.nw.c x u hx)
   cn:=fun x u hx=>by
    rcases eV hx with ⟨⟨i,hi,hb⟩,_⟩ | h1
    ·exact .inr (.inl (hβl _ (eN i _ hi hb)))
    ·exact h.nw.cn x u h1
   β:=⟨[],by simp [E'],by simp⟩
   tk:=fun k q y hq hy=>by
    obtain ⟨q',y',h1,h2,h3⟩:=h.nw.tk k q y hq hy;have hk:k < X.m0:=by rw [<- X.kg];exact (gS hq).1
    exact ⟨q',y',by show (E.tk.take M)[k]? = _;rw [bG,ai (by omega)];exact h1,by show (E.τ.take M)[k]? = _;rw [bG,ai (by omega)];exact h2,h3⟩
   tn:=fun k y g hk hy hg=>by
    simp only [E',bG] at hy;split at hy
    ·exact h.nw.tn k y g hk hy hg
    ·cases hy
   l0:=h.nw.l0 }
def resOf (tmps:Array Value):ResultVar->Sem Value
 | .tmp t=>pure (tmps.getD t undef)
 | .cell x t=>do loadVar t (<- asAddr (tmps.getD x undef))
theorem GQ (fn:Func) (tmps:Array Value):results fn tmps=(do let vs <- fn.results.mapM (resOf tmps);pure (if h:vs.size=1 then vs[0] else .tuple vs)):=by
 unfold results;congr 2
theorem GR (h:Rel X E st a w) {r:ResultVar} {d:DV} (hr:res1 X.T st r=some d):∃ v,Rv E d v/\(resOf a.tmps r).run X.P w = .ok v w:=by
 cases r with
 | tmp t=>
  simp only [res1] at hr;split at hr
  ·rename_i x hg;simp only [oI] at hr;subst hr;obtain ⟨v,h1,h2⟩:=(h.tm t _ hg).1 (bg _);exact ⟨v,h2,by simp [resOf,Array.getD_eq_getD_getElem?,h1]⟩
  ·cases hr
 | cell x t=>
  simp only [res1] at hr;split at hr
  ·rename_i i off hg;split at hr
   ·rename_i cs cQ;obtain ⟨v,h1,h2⟩:=(h.tm x _ hg).1 (bg _);unfold Rv at h2;obtain ⟨b,hb,rfl⟩:=h2;obtain ⟨b',GK,arr,eC,hw,hc⟩:=h.env.eA i cs cQ;rw [hb] at eC;simp only [oI] at eC;subst eC;obtain ⟨v,hv,hl⟩:=mz X.hT hc (b:=b) (p:=0) hr;have hl:=hl w fun j u hj=>by rw [cK hw];simpa using hj
    rw [Nat.zero_add] at hl;exact ⟨v,hv,by simp only [resOf,Array.getD_eq_getD_getElem?,h1,Option.getD_some,asAddr,Sem.run_bind,Sem.run_pure,Result.andThen_ok,hl]⟩
   ·cases hr
  ·cases hr
theorem mF (h:Rel X E st a w):∀ {rs:List ResultVar} {ds:List DV},resD X.T st rs=some ds->∃ vs,RvL E ds vs/\(rs.mapM (resOf a.tmps)).run X.P w = .ok vs w
 | [],ds,hr=>by
  simp only [resD,oI] at hr;subst hr;exact ⟨[],cL E,rfl⟩
 | r :: rs,ds,hr=>by
  simp only [resD] at hr;split at hr
  ·rename_i d l hd hl;simp only [oI] at hr;subst hr;obtain ⟨v,hv,h1⟩:=GR h hd;obtain ⟨vs,zf,h2⟩:=mF h hl;refine ⟨v :: vs,rvL_cons hv zf,?_⟩;simp only [List.mapM_cons,Sem.run_bind,h1,Result.andThen_ok,h2,Sem.run_pure]
  ·cases hr
theorem pS (h:Rel X E st a w) {d:DV} {v:Value} (hv:Rv E d v) (hf:finD X st d):Dq X.still X.E0 X.w0 X.Φ v w X.fr:=by
 unfold finD at hf;split at hf
 ·rename_i Si;obtain ⟨d',os,hd,vS,hΦ⟩:=hf;exact BJ h hv st.tk.length (.inr ⟨Si,rfl⟩) hd vS (by rw [List.take_length];exact hΦ)
 ·rename_i Si;split at hf
  ·rename_i hn hm
   have key:∀ d',Cc st.bx 0 0 0 d' d->X.Φ d' [] []->Dq X.still X.E0 X.w0 X.Φ v w X.fr:=fun d' hd hΦ=>
    BJ h hv (d':=d') (os:=[]) X.m0 (.inl ⟨Si,rfl⟩) (by rw [hn,hm];exact hd) (by rw [hn];simp [my]) (by rw [hm];exact hΦ)
   split at hf
   ·rename_i x;exact key (.v x) (by simp only [Cc]) hf
   ·obtain ⟨d',hd,hΦ⟩:=hf;exact key d' hd hΦ
  ·obtain ⟨d',os,hd,vS,hΦ⟩:=hf;exact BJ h hv X.m0 (.inl ⟨Si,rfl⟩) hd vS hΦ
theorem zQ (h:Rel X E st a w) (hf:fin X st):kq X [] .ret a w:=by
 have Dc:X.fn.results=X.rs.toArray:=by rw [<- X.y9]
 simp only [kq];refine ⟨h.df,?_⟩
 have hbt:pe X.bt X.E0.β w:=fun p hp b hb=>by
  obtain ⟨r,hr,_⟩:=h.nw.β;exact h.bt p hp b (by rw [hr,bF (gS hb).1];exact hb)
 unfold fin at hf
 have NV:∀ (ds:List DV) (vs:List Value),(X.rs.mapM (resOf a.tmps)).run X.P w = .ok vs w->(results X.fn a.tmps).run X.P w = .ok (if h:vs.toArray.size=1 then vs.toArray[0] else .tuple vs.toArray) w:=by
  intro ds vs hv;rw [GQ,Dc];simp only [List.mapM_toArray,Sem.run_bind,Sem.run_map,hv];rfl
 split at hf
 ·rename_i hr;obtain ⟨vs,zf,h1⟩:=mF h hr;simp only [RvL] at zf;subst zf;exact ⟨_,NV [] [] h1,pS h (v:=.tuple #[]) (by unfold Rv;exact ⟨[],rfl,cL E⟩) hf,hbt⟩
 ·rename_i d hr;obtain ⟨vs,zf,h1⟩:=mF h hr;have hl:=zf.length;simp only [RvL] at zf;obtain ⟨v,s,rfl,hv,rfl⟩:=zf;exact ⟨_,NV [d] [v] h1,pS h (v:=v) hv hf,hbt⟩
 ·rename_i d e l hr;obtain ⟨vs,zf,h1⟩:=mF h hr;have hl:=zf.length;have aQ:¬ vs.toArray.size=1:=by simp at hl ⊢;omega
  have h2:=NV [] vs h1;rw [dif_neg aQ] at h2;exact ⟨_,h2,pS h (v:=.tuple vs.toArray) (by unfold Rv;exact ⟨vs,rfl,zf⟩) hf,hbt⟩
 ·exact hf.elim
theorem vY:∀ (k:List It) (a:Act) (w:World),kq X [] .ret a w->kq X k .ret a w
 | [],_,_,h=>h
 | .code _ :: k,a,w,h=>vY k a w h
 | .ops _ _ :: k,a,w,h=>vY k a w h
 | .Gw _ :: k,a,w,h=>vY k a w h
 | .vJ _ :: k,a,w,h=>vY k a w h
theorem qQ {id:Nat}:∀ (k k':List It) (a:Act) (w:World),dropBlk id k=some k' -> kq X k' .normal a w->kq X k (.exit id) a w
 | [],k',a,w,hd,_=>by simp [dropBlk] at hd
 | .code _ :: k,k',a,w,hd,h=>by simp only [dropBlk] at hd;exact qQ k k' a w hd h
 | .ops _ _ :: k,k',a,w,hd,h=>by simp only [dropBlk] at hd;exact qQ k k' a w hd h
 | .vJ _ :: k,k',a,w,hd,h=>by simp only [dropBlk] at hd;exact qQ k k' a w hd h
 | .Gw i :: k,k',a,w,hd,h=>by
  simp only [dropBlk] at hd;split at hd
  ·rename_i hi;have hi:id=i:=sU hi;simp only [oI] at hd;subst hd;simp only [kq];rw [ai hi];exact h
  ·rename_i hi
   have hi:id≠i:=by
    rintro rfl;rw [Nat.beq_refl] at hi;cases hi
   simp only [kq];rw [ah hi];exact qQ k k' a w hd h
theorem Lh {P:Program} {o:Oper} {a:Act} {K K':Act->World->Prop} {Q Q':Exit->Act->World->Prop} (hK:∀ a w,K a w->K' a w) (hQ:∀ e a w,Q e a w->Q' e a w)
  {r:Result Next} (h:o.upon P a K Q r):o.upon P a K' Q' r:=by
 unfold Oper.upon at *;split<;>simp_all
 ·refine h.mono ?_;intro e w' hq
  cases e with
  | returned v=>exact hK _ _ hq
  | panicked c=>exact hQ _ _ _ hq
  | outgrown=>obtain ⟨a,w,hq⟩:=hq;exact ⟨a,w,hQ _ _ _ hq⟩
 ·exact h.mono fun v w' hq=>hK _ _ hq
theorem DE {P:Program} {o:Oper} {a:Act} {K K':Act->World->Prop} {Q Q':Exit->Act->World->Prop} {w:World} (hK:∀ a w,K a w->K' a w) (hQ:∀ e a w,Q e a w->Q' e a w)
  (h:o.wp P a w K Q):o.wp P a w K' Q':=Lh hK hQ h
theorem fF (c:Code) (k:List It) (a:Act) (w:World):kq X (.code c :: k) .normal a w=c.wp X.P (kq X k) a w:=rfl
theorem Sj (c:Code) (k:List It):kq X (.code c :: k)=Exit.then (c.wp X.P (kq X k)) (kq X k):=by
 funext e a w;cases e<;>rfl
theorem WM (id:Nat) (k:List It) (e:Exit) (a:Act) (w:World) (h:kq X (.Gw id :: k) e a w):Exit.inBlock id (kq X k) e a w:=by
 cases e<;>exact h
theorem wanted_spec (h:Rel X E st a w) {all:Array Oper} {o:Oper} {j d:Nat} {want:Bool} {mn:List (Nat × Bool)} {sd:DV} (Sk:o.guard=some (j,want)) (GJ:gslot all.toList j=some d) (Li:get st.sl d=some ⟨mn,sd⟩) :
  Region.wanted o (yielded all a.tmps)=true↔Holds a.tmps ((d,want) :: mn):=by
 have WN:yielded all a.tmps j=match a.tmps[d]? with | some (.bool b)=>some b | _=>none:=by
  unfold gslot at GJ;split at GJ
  ·rename_i oj hoj;have hoj':all[j]? = some oj:=sU hoj;simp only [yielded,hoj',GJ,Option.bind_some]
   cases a.tmps[d]? with
   | none=>rfl
   | some v=>cases v<;>rfl
  ·cases GJ
 have htd:=h.tm d _ Li;simp only [Region.wanted,Sk,WN];constructor
 ·intro hw
  have hb:a.tmps[d]? = some (.bool want):=by
   split at hw
   ·rename_i b hb;rw [hb];have:b=want:=sU hw;rw [this]
   ·simp at hw
  refine kh hb ?_;by_cases hh:Holds a.tmps mn
  ·exact hh
  ·have:=htd.2 hh;rw [hb] at this;simp [undef] at this
 ·intro hh;have:=hh (d,want) (by simp);simp only at this;rw [this];simp
theorem DF (h:Rel X E st a w) {t:Nat} {b:Bool} (hg:get st.sl t=some ⟨[],.v (.bool b)⟩):a.tmps[t]? = some (.bool b):=by
 obtain ⟨v,h1,h2⟩:=(h.tm t _ hg).1 (bg _);rw [h1,ki h2]
theorem NW (h:Rel X E st a w) {t:Nat} (hg:get st.sl t=some ⟨[],.ud⟩):a.tmps[t]? = some undef:=by
 obtain ⟨v,h1,h2⟩:=(h.tm t _ hg).1 (bg _);unfold Rv at h2;rw [h1,h2]
theorem vZ {G:List (Nat × Bool)} {dst:Option Nat} (bZ:okG G dst=true):∀ e,dst=some e->∀ p∈G,p.1≠e:=by
 intro e he p hp dX;rw [he] at bZ;have:=(List.all_eq_true.1 bZ) p hp;rw [dX] at this;simp at this
theorem go_sound:∀ n,Snd X (go X n)
 | 0=>fun k st hg=>hg.elim
 | n + 1=>by
  have ih:=go_sound n;intro k st hg E a w h
  match k with
  | []=>exact zQ h (by simpa [go] using hg)
  | .Gw id :: k=>exact ih k st (by simpa [go] using hg) E a w h
  | .vJ J :: k=>exact ⟨st,E,h,by simpa [go] using hg⟩
  | .ops all [] :: k=>exact ih k st (by simpa [go] using hg) E a w h
  | .ops all (o :: r) :: k=>
   simp only [go,oJ,Jp] at hg;split at hg
   ·exact hg.elim
   ·rename_i hd;split at hg
    ·rename_i Sk;simp only [kq,wpList,Region.wanted,Sk,if_true];split at hg
     ·rename_i s hs;obtain ⟨v,hv,bU⟩:=jd X.hT h.rl (bg _) hs;exact .inl (gq (bU w fun _=>rfl) (ih _ _ hg E _ w (aY h hd s v hv)))
     ·exact .inl (DE (fun a w hk=>hk) (fun e a w hq=>hq.elim) (zP ih hd h hg))
    ·rename_i j want Sk;split at hg
     ·exact hg.elim
     ·rename_i d GJ;split at hg
      ·exact hg.elim
      ·rename_i mn sd Li;have qR:=wanted_spec h Sk GJ Li;simp only [kq,wpList];split at hg
       ·rename_i s hs;split at hg
        case h_2=>exact hg.elim
        rename_i bZ;split
        ·rename_i hw;have hh:=qR.1 hw;obtain ⟨v,hv,bU⟩:=jd X.hT h.rl hh hs;exact .inl (gq (bU w fun _=>rfl) (ih _ _ hg E _ w (qN h hd _ s v (vZ bZ) (fun _=>hv) (fun hn=>(hn hh).elim))))
        ·rename_i hw;have hh:¬ Holds a.tmps ((d,want) :: mn):=fun hh=>hw (qR.2 hh);exact ih _ _ hg E _ w (qN h hd _ s undef (vZ bZ) (fun hn=>(hh hn).elim) (fun _=>rfl))
       ·split at hg
        ·rename_i b gv;have ht0:=DF h gv
         cases mn with
         | nil=>
          simp only [lastG] at gv ht0;cases zi:(b == want)
          ·have GS:b = !want:=by cases b<;>cases want<;>simp_all
           have hg:=hg.f zi
           have hn:¬ Region.wanted o (yielded all a.tmps)=true:=by
            intro hw;have:=(qR.1 hw) (d,want) (by simp);simp only at this;rw [ht0] at this;simp only [oI,Value.bool.injEq] at this;rw [this] at zi;simp at zi
           rw [ah hn];have hr:=kR (d:=d) (b:=!want) h (by rw [ht0,GS]);exact ih _ _ hg E _ w (aY hr (kS hd) .ud undef (tQ E))
          ·have kU:b=want:=sU zi;have hg:=hg.t zi;subst kU;have hw:Region.wanted o (yielded all a.tmps)=true:=qR.2 (kh ht0 (bg _));rw [ai hw];have hr:=kR (d:=d) (b:=b) h ht0;exact .inl (DE (fun a w hk=>hk) (fun e a w hq=>hq.elim) (zP ih (kS hd) hr hg))
         | cons g1 gr=>
          have key:∀ c,a.tmps[(lastG (d,want) (g1 :: gr)).1]? = some (.bool c)->go X n (.ops all (o :: r) :: k) (st.resolve (lastG (d,want) (g1 :: gr)).1 c)->wpList X.P all (kq X k) (o :: r) a w:=
           fun c hc nF=>ih _ _ nF E a w (kR h hc)
          cases zi:(b == (lastG (d,want) (g1 :: gr)).2)
          ·have hg:=hg.f zi;have GS:b = !(lastG (d,want) (g1 :: gr)).2:=by cases b<;>cases h0:(lastG (d,want) (g1 :: gr)).2<;>simp_all
           have:=key _ (by rw [ht0,GS]) hg;simpa [wpList] using this
          ·have hg:=hg.t zi;have kU:b=(lastG (d,want) (g1 :: gr)).2:=sU zi;have:=key _ (by rw [ht0,kU]) hg;simpa [wpList] using this
        ·rename_i gv
         cases mn with
         | nil=>
          have ht0:=NW h gv;simp only [lastG] at ht0
          have hn:¬ Region.wanted o (yielded all a.tmps)=true:=by
           intro hw;have:=(qR.1 hw) (d,want) (by simp);simp only at this;rw [ht0] at this;simp [undef] at this
          rw [ah hn];exact ih _ _ hg E _ w (aY h hd .ud undef (tQ E))
         | cons g1 gr=>exact hg.elim
        ·exact hg.elim
  | .code c :: k=>
   rw [fF]
   cases c with
   | skip=>exact wp_skip (ih k st (by simpa [go] using hg) E a w h)
   | seq x y=>
    have:=ih (.code x :: .code y :: k) st (by simpa [go] using hg) E a w h;rw [fF,Sj] at this;exact wp_seq this
   | block id b=>
    have:=ih (.code b :: .Gw id :: k) st (by simpa [go] using hg) E a w h;rw [fF] at this;exact wp_block (wp_mono this (WM id k))
   | exit id=>
    simp only [go] at hg;split at hg
    ·rename_i k' hk;exact wp_exit (qQ k k' a w hk (ih k' st hg E a w h))
    ·exact hg.elim
   | cond x p q=>
    simp only [go] at hg;split at hg
    ·rename_i b hb;refine wp_cond (t:=b) (by rw [ki (aU h.rl hb)]) ?_;cases gv:b
     ·exact ih (.code q :: k) st (hg.f gv) E a w h
     ·exact ih (.code p :: k) st (hg.t gv) E a w h
    ·exact hg.elim
   | region id ops d=>
    simp only [go] at hg;cases d
    ·exact wp_region_list (ih (.ops ops ops.toList :: k) st hg E a w h)
    ·exact hg E a w h
   | loop b=>exact (by simpa [go] using hg:pu X b k st) E a w h
   | ret=>exact wp_ret (vY k a w (zQ h (by simpa [go] using hg)))
   | _=>simp [go] at hg
theorem DG {fn:Func} (Dc:X.fn=fn) (e:Exit) (a:Act) (w:World) (h:kq X [] e a w):bodyPost X.P fn (fun e w'=>∃ v,e = .returned v/\Dq X.still X.E0 X.w0 X.Φ v w' X.fr/\pe X.bt X.E0.β w') e a w:=by
 subst Dc
 cases e with
 | normal=>obtain ⟨h1,v,h2,h3⟩:=h;exact ⟨h1,v,h2,v,rfl,h3⟩
 | ret=>obtain ⟨h1,v,h2,h3⟩:=h;exact ⟨h1,v,h2,v,rfl,h3⟩
 | exit _=>exact h.elim
 | goto _=>exact h.elim
 | panic _=>exact h.elim
 | outgrown=>exact h.elim
end
def WO (s:Bool) (P:Program) (f:FuncId) (args:List DV) (os:List (List DV)) (bQ:List TkE) (Φ:DV->List (List DV)->List TkE->Prop) (fr:Bool:=false):Prop:=
 ∀ (E:En) (w:World) (vs:List Value),Env E os w->E.tk=bQ->RvL E args vs->Calls P f vs.toArray w fun e w'=>∃ v,e = .returned v/\Dq s E w Φ v w' fr
def Ev (P:Program) (f:FuncId) (args:List DV) (os:List (List DV)) (bQ:List TkE) (Φ:DV->List (List DV)->List TkE->Prop):Prop:=WO false P f args os bQ Φ
def EvS (P:Program) (f:FuncId) (args:List DV) (os:List (List DV)) (bQ:List TkE) (Φ:DV->List (List DV)->List TkE->Prop):Prop:=WO true P f args os bQ Φ
def Sm (P:Program) (f:FuncId) (args:List DV) (os:List (List DV)) (bQ:List TkE) (Φ:DV->List (List DV)->List TkE->Prop):Prop:=WO false P f args os bQ Φ true
def EvP (P:Program) (f:FuncId) (args:List DV) (d:DV):Prop:=Ev P f args [] [] fun d' _ _=>d'=d
def argSl:Nat->List DV->List (Nat × Sl)
 | _,[]=>[]
 | i,v :: r=>(i,⟨[],v⟩) :: argSl (i + 1) r
theorem zR:∀ (l:List DV) (i j:Nat) (x:Sl),get (argSl i l) j=some x->∃ v,x=⟨[],v⟩/\i<=j/\l[j - i]? = some v
 | [],_,_,_,h=>by simp [argSl,get] at h
 | v :: r,i,j,x,h=>by
  simp only [argSl,dM] at h;split at h
  ·rename_i mr;simp only [oI] at h;subst h mr;exact ⟨v,rfl,aO _,by simp⟩
  ·rename_i mr;obtain ⟨u,hu,fQ,hg⟩:=zR r (i + 1) j x h;refine ⟨u,hu,by omega,?_⟩;rw [show j - i=(j - (i + 1)) + 1 by omega];simpa using hg
theorem Nw.refl {E:En} {bx:List (List DV)} {w:World} (h:Env E bx w):Nw E E w where
 c:=fun _ _ h=>h
 cn:=fun _ _ h=>.inl h
 β:=⟨[],by simp,by simp⟩
 tk:=fun k q y hq hy=>⟨q,y,hq,hy,rfl,rfl,.inl ⟨rfl,rfl⟩,.inl rfl⟩
 tn:=fun k y g hk hy=>by
  have:=(gS hy).1;rw [h.tl] at this;omega
 l0:=h.tl
def Z6 (s:Bool) (P:Program) (f:FuncId) (args:List DV) (os:List (List DV)) (bQ:List TkE) (bt:List (Nat × TypeId)) (Φ:DV->List (List DV)->List TkE->Prop) (fr:Bool:=false):Prop:=
 ∀ (E:En) (w:World) (vs:List Value),Env E os w->E.tk=bQ->pe bt E.β w->RvL E args vs->Calls P f vs.toArray w fun e w'=>∃ v,e = .returned v/\Dq s E w Φ v w' fr/\pe bt E.β w'
theorem BK {s:Bool} {P:Program} {f:FuncId} {fn:Func} {c:Code} {args:List DV} {os:List (List DV)} {bQ:List TkE} {Φ:DV->List (List DV)->List TkE->Prop} (bt:List (Nat × TypeId)) (mu:List Nat) (fr:Bool) (T:TT) (hT:T.ok P=true) (n nt:Nat) (rs:List ResultVar)
  (hf:P.funcs[f]? = some fn) (hb:fn.body=some c) (GU:fn.ntmps=nt) (y9:fn.results.toList=rs) (hlen:args.length<=nt)
  (h:∀ (E:En) (w:World) (hn:E.β.length=os.length) (hm:E.tk.length=bQ.length),go ⟨P,T,hT,fn,nt,rs,y9,w,E,os.length,bQ.length,hn,hm,s,Φ,bt,mu,fr⟩ n [.code c] ⟨argSl 0 args,os,bQ⟩):Z6 s P f args os bQ bt Φ fr:=by
 intro E w vs hE je gv hv;have hl:=hv.length;have hg:=h E w hE.len (by rw [je]);refine calls_of_wp hf hb ?_
 have hs:=go_sound (X:=⟨P,T,hT,fn,nt,rs,y9,w,E,os.length,bQ.length,hE.len,by rw [je],s,Φ,bt,mu,fr⟩) n _ _ hg E
  {tmps:=vs.toArray ++ Array.replicate (fn.ntmps - vs.toArray.size) undef,defers:=[] } w
  {env:=hE
   tk:=je
   sz:=by simp [GU];omega
   tm:=by
    intro i x hx;obtain ⟨d,rfl,_,hd⟩:=zR args 0 i x hx;simp only [Nat.sub_zero] at hd;obtain ⟨v,qx,Lb⟩:=hv.get hd;rw [Array.getElem?_append_left (by simpa using (gS qx).1)];exact ⟨fun _=>⟨v,by simpa using qx,Lb⟩,fun hn=>(hn (bg _)).elim⟩
   df:=rfl
   nw:=Nw.refl hE
   fr:=⟨rfl,rfl,rfl,aO _,fun _ _ _=>rfl⟩
   sh:=fun _=>⟨0,rfl⟩
   bt:=gv }
 exact wp_mono hs (DG rfl)
theorem mH {s:Bool} {P:Program} {f:FuncId} {fn:Func} {c:Code} {args:List DV} {os:List (List DV)} {bQ:List TkE} {Φ:DV->List (List DV)->List TkE->Prop} (bt:List (Nat × TypeId)) (mu:List Nat) (hbt:∀ p∈bt,os.length<=p.1) (fr:Bool) (T:TT) (hT:T.ok P=true) (n nt:Nat) (rs:List ResultVar)
  (hf:P.funcs[f]? = some fn) (hb:fn.body=some c) (GU:fn.ntmps=nt) (y9:fn.results.toList=rs) (hlen:args.length<=nt)
  (h:∀ (E:En) (w:World) (hn:E.β.length=os.length) (hm:E.tk.length=bQ.length),go ⟨P,T,hT,fn,nt,rs,y9,w,E,os.length,bQ.length,hn,hm,s,Φ,bt,mu,fr⟩ n [.code c] ⟨argSl 0 args,os,bQ⟩):WO s P f args os bQ Φ fr:=fun E w vs hE je hv=>(BK bt mu fr T hT n nt rs hf hb GU y9 hlen h E w vs hE je (fun p hp b hb=>by
  have h1:=hbt p hp;have h2:=(gS hb).1;have h3:=hE.len
  omega) hv).mono fun _ _ ⟨v,h1,h2,_⟩=>⟨v,h1,h2⟩
theorem mI {s:Bool} {P:Program} {f:FuncId} {fn:Func} {c:Code} {args:List DV} {os:List (List DV)} {bQ:List TkE} {Φ:DV->List (List DV)->List TkE->Prop} (bt:List (Nat × TypeId)) (hbt:∀ p∈bt,os.length<=p.1) (T:TT) (hT:T.ok P=true) (n nt:Nat) (rs:List ResultVar)
  (hf:P.funcs[f]? = some fn) (hb:fn.body=some c) (GU:fn.ntmps=nt) (y9:fn.results.toList=rs) (hlen:args.length<=nt)
  (h:∀ (E:En) (w:World) (hn:E.β.length=os.length) (hm:E.tk.length=bQ.length),go ⟨P,T,hT,fn,nt,rs,y9,w,E,os.length,bQ.length,hn,hm,s,Φ,bt,[],false⟩ n [.code c] ⟨argSl 0 args,os,bQ⟩):WO s P f args os bQ Φ:=
 mH bt [] hbt false T hT n nt rs hf hb GU y9 hlen h
theorem NX {s:Bool} {P:Program} {f:FuncId} {fn:Func} {c:Code} {args:List DV} {os:List (List DV)} {bQ:List TkE} {Φ:DV->List (List DV)->List TkE->Prop} (T:TT) (hT:T.ok P=true) (n nt:Nat) (rs:List ResultVar)
  (hf:P.funcs[f]? = some fn) (hb:fn.body=some c) (GU:fn.ntmps=nt) (y9:fn.results.toList=rs) (hlen:args.length<=nt)
  (h:∀ (E:En) (w:World) (hn:E.β.length=os.length) (hm:E.tk.length=bQ.length),go ⟨P,T,hT,fn,nt,rs,y9,w,E,os.length,bQ.length,hn,hm,s,Φ,[],[],false⟩ n [.code c] ⟨argSl 0 args,os,bQ⟩):WO s P f args os bQ Φ:=
 mI [] (fun p hp=>by cases hp) T hT n nt rs hf hb GU y9 hlen h
theorem Z7 {P:Program} {f:FuncId} {fn:Func} {c:Code} {args:List DV} {os:List (List DV)} {bQ:List TkE} {Φ:DV->List (List DV)->List TkE->Prop} (T:TT) (hT:T.ok P=true) (n nt:Nat) (rs:List ResultVar)
  (hf:P.funcs[f]? = some fn) (hb:fn.body=some c) (GU:fn.ntmps=nt) (y9:fn.results.toList=rs) (hlen:args.length<=nt)
  (h:∀ (E:En) (w:World) (hn:E.β.length=os.length) (hm:E.tk.length=bQ.length),go ⟨P,T,hT,fn,nt,rs,y9,w,E,os.length,bQ.length,hn,hm,false,Φ,[],[],false⟩ n [.code c] ⟨argSl 0 args,os,bQ⟩):Ev P f args os bQ Φ:=
 NX T hT n nt rs hf hb GU y9 hlen h
theorem Ev.mono {P:Program} {f:FuncId} {args:List DV} {os:List (List DV)} {bQ:List TkE} {Φ Ψ:DV->List (List DV)->List TkE->Prop} (h:Ev P f args os bQ Φ) (hΦ:∀ d o t,Φ d o t->Ψ d o t):Ev P f args os bQ Ψ:=by
 intro E w vs h1 h2 h3;refine (h E w vs h1 h2 h3).mono ?_;rintro e w' ⟨v,rfl,h4,hs,d,o,E',h5,h6,h7,h8,h9,sq⟩;exact ⟨v,rfl,h4,hs,d,o,E',h5,h6,h7,h8,h9,hΦ _ _ _ sq⟩
theorem Ev.Z8 {P:Program} {f:FuncId} {args:List DV} {os:List (List DV)} {bQ:List TkE} {Φ:DV->List (List DV)->List TkE->Prop} {bt:List (Nat × TypeId)} (h:Ev P f args os bQ Φ) (hb:bt=[]):Z6 false P f args os bQ bt Φ:=fun E w vs h1 h2 _ h4=>
 (h E w vs h1 h2 h4).mono fun _ _ ⟨v,h5,h6⟩=>⟨v,h5,h6,.nil hb⟩
theorem br {b:Bool} {A B:Prop} (h1:b=true->A) (h2:b=false->B):@Bool.rec (fun _=>Prop) B A b:=by
 cases b
 ·exact h2 rfl
 ·exact h1 rfl
section
variable {X:Ctx} {st:St} {k:List It} {E:En} {a:Act} {w:World}
theorem zS (h:Rel X E st a w) (aR:X.still=false) {E2:En} {w':World} (hm:qH (E.cl).S w w') (he:Env E2 [] w') (hn:Nw E.cl E2 w):Rel X ⟨E2.c,E.β,E.tk,E.τ⟩ st a w':=by
 have hh:∀ i,i < w.heap.size->w'.heap[i]? = w.heap[i]?:=fun i hi=>hm.block i hi (by
  rintro (h1 | ⟨y,h1,_⟩)
  ·simp [En.cl] at h1
  ·simp [En.cl] at h1)
 have eN:∀ x v,E2.c x=some v->E.c x=some v∨w.heap.size<=x.block:=fun x v hx=>by
  rcases hn.cn x v hx with h1 | h1 | ⟨y,h1,_⟩
  ·exact .inl h1
  ·exact .inr h1
  ·simp [En.cl] at h1
 have hx:Ext E ⟨E2.c,E.β,E.tk,E.τ⟩:=⟨hn.c,fun _ _ h=>h,fun _ q h=>⟨q,h,.inl ⟨rfl,rfl⟩⟩⟩;have hk:=h.env.kM hh;refine dw h hx ?_ h.tk ?_ (h.fr.cu hm.os hm.tape hm.output hm.size fun i hi=>.inr (hh i hi)) (mB aR) (h.bt.kM fun b hb=>hh b (h.env.aZ hb))
 ·exact {
   len:=h.env.len
   tl:=h.env.tl
   eA:=fun i cs hi=>by
    obtain ⟨b,ty,arr,hb,hw,hc⟩:=hk.eA i cs hi;exact ⟨b,ty,arr,hb,hw,hc.mono hx⟩
   inj:=h.env.inj
   sub:=he.sub
   pc:=fun x v hc nE=>by
    rcases eN x v hc with h1 | h1
    ·exact h.env.pc x v h1 nE
    ·have:=h.env.aZ nE;omega
   bQ:=fun k q y hq hy=>by
    rcases hk.bQ k q y hq hy with h1 | ⟨g',cap,cur,rfl,h1,h2,h3,h4,h5,h6⟩
    ·exact .inl h1
    ·refine .inr ⟨g',cap,cur,rfl,h1,⟨h2.1,h2.2.mono hn.c⟩,h3,h4,h5,fun x v hc hg=>?_⟩;rcases eN x v hc with h7 | h7
     ·exact h6 x v h7 hg
     ·have:=(jK (h.env.bQ k q _ hq hy) (g:=g') rfl).1;omega
   iZ:=h.env.iZ }
 ·exact {
   c:=fun x v hc=>hn.c x v (h.nw.c x v hc)
   cn:=fun x v hc=>by
    rcases eN x v hc with h1 | h1
    ·exact h.nw.cn x v h1
    ·have:=h.fr.size;exact .inr (.inl (by omega))
   β:=h.nw.β
   tk:=h.nw.tk
   tn:=h.nw.tn
   l0:=h.nw.l0 }
theorem NY {bx:List (List DV)} (h:Env E bx w):Env E.cl [] w where
 len:=rfl
 tl:=rfl
 eA:=by simp
 inj:=List.nodup_nil
 sub:=h.sub
 pc:=by simp [En.cl]
 bQ:=by simp [En.cl]
 iZ:=by simp [En.cl]
theorem tU {P:Program} (h:Rel X E st a w) (aR:X.still=false) {f:FuncId} {args bh:List DV} {vs:List Value} {Φ:DV->List (List DV)->List TkE->Prop} (hc:Ev P f bh [] [] Φ) (ha:CcL [] 0 0 0 bh args) (hv:RvL E args vs) :
  Calls P f vs.toArray w fun e w'=>∃ v E' d,e = .returned v/\Rel X E' st a w' /\ Rv E' d v/\Φ d [] []/\qH E.cl.S w w' /\ Ext E E' /\ E'.β=E.β:=by
 have Ws:RvL E.cl bh vs:=CcL.sound (E:=E) (E':=E.cl) ⟨fun _ _ h=>h,fun i cs _ hi=>by simp at hi⟩ (JB.zero _ _) ha hv;refine (hc E.cl w vs (NY h.env) rfl Ws).mono ?_;rintro e w' ⟨v,rfl,hm,_,d,os,E2,he,hβ,je,hn,Sn,hΦ⟩
 have vS:os=[]:=by
  have:=he.len;rw [hβ] at this;exact List.eq_nil_of_length_eq_zero this.symm
 subst vS;have ht0:E2.tk=[]:=List.eq_nil_of_length_eq_zero je;refine ⟨v,⟨E2.c,E.β,E.tk,E.τ⟩,d,rfl,zS h aR hm he hn,?_,by rw [ht0] at hΦ;exact hΦ,hm,⟨hn.c,fun _ _ h=>h,fun _ q h=>⟨q,h,.inl ⟨rfl,rfl⟩⟩⟩,rfl⟩;refine Rv.mono (E:=E2) (E':=⟨E2.c,E.β,E.tk,E.τ⟩) ⟨fun _ _ h=>h,fun i b hb=>?_,fun k q hq=>?_⟩ Sn
 ·rw [hβ] at hb;simp [En.cl] at hb
 ·rw [ht0] at hq;simp at hq
theorem bE {f:FuncId} {args bh:List DV} {d:Nat} (j2:Enters X.P f) (hd:eB X.nt st.sl (some d)=true) {Φ:DV->List (List DV)->List TkE->Prop} (hc:Ev X.P f bh [] [] Φ) (ha:CcL [] 0 0 0 bh args)
  (hk:∀ r,Φ r [] []->go X 4000 k ⟨(d,⟨[],r⟩) :: st.sl,st.bx,st.tk⟩) (aR:X.still=false:=by exact rfl):dH X f args (some d) k st:=by
 refine ⟨j2,aR,fun E a w vs h hv=>(tU h aR hc ha hv).mono ?_⟩;rintro e w' ⟨v,E',r,rfl,bM,hr,hΦ,_⟩;exact go_sound 4000 _ _ (hk r hΦ) E' _ w' (aY bM hd r v hr)
theorem NZ {f:FuncId} {args bh:List DV} {d:Nat} {r:DV} (j2:Enters X.P f) (hc:EvP X.P f bh r) (ha:CcL [] 0 0 0 bh args) (hd:eB X.nt st.sl (some d)=true)
  (hk:go X 4000 k ⟨(d,⟨[],r⟩) :: st.sl,st.bx,st.tk⟩) (aR:X.still=false:=by exact rfl):dH X f args (some d) k st:=
 bE j2 hd hc ha (fun _ hr=>hr ▸ hk) aR
def clB (n m:Nat):DV->Bool
 | .v _=>true
 | .ud=>true
 | .sl _ _ none=>true
 | .sl _ _ (some k)=>Nat.blt k m
 | .pt _ _=>true
 | .loc i _=>Nat.blt i n
 | .el i _=>Nat.blt i n
 | .ms i _ _ _ _=>Nat.blt i n
 | .agg l=>clL l
 | .tup l=>clL l
 | .fn _ l r=>clL l && clL r
 | .qG _ x=>clB n m x
where clL:List DV->Bool
 | []=>true
 | d :: r=>clB n m d && clL r
def En.cut (E:En) (n m:Nat):En:=⟨E.c,E.β.take n,E.tk.take m,E.τ.take m⟩
mutual
theorem Rv.cut {n m:Nat} {E:En}:∀ {d:DV} {v:Value},Rv E d v->clB n m d=true->Rv (E.cut n m) d v
 | .v x,v,h,_=>by unfold Rv at h ⊢;exact h
 | .ud,v,h,_=>by unfold Rv at h ⊢;exact h
 | .sl e es none,v,h,_=>by
  unfold Rv at h ⊢;obtain ⟨b,n,cap,h1,h2,h3,_⟩:=h;exact ⟨b,n,cap,h1,h2,h3,fun k hk=>by cases hk⟩
 | .sl e es (some k),v,h,hc=>by
  unfold Rv at h ⊢;obtain ⟨b,n',cap,h1,h2,h3,h4⟩:=h;refine ⟨b,n',cap,h1,h2,h3,fun k' fq=>?_⟩;cases fq;have hk:k < m:=by simpa [clB] using hc
  obtain ⟨q,h5,h6,h7⟩:=h4 k rfl;exact ⟨q,by show (E.tk.take m)[k]? = _;rw [bG,ai hk];exact h5,h6,fun hh=>by show (E.τ.take m)[k]? = _;rw [bG,ai hk];exact h7 hh⟩
 | .pt cs o,v,h,_=>by unfold Rv at h ⊢;exact h
 | .loc i o,v,h,hc=>by
  unfold Rv at h ⊢;obtain ⟨b,hb,h1⟩:=h;have hi:i < n:=by simpa [clB] using hc
  exact ⟨b,by show (E.β.take n)[i]? = _;rw [bG,ai hi];exact hb,h1⟩
 | .el i o,v,h,hc=>by
  unfold Rv at h ⊢;obtain ⟨b,hb,h1⟩:=h;have hi:i < n:=by simpa [clB] using hc
  exact ⟨b,by show (E.β.take n)[i]? = _;rw [bG,ai hi];exact hb,h1⟩
 | .ms i e o l c,v,h,hc=>by
  unfold Rv at h ⊢;obtain ⟨b,ad,hb,h1⟩:=h;have hi:i < n:=by simpa [clB] using hc
  exact ⟨b,ad,by show (E.β.take n)[i]? = _;rw [bG,ai hi];exact hb,h1⟩
 | .agg l,v,h,hc=>by
  unfold Rv at h ⊢;obtain ⟨vs,h1,h2,h3⟩:=h;simp only [clB] at hc;exact ⟨vs,h1,RvL.cut h2 hc,h3⟩
 | .tup l,v,h,hc=>by
  unfold Rv at h ⊢;obtain ⟨vs,h1,h2⟩:=h;simp only [clB] at hc;exact ⟨vs,h1,RvL.cut h2 hc⟩
 | .fn f l r,v,h,hc=>by
  unfold Rv at h ⊢;obtain ⟨l',r',h1,h2,h3⟩:=h;simp only [clB,aD] at hc;exact ⟨l',r',h1,RvL.cut h2 hc.1,RvL.cut h3 hc.2⟩
 | .qG t x,v,h,hc=>by
  unfold Rv at h ⊢;obtain ⟨z,h1,h2⟩:=h;simp only [clB] at hc;exact ⟨z,h1,Rv.cut h2 hc⟩
theorem RvL.cut {n m:Nat} {E:En}:∀ {l:List DV} {vs:List Value},RvL E l vs->clB.clL n m l=true->RvL (E.cut n m) l vs
 | [],vs,h,_=>by simp only [RvL] at h ⊢;exact h
 | d :: r,vs,h,hc=>by
  simp only [RvL] at h ⊢;obtain ⟨v,s,h1,h2,h3⟩:=h;simp only [clB.clL,aD] at hc;exact ⟨v,s,h1,Rv.cut h2 hc.1,RvL.cut h3 hc.2⟩
end
end
end Dv
end Go.Proofs.YtgjagnmeonoehaaGreat
namespace Go.Proofs.YtgjagnmeonoehaaGreat
namespace Dv
open Go Go.RowKit
def We (n m:Nat) (cd:List TkE) (x x':DV):Prop:=
 (x=x' /\ clB n m x=true)∨(x = .v (.slice none 0 0)/\∃ e k q,x' = .sl e [] (some k)/\m<=k/\cd[k]? = some q)∨(x = .v (.slice none 0 0)/\∃ e,x' = .sl e [] none)∨(∃ e es tk,x = .sl e es tk/\x' = .sl e es none)∨(∃ e es C8 tk,x = .sl e es tk/\x' = .sl e C8 none/\CcE [] 0 C8 es)∨(∃ e es C8 k,x = .sl e es (some k)/\x' = .sl e C8 (some k)/\k < m/\CcE [] 0 C8 es)
def WeL (n m:Nat) (cd:List TkE):List DV->List DV->Prop
 | [],l=>l=[]
 | x :: r,l=>∃ x' r',l=x' :: r' /\ We n m cd x x' /\ WeL n m cd r r'
def WeLL (n m:Nat) (cd:List TkE):List (List DV)->List (List DV)->Prop
 | [],l=>l=[]
 | x :: r,l=>∃ x' r',l=x' :: r' /\ WeL n m cd x x' /\ WeLL n m cd r r'
def qS (n m:Nat) (cd:List TkE) (sl:List (Nat × Sl)):List (Nat × Sl)->Prop
 | []=>True
 | p :: r=>(∃ x,get sl p.1=some ⟨p.2.gs,x⟩/\We n m cd x p.2.s)/\qS n m cd sl r
structure sx (n0 m0:Nat) (st st':St):Prop where
 all:∃ kept dropped new b0 r,m0<=kept.length/\n0<=b0.length/\st.tk=kept ++ dropped/\st'.tk=kept ++ new/\(∀ q∈new,TkE.new q=true)/\st.bx=b0 ++ r/\WeLL b0.length kept.length st'.tk b0 st'.bx/\qS b0.length kept.length st'.tk st.sl st'.sl
theorem WeLL.length {n m:Nat} {cd:List TkE}:∀ {l l':List (List DV)},WeLL n m cd l l' -> l'.length=l.length
 | [],l',h=>by simp only [WeLL] at h;subst h;rfl
 | x :: r,l',h=>by
  simp only [WeLL] at h;obtain ⟨x',r',rfl,_,h2⟩:=h;simp [WeLL.length h2]
theorem WeLL.get {n m:Nat} {cd:List TkE}:∀ {l l':List (List DV)},WeLL n m cd l l' -> ∀ (i:Nat) cs',l'[i]? = some cs' -> ∃ cs,l[i]? = some cs/\WeL n m cd cs cs'
 | [],l',h,i,cs',hi=>by simp only [WeLL] at h;subst h;simp at hi
 | x :: r,l',h,i,cs',hi=>by
  simp only [WeLL] at h;obtain ⟨x',r',rfl,h1,h2⟩:=h
  cases i with
  | zero=>simp only [List.getElem?_cons_zero,oI] at hi;subst hi;exact ⟨x,rfl,h1⟩
  | succ i=>simp only [List.getElem?_cons_succ] at hi ⊢;exact WeLL.get h2 i cs' hi
theorem v7 {n m:Nat} {cd:List TkE} {sl:List (Nat × Sl)}:∀ {l:List (Nat × Sl)},qS n m cd sl l->∀ i x',get l i=some x' -> ∃ x,get sl i=some ⟨x'.gs,x⟩/\We n m cd x x'.s
 | [],_,i,x',hx=>by cases hx
 | (k,y) :: r,h,i,x',hx=>by
  simp only [dM] at hx;split at hx
  ·rename_i kj;subst kj;simp only [oI] at hx;subst hx;exact h.1
  ·exact v7 h.2 i x' hx
section
variable {X:Ctx} {E:En} {st st':St} {a:Act} {w:World} {k:List It}
def En.wk (E:En) (n:Nat) (kept new:List TkE):En:=⟨E.c,E.β.take n,kept ++ new,E.τ.take kept.length ++ List.replicate new.length (.slice none 0 0)⟩
theorem DH {n:Nat} {kept dropped new:List TkE} (ht:E.tk=kept ++ dropped) (hl:E.τ.length=E.tk.length) (eN:∀ q∈new,TkE.new q=true) {x x':DV} {v:Value} (hx:We n kept.length (kept ++ new) x x') (hv:Rv E x v):Rv (E.wk n kept new) x' v:=by
 have ir:kept.length<=E.τ.length:=by rw [hl,ht];simp
 have first:∀ {x:DV},clB n kept.length x=true->Rv E x v->Rv (E.wk n kept new) x v:=by
  intro x hc hv;refine Rv.mono (E:=E.cut n kept.length) ⟨fun _ _ h=>h,fun _ _ h=>h,fun k q hq=>?_⟩ (Rv.cut hv hc);have lx:(E.tk.take kept.length)[k]? = some q:=hq;rw [bG] at lx;split at lx
  ·rename_i hk;refine ⟨q,?_,.inl ⟨rfl,?_⟩⟩
   ·show (kept ++ new)[k]? = _;rw [ht,bF hk] at lx;rw [bF hk];exact lx
   ·show (E.τ.take kept.length ++ _)[k]? = (E.τ.take kept.length)[k]?;rw [bF (by rw [zLenT];omega)]
  ·cases lx
 rcases hx with ⟨rfl,hc⟩ | ⟨rfl,e,k,q,rfl,hk,hq⟩ | ⟨rfl,e,rfl⟩ | ⟨e,es,tk,rfl,rfl⟩ | ⟨e,es,C8,tk,rfl,rfl,he⟩ | ⟨e,es,C8,k,rfl,rfl,hk,he⟩
 ·exact first hc hv
 ·have:=bo hv;subst this;unfold Rv;refine ⟨none,0,0,rfl,⟨rfl,aO _⟩,fun hn=>(hn rfl).elim,fun k' fq=>?_⟩;cases fq;have N1:(kept ++ new)[k]? = some q:=hq;rw [List.getElem?_append_right hk] at N1;have qO:=TkE.NG (eN q (mG N1));refine ⟨q,hq,by omega,fun _=>?_⟩;have aq:=(gS N1).1;show (E.τ.take kept.length ++ List.replicate new.length _)[k]? = _;rw [List.getElem?_append_right (by rw [zLenT];omega)];rw [zLenT,Nat.min_eq_left ir,List.getElem?_replicate,ai aq]
 ·have:=bo hv;subst this;unfold Rv;exact ⟨none,0,0,rfl,⟨rfl,aO _⟩,fun hn=>(hn rfl).elim,fun k hk=>by cases hk⟩
 ·unfold Rv at hv ⊢;obtain ⟨b,n,cap,h1,h2,h3,_⟩:=hv;exact ⟨b,n,cap,h1,h2,h3,fun k hk=>by cases hk⟩
 ·have hv:=Ux he hv;unfold Rv at hv ⊢;obtain ⟨b,n,cap,h1,h2,h3,_⟩:=hv;exact ⟨b,n,cap,h1,h2,h3,fun k hk=>by cases hk⟩
 ·exact first (by simp only [clB];exact Nat.ble_eq_true_of_le hk) (Ux he hv)
theorem sy {n:Nat} {kept dropped new:List TkE} (ht:E.tk=kept ++ dropped) (hl:E.τ.length=E.tk.length) (eN:∀ q∈new,TkE.new q=true):∀ {l l':List DV} {vs:List Value},WeL n kept.length (kept ++ new) l l' -> RvL E l vs->RvL (E.wk n kept new) l' vs
 | [],l',vs,h,hv=>by
  simp only [WeL] at h;subst h;simp only [RvL] at hv ⊢;exact hv
 | x :: r,l',vs,h,hv=>by
  simp only [WeL] at h;obtain ⟨x',r',rfl,h1,h2⟩:=h;simp only [RvL] at hv ⊢;obtain ⟨v,s,h3,h4,h5⟩:=hv;exact ⟨v,s,h3,DH ht hl eN h1 h4,sy ht hl eN h2 h5⟩
theorem zT (h:Rel X E st a w) {kept dropped new:List TkE} {b0 r:List (List DV)} (gp:X.m0<=kept.length/\X.n0<=b0.length/\st.tk=kept ++ dropped/\st'.tk=kept ++ new/\(∀ q∈new,TkE.new q=true)/\st.bx=b0 ++ r/\WeLL b0.length kept.length st'.tk b0 st'.bx/\qS b0.length kept.length st'.tk st.sl st'.sl):Rel X (E.wk b0.length kept new) st' a w:=by
 obtain ⟨kg,jO,ht,uK,eN,hb,jU,nz⟩:=gp;rw [uK] at jU nz;have Z9:E.tk=kept ++ dropped:=by rw [h.tk,ht]
 have hbl:=jU.length;have ir:kept.length<=E.τ.length:=by rw [h.env.tl,Z9];simp
 have gv:b0.length<=E.β.length:=by rw [h.env.len,hb];simp
 have hτ:∀ (k:Nat) y,(E.τ.take kept.length ++ List.replicate new.length (Value.slice none 0 0))[k]? = some y->(k < kept.length/\E.τ[k]? = some y)∨(kept.length<=k/\y = .slice none 0 0):=fun k y hy=>by
  rw [List.getElem?_append] at hy;split at hy
  ·rename_i hk;rw [zLenT] at hk;rw [bG,ai (by omega)] at hy;exact .inl ⟨by omega,hy⟩
  ·rename_i hk;rw [zLenT] at hk;rw [List.getElem?_replicate] at hy;split at hy
   ·simp only [oI] at hy;exact .inr ⟨by omega,hy.symm⟩
   ·cases hy
 exact {
  env:={
   len:=by simp only [En.wk,zLenT];omega
   tl:=by simp only [En.wk,List.length_append,zLenT,List.length_replicate];omega
   eA:=fun i cs' hi=>by
    obtain ⟨cs,cQ,hwe⟩:=jU.get i cs' hi;have aq:=(gS cQ).1;obtain ⟨b,ty,arr,hbb,hwb,hc⟩:=h.env.eA i cs (by rw [hb,bF aq];exact cQ);exact ⟨b,ty,arr,by simp only [En.wk];rw [bG,ai aq];exact hbb,hwb,sy Z9 h.env.tl eN hwe hc.1,hc.2⟩
   inj:=h.env.inj.sublist (List.take_sublist _ _)
   sub:=h.env.sub
   pc:=fun x v hx hm=>h.env.pc x v hx (List.mem_of_mem_take hm)
   bQ:=fun k q y hq hy=>by
    rcases hτ k y hy with ⟨hk,fy⟩ | ⟨hk,rfl⟩
    ·have lx:(kept ++ new)[k]? = some q:=hq;rw [bF hk] at lx;rcases h.env.bQ k q y (by rw [Z9,bF hk];exact lx) fy with h1 | ⟨g,cap,cur,rfl,h1,h2,h3,h4,h5,h6⟩
     ·exact .inl h1
     ·exact .inr ⟨g,cap,cur,rfl,h1,h2,h3,h4,fun hm=>h5 (List.mem_of_mem_take hm),h6⟩
    ·have lx:(kept ++ new)[k]? = some q:=hq;rw [List.getElem?_append_right hk] at lx;exact .inl ⟨rfl,TkE.NG (eN q (mG lx)),TkE.Us (eN q (mG lx))⟩
   iZ:=fun k k' y y' g zM hy fy hg qy=>by
    rcases hτ k y hy with ⟨_,vQ⟩ | ⟨_,rfl⟩
    ·rcases hτ k' y' fy with ⟨_,lO⟩ | ⟨_,rfl⟩
     ·exact h.env.iZ k k' y y' g zM vQ lO hg qy
     ·simp [Value.ownBlock] at qy
    ·simp [Value.ownBlock] at hg }
  tk:=by simp only [En.wk];exact uK.symm
  sz:=h.sz
  tm:=fun i x' u5=>by
   obtain ⟨x,hx,hwe⟩:=v7 nz i x' u5;have:=h.tm i _ hx;refine ⟨fun hh=>?_,this.2⟩;obtain ⟨v,h1,h2⟩:=this.1 hh;exact ⟨v,h1,DH Z9 h.env.tl eN hwe h2⟩
  df:=h.df
  nw:={
   c:=h.nw.c
   cn:=h.nw.cn
   β:=by
    obtain ⟨r2,hr,hl⟩:=h.nw.β;refine ⟨r2.take (b0.length - X.n0),?_,fun b hb=>hl b (List.mem_of_mem_take hb)⟩;simp only [En.wk];rw [hr,List.take_append,List.take_of_length_le (by rw [X.jO];omega),X.jO]
   tk:=fun j q0 y0 qO BG=>by
    obtain ⟨q',y',h1,h2,h3⟩:=h.nw.tk j q0 y0 qO BG;have hj:j < X.m0:=by rw [<- X.kg];exact (gS qO).1
    have WQ:j < kept.length:=by omega
    exact ⟨q',y',by simp only [En.wk];rw [bF WQ];rw [Z9,bF WQ] at h1;exact h1,by simp only [En.wk];rw [bF (by rw [zLenT];omega),bG,ai WQ];exact h2,h3⟩
   tn:=fun j y g hj hy hg=>by
    rcases hτ j y hy with ⟨_,vQ⟩ | ⟨_,rfl⟩
    ·exact h.nw.tn j y g hj vQ hg
    ·simp [Value.ownBlock] at hg
   l0:=h.nw.l0 }
  fr:=h.fr
  sh:=h.sh
  bt:=h.bt.sub _ }
theorem v8 (h:Rel X E st a w) (hw:sx X.n0 X.m0 st st'):∃ E',Rel X E' st' a w:=by
 obtain ⟨_,_,_,_,_,gp⟩:=hw.all;exact ⟨_,zT h gp⟩
theorem least {p:Nat->Prop} (h:∃ n,p n):∃ n,p n/\∀ m,p m->n<=m:=by
 obtain ⟨n,hn⟩:=h
 induction n using Nat.strongRecOn with
 | _ n ih=>
  by_cases hm:∃ m,m < n/\p m
  ·obtain ⟨m,aq,hp⟩:=hm;exact ih m aq hp
  ·refine ⟨n,hn,fun m hp=>?_⟩;rcases Nat.lt_or_ge m n with h1 | h1
   ·exact (hm ⟨m,h1,hp⟩).elim
   ·exact h1
theorem aT {c:Code} (I:Nat->St->Prop) (j0:Nat) (jP:St) (hw:sx X.n0 X.m0 st jP) (h0:I j0 jP)
  (hr:∀ j s,I j s->go X 4000 (.code c :: .vJ (fun s'=>∃ DI,sx X.n0 X.m0 s' DI /\ ∃ j',j' < j/\I j' DI) :: k) s):pu X c k st:=by
 intro E a w h;obtain ⟨E0,hr0⟩:=v8 h hw
 classical
 let Inv:Act->World->Prop:=fun a w=>∃ j s E,Rel X E s a w/\I j s
 let μ:Act->World->Nat:=fun a w=>if hI:Inv a w then Classical.choose (least hI) else 0
 refine wp_loop Inv μ ⟨j0,jP,E0,hr0,h0⟩ ?_;intro a1 w1 hI;have zU:=(Classical.choose_spec (least hI)).1;obtain ⟨s,E1,bM,hIs⟩:=zU;have hs:=go_sound 4000 _ _ (hr _ s hIs) E1 a1 w1 bM;rw [fF] at hs;refine wp_mono hs ?_;intro e a2 w2 hq
 cases e with
 | normal=>
  obtain ⟨s',E2,DJ,DI,Lj,j',gU,hI'⟩:=hq;obtain ⟨E3,DK⟩:=v8 DJ Lj;have WR:Inv a2 w2:=⟨j',DI,E3,DK,hI'⟩;refine ⟨WR,?_⟩;simp only [μ,dif_pos hI,dif_pos WR];exact Nat.lt_of_le_of_lt ((Classical.choose_spec (least WR)).2 j' ⟨DI,E3,DK,hI'⟩) gU
 | exit id=>exact hq
 | goto l=>exact hq
 | ret=>exact hq
 | panic c=>exact hq
 | outgrown=>exact hq
theorem aw {n m:Nat} {cd:List TkE} {x:DV} (h:clB n m x=true):We n m cd x x:=.inl ⟨rfl,h⟩
theorem ay {n m:Nat} {cd:List TkE} {kd:IntKind} {x y:Int} (h:x=y):We n m cd (.v (.int kd x)) (.v (.int kd y)):=.inl ⟨by rw [h],rfl⟩
theorem cw {n m:Nat} {cd:List TkE} {e k:Nat} {q:TkE} (h1:m<=k) (h2:cd[k]? = some q):We n m cd (.v (.slice none 0 0)) (.sl e [] (some k)):=.inr (.inl ⟨rfl,e,k,q,rfl,h1,h2⟩)
theorem cI {n m:Nat} {cd:List TkE} {e k:Nat} {es C8:List (List DV)} (h:es=C8) (hk:Nat.blt k m=true):We n m cd (.sl e es (some k)) (.sl e C8 (some k)):=.inl ⟨by rw [h],hk⟩
theorem ax {p:Prop} (h:p:=by repeat' (first | exact rfl | exact trivial | exact Or.inr (Or.inl ⟨_,rfl⟩) | exact Or.inr ⟨_,rfl⟩ | exact Or.inl ⟨rfl,rfl⟩ | exact Or.inl rfl | refine Or.inr ⟨_,_,rfl,Nat.zero_le _,rfl,?_⟩ | refine ⟨_,_,rfl,?_,?_⟩ | refine ⟨_,rfl,?_⟩ | refine Or.inr (Or.inr (Or.inr ⟨_,_,rfl,?_⟩)) | exact Or.inl rfl | refine Or.inr ?_)):p:=h
theorem wA {p:Prop} (h:p:=by repeat' (first | exact rfl | exact aw rfl | refine ⟨_,_,rfl,?_,?_⟩)):p:=h
theorem wB {p:Prop} (h:p:=by repeat' (first | exact trivial | exact aw rfl | refine ⟨⟨_,rfl,?_⟩,?_⟩)):p:=h
theorem aaq {n0 m0:Nat} {st st':St} (h1:∃ r,st.bx=st'.bx ++ r) (h2:WeLL st'.bx.length st'.tk.length st'.tk st'.bx st'.bx) (h3:st.tk=st'.tk) (h4:Nat.ble n0 st'.bx.length=true) (h5:Nat.ble m0 st'.tk.length=true)
  (h:qS st'.bx.length st'.tk.length st'.tk st.sl st'.sl):sx n0 m0 st st':=by
 obtain ⟨r,hr⟩:=h1;exact ⟨st'.tk,[],[],st'.bx,r,by simpa using h5,by simpa using h4,by simp [h3],by simp,by simp,hr,h2,h⟩
theorem az {n0 m0:Nat} {st st':St} (n:Nat) (hn:Nat.ble n st.bx.length=true) (h2:WeLL n st'.tk.length st'.tk (st.bx.take n) st'.bx) (h3:st.tk=st'.tk) (h4:Nat.ble n0 n=true) (h5:Nat.ble m0 st'.tk.length=true)
  (h:qS n st'.tk.length st'.tk st.sl st'.sl):sx n0 m0 st st':=by
 have hl:(st.bx.take n).length=n:=by
  have:=nL hn;rw [zLenT];omega
 exact ⟨st'.tk,[],[],st.bx.take n,st.bx.drop n,by simpa using h5,by rw [hl];simpa using h4,by simp [h3],by simp,by simp,(List.take_append_drop n st.bx).symm,by rw [hl];exact h2,by rw [hl];exact h⟩
theorem fG {n0 m0:Nat} {st st':St} (q:TkE) (hq:q.new=true) (h1:∃ r,st.bx=st'.bx ++ r) (h3:st.tk ++ [q]=st'.tk) (h2:WeLL st'.bx.length st.tk.length st'.tk st'.bx st'.bx) (h4:Nat.ble n0 st'.bx.length=true) (h5:Nat.ble m0 st.tk.length=true)
  (h:qS st'.bx.length st.tk.length st'.tk st.sl st'.sl):sx n0 m0 st st':=by
 obtain ⟨r,hr⟩:=h1;exact ⟨st.tk,[],[q],st'.bx,r,by simpa using h5,by simpa using h4,by simp,h3.symm,by simpa using hq,hr,h2,h⟩
end
end Dv
end Go.Proofs.YtgjagnmeonoehaaGreat
namespace Go.Proofs.YtgjagnmeonoehaaGreat
namespace Dv
theorem aL {p : Prop} (h : p := by repeat' (first | exact rfl | exact trivial | exact Or.inr (Or.inl ⟨_,rfl⟩) | exact Or.inr ⟨_,rfl⟩ | exact Or.inl ⟨rfl,rfl⟩ | exact Or.inl rfl | refine Or.inr ⟨_,_,rfl,Nat.zero_le _,rfl,?_⟩ | refine ⟨_,_,rfl,?_,?_⟩ | refine ⟨_,rfl,?_⟩ | exact ⟨nL rfl,rfl⟩ | refine Or.inr (Or.inr (Or.inr ⟨_,_,rfl,?_⟩)) | exact Or.inl rfl | refine Or.inr ?_)) : p := h
theorem aI {p : Prop} {a b : Int} (q : a=b) (h : a=b -> p := by intro q;repeat' (first | exact rfl | exact trivial | exact Or.inr (Or.inl ⟨_,rfl⟩) | exact Or.inr ⟨_,rfl⟩ | exact Or.inl ⟨rfl,rfl⟩ | exact Or.inl rfl | refine Or.inr ⟨_,_,rfl,Nat.zero_le _,rfl,?_⟩ | refine ⟨_,_,rfl,?_,?_⟩ | refine ⟨_,rfl,?_⟩ | exact congrArg (fun z=>DV.v (.int .i64 z)) q | refine Or.inr (Or.inr (Or.inr ⟨_,_,rfl,?_⟩)) | exact Or.inl rfl | refine Or.inr ?_)) : p := h q
theorem aB {p : Prop} {a b : Bool} (q : a=b) (h : a=b -> p := by intro q;repeat' (first | exact rfl | exact trivial | exact Or.inr (Or.inl ⟨_,rfl⟩) | exact Or.inr ⟨_,rfl⟩ | exact Or.inl ⟨rfl,rfl⟩ | exact Or.inl rfl | refine Or.inr ⟨_,_,rfl,Nat.zero_le _,rfl,?_⟩ | refine ⟨_,_,rfl,?_,?_⟩ | refine ⟨_,rfl,?_⟩ | exact congrArg (fun b=>DV.v (.bool b)) q | refine Or.inr (Or.inr (Or.inr ⟨_,_,rfl,?_⟩)) | exact Or.inl rfl | refine Or.inr ?_)) : p := h q
theorem wNA {p : Prop} {a b : Nat} (q : a < b) (hn : b <= 4611686018427387904 := by omega) (h : a < b -> b <= 4611686018427387904 -> p := by intro q hn;repeat' (first | exact rfl | exact aw rfl | exact ay (nxt q hn) | refine ⟨_,_,rfl,?_,?_⟩)) : p := h q hn
theorem wNB {p : Prop} {a b : Nat} (q : a < b) (hn : b <= 4611686018427387904 := by omega) (h : a < b -> b <= 4611686018427387904 -> p := by intro q hn;repeat' (first | exact trivial | exact aw rfl | exact ay (nxt q hn) | refine ⟨⟨_,rfl,?_⟩,?_⟩)) : p := h q hn
theorem wSA {p r : Prop} {a b : Nat} (q : a < b) (s : r) (hn : b <= 4611686018427387904 := by omega) (h : a < b -> b <= 4611686018427387904 -> r -> p := by intro q hn s;repeat' (first | exact rfl | exact aw rfl | exact ay (nxt q hn) | exact cI s rfl | refine ⟨_,_,rfl,?_,?_⟩)) : p := h q hn s
theorem wSB {p r : Prop} {a b : Nat} (q : a < b) (s : r) (hn : b <= 4611686018427387904 := by omega) (h : a < b -> b <= 4611686018427387904 -> r -> p := by intro q hn s;repeat' (first | exact trivial | exact aw rfl | exact ay (nxt q hn) | exact cI s rfl | refine ⟨⟨_,rfl,?_⟩,?_⟩)) : p := h q hn s
theorem wTB {p : Prop} (h : p := by repeat' (first | exact trivial | exact aw rfl | exact cw (Nat.le_refl _) rfl | refine ⟨⟨_,rfl,?_⟩,?_⟩)) : p := h
theorem wTA {p : Prop} (h : p := by repeat' (first | exact rfl | exact aw rfl | exact cw (Nat.le_refl _) rfl | refine ⟨_,_,rfl,?_,?_⟩)) : p := h
theorem wRB {p : Prop} (h : p := by repeat' (first | exact trivial | exact aw rfl | exact ay rfl | refine ⟨⟨_,rfl,?_⟩,?_⟩)) : p := h
theorem wRA {p : Prop} (h : p := by repeat' (first | exact rfl | exact aw rfl | exact ay rfl | refine ⟨_,_,rfl,?_,?_⟩)) : p := h
theorem qT {p:Prop}   (h:p:=by repeat' (first | exact rfl | exact aw rfl | exact dm rfl | exact cF rfl | exact sA _ | exact cw (Nat.le_refl _) rfl | exact cw (Nat.le_succ _) rfl | refine ⟨_,_,rfl,?_,?_⟩)):p:=h 
theorem nG {p:Prop} {P0:Prop} (x0:P0) (h:P0->p:=by intro x0;repeat' (first | exact rfl | exact aw rfl | exact ay x0 | exact dm x0 | exact cI x0 rfl | exact cq x0 | exact cF x0 | exact ay (congrArg Nat.cast x0) | exact aw x0 | exact fZ x0 | exact x0 | exact dm rfl | exact cF rfl | exact sA _ | exact cw (Nat.le_refl _) rfl | exact cw (Nat.le_succ _) rfl | refine ⟨_,_,rfl,?_,?_⟩)):p:=h x0
theorem nQ {p:Prop} {P0:Prop} {P1:Prop} (x0:P0) (x1:P1) (h:P0->P1->p:=by intro x0 x1;repeat' (first | exact rfl | exact aw rfl | exact ay x0 | exact dm x0 | exact cI x0 rfl | exact cq x0 | exact cF x0 | exact ay (congrArg Nat.cast x0) | exact aw x0 | exact fZ x0 | exact x0 | exact ay x1 | exact dm x1 | exact cI x1 rfl | exact cq x1 | exact cF x1 | exact ay (congrArg Nat.cast x1) | exact aw x1 | exact fZ x1 | exact x1 | exact dm rfl | exact cF rfl | exact sA _ | exact cw (Nat.le_refl _) rfl | exact cw (Nat.le_succ _) rfl | refine ⟨_,_,rfl,?_,?_⟩)):p:=h x0 x1
theorem wA3 {p:Prop} {P0:Prop} {P1:Prop} {P2:Prop} (x0:P0) (x1:P1) (x2:P2) (h:P0->P1->P2->p:=by intro x0 x1 x2;repeat' (first | exact rfl | exact aw rfl | exact ay x0 | exact dm x0 | exact cI x0 rfl | exact cq x0 | exact cF x0 | exact ay (congrArg Nat.cast x0) | exact aw x0 | exact fZ x0 | exact x0 | exact ay x1 | exact dm x1 | exact cI x1 rfl | exact cq x1 | exact cF x1 | exact ay (congrArg Nat.cast x1) | exact aw x1 | exact fZ x1 | exact x1 | exact ay x2 | exact dm x2 | exact cI x2 rfl | exact cq x2 | exact cF x2 | exact ay (congrArg Nat.cast x2) | exact aw x2 | exact fZ x2 | exact x2 | exact dm rfl | exact cF rfl | exact sA _ | exact cw (Nat.le_refl _) rfl | exact cw (Nat.le_succ _) rfl | refine ⟨_,_,rfl,?_,?_⟩)):p:=h x0 x1 x2
theorem kr {p:Prop}   (h:p:=by repeat' (first | exact trivial | exact aw rfl | exact cw (Nat.le_refl _) rfl | exact cw (Nat.le_succ _) rfl | exact ay rfl | refine ⟨⟨_,rfl,?_⟩,?_⟩)):p:=h 
theorem wB1 {p:Prop} {P0:Prop} (x0:P0) (h:P0->p:=by intro x0;repeat' (first | exact trivial | exact aw rfl | exact ay x0 | exact dm x0 | exact cI x0 rfl | exact cq x0 | exact cF x0 | exact ay (congrArg Nat.cast x0) | exact aw x0 | exact fZ x0 | exact x0 | exact cw (Nat.le_refl _) rfl | exact cw (Nat.le_succ _) rfl | exact ay rfl | refine ⟨⟨_,rfl,?_⟩,?_⟩)):p:=h x0
theorem gw {p:Prop} {P0:Prop} {P1:Prop} (x0:P0) (x1:P1) (h:P0->P1->p:=by intro x0 x1;repeat' (first | exact trivial | exact aw rfl | exact ay x0 | exact dm x0 | exact cI x0 rfl | exact cq x0 | exact cF x0 | exact ay (congrArg Nat.cast x0) | exact aw x0 | exact fZ x0 | exact x0 | exact ay x1 | exact dm x1 | exact cI x1 rfl | exact cq x1 | exact cF x1 | exact ay (congrArg Nat.cast x1) | exact aw x1 | exact fZ x1 | exact x1 | exact cw (Nat.le_refl _) rfl | exact cw (Nat.le_succ _) rfl | exact ay rfl | refine ⟨⟨_,rfl,?_⟩,?_⟩)):p:=h x0 x1
theorem Uy {p:Prop} {P0:Prop} {P1:Prop} {P2:Prop} (x0:P0) (x1:P1) (x2:P2) (h:P0->P1->P2->p:=by intro x0 x1 x2;repeat' (first | exact trivial | exact aw rfl | exact ay x0 | exact dm x0 | exact cI x0 rfl | exact cq x0 | exact cF x0 | exact ay (congrArg Nat.cast x0) | exact aw x0 | exact fZ x0 | exact x0 | exact ay x1 | exact dm x1 | exact cI x1 rfl | exact cq x1 | exact cF x1 | exact ay (congrArg Nat.cast x1) | exact aw x1 | exact fZ x1 | exact x1 | exact ay x2 | exact dm x2 | exact cI x2 rfl | exact cq x2 | exact cF x2 | exact ay (congrArg Nat.cast x2) | exact aw x2 | exact fZ x2 | exact x2 | exact cw (Nat.le_refl _) rfl | exact cw (Nat.le_succ _) rfl | exact ay rfl | refine ⟨⟨_,rfl,?_⟩,?_⟩)):p:=h x0 x1 x2
theorem wB4 {p:Prop} {P0:Prop} {P1:Prop} {P2:Prop} {P3:Prop} (x0:P0) (x1:P1) (x2:P2) (x3:P3) (h:P0->P1->P2->P3->p:=by intro x0 x1 x2 x3;repeat' (first | exact trivial | exact aw rfl | exact ay x0 | exact dm x0 | exact cI x0 rfl | exact cq x0 | exact cF x0 | exact ay (congrArg Nat.cast x0) | exact aw x0 | exact fZ x0 | exact x0 | exact ay x1 | exact dm x1 | exact cI x1 rfl | exact cq x1 | exact cF x1 | exact ay (congrArg Nat.cast x1) | exact aw x1 | exact fZ x1 | exact x1 | exact ay x2 | exact dm x2 | exact cI x2 rfl | exact cq x2 | exact cF x2 | exact ay (congrArg Nat.cast x2) | exact aw x2 | exact fZ x2 | exact x2 | exact ay x3 | exact dm x3 | exact cI x3 rfl | exact cq x3 | exact cF x3 | exact ay (congrArg Nat.cast x3) | exact aw x3 | exact fZ x3 | exact x3 | exact cw (Nat.le_refl _) rfl | exact cw (Nat.le_succ _) rfl | exact ay rfl | refine ⟨⟨_,rfl,?_⟩,?_⟩)):p:=h x0 x1 x2 x3
theorem ie {p:Prop}   (h:p:=by repeat' (first | exact rfl | exact trivial | exact Or.inr (Or.inl ⟨_,rfl⟩) | exact Or.inr ⟨_,rfl⟩ | exact Or.inl ⟨rfl,rfl⟩ | exact Or.inl rfl | refine Or.inr ⟨_,_,rfl,Nat.zero_le _,rfl,?_⟩ | refine ⟨_,_,rfl,?_,?_⟩ | refine ⟨_,rfl,?_⟩ | exact ⟨nL rfl,rfl⟩ | refine Or.inr (Or.inr (Or.inr ⟨_,_,rfl,?_⟩)) | exact Or.inl rfl | refine Or.inr ?_)):p:=h 
theorem qA {p:Prop} {P0:Prop} (x0:P0) (h:P0->p:=by intro x0;repeat' (first | exact rfl | exact trivial | exact Or.inr (Or.inl ⟨_,rfl⟩) | exact Or.inr ⟨_,rfl⟩ | exact Or.inl ⟨rfl,rfl⟩ | exact Or.inl rfl | refine Or.inr ⟨_,_,rfl,Nat.zero_le _,rfl,?_⟩ | refine ⟨_,_,rfl,?_,?_⟩ | refine ⟨_,rfl,?_⟩ | exact congrArg (fun z=>DV.v (.int .i64 z)) x0 | exact congrArg (fun z=>DV.v (.int .i64 z)) (congrArg Nat.cast x0) | exact congrArg (fun b=>DV.v (.bool b)) x0 | exact x0 | exact Or.inr (Or.inl ⟨_,x0⟩) | apply x0 | exact ⟨nL rfl,rfl⟩ | refine Or.inr (Or.inr (Or.inr ⟨_,_,rfl,?_⟩)) | exact Or.inl rfl | refine Or.inr ?_)):p:=h x0
theorem wC2 {p:Prop} {P0:Prop} {P1:Prop} (x0:P0) (x1:P1) (h:P0->P1->p:=by intro x0 x1;repeat' (first | exact rfl | exact trivial | exact Or.inr (Or.inl ⟨_,rfl⟩) | exact Or.inr ⟨_,rfl⟩ | exact Or.inl ⟨rfl,rfl⟩ | exact Or.inl rfl | refine Or.inr ⟨_,_,rfl,Nat.zero_le _,rfl,?_⟩ | refine ⟨_,_,rfl,?_,?_⟩ | refine ⟨_,rfl,?_⟩ | exact congrArg (fun z=>DV.v (.int .i64 z)) x0 | exact congrArg (fun z=>DV.v (.int .i64 z)) (congrArg Nat.cast x0) | exact congrArg (fun b=>DV.v (.bool b)) x0 | exact x0 | exact Or.inr (Or.inl ⟨_,x0⟩) | apply x0 | exact congrArg (fun z=>DV.v (.int .i64 z)) x1 | exact congrArg (fun z=>DV.v (.int .i64 z)) (congrArg Nat.cast x1) | exact congrArg (fun b=>DV.v (.bool b)) x1 | exact x1 | exact Or.inr (Or.inl ⟨_,x1⟩) | apply x1 | exact ⟨nL rfl,rfl⟩ | refine Or.inr (Or.inr (Or.inr ⟨_,_,rfl,?_⟩)) | exact Or.inl rfl | refine Or.inr ?_)):p:=h x0 x1
theorem iX {α:Type _} {P:α->Prop} {cs:α} {i:Int} {l:List α} (g:l[i.toNat]? = some cs) (k:P cs) (h:0<=i:=by omega):∃ cs,(0<=i/\l[i.toNat]? = some cs)/\P cs:=⟨cs,⟨h,g⟩,k⟩
theorem lI {X:Ctx} {st:St} {k:List It} {c:Code} (I:Nat->St->Prop) {j0:Nat} {jP:St} (h0:I j0 jP) (hw:sx X.n0 X.m0 st jP)
 (hr:∀ j s,I j s->go X 4000 (.code c :: .vJ (fun s'=>∃ DI,sx X.n0 X.m0 s' DI/\∃ j',j' < j/\I j' DI) :: k) s):pu X c k st:=aT I j0 jP hw h0 hr
theorem lJ {X:Ctx} {st:St} {k:List It} {c:Code} (S:Nat->St) (n:Nat) (hw:sx X.n0 X.m0 st (S 0))
 (hr:∀ e,e<=n->go X 4000 (.code c :: .vJ (fun s'=>∃ DI,sx X.n0 X.m0 s' DI/\∃ j',j' < n - e/\∃ e:Nat,DI=S e/\e<=n/\j'=n - e) :: k) (S e)):pu X c k st:=aT (fun j st=>∃ e:Nat,st=S e/\e<=n/\j=n - e) (n - 0) (S 0) hw ⟨0,rfl,Nat.zero_le _,rfl⟩ fun j s h=>by
 obtain ⟨e,rfl,he,rfl⟩:=h;exact hr e he
theorem aae {a b : Bool} (h : a = b) : DV.v (.bool a) = .v (.bool b) := h ▸ rfl
theorem aan {a b : Int} (h : a = b) : DV.v (.int .i64 a) = .v (.int .i64 b) := h ▸ rfl
theorem wkM {n0 m0 : Nat} {st st' : St} (h : qS st'.bx.length st'.tk.length st'.tk st.sl st'.sl) (h1 : ∃ r,st.bx = st'.bx ++ r := by exact ⟨_,rfl⟩) (h2 : WeLL st'.bx.length st'.tk.length st'.tk st'.bx st'.bx := by exact wA) (h3 : st.tk = st'.tk := by exact rfl) (h4 : Nat.ble n0 st'.bx.length = true := by exact rfl) (h5 : Nat.ble m0 st'.tk.length = true := by exact rfl) : sx n0 m0 st st' := aaq h1 h2 h3 h4 h5 h
theorem QT {n0 m0 : Nat} {st st' : St} (n : Nat) (h2 : WeLL n st'.tk.length st'.tk (st.bx.take n) st'.bx) (h : qS n st'.tk.length st'.tk st.sl st'.sl) (hn : Nat.ble n st.bx.length = true := by exact rfl) (h3 : st.tk = st'.tk := by exact rfl) (h4 : Nat.ble n0 n = true := by exact rfl) (h5 : Nat.ble m0 st'.tk.length = true := by exact rfl) : sx n0 m0 st st' := az n hn h2 h3 h4 h5 h
abbrev aaa (k : Nat) (n : Int) : Nat × Sl := (k,⟨[],.v (.int .i64 n)⟩)
abbrev aap (k : Nat) (b : Bool) : Nat × Sl := (k,⟨[],.v (.bool b)⟩)
abbrev aab (k i : Nat) : Nat × Sl := (k,⟨[],.loc i 0⟩)
abbrev aam (k : Nat) (c : List DV) : Nat × Sl := (k,⟨[],.pt c 0⟩)
abbrev aad (k e : Nat) (l : List (List DV)) : Nat × Sl := (k,⟨[],.sl e l none⟩)
end Dv
end Go.Proofs.YtgjagnmeonoehaaGreat
namespace Go.Proofs.YtgjagnmeonoehaaGreat
namespace Dv
open Go
section
variable {P:Program} {ops:Array Oper} {C:World->Prop} {Q:Act->World->Prop} {W:Nat->Bool} {π:Nat->Nat}
theorem aac {o:Oper} {a:Act} {w:World} {K:Act->World->Prop} (h:wq P o a w K):∃ v w',K (a.put o.dst v) w':=by
 unfold wq at h;split at h
 ·exact ⟨_,_,h⟩
 ·exact ⟨_,_,h⟩
 ·obtain ⟨e,w',fr,⟨v,_,hv⟩,_⟩:=h [];exact ⟨v,w',hv⟩
 ·exact h.elim
theorem WS {x y:Oper} {v:Value} (Ns:x.apart ops y=true) (hs:∀ cs b,y.op ≠ .select cs b) {a:Act} {w:World} {K:Act->World->Prop} :
  wq P y (a.put x.dst v) w K↔wq P y a w (fun a' w'=>K (a'.put x.dst v) w'):=by
 obtain ⟨h1,h2,h3⟩:=Oper.apart_spec Ns;unfold wq;rw [execOp_put y hs a x.dst v h1];have hc:∀ u,(a.put x.dst v).put y.dst u=(a.put y.dst u).put x.dst v:=fun u=>Act.put_comm a v u h2
 cases (execOp a.eval y).run P w with
 | halt h w'=>rfl
 | ok n w'=>cases n<;>simp [hc]
def Yl (P:Program) (ops:Array Oper) (C:World->Prop) (o:Oper) (v:Value) (a:Act):Prop:=
 (Region.wanted o (yielded ops a.tmps)=true/\∀ w,(mq o.op=true->C w)->(execOp a.eval o).run P w = .ok (.value v) w) ∨
 (Region.wanted o (yielded ops a.tmps)=false/\v=undef)
theorem Yl.same {x y:Oper} {v u:Value} (Ns:x.apart ops y=true) (hs:∀ cs b,y.op ≠ .select cs b) {a:Act}:Yl P ops C y v (a.put x.dst u)↔Yl P ops C y v a:=by
 obtain ⟨h1,h2,h3⟩:=Oper.apart_spec Ns;unfold Yl;rw [execOp_put y hs a x.dst u h1,wanted_put y a x.dst u h1]
def dN (P:Program) (ops:Array Oper) (o:Oper) (a:Act) (w:World) (K:Act->World->Prop):Prop:=
 if Region.wanted o (yielded ops a.tmps)=true then wq P o a w K else K (a.put o.dst undef) w
theorem cz {o:Oper} {a:Act} {w:World} {K K':Act->World->Prop} (hk:∀ a w,K a w->K' a w) (h:dN P ops o a w K):dN P ops o a w K':=by
 unfold dN at *;split<;>rename_i hw
 ·rw [ai hw] at h;exact kT hk h
 ·rw [ah hw] at h;exact hk _ _ h
theorem j3 {x y:Oper} {v:Value} (Ns:x.apart ops y=true) (hs:∀ cs b,y.op ≠ .select cs b) {a:Act} {w:World} {K:Act->World->Prop} :
  dN P ops y (a.put x.dst v) w K↔dN P ops y a w (fun a' w'=>K (a'.put x.dst v) w'):=by
 obtain ⟨h1,h2,h3⟩:=Oper.apart_spec Ns;unfold dN;rw [wanted_put y a x.dst v h1];split
 ·exact WS Ns hs
 ·rw [Act.put_comm a v undef h2]
theorem N2 {o:Oper} {a:Act} {w:World} {K:Act->World->Prop} (h:dN P ops o a w K):∃ v w',K (a.put o.dst v) w':=by
 unfold dN at h;split at h
 ·exact aac h
 ·exact ⟨_,_,h⟩
theorem jf {o:Oper} {a:Act} {w:World} {K:Act->World->Prop} (h:dN P ops o a w K):dN P ops o a w (fun a' w'=>K a' w' /\ ∃ u,a'=a.put o.dst u):=by
 unfold dN at *;split<;>rename_i hw
 ·rw [ai hw] at h;unfold wq at *;split at h
  ·rename_i hr;exact ⟨h,_,rfl⟩
  ·rename_i hr;exact ⟨h,_,rfl⟩
  ·rename_i hr;refine h.mono ?_;rintro e w' ⟨v,rfl,hv⟩;exact ⟨v,rfl,hv,v,rfl⟩
  ·exact h.elim
 ·rw [ah hw] at h;exact ⟨h,_,rfl⟩
theorem gW {o:Oper} {a:Act} {w:World} {v:Value} {K:Act->World->Prop} (hy:Yl P ops C o v a) (hc:mq o.op=true->C w) (hk:K (a.put o.dst v) w):dN P ops o a w K:=by
 unfold dN;rcases hy with ⟨hw,hv⟩ | ⟨hw,rfl⟩
 ·rw [ai hw];unfold wq;rw [hv w hc];exact hk
 ·rw [ah (by simp [hw])];exact hk
theorem gY {o:Oper} {a:Act} {w:World} {v:Value} {K:Act->World->Prop} (hy:Yl P ops C o v a) (hc:mq o.op=true->C w) (h:dN P ops o a w K):K (a.put o.dst v) w:=by
 unfold dN at h;rcases hy with ⟨hw,hv⟩ | ⟨hw,rfl⟩
 ·rw [ai hw] at h;unfold wq at h;rw [hv w hc] at h;exact h
 ·rw [ah (by simp [hw])] at h;exact h
def runT (P:Program) (ops:Array Oper) (W:Nat->Bool) (C:World->Prop) (Q:Act->World->Prop):List Nat->Act->World->Prop
 | [],a,w=>Q a w
 | i :: r,a,w=>
  match ops[i]? with
  | none=>False
  | some o=>
   if gT o.op=true then dN P ops o a w fun a' w'=>(W i=false->C w->C w')/\runT P ops W C Q r a' w'
   else ∃ v,Yl P ops C o v a/\(mq o.op=true->C w)/\runT P ops W C Q r (a.put o.dst v) w
def fH (ops:Array Oper) (W:Nat->Bool) (j i:Nat):Bool:=
 match ops[j]?,ops[i]? with
 | some x,some y=>x.apart ops y && y.apart ops x && !(gT x.op && gT y.op) && !(mq x.op && W i)
 | _,_=>false
def zj (ops:Array Oper) (l:List Nat):Prop:=∃ i o,i∈l/\ops[i]? = some o/\mq o.op=true
theorem ez {j i:Nat} {x y:Oper} (h:fH ops W j i=true) (hj:ops[j]? = some x) (hi:ops[i]? = some y) :
  x.apart ops y=true/\y.apart ops x=true/\¬ (gT x.op=true/\gT y.op=true)/\¬ (mq x.op=true/\W i=true):=by
 unfold fH at h;rw [hj,hi] at h;simp only [aD,Bool.not_eq_true',Bool.and_eq_false_iff] at h;refine ⟨h.1.1.1,h.1.1.2,?_,?_⟩
 ·rintro ⟨h1,h2⟩;rcases h.1.2 with h3 | h3<;>simp_all
 ·rintro ⟨h1,h2⟩;rcases h.2 with h3 | h3<;>simp_all
theorem ku (dt:∀ (j:Nat) (o:Oper) cs b,ops[j]? = some o->o.op ≠ .select cs b) {i:Nat} {o:Oper} (hi:ops[i]? = some o) (hR:gT o.op=false) :
  ∀ (rem:List Nat) (a:Act) (w:World),runT P ops W C Q rem a w->i∈rem->(∀ j∈rem,j≠i->π j < π i->fH ops W j i=true)->rem.Pairwise (fun a b=>π a < π b)->∃ v,Yl P ops C o v a
 | [],_,_,_,hm,_,_=>by cases hm
 | h :: rem,a,w,hr,hm,qB,hp=>by
  simp only [runT] at hr;by_cases px:h=i
  ·subst px;rw [hi] at hr;simp only [hR,Bool.false_eq_true,if_false] at hr;obtain ⟨v,hy,_⟩:=hr;exact ⟨v,hy⟩
  ·have nE:i∈rem:=by
    rcases bp hm with e | e
    ·exact (px e.symm).elim
    ·exact e
   have aq:π h < π i:=(List.pairwise_cons.1 hp).1 i nE;split at hr
   ·exact hr.elim
   ·rename_i x hx;obtain ⟨GV,Nt,_,_⟩:=ez (qB h (by simp) px aq) hx hi;have ih:=fun a w hr=>ku dt hi hR rem a w hr nE (fun j hj=>qB j (dB _ hj)) (List.pairwise_cons.1 hp).2;split at hr
    ·obtain ⟨u,w',_,ig⟩:=N2 hr;obtain ⟨v,hy⟩:=ih _ _ ig;exact ⟨v,(Yl.same GV (fun cs b=>dt i o cs b hi)).1 hy⟩
    ·obtain ⟨u,_,_,ig⟩:=hr;obtain ⟨v,hy⟩:=ih _ _ ig;exact ⟨v,(Yl.same GV (fun cs b=>dt i o cs b hi)).1 hy⟩
theorem zV {h:Nat} {rem:List Nat} (hl:zj ops rem):zj ops (h :: rem):=by
 obtain ⟨i,o,hm,ho,hL⟩:=hl;exact ⟨i,o,dB _ hm,ho,hL⟩
theorem gx (dt:∀ (j:Nat) (o:Oper) cs b,ops[j]? = some o->o.op ≠ .select cs b) (r6:∀ j i x y,π j < π i->ops[i]? = some x->ops[j]? = some y->mq x.op=true->W j=false) {i:Nat} {o:Oper} (hi:ops[i]? = some o) :
  ∀ (rem:List Nat) (a:Act) (w:World),(zj ops rem->C w)->runT P ops W C Q rem a w->i∈rem->(∀ j∈rem,j≠i->π j < π i->fH ops W j i=true)->rem.Pairwise (fun a b=>π a < π b) ->
   dN P ops o a w (fun a' w'=>(W i=false->C w->C w')/\runT P ops W C Q (rem.erase i) a' w')
 | [],_,_,_,_,hm,_,_=>by cases hm
 | h :: rem,a,w,hC,hr,hm,qB,hp=>by
  by_cases px:h=i
  ·subst px;rw [List.erase_cons_head];simp only [runT,hi] at hr;split at hr
   ·exact hr
   ·obtain ⟨v,hy,hc,ig⟩:=hr;exact gW hy hc ⟨fun _ h=>h,ig⟩
  ·have nE:i∈rem:=by
    rcases bp hm with e | e
    ·exact (px e.symm).elim
    ·exact e
   have aq:π h < π i:=(List.pairwise_cons.1 hp).1 i nE;have qU:=(List.pairwise_cons.1 hp).2;rw [List.erase_cons_tail (sU px)];have hr0:=hr;simp only [runT] at hr;split at hr
   ·exact hr.elim
   ·rename_i x hx;obtain ⟨GV,Nt,hEE,hLW⟩:=ez (qB h (by simp) px aq) hx hi;have zb:=fun cs b=>dt h x cs b hx;have GA:=fun cs b=>dt i o cs b hi;have N3:∀ j∈rem,j≠i->π j < π i->fH ops W j i=true:=fun j hj=>qB j (dB _ hj);split at hr
    ·-- the head has an effect: so o has none
     rename_i hEx
     have hRo:gT o.op=false:=by
      cases he:gT o.op
      ·rfl
      ·exact (hEE ⟨hEx,he⟩).elim
     obtain ⟨v,hy⟩:=ku (π:=π) dt hi hRo (h :: rem) a w hr0 hm qB hp;have WT:mq o.op=true->C w:=fun hL=>hC ⟨i,o,hm,hi,hL⟩;refine gW hy WT ⟨fun _ h=>h,?_⟩;simp only [runT,hx,hEx,if_true];refine (j3 Nt zb).2 ?_;refine cz ?_ (jf hr);rintro a' w' ⟨⟨pT,ig⟩,u,rfl⟩;refine ⟨pT,?_⟩
     have WU:zj ops rem->C w':=by
      intro hl;have qC:=hl;obtain ⟨l,z,N4,hz,hL⟩:=hl;exact pT (r6 h l z x ((List.pairwise_cons.1 hp).1 l N4) hz hx hL) (hC (zV qC))
     have ih:=gx dt r6 hi rem _ w' WU ig nE N3 qU;have fy:=(Yl.same (u:=u) GV GA).2 hy;exact (gY fy (fun hL=>WU ⟨i,o,nE,hi,hL⟩) ih).2
    ·rename_i hEx;obtain ⟨v,hy,hc,ig⟩:=hr;have ih:=gx dt r6 hi rem (a.put x.dst v) w (fun hl=>hC (zV hl)) ig nE N3 qU;refine cz ?_ (jf ((j3 GV GA).1 ih));rintro a' w' ⟨⟨pT,hr2⟩,u,rfl⟩;refine ⟨pT,?_⟩;simp only [runT,hx];rw [ah hEx];refine ⟨v,?_,fun hL=>?_,hr2⟩
     ·exact (Yl.same (u:=u) Nt zb).2 hy
     ·have hWi:W i=false:=by
       cases hw:W i
       ·rfl
       ·exact (hLW ⟨hL,hw⟩).elim
      exact pT hWi (hc hL)
def ordB (ops:Array Oper):Nat->Nat->Nat->Bool
 | 0,_,_=>false
 | n + 1,j,i=>
  match ops[i]? with
  | some o=>o.after.toList.any fun e=>Region.binds .any e && (Nat.beq e.on j || ordB ops n j e.on)
  | none=>false
def qV (ops:Array Oper) (W:Nat->Bool) (π:Nat->Nat):Bool:=
 Region.noSelect ops &&
 (List.range ops.size).all fun i=>
  match ops[i]? with
   | some o=>o.after.toList.all (fun e=>!Region.binds .any e || (Nat.blt (π e.on) (π i) && Nat.blt e.on ops.size)) && (!mq o.op || (List.range ops.size).all fun j=>!Nat.blt (π j) (π i) || !W j)
   | none=>false
def uM (ops:Array Oper) (W:Nat->Bool) (π:Nat->Nat) (ex:Nat->Nat->Bool):Bool:=
 (List.range ops.size).all fun i=>(List.range ops.size).all fun j=>!Nat.blt (π j) (π i) || ex j i || ordB ops ops.size j i || fH ops W j i
def aaf:Nat->Nat->Bool:=fun _ _=>false
def GW (ops:Array Oper) (W:Nat->Bool):Bool:=qV ops W (fun i=>i) && uM ops W (fun i=>i) aaf
def Dn (ops:Array Oper) (listed:Array Bool):Prop:=
 ∀ i o,ops[i]? = some o->listed.getD i true=true->∀ e∈o.after,Region.binds .any e=true->listed.getD e.on false=true
theorem kV {listed:Array Bool} (hd:Dn ops listed):∀ (n:Nat) (j i:Nat) (o:Oper),ops[i]? = some o->(∀ e∈o.after,Region.binds .any e=true->listed.getD e.on false=true)->ordB ops n j i=true->listed.getD j false=true
 | 0,j,i,o,_,_,h=>by simp [ordB] at h
 | n + 1,j,i,o,ho,gp,h=>by
  simp only [ordB,ho,List.any_eq_true,aD,Bool.or_eq_true] at h;obtain ⟨e,he,hb,hj⟩:=h;have GB:e∈o.after:=sU he;have h1:=gp e GB hb;rcases hj with hj | hj
  ·have:e.on=j:=sU hj;rw [<- this];exact h1
  ·cases Sp:ops[e.on]? with
   | none=>
    cases n with
    | zero=>simp [ordB] at hj
    | succ n=>simp [ordB,Sp] at hj
   | some o'=>
    have hg:listed.getD e.on true=true:=by
     rcases Nat.lt_or_ge e.on listed.size with h' | h'
     ·simp [h'] at h1 ⊢;exact h1
     ·simp [Array.getElem?_eq_none h'] at h1
    exact kV hd n j e.on o' Sp (hd e.on o' Sp hg) hj
theorem qW (hc:qV ops W π=true):∀ j i x y,π j < π i->ops[i]? = some x->ops[j]? = some y->mq x.op=true->W j=false:=by
 simp only [qV,aD,List.all_eq_true,List.mem_range] at hc;intro j i x y RO hx hy hL;have hj:=(Array.getElem?_eq_some_iff.1 hy).1;have:=hc.2 i (Array.getElem?_eq_some_iff.1 hx).1;simp only [hx,aD,Bool.or_eq_true,hL,Bool.not_true,Bool.false_eq_true,false_or,List.all_eq_true,List.mem_range,Bool.not_eq_true'] at this;rcases this.2 j hj with h1 | h1
 ·have:¬ Nat.blt (π j) (π i)=true:=by simp [h1]
  simp at this;omega
 ·exact h1
theorem sB (hc:qV ops W π=true):∀ i x,ops[i]? = some x->∀ e∈x.after,Region.binds .any e=true->π e.on < π i/\e.on < ops.size:=by
 simp only [qV,aD,List.all_eq_true,List.mem_range] at hc;intro i x hx e he hb;have:=hc.2 i (Array.getElem?_eq_some_iff.1 hx).1;simp only [hx,aD,List.all_eq_true,Bool.or_eq_true] at this;have h2:=this.1 e (sU he);rw [hb] at h2;simpa using h2
theorem qX (hc:qV ops W π=true):∀ (j:Nat) (o:Oper) cs b,ops[j]? = some o->o.op ≠ .select cs b:=by
 simp only [qV,aD] at hc;exact Region.noSelect_spec hc.1
theorem wa:∀ {l:List Nat},l.Pairwise (fun a b=>π a < π b)->∀ {x y:Nat},x∈l->y∈l->x≠y->π x < π y∨π y < π x
 | [],_,x,y,hx,_,_=>by cases hx
 | h :: r,hp,x,y,hx,hy,aQ=>by
  have qU:=List.pairwise_cons.1 hp;rcases bp hx with e1 | e1
  ·rcases bp hy with e2 | e2
   ·exact (aQ (e1.trans e2.symm)).elim
   ·subst e1;exact .inl (qU.1 _ e2)
  ·rcases bp hy with e2 | e2
   ·subst e2;exact .inr (qU.1 _ e1)
   ·exact wa qU.2 e1 e2 aQ
theorem mJ {Q':Exit->Act->World->Prop} (ex:Nat->Nat->Bool) (Uz:qV ops W π=true) (WV:uM ops W π ex=true) (hQ:∀ a w,Q a w->Q' .normal a w):∀ (iO:Nat) (listed:Array Bool) (rem:List Nat) (a:Act) (w:World),
  listed.size=ops.size->Dn ops listed->(∀ i,i∈rem↔i < ops.size/\listed.getD i true=false)->rem.Pairwise (fun a b=>π a < π b)->rem.length<=iO->(∀ j∈rem,∀ i∈rem,ex j i=false)->(zj ops rem->C w)->runT P ops W C Q rem a w ->
   wpAny P .any ops Q' iO listed a w:=by
 have dt:=qX Uz;have r6:=qW Uz;have DL:=sB Uz;simp only [uM,List.all_eq_true,List.mem_range,Bool.or_eq_true,Bool.not_eq_true'] at WV;intro iO
 induction iO with
 | zero=>
  intro listed rem a w bH RQ ij hp hlen hex hC hr;have:rem=[]:=List.length_eq_zero_iff.1 (by omega);subst this;refine ⟨?_,hQ _ _ hr⟩;rw [List.eq_nil_iff_forall_not_mem];intro i hi;have:=(mem_ready.1 hi);obtain ⟨h1,o,ho,_⟩:=this;have:=(ij i).2 ⟨(Array.getElem?_eq_some_iff.1 ho).1,h1⟩;cases this
 | succ iO ih=>
  intro listed rem a w bH RQ ij hp hlen hex hC hr
  have WW:∀ i,i∈Region.ready .any ops listed->i∈rem:=by
   intro i hi;obtain ⟨h1,o,ho,_⟩:=mem_ready.1 hi;exact (ij i).2 ⟨(Array.getElem?_eq_some_iff.1 ho).1,h1⟩
  refine ⟨fun h0=>?_,fun i hi=>?_⟩
  ·cases rem with
   | nil=>exact hQ _ _ hr
   | cons h rem=>
    have hh:=(ij h).1 (by simp);have hx:ops[h]? = some ops[h]:=Array.getElem?_eq_getElem hh.1
    have:h∈Region.ready .any ops listed:=by
     refine mem_ready.2 ⟨hh.2,_,hx,fun e he hb=>?_⟩;obtain ⟨aq,DM⟩:=DL h _ hx e he hb;cases hg:listed.getD e.on false
     ·have Dd:listed.getD e.on true=false:=by
       have:e.on < listed.size:=by rw [bH];omega
       simp [this] at hg ⊢;exact hg
      have hm:=(ij e.on).2 ⟨by omega,Dd⟩;rcases bp hm with e1 | e1
      ·rw [e1] at aq;omega
      ·have:=(List.pairwise_cons.1 hp).1 _ e1;omega
     ·rfl
    rw [h0] at this;cases this
  ·have mv:=WW i hi;obtain ⟨DN,o,ho,gp⟩:=mem_ready.1 hi;have dY:=(Array.getElem?_eq_some_iff.1 ho).1
   have qB:∀ j∈rem,j≠i->π j < π i->fH ops W j i=true:=by
    intro j hj _ aq;rcases WV i dY j ((ij j).1 hj).1 with ((h1 | h1) | h1) | h1
    ·have:¬ Nat.blt (π j) (π i)=true:=by simp [h1]
     simp at this;omega
    ·rw [hex j hj i mv] at h1;cases h1
    ·have h2:=kV RQ _ _ _ _ ho gp h1;have h3:=((ij j).1 hj).2;have:j < listed.size:=by rw [bH];exact ((ij j).1 hj).1
     simp [this] at h2 h3;rw [h2] at h3;cases h3
    ·exact h1
   have aR:=gx dt r6 ho rem a w hC hr mv qB hp;have hnd:rem.Nodup:=nH hp
   have key:∀ a' w',((W i=false->C w->C w')/\runT P ops W C Q (rem.erase i) a' w')->wpAny P .any ops Q' iO (listed.setIfInBounds i true) a' w':=by
    rintro a' w' ⟨pT,ig⟩;refine ih (listed.setIfInBounds i true) (rem.erase i) a' w' (by simp [bH]) ?_ ?_ (hp.sublist List.erase_sublist) (by rw [List.length_erase_of_mem mv];omega) (fun j hj i hi=>hex j (List.mem_of_mem_erase hj) i (List.mem_of_mem_erase hi)) ?_ ig
    ·intro k x hx hk e he hb;by_cases kj:k=i
     ·subst kj;rw [ho] at hx;simp only [oI] at hx;subst hx;exact getD_set_true (gp e he hb)
     ·rw [getD_set_ne true (Ne.symm kj)] at hk;exact getD_set_true (RQ k x hx hk e he hb)
    ·intro k;rw [List.Nodup.mem_erase_iff hnd];by_cases kj:k=i
     ·subst kj;simp [bH,dY]
     ·rw [getD_set_ne true (Ne.symm kj)];simp only [ne_eq,kj,not_false_eq_true,true_and];exact ij k
    ·rintro ⟨l,z,hl,hz,hL⟩;have qC:=List.mem_of_mem_erase hl;have aQ:l≠i:=fun e=>by subst e;exact (List.Nodup.mem_erase_iff hnd).1 hl |>.1 rfl
     have WX:=hC ⟨l,z,qC,hz,hL⟩;refine pT ?_ WX;rcases Nat.lt_or_ge (π i) (π l) with h1 | h1
     ·exact r6 i l z o h1 hz ho hL
     ·have h0:π l≠π i:=by
       intro he;rcases wa hp qC mv aQ with h2 | h2<;>omega
      have:=qB l qC aQ (by omega);obtain ⟨_,_,_,h4⟩:=ez this hz ho;cases hw:W i
      ·rfl
      ·exact (h4 ⟨hL,hw⟩).elim
   unfold wpOp;rw [ho];simp only;unfold dN at aR;split
   ·rename_i hw;rw [ai hw] at aR;exact .inl (DA (kT key aR))
   ·rename_i hw;rw [ah hw] at aR;exact key _ _ aR
theorem ly {id:Nat} {Q':Exit->Act->World->Prop} {a:Act} {w:World} (hm:P.follows .mixedOrders=true) (hc:GW ops W=true) (hQ:∀ a w,Q a w->Q' .normal a w)
  (hC:C w.drew) (h:runT P ops W C Q (List.range ops.size) a w.drew):(Code.region id ops true).wp P Q' a w:=by
 refine wp_region_any hm ?_;simp only [GW,aD] at hc;refine mJ (π:=fun i=>i) aaf hc.1 hc.2 hQ ops.size (Array.replicate ops.size false) (List.range ops.size) a _ (by simp) ?_ ?_ List.pairwise_lt_range (by simp) (fun _ _ _ _=>rfl) (fun _=>hC) h
 ·intro i o ho hl;have:i < ops.size:=(Array.getElem?_eq_some_iff.1 ho).1;simp [this] at hl
 ·intro i;simp only [List.mem_range];constructor
  ·intro hi;exact ⟨hi,by simp [hi]⟩
  ·intro hi;exact hi.1
end
end Dv
end Go.Proofs.YtgjagnmeonoehaaGreat
namespace Go.Proofs.YtgjagnmeonoehaaGreat
namespace Dv
open Go Go.RowKit
structure Dr where
 ops:Array Oper
 W:Nat->Bool
 k:List It
 jP:St
 fin:Option (Bool->List (Nat × Sl)->St->Prop)
structure Dw where
 d:Dr
 E0:En
 wr:World
structure CC (E0:En) (bx:List (List DV)) (wr w:World):Prop where
 o:∀ (i:Nat) b cs,E0.β[i]? = some b->bx[i]? = some cs->cs ≠ []->w.heap[b]? = wr.heap[b]?
 c:∀ x v,E0.c x=some v->w.cell? x=some v
abbrev Dw.C (D:Dw) (w:World):Prop:=CC D.E0 D.d.jP.bx D.wr w
structure sC (E:En) (bx:List (List DV)) (w:World):Prop where
 len:E.β.length=bx.length
 eA:∀ (i:Nat) cs,bx[i]? = some cs->cs ≠ []->∃ b ty arr,E.β[i]? = some b/\w.heap[b]? = some (.cells (List.toArray arr) ty (0,0))/\RvC E cs arr
theorem Env.em {E:En} {bx:List (List DV)} {w:World} (h:Env E bx w):sC E bx w:=⟨h.len,fun i cs hi _=>h.eA i cs hi⟩
def aag:Option (List DV)->Bool
 | some []=>true
 | _=>false
theorem Sq {o:Option (List DV)} (h:aag o=true):o=some []:=by
 cases o with
 | none=>cases h
 | some l=>
  cases l with
  | nil=>rfl
  | cons _ _=>cases h
def Dw.wc (D:Dw) (E:En):En:=⟨D.E0.c,E.β,E.tk,E.τ⟩
structure fx (X:Ctx) (D:Dw) (c:Bool) (E:En) (s0:List (Nat × Sl)) (st:St) (a:Act) (w:World):Prop where
 rel:Rel X E st a w
 x:Ext D.E0 E
 β:∃ r,E.β=D.E0.β ++ r
 t0:∀ i x,get s0 i=some x->(Holds a.tmps x.gs->∃ v,a.tmps[i]? = some v/\Rv (D.wc E) x.s v)/\(¬ Holds a.tmps x.gs->a.tmps[i]? = some undef)
 cc:c=true->D.C w
def Dw.Q (D:Dw) (X:Ctx) (a:Act) (w:World):Prop:=
 match D.d.fin with
 | none=>kq X D.d.k .normal a w
 | some F=>∃ c E s0 st,fx X D c E s0 st a w/\F c s0 st
def delF {γ:Type _} (d:Nat):List (Nat × Sl)->(List (Nat × Sl)->γ)->γ
 | [],K=>K []
 | p :: r,K=>
  match Nat.beq p.1 d with
  | true=>delF d r K
  | false=>delF d r (fun r'=>K (p :: r'))
theorem oM {γ:Type _} (d:Nat):∀ (l:List (Nat × Sl)) (K:List (Nat × Sl)->γ),delF d l K=K (l.filter fun p=>!Nat.beq p.1 d)
 | [],K=>rfl
 | p :: r,K=>by
  simp only [delF,List.filter_cons];cases h:Nat.beq p.1 d
  ·simp only [Bool.not_false,if_true];rw [oM d r]
  ·simp only [Bool.not_true,Bool.false_eq_true,if_false];rw [oM d r K]
theorem get_filter (d:Nat):∀ (l:List (Nat × Sl)) (i:Nat) (x:Sl),get (l.filter fun p=>!Nat.beq p.1 d) i=some x->i≠d/\get l i=some x
 | [],i,x,h=>by cases h
 | (k,y) :: r,i,x,h=>by
  simp only [List.filter_cons] at h;split at h
  ·rename_i hk
   have hk:k≠d:=by
    rintro rfl;simp at hk
   simp only [dM] at h ⊢;split at h
   ·rename_i kj;subst kj;exact ⟨hk,by rw [ai rfl];exact h⟩
   ·rename_i kj;rw [ah kj];exact get_filter d r i x h
  ·rename_i hk;have hk:k=d:=sU hk;obtain ⟨h1,h2⟩:=get_filter d r i x h;refine ⟨h1,?_⟩;simp only [dM];rw [ah (by omega)];exact h2
def scal:DV->Bool
 | .v _=>true
 | .ud=>true
 | .loc _ _=>true
 | .el _ _=>true
 | _=>false
def put2 (s0:List (Nat × Sl)) (st:St) (dst:Option Nat) (b:Bool) (gs:List (Nat × Bool)) (s:DV) (K:List (Nat × Sl)->St->Prop):Prop:=
 match dst with
 | none=>K s0 st
 | some d=>
  match st with
  | ⟨sl,bx,tk⟩=>
   match b || scal s with
   | true=>K ((d,⟨gs,s⟩) :: s0) ⟨(d,⟨gs,s⟩) :: sl,bx,tk⟩
   | false=>delF d s0 fun iQ=>K iQ ⟨(d,⟨gs,s⟩) :: sl,bx,tk⟩
def optP:Option Prop->Prop
 | some p=>p
 | none=>False
def pR (X:Ctx) (D:Dr) (c:Bool) (s0:List (Nat × Sl)) (st:St) (G:List (Nat × Bool)) (op:Op):Option (Bool × DV):=
 match !gT op && (!mq op || c) with
 | false=>none
 | true=>
  match pureT X.P X.T ⟨s0,D.jP.bx,[]⟩ G op with
  | some s=>some (true,s)
  | none=>
   match mq op with
   | true=>none
   | false=>
    match pureT X.P X.T ⟨st.sl,[],[]⟩ G op with
    | some s=>some (false,s)
    | none=>none
def eR (X:Ctx) (D:Dr) (c:Bool) (s0:List (Nat × Sl)) (st:St) (op:Op) (K:Bool->DV->Prop):Option Prop:=
 match gT op with
 | true=>none
 | false=>
  match mq op with
  | true=>
   match c with
   | true=>effR X ⟨s0,D.jP.bx,[]⟩ op (K true)
   | false=>none
  | false=>
   match effR X ⟨s0,[],[]⟩ op (K true) with
   | some p=>some p
   | none=>effR X ⟨st.sl,[],[]⟩ op (K false)
def wb (X:Ctx) (D:Dr) (c:Bool) (i:Nat) (l:List (Nat × Oper)) (f:FuncId) (args:List DV) (dst:Option Nat) (s0:List (Nat × Sl)) (st:St):Prop:=
 Go.Proofs.Enters X.P f/\((∀ p∈l,D.ops[p.1]? = some p.2)->∀ (E0:En) (wr:World),sC E0 D.jP.bx wr->∀ E a w vs,fx X ⟨D,E0,wr⟩ c E s0 st a w->RvL E args vs->Calls X.P f vs.toArray w fun e w'=>∃ v,e = .returned v /\
  (D.W i=false->CC E0 D.jP.bx wr w->CC E0 D.jP.bx wr w')/\runT X.P D.ops D.W (CC E0 D.jP.bx wr) (Dw.Q ⟨D,E0,wr⟩ X) (l.map (·.1)) (a.put dst v) w')
def OpD (X:Ctx) (D:Dr) (c:Bool) (i:Nat) (l:List (Nat × Oper)) (o:Oper) (s0:List (Nat × Sl)) (st:St):Prop:=
 (∀ p∈l,D.ops[p.1]? = some p.2)->∀ (E0:En) (wr:World),sC E0 D.jP.bx wr->∀ E a w,fx X ⟨D,E0,wr⟩ c E s0 st a w->wq X.P o a w fun a' w'=>
  (D.W i=false->CC E0 D.jP.bx wr w->CC E0 D.jP.bx wr w')/\runT X.P D.ops D.W (CC E0 D.jP.bx wr) (Dw.Q ⟨D,E0,wr⟩ X) (l.map (·.1)) a' w'
def effE (X:Ctx) (D:Dr) (c:Bool) (i:Nat) (l:List (Nat × Oper)) (o:Oper) (s0:List (Nat × Sl)) (st:St) (K:Bool->List (Nat × Sl)->St->Prop):Prop:=
 match o.op with
 | .store t x y=>
  match o.dst with
  | some _=>False
  | none=>
   match D.W i with
   | true=>optP (effC X st o (K false s0))
   | false=>
    match stObj st o.op with
    | some j=>
     match Nat.ble D.jP.bx.length j || aag D.jP.bx[j]? with
     | true=>optP (effC X st o (K c s0))
     | false=>False
    | none=>False
 | .call cl=>
  match cl.callee with
  | .value f=>
   match rv st [] f,argsV st [] cl.args.toList with
   | some (.fn g first captured),some vs=>wb X D c i l g (first ++ vs ++ captured) o.dst s0 st
   | _,_=>False
  | _=>
   match o.dst with
   | some d=>optP (effC X st o fun st'=>delF d s0 fun iQ=>K c iQ st')
   | none=>False
 | _=>
  match o.dst with
  | some d=>
   match effC X st o fun st'=>
    match get st'.sl d with
    | some ⟨[],.loc j off⟩=>K c ((d,⟨[],.loc j off⟩) :: s0) st'
    | _=>delF d s0 fun iQ=>K c iQ st' with
   | some p=>p
   | none=>OpD X D c i l o s0 st
  | none=>False
def goD (X:Ctx) (D:Dr):Nat->Bool->List (Nat × Oper)->List (Nat × Sl)->St->Prop
 | _,c,[],s0,st=>
  match D.fin with
  | none=>go X 4000 D.k st
  | some F=>F c s0 st
 | 0,_,_ :: _,_,_=>False
 | n + 1,c,(i,o) :: r,s0,st=>
  match eB X.nt st.sl o.dst && eB X.nt s0 o.dst with
  | false=>False
  | true=>
   match o.guard with
   | none=>
    match gT o.op with
    | true=>effE X D c i r o s0 st fun c' iQ st'=>goD X D n c' r iQ st'
    | false=>
     match pR X D c s0 st [] o.op with
     | some (b,s)=>put2 s0 st o.dst b [] s (goD X D n c r)
     | none=>optP (eR X D c s0 st o.op fun b s=>put2 s0 st o.dst b [] s (goD X D n c r))
   | some (j,want)=>
    match gslot D.ops.toList j with
    | none=>False
    | some d=>
     match get st.sl d with
     | none=>False
     | some ⟨mn,_⟩=>
      match pR X D c s0 st ((d,want) :: mn) o.op with
      | some (b,s)=>
       match okG ((d,want) :: mn) o.dst with
       | true=>put2 s0 st o.dst b ((d,want) :: mn) s (goD X D n c r)
       | false=>False
      | none=>
       match get st.sl (lastG (d,want) mn).1 with
       | some ⟨[],.v (.bool b)⟩=>
        match mn with
        | []=>Br (b == want)
          (zd st d want fun Lk=>resL d want s0 fun s2=>
           match gT o.op with
           | true=>effE X D c i r o s2 Lk fun c' iQ st'=>goD X D n c' r iQ st'
           | false=>optP (eR X D c s2 Lk o.op fun b s=>put2 s2 Lk o.dst b [] s (goD X D n c r)))
          (match !mq o.op || c with
           | true=>zd st d (!want) fun Lk=>resL d (!want) s0 fun s2=>put2 s2 Lk o.dst true [] .ud (goD X D n c r)
           | false=>False)
        | _ :: _=>Br (b == (lastG (d,want) mn).2)
          (zd st (lastG (d,want) mn).1 (lastG (d,want) mn).2 fun Lk=>resL (lastG (d,want) mn).1 (lastG (d,want) mn).2 s0 fun s2=>goD X D n c ((i,o) :: r) s2 Lk)
          (zd st (lastG (d,want) mn).1 (!(lastG (d,want) mn).2) fun Lk=>resL (lastG (d,want) mn).1 (!(lastG (d,want) mn).2) s0 fun s2=>goD X D n c ((i,o) :: r) s2 Lk)
       | some ⟨[],.ud⟩=>
        match mn with
        | []=>
         match !mq o.op || c with
         | true=>put2 s0 st o.dst true [] .ud (goD X D n c r)
         | false=>False
        | _ :: _=>False
       | _=>False
section
variable {X:Ctx} {D:Dw} {c:Bool} {i:Nat} {s0:List (Nat × Sl)} {st:St} {E:En} {a:Act} {w:World}
theorem WY (h:Ext D.E0 E):Ext D.E0 (D.wc E):=⟨fun _ _ h=>h,h.β,h.tk⟩
theorem GX (h:Ext D.E0 E):Ext (D.wc E) E:=⟨h.c,fun _ _ h=>h,fun k q hq=>⟨q,hq,.inl ⟨rfl,rfl⟩⟩⟩
theorem JC {E':En} (h:Ext E E'):Ext (D.wc E) (D.wc E'):=⟨fun _ _ h=>h,h.β,h.tk⟩
theorem fx.rl0 (h:fx X D c E s0 st a w) (hD:sC D.E0 D.d.jP.bx D.wr):Rl (D.wc E) D.d.jP.bx D.C s0 a where
 tm:=h.t0
 eA:=fun i cs hi=>by
  by_cases aQ:cs=[]
  ·subst aQ;have aq:i < D.E0.β.length:=by rw [hD.len];exact (gS hi).1
   exact ⟨_,[],h.x.β i _ (gE aq),⟨cL _,by simp⟩,fun w' _ j u hj=>by simp at hj⟩
  ·obtain ⟨b,ty,arr,hb,hw,hc⟩:=hD.eA i cs hi aQ;exact ⟨b,arr,h.x.β i b hb,hc.mono (WY h.x),fun w' hC j u hj=>by rw [cK ((hC.o i b cs hb hi aQ).trans hw)];simpa using hj⟩
 cc:=fun x v hx w' hC=>hC.c x v hx
theorem fx.rlE (h:fx X D c E s0 st a w):Rl E [] (fun w'=>∀ x v,E.c x=some v->w'.cell? x=some v) st.sl a where
 tm:=h.rel.tm
 eA:=fun i cs hi=>by simp at hi
 cc:=fun x v hx w' hC=>hC x v hx
theorem JD {s:DV} {v:Value} (hs:scal s=true) (hv:Rv E s v):Rv (D.wc E) s v:=by
 cases s<;>simp [scal] at hs
 ·unfold Rv at hv ⊢;exact hv
 ·unfold Rv at hv ⊢;exact hv
 ·unfold Rv at hv ⊢;exact hv
 ·unfold Rv at hv ⊢;exact hv
theorem jB (h:fx X D c E s0 st a w) {dst:Option Nat} (hd:(eB X.nt st.sl dst && eB X.nt s0 dst)=true) (b:Bool) (gs:List (Nat × Bool)) (s:DV) (v:Value) (GJ:∀ d,dst=some d->∀ p∈gs,p.1≠d)
  (qx:Holds a.tmps gs->Rv E s v) (nM:b=true->Holds a.tmps gs->Rv (D.wc E) s v) (Lb:¬ Holds a.tmps gs->v=undef) {K:List (Nat × Sl)->St->Prop} (hk:put2 s0 st dst b gs s K) :
  ∃ iQ st',K iQ st' /\ fx X D c E iQ st' (a.put dst v) w:=by
 simp only [aD] at hd;have h1:=qN h.rel hd.1 gs s v GJ qx Lb
 cases dst with
 | none=>exact ⟨s0,st,hk,h1,h.x,h.β,h.t0,h.cc⟩
 | some d=>
  obtain ⟨sl,bx,tk⟩:=st;have N5:=hd.2;simp only [eB,aD,Nat.blt_eq] at N5
  have hold:∀ i x,i≠d->get s0 i=some x->(Holds (a.put (some d) v).tmps x.gs->∃ u,(a.put (some d) v).tmps[i]? = some u/\Rv (D.wc E) x.s u)/\(¬ Holds (a.put (some d) v).tmps x.gs->(a.put (some d) v).tmps[i]? = some undef):=by
   intro i x hi hx;simp only [Act.put];rw [Array.getElem?_setIfInBounds_ne (Ne.symm hi),lN (mA N5.2 i x hx)];exact h.t0 i x hx
  simp only [put2] at hk;split at hk
  ·rename_i hb;refine ⟨_,_,hk,h1,h.x,h.β,fun i x hx=>?_,h.cc⟩;simp only [dM] at hx;split at hx
   ·rename_i ze;subst ze;simp only [oI] at hx;subst hx;have h2:(a.tmps.setIfInBounds d v)[d]? = some v:=by simp [Array.getElem?_setIfInBounds,h.rel.sz,N5.1]
    simp only [Act.put];rw [lN (GJ d rfl),h2];refine ⟨fun hh=>⟨v,rfl,?_⟩,fun hh=>by rw [Lb hh]⟩;rcases Bool.or_eq_true _ _ |>.mp hb with hb | hb
    ·exact nM hb hh
    ·exact JD hb (qx hh)
   ·rename_i ze;exact hold i x (Ne.symm ze) hx
  ·rw [oM] at hk;refine ⟨_,_,hk,h1,h.x,h.β,fun i x hx=>?_,h.cc⟩;obtain ⟨h3,h4⟩:=get_filter d s0 i x hx;exact hold i x h3 h4
theorem mK (h:fx X D c E s0 st a w) {d:Nat} {b:Bool} (hd:a.tmps[d]? = some (.bool b)):fx X D c E (s0.map (bI d b)) (st.resolve d b) a w where
 rel:=kR h.rel hd
 x:=h.x
 β:=h.β
 t0:=by
  intro i y hy;simp only [get_map,Option.map_eq_some_iff] at hy;obtain ⟨x,hx,rfl⟩:=hy;have ht:=h.t0 i x hx;unfold bI;split
  ·rename_i hi;have dY:i=d:=sU hi;subst dY;exact ⟨fun _=>⟨_,hd,gn rfl⟩,fun hn=>(hn (bg _)).elim⟩
  ·split
   ·rename_i hc
    have hn:¬ Holds a.tmps x.gs:=by
     intro hh;have:=hh (d,!b) (sU hc);simp only at this;rw [hd] at this;cases b<;>simp at this
    exact ⟨fun _=>⟨_,ht.2 hn,tQ _⟩,fun hn=>(hn (bg _)).elim⟩
   ·have he:Holds a.tmps (x.gs.filter fun p=>p != (d,b))↔Holds a.tmps x.gs:=by
     constructor
     ·intro hh p hp;by_cases Jt:p=(d,b)
      ·subst Jt;exact hd
      ·exact hh p (by simp [List.mem_filter,hp,Jt])
     ·intro hh p hp;exact hh p (List.mem_filter.1 hp).1
    simp only [he];exact ht
 cc:=h.cc
theorem mL {nt d:Nat} {b:Bool} {dst:Option Nat} (h:(eB nt st.sl dst && eB nt s0 dst)=true):(eB nt (st.resolve d b).sl dst && eB nt (s0.map (bI d b)) dst)=true:=by
 simp only [aD] at h ⊢;exact ⟨kS h.1,kS (st:=⟨s0,[],[]⟩) h.2⟩
theorem DO (hD:sC D.E0 D.d.jP.bx D.wr) (h:fx X D c E s0 st a w) {G:List (Nat × Bool)} (hG:Holds a.tmps G) {o:Oper} {b:Bool} {s:DV} (hp:pR X D.d c s0 st G o.op=some (b,s)) :
  gT o.op=false/\(mq o.op=true->c=true)/\∃ v,Rv E s v/\(b=true->Rv (D.wc E) s v)/\∀ w,(mq o.op=true->D.C w)->(execOp a.eval o).run X.P w = .ok (.value v) w:=by
 unfold pR at hp;split at hp
 ·cases hp
 ·rename_i hc;simp only [aD,Bool.not_eq_true',Bool.or_eq_true] at hc;refine ⟨hc.1,fun hL=>?_,?_⟩
  ·rcases hc.2 with h1 | h1
   ·rw [hL] at h1;cases h1
   ·exact h1
  ·split at hp
   ·rename_i s' hs;simp only [oI,Prod.mk.injEq] at hp;obtain ⟨rfl,rfl⟩:=hp;obtain ⟨v,hv,hr⟩:=jd (st:=⟨s0,D.d.jP.bx,[]⟩) X.hT (h.rl0 hD) hG hs;exact ⟨v,Rv.mono (GX h.x) hv,fun _=>hv,hr⟩
   ·split at hp
    ·cases hp
    ·rename_i hL;split at hp
     ·rename_i s' hs;simp only [oI,Prod.mk.injEq] at hp;obtain ⟨rfl,rfl⟩:=hp;obtain ⟨v,hv,hr⟩:=jd (st:=⟨st.sl,[],[]⟩) X.hT h.rlE hG hs;exact ⟨v,hv,(by intro h;cases h),fun w' _=>hr w' (by intro h1;rw [hL] at h1;cases h1)⟩
     ·cases hp
theorem N6 (hD:sC D.E0 D.d.jP.bx D.wr) (h:fx X D c E s0 st a w) {o:Oper} {K:Bool->DV->Prop} (hp:optP (eR X D.d c s0 st o.op K)) :
  gT o.op=false/\(mq o.op=true->c=true)/\∃ b s v,K b s/\Rv E s v/\(b=true->Rv (D.wc E) s v)/\∀ w,(mq o.op=true->D.C w)->(execOp a.eval o).run X.P w = .ok (.value v) w:=by
 unfold eR at hp;split at hp
 ·exact hp.elim
 ·rename_i hE;refine ⟨hE,?_⟩;split at hp
  ·rename_i hL;split at hp
   ·refine ⟨fun _=>rfl,?_⟩
    cases hs:effR X ⟨s0,D.d.jP.bx,[]⟩ o.op (K true) with
    | none=>rw [hs] at hp;exact hp.elim
    | some p=>
     rw [hs] at hp;obtain ⟨s,hk,v,hv,hr⟩:=mC (st:=⟨s0,D.d.jP.bx,[]⟩) (h.rl0 hD) hs hp;exact ⟨true,s,v,hk,Rv.mono (GX h.x) hv,fun _=>hv,hr⟩
   ·exact hp.elim
  ·rename_i hL;have eW:∀ w':World,mq o.op=true->False:=fun w' h1=>by rw [hL] at h1;cases h1
   refine ⟨fun h1=>(by rw [hL] at h1;cases h1),?_⟩;split at hp
   ·rename_i p hs;obtain ⟨s,hk,v,hv,hr⟩:=mC (st:=⟨s0,[],[]⟩) (C:=D.C) ⟨h.t0,fun i cs hi=>by simp at hi,(h.rl0 hD).cc⟩ hs hp;exact ⟨true,s,v,hk,Rv.mono (GX h.x) hv,fun _=>hv,fun w' _=>hr w' fun h1=>(eW w' h1).elim⟩
   ·cases hs:effR X ⟨st.sl,[],[]⟩ o.op (K false) with
    | none=>rw [hs] at hp;exact hp.elim
    | some p=>
     rw [hs] at hp;obtain ⟨s,hk,v,hv,hr⟩:=mC (st:=⟨st.sl,[],[]⟩) h.rlE hs hp;exact ⟨false,s,v,hk,hv,(by intro h;cases h),fun w' _=>hr w' fun h1=>(eW w' h1).elim⟩
theorem JE {P:Program} {o:Oper} {K:Act->World->Prop} (h:wq P o a w K):wq P o a w fun a' w'=>K a' w' /\ ∃ u,a'=a.put o.dst u:=by
 unfold wq at *;split at h
 ·exact ⟨h,_,rfl⟩
 ·exact ⟨h,_,rfl⟩
 ·refine h.mono ?_;rintro e w' ⟨v,rfl,hv⟩;exact ⟨v,rfl,hv,v,rfl⟩
 ·exact h.elim
theorem zW (h:fx X D c E s0 st a w) {t:Option Nat} {E':En} {st':St} {a':Act} {w':World} (hs:ch t E w E' w') (hr:Rel X E' st' a' w') (ht:∀ j,t=some j->D.E0.β.length<=j∨D.d.jP.bx[j]? = some []):D.C w->D.C w':=fun hC=>
 ⟨fun i b cs hb cQ aQ=>by
  have gU:=h.x.β i b hb
  rw [hs.o i _ gU fun e=>by
   rcases ht i e with h1 | h1
   ·have:=(gS hb).1;omega
   ·rw [cQ] at h1;simp only [oI] at h1;exact aQ h1]
  exact hC.o i b cs hb cQ aQ,fun x v hx=>hr.env.sub x v (hs.x.c x v (h.x.c x v hx))⟩
theorem nR (h:fx X D c E s0 st a w) {t:Option Nat} {E':En} {st':St} {w':World} {c':Bool} {iQ:List (Nat × Sl)} {dst:Option Nat} {u:Value} (hs:ch t E w E' w') (hr:Rel X E' st' (a.put dst u) w') (u7:c'=true->D.C w')
  (ht0:∀ i x,get iQ i=some x->(∃ d,dst=some d/\i=d/\scal x.s=true/\get st'.sl d=some x)∨(get s0 i=some x/\∀ d,dst=some d->i≠d)) (hd:eB X.nt s0 dst=true):fx X D c' E' iQ st' (a.put dst u) w' where
 rel:=hr
 x:=by
  refine ⟨fun y v hy=>hs.x.c y v (h.x.c y v hy),fun j b hb=>hs.x.β j b (h.x.β j b hb),fun k q hq=>?_⟩;obtain ⟨q1,h1,h2⟩:=h.x.tk k q hq;obtain ⟨q2,h3,h4⟩:=hs.x.tk k q1 h1;refine ⟨q2,h3,?_⟩;rcases h2 with ⟨h2,h5⟩ | h2
  ·rcases h4 with ⟨h4,h6⟩ | h4
   ·exact .inl ⟨by omega,by rw [h6,h5]⟩
   ·exact .inr (by omega)
  ·rcases h4 with ⟨h4,h6⟩ | h4
   ·exact .inr (by omega)
   ·exact .inr (by omega)
 β:=by
  obtain ⟨r1,h1⟩:=h.β;obtain ⟨r2,h2⟩:=hs.β;exact ⟨r1 ++ r2,by rw [h2,h1,List.append_assoc]⟩
 t0:=fun i x hx=>by
  rcases ht0 i x hx with ⟨d,rfl,rfl,DB,hg⟩ | ⟨hg,aQ⟩
  ·have:=hr.tm _ _ hg;refine ⟨fun hh=>?_,this.2⟩;obtain ⟨v,h1,h2⟩:=this.1 hh;exact ⟨v,h1,JD DB h2⟩
  ·have h1:=h.t0 i x hg
   cases dst with
   | none=>
    refine ⟨fun hh=>?_,h1.2⟩;obtain ⟨v,h2,h3⟩:=h1.1 hh;exact ⟨v,h2,Rv.mono (JC hs.x) h3⟩
   | some d=>
    simp only [eB,aD,Nat.blt_eq] at hd;simp only [Act.put];rw [Array.getElem?_setIfInBounds_ne (Ne.symm (aQ d rfl)),lN (mA hd.2 i x hg)];refine ⟨fun hh=>?_,h1.2⟩;obtain ⟨v,h2,h3⟩:=h1.1 hh;exact ⟨v,h2,Rv.mono (JC hs.x) h3⟩
 cc:=u7
def aah (X:Ctx) (D:Dw) (l:List Nat) (G:Bool->List (Nat × Sl)->St->Prop):Prop:=∀ c s0 st,G c s0 st->∀ E a w,fx X D c E s0 st a w->runT X.P D.d.ops D.d.W D.C (D.Q X) l a w
theorem GY (hD:sC D.E0 D.d.jP.bx D.wr) {l:List (Nat × Oper)} (hl:∀ p∈l,D.d.ops[p.1]? = some p.2) {G:Bool->List (Nat × Sl)->St->Prop} (hG:aah X D (l.map (·.1)) G) {o:Oper} (hd:(eB X.nt st.sl o.dst && eB X.nt s0 o.dst)=true) (h:fx X D c E s0 st a w)
  (he:effE X D.d c i l o s0 st G):wq X.P o a w fun a' w'=>(D.d.W i=false->D.C w->D.C w')/\runT X.P D.d.ops D.d.W D.C (D.Q X) (l.map (·.1)) a' w':=by
 have lR:=hd;simp only [aD] at lR;have hlen:D.E0.β.length=D.d.jP.bx.length:=hD.len
 have core:∀ (K:St->Prop) (p:Prop) (c1:Bool),effC X st o K=some p->p->(c1=true->c=true)->(c1=true∨D.d.W i=false->∀ j,stObj st o.op=some j->D.E0.β.length<=j∨D.d.jP.bx[j]? = some []) ->
   (∀ st',K st' -> ∃ iQ,G c1 iQ st' /\ ∀ i x,get iQ i=some x->(∃ d,o.dst=some d/\i=d/\scal x.s=true/\get st'.sl d=some x)∨(get s0 i=some x/\∀ d,o.dst=some d->i≠d)) ->
   wq X.P o a w fun a' w'=>(D.d.W i=false->D.C w->D.C w')/\runT X.P D.d.ops D.d.W D.C (D.Q X) (l.map (·.1)) a' w':=by
  intro K p c1 hp hpp N7 aR hK;refine kT ?_ (JE (mD lR.1 h.rel hp hpp));rintro a' w' ⟨⟨st',E',hk,hr,hs⟩,u,rfl⟩;refine ⟨fun hW=>zW h hs hr (aR (.inr hW)),?_⟩;obtain ⟨iQ,hg,ht0⟩:=hK st' hk;exact hG c1 iQ st' hg E' _ w' (nR h hs hr (fun hc=>zW h hs hr (aR (.inl hc)) (h.cc (N7 hc))) ht0 lR.2)
 have UA:(∀ t x y,o.op ≠ .store t x y)->∀ j,stObj st o.op=some j->D.E0.β.length<=j∨D.d.jP.bx[j]? = some []:=by
  intro aQ j hj;unfold stObj at hj;split at hj
  ·rename_i t x y kW;exact (aQ t x y kW).elim
  ·cases hj
 have aai:∀ (d:Nat) (st':St),o.dst=some d->∀ i x,get (s0.filter fun p=>!Nat.beq p.1 d) i=some x->(∃ d,o.dst=some d/\i=d/\scal x.s=true/\get st'.sl d=some x)∨(get s0 i=some x/\∀ d,o.dst=some d->i≠d):=by
  intro d st' eX i x hx;obtain ⟨h1,h2⟩:=get_filter d s0 i x hx;exact .inr ⟨h2,fun d' lR=>by rw [eX] at lR;cases lR;exact h1⟩
 unfold effE at he;split at he
 ·rename_i t x y kW;split at he
  ·exact he.elim
  ·rename_i eX;have sv:∀ st':St,∀ i x,get s0 i=some x->(∃ d,o.dst=some d/\i=d/\scal x.s=true/\get st'.sl d=some x)∨(get s0 i=some x/\∀ d,o.dst=some d->i≠d):=fun st' i x hx=>.inr ⟨hx,fun d hd=>by rw [eX] at hd;cases hd⟩;split at he
   ·rename_i hW
    cases hp:effC X st o (G false s0) with
    | none=>rw [hp] at he;exact he.elim
    | some p=>
     rw [hp] at he;exact core _ p false hp he (by intro h;cases h) (by rintro (h1 | h1);cases h1;rw [hW] at h1;cases h1) fun st' hk=>⟨s0,hk,sv st'⟩
   ·split at he
    ·rename_i j hj;split at he
     ·rename_i fQ
      have fQ:D.d.jP.bx.length<=j∨D.d.jP.bx[j]? = some []:=by
       rcases Bool.or_eq_true _ _ |>.mp fQ with h1 | h1
       ·exact .inl (sU h1)
       ·exact .inr (Sq h1)
      cases hp:effC X st o (G c s0) with
      | none=>rw [hp] at he;exact he.elim
      | some p=>
       rw [hp] at he;exact core _ p c hp he id (fun _ j' gU=>by rw [hj] at gU;cases gU;rw [hlen];exact fQ) fun st' hk=>⟨s0,hk,sv st'⟩
     ·exact he.elim
    ·exact he.elim
 ·rename_i cl kW;split at he
  ·rename_i f uN;split at he
   ·rename_i g first captured vs hf qC
    obtain ⟨j2,aaj⟩:=he;have gV:=h.rel.rl;have e1:=aU gV hf;unfold Rv at e1;obtain ⟨l1,r1,e1,u9,hr1⟩:=e1;have hargs:=jc gV (bg _) _ _ qC;obtain ⟨dst,op,ty,pos,after,gu⟩:=o;obtain ⟨callee,args,argTypes⟩:=cl;simp only at kW uN;subst kW uN
    have hr:(execOp a.eval ⟨dst,.call ⟨.value f,args,argTypes⟩,ty,pos,after,gu⟩).run X.P w = .ok (.enter g (l1 ++ args.toList.map a.eval ++ r1).toArray) w:=by
     have e3:(l1.toArray ++ args.map a.eval ++ r1.toArray)=(l1 ++ args.toList.map a.eval ++ r1).toArray:=by apply Array.ext';simp
     simp only [execOp,resolve,e1,Deferred.ofValue,Sem.run_bind,Sem.run_pure,Result.andThen_ok,invoke,e3];exact j2 _ _
    unfold wq;rw [hr];exact aaj hl D.E0 D.wr hD E a w _ h ((u9.append hargs).append hr1)
   ·exact he.elim
  ·split at he
   ·rename_i d eX
    cases hp:effC X st o (fun st'=>delF d s0 fun iQ=>G c iQ st') with
    | none=>rw [hp] at he;exact he.elim
    | some p=>
     rw [hp] at he;refine core _ p c hp he id (fun _=>UA (fun t x y h1=>by rw [kW] at h1;cases h1)) fun st' hk=>?_;rw [oM] at hk;exact ⟨_,hk,aai d st' eX⟩
   ·exact he.elim
 ·rename_i va u0;split at he
  ·rename_i d eX
   cases hp:effC X st o (fun st'=>
    match get st'.sl d with
    | some ⟨[],.loc j off⟩=>G c ((d,⟨[],.loc j off⟩) :: s0) st'
    | _=>delF d s0 fun iQ=>G c iQ st') with
   | none=>rw [hp] at he;exact he hl D.E0 D.wr hD E a w h
   | some p=>
    rw [hp] at he;refine core _ p c hp he id (fun _=>UA va) fun st' hk=>?_;split at hk
    ·rename_i j off hg;refine ⟨_,hk,fun i x hx=>?_⟩;simp only [dM] at hx;split at hx
     ·rename_i ze;simp only [oI] at hx;subst hx;exact .inl ⟨d,eX,ze.symm,rfl,hg⟩
     ·rename_i ze;exact .inr ⟨hx,fun d' lR=>by rw [eX] at lR;cases lR;exact Ne.symm ze⟩
    ·rw [oM] at hk;exact ⟨_,hk,aai d st' eX⟩
  ·exact he.elim
theorem dK (hD:sC D.E0 D.d.jP.bx D.wr):∀ n c l s0 st,goD X D.d n c l s0 st->(∀ p∈l,D.d.ops[p.1]? = some p.2)->∀ E a w,fx X D c E s0 st a w->runT X.P D.d.ops D.d.W D.C (D.Q X) (l.map (·.1)) a w
 | n,c,[],s0,st,hg,hl=>by
  intro E a w h;have hg:(match D.d.fin with | none=>go X 4000 D.d.k st | some F=>F c s0 st):=by cases n<;>simpa only [goD] using hg
  show D.Q X a w;unfold Dw.Q
  cases hf:D.d.fin with
  | none=>
   rw [hf] at hg;exact go_sound 4000 _ _ hg E a w h.rel
  | some F=>
   rw [hf] at hg;exact ⟨c,E,s0,st,h,hg⟩
 | 0,c,_ :: _,s0,st,hg,_=>by exact hg.elim
 | n + 1,c,(i,o) :: r,s0,st,hg,hl=>by
  intro E a w h;have ho:D.d.ops[i]? = some o:=hl (i,o) (by simp);have qC:∀ p∈r,D.d.ops[p.1]? = some p.2:=fun p hp=>hl p (dB _ hp);simp only [List.map_cons];have ih:∀ c s0 st,goD X D.d n c r s0 st->∀ E a w,fx X D c E s0 st a w->runT X.P D.d.ops D.d.W D.C (D.Q X) (r.map (·.1)) a w:=fun c s0 st hg=>dK hD n c r s0 st hg qC;have ihG:aah X D (r.map (·.1)) (fun c s0 st=>goD X D.d n c r s0 st):=fun c s0 st hg=>ih c s0 st hg;simp only [goD,Jp,BA] at hg;split at hg
  ·exact hg.elim
  ·rename_i hd
   have fR:∀ (v:Value) iQ st',gT o.op=false->Yl X.P D.d.ops D.C o v a->(mq o.op=true->c=true)->goD X D.d n c r iQ st' -> fx X D c E iQ st' (a.put o.dst v) w ->
     runT X.P D.d.ops D.d.W D.C (D.Q X) (i :: r.map (·.1)) a w:=by
    intro v iQ st' hE hy fY nF bM;simp only [runT,ho];rw [ah (by simp [hE])];exact ⟨v,hy,fun hL=>h.cc (fY hL),ih c iQ st' nF E _ w bM⟩
   have fS:∀ iQ st',gT o.op=true->Region.wanted o (yielded D.d.ops a.tmps)=false->goD X D.d n c r iQ st' -> fx X D c E iQ st' (a.put o.dst undef) w ->
     runT X.P D.d.ops D.d.W D.C (D.Q X) (i :: r.map (·.1)) a w:=by
    intro iQ st' hE hw nF bM;simp only [runT,ho];rw [ai hE];unfold dN;rw [ah (by simp [hw])];exact ⟨fun _ h=>h,ih c iQ st' nF E _ w bM⟩
   have fE:∀ iQ st',gT o.op=true->Region.wanted o (yielded D.d.ops a.tmps)=true->(eB X.nt st'.sl o.dst && eB X.nt iQ o.dst)=true->effE X D.d c i r o iQ st' (fun c' iQ st'=>goD X D.d n c' r iQ st')->fx X D c E iQ st' a w ->
     runT X.P D.d.ops D.d.W D.C (D.Q X) (i :: r.map (·.1)) a w:=by
    intro iQ st' hE hw lR he bM;simp only [runT,ho];rw [ai hE];unfold dN;rw [ai hw];exact GY hD qC ihG lR bM he
   have fP:∀ iQ st',Region.wanted o (yielded D.d.ops a.tmps)=true->(eB X.nt st'.sl o.dst && eB X.nt iQ o.dst)=true->optP (eR X D.d c iQ st' o.op fun b s=>put2 iQ st' o.dst b [] s (goD X D.d n c r))->fx X D c E iQ st' a w ->
     runT X.P D.d.ops D.d.W D.C (D.Q X) (i :: r.map (·.1)) a w:=by
    intro iQ st' hw lR he bM;obtain ⟨hE,fY,b,s,v,hk,hv,nM,bU⟩:=N6 hD bM he;obtain ⟨s1,qD,mM,eQ⟩:=jB bM lR b [] s v (fun _ _ p hp=>by cases hp) (fun _=>hv) (fun hb _=>nM hb) (fun hn=>(hn (bg _)).elim) hk;exact fR v s1 qD hE (.inl ⟨hw,bU⟩) fY mM eQ
   have udE:∀ iQ st',(eB X.nt st'.sl o.dst && eB X.nt iQ o.dst)=true->fx X D c E iQ st' a w->put2 iQ st' o.dst true [] .ud (goD X D.d n c r)->∃ s1 qD,goD X D.d n c r s1 qD/\fx X D c E s1 qD (a.put o.dst undef) w:=by
    intro iQ st' lR bM hk;exact jB bM lR true [] .ud undef (fun _ _ p hp=>by cases hp) (fun _=>tQ E) (fun _ _=>tQ _) (fun hn=>(hn (bg _)).elim) hk
   split at hg
   ·rename_i Sk;have hw:Region.wanted o (yielded D.d.ops a.tmps)=true:=by simp [Region.wanted,Sk]
    split at hg
    ·rename_i hE;exact fE s0 st hE hw hd hg h
    ·split at hg
     ·rename_i b s hs;obtain ⟨hE,fY,v,hv,nM,bU⟩:=DO hD h (bg _) hs;obtain ⟨s1,qD,mM,eQ⟩:=jB h hd b [] s v (fun _ _ p hp=>by cases hp) (fun _=>hv) (fun hb _=>nM hb) (fun hn=>(hn (bg _)).elim) hg;exact fR v s1 qD hE (.inl ⟨hw,bU⟩) fY mM eQ
     ·exact fP s0 st hw hd hg h
   ·rename_i j want Sk;split at hg
    ·exact hg.elim
    ·rename_i d GJ;split at hg
     ·exact hg.elim
     ·rename_i mn sd Li;have qR:=wanted_spec h.rel Sk GJ Li
      have GZ:¬ Holds a.tmps ((d,want) :: mn)->Region.wanted o (yielded D.d.ops a.tmps)=false:=by
       intro hn;cases hww:Region.wanted o (yielded D.d.ops a.tmps)
       ·rfl
       ·exact (hn (qR.1 hww)).elim
      split at hg
      ·rename_i b s hs;split at hg
       case h_2=>exact hg.elim
       rename_i bZ;have aak:=vZ bZ;by_cases hh:Holds a.tmps ((d,want) :: mn)
       ·obtain ⟨hE,fY,v,hv,nM,bU⟩:=DO hD h hh hs;obtain ⟨s1,qD,mM,eQ⟩:=jB h hd b _ s v aak (fun _=>hv) (fun hb _=>nM hb) (fun hn=>(hn hh).elim) hg;exact fR v s1 qD hE (.inl ⟨qR.2 hh,bU⟩) fY mM eQ
       ·obtain ⟨s1,qD,mM,eQ⟩:=jB h hd b _ s undef aak (fun hn=>(hh hn).elim) (fun _ hn=>(hh hn).elim) (fun _=>rfl) hg
        have fY:gT o.op=false/\(mq o.op=true->c=true):=by
         unfold pR at hs;split at hs
         ·cases hs
         ·rename_i hc;simp only [aD,Bool.not_eq_true',Bool.or_eq_true] at hc;refine ⟨hc.1,fun hL=>?_⟩;rcases hc.2 with h1 | h1
          ·rw [hL] at h1;cases h1
          ·exact h1
        exact fR undef s1 qD fY.1 (.inr ⟨GZ hh,rfl⟩) fY.2 mM eQ
      ·split at hg
       ·rename_i b gv;have ht0:=DF h.rel gv
        cases mn with
        | nil=>
         simp only [lastG] at gv ht0;cases zi:(b == want)
         ·have GS:b = !want:=by cases b<;>cases want<;>simp_all
          have hg:=hg.f zi
          have hn:Region.wanted o (yielded D.d.ops a.tmps)=false:=by
           refine GZ fun hh=>?_;have:=hh (d,want) (by simp);simp only at this;rw [ht0] at this;simp only [oI,Value.bool.injEq] at this;rw [this] at zi;simp at zi
          have hr:=mK (d:=d) (b:=!want) h (by rw [ht0,GS]);split at hg
          ·rename_i fY
           have WZ:mq o.op=true->c=true:=by
            intro hL;simpa [hL] using fY
           obtain ⟨s1,qD,mM,eQ⟩:=udE _ _ (mL hd) hr hg;cases hE:gT o.op
           ·exact fR undef s1 qD hE (.inr ⟨hn,rfl⟩) WZ mM eQ
           ·exact fS s1 qD hE hn mM eQ
          ·exact hg.elim
         ·have kU:b=want:=sU zi;have hg:=hg.t zi;subst kU;have hw:Region.wanted o (yielded D.d.ops a.tmps)=true:=qR.2 (kh ht0 (bg _));have hr:=mK (d:=d) (b:=b) h ht0;split at hg
          ·rename_i hE;exact fE _ _ hE hw (mL hd) hg hr
          ·exact fP _ _ hw (mL hd) hg hr
        | cons g1 gr=>
         have key:∀ e,a.tmps[(lastG (d,want) (g1 :: gr)).1]? = some (.bool e)->goD X D.d n c ((i,o) :: r) (s0.map (bI (lastG (d,want) (g1 :: gr)).1 e)) (st.resolve (lastG (d,want) (g1 :: gr)).1 e)->_:=
          fun e Ju nF=>dK hD n c ((i,o) :: r) _ _ nF hl E a w (mK h Ju)
         cases zi:(b == (lastG (d,want) (g1 :: gr)).2)
         ·have hg:=hg.f zi;have GS:b = !(lastG (d,want) (g1 :: gr)).2:=by cases b<;>cases h0:(lastG (d,want) (g1 :: gr)).2<;>simp_all
          exact key _ (by rw [ht0,GS]) hg
         ·have hg:=hg.t zi;have kU:b=(lastG (d,want) (g1 :: gr)).2:=sU zi;exact key _ (by rw [ht0,kU]) hg
       ·rename_i gv
        cases mn with
        | nil=>
         have ht0:=NW h.rel gv;simp only [lastG] at ht0
         have hn:Region.wanted o (yielded D.d.ops a.tmps)=false:=by
          refine GZ fun hh=>?_;have:=hh (d,want) (by simp);simp only at this;rw [ht0] at this;simp [undef] at this
         simp only at hg;split at hg
         ·rename_i fY
          have WZ:mq o.op=true->c=true:=by
           intro hL;simpa [hL] using fY
          obtain ⟨s1,qD,mM,eQ⟩:=udE _ _ hd h hg;cases hE:gT o.op
          ·exact fR undef s1 qD hE (.inr ⟨hn,rfl⟩) WZ mM eQ
          ·exact fS s1 qD hE hn mM eQ
         ·exact hg.elim
        | cons g1 gr=>exact hg.elim
       ·exact hg.elim
def Zf (X:Ctx) (o:Oper) (st st':St):Prop:=∀ E a w,Rel X E st a w->wq X.P o a w fun a' w'=>∃ E',Rel X E' st' a' w' /\ ch none E w E' w'
theorem Zf.g {o:Oper} {k:List It} {st st':St} (h:Zf X o st st') (hk:go X 4000 k st'):Gx X o k st:=fun E a w hr=>by
 refine DA (kT ?_ (h E a w hr));rintro a' w' ⟨E',ig,_⟩;exact go_sound 4000 _ _ hk E' a' w' ig
theorem Zf.d {o:Oper} {D:Dr} {st':St} {d:Nat} {r:List (Nat × Oper)} (h:Zf X o st st') (eX:o.dst=some d) (hd:eB X.nt s0 (some d)=true) (hk:delF d s0 fun iQ=>goD X D 3000 c r iQ st'):OpD X D c i r o s0 st:=fun hl E0 wr hD E a w hr=>by
 refine kT ?_ (JE (h E a w hr.rel));rintro a' w' ⟨⟨E',ig,hs⟩,u,rfl⟩;have hC:=zW hr hs ig (fun j hj=>by cases hj);refine ⟨fun _=>hC,?_⟩;rw [oM] at hk;refine dK (D:=⟨D,E0,wr⟩) hD 3000 c r _ _ hk hl E' _ w' (nR hr hs ig (fun h1=>hC (hr.cc h1)) (fun i x hx=>?_) (by rw [eX];exact hd));obtain ⟨h1,h2⟩:=get_filter d s0 i x hx;exact .inr ⟨h2,fun d' lR=>by rw [eX] at lR;cases lR;exact h1⟩
def nOps:Nat->List Oper->List (Nat × Oper)
 | _,[]=>[]
 | i,o :: r=>(i,o) :: nOps (i + 1) r
theorem we:∀ (l:List Oper) (i:Nat) (p:Nat × Oper),p∈nOps i l->i<=p.1/\l[p.1 - i]? = some p.2
 | [],_,_,h=>by cases h
 | o :: r,i,p,h=>by
  rcases bp h with h | h
  ·subst h;simp
  ·have:=we r (i + 1) p h;refine ⟨by omega,?_⟩;rw [show p.1 - i=(p.1 - (i + 1)) + 1 by omega];simpa using this.2
theorem wg:∀ (l:List Oper) (i:Nat),(nOps i l).map (·.1)=List.range' i l.length
 | [],_=>rfl
 | o :: r,i=>by simp only [nOps,List.map_cons,wg r (i + 1),List.length_cons,List.range'_succ]
theorem mN (hr:Rel X E st a w) {ops:Array Oper} {W:Nat->Bool} {k:List It}:fx X ⟨⟨ops,W,k,st,none⟩,E,w⟩ true E st.sl st a w where
 rel:=hr
 x:=Ext.refl E
 β:=⟨[],by simp⟩
 t0:=hr.tm
 cc:=fun _=>⟨fun _ _ _ _ _ _=>rfl,hr.env.sub⟩
theorem jA {id:Nat} {ops:Array Oper} {k:List It} {st:St} (W:Nat->Bool) (hm:X.P.follows .mixedOrders=true) (hc:GW ops W=true)
  (h:goD X ⟨ops,W,k,st,none⟩ 3000 true (nOps 0 ops.toList) st.sl st):kQ X id ops k st:=by
 intro E a w hr;have ig:=km hr;have hs:=mN ig (ops:=ops) (W:=W) (k:=k);refine ly (C:=CC E st.bx w.drew) (W:=W) (Q:=kq X k .normal) hm hc (fun a w h=>h) (hs.cc rfl) ?_;have:=dK (D:=⟨⟨ops,W,k,st,none⟩,E,w.drew⟩) ig.env.em 3000 true _ _ _ h (fun p hp=>by simpa using (we _ _ p hp).2) E a w.drew hs;rw [wg] at this;rw [List.range_eq_range'];simp only [Array.length_toList] at this;exact this
def maskL:List Nat->Nat->List (List DV)->List (List DV)
 | _,_,[]=>[]
 | m,i,cs :: r=>(match m.contains i with | true=>[] | false=>cs) :: maskL m (i + 1) r
theorem sD (m:List Nat):∀ (l:List (List DV)) (i:Nat),(maskL m i l).length=l.length
 | [],_=>rfl
 | cs :: r,i=>by simp [maskL,sD m r]
theorem sE (m:List Nat):∀ (l:List (List DV)) (i j:Nat) cs,(maskL m i l)[j]? = some cs->cs=[]∨l[j]? = some cs
 | [],_,_,_,h=>by simp [maskL] at h
 | c :: r,i,0,cs,h=>by
  simp only [maskL,List.getElem?_cons_zero,oI] at h;split at h
  ·exact .inl h.symm
  ·exact .inr (by simp [h])
 | c :: r,i,j + 1,cs,h=>by
  simp only [maskL,List.getElem?_cons_succ] at h ⊢;exact sE m r (i + 1) j cs h
theorem vb {id:Nat} {ops:Array Oper} {k:List It} {st:St} (m:List Nat) (W:Nat->Bool) (hm:X.P.follows .mixedOrders=true) (hc:GW ops W=true)
  (h:goD X ⟨ops,W,k,⟨st.sl,maskL m 0 st.bx,st.tk⟩,none⟩ 3000 true (nOps 0 ops.toList) st.sl st):kQ X id ops k st:=by
 intro E a w hr;have ig:=km hr;have hs:fx X ⟨⟨ops,W,k,⟨st.sl,maskL m 0 st.bx,st.tk⟩,none⟩,E,w.drew⟩ true E st.sl st a w.drew:=⟨ig,Ext.refl E,⟨[],by simp⟩,ig.tm,fun _=>⟨fun _ _ _ _ _ _=>rfl,ig.env.sub⟩⟩;refine ly (C:=CC E (maskL m 0 st.bx) w.drew) (W:=W) (Q:=kq X k .normal) hm hc (fun a w h=>h) (hs.cc rfl) ?_
 have W0:sC E (maskL m 0 st.bx) w.drew:=⟨by rw [sD];exact ig.env.len,fun i cs hi aQ=>by
  rcases sE m _ _ _ _ hi with h1 | h1
  ·exact (aQ h1).elim
  ·exact ig.env.eA i cs h1⟩
 have:=dK (D:=⟨⟨ops,W,k,⟨st.sl,maskL m 0 st.bx,st.tk⟩,none⟩,E,w.drew⟩) W0 3000 true _ _ _ h (fun p hp=>by simpa using (we _ _ p hp).2) E a w.drew hs;rw [wg] at this;rw [List.range_eq_range'];simp only [Array.length_toList] at this;exact this
def UB (ops:Array Oper) (i:Nat):Bool:=
 match ops.toList[i]? with
 | some o=>
  match o.op with
  | .store ..=>true
  | _=>false
 | none=>false
theorem Sr {id:Nat} {ops:Array Oper} {k:List It} {st:St} (hm:X.P.follows .mixedOrders=true) (hc:GW ops (UB ops)=true)
  (h:goD X ⟨ops,UB ops,k,st,none⟩ 3000 true (nOps 0 ops.toList) st.sl st):kQ X id ops k st:=jA (UB ops) hm hc h
theorem kX {D:Dr} {f:FuncId} {args bh:List DV} {d:Nat} {r:List (Nat × Oper)} (j2:Enters X.P f) (hd:(eB X.nt st.sl (some d) && eB X.nt s0 (some d))=true) {Φ:DV->List (List DV)->List TkE->Prop} (hc:Ev X.P f bh [] [] Φ) (ha:CcL [] 0 0 0 bh args)
  (hk:∀ uO,Φ uO [] []->put2 s0 st (some d) false [] uO (goD X D 3000 c r)) (aR:X.still=false:=by exact rfl):wb X D c i r f args (some d) s0 st:=by
 refine ⟨j2,fun hl E0 wr hD E a w vs h hv=>(tU h.rel aR hc ha hv).mono ?_⟩;rintro e w' ⟨v,E',uO,rfl,bM,hr,hΦ,hm,hx,hβ⟩
 have hh:∀ b,b < w.heap.size->w'.heap[b]? = w.heap[b]?:=fun b hb=>hm.block b hb (by
  rintro (h1 | ⟨y,h1,_⟩)
  ·simp [En.cl] at h1
  ·simp [En.cl] at h1)
 have hs:ch none E w E' w':=⟨hx,⟨[],by rw [hβ];simp⟩,fun j b hb _=>hh b (h.rel.env.aZ (mG hb))⟩;have hC:=zW h hs bM (fun j hj=>by cases hj);refine ⟨v,rfl,fun _=>hC,?_⟩;have DP:fx X ⟨D,E0,wr⟩ c E' s0 st (a.put none v) w':=nR h hs bM (fun h1=>hC (h.cc h1)) (fun i x hx=>.inr ⟨hx,fun d hd=>by cases hd⟩) rfl;obtain ⟨s1,qD,mM,eQ⟩:=jB DP hd false [] uO v (fun _ _ p hp=>by cases hp) (fun _=>hr) (fun hb=>by cases hb) (fun hn=>(hn (bg _)).elim) (hk uO hΦ);exact dK (D:=⟨D,E0,wr⟩) hD 3000 c r _ _ mM hl E' _ w' eQ
theorem Ss {D:Dr} {f:FuncId} {args bh:List DV} {d:Nat} {r:List (Nat × Oper)} {uO:DV} (j2:Enters X.P f) (hc:EvP X.P f bh uO) (ha:CcL [] 0 0 0 bh args) (hd:(eB X.nt st.sl (some d) && eB X.nt s0 (some d))=true)
  (hk:put2 s0 st (some d) false [] uO (goD X D 3000 c r)) (aR:X.still=false:=by exact rfl):wb X D c i r f args (some d) s0 st:=
 kX j2 hd hc ha (fun _ hr=>hr ▸ hk) aR
theorem gM {D:Dr} {i:Nat} {f:FuncId} {args:List DV} {dst:Option Nat} (hW:D.W i=true) (h:dH X f args dst D.k st) (hf:D.fin=none:=by exact rfl):wb X D c i [] f args dst s0 st:=by
 refine ⟨h.1,fun _ E0 wr _ E a w vs hr hv=>(h.2.2 E a w vs hr.rel hv).mono ?_⟩;intro e w' hq
 cases e with
 | returned v=>
  refine ⟨v,rfl,⟨(fun hw=>by rw [hW] at hw;cases hw),?_⟩⟩;show Dw.Q ⟨D,E0,wr⟩ X _ _;unfold Dw.Q;simp only [hf];exact hq
 | _=>exact hq.elim
end
end Dv
end Go.Proofs.YtgjagnmeonoehaaGreat
namespace Go.Proofs.YtgjagnmeonoehaaGreat
namespace Dv
open Go Go.RowKit
section
variable {P:Program} {ops:Array Oper} {C:World->Prop} {Q:Act->World->Prop} {W:Nat->Bool} {π π':Nat->Nat}
theorem sF {o:Oper} {i:Nat} {a:Act} {w:World} {K:Act->World->Prop} {Q':Exit->Act->World->Prop} (ho:ops[i]? = some o) (h:dN P ops o a w K):wpOp P ops Q' i K a w:=by
 unfold wpOp;rw [ho];simp only;unfold dN at h;split
 ·rename_i hw;rw [ai hw] at h;exact .inl (DA h)
 ·rename_i hw;rw [ah hw] at h;exact h
def chkT (ops:Array Oper) (x y:Nat):Bool:=
 (List.range ops.size).all fun i=>Nat.beq i x || Nat.beq i y ||
  match ops[i]? with
  | some o=>!gT o.op || ordB ops ops.size x i
  | none=>false
def uP (x y:Nat):Nat->Nat->Bool:=fun j i=>Nat.beq j x && Nat.beq i y
theorem G0 {x y:Nat} {Q':Exit->Act->World->Prop} (G1:x≠y) (Zg:qV ops W π=true) (h1S:uM ops W π (uP x y)=true) (h2O:qV ops W π'=true) (h2S:uM ops W π' (uP y x)=true) (hT:chkT ops x y=true)
  (hQ:∀ a w,Q a w->Q' .normal a w):∀ (iO:Nat) (listed:Array Bool) (r1 r2:List Nat) (a:Act) (w:World),
  listed.size=ops.size->Dn ops listed->(∀ i,i∈r1↔i < ops.size/\listed.getD i true=false)->(∀ i,i∈r2↔i < ops.size/\listed.getD i true=false)->r1.Pairwise (fun a b=>π a < π b)->r2.Pairwise (fun a b=>π' a < π' b)->r1.length<=iO ->
   x∈r1->y∈r1->C w->runT P ops W C Q r1 a w->runT P ops W C Q r2 a w->wpAny P .any ops Q' iO listed a w:=by
 have dt:=qX Zg;have r6:=qW Zg;have W2:=qW h2O;have h1S':=h1S;have h2S':=h2S;simp only [uM,List.all_eq_true,List.mem_range,Bool.or_eq_true,Bool.not_eq_true'] at h1S h2S;intro iO
 induction iO with
 | zero=>
  intro listed r1 r2 a w bH RQ gy rZ sG DQ hlen hx hy hC hr1 hr2;have:r1=[]:=List.length_eq_zero_iff.1 (by omega);rw [this] at hx;cases hx
 | succ iO ih=>
  intro listed r1 r2 a w bH RQ gy rZ sG DQ hlen hx hy hC hr1 hr2;have h12:∀ i,i∈r1↔i∈r2:=fun i=>(gy i).trans (rZ i).symm;have G2:r1.Nodup:=nH sG;have wh:r2.Nodup:=nH DQ;have DL:=sB Zg;refine ⟨fun h0=>?_,fun i hi=>?_⟩
  ·cases r1 with
   | nil=>cases hx
   | cons h rem=>
    have hh:=(gy h).1 (by simp);have hxx:ops[h]? = some ops[h]:=Array.getElem?_eq_getElem hh.1
    have:h∈Region.ready .any ops listed:=by
     refine mem_ready.2 ⟨hh.2,_,hxx,fun e he hb=>?_⟩;obtain ⟨aq,DM⟩:=DL h _ hxx e he hb;cases hg:listed.getD e.on false
     ·have Dd:listed.getD e.on true=false:=by
       have:e.on < listed.size:=by rw [bH];omega
       simp [this] at hg ⊢;exact hg
      have hm:=(gy e.on).2 ⟨by omega,Dd⟩;rcases bp hm with e1 | e1
      ·rw [e1] at aq;omega
      ·have:=(List.pairwise_cons.1 sG).1 _ e1;omega
     ·rfl
    rw [h0] at this;cases this
  ·obtain ⟨DN,o,ho,gp⟩:=mem_ready.1 hi;have dY:=(Array.getElem?_eq_some_iff.1 ho).1;have mv:i∈r1:=(gy i).2 ⟨dY,DN⟩;have Su:i∈r2:=(h12 i).1 mv
   have ik:∀ j,j∈r1->ordB ops ops.size j i=true->False:=by
    intro j hj h1;have h2:=kV RQ _ _ _ _ ho gp h1;have h3:=((gy j).1 hj).2;have:j < listed.size:=by rw [bH];exact ((gy j).1 hj).1
    simp [this] at h2 h3;rw [h2] at h3;cases h3
   have Sv:i≠y->∀ j∈r1,j≠i->π j < π i->fH ops W j i=true:=by
    intro W3 j hj _ aq;rcases h1S i dY j ((gy j).1 hj).1 with ((h1 | h1) | h1) | h1
    ·have:¬ Nat.blt (π j) (π i)=true:=by simp [h1]
     simp at this;omega
    ·simp [uP] at h1;exact (W3 h1.2).elim
    ·exact (ik j hj h1).elim
    ·exact h1
   have W4:i≠x->∀ j∈r2,j≠i->π' j < π' i->fH ops W j i=true:=by
    intro De j hj _ aq;rcases h2S i dY j ((rZ j).1 hj).1 with ((h1 | h1) | h1) | h1
    ·have:¬ Nat.blt (π' j) (π' i)=true:=by simp [h1]
     simp at this;omega
    ·simp [uP] at h1;exact (De h1.2).elim
    ·exact (ik j ((h12 j).2 hj) h1).elim
    ·exact h1
   have Ll:Dn ops (listed.setIfInBounds i true):=by
    intro k z hz hk e he hb;by_cases kj:k=i
    ·subst kj;rw [ho] at hz;simp only [oI] at hz;subst hz;exact getD_set_true (gp e he hb)
    ·rw [getD_set_ne true (Ne.symm kj)] at hk;exact getD_set_true (RQ k z hz hk e he hb)
   have zX:∀ (rem:List Nat),rem.Nodup->(∀ i,i∈rem↔i < ops.size/\listed.getD i true=false)->∀ k,k∈rem.erase i↔k < ops.size/\(listed.setIfInBounds i true).getD k true=false:=by
    intro rem hnd ij k;rw [List.Nodup.mem_erase_iff hnd];by_cases kj:k=i
    ·subst kj;simp [bH,dY]
    ·rw [getD_set_ne true (Ne.symm kj)];simp only [ne_eq,kj,not_false_eq_true,true_and];exact ij k
   refine sF ho ?_;by_cases De:i=x
   ·subst De;have aR:=gx dt r6 ho r1 a w (fun _=>hC) hr1 mv (Sv G1) sG;refine cz ?_ aR;rintro a' w' ⟨pT,ig⟩;refine mJ (C:=C) (uP i y) Zg h1S' hQ iO _ (r1.erase i) a' w' (by simp [bH]) Ll (zX r1 G2 gy) (sG.sublist List.erase_sublist) (by rw [List.length_erase_of_mem mv];omega) ?_ ?_ ig
    ·intro j hj k _;cases gU:uP i y j k
     ·rfl
     ·simp only [uP,aD,Nat.beq_eq] at gU;exact (((List.Nodup.mem_erase_iff G2).1 hj).1 gU.1).elim
    ·rintro ⟨l,z,hl,hz,hL⟩;refine pT ?_ hC;have qC:=List.mem_of_mem_erase hl;have aQ:l≠i:=((List.Nodup.mem_erase_iff G2).1 hl).1;rcases wa sG mv qC aQ.symm with h1 | h1
     ·exact r6 i l z o h1 hz ho hL
     ·have:=Sv G1 l qC aQ h1;obtain ⟨_,_,_,h4⟩:=ez this hz ho;cases hw:W i
      ·rfl
      ·exact (h4 ⟨hL,hw⟩).elim
   ·by_cases W3:i=y
    ·subst W3;have aR:=gx dt W2 ho r2 a w (fun _=>hC) hr2 Su (W4 (Ne.symm G1)) DQ;refine cz ?_ aR;rintro a' w' ⟨pT,ig⟩;refine mJ (C:=C) (uP i x) h2O h2S' hQ iO _ (r2.erase i) a' w' (by simp [bH]) Ll (zX r2 wh rZ) (DQ.sublist List.erase_sublist) ?_ ?_ ?_ ig
     ·have e1:r1.length=r2.length:=(List.perm_iff_count.2 (fun z=>by rw [G2.count,wh.count];simp [h12 z])).length_eq;rw [List.length_erase_of_mem Su];omega
     ·intro j hj k _;cases gU:uP i x j k
      ·rfl
      ·simp only [uP,aD,Nat.beq_eq] at gU;exact (((List.Nodup.mem_erase_iff wh).1 hj).1 gU.1).elim
     ·rintro ⟨l,z,hl,hz,hL⟩;refine pT ?_ hC;have qC:=List.mem_of_mem_erase hl;have aQ:l≠i:=((List.Nodup.mem_erase_iff wh).1 hl).1;rcases wa DQ Su qC aQ.symm with h1 | h1
      ·exact W2 i l z o h1 hz ho hL
      ·have:=W4 (Ne.symm G1) l qC aQ h1;obtain ⟨_,_,_,h4⟩:=ez this hz ho;cases hw:W i
       ·rfl
       ·exact (h4 ⟨hL,hw⟩).elim
    ·have hRo:gT o.op=false:=by
      simp only [chkT,List.all_eq_true,List.mem_range,Bool.or_eq_true,Nat.beq_eq] at hT;rcases hT i dY with (h1 | h1) | h1
      ·exact (De h1).elim
      ·exact (W3 h1).elim
      ·rw [ho] at h1;simp only [Bool.or_eq_true,Bool.not_eq_true'] at h1;rcases h1 with h1 | h1
       ·exact h1
       ·exact (ik x hx h1).elim
     obtain ⟨v,JF⟩:=ku dt ho hRo r1 a w hr1 mv (Sv W3) sG;have Wv:=gx dt r6 ho r1 a w (fun _=>hC) hr1 mv (Sv W3) sG;have zN:=gx dt W2 ho r2 a w (fun _=>hC) hr2 Su (W4 De) DQ;have mM:=gY JF (fun _=>hC) Wv;have N8:=gY JF (fun _=>hC) zN;refine gW JF (fun _=>hC) ?_
     exact ih _ (r1.erase i) (r2.erase i) _ w (by simp [bH]) Ll (zX r1 G2 gy) (zX r2 wh rZ) (sG.sublist List.erase_sublist) (DQ.sublist List.erase_sublist) (by rw [List.length_erase_of_mem mv];omega)
      ((List.Nodup.mem_erase_iff G2).2 ⟨Ne.symm De,hx⟩) ((List.Nodup.mem_erase_iff G2).2 ⟨Ne.symm W3,hy⟩) hC mM.2 N8.2
end
def selL (ops:List Oper):List Nat->List (Nat × Oper)
 | []=>[]
 | i :: r=>
  match ops[i]? with
  | some o=>(i,o) :: selL ops r
  | none=>selL ops r
theorem wi {ops:List Oper} {l:List Nat} {p:Nat × Oper} (h:p∈selL ops l):ops[p.1]? = some p.2:=by
 induction l with
 | nil=>cases h
 | cons i r ih=>
  unfold selL at h;split at h
  ·rename_i o ho;rcases bp h with h | h
   ·rw [h];exact ho
   ·exact ih h
  ·exact ih h
def plc:List Nat->Nat->Nat
 | [],_=>0
 | x :: r,i=>if Nat.beq x i then 0 else plc r i + 1
def G3 (ops:Array Oper) (l:List Nat):Bool:=
 (selL ops.toList l).map (·.1) == l && (List.range ops.size).all (fun i=>l.contains i) && l.all (fun i=>Nat.blt i ops.size) && Nat.ble l.length ops.size && pwB (plc l) l
where pwB (f:Nat->Nat):List Nat->Bool
 | []=>true
 | x :: r=>r.all (fun y=>Nat.blt (f x) (f y)) && pwB f r
theorem qY {f:Nat->Nat}:∀ {l:List Nat},G3.pwB f l=true->l.Pairwise (fun a b=>f a < f b)
 | [],_=>List.Pairwise.nil
 | x :: r,h=>by
  simp only [G3.pwB,aD,List.all_eq_true,Nat.blt_eq] at h;exact List.pairwise_cons.2 ⟨h.1,qY h.2⟩
def aao (ops:Array Oper) (W:Nat->Bool) (l l':List Nat) (x y:Nat):Bool:=
 !Nat.beq x y && Nat.blt x ops.size && Nat.blt y ops.size && G3 ops l && G3 ops l' && qV ops W (plc l) && uM ops W (plc l) (uP x y) && qV ops W (plc l') && uM ops W (plc l') (uP y x) && chkT ops x y
def swp (i j k:Nat):Nat:=
 match Nat.beq k i with
 | true=>j
 | false=>
  match Nat.beq k j with
  | true=>i
  | false=>k
theorem kY (i j k:Nat):swp i j (swp i j k)=k:=by
 have hb:∀ a b:Nat,Nat.beq a b=decide (a=b):=fun a b=>by
  by_cases h:a=b
  ·subst h;simp
  ·rw [decide_eq_false h];cases h1:Nat.beq a b
   ·rfl
   ·exact (h (sU h1)).elim
 unfold swp;simp only [hb];by_cases h1:k=i
 ·subst h1;simp only [decide_true];by_cases h2:j=k
  ·subst h2;simp
  ·simp [h2]
 ·by_cases h2:k=j
  ·subst h2;simp [h1]
  ·simp [h1,h2]
mutual
def renD (f:Nat->Nat):DV->DV
 | .v x=>.v x
 | .ud=>.ud
 | .agg l=>.agg (renL f l)
 | .tup l=>.tup (renL f l)
 | .sl e es tk=>.sl e es tk
 | .pt cs o=>.pt cs o
 | .loc i o=>.loc (f i) o
 | .el i o=>.el (f i) o
 | .ms i e o l c=>.ms (f i) e o l c
 | .fn g l r=>.fn g (renL f l) (renL f r)
 | .qG t x=>.qG t (renD f x)
def renL (f:Nat->Nat):List DV->List DV
 | []=>[]
 | d :: r=>renD f d :: renL f r
end
def renS (f:Nat->Nat):List (Nat × Sl)->List (Nat × Sl)
 | []=>[]
 | (k,⟨gs,s⟩) :: r=>(k,⟨gs,renD f s⟩) :: renS f r
def renO (f:Nat->Nat):List (List DV)->List (List DV)
 | []=>[]
 | cs :: r=>renL f cs :: renO f r
def swL {α:Type} (i j:Nat) (l:List α):List α:=
 match l[i]?,l[j]? with
 | some a,some b=>(l.set i b).set j a
 | _,_=>l
def fI (i j:Nat) (S:St):St:=⟨renS (swp i j) S.sl,swL i j (renO (swp i j) S.bx),S.tk⟩
theorem qZ (f:Nat->Nat):∀ (l:List (List DV)) (k:Nat),(renO f l)[k]? = (l[k]?).map (renL f)
 | [],k=>by simp [renO]
 | c :: r,0=>by simp [renO]
 | c :: r,k + 1=>by simp only [renO,List.getElem?_cons_succ];exact qZ f r k
theorem dJ (f:Nat->Nat):∀ (l:List (List DV)),(renO f l).length=l.length
 | []=>rfl
 | c :: r=>by simp [renO,dJ f r]
theorem DR (f:Nat->Nat):∀ (l:List (Nat × Sl)) (k:Nat),get (renS f l) k=(get l k).map fun x=>⟨x.gs,renD f x.s⟩
 | [],k=>rfl
 | (i,⟨gs,s⟩) :: r,k=>by
  simp only [renS,dM];split
  ·rfl
  ·exact DR f r k
theorem cX {α:Type} (i j:Nat) (l:List α):(swL i j l).length=l.length:=by
 unfold swL;split<;>simp
theorem eY {α:Type} {i j:Nat} {l:List α} (hi:i < l.length) (hj:j < l.length) (k:Nat):(swL i j l)[k]? = l[swp i j k]?:=by
 have hb:∀ a b:Nat,Nat.beq a b=true↔a=b:=fun a b=>by simp
 unfold swL;rw [gE hi,gE hj];simp only;unfold swp;by_cases hkj:k=j
 ·subst hkj;rw [du (sU hj)];cases h1:Nat.beq k i
  ·simp only [Nat.beq_refl];exact (gE hi).symm
  ·have:=(hb k i).1 h1;subst this;exact (gE hi).symm
 ·rw [List.getElem?_set_ne (Ne.symm hkj)];by_cases kj:k=i
  ·subst kj;rw [du hi];simp only [Nat.beq_refl];exact (gE hj).symm
  ·rw [List.getElem?_set_ne (Ne.symm kj)]
   have h1:Nat.beq k i=false:=by
    cases h:Nat.beq k i
    ·rfl
    ·exact (kj ((hb k i).1 h)).elim
   have h2:Nat.beq k j=false:=by
    cases h:Nat.beq k j
    ·rfl
    ·exact (hkj ((hb k j).1 h)).elim
   simp only [h1,h2]
theorem Sw {α:Type} {i j:Nat} {l:List α} (hi:i < l.length) (hj:j < l.length):swL i j (swL i j l)=l:=by
 apply List.ext_getElem?;intro k;rw [eY (by rw [cX];exact hi) (by rw [cX];exact hj),eY hi hj,kY]
section
variable {E:En} {i j:Nat}
mutual
theorem Rv.DS (hi:i < E.β.length) (hj:j < E.β.length):∀ {d:DV} {v:Value},Rv E (renD (swp i j) d) v->Rv ⟨E.c,swL i j E.β,E.tk,E.τ⟩ d v
 | .v x,v,h=>by simp only [renD] at h;unfold Rv at h ⊢;exact h
 | .ud,v,h=>by simp only [renD] at h;unfold Rv at h ⊢;exact h
 | .sl e es tk,v,h=>by simp only [renD] at h;unfold Rv at h ⊢;exact h
 | .pt cs o,v,h=>by simp only [renD] at h;unfold Rv at h ⊢;exact h
 | .loc k o,v,h=>by
  simp only [renD] at h;unfold Rv at h ⊢;obtain ⟨b,h1,h2⟩:=h;exact ⟨b,by show (swL i j E.β)[k]? = _;rw [eY hi hj];exact h1,h2⟩
 | .el k o,v,h=>by
  simp only [renD] at h;unfold Rv at h ⊢;obtain ⟨b,h1,h2⟩:=h;exact ⟨b,by show (swL i j E.β)[k]? = _;rw [eY hi hj];exact h1,h2⟩
 | .ms k e o l c,v,h=>by
  simp only [renD] at h;unfold Rv at h ⊢;obtain ⟨b,ad,h1,h2⟩:=h;exact ⟨b,ad,by show (swL i j E.β)[k]? = _;rw [eY hi hj];exact h1,h2⟩
 | .agg l,v,h=>by
  simp only [renD] at h;unfold Rv at h ⊢;obtain ⟨vs,h1,h2,h3⟩:=h;exact ⟨vs,h1,RvL.DS hi hj h2,h3⟩
 | .tup l,v,h=>by
  simp only [renD] at h;unfold Rv at h ⊢;obtain ⟨vs,h1,h2⟩:=h;exact ⟨vs,h1,RvL.DS hi hj h2⟩
 | .fn g l r,v,h=>by
  simp only [renD] at h;unfold Rv at h ⊢;obtain ⟨l',r',h1,h2,h3⟩:=h;exact ⟨l',r',h1,RvL.DS hi hj h2,RvL.DS hi hj h3⟩
 | .qG t x,v,h=>by
  simp only [renD] at h;unfold Rv at h ⊢;obtain ⟨z,h1,h2⟩:=h;exact ⟨z,h1,Rv.DS hi hj h2⟩
theorem RvL.DS (hi:i < E.β.length) (hj:j < E.β.length):∀ {l:List DV} {vs:List Value},RvL E (renL (swp i j) l) vs->RvL ⟨E.c,swL i j E.β,E.tk,E.τ⟩ l vs
 | [],vs,h=>by simp only [renL,RvL] at h ⊢;exact h
 | d :: r,vs,h=>by
  simp only [renL,RvL] at h ⊢;obtain ⟨v,s,h1,h2,h3⟩:=h;exact ⟨v,s,h1,Rv.DS hi hj h2,RvL.DS hi hj h3⟩
end
end
theorem JG {α:Type} {i j:Nat} {l:List α} (hi:i < l.length) (hj:j < l.length) {x:α}:x∈swL i j l↔x∈l:=by
 have h1:∀ (l:List α),i < l.length->j < l.length->x∈swL i j l->x∈l:=by
  intro l hi hj h;obtain ⟨k,hk⟩:=List.mem_iff_getElem?.1 h;rw [eY hi hj] at hk;exact mG hk
 refine ⟨h1 l hi hj,fun h=>?_⟩;have:=h1 (swL i j l) (by rw [cX];exact hi) (by rw [cX];exact hj);rw [Sw hi hj] at this;exact this h
theorem Lm {i j:Nat} {l:List Nat} (hi:i < l.length) (hj:j < l.length) (h:l.Nodup):(swL i j l).Nodup:=by
 have aq:∀ k,k < l.length->swp i j k < l.length:=by
  intro k hk;unfold swp;split
  ·exact hj
  ·split
   ·exact hi
   ·exact hk
 unfold List.Nodup;rw [List.pairwise_iff_getElem];intro a b ha hb pU he;rw [cX] at ha hb
 have hg:∀ k (hk:k < l.length),(swL i j l)[k]'(by rw [cX];exact hk)=l[swp i j k]'(aq k hk):=by
  intro k hk;have:=eY hi hj k;rw [gE (by rw [cX];exact hk),gE (aq k hk)] at this;exact Option.some.inj this
 rw [hg a ha,hg b hb] at he
 have h1:l[swp i j a]? = l[swp i j b]?:=by
  rw [gE (aq a ha),gE (aq b hb),he]
 have:=(List.getElem?_inj (aq a ha) h).1 h1;have:=congrArg (swp i j) this;rw [kY,kY] at this;omega
theorem lS {P:Program} {ops:Array Oper} {W:Nat->Bool} {C:World->Prop} {Q Q':Act->World->Prop} (hQ:∀ a w,Q a w->Q' a w):∀ {l:List Nat} {a:Act} {w:World},runT P ops W C Q l a w->runT P ops W C Q' l a w
 | [],a,w,h=>hQ _ _ h
 | i :: r,a,w,h=>by
  simp only [runT] at h ⊢;split at h
  ·exact h.elim
  ·split at h
   ·rename_i hE;rw [ai hE];exact cz (fun a w hk=>⟨hk.1,lS hQ hk.2⟩) h
   ·rename_i hE;rw [ah hE];obtain ⟨v,h1,h2,h3⟩:=h;exact ⟨v,h1,h2,lS hQ h3⟩
section
variable {X:Ctx} {E:En} {S:St} {a:Act} {w:World} {i j:Nat}
theorem DT (hX:X.bt=[]) (h:Rel X E (fI i j S) a w) (Nk:X.n0<=i) (C9:X.n0<=j) (hi:i < S.bx.length) (hj:j < S.bx.length):Rel X ⟨E.c,swL i j E.β,E.tk,E.τ⟩ S a w:=by
 have hlen:E.β.length=S.bx.length:=by
  rw [h.env.len];simp only [fI,cX,dJ]
 have dY:i < E.β.length:=by rw [hlen];exact hi
 have gU:j < E.β.length:=by rw [hlen];exact hj
 have jU:∀ k,(fI i j S).bx[k]? = (S.bx[swp i j k]?).map (renL (swp i j)):=fun k=>by
  simp only [fI];rw [eY (by rw [dJ];exact hi) (by rw [dJ];exact hj),qZ]
 exact {
  env:={
   len:=by rw [cX];exact hlen
   tl:=h.env.tl
   eA:=fun k cs hk=>by
    obtain ⟨b,ty,arr,hb,hw,hc⟩:=h.env.eA (swp i j k) (renL (swp i j) cs) (by rw [jU,kY,hk];rfl);exact ⟨b,ty,arr,by rw [eY dY gU];exact hb,hw,RvL.DS dY gU hc.1,hc.2⟩
   inj:=Lm dY gU h.env.inj
   sub:=h.env.sub
   pc:=fun x v hx hm=>h.env.pc x v hx ((JG dY gU).1 hm)
   bQ:=fun k q y hq hy=>by
    rcases h.env.bQ k q y hq hy with h1 | ⟨g,cap,cur,rfl,h1,h2,h3,h4,h5,h6⟩
    ·exact .inl h1
    ·exact .inr ⟨g,cap,cur,rfl,h1,h2,h3,h4,fun hm=>h5 ((JG dY gU).1 hm),h6⟩
   iZ:=h.env.iZ }
  tk:=h.tk
  sz:=h.sz
  tm:=fun k x hx=>by
   have:=h.tm k ⟨x.gs,renD (swp i j) x.s⟩ (by simp only [fI];rw [DR,hx];rfl);refine ⟨fun hh=>?_,this.2⟩;obtain ⟨v,h1,h2⟩:=this.1 hh;exact ⟨v,h1,Rv.DS dY gU h2⟩
  df:=h.df
  nw:={
   c:=h.nw.c
   cn:=h.nw.cn
   β:=by
    obtain ⟨r,hr,hl⟩:=h.nw.β;have hE0:X.E0.β.length=X.n0:=X.jO;refine ⟨(swL i j E.β).drop X.n0,?_,fun b hb=>?_⟩
    ·show swL i j E.β=_
     have:(swL i j E.β).take X.n0=X.E0.β:=by
      apply List.ext_getElem?;intro k;rw [bG];split
      ·rename_i hk;rw [eY dY gU]
       have:swp i j k=k:=by
        unfold swp;have hb:∀ a b:Nat,Nat.beq a b=true↔a=b:=fun a b=>by simp
        cases h1:Nat.beq k i
        ·cases h2:Nat.beq k j
         ·rfl
         ·have:=(hb k j).1 h2;omega
        ·have:=(hb k i).1 h1;omega
       rw [this,hr,bF (by omega)]
      ·rename_i hk;exact (dA (by omega)).symm
     rw [<- this,List.take_append_drop]
    ·have hnd:=h.env.inj;obtain ⟨k,hk⟩:=List.mem_iff_getElem?.1 hb;rw [List.getElem?_drop,eY dY gU] at hk
     have aS:X.n0<=swp i j (X.n0 + k):=by
      unfold swp;split
      ·exact C9
      ·split
       ·exact Nk
       ·omega
     rw [hr,List.getElem?_append_right (by omega)] at hk;exact hl b (mG hk)
   tk:=h.nw.tk
   tn:=h.nw.tn
   l0:=h.nw.l0 }
  fr:=h.fr
  sh:=h.sh
  bt:=.nil hX }
theorem JH (hX:X.bt=[]) (h:Rel X E (fI i j S) a w) (Nk:X.n0<=i) (C9:X.n0<=j) (hi:i < S.bx.length) (hj:j < S.bx.length):∃ E',Rel X E' S a w:=⟨_,DT hX h Nk C9 hi hj⟩
end
def JI (sl:List (Nat × Sl)):List (Nat × Sl)->Prop
 | []=>True
 | p :: r=>get sl p.1=some p.2/\JI sl r
theorem wj {sl:List (Nat × Sl)}:∀ {l:List (Nat × Sl)},JI sl l->∀ i x,get l i=some x->get sl i=some x
 | [],_,i,x,hx=>by cases hx
 | (k,y) :: r,h,i,x,hx=>by
  simp only [dM] at hx;split at hx
  ·rename_i kj;subst kj;simp only [oI] at hx;subst hx;exact h.1
  ·exact wj h.2 i x hx
def uniqS:List Nat->List (Nat × Sl)->List (Nat × Sl)
 | _,[]=>[]
 | m,p :: r=>
  match muB m p.1 with
  | true=>uniqS m r
  | false=>p :: uniqS (p.1 :: m) r
theorem sH:∀ (l:List (Nat × Sl)) (m:List Nat) (i:Nat),muB m i=false->get (uniqS m l) i=get l i
 | [],_,_,_=>rfl
 | (k,x) :: r,m,i,h=>by
  simp only [uniqS]
  cases hm:muB m k with
  | true=>
   simp only;rw [sH r m i h,dM,ah];rintro rfl;rw [hm] at h;cases h
  | false=>
   simp only [dM];by_cases hk:k=i
   ·rw [ai hk,ai hk]
   ·rw [ah hk,ah hk]
    exact sH r (k :: m) i (by simp only [muB,h,Bool.or_false];cases hb:Nat.beq k i with
     | true=>exact (hk (Nat.eq_of_beq_eq_true hb)).elim
     | false=>rfl)
def fm (s S:St):Prop:=s.bx=S.bx/\s.tk=S.tk/\JI s.sl (uniqS [] S.sl)
theorem wm {X:Ctx} {E:En} {s S:St} {a:Act} {w:World} (h:Rel X E s a w) (hs:fm s S):Rel X E S a w where
 env:=by rw [<- hs.1];exact h.env
 tk:=by rw [<- hs.2.1];exact h.tk
 sz:=h.sz
 tm:=fun i x hx=>h.tm i x (wj hs.2.2 i x (by rw [sH _ _ _ rfl];exact hx))
 df:=h.df
 nw:=h.nw
 fr:=h.fr
 sh:=h.sh
 bt:=h.bt
theorem oN {X:Ctx} {id:Nat} {ops:Array Oper} {k:List It} {st:St} (W:Nat->Bool) (x y:Nat) (l l':List Nat) (i j:Nat) (hm:X.P.follows .mixedOrders=true) (hc:aao ops W l l' x y=true) (S:St)
  (h:goD X ⟨ops,W,[.vJ fun s=>s=S],st,none⟩ 3000 true (selL ops.toList l) st.sl st) (h':goD X ⟨ops,W,[.vJ fun s=>fm s (fI i j S)],st,none⟩ 3000 true (selL ops.toList l') st.sl st)
  (mr:(Nat.ble X.n0 i && Nat.ble X.n0 j && Nat.blt i S.bx.length && Nat.blt j S.bx.length)=true) (hk:go X 4000 k S) (hX:X.bt=[]:=by exact rfl):kQ X id ops k st:=by
 intro E a w hr;have ig:=km hr;simp only [aD,Nat.ble_eq,Nat.blt_eq] at mr;simp only [aao,G3,aD,List.all_eq_true,Nat.blt_eq,Nat.ble_eq,beq_iff_eq,List.mem_range,Bool.not_eq_true'] at hc;obtain ⟨⟨⟨⟨⟨⟨⟨⟨⟨G1,pw⟩,ZQ⟩,⟨⟨⟨h1a,UC⟩,h1c⟩,hlen⟩,h1d⟩,⟨⟨⟨h2a,h2b⟩,h2c⟩,_⟩,h2d⟩,Zg⟩,h1S⟩,h2O⟩,h2S⟩,hT⟩:=hc
 have hQ:∀ S',(S'=S∨S'=fI i j S)->∀ a w,(∃ st E,Rel X E st a w/\(st=S' ∨ fm st S'))->kq X k .normal a w:=by
  rintro S' hS a w ⟨qD,E1,UD,tS⟩
  have bM:Rel X E1 S' a w:=by
   rcases tS with rfl | tS
   ·exact UD
   ·exact wm UD tS
  rcases hS with rfl | rfl
  ·exact go_sound 4000 _ _ hk E1 a w bM
  ·obtain ⟨E2,DJ⟩:=JH hX bM mr.1.1.1 mr.1.1.2 mr.1.2 mr.2;exact go_sound 4000 _ _ hk E2 a w DJ
 have key:∀ (S':St),(S'=S∨S'=fI i j S)->∀ (l:List Nat),(selL ops.toList l).map (·.1)=l->∀ J:St->Prop,(∀ s,J s->s=S' ∨ fm s S')->(goD X ⟨ops,W,[.vJ J],st,none⟩ 3000 true (selL ops.toList l) st.sl st) ->
   runT X.P ops W (CC E st.bx w.drew) (fun a w=>kq X k .normal a w) l a w.drew:=by
  intro S' hS l hl J hJ h;have hs:=mN ig (ops:=ops) (W:=W) (k:=[.vJ J]);have:=dK (D:=⟨⟨ops,W,[.vJ J],st,none⟩,E,w.drew⟩) ig.env.em 3000 true _ _ _ h (fun p hp=>by simpa using wi hp) E a w.drew hs;rw [hl] at this;exact lS (fun a w ⟨st,E1,h1,h2⟩=>hQ S' hS a w ⟨st,E1,h1,hJ st h2⟩) this
 have e1:=key S (.inl rfl) l h1a _ (fun s hs=>.inl hs) h;have e2:=key (fI i j S) (.inr rfl) l' h2a _ (fun s hs=>.inr hs) h';refine wp_region_any hm ?_
 have G4:∀ (l:List Nat),(∀ i,i < ops.size->l.contains i=true)->(∀ i∈l,i < ops.size)->∀ i,i∈l↔i < ops.size/\(Array.replicate ops.size false).getD i true=false:=by
  intro l ha hb i;constructor
  ·intro hi;exact ⟨hb i hi,by simp [hb i hi]⟩
  ·intro hi;simpa using ha i hi.1
 have hxy':x≠y:=by
  intro e;subst e;simp at G1
 refine G0 (C:=CC E st.bx w.drew) (π:=plc l) (π':=plc l') (Q:=kq X k .normal) hxy' Zg h1S h2O h2S hT (fun a w h=>h) ops.size (Array.replicate ops.size false) l l' a _ (by simp) ?_ (G4 l UC h1c) (G4 l' h2b h2c) (qY h1d) (qY h2d) hlen
  (by simpa using UC x pw) (by simpa using UC y ZQ) ⟨fun _ _ _ _ _ _=>rfl,ig.env.sub⟩ e1 e2
 intro i o ho hl;have:i < ops.size:=(Array.getElem?_eq_some_iff.1 ho).1;simp [this] at hl
end Dv
end Go.Proofs.YtgjagnmeonoehaaGreat
namespace Go.Proofs.YtgjagnmeonoehaaGreat
namespace Dv
open Go Go.RowKit
section
variable {X:Ctx} {st:St} {k:List It} {E:En} {a:Act} {w:World}
noncomputable def En.GC (E:En) (w:World):En:=⟨sw E 0 w,[],[],[]⟩
theorem Sx {bx:List (List DV)} (h:Env E bx w):Env (E.GC w) [] w where
 len:=rfl
 tl:=rfl
 eA:=by simp
 inj:=List.nodup_nil
 sub:=fun x u hx=>by
  rcases eV hx with ⟨_,h1⟩ | h1
  ·exact h1
  ·exact h.sub x u h1
 pc:=by simp [En.GC]
 bQ:=by simp [En.GC]
 iZ:=by simp [En.GC]
theorem Sy {bx:List (List DV)} (h:Env E bx w):Nr E (E.GC w) bx 0 where
 c:=fun x u hx=>mE h hx
 fz:=fun i cs hi cQ=>by
  obtain ⟨b,ty,arr,hb,hw,hc⟩:=h.eA i cs cQ;refine ⟨b,arr,hb,hc,fun j u hj=>?_⟩;show sw E 0 w ⟨b,j,none⟩=some u;unfold sw;rw [ai ⟨i,hi,hb⟩,cK hw];simpa using hj
theorem jW {P:Program} {s:Bool} {bx:List (List DV)} (h:Env E bx w) {f:FuncId} {args bh:List DV} {vs:List Value} {y:DV} (hc:WO s P f bh [] [] fun d _ _=>d=y) (ha:CcL bx 0 0 0 bh args) (hv:RvL E args vs) :
  Calls P f vs.toArray w fun e w'=>∃ v E2,e = .returned v/\Rv E2 y v/\qH (fun _=>False) w w' /\ (s=true->∃ q,w'=w.drewN q):=by
 have Ws:RvL (E.GC w) bh vs:=CcL.sound (Sy h) (JB.zero _ _) ha hv;refine (hc (E.GC w) w vs (Sx h) rfl Ws).mono ?_;rintro e w' ⟨v,rfl,hm,hs,d,os,E2,he,hβ,je,hn,Sn,rfl⟩;refine ⟨v,E2,rfl,Sn,⟨hm.os,hm.tape,hm.output,hm.size,fun i hi _=>hm.block i hi ?_⟩,hs⟩;rintro (h1 | ⟨y,h1,_⟩)
 ·simp [En.GC] at h1
 ·simp [En.GC] at h1
theorem BL {f:FuncId} {args bh:List DV} {d:Nat} {y:Value} (j2:Enters X.P f) (hc:EvP X.P f bh (.v y)) (ha:CcL st.bx 0 0 0 bh args) (hd:eB X.nt st.sl (some d)=true)
  (hk:go X 4000 k ⟨(d,⟨[],.v y⟩) :: st.sl,st.bx,st.tk⟩) (aR:X.still=false:=by exact rfl):dH X f args (some d) k st:=by
 refine ⟨j2,aR,fun E a w vs h hv=>(jW h.env hc ha hv).mono ?_⟩;rintro e w' ⟨v,E2,rfl,hr,hm,_⟩;have hh:∀ i,i < w.heap.size->w'.heap[i]? = w.heap[i]?:=fun i hi=>hm.block i hi (fun h=>h);have bM:Rel X E st a w':=dw h (Ext.refl E) (h.env.kM hh) h.tk h.nw (h.fr.cu hm.os hm.tape hm.output hm.size fun i hi=>.inr (hh i hi)) (mB aR) (h.bt.kM fun b hb=>hh b (h.env.aZ hb));unfold Rv at hr;exact go_sound 4000 _ _ hk E _ w' (aY bM hd (.v y) v (by unfold Rv;exact hr))
end
end Dv
end Go.Proofs.YtgjagnmeonoehaaGreat
namespace Go.Proofs.YtgjagnmeonoehaaGreat
namespace Dv
open Go Go.RowKit
def N9 (bx:List (List DV)) (N m:Nat) (sl:List (Nat × Sl)):List (Nat × Sl)->Prop
 | []=>True
 | p :: r=>(∃ x,get sl p.1=some ⟨p.2.gs,x⟩/\Cc bx N N m p.2.s x)/\N9 bx N m sl r
theorem zY {bx:List (List DV)} {N m:Nat} {sl:List (Nat × Sl)}:∀ {l:List (Nat × Sl)},N9 bx N m sl l->∀ i x',get l i=some x' -> ∃ x,get sl i=some ⟨x'.gs,x⟩/\Cc bx N N m x'.s x
 | [],_,i,x',hx=>by cases hx
 | (k,y) :: r,h,i,x',hx=>by
  simp only [dM] at hx;split at hx
  ·rename_i kj;subst kj;simp only [oI] at hx;subst hx;exact h.1
  ·exact zY h.2 i x' hx
section
variable {X:Ctx} {E:En} {st st':St} {a:Act} {w:World} {k:List It}
theorem JJ (h:Rel X E st a w) (N:Nat) (hN:X.n0<=N) (hNl:N<=st.bx.length) (jU:my st.bx N N st.tk.length st'.bx (st.bx.take N)) (je:st'.tk=st.tk) (nz:N9 st.bx N st.tk.length st.sl st'.sl):∃ E',Rel X E' st' a w:=by
 obtain ⟨r,Sh,hβl⟩:=h.nw.β;have hlen:E.β.length=st.bx.length:=h.env.len
 have eN:∀ (i:Nat) b,X.n0<=i->E.β[i]? = some b->b∈r:=fun i b hi hb=>by
  rw [Sh,List.getElem?_append_right (by rw [X.jO];exact hi)] at hb;exact mG hb
 let E':En:=⟨sw E N w,E.β.take N,E.tk,E.τ⟩
 have NU:Nr E E' st.bx N:={
  c:=fun x u hx=>mE h.env hx
  fz:=fun i cs hi cQ=>by
   obtain ⟨b,ty,arr,hb,hw,hc⟩:=h.env.eA i cs cQ;refine ⟨b,arr,hb,hc,fun j u hj=>?_⟩;show sw E N w ⟨b,j,none⟩=some u;unfold sw;rw [ai ⟨i,hi,hb⟩,cK hw]
   simpa using hj }
 have zh:JB E E' N st.tk.length:={
  β:=fun i b hi hb=>by show (E.β.take N)[i]? = _;rw [bG,ai hi];exact hb
  tk:=fun k hk=>⟨rfl,rfl⟩ }
 have WL:∀ (i:Nat) b,N<=i->E.β[i]? = some b->b ∉ E.β.take N:=fun i b hi hb hm=>by
  obtain ⟨j,hj⟩:=List.getElem?_of_mem hm;rw [bG] at hj;split at hj
  ·rename_i hjN;have:=(List.getElem?_inj (gS hb).1 h.env.inj).1 (hb.trans hj.symm);omega
  ·cases hj
 obtain ⟨kO,Z5⟩:=jU.get;refine ⟨E',?_⟩
 exact {
  env:={
   len:=by
    show (E.β.take N).length=st'.bx.length;rw [kO,zLenT,zLenT];omega
   tl:=h.env.tl
   eA:=fun i cs' hi=>by
    obtain ⟨cs,cQ,u7⟩:=Z5 i cs' hi;rw [bG] at cQ;split at cQ
    ·rename_i aq;obtain ⟨b,ty,arr,hb,hw,hc⟩:=h.env.eA i cs cQ;exact ⟨b,ty,arr,zh.β i b aq hb,hw,CcL.sound NU zh u7 hc.1,hc.2⟩
    ·cases cQ
   inj:=h.env.inj.sublist (List.take_sublist _ _)
   sub:=fun x u hx=>by
    rcases eV hx with ⟨_,h1⟩ | h1
    ·exact h1
    ·exact h.env.sub x u h1
   pc:=fun x u hx hm=>by
    rcases eV hx with ⟨⟨i,hi,hb⟩,_⟩ | h1
    ·exact WL i _ hi hb hm
    ·exact h.env.pc x u h1 (List.mem_of_mem_take hm)
   bQ:=fun k q y hq hy=>by
    rcases h.env.bQ k q y hq hy with h1 | ⟨g,cap,cur,rfl,h1,h2,h3,h4,h5,h6⟩
    ·exact .inl h1
    ·refine .inr ⟨g,cap,cur,rfl,h1,⟨h2.1,h2.2.mono fun _ _ hx=>mE h.env hx⟩,h3,h4,fun hm=>h5 (List.mem_of_mem_take hm),fun x u hx hg=>?_⟩;rcases eV hx with ⟨⟨i,hi,hb⟩,_⟩ | h7
     ·rw [hg] at hb;exact (h5 (mG hb)).elim
     ·exact h6 x u h7 hg
   iZ:=h.env.iZ }
  tk:=by rw [je];exact h.tk
  sz:=h.sz
  tm:=fun i x' u5=>by
   obtain ⟨x,hx,u7⟩:=zY nz i x' u5;have:=h.tm i _ hx;refine ⟨fun hh=>?_,this.2⟩;obtain ⟨v,h1,h2⟩:=this.1 hh;exact ⟨v,h1,Cc.sound NU zh u7 h2⟩
  df:=h.df
  nw:={
   c:=fun x u hx=>mE h.env (h.nw.c x u hx)
   cn:=fun x u hx=>by
    rcases eV hx with ⟨⟨i,hi,hb⟩,_⟩ | h1
    ·exact .inr (.inl (hβl _ (eN i _ (by omega) hb)))
    ·exact h.nw.cn x u h1
   β:=by
    refine ⟨r.take (N - X.n0),?_,fun b hb=>hβl b (List.mem_of_mem_take hb)⟩;show E.β.take N=_;rw [Sh,List.take_append,List.take_of_length_le (by rw [X.jO];omega),X.jO]
   tk:=h.nw.tk
   tn:=h.nw.tn
   l0:=h.nw.l0 }
  fr:=h.fr
  sh:=h.sh
  bt:=h.bt.sub _ }
theorem Oa {c:Code} (N:Nat) (qD:St) (hN:Nat.ble X.n0 N=true) (hNl:Nat.ble N st.bx.length=true) (je:qD.tk=st.tk) (jU:my st.bx N N st.tk.length qD.bx (st.bx.take N)) (nz:N9 st.bx N st.tk.length st.sl qD.sl)
  (hk:pu X c k qD):pu X c k st:=by
 intro E a w h;obtain ⟨E',h'⟩:=JJ h N (nL hN) (nL hNl) jU je nz;exact hk E' a w h'
theorem dT {n0 m0:Nat} {st st':St} (n:Nat) (q:TkE) (hq:q.new=true) (hn:Nat.ble n st.bx.length=true) (h3:st.tk ++ [q]=st'.tk) (h2:WeLL n st.tk.length st'.tk (st.bx.take n) st'.bx) (h4:Nat.ble n0 n=true) (h5:Nat.ble m0 st.tk.length=true)
  (h:qS n st.tk.length st'.tk st.sl st'.sl):sx n0 m0 st st':=by
 have hl:(st.bx.take n).length=n:=by
  have:=nL hn;rw [zLenT];omega
 exact ⟨st.tk,[],[q],st.bx.take n,st.bx.drop n,by simpa using h5,by rw [hl];simpa using h4,by simp,h3.symm,by simpa using hq,(List.take_append_drop n st.bx).symm,by rw [hl];exact h2,by rw [hl];exact h⟩
end
end Dv
end Go.Proofs.YtgjagnmeonoehaaGreat
namespace Go.Proofs.YtgjagnmeonoehaaGreat
namespace Dv
open Go Go.RowKit
section
variable {X:Ctx} {st:St} {k:List It} {E:En} {a:Act} {w:World}
theorem mO {f:FuncId} {rest Ob cs cs':List DV} {i d:Nat} (j2:Enters X.P f) (hd:eB X.nt st.sl (some d)=true) (jU:st.bx[i]? = some cs) (cQ:CcL [] 0 0 0 cs' cs) (ha:CcL [] 0 0 0 Ob rest)
  {Φ:DV->List (List DV)->List TkE->Prop} (hc:Ev X.P f (.loc 0 0 :: Ob) [cs'] [] Φ) (fY:∀ r os tk,Φ r os tk->clB 0 0 r=true/\∀ r7∈os,clB.clL 0 0 r7=true)
  (hk:∀ r r7,Φ r [r7] []->go X 4000 k ⟨(d,⟨[],r⟩) :: st.sl,st.bx.set i r7,st.tk⟩) (aR:X.still=false:=by exact rfl) (hX:X.bt=[]:=by exact rfl):dH X f (.loc i 0 :: rest) (some d) k st:=by
 refine ⟨j2,aR,fun E a w vs h hv=>?_⟩;simp only [RvL] at hv;obtain ⟨v1,vr,rfl,h1,hvr⟩:=hv;unfold Rv at h1;obtain ⟨b,hb,rfl⟩:=h1;obtain ⟨b',ty,arr,eC,hw,u7⟩:=h.env.eA i cs jU;rw [hb] at eC;simp only [oI] at eC;subst eC;have zm:b∈E.β:=mG hb;have W5:=h.env.aZ zm
 let E1:En:=⟨E.c,[b],[],[]⟩
 have hx1:Ext E.cl E1:=⟨fun _ _ h=>h,fun j b hj=>by simp [En.cl] at hj,fun k q hk=>by simp [En.cl] at hk⟩;have hfz:Nr E E.cl [] 0:=⟨fun _ _ h=>h,fun i cs _ hi=>by simp at hi⟩
 have Zh:Env E1 [cs'] w:={
  len:=rfl
  tl:=rfl
  eA:=fun j Sz hj=>by
   cases j with
   | succ j=>simp at hj
   | zero=>
    simp only [List.getElem?_cons_zero,oI] at hj;subst hj;refine ⟨b,ty,arr,rfl,hw,RvL.mono hx1 (CcL.sound hfz (JB.zero _ _) cQ u7.1),u7.2⟩
  inj:=by simp [E1]
  sub:=h.env.sub
  pc:=fun x v hx hm=>by
   simp only [E1,List.mem_singleton] at hm;exact h.env.pc x v hx (by rw [hm];exact zm)
  bQ:=by simp [E1]
  iZ:=by simp [E1] }
 have qx:RvL E1 (.loc 0 0 :: Ob) (.pointer (some ⟨b,0,none⟩) :: vr):=rvL_cons (by unfold Rv;exact ⟨b,rfl,rfl⟩) (RvL.mono hx1 (CcL.sound hfz (JB.zero _ _) ha hvr));refine (hc E1 w _ Zh rfl qx).mono ?_;rintro e w' ⟨v,rfl,hm,_,r,os,E2,he,hβ,je,hn,Sn,hΦ⟩;have ht0:E2.tk=[]:=List.eq_nil_of_length_eq_zero je;rw [ht0] at hΦ
 obtain ⟨r7,rfl⟩:∃ r7,os=[r7]:=by
  have:=he.len;rw [hβ] at this
  match os,this with
  | [x],_=>exact ⟨x,rfl⟩
 obtain ⟨hclr,hclc⟩:=fY _ _ _ hΦ
 have hh:∀ j,j < w.heap.size->j≠b->w'.heap[j]? = w.heap[j]?:=fun j hj aQ=>hm.block j hj (by
  rintro (h1 | ⟨y,h1,_⟩)
  ·simp only [E1,List.mem_singleton] at h1;exact aQ h1
  ·simp [E1] at h1)
 have eN:∀ x v,E2.c x=some v->E.c x=some v∨w.heap.size<=x.block:=fun x v hx=>by
  rcases hn.cn x v hx with h1 | h1 | ⟨y,h1,_⟩
  ·exact .inl h1
  ·exact .inr h1
  ·simp [E1] at h1
 let E':En:=⟨E2.c,E.β,E.tk,E.τ⟩
 have hx:Ext E E':=⟨hn.c,fun _ _ h=>h,fun _ q h=>⟨q,h,.inl ⟨rfl,rfl⟩⟩⟩;have RS:Ext (E2.cut 0 0) E':=⟨fun _ _ h=>h,fun j b hj=>by simp [En.cut] at hj,fun k q hk=>by simp [En.cut] at hk⟩
 have bM:Rel X E' ⟨st.sl,st.bx.set i r7,st.tk⟩ a w':=by
  refine dw h hx ?_ h.tk ?_ (h.fr.cu hm.os hm.tape hm.output hm.size fun j hj=>?_) (mB aR) (.nil hX)
  ·exact {
    len:=by rw [List.length_set];exact h.env.len
    tl:=h.env.tl
    eA:=fun j Sz hj=>by
     by_cases RO:j=i
     ·subst RO;rw [du (gS jU).1] at hj;simp only [oI] at hj;subst hj;obtain ⟨b2,ty2,W6,eO,hw2,pf⟩:=he.eA 0 r7 rfl;rw [hβ] at eO;simp only [E1,List.getElem?_cons_zero,oI] at eO;subst eO;exact ⟨b,ty2,W6,hb,hw2,RvL.mono RS (RvL.cut pf.1 (hclc r7 (by simp))),pf.2⟩
     ·rw [List.getElem?_set_ne (Ne.symm RO)] at hj;obtain ⟨bj,tyj,W7,UE,hwj,NN⟩:=h.env.eA j Sz hj
      have aQ:bj≠b:=by
       rintro rfl;exact RO ((List.getElem?_inj (gS UE).1 h.env.inj).1 (UE.trans hb.symm))
      exact ⟨bj,tyj,W7,UE,by rw [hh bj (cC hwj) aQ];exact hwj,NN.mono hx⟩
    inj:=h.env.inj
    sub:=he.sub
    pc:=fun x v hc nE=>by
     rcases eN x v hc with h1 | h1
     ·exact h.env.pc x v h1 nE
     ·have:=h.env.aZ nE;omega
    bQ:=fun k q y hq hy=>by
     rcases h.env.bQ k q y hq hy with h1 | ⟨g',cap,cur,rfl,h1,h2,h3,h4,h5,h6⟩
     ·exact .inl h1
     ·refine .inr ⟨g',cap,cur,rfl,by rw [hh g' (cC h1) (fun e=>h5 (by rw [e];exact zm))];exact h1,⟨h2.1,h2.2.mono hn.c⟩,h3,h4,h5,fun x v hc hg=>?_⟩;rcases eN x v hc with h7 | h7
      ·exact h6 x v h7 hg
      ·have:=cC h1;omega
    iZ:=h.env.iZ }
  ·exact {
    c:=fun x v hc=>hn.c x v (h.nw.c x v hc)
    cn:=fun x v hc=>by
     rcases eN x v hc with h1 | h1
     ·exact h.nw.cn x v h1
     ·have:=h.fr.size;exact .inr (.inl (by omega))
    β:=h.nw.β
    tk:=h.nw.tk
    tn:=h.nw.tn
    l0:=h.nw.l0 }
  ·by_cases Wz:j=b
   ·left;obtain ⟨r0,hr0,G4⟩:=h.nw.β;rw [hr0] at zm;rcases List.mem_append.1 zm with zm | zm
    ·exact .inl (.inl (Wz ▸ zm))
    ·exact .inr (Wz ▸ G4 b zm)
   ·exact .inr (hh j hj Wz)
 exact go_sound 4000 _ _ (hk r r7 hΦ) E' _ w' (aY bM hd r v (Rv.mono RS (Rv.cut Sn hclr)))
end
end Dv
end Go.Proofs.YtgjagnmeonoehaaGreat
namespace Go.Proofs.YtgjagnmeonoehaaGreat
namespace Dv
open Go
def tt:TT:=.aj 229 ⟨1,false,.fn,[.nilFunc]⟩ (.aj 114 ⟨1,false,.sl 91 7 88,[.slice none 0 0]⟩ (.aj 55 ⟨1,false,.fn,[.nilFunc]⟩ (.aj 27 ⟨2,true,.st [(0,9),(1,3)],[.string ByteArray.empty,.int .i64 0]⟩ (.aj 14 ⟨2,true,.st [(0,9),(1,12)],[.string ByteArray.empty,.int .u64 0]⟩ (.aj 7 ⟨4,true,.st [(0,2),(1,3),(2,4),(3,6)],[.int .i64 0,.int .i64 0,.bool false,.int .u8 0]⟩ (.aj 4 ⟨1,false,.bool,[.bool false]⟩ (.aj 2 ⟨1,false,.int .i64,[.int .i64 0]⟩ (.aj 1 ⟨1,false,.fn,[.nilFunc]⟩ (.nil) (.nil)) (.aj 3 ⟨1,false,.int .i64,[.int .i64 0]⟩ (.nil) (.nil))) (.aj 6 ⟨1,false,.int .u8,[.int .u8 0]⟩ (.aj 5 ⟨1,false,.int .u8,[.int .u8 0]⟩ (.nil) (.nil)) (.nil))) (.aj 11 ⟨1,false,.str,[.string ByteArray.empty]⟩ (.aj 9 ⟨1,false,.str,[.string ByteArray.empty]⟩ (.aj 8 ⟨4,true,.st [(0,2),(1,3),(2,4),(3,6)],[.int .i64 0,.int .i64 0,.bool false,.int .u8 0]⟩ (.nil) (.nil)) (.aj 10 ⟨1,false,.str,[.string ByteArray.empty]⟩ (.nil) (.nil))) (.aj 13 ⟨2,true,.st [(0,9),(1,12)],[.string ByteArray.empty,.int .u64 0]⟩ (.aj 12 ⟨1,false,.int .u64,[.int .u64 0]⟩ (.nil) (.nil)) (.nil)))) (.aj 21 ⟨1,false,.int .i32,[.int .i32 0]⟩ (.aj 18 ⟨1,true,.st [(0,17)],[.pointer none]⟩ (.aj 16 ⟨1,false,.ptr 452,[.pointer none]⟩ (.aj 15 ⟨1,false,.ptr 449,[.pointer none]⟩ (.nil) (.nil)) (.aj 17 ⟨1,false,.ptr 459,[.pointer none]⟩ (.nil) (.nil))) (.aj 20 ⟨1,false,.qG,[.nilIface]⟩ (.aj 19 ⟨1,true,.st [(0,17)],[.pointer none]⟩ (.nil) (.nil)) (.nil))) (.aj 24 ⟨1,false,.sl 124 11 136,[.slice none 0 0]⟩ (.aj 23 ⟨1,false,.sl 171 4 48,[.slice none 0 0]⟩ (.aj 22 ⟨1,false,.sl 27 2 24,[.slice none 0 0]⟩ (.nil) (.nil)) (.nil)) (.aj 26 ⟨2,true,.st [(0,9),(1,3)],[.string ByteArray.empty,.int .i64 0]⟩ (.aj 25 ⟨1,false,.sl 109 18 224,[.slice none 0 0]⟩ (.nil) (.nil)) (.nil))))) (.aj 40 ⟨1,false,.fn,[.nilFunc]⟩ (.aj 34 ⟨4,true,.st [(0,3),(1,3),(2,9),(3,32)],[.int .i64 0,.int .i64 0,.string ByteArray.empty,.slice none 0 0]⟩ (.aj 31 ⟨12,true,.st [(0,22),(1,23),(2,24),(3,29)],[.slice none 0 0,.slice none 0 0,.slice none 0 0,.int .i64 0,.int .i64 0,.int .i64 0,.int .i64 0,.int .i64 0,.slice none 0 0,.slice none 0 0,.string ByteArray.empty,.int .i64 0]⟩ (.aj 29 ⟨9,true,.st [(0,3),(1,3),(2,3),(3,3),(4,3),(5,22),(6,25),(7,27)],[.int .i64 0,.int .i64 0,.int .i64 0,.int .i64 0,.int .i64 0,.slice none 0 0,.slice none 0 0,.string ByteArray.empty,.int .i64 0]⟩ (.aj 28 ⟨9,true,.st [(0,3),(1,3),(2,3),(3,3),(4,3),(5,22),(6,25),(7,27)],[.int .i64 0,.int .i64 0,.int .i64 0,.int .i64 0,.int .i64 0,.slice none 0 0,.slice none 0 0,.string ByteArray.empty,.int .i64 0]⟩ (.nil) (.nil)) (.aj 30 ⟨12,true,.st [(0,22),(1,23),(2,24),(3,29)],[.slice none 0 0,.slice none 0 0,.slice none 0 0,.int .i64 0,.int .i64 0,.int .i64 0,.int .i64 0,.int .i64 0,.slice none 0 0,.slice none 0 0,.string ByteArray.empty,.int .i64 0]⟩ (.nil) (.nil))) (.aj 33 ⟨4,true,.st [(0,3),(1,3),(2,9),(3,32)],[.int .i64 0,.int .i64 0,.string ByteArray.empty,.slice none 0 0]⟩ (.aj 32 ⟨1,false,.sl 34 4 56,[.slice none 0 0]⟩ (.nil) (.nil)) (.nil))) (.aj 37 ⟨2,true,.st [(0,3),(1,35)],[.int .i64 0,.slice none 0 0]⟩ (.aj 36 ⟨2,true,.st [(0,3),(1,35)],[.int .i64 0,.slice none 0 0]⟩ (.aj 35 ⟨1,false,.sl 58 10 144,[.slice none 0 0]⟩ (.nil) (.nil)) (.nil)) (.aj 39 ⟨1,false,.fn,[.nilFunc]⟩ (.aj 38 ⟨1,false,.fn,[.nilFunc]⟩ (.nil) (.nil)) (.nil)))) (.aj 48 ⟨1,false,.sl 132 7 88,[.slice none 0 0]⟩ (.aj 44 ⟨2,true,.st [(0,42),(1,3)],[.int .i64 0,.int .i64 0]⟩ (.aj 42 ⟨1,false,.int .i64,[.int .i64 0]⟩ (.aj 41 ⟨1,false,.ptr 117,[.pointer none]⟩ (.nil) (.nil)) (.aj 43 ⟨2,true,.st [(0,42),(1,3)],[.int .i64 0,.int .i64 0]⟩ (.nil) (.nil))) (.aj 47 ⟨1,false,.sl 186 1 24,[.slice none 0 0]⟩ (.aj 46 ⟨1,false,.fn,[.nilFunc]⟩ (.nil) (.nil)) (.nil))) (.aj 51 ⟨1,false,.fn,[.nilFunc]⟩ (.aj 50 ⟨4,true,.st [(0,22),(1,47),(2,48),(3,3)],[.slice none 0 0,.slice none 0 0,.slice none 0 0,.int .i64 0]⟩ (.aj 49 ⟨4,true,.st [(0,22),(1,47),(2,48),(3,3)],[.slice none 0 0,.slice none 0 0,.slice none 0 0,.int .i64 0]⟩ (.nil) (.nil)) (.nil)) (.aj 54 ⟨1,false,.fn,[.nilFunc]⟩ (.aj 53 ⟨1,false,.fn,[.nilFunc]⟩ (.nil) (.nil)) (.nil)))))) (.aj 83 ⟨1,false,.fn,[.nilFunc]⟩ (.aj 70 ⟨3,true,.ar 3 1,[.int .i64 0,.int .i64 0,.int .i64 0]⟩ (.aj 62 ⟨1,false,.fn,[.nilFunc]⟩ (.aj 59 ⟨10,true,.st [(0,3),(1,56),(2,34),(6,34)],[.int .i64 0,.slice none 0 0,.int .i64 0,.int .i64 0,.string ByteArray.empty,.slice none 0 0,.int .i64 0,.int .i64 0,.string ByteArray.empty,.slice none 0 0]⟩ (.aj 57 ⟨10,true,.st [(0,3),(1,56),(2,34),(6,34)],[.int .i64 0,.slice none 0 0,.int .i64 0,.int .i64 0,.string ByteArray.empty,.slice none 0 0,.int .i64 0,.int .i64 0,.string ByteArray.empty,.slice none 0 0]⟩ (.aj 56 ⟨1,false,.sl 141 3 32,[.slice none 0 0]⟩ (.nil) (.nil)) (.aj 58 ⟨10,true,.st [(0,3),(1,56),(2,34),(6,34)],[.int .i64 0,.slice none 0 0,.int .i64 0,.int .i64 0,.string ByteArray.empty,.slice none 0 0,.int .i64 0,.int .i64 0,.string ByteArray.empty,.slice none 0 0]⟩ (.nil) (.nil))) (.aj 61 ⟨1,false,.fn,[.nilFunc]⟩ (.aj 60 ⟨1,false,.fn,[.nilFunc]⟩ (.nil) (.nil)) (.nil))) (.aj 67 ⟨1,false,.fn,[.nilFunc]⟩ (.aj 64 ⟨1,false,.fn,[.nilFunc]⟩ (.aj 63 ⟨8,true,.ar 2 4,[.int .i64 0,.int .i64 0,.string ByteArray.empty,.slice none 0 0,.int .i64 0,.int .i64 0,.string ByteArray.empty,.slice none 0 0]⟩ (.nil) (.nil)) (.aj 66 ⟨1,false,.fn,[.nilFunc]⟩ (.nil) (.nil))) (.aj 69 ⟨1,false,.fn,[.nilFunc]⟩ (.aj 68 ⟨1,false,.fn,[.nilFunc]⟩ (.nil) (.nil)) (.nil)))) (.aj 77 ⟨1,false,.fn,[.nilFunc]⟩ (.aj 74 ⟨1,false,.fn,[.nilFunc]⟩ (.aj 72 ⟨1,false,.fn,[.nilFunc]⟩ (.aj 71 ⟨1,false,.fn,[.nilFunc]⟩ (.nil) (.nil)) (.aj 73 ⟨1,false,.sl 9 1 16,[.slice none 0 0]⟩ (.nil) (.nil))) (.aj 76 ⟨1,false,.fn,[.nilFunc]⟩ (.aj 75 ⟨1,false,.fn,[.nilFunc]⟩ (.nil) (.nil)) (.nil))) (.aj 80 ⟨1,false,.sl 85 4 48,[.slice none 0 0]⟩ (.aj 79 ⟨1,false,.fn,[.nilFunc]⟩ (.aj 78 ⟨1,false,.fn,[.nilFunc]⟩ (.nil) (.nil)) (.nil)) (.aj 82 ⟨1,false,.sl 3 1 8,[.slice none 0 0]⟩ (.aj 81 ⟨1,false,.fn,[.nilFunc]⟩ (.nil) (.nil)) (.nil))))) (.aj 98 ⟨3,true,.st [(0,3),(1,96),(2,32)],[.int .i64 0,.slice none 0 0,.slice none 0 0]⟩ (.aj 91 ⟨7,true,.st [(0,3),(1,3),(2,3),(3,3),(4,3),(5,73),(6,89)],[.int .i64 0,.int .i64 0,.int .i64 0,.int .i64 0,.int .i64 0,.slice none 0 0,.slice none 0 0]⟩ (.aj 88 ⟨1,false,.fn,[.nilFunc]⟩ (.aj 85 ⟨4,true,.st [(0,56),(1,3),(2,3),(3,3)],[.slice none 0 0,.int .i64 0,.int .i64 0,.int .i64 0]⟩ (.aj 84 ⟨4,true,.st [(0,56),(1,3),(2,3),(3,3)],[.slice none 0 0,.int .i64 0,.int .i64 0,.int .i64 0]⟩ (.nil) (.nil)) (.aj 87 ⟨1,false,.fn,[.nilFunc]⟩ (.nil) (.nil))) (.aj 90 ⟨7,true,.st [(0,3),(1,3),(2,3),(3,3),(4,3),(5,73),(6,89)],[.int .i64 0,.int .i64 0,.int .i64 0,.int .i64 0,.int .i64 0,.slice none 0 0,.slice none 0 0]⟩ (.aj 89 ⟨1,false,.sl 193 10 88,[.slice none 0 0]⟩ (.nil) (.nil)) (.nil))) (.aj 95 ⟨1,false,.fn,[.nilFunc]⟩ (.aj 94 ⟨1,false,.fn,[.nilFunc]⟩ (.aj 93 ⟨1,false,.fn,[.nilFunc]⟩ (.nil) (.nil)) (.nil)) (.aj 97 ⟨3,true,.st [(0,3),(1,96),(2,32)],[.int .i64 0,.slice none 0 0,.slice none 0 0]⟩ (.aj 96 ⟨1,false,.sl 199 8 120,[.slice none 0 0]⟩ (.nil) (.nil)) (.nil)))) (.aj 107 ⟨4,true,.st [(0,3),(1,3),(2,3),(3,22)],[.int .i64 0,.int .i64 0,.int .i64 0,.slice none 0 0]⟩ (.aj 103 ⟨1,false,.fn,[.nilFunc]⟩ (.aj 101 ⟨1,false,.fn,[.nilFunc]⟩ (.aj 99 ⟨1,false,.fn,[.nilFunc]⟩ (.nil) (.nil)) (.aj 102 ⟨1,false,.fn,[.nilFunc]⟩ (.nil) (.nil))) (.aj 106 ⟨4,true,.st [(0,3),(1,3),(2,3),(3,22)],[.int .i64 0,.int .i64 0,.int .i64 0,.slice none 0 0]⟩ (.aj 105 ⟨1,false,.fn,[.nilFunc]⟩ (.nil) (.nil)) (.nil))) (.aj 110 ⟨1,false,.ptr 213,[.pointer none]⟩ (.aj 109 ⟨18,true,.st [(0,27),(2,4),(3,22),(4,3),(5,107),(9,29)],[.string ByteArray.empty,.int .i64 0,.bool false,.slice none 0 0,.int .i64 0,.int .i64 0,.int .i64 0,.int .i64 0,.slice none 0 0,.int .i64 0,.int .i64 0,.int .i64 0,.int .i64 0,.int .i64 0,.slice none 0 0,.slice none 0 0,.string ByteArray.empty,.int .i64 0]⟩ (.aj 108 ⟨18,true,.st [(0,27),(2,4),(3,22),(4,3),(5,107),(9,29)],[.string ByteArray.empty,.int .i64 0,.bool false,.slice none 0 0,.int .i64 0,.int .i64 0,.int .i64 0,.int .i64 0,.slice none 0 0,.int .i64 0,.int .i64 0,.int .i64 0,.int .i64 0,.int .i64 0,.slice none 0 0,.slice none 0 0,.string ByteArray.empty,.int .i64 0]⟩ (.nil) (.nil)) (.nil)) (.aj 113 ⟨1,false,.ptr 119,[.pointer none]⟩ (.aj 112 ⟨1,false,.fn,[.nilFunc]⟩ (.nil) (.nil)) (.nil))))))) (.aj 170 ⟨4,true,.st [(0,27),(2,27)],[.string ByteArray.empty,.int .i64 0,.string ByteArray.empty,.int .i64 0]⟩ (.aj 141 ⟨3,true,.st [(0,3),(1,3),(2,9)],[.int .i64 0,.int .i64 0,.string ByteArray.empty]⟩ (.aj 128 ⟨1,false,.fn,[.nilFunc]⟩ (.aj 121 ⟨1,false,.fn,[.nilFunc]⟩ (.aj 118 ⟨15,true,.st [(0,31),(12,110),(13,41),(14,3)],[.slice none 0 0,.slice none 0 0,.slice none 0 0,.int .i64 0,.int .i64 0,.int .i64 0,.int .i64 0,.int .i64 0,.slice none 0 0,.slice none 0 0,.string ByteArray.empty,.int .i64 0,.pointer none,.pointer none,.int .i64 0]⟩ (.aj 116 ⟨5,true,.st [(0,110),(1,114),(2,3),(3,115),(4,82)],[.pointer none,.slice none 0 0,.int .i64 0,.pointer none,.slice none 0 0]⟩ (.aj 115 ⟨1,false,.ptr 289,[.pointer none]⟩ (.nil) (.nil)) (.aj 117 ⟨5,true,.st [(0,110),(1,114),(2,3),(3,115),(4,82)],[.pointer none,.slice none 0 0,.int .i64 0,.pointer none,.slice none 0 0]⟩ (.nil) (.nil))) (.aj 120 ⟨1,false,.fn,[.nilFunc]⟩ (.aj 119 ⟨15,true,.st [(0,31),(12,110),(13,41),(14,3)],[.slice none 0 0,.slice none 0 0,.slice none 0 0,.int .i64 0,.int .i64 0,.int .i64 0,.int .i64 0,.int .i64 0,.slice none 0 0,.slice none 0 0,.string ByteArray.empty,.int .i64 0,.pointer none,.pointer none,.int .i64 0]⟩ (.nil) (.nil)) (.nil))) (.aj 125 ⟨1,false,.fn,[.nilFunc]⟩ (.aj 123 ⟨11,true,.st [(0,27),(2,29)],[.string ByteArray.empty,.int .i64 0,.int .i64 0,.int .i64 0,.int .i64 0,.int .i64 0,.int .i64 0,.slice none 0 0,.slice none 0 0,.string ByteArray.empty,.int .i64 0]⟩ (.aj 122 ⟨1,false,.fn,[.nilFunc]⟩ (.nil) (.nil)) (.aj 124 ⟨11,true,.st [(0,27),(2,29)],[.string ByteArray.empty,.int .i64 0,.int .i64 0,.int .i64 0,.int .i64 0,.int .i64 0,.int .i64 0,.slice none 0 0,.slice none 0 0,.string ByteArray.empty,.int .i64 0]⟩ (.nil) (.nil))) (.aj 127 ⟨1,false,.sl 29 9 112,[.slice none 0 0]⟩ (.aj 126 ⟨1,false,.fn,[.nilFunc]⟩ (.nil) (.nil)) (.nil)))) (.aj 135 ⟨1,false,.fn,[.nilFunc]⟩ (.aj 132 ⟨7,true,.st [(0,3),(1,3),(2,3),(3,3),(4,3),(5,73),(6,130)],[.int .i64 0,.int .i64 0,.int .i64 0,.int .i64 0,.int .i64 0,.slice none 0 0,.slice none 0 0]⟩ (.aj 130 ⟨1,false,.sl 144 10 88,[.slice none 0 0]⟩ (.aj 129 ⟨1,false,.fn,[.nilFunc]⟩ (.nil) (.nil)) (.aj 131 ⟨7,true,.st [(0,3),(1,3),(2,3),(3,3),(4,3),(5,73),(6,130)],[.int .i64 0,.int .i64 0,.int .i64 0,.int .i64 0,.int .i64 0,.slice none 0 0,.slice none 0 0]⟩ (.nil) (.nil))) (.aj 134 ⟨1,false,.fn,[.nilFunc]⟩ (.aj 133 ⟨1,false,.fn,[.nilFunc]⟩ (.nil) (.nil)) (.nil))) (.aj 138 ⟨1,false,.fn,[.nilFunc]⟩ (.aj 137 ⟨1,false,.fn,[.nilFunc]⟩ (.aj 136 ⟨1,false,.fn,[.nilFunc]⟩ (.nil) (.nil)) (.nil)) (.aj 140 ⟨3,true,.st [(0,3),(1,3),(2,9)],[.int .i64 0,.int .i64 0,.string ByteArray.empty]⟩ (.aj 139 ⟨1,false,.fn,[.nilFunc]⟩ (.nil) (.nil)) (.nil))))) (.aj 155 ⟨1,false,.fn,[.nilFunc]⟩ (.aj 148 ⟨3,true,.st [(0,41),(1,110),(2,3)],[.pointer none,.pointer none,.int .i64 0]⟩ (.aj 145 ⟨1,false,.fn,[.nilFunc]⟩ (.aj 143 ⟨10,true,.st [(0,9),(1,4),(2,3),(3,3),(4,3),(5,3),(6,3),(7,3),(8,3),(9,3)],[.string ByteArray.empty,.bool false,.int .i64 0,.int .i64 0,.int .i64 0,.int .i64 0,.int .i64 0,.int .i64 0,.int .i64 0,.int .i64 0]⟩ (.aj 142 ⟨1,false,.fn,[.nilFunc]⟩ (.nil) (.nil)) (.aj 144 ⟨10,true,.st [(0,9),(1,4),(2,3),(3,3),(4,3),(5,3),(6,3),(7,3),(8,3),(9,3)],[.string ByteArray.empty,.bool false,.int .i64 0,.int .i64 0,.int .i64 0,.int .i64 0,.int .i64 0,.int .i64 0,.int .i64 0,.int .i64 0]⟩ (.nil) (.nil))) (.aj 147 ⟨3,true,.st [(0,41),(1,110),(2,3)],[.pointer none,.pointer none,.int .i64 0]⟩ (.aj 146 ⟨1,false,.fn,[.nilFunc]⟩ (.nil) (.nil)) (.nil))) (.aj 152 ⟨1,false,.ptr 154,[.pointer none]⟩ (.aj 151 ⟨1,false,.fn,[.nilFunc]⟩ (.aj 150 ⟨1,false,.fn,[.nilFunc]⟩ (.nil) (.nil)) (.nil)) (.aj 154 ⟨2,true,.st [(0,41),(1,35)],[.pointer none,.slice none 0 0]⟩ (.aj 153 ⟨2,true,.st [(0,41),(1,35)],[.pointer none,.slice none 0 0]⟩ (.nil) (.nil)) (.nil)))) (.aj 162 ⟨1,false,.qG,[.nilIface]⟩ (.aj 159 ⟨2,true,.st [(0,157),(1,158)],[.pointer none,.slice none 0 0]⟩ (.aj 157 ⟨1,false,.ptr 160,[.pointer none]⟩ (.aj 156 ⟨1,false,.fn,[.nilFunc]⟩ (.nil) (.nil)) (.aj 158 ⟨1,false,.sl 5 1 1,[.slice none 0 0]⟩ (.nil) (.nil))) (.aj 161 ⟨1,false,.qG,[.nilIface]⟩ (.aj 160 ⟨2,true,.st [(0,157),(1,158)],[.pointer none,.slice none 0 0]⟩ (.nil) (.nil)) (.nil))) (.aj 166 ⟨1,false,.fn,[.nilFunc]⟩ (.aj 165 ⟨1,false,.fn,[.nilFunc]⟩ (.aj 164 ⟨1,false,.fn,[.nilFunc]⟩ (.nil) (.nil)) (.nil)) (.aj 169 ⟨1,false,.fn,[.nilFunc]⟩ (.aj 168 ⟨1,false,.fn,[.nilFunc]⟩ (.nil) (.nil)) (.nil)))))) (.aj 198 ⟨8,true,.st [(0,56),(1,3),(2,197)],[.slice none 0 0,.int .i64 0,.int .i64 0,.int .i64 0,.int .i64 0,.string ByteArray.empty,.slice none 0 0,.slice none 0 0]⟩ (.aj 185 ⟨1,false,.fn,[.nilFunc]⟩ (.aj 177 ⟨5,true,.st [(0,41),(1,110),(2,3),(3,3),(4,80)],[.pointer none,.pointer none,.int .i64 0,.int .i64 0,.slice none 0 0]⟩ (.aj 174 ⟨1,false,.fn,[.nilFunc]⟩ (.aj 172 ⟨1,false,.fn,[.nilFunc]⟩ (.aj 171 ⟨4,true,.st [(0,27),(2,27)],[.string ByteArray.empty,.int .i64 0,.string ByteArray.empty,.int .i64 0]⟩ (.nil) (.nil)) (.aj 173 ⟨1,false,.fn,[.nilFunc]⟩ (.nil) (.nil))) (.aj 176 ⟨1,false,.ptr 178,[.pointer none]⟩ (.aj 175 ⟨1,false,.fn,[.nilFunc]⟩ (.nil) (.nil)) (.nil))) (.aj 182 ⟨1,false,.fn,[.nilFunc]⟩ (.aj 179 ⟨1,false,.fn,[.nilFunc]⟩ (.aj 178 ⟨5,true,.st [(0,41),(1,110),(2,3),(3,3),(4,80)],[.pointer none,.pointer none,.int .i64 0,.int .i64 0,.slice none 0 0]⟩ (.nil) (.nil)) (.aj 181 ⟨1,false,.fn,[.nilFunc]⟩ (.nil) (.nil))) (.aj 184 ⟨1,false,.fn,[.nilFunc]⟩ (.aj 183 ⟨1,false,.ptr 188,[.pointer none]⟩ (.nil) (.nil)) (.nil)))) (.aj 192 ⟨1,false,.fn,[.nilFunc]⟩ (.aj 189 ⟨1,false,.fn,[.nilFunc]⟩ (.aj 187 ⟨6,true,.st [(0,41),(1,114),(2,82),(3,186),(4,82),(5,82)],[.pointer none,.slice none 0 0,.slice none 0 0,.slice none 0 0,.slice none 0 0,.slice none 0 0]⟩ (.aj 186 ⟨1,false,.sl 4 1 1,[.slice none 0 0]⟩ (.nil) (.nil)) (.aj 188 ⟨6,true,.st [(0,41),(1,114),(2,82),(3,186),(4,82),(5,82)],[.pointer none,.slice none 0 0,.slice none 0 0,.slice none 0 0,.slice none 0 0,.slice none 0 0]⟩ (.nil) (.nil))) (.aj 191 ⟨1,false,.fn,[.nilFunc]⟩ (.aj 190 ⟨1,false,.fn,[.nilFunc]⟩ (.nil) (.nil)) (.nil))) (.aj 195 ⟨1,false,.sl 197 6 88,[.slice none 0 0]⟩ (.aj 194 ⟨1,false,.fn,[.nilFunc]⟩ (.aj 193 ⟨10,true,.st [(0,9),(1,4),(2,3),(3,3),(4,3),(5,3),(6,3),(7,3),(8,3),(9,3)],[.string ByteArray.empty,.bool false,.int .i64 0,.int .i64 0,.int .i64 0,.int .i64 0,.int .i64 0,.int .i64 0,.int .i64 0,.int .i64 0]⟩ (.nil) (.nil)) (.nil)) (.aj 197 ⟨6,true,.st [(0,3),(1,3),(2,3),(3,9),(4,22),(5,195)],[.int .i64 0,.int .i64 0,.int .i64 0,.string ByteArray.empty,.slice none 0 0,.slice none 0 0]⟩ (.aj 196 ⟨6,true,.st [(0,3),(1,3),(2,3),(3,9),(4,22),(5,195)],[.int .i64 0,.int .i64 0,.int .i64 0,.string ByteArray.empty,.slice none 0 0,.slice none 0 0]⟩ (.nil) (.nil)) (.nil))))) (.aj 213 ⟨2051,true,.st [(0,73),(1,115),(2,209),(3,211),(1027,211)],(.slice none 0 0 :: .pointer none :: .pointer none :: List.replicate 2048 (.int .i64 0))⟩ (.aj 207 ⟨1,false,.fn,[.nilFunc]⟩ (.aj 202 ⟨1,false,.fn,[.nilFunc]⟩ (.aj 200 ⟨1,false,.fn,[.nilFunc]⟩ (.aj 199 ⟨8,true,.st [(0,56),(1,3),(2,197)],[.slice none 0 0,.int .i64 0,.int .i64 0,.int .i64 0,.int .i64 0,.string ByteArray.empty,.slice none 0 0,.slice none 0 0]⟩ (.nil) (.nil)) (.aj 201 ⟨1,false,.fn,[.nilFunc]⟩ (.nil) (.nil))) (.aj 205 ⟨1,false,.fn,[.nilFunc]⟩ (.aj 204 ⟨1,false,.fn,[.nilFunc]⟩ (.nil) (.nil)) (.nil))) (.aj 210 ⟨32,true,.ar 32 1,[.int .i64 0,.int .i64 0,.int .i64 0,.int .i64 0,.int .i64 0,.int .i64 0,.int .i64 0,.int .i64 0,.int .i64 0,.int .i64 0,.int .i64 0,.int .i64 0,.int .i64 0,.int .i64 0,.int .i64 0,.int .i64 0,.int .i64 0,.int .i64 0,.int .i64 0,.int .i64 0,.int .i64 0,.int .i64 0,.int .i64 0,.int .i64 0,.int .i64 0,.int .i64 0,.int .i64 0,.int .i64 0,.int .i64 0,.int .i64 0,.int .i64 0,.int .i64 0]⟩ (.aj 209 ⟨1,false,.ptr 294,[.pointer none]⟩ (.aj 208 ⟨1,false,.fn,[.nilFunc]⟩ (.nil) (.nil)) (.nil)) (.aj 212 ⟨2051,true,.st [(0,73),(1,115),(2,209),(3,211),(1027,211)],(.slice none 0 0 :: .pointer none :: .pointer none :: List.replicate 2048 (.int .i64 0))⟩ (.aj 211 ⟨1024,true,.ar 32 32,(List.replicate 1024 (.int .i64 0))⟩ (.nil) (.nil)) (.nil)))) (.aj 223 ⟨1,false,.fn,[.nilFunc]⟩ (.aj 220 ⟨1,false,.fn,[.nilFunc]⟩ (.aj 216 ⟨1,false,.fn,[.nilFunc]⟩ (.aj 214 ⟨1,false,.sl 291 2 16,[.slice none 0 0]⟩ (.nil) (.nil)) (.aj 218 ⟨1,false,.fn,[.nilFunc]⟩ (.nil) (.nil))) (.aj 222 ⟨1,false,.fn,[.nilFunc]⟩ (.aj 221 ⟨1,false,.fn,[.nilFunc]⟩ (.nil) (.nil)) (.nil))) (.aj 226 ⟨1,false,.fn,[.nilFunc]⟩ (.aj 225 ⟨1,false,.sl 22 1 24,[.slice none 0 0]⟩ (.aj 224 ⟨1,false,.fn,[.nilFunc]⟩ (.nil) (.nil)) (.nil)) (.aj 228 ⟨1,false,.fn,[.nilFunc]⟩ (.aj 227 ⟨1,false,.fn,[.nilFunc]⟩ (.nil) (.nil)) (.nil)))))))) (.aj 346 ⟨1,false,.int .u64,[.int .u64 0]⟩ (.aj 288 ⟨2,true,.st [(0,73),(1,82)],[.slice none 0 0,.slice none 0 0]⟩ (.aj 258 ⟨1,false,.ptr 5,[.pointer none]⟩ (.aj 243 ⟨1,false,.fn,[.nilFunc]⟩ (.aj 236 ⟨1,false,.fn,[.nilFunc]⟩ (.aj 233 ⟨1,false,.fn,[.nilFunc]⟩ (.aj 231 ⟨1,false,.fn,[.nilFunc]⟩ (.aj 230 ⟨1,false,.fn,[.nilFunc]⟩ (.nil) (.nil)) (.aj 232 ⟨1,false,.fn,[.nilFunc]⟩ (.nil) (.nil))) (.aj 235 ⟨1,false,.fn,[.nilFunc]⟩ (.aj 234 ⟨1,false,.fn,[.nilFunc]⟩ (.nil) (.nil)) (.nil))) (.aj 240 ⟨1,false,.fn,[.nilFunc]⟩ (.aj 238 ⟨1,false,.fn,[.nilFunc]⟩ (.aj 237 ⟨1,false,.fn,[.nilFunc]⟩ (.nil) (.nil)) (.aj 239 ⟨1,false,.fn,[.nilFunc]⟩ (.nil) (.nil))) (.aj 242 ⟨1,false,.fn,[.nilFunc]⟩ (.aj 241 ⟨1,false,.fn,[.nilFunc]⟩ (.nil) (.nil)) (.nil)))) (.aj 252 ⟨1,false,.fn,[.nilFunc]⟩ (.aj 249 ⟨1,false,.fn,[.nilFunc]⟩ (.aj 247 ⟨1,false,.fn,[.nilFunc]⟩ (.aj 245 ⟨1,false,.fn,[.nilFunc]⟩ (.nil) (.nil)) (.aj 248 ⟨1,false,.fn,[.nilFunc]⟩ (.nil) (.nil))) (.aj 251 ⟨1,false,.fn,[.nilFunc]⟩ (.aj 250 ⟨1,false,.fn,[.nilFunc]⟩ (.nil) (.nil)) (.nil))) (.aj 255 ⟨1,false,.fn,[.nilFunc]⟩ (.aj 254 ⟨1,false,.fn,[.nilFunc]⟩ (.aj 253 ⟨1,false,.fn,[.nilFunc]⟩ (.nil) (.nil)) (.nil)) (.aj 257 ⟨1,false,.fn,[.nilFunc]⟩ (.aj 256 ⟨1,false,.fn,[.nilFunc]⟩ (.nil) (.nil)) (.nil))))) (.aj 272 ⟨2,true,.st [(0,3),(1,3)],[.int .i64 0,.int .i64 0]⟩ (.aj 265 ⟨1,false,.fn,[.nilFunc]⟩ (.aj 262 ⟨1,false,.fn,[.nilFunc]⟩ (.aj 260 ⟨3,true,.st [(0,41),(1,110),(2,3)],[.pointer none,.pointer none,.int .i64 0]⟩ (.aj 259 ⟨3,true,.st [(0,41),(1,110),(2,3)],[.pointer none,.pointer none,.int .i64 0]⟩ (.nil) (.nil)) (.aj 261 ⟨1,false,.fn,[.nilFunc]⟩ (.nil) (.nil))) (.aj 264 ⟨1,false,.fn,[.nilFunc]⟩ (.aj 263 ⟨1,false,.fn,[.nilFunc]⟩ (.nil) (.nil)) (.nil))) (.aj 269 ⟨1,false,.fn,[.nilFunc]⟩ (.aj 267 ⟨1,false,.fn,[.nilFunc]⟩ (.aj 266 ⟨1,false,.fn,[.nilFunc]⟩ (.nil) (.nil)) (.nil)) (.aj 271 ⟨2,true,.st [(0,3),(1,3)],[.int .i64 0,.int .i64 0]⟩ (.aj 270 ⟨1,false,.fn,[.nilFunc]⟩ (.nil) (.nil)) (.nil)))) (.aj 282 ⟨1,false,.fn,[.nilFunc]⟩ (.aj 277 ⟨1,false,.fn,[.nilFunc]⟩ (.aj 275 ⟨1,false,.fn,[.nilFunc]⟩ (.aj 274 ⟨1,false,.fn,[.nilFunc]⟩ (.nil) (.nil)) (.aj 276 ⟨1,false,.fn,[.nilFunc]⟩ (.nil) (.nil))) (.aj 280 ⟨1,false,.fn,[.nilFunc]⟩ (.aj 279 ⟨1,false,.fn,[.nilFunc]⟩ (.nil) (.nil)) (.nil))) (.aj 285 ⟨1,false,.fn,[.nilFunc]⟩ (.aj 284 ⟨1,false,.fn,[.nilFunc]⟩ (.aj 283 ⟨1,false,.fn,[.nilFunc]⟩ (.nil) (.nil)) (.nil)) (.aj 287 ⟨1,false,.fn,[.nilFunc]⟩ (.aj 286 ⟨1,false,.fn,[.nilFunc]⟩ (.nil) (.nil)) (.nil)))))) (.aj 318 ⟨1,false,.fn,[.nilFunc]⟩ (.aj 303 ⟨1,true,.st [(0,3)],[.int .i64 0]⟩ (.aj 295 ⟨1,false,.int .u64,[.int .u64 0]⟩ (.aj 292 ⟨1,false,.sl 295 1 8,[.slice none 0 0]⟩ (.aj 290 ⟨1,false,.fn,[.nilFunc]⟩ (.aj 289 ⟨2,true,.st [(0,73),(1,82)],[.slice none 0 0,.slice none 0 0]⟩ (.nil) (.nil)) (.aj 291 ⟨2,true,.ar 2 1,[.int .i64 0,.int .i64 0]⟩ (.nil) (.nil))) (.aj 294 ⟨1,true,.st [(0,292)],[.slice none 0 0]⟩ (.aj 293 ⟨1,true,.st [(0,292)],[.slice none 0 0]⟩ (.nil) (.nil)) (.nil))) (.aj 300 ⟨1,false,.fn,[.nilFunc]⟩ (.aj 297 ⟨1,false,.fn,[.nilFunc]⟩ (.aj 296 ⟨1,false,.fn,[.nilFunc]⟩ (.nil) (.nil)) (.aj 298 ⟨1,false,.fn,[.nilFunc]⟩ (.nil) (.nil))) (.aj 302 ⟨1,true,.st [(0,3)],[.int .i64 0]⟩ (.aj 301 ⟨1,false,.ptr 303,[.pointer none]⟩ (.nil) (.nil)) (.nil)))) (.aj 310 ⟨1,false,.fn,[.nilFunc]⟩ (.aj 307 ⟨1,false,.fn,[.nilFunc]⟩ (.aj 305 ⟨1,false,.fn,[.nilFunc]⟩ (.aj 304 ⟨1,false,.fn,[.nilFunc]⟩ (.nil) (.nil)) (.aj 306 ⟨1,false,.fn,[.nilFunc]⟩ (.nil) (.nil))) (.aj 309 ⟨1,false,.fn,[.nilFunc]⟩ (.aj 308 ⟨1,false,.fn,[.nilFunc]⟩ (.nil) (.nil)) (.nil))) (.aj 313 ⟨1,false,.fn,[.nilFunc]⟩ (.aj 312 ⟨1,false,.fn,[.nilFunc]⟩ (.aj 311 ⟨1,false,.fn,[.nilFunc]⟩ (.nil) (.nil)) (.nil)) (.aj 317 ⟨1,false,.fn,[.nilFunc]⟩ (.aj 315 ⟨1,false,.fn,[.nilFunc]⟩ (.nil) (.nil)) (.nil))))) (.aj 331 ⟨1,false,.fn,[.nilFunc]⟩ (.aj 325 ⟨1,false,.fn,[.nilFunc]⟩ (.aj 322 ⟨1,false,.fn,[.nilFunc]⟩ (.aj 320 ⟨1,false,.fn,[.nilFunc]⟩ (.aj 319 ⟨1,false,.fn,[.nilFunc]⟩ (.nil) (.nil)) (.aj 321 ⟨1,false,.fn,[.nilFunc]⟩ (.nil) (.nil))) (.aj 324 ⟨1,false,.fn,[.nilFunc]⟩ (.aj 323 ⟨20,true,.ar 20 1,[.int .u8 0,.int .u8 0,.int .u8 0,.int .u8 0,.int .u8 0,.int .u8 0,.int .u8 0,.int .u8 0,.int .u8 0,.int .u8 0,.int .u8 0,.int .u8 0,.int .u8 0,.int .u8 0,.int .u8 0,.int .u8 0,.int .u8 0,.int .u8 0,.int .u8 0,.int .u8 0]⟩ (.nil) (.nil)) (.nil))) (.aj 328 ⟨1,false,.fn,[.nilFunc]⟩ (.aj 327 ⟨1,false,.fn,[.nilFunc]⟩ (.aj 326 ⟨1,false,.fn,[.nilFunc]⟩ (.nil) (.nil)) (.nil)) (.aj 330 ⟨1,false,.fn,[.nilFunc]⟩ (.aj 329 ⟨1,false,.fn,[.nilFunc]⟩ (.nil) (.nil)) (.nil)))) (.aj 338 ⟨1,false,.fn,[.nilFunc]⟩ (.aj 335 ⟨3,true,.st [(0,44),(2,3)],[.int .i64 0,.int .i64 0,.int .i64 0]⟩ (.aj 333 ⟨1,false,.fn,[.nilFunc]⟩ (.aj 332 ⟨1,false,.fn,[.nilFunc]⟩ (.nil) (.nil)) (.aj 334 ⟨3,true,.st [(0,44),(2,3)],[.int .i64 0,.int .i64 0,.int .i64 0]⟩ (.nil) (.nil))) (.aj 337 ⟨1,false,.fn,[.nilFunc]⟩ (.aj 336 ⟨1,false,.fn,[.nilFunc]⟩ (.nil) (.nil)) (.nil))) (.aj 343 ⟨1,false,.fn,[.nilFunc]⟩ (.aj 342 ⟨1,false,.fn,[.nilFunc]⟩ (.aj 339 ⟨1,false,.int .u64,[.int .u64 0]⟩ (.nil) (.nil)) (.nil)) (.aj 345 ⟨1,false,.fn,[.nilFunc]⟩ (.aj 344 ⟨1,false,.fn,[.nilFunc]⟩ (.nil) (.nil)) (.nil))))))) (.aj 403 ⟨1,false,.fn,[.nilFunc]⟩ (.aj 374 ⟨1,false,.fn,[.nilFunc]⟩ (.aj 361 ⟨1,false,.fn,[.nilFunc]⟩ (.aj 353 ⟨1,false,.fn,[.nilFunc]⟩ (.aj 350 ⟨1,false,.fn,[.nilFunc]⟩ (.aj 348 ⟨2,true,.st [(0,182),(1,343)],[.nilFunc,.nilFunc]⟩ (.aj 347 ⟨1,false,.fn,[.nilFunc]⟩ (.nil) (.nil)) (.aj 349 ⟨2,true,.st [(0,182),(1,343)],[.nilFunc,.nilFunc]⟩ (.nil) (.nil))) (.aj 352 ⟨1,false,.fn,[.nilFunc]⟩ (.aj 351 ⟨1,false,.fn,[.nilFunc]⟩ (.nil) (.nil)) (.nil))) (.aj 357 ⟨3,true,.st [(0,9),(1,9),(2,73)],[.string ByteArray.empty,.string ByteArray.empty,.slice none 0 0]⟩ (.aj 355 ⟨1,false,.fn,[.nilFunc]⟩ (.aj 354 ⟨1,false,.fn,[.nilFunc]⟩ (.nil) (.nil)) (.aj 356 ⟨1,false,.fn,[.nilFunc]⟩ (.nil) (.nil))) (.aj 360 ⟨1,false,.fn,[.nilFunc]⟩ (.aj 358 ⟨3,true,.st [(0,9),(1,9),(2,73)],[.string ByteArray.empty,.string ByteArray.empty,.slice none 0 0]⟩ (.nil) (.nil)) (.nil)))) (.aj 368 ⟨1,false,.fn,[.nilFunc]⟩ (.aj 365 ⟨1,false,.fn,[.nilFunc]⟩ (.aj 363 ⟨1,false,.fn,[.nilFunc]⟩ (.aj 362 ⟨1,false,.fn,[.nilFunc]⟩ (.nil) (.nil)) (.aj 364 ⟨1,false,.fn,[.nilFunc]⟩ (.nil) (.nil))) (.aj 367 ⟨1,false,.fn,[.nilFunc]⟩ (.aj 366 ⟨1,false,.fn,[.nilFunc]⟩ (.nil) (.nil)) (.nil))) (.aj 371 ⟨1,false,.fn,[.nilFunc]⟩ (.aj 370 ⟨1,false,.fn,[.nilFunc]⟩ (.aj 369 ⟨1,false,.fn,[.nilFunc]⟩ (.nil) (.nil)) (.nil)) (.aj 373 ⟨15,true,.st [(0,3),(1,193),(11,34)],[.int .i64 0,.string ByteArray.empty,.bool false,.int .i64 0,.int .i64 0,.int .i64 0,.int .i64 0,.int .i64 0,.int .i64 0,.int .i64 0,.int .i64 0,.int .i64 0,.int .i64 0,.string ByteArray.empty,.slice none 0 0]⟩ (.aj 372 ⟨15,true,.st [(0,3),(1,193),(11,34)],[.int .i64 0,.string ByteArray.empty,.bool false,.int .i64 0,.int .i64 0,.int .i64 0,.int .i64 0,.int .i64 0,.int .i64 0,.int .i64 0,.int .i64 0,.int .i64 0,.int .i64 0,.string ByteArray.empty,.slice none 0 0]⟩ (.nil) (.nil)) (.nil))))) (.aj 388 ⟨1,false,.fn,[.nilFunc]⟩ (.aj 381 ⟨1,true,.st [(0,17)],[.pointer none]⟩ (.aj 378 ⟨1,false,.fn,[.nilFunc]⟩ (.aj 376 ⟨1,false,.fn,[.nilFunc]⟩ (.aj 375 ⟨1,false,.fn,[.nilFunc]⟩ (.nil) (.nil)) (.aj 377 ⟨1,false,.fn,[.nilFunc]⟩ (.nil) (.nil))) (.aj 380 ⟨1,true,.st [(0,17)],[.pointer none]⟩ (.aj 379 ⟨1,false,.fn,[.nilFunc]⟩ (.nil) (.nil)) (.nil))) (.aj 384 ⟨1,false,.int .u32,[.int .u32 0]⟩ (.aj 383 ⟨1,false,.fn,[.nilFunc]⟩ (.aj 382 ⟨1,false,.ptr 461,[.pointer none]⟩ (.nil) (.nil)) (.nil)) (.aj 386 ⟨1,false,.int .i64,[.int .i64 0]⟩ (.aj 385 ⟨1,false,.fn,[.nilFunc]⟩ (.nil) (.nil)) (.nil)))) (.aj 396 ⟨1,false,.fn,[.nilFunc]⟩ (.aj 392 ⟨1,false,.fn,[.nilFunc]⟩ (.aj 390 ⟨1,false,.fn,[.nilFunc]⟩ (.aj 389 ⟨1,false,.fn,[.nilFunc]⟩ (.nil) (.nil)) (.aj 391 ⟨1,false,.fn,[.nilFunc]⟩ (.nil) (.nil))) (.aj 394 ⟨1,false,.fn,[.nilFunc]⟩ (.aj 393 ⟨1,false,.fn,[.nilFunc]⟩ (.nil) (.nil)) (.nil))) (.aj 399 ⟨1,false,.fn,[.nilFunc]⟩ (.aj 398 ⟨1,false,.fn,[.nilFunc]⟩ (.aj 397 ⟨1,false,.fn,[.nilFunc]⟩ (.nil) (.nil)) (.nil)) (.aj 402 ⟨1,false,.fn,[.nilFunc]⟩ (.aj 401 ⟨1,false,.fn,[.nilFunc]⟩ (.nil) (.nil)) (.nil)))))) (.aj 432 ⟨4,true,.ar 4 1,[.int .i64 0,.int .i64 0,.int .i64 0,.int .i64 0]⟩ (.aj 417 ⟨1,false,.fn,[.nilFunc]⟩ (.aj 410 ⟨1,false,.ptr 3,[.pointer none]⟩ (.aj 407 ⟨1,false,.fn,[.nilFunc]⟩ (.aj 405 ⟨1,false,.fn,[.nilFunc]⟩ (.aj 404 ⟨1,false,.fn,[.nilFunc]⟩ (.nil) (.nil)) (.aj 406 ⟨1,false,.int .u64,[.int .u64 0]⟩ (.nil) (.nil))) (.aj 409 ⟨1,false,.fn,[.nilFunc]⟩ (.aj 408 ⟨1,false,.fn,[.nilFunc]⟩ (.nil) (.nil)) (.nil))) (.aj 414 ⟨1,false,.fn,[.nilFunc]⟩ (.aj 412 ⟨1,false,.fn,[.nilFunc]⟩ (.aj 411 ⟨1,false,.fn,[.nilFunc]⟩ (.nil) (.nil)) (.aj 413 ⟨1,false,.fn,[.nilFunc]⟩ (.nil) (.nil))) (.aj 416 ⟨1,false,.sl 434 2 8,[.slice none 0 0]⟩ (.aj 415 ⟨1,false,.fn,[.nilFunc]⟩ (.nil) (.nil)) (.nil)))) (.aj 426 ⟨1,false,.fn,[.nilFunc]⟩ (.aj 423 ⟨1,false,.fn,[.nilFunc]⟩ (.aj 420 ⟨1,false,.fn,[.nilFunc]⟩ (.aj 419 ⟨1,false,.fn,[.nilFunc]⟩ (.nil) (.nil)) (.aj 421 ⟨1,false,.fn,[.nilFunc]⟩ (.nil) (.nil))) (.aj 425 ⟨1,false,.fn,[.nilFunc]⟩ (.aj 424 ⟨1,false,.fn,[.nilFunc]⟩ (.nil) (.nil)) (.nil))) (.aj 429 ⟨1,false,.fn,[.nilFunc]⟩ (.aj 428 ⟨1,false,.fn,[.nilFunc]⟩ (.aj 427 ⟨1,false,.fn,[.nilFunc]⟩ (.nil) (.nil)) (.nil)) (.aj 431 ⟨1,false,.fn,[.nilFunc]⟩ (.aj 430 ⟨1,false,.ptr 406,[.pointer none]⟩ (.nil) (.nil)) (.nil))))) (.aj 447 ⟨2,true,.st [(0,21),(1,21)],[.int .i32 0,.int .i32 0]⟩ (.aj 440 ⟨1,false,.fn,[.nilFunc]⟩ (.aj 436 ⟨1,false,.sl 447 2 8,[.slice none 0 0]⟩ (.aj 434 ⟨2,true,.st [(0,21),(1,21)],[.int .i32 0,.int .i32 0]⟩ (.aj 433 ⟨2,true,.st [(0,21),(1,21)],[.int .i32 0,.int .i32 0]⟩ (.nil) (.nil)) (.aj 435 ⟨1,false,.fn,[.nilFunc]⟩ (.nil) (.nil))) (.aj 438 ⟨1,false,.fn,[.nilFunc]⟩ (.aj 437 ⟨1,false,.fn,[.nilFunc]⟩ (.nil) (.nil)) (.nil))) (.aj 444 ⟨1,false,.fn,[.nilFunc]⟩ (.aj 443 ⟨1,false,.fn,[.nilFunc]⟩ (.aj 442 ⟨1,false,.fn,[.nilFunc]⟩ (.nil) (.nil)) (.nil)) (.aj 446 ⟨2,true,.st [(0,21),(1,21)],[.int .i32 0,.int .i32 0]⟩ (.aj 445 ⟨1,false,.fn,[.nilFunc]⟩ (.nil) (.nil)) (.nil)))) (.aj 456 ⟨1,false,.int .i32,[.int .i32 0]⟩ (.aj 453 ⟨1,false,.int .u8,[.int .u8 0]⟩ (.aj 449 ⟨4,true,.st [(0,17),(1,17),(2,17),(3,9)],[.pointer none,.pointer none,.pointer none,.string ByteArray.empty]⟩ (.aj 448 ⟨4,true,.st [(0,17),(1,17),(2,17),(3,9)],[.pointer none,.pointer none,.pointer none,.string ByteArray.empty]⟩ (.nil) (.nil)) (.aj 450 ⟨0,true,.ar 0 1,[]⟩ (.nil) (.nil))) (.aj 455 ⟨1,false,.fn,[.nilFunc]⟩ (.aj 454 ⟨1,false,.int .u8,[.int .u8 0]⟩ (.nil) (.nil)) (.nil))) (.aj 459 ⟨11,true,.st [(0,12),(1,12),(2,384),(3,453),(4,5),(5,5),(6,454),(7,455),(8,258),(9,456),(10,457)],[.int .u64 0,.int .u64 0,.int .u32 0,.int .u8 0,.int .u8 0,.int .u8 0,.int .u8 0,.nilFunc,.pointer none,.int .i32 0,.int .i32 0]⟩ (.aj 458 ⟨11,true,.st [(0,12),(1,12),(2,384),(3,453),(4,5),(5,5),(6,454),(7,455),(8,258),(9,456),(10,457)],[.int .u64 0,.int .u64 0,.int .u32 0,.int .u8 0,.int .u8 0,.int .u8 0,.int .u8 0,.nilFunc,.pointer none,.int .i32 0,.int .i32 0]⟩ (.aj 457 ⟨1,false,.int .i32,[.int .i32 0]⟩ (.nil) (.nil)) (.nil)) (.aj 461 ⟨2,true,.st [(0,9),(1,454)],[.string ByteArray.empty,.int .u8 0]⟩ (.aj 460 ⟨2,true,.st [(0,9),(1,454)],[.string ByteArray.empty,.int .u8 0]⟩ (.nil) (.nil)) (.nil))))))))
theorem jC:tt.ok Tryz.prog=true:=by decide +kernel
theorem mo:Tryz.prog.follows .mixedOrders=true:=rfl
end Dv
end Go.Proofs.YtgjagnmeonoehaaGreat
namespace Go.Proofs.YtgjagnmeonoehaaGreat
namespace Dv
open Go
theorem eG {f:FuncId} {fn:Func} {c:Code} {args:List DV} {os:List (List DV)} {bQ:List TkE} {Φ:DV->List (List DV)->List TkE->Prop} (nt:Nat) (rs:List ResultVar)
 (hf:Tryz.prog.funcs[f]? = some fn) (hb:fn.body=some c) (GU:fn.ntmps=nt) (y9:fn.results.toList=rs)
 (h:∀ (E:En) (w:World) (hn:E.β.length=os.length) (hm:E.tk.length=bQ.length),go ⟨Tryz.prog,tt,jC,fn,nt,rs,y9,w,E,os.length,bQ.length,hn,hm,false,Φ,[],[],false⟩ 5000 [.code c] ⟨argSl 0 args,os,bQ⟩) (hlen:args.length<=nt:=by exact Nat.le_of_ble_eq_true rfl):Ev Tryz.prog f args os bQ Φ:=Z7 tt jC 5000 nt rs hf hb GU y9 hlen h
theorem cP {X:Ctx} {st:St} {k:List It} {f:FuncId} {args bh:List DV} {d:Nat} {r:DV} (j2:Enters X.P f) (hc:EvP X.P f bh r) (hk:go X 4000 k ⟨(d,⟨[],r⟩) :: st.sl,st.bx,st.tk⟩) (ha:CcL [] 0 0 0 bh args:=by exact ax) (hd:eB X.nt st.sl (some d)=true:=by exact rfl) (aR:X.still=false:=by exact rfl):dH X f args (some d) k st:=NZ j2 hc ha hd hk aR
theorem cD {X:Ctx} {st:St} {c:Bool} {s0:List (Nat×Sl)} {D:Dr} {i:Nat} {f:FuncId} {args bh:List DV} {d:Nat} {r:List (Nat×Oper)} {uO:DV} (j2:Enters X.P f) (hc:EvP X.P f bh uO) (hk:put2 s0 st (some d) false [] uO (goD X D 3000 c r)) (ha:CcL [] 0 0 0 bh args:=by exact ax) (hd:(eB X.nt st.sl (some d) && eB X.nt s0 (some d))=true:=by exact rfl) (aR:X.still=false:=by exact rfl):wb X D c i r f args (some d) s0 st:=Ss j2 hc ha hd hk aR
theorem dI {X:Ctx} {st:St} {k:List It} {id:Nat} {ops:Array Oper} (h:goD X ⟨ops,fun _=>false,k,st,none⟩ 3000 true (nOps 0 ops.toList) st.sl st) (hm:X.P.follows .mixedOrders=true:=by exact mo) (hc:GW ops (fun _=>false)=true:=by decide +kernel):kQ X id ops k st:=jA _ hm hc h
theorem dS {X:Ctx} {st:St} {k:List It} {id:Nat} {ops:Array Oper} (h:goD X ⟨ops,UB ops,k,st,none⟩ 3000 true (nOps 0 ops.toList) st.sl st) (hm:X.P.follows .mixedOrders=true:=by exact mo) (hc:GW ops (UB ops)=true:=by decide +kernel):kQ X id ops k st:=Sr hm hc h
end Dv
end Go.Proofs.YtgjagnmeonoehaaGreat
set_option maxRecDepth 100000
namespace Go.Proofs.YtgjagnmeonoehaaGreat
open Go Go.RowKit Dv Go.Proofs.Tryz
theorem en8:Enters prog 8:=enters_of func8 (by decide +kernel) rfl
theorem en9:Enters prog 9:=enters_of func9 (by decide +kernel) rfl
theorem SA:Enters prog 10:=enters_of func10 (by decide +kernel) rfl
theorem aar:Enters prog 11:=enters_of func11 (by decide +kernel) rfl
theorem aas:Enters prog 12:=enters_of func12 (by decide +kernel) rfl
theorem en13:Enters prog 13:=enters_of func13 (by decide +kernel) rfl
theorem aat:Enters prog 14:=enters_of func14 (by decide +kernel) rfl
theorem aau:Enters prog 15:=enters_of func15 (by decide +kernel) rfl
theorem en16:Enters prog 16:=enters_of func16 (by decide +kernel) rfl
theorem SB:Enters prog 17:=enters_of func17 (by decide +kernel) rfl
theorem en19:Enters prog 19:=enters_of func19 (by decide +kernel) rfl
theorem en20:Enters prog 20:=enters_of func20 (by decide +kernel) rfl
theorem sI:Enters prog 36:=enters_of func36 (by decide +kernel) rfl
theorem Oc:Enters prog 37:=enters_of func37 (by decide +kernel) rfl
theorem SC:Enters prog 42:=enters_of func42 (by decide +kernel) rfl
theorem en43:Enters prog 43:=enters_of func43 (by decide +kernel) rfl
theorem en44:Enters prog 44:=enters_of func44 (by decide +kernel) rfl
theorem en45:Enters prog 45:=enters_of func45 (by decide +kernel) rfl
theorem en46:Enters prog 46:=enters_of func46 (by decide +kernel) rfl
theorem aav:Enters prog 47:=enters_of func47 (by decide +kernel) rfl
theorem aaw:Enters prog 48:=enters_of func48 (by decide +kernel) rfl
theorem W8:Enters prog 49:=enters_of func49 (by decide +kernel) rfl
theorem en50:Enters prog 50:=enters_of func50 (by decide +kernel) rfl
theorem en51:Enters prog 51:=enters_of func51 (by decide +kernel) rfl
theorem SD:Enters prog 52:=enters_of func52 (by decide +kernel) rfl
theorem W9:Enters prog 53:=enters_of func53 (by decide +kernel) rfl
theorem aax:Enters prog 54:=enters_of func54 (by decide +kernel) rfl
theorem SE:Enters prog 55:=enters_of func55 (by decide +kernel) rfl
theorem en56:Enters prog 56:=enters_of func56 (by decide +kernel) rfl
theorem aay:Enters prog 57:=enters_of func57 (by decide +kernel) rfl
theorem BM:Enters prog 58:=enters_of func58 (by decide +kernel) rfl
theorem G5:Enters prog 59:=enters_of func59 (by decide +kernel) rfl
theorem en60:Enters prog 60:=enters_of func60 (by decide +kernel) rfl
theorem aaz:Enters prog 61:=enters_of func61 (by decide +kernel) rfl
theorem en62:Enters prog 62:=enters_of func62 (by decide +kernel) rfl
theorem en63:Enters prog 63:=enters_of func63 (by decide +kernel) rfl
theorem aaA:Enters prog 64:=enters_of func64 (by decide +kernel) rfl
theorem en65:Enters prog 65:=enters_of func65 (by decide +kernel) rfl
theorem aaB:Enters prog 66:=enters_of func66 (by decide +kernel) rfl
theorem aaC:Enters prog 67:=enters_of func67 (by decide +kernel) rfl
theorem aaD:Enters prog 68:=enters_of func68 (by decide +kernel) rfl
theorem Xa:Enters prog 70:=enters_of func70 (by decide +kernel) rfl
theorem Xb:Enters prog 71:=enters_of func71 (by decide +kernel) rfl
theorem SG:Enters prog 72:=enters_of func72 (by decide +kernel) rfl
theorem Od:Enters prog 73:=enters_of func73 (by decide +kernel) rfl
theorem Xc:Enters prog 74:=enters_of func74 (by decide +kernel) rfl
theorem aaE:Enters prog 75:=enters_of func75 (by decide +kernel) rfl
theorem aaF:Enters prog 76:=enters_of func76 (by decide +kernel) rfl
theorem aaG:Enters prog 81:=enters_of func81 (by decide +kernel) rfl
theorem aaH:Enters prog 87:=enters_of func87 (by decide +kernel) rfl
theorem en88:Enters prog 88:=enters_of func88 (by decide +kernel) rfl
theorem aaI:Enters prog 94:=enters_of func94 (by decide +kernel) rfl
theorem en95:Enters prog 95:=enters_of func95 (by decide +kernel) rfl
theorem aaJ:Enters prog 96:=enters_of func96 (by decide +kernel) rfl
theorem JK:Enters prog 101:=enters_of func101 (by decide +kernel) rfl
theorem aaK:Enters prog 102:=enters_of func102 (by decide +kernel) rfl
theorem aaL:Enters prog 103:=enters_of func103 (by decide +kernel) rfl
theorem UF:Enters prog 104:=enters_of func104 (by decide +kernel) rfl
theorem Oe:Enters prog 105:=enters_of func105 (by decide +kernel) rfl
theorem UG:Enters prog 106:=enters_of func106 (by decide +kernel) rfl
theorem aaM:Enters prog 107:=enters_of func107 (by decide +kernel) rfl
theorem UH:Enters prog 108:=enters_of func108 (by decide +kernel) rfl
theorem UI:Enters prog 109:=enters_of func109 (by decide +kernel) rfl
theorem aaN:Enters prog 110:=enters_of func110 (by decide +kernel) rfl
theorem wo:Enters prog 111:=enters_of func111 (by decide +kernel) rfl
theorem Og:Enters prog 112:=enters_of func112 (by decide +kernel) rfl
theorem aaO:Enters prog 113:=enters_of func113 (by decide +kernel) rfl
theorem UJ:Enters prog 114:=enters_of func114 (by decide +kernel) rfl
theorem nS:Enters prog 115:=enters_of func115 (by decide +kernel) rfl
theorem DU:Enters prog 116:=enters_of func116 (by decide +kernel) rfl
theorem en117:Enters prog 117:=enters_of func117 (by decide +kernel) rfl
theorem UK:Enters prog 118:=enters_of func118 (by decide +kernel) rfl
theorem aaP:Enters prog 119:=enters_of func119 (by decide +kernel) rfl
theorem aaQ:Enters prog 120:=enters_of func120 (by decide +kernel) rfl
theorem aaR:Enters prog 121:=enters_of func121 (by decide +kernel) rfl
theorem UL:Enters prog 122:=enters_of func122 (by decide +kernel) rfl
theorem Oh:Enters prog 123:=enters_of func123 (by decide +kernel) rfl
theorem JL:Enters prog 124:=enters_of func124 (by decide +kernel) rfl
theorem UM:Enters prog 125:=enters_of func125 (by decide +kernel) rfl
theorem Oi:Enters prog 126:=enters_of func126 (by decide +kernel) rfl
theorem aaS:Enters prog 127:=enters_of func127 (by decide +kernel) rfl
theorem Oj:Enters prog 128:=enters_of func128 (by decide +kernel) rfl
theorem aaT:Enters prog 129:=enters_of func129 (by decide +kernel) rfl
theorem JN:Enters prog 130:=enters_of func130 (by decide +kernel) rfl
theorem Ol:Enters prog 131:=enters_of func131 (by decide +kernel) rfl
theorem aaU:Enters prog 132:=enters_of func132 (by decide +kernel) rfl
theorem zZ:Enters prog 133:=enters_of func133 (by decide +kernel) rfl
theorem aaV:Enters prog 134:=enters_of func134 (by decide +kernel) rfl
theorem UN:Enters prog 135:=enters_of func135 (by decide +kernel) rfl
theorem aaW:Enters prog 136:=enters_of func136 (by decide +kernel) rfl
theorem aaX:Enters prog 137:=enters_of func137 (by decide +kernel) rfl
theorem aaY:Enters prog 138:=enters_of func138 (by decide +kernel) rfl
theorem aaZ:Enters prog 139:=enters_of func139 (by decide +kernel) rfl
theorem UO:Enters prog 140:=enters_of func140 (by decide +kernel) rfl
theorem aa0:Enters prog 141:=enters_of func141 (by decide +kernel) rfl
theorem aa1:Enters prog 144:=enters_of func144 (by decide +kernel) rfl
theorem Om:Enters prog 145:=enters_of func145 (by decide +kernel) rfl
theorem On:Enters prog 146:=enters_of func146 (by decide +kernel) rfl
theorem z6:Enters prog 147:=enters_of func147 (by decide +kernel) rfl
theorem wu:Enters prog 148:=enters_of func148 (by decide +kernel) rfl
theorem JO:Enters prog 150:=enters_of func150 (by decide +kernel) rfl
theorem UP:Enters prog 151:=enters_of func151 (by decide +kernel) rfl
theorem JP:Enters prog 154:=enters_of func154 (by decide +kernel) rfl
theorem JQ:Enters prog 156:=enters_of func156 (by decide +kernel) rfl
theorem aa2:Enters prog 158:=enters_of func158 (by decide +kernel) rfl
theorem JR:Enters prog 166:=enters_of func166 (by decide +kernel) rfl
theorem aa3:Enters prog 167:=enters_of func167 (by decide +kernel) rfl
theorem wv:Enters prog 168:=enters_of func168 (by decide +kernel) rfl
theorem DW:Enters prog 169:=enters_of func169 (by decide +kernel) rfl
theorem aa4:Enters prog 185:=enters_of func185 (by decide +kernel) rfl
theorem aa5:Enters prog 186:=enters_of func186 (by decide +kernel) rfl
theorem aa6:Enters prog 187:=enters_of func187 (by decide +kernel) rfl
theorem aa7:Enters prog 188:=enters_of func188 (by decide +kernel) rfl
theorem Oo:Enters prog 190:=enters_of func190 (by decide +kernel) rfl
theorem aa8:Enters prog 191:=enters_of func191 (by decide +kernel) rfl
theorem aa9:Enters prog 192:=enters_of func192 (by decide +kernel) rfl
theorem Oq:Enters prog 193:=enters_of func193 (by decide +kernel) rfl
theorem Ot:Enters prog 194:=enters_of func194 (by decide +kernel) rfl
theorem UQ:Enters prog 195:=enters_of func195 (by decide +kernel) rfl
theorem aba:Enters prog 196:=enters_of func196 (by decide +kernel) rfl
theorem abb:Enters prog 197:=enters_of func197 (by decide +kernel) rfl
theorem UR:Enters prog 198:=enters_of func198 (by decide +kernel) rfl
theorem Ou:Enters prog 199:=enters_of func199 (by decide +kernel) rfl
theorem US:Enters prog 200:=enters_of func200 (by decide +kernel) rfl
theorem UT:Enters prog 201:=enters_of func201 (by decide +kernel) rfl
theorem UU:Enters prog 202:=enters_of func202 (by decide +kernel) rfl
theorem JS:Enters prog 203:=enters_of func203 (by decide +kernel) rfl
theorem JT:Enters prog 204:=enters_of func204 (by decide +kernel) rfl
theorem wx:Enters prog 205:=enters_of func205 (by decide +kernel) rfl
theorem abc:Enters prog 206:=enters_of func206 (by decide +kernel) rfl
theorem abd:Enters prog 207:=enters_of func207 (by decide +kernel) rfl
theorem UW:Enters prog 208:=enters_of func208 (by decide +kernel) rfl
theorem abe:Enters prog 209:=enters_of func209 (by decide +kernel) rfl
theorem JU:Enters prog 210:=enters_of func210 (by decide +kernel) rfl
theorem UX:Enters prog 211:=enters_of func211 (by decide +kernel) rfl
theorem UY:Enters prog 212:=enters_of func212 (by decide +kernel) rfl
theorem UZ:Enters prog 213:=enters_of func213 (by decide +kernel) rfl
theorem Ov:Enters prog 214:=enters_of func214 (by decide +kernel) rfl
theorem abf:Enters prog 215:=enters_of func215 (by decide +kernel) rfl
theorem U0:Enters prog 216:=enters_of func216 (by decide +kernel) rfl
theorem U1:Enters prog 218:=enters_of func218 (by decide +kernel) rfl
theorem DX:Enters prog 219:=enters_of func219 (by decide +kernel) rfl
theorem U2:Enters prog 220:=enters_of func220 (by decide +kernel) rfl
theorem abg:Enters prog 225:=enters_of func225 (by decide +kernel) rfl
theorem abh:Enters prog 231:=enters_of func231 (by decide +kernel) rfl
theorem U3:Enters prog 232:=enters_of func232 (by decide +kernel) rfl
theorem abj:Enters prog 240:=enters_of func240 (by decide +kernel) rfl
theorem abk:Enters prog 241:=enters_of func241 (by decide +kernel) rfl
theorem Ow:Enters prog 242:=enters_of func242 (by decide +kernel) rfl
theorem Ox:Enters prog 243:=enters_of func243 (by decide +kernel) rfl
theorem abl:Enters prog 244:=enters_of func244 (by decide +kernel) rfl
theorem U4:Enters prog 250:=enters_of func250 (by decide +kernel) rfl
theorem abm:Enters prog 251:=enters_of func251 (by decide +kernel) rfl
theorem eH:Enters prog 252:=enters_of func252 (by decide +kernel) rfl
theorem abn:Enters prog 253:=enters_of func253 (by decide +kernel) rfl
theorem abo:Enters prog 254:=enters_of func254 (by decide +kernel) rfl
theorem U5:Enters prog 255:=enters_of func255 (by decide +kernel) rfl
theorem U6:Enters prog 256:=enters_of func256 (by decide +kernel) rfl
theorem U7:Enters prog 257:=enters_of func257 (by decide +kernel) rfl
theorem abp:Enters prog 258:=enters_of func258 (by decide +kernel) rfl
theorem abq:Enters prog 259:=enters_of func259 (by decide +kernel) rfl
theorem abr:Enters prog 260:=enters_of func260 (by decide +kernel) rfl
theorem abt:Enters prog 261:=enters_of func261 (by decide +kernel) rfl
theorem Oy:Enters prog 262:=enters_of func262 (by decide +kernel) rfl
theorem abu:Enters prog 263:=enters_of func263 (by decide +kernel) rfl
theorem abv:Enters prog 264:=enters_of func264 (by decide +kernel) rfl
theorem abw:Enters prog 275:=enters_of func275 (by decide +kernel) rfl
theorem abx:Enters prog 276:=enters_of func276 (by decide +kernel) rfl
theorem Oz:Enters prog 277:=enters_of func277 (by decide +kernel) rfl
theorem gZ:Enters prog 278:=enters_of func278 (by decide +kernel) rfl
theorem aby:Enters prog 279:=enters_of func279 (by decide +kernel) rfl
theorem U8:Enters prog 280:=enters_of func280 (by decide +kernel) rfl
theorem OA:Enters prog 281:=enters_of func281 (by decide +kernel) rfl
theorem abz:Enters prog 282:=enters_of func282 (by decide +kernel) rfl
theorem U9:Enters prog 283:=enters_of func283 (by decide +kernel) rfl
theorem Va:Enters prog 303:=enters_of func303 (by decide +kernel) rfl
theorem abA:Enters prog 304:=enters_of func304 (by decide +kernel) rfl
theorem abB:Enters prog 305:=enters_of func305 (by decide +kernel) rfl
theorem abC:Enters prog 306:=enters_of func306 (by decide +kernel) rfl
theorem abD:Enters prog 307:=enters_of func307 (by decide +kernel) rfl
theorem OB:Enters prog 308:=enters_of func308 (by decide +kernel) rfl
theorem abE:Enters prog 309:=enters_of func309 (by decide +kernel) rfl
theorem Vb:Enters prog 310:=enters_of func310 (by decide +kernel) rfl
theorem abF:Enters prog 311:=enters_of func311 (by decide +kernel) rfl
theorem nT:Enters prog 317:=enters_of func317 (by decide +kernel) rfl
theorem OC:Enters prog 318:=enters_of func318 (by decide +kernel) rfl
theorem abG:Enters prog 319:=enters_of func319 (by decide +kernel) rfl
theorem abH:Enters prog 320:=enters_of func320 (by decide +kernel) rfl
theorem abI:Enters prog 321:=enters_of func321 (by decide +kernel) rfl
theorem OD:Enters prog 327:=enters_of func327 (by decide +kernel) rfl
theorem DY:Enters prog 328:=enters_of func328 (by decide +kernel) rfl
theorem abJ:Enters prog 329:=enters_of func329 (by decide +kernel) rfl
theorem OE:Enters prog 330:=enters_of func330 (by decide +kernel) rfl
theorem Vc:Enters prog 331:=enters_of func331 (by decide +kernel) rfl
theorem Vd:Enters prog 332:=enters_of func332 (by decide +kernel) rfl
theorem abK:Enters prog 333:=enters_of func333 (by decide +kernel) rfl
theorem Ve:Enters prog 334:=enters_of func334 (by decide +kernel) rfl
theorem abL:Enters prog 335:=enters_of func335 (by decide +kernel) rfl
theorem abM:Enters prog 336:=enters_of func336 (by decide +kernel) rfl
theorem abN:Enters prog 337:=enters_of func337 (by decide +kernel) rfl
theorem abO:Enters prog 338:=enters_of func338 (by decide +kernel) rfl
theorem abP:Enters prog 339:=enters_of func339 (by decide +kernel) rfl
theorem abQ:Enters prog 340:=enters_of func340 (by decide +kernel) rfl
theorem abR:Enters prog 341:=enters_of func341 (by decide +kernel) rfl
theorem abS:Enters prog 342:=enters_of func342 (by decide +kernel) rfl
theorem JV:Enters prog 353:=enters_of func353 (by decide +kernel) rfl
theorem abT:Enters prog 354:=enters_of func354 (by decide +kernel) rfl
theorem Vf:Enters prog 355:=enters_of func355 (by decide +kernel) rfl
theorem z7:Enters prog 356:=enters_of func356 (by decide +kernel) rfl
theorem abU:Enters prog 357:=enters_of func357 (by decide +kernel) rfl
theorem abV:Enters prog 358:=enters_of func358 (by decide +kernel) rfl
theorem abW:Enters prog 359:=enters_of func359 (by decide +kernel) rfl
theorem abX:Enters prog 360:=enters_of func360 (by decide +kernel) rfl
theorem abY:Enters prog 361:=enters_of func361 (by decide +kernel) rfl
theorem abZ:Enters prog 370:=enters_of func370 (by decide +kernel) rfl
theorem Vg:Enters prog 371:=enters_of func371 (by decide +kernel) rfl
theorem ab0:Enters prog 372:=enters_of func372 (by decide +kernel) rfl
theorem ab1:Enters prog 373:=enters_of func373 (by decide +kernel) rfl
theorem ab2:Enters prog 376:=enters_of func376 (by decide +kernel) rfl
theorem ab3:Enters prog 377:=enters_of func377 (by decide +kernel) rfl
theorem ab4:Enters prog 378:=enters_of func378 (by decide +kernel) rfl
theorem ab5:Enters prog 379:=enters_of func379 (by decide +kernel) rfl
end Go.Proofs.YtgjagnmeonoehaaGreat
namespace Go.Proofs.YtgjagnmeonoehaaGreat
open Go Go.RowKit Dv
structure Wd where
 s:ByteArray
 a:Int
structure Hd where
 ag:Int
 aG:Int
 lo:Int
 hi:Int
 most:Int
 af:List Wd
 name:Wd
structure Ph where
 name:Wd
 bare:Bool
 label:List Wd
 wide:Int
 ck:Int
 cn:Int
 ca:Int
 cl:List Wd
mutual
inductive Ty where
 | mk (h:Hd) (ps:Pts)
inductive Pts where
 | nil
 | cons (p:Ph) (t:Ty) (r:Pts)
end
def Ty.h:Ty->Hd | .mk h _=>h
def Ty.ps:Ty->Pts | .mk _ ps=>ps
def Pts.toList:Pts->List (Ph × Ty)
 | .nil=>[]
 | .cons p t r=>(p,t) :: r.toList
def Pts.len:Pts->Nat
 | .nil=>0
 | .cons _ _ r=>r.len + 1
theorem Pts.OG:∀ ps:Pts,ps.len=ps.toList.length
 | .nil=>rfl
 | .cons _ _ r=>by simp [Pts.len,Pts.toList,Pts.OG r]
def Wd.wt (w:Wd):Nat:=w.s.size + 64
def wdsWt:List Wd->Nat
 | []=>0
 | w :: r=>w.wt + wdsWt r
def Hd.wt (h:Hd):Nat:=256 + wdsWt h.af + h.name.wt
def Ph.wt (p:Ph):Nat:=256 + p.name.wt + wdsWt p.label + wdsWt p.cl
mutual
def Ty.wt:Ty->Nat
 | .mk h ps=>h.wt + ps.wt
def Pts.wt:Pts->Nat
 | .nil=>0
 | .cons p t r=>p.wt + t.wt + r.wt
end
theorem bu:∀ l:List Wd,64 * l.length<=wdsWt l
 | []=>aO _
 | w :: r=>by have:=bu r;simp only [List.length_cons,wdsWt,Wd.wt];omega
theorem jg:∀ {l:List Wd} {w:Wd},w∈l->w.s.size + 64<=wdsWt l
 | x :: r,w,h=>by
  rcases bp h with h | h
  ·subst h;simp only [wdsWt,Wd.wt];omega
  ·have:=jg h;simp only [wdsWt];omega
theorem Pts.gf:∀ ps:Pts,256 * ps.len<=ps.wt
 | .nil=>aO _
 | .cons p t r=>by have:=Pts.gf r;simp only [Pts.len,Pts.wt,Ph.wt];omega
theorem Pts.gN:∀ {ps:Pts} {p:Ph} {t:Ty},(p,t)∈ps.toList->p.wt + t.wt<=ps.wt
 | .cons p t r,q,u,h=>by
  rcases bp h with h | h
  ·cases h;simp only [Pts.wt];omega
  ·have:=Pts.gN h;simp only [Pts.wt];omega
theorem Ty.dz (t:Ty):256<=t.wt:=by
 cases t;simp only [Ty.wt,Hd.wt];omega
def kv (w:Wd):List DV:=[.v (.string w.s),.v (.int .i64 w.a)]
def bJ (l:List Wd):List (List DV):=l.map kv
def G6 (p:Ph) (tl:List DV):List DV:=
 .v (.string p.name.s) :: .v (.int .i64 p.name.a) :: .v (.bool p.bare) :: .sl 2 (bJ p.label) none :: .v (.int .i64 p.wide) :: .v (.int .i64 p.ck) :: .v (.int .i64 p.cn) :: .v (.int .i64 p.ca) :: .sl 2 (bJ p.cl) none :: tl
mutual
def eE:Ty->List DV
 | .mk h ps=>[.v (.int .i64 h.ag),.v (.int .i64 h.aG),.v (.int .i64 h.lo),.v (.int .i64 h.hi),.v (.int .i64 h.most),.sl 2 (bJ h.af) none,.sl 18 (gg ps) none,.v (.string h.name.s),.v (.int .i64 h.name.a)]
def gg:Pts->List (List DV)
 | .nil=>[]
 | .cons p t r=>G6 p (eE t) :: gg r
end
theorem aC (l:List Wd):(bJ l).length=l.length:=by simp [bJ]
theorem aJ:∀ ps:Pts,(gg ps).length=ps.len
 | .nil=>by simp [gg,Pts.len]
 | .cons p t r=>by simp [gg,Pts.len,aJ r]
theorem aV {l:List Wd} {j:Nat} {w:Wd} (h:l[j]? = some w):(bJ l)[j]? = some (kv w):=by simp [bJ,h]
theorem z8 {l:List Wd} {e:Nat} {x:Wd} (h:l[e]? = some x):bJ (l.take e) ++ [kv x]=bJ (l.take (e + 1)):=by
 rw [List.take_add_one,h];simp [bJ]
theorem bW:∀ {ps:Pts} {j:Nat} {p:Ph} {t:Ty},ps.toList[j]? = some (p,t)->(gg ps)[j]? = some (G6 p (eE t))
 | .nil,j,p,t,h=>by simp [Pts.toList] at h
 | .cons q u r,0,p,t,h=>by
  simp only [Pts.toList,List.getElem?_cons_zero,oI,Prod.mk.injEq] at h;obtain ⟨rfl,rfl⟩:=h;simp [gg]
 | .cons q u r,j + 1,p,t,h=>by
  simp only [Pts.toList,List.getElem?_cons_succ] at h;simp only [gg,List.getElem?_cons_succ];exact bW h
def Pts.drop:Nat->Pts->Pts
 | 0,ps=>ps
 | _ + 1,.nil=>.nil
 | e + 1,.cons _ _ r=>r.drop e
theorem Pts.drop_cons:∀ {e:Nat} {ps:Pts} {p:Ph} {t:Ty},ps.toList[e]? = some (p,t)->ps.drop e = .cons p t (ps.drop (e + 1))
 | 0,.cons q u r,p,t,h=>by
  simp only [Pts.toList,List.getElem?_cons_zero,oI,Prod.mk.injEq] at h;obtain ⟨rfl,rfl⟩:=h;rfl
 | e + 1,.cons q u r,p,t,h=>by
  simp only [Pts.toList,List.getElem?_cons_succ] at h;simp only [Pts.drop];exact Pts.drop_cons h
 | 0,.nil,p,t,h=>by simp [Pts.toList] at h
 | e + 1,.nil,p,t,h=>by simp [Pts.toList] at h
theorem Pts.dC:∀ (ps:Pts),ps.drop ps.len = .nil
 | .nil=>rfl
 | .cons _ _ r=>by simp only [Pts.len,Pts.drop];exact Pts.dC r
theorem Pts.eZ {ps:Pts} {e:Nat} (h:e < ps.len):∃ p t,ps.toList[e]? = some (p,t):=by
 rw [Pts.OG] at h;exact ⟨_,_,gE h⟩
theorem drop_cons {α:Type} {l:List α} {e:Nat} {x:α} (h:l[e]? = some x):l.drop e=x :: l.drop (e + 1):=by
 obtain ⟨h1,h2⟩:=List.getElem?_eq_some_iff.1 h;rw [<- h2];exact List.drop_eq_getElem_cons h1
def au:ByteArray:=⟨#[]⟩
def OH:Hd:=⟨0,0,0,0,0,[],⟨au,0⟩⟩
def cf:Ty:=.mk OH .nil
def fo:Ph:=⟨⟨au,0⟩,false,[],0,0,0,0,[]⟩
def fJ:Ph:=⟨⟨au,0⟩,true,[],0,0,0,0,[]⟩
theorem nxt {e n:Nat} (h:e < n) (hn:n<=4611686018427387904):IntKind.i64.wrap ((e:Int) + 1)=((e + 1:Nat):Int):=by
 rw [IntWalk.i64_in _ ⟨by omega,by omega⟩];omega
theorem wrap64 {n:Int} (h1 : -9223372036854775808<=n) (h2:n<=9223372036854775807):IntKind.i64.wrap n=n:=IntWalk.i64_in n ⟨h1,h2⟩
theorem pickB_and (x a:Bool):pickB x a false=(x && a):=by cases x<;>rfl
theorem ap (x b:Bool):pickB x true b=(x || b):=by cases x<;>rfl
end Go.Proofs.YtgjagnmeonoehaaGreat
set_option maxRecDepth 100000
namespace Go.Proofs.YtgjagnmeonoehaaGreat
open Go Go.RowKit Dv Go.Proofs.Tryz
def isLet (c:Int):Bool:=decide (97<=c) && decide (c<=122)
def jh (c:Int):Bool:=(isLet c || (decide (48<=c) && decide (c<=57))) || decide (c=95)
def signs:List UInt8->Nat
 | []=>0
 | c :: r=>if jh c.toNat=true then signs r + 1 else 0
def ej:List UInt8->Nat
 | []=>0
 | c :: r=>if isLet c.toNat=true then signs r + 1 else 0
def bd (s:ByteArray):Bool:=decide (0 < s.size) && (decide (s.size<=32) && decide (ej s.data.toList=s.size))
theorem DZ {c:Int} (h:isLet c=true):jh c=true:=by simp [jh,h]
theorem D0:∀ l:List UInt8,signs l<=l.length
 | []=>aO _
 | c :: r=>by
  simp only [signs,List.length_cons];split
  ·have:=D0 r;omega
  ·omega
theorem wy {c:UInt8} {r:List UInt8} (h:isLet c.toNat=true):ej (c :: r)=signs (c :: r):=by
 simp [ej,signs,h,DZ h]
theorem sJ {s:ByteArray} {k:Nat} (h:k < s.size):∃ c:UInt8,s.data.toList.drop k=c :: s.data.toList.drop (k + 1)/\dE s k=c.toNat:=by
 have hk:k < s.data.toList.length:=sU h;refine ⟨s.data.toList[k],by rw [<- List.drop_eq_getElem_cons hk],?_⟩;simp [dE,cH,gE hk]
theorem wz {s:ByteArray} {k:Nat} (h:s.size<=k):s.data.toList.drop k=[]:=List.drop_eq_nil_of_le (sU h)
theorem tV (c:Int):EvP prog 250 [.v (.int .u8 c)] (.v (.bool (isLet c))):=by
 refine eG 9 [.tmp 2] func250 rfl ntmps250 rfl fun _ _ _ _=>?_;exact (congrArg (fun b=>DV.v (.bool b)) (pickB_and _ _):_=_)
theorem Ln (c:Int):EvP prog 251 [.v (.int .u8 c)] (.v (.bool (jh c))):=by
 refine eG 17 [.tmp 2] func251 rfl ntmps251 rfl fun _ _ _ _=>?_;refine cP U4 (tV c) ?_;refine (aae ?_:);simp only [pickB_and,ap,jh]
abbrev G7 (s:ByteArray) (i e:Nat):St:=⟨[aaa 5 e,(0,⟨[],.v (.string s)⟩),aaa 1 i],[],[]⟩
theorem BN (s:ByteArray) (i:Nat):s.extract i (i + 0)=⟨#[]⟩:=by
 apply ByteArray.ext;simp only [Nat.add_zero,ByteArray.extract,ByteArray.copySlice];apply Array.ext';simp
theorem Lo (s:ByteArray) (i:Nat) (hi:i < s.size) (hs:s.size<=4611686018427387904):EvP prog 198 [.v (.string s),.v (.int .i64 i)]
  (.tup [.v (.string (s.extract i (i + ej (s.data.toList.drop i)))),.v (.int .i64 ((i + ej (s.data.toList.drop i):Nat):Int))]):=by
 obtain ⟨c0,Aa,gv⟩:=sJ hi;refine eG 38 [.tmp 4,.tmp 5] func198 rfl ntmps198 rfl fun _ _ _ _=>?_;refine br (fun h=>?_) (fun _=>?_)
 ·simp [ap] at h;omega
 refine ⟨⟨by omega,by omega⟩,?_⟩;refine cP U4 (tV _) ?_;refine br ?_ ?_<;>intro h
 ·have hl:isLet (c0.toNat:Int)=false:=by
   have:(!isLet ((dE s i:Nat):Int))=true:=h;rw [gv] at this;simpa using this
  have hn:ej (s.data.toList.drop i)=0:=by rw [Aa];simp [ej,hl]
  rw [hn,BN];exact ⟨_,ax,rfl⟩
 have hl:isLet (c0.toNat:Int)=true:=by
  have:(!isLet ((dE s i:Nat):Int))=false:=h;rw [gv] at this;simpa using this
 have hn:ej (s.data.toList.drop i)=signs (s.data.toList.drop i):=by rw [Aa];exact wy hl
 rw [hn]
 refine aT (fun j st=>∃ e:Nat,st=G7 s i e/\e<=s.size/\i<=e/\e + signs (s.data.toList.drop e)=i + signs (s.data.toList.drop i)/\j=s.size - e)
  (s.size - i) (G7 s i i) (wkM wB) ⟨i,rfl,by omega,by omega,rfl,rfl⟩ ?_
 rintro j st ⟨e,rfl,he,D1,hinv,rfl⟩;refine br ?_ ?_<;>intro h
 ·have aq:e < s.size:=sU h;refine ⟨⟨by omega,by omega⟩,?_⟩;refine cP abm (Ln _) ?_;obtain ⟨c,hd,hb⟩:=sJ aq;refine br ?_ ?_<;>intro h2
  ·have hsg:jh (c.toNat:Int)=true:=by
    have:jh ((dE s e:Nat):Int)=true:=h2
    rwa [hb] at this
   refine ⟨G7 s i (e + 1),(wkM (wB1 (nxt aq (by omega)))),s.size - (e + 1),by omega,e + 1,rfl,by omega,by omega,?_,rfl⟩;rw [hd] at hinv;simp only [signs,hsg,if_true] at hinv;omega
  ·have hsg:jh (c.toNat:Int)=false:=by
    have:jh ((dE s e:Nat):Int)=false:=h2
    rwa [hb] at this
   rw [hd] at hinv;simp only [signs,hsg] at hinv;refine ⟨⟨by omega,by omega,by omega⟩,?_⟩;have:i + signs (s.data.toList.drop i)=e:=by simp at hinv;omega
   rw [this];exact ⟨_,ax,rfl⟩
 ·have aS:e=s.size:=by simp at h;omega
  rw [wz (by omega)] at hinv;simp only [signs] at hinv;refine ⟨⟨by omega,by omega,by omega⟩,?_⟩;have:i + signs (s.data.toList.drop i)=e:=by omega
  rw [this];exact ⟨_,ax,rfl⟩
theorem take_nil (s:ByteArray) (hs:s.size=0):EvP prog 198 [.v (.string s),.v (.int .i64 0)] (.tup [.v (.string ⟨#[]⟩),.v (.int .i64 0)]):=by
 refine eG 38 [.tmp 4,.tmp 5] func198 rfl ntmps198 rfl fun _ _ _ _=>?_;refine br (fun _=>?_) (fun h=>?_)
 ·exact ⟨_,ax,rfl⟩
 ·simp [ap,hs] at h
theorem G8 (l:List UInt8):ej l<=l.length:=by
 cases l with
 | nil=>exact aO _
 | cons c r=>
  simp only [ej,List.length_cons];split
  ·have:=D0 r;omega
  ·omega
theorem D2 (s:ByteArray):decide (s=⟨#[]⟩)=decide (s.size=0):=by
 rw [Bool.eq_iff_iff];simp only [decide_eq_true_eq];constructor
 ·rintro rfl;rfl
 ·intro h;apply ByteArray.ext;exact Array.eq_empty_of_size_eq_zero h
theorem ji (s:ByteArray) (hs:s.size<=4611686018427387904):EvP prog 111 [.v (.string s)] (.v (.bool (bd s))):=by
 refine eG 22 [.tmp 2] func111 rfl ntmps111 rfl fun _ _ _ _=>?_;by_cases h0:s.size=0
 ·refine cP UR (take_nil s h0) ?_;refine (aae ?_:);simp [pickB_and,bd,D2,h0]
 ·refine cP UR (Lo s 0 (by omega) hs) ?_;refine (aae ?_:);have hl:=G8 s.data.toList;simp only [Array.length_toList,ByteArray.size_data] at hl;simp only [pickB_and,bd,D2,List.drop_zero,Nat.zero_add];rw [Bool.eq_iff_iff];simp only [aD,decide_eq_true_eq,Bool.not_eq_true',decide_eq_false_iff_not];omega
abbrev BO (s:ByteArray) (i n e:Nat):St:=⟨[aaa 5 n,aaa 6 e,(0,⟨[],.v (.string s)⟩),aaa 1 i],[],[]⟩
theorem D3 (s:ByteArray) (hs:s.size<=4611686018427387904):EvP prog 225 [.v (.string s),.v (.int .i64 0)] (.v (.int .i64 (ej s.data.toList))):=by
 refine eG 47 [.tmp 4] func225 rfl ntmps225 rfl fun _ _ _ _=>?_
 refine aT (fun j st=>∃ e:Nat,st=BO s 0 e e/\e<=s.size/\(e=0∨e + signs (s.data.toList.drop e)=ej s.data.toList)/\j=s.size - e)
  s.size (BO s 0 0 0) (wkM wB) ⟨0,rfl,by omega,.inl rfl,rfl⟩ ?_
 rintro j st ⟨e,rfl,he,hinv,rfl⟩;refine br ?_ ?_<;>intro h
 ·have aq:e < s.size:=sU h;refine ⟨⟨by omega,by omega⟩,?_⟩;obtain ⟨c,hd,hb⟩:=sJ aq
  have key:ej s.data.toList=if (e=0/\isLet (c.toNat:Int)=true)∨(e≠0/\jh (c.toNat:Int)=true) then (e + 1) + signs (s.data.toList.drop (e + 1)) else e:=by
   by_cases h0:e=0
   ·subst h0;simp only [List.drop_zero] at hd;have hk:ej s.data.toList=if isLet (c.toNat:Int)=true then signs (s.data.toList.drop (0 + 1)) + 1 else 0:=congrArg ej hd
    rw [hk];by_cases hl:isLet (c.toNat:Int)=true
    ·rw [ai hl,ai (.inl ⟨rfl,hl⟩)];omega
    ·rw [ah hl,ah (by simp [hl])]
   ·have qz:=hinv.resolve_left h0;rw [hd] at qz;simp only [signs] at qz;by_cases hl:jh (c.toNat:Int)=true
    ·rw [ai hl] at qz;rw [ai (.inr ⟨h0,hl⟩)];omega
    ·rw [ah hl] at qz;rw [ah (by simp [hl,h0])];omega
  refine br ?_ ?_<;>intro h2
  ·have eO:dE s ((e:Int).toNat)=c.toNat:=hb;rw [eO] at h2
   have:ej s.data.toList=e:=by
    rw [key,ah];simp only [pickB_and,ap,jh,isLet] at h2 ⊢;simp at h2 ⊢;omega
   rw [this];exact (rfl:_=_)
  ·have eO:dE s ((e:Int).toNat)=c.toNat:=hb;rw [eO] at h2;refine ⟨BO s 0 (e + 1) (e + 1),(wkM (wB1 (nxt aq (by omega)))),s.size - (e + 1),by omega,e + 1,rfl,by omega,.inr ?_,rfl⟩;rw [key,ai];simp only [pickB_and,ap,jh,isLet] at h2 ⊢;simp at h2 ⊢;omega
 ·have aS:e=s.size:=by simp at h;omega
  have:ej s.data.toList=e:=by
   rcases hinv with h0 | h0
   ·subst h0;have:s.data.toList=[]:=by rw [<- List.drop_zero (l:=s.data.toList)];exact wz (by omega)
    rw [this];all_goals rfl
   ·rw [wz (by omega)] at h0;simp only [signs] at h0;omega
  rw [this];exact (rfl:_=_)
theorem kZ (s:ByteArray) (hs:s.size<=4611686018427387904):EvP prog 154 [.v (.string s)] (.v (.bool (bd s))):=by
 refine eG 18 [.tmp 2] func154 rfl ntmps154 rfl fun _ _ _ _=>?_;refine br ?_ ?_<;>intro h
 ·refine cP abg (D3 s hs) ?_;refine (aae ?_:);rw [Bool.eq_iff_iff];simp [pickB_and] at h;simp [pickB_and,bd];omega
 ·refine (aae ?_:);rw [Bool.eq_iff_iff];simp [pickB_and] at h;simp [pickB_and,bd];omega
def fh (l:List ByteArray):List (List DV):=l.map fun s=>[.v (.string s)]
def dInts (l:List Nat):List (List DV):=l.map fun (i:Nat)=>[.v (.int .i64 (i:Int))]
theorem cr (l:List ByteArray):(fh l).length=l.length:=by simp [fh]
theorem bw (l:List Nat):(dInts l).length=l.length:=by simp [dInts]
theorem fT {l:List ByteArray} {j:Nat} {x:ByteArray} (h:l[j]? = some x):(fh l)[j]? = some [.v (.string x)]:=by simp [fh,h]
theorem eI {l:List Nat} {j:Nat} {x:Nat} (h:l[j]? = some x):(dInts l)[j]? = some [.v (.int .i64 (x:Int))]:=by simp [dInts,h]
abbrev G9 (g:Nat) (cb:List DV) (i j:Nat):St:=⟨[(1,⟨[],.fn g [] cb⟩),aaa 5 i,aaa 6 j],[],[]⟩
theorem tW (g:Nat) (j2:Enters prog g) (cb:List DV) (n m:Nat) (hn:n<=1099511627776) (hm:m<=n) (JW:CcL [] 0 0 0 cb cb) (fY:clB.clL 0 0 cb=true)
  (hp:∀ i:Nat,i < n->EvP prog g (.v (.int .i64 i) :: cb) (.v (.bool (decide (m<=i))))) :
  EvP prog 200 [.v (.int .i64 n),.fn g [] cb] (.v (.int .i64 m)):=by
 refine eG 26 [.tmp 4] func200 rfl ntmps200 rfl fun _ _ _ _=>?_;have Dc:clB 0 0 (.fn g [] cb)=true:=by simp only [clB,aD];exact ⟨rfl,fY⟩
 refine lI (fun j st=>∃ a b:Nat,st=G9 g cb a b/\a<=m/\m<=b/\b<=n/\j=b - a) ⟨0,n,rfl,by omega,by omega,by omega,rfl⟩ (wkM (wB1 Dc)) ?_;rintro j st ⟨a,b,rfl,h1,h2,h3,rfl⟩;refine br ?_ ?_<;>intro h
 ·have aq:a < b:=sU h
  have Xd:IntKind.i64.wrap ((IntKind.u64.wrap (IntKind.i64.wrap ((a:Int) + (b:Int)))).fdiv (2 ^ (min ((1:Int).toNat) IntKind.u64.bits)))=(((a + b) / 2:Nat):Int):=by
   rw [wrap64 (n:=(a:Int) + (b:Int)) (by omega) (by omega),IntKind.wrap_u64];have e2:(2:Int) ^ (min ((1:Int).toNat) IntKind.u64.bits)=2:=by decide
   rw [e2,Int.fdiv_eq_ediv_of_nonneg _ (by decide),wrap64 (by omega) (by omega)];omega
  refine ⟨by decide,?_⟩;refine cP j2 (hp ((a + b) / 2) (by omega)) ?_ ⟨_,_,rfl,congrArg (fun z=>DV.v (.int .i64 z)) Xd,JW⟩;refine br ?_ ?_<;>intro hq
  ·have hq:(a + b) / 2 < m:=sU hq;have Dx:=nxt (e:=(a + b) / 2) (n:=n) (by omega) (by omega);rw [<- Xd] at Dx;refine ⟨G9 g cb ((a + b) / 2 + 1) b,(wkM (gw Dc Dx)),b - ((a + b) / 2 + 1),by omega,(a + b) / 2 + 1,b,rfl,by omega,by omega,by omega,rfl⟩
  ·have hq:m<=(a + b) / 2:=sU hq;refine ⟨G9 g cb a ((a + b) / 2),(wkM (gw Dc Xd)),(a + b) / 2 - a,by omega,a,(a + b) / 2,rfl,by omega,by omega,by omega,rfl⟩
 ·have aS:¬ a < b:=sU h;have:a=m:=by omega
  subst this;exact (rfl:_=_)
def zo (a b:ByteArray):Bool:=Op.bytesLess a.data.toList b.data.toList
theorem lz:∀ l:List UInt8,Op.bytesLess l l=false
 | []=>rfl
 | a :: r=>by simp [Op.bytesLess,lz r]
theorem kx:∀ {a b:List UInt8},Op.bytesLess a b=true->Op.bytesLess b a=false
 | _,[],h=>by simp [Op.bytesLess] at h
 | [],b :: r,_=>rfl
 | a :: x,b :: y,h=>by
  simp only [Op.bytesLess,Bool.or_eq_true,decide_eq_true_eq,aD,beq_iff_eq] at h;simp only [Op.bytesLess,Bool.or_eq_false_iff,decide_eq_false_iff_not,Bool.and_eq_false_imp,beq_iff_eq];rcases h with h | ⟨rfl,h⟩
  ·refine ⟨fun h2=>?_,fun h2=>?_⟩
   ·exact absurd (UInt8.lt_trans h h2) (UInt8.lt_irrefl _)
   ·subst h2;exact absurd h (UInt8.lt_irrefl _)
  ·exact ⟨UInt8.lt_irrefl _,fun _=>kx h⟩
structure iR (L:List ByteArray) (aE:List Nat):Prop where
 lt:∀ (i p:Nat),aE[i]? = some p->p < L.length
 srt:∀ (i j p q:Nat) (s t:ByteArray),i < j->aE[i]? = some p->aE[j]? = some q->L[p]? = some s->L[q]? = some t->zo s t=true
 fst:∀ (i p j:Nat) (s:ByteArray),aE[i]? = some p->L[p]? = some s->L[j]? = some s->p<=j
 all:∀ (j:Nat) (s:ByteArray),L[j]? = some s->∃ i p:Nat,aE[i]? = some p/\L[p]? = some s
abbrev dh (L:List ByteArray) (aE:List Nat):List DV:=[.sl 1 (fh L) none,.sl 1 (dInts aE) none]
theorem wE (L:List ByteArray) (aE:List Nat) (s:ByteArray) (i p:Nat) (t:ByteArray) (hi:aE[i]? = some p) (hp:L[p]? = some t) :
  EvP prog 201 [.v (.int .i64 i),.pt [.pt (dh L aE) 0] 0,.pt [.v (.string s)] 0] (.v (.bool (!zo t s))):=by
 refine eG 20 [.tmp 4] func201 rfl ntmps201 rfl fun _ _ _ _=>?_;refine dI ?_;refine iX (eI hi) ?_;refine iX (fT hp) ?_;exact (rfl:_=_)
theorem find_spec (L:List ByteArray) (aE:List Nat) (s:ByteArray) (q p:Nat) (hT:iR L aE) (hl:aE.length<=1099511627776) (hq:aE[q]? = some p) (hp:L[p]? = some s) :
  EvP prog 115 [.pt (dh L aE) 0,.v (.string s)] (.tup [.v (.int .i64 p),.v (.bool true)]):=by
 have hqlt:=(gS hq).1;refine eG 47 [.tmp 4,.tmp 5] func115 rfl ntmps115 rfl fun _ _ _ _=>?_
 have fY:∀ i:Nat,i < aE.length->EvP prog 201 [.v (.int .i64 i),.pt [.pt (dh L aE) 0] 0,.pt [.v (.string s)] 0] (.v (.bool (decide (q<=i)))):=by
  intro i hi;obtain ⟨p',qU⟩:∃ p',aE[i]? = some p':=⟨_,gE hi⟩;obtain ⟨t,ht⟩:∃ t,L[p']? = some t:=⟨_,gE (hT.lt i p' qU)⟩;have:=wE L aE s i p' t qU ht
  have e:(!zo t s)=decide (q<=i):=by
   rcases Nat.lt_trichotomy i q with h | h | h
   ·rw [hT.srt i q p' p t s h qU hq ht hp];simp;omega
   ·subst h;rw [hq] at qU;simp only [oI] at qU;subst qU;rw [hp] at ht;simp only [oI] at ht;subst ht;rw [zo,lz];simp
   ·have h2:=hT.srt q i p p' s t h hq qU hp ht;rw [zo,kx h2];simp;omega
  rw [e] at this;exact this
 have hS:=tW 201 UT [.pt [.pt (dh L aE) 0] 0,.pt [.v (.string s)] 0] aE.length q hl (by omega) ax rfl fY;refine BL US hS (qA (bw aE)) rfl ?_;refine dI ?_;refine br ?_ ?_<;>intro h
 ·refine iX (eI hq) ?_;refine iX (fT hp) ?_;refine br ?_ ?_<;>intro h2
  ·exfalso;simp [ap,bw] at h2
  ·refine iX (eI hq) ?_;exact ⟨_,ax,rfl⟩
 ·exfalso;have:decide ((q:Int)=((dInts aE).length:Int))=true:=sU h;simp [bw] at this;omega
end Go.Proofs.YtgjagnmeonoehaaGreat
set_option maxRecDepth 100000
namespace Go.Proofs
open Go.Shelf
def Tryz.laysGg6_ren:Go.Shelf.Ren:=⟨fun | 6=>188 | 10=>245 | 11=>246 | 12=>247 | 13=>248 | 14=>249 | 24=>293 | 25=>294 | 26=>295 | 27=>296 | 28=>297 | 29=>298 | 30=>299 | 31=>300 | 32=>301 | 33=>302 | 34=>322 | 35=>323 | 36=>324 | 37=>325 | 38=>326 | 39=>352 | n=>n,fun | 20=>20 | 26=>182 | 35=>341 | 0=>0 | 37=>343 | 3=>3 | 41=>346 | 44=>349 | 49=>384 | 51=>295 | 4=>4 | 54=>387 | 53=>386 | 58=>219 | 5=>5 | 9=>9 | 60=>406 | 64=>410 | 66=>430 | 67=>104 | 17=>17 | 32=>316 | 33=>339 | 82=>459 | 12=>12 | 75=>453 | 76=>454 | 77=>455 | 78=>258 | 79=>456 | 80=>457 | n=>n,fun | n=>n⟩
theorem Tryz.laysGg6:Go.Proofs.LaysGg.n6 prog Tryz.laysGg6_ren:={
 mixed:=by kernel_rfl
 f6:=func188.trans (congrArg some (by kernel_rfl))
 f10:=func245.trans (congrArg some (by kernel_rfl))
 f11:=func246.trans (congrArg some (by kernel_rfl))
 f12:=func247.trans (congrArg some (by kernel_rfl))
 f13:=func248.trans (congrArg some (by kernel_rfl))
 f14:=func249.trans (congrArg some (by kernel_rfl))
 f24:=func293.trans (congrArg some (by kernel_rfl))
 f25:=func294.trans (congrArg some (by kernel_rfl))
 f26:=func295.trans (congrArg some (by kernel_rfl))
 f27:=func296.trans (congrArg some (by kernel_rfl))
 f28:=func297.trans (congrArg some (by kernel_rfl))
 f29:=func298.trans (congrArg some (by kernel_rfl))
 f30:=func299.trans (congrArg some (by kernel_rfl))
 f31:=func300.trans (congrArg some (by kernel_rfl))
 f32:=func301.trans (congrArg some (by kernel_rfl))
 f33:=func302.trans (congrArg some (by kernel_rfl))
 f34:=func322.trans (congrArg some (by kernel_rfl))
 f35:=func323.trans (congrArg some (by kernel_rfl))
 f36:=func324.trans (congrArg some (by kernel_rfl))
 f37:=func325.trans (congrArg some (by kernel_rfl))
 f38:=func326.trans (congrArg some (by kernel_rfl))
 f39:=func352.trans (congrArg some (by kernel_rfl))
 t0:=Tryz.underlying0
 a0:=Tryz.isAgg0
 z0:=Tryz.sizeOf0
 v0:=Tryz.zeroValue0
 i0:=by kernel_rfl
 t3:=Tryz.underlying3
 a3:=Tryz.isAgg3
 z3:=Tryz.sizeOf3
 v3:=Tryz.zeroValue3
 i3:=by kernel_rfl
 t4:=Tryz.underlying4
 a4:=Tryz.isAgg4
 z4:=Tryz.sizeOf4
 v4:=Tryz.zeroValue4
 i4:=by kernel_rfl
 t5:=Tryz.underlying5
 a5:=Tryz.isAgg5
 z5:=Tryz.sizeOf5
 v5:=Tryz.zeroValue5
 i5:=by kernel_rfl
 t9:=Tryz.underlying9
 a9:=Tryz.isAgg9
 z9:=Tryz.sizeOf9
 v9:=Tryz.zeroValue9
 i9:=by kernel_rfl
 t12:=Tryz.underlying12
 a12:=Tryz.isAgg12
 z12:=Tryz.sizeOf12
 v12:=Tryz.zeroValue12
 i12:=by kernel_rfl
 t17:=Tryz.underlying17
 a17:=Tryz.isAgg17
 z17:=Tryz.sizeOf17
 v17:=Tryz.zeroValue17
 i17:=by kernel_rfl
 t20:=Tryz.underlying20
 a20:=Tryz.isAgg20
 z20:=Tryz.sizeOf20
 v20:=Tryz.zeroValue20
 i20:=by kernel_rfl
 t26:=Tryz.underlying182
 a26:=Tryz.isAgg182
 z26:=Tryz.sizeOf182
 v26:=Tryz.zeroValue182
 i26:=by kernel_rfl
 t32:=Tryz.underlying316
 a32:=Tryz.isAgg316
 z32:=Tryz.sizeOf316
 v32:=Tryz.zeroValue316
 i32:=by kernel_rfl
 t33:=Tryz.underlying339
 a33:=Tryz.isAgg339
 z33:=Tryz.sizeOf339
 v33:=Tryz.zeroValue339
 i33:=by kernel_rfl
 t35:=Tryz.underlying341
 a35:=Tryz.isAgg341
 z35:=Tryz.sizeOf341
 v35:=Tryz.zeroValue341
 i35:=by kernel_rfl
 t37:=Tryz.underlying343
 a37:=Tryz.isAgg343
 z37:=Tryz.sizeOf343
 v37:=Tryz.zeroValue343
 i37:=by kernel_rfl
 t41:=Tryz.underlying346
 a41:=Tryz.isAgg346
 z41:=Tryz.sizeOf346
 v41:=Tryz.zeroValue346
 i41:=by kernel_rfl
 t44:=Tryz.underlying349
 a44:=Tryz.isAgg349
 z44:=Tryz.sizeOf349
 v44:=Tryz.zeroValue349
 i44:=by kernel_rfl
 t49:=Tryz.underlying384
 a49:=Tryz.isAgg384
 z49:=Tryz.sizeOf384
 v49:=Tryz.zeroValue384
 i49:=by kernel_rfl
 t51:=Tryz.underlying295
 a51:=Tryz.isAgg295
 z51:=Tryz.sizeOf295
 v51:=Tryz.zeroValue295
 i51:=by kernel_rfl
 t53:=Tryz.underlying386
 a53:=Tryz.isAgg386
 z53:=Tryz.sizeOf386
 v53:=Tryz.zeroValue386
 i53:=by kernel_rfl
 t54:=Tryz.underlying387
 a54:=Tryz.isAgg387
 z54:=Tryz.sizeOf387
 v54:=Tryz.zeroValue387
 i54:=by kernel_rfl
 t58:=Tryz.underlying219
 a58:=Tryz.isAgg219
 z58:=Tryz.sizeOf219
 v58:=Tryz.zeroValue219
 i58:=by kernel_rfl
 t60:=Tryz.underlying406
 a60:=Tryz.isAgg406
 z60:=Tryz.sizeOf406
 v60:=Tryz.zeroValue406
 i60:=by kernel_rfl
 t64:=Tryz.underlying410
 a64:=Tryz.isAgg410
 z64:=Tryz.sizeOf410
 v64:=Tryz.zeroValue410
 i64:=by kernel_rfl
 t66:=Tryz.underlying430
 a66:=Tryz.isAgg430
 z66:=Tryz.sizeOf430
 v66:=Tryz.zeroValue430
 i66:=by kernel_rfl
 t67:=Tryz.underlying104
 a67:=Tryz.isAgg104
 z67:=Tryz.sizeOf104
 v67:=Tryz.zeroValue104
 i67:=by kernel_rfl
 t75:=Tryz.underlying453
 a75:=Tryz.isAgg453
 z75:=Tryz.sizeOf453
 v75:=Tryz.zeroValue453
 i75:=by kernel_rfl
 t76:=Tryz.underlying454
 a76:=Tryz.isAgg454
 z76:=Tryz.sizeOf454
 v76:=Tryz.zeroValue454
 i76:=by kernel_rfl
 t77:=Tryz.underlying455
 a77:=Tryz.isAgg455
 z77:=Tryz.sizeOf455
 v77:=Tryz.zeroValue455
 i77:=by kernel_rfl
 t78:=Tryz.underlying258
 a78:=Tryz.isAgg258
 z78:=Tryz.sizeOf258
 v78:=Tryz.zeroValue258
 i78:=by kernel_rfl
 t79:=Tryz.underlying456
 a79:=Tryz.isAgg456
 z79:=Tryz.sizeOf456
 v79:=Tryz.zeroValue456
 i79:=by kernel_rfl
 t80:=Tryz.underlying457
 a80:=Tryz.isAgg457
 z80:=Tryz.sizeOf457
 v80:=Tryz.zeroValue457
 i80:=by kernel_rfl
 t82:=Tryz.underlying459
 a82:=Tryz.isAgg459
 z82:=Tryz.sizeOf459
 v82:=Tryz.zeroValue459
 i82:=by kernel_rfl }
end Go.Proofs
namespace Go.Proofs.YtgjagnmeonoehaaGreat
open Go Go.RowKit Go.Lib Go.Sort Go.Proofs.Tryz
noncomputable def siT:TypeInfo:=(prog.info? 82).get (by kernel_rfl)
noncomputable def Zi:TypeInfo:=(prog.info? 3).get (by kernel_rfl)
theorem siK (n:Nat) (h2:2<=n):Lib.swapperK n Zi 2=5:=by
 have a:Zi.hasPointers=false:=by kernel_rfl
 have b:Zi.bytes=8:=by kernel_rfl
 have c:(n == 0)=false:=by simp;omega
 have d:(n == 1)=false:=by simp;omega
 simp [Lib.swapperK,a,b,c,d]
theorem OI {α:Type} [Inhabited α] (enc:α->Value) (h1:∀ x,(enc x).oneCell'=true) {lt:α->α->Bool} (hO:SWO lt) (lb:Array Value) (Gw c:Nat) (d:Array α) (h2:2<=d.size) (bH:d.size < 4611686018427387904) (w:World)
  (OJ:LessReads prog 189 lb enc lt Gw 0 d.size w) (hH:Holds enc w Gw 0 d) (hblk:Gw < w.heap.size) :
  Calls prog 188 #[.iface 82 (.slice (some ⟨Gw,0,none⟩) d.size c),.func (.func 189) #[] lb] w fun e w'=>
   e = .returned (.tuple #[])/\∃ d' n os,PermIn 0 d.size d d' /\ SortedIn lt 0 d.size d' /\ w'=grow (putRow enc (Sort.ahead w n) Gw 0 d') os:=
 Any.sort_Slice_sorted Tryz.laysGg6 82 3 siT Zi (by kernel_rfl) (by kernel_rfl) (by kernel_rfl) (by kernel_rfl) 2 (fun _=>by kernel_rfl) (by kernel_rfl) (fun _=>by kernel_rfl) enc h1 lt hO 189 lb
  (enters_of func189 (by kernel_rfl) rfl) Gw 0 c d h2 bH 288 (by rw [siK _ h2];kernel_rfl) true
  (fun args W=>run_callFunc_extern func288 (by kernel_rfl) (by kernel_rfl) (by kernel_rfl) (e:=Extern.ReflectliteSwapper.swap true) (by kernel_rfl) args W) w OJ hH hblk
theorem Lp (lb:Array Value) (p:Option Addr) (n c:Nat) (h1:n<=1) (w:World) :
  Calls prog 188 #[.iface 82 (.slice p n c),.func (.func 189) #[] lb] w fun e w'=>e = .returned (.tuple #[])/\∃ os,w'=grow w os:=by
 have h:n=0∨n=1:=by omega
 rcases h with rfl | rfl
 ·exact Any.sort_Slice_tiny Tryz.laysGg6 82 3 siT Zi (by kernel_rfl) (by kernel_rfl) (by kernel_rfl) (by kernel_rfl) 2 (fun _=>by kernel_rfl) p 0 c h1 284 (by kernel_rfl) _ _ _ w
 ·exact Any.sort_Slice_tiny Tryz.laysGg6 82 3 siT Zi (by kernel_rfl) (by kernel_rfl) (by kernel_rfl) (by kernel_rfl) 2 (fun _=>by kernel_rfl) p 1 c h1 285 (by kernel_rfl) _ _ _ w
end Go.Proofs.YtgjagnmeonoehaaGreat
set_option maxRecDepth 100000
namespace Go.Proofs.YtgjagnmeonoehaaGreat
open Go Go.RowKit Dv Go.Proofs.Tryz
theorem pz:∀ {a b:List UInt8},Op.bytesLess a b=false->a=b∨Op.bytesLess b a=true
 | [],[],_=>.inl rfl
 | a :: x,[],_=>.inr rfl
 | [],b :: r,h=>by simp [Op.bytesLess] at h
 | a :: x,b :: y,h=>by
  simp only [Op.bytesLess,Bool.or_eq_false_iff,decide_eq_false_iff_not,Bool.and_eq_false_imp,beq_iff_eq] at h;simp only [Op.bytesLess,Bool.or_eq_true,decide_eq_true_eq,aD,beq_iff_eq];by_cases pU:a=b
  ·subst pU;rcases pz (h.2 rfl) with h2 | h2
   ·exact .inl (by rw [h2])
   ·exact .inr (.inr ⟨rfl,h2⟩)
  ·refine .inr (.inl ?_);rcases UInt8.lt_or_lt_of_ne pU with h3 | h3
   ·exact absurd h3 h.1
   ·exact h3
theorem gJ:∀ {a b c:List UInt8},Op.bytesLess a b=true->Op.bytesLess b c=true->Op.bytesLess a c=true
 | _,[],_,h,_=>by simp [Op.bytesLess] at h
 | _,_ :: _,[],_,h=>by simp [Op.bytesLess] at h
 | [],b :: y,c :: z,_,_=>rfl
 | a :: x,b :: y,c :: z,h1,h2=>by
  simp only [Op.bytesLess,Bool.or_eq_true,decide_eq_true_eq,aD,beq_iff_eq] at h1 h2 ⊢;rcases h1 with h1 | ⟨rfl,h1⟩
  ·rcases h2 with h2 | ⟨rfl,h2⟩
   ·exact .inl (UInt8.lt_trans h1 h2)
   ·exact .inl h1
  ·rcases h2 with h2 | ⟨rfl,h2⟩
   ·exact .inl h2
   ·exact .inr ⟨rfl,gJ h1 h2⟩
theorem JX {s t:ByteArray} (h:zo s t=false):s=t∨zo t s=true:=by
 rcases pz h with h | h
 ·exact .inl (ByteArray.ext (Array.ext' h))
 ·exact .inr h
def Df (L:List ByteArray) (p q:Nat):Bool:=
 if L.getD p au=L.getD q au then decide (p < q) else zo (L.getD p au) (L.getD q au)
theorem SI (L:List ByteArray):Sort.SWO (Df L):=by
 have irr:∀ x,Df L x x=false:=fun x=>by simp [Df]
 have tr:∀ x y z,Df L x y=true->Df L y z=true->Df L x z=true:=by
  intro x y z h1 h2;unfold Df at *;generalize L.getD x au=a at *;generalize L.getD y au=b at *;generalize L.getD z au=c at *;by_cases pU:a=b
  ·subst pU;rw [ai rfl] at h1;by_cases hbc:a=c
   ·rw [ai hbc] at h2 ⊢;simp at h1 h2 ⊢;omega
   ·rw [ah hbc] at h2 ⊢;exact h2
  ·rw [ah pU] at h1;by_cases hbc:b=c
   ·subst hbc;rw [ah pU];exact h1
   ·rw [ah hbc] at h2
    have hac:a≠c:=by
     rintro rfl;have:=kx h1;rw [zo,this] at h2;cases h2
    rw [ah hac];exact gJ h1 h2
 have tot:∀ x y,Df L x y=false->x=y∨Df L y x=true:=by
  intro x y h;unfold Df at *;by_cases pU:L.getD x au=L.getD y au
  ·rw [ai pU] at h;rw [ai pU.symm];simp at h ⊢;omega
  ·rw [ah pU] at h;rw [ah (fun e=>pU e.symm)];rcases JX h with h | h
   ·exact absurd h pU
   ·exact .inr h
 refine ⟨irr,tr,fun x y z h1 h2=>?_⟩;rcases tot x y h1 with rfl | h3
 ·exact h2
 ·rcases tot y z h2 with rfl | h4
  ·exact h1
  ·cases h5:Df L x z
   ·rfl
   ·have:=tr _ _ _ (tr _ _ _ h4 h3) h5;rw [irr] at this;cases this
theorem Lq (L:List ByteArray) (d:List Nat) (i j p q:Nat) (hi:d[i]? = some p) (hj:d[j]? = some q) (hp:p < L.length) (hq:q < L.length) :
  EvS prog 189 [.v (.int .i64 i),.v (.int .i64 j),.pt [.sl 1 (dInts d) none] 0,.pt [.pt [.sl 1 (fh L) none,.v (.slice none 0 0)] 0] 0] [] [] (fun r _ _=>r = .v (.bool (Df L p q))):=by
 obtain ⟨s,hs⟩:∃ s,L[p]? = some s:=⟨_,gE hp⟩;obtain ⟨t,ht⟩:∃ t,L[q]? = some t:=⟨_,gE hq⟩
 have e:Df L p q=if s=t then decide (p < q) else zo s t:=by
  simp [Df,cH,hs,ht]
 refine NX (s:=true) (P:=prog) tt jC 5000 50 [.tmp 6] func189 rfl ntmps189 rfl (nL rfl) (fun _ _ _ _=>?_);refine dI ?_;refine iX (eI hi) ?_;refine iX (eI hj) ?_;refine dI ?_;refine iX (fT hs) ?_;refine iX (fT ht) ?_;refine br ?_ ?_<;>intro h
 ·have aQ:s≠t:=sU h;refine dI ?_;refine iX (fT hs) ?_;refine iX (fT ht) ?_;refine (aae ?_:);rw [e,ah aQ];rfl
 ·have aK:s=t:=sU h;refine (aae ?_:);rw [e,ai aK];simp
end Go.Proofs.YtgjagnmeonoehaaGreat
