/- Part 2 of the proof: The evaluator 'go' is sound: the end of a call, the theorem; contracts; rules for branches, calls, loops; Rules for the evaluator: what is known made less, loops; A region that draws its order: where the operations with an effect are ordered among themselves, and what writes waits for all that reads, one run in the order of the text serves every order; The evaluator at regions that draw their order: one run in the order of the text; what is read is what was known at the region's beginning; A region that draws its order, in which two operations with an effect are not ordered: the run in either order of these two serves every order; Rules for the evaluator: a call that is handed the caller's own objects, to read them; Rules for the evaluator: objects that are written no more are frozen, ahead of a loop; Rules for the evaluator: a call that is handed one of the caller's objects, to write it; The table of this program's types, by which the evaluator goes; The program's functions are entered; The data of the document's types, plain, and as the evaluator has them; Names: the program's and the reference's functions say the same of a text; sort.Search; the program's table of texts: Find; The library's sort.Slice, laid at this program by the kit's tool (lay-plain; wip/tools/lay.sh); The order of the table; the closure handed to sort.Slice; sort.Slice of the table's places, at a call. No condition. -/
import Derived.Test.YtfifjddnnmfeoaaGreatProg
import Derived.Shelf.GgSortFunc.Whole
import Derived.Shelf.GgSortFunc.Tiny
import Derived.Test.YtfifjddnnmfeoaaGreatMh1
set_option linter.all false
namespace Go.Proofs.YtfifjddnnmfeoaaGreat
namespace Dv
open Go Go.RowKit
structure C7 (E E':En) (bx:List (List DV)) (N:Nat):Prop where
 c:∀ a v,E.c a=some v->E'.c a=some v
 fz:∀ (i:Nat) cs,N<=i->bx[i]? = some cs->∃ b arr,E.β[i]? = some b/\RvC E cs arr/\∀ (j:Nat) u,arr[j]? = some u->E'.c ⟨b,j,none⟩=some u
theorem C7.cl {E E':En} {bx:List (List DV)} {N:Nat} (h:C7 E E' bx N):C7 E E'.cl bx N:=⟨h.c,h.fz⟩
structure Ar (E E':En) (n0 m0:Nat):Prop where
 β:∀ (i:Nat) b,i < n0->E.β[i]? = some b->E'.β[i]? = some b
 tk:∀ k,k < m0->E'.tk[k]? = E.tk[k]? /\ E'.τ[k]? = E.τ[k]?
theorem Ar.zero (E E':En):Ar E E' 0 0:=⟨fun _ _ h=>absurd h (Nat.not_lt_zero _),fun _ h=>absurd h (Nat.not_lt_zero _)⟩
theorem Ext.GU (E:En):Ext E.cl E:=⟨fun _ _ h=>h,fun j b hj=>by simp [En.cl] at hj,fun k q hk=>by simp [En.cl] at hk⟩
theorem vU {E E':En} (hm:∀ e b o es,RvEs E.cl e b o es->RvEs E'.cl e b o es):∀ {l:List DV} {arr:List Value},(∀ x∈l,(∃ y,x = .v y)∨∃ e' vw,x = .sl e' vw none)->RvL E l arr->RvL E' l arr
 | [],arr,_,h=>by simp only [RvL] at h ⊢;exact h
 | d :: r,arr,hs,h=>by
  simp only [RvL] at h ⊢;obtain ⟨v,s,rfl,h1,h2⟩:=h;refine ⟨v,s,rfl,?_,vU hm (fun x hx=>hs x (List.mem_cons_of_mem _ hx)) h2⟩;rcases hs d (by simp) with ⟨y,rfl⟩ | ⟨e',vw,rfl⟩
  ·unfold Rv at h1 ⊢;exact h1
  ·unfold Rv at h1 ⊢;obtain ⟨b,n,cap,h3,h4,h5,_⟩:=h1;exact ⟨b,n,cap,h3,h4,fun hn=>⟨(h5 hn).1,hm _ _ _ _ (h5 hn).2⟩,fun k hk=>by cases hk⟩
theorem CcL.length {bx:List (List DV)} {N n0 m0:Nat}:∀ {l' l:List DV},CcL bx N n0 m0 l' l->l'.length=l.length
 | [],l,h=>by simp only [CcL] at h;subst h;rfl
 | d' :: r',l,h=>by
  simp only [CcL] at h;obtain ⟨d,r,rfl,_,h2⟩:=h;simp [CcL.length h2]
theorem CcE.length {bx:List (List DV)} {N:Nat}:∀ {l' l:List (List DV)},CcE bx N l' l->l'.length=l.length
 | [],l,h=>by simp only [CcE] at h;subst h;rfl
 | d' :: r',l,h=>by
  simp only [CcE] at h;obtain ⟨d,r,rfl,_,h2⟩:=h;simp [CcE.length h2]
mutual
theorem Cc.sound {bx:List (List DV)} {N:Nat} {E:En}:∀ {d':DV} {E':En} {n0 m0:Nat} {d:DV} {v:Value},C7 E E' bx N->Ar E E' n0 m0->Cc bx N n0 m0 d' d->Rv E d v->Rv E' d' v
 | .v y,E',n0,m0,d,v,hf,hl,h,hv=>by
  simp only [Cc] at h;subst h;unfold Rv at hv ⊢;exact hv
 | .ud,E',n0,m0,d,v,hf,hl,h,hv=>by
  simp only [Cc] at h;subst h;unfold Rv at hv ⊢;exact hv
 | .agg l',E',n0,m0,d,v,hf,hl,h,hv=>by
  simp only [Cc] at h;obtain ⟨l,rfl,h⟩:=h;unfold Rv at hv ⊢;obtain ⟨vs,h1,h2,h3⟩:=hv;exact ⟨vs,h1,CcL.sound hf hl h h2,h3⟩
 | .dV l',E',n0,m0,d,v,hf,hl,h,hv=>by
  simp only [Cc] at h;obtain ⟨l,rfl,h⟩:=h;unfold Rv at hv ⊢;obtain ⟨vs,h1,h2⟩:=hv;exact ⟨vs,h1,CcL.sound hf hl h h2⟩
 | .sl e es tk,E',n0,m0,d,v,hf,hl,h,hv=>by
  have hm:∀ b o,RvEs E.cl e b o es->RvEs E'.cl e b o es:=fun b o hr=>RvEs.mono (Ext.Ah hf.c) hr
  cases tk with
  | none=>
   simp only [Cc] at h;rcases h with ⟨rfl,rfl⟩ | ⟨bX,rfl⟩ | ⟨i,off,c,cs,rfl,hi,cA,SX,ly,IA⟩ | ⟨Pb,bX,rfl,h⟩
   ·have:=bo hv;subst this;unfold Rv;exact ⟨none,0,0,rfl,⟨rfl,Nat.le_refl _⟩,fun hn=>(hn rfl).elim,fun k hk=>by cases hk⟩
   ·unfold Rv at hv ⊢;obtain ⟨b,n,cap,h1,h2,h3,_⟩:=hv;exact ⟨b,n,cap,h1,h2,fun hn=>⟨(h3 hn).1,hm _ _ (h3 hn).2⟩,fun k hk=>by cases hk⟩
   ·obtain ⟨b,arr,hb,hc,hmm⟩:=hf.fz i cs hi cA;unfold Rv at hv ⊢;obtain ⟨b',ad,dY,LM,rfl,hca⟩:=hv;rw [hb] at dY;simp only [oI] at dY;subst dY;refine ⟨ad,es.length,c,rfl,⟨rfl,LM⟩,fun hn=>?_,fun k hk=>by cases hk⟩;have pT:0 < es.length:=List.length_pos_iff.2 hn;have Mk:=hca (by omega);subst Mk;refine ⟨rfl,?_⟩;have h1:=(hc.drop off).take (es.length * e);rw [<- SX] at h1;refine rvEs_flat ⟨vU (E':=E'.cl) (fun e b o es hr=>(RvEs.mono (Ext.Ah hf.c) hr:RvEs E'.cl e b o es)) IA h1.1,h1.2⟩ ly fun j u hj=>?_;rw [List.getElem?_take] at hj;split at hj
    ·rw [List.getElem?_drop] at hj;exact hmm (off + j) u hj
    ·cases hj
   ·have hlen:=CcE.length h;have hs:=fun b o=>CcE.sound (e:=e) (b:=b) (o:=o) hf h;unfold Rv at hv ⊢;obtain ⟨b,n,cap,h1,h2,h3,_⟩:=hv;refine ⟨b,n,cap,h1,by omega,fun hn=>?_,fun k hk=>by cases hk⟩;have oS:Pb ≠ []:=fun hc=>hn (List.eq_nil_of_length_eq_zero (by rw [hlen,hc];rfl));exact ⟨(h3 oS).1,hs _ _ (h3 oS).2⟩
  | some k=>
   simp only [Cc] at h;obtain ⟨hk,rfl⟩:=h;unfold Rv at hv ⊢;obtain ⟨b,n,cap,h1,h2,h3,h4⟩:=hv;refine ⟨b,n,cap,h1,h2,fun hn=>⟨(h3 hn).1,hm _ _ (h3 hn).2⟩,fun k' eT=>?_⟩;cases eT;obtain ⟨e1,e2⟩:=hl.tk k hk;obtain ⟨q,h5,h6,h7⟩:=h4 k rfl;exact ⟨q,by rw [e1];exact h5,h6,fun hh=>by rw [e2];exact h7 hh⟩
 | .pt cs' o,E',n0,m0,d,v,hf,hl,h,hv=>by
  simp only [Cc] at h;rcases h with rfl | ⟨i,cs,rfl,hi,cA,h⟩
  ·unfold Rv at hv ⊢;obtain ⟨b,p,h1,h2⟩:=hv;exact ⟨b,p,h1,RvAt.mono (Ext.Ah hf.c) h2⟩
  ·obtain ⟨b,arr,hb,hc,hm⟩:=hf.fz i cs hi cA;unfold Rv at hv ⊢;obtain ⟨b',dY,rfl⟩:=hv;rw [hb] at dY;simp only [oI] at dY;subst dY;refine ⟨b,0,by simp,?_⟩;have:=CcL.sound hf.cl (Ar.zero E E'.cl) h hc.1;exact um ⟨this,hc.2⟩ fun j u hj=>by rw [Nat.zero_add];exact hm j u hj
 | .loc i o,E',n0,m0,d,v,hf,hl,h,hv=>by
  simp only [Cc] at h;obtain ⟨hi,rfl⟩:=h;unfold Rv at hv ⊢;obtain ⟨b,hb,h1⟩:=hv;exact ⟨b,hl.β i b hi hb,h1⟩
 | .el i o,E',n0,m0,d,v,hf,hl,h,hv=>by
  simp only [Cc] at h;obtain ⟨hi,rfl⟩:=h;unfold Rv at hv ⊢;obtain ⟨b,hb,h1⟩:=hv;exact ⟨b,hl.β i b hi hb,h1⟩
 | .ms i e o l c,E',n0,m0,d,v,hf,hl,h,hv=>by
  simp only [Cc] at h;obtain ⟨hi,rfl⟩:=h;unfold Rv at hv ⊢;obtain ⟨b,ad,hb,h1⟩:=hv;exact ⟨b,ad,hl.β i b hi hb,h1⟩
 | .fn f a' b',E',n0,m0,d,v,hf,hl,h,hv=>by
  simp only [Cc] at h;obtain ⟨a,b,rfl,ha,hb⟩:=h;unfold Rv at hv ⊢;obtain ⟨l,r,h1,h2,h3⟩:=hv;exact ⟨l,r,h1,CcL.sound hf hl ha h2,CcL.sound hf hl hb h3⟩
 | .lZ t x',E',n0,m0,d,v,hf,hl,h,hv=>by
  simp only [Cc] at h;obtain ⟨x,rfl,hx⟩:=h;unfold Rv at hv ⊢;obtain ⟨z,h1,h2⟩:=hv;exact ⟨z,h1,Cc.sound hf hl hx h2⟩
theorem CcL.sound {bx:List (List DV)} {N:Nat} {E:En}:∀ {l':List DV} {E':En} {n0 m0:Nat} {l:List DV} {vs:List Value},C7 E E' bx N->Ar E E' n0 m0->CcL bx N n0 m0 l' l->RvL E l vs->RvL E' l' vs
 | [],E',n0,m0,l,vs,hf,hl,h,hv=>by
  simp only [CcL] at h;subst h;simp only [RvL] at hv ⊢;exact hv
 | d' :: r',E',n0,m0,l,vs,hf,hl,h,hv=>by
  simp only [CcL] at h;obtain ⟨d,r,rfl,h1,h2⟩:=h;simp only [RvL] at hv ⊢;obtain ⟨v,s,h3,h4,h5⟩:=hv;exact ⟨v,s,h3,Cc.sound hf hl h1 h4,CcL.sound hf hl h2 h5⟩
theorem SY.sound {bx:List (List DV)} {N:Nat} {E:En}:∀ {l':List DV} {E':En} {l:List DV} {b p:Nat},C7 E E' bx N->CcL bx N 0 0 l' l->RvAt E.cl b p l->RvAt E'.cl b p l'
 | [],E',l,b,p,hf,h,hv=>by simp only [RvAt]
 | d' :: r',E',l,b,p,hf,h,hv=>by
  simp only [CcL] at h;obtain ⟨d,r,rfl,h1,h2⟩:=h;simp only [RvAt] at hv ⊢;obtain ⟨⟨v,h3,h4,h5⟩,h6⟩:=hv;exact ⟨⟨v,hf.c _ _ h3,h4,Cc.sound hf.cl (Ar.zero E E'.cl) h1 (Rv.mono (Ext.GU E) h5)⟩,SY.sound hf h2 h6⟩
theorem CcE.sound {bx:List (List DV)} {N:Nat} {E:En}:∀ {l':List (List DV)} {E':En} {l:List (List DV)} {e b o:Nat},C7 E E' bx N->CcE bx N l' l->RvEs E.cl e b o l->RvEs E'.cl e b o l'
 | [],E',l,e,b,o,hf,h,hv=>by simp only [RvEs]
 | a' :: r',E',l,e,b,o,hf,h,hv=>by
  simp only [CcE] at h;obtain ⟨a,r,rfl,h1,h2⟩:=h;simp only [RvEs] at hv ⊢;obtain ⟨h3,h4,h5⟩:=hv;refine ⟨?_,?_,CcE.sound hf h2 h5⟩
  ·rcases h1 with rfl | h1
   ·exact h3
   ·rw [CcL.length h1];exact h3
  ·rcases h1 with rfl | h1
   ·exact RvAt.mono (Ext.Ah hf.c) h4
   ·exact SY.sound hf h1 h4
end
theorem IC {E:En} {e:Nat} {es vw:List (List DV)} {tk:Option Nat} {v:Value} (h:CcE [] 0 vw es) (hv:Rv E (.sl e es tk) v):Rv E (.sl e vw tk) v:=by
 have hlen:=CcE.length h;have hs:=fun b o=>CcE.sound (E:=E) (E':=E) (bx:=[]) (N:=0) (e:=e) (b:=b) (o:=o) ⟨fun _ _ h=>h,fun i cs _ hi=>by simp at hi⟩ h;unfold Rv at hv ⊢;obtain ⟨b,n,cap,h1,h2,h3,h4⟩:=hv;refine ⟨b,n,cap,h1,by omega,fun hn=>?_,h4⟩;have oS:es ≠ []:=fun hc=>hn (List.eq_nil_of_length_eq_zero (by rw [hlen,hc];rfl));exact ⟨(h3 oS).1,hs _ _ (h3 oS).2⟩
theorem jW.get {bx:List (List DV)} {N n0 m0:Nat}:∀ {l' l:List (List DV)},jW bx N n0 m0 l' l->l'.length=l.length/\∀ (i:Nat) cs',l'[i]? = some cs' -> ∃ cs,l[i]? = some cs/\CcL bx N n0 m0 cs' cs
 | [],l,h=>by simp only [jW] at h;subst h;exact ⟨rfl,by simp⟩
 | a' :: r',l,h=>by
  simp only [jW] at h;obtain ⟨a,r,rfl,h1,h2⟩:=h;obtain ⟨h3,h4⟩:=jW.get h2;refine ⟨by simp [h3],fun i cs' hi=>?_⟩
  cases i with
  | zero=>simp only [List.getElem?_cons_zero,oI] at hi;subst hi;exact ⟨a,rfl,h1⟩
  | succ i=>simp only [List.getElem?_cons_succ] at hi ⊢;exact h4 i cs' hi
open Classical in
noncomputable def nA (E:En) (n:Nat) (w:World):Addr->Option Value:=
 fun a=>if ∃ i:Nat,n<=i/\E.β[i]? = some a.block then w.cell? a else E.c a
section
variable {X:Ctx} {E:En} {st:St} {a:Act} {w:World}
theorem dj {n:Nat} {x:Addr} {v:Value} (h:nA E n w x=some v):((∃ i:Nat,n<=i/\E.β[i]? = some x.block)/\w.cell? x=some v)∨E.c x=some v:=by
 unfold nA at h;split at h
 ·rename_i hc;exact .inl ⟨hc,h⟩
 ·exact .inr h
theorem ji {bx:List (List DV)} (h:Env E bx w) {n:Nat} {x:Addr} {v:Value} (hx:E.c x=some v):nA E n w x=some v:=by
 unfold nA;split
 ·exact h.sub x v hx
 ·exact hx
theorem uB (h:Rel X E st a w) {d d':DV} {os:List (List DV)} {v:Value} (hv:Rv E d v) (M:Nat) (hM:(X.fr=false/\M=X.m0)∨(X.fr=true/\M=st.tk.length)) (hd:Cc st.bx X.n0 X.n0 M d' d) (rW:jW st.bx X.n0 X.n0 M os (st.bx.take X.n0)) (hΦ:X.Φ d' os (st.tk.take M)):vN X.still X.E0 X.w0 X.Φ v w X.fr:=by
 obtain ⟨r,GV,Pg⟩:=h.nw.β;have gj:E.β.take X.n0=X.E0.β:=by rw [GV,<- X.oS];simp
 have pW:∀ (i:Nat) b,i < X.n0->E.β[i]? = some b->X.E0.β[i]? = some b:=fun i b hi hb=>by
  rw [<- gj,List.getElem?_take,if_pos hi];exact hb
 have c9:∀ (i:Nat) b,X.n0<=i->E.β[i]? = some b->b∈r:=fun i b hi hb=>by
  rw [GV,List.getElem?_append_right (by rw [X.oS];exact hi)] at hb;exact mG hb
 have J7:∀ b,b∈X.E0.β->b∈r->False:=fun b h1 h2=>by
  have:=h.env.inj;rw [GV] at this;exact (List.nodup_append.1 this).2.2 b h1 b h2 rfl
 have hE0l:X.E0.τ.length=X.m0:=by rw [h.nw.l0,X.pe]
 have SZ:X.m0<=E.tk.length:=by
  rcases Nat.lt_or_ge E.tk.length X.m0 with h1 | h1
  ·have hk:E.tk.length < X.E0.tk.length:=by rw [X.pe];exact h1
   have eT:E.tk.length < X.E0.τ.length:=by rw [h.nw.l0];exact hk
   obtain ⟨q',y',h2,_⟩:=h.nw.tk E.tk.length _ _ (gE hk) (gE eT);have:=(gS h2).1;omega
  ·exact h1
 have hMm:X.m0<=M/\M<=E.tk.length:=by
  rcases hM with ⟨_,rfl⟩ | ⟨_,rfl⟩
  ·exact ⟨Nat.le_refl _,SZ⟩
  ·rw [<- h.tk];exact ⟨SZ,Nat.le_refl _⟩
 have LO:SN X.fr (E.tk.take M).length X.E0.tk.length:=by
  rw [List.length_take];rcases hM with ⟨hf,rfl⟩ | ⟨hf,rfl⟩
  ·rw [hf];show min _ _=_;rw [X.pe];omega
  ·rw [hf];show _<=min _ _;rw [X.pe];omega
 let E':En:=⟨nA E X.n0 w,X.E0.β,E.tk.take M,E.τ.take M⟩
 have DF:C7 E E' st.bx X.n0:={
  c:=fun x u hx=>ji h.env hx
  fz:=fun i cs hi cA=>by
   obtain ⟨b,ty,arr,hb,hw,hc⟩:=h.env.dB i cs cA;refine ⟨b,arr,hb,hc,fun j u hj=>?_⟩;show nA E X.n0 w ⟨b,j,none⟩=some u;unfold nA;rw [if_pos ⟨i,hi,hb⟩,bN hw]
   simpa using hj }
 have rX:Ar E E' X.n0 M:={
  β:=pW
  tk:=fun k hk=>⟨by show (E.tk.take M)[k]? = _;rw [List.getElem?_take,if_pos hk],by show (E.τ.take M)[k]? = _;rw [List.getElem?_take,if_pos hk]⟩ }
 obtain ⟨gk,Mq⟩:=rW.get;refine ⟨h.fr,h.sh,d',os,E',?_,rfl,LO,?_,hd.sound DF rX hv,by show X.Φ d' os (E.tk.take M);rw [h.tk];exact hΦ⟩
 ·exact {
   len:=by
    show X.E0.β.length=os.length;rw [gk,X.oS,List.length_take]
    have:X.n0<=st.bx.length:=by
     rw [<- h.env.len,GV,List.length_append,X.oS];omega
    omega
   tl:=by simp only [E',List.length_take];rw [h.env.tl]
   dB:=fun i cs' hi=>by
    obtain ⟨cs,cA,uA⟩:=Mq i cs' hi;rw [List.getElem?_take] at cA;split at cA
    ·rename_i au;obtain ⟨b,ty,arr,hb,hw,hc⟩:=h.env.dB i cs cA;exact ⟨b,ty,arr,pW i b au hb,hw,CcL.sound DF rX uA hc.1,hc.2⟩
    ·cases cA
   inj:=by rw [<- gj];exact h.env.inj.sublist (List.take_sublist _ _)
   sub:=fun x u hx=>by
    rcases dj hx with ⟨_,h1⟩ | h1
    ·exact h1
    ·exact h.env.sub x u h1
   pc:=fun x u hx hm=>by
    rcases dj hx with ⟨⟨i,hi,hb⟩,_⟩ | h1
    ·exact J7 _ hm (c9 i _ hi hb)
    ·refine h.env.pc x u h1 ?_;rw [GV];exact List.mem_append.2 (.inl hm)
   bD:=fun k q y hq hy=>by
    simp only [E',List.getElem?_take] at hq hy;split at hq
    ·rename_i hk;rw [if_pos hk] at hy;rcases h.env.bD k q y hq hy with h1 | ⟨g,cap,cur,rfl,h1,h2,h3,h4,h5,h6⟩
     ·exact .inl h1
     ·refine .inr ⟨g,cap,cur,rfl,h1,⟨h2.1,h2.2.mono fun _ _ hx=>ji h.env hx⟩,h3,h4,fun hm=>h5 (by rw [GV];exact List.mem_append.2 (.inl hm)),fun x u hx hg=>?_⟩;rcases dj hx with ⟨⟨i,hi,hb⟩,_⟩ | h7
      ·rw [hg] at hb;exact (h5 (mG hb)).elim
      ·exact h6 x u h7 hg
    ·cases hq
   fY:=fun k k' y y' g ma hy dW=>by
    simp only [E',List.getElem?_take] at hy dW;split at hy
    ·split at dW
     ·exact h.env.fY k k' y y' g ma hy dW
     ·cases dW
    ·cases hy }
 ·exact {
   c:=fun x u hx=>ji h.env (h.nw.c x u hx)
   cn:=fun x u hx=>by
    rcases dj hx with ⟨⟨i,hi,hb⟩,_⟩ | h1
    ·exact .inr (.inl (Pg _ (c9 i _ hi hb)))
    ·exact h.nw.cn x u h1
   β:=⟨[],by simp [E'],by simp⟩
   tk:=fun k q y hq hy=>by
    obtain ⟨q',y',h1,h2,h3⟩:=h.nw.tk k q y hq hy;have hk:k < X.m0:=by rw [<- X.pe];exact (gS hq).1
    exact ⟨q',y',by show (E.tk.take M)[k]? = _;rw [List.getElem?_take,if_pos (by omega)];exact h1,by show (E.τ.take M)[k]? = _;rw [List.getElem?_take,if_pos (by omega)];exact h2,h3⟩
   tn:=fun k y g hk hy hg=>by
    simp only [E',List.getElem?_take] at hy;split at hy
    ·exact h.nw.tn k y g hk hy hg
    ·cases hy
   l0:=h.nw.l0 }
def resOf (tmps:Array Value):ResultVar->Sem Value
 | .tmp t=>pure (tmps.getD t undef)
 | .cell x t=>do loadVar t (<- asAddr (tmps.getD x undef))
theorem yA (fn:Func) (tmps:Array Value):results fn tmps=(do let vs <- fn.results.mapM (resOf tmps);pure (if h:vs.size=1 then vs[0] else .tuple vs)):=by
 unfold results;congr 2
theorem yB (h:Rel X E st a w) {r:ResultVar} {d:DV} (hr:res1 X.T st r=some d):∃ v,Rv E d v/\(resOf a.tmps r).run X.P w = .ok v w:=by
 cases r with
 | tmp t=>
  simp only [res1] at hr;split at hr
  ·rename_i x hg;simp only [oI] at hr;subst hr;obtain ⟨v,h1,h2⟩:=(h.tm t _ hg).1 (aO _);exact ⟨v,h2,by simp [resOf,Array.getD_eq_getD_getElem?,h1]⟩
  ·cases hr
 | cell x t=>
  simp only [res1] at hr;split at hr
  ·rename_i i off hg;split at hr
   ·rename_i cs cA;obtain ⟨v,h1,h2⟩:=(h.tm x _ hg).1 (aO _);unfold Rv at h2;obtain ⟨b,hb,rfl⟩:=h2;obtain ⟨b',yv,arr,dY,hw,hc⟩:=h.env.dB i cs cA;rw [hb] at dY;simp only [oI] at dY;subst dY;obtain ⟨v,hv,hl⟩:=jd X.hT hc (b:=b) (p:=0) hr;have hl:=hl w fun j u hj=>by rw [bN hw];simpa using hj
    rw [Nat.zero_add] at hl;exact ⟨v,hv,by simp only [resOf,Array.getD_eq_getD_getElem?,h1,Option.getD_some,asAddr,Sem.run_bind,Sem.run_pure,Result.andThen_ok,hl]⟩
   ·cases hr
  ·cases hr
theorem jj (h:Rel X E st a w):∀ {rs:List ResultVar} {ds:List DV},resD X.T st rs=some ds->∃ vs,RvL E ds vs/\(rs.mapM (resOf a.tmps)).run X.P w = .ok vs w
 | [],ds,hr=>by
  simp only [resD,oI] at hr;subst hr;exact ⟨[],bM E,rfl⟩
 | r :: rs,ds,hr=>by
  simp only [resD] at hr;split at hr
  ·rename_i d l hd hl;simp only [oI] at hr;subst hr;obtain ⟨v,hv,h1⟩:=yB h hd;obtain ⟨vs,uz,h2⟩:=jj h hl;refine ⟨v :: vs,rvL_cons hv uz,?_⟩;simp only [List.mapM_cons,Sem.run_bind,h1,Result.andThen_ok,h2,Sem.run_pure]
  ·cases hr
theorem lA (h:Rel X E st a w) {d:DV} {v:Value} (hv:Rv E d v) (hf:finD X st d):vN X.still X.E0 X.w0 X.Φ v w X.fr:=by
 unfold finD at hf;split at hf
 ·rename_i GW;obtain ⟨d',os,hd,rW,hΦ⟩:=hf;exact uB h hv st.tk.length (.inr ⟨GW,rfl⟩) hd rW (by rw [List.take_length];exact hΦ)
 ·rename_i GW;split at hf
  ·rename_i hn hm
   have key:∀ d',Cc st.bx 0 0 0 d' d->X.Φ d' [] []->vN X.still X.E0 X.w0 X.Φ v w X.fr:=fun d' hd hΦ=>
    uB h hv (d':=d') (os:=[]) X.m0 (.inl ⟨GW,rfl⟩) (by rw [hn,hm];exact hd) (by rw [hn];simp [jW]) (by rw [hm];exact hΦ)
   split at hf
   ·rename_i x;exact key (.v x) (by simp only [Cc]) hf
   ·obtain ⟨d',hd,hΦ⟩:=hf;exact key d' hd hΦ
  ·obtain ⟨d',os,hd,rW,hΦ⟩:=hf;exact uB h hv X.m0 (.inl ⟨GW,rfl⟩) hd rW hΦ
theorem sE (h:Rel X E st a w) (hf:fin X st):kq X [] .ret a w:=by
 have yi:X.fn.results=X.rs.toArray:=by rw [<- X.ui]
 simp only [kq];refine ⟨h.df,?_⟩
 have hbt:kW X.bt X.E0.β w:=fun p hp b hb=>by
  obtain ⟨r,hr,_⟩:=h.nw.β;exact h.bt p hp b (by rw [hr,List.getElem?_append_left (gS hb).1];exact hb)
 unfold fin at hf
 have DG:∀ (ds:List DV) (vs:List Value),(X.rs.mapM (resOf a.tmps)).run X.P w = .ok vs w->(results X.fn a.tmps).run X.P w = .ok (if h:vs.toArray.size=1 then vs.toArray[0] else .tuple vs.toArray) w:=by
  intro ds vs hv;rw [yA,yi];simp only [List.mapM_toArray,Sem.run_bind,Sem.run_map,hv];rfl
 split at hf
 ·rename_i hr;obtain ⟨vs,uz,h1⟩:=jj h hr;simp only [RvL] at uz;subst uz;exact ⟨_,DG [] [] h1,lA h (v:=.tuple #[]) (by unfold Rv;exact ⟨[],rfl,bM E⟩) hf,hbt⟩
 ·rename_i d hr;obtain ⟨vs,uz,h1⟩:=jj h hr;have hl:=uz.length;simp only [RvL] at uz;obtain ⟨v,s,rfl,hv,rfl⟩:=uz;exact ⟨_,DG [d] [v] h1,lA h (v:=v) hv hf,hbt⟩
 ·rename_i d e l hr;obtain ⟨vs,uz,h1⟩:=jj h hr;have hl:=uz.length;have aQ:¬ vs.toArray.size=1:=by simp at hl ⊢;omega
  have h2:=DG [] vs h1;rw [dif_neg aQ] at h2;exact ⟨_,h2,lA h (v:=.tuple vs.toArray) (by unfold Rv;exact ⟨vs,rfl,uz⟩) hf,hbt⟩
 ·exact hf.elim
theorem pX:∀ (k:List It) (a:Act) (w:World),kq X [] .ret a w->kq X k .ret a w
 | [],_,_,h=>h
 | .code _ :: k,a,w,h=>pX k a w h
 | .ops _ _ :: k,a,w,h=>pX k a w h
 | .yf _ :: k,a,w,h=>pX k a w h
 | .pK _ :: k,a,w,h=>pX k a w h
theorem me {id:Nat}:∀ (k k':List It) (a:Act) (w:World),dropBlk id k=some k' -> kq X k' .normal a w->kq X k (.exit id) a w
 | [],k',a,w,hd,_=>by simp [dropBlk] at hd
 | .code _ :: k,k',a,w,hd,h=>by simp only [dropBlk] at hd;exact me k k' a w hd h
 | .ops _ _ :: k,k',a,w,hd,h=>by simp only [dropBlk] at hd;exact me k k' a w hd h
 | .pK _ :: k,k',a,w,hd,h=>by simp only [dropBlk] at hd;exact me k k' a w hd h
 | .yf i :: k,k',a,w,hd,h=>by
  simp only [dropBlk] at hd;split at hd
  ·rename_i hi;have hi:id=i:=by simpa using hi
   simp only [oI] at hd;subst hd;simp only [kq];rw [if_pos hi];exact h
  ·rename_i hi
   have hi:id≠i:=by
    rintro rfl;rw [Nat.beq_refl] at hi;cases hi
   simp only [kq];rw [if_neg hi];exact me k k' a w hd h
theorem BG {P:Program} {o:Oper} {a:Act} {K K':Act->World->Prop} {Q Q':Exit->Act->World->Prop} (hK:∀ a w,K a w->K' a w) (hQ:∀ e a w,Q e a w->Q' e a w)
  {r:Result Next} (h:o.upon P a K Q r):o.upon P a K' Q' r:=by
 unfold Oper.upon at *;split<;>simp_all
 ·refine h.mono ?_;intro e w' hq
  cases e with
  | returned v=>exact hK _ _ hq
  | panicked c=>exact hQ _ _ _ hq
  | outgrown=>obtain ⟨a,w,hq⟩:=hq;exact ⟨a,w,hQ _ _ _ hq⟩
 ·exact h.mono fun v w' hq=>hK _ _ hq
theorem vV {P:Program} {o:Oper} {a:Act} {K K':Act->World->Prop} {Q Q':Exit->Act->World->Prop} {w:World} (hK:∀ a w,K a w->K' a w) (hQ:∀ e a w,Q e a w->Q' e a w)
  (h:o.wp P a w K Q):o.wp P a w K' Q':=BG hK hQ h
theorem dE (c:Code) (k:List It) (a:Act) (w:World):kq X (.code c :: k) .normal a w=c.wp X.P (kq X k) a w:=rfl
theorem GX (c:Code) (k:List It):kq X (.code c :: k)=Exit.then (c.wp X.P (kq X k)) (kq X k):=by
 funext e a w;cases e<;>rfl
theorem J8 (id:Nat) (k:List It) (e:Exit) (a:Act) (w:World) (h:kq X (.yf id :: k) e a w):Exit.inBlock id (kq X k) e a w:=by
 cases e<;>exact h
theorem wanted_spec (h:Rel X E st a w) {all:Array Oper} {o:Oper} {j d:Nat} {want:Bool} {iW:List (Nat × Bool)} {sd:DV} (GY:o.guard=some (j,want)) (yu:gslot all.toList j=some d) (GZ:get st.sl d=some ⟨iW,sd⟩) :
  Region.wanted o (yielded all a.tmps)=true↔Holds a.tmps ((d,want) :: iW):=by
 have J9:yielded all a.tmps j=match a.tmps[d]? with | some (.bool b)=>some b | _=>none:=by
  unfold gslot at yu;split at yu
  ·rename_i oj hoj;have Qh:all[j]? = some oj:=by simpa using hoj
   simp only [yielded,Qh,yu,Option.bind_some]
   cases a.tmps[d]? with
   | none=>rfl
   | some v=>cases v<;>rfl
  ·cases yu
 have htd:=h.tm d _ GZ;simp only [Region.wanted,GY,J9];constructor
 ·intro hw
  have hb:a.tmps[d]? = some (.bool want):=by
   split at hw
   ·rename_i b hb;rw [hb];have:b=want:=by simpa using hw
    rw [this]
   ·simp at hw
  refine gG hb ?_;by_cases hh:Holds a.tmps iW
  ·exact hh
  ·have:=htd.2 hh;rw [hb] at this;simp [undef] at this
 ·intro hh;have:=hh (d,want) (by simp);simp only at this;rw [this];simp
theorem vW (h:Rel X E st a w) {t:Nat} {b:Bool} (hg:get st.sl t=some ⟨[],.v (.bool b)⟩):a.tmps[t]? = some (.bool b):=by
 obtain ⟨v,h1,h2⟩:=(h.tm t _ hg).1 (aO _);rw [h1,gH h2]
theorem DH (h:Rel X E st a w) {t:Nat} (hg:get st.sl t=some ⟨[],.ud⟩):a.tmps[t]? = some undef:=by
 obtain ⟨v,h1,h2⟩:=(h.tm t _ hg).1 (aO _);unfold Rv at h2;rw [h1,h2]
theorem pY {G:List (Nat × Bool)} {dst:Option Nat} (dh:P5 G dst=true):∀ e,dst=some e->∀ p∈G,p.1≠e:=by
 intro e he p hp cC;rw [he] at dh;have:=(List.all_eq_true.1 dh) p hp;rw [cC] at this;simp at this
theorem go_sound:∀ n,SU X (go X n)
 | 0=>fun k st hg=>hg.elim
 | n + 1=>by
  have ih:=go_sound n;intro k st hg E a w h
  match k with
  | []=>exact sE h (by simpa [go] using hg)
  | .yf id :: k=>exact ih k st (by simpa [go] using hg) E a w h
  | .pK J :: k=>exact ⟨st,E,h,by simpa [go] using hg⟩
  | .ops all [] :: k=>exact ih k st (by simpa [go] using hg) E a w h
  | .ops all (o :: r) :: k=>
   simp only [go,kA,Ag] at hg;split at hg
   ·exact hg.elim
   ·rename_i hd;split at hg
    ·rename_i GY;simp only [kq,wpList,Region.wanted,GY,if_true];split at hg
     ·rename_i s hs;obtain ⟨v,hv,bz⟩:=fm X.hT h.rl (aO _) hs;exact .inl (gL (bz w fun _=>rfl) (ih _ _ hg E _ w (aW h hd s v hv)))
     ·exact .inl (vV (fun a w hk=>hk) (fun e a w hq=>hq.elim) (sD ih hd h hg))
    ·rename_i j want GY;split at hg
     ·exact hg.elim
     ·rename_i d yu;split at hg
      ·exact hg.elim
      ·rename_i iW sd GZ;have mf:=wanted_spec h GY yu GZ;simp only [kq,wpList];split at hg
       ·rename_i s hs;split at hg
        case h_2=>exact hg.elim
        rename_i dh;split
        ·rename_i hw;have hh:=mf.1 hw;obtain ⟨v,hv,bz⟩:=fm X.hT h.rl hh hs;exact .inl (gL (bz w fun _=>rfl) (ih _ _ hg E _ w (l9 h hd _ s v (pY dh) (fun _=>hv) (fun hn=>(hn hh).elim))))
        ·rename_i hw;have hh:¬ Holds a.tmps ((d,want) :: iW):=fun hh=>hw (mf.2 hh);exact ih _ _ hg E _ w (l9 h hd _ s undef (pY dh) (fun hn=>(hh hn).elim) (fun _=>rfl))
       ·split at hg
        ·rename_i b gj;have ht0:=vW h gj
         cases iW with
         | nil=>
          simp only [lastG] at gj ht0;cases uC:(b == want)
          ·have yC:b = !want:=by cases b<;>cases want<;>simp_all
           have hg:=hg.f uC
           have hn:¬ Region.wanted o (yielded all a.tmps)=true:=by
            intro hw;have:=(mf.1 hw) (d,want) (by simp);simp only at this;rw [ht0] at this;simp only [oI,Value.bool.injEq] at this;rw [this] at uC;simp at uC
           rw [if_neg hn];have hr:=ia (d:=d) (b:=!want) h (by rw [ht0,yC]);exact ih _ _ hg E _ w (aW hr (ib hd) .ud undef (oe E))
          ·have yj:b=want:=by simpa using uC
           have hg:=hg.t uC;subst yj;have hw:Region.wanted o (yielded all a.tmps)=true:=mf.2 (gG ht0 (aO _));rw [if_pos hw];have hr:=ia (d:=d) (b:=b) h ht0;exact .inl (vV (fun a w hk=>hk) (fun e a w hq=>hq.elim) (sD ih (ib hd) hr hg))
         | cons g1 gr=>
          have key:∀ c,a.tmps[(lastG (d,want) (g1 :: gr)).1]? = some (.bool c)->go X n (.ops all (o :: r) :: k) (st.resolve (lastG (d,want) (g1 :: gr)).1 c)->wpList X.P all (kq X k) (o :: r) a w:=
           fun c hc j2=>ih _ _ j2 E a w (ia h hc)
          cases uC:(b == (lastG (d,want) (g1 :: gr)).2)
          ·have hg:=hg.f uC;have yC:b = !(lastG (d,want) (g1 :: gr)).2:=by cases b<;>cases h0:(lastG (d,want) (g1 :: gr)).2<;>simp_all
           have:=key _ (by rw [ht0,yC]) hg;simpa [wpList] using this
          ·have hg:=hg.t uC;have yj:b=(lastG (d,want) (g1 :: gr)).2:=by simpa using uC
           have:=key _ (by rw [ht0,yj]) hg;simpa [wpList] using this
        ·rename_i gj
         cases iW with
         | nil=>
          have ht0:=DH h gj;simp only [lastG] at ht0
          have hn:¬ Region.wanted o (yielded all a.tmps)=true:=by
           intro hw;have:=(mf.1 hw) (d,want) (by simp);simp only at this;rw [ht0] at this;simp [undef] at this
          rw [if_neg hn];exact ih _ _ hg E _ w (aW h hd .ud undef (oe E))
         | cons g1 gr=>exact hg.elim
        ·exact hg.elim
  | .code c :: k=>
   rw [dE]
   cases c with
   | skip=>exact wp_skip (ih k st (by simpa [go] using hg) E a w h)
   | seq x y=>
    have:=ih (.code x :: .code y :: k) st (by simpa [go] using hg) E a w h;rw [dE,GX] at this;exact wp_seq this
   | block id b=>
    have:=ih (.code b :: .yf id :: k) st (by simpa [go] using hg) E a w h;rw [dE] at this;exact wp_block (wp_mono this (J8 id k))
   | exit id=>
    simp only [go] at hg;split at hg
    ·rename_i k' hk;exact wp_exit (me k k' a w hk (ih k' st hg E a w h))
    ·exact hg.elim
   | cond x p q=>
    simp only [go] at hg;split at hg
    ·rename_i b hb;refine wp_cond (t:=b) (by rw [gH (aJ h.rl hb)]) ?_;cases gj:b
     ·exact ih (.code q :: k) st (hg.f gj) E a w h
     ·exact ih (.code p :: k) st (hg.t gj) E a w h
    ·exact hg.elim
   | region id ops d=>
    simp only [go] at hg;cases d
    ·exact wp_region_list (ih (.ops ops ops.toList :: k) st hg E a w h)
    ·exact hg E a w h
   | loop b=>exact (by simpa [go] using hg:od X b k st) E a w h
   | ret=>exact wp_ret (pX k a w (sE h (by simpa [go] using hg)))
   | _=>simp [go] at hg
theorem vX {fn:Func} (yi:X.fn=fn) (e:Exit) (a:Act) (w:World) (h:kq X [] e a w):bodyPost X.P fn (fun e w'=>∃ v,e = .returned v/\vN X.still X.E0 X.w0 X.Φ v w' X.fr/\kW X.bt X.E0.β w') e a w:=by
 subst yi
 cases e with
 | normal=>obtain ⟨h1,v,h2,h3⟩:=h;exact ⟨h1,v,h2,v,rfl,h3⟩
 | ret=>obtain ⟨h1,v,h2,h3⟩:=h;exact ⟨h1,v,h2,v,rfl,h3⟩
 | exit _=>exact h.elim
 | goto _=>exact h.elim
 | panic _=>exact h.elim
 | outgrown=>exact h.elim
end
def Ka (s:Bool) (P:Program) (f:FuncId) (args:List DV) (os:List (List DV)) (bD:List TkE) (Φ:DV->List (List DV)->List TkE->Prop) (fr:Bool:=false):Prop:=
 ∀ (E:En) (w:World) (vs:List Value),Env E os w->E.tk=bD->RvL E args vs->Calls P f vs.toArray w fun e w'=>∃ v,e = .returned v/\vN s E w Φ v w' fr
def Ev (P:Program) (f:FuncId) (args:List DV) (os:List (List DV)) (bD:List TkE) (Φ:DV->List (List DV)->List TkE->Prop):Prop:=Ka false P f args os bD Φ
def S0 (P:Program) (f:FuncId) (args:List DV) (os:List (List DV)) (bD:List TkE) (Φ:DV->List (List DV)->List TkE->Prop):Prop:=Ka true P f args os bD Φ
def Qi (P:Program) (f:FuncId) (args:List DV) (os:List (List DV)) (bD:List TkE) (Φ:DV->List (List DV)->List TkE->Prop):Prop:=Ka false P f args os bD Φ true
def ba (P:Program) (f:FuncId) (args:List DV) (d:DV):Prop:=Ev P f args [] [] fun d' _ _=>d'=d
def argSl:Nat->List DV->List (Nat × Sl)
 | _,[]=>[]
 | i,v :: r=>(i,⟨[],v⟩) :: argSl (i + 1) r
theorem sF:∀ (l:List DV) (i j:Nat) (x:Sl),get (argSl i l) j=some x->∃ v,x=⟨[],v⟩/\i<=j/\l[j - i]? = some v
 | [],_,_,_,h=>by simp [argSl,get] at h
 | v :: r,i,j,x,h=>by
  simp only [argSl,cy] at h;split at h
  ·rename_i gv;simp only [oI] at h;subst h gv;exact ⟨v,rfl,Nat.le_refl _,by simp⟩
  ·rename_i gv;obtain ⟨u,hu,iA,hg⟩:=sF r (i + 1) j x h;refine ⟨u,hu,by omega,?_⟩;rw [show j - i=(j - (i + 1)) + 1 by omega];simpa using hg
theorem Nw.refl {E:En} {bx:List (List DV)} {w:World} (h:Env E bx w):Nw E E w where
 c:=fun _ _ h=>h
 cn:=fun _ _ h=>.inl h
 β:=⟨[],by simp,by simp⟩
 tk:=fun k q y hq hy=>⟨q,y,hq,hy,rfl,rfl,.inl ⟨rfl,rfl⟩,.inl rfl⟩
 tn:=fun k y g hk hy=>by
  have:=(gS hy).1;rw [h.tl] at this;omega
 l0:=h.tl
def Qj (s:Bool) (P:Program) (f:FuncId) (args:List DV) (os:List (List DV)) (bD:List TkE) (bt:List (Nat × TypeId)) (Φ:DV->List (List DV)->List TkE->Prop) (fr:Bool:=false):Prop:=
 ∀ (E:En) (w:World) (vs:List Value),Env E os w->E.tk=bD->kW bt E.β w->RvL E args vs->Calls P f vs.toArray w fun e w'=>∃ v,e = .returned v/\vN s E w Φ v w' fr/\kW bt E.β w'
theorem G0 {s:Bool} {P:Program} {f:FuncId} {fn:Func} {c:Code} {args:List DV} {os:List (List DV)} {bD:List TkE} {Φ:DV->List (List DV)->List TkE->Prop} (bt:List (Nat × TypeId)) (mu:List Nat) (fr:Bool) (T:TT) (hT:T.ok P=true) (n nt:Nat) (rs:List ResultVar)
  (hf:P.funcs[f]? = some fn) (hb:fn.body=some c) (DI:fn.ntmps=nt) (ui:fn.results.toList=rs) (hlen:args.length<=nt)
  (h:∀ (E:En) (w:World) (hn:E.β.length=os.length) (hm:E.tk.length=bD.length),go ⟨P,T,hT,fn,nt,rs,ui,w,E,os.length,bD.length,hn,hm,s,Φ,bt,mu,fr⟩ n [.code c] ⟨argSl 0 args,os,bD⟩):Qj s P f args os bD bt Φ fr:=by
 intro E w vs hE oo gj hv;have hl:=hv.length;have hg:=h E w hE.len (by rw [oo]);refine calls_of_wp hf hb ?_
 have hs:=go_sound (X:=⟨P,T,hT,fn,nt,rs,ui,w,E,os.length,bD.length,hE.len,by rw [oo],s,Φ,bt,mu,fr⟩) n _ _ hg E
  {tmps:=vs.toArray ++ Array.replicate (fn.ntmps - vs.toArray.size) undef,defers:=[] } w
  {env:=hE
   tk:=oo
   sz:=by simp [DI];omega
   tm:=by
    intro i x hx;obtain ⟨d,rfl,_,hd⟩:=sF args 0 i x hx;simp only [Nat.sub_zero] at hd;obtain ⟨v,pg,C4⟩:=hv.get hd;rw [Array.getElem?_append_left (by simpa using (gS pg).1)];exact ⟨fun _=>⟨v,by simpa using pg,C4⟩,fun hn=>(hn (aO _)).elim⟩
   df:=rfl
   nw:=Nw.refl hE
   fr:=⟨rfl,rfl,rfl,Nat.le_refl _,fun _ _ _=>rfl⟩
   sh:=fun _=>⟨0,rfl⟩
   bt:=gj }
 exact wp_mono hs (vX rfl)
theorem pk {s:Bool} {P:Program} {f:FuncId} {fn:Func} {c:Code} {args:List DV} {os:List (List DV)} {bD:List TkE} {Φ:DV->List (List DV)->List TkE->Prop} (bt:List (Nat × TypeId)) (mu:List Nat) (hbt:∀ p∈bt,os.length<=p.1) (fr:Bool) (T:TT) (hT:T.ok P=true) (n nt:Nat) (rs:List ResultVar)
  (hf:P.funcs[f]? = some fn) (hb:fn.body=some c) (DI:fn.ntmps=nt) (ui:fn.results.toList=rs) (hlen:args.length<=nt)
  (h:∀ (E:En) (w:World) (hn:E.β.length=os.length) (hm:E.tk.length=bD.length),go ⟨P,T,hT,fn,nt,rs,ui,w,E,os.length,bD.length,hn,hm,s,Φ,bt,mu,fr⟩ n [.code c] ⟨argSl 0 args,os,bD⟩):Ka s P f args os bD Φ fr:=fun E w vs hE oo hv=>(G0 bt mu fr T hT n nt rs hf hb DI ui hlen h E w vs hE oo (fun p hp b hb=>by
  have h1:=hbt p hp;have h2:=(gS hb).1;have h3:=hE.len
  omega) hv).mono fun _ _ ⟨v,h1,h2,_⟩=>⟨v,h1,h2⟩
theorem G1 {s:Bool} {P:Program} {f:FuncId} {fn:Func} {c:Code} {args:List DV} {os:List (List DV)} {bD:List TkE} {Φ:DV->List (List DV)->List TkE->Prop} (bt:List (Nat × TypeId)) (hbt:∀ p∈bt,os.length<=p.1) (T:TT) (hT:T.ok P=true) (n nt:Nat) (rs:List ResultVar)
  (hf:P.funcs[f]? = some fn) (hb:fn.body=some c) (DI:fn.ntmps=nt) (ui:fn.results.toList=rs) (hlen:args.length<=nt)
  (h:∀ (E:En) (w:World) (hn:E.β.length=os.length) (hm:E.tk.length=bD.length),go ⟨P,T,hT,fn,nt,rs,ui,w,E,os.length,bD.length,hn,hm,s,Φ,bt,[],false⟩ n [.code c] ⟨argSl 0 args,os,bD⟩):Ka s P f args os bD Φ:=
 pk bt [] hbt false T hT n nt rs hf hb DI ui hlen h
theorem DJ {s:Bool} {P:Program} {f:FuncId} {fn:Func} {c:Code} {args:List DV} {os:List (List DV)} {bD:List TkE} {Φ:DV->List (List DV)->List TkE->Prop} (T:TT) (hT:T.ok P=true) (n nt:Nat) (rs:List ResultVar)
  (hf:P.funcs[f]? = some fn) (hb:fn.body=some c) (DI:fn.ntmps=nt) (ui:fn.results.toList=rs) (hlen:args.length<=nt)
  (h:∀ (E:En) (w:World) (hn:E.β.length=os.length) (hm:E.tk.length=bD.length),go ⟨P,T,hT,fn,nt,rs,ui,w,E,os.length,bD.length,hn,hm,s,Φ,[],[],false⟩ n [.code c] ⟨argSl 0 args,os,bD⟩):Ka s P f args os bD Φ:=
 G1 [] (fun p hp=>by cases hp) T hT n nt rs hf hb DI ui hlen h
theorem ev_go {P:Program} {f:FuncId} {fn:Func} {c:Code} {args:List DV} {os:List (List DV)} {bD:List TkE} {Φ:DV->List (List DV)->List TkE->Prop} (T:TT) (hT:T.ok P=true) (n nt:Nat) (rs:List ResultVar)
  (hf:P.funcs[f]? = some fn) (hb:fn.body=some c) (DI:fn.ntmps=nt) (ui:fn.results.toList=rs) (hlen:args.length<=nt)
  (h:∀ (E:En) (w:World) (hn:E.β.length=os.length) (hm:E.tk.length=bD.length),go ⟨P,T,hT,fn,nt,rs,ui,w,E,os.length,bD.length,hn,hm,false,Φ,[],[],false⟩ n [.code c] ⟨argSl 0 args,os,bD⟩):Ev P f args os bD Φ:=
 DJ T hT n nt rs hf hb DI ui hlen h
theorem Ev.mono {P:Program} {f:FuncId} {args:List DV} {os:List (List DV)} {bD:List TkE} {Φ Ψ:DV->List (List DV)->List TkE->Prop} (h:Ev P f args os bD Φ) (hΦ:∀ d o t,Φ d o t->Ψ d o t):Ev P f args os bD Ψ:=by
 intro E w vs h1 h2 h3;refine (h E w vs h1 h2 h3).mono ?_;rintro e w' ⟨v,rfl,h4,hs,d,o,E',h5,h6,h7,h8,h9,sA⟩;exact ⟨v,rfl,h4,hs,d,o,E',h5,h6,h7,h8,h9,hΦ _ _ _ sA⟩
theorem Ev.Ms {P:Program} {f:FuncId} {args:List DV} {os:List (List DV)} {bD:List TkE} {Φ:DV->List (List DV)->List TkE->Prop} {bt:List (Nat × TypeId)} (h:Ev P f args os bD Φ) (hb:bt=[]):Qj false P f args os bD bt Φ:=fun E w vs h1 h2 _ h4=>
 (h E w vs h1 h2 h4).mono fun _ _ ⟨v,h5,h6⟩=>⟨v,h5,h6,.nil hb⟩
theorem br {b:Bool} {A B:Prop} (h1:b=true->A) (h2:b=false->B):@Bool.rec (fun _=>Prop) B A b:=by
 cases b
 ·exact h2 rfl
 ·exact h1 rfl
section
variable {X:Ctx} {st:St} {k:List It} {E:En} {a:Act} {w:World}
theorem sG (h:Rel X E st a w) (aZ:X.still=false) {E2:En} {w':World} (hm:l4 (E.cl).S w w') (he:Env E2 [] w') (hn:Nw E.cl E2 w):Rel X ⟨E2.c,E.β,E.tk,E.τ⟩ st a w':=by
 have hh:∀ i,i < w.heap.size->w'.heap[i]? = w.heap[i]?:=fun i hi=>hm.block i hi (by
  rintro (h1 | ⟨y,h1,_⟩)
  ·simp [En.cl] at h1
  ·simp [En.cl] at h1)
 have c9:∀ x v,E2.c x=some v->E.c x=some v∨w.heap.size<=x.block:=fun x v hx=>by
  rcases hn.cn x v hx with h1 | h1 | ⟨y,h1,_⟩
  ·exact .inl h1
  ·exact .inr h1
  ·simp [En.cl] at h1
 have hx:Ext E ⟨E2.c,E.β,E.tk,E.τ⟩:=⟨hn.c,fun _ _ h=>h,fun _ q h=>⟨q,h,.inl ⟨rfl,rfl⟩⟩⟩;have hk:=h.env.iF hh;refine ch h hx ?_ h.tk ?_ (h.fr.bP hm.os hm.tape hm.output hm.size fun i hi=>.inr (hh i hi)) (kX aZ) (h.bt.iF fun b hb=>hh b (h.env.aM hb))
 ·exact {
   len:=h.env.len
   tl:=h.env.tl
   dB:=fun i cs hi=>by
    obtain ⟨b,ty,arr,hb,hw,hc⟩:=hk.dB i cs hi;exact ⟨b,ty,arr,hb,hw,hc.mono hx⟩
   inj:=h.env.inj
   sub:=he.sub
   pc:=fun x v hc jS=>by
    rcases c9 x v hc with h1 | h1
    ·exact h.env.pc x v h1 jS
    ·have:=h.env.aM jS;omega
   bD:=fun k q y hq hy=>by
    rcases hk.bD k q y hq hy with h1 | ⟨g',cap,cur,rfl,h1,h2,h3,h4,h5,h6⟩
    ·exact .inl h1
    ·refine .inr ⟨g',cap,cur,rfl,h1,⟨h2.1,h2.2.mono hn.c⟩,h3,h4,h5,fun x v hc hg=>?_⟩;rcases c9 x v hc with h7 | h7
     ·exact h6 x v h7 hg
     ·have:=(fV (h.env.bD k q _ hq hy) (g:=g') rfl).1;omega
   fY:=h.env.fY }
 ·exact {
   c:=fun x v hc=>hn.c x v (h.nw.c x v hc)
   cn:=fun x v hc=>by
    rcases c9 x v hc with h1 | h1
    ·exact h.nw.cn x v h1
    ·have:=h.fr.size;exact .inr (.inl (by omega))
   β:=h.nw.β
   tk:=h.nw.tk
   tn:=h.nw.tn
   l0:=h.nw.l0 }
theorem DK {bx:List (List DV)} (h:Env E bx w):Env E.cl [] w where
 len:=rfl
 tl:=rfl
 dB:=by simp
 inj:=List.nodup_nil
 sub:=h.sub
 pc:=by simp [En.cl]
 bD:=by simp [En.cl]
 fY:=by simp [En.cl]
theorem oq {P:Program} (h:Rel X E st a w) (aZ:X.still=false) {f:FuncId} {args aT:List DV} {vs:List Value} {Φ:DV->List (List DV)->List TkE->Prop} (hc:Ev P f aT [] [] Φ) (ha:CcL [] 0 0 0 aT args) (hv:RvL E args vs) :
  Calls P f vs.toArray w fun e w'=>∃ v E' d,e = .returned v/\Rel X E' st a w' /\ Rv E' d v/\Φ d [] []/\l4 E.cl.S w w' /\ Ext E E' /\ E'.β=E.β:=by
 have JN:RvL E.cl aT vs:=CcL.sound (E:=E) (E':=E.cl) ⟨fun _ _ h=>h,fun i cs _ hi=>by simp at hi⟩ (Ar.zero _ _) ha hv;refine (hc E.cl w vs (DK h.env) rfl JN).mono ?_;rintro e w' ⟨v,rfl,hm,_,d,os,E2,he,hβ,oo,hn,G2,hΦ⟩
 have rW:os=[]:=by
  have:=he.len;rw [hβ] at this;exact List.eq_nil_of_length_eq_zero this.symm
 subst rW;have ht0:E2.tk=[]:=List.eq_nil_of_length_eq_zero oo;refine ⟨v,⟨E2.c,E.β,E.tk,E.τ⟩,d,rfl,sG h aZ hm he hn,?_,by rw [ht0] at hΦ;exact hΦ,hm,⟨hn.c,fun _ _ h=>h,fun _ q h=>⟨q,h,.inl ⟨rfl,rfl⟩⟩⟩,rfl⟩;refine Rv.mono (E:=E2) (E':=⟨E2.c,E.β,E.tk,E.τ⟩) ⟨fun _ _ h=>h,fun i b hb=>?_,fun k q hq=>?_⟩ G2
 ·rw [hβ] at hb;simp [En.cl] at hb
 ·rw [ht0] at hq;simp at hq
theorem im {f:FuncId} {args aT:List DV} {d:Nat} (jh:Enters X.P f) (hd:eN X.nt st.sl (some d)=true) {Φ:DV->List (List DV)->List TkE->Prop} (hc:Ev X.P f aT [] [] Φ) (ha:CcL [] 0 0 0 aT args)
  (hk:∀ r,Φ r [] []->go X 4000 k ⟨(d,⟨[],r⟩) :: st.sl,st.bx,st.tk⟩) (aZ:X.still=false:=by exact rfl):eS X f args (some d) k st:=by
 refine ⟨jh,aZ,fun E a w vs h hv=>(oq h aZ hc ha hv).mono ?_⟩;rintro e w' ⟨v,E',r,rfl,bq,hr,hΦ,_⟩;exact go_sound 4000 _ _ (hk r hΦ) E' _ w' (aW bq hd r v hr)
theorem call_p {f:FuncId} {args aT:List DV} {d:Nat} {r:DV} (jh:Enters X.P f) (hc:ba X.P f aT r) (ha:CcL [] 0 0 0 aT args) (hd:eN X.nt st.sl (some d)=true)
  (hk:go X 4000 k ⟨(d,⟨[],r⟩) :: st.sl,st.bx,st.tk⟩) (aZ:X.still=false:=by exact rfl):eS X f args (some d) k st:=
 im jh hd hc ha (fun _ hr=>hr ▸ hk) aZ
def clB (n m:Nat):DV->Bool
 | .v _=>true
 | .ud=>true
 | .sl _ _ none=>true
 | .sl _ _ (some k)=>Nat.blt k m
 | .pt _ _=>true
 | .loc i _=>Nat.blt i n
 | .el i _=>Nat.blt i n
 | .ms i _ _ _ _=>Nat.blt i n
 | .agg l=>clL l
 | .dV l=>clL l
 | .fn _ l r=>clL l && clL r
 | .lZ _ x=>clB n m x
where clL:List DV->Bool
 | []=>true
 | d :: r=>clB n m d && clL r
def En.cut (E:En) (n m:Nat):En:=⟨E.c,E.β.take n,E.tk.take m,E.τ.take m⟩
mutual
theorem Rv.cut {n m:Nat} {E:En}:∀ {d:DV} {v:Value},Rv E d v->clB n m d=true->Rv (E.cut n m) d v
 | .v x,v,h,_=>by unfold Rv at h ⊢;exact h
 | .ud,v,h,_=>by unfold Rv at h ⊢;exact h
 | .sl e es none,v,h,_=>by
  unfold Rv at h ⊢;obtain ⟨b,n,cap,h1,h2,h3,_⟩:=h;exact ⟨b,n,cap,h1,h2,h3,fun k hk=>by cases hk⟩
 | .sl e es (some k),v,h,hc=>by
  unfold Rv at h ⊢;obtain ⟨b,n',cap,h1,h2,h3,h4⟩:=h;refine ⟨b,n',cap,h1,h2,h3,fun k' eT=>?_⟩;cases eT;have hk:k < m:=by simpa [clB] using hc
  obtain ⟨q,h5,h6,h7⟩:=h4 k rfl;exact ⟨q,by show (E.tk.take m)[k]? = _;rw [List.getElem?_take,if_pos hk];exact h5,h6,fun hh=>by show (E.τ.take m)[k]? = _;rw [List.getElem?_take,if_pos hk];exact h7 hh⟩
 | .pt cs o,v,h,_=>by unfold Rv at h ⊢;exact h
 | .loc i o,v,h,hc=>by
  unfold Rv at h ⊢;obtain ⟨b,hb,h1⟩:=h;have hi:i < n:=by simpa [clB] using hc
  exact ⟨b,by show (E.β.take n)[i]? = _;rw [List.getElem?_take,if_pos hi];exact hb,h1⟩
 | .el i o,v,h,hc=>by
  unfold Rv at h ⊢;obtain ⟨b,hb,h1⟩:=h;have hi:i < n:=by simpa [clB] using hc
  exact ⟨b,by show (E.β.take n)[i]? = _;rw [List.getElem?_take,if_pos hi];exact hb,h1⟩
 | .ms i e o l c,v,h,hc=>by
  unfold Rv at h ⊢;obtain ⟨b,ad,hb,h1⟩:=h;have hi:i < n:=by simpa [clB] using hc
  exact ⟨b,ad,by show (E.β.take n)[i]? = _;rw [List.getElem?_take,if_pos hi];exact hb,h1⟩
 | .agg l,v,h,hc=>by
  unfold Rv at h ⊢;obtain ⟨vs,h1,h2,h3⟩:=h;simp only [clB] at hc;exact ⟨vs,h1,RvL.cut h2 hc,h3⟩
 | .dV l,v,h,hc=>by
  unfold Rv at h ⊢;obtain ⟨vs,h1,h2⟩:=h;simp only [clB] at hc;exact ⟨vs,h1,RvL.cut h2 hc⟩
 | .fn f l r,v,h,hc=>by
  unfold Rv at h ⊢;obtain ⟨l',r',h1,h2,h3⟩:=h;simp only [clB,Bool.and_eq_true] at hc;exact ⟨l',r',h1,RvL.cut h2 hc.1,RvL.cut h3 hc.2⟩
 | .lZ t x,v,h,hc=>by
  unfold Rv at h ⊢;obtain ⟨z,h1,h2⟩:=h;simp only [clB] at hc;exact ⟨z,h1,Rv.cut h2 hc⟩
theorem RvL.cut {n m:Nat} {E:En}:∀ {l:List DV} {vs:List Value},RvL E l vs->clB.clL n m l=true->RvL (E.cut n m) l vs
 | [],vs,h,_=>by simp only [RvL] at h ⊢;exact h
 | d :: r,vs,h,hc=>by
  simp only [RvL] at h ⊢;obtain ⟨v,s,h1,h2,h3⟩:=h;simp only [clB.clL,Bool.and_eq_true] at hc;exact ⟨v,s,h1,Rv.cut h2 hc.1,RvL.cut h3 hc.2⟩
end
end
end Dv
end Go.Proofs.YtfifjddnnmfeoaaGreat
namespace Go.Proofs.YtfifjddnnmfeoaaGreat
namespace Dv
open Go Go.RowKit
def We (n m:Nat) (bX:List TkE) (x x':DV):Prop:=
 (x=x' /\ clB n m x=true)∨(x = .v (.slice none 0 0)/\∃ e k q,x' = .sl e [] (some k)/\m<=k/\bX[k]? = some q)∨(x = .v (.slice none 0 0)/\∃ e,x' = .sl e [] none)∨(∃ e es tk,x = .sl e es tk/\x' = .sl e es none)∨(∃ e es vw tk,x = .sl e es tk/\x' = .sl e vw none/\CcE [] 0 vw es)∨(∃ e es vw k,x = .sl e es (some k)/\x' = .sl e vw (some k)/\k < m/\CcE [] 0 vw es)
def WeL (n m:Nat) (bX:List TkE):List DV->List DV->Prop
 | [],l=>l=[]
 | x :: r,l=>∃ x' r',l=x' :: r' /\ We n m bX x x' /\ WeL n m bX r r'
def WeLL (n m:Nat) (bX:List TkE):List (List DV)->List (List DV)->Prop
 | [],l=>l=[]
 | x :: r,l=>∃ x' r',l=x' :: r' /\ WeL n m bX x x' /\ WeLL n m bX r r'
def mg (n m:Nat) (bX:List TkE) (sl:List (Nat × Sl)):List (Nat × Sl)->Prop
 | []=>True
 | p :: r=>(∃ x,get sl p.1=some ⟨p.2.gs,x⟩/\We n m bX x p.2.s)/\mg n m bX sl r
structure nB (n0 m0:Nat) (st aP:St):Prop where
 all:∃ kept dropped new b0 r,m0<=kept.length/\n0<=b0.length/\st.tk=kept ++ dropped/\aP.tk=kept ++ new/\(∀ q∈new,TkE.new q=true)/\st.bx=b0 ++ r/\WeLL b0.length kept.length aP.tk b0 aP.bx/\mg b0.length kept.length aP.tk st.sl aP.sl
theorem WeLL.length {n m:Nat} {bX:List TkE}:∀ {l l':List (List DV)},WeLL n m bX l l' -> l'.length=l.length
 | [],l',h=>by simp only [WeLL] at h;subst h;rfl
 | x :: r,l',h=>by
  simp only [WeLL] at h;obtain ⟨x',r',rfl,_,h2⟩:=h;simp [WeLL.length h2]
theorem WeLL.get {n m:Nat} {bX:List TkE}:∀ {l l':List (List DV)},WeLL n m bX l l' -> ∀ (i:Nat) cs',l'[i]? = some cs' -> ∃ cs,l[i]? = some cs/\WeL n m bX cs cs'
 | [],l',h,i,cs',hi=>by simp only [WeLL] at h;subst h;simp at hi
 | x :: r,l',h,i,cs',hi=>by
  simp only [WeLL] at h;obtain ⟨x',r',rfl,h1,h2⟩:=h
  cases i with
  | zero=>simp only [List.getElem?_cons_zero,oI] at hi;subst hi;exact ⟨x,rfl,h1⟩
  | succ i=>simp only [List.getElem?_cons_succ] at hi ⊢;exact WeLL.get h2 i cs' hi
theorem pZ {n m:Nat} {bX:List TkE} {sl:List (Nat × Sl)}:∀ {l:List (Nat × Sl)},mg n m bX sl l->∀ i x',get l i=some x' -> ∃ x,get sl i=some ⟨x'.gs,x⟩/\We n m bX x x'.s
 | [],_,i,x',hx=>by cases hx
 | (k,y) :: r,h,i,x',hx=>by
  simp only [cy] at hx;split at hx
  ·rename_i gI;subst gI;simp only [oI] at hx;subst hx;exact h.1
  ·exact pZ h.2 i x' hx
section
variable {X:Ctx} {E:En} {st aP:St} {a:Act} {w:World} {k:List It}
def En.wk (E:En) (n:Nat) (kept new:List TkE):En:=⟨E.c,E.β.take n,kept ++ new,E.τ.take kept.length ++ List.replicate new.length (.slice none 0 0)⟩
theorem vY {n:Nat} {kept dropped new:List TkE} (ht:E.tk=kept ++ dropped) (hl:E.τ.length=E.tk.length) (c9:∀ q∈new,TkE.new q=true) {x x':DV} {v:Value} (hx:We n kept.length (kept ++ new) x x') (hv:Rv E x v):Rv (E.wk n kept new) x' v:=by
 have gZ:kept.length<=E.τ.length:=by rw [hl,ht];simp
 have first:∀ {x:DV},clB n kept.length x=true->Rv E x v->Rv (E.wk n kept new) x v:=by
  intro x hc hv;refine Rv.mono (E:=E.cut n kept.length) ⟨fun _ _ h=>h,fun _ _ h=>h,fun k q hq=>?_⟩ (Rv.cut hv hc);have kE:(E.tk.take kept.length)[k]? = some q:=hq;rw [List.getElem?_take] at kE;split at kE
  ·rename_i hk;refine ⟨q,?_,.inl ⟨rfl,?_⟩⟩
   ·show (kept ++ new)[k]? = _;rw [ht,List.getElem?_append_left hk] at kE;rw [List.getElem?_append_left hk];exact kE
   ·show (E.τ.take kept.length ++ _)[k]? = (E.τ.take kept.length)[k]?;rw [List.getElem?_append_left (by rw [List.length_take];omega)]
  ·cases kE
 rcases hx with ⟨rfl,hc⟩ | ⟨rfl,e,k,q,rfl,hk,hq⟩ | ⟨rfl,e,rfl⟩ | ⟨e,es,tk,rfl,rfl⟩ | ⟨e,es,vw,tk,rfl,rfl,he⟩ | ⟨e,es,vw,k,rfl,rfl,hk,he⟩
 ·exact first hc hv
 ·have:=bo hv;subst this;unfold Rv;refine ⟨none,0,0,rfl,⟨rfl,Nat.le_refl _⟩,fun hn=>(hn rfl).elim,fun k' eT=>?_⟩;cases eT;have Mt:(kept ++ new)[k]? = some q:=hq;rw [List.getElem?_append_right hk] at Mt;have uv:=TkE.Di (c9 q (mG Mt));refine ⟨q,hq,by omega,fun _=>?_⟩;have au:=(gS Mt).1;show (E.τ.take kept.length ++ List.replicate new.length _)[k]? = _;rw [List.getElem?_append_right (by rw [List.length_take];omega)];rw [List.length_take,Nat.min_eq_left gZ,List.getElem?_replicate,if_pos au]
 ·have:=bo hv;subst this;unfold Rv;exact ⟨none,0,0,rfl,⟨rfl,Nat.le_refl _⟩,fun hn=>(hn rfl).elim,fun k hk=>by cases hk⟩
 ·unfold Rv at hv ⊢;obtain ⟨b,n,cap,h1,h2,h3,_⟩:=hv;exact ⟨b,n,cap,h1,h2,h3,fun k hk=>by cases hk⟩
 ·have hv:=IC he hv;unfold Rv at hv ⊢;obtain ⟨b,n,cap,h1,h2,h3,_⟩:=hv;exact ⟨b,n,cap,h1,h2,h3,fun k hk=>by cases hk⟩
 ·exact first (by simp only [clB];exact Nat.ble_eq_true_of_le hk) (IC he hv)
theorem sH {n:Nat} {kept dropped new:List TkE} (ht:E.tk=kept ++ dropped) (hl:E.τ.length=E.tk.length) (c9:∀ q∈new,TkE.new q=true):∀ {l l':List DV} {vs:List Value},WeL n kept.length (kept ++ new) l l' -> RvL E l vs->RvL (E.wk n kept new) l' vs
 | [],l',vs,h,hv=>by
  simp only [WeL] at h;subst h;simp only [RvL] at hv ⊢;exact hv
 | x :: r,l',vs,h,hv=>by
  simp only [WeL] at h;obtain ⟨x',r',rfl,h1,h2⟩:=h;simp only [RvL] at hv ⊢;obtain ⟨v,s,h3,h4,h5⟩:=hv;exact ⟨v,s,h3,vY ht hl c9 h1 h4,sH ht hl c9 h2 h5⟩
theorem BH (h:Rel X E st a w) {kept dropped new:List TkE} {b0 r:List (List DV)} (ez:X.m0<=kept.length/\X.n0<=b0.length/\st.tk=kept ++ dropped/\aP.tk=kept ++ new/\(∀ q∈new,TkE.new q=true)/\st.bx=b0 ++ r/\WeLL b0.length kept.length aP.tk b0 aP.bx/\mg b0.length kept.length aP.tk st.sl aP.sl):Rel X (E.wk b0.length kept new) aP a w:=by
 obtain ⟨pe,oS,ht,pj,c9,hb,pU,vz⟩:=ez;rw [pj] at pU vz;have Mu:E.tk=kept ++ dropped:=by rw [h.tk,ht]
 have hbl:=pU.length;have gZ:kept.length<=E.τ.length:=by rw [h.env.tl,Mu];simp
 have gj:b0.length<=E.β.length:=by rw [h.env.len,hb];simp
 have hτ:∀ (k:Nat) y,(E.τ.take kept.length ++ List.replicate new.length (Value.slice none 0 0))[k]? = some y->(k < kept.length/\E.τ[k]? = some y)∨(kept.length<=k/\y = .slice none 0 0):=fun k y hy=>by
  rw [List.getElem?_append] at hy;split at hy
  ·rename_i hk;rw [List.length_take] at hk;rw [List.getElem?_take,if_pos (by omega)] at hy;exact .inl ⟨by omega,hy⟩
  ·rename_i hk;rw [List.length_take] at hk;rw [List.getElem?_replicate] at hy;split at hy
   ·simp only [oI] at hy;exact .inr ⟨by omega,hy.symm⟩
   ·cases hy
 exact {
  env:={
   len:=by simp only [En.wk,List.length_take];omega
   tl:=by simp only [En.wk,List.length_append,List.length_take,List.length_replicate];omega
   dB:=fun i cs' hi=>by
    obtain ⟨cs,cA,Qk⟩:=pU.get i cs' hi;have au:=(gS cA).1;obtain ⟨b,ty,arr,hbb,Pc,hc⟩:=h.env.dB i cs (by rw [hb,List.getElem?_append_left au];exact cA);exact ⟨b,ty,arr,by simp only [En.wk];rw [List.getElem?_take,if_pos au];exact hbb,Pc,sH Mu h.env.tl c9 Qk hc.1,hc.2⟩
   inj:=h.env.inj.sublist (List.take_sublist _ _)
   sub:=h.env.sub
   pc:=fun x v hx hm=>h.env.pc x v hx (List.mem_of_mem_take hm)
   bD:=fun k q y hq hy=>by
    rcases hτ k y hy with ⟨hk,dW⟩ | ⟨hk,rfl⟩
    ·have kE:(kept ++ new)[k]? = some q:=hq;rw [List.getElem?_append_left hk] at kE;rcases h.env.bD k q y (by rw [Mu,List.getElem?_append_left hk];exact kE) dW with h1 | ⟨g,cap,cur,rfl,h1,h2,h3,h4,h5,h6⟩
     ·exact .inl h1
     ·exact .inr ⟨g,cap,cur,rfl,h1,h2,h3,h4,fun hm=>h5 (List.mem_of_mem_take hm),h6⟩
    ·have kE:(kept ++ new)[k]? = some q:=hq;rw [List.getElem?_append_right hk] at kE;exact .inl ⟨rfl,TkE.Di (c9 q (mG kE)),TkE.Ir (c9 q (mG kE))⟩
   fY:=fun k k' y y' g ma hy dW hg ph=>by
    rcases hτ k y hy with ⟨_,vQ⟩ | ⟨_,rfl⟩
    ·rcases hτ k' y' dW with ⟨_,jO⟩ | ⟨_,rfl⟩
     ·exact h.env.fY k k' y y' g ma vQ jO hg ph
     ·simp [Value.ownBlock] at ph
    ·simp [Value.ownBlock] at hg }
  tk:=by simp only [En.wk];exact pj.symm
  sz:=h.sz
  tm:=fun i x' vx=>by
   obtain ⟨x,hx,Qk⟩:=pZ vz i x' vx;have:=h.tm i _ hx;refine ⟨fun hh=>?_,this.2⟩;obtain ⟨v,h1,h2⟩:=this.1 hh;exact ⟨v,h1,vY Mu h.env.tl c9 Qk h2⟩
  df:=h.df
  nw:={
   c:=h.nw.c
   cn:=h.nw.cn
   β:=by
    obtain ⟨r2,hr,hl⟩:=h.nw.β;refine ⟨r2.take (b0.length - X.n0),?_,fun b hb=>hl b (List.mem_of_mem_take hb)⟩;simp only [En.wk];rw [hr,List.take_append,List.take_of_length_le (by rw [X.oS];omega),X.oS]
   tk:=fun j q0 y0 uv pP=>by
    obtain ⟨q',y',h1,h2,h3⟩:=h.nw.tk j q0 y0 uv pP;have hj:j < X.m0:=by rw [<- X.pe];exact (gS uv).1
    have Kc:j < kept.length:=by omega
    exact ⟨q',y',by simp only [En.wk];rw [List.getElem?_append_left Kc];rw [Mu,List.getElem?_append_left Kc] at h1;exact h1,by simp only [En.wk];rw [List.getElem?_append_left (by rw [List.length_take];omega),List.getElem?_take,if_pos Kc];exact h2,h3⟩
   tn:=fun j y g hj hy hg=>by
    rcases hτ j y hy with ⟨_,vQ⟩ | ⟨_,rfl⟩
    ·exact h.nw.tn j y g hj vQ hg
    ·simp [Value.ownBlock] at hg
   l0:=h.nw.l0 }
  fr:=h.fr
  sh:=h.sh
  bt:=h.bt.sub _ }
theorem p8 (h:Rel X E st a w) (hw:nB X.n0 X.m0 st aP):∃ E',Rel X E' aP a w:=by
 obtain ⟨_,_,_,_,_,ez⟩:=hw.all;exact ⟨_,BH h ez⟩
theorem least {p:Nat->Prop} (h:∃ n,p n):∃ n,p n/\∀ m,p m->n<=m:=by
 obtain ⟨n,hn⟩:=h
 induction n using Nat.strongRecOn with
 | _ n ih=>
  by_cases hm:∃ m,m < n/\p m
  ·obtain ⟨m,au,hp⟩:=hm;exact ih m au hp
  ·refine ⟨n,hn,fun m hp=>?_⟩;rcases Nat.lt_or_ge m n with h1 | h1
   ·exact (hm ⟨m,h1,hp⟩).elim
   ·exact h1
theorem bU {c:Code} (I:Nat->St->Prop) (j0:Nat) (fZ:St) (hw:nB X.n0 X.m0 st fZ) (h0:I j0 fZ)
  (hr:∀ j s,I j s->go X 4000 (.code c :: .pK (fun s'=>∃ vZ,nB X.n0 X.m0 s' vZ /\ ∃ j',j' < j/\I j' vZ) :: k) s):od X c k st:=by
 intro E a w h;obtain ⟨E0,hr0⟩:=p8 h hw
 classical
 let Inv:Act->World->Prop:=fun a w=>∃ j s E,Rel X E s a w/\I j s
 let μ:Act->World->Nat:=fun a w=>if hI:Inv a w then Classical.choose (least hI) else 0
 refine wp_loop Inv μ ⟨j0,fZ,E0,hr0,h0⟩ ?_;intro a1 w1 hI;have dF:=(Classical.choose_spec (least hI)).1;obtain ⟨s,E1,bq,Ql⟩:=dF;have hs:=go_sound 4000 _ _ (hr _ s Ql) E1 a1 w1 bq;rw [dE] at hs;refine wp_mono hs ?_;intro e a2 w2 hq
 cases e with
 | normal=>
  obtain ⟨s',E2,p9,vZ,Mv,j',eJ,Mw⟩:=hq;obtain ⟨E3,v7⟩:=p8 p9 Mv;have Kd:Inv a2 w2:=⟨j',vZ,E3,v7,Mw⟩;refine ⟨Kd,?_⟩;simp only [μ,dif_pos hI,dif_pos Kd];exact Nat.lt_of_le_of_lt ((Classical.choose_spec (least Kd)).2 j' ⟨vZ,E3,v7,Mw⟩) eJ
 | exit id=>exact hq
 | goto l=>exact hq
 | ret=>exact hq
 | panic c=>exact hq
 | outgrown=>exact hq
theorem aw {n m:Nat} {bX:List TkE} {x:DV} (h:clB n m x=true):We n m bX x x:=.inl ⟨rfl,h⟩
theorem ay {n m:Nat} {bX:List TkE} {kd:IntKind} {x y:Int} (h:x=y):We n m bX (.v (.int kd x)) (.v (.int kd y)):=.inl ⟨by rw [h],rfl⟩
theorem bQ {n m:Nat} {bX:List TkE} {e k:Nat} {q:TkE} (h1:m<=k) (h2:bX[k]? = some q):We n m bX (.v (.slice none 0 0)) (.sl e [] (some k)):=.inr (.inl ⟨rfl,e,k,q,rfl,h1,h2⟩)
theorem dG {n m:Nat} {bX:List TkE} {e k:Nat} {es vw:List (List DV)} (h:es=vw) (hk:Nat.blt k m=true):We n m bX (.sl e es (some k)) (.sl e vw (some k)):=.inl ⟨by rw [h],hk⟩
theorem Ke {n m:Nat} {bX:List TkE} {e:Nat}:We n m bX (.v (.slice none 0 0)) (.sl e [] none):=.inr (.inr (.inl ⟨rfl,e,rfl⟩))
theorem ax {p:Prop} (h:p:=by repeat' (first | exact rfl | exact trivial | exact Or.inr (Or.inl ⟨_,rfl⟩) | exact Or.inr ⟨_,rfl⟩ | exact Or.inl ⟨rfl,rfl⟩ | exact Or.inl rfl | refine Or.inr ⟨_,_,rfl,Nat.zero_le _,rfl,?_⟩ | refine ⟨_,_,rfl,?_,?_⟩ | refine ⟨_,rfl,?_⟩ | refine Or.inr (Or.inr (Or.inr ⟨_,_,rfl,?_⟩)) | exact Or.inl rfl | refine Or.inr ?_)):p:=h
theorem wA {p:Prop} (h:p:=by repeat' (first | exact rfl | exact aw rfl | refine ⟨_,_,rfl,?_,?_⟩)):p:=h
theorem wB {p:Prop} (h:p:=by repeat' (first | exact trivial | exact aw rfl | refine ⟨⟨_,rfl,?_⟩,?_⟩)):p:=h
theorem aq {n0 m0:Nat} {st aP:St} (h1:∃ r,st.bx=aP.bx ++ r) (h2:WeLL aP.bx.length aP.tk.length aP.tk aP.bx aP.bx) (h3:st.tk=aP.tk) (h4:Nat.ble n0 aP.bx.length=true) (h5:Nat.ble m0 aP.tk.length=true)
  (h:mg aP.bx.length aP.tk.length aP.tk st.sl aP.sl):nB n0 m0 st aP:=by
 obtain ⟨r,hr⟩:=h1;exact ⟨aP.tk,[],[],aP.bx,r,by simpa using h5,by simpa using h4,by simp [h3],by simp,by simp,hr,h2,h⟩
theorem aS {n0 m0:Nat} {st aP:St} (n:Nat) (hn:Nat.ble n st.bx.length=true) (h2:WeLL n aP.tk.length aP.tk (st.bx.take n) aP.bx) (h3:st.tk=aP.tk) (h4:Nat.ble n0 n=true) (h5:Nat.ble m0 aP.tk.length=true)
  (h:mg n aP.tk.length aP.tk st.sl aP.sl):nB n0 m0 st aP:=by
 have hl:(st.bx.take n).length=n:=by
  have:=nL hn;rw [List.length_take];omega
 exact ⟨aP.tk,[],[],st.bx.take n,st.bx.drop n,by simpa using h5,by rw [hl];simpa using h4,by simp [h3],by simp,by simp,(List.take_append_drop n st.bx).symm,by rw [hl];exact h2,by rw [hl];exact h⟩
theorem j3 {n0 m0:Nat} {st aP:St} (q:TkE) (hq:q.new=true) (h1:∃ r,st.bx=aP.bx ++ r) (h3:st.tk ++ [q]=aP.tk) (h2:WeLL aP.bx.length st.tk.length aP.tk aP.bx aP.bx) (h4:Nat.ble n0 aP.bx.length=true) (h5:Nat.ble m0 st.tk.length=true)
  (h:mg aP.bx.length st.tk.length aP.tk st.sl aP.sl):nB n0 m0 st aP:=by
 obtain ⟨r,hr⟩:=h1;exact ⟨st.tk,[],[q],aP.bx,r,by simpa using h5,by simpa using h4,by simp,h3.symm,by simpa using hq,hr,h2,h⟩
end
end Dv
end Go.Proofs.YtfifjddnnmfeoaaGreat
namespace Go.Proofs.YtfifjddnnmfeoaaGreat
namespace Dv
theorem aL {p : Prop} (h : p := by repeat' (first | exact rfl | exact trivial | exact Or.inr (Or.inl ⟨_,rfl⟩) | exact Or.inr ⟨_,rfl⟩ | exact Or.inl ⟨rfl,rfl⟩ | exact Or.inl rfl | refine Or.inr ⟨_,_,rfl,Nat.zero_le _,rfl,?_⟩ | refine ⟨_,_,rfl,?_,?_⟩ | refine ⟨_,rfl,?_⟩ | exact ⟨nL rfl,rfl⟩ | refine Or.inr (Or.inr (Or.inr ⟨_,_,rfl,?_⟩)) | exact Or.inl rfl | refine Or.inr ?_)) : p := h
theorem aI {p : Prop} {a b : Int} (q : a=b) (h : a=b -> p := by intro q;repeat' (first | exact rfl | exact trivial | exact Or.inr (Or.inl ⟨_,rfl⟩) | exact Or.inr ⟨_,rfl⟩ | exact Or.inl ⟨rfl,rfl⟩ | exact Or.inl rfl | refine Or.inr ⟨_,_,rfl,Nat.zero_le _,rfl,?_⟩ | refine ⟨_,_,rfl,?_,?_⟩ | refine ⟨_,rfl,?_⟩ | exact congrArg (fun z=>DV.v (.int .i64 z)) q | refine Or.inr (Or.inr (Or.inr ⟨_,_,rfl,?_⟩)) | exact Or.inl rfl | refine Or.inr ?_)) : p := h q
theorem aB {p : Prop} {a b : Bool} (q : a=b) (h : a=b -> p := by intro q;repeat' (first | exact rfl | exact trivial | exact Or.inr (Or.inl ⟨_,rfl⟩) | exact Or.inr ⟨_,rfl⟩ | exact Or.inl ⟨rfl,rfl⟩ | exact Or.inl rfl | refine Or.inr ⟨_,_,rfl,Nat.zero_le _,rfl,?_⟩ | refine ⟨_,_,rfl,?_,?_⟩ | refine ⟨_,rfl,?_⟩ | exact congrArg (fun b=>DV.v (.bool b)) q | refine Or.inr (Or.inr (Or.inr ⟨_,_,rfl,?_⟩)) | exact Or.inl rfl | refine Or.inr ?_)) : p := h q
theorem bh {p : Prop} {a b : Nat} (q : a < b) (hn : b <= 4611686018427387904 := by omega) (h : a < b -> b <= 4611686018427387904 -> p := by intro q hn;repeat' (first | exact rfl | exact aw rfl | exact ay (bA q hn) | refine ⟨_,_,rfl,?_,?_⟩)) : p := h q hn
theorem ah {p : Prop} {a b : Nat} (q : a < b) (hn : b <= 4611686018427387904 := by omega) (h : a < b -> b <= 4611686018427387904 -> p := by intro q hn;repeat' (first | exact trivial | exact aw rfl | exact ay (bA q hn) | refine ⟨⟨_,rfl,?_⟩,?_⟩)) : p := h q hn
theorem aK {p r : Prop} {a b : Nat} (q : a < b) (s : r) (hn : b <= 4611686018427387904 := by omega) (h : a < b -> b <= 4611686018427387904 -> r -> p := by intro q hn s;repeat' (first | exact rfl | exact aw rfl | exact ay (bA q hn) | exact dG s rfl | refine ⟨_,_,rfl,?_,?_⟩)) : p := h q hn s
theorem aj {p r : Prop} {a b : Nat} (q : a < b) (s : r) (hn : b <= 4611686018427387904 := by omega) (h : a < b -> b <= 4611686018427387904 -> r -> p := by intro q hn s;repeat' (first | exact trivial | exact aw rfl | exact ay (bA q hn) | exact dG s rfl | refine ⟨⟨_,rfl,?_⟩,?_⟩)) : p := h q hn s
theorem aX {p : Prop} (h : p := by repeat' (first | exact trivial | exact aw rfl | exact bQ (Nat.le_refl _) rfl | refine ⟨⟨_,rfl,?_⟩,?_⟩)) : p := h
theorem wTA {p : Prop} (h : p := by repeat' (first | exact rfl | exact aw rfl | exact bQ (Nat.le_refl _) rfl | refine ⟨_,_,rfl,?_,?_⟩)) : p := h
theorem wRB {p : Prop} (h : p := by repeat' (first | exact trivial | exact aw rfl | exact ay rfl | refine ⟨⟨_,rfl,?_⟩,?_⟩)) : p := h
theorem wRA {p : Prop} (h : p := by repeat' (first | exact rfl | exact aw rfl | exact ay rfl | refine ⟨_,_,rfl,?_,?_⟩)) : p := h
end Dv
end Go.Proofs.YtfifjddnnmfeoaaGreat
namespace Go.Proofs.YtfifjddnnmfeoaaGreat
namespace Dv
open Go
section
variable {P:Program} {ops:Array Oper} {C:World->Prop} {Q:Act->World->Prop} {W:Nat->Bool} {π:Nat->Nat}
theorem My {o:Oper} {a:Act} {w:World} {K:Act->World->Prop} (h:wq P o a w K):∃ v w',K (a.put o.dst v) w':=by
 unfold wq at h;split at h
 ·exact ⟨_,_,h⟩
 ·exact ⟨_,_,h⟩
 ·obtain ⟨e,w',fr,⟨v,_,hv⟩,_⟩:=h [];exact ⟨v,w',hv⟩
 ·exact h.elim
theorem Kg {x y:Oper} {v:Value} (LP:x.apart ops y=true) (hs:∀ cs b,y.op ≠ .select cs b) {a:Act} {w:World} {K:Act->World->Prop} :
  wq P y (a.put x.dst v) w K↔wq P y a w (fun a' w'=>K (a'.put x.dst v) w'):=by
 obtain ⟨h1,h2,h3⟩:=Oper.apart_spec LP;unfold wq;rw [execOp_put y hs a x.dst v h1];have hc:∀ u,(a.put x.dst v).put y.dst u=(a.put y.dst u).put x.dst v:=fun u=>Act.put_comm a v u h2
 cases (execOp a.eval y).run P w with
 | halt h w'=>rfl
 | ok n w'=>cases n<;>simp [hc]
def Yl (P:Program) (ops:Array Oper) (C:World->Prop) (o:Oper) (v:Value) (a:Act):Prop:=
 (Region.wanted o (yielded ops a.tmps)=true/\∀ w,(iY o.op=true->C w)->(execOp a.eval o).run P w = .ok (.value v) w) ∨
 (Region.wanted o (yielded ops a.tmps)=false/\v=undef)
theorem Yl.same {x y:Oper} {v u:Value} (LP:x.apart ops y=true) (hs:∀ cs b,y.op ≠ .select cs b) {a:Act}:Yl P ops C y v (a.put x.dst u)↔Yl P ops C y v a:=by
 obtain ⟨h1,h2,h3⟩:=Oper.apart_spec LP;unfold Yl;rw [execOp_put y hs a x.dst u h1,wanted_put y a x.dst u h1]
def cz (P:Program) (ops:Array Oper) (o:Oper) (a:Act) (w:World) (K:Act->World->Prop):Prop:=
 if Region.wanted o (yielded ops a.tmps)=true then wq P o a w K else K (a.put o.dst undef) w
theorem bu {o:Oper} {a:Act} {w:World} {K K':Act->World->Prop} (hk:∀ a w,K a w->K' a w) (h:cz P ops o a w K):cz P ops o a w K':=by
 unfold cz at *;split<;>rename_i hw
 ·rw [if_pos hw] at h;exact kF hk h
 ·rw [if_neg hw] at h;exact hk _ _ h
theorem gw {x y:Oper} {v:Value} (LP:x.apart ops y=true) (hs:∀ cs b,y.op ≠ .select cs b) {a:Act} {w:World} {K:Act->World->Prop} :
  cz P ops y (a.put x.dst v) w K↔cz P ops y a w (fun a' w'=>K (a'.put x.dst v) w'):=by
 obtain ⟨h1,h2,h3⟩:=Oper.apart_spec LP;unfold cz;rw [wanted_put y a x.dst v h1];split
 ·exact Kg LP hs
 ·rw [Act.put_comm a v undef h2]
theorem DL {o:Oper} {a:Act} {w:World} {K:Act->World->Prop} (h:cz P ops o a w K):∃ v w',K (a.put o.dst v) w':=by
 unfold cz at h;split at h
 ·exact My h
 ·exact ⟨_,_,h⟩
theorem fp {o:Oper} {a:Act} {w:World} {K:Act->World->Prop} (h:cz P ops o a w K):cz P ops o a w (fun a' w'=>K a' w' /\ ∃ u,a'=a.put o.dst u):=by
 unfold cz at *;split<;>rename_i hw
 ·rw [if_pos hw] at h;unfold wq at *;split at h
  ·rename_i hr;exact ⟨h,_,rfl⟩
  ·rename_i hr;exact ⟨h,_,rfl⟩
  ·rename_i hr;refine h.mono ?_;rintro e w' ⟨v,rfl,hv⟩;exact ⟨v,rfl,hv,v,rfl⟩
  ·exact h.elim
 ·rw [if_neg hw] at h;exact ⟨h,_,rfl⟩
theorem eK {o:Oper} {a:Act} {w:World} {v:Value} {K:Act->World->Prop} (hy:Yl P ops C o v a) (hc:iY o.op=true->C w) (hk:K (a.put o.dst v) w):cz P ops o a w K:=by
 unfold cz;rcases hy with ⟨hw,hv⟩ | ⟨hw,rfl⟩
 ·rw [if_pos hw];unfold wq;rw [hv w hc];exact hk
 ·rw [if_neg (by simp [hw])];exact hk
theorem eL {o:Oper} {a:Act} {w:World} {v:Value} {K:Act->World->Prop} (hy:Yl P ops C o v a) (hc:iY o.op=true->C w) (h:cz P ops o a w K):K (a.put o.dst v) w:=by
 unfold cz at h;rcases hy with ⟨hw,hv⟩ | ⟨hw,rfl⟩
 ·rw [if_pos hw] at h;unfold wq at h;rw [hv w hc] at h;exact h
 ·rw [if_neg (by simp [hw])] at h;exact h
def runT (P:Program) (ops:Array Oper) (W:Nat->Bool) (C:World->Prop) (Q:Act->World->Prop):List Nat->Act->World->Prop
 | [],a,w=>Q a w
 | i :: r,a,w=>
  match ops[i]? with
  | none=>False
  | some o=>
   if eI o.op=true then cz P ops o a w fun a' w'=>(W i=false->C w->C w')/\runT P ops W C Q r a' w'
   else ∃ v,Yl P ops C o v a/\(iY o.op=true->C w)/\runT P ops W C Q r (a.put o.dst v) w
def dH (ops:Array Oper) (W:Nat->Bool) (j i:Nat):Bool:=
 match ops[j]?,ops[i]? with
 | some x,some y=>x.apart ops y && y.apart ops x && !(eI x.op && eI y.op) && !(iY x.op && W i)
 | _,_=>false
def rY (ops:Array Oper) (l:List Nat):Prop:=∃ i o,i∈l/\ops[i]? = some o/\iY o.op=true
theorem cM {j i:Nat} {x y:Oper} (h:dH ops W j i=true) (hj:ops[j]? = some x) (hi:ops[i]? = some y) :
  x.apart ops y=true/\y.apart ops x=true/\¬ (eI x.op=true/\eI y.op=true)/\¬ (iY x.op=true/\W i=true):=by
 unfold dH at h;rw [hj,hi] at h;simp only [Bool.and_eq_true,Bool.not_eq_true',Bool.and_eq_false_iff] at h;refine ⟨h.1.1.1,h.1.1.2,?_,?_⟩
 ·rintro ⟨h1,h2⟩;rcases h.1.2 with h3 | h3<;>simp_all
 ·rintro ⟨h1,h2⟩;rcases h.2 with h3 | h3<;>simp_all
theorem gN (bY:∀ (j:Nat) (o:Oper) cs b,ops[j]? = some o->o.op ≠ .select cs b) {i:Nat} {o:Oper} (hi:ops[i]? = some o) (hR:eI o.op=false) :
  ∀ (rem:List Nat) (a:Act) (w:World),runT P ops W C Q rem a w->i∈rem->(∀ j∈rem,j≠i->π j < π i->dH ops W j i=true)->rem.Pairwise (fun a b=>π a < π b)->∃ v,Yl P ops C o v a
 | [],_,_,_,hm,_,_=>by cases hm
 | h :: rem,a,w,hr,hm,ou,hp=>by
  simp only [runT] at hr;by_cases rT:h=i
  ·subst rT;rw [hi] at hr;simp only [hR,Bool.false_eq_true,if_false] at hr;obtain ⟨v,hy,_⟩:=hr;exact ⟨v,hy⟩
  ·have jS:i∈rem:=by
    rcases List.mem_cons.1 hm with e | e
    ·exact (rT e.symm).elim
    ·exact e
   have au:π h < π i:=(List.pairwise_cons.1 hp).1 i jS;split at hr
   ·exact hr.elim
   ·rename_i x hx;obtain ⟨yE,C8,_,_⟩:=cM (ou h (by simp) rT au) hx hi;have ih:=fun a w hr=>gN bY hi hR rem a w hr jS (fun j hj=>ou j (List.mem_cons_of_mem _ hj)) (List.pairwise_cons.1 hp).2;split at hr
    ·obtain ⟨u,w',_,ff⟩:=DL hr;obtain ⟨v,hy⟩:=ih _ _ ff;exact ⟨v,(Yl.same yE (fun cs b=>bY i o cs b hi)).1 hy⟩
    ·obtain ⟨u,_,_,ff⟩:=hr;obtain ⟨v,hy⟩:=ih _ _ ff;exact ⟨v,(Yl.same yE (fun cs b=>bY i o cs b hi)).1 hy⟩
theorem sI {h:Nat} {rem:List Nat} (hl:rY ops rem):rY ops (h :: rem):=by
 obtain ⟨i,o,hm,ho,hL⟩:=hl;exact ⟨i,o,List.mem_cons_of_mem _ hm,ho,hL⟩
theorem ef (bY:∀ (j:Nat) (o:Oper) cs b,ops[j]? = some o->o.op ≠ .select cs b) (nh:∀ j i x y,π j < π i->ops[i]? = some x->ops[j]? = some y->iY x.op=true->W j=false) {i:Nat} {o:Oper} (hi:ops[i]? = some o) :
  ∀ (rem:List Nat) (a:Act) (w:World),(rY ops rem->C w)->runT P ops W C Q rem a w->i∈rem->(∀ j∈rem,j≠i->π j < π i->dH ops W j i=true)->rem.Pairwise (fun a b=>π a < π b) ->
   cz P ops o a w (fun a' w'=>(W i=false->C w->C w')/\runT P ops W C Q (rem.erase i) a' w')
 | [],_,_,_,_,hm,_,_=>by cases hm
 | h :: rem,a,w,hC,hr,hm,ou,hp=>by
  by_cases rT:h=i
  ·subst rT;rw [List.erase_cons_head];simp only [runT,hi] at hr;split at hr
   ·exact hr
   ·obtain ⟨v,hy,hc,ff⟩:=hr;exact eK hy hc ⟨fun _ h=>h,ff⟩
  ·have jS:i∈rem:=by
    rcases List.mem_cons.1 hm with e | e
    ·exact (rT e.symm).elim
    ·exact e
   have au:π h < π i:=(List.pairwise_cons.1 hp).1 i jS;have mh:=(List.pairwise_cons.1 hp).2;rw [List.erase_cons_tail (by simpa using rT)];have hr0:=hr;simp only [runT] at hr;split at hr
   ·exact hr.elim
   ·rename_i x hx;obtain ⟨yE,C8,Qm,Mz⟩:=cM (ou h (by simp) rT au) hx hi;have uF:=fun cs b=>bY h x cs b hx;have BI:=fun cs b=>bY i o cs b hi;have DM:∀ j∈rem,j≠i->π j < π i->dH ops W j i=true:=fun j hj=>ou j (List.mem_cons_of_mem _ hj);split at hr
    ·-- the head has an effect: so o has none
     rename_i Pj
     have Qn:eI o.op=false:=by
      cases he:eI o.op
      ·rfl
      ·exact (Qm ⟨Pj,he⟩).elim
     obtain ⟨v,hy⟩:=gN (π:=π) bY hi Qn (h :: rem) a w hr0 hm ou hp;have Kh:iY o.op=true->C w:=fun hL=>hC ⟨i,o,hm,hi,hL⟩;refine eK hy Kh ⟨fun _ h=>h,?_⟩;simp only [runT,hx,Pj,if_true];refine (gw C8 uF).2 ?_;refine bu ?_ (fp hr);rintro a' w' ⟨⟨k0,ff⟩,u,rfl⟩;refine ⟨k0,?_⟩
     have Ki:rY ops rem->C w':=by
      intro hl;have ov:=hl;obtain ⟨l,z,DN,hz,hL⟩:=hl;exact k0 (nh h l z x ((List.pairwise_cons.1 hp).1 l DN) hz hx hL) (hC (sI ov))
     have ih:=ef bY nh hi rem _ w' Ki ff jS DM mh;have dW:=(Yl.same (u:=u) yE BI).2 hy;exact (eL dW (fun hL=>Ki ⟨i,o,jS,hi,hL⟩) ih).2
    ·rename_i Pj;obtain ⟨v,hy,hc,ff⟩:=hr;have ih:=ef bY nh hi rem (a.put x.dst v) w (fun hl=>hC (sI hl)) ff jS DM mh;refine bu ?_ (fp ((gw yE BI).1 ih));rintro a' w' ⟨⟨k0,hr2⟩,u,rfl⟩;refine ⟨k0,?_⟩;simp only [runT,hx];rw [if_neg Pj];refine ⟨v,?_,fun hL=>?_,hr2⟩
     ·exact (Yl.same (u:=u) C8 uF).2 hy
     ·have MA:W i=false:=by
       cases hw:W i
       ·rfl
       ·exact (Mz ⟨hL,hw⟩).elim
      exact k0 MA (hc hL)
def ordB (ops:Array Oper):Nat->Nat->Nat->Bool
 | 0,_,_=>false
 | n + 1,j,i=>
  match ops[i]? with
  | some o=>o.after.toList.any fun e=>Region.binds .any e && (Nat.beq e.on j || ordB ops n j e.on)
  | none=>false
def mi (ops:Array Oper) (W:Nat->Bool) (π:Nat->Nat):Bool:=
 Region.noSelect ops &&
 (List.range ops.size).all fun i=>
  match ops[i]? with
   | some o=>o.after.toList.all (fun e=>!Region.binds .any e || (Nat.blt (π e.on) (π i) && Nat.blt e.on ops.size)) && (!iY o.op || (List.range ops.size).all fun j=>!Nat.blt (π j) (π i) || !W j)
   | none=>false
def oV (ops:Array Oper) (W:Nat->Bool) (π:Nat->Nat) (ex:Nat->Nat->Bool):Bool:=
 (List.range ops.size).all fun i=>(List.range ops.size).all fun j=>!Nat.blt (π j) (π i) || ex j i || ordB ops ops.size j i || dH ops W j i
def MB:Nat->Nat->Bool:=fun _ _=>false
def yF (ops:Array Oper) (W:Nat->Bool):Bool:=mi ops W (fun i=>i) && oV ops W (fun i=>i) MB
def Dn (ops:Array Oper) (listed:Array Bool):Prop:=
 ∀ i o,ops[i]? = some o->listed.getD i true=true->∀ e∈o.after,Region.binds .any e=true->listed.getD e.on false=true
theorem ig {listed:Array Bool} (hd:Dn ops listed):∀ (n:Nat) (j i:Nat) (o:Oper),ops[i]? = some o->(∀ e∈o.after,Region.binds .any e=true->listed.getD e.on false=true)->ordB ops n j i=true->listed.getD j false=true
 | 0,j,i,o,_,_,h=>by simp [ordB] at h
 | n + 1,j,i,o,ho,ez,h=>by
  simp only [ordB,ho,List.any_eq_true,Bool.and_eq_true,Bool.or_eq_true] at h;obtain ⟨e,he,hb,hj⟩:=h;have BJ:e∈o.after:=by simpa using he
  have h1:=ez e BJ hb;rcases hj with hj | hj
  ·have:e.on=j:=by simpa using hj
   rw [<- this];exact h1
  ·cases G3:ops[e.on]? with
   | none=>
    cases n with
    | zero=>simp [ordB] at hj
    | succ n=>simp [ordB,G3] at hj
   | some o'=>
    have hg:listed.getD e.on true=true:=by
     rcases Nat.lt_or_ge e.on listed.size with h' | h'
     ·simp [h'] at h1 ⊢;exact h1
     ·simp [Array.getElem?_eq_none h'] at h1
    exact ig hd n j e.on o' G3 (hd e.on o' G3 hg) hj
theorem mj (hc:mi ops W π=true):∀ j i x y,π j < π i->ops[i]? = some x->ops[j]? = some y->iY x.op=true->W j=false:=by
 simp only [mi,Bool.and_eq_true,List.all_eq_true,List.mem_range] at hc;intro j i x y GR hx hy hL;have hj:=(Array.getElem?_eq_some_iff.1 hy).1;have:=hc.2 i (Array.getElem?_eq_some_iff.1 hx).1;simp only [hx,Bool.and_eq_true,Bool.or_eq_true,hL,Bool.not_true,Bool.false_eq_true,false_or,List.all_eq_true,List.mem_range,Bool.not_eq_true'] at this;rcases this.2 j hj with h1 | h1
 ·have:¬ Nat.blt (π j) (π i)=true:=by simp [h1]
  simp at this;omega
 ·exact h1
theorem nC (hc:mi ops W π=true):∀ i x,ops[i]? = some x->∀ e∈x.after,Region.binds .any e=true->π e.on < π i/\e.on < ops.size:=by
 simp only [mi,Bool.and_eq_true,List.all_eq_true,List.mem_range] at hc;intro i x hx e he hb;have:=hc.2 i (Array.getElem?_eq_some_iff.1 hx).1;simp only [hx,Bool.and_eq_true,List.all_eq_true,Bool.or_eq_true] at this;have h2:=this.1 e (by simpa using he);rw [hb] at h2;simpa using h2
theorem ml (hc:mi ops W π=true):∀ (j:Nat) (o:Oper) cs b,ops[j]? = some o->o.op ≠ .select cs b:=by
 simp only [mi,Bool.and_eq_true] at hc;exact Region.noSelect_spec hc.1
theorem qb:∀ {l:List Nat},l.Pairwise (fun a b=>π a < π b)->∀ {x y:Nat},x∈l->y∈l->x≠y->π x < π y∨π y < π x
 | [],_,x,y,hx,_,_=>by cases hx
 | h :: r,hp,x,y,hx,hy,aQ=>by
  have mh:=List.pairwise_cons.1 hp;rcases List.mem_cons.1 hx with e1 | e1
  ·rcases List.mem_cons.1 hy with e2 | e2
   ·exact (aQ (e1.trans e2.symm)).elim
   ·subst e1;exact .inl (mh.1 _ e2)
  ·rcases List.mem_cons.1 hy with e2 | e2
   ·subst e2;exact .inr (mh.1 _ e1)
   ·exact qb mh.2 e1 e2 aQ
theorem jk {Q':Exit->Act->World->Prop} (ex:Nat->Nat->Bool) (IE:mi ops W π=true) (Kj:oV ops W π ex=true) (hQ:∀ a w,Q a w->Q' .normal a w):∀ (fb:Nat) (listed:Array Bool) (rem:List Nat) (a:Act) (w:World),
  listed.size=ops.size->Dn ops listed->(∀ i,i∈rem↔i < ops.size/\listed.getD i true=false)->rem.Pairwise (fun a b=>π a < π b)->rem.length<=fb->(∀ j∈rem,∀ i∈rem,ex j i=false)->(rY ops rem->C w)->runT P ops W C Q rem a w ->
   wpAny P .any ops Q' fb listed a w:=by
 have bY:=ml IE;have nh:=mj IE;have v8:=nC IE;simp only [oV,List.all_eq_true,List.mem_range,Bool.or_eq_true,Bool.not_eq_true'] at Kj;intro fb
 induction fb with
 | zero=>
  intro listed rem a w cg Gw eO hp hlen hex hC hr;have:rem=[]:=List.length_eq_zero_iff.1 (by omega);subst this;refine ⟨?_,hQ _ _ hr⟩;rw [List.eq_nil_iff_forall_not_mem];intro i hi;have:=(mem_ready.1 hi);obtain ⟨h1,o,ho,_⟩:=this;have:=(eO i).2 ⟨(Array.getElem?_eq_some_iff.1 ho).1,h1⟩;cases this
 | succ fb ih=>
  intro listed rem a w cg Gw eO hp hlen hex hC hr
  have Kk:∀ i,i∈Region.ready .any ops listed->i∈rem:=by
   intro i hi;obtain ⟨h1,o,ho,_⟩:=mem_ready.1 hi;exact (eO i).2 ⟨(Array.getElem?_eq_some_iff.1 ho).1,h1⟩
  refine ⟨fun h0=>?_,fun i hi=>?_⟩
  ·cases rem with
   | nil=>exact hQ _ _ hr
   | cons h rem=>
    have hh:=(eO h).1 (by simp);have hx:ops[h]? = some ops[h]:=Array.getElem?_eq_getElem hh.1
    have:h∈Region.ready .any ops listed:=by
     refine mem_ready.2 ⟨hh.2,_,hx,fun e he hb=>?_⟩;obtain ⟨au,MC⟩:=v8 h _ hx e he hb;cases hg:listed.getD e.on false
     ·have Gx:listed.getD e.on true=false:=by
       have:e.on < listed.size:=by rw [cg];omega
       simp [this] at hg ⊢;exact hg
      have hm:=(eO e.on).2 ⟨by omega,Gx⟩;rcases List.mem_cons.1 hm with e1 | e1
      ·rw [e1] at au;omega
      ·have:=(List.pairwise_cons.1 hp).1 _ e1;omega
     ·rfl
    rw [h0] at this;cases this
  ·have ja:=Kk i hi;obtain ⟨MD,o,ho,ez⟩:=mem_ready.1 hi;have eP:=(Array.getElem?_eq_some_iff.1 ho).1
   have ou:∀ j∈rem,j≠i->π j < π i->dH ops W j i=true:=by
    intro j hj _ au;rcases Kj i eP j ((eO j).1 hj).1 with ((h1 | h1) | h1) | h1
    ·have:¬ Nat.blt (π j) (π i)=true:=by simp [h1]
     simp at this;omega
    ·rw [hex j hj i ja] at h1;cases h1
    ·have h2:=ig Gw _ _ _ _ ho ez h1;have h3:=((eO j).1 hj).2;have:j < listed.size:=by rw [cg];exact ((eO j).1 hj).1
     simp [this] at h2 h3;rw [h2] at h3;cases h3
    ·exact h1
   have aZ:=ef bY nh ho rem a w hC hr ja ou hp;have hnd:rem.Nodup:=jU hp
   have key:∀ a' w',((W i=false->C w->C w')/\runT P ops W C Q (rem.erase i) a' w')->wpAny P .any ops Q' fb (listed.setIfInBounds i true) a' w':=by
    rintro a' w' ⟨k0,ff⟩;refine ih (listed.setIfInBounds i true) (rem.erase i) a' w' (by simp [cg]) ?_ ?_ (hp.sublist List.erase_sublist) (by rw [List.length_erase_of_mem ja];omega) (fun j hj i hi=>hex j (List.mem_of_mem_erase hj) i (List.mem_of_mem_erase hi)) ?_ ff
    ·intro k x hx hk e he hb;by_cases gI:k=i
     ·subst gI;rw [ho] at hx;simp only [oI] at hx;subst hx;exact getD_set_true (ez e he hb)
     ·rw [getD_set_ne true (Ne.symm gI)] at hk;exact getD_set_true (Gw k x hx hk e he hb)
    ·intro k;rw [List.Nodup.mem_erase_iff hnd];by_cases gI:k=i
     ·subst gI;simp [cg,eP]
     ·rw [getD_set_ne true (Ne.symm gI)];simp only [ne_eq,gI,not_false_eq_true,true_and];exact eO k
    ·rintro ⟨l,z,hl,hz,hL⟩;have ov:=List.mem_of_mem_erase hl;have aQ:l≠i:=fun e=>by subst e;exact (List.Nodup.mem_erase_iff hnd).1 hl |>.1 rfl
     have Kl:=hC ⟨l,z,ov,hz,hL⟩;refine k0 ?_ Kl;rcases Nat.lt_or_ge (π i) (π l) with h1 | h1
     ·exact nh i l z o h1 hz ho hL
     ·have h0:π l≠π i:=by
       intro he;rcases qb hp ov ja aQ with h2 | h2<;>omega
      have:=ou l ov aQ (by omega);obtain ⟨_,_,_,h4⟩:=cM this hz ho;cases hw:W i
      ·rfl
      ·exact (h4 ⟨hL,hw⟩).elim
   unfold wpOp;rw [ho];simp only;unfold cz at aZ;split
   ·rename_i hw;rw [if_pos hw] at aZ;exact .inl (Ao (kF key aZ))
   ·rename_i hw;rw [if_neg hw] at aZ;exact key _ _ aZ
theorem iq {id:Nat} {Q':Exit->Act->World->Prop} {a:Act} {w:World} (hm:P.follows .mixedOrders=true) (hc:yF ops W=true) (hQ:∀ a w,Q a w->Q' .normal a w)
  (hC:C w.drew) (h:runT P ops W C Q (List.range ops.size) a w.drew):(Code.region id ops true).wp P Q' a w:=by
 refine wp_region_any hm ?_;simp only [yF,Bool.and_eq_true] at hc;refine jk (π:=fun i=>i) MB hc.1 hc.2 hQ ops.size (Array.replicate ops.size false) (List.range ops.size) a _ (by simp) ?_ ?_ List.pairwise_lt_range (by simp) (fun _ _ _ _=>rfl) (fun _=>hC) h
 ·intro i o ho hl;have:i < ops.size:=(Array.getElem?_eq_some_iff.1 ho).1;simp [this] at hl
 ·intro i;simp only [List.mem_range];constructor
  ·intro hi;exact ⟨hi,by simp [hi]⟩
  ·intro hi;exact hi.1
end
end Dv
end Go.Proofs.YtfifjddnnmfeoaaGreat
namespace Go.Proofs.YtfifjddnnmfeoaaGreat
namespace Dv
open Go Go.RowKit
structure Dr where
 ops:Array Oper
 W:Nat->Bool
 k:List It
 fZ:St
 fin:Option (Bool->List (Nat × Sl)->St->Prop)
structure Dw where
 d:Dr
 E0:En
 wr:World
structure CC (E0:En) (bx:List (List DV)) (wr w:World):Prop where
 o:∀ (i:Nat) b cs,E0.β[i]? = some b->bx[i]? = some cs->cs ≠ []->w.heap[b]? = wr.heap[b]?
 c:∀ x v,E0.c x=some v->w.cell? x=some v
abbrev Dw.C (D:Dw) (w:World):Prop:=CC D.E0 D.d.fZ.bx D.wr w
structure nD (E:En) (bx:List (List DV)) (w:World):Prop where
 len:E.β.length=bx.length
 dB:∀ (i:Nat) cs,bx[i]? = some cs->cs ≠ []->∃ b ty arr,E.β[i]? = some b/\w.heap[b]? = some (.cells (List.toArray arr) ty (0,0))/\RvC E cs arr
theorem Env.em {E:En} {bx:List (List DV)} {w:World} (h:Env E bx w):nD E bx w:=⟨h.len,fun i cs hi _=>h.dB i cs hi⟩
def ME:Option (List DV)->Bool
 | some []=>true
 | _=>false
theorem G4 {o:Option (List DV)} (h:ME o=true):o=some []:=by
 cases o with
 | none=>cases h
 | some l=>
  cases l with
  | nil=>rfl
  | cons _ _=>cases h
def Dw.wc (D:Dw) (E:En):En:=⟨D.E0.c,E.β,E.tk,E.τ⟩
structure dC (X:Ctx) (D:Dw) (c:Bool) (E:En) (s0:List (Nat × Sl)) (st:St) (a:Act) (w:World):Prop where
 rel:Rel X E st a w
 x:Ext D.E0 E
 β:∃ r,E.β=D.E0.β ++ r
 t0:∀ i x,get s0 i=some x->(Holds a.tmps x.gs->∃ v,a.tmps[i]? = some v/\Rv (D.wc E) x.s v)/\(¬ Holds a.tmps x.gs->a.tmps[i]? = some undef)
 cc:c=true->D.C w
def Dw.Q (D:Dw) (X:Ctx) (a:Act) (w:World):Prop:=
 match D.d.fin with
 | none=>kq X D.d.k .normal a w
 | some F=>∃ c E s0 st,dC X D c E s0 st a w/\F c s0 st
def delF {γ:Type _} (d:Nat):List (Nat × Sl)->(List (Nat × Sl)->γ)->γ
 | [],K=>K []
 | p :: r,K=>
  match Nat.beq p.1 d with
  | true=>delF d r K
  | false=>delF d r (fun r'=>K (p :: r'))
theorem mn {γ:Type _} (d:Nat):∀ (l:List (Nat × Sl)) (K:List (Nat × Sl)->γ),delF d l K=K (l.filter fun p=>!Nat.beq p.1 d)
 | [],K=>rfl
 | p :: r,K=>by
  simp only [delF,List.filter_cons];cases h:Nat.beq p.1 d
  ·simp only [Bool.not_false,if_true];rw [mn d r]
  ·simp only [Bool.not_true,Bool.false_eq_true,if_false];rw [mn d r K]
theorem get_filter (d:Nat):∀ (l:List (Nat × Sl)) (i:Nat) (x:Sl),get (l.filter fun p=>!Nat.beq p.1 d) i=some x->i≠d/\get l i=some x
 | [],i,x,h=>by cases h
 | (k,y) :: r,i,x,h=>by
  simp only [List.filter_cons] at h;split at h
  ·rename_i hk
   have hk:k≠d:=by
    rintro rfl;simp at hk
   simp only [cy] at h ⊢;split at h
   ·rename_i gI;subst gI;exact ⟨hk,by rw [if_pos rfl];exact h⟩
   ·rename_i gI;rw [if_neg gI];exact get_filter d r i x h
  ·rename_i hk;have hk:k=d:=by simpa using hk
   obtain ⟨h1,h2⟩:=get_filter d r i x h;refine ⟨h1,?_⟩;simp only [cy];rw [if_neg (by omega)];exact h2
def scal:DV->Bool
 | .v _=>true
 | .ud=>true
 | .loc _ _=>true
 | .el _ _=>true
 | _=>false
def put2 (s0:List (Nat × Sl)) (st:St) (dst:Option Nat) (b:Bool) (gs:List (Nat × Bool)) (s:DV) (K:List (Nat × Sl)->St->Prop):Prop:=
 match dst with
 | none=>K s0 st
 | some d=>
  match st with
  | ⟨sl,bx,tk⟩=>
   match b || scal s with
   | true=>K ((d,⟨gs,s⟩) :: s0) ⟨(d,⟨gs,s⟩) :: sl,bx,tk⟩
   | false=>delF d s0 fun fT=>K fT ⟨(d,⟨gs,s⟩) :: sl,bx,tk⟩
def optP:Option Prop->Prop
 | some p=>p
 | none=>False
def pR (X:Ctx) (D:Dr) (c:Bool) (s0:List (Nat × Sl)) (st:St) (G:List (Nat × Bool)) (op:Op):Option (Bool × DV):=
 match !eI op && (!iY op || c) with
 | false=>none
 | true=>
  match pureT X.P X.T ⟨s0,D.fZ.bx,[]⟩ G op with
  | some s=>some (true,s)
  | none=>
   match iY op with
   | true=>none
   | false=>
    match pureT X.P X.T ⟨st.sl,[],[]⟩ G op with
    | some s=>some (false,s)
    | none=>none
def eR (X:Ctx) (D:Dr) (c:Bool) (s0:List (Nat × Sl)) (st:St) (op:Op) (K:Bool->DV->Prop):Option Prop:=
 match eI op with
 | true=>none
 | false=>
  match iY op with
  | true=>
   match c with
   | true=>effR X ⟨s0,D.fZ.bx,[]⟩ op (K true)
   | false=>none
  | false=>
   match effR X ⟨s0,[],[]⟩ op (K true) with
   | some p=>some p
   | none=>effR X ⟨st.sl,[],[]⟩ op (K false)
def sJ (X:Ctx) (D:Dr) (c:Bool) (i:Nat) (l:List (Nat × Oper)) (f:FuncId) (args:List DV) (dst:Option Nat) (s0:List (Nat × Sl)) (st:St):Prop:=
 Go.Proofs.Enters X.P f/\((∀ p∈l,D.ops[p.1]? = some p.2)->∀ (E0:En) (wr:World),nD E0 D.fZ.bx wr->∀ E a w vs,dC X ⟨D,E0,wr⟩ c E s0 st a w->RvL E args vs->Calls X.P f vs.toArray w fun e w'=>∃ v,e = .returned v /\
  (D.W i=false->CC E0 D.fZ.bx wr w->CC E0 D.fZ.bx wr w')/\runT X.P D.ops D.W (CC E0 D.fZ.bx wr) (Dw.Q ⟨D,E0,wr⟩ X) (l.map (·.1)) (a.put dst v) w')
def OpD (X:Ctx) (D:Dr) (c:Bool) (i:Nat) (l:List (Nat × Oper)) (o:Oper) (s0:List (Nat × Sl)) (st:St):Prop:=
 (∀ p∈l,D.ops[p.1]? = some p.2)->∀ (E0:En) (wr:World),nD E0 D.fZ.bx wr->∀ E a w,dC X ⟨D,E0,wr⟩ c E s0 st a w->wq X.P o a w fun a' w'=>
  (D.W i=false->CC E0 D.fZ.bx wr w->CC E0 D.fZ.bx wr w')/\runT X.P D.ops D.W (CC E0 D.fZ.bx wr) (Dw.Q ⟨D,E0,wr⟩ X) (l.map (·.1)) a' w'
def effE (X:Ctx) (D:Dr) (c:Bool) (i:Nat) (l:List (Nat × Oper)) (o:Oper) (s0:List (Nat × Sl)) (st:St) (K:Bool->List (Nat × Sl)->St->Prop):Prop:=
 match o.op with
 | .store t x y=>
  match o.dst with
  | some _=>False
  | none=>
   match D.W i with
   | true=>optP (effC X st o (K false s0))
   | false=>
    match stObj st o.op with
    | some j=>
     match Nat.ble D.fZ.bx.length j || ME D.fZ.bx[j]? with
     | true=>optP (effC X st o (K c s0))
     | false=>False
    | none=>False
 | .call cl=>
  match cl.callee with
  | .value f=>
   match rv st [] f,argsV st [] cl.args.toList with
   | some (.fn g first captured),some vs=>sJ X D c i l g (first ++ vs ++ captured) o.dst s0 st
   | _,_=>False
  | _=>
   match o.dst with
   | some d=>optP (effC X st o fun aP=>delF d s0 fun fT=>K c fT aP)
   | none=>False
 | _=>
  match o.dst with
  | some d=>
   match effC X st o fun aP=>
    match get aP.sl d with
    | some ⟨[],.loc j off⟩=>K c ((d,⟨[],.loc j off⟩) :: s0) aP
    | _=>delF d s0 fun fT=>K c fT aP with
   | some p=>p
   | none=>OpD X D c i l o s0 st
  | none=>False
def goD (X:Ctx) (D:Dr):Nat->Bool->List (Nat × Oper)->List (Nat × Sl)->St->Prop
 | _,c,[],s0,st=>
  match D.fin with
  | none=>go X 4000 D.k st
  | some F=>F c s0 st
 | 0,_,_ :: _,_,_=>False
 | n + 1,c,(i,o) :: r,s0,st=>
  match eN X.nt st.sl o.dst && eN X.nt s0 o.dst with
  | false=>False
  | true=>
   match o.guard with
   | none=>
    match eI o.op with
    | true=>effE X D c i r o s0 st fun c' fT aP=>goD X D n c' r fT aP
    | false=>
     match pR X D c s0 st [] o.op with
     | some (b,s)=>put2 s0 st o.dst b [] s (goD X D n c r)
     | none=>optP (eR X D c s0 st o.op fun b s=>put2 s0 st o.dst b [] s (goD X D n c r))
   | some (j,want)=>
    match gslot D.ops.toList j with
    | none=>False
    | some d=>
     match get st.sl d with
     | none=>False
     | some ⟨iW,_⟩=>
      match pR X D c s0 st ((d,want) :: iW) o.op with
      | some (b,s)=>
       match P5 ((d,want) :: iW) o.dst with
       | true=>put2 s0 st o.dst b ((d,want) :: iW) s (goD X D n c r)
       | false=>False
      | none=>
       match get st.sl (lastG (d,want) iW).1 with
       | some ⟨[],.v (.bool b)⟩=>
        match iW with
        | []=>Br (b == want)
          (rU st d want fun C9=>resL d want s0 fun s2=>
           match eI o.op with
           | true=>effE X D c i r o s2 C9 fun c' fT aP=>goD X D n c' r fT aP
           | false=>optP (eR X D c s2 C9 o.op fun b s=>put2 s2 C9 o.dst b [] s (goD X D n c r)))
          (match !iY o.op || c with
           | true=>rU st d (!want) fun C9=>resL d (!want) s0 fun s2=>put2 s2 C9 o.dst true [] .ud (goD X D n c r)
           | false=>False)
        | _ :: _=>Br (b == (lastG (d,want) iW).2)
          (rU st (lastG (d,want) iW).1 (lastG (d,want) iW).2 fun C9=>resL (lastG (d,want) iW).1 (lastG (d,want) iW).2 s0 fun s2=>goD X D n c ((i,o) :: r) s2 C9)
          (rU st (lastG (d,want) iW).1 (!(lastG (d,want) iW).2) fun C9=>resL (lastG (d,want) iW).1 (!(lastG (d,want) iW).2) s0 fun s2=>goD X D n c ((i,o) :: r) s2 C9)
       | some ⟨[],.ud⟩=>
        match iW with
        | []=>
         match !iY o.op || c with
         | true=>put2 s0 st o.dst true [] .ud (goD X D n c r)
         | false=>False
        | _ :: _=>False
       | _=>False
section
variable {X:Ctx} {D:Dw} {c:Bool} {i:Nat} {s0:List (Nat × Sl)} {st:St} {E:En} {a:Act} {w:World}
theorem Km (h:Ext D.E0 E):Ext D.E0 (D.wc E):=⟨fun _ _ h=>h,h.β,h.tk⟩
theorem yG (h:Ext D.E0 E):Ext (D.wc E) E:=⟨h.c,fun _ _ h=>h,fun k q hq=>⟨q,hq,.inl ⟨rfl,rfl⟩⟩⟩
theorem As {E':En} (h:Ext E E'):Ext (D.wc E) (D.wc E'):=⟨fun _ _ h=>h,h.β,h.tk⟩
theorem dC.Qo (h:dC X D c E s0 st a w) (hD:nD D.E0 D.d.fZ.bx D.wr):Rl (D.wc E) D.d.fZ.bx D.C s0 a where
 tm:=h.t0
 dB:=fun i cs hi=>by
  by_cases aQ:cs=[]
  ·subst aQ;have au:i < D.E0.β.length:=by rw [hD.len];exact (gS hi).1
   exact ⟨_,[],h.x.β i _ (gE au),⟨bM _,by simp⟩,fun w' _ j u hj=>by simp at hj⟩
  ·obtain ⟨b,ty,arr,hb,hw,hc⟩:=hD.dB i cs hi aQ;exact ⟨b,arr,h.x.β i b hb,hc.mono (Km h.x),fun w' hC j u hj=>by rw [bN ((hC.o i b cs hb hi aQ).trans hw)];simpa using hj⟩
 cc:=fun x v hx w' hC=>hC.c x v hx
theorem dC.S2 (h:dC X D c E s0 st a w):Rl E [] (fun w'=>∀ x v,E.c x=some v->w'.cell? x=some v) st.sl a where
 tm:=h.rel.tm
 dB:=fun i cs hi=>by simp at hi
 cc:=fun x v hx w' hC=>hC x v hx
theorem Au {s:DV} {v:Value} (hs:scal s=true) (hv:Rv E s v):Rv (D.wc E) s v:=by
 cases s<;>simp [scal] at hs
 ·unfold Rv at hv ⊢;exact hv
 ·unfold Rv at hv ⊢;exact hv
 ·unfold Rv at hv ⊢;exact hv
 ·unfold Rv at hv ⊢;exact hv
theorem fG (h:dC X D c E s0 st a w) {dst:Option Nat} (hd:(eN X.nt st.sl dst && eN X.nt s0 dst)=true) (b:Bool) (gs:List (Nat × Bool)) (s:DV) (v:Value) (yu:∀ d,dst=some d->∀ p∈gs,p.1≠d)
  (pg:Holds a.tmps gs->Rv E s v) (oh:b=true->Holds a.tmps gs->Rv (D.wc E) s v) (C4:¬ Holds a.tmps gs->v=undef) {K:List (Nat × Sl)->St->Prop} (hk:put2 s0 st dst b gs s K) :
  ∃ fT aP,K fT aP /\ dC X D c E fT aP (a.put dst v) w:=by
 simp only [Bool.and_eq_true] at hd;have h1:=l9 h.rel hd.1 gs s v yu pg C4
 cases dst with
 | none=>exact ⟨s0,st,hk,h1,h.x,h.β,h.t0,h.cc⟩
 | some d=>
  obtain ⟨sl,bx,tk⟩:=st;have yH:=hd.2;simp only [eN,Bool.and_eq_true,Nat.blt_eq] at yH
  have hold:∀ i x,i≠d->get s0 i=some x->(Holds (a.put (some d) v).tmps x.gs->∃ u,(a.put (some d) v).tmps[i]? = some u/\Rv (D.wc E) x.s u)/\(¬ Holds (a.put (some d) v).tmps x.gs->(a.put (some d) v).tmps[i]? = some undef):=by
   intro i x hi hx;simp only [Act.put];rw [Array.getElem?_setIfInBounds_ne (Ne.symm hi),iE (je yH.2 i x hx)];exact h.t0 i x hx
  simp only [put2] at hk;split at hk
  ·rename_i hb;refine ⟨_,_,hk,h1,h.x,h.β,fun i x hx=>?_,h.cc⟩;simp only [cy] at hx;split at hx
   ·rename_i Dq;subst Dq;simp only [oI] at hx;subst hx;have h2:(a.tmps.setIfInBounds d v)[d]? = some v:=by simp [Array.getElem?_setIfInBounds,h.rel.sz,yH.1]
    simp only [Act.put];rw [iE (yu d rfl),h2];refine ⟨fun hh=>⟨v,rfl,?_⟩,fun hh=>by rw [C4 hh]⟩;rcases Bool.or_eq_true _ _ |>.mp hb with hb | hb
    ·exact oh hb hh
    ·exact Au hb (pg hh)
   ·rename_i Dq;exact hold i x (Ne.symm Dq) hx
  ·rw [mn] at hk;refine ⟨_,_,hk,h1,h.x,h.β,fun i x hx=>?_,h.cc⟩;obtain ⟨h3,h4⟩:=get_filter d s0 i x hx;exact hold i x h3 h4
theorem jl (h:dC X D c E s0 st a w) {d:Nat} {b:Bool} (hd:a.tmps[d]? = some (.bool b)):dC X D c E (s0.map (aY d b)) (st.resolve d b) a w where
 rel:=ia h.rel hd
 x:=h.x
 β:=h.β
 t0:=by
  intro i y hy;simp only [get_map,Option.map_eq_some_iff] at hy;obtain ⟨x,hx,rfl⟩:=hy;have ht:=h.t0 i x hx;unfold aY;split
  ·rename_i hi;have eP:i=d:=by simpa using hi
   subst eP;exact ⟨fun _=>⟨_,hd,ee rfl⟩,fun hn=>(hn (aO _)).elim⟩
  ·split
   ·rename_i hc
    have hn:¬ Holds a.tmps x.gs:=by
     intro hh;have:=hh (d,!b) (by simpa using hc);simp only at this;rw [hd] at this;cases b<;>simp at this
    exact ⟨fun _=>⟨_,ht.2 hn,oe _⟩,fun hn=>(hn (aO _)).elim⟩
   ·have he:Holds a.tmps (x.gs.filter fun p=>p != (d,b))↔Holds a.tmps x.gs:=by
     constructor
     ·intro hh p hp;by_cases JT:p=(d,b)
      ·subst JT;exact hd
      ·exact hh p (by simp [List.mem_filter,hp,JT])
     ·intro hh p hp;exact hh p (List.mem_filter.1 hp).1
    simp only [he];exact ht
 cc:=h.cc
theorem jm {nt d:Nat} {b:Bool} {dst:Option Nat} (h:(eN nt st.sl dst && eN nt s0 dst)=true):(eN nt (st.resolve d b).sl dst && eN nt (s0.map (aY d b)) dst)=true:=by
 simp only [Bool.and_eq_true] at h ⊢;exact ⟨ib h.1,ib (st:=⟨s0,[],[]⟩) h.2⟩
theorem wb (hD:nD D.E0 D.d.fZ.bx D.wr) (h:dC X D c E s0 st a w) {G:List (Nat × Bool)} (hG:Holds a.tmps G) {o:Oper} {b:Bool} {s:DV} (hp:pR X D.d c s0 st G o.op=some (b,s)) :
  eI o.op=false/\(iY o.op=true->c=true)/\∃ v,Rv E s v/\(b=true->Rv (D.wc E) s v)/\∀ w,(iY o.op=true->D.C w)->(execOp a.eval o).run X.P w = .ok (.value v) w:=by
 unfold pR at hp;split at hp
 ·cases hp
 ·rename_i hc;simp only [Bool.and_eq_true,Bool.not_eq_true',Bool.or_eq_true] at hc;refine ⟨hc.1,fun hL=>?_,?_⟩
  ·rcases hc.2 with h1 | h1
   ·rw [hL] at h1;cases h1
   ·exact h1
  ·split at hp
   ·rename_i s' hs;simp only [oI,Prod.mk.injEq] at hp;obtain ⟨rfl,rfl⟩:=hp;obtain ⟨v,hv,hr⟩:=fm (st:=⟨s0,D.d.fZ.bx,[]⟩) X.hT (h.Qo hD) hG hs;exact ⟨v,Rv.mono (yG h.x) hv,fun _=>hv,hr⟩
   ·split at hp
    ·cases hp
    ·rename_i hL;split at hp
     ·rename_i s' hs;simp only [oI,Prod.mk.injEq] at hp;obtain ⟨rfl,rfl⟩:=hp;obtain ⟨v,hv,hr⟩:=fm (st:=⟨st.sl,[],[]⟩) X.hT h.S2 hG hs;exact ⟨v,hv,(by intro h;cases h),fun w' _=>hr w' (by intro h1;rw [hL] at h1;cases h1)⟩
     ·cases hp
theorem DO (hD:nD D.E0 D.d.fZ.bx D.wr) (h:dC X D c E s0 st a w) {o:Oper} {K:Bool->DV->Prop} (hp:optP (eR X D.d c s0 st o.op K)) :
  eI o.op=false/\(iY o.op=true->c=true)/\∃ b s v,K b s/\Rv E s v/\(b=true->Rv (D.wc E) s v)/\∀ w,(iY o.op=true->D.C w)->(execOp a.eval o).run X.P w = .ok (.value v) w:=by
 unfold eR at hp;split at hp
 ·exact hp.elim
 ·rename_i hE;refine ⟨hE,?_⟩;split at hp
  ·rename_i hL;split at hp
   ·refine ⟨fun _=>rfl,?_⟩
    cases hs:effR X ⟨s0,D.d.fZ.bx,[]⟩ o.op (K true) with
    | none=>rw [hs] at hp;exact hp.elim
    | some p=>
     rw [hs] at hp;obtain ⟨s,hk,v,hv,hr⟩:=jg (st:=⟨s0,D.d.fZ.bx,[]⟩) (h.Qo hD) hs hp;exact ⟨true,s,v,hk,Rv.mono (yG h.x) hv,fun _=>hv,hr⟩
   ·exact hp.elim
  ·rename_i hL;have iG:∀ w':World,iY o.op=true->False:=fun w' h1=>by rw [hL] at h1;cases h1
   refine ⟨fun h1=>(by rw [hL] at h1;cases h1),?_⟩;split at hp
   ·rename_i p hs;obtain ⟨s,hk,v,hv,hr⟩:=jg (st:=⟨s0,[],[]⟩) (C:=D.C) ⟨h.t0,fun i cs hi=>by simp at hi,(h.Qo hD).cc⟩ hs hp;exact ⟨true,s,v,hk,Rv.mono (yG h.x) hv,fun _=>hv,fun w' _=>hr w' fun h1=>(iG w' h1).elim⟩
   ·cases hs:effR X ⟨st.sl,[],[]⟩ o.op (K false) with
    | none=>rw [hs] at hp;exact hp.elim
    | some p=>
     rw [hs] at hp;obtain ⟨s,hk,v,hv,hr⟩:=jg (st:=⟨st.sl,[],[]⟩) h.S2 hs hp;exact ⟨false,s,v,hk,hv,(by intro h;cases h),fun w' _=>hr w' fun h1=>(iG w' h1).elim⟩
theorem G5 {P:Program} {o:Oper} {K:Act->World->Prop} (h:wq P o a w K):wq P o a w fun a' w'=>K a' w' /\ ∃ u,a'=a.put o.dst u:=by
 unfold wq at *;split at h
 ·exact ⟨h,_,rfl⟩
 ·exact ⟨h,_,rfl⟩
 ·refine h.mono ?_;rintro e w' ⟨v,rfl,hv⟩;exact ⟨v,rfl,hv,v,rfl⟩
 ·exact h.elim
theorem we (h:dC X D c E s0 st a w) {t:Option Nat} {E':En} {aP:St} {a':Act} {w':World} (hs:di t E w E' w') (hr:Rel X E' aP a' w') (ht:∀ j,t=some j->D.E0.β.length<=j∨D.d.fZ.bx[j]? = some []):D.C w->D.C w':=fun hC=>
 ⟨fun i b cs hb cA aQ=>by
  have eJ:=h.x.β i b hb
  rw [hs.o i _ eJ fun e=>by
   rcases ht i e with h1 | h1
   ·have:=(gS hb).1;omega
   ·rw [cA] at h1;simp only [oI] at h1;exact aQ h1]
  exact hC.o i b cs hb cA aQ,fun x v hx=>hr.env.sub x v (hs.x.c x v (h.x.c x v hx))⟩
theorem mq (h:dC X D c E s0 st a w) {t:Option Nat} {E':En} {aP:St} {w':World} {c':Bool} {fT:List (Nat × Sl)} {dst:Option Nat} {u:Value} (hs:di t E w E' w') (hr:Rel X E' aP (a.put dst u) w') (uA:c'=true->D.C w')
  (ht0:∀ i x,get fT i=some x->(∃ d,dst=some d/\i=d/\scal x.s=true/\get aP.sl d=some x)∨(get s0 i=some x/\∀ d,dst=some d->i≠d)) (hd:eN X.nt s0 dst=true):dC X D c' E' fT aP (a.put dst u) w' where
 rel:=hr
 x:=by
  refine ⟨fun y v hy=>hs.x.c y v (h.x.c y v hy),fun j b hb=>hs.x.β j b (h.x.β j b hb),fun k q hq=>?_⟩;obtain ⟨q1,h1,h2⟩:=h.x.tk k q hq;obtain ⟨q2,h3,h4⟩:=hs.x.tk k q1 h1;refine ⟨q2,h3,?_⟩;rcases h2 with ⟨h2,h5⟩ | h2
  ·rcases h4 with ⟨h4,h6⟩ | h4
   ·exact .inl ⟨by omega,by rw [h6,h5]⟩
   ·exact .inr (by omega)
  ·rcases h4 with ⟨h4,h6⟩ | h4
   ·exact .inr (by omega)
   ·exact .inr (by omega)
 β:=by
  obtain ⟨r1,h1⟩:=h.β;obtain ⟨r2,h2⟩:=hs.β;exact ⟨r1 ++ r2,by rw [h2,h1,List.append_assoc]⟩
 t0:=fun i x hx=>by
  rcases ht0 i x hx with ⟨d,rfl,rfl,IA,hg⟩ | ⟨hg,aQ⟩
  ·have:=hr.tm _ _ hg;refine ⟨fun hh=>?_,this.2⟩;obtain ⟨v,h1,h2⟩:=this.1 hh;exact ⟨v,h1,Au IA h2⟩
  ·have h1:=h.t0 i x hg
   cases dst with
   | none=>
    refine ⟨fun hh=>?_,h1.2⟩;obtain ⟨v,h2,h3⟩:=h1.1 hh;exact ⟨v,h2,Rv.mono (As hs.x) h3⟩
   | some d=>
    simp only [eN,Bool.and_eq_true,Nat.blt_eq] at hd;simp only [Act.put];rw [Array.getElem?_setIfInBounds_ne (Ne.symm (aQ d rfl)),iE (je hd.2 i x hg)];refine ⟨fun hh=>?_,h1.2⟩;obtain ⟨v,h2,h3⟩:=h1.1 hh;exact ⟨v,h2,Rv.mono (As hs.x) h3⟩
 cc:=uA
def MF (X:Ctx) (D:Dw) (l:List Nat) (G:Bool->List (Nat × Sl)->St->Prop):Prop:=∀ c s0 st,G c s0 st->∀ E a w,dC X D c E s0 st a w->runT X.P D.d.ops D.d.W D.C (D.Q X) l a w
theorem yI (hD:nD D.E0 D.d.fZ.bx D.wr) {l:List (Nat × Oper)} (hl:∀ p∈l,D.d.ops[p.1]? = some p.2) {G:Bool->List (Nat × Sl)->St->Prop} (hG:MF X D (l.map (·.1)) G) {o:Oper} (hd:(eN X.nt st.sl o.dst && eN X.nt s0 o.dst)=true) (h:dC X D c E s0 st a w)
  (he:effE X D.d c i l o s0 st G):wq X.P o a w fun a' w'=>(D.d.W i=false->D.C w->D.C w')/\runT X.P D.d.ops D.d.W D.C (D.Q X) (l.map (·.1)) a' w':=by
 have uG:=hd;simp only [Bool.and_eq_true] at uG;have hlen:D.E0.β.length=D.d.fZ.bx.length:=hD.len
 have core:∀ (K:St->Prop) (p:Prop) (c1:Bool),effC X st o K=some p->p->(c1=true->c=true)->(c1=true∨D.d.W i=false->∀ j,stObj st o.op=some j->D.E0.β.length<=j∨D.d.fZ.bx[j]? = some []) ->
   (∀ aP,K aP -> ∃ fT,G c1 fT aP /\ ∀ i x,get fT i=some x->(∃ d,o.dst=some d/\i=d/\scal x.s=true/\get aP.sl d=some x)∨(get s0 i=some x/\∀ d,o.dst=some d->i≠d)) ->
   wq X.P o a w fun a' w'=>(D.d.W i=false->D.C w->D.C w')/\runT X.P D.d.ops D.d.W D.C (D.Q X) (l.map (·.1)) a' w':=by
  intro K p c1 hp hpp Kn aZ hK;refine kF ?_ (G5 (lx uG.1 h.rel hp hpp));rintro a' w' ⟨⟨aP,E',hk,hr,hs⟩,u,rfl⟩;refine ⟨fun hW=>we h hs hr (aZ (.inr hW)),?_⟩;obtain ⟨fT,hg,ht0⟩:=hK aP hk;exact hG c1 fT aP hg E' _ w' (mq h hs hr (fun hc=>we h hs hr (aZ (.inl hc)) (h.cc (Kn hc))) ht0 uG.2)
 have IF:(∀ t x y,o.op ≠ .store t x y)->∀ j,stObj st o.op=some j->D.E0.β.length<=j∨D.d.fZ.bx[j]? = some []:=by
  intro aQ j hj;unfold stObj at hj;split at hj
  ·rename_i t x y lV;exact (aQ t x y lV).elim
  ·cases hj
 have MG:∀ (d:Nat) (aP:St),o.dst=some d->∀ i x,get (s0.filter fun p=>!Nat.beq p.1 d) i=some x->(∃ d,o.dst=some d/\i=d/\scal x.s=true/\get aP.sl d=some x)∨(get s0 i=some x/\∀ d,o.dst=some d->i≠d):=by
  intro d aP fW i x hx;obtain ⟨h1,h2⟩:=get_filter d s0 i x hx;exact .inr ⟨h2,fun d' uG=>by rw [fW] at uG;cases uG;exact h1⟩
 unfold effE at he;split at he
 ·rename_i t x y lV;split at he
  ·exact he.elim
  ·rename_i fW;have DD:∀ aP:St,∀ i x,get s0 i=some x->(∃ d,o.dst=some d/\i=d/\scal x.s=true/\get aP.sl d=some x)∨(get s0 i=some x/\∀ d,o.dst=some d->i≠d):=fun aP i x hx=>.inr ⟨hx,fun d hd=>by rw [fW] at hd;cases hd⟩;split at he
   ·rename_i hW
    cases hp:effC X st o (G false s0) with
    | none=>rw [hp] at he;exact he.elim
    | some p=>
     rw [hp] at he;exact core _ p false hp he (by intro h;cases h) (by rintro (h1 | h1);cases h1;rw [hW] at h1;cases h1) fun aP hk=>⟨s0,hk,DD aP⟩
   ·split at he
    ·rename_i j hj;split at he
     ·rename_i iA
      have iA:D.d.fZ.bx.length<=j∨D.d.fZ.bx[j]? = some []:=by
       rcases Bool.or_eq_true _ _ |>.mp iA with h1 | h1
       ·exact .inl (by simpa using h1)
       ·exact .inr (G4 h1)
      cases hp:effC X st o (G c s0) with
      | none=>rw [hp] at he;exact he.elim
      | some p=>
       rw [hp] at he;exact core _ p c hp he id (fun _ j' eJ=>by rw [hj] at eJ;cases eJ;rw [hlen];exact iA) fun aP hk=>⟨s0,hk,DD aP⟩
     ·exact he.elim
    ·exact he.elim
 ·rename_i cl lV;split at he
  ·rename_i f oW;split at he
   ·rename_i g first captured vs hf ov
    obtain ⟨jh,mr⟩:=he;have iZ:=h.rel.rl;have e1:=aJ iZ hf;unfold Rv at e1;obtain ⟨l1,r1,e1,yh,hr1⟩:=e1;have hargs:=fl iZ (aO _) _ _ ov;obtain ⟨dst,op,ty,pos,after,gu⟩:=o;obtain ⟨callee,args,argTypes⟩:=cl;simp only at lV oW;subst lV oW
    have hr:(execOp a.eval ⟨dst,.call ⟨.value f,args,argTypes⟩,ty,pos,after,gu⟩).run X.P w = .ok (.enter g (l1 ++ args.toList.map a.eval ++ r1).toArray) w:=by
     have e3:(l1.toArray ++ args.map a.eval ++ r1.toArray)=(l1 ++ args.toList.map a.eval ++ r1).toArray:=by apply Array.ext';simp
     simp only [execOp,resolve,e1,Deferred.ofValue,Sem.run_bind,Sem.run_pure,Result.andThen_ok,invoke,e3];exact jh _ _
    unfold wq;rw [hr];exact mr hl D.E0 D.wr hD E a w _ h ((yh.append hargs).append hr1)
   ·exact he.elim
  ·split at he
   ·rename_i d fW
    cases hp:effC X st o (fun aP=>delF d s0 fun fT=>G c fT aP) with
    | none=>rw [hp] at he;exact he.elim
    | some p=>
     rw [hp] at he;refine core _ p c hp he id (fun _=>IF (fun t x y h1=>by rw [lV] at h1;cases h1)) fun aP hk=>?_;rw [mn] at hk;exact ⟨_,hk,MG d aP fW⟩
   ·exact he.elim
 ·rename_i vB Ip;split at he
  ·rename_i d fW
   cases hp:effC X st o (fun aP=>
    match get aP.sl d with
    | some ⟨[],.loc j off⟩=>G c ((d,⟨[],.loc j off⟩) :: s0) aP
    | _=>delF d s0 fun fT=>G c fT aP) with
   | none=>rw [hp] at he;exact he hl D.E0 D.wr hD E a w h
   | some p=>
    rw [hp] at he;refine core _ p c hp he id (fun _=>IF vB) fun aP hk=>?_;split at hk
    ·rename_i j off hg;refine ⟨_,hk,fun i x hx=>?_⟩;simp only [cy] at hx;split at hx
     ·rename_i Dq;simp only [oI] at hx;subst hx;exact .inl ⟨d,fW,Dq.symm,rfl,hg⟩
     ·rename_i Dq;exact .inr ⟨hx,fun d' uG=>by rw [fW] at uG;cases uG;exact Ne.symm Dq⟩
    ·rw [mn] at hk;exact ⟨_,hk,MG d aP fW⟩
  ·exact he.elim
theorem cH (hD:nD D.E0 D.d.fZ.bx D.wr):∀ n c l s0 st,goD X D.d n c l s0 st->(∀ p∈l,D.d.ops[p.1]? = some p.2)->∀ E a w,dC X D c E s0 st a w->runT X.P D.d.ops D.d.W D.C (D.Q X) (l.map (·.1)) a w
 | n,c,[],s0,st,hg,hl=>by
  intro E a w h;have hg:(match D.d.fin with | none=>go X 4000 D.d.k st | some F=>F c s0 st):=by cases n<;>simpa only [goD] using hg
  show D.Q X a w;unfold Dw.Q
  cases hf:D.d.fin with
  | none=>
   rw [hf] at hg;exact go_sound 4000 _ _ hg E a w h.rel
  | some F=>
   rw [hf] at hg;exact ⟨c,E,s0,st,h,hg⟩
 | 0,c,_ :: _,s0,st,hg,_=>by exact hg.elim
 | n + 1,c,(i,o) :: r,s0,st,hg,hl=>by
  intro E a w h;have ho:D.d.ops[i]? = some o:=hl (i,o) (by simp);have ov:∀ p∈r,D.d.ops[p.1]? = some p.2:=fun p hp=>hl p (List.mem_cons_of_mem _ hp);simp only [List.map_cons];have ih:∀ c s0 st,goD X D.d n c r s0 st->∀ E a w,dC X D c E s0 st a w->runT X.P D.d.ops D.d.W D.C (D.Q X) (r.map (·.1)) a w:=fun c s0 st hg=>cH hD n c r s0 st hg ov;have ihG:MF X D (r.map (·.1)) (fun c s0 st=>goD X D.d n c r s0 st):=fun c s0 st hg=>ih c s0 st hg;simp only [goD,Ag,uk] at hg;split at hg
  ·exact hg.elim
  ·rename_i hd
   have fR:∀ (v:Value) fT aP,eI o.op=false->Yl X.P D.d.ops D.C o v a->(iY o.op=true->c=true)->goD X D.d n c r fT aP -> dC X D c E fT aP (a.put o.dst v) w ->
     runT X.P D.d.ops D.d.W D.C (D.Q X) (i :: r.map (·.1)) a w:=by
    intro v fT aP hE hy dZ j2 bq;simp only [runT,ho];rw [if_neg (by simp [hE])];exact ⟨v,hy,fun hL=>h.cc (dZ hL),ih c fT aP j2 E _ w bq⟩
   have fS:∀ fT aP,eI o.op=true->Region.wanted o (yielded D.d.ops a.tmps)=false->goD X D.d n c r fT aP -> dC X D c E fT aP (a.put o.dst undef) w ->
     runT X.P D.d.ops D.d.W D.C (D.Q X) (i :: r.map (·.1)) a w:=by
    intro fT aP hE hw j2 bq;simp only [runT,ho];rw [if_pos hE];unfold cz;rw [if_neg (by simp [hw])];exact ⟨fun _ h=>h,ih c fT aP j2 E _ w bq⟩
   have fE:∀ fT aP,eI o.op=true->Region.wanted o (yielded D.d.ops a.tmps)=true->(eN X.nt aP.sl o.dst && eN X.nt fT o.dst)=true->effE X D.d c i r o fT aP (fun c' fT aP=>goD X D.d n c' r fT aP)->dC X D c E fT aP a w ->
     runT X.P D.d.ops D.d.W D.C (D.Q X) (i :: r.map (·.1)) a w:=by
    intro fT aP hE hw uG he bq;simp only [runT,ho];rw [if_pos hE];unfold cz;rw [if_pos hw];exact yI hD ov ihG uG bq he
   have fP:∀ fT aP,Region.wanted o (yielded D.d.ops a.tmps)=true->(eN X.nt aP.sl o.dst && eN X.nt fT o.dst)=true->optP (eR X D.d c fT aP o.op fun b s=>put2 fT aP o.dst b [] s (goD X D.d n c r))->dC X D c E fT aP a w ->
     runT X.P D.d.ops D.d.W D.C (D.Q X) (i :: r.map (·.1)) a w:=by
    intro fT aP hw uG he bq;obtain ⟨hE,dZ,b,s,v,hk,hv,oh,bz⟩:=DO hD bq he;obtain ⟨s1,lW,gO,de⟩:=fG bq uG b [] s v (fun _ _ p hp=>by cases hp) (fun _=>hv) (fun hb _=>oh hb) (fun hn=>(hn (aO _)).elim) hk;exact fR v s1 lW hE (.inl ⟨hw,bz⟩) dZ gO de
   have S3:∀ fT aP,(eN X.nt aP.sl o.dst && eN X.nt fT o.dst)=true->dC X D c E fT aP a w->put2 fT aP o.dst true [] .ud (goD X D.d n c r)->∃ s1 lW,goD X D.d n c r s1 lW/\dC X D c E s1 lW (a.put o.dst undef) w:=by
    intro fT aP uG bq hk;exact fG bq uG true [] .ud undef (fun _ _ p hp=>by cases hp) (fun _=>oe E) (fun _ _=>oe _) (fun hn=>(hn (aO _)).elim) hk
   split at hg
   ·rename_i GY;have hw:Region.wanted o (yielded D.d.ops a.tmps)=true:=by simp [Region.wanted,GY]
    split at hg
    ·rename_i hE;exact fE s0 st hE hw hd hg h
    ·split at hg
     ·rename_i b s hs;obtain ⟨hE,dZ,v,hv,oh,bz⟩:=wb hD h (aO _) hs;obtain ⟨s1,lW,gO,de⟩:=fG h hd b [] s v (fun _ _ p hp=>by cases hp) (fun _=>hv) (fun hb _=>oh hb) (fun hn=>(hn (aO _)).elim) hg;exact fR v s1 lW hE (.inl ⟨hw,bz⟩) dZ gO de
     ·exact fP s0 st hw hd hg h
   ·rename_i j want GY;split at hg
    ·exact hg.elim
    ·rename_i d yu;split at hg
     ·exact hg.elim
     ·rename_i iW sd GZ;have mf:=wanted_spec h.rel GY yu GZ
      have yJ:¬ Holds a.tmps ((d,want) :: iW)->Region.wanted o (yielded D.d.ops a.tmps)=false:=by
       intro hn;cases hww:Region.wanted o (yielded D.d.ops a.tmps)
       ·rfl
       ·exact (hn (mf.1 hww)).elim
      split at hg
      ·rename_i b s hs;split at hg
       case h_2=>exact hg.elim
       rename_i dh;have MH:=pY dh;by_cases hh:Holds a.tmps ((d,want) :: iW)
       ·obtain ⟨hE,dZ,v,hv,oh,bz⟩:=wb hD h hh hs;obtain ⟨s1,lW,gO,de⟩:=fG h hd b _ s v MH (fun _=>hv) (fun hb _=>oh hb) (fun hn=>(hn hh).elim) hg;exact fR v s1 lW hE (.inl ⟨mf.2 hh,bz⟩) dZ gO de
       ·obtain ⟨s1,lW,gO,de⟩:=fG h hd b _ s undef MH (fun hn=>(hh hn).elim) (fun _ hn=>(hh hn).elim) (fun _=>rfl) hg
        have dZ:eI o.op=false/\(iY o.op=true->c=true):=by
         unfold pR at hs;split at hs
         ·cases hs
         ·rename_i hc;simp only [Bool.and_eq_true,Bool.not_eq_true',Bool.or_eq_true] at hc;refine ⟨hc.1,fun hL=>?_⟩;rcases hc.2 with h1 | h1
          ·rw [hL] at h1;cases h1
          ·exact h1
        exact fR undef s1 lW dZ.1 (.inr ⟨yJ hh,rfl⟩) dZ.2 gO de
      ·split at hg
       ·rename_i b gj;have ht0:=vW h.rel gj
        cases iW with
        | nil=>
         simp only [lastG] at gj ht0;cases uC:(b == want)
         ·have yC:b = !want:=by cases b<;>cases want<;>simp_all
          have hg:=hg.f uC
          have hn:Region.wanted o (yielded D.d.ops a.tmps)=false:=by
           refine yJ fun hh=>?_;have:=hh (d,want) (by simp);simp only at this;rw [ht0] at this;simp only [oI,Value.bool.injEq] at this;rw [this] at uC;simp at uC
          have hr:=jl (d:=d) (b:=!want) h (by rw [ht0,yC]);split at hg
          ·rename_i dZ
           have Ko:iY o.op=true->c=true:=by
            intro hL;simpa [hL] using dZ
           obtain ⟨s1,lW,gO,de⟩:=S3 _ _ (jm hd) hr hg;cases hE:eI o.op
           ·exact fR undef s1 lW hE (.inr ⟨hn,rfl⟩) Ko gO de
           ·exact fS s1 lW hE hn gO de
          ·exact hg.elim
         ·have yj:b=want:=by simpa using uC
          have hg:=hg.t uC;subst yj;have hw:Region.wanted o (yielded D.d.ops a.tmps)=true:=mf.2 (gG ht0 (aO _));have hr:=jl (d:=d) (b:=b) h ht0;split at hg
          ·rename_i hE;exact fE _ _ hE hw (jm hd) hg hr
          ·exact fP _ _ hw (jm hd) hg hr
        | cons g1 gr=>
         have key:∀ e,a.tmps[(lastG (d,want) (g1 :: gr)).1]? = some (.bool e)->goD X D.d n c ((i,o) :: r) (s0.map (aY (lastG (d,want) (g1 :: gr)).1 e)) (st.resolve (lastG (d,want) (g1 :: gr)).1 e)->_:=
          fun e Ds j2=>cH hD n c ((i,o) :: r) _ _ j2 hl E a w (jl h Ds)
         cases uC:(b == (lastG (d,want) (g1 :: gr)).2)
         ·have hg:=hg.f uC;have yC:b = !(lastG (d,want) (g1 :: gr)).2:=by cases b<;>cases h0:(lastG (d,want) (g1 :: gr)).2<;>simp_all
          exact key _ (by rw [ht0,yC]) hg
         ·have hg:=hg.t uC;have yj:b=(lastG (d,want) (g1 :: gr)).2:=by simpa using uC
          exact key _ (by rw [ht0,yj]) hg
       ·rename_i gj
        cases iW with
        | nil=>
         have ht0:=DH h.rel gj;simp only [lastG] at ht0
         have hn:Region.wanted o (yielded D.d.ops a.tmps)=false:=by
          refine yJ fun hh=>?_;have:=hh (d,want) (by simp);simp only at this;rw [ht0] at this;simp [undef] at this
         simp only at hg;split at hg
         ·rename_i dZ
          have Ko:iY o.op=true->c=true:=by
           intro hL;simpa [hL] using dZ
          obtain ⟨s1,lW,gO,de⟩:=S3 _ _ hd h hg;cases hE:eI o.op
          ·exact fR undef s1 lW hE (.inr ⟨hn,rfl⟩) Ko gO de
          ·exact fS s1 lW hE hn gO de
         ·exact hg.elim
        | cons g1 gr=>exact hg.elim
       ·exact hg.elim
def Qp (X:Ctx) (o:Oper) (st aP:St):Prop:=∀ E a w,Rel X E st a w->wq X.P o a w fun a' w'=>∃ E',Rel X E' aP a' w' /\ di none E w E' w'
theorem Qp.g {o:Oper} {k:List It} {st aP:St} (h:Qp X o st aP) (hk:go X 4000 k aP):Iu X o k st:=fun E a w hr=>by
 refine Ao (kF ?_ (h E a w hr));rintro a' w' ⟨E',ff,_⟩;exact go_sound 4000 _ _ hk E' a' w' ff
def nOps:Nat->List Oper->List (Nat × Oper)
 | _,[]=>[]
 | i,o :: r=>(i,o) :: nOps (i + 1) r
theorem qc:∀ (l:List Oper) (i:Nat) (p:Nat × Oper),p∈nOps i l->i<=p.1/\l[p.1 - i]? = some p.2
 | [],_,_,h=>by cases h
 | o :: r,i,p,h=>by
  rcases List.mem_cons.1 h with h | h
  ·subst h;simp
  ·have:=qc r (i + 1) p h;refine ⟨by omega,?_⟩;rw [show p.1 - i=(p.1 - (i + 1)) + 1 by omega];simpa using this.2
theorem qd:∀ (l:List Oper) (i:Nat),(nOps i l).map (·.1)=List.range' i l.length
 | [],_=>rfl
 | o :: r,i=>by simp only [nOps,List.map_cons,qd r (i + 1),List.length_cons,List.range'_succ]
theorem jo (hr:Rel X E st a w) {ops:Array Oper} {W:Nat->Bool} {k:List It}:dC X ⟨⟨ops,W,k,st,none⟩,E,w⟩ true E st.sl st a w where
 rel:=hr
 x:=Ext.refl E
 β:=⟨[],by simp⟩
 t0:=hr.tm
 cc:=fun _=>⟨fun _ _ _ _ _ _=>rfl,hr.env.sub⟩
theorem Av {id:Nat} {ops:Array Oper} {k:List It} {st:St} (W:Nat->Bool) (hm:X.P.follows .mixedOrders=true) (hc:yF ops W=true)
  (h:goD X ⟨ops,W,k,st,none⟩ 3000 true (nOps 0 ops.toList) st.sl st):lf X id ops k st:=by
 intro E a w hr;have ff:=gJ hr;have hs:=jo ff (ops:=ops) (W:=W) (k:=k);refine iq (C:=CC E st.bx w.drew) (W:=W) (Q:=kq X k .normal) hm hc (fun a w h=>h) (hs.cc rfl) ?_;have:=cH (D:=⟨⟨ops,W,k,st,none⟩,E,w.drew⟩) ff.env.em 3000 true _ _ _ h (fun p hp=>by simpa using (qc _ _ p hp).2) E a w.drew hs;rw [qd] at this;rw [List.range_eq_range'];simp only [Array.length_toList] at this;exact this
def maskL:List Nat->Nat->List (List DV)->List (List DV)
 | _,_,[]=>[]
 | m,i,cs :: r=>(match m.contains i with | true=>[] | false=>cs) :: maskL m (i + 1) r
theorem nE (m:List Nat):∀ (l:List (List DV)) (i:Nat),(maskL m i l).length=l.length
 | [],_=>rfl
 | cs :: r,i=>by simp [maskL,nE m r]
theorem nF (m:List Nat):∀ (l:List (List DV)) (i j:Nat) cs,(maskL m i l)[j]? = some cs->cs=[]∨l[j]? = some cs
 | [],_,_,_,h=>by simp [maskL] at h
 | c :: r,i,0,cs,h=>by
  simp only [maskL,List.getElem?_cons_zero,oI] at h;split at h
  ·exact .inl h.symm
  ·exact .inr (by simp [h])
 | c :: r,i,j + 1,cs,h=>by
  simp only [maskL,List.getElem?_cons_succ] at h ⊢;exact nF m r (i + 1) j cs h
theorem eo {id:Nat} {ops:Array Oper} {k:List It} {st:St} (m:List Nat) (W:Nat->Bool) (hm:X.P.follows .mixedOrders=true) (hc:yF ops W=true)
  (h:goD X ⟨ops,W,k,⟨st.sl,maskL m 0 st.bx,st.tk⟩,none⟩ 3000 true (nOps 0 ops.toList) st.sl st):lf X id ops k st:=by
 intro E a w hr;have ff:=gJ hr;have hs:dC X ⟨⟨ops,W,k,⟨st.sl,maskL m 0 st.bx,st.tk⟩,none⟩,E,w.drew⟩ true E st.sl st a w.drew:=⟨ff,Ext.refl E,⟨[],by simp⟩,ff.tm,fun _=>⟨fun _ _ _ _ _ _=>rfl,ff.env.sub⟩⟩;refine iq (C:=CC E (maskL m 0 st.bx) w.drew) (W:=W) (Q:=kq X k .normal) hm hc (fun a w h=>h) (hs.cc rfl) ?_
 have G6:nD E (maskL m 0 st.bx) w.drew:=⟨by rw [nE];exact ff.env.len,fun i cs hi aQ=>by
  rcases nF m _ _ _ _ hi with h1 | h1
  ·exact (aQ h1).elim
  ·exact ff.env.dB i cs h1⟩
 have:=cH (D:=⟨⟨ops,W,k,⟨st.sl,maskL m 0 st.bx,st.tk⟩,none⟩,E,w.drew⟩) G6 3000 true _ _ _ h (fun p hp=>by simpa using (qc _ _ p hp).2) E a w.drew hs;rw [qd] at this;rw [List.range_eq_range'];simp only [Array.length_toList] at this;exact this
def IG (ops:Array Oper) (i:Nat):Bool:=
 match ops.toList[i]? with
 | some o=>
  match o.op with
  | .store ..=>true
  | _=>false
 | none=>false
theorem G7 {id:Nat} {ops:Array Oper} {k:List It} {st:St} (hm:X.P.follows .mixedOrders=true) (hc:yF ops (IG ops)=true)
  (h:goD X ⟨ops,IG ops,k,st,none⟩ 3000 true (nOps 0 ops.toList) st.sl st):lf X id ops k st:=Av (IG ops) hm hc h
theorem mv {D:Dr} {f:FuncId} {args aT:List DV} {d:Nat} {r:List (Nat × Oper)} (jh:Enters X.P f) (hd:(eN X.nt st.sl (some d) && eN X.nt s0 (some d))=true) {Φ:DV->List (List DV)->List TkE->Prop} (hc:Ev X.P f aT [] [] Φ) (ha:CcL [] 0 0 0 aT args)
  (hk:∀ uH,Φ uH [] []->put2 s0 st (some d) false [] uH (goD X D 3000 c r)) (aZ:X.still=false:=by exact rfl):sJ X D c i r f args (some d) s0 st:=by
 refine ⟨jh,fun hl E0 wr hD E a w vs h hv=>(oq h.rel aZ hc ha hv).mono ?_⟩;rintro e w' ⟨v,E',uH,rfl,bq,hr,hΦ,hm,hx,hβ⟩
 have hh:∀ b,b < w.heap.size->w'.heap[b]? = w.heap[b]?:=fun b hb=>hm.block b hb (by
  rintro (h1 | ⟨y,h1,_⟩)
  ·simp [En.cl] at h1
  ·simp [En.cl] at h1)
 have hs:di none E w E' w':=⟨hx,⟨[],by rw [hβ];simp⟩,fun j b hb _=>hh b (h.rel.env.aM (mG hb))⟩;have hC:=we h hs bq (fun j hj=>by cases hj);refine ⟨v,rfl,fun _=>hC,?_⟩;have wg:dC X ⟨D,E0,wr⟩ c E' s0 st (a.put none v) w':=mq h hs bq (fun h1=>hC (h.cc h1)) (fun i x hx=>.inr ⟨hx,fun d hd=>by cases hd⟩) rfl;obtain ⟨s1,lW,gO,de⟩:=fG wg hd false [] uH v (fun _ _ p hp=>by cases hp) (fun _=>hr) (fun hb=>by cases hb) (fun hn=>(hn (aO _)).elim) (hk uH hΦ);exact cH (D:=⟨D,E0,wr⟩) hD 3000 c r _ _ gO hl E' _ w' de
theorem G8 {D:Dr} {f:FuncId} {args aT:List DV} {d:Nat} {r:List (Nat × Oper)} {uH:DV} (jh:Enters X.P f) (hc:ba X.P f aT uH) (ha:CcL [] 0 0 0 aT args) (hd:(eN X.nt st.sl (some d) && eN X.nt s0 (some d))=true)
  (hk:put2 s0 st (some d) false [] uH (goD X D 3000 c r)) (aZ:X.still=false:=by exact rfl):sJ X D c i r f args (some d) s0 st:=
 mv jh hd hc ha (fun _ hr=>hr ▸ hk) aZ
end
end Dv
end Go.Proofs.YtfifjddnnmfeoaaGreat
namespace Go.Proofs.YtfifjddnnmfeoaaGreat
namespace Dv
open Go Go.RowKit
section
variable {P:Program} {ops:Array Oper} {C:World->Prop} {Q:Act->World->Prop} {W:Nat->Bool} {π π':Nat->Nat}
theorem nG {o:Oper} {i:Nat} {a:Act} {w:World} {K:Act->World->Prop} {Q':Exit->Act->World->Prop} (ho:ops[i]? = some o) (h:cz P ops o a w K):wpOp P ops Q' i K a w:=by
 unfold wpOp;rw [ho];simp only;unfold cz at h;split
 ·rename_i hw;rw [if_pos hw] at h;exact .inl (Ao h)
 ·rename_i hw;rw [if_neg hw] at h;exact h
def chkT (ops:Array Oper) (x y:Nat):Bool:=
 (List.range ops.size).all fun i=>Nat.beq i x || Nat.beq i y ||
  match ops[i]? with
  | some o=>!eI o.op || ordB ops ops.size x i
  | none=>false
def oX (x y:Nat):Nat->Nat->Bool:=fun j i=>Nat.beq j x && Nat.beq i y
theorem yK {x y:Nat} {Q':Exit->Act->World->Prop} (yL:x≠y) (LQ:mi ops W π=true) (MI:oV ops W π (oX x y)=true) (Pk:mi ops W π'=true) (MJ:oV ops W π' (oX y x)=true) (hT:chkT ops x y=true)
  (hQ:∀ a w,Q a w->Q' .normal a w):∀ (fb:Nat) (listed:Array Bool) (r1 r2:List Nat) (a:Act) (w:World),
  listed.size=ops.size->Dn ops listed->(∀ i,i∈r1↔i < ops.size/\listed.getD i true=false)->(∀ i,i∈r2↔i < ops.size/\listed.getD i true=false)->r1.Pairwise (fun a b=>π a < π b)->r2.Pairwise (fun a b=>π' a < π' b)->r1.length<=fb ->
   x∈r1->y∈r1->C w->runT P ops W C Q r1 a w->runT P ops W C Q r2 a w->wpAny P .any ops Q' fb listed a w:=by
 have bY:=ml LQ;have nh:=mj LQ;have Kp:=mj Pk;have Qq:=MI;have Qr:=MJ;simp only [oV,List.all_eq_true,List.mem_range,Bool.or_eq_true,Bool.not_eq_true'] at MI MJ;intro fb
 induction fb with
 | zero=>
  intro listed r1 r2 a w cg Gw iC Gs ow ym hlen hx hy hC hr1 hr2;have:r1=[]:=List.length_eq_zero_iff.1 (by omega);rw [this] at hx;cases hx
 | succ fb ih=>
  intro listed r1 r2 a w cg Gw iC Gs ow ym hlen hx hy hC hr1 hr2;have Qs:∀ i,i∈r1↔i∈r2:=fun i=>(iC i).trans (Gs i).symm;have yM:r1.Nodup:=jU ow;have qf:r2.Nodup:=jU ym;have v8:=nC LQ;refine ⟨fun h0=>?_,fun i hi=>?_⟩
  ·cases r1 with
   | nil=>cases hx
   | cons h rem=>
    have hh:=(iC h).1 (by simp);have S4:ops[h]? = some ops[h]:=Array.getElem?_eq_getElem hh.1
    have:h∈Region.ready .any ops listed:=by
     refine mem_ready.2 ⟨hh.2,_,S4,fun e he hb=>?_⟩;obtain ⟨au,MC⟩:=v8 h _ S4 e he hb;cases hg:listed.getD e.on false
     ·have Gx:listed.getD e.on true=false:=by
       have:e.on < listed.size:=by rw [cg];omega
       simp [this] at hg ⊢;exact hg
      have hm:=(iC e.on).2 ⟨by omega,Gx⟩;rcases List.mem_cons.1 hm with e1 | e1
      ·rw [e1] at au;omega
      ·have:=(List.pairwise_cons.1 ow).1 _ e1;omega
     ·rfl
    rw [h0] at this;cases this
  ·obtain ⟨MD,o,ho,ez⟩:=mem_ready.1 hi;have eP:=(Array.getElem?_eq_some_iff.1 ho).1;have ja:i∈r1:=(iC i).2 ⟨eP,MD⟩;have G9:i∈r2:=(Qs i).1 ja
   have mw:∀ j,j∈r1->ordB ops ops.size j i=true->False:=by
    intro j hj h1;have h2:=ig Gw _ _ _ _ ho ez h1;have h3:=((iC j).1 hj).2;have:j < listed.size:=by rw [cg];exact ((iC j).1 hj).1
    simp [this] at h2 h3;rw [h2] at h3;cases h3
   have Ha:i≠y->∀ j∈r1,j≠i->π j < π i->dH ops W j i=true:=by
    intro Kq j hj _ au;rcases MI i eP j ((iC j).1 hj).1 with ((h1 | h1) | h1) | h1
    ·have:¬ Nat.blt (π j) (π i)=true:=by simp [h1]
     simp at this;omega
    ·simp [oX] at h1;exact (Kq h1.2).elim
    ·exact (mw j hj h1).elim
    ·exact h1
   have Kr:i≠x->∀ j∈r2,j≠i->π' j < π' i->dH ops W j i=true:=by
    intro jP j hj _ au;rcases MJ i eP j ((Gs j).1 hj).1 with ((h1 | h1) | h1) | h1
    ·have:¬ Nat.blt (π' j) (π' i)=true:=by simp [h1]
     simp at this;omega
    ·simp [oX] at h1;exact (jP h1.2).elim
    ·exact (mw j ((Qs j).2 hj) h1).elim
    ·exact h1
   have BK:Dn ops (listed.setIfInBounds i true):=by
    intro k z hz hk e he hb;by_cases gI:k=i
    ·subst gI;rw [ho] at hz;simp only [oI] at hz;subst hz;exact getD_set_true (ez e he hb)
    ·rw [getD_set_ne true (Ne.symm gI)] at hk;exact getD_set_true (Gw k z hz hk e he hb)
   have sK:∀ (rem:List Nat),rem.Nodup->(∀ i,i∈rem↔i < ops.size/\listed.getD i true=false)->∀ k,k∈rem.erase i↔k < ops.size/\(listed.setIfInBounds i true).getD k true=false:=by
    intro rem hnd eO k;rw [List.Nodup.mem_erase_iff hnd];by_cases gI:k=i
    ·subst gI;simp [cg,eP]
    ·rw [getD_set_ne true (Ne.symm gI)];simp only [ne_eq,gI,not_false_eq_true,true_and];exact eO k
   refine nG ho ?_;by_cases jP:i=x
   ·subst jP;have aZ:=ef bY nh ho r1 a w (fun _=>hC) hr1 ja (Ha yL) ow;refine bu ?_ aZ;rintro a' w' ⟨k0,ff⟩;refine jk (C:=C) (oX i y) LQ Qq hQ fb _ (r1.erase i) a' w' (by simp [cg]) BK (sK r1 yM iC) (ow.sublist List.erase_sublist) (by rw [List.length_erase_of_mem ja];omega) ?_ ?_ ff
    ·intro j hj k _;cases eJ:oX i y j k
     ·rfl
     ·simp only [oX,Bool.and_eq_true,Nat.beq_eq] at eJ;exact (((List.Nodup.mem_erase_iff yM).1 hj).1 eJ.1).elim
    ·rintro ⟨l,z,hl,hz,hL⟩;refine k0 ?_ hC;have ov:=List.mem_of_mem_erase hl;have aQ:l≠i:=((List.Nodup.mem_erase_iff yM).1 hl).1;rcases qb ow ja ov aQ.symm with h1 | h1
     ·exact nh i l z o h1 hz ho hL
     ·have:=Ha yL l ov aQ h1;obtain ⟨_,_,_,h4⟩:=cM this hz ho;cases hw:W i
      ·rfl
      ·exact (h4 ⟨hL,hw⟩).elim
   ·by_cases Kq:i=y
    ·subst Kq;have aZ:=ef bY Kp ho r2 a w (fun _=>hC) hr2 G9 (Kr (Ne.symm yL)) ym;refine bu ?_ aZ;rintro a' w' ⟨k0,ff⟩;refine jk (C:=C) (oX i x) Pk Qr hQ fb _ (r2.erase i) a' w' (by simp [cg]) BK (sK r2 qf Gs) (ym.sublist List.erase_sublist) ?_ ?_ ?_ ff
     ·have e1:r1.length=r2.length:=(List.perm_iff_count.2 (fun z=>by rw [yM.count,qf.count];simp [Qs z])).length_eq;rw [List.length_erase_of_mem G9];omega
     ·intro j hj k _;cases eJ:oX i x j k
      ·rfl
      ·simp only [oX,Bool.and_eq_true,Nat.beq_eq] at eJ;exact (((List.Nodup.mem_erase_iff qf).1 hj).1 eJ.1).elim
     ·rintro ⟨l,z,hl,hz,hL⟩;refine k0 ?_ hC;have ov:=List.mem_of_mem_erase hl;have aQ:l≠i:=((List.Nodup.mem_erase_iff qf).1 hl).1;rcases qb ym G9 ov aQ.symm with h1 | h1
      ·exact Kp i l z o h1 hz ho hL
      ·have:=Kr (Ne.symm yL) l ov aQ h1;obtain ⟨_,_,_,h4⟩:=cM this hz ho;cases hw:W i
       ·rfl
       ·exact (h4 ⟨hL,hw⟩).elim
    ·have Qn:eI o.op=false:=by
      simp only [chkT,List.all_eq_true,List.mem_range,Bool.or_eq_true,Nat.beq_eq] at hT;rcases hT i eP with (h1 | h1) | h1
      ·exact (jP h1).elim
      ·exact (Kq h1).elim
      ·rw [ho] at h1;simp only [Bool.or_eq_true,Bool.not_eq_true'] at h1;rcases h1 with h1 | h1
       ·exact h1
       ·exact (mw x hx h1).elim
     obtain ⟨v,Aw⟩:=gN bY ho Qn r1 a w hr1 ja (Ha Kq) ow;have L9:=ef bY nh ho r1 a w (fun _=>hC) hr1 ja (Ha Kq) ow;have Gq:=ef bY Kp ho r2 a w (fun _=>hC) hr2 G9 (Kr jP) ym;have gO:=eL Aw (fun _=>hC) L9;have DP:=eL Aw (fun _=>hC) Gq;refine eK Aw (fun _=>hC) ?_
     exact ih _ (r1.erase i) (r2.erase i) _ w (by simp [cg]) BK (sK r1 yM iC) (sK r2 qf Gs) (ow.sublist List.erase_sublist) (ym.sublist List.erase_sublist) (by rw [List.length_erase_of_mem ja];omega)
      ((List.Nodup.mem_erase_iff yM).2 ⟨Ne.symm jP,hx⟩) ((List.Nodup.mem_erase_iff yM).2 ⟨Ne.symm Kq,hy⟩) hC gO.2 DP.2
end
def selL (ops:List Oper):List Nat->List (Nat × Oper)
 | []=>[]
 | i :: r=>
  match ops[i]? with
  | some o=>(i,o) :: selL ops r
  | none=>selL ops r
theorem qg {ops:List Oper} {l:List Nat} {p:Nat × Oper} (h:p∈selL ops l):ops[p.1]? = some p.2:=by
 induction l with
 | nil=>cases h
 | cons i r ih=>
  unfold selL at h;split at h
  ·rename_i o ho;rcases List.mem_cons.1 h with h | h
   ·rw [h];exact ho
   ·exact ih h
  ·exact ih h
def plc:List Nat->Nat->Nat
 | [],_=>0
 | x :: r,i=>if Nat.beq x i then 0 else plc r i + 1
def yN (ops:Array Oper) (l:List Nat):Bool:=
 (selL ops.toList l).map (·.1) == l && (List.range ops.size).all (fun i=>l.contains i) && l.all (fun i=>Nat.blt i ops.size) && Nat.ble l.length ops.size && Pm (plc l) l
where Pm (f:Nat->Nat):List Nat->Bool
 | []=>true
 | x :: r=>r.all (fun y=>Nat.blt (f x) (f y)) && Pm f r
theorem my {f:Nat->Nat}:∀ {l:List Nat},yN.Pm f l=true->l.Pairwise (fun a b=>f a < f b)
 | [],_=>List.Pairwise.nil
 | x :: r,h=>by
  simp only [yN.Pm,Bool.and_eq_true,List.all_eq_true,Nat.blt_eq] at h;exact List.pairwise_cons.2 ⟨h.1,my h.2⟩
def MK (ops:Array Oper) (W:Nat->Bool) (l l':List Nat) (x y:Nat):Bool:=
 !Nat.beq x y && Nat.blt x ops.size && Nat.blt y ops.size && yN ops l && yN ops l' && mi ops W (plc l) && oV ops W (plc l) (oX x y) && mi ops W (plc l') && oV ops W (plc l') (oX y x) && chkT ops x y
def swp (i j k:Nat):Nat:=
 match Nat.beq k i with
 | true=>j
 | false=>
  match Nat.beq k j with
  | true=>i
  | false=>k
theorem ij (i j k:Nat):swp i j (swp i j k)=k:=by
 have hb:∀ a b:Nat,Nat.beq a b=decide (a=b):=fun a b=>by
  by_cases h:a=b
  ·subst h;simp
  ·rw [decide_eq_false h];cases h1:Nat.beq a b
   ·rfl
   ·exact (h (by simpa using h1)).elim
 unfold swp;simp only [hb];by_cases h1:k=i
 ·subst h1;simp only [decide_true];by_cases h2:j=k
  ·subst h2;simp
  ·simp [h2]
 ·by_cases h2:k=j
  ·subst h2;simp [h1]
  ·simp [h1,h2]
mutual
def renD (f:Nat->Nat):DV->DV
 | .v x=>.v x
 | .ud=>.ud
 | .agg l=>.agg (renL f l)
 | .dV l=>.dV (renL f l)
 | .sl e es tk=>.sl e es tk
 | .pt cs o=>.pt cs o
 | .loc i o=>.loc (f i) o
 | .el i o=>.el (f i) o
 | .ms i e o l c=>.ms (f i) e o l c
 | .fn g l r=>.fn g (renL f l) (renL f r)
 | .lZ t x=>.lZ t (renD f x)
def renL (f:Nat->Nat):List DV->List DV
 | []=>[]
 | d :: r=>renD f d :: renL f r
end
def renS (f:Nat->Nat):List (Nat × Sl)->List (Nat × Sl)
 | []=>[]
 | (k,⟨gs,s⟩) :: r=>(k,⟨gs,renD f s⟩) :: renS f r
def renO (f:Nat->Nat):List (List DV)->List (List DV)
 | []=>[]
 | cs :: r=>renL f cs :: renO f r
def swL {α:Type} (i j:Nat) (l:List α):List α:=
 match l[i]?,l[j]? with
 | some a,some b=>(l.set i b).set j a
 | _,_=>l
def cE (i j:Nat) (S:St):St:=⟨renS (swp i j) S.sl,swL i j (renO (swp i j) S.bx),S.tk⟩
theorem mz (f:Nat->Nat):∀ (l:List (List DV)) (k:Nat),(renO f l)[k]? = (l[k]?).map (renL f)
 | [],k=>by simp [renO]
 | c :: r,0=>by simp [renO]
 | c :: r,k + 1=>by simp only [renO,List.getElem?_cons_succ];exact mz f r k
theorem cu (f:Nat->Nat):∀ (l:List (List DV)),(renO f l).length=l.length
 | []=>rfl
 | c :: r=>by simp [renO,cu f r]
theorem wh (f:Nat->Nat):∀ (l:List (Nat × Sl)) (k:Nat),get (renS f l) k=(get l k).map fun x=>⟨x.gs,renD f x.s⟩
 | [],k=>rfl
 | (i,⟨gs,s⟩) :: r,k=>by
  simp only [renS,cy];split
  ·rfl
  ·exact wh f r k
theorem bR {α:Type} (i j:Nat) (l:List α):(swL i j l).length=l.length:=by
 unfold swL;split<;>simp
theorem dm {α:Type} {i j:Nat} {l:List α} (hi:i < l.length) (hj:j < l.length) (k:Nat):(swL i j l)[k]? = l[swp i j k]?:=by
 have hb:∀ a b:Nat,Nat.beq a b=true↔a=b:=fun a b=>by simp
 unfold swL;rw [gE hi,gE hj];simp only;unfold swp;by_cases Qt:k=j
 ·subst Qt;rw [List.getElem?_set_self (by simpa using hj)];cases h1:Nat.beq k i
  ·simp only [Nat.beq_refl];exact (gE hi).symm
  ·have:=(hb k i).1 h1;subst this;exact (gE hi).symm
 ·rw [List.getElem?_set_ne (Ne.symm Qt)];by_cases gI:k=i
  ·subst gI;rw [List.getElem?_set_self hi];simp only [Nat.beq_refl];exact (gE hj).symm
  ·rw [List.getElem?_set_ne (Ne.symm gI)]
   have h1:Nat.beq k i=false:=by
    cases h:Nat.beq k i
    ·rfl
    ·exact (gI ((hb k i).1 h)).elim
   have h2:Nat.beq k j=false:=by
    cases h:Nat.beq k j
    ·rfl
    ·exact (Qt ((hb k j).1 h)).elim
   simp only [h1,h2]
theorem Hb {α:Type} {i j:Nat} {l:List α} (hi:i < l.length) (hj:j < l.length):swL i j (swL i j l)=l:=by
 apply List.ext_getElem?;intro k;rw [dm (by rw [bR];exact hi) (by rw [bR];exact hj),dm hi hj,ij]
section
variable {E:En} {i j:Nat}
mutual
theorem Rv.yO (hi:i < E.β.length) (hj:j < E.β.length):∀ {d:DV} {v:Value},Rv E (renD (swp i j) d) v->Rv ⟨E.c,swL i j E.β,E.tk,E.τ⟩ d v
 | .v x,v,h=>by simp only [renD] at h;unfold Rv at h ⊢;exact h
 | .ud,v,h=>by simp only [renD] at h;unfold Rv at h ⊢;exact h
 | .sl e es tk,v,h=>by simp only [renD] at h;unfold Rv at h ⊢;exact h
 | .pt cs o,v,h=>by simp only [renD] at h;unfold Rv at h ⊢;exact h
 | .loc k o,v,h=>by
  simp only [renD] at h;unfold Rv at h ⊢;obtain ⟨b,h1,h2⟩:=h;exact ⟨b,by show (swL i j E.β)[k]? = _;rw [dm hi hj];exact h1,h2⟩
 | .el k o,v,h=>by
  simp only [renD] at h;unfold Rv at h ⊢;obtain ⟨b,h1,h2⟩:=h;exact ⟨b,by show (swL i j E.β)[k]? = _;rw [dm hi hj];exact h1,h2⟩
 | .ms k e o l c,v,h=>by
  simp only [renD] at h;unfold Rv at h ⊢;obtain ⟨b,ad,h1,h2⟩:=h;exact ⟨b,ad,by show (swL i j E.β)[k]? = _;rw [dm hi hj];exact h1,h2⟩
 | .agg l,v,h=>by
  simp only [renD] at h;unfold Rv at h ⊢;obtain ⟨vs,h1,h2,h3⟩:=h;exact ⟨vs,h1,RvL.yO hi hj h2,h3⟩
 | .dV l,v,h=>by
  simp only [renD] at h;unfold Rv at h ⊢;obtain ⟨vs,h1,h2⟩:=h;exact ⟨vs,h1,RvL.yO hi hj h2⟩
 | .fn g l r,v,h=>by
  simp only [renD] at h;unfold Rv at h ⊢;obtain ⟨l',r',h1,h2,h3⟩:=h;exact ⟨l',r',h1,RvL.yO hi hj h2,RvL.yO hi hj h3⟩
 | .lZ t x,v,h=>by
  simp only [renD] at h;unfold Rv at h ⊢;obtain ⟨z,h1,h2⟩:=h;exact ⟨z,h1,Rv.yO hi hj h2⟩
theorem RvL.yO (hi:i < E.β.length) (hj:j < E.β.length):∀ {l:List DV} {vs:List Value},RvL E (renL (swp i j) l) vs->RvL ⟨E.c,swL i j E.β,E.tk,E.τ⟩ l vs
 | [],vs,h=>by simp only [renL,RvL] at h ⊢;exact h
 | d :: r,vs,h=>by
  simp only [renL,RvL] at h ⊢;obtain ⟨v,s,h1,h2,h3⟩:=h;exact ⟨v,s,h1,Rv.yO hi hj h2,RvL.yO hi hj h3⟩
end
end
theorem Ax {α:Type} {i j:Nat} {l:List α} (hi:i < l.length) (hj:j < l.length) {x:α}:x∈swL i j l↔x∈l:=by
 have h1:∀ (l:List α),i < l.length->j < l.length->x∈swL i j l->x∈l:=by
  intro l hi hj h;obtain ⟨k,hk⟩:=List.mem_iff_getElem?.1 h;rw [dm hi hj] at hk;exact mG hk
 refine ⟨h1 l hi hj,fun h=>?_⟩;have:=h1 (swL i j l) (by rw [bR];exact hi) (by rw [bR];exact hj);rw [Hb hi hj] at this;exact this h
theorem BL {i j:Nat} {l:List Nat} (hi:i < l.length) (hj:j < l.length) (h:l.Nodup):(swL i j l).Nodup:=by
 have au:∀ k,k < l.length->swp i j k < l.length:=by
  intro k hk;unfold swp;split
  ·exact hj
  ·split
   ·exact hi
   ·exact hk
 unfold List.Nodup;rw [List.pairwise_iff_getElem];intro a b ha hb vC he;rw [bR] at ha hb
 have hg:∀ k (hk:k < l.length),(swL i j l)[k]'(by rw [bR];exact hk)=l[swp i j k]'(au k hk):=by
  intro k hk;have:=dm hi hj k;rw [gE (by rw [bR];exact hk),gE (au k hk)] at this;exact Option.some.inj this
 rw [hg a ha,hg b hb] at he
 have h1:l[swp i j a]? = l[swp i j b]?:=by
  rw [gE (au a ha),gE (au b hb),he]
 have:=(List.getElem?_inj (au a ha) h).1 h1;have:=congrArg (swp i j) this;rw [ij,ij] at this;omega
theorem iH {P:Program} {ops:Array Oper} {W:Nat->Bool} {C:World->Prop} {Q Q':Act->World->Prop} (hQ:∀ a w,Q a w->Q' a w):∀ {l:List Nat} {a:Act} {w:World},runT P ops W C Q l a w->runT P ops W C Q' l a w
 | [],a,w,h=>hQ _ _ h
 | i :: r,a,w,h=>by
  simp only [runT] at h ⊢;split at h
  ·exact h.elim
  ·split at h
   ·rename_i hE;rw [if_pos hE];exact bu (fun a w hk=>⟨hk.1,iH hQ hk.2⟩) h
   ·rename_i hE;rw [if_neg hE];obtain ⟨v,h1,h2,h3⟩:=h;exact ⟨v,h1,h2,iH hQ h3⟩
section
variable {X:Ctx} {E:En} {S:St} {a:Act} {w:World} {i j:Nat}
theorem wi (hX:X.bt=[]) (h:Rel X E (cE i j S) a w) (C5:X.n0<=i) (vy:X.n0<=j) (hi:i < S.bx.length) (hj:j < S.bx.length):Rel X ⟨E.c,swL i j E.β,E.tk,E.τ⟩ S a w:=by
 have hlen:E.β.length=S.bx.length:=by
  rw [h.env.len];simp only [cE,bR,cu]
 have eP:i < E.β.length:=by rw [hlen];exact hi
 have eJ:j < E.β.length:=by rw [hlen];exact hj
 have pU:∀ k,(cE i j S).bx[k]? = (S.bx[swp i j k]?).map (renL (swp i j)):=fun k=>by
  simp only [cE];rw [dm (by rw [cu];exact hi) (by rw [cu];exact hj),mz]
 exact {
  env:={
   len:=by rw [bR];exact hlen
   tl:=h.env.tl
   dB:=fun k cs hk=>by
    obtain ⟨b,ty,arr,hb,hw,hc⟩:=h.env.dB (swp i j k) (renL (swp i j) cs) (by rw [pU,ij,hk];rfl);exact ⟨b,ty,arr,by rw [dm eP eJ];exact hb,hw,RvL.yO eP eJ hc.1,hc.2⟩
   inj:=BL eP eJ h.env.inj
   sub:=h.env.sub
   pc:=fun x v hx hm=>h.env.pc x v hx ((Ax eP eJ).1 hm)
   bD:=fun k q y hq hy=>by
    rcases h.env.bD k q y hq hy with h1 | ⟨g,cap,cur,rfl,h1,h2,h3,h4,h5,h6⟩
    ·exact .inl h1
    ·exact .inr ⟨g,cap,cur,rfl,h1,h2,h3,h4,fun hm=>h5 ((Ax eP eJ).1 hm),h6⟩
   fY:=h.env.fY }
  tk:=h.tk
  sz:=h.sz
  tm:=fun k x hx=>by
   have:=h.tm k ⟨x.gs,renD (swp i j) x.s⟩ (by simp only [cE];rw [wh,hx];rfl);refine ⟨fun hh=>?_,this.2⟩;obtain ⟨v,h1,h2⟩:=this.1 hh;exact ⟨v,h1,Rv.yO eP eJ h2⟩
  df:=h.df
  nw:={
   c:=h.nw.c
   cn:=h.nw.cn
   β:=by
    obtain ⟨r,hr,hl⟩:=h.nw.β;have hE0:X.E0.β.length=X.n0:=X.oS;refine ⟨(swL i j E.β).drop X.n0,?_,fun b hb=>?_⟩
    ·show swL i j E.β=_
     have:(swL i j E.β).take X.n0=X.E0.β:=by
      apply List.ext_getElem?;intro k;rw [List.getElem?_take];split
      ·rename_i hk;rw [dm eP eJ]
       have:swp i j k=k:=by
        unfold swp;have hb:∀ a b:Nat,Nat.beq a b=true↔a=b:=fun a b=>by simp
        cases h1:Nat.beq k i
        ·cases h2:Nat.beq k j
         ·rfl
         ·have:=(hb k j).1 h2;omega
        ·have:=(hb k i).1 h1;omega
       rw [this,hr,List.getElem?_append_left (by omega)]
      ·rename_i hk;exact (List.getElem?_eq_none (by omega)).symm
     rw [<- this,List.take_append_drop]
    ·have hnd:=h.env.inj;obtain ⟨k,hk⟩:=List.mem_iff_getElem?.1 hb;rw [List.getElem?_drop,dm eP eJ] at hk
     have bI:X.n0<=swp i j (X.n0 + k):=by
      unfold swp;split
      ·exact vy
      ·split
       ·exact C5
       ·omega
     rw [hr,List.getElem?_append_right (by omega)] at hk;exact hl b (mG hk)
   tk:=h.nw.tk
   tn:=h.nw.tn
   l0:=h.nw.l0 }
  fr:=h.fr
  sh:=h.sh
  bt:=.nil hX }
theorem uI (hX:X.bt=[]) (h:Rel X E (cE i j S) a w) (C5:X.n0<=i) (vy:X.n0<=j) (hi:i < S.bx.length) (hj:j < S.bx.length):∃ E',Rel X E' S a w:=⟨_,wi hX h C5 vy hi hj⟩
end
def Ay (sl:List (Nat × Sl)):List (Nat × Sl)->Prop
 | []=>True
 | p :: r=>get sl p.1=some p.2/\Ay sl r
theorem qh {sl:List (Nat × Sl)}:∀ {l:List (Nat × Sl)},Ay sl l->∀ i x,get l i=some x->get sl i=some x
 | [],_,i,x,hx=>by cases hx
 | (k,y) :: r,h,i,x,hx=>by
  simp only [cy] at hx;split at hx
  ·rename_i gI;subst gI;simp only [oI] at hx;subst hx;exact h.1
  ·exact qh h.2 i x hx
def uniqS:List Nat->List (Nat × Sl)->List (Nat × Sl)
 | _,[]=>[]
 | m,p :: r=>
  match muB m p.1 with
  | true=>uniqS m r
  | false=>p :: uniqS (p.1 :: m) r
theorem nH:∀ (l:List (Nat × Sl)) (m:List Nat) (i:Nat),muB m i=false->get (uniqS m l) i=get l i
 | [],_,_,_=>rfl
 | (k,x) :: r,m,i,h=>by
  simp only [uniqS]
  cases hm:muB m k with
  | true=>
   simp only;rw [nH r m i h,cy,if_neg];rintro rfl;rw [hm] at h;cases h
  | false=>
   simp only [cy];by_cases hk:k=i
   ·rw [if_pos hk,if_pos hk]
   ·rw [if_neg hk,if_neg hk]
    exact nH r (k :: m) i (by simp only [muB,h,Bool.or_false];cases hb:Nat.beq k i with
     | true=>exact (hk (Nat.eq_of_beq_eq_true hb)).elim
     | false=>rfl)
def bV (s S:St):Prop:=s.bx=S.bx/\s.tk=S.tk/\Ay s.sl (uniqS [] S.sl)
theorem mA {X:Ctx} {E:En} {s S:St} {a:Act} {w:World} (h:Rel X E s a w) (hs:bV s S):Rel X E S a w where
 env:=by rw [<- hs.1];exact h.env
 tk:=by rw [<- hs.2.1];exact h.tk
 sz:=h.sz
 tm:=fun i x hx=>h.tm i x (qh hs.2.2 i x (by rw [nH _ _ _ rfl];exact hx))
 df:=h.df
 nw:=h.nw
 fr:=h.fr
 sh:=h.sh
 bt:=h.bt
theorem nI {X:Ctx} {id:Nat} {ops:Array Oper} {k:List It} {st:St} (W:Nat->Bool) (x y:Nat) (l l':List Nat) (i j:Nat) (hm:X.P.follows .mixedOrders=true) (hc:MK ops W l l' x y=true) (S:St)
  (h:goD X ⟨ops,W,[.pK fun s=>s=S],st,none⟩ 3000 true (selL ops.toList l) st.sl st) (h':goD X ⟨ops,W,[.pK fun s=>bV s (cE i j S)],st,none⟩ 3000 true (selL ops.toList l') st.sl st)
  (gv:(Nat.ble X.n0 i && Nat.ble X.n0 j && Nat.blt i S.bx.length && Nat.blt j S.bx.length)=true) (hk:go X 4000 k S) (hX:X.bt=[]:=by exact rfl):lf X id ops k st:=by
 intro E a w hr;have ff:=gJ hr;simp only [Bool.and_eq_true,Nat.ble_eq,Nat.blt_eq] at gv;simp only [MK,yN,Bool.and_eq_true,List.all_eq_true,Nat.blt_eq,Nat.ble_eq,beq_iff_eq,List.mem_range,Bool.not_eq_true'] at hc;obtain ⟨⟨⟨⟨⟨⟨⟨⟨⟨yL,rS⟩,Ma⟩,⟨⟨⟨h1a,IH⟩,Pn⟩,hlen⟩,Qu⟩,⟨⟨⟨h2a,Qv⟩,h2c⟩,_⟩,h2d⟩,LQ⟩,MI⟩,Pk⟩,MJ⟩,hT⟩:=hc
 have hQ:∀ S',(S'=S∨S'=cE i j S)->∀ a w,(∃ st E,Rel X E st a w/\(st=S' ∨ bV st S'))->kq X k .normal a w:=by
  rintro S' hS a w ⟨lW,E1,II,oi⟩
  have bq:Rel X E1 S' a w:=by
   rcases oi with rfl | oi
   ·exact II
   ·exact mA II oi
  rcases hS with rfl | rfl
  ·exact go_sound 4000 _ _ hk E1 a w bq
  ·obtain ⟨E2,p9⟩:=uI hX bq gv.1.1.1 gv.1.1.2 gv.1.2 gv.2;exact go_sound 4000 _ _ hk E2 a w p9
 have key:∀ (S':St),(S'=S∨S'=cE i j S)->∀ (l:List Nat),(selL ops.toList l).map (·.1)=l->∀ J:St->Prop,(∀ s,J s->s=S' ∨ bV s S')->(goD X ⟨ops,W,[.pK J],st,none⟩ 3000 true (selL ops.toList l) st.sl st) ->
   runT X.P ops W (CC E st.bx w.drew) (fun a w=>kq X k .normal a w) l a w.drew:=by
  intro S' hS l hl J hJ h;have hs:=jo ff (ops:=ops) (W:=W) (k:=[.pK J]);have:=cH (D:=⟨⟨ops,W,[.pK J],st,none⟩,E,w.drew⟩) ff.env.em 3000 true _ _ _ h (fun p hp=>by simpa using qg hp) E a w.drew hs;rw [hl] at this;exact iH (fun a w ⟨st,E1,h1,h2⟩=>hQ S' hS a w ⟨st,E1,h1,hJ st h2⟩) this
 have e1:=key S (.inl rfl) l h1a _ (fun s hs=>.inl hs) h;have e2:=key (cE i j S) (.inr rfl) l' h2a _ (fun s hs=>.inr hs) h';refine wp_region_any hm ?_
 have Da:∀ (l:List Nat),(∀ i,i < ops.size->l.contains i=true)->(∀ i∈l,i < ops.size)->∀ i,i∈l↔i < ops.size/\(Array.replicate ops.size false).getD i true=false:=by
  intro l ha hb i;constructor
  ·intro hi;exact ⟨hb i hi,by simp [hb i hi]⟩
  ·intro hi;simpa using ha i hi.1
 have Qw:x≠y:=by
  intro e;subst e;simp at yL
 refine yK (C:=CC E st.bx w.drew) (π:=plc l) (π':=plc l') (Q:=kq X k .normal) Qw LQ MI Pk MJ hT (fun a w h=>h) ops.size (Array.replicate ops.size false) l l' a _ (by simp) ?_ (Da l IH Pn) (Da l' Qv h2c) (my Qu) (my h2d) hlen
  (by simpa using IH x rS) (by simpa using IH y Ma) ⟨fun _ _ _ _ _ _=>rfl,ff.env.sub⟩ e1 e2
 intro i o ho hl;have:i < ops.size:=(Array.getElem?_eq_some_iff.1 ho).1;simp [this] at hl
end Dv
end Go.Proofs.YtfifjddnnmfeoaaGreat
namespace Go.Proofs.YtfifjddnnmfeoaaGreat
namespace Dv
open Go Go.RowKit
section
variable {X:Ctx} {st:St} {k:List It} {E:En} {a:Act} {w:World}
noncomputable def En.Hc (E:En) (w:World):En:=⟨nA E 0 w,[],[],[]⟩
theorem He {bx:List (List DV)} (h:Env E bx w):Env (E.Hc w) [] w where
 len:=rfl
 tl:=rfl
 dB:=by simp
 inj:=List.nodup_nil
 sub:=fun x u hx=>by
  rcases dj hx with ⟨_,h1⟩ | h1
  ·exact h1
  ·exact h.sub x u h1
 pc:=by simp [En.Hc]
 bD:=by simp [En.Hc]
 fY:=by simp [En.Hc]
theorem Hf {bx:List (List DV)} (h:Env E bx w):C7 E (E.Hc w) bx 0 where
 c:=fun x u hx=>ji h hx
 fz:=fun i cs hi cA=>by
  obtain ⟨b,ty,arr,hb,hw,hc⟩:=h.dB i cs cA;refine ⟨b,arr,hb,hc,fun j u hj=>?_⟩;show nA E 0 w ⟨b,j,none⟩=some u;unfold nA;rw [if_pos ⟨i,hi,hb⟩,bN hw];simpa using hj
theorem gl {P:Program} {s:Bool} {bx:List (List DV)} (h:Env E bx w) {f:FuncId} {args aT:List DV} {vs:List Value} {y:DV} (hc:Ka s P f aT [] [] fun d _ _=>d=y) (ha:CcL bx 0 0 0 aT args) (hv:RvL E args vs) :
  Calls P f vs.toArray w fun e w'=>∃ v E2,e = .returned v/\Rv E2 y v/\l4 (fun _=>False) w w' /\ (s=true->∃ q,w'=w.drewN q):=by
 have JN:RvL (E.Hc w) aT vs:=CcL.sound (Hf h) (Ar.zero _ _) ha hv;refine (hc (E.Hc w) w vs (He h) rfl JN).mono ?_;rintro e w' ⟨v,rfl,hm,hs,d,os,E2,he,hβ,oo,hn,G2,rfl⟩;refine ⟨v,E2,rfl,G2,⟨hm.os,hm.tape,hm.output,hm.size,fun i hi _=>hm.block i hi ?_⟩,hs⟩;rintro (h1 | ⟨y,h1,_⟩)
 ·simp [En.Hc] at h1
 ·simp [En.Hc] at h1
theorem nJ {f:FuncId} {args aT:List DV} {d:Nat} {y:Value} (jh:Enters X.P f) (hc:ba X.P f aT (.v y)) (ha:CcL st.bx 0 0 0 aT args) (hd:eN X.nt st.sl (some d)=true)
  (hk:go X 4000 k ⟨(d,⟨[],.v y⟩) :: st.sl,st.bx,st.tk⟩) (aZ:X.still=false:=by exact rfl):eS X f args (some d) k st:=by
 refine ⟨jh,aZ,fun E a w vs h hv=>(gl h.env hc ha hv).mono ?_⟩;rintro e w' ⟨v,E2,rfl,hr,hm,_⟩;have hh:∀ i,i < w.heap.size->w'.heap[i]? = w.heap[i]?:=fun i hi=>hm.block i hi (fun h=>h);have bq:Rel X E st a w':=ch h (Ext.refl E) (h.env.iF hh) h.tk h.nw (h.fr.bP hm.os hm.tape hm.output hm.size fun i hi=>.inr (hh i hi)) (kX aZ) (h.bt.iF fun b hb=>hh b (h.env.aM hb));unfold Rv at hr;exact go_sound 4000 _ _ hk E _ w' (aW bq hd (.v y) v (by unfold Rv;exact hr))
end
end Dv
end Go.Proofs.YtfifjddnnmfeoaaGreat
namespace Go.Proofs.YtfifjddnnmfeoaaGreat
namespace Dv
open Go Go.RowKit
def Hg (bx:List (List DV)) (N m:Nat) (sl:List (Nat × Sl)):List (Nat × Sl)->Prop
 | []=>True
 | p :: r=>(∃ x,get sl p.1=some ⟨p.2.gs,x⟩/\Cc bx N N m p.2.s x)/\Hg bx N m sl r
theorem sL {bx:List (List DV)} {N m:Nat} {sl:List (Nat × Sl)}:∀ {l:List (Nat × Sl)},Hg bx N m sl l->∀ i x',get l i=some x' -> ∃ x,get sl i=some ⟨x'.gs,x⟩/\Cc bx N N m x'.s x
 | [],_,i,x',hx=>by cases hx
 | (k,y) :: r,h,i,x',hx=>by
  simp only [cy] at hx;split at hx
  ·rename_i gI;subst gI;simp only [oI] at hx;subst hx;exact h.1
  ·exact sL h.2 i x' hx
section
variable {X:Ctx} {E:En} {st aP:St} {a:Act} {w:World} {k:List It}
theorem Hh (h:Rel X E st a w) (N:Nat) (hN:X.n0<=N) (LR:N<=st.bx.length) (pU:jW st.bx N N st.tk.length aP.bx (st.bx.take N)) (oo:aP.tk=st.tk) (vz:Hg st.bx N st.tk.length st.sl aP.sl):∃ E',Rel X E' aP a w:=by
 obtain ⟨r,GV,Pg⟩:=h.nw.β;have hlen:E.β.length=st.bx.length:=h.env.len
 have c9:∀ (i:Nat) b,X.n0<=i->E.β[i]? = some b->b∈r:=fun i b hi hb=>by
  rw [GV,List.getElem?_append_right (by rw [X.oS];exact hi)] at hb;exact mG hb
 let E':En:=⟨nA E N w,E.β.take N,E.tk,E.τ⟩
 have DF:C7 E E' st.bx N:={
  c:=fun x u hx=>ji h.env hx
  fz:=fun i cs hi cA=>by
   obtain ⟨b,ty,arr,hb,hw,hc⟩:=h.env.dB i cs cA;refine ⟨b,arr,hb,hc,fun j u hj=>?_⟩;show nA E N w ⟨b,j,none⟩=some u;unfold nA;rw [if_pos ⟨i,hi,hb⟩,bN hw]
   simpa using hj }
 have rX:Ar E E' N st.tk.length:={
  β:=fun i b hi hb=>by show (E.β.take N)[i]? = _;rw [List.getElem?_take,if_pos hi];exact hb
  tk:=fun k hk=>⟨rfl,rfl⟩ }
 have J7:∀ (i:Nat) b,N<=i->E.β[i]? = some b->b ∉ E.β.take N:=fun i b hi hb hm=>by
  obtain ⟨j,hj⟩:=List.getElem?_of_mem hm;rw [List.getElem?_take] at hj;split at hj
  ·rename_i hjN;have:=(List.getElem?_inj (gS hb).1 h.env.inj).1 (hb.trans hj.symm);omega
  ·cases hj
 obtain ⟨gk,Mq⟩:=pU.get;refine ⟨E',?_⟩
 exact {
  env:={
   len:=by
    show (E.β.take N).length=aP.bx.length;rw [gk,List.length_take,List.length_take];omega
   tl:=h.env.tl
   dB:=fun i cs' hi=>by
    obtain ⟨cs,cA,uA⟩:=Mq i cs' hi;rw [List.getElem?_take] at cA;split at cA
    ·rename_i au;obtain ⟨b,ty,arr,hb,hw,hc⟩:=h.env.dB i cs cA;exact ⟨b,ty,arr,rX.β i b au hb,hw,CcL.sound DF rX uA hc.1,hc.2⟩
    ·cases cA
   inj:=h.env.inj.sublist (List.take_sublist _ _)
   sub:=fun x u hx=>by
    rcases dj hx with ⟨_,h1⟩ | h1
    ·exact h1
    ·exact h.env.sub x u h1
   pc:=fun x u hx hm=>by
    rcases dj hx with ⟨⟨i,hi,hb⟩,_⟩ | h1
    ·exact J7 i _ hi hb hm
    ·exact h.env.pc x u h1 (List.mem_of_mem_take hm)
   bD:=fun k q y hq hy=>by
    rcases h.env.bD k q y hq hy with h1 | ⟨g,cap,cur,rfl,h1,h2,h3,h4,h5,h6⟩
    ·exact .inl h1
    ·refine .inr ⟨g,cap,cur,rfl,h1,⟨h2.1,h2.2.mono fun _ _ hx=>ji h.env hx⟩,h3,h4,fun hm=>h5 (List.mem_of_mem_take hm),fun x u hx hg=>?_⟩;rcases dj hx with ⟨⟨i,hi,hb⟩,_⟩ | h7
     ·rw [hg] at hb;exact (h5 (mG hb)).elim
     ·exact h6 x u h7 hg
   fY:=h.env.fY }
  tk:=by rw [oo];exact h.tk
  sz:=h.sz
  tm:=fun i x' vx=>by
   obtain ⟨x,hx,uA⟩:=sL vz i x' vx;have:=h.tm i _ hx;refine ⟨fun hh=>?_,this.2⟩;obtain ⟨v,h1,h2⟩:=this.1 hh;exact ⟨v,h1,Cc.sound DF rX uA h2⟩
  df:=h.df
  nw:={
   c:=fun x u hx=>ji h.env (h.nw.c x u hx)
   cn:=fun x u hx=>by
    rcases dj hx with ⟨⟨i,hi,hb⟩,_⟩ | h1
    ·exact .inr (.inl (Pg _ (c9 i _ (by omega) hb)))
    ·exact h.nw.cn x u h1
   β:=by
    refine ⟨r.take (N - X.n0),?_,fun b hb=>Pg b (List.mem_of_mem_take hb)⟩;show E.β.take N=_;rw [GV,List.take_append,List.take_of_length_le (by rw [X.oS];omega),X.oS]
   tk:=h.nw.tk
   tn:=h.nw.tn
   l0:=h.nw.l0 }
  fr:=h.fr
  sh:=h.sh
  bt:=h.bt.sub _ }
theorem DQ {c:Code} (N:Nat) (lW:St) (hN:Nat.ble X.n0 N=true) (LR:Nat.ble N st.bx.length=true) (oo:lW.tk=st.tk) (pU:jW st.bx N N st.tk.length lW.bx (st.bx.take N)) (vz:Hg st.bx N st.tk.length st.sl lW.sl)
  (hk:od X c k lW):od X c k st:=by
 intro E a w h;obtain ⟨E',h'⟩:=Hh h N (nL hN) (nL LR) pU oo vz;exact hk E' a w h'
theorem dn {n0 m0:Nat} {st aP:St} (n:Nat) (q:TkE) (hq:q.new=true) (hn:Nat.ble n st.bx.length=true) (h3:st.tk ++ [q]=aP.tk) (h2:WeLL n st.tk.length aP.tk (st.bx.take n) aP.bx) (h4:Nat.ble n0 n=true) (h5:Nat.ble m0 st.tk.length=true)
  (h:mg n st.tk.length aP.tk st.sl aP.sl):nB n0 m0 st aP:=by
 have hl:(st.bx.take n).length=n:=by
  have:=nL hn;rw [List.length_take];omega
 exact ⟨st.tk,[],[q],st.bx.take n,st.bx.drop n,by simpa using h5,by rw [hl];simpa using h4,by simp,h3.symm,by simpa using hq,(List.take_append_drop n st.bx).symm,by rw [hl];exact h2,by rw [hl];exact h⟩
end
end Dv
end Go.Proofs.YtfifjddnnmfeoaaGreat
namespace Go.Proofs.YtfifjddnnmfeoaaGreat
namespace Dv
open Go Go.RowKit
section
variable {X:Ctx} {st:St} {k:List It} {E:En} {a:Act} {w:World}
theorem jq {f:FuncId} {rest DR cs cs':List DV} {i d:Nat} (jh:Enters X.P f) (hd:eN X.nt st.sl (some d)=true) (pU:st.bx[i]? = some cs) (cA:CcL [] 0 0 0 cs' cs) (ha:CcL [] 0 0 0 DR rest)
  {Φ:DV->List (List DV)->List TkE->Prop} (hc:Ev X.P f (.loc 0 0 :: DR) [cs'] [] Φ) (dZ:∀ r os tk,Φ r os tk->clB 0 0 r=true/\∀ nK∈os,clB.clL 0 0 nK=true)
  (hk:∀ r nK,Φ r [nK] []->go X 4000 k ⟨(d,⟨[],r⟩) :: st.sl,st.bx.set i nK,st.tk⟩) (aZ:X.still=false:=by exact rfl) (hX:X.bt=[]:=by exact rfl):eS X f (.loc i 0 :: rest) (some d) k st:=by
 refine ⟨jh,aZ,fun E a w vs h hv=>?_⟩;simp only [RvL] at hv;obtain ⟨v1,vr,rfl,h1,hvr⟩:=hv;unfold Rv at h1;obtain ⟨b,hb,rfl⟩:=h1;obtain ⟨b',ty,arr,dY,hw,uA⟩:=h.env.dB i cs pU;rw [hb] at dY;simp only [oI] at dY;subst dY;have uJ:b∈E.β:=mG hb;have Ks:=h.env.aM uJ
 let E1:En:=⟨E.c,[b],[],[]⟩
 have hx1:Ext E.cl E1:=⟨fun _ _ h=>h,fun j b hj=>by simp [En.cl] at hj,fun k q hk=>by simp [En.cl] at hk⟩;have hfz:C7 E E.cl [] 0:=⟨fun _ _ h=>h,fun i cs _ hi=>by simp at hi⟩
 have Qx:Env E1 [cs'] w:={
  len:=rfl
  tl:=rfl
  dB:=fun j ML hj=>by
   cases j with
   | succ j=>simp at hj
   | zero=>
    simp only [List.getElem?_cons_zero,oI] at hj;subst hj;refine ⟨b,ty,arr,rfl,hw,RvL.mono hx1 (CcL.sound hfz (Ar.zero _ _) cA uA.1),uA.2⟩
  inj:=by simp [E1]
  sub:=h.env.sub
  pc:=fun x v hx hm=>by
   simp only [E1,List.mem_singleton] at hm;exact h.env.pc x v hx (by rw [hm];exact uJ)
  bD:=by simp [E1]
  fY:=by simp [E1] }
 have pg:RvL E1 (.loc 0 0 :: DR) (.pointer (some ⟨b,0,none⟩) :: vr):=rvL_cons (by unfold Rv;exact ⟨b,rfl,rfl⟩) (RvL.mono hx1 (CcL.sound hfz (Ar.zero _ _) ha hvr));refine (hc E1 w _ Qx rfl pg).mono ?_;rintro e w' ⟨v,rfl,hm,_,r,os,E2,he,hβ,oo,hn,G2,hΦ⟩;have ht0:E2.tk=[]:=List.eq_nil_of_length_eq_zero oo;rw [ht0] at hΦ
 obtain ⟨nK,rfl⟩:∃ nK,os=[nK]:=by
  have:=he.len;rw [hβ] at this
  match os,this with
  | [x],_=>exact ⟨x,rfl⟩
 obtain ⟨Qy,Qz⟩:=dZ _ _ _ hΦ
 have hh:∀ j,j < w.heap.size->j≠b->w'.heap[j]? = w.heap[j]?:=fun j hj aQ=>hm.block j hj (by
  rintro (h1 | ⟨y,h1,_⟩)
  ·simp only [E1,List.mem_singleton] at h1;exact aQ h1
  ·simp [E1] at h1)
 have c9:∀ x v,E2.c x=some v->E.c x=some v∨w.heap.size<=x.block:=fun x v hx=>by
  rcases hn.cn x v hx with h1 | h1 | ⟨y,h1,_⟩
  ·exact .inl h1
  ·exact .inr h1
  ·simp [E1] at h1
 let E':En:=⟨E2.c,E.β,E.tk,E.τ⟩
 have hx:Ext E E':=⟨hn.c,fun _ _ h=>h,fun _ q h=>⟨q,h,.inl ⟨rfl,rfl⟩⟩⟩;have Gy:Ext (E2.cut 0 0) E':=⟨fun _ _ h=>h,fun j b hj=>by simp [En.cut] at hj,fun k q hk=>by simp [En.cut] at hk⟩
 have bq:Rel X E' ⟨st.sl,st.bx.set i nK,st.tk⟩ a w':=by
  refine ch h hx ?_ h.tk ?_ (h.fr.bP hm.os hm.tape hm.output hm.size fun j hj=>?_) (kX aZ) (.nil hX)
  ·exact {
    len:=by rw [List.length_set];exact h.env.len
    tl:=h.env.tl
    dB:=fun j ML hj=>by
     by_cases GR:j=i
     ·subst GR;rw [List.getElem?_set_self (gS pU).1] at hj;simp only [oI] at hj;subst hj;obtain ⟨b2,QA,Kt,lT,hw2,jY⟩:=he.dB 0 nK rfl;rw [hβ] at lT;simp only [E1,List.getElem?_cons_zero,oI] at lT;subst lT;exact ⟨b,QA,Kt,hb,hw2,RvL.mono Gy (RvL.cut jY.1 (Qz nK (by simp))),jY.2⟩
     ·rw [List.getElem?_set_ne (Ne.symm GR)] at hj;obtain ⟨bj,QB,Ku,IJ,MM,Dt⟩:=h.env.dB j ML hj
      have aQ:bj≠b:=by
       rintro rfl;exact GR ((List.getElem?_inj (gS IJ).1 h.env.inj).1 (IJ.trans hb.symm))
      exact ⟨bj,QB,Ku,IJ,by rw [hh bj (bZ MM) aQ];exact MM,Dt.mono hx⟩
    inj:=h.env.inj
    sub:=he.sub
    pc:=fun x v hc jS=>by
     rcases c9 x v hc with h1 | h1
     ·exact h.env.pc x v h1 jS
     ·have:=h.env.aM jS;omega
    bD:=fun k q y hq hy=>by
     rcases h.env.bD k q y hq hy with h1 | ⟨g',cap,cur,rfl,h1,h2,h3,h4,h5,h6⟩
     ·exact .inl h1
     ·refine .inr ⟨g',cap,cur,rfl,by rw [hh g' (bZ h1) (fun e=>h5 (by rw [e];exact uJ))];exact h1,⟨h2.1,h2.2.mono hn.c⟩,h3,h4,h5,fun x v hc hg=>?_⟩;rcases c9 x v hc with h7 | h7
      ·exact h6 x v h7 hg
      ·have:=bZ h1;omega
    fY:=h.env.fY }
  ·exact {
    c:=fun x v hc=>hn.c x v (h.nw.c x v hc)
    cn:=fun x v hc=>by
     rcases c9 x v hc with h1 | h1
     ·exact h.nw.cn x v h1
     ·have:=h.fr.size;exact .inr (.inl (by omega))
    β:=h.nw.β
    tk:=h.nw.tk
    tn:=h.nw.tn
    l0:=h.nw.l0 }
  ·by_cases JV:j=b
   ·left;obtain ⟨r0,hr0,Da⟩:=h.nw.β;rw [hr0] at uJ;rcases List.mem_append.1 uJ with uJ | uJ
    ·exact .inl (.inl (JV ▸ uJ))
    ·exact .inr (JV ▸ Da b uJ)
   ·exact .inr (hh j hj JV)
 exact go_sound 4000 _ _ (hk r nK hΦ) E' _ w' (aW bq hd r v (Rv.mono Gy (Rv.cut G2 Qy)))
end
end Dv
end Go.Proofs.YtfifjddnnmfeoaaGreat
namespace Go.Proofs.YtfifjddnnmfeoaaGreat
namespace Dv
open Go
def tt:TT:=.ai 192 ⟨1,false,.fn,[.nilFunc]⟩ (.ai 96 ⟨1,false,.fn,[.nilFunc]⟩ (.ai 45 ⟨4,true,.st [(0,3),(1,3),(2,9),(3,43)],[.int .i64 0,.int .i64 0,.string ByteArray.empty,.slice none 0 0]⟩ (.ai 22 ⟨1,false,.sl 137 3 32,[.slice none 0 0]⟩ (.ai 11 ⟨1,false,.str,[.string ByteArray.empty]⟩ (.ai 6 ⟨1,false,.int .u8,[.int .u8 0]⟩ (.ai 3 ⟨1,false,.int .i64,[.int .i64 0]⟩ (.ai 2 ⟨1,false,.int .i64,[.int .i64 0]⟩ (.ai 1 ⟨1,false,.fn,[.nilFunc]⟩ (.nil) (.nil)) (.nil)) (.ai 5 ⟨1,false,.int .u8,[.int .u8 0]⟩ (.ai 4 ⟨1,false,.bool,[.bool false]⟩ (.nil) (.nil)) (.nil))) (.ai 9 ⟨1,false,.str,[.string ByteArray.empty]⟩ (.ai 8 ⟨4,true,.st [(0,2),(1,3),(2,4),(3,6)],[.int .i64 0,.int .i64 0,.bool false,.int .u8 0]⟩ (.ai 7 ⟨4,true,.st [(0,2),(1,3),(2,4),(3,6)],[.int .i64 0,.int .i64 0,.bool false,.int .u8 0]⟩ (.nil) (.nil)) (.nil)) (.ai 10 ⟨1,false,.str,[.string ByteArray.empty]⟩ (.nil) (.nil)))) (.ai 17 ⟨1,false,.ptr 383,[.pointer none]⟩ (.ai 14 ⟨2,true,.st [(0,9),(1,12)],[.string ByteArray.empty,.int .u64 0]⟩ (.ai 13 ⟨2,true,.st [(0,9),(1,12)],[.string ByteArray.empty,.int .u64 0]⟩ (.ai 12 ⟨1,false,.int .u64,[.int .u64 0]⟩ (.nil) (.nil)) (.nil)) (.ai 16 ⟨1,false,.ptr 376,[.pointer none]⟩ (.ai 15 ⟨1,false,.ptr 373,[.pointer none]⟩ (.nil) (.nil)) (.nil))) (.ai 20 ⟨1,false,.lZ,[.nilIface]⟩ (.ai 19 ⟨1,true,.st [(0,17)],[.pointer none]⟩ (.ai 18 ⟨1,true,.st [(0,17)],[.pointer none]⟩ (.nil) (.nil)) (.nil)) (.ai 21 ⟨1,false,.int .i32,[.int .i32 0]⟩ (.nil) (.nil))))) (.ai 34 ⟨1,false,.sl 146 4 48,[.slice none 0 0]⟩ (.ai 29 ⟨1,false,.fn,[.nilFunc]⟩ (.ai 26 ⟨1,false,.fn,[.nilFunc]⟩ (.ai 25 ⟨1,false,.ptr 116,[.pointer none]⟩ (.ai 24 ⟨1,false,.fn,[.nilFunc]⟩ (.nil) (.nil)) (.nil)) (.ai 28 ⟨1,false,.sl 3 1 8,[.slice none 0 0]⟩ (.ai 27 ⟨1,false,.sl 9 1 16,[.slice none 0 0]⟩ (.nil) (.nil)) (.nil))) (.ai 32 ⟨1,false,.fn,[.nilFunc]⟩ (.ai 31 ⟨1,false,.fn,[.nilFunc]⟩ (.ai 30 ⟨1,false,.fn,[.nilFunc]⟩ (.nil) (.nil)) (.nil)) (.ai 33 ⟨1,false,.sl 38 2 24,[.slice none 0 0]⟩ (.nil) (.nil)))) (.ai 40 ⟨9,true,.st [(0,3),(1,3),(2,3),(3,3),(4,3),(5,33),(6,36),(7,38)],[.int .i64 0,.int .i64 0,.int .i64 0,.int .i64 0,.int .i64 0,.slice none 0 0,.slice none 0 0,.string ByteArray.empty,.int .i64 0]⟩ (.ai 37 ⟨2,true,.st [(0,9),(1,3)],[.string ByteArray.empty,.int .i64 0]⟩ (.ai 36 ⟨1,false,.sl 144 18 224,[.slice none 0 0]⟩ (.ai 35 ⟨1,false,.sl 109 11 136,[.slice none 0 0]⟩ (.nil) (.nil)) (.nil)) (.ai 39 ⟨9,true,.st [(0,3),(1,3),(2,3),(3,3),(4,3),(5,33),(6,36),(7,38)],[.int .i64 0,.int .i64 0,.int .i64 0,.int .i64 0,.int .i64 0,.slice none 0 0,.slice none 0 0,.string ByteArray.empty,.int .i64 0]⟩ (.ai 38 ⟨2,true,.st [(0,9),(1,3)],[.string ByteArray.empty,.int .i64 0]⟩ (.nil) (.nil)) (.nil))) (.ai 43 ⟨1,false,.sl 45 4 56,[.slice none 0 0]⟩ (.ai 42 ⟨12,true,.st [(0,33),(1,34),(2,35),(3,40)],[.slice none 0 0,.slice none 0 0,.slice none 0 0,.int .i64 0,.int .i64 0,.int .i64 0,.int .i64 0,.int .i64 0,.slice none 0 0,.slice none 0 0,.string ByteArray.empty,.int .i64 0]⟩ (.ai 41 ⟨12,true,.st [(0,33),(1,34),(2,35),(3,40)],[.slice none 0 0,.slice none 0 0,.slice none 0 0,.int .i64 0,.int .i64 0,.int .i64 0,.int .i64 0,.int .i64 0,.slice none 0 0,.slice none 0 0,.string ByteArray.empty,.int .i64 0]⟩ (.nil) (.nil)) (.nil)) (.ai 44 ⟨4,true,.st [(0,3),(1,3),(2,9),(3,43)],[.int .i64 0,.int .i64 0,.string ByteArray.empty,.slice none 0 0]⟩ (.nil) (.nil)))))) (.ai 73 ⟨1,false,.fn,[.nilFunc]⟩ (.ai 59 ⟨1,false,.fn,[.nilFunc]⟩ (.ai 52 ⟨1,false,.int .i64,[.int .i64 0]⟩ (.ai 48 ⟨6,true,.st [(0,3),(1,3),(2,3),(3,9),(4,33),(5,46)],[.int .i64 0,.int .i64 0,.int .i64 0,.string ByteArray.empty,.slice none 0 0,.slice none 0 0]⟩ (.ai 47 ⟨6,true,.st [(0,3),(1,3),(2,3),(3,9),(4,33),(5,46)],[.int .i64 0,.int .i64 0,.int .i64 0,.string ByteArray.empty,.slice none 0 0,.slice none 0 0]⟩ (.ai 46 ⟨1,false,.sl 48 6 88,[.slice none 0 0]⟩ (.nil) (.nil)) (.nil)) (.ai 51 ⟨1,false,.fn,[.nilFunc]⟩ (.ai 50 ⟨1,false,.fn,[.nilFunc]⟩ (.nil) (.nil)) (.nil))) (.ai 56 ⟨1,false,.fn,[.nilFunc]⟩ (.ai 54 ⟨2,true,.st [(0,52),(1,3)],[.int .i64 0,.int .i64 0]⟩ (.ai 53 ⟨2,true,.st [(0,52),(1,3)],[.int .i64 0,.int .i64 0]⟩ (.nil) (.nil)) (.nil)) (.ai 57 ⟨1,false,.fn,[.nilFunc]⟩ (.nil) (.nil)))) (.ai 67 ⟨1,false,.fn,[.nilFunc]⟩ (.ai 63 ⟨1,false,.fn,[.nilFunc]⟩ (.ai 61 ⟨1,false,.fn,[.nilFunc]⟩ (.ai 60 ⟨1,false,.fn,[.nilFunc]⟩ (.nil) (.nil)) (.nil)) (.ai 65 ⟨1,false,.fn,[.nilFunc]⟩ (.ai 64 ⟨1,false,.sl 22 1 24,[.slice none 0 0]⟩ (.nil) (.nil)) (.nil))) (.ai 70 ⟨1,false,.fn,[.nilFunc]⟩ (.ai 69 ⟨1,false,.fn,[.nilFunc]⟩ (.ai 68 ⟨1,false,.fn,[.nilFunc]⟩ (.nil) (.nil)) (.nil)) (.ai 72 ⟨1,false,.fn,[.nilFunc]⟩ (.nil) (.nil))))) (.ai 84 ⟨2,true,.st [(0,3),(1,3)],[.int .i64 0,.int .i64 0]⟩ (.ai 79 ⟨1,false,.fn,[.nilFunc]⟩ (.ai 76 ⟨1,false,.sl 155 7 88,[.slice none 0 0]⟩ (.ai 75 ⟨1,false,.sl 206 1 24,[.slice none 0 0]⟩ (.ai 74 ⟨1,false,.fn,[.nilFunc]⟩ (.nil) (.nil)) (.nil)) (.ai 78 ⟨4,true,.st [(0,33),(1,75),(2,76),(3,3)],[.slice none 0 0,.slice none 0 0,.slice none 0 0,.int .i64 0]⟩ (.ai 77 ⟨4,true,.st [(0,33),(1,75),(2,76),(3,3)],[.slice none 0 0,.slice none 0 0,.slice none 0 0,.int .i64 0]⟩ (.nil) (.nil)) (.nil))) (.ai 82 ⟨1,false,.fn,[.nilFunc]⟩ (.ai 81 ⟨1,false,.fn,[.nilFunc]⟩ (.ai 80 ⟨1,false,.fn,[.nilFunc]⟩ (.nil) (.nil)) (.nil)) (.ai 83 ⟨1,false,.fn,[.nilFunc]⟩ (.nil) (.nil)))) (.ai 91 ⟨1,false,.fn,[.nilFunc]⟩ (.ai 87 ⟨4,true,.st [(0,3),(1,3),(2,9),(3,86)],[.int .i64 0,.int .i64 0,.string ByteArray.empty,.slice none 0 0]⟩ (.ai 86 ⟨1,false,.sl 88 4 56,[.slice none 0 0]⟩ (.ai 85 ⟨2,true,.st [(0,3),(1,3)],[.int .i64 0,.int .i64 0]⟩ (.nil) (.nil)) (.nil)) (.ai 90 ⟨1,false,.fn,[.nilFunc]⟩ (.ai 88 ⟨4,true,.st [(0,3),(1,3),(2,9),(3,86)],[.int .i64 0,.int .i64 0,.string ByteArray.empty,.slice none 0 0]⟩ (.nil) (.nil)) (.nil))) (.ai 94 ⟨1,false,.fn,[.nilFunc]⟩ (.ai 93 ⟨1,false,.fn,[.nilFunc]⟩ (.ai 92 ⟨1,false,.fn,[.nilFunc]⟩ (.nil) (.nil)) (.nil)) (.ai 95 ⟨1,false,.ptr 182,[.pointer none]⟩ (.nil) (.nil))))))) (.ai 145 ⟨4,true,.st [(0,38),(2,38)],[.string ByteArray.empty,.int .i64 0,.string ByteArray.empty,.int .i64 0]⟩ (.ai 121 ⟨1,false,.fn,[.nilFunc]⟩ (.ai 109 ⟨11,true,.st [(0,38),(2,40)],[.string ByteArray.empty,.int .i64 0,.int .i64 0,.int .i64 0,.int .i64 0,.int .i64 0,.int .i64 0,.slice none 0 0,.slice none 0 0,.string ByteArray.empty,.int .i64 0]⟩ (.ai 103 ⟨2,true,.st [(0,3),(1,3)],[.int .i64 0,.int .i64 0]⟩ (.ai 100 ⟨7,true,.st [(0,25),(1,25),(2,28),(3,95),(4,98),(5,3),(6,22)],[.pointer none,.pointer none,.slice none 0 0,.pointer none,.map none,.int .i64 0,.slice none 0 0]⟩ (.ai 99 ⟨7,true,.st [(0,25),(1,25),(2,28),(3,95),(4,98),(5,3),(6,22)],[.pointer none,.pointer none,.slice none 0 0,.pointer none,.map none,.int .i64 0,.slice none 0 0]⟩ (.ai 97 ⟨1,false,.ptr 100,[.pointer none]⟩ (.nil) (.nil)) (.nil)) (.ai 102 ⟨2,true,.st [(0,3),(1,3)],[.int .i64 0,.int .i64 0]⟩ (.ai 101 ⟨1,false,.fn,[.nilFunc]⟩ (.nil) (.nil)) (.nil))) (.ai 107 ⟨1,false,.fn,[.nilFunc]⟩ (.ai 106 ⟨1,false,.fn,[.nilFunc]⟩ (.ai 104 ⟨1,false,.fn,[.nilFunc]⟩ (.nil) (.nil)) (.nil)) (.ai 108 ⟨11,true,.st [(0,38),(2,40)],[.string ByteArray.empty,.int .i64 0,.int .i64 0,.int .i64 0,.int .i64 0,.int .i64 0,.int .i64 0,.slice none 0 0,.slice none 0 0,.string ByteArray.empty,.int .i64 0]⟩ (.nil) (.nil)))) (.ai 116 ⟨5,true,.st [(0,95),(1,113),(2,3),(3,114),(4,28)],[.pointer none,.slice none 0 0,.int .i64 0,.pointer none,.slice none 0 0]⟩ (.ai 113 ⟨1,false,.sl 125 7 88,[.slice none 0 0]⟩ (.ai 112 ⟨1,false,.ptr 118,[.pointer none]⟩ (.ai 111 ⟨1,false,.fn,[.nilFunc]⟩ (.nil) (.nil)) (.nil)) (.ai 115 ⟨5,true,.st [(0,95),(1,113),(2,3),(3,114),(4,28)],[.pointer none,.slice none 0 0,.int .i64 0,.pointer none,.slice none 0 0]⟩ (.ai 114 ⟨1,false,.ptr 255,[.pointer none]⟩ (.nil) (.nil)) (.nil))) (.ai 119 ⟨1,false,.fn,[.nilFunc]⟩ (.ai 118 ⟨15,true,.st [(0,42),(12,95),(13,25),(14,3)],[.slice none 0 0,.slice none 0 0,.slice none 0 0,.int .i64 0,.int .i64 0,.int .i64 0,.int .i64 0,.int .i64 0,.slice none 0 0,.slice none 0 0,.string ByteArray.empty,.int .i64 0,.pointer none,.pointer none,.int .i64 0]⟩ (.ai 117 ⟨15,true,.st [(0,42),(12,95),(13,25),(14,3)],[.slice none 0 0,.slice none 0 0,.slice none 0 0,.int .i64 0,.int .i64 0,.int .i64 0,.int .i64 0,.int .i64 0,.slice none 0 0,.slice none 0 0,.string ByteArray.empty,.int .i64 0,.pointer none,.pointer none,.int .i64 0]⟩ (.nil) (.nil)) (.nil)) (.ai 120 ⟨1,false,.fn,[.nilFunc]⟩ (.nil) (.nil))))) (.ai 134 ⟨1,false,.fn,[.nilFunc]⟩ (.ai 128 ⟨1,false,.fn,[.nilFunc]⟩ (.ai 124 ⟨7,true,.st [(0,3),(1,3),(2,3),(3,3),(4,3),(5,27),(6,123)],[.int .i64 0,.int .i64 0,.int .i64 0,.int .i64 0,.int .i64 0,.slice none 0 0,.slice none 0 0]⟩ (.ai 123 ⟨1,false,.sl 176 10 88,[.slice none 0 0]⟩ (.ai 122 ⟨1,false,.fn,[.nilFunc]⟩ (.nil) (.nil)) (.nil)) (.ai 127 ⟨1,false,.fn,[.nilFunc]⟩ (.ai 125 ⟨7,true,.st [(0,3),(1,3),(2,3),(3,3),(4,3),(5,27),(6,123)],[.int .i64 0,.int .i64 0,.int .i64 0,.int .i64 0,.int .i64 0,.slice none 0 0,.slice none 0 0]⟩ (.nil) (.nil)) (.nil))) (.ai 131 ⟨1,false,.fn,[.nilFunc]⟩ (.ai 130 ⟨1,false,.fn,[.nilFunc]⟩ (.ai 129 ⟨1,false,.fn,[.nilFunc]⟩ (.nil) (.nil)) (.nil)) (.ai 133 ⟨1,false,.fn,[.nilFunc]⟩ (.nil) (.nil)))) (.ai 140 ⟨1,false,.fn,[.nilFunc]⟩ (.ai 137 ⟨3,true,.st [(0,3),(1,3),(2,9)],[.int .i64 0,.int .i64 0,.string ByteArray.empty]⟩ (.ai 136 ⟨3,true,.st [(0,3),(1,3),(2,9)],[.int .i64 0,.int .i64 0,.string ByteArray.empty]⟩ (.ai 135 ⟨1,false,.fn,[.nilFunc]⟩ (.nil) (.nil)) (.nil)) (.ai 139 ⟨1,false,.fn,[.nilFunc]⟩ (.ai 138 ⟨1,false,.fn,[.nilFunc]⟩ (.nil) (.nil)) (.nil))) (.ai 143 ⟨18,true,.st [(0,38),(2,4),(3,33),(4,3),(5,142),(9,40)],[.string ByteArray.empty,.int .i64 0,.bool false,.slice none 0 0,.int .i64 0,.int .i64 0,.int .i64 0,.int .i64 0,.slice none 0 0,.int .i64 0,.int .i64 0,.int .i64 0,.int .i64 0,.int .i64 0,.slice none 0 0,.slice none 0 0,.string ByteArray.empty,.int .i64 0]⟩ (.ai 142 ⟨4,true,.st [(0,3),(1,3),(2,3),(3,33)],[.int .i64 0,.int .i64 0,.int .i64 0,.slice none 0 0]⟩ (.ai 141 ⟨4,true,.st [(0,3),(1,3),(2,3),(3,33)],[.int .i64 0,.int .i64 0,.int .i64 0,.slice none 0 0]⟩ (.nil) (.nil)) (.nil)) (.ai 144 ⟨18,true,.st [(0,38),(2,4),(3,33),(4,3),(5,142),(9,40)],[.string ByteArray.empty,.int .i64 0,.bool false,.slice none 0 0,.int .i64 0,.int .i64 0,.int .i64 0,.int .i64 0,.slice none 0 0,.int .i64 0,.int .i64 0,.int .i64 0,.int .i64 0,.int .i64 0,.slice none 0 0,.slice none 0 0,.string ByteArray.empty,.int .i64 0]⟩ (.nil) (.nil)))))) (.ai 167 ⟨10,true,.st [(0,9),(1,4),(2,3),(3,3),(4,3),(5,3),(6,3),(7,3),(8,3),(9,3)],[.string ByteArray.empty,.bool false,.int .i64 0,.int .i64 0,.int .i64 0,.int .i64 0,.int .i64 0,.int .i64 0,.int .i64 0,.int .i64 0]⟩ (.ai 156 ⟨1,false,.fn,[.nilFunc]⟩ (.ai 151 ⟨1,false,.fn,[.nilFunc]⟩ (.ai 148 ⟨1,false,.fn,[.nilFunc]⟩ (.ai 147 ⟨1,false,.fn,[.nilFunc]⟩ (.ai 146 ⟨4,true,.st [(0,38),(2,38)],[.string ByteArray.empty,.int .i64 0,.string ByteArray.empty,.int .i64 0]⟩ (.nil) (.nil)) (.nil)) (.ai 150 ⟨1,false,.sl 40 9 112,[.slice none 0 0]⟩ (.ai 149 ⟨1,false,.fn,[.nilFunc]⟩ (.nil) (.nil)) (.nil))) (.ai 154 ⟨7,true,.st [(0,3),(1,3),(2,3),(3,3),(4,3),(5,27),(6,153)],[.int .i64 0,.int .i64 0,.int .i64 0,.int .i64 0,.int .i64 0,.slice none 0 0,.slice none 0 0]⟩ (.ai 153 ⟨1,false,.sl 168 10 88,[.slice none 0 0]⟩ (.ai 152 ⟨1,false,.fn,[.nilFunc]⟩ (.nil) (.nil)) (.nil)) (.ai 155 ⟨7,true,.st [(0,3),(1,3),(2,3),(3,3),(4,3),(5,27),(6,153)],[.int .i64 0,.int .i64 0,.int .i64 0,.int .i64 0,.int .i64 0,.slice none 0 0,.slice none 0 0]⟩ (.nil) (.nil)))) (.ai 162 ⟨1,false,.fn,[.nilFunc]⟩ (.ai 159 ⟨1,false,.sl 5 1 1,[.slice none 0 0]⟩ (.ai 158 ⟨1,false,.ptr 161,[.pointer none]⟩ (.ai 157 ⟨1,false,.fn,[.nilFunc]⟩ (.nil) (.nil)) (.nil)) (.ai 161 ⟨2,true,.st [(0,158),(1,159)],[.pointer none,.slice none 0 0]⟩ (.ai 160 ⟨2,true,.st [(0,158),(1,159)],[.pointer none,.slice none 0 0]⟩ (.nil) (.nil)) (.nil))) (.ai 165 ⟨1,false,.fn,[.nilFunc]⟩ (.ai 164 ⟨1,false,.fn,[.nilFunc]⟩ (.ai 163 ⟨1,false,.fn,[.nilFunc]⟩ (.nil) (.nil)) (.nil)) (.ai 166 ⟨1,false,.fn,[.nilFunc]⟩ (.nil) (.nil))))) (.ai 178 ⟨1,false,.ptr 260,[.pointer none]⟩ (.ai 173 ⟨1,false,.fn,[.nilFunc]⟩ (.ai 170 ⟨1,false,.fn,[.nilFunc]⟩ (.ai 169 ⟨1,false,.fn,[.nilFunc]⟩ (.ai 168 ⟨10,true,.st [(0,9),(1,4),(2,3),(3,3),(4,3),(5,3),(6,3),(7,3),(8,3),(9,3)],[.string ByteArray.empty,.bool false,.int .i64 0,.int .i64 0,.int .i64 0,.int .i64 0,.int .i64 0,.int .i64 0,.int .i64 0,.int .i64 0]⟩ (.nil) (.nil)) (.nil)) (.ai 172 ⟨1,false,.fn,[.nilFunc]⟩ (.ai 171 ⟨1,false,.fn,[.nilFunc]⟩ (.nil) (.nil)) (.nil))) (.ai 176 ⟨10,true,.st [(0,9),(1,4),(2,3),(3,3),(4,3),(5,3),(6,3),(7,3),(8,3),(9,3)],[.string ByteArray.empty,.bool false,.int .i64 0,.int .i64 0,.int .i64 0,.int .i64 0,.int .i64 0,.int .i64 0,.int .i64 0,.int .i64 0]⟩ (.ai 175 ⟨1,false,.fn,[.nilFunc]⟩ (.ai 174 ⟨1,false,.fn,[.nilFunc]⟩ (.nil) (.nil)) (.nil)) (.ai 177 ⟨1,false,.fn,[.nilFunc]⟩ (.nil) (.nil)))) (.ai 185 ⟨1,false,.fn,[.nilFunc]⟩ (.ai 181 ⟨2051,true,.st [(0,27),(1,114),(2,178),(3,180),(1027,180)],(.slice none 0 0 :: .pointer none :: .pointer none :: List.replicate 2048 (.int .i64 0))⟩ (.ai 180 ⟨1024,true,.ar 32 32,(List.replicate 1024 (.int .i64 0))⟩ (.ai 179 ⟨32,true,.ar 32 1,[.int .i64 0,.int .i64 0,.int .i64 0,.int .i64 0,.int .i64 0,.int .i64 0,.int .i64 0,.int .i64 0,.int .i64 0,.int .i64 0,.int .i64 0,.int .i64 0,.int .i64 0,.int .i64 0,.int .i64 0,.int .i64 0,.int .i64 0,.int .i64 0,.int .i64 0,.int .i64 0,.int .i64 0,.int .i64 0,.int .i64 0,.int .i64 0,.int .i64 0,.int .i64 0,.int .i64 0,.int .i64 0,.int .i64 0,.int .i64 0,.int .i64 0,.int .i64 0]⟩ (.nil) (.nil)) (.nil)) (.ai 183 ⟨1,false,.fn,[.nilFunc]⟩ (.ai 182 ⟨2051,true,.st [(0,27),(1,114),(2,178),(3,180),(1027,180)],(.slice none 0 0 :: .pointer none :: .pointer none :: List.replicate 2048 (.int .i64 0))⟩ (.nil) (.nil)) (.nil))) (.ai 189 ⟨1,false,.fn,[.nilFunc]⟩ (.ai 187 ⟨1,false,.sl 257 2 16,[.slice none 0 0]⟩ (.ai 186 ⟨1,false,.fn,[.nilFunc]⟩ (.nil) (.nil)) (.nil)) (.ai 191 ⟨1,false,.fn,[.nilFunc]⟩ (.nil) (.nil)))))))) (.ai 290 ⟨1,false,.fn,[.nilFunc]⟩ (.ai 242 ⟨1,false,.fn,[.nilFunc]⟩ (.ai 215 ⟨1,false,.lZ,[.nilIface]⟩ (.ai 204 ⟨1,false,.fn,[.nilFunc]⟩ (.ai 199 ⟨1,false,.fn,[.nilFunc]⟩ (.ai 195 ⟨1,false,.fn,[.nilFunc]⟩ (.ai 194 ⟨1,false,.fn,[.nilFunc]⟩ (.ai 193 ⟨1,false,.fn,[.nilFunc]⟩ (.nil) (.nil)) (.nil)) (.ai 198 ⟨1,false,.fn,[.nilFunc]⟩ (.ai 196 ⟨1,false,.sl 33 1 24,[.slice none 0 0]⟩ (.nil) (.nil)) (.nil))) (.ai 202 ⟨1,false,.fn,[.nilFunc]⟩ (.ai 201 ⟨1,false,.fn,[.nilFunc]⟩ (.ai 200 ⟨1,false,.fn,[.nilFunc]⟩ (.nil) (.nil)) (.nil)) (.ai 203 ⟨1,false,.fn,[.nilFunc]⟩ (.nil) (.nil)))) (.ai 210 ⟨1,false,.fn,[.nilFunc]⟩ (.ai 207 ⟨1,false,.fn,[.nilFunc]⟩ (.ai 206 ⟨1,false,.sl 4 1 1,[.slice none 0 0]⟩ (.ai 205 ⟨1,false,.fn,[.nilFunc]⟩ (.nil) (.nil)) (.nil)) (.ai 209 ⟨1,false,.fn,[.nilFunc]⟩ (.ai 208 ⟨1,false,.fn,[.nilFunc]⟩ (.nil) (.nil)) (.nil))) (.ai 213 ⟨20,true,.ar 20 1,[.int .u8 0,.int .u8 0,.int .u8 0,.int .u8 0,.int .u8 0,.int .u8 0,.int .u8 0,.int .u8 0,.int .u8 0,.int .u8 0,.int .u8 0,.int .u8 0,.int .u8 0,.int .u8 0,.int .u8 0,.int .u8 0,.int .u8 0,.int .u8 0,.int .u8 0,.int .u8 0]⟩ (.ai 212 ⟨1,false,.int .u64,[.int .u64 0]⟩ (.ai 211 ⟨1,false,.fn,[.nilFunc]⟩ (.nil) (.nil)) (.nil)) (.ai 214 ⟨1,false,.lZ,[.nilIface]⟩ (.nil) (.nil))))) (.ai 229 ⟨1,false,.fn,[.nilFunc]⟩ (.ai 224 ⟨1,false,.fn,[.nilFunc]⟩ (.ai 220 ⟨1,false,.fn,[.nilFunc]⟩ (.ai 218 ⟨1,false,.fn,[.nilFunc]⟩ (.ai 216 ⟨1,false,.fn,[.nilFunc]⟩ (.nil) (.nil)) (.nil)) (.ai 223 ⟨1,false,.fn,[.nilFunc]⟩ (.ai 221 ⟨1,false,.int .u64,[.int .u64 0]⟩ (.nil) (.nil)) (.nil))) (.ai 227 ⟨1,false,.fn,[.nilFunc]⟩ (.ai 226 ⟨1,false,.fn,[.nilFunc]⟩ (.ai 225 ⟨1,false,.fn,[.nilFunc]⟩ (.nil) (.nil)) (.nil)) (.ai 228 ⟨1,false,.fn,[.nilFunc]⟩ (.nil) (.nil)))) (.ai 236 ⟨1,false,.fn,[.nilFunc]⟩ (.ai 232 ⟨3,true,.st [(0,25),(1,95),(2,3)],[.pointer none,.pointer none,.int .i64 0]⟩ (.ai 231 ⟨3,true,.st [(0,25),(1,95),(2,3)],[.pointer none,.pointer none,.int .i64 0]⟩ (.ai 230 ⟨1,false,.fn,[.nilFunc]⟩ (.nil) (.nil)) (.nil)) (.ai 235 ⟨1,false,.fn,[.nilFunc]⟩ (.ai 234 ⟨1,false,.fn,[.nilFunc]⟩ (.nil) (.nil)) (.nil))) (.ai 240 ⟨1,false,.fn,[.nilFunc]⟩ (.ai 238 ⟨3,true,.st [(0,9),(1,9),(2,27)],[.string ByteArray.empty,.string ByteArray.empty,.slice none 0 0]⟩ (.ai 237 ⟨3,true,.st [(0,9),(1,9),(2,27)],[.string ByteArray.empty,.string ByteArray.empty,.slice none 0 0]⟩ (.nil) (.nil)) (.nil)) (.ai 241 ⟨1,false,.ptr 5,[.pointer none]⟩ (.nil) (.nil)))))) (.ai 264 ⟨1,false,.ptr 266,[.pointer none]⟩ (.ai 253 ⟨1,false,.fn,[.nilFunc]⟩ (.ai 248 ⟨1,false,.fn,[.nilFunc]⟩ (.ai 245 ⟨1,false,.fn,[.nilFunc]⟩ (.ai 244 ⟨1,false,.fn,[.nilFunc]⟩ (.ai 243 ⟨1,false,.fn,[.nilFunc]⟩ (.nil) (.nil)) (.nil)) (.ai 247 ⟨1,false,.fn,[.nilFunc]⟩ (.ai 246 ⟨1,false,.fn,[.nilFunc]⟩ (.nil) (.nil)) (.nil))) (.ai 251 ⟨1,false,.fn,[.nilFunc]⟩ (.ai 250 ⟨1,false,.fn,[.nilFunc]⟩ (.ai 249 ⟨1,false,.fn,[.nilFunc]⟩ (.nil) (.nil)) (.nil)) (.ai 252 ⟨1,false,.fn,[.nilFunc]⟩ (.nil) (.nil)))) (.ai 259 ⟨1,true,.st [(0,258)],[.slice none 0 0]⟩ (.ai 256 ⟨1,false,.fn,[.nilFunc]⟩ (.ai 255 ⟨2,true,.st [(0,27),(1,28)],[.slice none 0 0,.slice none 0 0]⟩ (.ai 254 ⟨2,true,.st [(0,27),(1,28)],[.slice none 0 0,.slice none 0 0]⟩ (.nil) (.nil)) (.nil)) (.ai 258 ⟨1,false,.sl 212 1 8,[.slice none 0 0]⟩ (.ai 257 ⟨2,true,.ar 2 1,[.int .i64 0,.int .i64 0]⟩ (.nil) (.nil)) (.nil))) (.ai 262 ⟨1,false,.fn,[.nilFunc]⟩ (.ai 261 ⟨1,false,.fn,[.nilFunc]⟩ (.ai 260 ⟨1,true,.st [(0,258)],[.slice none 0 0]⟩ (.nil) (.nil)) (.nil)) (.ai 263 ⟨1,false,.fn,[.nilFunc]⟩ (.nil) (.nil))))) (.ai 276 ⟨1,false,.fn,[.nilFunc]⟩ (.ai 270 ⟨1,false,.fn,[.nilFunc]⟩ (.ai 267 ⟨1,false,.fn,[.nilFunc]⟩ (.ai 266 ⟨1,true,.st [(0,3)],[.int .i64 0]⟩ (.ai 265 ⟨1,true,.st [(0,3)],[.int .i64 0]⟩ (.nil) (.nil)) (.nil)) (.ai 269 ⟨1,false,.fn,[.nilFunc]⟩ (.ai 268 ⟨1,false,.fn,[.nilFunc]⟩ (.nil) (.nil)) (.nil))) (.ai 274 ⟨1,false,.fn,[.nilFunc]⟩ (.ai 272 ⟨1,false,.fn,[.nilFunc]⟩ (.ai 271 ⟨1,false,.fn,[.nilFunc]⟩ (.nil) (.nil)) (.nil)) (.ai 275 ⟨1,false,.fn,[.nilFunc]⟩ (.nil) (.nil)))) (.ai 284 ⟨1,false,.fn,[.nilFunc]⟩ (.ai 280 ⟨1,false,.fn,[.nilFunc]⟩ (.ai 278 ⟨1,false,.int .u32,[.int .u32 0]⟩ (.ai 277 ⟨1,false,.fn,[.nilFunc]⟩ (.nil) (.nil)) (.nil)) (.ai 283 ⟨1,false,.fn,[.nilFunc]⟩ (.ai 282 ⟨1,false,.fn,[.nilFunc]⟩ (.nil) (.nil)) (.nil))) (.ai 287 ⟨1,false,.fn,[.nilFunc]⟩ (.ai 286 ⟨1,false,.fn,[.nilFunc]⟩ (.ai 285 ⟨1,false,.fn,[.nilFunc]⟩ (.nil) (.nil)) (.nil)) (.ai 288 ⟨1,false,.fn,[.nilFunc]⟩ (.nil) (.nil))))))) (.ai 340 ⟨1,false,.fn,[.nilFunc]⟩ (.ai 316 ⟨1,false,.fn,[.nilFunc]⟩ (.ai 304 ⟨1,false,.fn,[.nilFunc]⟩ (.ai 297 ⟨1,false,.int .u64,[.int .u64 0]⟩ (.ai 293 ⟨1,false,.fn,[.nilFunc]⟩ (.ai 292 ⟨1,false,.fn,[.nilFunc]⟩ (.ai 291 ⟨1,false,.fn,[.nilFunc]⟩ (.nil) (.nil)) (.nil)) (.ai 295 ⟨1,false,.fn,[.nilFunc]⟩ (.ai 294 ⟨1,false,.fn,[.nilFunc]⟩ (.nil) (.nil)) (.nil))) (.ai 302 ⟨1,false,.fn,[.nilFunc]⟩ (.ai 301 ⟨1,false,.fn,[.nilFunc]⟩ (.ai 300 ⟨1,false,.fn,[.nilFunc]⟩ (.nil) (.nil)) (.nil)) (.ai 303 ⟨1,false,.fn,[.nilFunc]⟩ (.nil) (.nil)))) (.ai 310 ⟨1,false,.fn,[.nilFunc]⟩ (.ai 307 ⟨1,false,.fn,[.nilFunc]⟩ (.ai 306 ⟨2,true,.st [(0,173),(1,301)],[.nilFunc,.nilFunc]⟩ (.ai 305 ⟨2,true,.st [(0,173),(1,301)],[.nilFunc,.nilFunc]⟩ (.nil) (.nil)) (.nil)) (.ai 309 ⟨1,false,.fn,[.nilFunc]⟩ (.ai 308 ⟨1,false,.fn,[.nilFunc]⟩ (.nil) (.nil)) (.nil))) (.ai 314 ⟨1,false,.fn,[.nilFunc]⟩ (.ai 313 ⟨1,false,.fn,[.nilFunc]⟩ (.ai 312 ⟨1,false,.fn,[.nilFunc]⟩ (.nil) (.nil)) (.nil)) (.ai 315 ⟨1,false,.fn,[.nilFunc]⟩ (.nil) (.nil))))) (.ai 328 ⟨1,true,.st [(0,17)],[.pointer none]⟩ (.ai 322 ⟨1,false,.fn,[.nilFunc]⟩ (.ai 319 ⟨3,true,.st [(0,54),(2,3)],[.int .i64 0,.int .i64 0,.int .i64 0]⟩ (.ai 318 ⟨1,false,.fn,[.nilFunc]⟩ (.ai 317 ⟨1,false,.sl 348 2 8,[.slice none 0 0]⟩ (.nil) (.nil)) (.nil)) (.ai 321 ⟨1,false,.fn,[.nilFunc]⟩ (.ai 320 ⟨3,true,.st [(0,54),(2,3)],[.int .i64 0,.int .i64 0,.int .i64 0]⟩ (.nil) (.nil)) (.nil))) (.ai 326 ⟨1,false,.fn,[.nilFunc]⟩ (.ai 324 ⟨1,false,.fn,[.nilFunc]⟩ (.ai 323 ⟨1,false,.fn,[.nilFunc]⟩ (.nil) (.nil)) (.nil)) (.ai 327 ⟨1,false,.fn,[.nilFunc]⟩ (.nil) (.nil)))) (.ai 335 ⟨1,false,.fn,[.nilFunc]⟩ (.ai 331 ⟨1,false,.fn,[.nilFunc]⟩ (.ai 330 ⟨1,false,.ptr 385,[.pointer none]⟩ (.ai 329 ⟨1,true,.st [(0,17)],[.pointer none]⟩ (.nil) (.nil)) (.nil)) (.ai 333 ⟨1,false,.int .i64,[.int .i64 0]⟩ (.ai 332 ⟨1,false,.fn,[.nilFunc]⟩ (.nil) (.nil)) (.nil))) (.ai 338 ⟨1,false,.fn,[.nilFunc]⟩ (.ai 337 ⟨1,false,.fn,[.nilFunc]⟩ (.ai 336 ⟨1,false,.fn,[.nilFunc]⟩ (.nil) (.nil)) (.nil)) (.ai 339 ⟨1,false,.fn,[.nilFunc]⟩ (.nil) (.nil)))))) (.ai 362 ⟨2,true,.st [(0,21),(1,21)],[.int .i32 0,.int .i32 0]⟩ (.ai 351 ⟨1,false,.fn,[.nilFunc]⟩ (.ai 346 ⟨1,false,.fn,[.nilFunc]⟩ (.ai 343 ⟨1,false,.sl 363 2 8,[.slice none 0 0]⟩ (.ai 342 ⟨1,false,.fn,[.nilFunc]⟩ (.ai 341 ⟨1,false,.fn,[.nilFunc]⟩ (.nil) (.nil)) (.nil)) (.ai 345 ⟨4,true,.ar 4 1,[.int .i64 0,.int .i64 0,.int .i64 0,.int .i64 0]⟩ (.ai 344 ⟨1,false,.fn,[.nilFunc]⟩ (.nil) (.nil)) (.nil))) (.ai 349 ⟨1,false,.fn,[.nilFunc]⟩ (.ai 348 ⟨2,true,.st [(0,21),(1,21)],[.int .i32 0,.int .i32 0]⟩ (.ai 347 ⟨2,true,.st [(0,21),(1,21)],[.int .i32 0,.int .i32 0]⟩ (.nil) (.nil)) (.nil)) (.ai 350 ⟨1,false,.fn,[.nilFunc]⟩ (.nil) (.nil)))) (.ai 357 ⟨1,false,.fn,[.nilFunc]⟩ (.ai 354 ⟨1,false,.fn,[.nilFunc]⟩ (.ai 353 ⟨1,false,.fn,[.nilFunc]⟩ (.ai 352 ⟨1,false,.fn,[.nilFunc]⟩ (.nil) (.nil)) (.nil)) (.ai 356 ⟨1,false,.fn,[.nilFunc]⟩ (.ai 355 ⟨1,false,.int .u64,[.int .u64 0]⟩ (.nil) (.nil)) (.nil))) (.ai 360 ⟨1,false,.fn,[.nilFunc]⟩ (.ai 359 ⟨1,false,.ptr 3,[.pointer none]⟩ (.ai 358 ⟨1,false,.fn,[.nilFunc]⟩ (.nil) (.nil)) (.nil)) (.ai 361 ⟨1,false,.fn,[.nilFunc]⟩ (.nil) (.nil))))) (.ai 373 ⟨4,true,.st [(0,17),(1,17),(2,17),(3,9)],[.pointer none,.pointer none,.pointer none,.string ByteArray.empty]⟩ (.ai 368 ⟨1,false,.ptr 355,[.pointer none]⟩ (.ai 365 ⟨1,false,.fn,[.nilFunc]⟩ (.ai 364 ⟨1,false,.fn,[.nilFunc]⟩ (.ai 363 ⟨2,true,.st [(0,21),(1,21)],[.int .i32 0,.int .i32 0]⟩ (.nil) (.nil)) (.nil)) (.ai 367 ⟨1,false,.fn,[.nilFunc]⟩ (.ai 366 ⟨1,false,.fn,[.nilFunc]⟩ (.nil) (.nil)) (.nil))) (.ai 371 ⟨1,false,.fn,[.nilFunc]⟩ (.ai 370 ⟨1,false,.fn,[.nilFunc]⟩ (.ai 369 ⟨1,false,.fn,[.nilFunc]⟩ (.nil) (.nil)) (.nil)) (.ai 372 ⟨4,true,.st [(0,17),(1,17),(2,17),(3,9)],[.pointer none,.pointer none,.pointer none,.string ByteArray.empty]⟩ (.nil) (.nil)))) (.ai 381 ⟨1,false,.int .i32,[.int .i32 0]⟩ (.ai 378 ⟨1,false,.int .u8,[.int .u8 0]⟩ (.ai 377 ⟨1,false,.int .u8,[.int .u8 0]⟩ (.ai 374 ⟨0,true,.ar 0 1,[]⟩ (.nil) (.nil)) (.nil)) (.ai 380 ⟨1,false,.int .i32,[.int .i32 0]⟩ (.ai 379 ⟨1,false,.fn,[.nilFunc]⟩ (.nil) (.nil)) (.nil))) (.ai 384 ⟨2,true,.st [(0,9),(1,378)],[.string ByteArray.empty,.int .u8 0]⟩ (.ai 383 ⟨11,true,.st [(0,12),(1,12),(2,278),(3,377),(4,5),(5,5),(6,378),(7,379),(8,241),(9,380),(10,381)],[.int .u64 0,.int .u64 0,.int .u32 0,.int .u8 0,.int .u8 0,.int .u8 0,.int .u8 0,.nilFunc,.pointer none,.int .i32 0,.int .i32 0]⟩ (.ai 382 ⟨11,true,.st [(0,12),(1,12),(2,278),(3,377),(4,5),(5,5),(6,378),(7,379),(8,241),(9,380),(10,381)],[.int .u64 0,.int .u64 0,.int .u32 0,.int .u8 0,.int .u8 0,.int .u8 0,.int .u8 0,.nilFunc,.pointer none,.int .i32 0,.int .i32 0]⟩ (.nil) (.nil)) (.nil)) (.ai 385 ⟨2,true,.st [(0,9),(1,378)],[.string ByteArray.empty,.int .u8 0]⟩ (.nil) (.nil))))))))
theorem tt_ok:tt.ok Tryz.prog=true:=by decide +kernel
theorem mo:Tryz.prog.follows .mixedOrders=true:=rfl
end Dv
end Go.Proofs.YtfifjddnnmfeoaaGreat
set_option maxRecDepth 100000
namespace Go.Proofs.YtfifjddnnmfeoaaGreat
open Go Go.RowKit Dv Tryz
theorem MN:Enters Tryz.prog 13:=enters_of Tryz.func13 (by decide +kernel) rfl
theorem QC:Enters Tryz.prog 14:=enters_of Tryz.func14 (by decide +kernel) rfl
theorem BM:Enters Tryz.prog 15:=enters_of Tryz.func15 (by decide +kernel) rfl
theorem MO:Enters Tryz.prog 16:=enters_of Tryz.func16 (by decide +kernel) rfl
theorem Kv:Enters Tryz.prog 17:=enters_of Tryz.func17 (by decide +kernel) rfl
theorem BN:Enters Tryz.prog 18:=enters_of Tryz.func18 (by decide +kernel) rfl
theorem yP:Enters Tryz.prog 19:=enters_of Tryz.func19 (by decide +kernel) rfl
theorem yQ:Enters Tryz.prog 20:=enters_of Tryz.func20 (by decide +kernel) rfl
theorem Kw:Enters Tryz.prog 21:=enters_of Tryz.func21 (by decide +kernel) rfl
theorem QD:Enters Tryz.prog 22:=enters_of Tryz.func22 (by decide +kernel) rfl
theorem QE:Enters Tryz.prog 23:=enters_of Tryz.func23 (by decide +kernel) rfl
theorem MP:Enters Tryz.prog 24:=enters_of Tryz.func24 (by decide +kernel) rfl
theorem MQ:Enters Tryz.prog 25:=enters_of Tryz.func25 (by decide +kernel) rfl
theorem MR:Enters Tryz.prog 41:=enters_of Tryz.func41 (by decide +kernel) rfl
theorem Kx:Enters Tryz.prog 42:=enters_of Tryz.func42 (by decide +kernel) rfl
theorem QF:Enters Tryz.prog 43:=enters_of Tryz.func43 (by decide +kernel) rfl
theorem QG:Enters Tryz.prog 44:=enters_of Tryz.func44 (by decide +kernel) rfl
theorem MS:Enters Tryz.prog 45:=enters_of Tryz.func45 (by decide +kernel) rfl
theorem MT:Enters Tryz.prog 46:=enters_of Tryz.func46 (by decide +kernel) rfl
theorem Ky:Enters Tryz.prog 47:=enters_of Tryz.func47 (by decide +kernel) rfl
theorem QH:Enters Tryz.prog 48:=enters_of Tryz.func48 (by decide +kernel) rfl
theorem QI:Enters Tryz.prog 49:=enters_of Tryz.func49 (by decide +kernel) rfl
theorem Hi:Enters Tryz.prog 50:=enters_of Tryz.func50 (by decide +kernel) rfl
theorem mB:Enters Tryz.prog 51:=enters_of Tryz.func51 (by decide +kernel) rfl
theorem QJ:Enters Tryz.prog 52:=enters_of Tryz.func52 (by decide +kernel) rfl
theorem QK:Enters Tryz.prog 53:=enters_of Tryz.func53 (by decide +kernel) rfl
theorem QL:Enters Tryz.prog 54:=enters_of Tryz.func54 (by decide +kernel) rfl
theorem QM:Enters Tryz.prog 55:=enters_of Tryz.func55 (by decide +kernel) rfl
theorem QN:Enters Tryz.prog 56:=enters_of Tryz.func56 (by decide +kernel) rfl
theorem QO:Enters Tryz.prog 57:=enters_of Tryz.func57 (by decide +kernel) rfl
theorem QP:Enters Tryz.prog 58:=enters_of Tryz.func58 (by decide +kernel) rfl
theorem QQ:Enters Tryz.prog 59:=enters_of Tryz.func59 (by decide +kernel) rfl
theorem QR:Enters Tryz.prog 60:=enters_of Tryz.func60 (by decide +kernel) rfl
theorem Hj:Enters Tryz.prog 61:=enters_of Tryz.func61 (by decide +kernel) rfl
theorem MU:Enters Tryz.prog 62:=enters_of Tryz.func62 (by decide +kernel) rfl
theorem DS:Enters Tryz.prog 63:=enters_of Tryz.func63 (by decide +kernel) rfl
theorem QS:Enters Tryz.prog 64:=enters_of Tryz.func64 (by decide +kernel) rfl
theorem MV:Enters Tryz.prog 65:=enters_of Tryz.func65 (by decide +kernel) rfl
theorem QT:Enters Tryz.prog 66:=enters_of Tryz.func66 (by decide +kernel) rfl
theorem qi:Enters Tryz.prog 93:=enters_of Tryz.func93 (by decide +kernel) rfl
theorem QU:Enters Tryz.prog 94:=enters_of Tryz.func94 (by decide +kernel) rfl
theorem MW:Enters Tryz.prog 95:=enters_of Tryz.func95 (by decide +kernel) rfl
theorem Kz:Enters Tryz.prog 96:=enters_of Tryz.func96 (by decide +kernel) rfl
theorem MX:Enters Tryz.prog 97:=enters_of Tryz.func97 (by decide +kernel) rfl
theorem QV:Enters Tryz.prog 98:=enters_of Tryz.func98 (by decide +kernel) rfl
theorem MY:Enters Tryz.prog 99:=enters_of Tryz.func99 (by decide +kernel) rfl
theorem IK:Enters Tryz.prog 100:=enters_of Tryz.func100 (by decide +kernel) rfl
theorem MZ:Enters Tryz.prog 101:=enters_of Tryz.func101 (by decide +kernel) rfl
theorem wj:Enters Tryz.prog 102:=enters_of Tryz.func102 (by decide +kernel) rfl
theorem DT:Enters Tryz.prog 103:=enters_of Tryz.func103 (by decide +kernel) rfl
theorem M0:Enters Tryz.prog 104:=enters_of Tryz.func104 (by decide +kernel) rfl
theorem IL:Enters Tryz.prog 105:=enters_of Tryz.func105 (by decide +kernel) rfl
theorem wm:Enters Tryz.prog 106:=enters_of Tryz.func106 (by decide +kernel) rfl
theorem en107:Enters Tryz.prog 107:=enters_of Tryz.func107 (by decide +kernel) rfl
theorem IM:Enters Tryz.prog 108:=enters_of Tryz.func108 (by decide +kernel) rfl
theorem M1:Enters Tryz.prog 109:=enters_of Tryz.func109 (by decide +kernel) rfl
theorem IP:Enters Tryz.prog 110:=enters_of Tryz.func110 (by decide +kernel) rfl
theorem M3:Enters Tryz.prog 111:=enters_of Tryz.func111 (by decide +kernel) rfl
theorem IQ:Enters Tryz.prog 112:=enters_of Tryz.func112 (by decide +kernel) rfl
theorem fH:Enters Tryz.prog 113:=enters_of Tryz.func113 (by decide +kernel) rfl
theorem DU:Enters Tryz.prog 114:=enters_of Tryz.func114 (by decide +kernel) rfl
theorem Az:Enters Tryz.prog 115:=enters_of Tryz.func115 (by decide +kernel) rfl
theorem sN:Enters Tryz.prog 116:=enters_of Tryz.func116 (by decide +kernel) rfl
theorem M4:Enters Tryz.prog 117:=enters_of Tryz.func117 (by decide +kernel) rfl
theorem M5:Enters Tryz.prog 118:=enters_of Tryz.func118 (by decide +kernel) rfl
theorem wo:Enters Tryz.prog 119:=enters_of Tryz.func119 (by decide +kernel) rfl
theorem IU:Enters Tryz.prog 120:=enters_of Tryz.func120 (by decide +kernel) rfl
theorem M6:Enters Tryz.prog 121:=enters_of Tryz.func121 (by decide +kernel) rfl
theorem M7:Enters Tryz.prog 138:=enters_of Tryz.func138 (by decide +kernel) rfl
theorem AA:Enters Tryz.prog 155:=enters_of Tryz.func155 (by decide +kernel) rfl
theorem AB:Enters Tryz.prog 156:=enters_of Tryz.func156 (by decide +kernel) rfl
theorem IV:Enters Tryz.prog 159:=enters_of Tryz.func159 (by decide +kernel) rfl
theorem IW:Enters Tryz.prog 160:=enters_of Tryz.func160 (by decide +kernel) rfl
theorem M8:Enters Tryz.prog 161:=enters_of Tryz.func161 (by decide +kernel) rfl
theorem DW:Enters Tryz.prog 163:=enters_of Tryz.func163 (by decide +kernel) rfl
theorem M9:Enters Tryz.prog 164:=enters_of Tryz.func164 (by decide +kernel) rfl
theorem Na:Enters Tryz.prog 165:=enters_of Tryz.func165 (by decide +kernel) rfl
theorem DX:Enters Tryz.prog 166:=enters_of Tryz.func166 (by decide +kernel) rfl
theorem DY:Enters Tryz.prog 167:=enters_of Tryz.func167 (by decide +kernel) rfl
theorem IX:Enters Tryz.prog 168:=enters_of Tryz.func168 (by decide +kernel) rfl
theorem Nb:Enters Tryz.prog 169:=enters_of Tryz.func169 (by decide +kernel) rfl
theorem Nc:Enters Tryz.prog 170:=enters_of Tryz.func170 (by decide +kernel) rfl
theorem IY:Enters Tryz.prog 171:=enters_of Tryz.func171 (by decide +kernel) rfl
theorem DZ:Enters Tryz.prog 172:=enters_of Tryz.func172 (by decide +kernel) rfl
theorem Nf:Enters Tryz.prog 173:=enters_of Tryz.func173 (by decide +kernel) rfl
theorem AD:Enters Tryz.prog 174:=enters_of Tryz.func174 (by decide +kernel) rfl
theorem Ng:Enters Tryz.prog 175:=enters_of Tryz.func175 (by decide +kernel) rfl
theorem Nh:Enters Tryz.prog 176:=enters_of Tryz.func176 (by decide +kernel) rfl
theorem IZ:Enters Tryz.prog 177:=enters_of Tryz.func177 (by decide +kernel) rfl
theorem D0:Enters Tryz.prog 195:=enters_of Tryz.func195 (by decide +kernel) rfl
theorem Ni:Enters Tryz.prog 201:=enters_of Tryz.func201 (by decide +kernel) rfl
theorem I0:Enters Tryz.prog 212:=enters_of Tryz.func212 (by decide +kernel) rfl
theorem Nj:Enters Tryz.prog 213:=enters_of Tryz.func213 (by decide +kernel) rfl
theorem cS:Enters Tryz.prog 214:=enters_of Tryz.func214 (by decide +kernel) rfl
theorem Nk:Enters Tryz.prog 215:=enters_of Tryz.func215 (by decide +kernel) rfl
theorem Nl:Enters Tryz.prog 216:=enters_of Tryz.func216 (by decide +kernel) rfl
theorem I1:Enters Tryz.prog 217:=enters_of Tryz.func217 (by decide +kernel) rfl
theorem I2:Enters Tryz.prog 218:=enters_of Tryz.func218 (by decide +kernel) rfl
theorem I3:Enters Tryz.prog 260:=enters_of Tryz.func260 (by decide +kernel) rfl
theorem Nn:Enters Tryz.prog 261:=enters_of Tryz.func261 (by decide +kernel) rfl
theorem Np:Enters Tryz.prog 262:=enters_of Tryz.func262 (by decide +kernel) rfl
theorem D1:Enters Tryz.prog 287:=enters_of Tryz.func287 (by decide +kernel) rfl
theorem wu:Enters Tryz.prog 288:=enters_of Tryz.func288 (by decide +kernel) rfl
theorem Nq:Enters Tryz.prog 289:=enters_of Tryz.func289 (by decide +kernel) rfl
theorem AE:Enters Tryz.prog 300:=enters_of Tryz.func300 (by decide +kernel) rfl
theorem Nr:Enters Tryz.prog 301:=enters_of Tryz.func301 (by decide +kernel) rfl
theorem Ns:Enters Tryz.prog 304:=enters_of Tryz.func304 (by decide +kernel) rfl
theorem I4:Enters Tryz.prog 305:=enters_of Tryz.func305 (by decide +kernel) rfl
theorem Nt:Enters Tryz.prog 306:=enters_of Tryz.func306 (by decide +kernel) rfl
end Go.Proofs.YtfifjddnnmfeoaaGreat
namespace Go.Proofs.YtfifjddnnmfeoaaGreat
open Go Go.RowKit Dv
structure Wd where
 s:ByteArray
 a:Int
structure Hd where
 ag:Int
 bp:Int
 lo:Int
 hi:Int
 most:Int
 ae:List Wd
 name:Wd
structure Ph where
 name:Wd
 bare:Bool
 label:List Wd
 wide:Int
 ck:Int
 cn:Int
 ca:Int
 cl:List Wd
mutual
inductive Ty where
 | mk (h:Hd) (ps:Pts)
inductive Pts where
 | nil
 | cons (p:Ph) (t:Ty) (r:Pts)
end
def Ty.h:Ty->Hd | .mk h _=>h
def Ty.ps:Ty->Pts | .mk _ ps=>ps
def Pts.toList:Pts->List (Ph × Ty)
 | .nil=>[]
 | .cons p t r=>(p,t) :: r.toList
def Pts.len:Pts->Nat
 | .nil=>0
 | .cons _ _ r=>r.len + 1
theorem Pts.D2:∀ ps:Pts,ps.len=ps.toList.length
 | .nil=>rfl
 | .cons _ _ r=>by simp [Pts.len,Pts.toList,Pts.D2 r]
def Wd.wt (w:Wd):Nat:=w.s.size + 64
def wdsWt:List Wd->Nat
 | []=>0
 | w :: r=>w.wt + wdsWt r
def Hd.wt (h:Hd):Nat:=256 + wdsWt h.ae + h.name.wt
def Ph.wt (p:Ph):Nat:=256 + p.name.wt + wdsWt p.label + wdsWt p.cl
mutual
def Ty.wt:Ty->Nat
 | .mk h ps=>h.wt + ps.wt
def Pts.wt:Pts->Nat
 | .nil=>0
 | .cons p t r=>p.wt + t.wt + r.wt
end
theorem cv:∀ l:List Wd,64 * l.length<=wdsWt l
 | []=>Nat.le_refl _
 | w :: r=>by have:=cv r;simp only [List.length_cons,wdsWt,Wd.wt];omega
theorem kG:∀ {l:List Wd} {w:Wd},w∈l->w.s.size + 64<=wdsWt l
 | x :: r,w,h=>by
  rcases List.mem_cons.1 h with h | h
  ·subst h;simp only [wdsWt,Wd.wt];omega
  ·have:=kG h;simp only [wdsWt];omega
theorem Pts.jr:∀ ps:Pts,256 * ps.len<=ps.wt
 | .nil=>Nat.le_refl _
 | .cons p t r=>by have:=Pts.jr r;simp only [Pts.len,Pts.wt,Ph.wt];omega
theorem Pts.ir:∀ {ps:Pts} {p:Ph} {t:Ty},(p,t)∈ps.toList->p.wt + t.wt<=ps.wt
 | .cons p t r,q,u,h=>by
  rcases List.mem_cons.1 h with h | h
  ·cases h;simp only [Pts.wt];omega
  ·have:=Pts.ir h;simp only [Pts.wt];omega
theorem Ty.cT (t:Ty):256<=t.wt:=by
 cases t;simp only [Ty.wt,Hd.wt];omega
def oY (w:Wd):List DV:=[.v (.string w.s),.v (.int .i64 w.a)]
def bJ (l:List Wd):List (List DV):=l.map oY
def Db (p:Ph) (tl:List DV):List DV:=
 .v (.string p.name.s) :: .v (.int .i64 p.name.a) :: .v (.bool p.bare) :: .sl 2 (bJ p.label) none :: .v (.int .i64 p.wide) :: .v (.int .i64 p.ck) :: .v (.int .i64 p.cn) :: .v (.int .i64 p.ca) :: .sl 2 (bJ p.cl) none :: tl
mutual
def gm:Ty->List DV
 | .mk h ps=>[.v (.int .i64 h.ag),.v (.int .i64 h.bp),.v (.int .i64 h.lo),.v (.int .i64 h.hi),.v (.int .i64 h.most),.sl 2 (bJ h.ae) none,.sl 18 (eB ps) none,.v (.string h.name.s),.v (.int .i64 h.name.a)]
def eB:Pts->List (List DV)
 | .nil=>[]
 | .cons p t r=>Db p (gm t) :: eB r
end
theorem aG (l:List Wd):(bJ l).length=l.length:=by simp [bJ]
theorem aR:∀ ps:Pts,(eB ps).length=ps.len
 | .nil=>by simp [eB,Pts.len]
 | .cons p t r=>by simp [eB,Pts.len,aR r]
theorem cJ {l:List Wd} {j:Nat} {w:Wd} (h:l[j]? = some w):(bJ l)[j]? = some (oY w):=by simp [bJ,h]
theorem BO {l:List Wd} {e:Nat} {x:Wd} (h:l[e]? = some x):bJ (l.take e) ++ [oY x]=bJ (l.take (e + 1)):=by
 rw [List.take_add_one,h];simp [bJ]
theorem dw:∀ {ps:Pts} {j:Nat} {p:Ph} {t:Ty},ps.toList[j]? = some (p,t)->(eB ps)[j]? = some (Db p (gm t))
 | .nil,j,p,t,h=>by simp [Pts.toList] at h
 | .cons q u r,0,p,t,h=>by
  simp only [Pts.toList,List.getElem?_cons_zero,oI,Prod.mk.injEq] at h;obtain ⟨rfl,rfl⟩:=h;simp [eB]
 | .cons q u r,j + 1,p,t,h=>by
  simp only [Pts.toList,List.getElem?_cons_succ] at h;simp only [eB,List.getElem?_cons_succ];exact dw h
def Pts.drop:Nat->Pts->Pts
 | 0,ps=>ps
 | _ + 1,.nil=>.nil
 | e + 1,.cons _ _ r=>r.drop e
theorem Pts.drop_cons:∀ {e:Nat} {ps:Pts} {p:Ph} {t:Ty},ps.toList[e]? = some (p,t)->ps.drop e = .cons p t (ps.drop (e + 1))
 | 0,.cons q u r,p,t,h=>by
  simp only [Pts.toList,List.getElem?_cons_zero,oI,Prod.mk.injEq] at h;obtain ⟨rfl,rfl⟩:=h;rfl
 | e + 1,.cons q u r,p,t,h=>by
  simp only [Pts.toList,List.getElem?_cons_succ] at h;simp only [Pts.drop];exact Pts.drop_cons h
 | 0,.nil,p,t,h=>by simp [Pts.toList] at h
 | e + 1,.nil,p,t,h=>by simp [Pts.toList] at h
theorem Pts.eh:∀ (ps:Pts),ps.drop ps.len = .nil
 | .nil=>rfl
 | .cons _ _ r=>by simp only [Pts.len,Pts.drop];exact Pts.eh r
theorem Pts.gP {ps:Pts} {e:Nat} (h:e < ps.len):∃ p t,ps.toList[e]? = some (p,t):=by
 rw [Pts.D2] at h;exact ⟨_,_,gE h⟩
theorem drop_cons {α:Type} {l:List α} {e:Nat} {x:α} (h:l[e]? = some x):l.drop e=x :: l.drop (e + 1):=by
 obtain ⟨h1,h2⟩:=List.getElem?_eq_some_iff.1 h;rw [<- h2];exact List.drop_eq_getElem_cons h1
def ap:ByteArray:=⟨#[]⟩
def D3:Hd:=⟨0,0,0,0,0,[],⟨ap,0⟩⟩
def bS:Ty:=.mk D3 .nil
def eC:Ph:=⟨⟨ap,0⟩,false,[],0,0,0,0,[]⟩
def eV:Ph:=⟨⟨ap,0⟩,true,[],0,0,0,0,[]⟩
theorem bA {e n:Nat} (h:e < n) (hn:n<=4611686018427387904):IntKind.i64.wrap ((e:Int) + 1)=((e + 1:Nat):Int):=by
 rw [IntWalk.i64_in _ ⟨by omega,by omega⟩];omega
theorem wrap64 {n:Int} (h1 : -9223372036854775808<=n) (h2:n<=9223372036854775807):IntKind.i64.wrap n=n:=IntWalk.i64_in n ⟨h1,h2⟩
theorem av (x a:Bool):pickB x a false=(x && a):=by cases x<;>rfl
theorem aA (x b:Bool):pickB x true b=(x || b):=by cases x<;>rfl
end Go.Proofs.YtfifjddnnmfeoaaGreat
set_option maxRecDepth 100000
namespace Go.Proofs.YtfifjddnnmfeoaaGreat
open Go Go.RowKit Dv Tryz
def isLet (c:Int):Bool:=decide (97<=c) && decide (c<=122)
def jt (c:Int):Bool:=(isLet c || (decide (48<=c) && decide (c<=57))) || decide (c=95)
def signs:List UInt8->Nat
 | []=>0
 | c :: r=>if jt c.toNat=true then signs r + 1 else 0
def fB:List UInt8->Nat
 | []=>0
 | c :: r=>if isLet c.toNat=true then signs r + 1 else 0
def bK (s:ByteArray):Bool:=decide (0 < s.size) && (decide (s.size<=32) && decide (fB s.data.toList=s.size))
theorem wv {c:Int} (h:isLet c=true):jt c=true:=by simp [jt,h]
theorem wx:∀ l:List UInt8,signs l<=l.length
 | []=>Nat.le_refl _
 | c :: r=>by
  simp only [signs,List.length_cons];split
  ·have:=wx r;omega
  ·omega
theorem qj {c:UInt8} {r:List UInt8} (h:isLet c.toNat=true):fB (c :: r)=signs (c :: r):=by
 simp [fB,signs,h,wv h]
theorem sO {s:ByteArray} {k:Nat} (h:k < s.size):∃ c:UInt8,s.data.toList.drop k=c :: s.data.toList.drop (k + 1)/\gD s k=c.toNat:=by
 have hk:k < s.data.toList.length:=by simpa using h
 refine ⟨s.data.toList[k],by rw [<- List.drop_eq_getElem_cons hk],?_⟩;simp [gD,List.getD_eq_getElem?_getD,gE hk]
theorem D4 {s:ByteArray} {k:Nat} (h:s.size<=k):s.data.toList.drop k=[]:=List.drop_eq_nil_of_le (by simpa using h)
theorem ox (c:Int):ba Tryz.prog 212 [.v (.int .u8 c)] (.v (.bool (isLet c))):=by
 refine ev_go (P:=Tryz.prog) tt tt_ok 5000 9 [.tmp 2] Tryz.func212 rfl Tryz.ntmps212 rfl (nL rfl) (fun E9 w9 hn9 hm9=>?_);exact (congrArg (fun b=>DV.v (.bool b)) (av _ _):_=_)
theorem BP (c:Int):ba Tryz.prog 213 [.v (.int .u8 c)] (.v (.bool (jt c))):=by
 refine ev_go (P:=Tryz.prog) tt tt_ok 5000 17 [.tmp 2] Tryz.func213 rfl Tryz.ntmps213 rfl (nL rfl) (fun E9 w9 hn9 hm9=>?_);refine call_p I0 (ox c) ax rfl ?_;refine (congrArg (fun b=>DV.v (.bool b)) ?_:_=_);simp only [av,aA,jt]
abbrev yR (s:ByteArray) (i e:Nat):St:=⟨[(5,⟨[],.v (.int .i64 e)⟩),(0,⟨[],.v (.string s)⟩),(1,⟨[],.v (.int .i64 i)⟩)],[],[]⟩
theorem uK (s:ByteArray) (i:Nat):s.extract i (i + 0)=⟨#[]⟩:=by
 apply ByteArray.ext;simp only [Nat.add_zero,ByteArray.extract,ByteArray.copySlice];apply Array.ext';simp
theorem BQ (s:ByteArray) (i:Nat) (hi:i < s.size) (hs:s.size<=4611686018427387904):ba Tryz.prog 171 [.v (.string s),.v (.int .i64 i)]
  (.dV [.v (.string (s.extract i (i + fB (s.data.toList.drop i)))),.v (.int .i64 ((i + fB (s.data.toList.drop i):Nat):Int))]):=by
 obtain ⟨c0,BR,gj⟩:=sO hi;refine ev_go (P:=Tryz.prog) tt tt_ok 5000 38 [.tmp 4,.tmp 5] Tryz.func171 rfl Tryz.ntmps171 rfl (nL rfl) (fun E9 w9 hn9 hm9=>?_);refine br (fun h=>?_) (fun _=>?_)
 ·simp [aA] at h;omega
 refine ⟨⟨by omega,by omega⟩,?_⟩;refine call_p I0 (ox _) ax rfl ?_;refine br (fun h=>?_) (fun h=>?_)
 ·have hl:isLet (c0.toNat:Int)=false:=by
   have:(!isLet ((gD s i:Nat):Int))=true:=h;rw [gj] at this;simpa using this
  have hn:fB (s.data.toList.drop i)=0:=by rw [BR];simp [fB,hl]
  rw [hn,uK];exact ⟨_,ax,rfl⟩
 have hl:isLet (c0.toNat:Int)=true:=by
  have:(!isLet ((gD s i:Nat):Int))=false:=h;rw [gj] at this;simpa using this
 have hn:fB (s.data.toList.drop i)=signs (s.data.toList.drop i):=by rw [BR];exact qj hl
 rw [hn]
 refine bU (fun j st=>∃ e:Nat,st=yR s i e/\e<=s.size/\i<=e/\e + signs (s.data.toList.drop e)=i + signs (s.data.toList.drop i)/\j=s.size - e)
  (s.size - i) (yR s i i) (aq ⟨_,rfl⟩ wA rfl rfl rfl wB) ⟨i,rfl,by omega,by omega,rfl,rfl⟩ ?_
 rintro j st ⟨e,rfl,he,I5,hinv,rfl⟩;refine br (fun h=>?_) (fun h=>?_)
 ·have au:e < s.size:=by simpa using h
  refine ⟨⟨by omega,by omega⟩,?_⟩;refine call_p Nj (BP _) ax rfl ?_;obtain ⟨c,hd,hb⟩:=sO au;refine br (fun h2=>?_) (fun h2=>?_)
  ·have LS:jt (c.toNat:Int)=true:=by
    have:jt ((gD s e:Nat):Int)=true:=h2
    rwa [hb] at this
   refine ⟨yR s i (e + 1),(aq ⟨_,rfl⟩ wA rfl rfl rfl (ah au)),s.size - (e + 1),by omega,e + 1,rfl,by omega,by omega,?_,rfl⟩;rw [hd] at hinv;simp only [signs,LS,if_true] at hinv;omega
  ·have LS:jt (c.toNat:Int)=false:=by
    have:jt ((gD s e:Nat):Int)=false:=h2
    rwa [hb] at this
   rw [hd] at hinv;simp only [signs,LS] at hinv;refine ⟨⟨by omega,by omega,by omega⟩,?_⟩;have:i + signs (s.data.toList.drop i)=e:=by simp at hinv;omega
   rw [this];exact ⟨_,ax,rfl⟩
 ·have bI:e=s.size:=by simp at h;omega
  rw [D4 (by omega)] at hinv;simp only [signs] at hinv;refine ⟨⟨by omega,by omega,by omega⟩,?_⟩;have:i + signs (s.data.toList.drop i)=e:=by omega
  rw [this];exact ⟨_,ax,rfl⟩
theorem take_nil (s:ByteArray) (hs:s.size=0):ba Tryz.prog 171 [.v (.string s),.v (.int .i64 0)] (.dV [.v (.string ⟨#[]⟩),.v (.int .i64 0)]):=by
 refine ev_go (P:=Tryz.prog) tt tt_ok 5000 38 [.tmp 4,.tmp 5] Tryz.func171 rfl Tryz.ntmps171 rfl (nL rfl) (fun E9 w9 hn9 hm9=>?_);refine br (fun _=>?_) (fun h=>?_)
 ·exact ⟨_,ax,rfl⟩
 ·simp [aA,hs] at h
theorem yS (l:List UInt8):fB l<=l.length:=by
 cases l with
 | nil=>exact Nat.le_refl _
 | cons c r=>
  simp only [fB,List.length_cons];split
  ·have:=wx r;omega
  ·omega
theorem wy (s:ByteArray):decide (s=⟨#[]⟩)=decide (s.size=0):=by
 rw [Bool.eq_iff_iff];simp only [decide_eq_true_eq];constructor
 ·rintro rfl;rfl
 ·intro h;apply ByteArray.ext;exact Array.eq_empty_of_size_eq_zero h
theorem gQ (s:ByteArray) (hs:s.size<=4611686018427387904):ba Tryz.prog 102 [.v (.string s)] (.v (.bool (bK s))):=by
 refine ev_go (P:=Tryz.prog) tt tt_ok 5000 22 [.tmp 2] Tryz.func102 rfl Tryz.ntmps102 rfl (nL rfl) (fun E9 w9 hn9 hm9=>?_);by_cases h0:s.size=0
 ·refine call_p IY (take_nil s h0) ax rfl ?_;refine (congrArg (fun b=>DV.v (.bool b)) ?_:_=_);simp [av,bK,wy,h0]
 ·refine call_p IY (BQ s 0 (by omega) hs) ax rfl ?_;refine (congrArg (fun b=>DV.v (.bool b)) ?_:_=_);have hl:=yS s.data.toList;simp only [Array.length_toList,ByteArray.size_data] at hl;simp only [av,bK,wy,List.drop_zero,Nat.zero_add];rw [Bool.eq_iff_iff];simp only [Bool.and_eq_true,decide_eq_true_eq,Bool.not_eq_true',decide_eq_false_iff_not];omega
def dz (l:List ByteArray):List (List DV):=l.map fun s=>[.v (.string s)]
def dInts (l:List Nat):List (List DV):=l.map fun (i:Nat)=>[.v (.int .i64 (i:Int))]
theorem bg (l:List ByteArray):(dz l).length=l.length:=by simp [dz]
theorem bG (l:List Nat):(dInts l).length=l.length:=by simp [dInts]
theorem dN {l:List ByteArray} {j:Nat} {x:ByteArray} (h:l[j]? = some x):(dz l)[j]? = some [.v (.string x)]:=by simp [dz,h]
theorem dO {l:List Nat} {j:Nat} {x:Nat} (h:l[j]? = some x):(dInts l)[j]? = some [.v (.int .i64 (x:Int))]:=by simp [dInts,h]
abbrev yT (g:Nat) (cb:List DV) (i j:Nat):St:=⟨[(1,⟨[],.fn g [] cb⟩),(5,⟨[],.v (.int .i64 i)⟩),(6,⟨[],.v (.int .i64 j)⟩)],[],[]⟩
theorem oy (g:Nat) (jh:Enters Tryz.prog g) (cb:List DV) (n m:Nat) (hn:n<=1099511627776) (hm:m<=n) (hcb:CcL [] 0 0 0 cb cb) (dZ:clB.clL 0 0 cb=true)
  (hp:∀ i:Nat,i < n->ba Tryz.prog g (.v (.int .i64 i) :: cb) (.v (.bool (decide (m<=i))))) :
  ba Tryz.prog 159 [.v (.int .i64 n),.fn g [] cb] (.v (.int .i64 m)):=by
 refine ev_go (P:=Tryz.prog) tt tt_ok 5000 26 [.tmp 4] Tryz.func159 rfl Tryz.ntmps159 rfl (nL rfl) (fun E9 w9 hn9 hm9=>?_);have yi:clB 0 0 (.fn g [] cb)=true:=by simp only [clB,Bool.and_eq_true];exact ⟨rfl,dZ⟩
 refine bU (fun j st=>∃ a b:Nat,st=yT g cb a b/\a<=m/\m<=b/\b<=n/\j=b - a) n (yT g cb 0 n) (aq ⟨_,rfl⟩ wA rfl rfl rfl (by repeat' (first | exact trivial | exact aw rfl | exact aw yi | refine ⟨⟨_,rfl,?_⟩,?_⟩))) ⟨0,n,rfl,by omega,by omega,by omega,by omega⟩ ?_;rintro j st ⟨a,b,rfl,h1,h2,h3,rfl⟩;refine br (fun h=>?_) (fun h=>?_)
 ·have au:a < b:=by simpa using h
  have KA:IntKind.i64.wrap ((IntKind.u64.wrap (IntKind.i64.wrap ((a:Int) + (b:Int)))).fdiv (2 ^ (min ((1:Int).toNat) IntKind.u64.bits)))=(((a + b) / 2:Nat):Int):=by
   rw [wrap64 (n:=(a:Int) + (b:Int)) (by omega) (by omega),IntKind.wrap_u64];have e2:(2:Int) ^ (min ((1:Int).toNat) IntKind.u64.bits)=2:=by decide
   rw [e2,Int.fdiv_eq_ediv_of_nonneg _ (by decide),wrap64 (by omega) (by omega)];omega
  refine ⟨by decide,?_⟩;refine call_p jh (hp ((a + b) / 2) (by omega)) ⟨_,_,rfl,congrArg (fun z=>DV.v (.int .i64 z)) KA,hcb⟩ rfl ?_;refine br (fun hq=>?_) (fun hq=>?_)
  ·have hq:(a + b) / 2 < m:=by simpa using hq
   have yt:=bA (e:=(a + b) / 2) (n:=n) (by omega) (by omega);rw [<- KA] at yt;refine ⟨yT g cb ((a + b) / 2 + 1) b,(aq ⟨_,rfl⟩ wA rfl rfl rfl (by repeat' (first | exact trivial | exact aw rfl | exact aw yi | exact ay yt | refine ⟨⟨_,rfl,?_⟩,?_⟩))),b - ((a + b) / 2 + 1),by omega,(a + b) / 2 + 1,b,rfl,by omega,by omega,by omega,rfl⟩
  ·have hq:m<=(a + b) / 2:=by simpa using hq
   refine ⟨yT g cb a ((a + b) / 2),(aq ⟨_,rfl⟩ wA rfl rfl rfl (by repeat' (first | exact trivial | exact aw rfl | exact aw yi | exact ay KA | refine ⟨⟨_,rfl,?_⟩,?_⟩))),(a + b) / 2 - a,by omega,a,(a + b) / 2,rfl,by omega,by omega,by omega,rfl⟩
 ·have bI:¬ a < b:=by simpa using h
  have:a=m:=by omega
  subst this;exact (rfl:_=_)
def rZ (a b:ByteArray):Bool:=Op.bytesLess a.data.toList b.data.toList
theorem iu:∀ l:List UInt8,Op.bytesLess l l=false
 | []=>rfl
 | a :: r=>by simp [Op.bytesLess,iu r]
theorem gR:∀ {a b:List UInt8},Op.bytesLess a b=true->Op.bytesLess b a=false
 | _,[],h=>by simp [Op.bytesLess] at h
 | [],b :: r,_=>rfl
 | a :: x,b :: y,h=>by
  simp only [Op.bytesLess,Bool.or_eq_true,decide_eq_true_eq,Bool.and_eq_true,beq_iff_eq] at h;simp only [Op.bytesLess,Bool.or_eq_false_iff,decide_eq_false_iff_not,Bool.and_eq_false_imp,beq_iff_eq];rcases h with h | ⟨rfl,h⟩
  ·refine ⟨fun h2=>?_,fun h2=>?_⟩
   ·exact absurd (UInt8.lt_trans h h2) (UInt8.lt_irrefl _)
   ·subst h2;exact absurd h (UInt8.lt_irrefl _)
  ·exact ⟨UInt8.lt_irrefl _,fun _=>gR h⟩
structure fg (L:List ByteArray) (aC:List Nat):Prop where
 lt:∀ (i p:Nat),aC[i]? = some p->p < L.length
 QW:∀ (i j p q:Nat) (s t:ByteArray),i < j->aC[i]? = some p->aC[j]? = some q->L[p]? = some s->L[q]? = some t->rZ s t=true
 fst:∀ (i p j:Nat) (s:ByteArray),aC[i]? = some p->L[p]? = some s->L[j]? = some s->p<=j
 all:∀ (j:Nat) (s:ByteArray),L[j]? = some s->∃ i p:Nat,aC[i]? = some p/\L[p]? = some s
abbrev cm (L:List ByteArray) (aC:List Nat):List DV:=[.sl 1 (dz L) none,.sl 1 (dInts aC) none]
theorem qk (L:List ByteArray) (aC:List Nat) (s:ByteArray) (i p:Nat) (t:ByteArray) (hi:aC[i]? = some p) (hp:L[p]? = some t) :
  ba Tryz.prog 160 [.v (.int .i64 i),.pt [.pt (cm L aC) 0] 0,.pt [.v (.string s)] 0] (.v (.bool (!rZ t s))):=by
 refine ev_go (P:=Tryz.prog) tt tt_ok 5000 20 [.tmp 4] Tryz.func160 rfl Tryz.ntmps160 rfl (nL rfl) (fun E9 w9 hn9 hm9=>?_);refine Av (fun _=>false) mo (by decide +kernel) ?_;refine ⟨_,⟨by omega,dO hi⟩,?_⟩;refine ⟨_,⟨by omega,dN hp⟩,?_⟩;exact (rfl:_=_)
theorem find_spec (L:List ByteArray) (aC:List Nat) (s:ByteArray) (q p:Nat) (hT:fg L aC) (hl:aC.length<=1099511627776) (hq:aC[q]? = some p) (hp:L[p]? = some s) :
  ba Tryz.prog 93 [.pt (cm L aC) 0,.v (.string s)] (.dV [.v (.int .i64 p),.v (.bool true)]):=by
 have hqlt:=(gS hq).1;refine ev_go (P:=Tryz.prog) tt tt_ok 5000 47 [.tmp 4,.tmp 5] Tryz.func93 rfl Tryz.ntmps93 rfl (nL rfl) (fun E9 w9 hn9 hm9=>?_)
 have dZ:∀ i:Nat,i < aC.length->ba Tryz.prog 160 [.v (.int .i64 i),.pt [.pt (cm L aC) 0] 0,.pt [.v (.string s)] 0] (.v (.bool (decide (q<=i)))):=by
  intro i hi;obtain ⟨p',mh⟩:∃ p',aC[i]? = some p':=⟨_,gE hi⟩;obtain ⟨t,ht⟩:∃ t,L[p']? = some t:=⟨_,gE (hT.lt i p' mh)⟩;have:=qk L aC s i p' t mh ht
  have e:(!rZ t s)=decide (q<=i):=by
   rcases Nat.lt_trichotomy i q with h | h | h
   ·rw [hT.QW i q p' p t s h mh hq ht hp];simp;omega
   ·subst h;rw [hq] at mh;simp only [oI] at mh;subst mh;rw [hp] at ht;simp only [oI] at ht;subst ht;rw [rZ,iu];simp
   ·have h2:=hT.QW q i p p' s t h hq mh hp ht;rw [rZ,gR h2];simp;omega
  rw [e] at this;exact this
 have hS:=oy 160 IW [.pt [.pt (cm L aC) 0] 0,.pt [.v (.string s)] 0] aC.length q hl (by omega) ax rfl dZ;refine nJ IV hS (by repeat' (first | exact rfl | exact trivial | exact Or.inr (Or.inl ⟨_,rfl⟩) | exact Or.inr ⟨_,rfl⟩ | exact Or.inl ⟨rfl,rfl⟩ | exact Or.inl rfl | refine Or.inr ⟨_,_,rfl,Nat.zero_le _,rfl,?_⟩ | refine ⟨_,_,rfl,?_,?_⟩ | refine ⟨_,rfl,?_⟩ | exact congrArg (fun z=>DV.v (.int .i64 z)) (congrArg Nat.cast (bG aC)) | refine Or.inr (Or.inr (Or.inr ⟨_,_,rfl,?_⟩)) | exact Or.inl rfl | refine Or.inr ?_)) rfl ?_;refine Av (fun _=>false) mo (by decide +kernel) ?_;refine br (fun h=>?_) (fun h=>?_)
 ·refine ⟨_,⟨by omega,dO hq⟩,?_⟩;refine ⟨_,⟨by omega,dN hp⟩,?_⟩;refine br (fun h2=>?_) (fun h2=>?_)
  ·exfalso;simp [aA,bG] at h2
  ·refine ⟨_,⟨by omega,dO hq⟩,?_⟩;exact ⟨_,ax,rfl⟩
 ·exfalso;have:decide ((q:Int)=((dInts aC).length:Int))=true:=by simpa using h
  simp [bG] at this;omega
end Go.Proofs.YtfifjddnnmfeoaaGreat
set_option maxRecDepth 100000
namespace Go.Proofs
open Go.Shelf
def Tryz.laysGg6_ren:Go.Shelf.Ren:=⟨fun | 6=>161 | 10=>207 | 11=>208 | 12=>209 | 13=>210 | 14=>211 | 24=>250 | 25=>251 | 26=>252 | 27=>253 | 28=>254 | 29=>255 | 30=>256 | 31=>257 | 32=>258 | 33=>259 | 34=>282 | 35=>283 | 36=>284 | 37=>285 | 38=>286 | 39=>299 | n=>n,fun | 20=>20 | 26=>173 | 35=>299 | 0=>0 | 37=>301 | 3=>3 | 41=>221 | 44=>306 | 49=>278 | 51=>212 | 4=>4 | 54=>334 | 53=>333 | 58=>105 | 5=>5 | 9=>9 | 60=>355 | 64=>359 | 66=>368 | 67=>49 | 17=>17 | 32=>296 | 33=>297 | 82=>383 | 12=>12 | 75=>377 | 76=>378 | 77=>379 | 78=>241 | 79=>380 | 80=>381 | n=>n,fun | n=>n⟩
theorem Tryz.laysGg6:Go.Proofs.LaysGg.n6 Tryz.prog Tryz.laysGg6_ren:={
 mixed:=by kernel_rfl
 f6:=Tryz.func161.trans (congrArg some (by kernel_rfl))
 f10:=Tryz.func207.trans (congrArg some (by kernel_rfl))
 f11:=Tryz.func208.trans (congrArg some (by kernel_rfl))
 f12:=Tryz.func209.trans (congrArg some (by kernel_rfl))
 f13:=Tryz.func210.trans (congrArg some (by kernel_rfl))
 f14:=Tryz.func211.trans (congrArg some (by kernel_rfl))
 f24:=Tryz.func250.trans (congrArg some (by kernel_rfl))
 f25:=Tryz.func251.trans (congrArg some (by kernel_rfl))
 f26:=Tryz.func252.trans (congrArg some (by kernel_rfl))
 f27:=Tryz.func253.trans (congrArg some (by kernel_rfl))
 f28:=Tryz.func254.trans (congrArg some (by kernel_rfl))
 f29:=Tryz.func255.trans (congrArg some (by kernel_rfl))
 f30:=Tryz.func256.trans (congrArg some (by kernel_rfl))
 f31:=Tryz.func257.trans (congrArg some (by kernel_rfl))
 f32:=Tryz.func258.trans (congrArg some (by kernel_rfl))
 f33:=Tryz.func259.trans (congrArg some (by kernel_rfl))
 f34:=Tryz.func282.trans (congrArg some (by kernel_rfl))
 f35:=Tryz.func283.trans (congrArg some (by kernel_rfl))
 f36:=Tryz.func284.trans (congrArg some (by kernel_rfl))
 f37:=Tryz.func285.trans (congrArg some (by kernel_rfl))
 f38:=Tryz.func286.trans (congrArg some (by kernel_rfl))
 f39:=Tryz.func299.trans (congrArg some (by kernel_rfl))
 t0:=Tryz.underlying0
 a0:=Tryz.isAgg0
 z0:=Tryz.sizeOf0
 v0:=Tryz.zeroValue0
 i0:=by kernel_rfl
 t3:=Tryz.underlying3
 a3:=Tryz.isAgg3
 z3:=Tryz.sizeOf3
 v3:=Tryz.zeroValue3
 i3:=by kernel_rfl
 t4:=Tryz.underlying4
 a4:=Tryz.isAgg4
 z4:=Tryz.sizeOf4
 v4:=Tryz.zeroValue4
 i4:=by kernel_rfl
 t5:=Tryz.underlying5
 a5:=Tryz.isAgg5
 z5:=Tryz.sizeOf5
 v5:=Tryz.zeroValue5
 i5:=by kernel_rfl
 t9:=Tryz.underlying9
 a9:=Tryz.isAgg9
 z9:=Tryz.sizeOf9
 v9:=Tryz.zeroValue9
 i9:=by kernel_rfl
 t12:=Tryz.underlying12
 a12:=Tryz.isAgg12
 z12:=Tryz.sizeOf12
 v12:=Tryz.zeroValue12
 i12:=by kernel_rfl
 t17:=Tryz.underlying17
 a17:=Tryz.isAgg17
 z17:=Tryz.sizeOf17
 v17:=Tryz.zeroValue17
 i17:=by kernel_rfl
 t20:=Tryz.underlying20
 a20:=Tryz.isAgg20
 z20:=Tryz.sizeOf20
 v20:=Tryz.zeroValue20
 i20:=by kernel_rfl
 t26:=Tryz.underlying173
 a26:=Tryz.isAgg173
 z26:=Tryz.sizeOf173
 v26:=Tryz.zeroValue173
 i26:=by kernel_rfl
 t32:=Tryz.underlying296
 a32:=Tryz.isAgg296
 z32:=Tryz.sizeOf296
 v32:=Tryz.zeroValue296
 i32:=by kernel_rfl
 t33:=Tryz.underlying297
 a33:=Tryz.isAgg297
 z33:=Tryz.sizeOf297
 v33:=Tryz.zeroValue297
 i33:=by kernel_rfl
 t35:=Tryz.underlying299
 a35:=Tryz.isAgg299
 z35:=Tryz.sizeOf299
 v35:=Tryz.zeroValue299
 i35:=by kernel_rfl
 t37:=Tryz.underlying301
 a37:=Tryz.isAgg301
 z37:=Tryz.sizeOf301
 v37:=Tryz.zeroValue301
 i37:=by kernel_rfl
 t41:=Tryz.underlying221
 a41:=Tryz.isAgg221
 z41:=Tryz.sizeOf221
 v41:=Tryz.zeroValue221
 i41:=by kernel_rfl
 t44:=Tryz.underlying306
 a44:=Tryz.isAgg306
 z44:=Tryz.sizeOf306
 v44:=Tryz.zeroValue306
 i44:=by kernel_rfl
 t49:=Tryz.underlying278
 a49:=Tryz.isAgg278
 z49:=Tryz.sizeOf278
 v49:=Tryz.zeroValue278
 i49:=by kernel_rfl
 t51:=Tryz.underlying212
 a51:=Tryz.isAgg212
 z51:=Tryz.sizeOf212
 v51:=Tryz.zeroValue212
 i51:=by kernel_rfl
 t53:=Tryz.underlying333
 a53:=Tryz.isAgg333
 z53:=Tryz.sizeOf333
 v53:=Tryz.zeroValue333
 i53:=by kernel_rfl
 t54:=Tryz.underlying334
 a54:=Tryz.isAgg334
 z54:=Tryz.sizeOf334
 v54:=Tryz.zeroValue334
 i54:=by kernel_rfl
 t58:=Tryz.underlying105
 a58:=Tryz.isAgg105
 z58:=Tryz.sizeOf105
 v58:=Tryz.zeroValue105
 i58:=by kernel_rfl
 t60:=Tryz.underlying355
 a60:=Tryz.isAgg355
 z60:=Tryz.sizeOf355
 v60:=Tryz.zeroValue355
 i60:=by kernel_rfl
 t64:=Tryz.underlying359
 a64:=Tryz.isAgg359
 z64:=Tryz.sizeOf359
 v64:=Tryz.zeroValue359
 i64:=by kernel_rfl
 t66:=Tryz.underlying368
 a66:=Tryz.isAgg368
 z66:=Tryz.sizeOf368
 v66:=Tryz.zeroValue368
 i66:=by kernel_rfl
 t67:=Tryz.underlying49
 a67:=Tryz.isAgg49
 z67:=Tryz.sizeOf49
 v67:=Tryz.zeroValue49
 i67:=by kernel_rfl
 t75:=Tryz.underlying377
 a75:=Tryz.isAgg377
 z75:=Tryz.sizeOf377
 v75:=Tryz.zeroValue377
 i75:=by kernel_rfl
 t76:=Tryz.underlying378
 a76:=Tryz.isAgg378
 z76:=Tryz.sizeOf378
 v76:=Tryz.zeroValue378
 i76:=by kernel_rfl
 t77:=Tryz.underlying379
 a77:=Tryz.isAgg379
 z77:=Tryz.sizeOf379
 v77:=Tryz.zeroValue379
 i77:=by kernel_rfl
 t78:=Tryz.underlying241
 a78:=Tryz.isAgg241
 z78:=Tryz.sizeOf241
 v78:=Tryz.zeroValue241
 i78:=by kernel_rfl
 t79:=Tryz.underlying380
 a79:=Tryz.isAgg380
 z79:=Tryz.sizeOf380
 v79:=Tryz.zeroValue380
 i79:=by kernel_rfl
 t80:=Tryz.underlying381
 a80:=Tryz.isAgg381
 z80:=Tryz.sizeOf381
 v80:=Tryz.zeroValue381
 i80:=by kernel_rfl
 t82:=Tryz.underlying383
 a82:=Tryz.isAgg383
 z82:=Tryz.sizeOf383
 v82:=Tryz.zeroValue383
 i82:=by kernel_rfl }
end Go.Proofs
namespace Go.Proofs.YtfifjddnnmfeoaaGreat
open Go Go.RowKit Go.Lib Go.Sort Tryz
noncomputable def QX:TypeInfo:=(Tryz.prog.info? 28).get (by kernel_rfl)
noncomputable def LU:TypeInfo:=(Tryz.prog.info? 3).get (by kernel_rfl)
theorem siK (n:Nat) (h2:2<=n):Lib.swapperK n LU 2=5:=by
 have a:LU.hasPointers=false:=by kernel_rfl
 have b:LU.bytes=8:=by kernel_rfl
 have c:(n == 0)=false:=by simp;omega
 have d:(n == 1)=false:=by simp;omega
 simp [Lib.swapperK,a,b,c,d]
theorem D5 {α:Type} [Inhabited α] (enc:α->Value) (h1:∀ x,(enc x).oneCell'=true) {lt:α->α->Bool} (hO:SWO lt) (lb:Array Value) (yf c:Nat) (d:Array α) (h2:2<=d.size) (cg:d.size < 4611686018427387904) (w:World)
  (D6:LessReads Tryz.prog 162 lb enc lt yf 0 d.size w) (hH:Holds enc w yf 0 d) (QY:yf < w.heap.size) :
  Calls Tryz.prog 161 #[.iface 28 (.slice (some ⟨yf,0,none⟩) d.size c),.func (.func 162) #[] lb] w fun e w'=>
   e = .returned (.tuple #[])/\∃ d' n os,PermIn 0 d.size d d' /\ SortedIn lt 0 d.size d' /\ w'=grow (putRow enc (Sort.ahead w n) yf 0 d') os:=
 Any.sort_Slice_sorted Tryz.laysGg6 28 3 QX LU (by kernel_rfl) (by kernel_rfl) (by kernel_rfl) (by kernel_rfl) 2 (fun _=>by kernel_rfl) (by kernel_rfl) (fun _=>by kernel_rfl) enc h1 lt hO 162 lb
  (enters_of Tryz.func162 (by kernel_rfl) rfl) yf 0 c d h2 cg 245 (by rw [siK _ h2];kernel_rfl) true
  (fun args W=>run_callFunc_extern Tryz.func245 (by kernel_rfl) (by kernel_rfl) (by kernel_rfl) (e:=Extern.ReflectliteSwapper.swap true) (by kernel_rfl) args W) w D6 hH QY
theorem BS (lb:Array Value) (p:Option Addr) (n c:Nat) (h1:n<=1) (w:World) :
  Calls Tryz.prog 161 #[.iface 28 (.slice p n c),.func (.func 162) #[] lb] w fun e w'=>e = .returned (.tuple #[])/\∃ os,w'=grow w os:=by
 have h:n=0∨n=1:=by omega
 rcases h with rfl | rfl
 ·exact Any.sort_Slice_tiny Tryz.laysGg6 28 3 QX LU (by kernel_rfl) (by kernel_rfl) (by kernel_rfl) (by kernel_rfl) 2 (fun _=>by kernel_rfl) p 0 c h1 241 (by kernel_rfl) _ _ _ w
 ·exact Any.sort_Slice_tiny Tryz.laysGg6 28 3 QX LU (by kernel_rfl) (by kernel_rfl) (by kernel_rfl) (by kernel_rfl) 2 (fun _=>by kernel_rfl) p 1 c h1 242 (by kernel_rfl) _ _ _ w
end Go.Proofs.YtfifjddnnmfeoaaGreat
set_option maxRecDepth 100000
namespace Go.Proofs.YtfifjddnnmfeoaaGreat
open Go Go.RowKit Dv Tryz
theorem lg:∀ {a b:List UInt8},Op.bytesLess a b=false->a=b∨Op.bytesLess b a=true
 | [],[],_=>.inl rfl
 | a :: x,[],_=>.inr rfl
 | [],b :: r,h=>by simp [Op.bytesLess] at h
 | a :: x,b :: y,h=>by
  simp only [Op.bytesLess,Bool.or_eq_false_iff,decide_eq_false_iff_not,Bool.and_eq_false_imp,beq_iff_eq] at h;simp only [Op.bytesLess,Bool.or_eq_true,decide_eq_true_eq,Bool.and_eq_true,beq_iff_eq];by_cases vC:a=b
  ·subst vC;rcases lg (h.2 rfl) with h2 | h2
   ·exact .inl (by rw [h2])
   ·exact .inr (.inr ⟨rfl,h2⟩)
  ·refine .inr (.inl ?_);rcases UInt8.lt_or_lt_of_ne vC with h3 | h3
   ·exact absurd h3 h.1
   ·exact h3
theorem ep:∀ {a b c:List UInt8},Op.bytesLess a b=true->Op.bytesLess b c=true->Op.bytesLess a c=true
 | _,[],_,h,_=>by simp [Op.bytesLess] at h
 | _,_ :: _,[],_,h=>by simp [Op.bytesLess] at h
 | [],b :: y,c :: z,_,_=>rfl
 | a :: x,b :: y,c :: z,h1,h2=>by
  simp only [Op.bytesLess,Bool.or_eq_true,decide_eq_true_eq,Bool.and_eq_true,beq_iff_eq] at h1 h2 ⊢;rcases h1 with h1 | ⟨rfl,h1⟩
  ·rcases h2 with h2 | ⟨rfl,h2⟩
   ·exact .inl (UInt8.lt_trans h1 h2)
   ·exact .inl h1
  ·rcases h2 with h2 | ⟨rfl,h2⟩
   ·exact .inl h2
   ·exact .inr ⟨rfl,ep h1 h2⟩
theorem AF {s t:ByteArray} (h:rZ s t=false):s=t∨rZ t s=true:=by
 rcases lg h with h | h
 ·exact .inl (ByteArray.ext (Array.ext' h))
 ·exact .inr h
def vD (L:List ByteArray) (p q:Nat):Bool:=
 if L.getD p ap=L.getD q ap then decide (p < q) else rZ (L.getD p ap) (L.getD q ap)
theorem Hk (L:List ByteArray):Sort.SWO (vD L):=by
 have S5:∀ x,vD L x x=false:=fun x=>by simp [vD]
 have tr:∀ x y z,vD L x y=true->vD L y z=true->vD L x z=true:=by
  intro x y z h1 h2;unfold vD at *;generalize L.getD x ap=a at *;generalize L.getD y ap=b at *;generalize L.getD z ap=c at *;by_cases vC:a=b
  ·subst vC;rw [if_pos rfl] at h1;by_cases Nu:a=c
   ·rw [if_pos Nu] at h2 ⊢;simp at h1 h2 ⊢;omega
   ·rw [if_neg Nu] at h2 ⊢;exact h2
  ·rw [if_neg vC] at h1;by_cases Nu:b=c
   ·subst Nu;rw [if_neg vC];exact h1
   ·rw [if_neg Nu] at h2
    have hac:a≠c:=by
     rintro rfl;have:=gR h1;rw [rZ,this] at h2;cases h2
    rw [if_neg hac];exact ep h1 h2
 have S6:∀ x y,vD L x y=false->x=y∨vD L y x=true:=by
  intro x y h;unfold vD at *;by_cases vC:L.getD x ap=L.getD y ap
  ·rw [if_pos vC] at h;rw [if_pos vC.symm];simp at h ⊢;omega
  ·rw [if_neg vC] at h;rw [if_neg (fun e=>vC e.symm)];rcases AF h with h | h
   ·exact absurd h vC
   ·exact .inr h
 refine ⟨S5,tr,fun x y z h1 h2=>?_⟩;rcases S6 x y h1 with rfl | h3
 ·exact h2
 ·rcases S6 y z h2 with rfl | h4
  ·exact h1
  ·cases h5:vD L x z
   ·rfl
   ·have:=tr _ _ _ (tr _ _ _ h4 h3) h5;rw [S5] at this;cases this
theorem BT (L:List ByteArray) (d:List Nat) (i j p q:Nat) (hi:d[i]? = some p) (hj:d[j]? = some q) (hp:p < L.length) (hq:q < L.length) :
  S0 Tryz.prog 162 [.v (.int .i64 i),.v (.int .i64 j),.pt [.sl 1 (dInts d) none] 0,.pt [.pt [.sl 1 (dz L) none,.v (.slice none 0 0)] 0] 0] [] [] (fun r _ _=>r = .v (.bool (vD L p q))):=by
 obtain ⟨s,hs⟩:∃ s,L[p]? = some s:=⟨_,gE hp⟩;obtain ⟨t,ht⟩:∃ t,L[q]? = some t:=⟨_,gE hq⟩
 have e:vD L p q=if s=t then decide (p < q) else rZ s t:=by
  simp [vD,List.getD_eq_getElem?_getD,hs,ht]
 refine DJ (s:=true) (P:=Tryz.prog) tt tt_ok 5000 50 [.tmp 6] Tryz.func162 rfl Tryz.ntmps162 rfl (nL rfl) (fun E9 w9 hn9 hm9=>?_);refine Av (fun _=>false) mo (by decide +kernel) ?_;refine ⟨_,⟨by omega,dO hi⟩,?_⟩;refine ⟨_,⟨by omega,dO hj⟩,?_⟩;refine Av (fun _=>false) mo (by decide +kernel) ?_;refine ⟨_,⟨by omega,dN hs⟩,?_⟩;refine ⟨_,⟨by omega,dN ht⟩,?_⟩;refine br (fun h=>?_) (fun h=>?_)
 ·have aQ:s≠t:=by simpa using h
  refine Av (fun _=>false) mo (by decide +kernel) ?_;refine ⟨_,⟨by omega,dN hs⟩,?_⟩;refine ⟨_,⟨by omega,dN ht⟩,?_⟩;refine (congrArg (fun b=>DV.v (.bool b)) ?_:_=_);rw [e,if_neg aQ];rfl
 ·have bm:s=t:=by simpa using h
  refine (congrArg (fun b=>DV.v (.bool b)) ?_:_=_);rw [e,if_pos bm];simp
abbrev D7 (p:Nat):Value:=.int .i64 (p:Int)
theorem wz {E:En}:∀ {ds:List Nat} {arr:List Value},RvL E (dInts ds).flatten arr->arr=ds.map D7
 | [],arr,h=>by simpa [dInts,RvL] using h
 | x :: r,arr,h=>by
  simp only [dInts,List.map_cons,List.flatten_cons,List.cons_append,List.nil_append,RvL] at h;obtain ⟨v,s,rfl,h1,h2⟩:=h;unfold Rv at h1;rw [h1.1,wz (ds:=r) h2];rfl
theorem ql {E:En}:∀ ds:List Nat,RvC E (dInts ds).flatten (ds.map D7)
 | []=>⟨bM E,by simp⟩
 | x :: r=>by
  have ih:=ql (E:=E) r;refine ⟨?_,?_⟩
  ·simp only [dInts,List.map_cons,List.flatten_cons,List.cons_append,List.nil_append];exact rvL_cons (ee rfl) ih.1
  ·intro v hv;simp only [List.map_cons,List.mem_cons] at hv;rcases hv with rfl | hv
   ·rfl
   ·exact ih.2 v hv
theorem Nv {m:Nat}:∀ ds:List Nat,(∀ p∈ds,p < m + 1)->∃ D:List (Fin (m + 1)),D.map (·.val)=ds
 | [],_=>⟨[],rfl⟩
 | x :: r,h=>by
  obtain ⟨D,hD⟩:=Nv r fun p hp=>h p (List.mem_cons_of_mem _ hp);exact ⟨⟨x,h x (by simp)⟩ :: D,by simp [hD]⟩
theorem qm {α:Type} [Inhabited α] (enc:α->Value) (w:World) (b n:Nat) (dk:Array α) (os:Array Obj) (arr:List Value) (ty:TypeId) (hw:w.heap[b]? = some (.cells arr.toArray ty (0,0))) (hl:arr.length=dk.size) :
  ∀ k,k < w.heap.size->(Sort.grow (Sort.putRow enc (Sort.ahead w n) b 0 dk) os).heap[k]? = (World.cL w b (.cells (dk.toList.map enc).toArray ty (0,0))).heap[k]?:=by
 intro k hk;simp only [Sort.grow,Sort.putRow,Sort.mapBlock,Sort.ahead];rw [Array.getElem?_append_left (by simpa using hk),Array.getElem?_modify];by_cases QZ:b=k
 ·subst QZ;rw [if_pos rfl,hw,fF hw];simp only [Option.map_some,Sort.onCells,oI,Obj.cells.injEq,and_true];apply Array.ext_getElem?;intro j;simp only [Sort.putCells,Array.getElem?_mapIdx];rcases Nat.lt_or_ge j dk.size with hj | hj
  ·have h1:j < arr.length:=by omega
   simp [h1,hj]
  ·have h1:arr.length<=j:=by omega
   simp [h1,hj]
 ·rw [if_neg QZ,cf (Ne.symm QZ)]
theorem D8 {α:Type} {l:List α} {i:Nat} {x:α} (h:l[i]? = some x):l.set i x=l:=by
 apply List.ext_getElem?;intro j;by_cases hj:j=i
 ·subst hj;rw [List.getElem?_set_self (gS h).1,h]
 ·rw [List.getElem?_set_ne (Ne.symm hj)]
theorem BU {X:Ctx} {st:St} {k:List It} (hP:X.P=Tryz.prog) {i c len:Nat} {ds:List Nat} (hlen:len=ds.length) {Q0:List DV} {d:Nat} (N:Nat) (hN:∀ p∈ds,p < N) (lt:Nat->Nat->Bool) (hO:Sort.SWO lt)
  (pU:st.bx[i]? = some (dInts ds).flatten) (hn:ds.length<=1099511627776) (S7:List Nat->List DV) (Hl:∀ dk:List Nat,dk.length=ds.length->CcL (st.bx.set i (dInts dk).flatten) 0 0 0 (S7 dk) Q0)
  (D6:∀ dk:List Nat,dk.length=ds.length->(∀ p∈dk,p < N)->∀ i j p q:Nat,dk[i]? = some p->dk[j]? = some q->S0 Tryz.prog 162 (.v (.int .i64 i) :: .v (.int .i64 j) :: S7 dk) [] [] (fun r _ _=>r = .v (.bool (lt p q))))
  (hd:eN X.nt st.sl (some d)=true)
  (hk:∀ KB:List Nat,KB.Perm ds->(∀ i j p q:Nat,i < j->KB[i]? = some p->KB[j]? = some q->lt q p=false)->go X 4000 k ⟨(d,⟨[],.dV []⟩) :: st.sl,st.bx.set i (dInts KB).flatten,st.tk⟩)
  (aZ:X.still=false:=by exact rfl) (hX:X.bt=[]:=by exact rfl):eS X 161 [.lZ 28 (.ms i 1 0 len c),.fn 162 [] Q0] (some d) k st:=by
 subst hlen;refine ⟨?_,aZ,fun E a w vs h hv=>?_⟩
 ·rw [hP];exact M8
 rw [hP];simp only [RvL] at hv;obtain ⟨v1,_,rfl,h1,v2,_,rfl,h2,rfl⟩:=hv;unfold Rv at h1;obtain ⟨z,rfl,h1⟩:=h1;unfold Rv at h1;obtain ⟨b,ad,hb,LM,rfl,hca⟩:=h1;unfold Rv at h2;obtain ⟨l,r,rfl,hl,hr⟩:=h2;simp only [RvL] at hl;subst hl;obtain ⟨b',ty,arr,dY,hw,uA⟩:=h.env.dB i _ pU;rw [hb] at dY;simp only [oI] at dY;subst dY;have D9:=wz uA.1;have Ks:=bZ hw;by_cases h1:ds.length<=1
 ·refine (BS r.toArray ad ds.length c h1 w).mono ?_;rintro e w' ⟨rfl,os,rfl⟩
  have hh:∀ j,j < w.heap.size->(Sort.grow w os).heap[j]? = w.heap[j]?:=fun j hj=>by
   simp only [Sort.grow];rw [Array.getElem?_append_left hj]
  have bq:Rel X E st a (Sort.grow w os):=ch h (Ext.refl E) (h.env.iF hh) h.tk h.nw (h.fr.bP rfl rfl rfl (by simp [Sort.grow]) fun j hj=>.inr (hh j hj)) (kX aZ) (.nil hX);have DP:=hk ds (List.Perm.refl _) (fun i j p q gv _ hj=>by have:=(gS hj).1;omega);rw [D8 pU] at DP;exact go_sound 4000 _ _ DP E _ _ (aW bq hd (.dV []) (.tuple #[]) (by unfold Rv;exact ⟨[],rfl,bM E⟩))
 ·have h2:2<=ds.length:=by omega
  have Mk:=hca (by omega);subst Mk
  obtain ⟨m,rfl⟩:∃ m,N=m + 1:=by
   cases Pd:ds with
   | nil=>rw [Pd] at h2;simp at h2
   | cons x r=>have:=hN x (by rw [Pd];simp);exact ⟨N - 1,by omega⟩
  obtain ⟨D,hD⟩:=Nv ds hN;have I6:D.length=ds.length:=by rw [<- hD];simp
  let enc:Fin (m + 1)->Value:=fun x=>D7 x.val
  have hO':Sort.SWO (fun x y:Fin (m + 1)=>lt x.val y.val):=⟨fun x=>hO.irrefl _,fun x y z=>hO.trans _ _ _,fun x y z=>hO.ntrans _ _ _⟩;have Nx:∀ l:List (Fin (m + 1)),l.map enc=(l.map (·.val)).map D7:=fun l=>by simp [enc]
  have hS:=D5 enc (fun _=>rfl) hO' r.toArray b c D.toArray (by simpa [I6] using h2) (by simp [I6];omega) w ?_ ?_ Ks
  ·simp only [List.size_toArray,I6] at hS;refine hS.mono ?_;rintro e w' ⟨rfl,d',n,os,hp,hs,rfl⟩;have cg:d'.size=ds.length:=by have:=hp.1;simpa [I6] using this
   have lh:(d'.toList.map (·.val)).Perm ds:=by
    have h3:=hp.2.2;have e1:d'.extract 0 ds.length=d':=Array.extract_eq_self_of_le (by omega);have e2:D.toArray.extract 0 ds.length=D.toArray:=Array.extract_eq_self_of_le (by simp [I6]);rw [e1,e2] at h3;rw [<- hD];exact h3.map _
   have BV:∀ i j p q:Nat,i < j->(d'.toList.map (·.val))[i]? = some p->(d'.toList.map (·.val))[j]? = some q->lt q p=false:=by
    intro i j p q gv hi hj;have rR:j < d'.size:=by have:=(gS hj).1;simpa using this
    have h3:=hs i j (Nat.zero_le _) gv (by omega);rw [getElem!_pos d' j rR,getElem!_pos d' i (by omega)] at h3;have Ny:i < d'.size:=by omega
    simp [Ny] at hi;simp [rR] at hj;rw [<- hi,<- hj];exact h3
   have hh:=qm enc w b n d' os arr ty hw (by rw [D9];simp [cg]);have de:=ny (ty:=ty) h aZ hb (cs':=(dInts (d'.toList.map (·.val))).flatten) (arr':=(d'.toList.map (·.val)).map D7) (ql _) ⟨_,hw⟩;rw [<- Nx] at de;have pD:(Sort.grow (Sort.putRow enc (Sort.ahead w n) b 0 d') os).heap.size=w.heap.size + os.size:=by simp [Sort.grow,Sort.putRow,Sort.mapBlock,Sort.ahead]
   have bq:=ch de (Ext.refl E) (w':=Sort.grow (Sort.putRow enc (Sort.ahead w n) b 0 d') os) (de.env.iF fun j hj=>hh j (by rwa [eH] at hj)) de.tk de.nw
    (de.fr.bP rfl rfl rfl (by rw [eH,pD];omega) fun j hj=>.inr (hh j (by rwa [eH] at hj))) (kX aZ) (.nil hX)
   exact go_sound 4000 _ _ (hk _ lh BV) E _ _ (aW bq hd (.dV []) (.tuple #[]) (by unfold Rv;exact ⟨[],rfl,bM E⟩))
  ·intro mm os dk hs i' j' hi hj;have cg:dk.size=ds.length:=by simpa [I6] using hs
   have hh:=qm enc w b mm dk os arr ty hw (by rw [D9];simp [cg]);have hE:=h.env.set hb Ks (ty:=ty) (ql (E:=E) (dk.toList.map (·.val)));rw [<- Nx] at hE;have hE':=hE.iF (w':=Go.Proofs.sortWorld enc w b 0 mm dk os) fun j hj=>hh j (by rwa [eH] at hj);have Ny:i' < dk.size:=by rw [cg,<- I6];simpa using hi
   have rR:j' < dk.size:=by rw [cg,<- I6];simpa using hj
   have S8:(dk.toList.map (·.val)).length=ds.length:=by simpa using cg
   have hc:=D6 (dk.toList.map (·.val)) S8 (fun p hp=>by
    obtain ⟨x,_,rfl⟩:=List.mem_map.1 hp
    exact x.isLt) i' j' (dk[i']!).val (dk[j']!).val (by rw [getElem!_pos dk i' Ny];simp [Ny]) (by rw [getElem!_pos dk j' rR];simp [rR])
   have hv:RvL E (.v (.int .i64 (i':Int)) :: .v (.int .i64 (j':Int)) :: Q0) (.int .i64 (i':Int) :: .int .i64 (j':Int) :: r):=rvL_cons (ee rfl) (rvL_cons (ee rfl) hr);have hb:=gl hE' hc ⟨_,_,rfl,rfl,_,_,rfl,rfl,Hl _ S8⟩ hv;have hargs:(#[Value.int .i64 (i':Int),Value.int .i64 (j':Int)] ++ r.toArray)=(Value.int .i64 (i':Int) :: Value.int .i64 (j':Int) :: r).toArray:=by simp
   rw [hargs];refine hb.mono ?_;rintro e w' ⟨v,E2,rfl,I7,_,Gq⟩;have:=bo I7;subst this;exact ⟨rfl,Gq rfl⟩
  ·intro j hj;have rR:j < D.length:=by simpa using hj
   rw [bN hw,Nat.zero_add,D9];refine ⟨?_,?_⟩
   ·rw [getElem!_pos D.toArray j hj,<- hD];simp [rR,enc]
   ·simp [World.frozen?,hw]
end Go.Proofs.YtfifjddnnmfeoaaGreat
