/- Part 2 of the proof: The evaluator 'go' is sound: the end of a call, the theorem; contracts; rules for branches, calls, loops; Rules for the evaluator: what is known made less, loops; A region that draws its order: where the operations with an effect are ordered among themselves, and what writes waits for all that reads, one run in the order of the text serves every order; The evaluator at regions that draw their order: one run in the order of the text; what is read is what was known at the region's beginning; A region that draws its order, in which two operations with an effect are not ordered: the run in either order of these two serves every order; Rules for the evaluator: a call that is handed the caller's own objects, to read them; Rules for the evaluator: objects that are written no more are frozen, ahead of a loop; Rules for the evaluator: a call that is handed one of the caller's objects, to write it; The table of this program's types, by which the evaluator goes; The program's functions are entered; The data of the document's types, plain, and as the evaluator has them; Names: the program's and the reference's functions say the same of a text; sort.Search; the program's table of texts: Find; The library's sort.Slice, laid at this program by the kit's tool (lay-plain; wip/tools/lay.sh); The order of the table; the closure handed to sort.Slice; sort.Slice of the table's places, at a call; names.New: the table; names.Twice: does a text stand earlier, too?; Contracts: the reference's words, Plain, Same, Zero, own; Contracts: the reference's Same, Zero, own. No condition. -/
import Derived.Scope
import Derived.Test.YtfdedoiiahbnnaaGreatProg
import Derived.Shelf.GgSortFunc.Whole
import Derived.Shelf.GgSortFunc.Tiny
import Derived.Test.YtfdedoiiahbnnaaGreatNc1
set_option linter.all false
namespace Go.Proofs.YtfdedoiiahbnnaaGreat
namespace Dv
open Go Go.RowKit
structure Dc (E E':En) (bx:List (List DV)) (N:Nat):Prop where
 c:∀ a v,E.c a=some v->E'.c a=some v
 fz:∀ (i:Nat) cs,N<=i->bx[i]? = some cs->∃ b arr,E.β[i]? = some b/\RvC E cs arr/\∀ (j:Nat) u,arr[j]? = some u->E'.c ⟨b,j,none⟩=some u
theorem Dc.cl {E E':En} {bx:List (List DV)} {N:Nat} (h:Dc E E' bx N):Dc E E'.cl bx N:=⟨h.c,h.fz⟩
structure Al (E E':En) (n0 m0:Nat):Prop where
 β:∀ (i:Nat) b,i < n0->E.β[i]? = some b->E'.β[i]? = some b
 tk:∀ k,k < m0->E'.tk[k]? = E.tk[k]? /\ E'.τ[k]? = E.τ[k]?
theorem Al.zero (E E':En):Al E E' 0 0:=⟨fun _ _ h=>absurd h (Nat.not_lt_zero _),fun _ h=>absurd h (Nat.not_lt_zero _)⟩
theorem Ext.Am (E:En):Ext E.cl E:=⟨fun _ _ h=>h,fun j b hj=>by simp [En.cl] at hj,fun k q hk=>by simp [En.cl] at hk⟩
theorem vG {E E':En} (hm:∀ e b o es,RvEs E.cl e b o es->RvEs E'.cl e b o es):∀ {l:List DV} {arr:List Value},(∀ x∈l,(∃ y,x = .v y)∨∃ e' u1,x = .sl e' u1 none)->RvL E l arr->RvL E' l arr
 | [],arr,_,h=>by simp only [RvL] at h ⊢;exact h
 | d :: r,arr,hs,h=>by
  simp only [RvL] at h ⊢;obtain ⟨v,s,rfl,h1,h2⟩:=h;refine ⟨v,s,rfl,?_,vG hm (fun x hx=>hs x (dn _ hx)) h2⟩;rcases hs d (by simp) with ⟨y,rfl⟩ | ⟨e',u1,rfl⟩
  ·unfold Rv at h1 ⊢;exact h1
  ·unfold Rv at h1 ⊢;obtain ⟨b,n,cap,h3,h4,h5,_⟩:=h1;exact ⟨b,n,cap,h3,h4,fun hn=>⟨(h5 hn).1,hm _ _ _ _ (h5 hn).2⟩,fun k hk=>by cases hk⟩
theorem CcL.length {bx:List (List DV)} {N n0 m0:Nat}:∀ {l' l:List DV},CcL bx N n0 m0 l' l->l'.length=l.length
 | [],l,h=>by simp only [CcL] at h;subst h;rfl
 | d' :: r',l,h=>by
  simp only [CcL] at h;obtain ⟨d,r,rfl,_,h2⟩:=h;simp [CcL.length h2]
theorem CcE.length {bx:List (List DV)} {N:Nat}:∀ {l' l:List (List DV)},CcE bx N l' l->l'.length=l.length
 | [],l,h=>by simp only [CcE] at h;subst h;rfl
 | d' :: r',l,h=>by
  simp only [CcE] at h;obtain ⟨d,r,rfl,_,h2⟩:=h;simp [CcE.length h2]
mutual
theorem Cc.sound {bx:List (List DV)} {N:Nat} {E:En}:∀ {d':DV} {E':En} {n0 m0:Nat} {d:DV} {v:Value},Dc E E' bx N->Al E E' n0 m0->Cc bx N n0 m0 d' d->Rv E d v->Rv E' d' v
 | .v y,E',n0,m0,d,v,hf,hl,h,hv=>by grind [Cc,Rv]
 | .ud,E',n0,m0,d,v,hf,hl,h,hv=>by grind [Cc,Rv]
 | .agg l',E',n0,m0,d,v,hf,hl,h,hv=>by
  simp only [Cc] at h;obtain ⟨l,rfl,h⟩:=h;unfold Rv at hv ⊢;obtain ⟨vs,h1,h2,h3⟩:=hv;exact ⟨vs,h1,CcL.sound hf hl h h2,h3⟩
 | .cj l',E',n0,m0,d,v,hf,hl,h,hv=>by
  simp only [Cc] at h;obtain ⟨l,rfl,h⟩:=h;unfold Rv at hv ⊢;obtain ⟨vs,h1,h2⟩:=hv;exact ⟨vs,h1,CcL.sound hf hl h h2⟩
 | .sl e es tk,E',n0,m0,d,v,hf,hl,h,hv=>by
  have hm:∀ b o,RvEs E.cl e b o es->RvEs E'.cl e b o es:=fun b o hr=>RvEs.mono (Ext.Ad hf.c) hr
  cases tk with
  | none=>
   simp only [Cc] at h;rcases h with ⟨rfl,rfl⟩ | ⟨bl,rfl⟩ | ⟨i,off,c,cs,rfl,hi,bP,Tt,q4,GG⟩ | ⟨Qq,bl,rfl,h⟩
   ·have:=aZ hv;subst this;unfold Rv;exact ⟨none,0,0,rfl,⟨rfl,bd _⟩,fun hn=>(hn rfl).elim,fun k hk=>by cases hk⟩
   ·unfold Rv at hv ⊢;obtain ⟨b,n,cap,h1,h2,h3,_⟩:=hv;exact ⟨b,n,cap,h1,h2,fun hn=>⟨(h3 hn).1,hm _ _ (h3 hn).2⟩,fun k hk=>by cases hk⟩
   ·obtain ⟨b,arr,hb,hc,hmm⟩:=hf.fz i cs hi bP;unfold Rv at hv ⊢;obtain ⟨b',ad,ee,L1,rfl,hca⟩:=hv;rw [hb] at ee;simp only [oI] at ee;subst ee;refine ⟨ad,es.length,c,rfl,⟨rfl,L1⟩,fun hn=>?_,fun k hk=>by cases hk⟩;have mQ:0 < es.length:=List.length_pos_iff.2 hn;have My:=hca (by omega);subst My;refine ⟨rfl,?_⟩;have h1:=(hc.drop off).take (es.length * e);rw [<- Tt] at h1;refine rvEs_flat ⟨vG (E':=E'.cl) (fun e b o es hr=>(RvEs.mono (Ext.Ad hf.c) hr:RvEs E'.cl e b o es)) GG h1.1,h1.2⟩ q4 fun j u hj=>?_;rw [bJ] at hj;split at hj
    ·rw [List.getElem?_drop] at hj;exact hmm (off + j) u hj
    ·cases hj
   ·have hlen:=CcE.length h;have hs:=fun b o=>CcE.sound (e:=e) (b:=b) (o:=o) hf h;unfold Rv at hv ⊢;obtain ⟨b,n,cap,h1,h2,h3,_⟩:=hv;refine ⟨b,n,cap,h1,by omega,fun hn=>?_,fun k hk=>by cases hk⟩
    grind
  | some k=>
   simp only [Cc] at h;obtain ⟨hk,rfl⟩:=h;unfold Rv at hv ⊢;obtain ⟨b,n,cap,h1,h2,h3,h4⟩:=hv;refine ⟨b,n,cap,h1,h2,fun hn=>⟨(h3 hn).1,hm _ _ (h3 hn).2⟩,fun k' fF=>?_⟩;cases fF;obtain ⟨e1,e2⟩:=hl.tk k hk;obtain ⟨q,h5,h6,h7⟩:=h4 k rfl
   grind
 | .pt cs' o,E',n0,m0,d,v,hf,hl,h,hv=>by
  simp only [Cc] at h;rcases h with rfl | ⟨i,cs,rfl,hi,bP,h⟩
  ·unfold Rv at hv ⊢;obtain ⟨b,p,h1,h2⟩:=hv;exact ⟨b,p,h1,RvAt.mono (Ext.Ad hf.c) h2⟩
  ·obtain ⟨b,arr,hb,hc,hm⟩:=hf.fz i cs hi bP;unfold Rv at hv ⊢;obtain ⟨b',ee,rfl⟩:=hv;rw [hb] at ee;simp only [oI] at ee;subst ee;refine ⟨b,0,by simp,?_⟩;have:=CcL.sound hf.cl (Al.zero E E'.cl) h hc.1;exact tI ⟨this,hc.2⟩ fun j u hj=>by rw [Nat.zero_add];exact hm j u hj
 | .loc i o,E',n0,m0,d,v,hf,hl,h,hv=>by
  simp only [Cc] at h;obtain ⟨hi,rfl⟩:=h;unfold Rv at hv ⊢;obtain ⟨b,hb,h1⟩:=hv;exact ⟨b,hl.β i b hi hb,h1⟩
 | .el i o,E',n0,m0,d,v,hf,hl,h,hv=>by
  simp only [Cc] at h;obtain ⟨hi,rfl⟩:=h;unfold Rv at hv ⊢;obtain ⟨b,hb,h1⟩:=hv;exact ⟨b,hl.β i b hi hb,h1⟩
 | .ms i e o l c,E',n0,m0,d,v,hf,hl,h,hv=>by
  simp only [Cc] at h;obtain ⟨hi,rfl⟩:=h;unfold Rv at hv ⊢;obtain ⟨b,ad,hb,h1⟩:=hv;exact ⟨b,ad,hl.β i b hi hb,h1⟩
 | .fn f a' b',E',n0,m0,d,v,hf,hl,h,hv=>by
  simp only [Cc] at h;obtain ⟨a,b,rfl,ha,hb⟩:=h;unfold Rv at hv ⊢;obtain ⟨l,r,h1,h2,h3⟩:=hv;exact ⟨l,r,h1,CcL.sound hf hl ha h2,CcL.sound hf hl hb h3⟩
 | .lF t x',E',n0,m0,d,v,hf,hl,h,hv=>by
  simp only [Cc] at h;obtain ⟨x,rfl,hx⟩:=h;unfold Rv at hv ⊢;obtain ⟨z,h1,h2⟩:=hv;exact ⟨z,h1,Cc.sound hf hl hx h2⟩
theorem CcL.sound {bx:List (List DV)} {N:Nat} {E:En}:∀ {l':List DV} {E':En} {n0 m0:Nat} {l:List DV} {vs:List Value},Dc E E' bx N->Al E E' n0 m0->CcL bx N n0 m0 l' l->RvL E l vs->RvL E' l' vs
 | [],E',n0,m0,l,vs,hf,hl,h,hv=>by grind [CcL,RvL]
 | d' :: r',E',n0,m0,l,vs,hf,hl,h,hv=>by
  simp only [CcL] at h;obtain ⟨d,r,rfl,h1,h2⟩:=h;simp only [RvL] at hv ⊢;obtain ⟨v,s,h3,h4,h5⟩:=hv;exact ⟨v,s,h3,Cc.sound hf hl h1 h4,CcL.sound hf hl h2 h5⟩
theorem Tu.sound {bx:List (List DV)} {N:Nat} {E:En}:∀ {l':List DV} {E':En} {l:List DV} {b p:Nat},Dc E E' bx N->CcL bx N 0 0 l' l->RvAt E.cl b p l->RvAt E'.cl b p l'
 | [],E',l,b,p,hf,h,hv=>by simp only [RvAt]
 | d' :: r',E',l,b,p,hf,h,hv=>by
  simp only [CcL] at h;obtain ⟨d,r,rfl,h1,h2⟩:=h;simp only [RvAt] at hv ⊢;obtain ⟨⟨v,h3,h4,h5⟩,h6⟩:=hv;exact ⟨⟨v,hf.c _ _ h3,h4,Cc.sound hf.cl (Al.zero E E'.cl) h1 (Rv.mono (Ext.Am E) h5)⟩,Tu.sound hf h2 h6⟩
theorem CcE.sound {bx:List (List DV)} {N:Nat} {E:En}:∀ {l':List (List DV)} {E':En} {l:List (List DV)} {e b o:Nat},Dc E E' bx N->CcE bx N l' l->RvEs E.cl e b o l->RvEs E'.cl e b o l'
 | [],E',l,e,b,o,hf,h,hv=>by simp only [RvEs]
 | a' :: r',E',l,e,b,o,hf,h,hv=>by
  simp only [CcE] at h;obtain ⟨a,r,rfl,h1,h2⟩:=h;simp only [RvEs] at hv ⊢;obtain ⟨h3,h4,h5⟩:=hv;refine ⟨?_,?_,CcE.sound hf h2 h5⟩
  ·grind [CcL.length]
  ·rcases h1 with rfl | h1
   ·exact RvAt.mono (Ext.Ad hf.c) h4
   ·exact Tu.sound hf h1 h4
end
theorem IY {E:En} {e:Nat} {es u1:List (List DV)} {tk:Option Nat} {v:Value} (h:CcE [] 0 u1 es) (hv:Rv E (.sl e es tk) v):Rv E (.sl e u1 tk) v:=by
 have hlen:=CcE.length h;have hs:=fun b o=>CcE.sound (E:=E) (E':=E) (bx:=[]) (N:=0) (e:=e) (b:=b) (o:=o) ⟨fun _ _ h=>h,fun i cs _ hi=>by simp at hi⟩ h
 grind [Rv]
theorem jw.get {bx:List (List DV)} {N n0 m0:Nat}:∀ {l' l:List (List DV)},jw bx N n0 m0 l' l->l'.length=l.length/\∀ (i:Nat) cs',l'[i]? = some cs' -> ∃ cs,l[i]? = some cs/\CcL bx N n0 m0 cs' cs
 | [],l,h=>by simp only [jw] at h;subst h;exact ⟨rfl,by simp⟩
 | a' :: r',l,h=>by
  simp only [jw] at h;obtain ⟨a,r,rfl,h1,h2⟩:=h;obtain ⟨h3,h4⟩:=jw.get h2
  grind
open Classical in
noncomputable def mT (E:En) (n:Nat) (w:World):Addr->Option Value:=
 fun a=>if ∃ i:Nat,n<=i/\E.β[i]? = some a.block then w.cell? a else E.c a
section
variable {X:Ctx} {E:En} {st:St} {a:Act} {w:World}
theorem cS {n:Nat} {x:Addr} {v:Value} (h:mT E n w x=some v):((∃ i:Nat,n<=i/\E.β[i]? = some x.block)/\w.cell? x=some v)∨E.c x=some v:=by
 unfold mT at h;split at h
 all_goals grind
theorem iO {bx:List (List DV)} (h:Env E bx w) {n:Nat} {x:Addr} {v:Value} (hx:E.c x=some v):mT E n w x=some v:=by
 unfold mT;split
 ·exact h.sub x v hx
 ·exact hx
theorem tR (h:Rel X E st a w) {d d':DV} {os:List (List DV)} {v:Value} (hv:Rv E d v) (M:Nat) (hM:(X.fr=false/\M=X.m0)∨(X.fr=true/\M=st.tk.length)) (hd:Cc st.bx X.n0 X.n0 M d' d) (vz:jw st.bx X.n0 X.n0 M os (st.bx.take X.n0)) (hΦ:X.Φ d' os (st.tk.take M)):vo X.still X.E0 X.w0 X.Φ v w X.fr:=by
 obtain ⟨r,Kt,QE⟩:=h.nw.β;have fI:E.β.take X.n0=X.E0.β:=by rw [Kt,<- X.tG];simp
 have pk:∀ (i:Nat) b,i < X.n0->E.β[i]? = some b->X.E0.β[i]? = some b:=fun i b hi hb=>by grind
 have cm:∀ (i:Nat) b,X.n0<=i->E.β[i]? = some b->b∈r:=fun i b hi hb=>by grind
 have Ku:∀ b,b∈X.E0.β->b∈r->False:=fun b h1 h2=>by
  have:=h.env.inj
  grind
 have hE0l:X.E0.τ.length=X.m0:=by rw [h.nw.l0,X.q8]
 have Tv:X.m0<=E.tk.length:=by
  rcases Nat.lt_or_ge E.tk.length X.m0 with h1 | h1
  ·have hk:E.tk.length < X.E0.tk.length:=by rw [X.q8];exact h1
   have fF:E.tk.length < X.E0.τ.length:=by rw [h.nw.l0];exact hk
   obtain ⟨q',y',h2,_⟩:=h.nw.tk E.tk.length _ _ (gE hk) (gE fF)
   grind
  ·exact h1
 have hMm:X.m0<=M/\M<=E.tk.length:=by
  rcases hM with ⟨_,rfl⟩ | ⟨_,rfl⟩
  ·exact ⟨bd _,Tv⟩
  ·rw [<- h.tk];exact ⟨Tv,bd _⟩
 have L3:Tj X.fr (E.tk.take M).length X.E0.tk.length:=by
  rw [zLenT];rcases hM with ⟨hf,rfl⟩ | ⟨hf,rfl⟩
  ·rw [hf];show min _ _=_;rw [X.q8];omega
  ·rw [hf];show _<=min _ _;rw [X.q8];omega
 let E':En:=⟨mT E X.n0 w,X.E0.β,E.tk.take M,E.τ.take M⟩
 have Ha:Dc E E' st.bx X.n0:={
  c:=fun x u hx=>iO h.env hx
  fz:=fun i cs hi bP=>by
   obtain ⟨b,ty,arr,hb,hw,hc⟩:=h.env.cM i cs bP;refine ⟨b,arr,hb,hc,fun j u hj=>?_⟩;show mT E X.n0 w ⟨b,j,none⟩=some u;unfold mT;rw [aj ⟨i,hi,hb⟩,bD hw]
   simpa using hj }
 have tS:Al E E' X.n0 M:={
  β:=pk
  tk:=fun k hk=>⟨by show (E.tk.take M)[k]? = _;rw [bJ,aj hk],by show (E.τ.take M)[k]? = _;rw [bJ,aj hk]⟩ }
 obtain ⟨gM,MF⟩:=vz.get;refine ⟨h.fr,h.sh,d',os,E',?_,rfl,L3,?_,hd.sound Ha tS hv,by show X.Φ d' os (E.tk.take M);rw [h.tk];exact hΦ⟩
 ·exact {
   len:=by
    show X.E0.β.length=os.length;rw [gM,X.tG,zLenT]
    have:X.n0<=st.bx.length:=by
     rw [<- h.env.len,Kt,List.length_append,X.tG];omega
    omega
   tl:=by simp only [E',zLenT];rw [h.env.tl]
   cM:=fun i cs' hi=>by
    obtain ⟨cs,bP,nN⟩:=MF i cs' hi;rw [bJ] at bP;split at bP
    ·rename_i av;obtain ⟨b,ty,arr,hb,hw,hc⟩:=h.env.cM i cs bP;exact ⟨b,ty,arr,pk i b av hb,hw,CcL.sound Ha tS nN hc.1,hc.2⟩
    ·cases bP
   inj:=by rw [<- fI];exact h.env.inj.sublist (List.take_sublist _ _)
   sub:=fun x u hx=>by
    rcases cS hx with ⟨_,h1⟩ | h1
    ·exact h1
    ·exact h.env.sub x u h1
   pc:=fun x u hx hm=>by
    rcases cS hx with ⟨⟨i,hi,hb⟩,_⟩ | h1
    ·exact Ku _ hm (cm i _ hi hb)
    ·refine h.env.pc x u h1 ?_;rw [Kt];exact List.mem_append.2 (.inl hm)
   bN:=fun k q y hq hy=>by
    simp only [E',bJ] at hq hy;split at hq
    ·rename_i hk;rw [aj hk] at hy;rcases h.env.bN k q y hq hy with h1 | ⟨g,cap,cur,rfl,h1,h2,h3,h4,h5,h6⟩
     ·exact .inl h1
     ·refine .inr ⟨g,cap,cur,rfl,h1,⟨h2.1,h2.2.mono fun _ _ hx=>iO h.env hx⟩,h3,h4,fun hm=>h5 (by rw [Kt];exact List.mem_append.2 (.inl hm)),fun x u hx hg=>?_⟩;rcases cS hx with ⟨⟨i,hi,hb⟩,_⟩ | h7
      all_goals grind
    ·cases hq
   fH:=fun k k' y y' g rW hy eS=>by
    simp only [E',bJ] at hy eS;split at hy
    ·split at eS
     ·exact h.env.fH k k' y y' g rW hy eS
     ·cases eS
    ·cases hy }
 ·exact {
   c:=fun x u hx=>iO h.env (h.nw.c x u hx)
   cn:=fun x u hx=>by
    rcases cS hx with ⟨⟨i,hi,hb⟩,_⟩ | h1
    ·exact .inr (.inl (QE _ (cm i _ hi hb)))
    ·exact h.nw.cn x u h1
   β:=⟨[],by simp [E'],by simp⟩
   tk:=fun k q y hq hy=>by
    obtain ⟨q',y',h1,h2,h3⟩:=h.nw.tk k q y hq hy
    grind
   tn:=fun k y g hk hy hg=>by
    simp only [E',bJ] at hy;split at hy
    ·exact h.nw.tn k y g hk hy hg
    ·cases hy
   l0:=h.nw.l0 }
def resOf (tmps:Array Value):ResultVar->Sem Value
 | .tmp t=>pure (tmps.getD t undef)
 | .cell x t=>do loadVar t (<- asAddr (tmps.getD x undef))
theorem po (fn:Func) (tmps:Array Value):results fn tmps=(do let vs <- fn.results.mapM (resOf tmps);pure (if h:vs.size=1 then vs[0] else .tuple vs)):=by
 unfold results;congr 2
theorem ym (h:Rel X E st a w) {r:ResultVar} {d:DV} (hr:res1 X.T st r=some d):∃ v,Rv E d v/\(resOf a.tmps r).run X.P w = .ok v w:=by
 cases r with
 | tmp t=>
  simp only [res1] at hr;split at hr
  ·rename_i x hg;simp only [oI] at hr;subst hr;obtain ⟨v,h1,h2⟩:=(h.tm t _ hg).1 (aG _);exact ⟨v,h2,by simp [resOf,Array.getD_eq_getD_getElem?,h1]⟩
  ·cases hr
 | cell x t=>
  simp only [res1] at hr;split at hr
  ·rename_i i off hg;split at hr
   ·rename_i cs bP;obtain ⟨v,h1,h2⟩:=(h.tm x _ hg).1 (aG _);unfold Rv at h2;obtain ⟨b,hb,rfl⟩:=h2;obtain ⟨b',ye,arr,ee,hw,hc⟩:=h.env.cM i cs bP;rw [hb] at ee;simp only [oI] at ee;subst ee;obtain ⟨v,hv,hl⟩:=gp X.hT hc (b:=b) (p:=0) hr;have hl:=hl w fun j u hj=>by rw [bD hw];simpa using hj
    rw [Nat.zero_add] at hl;exact ⟨v,hv,by simp only [resOf,Array.getD_eq_getD_getElem?,h1,Option.getD_some,asAddr,Sem.run_bind,Sem.run_pure,Result.andThen_ok,hl]⟩
   ·cases hr
  ·cases hr
theorem gx (h:Rel X E st a w):∀ {rs:List ResultVar} {ds:List DV},resD X.T st rs=some ds->∃ vs,RvL E ds vs/\(rs.mapM (resOf a.tmps)).run X.P w = .ok vs w
 | [],ds,hr=>by
  simp only [resD,oI] at hr;subst hr;exact ⟨[],bE E,rfl⟩
 | r :: rs,ds,hr=>by
  simp only [resD] at hr;split at hr
  ·rename_i d l hd hl;simp only [oI] at hr;subst hr;obtain ⟨v,hv,h1⟩:=ym h hd;obtain ⟨vs,pe,h2⟩:=gx h hl;refine ⟨v :: vs,rvL_cons hv pe,?_⟩
   simp_all
  ·cases hr
theorem kV (h:Rel X E st a w) {d:DV} {v:Value} (hv:Rv E d v) (hf:finD X st d):vo X.still X.E0 X.w0 X.Φ v w X.fr:=by
 unfold finD at hf;split at hf
 ·grind [tR]
 ·rename_i hfr;split at hf
  ·rename_i hn hm
   have key:∀ d',Cc st.bx 0 0 0 d' d->X.Φ d' [] []->vo X.still X.E0 X.w0 X.Φ v w X.fr:=fun d' hd hΦ=>
    tR h hv (d':=d') (os:=[]) X.m0 (.inl ⟨hfr,rfl⟩) (by rw [hn,hm];exact hd) (by rw [hn];simp [jw]) (by rw [hm];exact hΦ)
   grind [Cc]
  ·grind [tR]
theorem r6 (h:Rel X E st a w) (hf:fin X st):kq X [] .ret a w:=by
 have u5:X.fn.results=X.rs.toArray:=by rw [<- X.rP]
 simp only [kq];refine ⟨h.df,?_⟩
 have hbt:kE X.bt X.E0.β w:=fun p hp b hb=>by
  obtain ⟨r,hr,_⟩:=h.nw.β;exact h.bt p hp b (by rw [hr,c9 (gS hb).1];exact hb)
 unfold fin at hf
 have yo:∀ (ds:List DV) (vs:List Value),(X.rs.mapM (resOf a.tmps)).run X.P w = .ok vs w->(results X.fn a.tmps).run X.P w = .ok (if h:vs.toArray.size=1 then vs.toArray[0] else .tuple vs.toArray) w:=by
  intro ds vs hv;rw [po,u5]
  simp_all
 split at hf
 ·rename_i hr;obtain ⟨vs,pe,h1⟩:=gx h hr;simp only [RvL] at pe;subst pe;exact ⟨_,yo [] [] h1,kV h (v:=.tuple #[]) (by unfold Rv;exact ⟨[],rfl,bE E⟩) hf,hbt⟩
 ·rename_i d hr;obtain ⟨vs,pe,h1⟩:=gx h hr;have hl:=pe.length;simp only [RvL] at pe;obtain ⟨v,s,rfl,hv,rfl⟩:=pe;exact ⟨_,yo [d] [v] h1,kV h (v:=v) hv hf,hbt⟩
 ·rename_i d e l hr;obtain ⟨vs,pe,h1⟩:=gx h hr;have hl:=pe.length;have aY:¬ vs.toArray.size=1:=by simp at hl ⊢;omega
  have h2:=yo [] vs h1;rw [dif_neg aY] at h2;exact ⟨_,h2,kV h (v:=.tuple vs.toArray) (by unfold Rv;exact ⟨vs,rfl,pe⟩) hf,hbt⟩
 ·exact hf.elim
theorem mU:∀ (k:List It) (a:Act) (w:World),kq X [] .ret a w->kq X k .ret a w
 | [],_,_,h=>h
 | .code _ :: k,a,w,h=>mU k a w h
 | .ops _ _ :: k,a,w,h=>mU k a w h
 | .rQ _ :: k,a,w,h=>mU k a w h
 | .mC _ :: k,a,w,h=>mU k a w h
theorem lS {id:Nat}:∀ (k k':List It) (a:Act) (w:World),dropBlk id k=some k' -> kq X k' .normal a w->kq X k (.exit id) a w
 | [],k',a,w,hd,_=>by simp [dropBlk] at hd
 | .code _ :: k,k',a,w,hd,h=>by simp only [dropBlk] at hd;exact lS k k' a w hd h
 | .ops _ _ :: k,k',a,w,hd,h=>by simp only [dropBlk] at hd;exact lS k k' a w hd h
 | .mC _ :: k,k',a,w,hd,h=>by simp only [dropBlk] at hd;exact lS k k' a w hd h
 | .rQ i :: k,k',a,w,hd,h=>by
  simp only [dropBlk] at hd;split at hd
  ·simp_all [kq]
  ·rename_i hi
   have hi:id≠i:=by
    rintro rfl;rw [Nat.beq_refl] at hi;cases hi
   simp only [kq];rw [ah hi];exact lS k k' a w hd h
theorem Bz {P:Program} {o:Oper} {a:Act} {K K':Act->World->Prop} {Q Q':Exit->Act->World->Prop} (hK:∀ a w,K a w->K' a w) (hQ:∀ e a w,Q e a w->Q' e a w)
  {r:Result Next} (h:o.upon P a K Q r):o.upon P a K' Q' r:=by
 unfold Oper.upon at *;split<;>simp_all
 ·refine h.mono ?_;intro e w' hq
  cases e with
  | returned v=>exact hK _ _ hq
  | panicked c=>exact hQ _ _ _ hq
  | outgrown=>obtain ⟨a,w,hq⟩:=hq;exact ⟨a,w,hQ _ _ _ hq⟩
 ·exact h.mono fun v w' hq=>hK _ _ hq
theorem pq {P:Program} {o:Oper} {a:Act} {K K':Act->World->Prop} {Q Q':Exit->Act->World->Prop} {w:World} (hK:∀ a w,K a w->K' a w) (hQ:∀ e a w,Q e a w->Q' e a w)
  (h:o.wp P a w K Q):o.wp P a w K' Q':=Bz hK hQ h
theorem lT {l:Nat}:∀ (k:List It) (a:Act) (w:World),kq X k (.goto l) a w->False
 | [],a,w,h=>by simp [kq] at h
 | .code _ :: k,a,w,h=>lT k a w (by simpa only [kq] using h)
 | .ops _ _ :: k,a,w,h=>lT k a w (by simpa only [kq] using h)
 | .rQ _ :: k,a,w,h=>lT k a w (by simpa only [kq] using h)
 | .mC _ :: k,a,w,h=>lT k a w (by simpa only [kq] using h)
theorem DJ (k:List It) (e:Exit) (a:Act) (w:World) (h:kq X k e a w):Exit.noGoto (kq X k) e a w:=by
 cases e with
 | goto l=>exact (lT k a w h).elim
 | _=>exact h
theorem cH (c:Code) (k:List It) (a:Act) (w:World):kq X (.code c :: k) .normal a w=c.wp X.P (kq X k) a w:=rfl
theorem Hb (c:Code) (k:List It):kq X (.code c :: k)=Exit.then (c.wp X.P (kq X k)) (kq X k):=by
 funext e a w;cases e<;>rfl
theorem Kv (id:Nat) (k:List It) (e:Exit) (a:Act) (w:World) (h:kq X (.rQ id :: k) e a w):Exit.inBlock id (kq X k) e a w:=by
 cases e<;>exact h
theorem wanted_spec (h:Rel X E st a w) {all:Array Oper} {o:Oper} {j d:Nat} {want:Bool} {iD:List (Nat × Bool)} {sd:DV} (Hc:o.guard=some (j,want)) (Bs:gslot all.toList j=some d) (GJ:get st.sl d=some ⟨iD,sd⟩) :
  Region.wanted o (yielded all a.tmps)=true↔Holds a.tmps ((d,want) :: iD):=by
 have Kw:yielded all a.tmps j=match a.tmps[d]? with | some (.bool b)=>some b | _=>none:=by
  unfold gslot at Bs;split at Bs
  ·rename_i oj hoj;have QF:all[j]? = some oj:=sU hoj;simp only [yielded,QF,Bs,Option.bind_some]
   grind
  ·cases Bs
 have htd:=h.tm d _ GJ;simp only [Region.wanted,Hc,Kw];constructor
 ·intro hw;have hb:a.tmps[d]? = some (.bool want):=by grind
  refine gq hb ?_;by_cases hh:Holds a.tmps iD
  ·exact hh
  ·have:=htd.2 hh;rw [hb] at this;simp [undef] at this
 ·intro hh;have:=hh (d,want) (by simp);simp only at this;rw [this];simp
theorem vH (h:Rel X E st a w) {t:Nat} {b:Bool} (hg:get st.sl t=some ⟨[],.v (.bool b)⟩):a.tmps[t]? = some (.bool b):=by
 obtain ⟨v,h1,h2⟩:=(h.tm t _ hg).1 (aG _);rw [h1,gv h2]
theorem DK (h:Rel X E st a w) {t:Nat} (hg:get st.sl t=some ⟨[],.ud⟩):a.tmps[t]? = some undef:=by
 obtain ⟨v,h1,h2⟩:=(h.tm t _ hg).1 (aG _);unfold Rv at h2;rw [h1,h2]
theorem pu {G:List (Nat × Bool)} {dst:Option Nat} (fM:Qr G dst=true):∀ e,dst=some e->∀ p∈G,p.1≠e:=by
 intro e he p hp cx;rw [he] at fM;have:=(List.all_eq_true.1 fM) p hp;rw [cx] at this;simp at this
theorem go_sound:∀ n,Tq X (go X n)
 | 0=>fun k st hg=>hg.elim
 | n + 1=>by
  have ih:=go_sound n;intro k st hg E a w h
  match k with
  | []=>exact r6 h (by simpa [go] using hg)
  | .rQ id :: k=>exact ih k st (by simpa [go] using hg) E a w h
  | .mC J :: k=>exact ⟨st,E,h,by simpa [go] using hg⟩
  | .ops all [] :: k=>exact ih k st (by simpa [go] using hg) E a w h
  | .ops all (o :: r) :: k=>
   simp only [go,iJ,Ac] at hg;split at hg
   ·exact hg.elim
   ·rename_i hd;split at hg
    ·rename_i Hc;simp only [kq,wpList,Region.wanted,Hc,if_true];split at hg
     ·rename_i s hs;obtain ⟨v,hv,bg⟩:=cR X.hT h.rl (aG _) hs;exact .inl (ij (bg w fun _=>rfl) (ih _ _ hg E _ w (aO h hd s v hv)))
     ·exact .inl (pq (fun a w hk=>hk) (fun e a w hq=>hq.elim) (mS ih hd h hg))
    ·rename_i j want Hc;split at hg
     ·exact hg.elim
     ·rename_i d Bs;split at hg
      ·exact hg.elim
      ·rename_i iD sd GJ;have pv:=wanted_spec h Hc Bs GJ;simp only [kq,wpList];split at hg
       ·rename_i s hs;split at hg
        case h_2=>exact hg.elim
        rename_i fM;split
        ·rename_i hw;have hh:=pv.1 hw;obtain ⟨v,hv,bg⟩:=cR X.hT h.rl hh hs;exact .inl (ij (bg w fun _=>rfl) (ih _ _ hg E _ w (lN h hd _ s v (pu fM) (fun _=>hv) (fun hn=>(hn hh).elim))))
        ·rename_i hw;have hh:¬ Holds a.tmps ((d,want) :: iD):=fun hh=>hw (pv.2 hh);exact ih _ _ hg E _ w (lN h hd _ s undef (pu fM) (fun hn=>(hh hn).elim) (fun _=>rfl))
       ·split at hg
        ·rename_i b fI;have ht0:=vH h fI
         cases iD with
         | nil=>
          simp only [lastG] at fI ht0;cases An:(b == want)
          ·have yp:b = !want:=by cases b<;>cases want<;>simp_all
           have hg:=hg.f An
           have hn:¬ Region.wanted o (yielded all a.tmps)=true:=by
            intro hw;have:=(pv.1 hw) (d,want) (by simp)
            grind
           rw [ah hn];have hr:=gO (d:=d) (b:=!want) h (by rw [ht0,yp]);exact ih _ _ hg E _ w (aO hr (gP hd) .ud undef (nK E))
          ·have PB:b=want:=sU An;have hg:=hg.t An;subst PB;have hw:Region.wanted o (yielded all a.tmps)=true:=pv.2 (gq ht0 (aG _));rw [aj hw];have hr:=gO (d:=d) (b:=b) h ht0;exact .inl (pq (fun a w hk=>hk) (fun e a w hq=>hq.elim) (mS ih (gP hd) hr hg))
         | cons g1 gr=>
          have key:∀ c,a.tmps[(lastG (d,want) (g1 :: gr)).1]? = some (.bool c)->go X n (.ops all (o :: r) :: k) (st.resolve (lastG (d,want) (g1 :: gr)).1 c)->wpList X.P all (kq X k) (o :: r) a w:=
           fun c hc rr=>ih _ _ rr E a w (gO h hc)
          cases An:(b == (lastG (d,want) (g1 :: gr)).2)
          ·have hg:=hg.f An;have yp:b = !(lastG (d,want) (g1 :: gr)).2:=by cases b<;>cases h0:(lastG (d,want) (g1 :: gr)).2<;>simp_all
           have:=key _ (by rw [ht0,yp]) hg;simpa [wpList] using this
          ·have hg:=hg.t An;have PB:b=(lastG (d,want) (g1 :: gr)).2:=sU An;have:=key _ (by rw [ht0,PB]) hg;simpa [wpList] using this
        ·rename_i fI
         cases iD with
         | nil=>
          have ht0:=DK h fI;simp only [lastG] at ht0
          have hn:¬ Region.wanted o (yielded all a.tmps)=true:=by
           intro hw;have:=(pv.1 hw) (d,want) (by simp);simp only at this;rw [ht0] at this;simp [undef] at this
          rw [ah hn];exact ih _ _ hg E _ w (aO h hd .ud undef (nK E))
         | cons g1 gr=>exact hg.elim
        ·exact hg.elim
  | .code c :: k=>
   rw [cH]
   cases c with
   | skip=>exact wp_skip (ih k st (by simpa [go] using hg) E a w h)
   | seq x y=>
    have:=ih (.code x :: .code y :: k) st (by simpa [go] using hg) E a w h;rw [cH,Hb] at this;exact wp_seq this
   | block id b=>
    have:=ih (.code b :: .rQ id :: k) st (by simpa [go] using hg) E a w h;rw [cH] at this;exact wp_block (wp_mono this (Kv id k))
   | exit id=>
    simp only [go] at hg;split at hg
    ·rename_i k' hk;exact wp_exit (lS k k' a w hk (ih k' st hg E a w h))
    ·exact hg.elim
   | cond x p q=>
    simp only [go] at hg;split at hg
    ·rename_i b hb;refine wp_cond (t:=b) (by rw [gv (aK h.rl hb)]) ?_;cases fI:b
     ·exact ih (.code q :: k) st (hg.f fI) E a w h
     ·exact ih (.code p :: k) st (hg.t fI) E a w h
    ·exact hg.elim
   | region id ops d=>
    simp only [go] at hg;cases d
    ·exact wp_region_list (ih (.ops ops ops.toList :: k) st hg E a w h)
    ·exact hg E a w h
   | loop b=>exact (by simpa [go] using hg:kI X b k st) E a w h
   | ret=>exact wp_ret (mU k a w (r6 h (by simpa [go] using hg)))
   | scope c=>
    have:=ih (.code c :: k) st (by simpa [go] using hg) E a w h;rw [cH] at this;exact wp_scope_straight (wp_mono this (DJ k))
   | label l=>exact wp_label (ih k st (by simpa [go] using hg) E a w h)
   | _=>simp [go] at hg
theorem vI {fn:Func} (u5:X.fn=fn) (e:Exit) (a:Act) (w:World) (h:kq X [] e a w):bodyPost X.P fn (fun e w'=>∃ v,e = .returned v/\vo X.still X.E0 X.w0 X.Φ v w' X.fr/\kE X.bt X.E0.β w') e a w:=by
 subst u5
 cases e with
 | normal=>obtain ⟨h1,v,h2,h3⟩:=h;exact ⟨h1,v,h2,v,rfl,h3⟩
 | ret=>obtain ⟨h1,v,h2,h3⟩:=h;exact ⟨h1,v,h2,v,rfl,h3⟩
 | exit _=>exact h.elim
 | goto _=>exact h.elim
 | panic _=>exact h.elim
 | outgrown=>exact h.elim
end
def L4 (s:Bool) (P:Program) (f:FuncId) (args:List DV) (os:List (List DV)) (bN:List TkE) (Φ:DV->List (List DV)->List TkE->Prop) (fr:Bool:=false):Prop:=
 ∀ (E:En) (w:World) (vs:List Value),Env E os w->E.tk=bN->RvL E args vs->Calls P f vs.toArray w fun e w'=>∃ v,e = .returned v/\vo s E w Φ v w' fr
def Ev (P:Program) (f:FuncId) (args:List DV) (os:List (List DV)) (bN:List TkE) (Φ:DV->List (List DV)->List TkE->Prop):Prop:=L4 false P f args os bN Φ
def Tw (P:Program) (f:FuncId) (args:List DV) (os:List (List DV)) (bN:List TkE) (Φ:DV->List (List DV)->List TkE->Prop):Prop:=L4 true P f args os bN Φ
def bh (P:Program) (f:FuncId) (args:List DV) (d:DV):Prop:=Ev P f args [] [] fun d' _ _=>d'=d
def argSl:Nat->List DV->List (Nat × Sl)
 | _,[]=>[]
 | i,v :: r=>(i,⟨[],v⟩) :: argSl (i + 1) r
theorem r7:∀ (l:List DV) (i j:Nat) (x:Sl),get (argSl i l) j=some x->∃ v,x=⟨[],v⟩/\i<=j/\l[j - i]? = some v
 | [],_,_,_,h=>by simp [argSl,get] at h
 | v :: r,i,j,x,h=>by
  simp only [argSl,bT] at h;split at h
  ·grind
  ·rename_i fL;obtain ⟨u,hu,jv,hg⟩:=r7 r (i + 1) j x h
   grind
theorem Nw.refl {E:En} {bx:List (List DV)} {w:World} (h:Env E bx w):Nw E E w where
 c:=fun _ _ h=>h
 cn:=fun _ _ h=>.inl h
 β:=⟨[],by simp,by simp⟩
 tk:=fun k q y hq hy=>⟨q,y,hq,hy,rfl,rfl,.inl ⟨rfl,rfl⟩,.inl rfl⟩
 tn:=fun k y g hk hy=>by
  have:=(gS hy).1;rw [h.tl] at this;omega
 l0:=h.tl
def QG (s:Bool) (P:Program) (f:FuncId) (args:List DV) (os:List (List DV)) (bN:List TkE) (bt:List (Nat × TypeId)) (Φ:DV->List (List DV)->List TkE->Prop) (fr:Bool:=false):Prop:=
 ∀ (E:En) (w:World) (vs:List Value),Env E os w->E.tk=bN->kE bt E.β w->RvL E args vs->Calls P f vs.toArray w fun e w'=>∃ v,e = .returned v/\vo s E w Φ v w' fr/\kE bt E.β w'
theorem He {s:Bool} {P:Program} {f:FuncId} {fn:Func} {c:Code} {args:List DV} {os:List (List DV)} {bN:List TkE} {Φ:DV->List (List DV)->List TkE->Prop} (bt:List (Nat × TypeId)) (mu:List Nat) (fr:Bool) (T:TT) (hT:T.ok P=true) (n nt:Nat) (rs:List ResultVar)
  (hf:P.funcs[f]? = some fn) (hb:fn.body=some c) (DL:fn.ntmps=nt) (rP:fn.results.toList=rs) (hlen:args.length<=nt)
  (h:∀ (E:En) (w:World) (hn:E.β.length=os.length) (hm:E.tk.length=bN.length),go ⟨P,T,hT,fn,nt,rs,rP,w,E,os.length,bN.length,hn,hm,s,Φ,bt,mu,fr⟩ n [.code c] ⟨argSl 0 args,os,bN⟩):QG s P f args os bN bt Φ fr:=by
 intro E w vs hE oo fI hv;have hl:=hv.length;have hg:=h E w hE.len (by rw [oo]);refine calls_of_wp hf hb ?_
 have hs:=go_sound (X:=⟨P,T,hT,fn,nt,rs,rP,w,E,os.length,bN.length,hE.len,by rw [oo],s,Φ,bt,mu,fr⟩) n _ _ hg E
  {tmps:=vs.toArray ++ Array.replicate (fn.ntmps - vs.toArray.size) undef,defers:=[] } w
  {env:=hE
   tk:=oo
   sz:=by simp [DL];omega
   tm:=by
    intro i x hx;obtain ⟨d,rfl,_,hd⟩:=r7 args 0 i x hx;simp only [Nat.sub_zero] at hd;obtain ⟨v,u3,Da⟩:=hv.get hd
    grind [aG]
   df:=rfl
   nw:=Nw.refl hE
   fr:=⟨rfl,rfl,rfl,bd _,fun _ _ _=>rfl⟩
   sh:=fun _=>⟨0,rfl⟩
   bt:=fI }
 exact wp_mono hs (vI rfl)
theorem tT {s:Bool} {P:Program} {f:FuncId} {fn:Func} {c:Code} {args:List DV} {os:List (List DV)} {bN:List TkE} {Φ:DV->List (List DV)->List TkE->Prop} (bt:List (Nat × TypeId)) (mu:List Nat) (hbt:∀ p∈bt,os.length<=p.1) (fr:Bool) (T:TT) (hT:T.ok P=true) (n nt:Nat) (rs:List ResultVar)
  (hf:P.funcs[f]? = some fn) (hb:fn.body=some c) (DL:fn.ntmps=nt) (rP:fn.results.toList=rs) (hlen:args.length<=nt)
  (h:∀ (E:En) (w:World) (hn:E.β.length=os.length) (hm:E.tk.length=bN.length),go ⟨P,T,hT,fn,nt,rs,rP,w,E,os.length,bN.length,hn,hm,s,Φ,bt,mu,fr⟩ n [.code c] ⟨argSl 0 args,os,bN⟩):L4 s P f args os bN Φ fr:=fun E w vs hE oo hv=>(He bt mu fr T hT n nt rs hf hb DL rP hlen h E w vs hE oo (fun p hp b hb=>by
  have h1:=hbt p hp;have h2:=(gS hb).1;have h3:=hE.len
  omega) hv).mono fun _ _ ⟨v,h1,h2,_⟩=>⟨v,h1,h2⟩
theorem Hf {s:Bool} {P:Program} {f:FuncId} {fn:Func} {c:Code} {args:List DV} {os:List (List DV)} {bN:List TkE} {Φ:DV->List (List DV)->List TkE->Prop} (bt:List (Nat × TypeId)) (hbt:∀ p∈bt,os.length<=p.1) (T:TT) (hT:T.ok P=true) (n nt:Nat) (rs:List ResultVar)
  (hf:P.funcs[f]? = some fn) (hb:fn.body=some c) (DL:fn.ntmps=nt) (rP:fn.results.toList=rs) (hlen:args.length<=nt)
  (h:∀ (E:En) (w:World) (hn:E.β.length=os.length) (hm:E.tk.length=bN.length),go ⟨P,T,hT,fn,nt,rs,rP,w,E,os.length,bN.length,hn,hm,s,Φ,bt,[],false⟩ n [.code c] ⟨argSl 0 args,os,bN⟩):L4 s P f args os bN Φ:=
 tT bt [] hbt false T hT n nt rs hf hb DL rP hlen h
theorem DM {s:Bool} {P:Program} {f:FuncId} {fn:Func} {c:Code} {args:List DV} {os:List (List DV)} {bN:List TkE} {Φ:DV->List (List DV)->List TkE->Prop} (T:TT) (hT:T.ok P=true) (n nt:Nat) (rs:List ResultVar)
  (hf:P.funcs[f]? = some fn) (hb:fn.body=some c) (DL:fn.ntmps=nt) (rP:fn.results.toList=rs) (hlen:args.length<=nt)
  (h:∀ (E:En) (w:World) (hn:E.β.length=os.length) (hm:E.tk.length=bN.length),go ⟨P,T,hT,fn,nt,rs,rP,w,E,os.length,bN.length,hn,hm,s,Φ,[],[],false⟩ n [.code c] ⟨argSl 0 args,os,bN⟩):L4 s P f args os bN Φ:=
 Hf [] (fun p hp=>by cases hp) T hT n nt rs hf hb DL rP hlen h
theorem MG {P:Program} {f:FuncId} {fn:Func} {c:Code} {args:List DV} {os:List (List DV)} {bN:List TkE} {Φ:DV->List (List DV)->List TkE->Prop} (T:TT) (hT:T.ok P=true) (n nt:Nat) (rs:List ResultVar)
  (hf:P.funcs[f]? = some fn) (hb:fn.body=some c) (DL:fn.ntmps=nt) (rP:fn.results.toList=rs) (hlen:args.length<=nt)
  (h:∀ (E:En) (w:World) (hn:E.β.length=os.length) (hm:E.tk.length=bN.length),go ⟨P,T,hT,fn,nt,rs,rP,w,E,os.length,bN.length,hn,hm,false,Φ,[],[],false⟩ n [.code c] ⟨argSl 0 args,os,bN⟩):Ev P f args os bN Φ:=
 DM T hT n nt rs hf hb DL rP hlen h
theorem Ev.mono {P:Program} {f:FuncId} {args:List DV} {os:List (List DV)} {bN:List TkE} {Φ Ψ:DV->List (List DV)->List TkE->Prop} (h:Ev P f args os bN Φ) (hΦ:∀ d o t,Φ d o t->Ψ d o t):Ev P f args os bN Ψ:=by
 intro E w vs h1 h2 h3;refine (h E w vs h1 h2 h3).mono ?_;rintro e w' ⟨v,rfl,h4,hs,d,o,E',h5,h6,h7,h8,h9,qZ⟩;exact ⟨v,rfl,h4,hs,d,o,E',h5,h6,h7,h8,h9,hΦ _ _ _ qZ⟩
theorem Ev.MH {P:Program} {f:FuncId} {args:List DV} {os:List (List DV)} {bN:List TkE} {Φ:DV->List (List DV)->List TkE->Prop} {bt:List (Nat × TypeId)} (h:Ev P f args os bN Φ) (hb:bt=[]):QG false P f args os bN bt Φ:=fun E w vs h1 h2 _ h4=>
 (h E w vs h1 h2 h4).mono fun _ _ ⟨v,h5,h6⟩=>⟨v,h5,h6,.nil hb⟩
theorem br {b:Bool} {A B:Prop} (h1:b=true->A) (h2:b=false->B):@Bool.rec (fun _=>Prop) B A b:=by
 cases b
 ·exact h2 rfl
 ·exact h1 rfl
section
variable {X:Ctx} {st:St} {k:List It} {E:En} {a:Act} {w:World}
theorem BA (h:Rel X E st a w) (bo:X.still=false) {E2:En} {w':World} (hm:lG (E.cl).S w w') (he:Env E2 [] w') (hn:Nw E.cl E2 w):Rel X ⟨E2.c,E.β,E.tk,E.τ⟩ st a w':=by
 have hh:∀ i,i < w.heap.size->w'.heap[i]? = w.heap[i]?:=fun i hi=>hm.block i hi (by
  rintro (h1 | ⟨y,h1,_⟩)
  ·simp [En.cl] at h1
  ·simp [En.cl] at h1)
 have cm:∀ x v,E2.c x=some v->E.c x=some v∨w.heap.size<=x.block:=fun x v hx=>by
  rcases hn.cn x v hx with h1 | h1 | ⟨y,h1,_⟩
  ·exact .inl h1
  ·exact .inr h1
  ·simp [En.cl] at h1
 have hx:Ext E ⟨E2.c,E.β,E.tk,E.τ⟩:=⟨hn.c,fun _ _ h=>h,fun _ q h=>⟨q,h,.inl ⟨rfl,rfl⟩⟩⟩;have hk:=h.env.fX hh;refine bU h hx ?_ h.tk ?_ (h.fr.bF hm.os hm.tape hm.output hm.size fun i hi=>.inr (hh i hi)) (kF bo) (h.bt.fX fun b hb=>hh b (h.env.aN hb))
 ·exact {
   len:=h.env.len
   tl:=h.env.tl
   cM:=fun i cs hi=>by
    obtain ⟨b,ty,arr,hb,hw,hc⟩:=hk.cM i cs hi;exact ⟨b,ty,arr,hb,hw,hc.mono hx⟩
   inj:=h.env.inj
   sub:=he.sub
   pc:=fun x v hc iE=>by
    rcases cm x v hc with h1 | h1
    ·exact h.env.pc x v h1 iE
    ·have:=h.env.aN iE;omega
   bN:=fun k q y hq hy=>by
    rcases hk.bN k q y hq hy with h1 | ⟨g',cap,cur,rfl,h1,h2,h3,h4,h5,h6⟩
    ·exact .inl h1
    ·refine .inr ⟨g',cap,cur,rfl,h1,⟨h2.1,h2.2.mono hn.c⟩,h3,h4,h5,fun x v hc hg=>?_⟩;rcases cm x v hc with h7 | h7
     ·exact h6 x v h7 hg
     ·have:=(e7 (h.env.bN k q _ hq hy) (g:=g') rfl).1;omega
   fH:=h.env.fH }
 ·exact {
   c:=fun x v hc=>hn.c x v (h.nw.c x v hc)
   cn:=fun x v hc=>by
    rcases cm x v hc with h1 | h1
    ·exact h.nw.cn x v h1
    ·have:=h.fr.size;exact .inr (.inl (by omega))
   β:=h.nw.β
   tk:=h.nw.tk
   tn:=h.nw.tn
   l0:=h.nw.l0 }
theorem yq {bx:List (List DV)} (h:Env E bx w):Env E.cl [] w where
 len:=rfl
 tl:=rfl
 cM:=by simp
 inj:=List.nodup_nil
 sub:=h.sub
 pc:=by simp [En.cl]
 bN:=by simp [En.cl]
 fH:=by simp [En.cl]
theorem nP {P:Program} (h:Rel X E st a w) (bo:X.still=false) {f:FuncId} {args aV:List DV} {vs:List Value} {Φ:DV->List (List DV)->List TkE->Prop} (hc:Ev P f aV [] [] Φ) (ha:CcL [] 0 0 0 aV args) (hv:RvL E args vs) :
  Calls P f vs.toArray w fun e w'=>∃ v E' d,e = .returned v/\Rel X E' st a w' /\ Rv E' d v/\Φ d [] []/\lG E.cl.S w w' /\ Ext E E' /\ E'.β=E.β:=by
 have J4:RvL E.cl aV vs:=CcL.sound (E:=E) (E':=E.cl) ⟨fun _ _ h=>h,fun i cs _ hi=>by simp at hi⟩ (Al.zero _ _) ha hv;refine (hc E.cl w vs (yq h.env) rfl J4).mono ?_;rintro e w' ⟨v,rfl,hm,_,d,os,E2,he,hβ,oo,hn,Kx,hΦ⟩
 have vz:os=[]:=by
  have:=he.len;rw [hβ] at this;exact List.eq_nil_of_length_eq_zero this.symm
 subst vz;have ht0:E2.tk=[]:=List.eq_nil_of_length_eq_zero oo;refine ⟨v,⟨E2.c,E.β,E.tk,E.τ⟩,d,rfl,BA h bo hm he hn,?_,by rw [ht0] at hΦ;exact hΦ,hm,⟨hn.c,fun _ _ h=>h,fun _ q h=>⟨q,h,.inl ⟨rfl,rfl⟩⟩⟩,rfl⟩;refine Rv.mono (E:=E2) (E':=⟨E2.c,E.β,E.tk,E.τ⟩) ⟨fun _ _ h=>h,fun i b hb=>?_,fun k q hq=>?_⟩ Kx
 ·rw [hβ] at hb;simp [En.cl] at hb
 ·rw [ht0] at hq;simp at hq
theorem gW {f:FuncId} {args aV:List DV} {d:Nat} (gV:Enters X.P f) (hd:dF X.nt st.sl (some d)=true) {Φ:DV->List (List DV)->List TkE->Prop} (hc:Ev X.P f aV [] [] Φ) (ha:CcL [] 0 0 0 aV args)
  (hk:∀ r,Φ r [] []->go X 4000 k ⟨(d,⟨[],r⟩) :: st.sl,st.bx,st.tk⟩) (bo:X.still=false:=by exact rfl):CallG X f args (some d) k st:=by
 refine ⟨gV,bo,fun E a w vs h hv=>(nP h bo hc ha hv).mono ?_⟩;rintro e w' ⟨v,E',r,rfl,ba,hr,hΦ,_⟩;exact go_sound 4000 _ _ (hk r hΦ) E' _ w' (aO ba hd r v hr)
theorem Ky {f:FuncId} {args aV:List DV} {d:Nat} {r:DV} (gV:Enters X.P f) (hc:bh X.P f aV r) (ha:CcL [] 0 0 0 aV args) (hd:dF X.nt st.sl (some d)=true)
  (hk:go X 4000 k ⟨(d,⟨[],r⟩) :: st.sl,st.bx,st.tk⟩) (bo:X.still=false:=by exact rfl):CallG X f args (some d) k st:=
 gW gV hd hc ha (fun _ hr=>hr ▸ hk) bo
def clB (n m:Nat):DV->Bool
 | .v _=>true
 | .ud=>true
 | .sl _ _ none=>true
 | .sl _ _ (some k)=>Nat.blt k m
 | .pt _ _=>true
 | .loc i _=>Nat.blt i n
 | .el i _=>Nat.blt i n
 | .ms i _ _ _ _=>Nat.blt i n
 | .agg l=>clL l
 | .cj l=>clL l
 | .fn _ l r=>clL l && clL r
 | .lF _ x=>clB n m x
where clL:List DV->Bool
 | []=>true
 | d :: r=>clB n m d && clL r
def En.cut (E:En) (n m:Nat):En:=⟨E.c,E.β.take n,E.tk.take m,E.τ.take m⟩
mutual
theorem Rv.cut {n m:Nat} {E:En}:∀ {d:DV} {v:Value},Rv E d v->clB n m d=true->Rv (E.cut n m) d v
 | .v x,v,h,_=>by unfold Rv at h ⊢;exact h
 | .ud,v,h,_=>by unfold Rv at h ⊢;exact h
 | .sl e es none,v,h,_=>by
  unfold Rv at h ⊢;obtain ⟨b,n,cap,h1,h2,h3,_⟩:=h;exact ⟨b,n,cap,h1,h2,h3,fun k hk=>by cases hk⟩
 | .sl e es (some k),v,h,hc=>by
  unfold Rv at h ⊢;obtain ⟨b,n',cap,h1,h2,h3,h4⟩:=h;refine ⟨b,n',cap,h1,h2,h3,fun k' fF=>?_⟩;cases fF;have hk:k < m:=by simpa [clB] using hc
  obtain ⟨q,h5,h6,h7⟩:=h4 k rfl;exact ⟨q,by show (E.tk.take m)[k]? = _;rw [bJ,aj hk];exact h5,h6,fun hh=>by show (E.τ.take m)[k]? = _;rw [bJ,aj hk];exact h7 hh⟩
 | .pt cs o,v,h,_=>by unfold Rv at h ⊢;exact h
 | .loc i o,v,h,hc=>by
  unfold Rv at h ⊢;obtain ⟨b,hb,h1⟩:=h;have hi:i < n:=by simpa [clB] using hc
  exact ⟨b,by show (E.β.take n)[i]? = _;rw [bJ,aj hi];exact hb,h1⟩
 | .el i o,v,h,hc=>by
  unfold Rv at h ⊢;obtain ⟨b,hb,h1⟩:=h;have hi:i < n:=by simpa [clB] using hc
  exact ⟨b,by show (E.β.take n)[i]? = _;rw [bJ,aj hi];exact hb,h1⟩
 | .ms i e o l c,v,h,hc=>by
  unfold Rv at h ⊢;obtain ⟨b,ad,hb,h1⟩:=h;have hi:i < n:=by simpa [clB] using hc
  exact ⟨b,ad,by show (E.β.take n)[i]? = _;rw [bJ,aj hi];exact hb,h1⟩
 | .agg l,v,h,hc=>by
  unfold Rv at h ⊢;obtain ⟨vs,h1,h2,h3⟩:=h;simp only [clB] at hc;exact ⟨vs,h1,RvL.cut h2 hc,h3⟩
 | .cj l,v,h,hc=>by
  unfold Rv at h ⊢;obtain ⟨vs,h1,h2⟩:=h;simp only [clB] at hc;exact ⟨vs,h1,RvL.cut h2 hc⟩
 | .fn f l r,v,h,hc=>by
  unfold Rv at h ⊢;obtain ⟨l',r',h1,h2,h3⟩:=h;simp only [clB,aP] at hc;exact ⟨l',r',h1,RvL.cut h2 hc.1,RvL.cut h3 hc.2⟩
 | .lF t x,v,h,hc=>by
  unfold Rv at h ⊢;obtain ⟨z,h1,h2⟩:=h;simp only [clB] at hc;exact ⟨z,h1,Rv.cut h2 hc⟩
theorem RvL.cut {n m:Nat} {E:En}:∀ {l:List DV} {vs:List Value},RvL E l vs->clB.clL n m l=true->RvL (E.cut n m) l vs
 | [],vs,h,_=>by simp only [RvL] at h ⊢;exact h
 | d :: r,vs,h,hc=>by
  simp only [RvL] at h ⊢;obtain ⟨v,s,h1,h2,h3⟩:=h;simp only [clB.clL,aP] at hc;exact ⟨v,s,h1,Rv.cut h2 hc.1,RvL.cut h3 hc.2⟩
end
end
end Dv
end Go.Proofs.YtfdedoiiahbnnaaGreat
namespace Go.Proofs.YtfdedoiiahbnnaaGreat
namespace Dv
open Go Go.RowKit
def We (n m:Nat) (bl:List TkE) (x x':DV):Prop:=
 (x=x' /\ clB n m x=true)∨(x = .v (.slice none 0 0)/\∃ e k q,x' = .sl e [] (some k)/\m<=k/\bl[k]? = some q)∨(x = .v (.slice none 0 0)/\∃ e,x' = .sl e [] none)∨(∃ e es tk,x = .sl e es tk/\x' = .sl e es none)∨(∃ e es u1 tk,x = .sl e es tk/\x' = .sl e u1 none/\CcE [] 0 u1 es)∨(∃ e es u1 k,x = .sl e es (some k)/\x' = .sl e u1 (some k)/\k < m/\CcE [] 0 u1 es)
def WeL (n m:Nat) (bl:List TkE):List DV->List DV->Prop
 | [],l=>l=[]
 | x :: r,l=>∃ x' r',l=x' :: r' /\ We n m bl x x' /\ WeL n m bl r r'
def WeLL (n m:Nat) (bl:List TkE):List (List DV)->List (List DV)->Prop
 | [],l=>l=[]
 | x :: r,l=>∃ x' r',l=x' :: r' /\ WeL n m bl x x' /\ WeLL n m bl r r'
def jr (n m:Nat) (bl:List TkE) (sl:List (Nat × Sl)):List (Nat × Sl)->Prop
 | []=>True
 | p :: r=>(∃ x,get sl p.1=some ⟨p.2.gs,x⟩/\We n m bl x p.2.s)/\jr n m bl sl r
structure kG (n0 m0:Nat) (st aJ:St):Prop where
 all:∃ kept dropped new b0 r,m0<=kept.length/\n0<=b0.length/\st.tk=kept ++ dropped/\aJ.tk=kept ++ new/\(∀ q∈new,TkE.new q=true)/\st.bx=b0 ++ r/\WeLL b0.length kept.length aJ.tk b0 aJ.bx/\jr b0.length kept.length aJ.tk st.sl aJ.sl
theorem WeLL.length {n m:Nat} {bl:List TkE}:∀ {l l':List (List DV)},WeLL n m bl l l' -> l'.length=l.length
 | [],l',h=>by simp only [WeLL] at h;subst h;rfl
 | x :: r,l',h=>by
  simp only [WeLL] at h;obtain ⟨x',r',rfl,_,h2⟩:=h;simp [WeLL.length h2]
theorem WeLL.get {n m:Nat} {bl:List TkE}:∀ {l l':List (List DV)},WeLL n m bl l l' -> ∀ (i:Nat) cs',l'[i]? = some cs' -> ∃ cs,l[i]? = some cs/\WeL n m bl cs cs'
 | [],l',h,i,cs',hi=>by simp only [WeLL] at h;subst h;simp at hi
 | x :: r,l',h,i,cs',hi=>by
  simp only [WeLL] at h;obtain ⟨x',r',rfl,h1,h2⟩:=h
  cases i with
  | zero=>simp only [List.getElem?_cons_zero,oI] at hi;subst hi;exact ⟨x,rfl,h1⟩
  | succ i=>simp only [List.getElem?_cons_succ] at hi ⊢;exact WeLL.get h2 i cs' hi
theorem pw {n m:Nat} {bl:List TkE} {sl:List (Nat × Sl)}:∀ {l:List (Nat × Sl)},jr n m bl sl l->∀ i x',get l i=some x' -> ∃ x,get sl i=some ⟨x'.gs,x⟩/\We n m bl x x'.s
 | [],_,i,x',hx=>by cases hx
 | (k,y) :: r,h,i,x',hx=>by
  simp only [bT] at hx;split at hx
  ·rename_i lO;subst lO;simp only [oI] at hx;subst hx;exact h.1
  ·exact pw h.2 i x' hx
section
variable {X:Ctx} {E:En} {st aJ:St} {a:Act} {w:World} {k:List It}
def En.wk (E:En) (n:Nat) (kept new:List TkE):En:=⟨E.c,E.β.take n,kept ++ new,E.τ.take kept.length ++ List.replicate new.length (.slice none 0 0)⟩
theorem vJ {n:Nat} {kept dropped new:List TkE} (ht:E.tk=kept ++ dropped) (hl:E.τ.length=E.tk.length) (cm:∀ q∈new,TkE.new q=true) {x x':DV} {v:Value} (hx:We n kept.length (kept ++ new) x x') (hv:Rv E x v):Rv (E.wk n kept new) x' v:=by
 have mV:kept.length<=E.τ.length:=by rw [hl,ht];simp
 have first:∀ {x:DV},clB n kept.length x=true->Rv E x v->Rv (E.wk n kept new) x v:=by
  intro x hc hv;refine Rv.mono (E:=E.cut n kept.length) ⟨fun _ _ h=>h,fun _ _ h=>h,fun k q hq=>?_⟩ (Rv.cut hv hc);have jq:(E.tk.take kept.length)[k]? = some q:=hq;rw [bJ] at jq;split at jq
  ·rename_i hk;refine ⟨q,?_,.inl ⟨rfl,?_⟩⟩
   ·show (kept ++ new)[k]? = _
    grind
   ·show (E.τ.take kept.length ++ _)[k]? = (E.τ.take kept.length)[k]?
    grind
  ·cases jq
 rcases hx with ⟨rfl,hc⟩ | ⟨rfl,e,k,q,rfl,hk,hq⟩ | ⟨rfl,e,rfl⟩ | ⟨e,es,tk,rfl,rfl⟩ | ⟨e,es,u1,tk,rfl,rfl,he⟩ | ⟨e,es,u1,k,rfl,rfl,hk,he⟩
 ·exact first hc hv
 ·have:=aZ hv;subst this;unfold Rv;refine ⟨none,0,0,rfl,⟨rfl,bd _⟩,fun hn=>(hn rfl).elim,fun k' fF=>?_⟩;cases fF;have Ao:(kept ++ new)[k]? = some q:=hq;rw [List.getElem?_append_right hk] at Ao;have rX:=TkE.Ds (cm q (mG Ao));refine ⟨q,hq,by omega,fun _=>?_⟩;have av:=(gS Ao).1;show (E.τ.take kept.length ++ List.replicate new.length _)[k]? = _
  grind
 ·have:=aZ hv;subst this;unfold Rv;exact ⟨none,0,0,rfl,⟨rfl,bd _⟩,fun hn=>(hn rfl).elim,fun k hk=>by cases hk⟩
 ·unfold Rv at hv ⊢;obtain ⟨b,n,cap,h1,h2,h3,_⟩:=hv;exact ⟨b,n,cap,h1,h2,h3,fun k hk=>by cases hk⟩
 ·have hv:=IY he hv;unfold Rv at hv ⊢;obtain ⟨b,n,cap,h1,h2,h3,_⟩:=hv;exact ⟨b,n,cap,h1,h2,h3,fun k hk=>by cases hk⟩
 ·exact first (by simp only [clB];exact Nat.ble_eq_true_of_le hk) (IY he hv)
theorem r8 {n:Nat} {kept dropped new:List TkE} (ht:E.tk=kept ++ dropped) (hl:E.τ.length=E.tk.length) (cm:∀ q∈new,TkE.new q=true):∀ {l l':List DV} {vs:List Value},WeL n kept.length (kept ++ new) l l' -> RvL E l vs->RvL (E.wk n kept new) l' vs
 | [],l',vs,h,hv=>by grind [WeL,RvL]
 | x :: r,l',vs,h,hv=>by
  simp only [WeL] at h;obtain ⟨x',r',rfl,h1,h2⟩:=h;simp only [RvL] at hv ⊢;obtain ⟨v,s,h3,h4,h5⟩:=hv;exact ⟨v,s,h3,vJ ht hl cm h1 h4,r8 ht hl cm h2 h5⟩
theorem BB (h:Rel X E st a w) {kept dropped new:List TkE} {b0 r:List (List DV)} (eC:X.m0<=kept.length/\X.n0<=b0.length/\st.tk=kept ++ dropped/\aJ.tk=kept ++ new/\(∀ q∈new,TkE.new q=true)/\st.bx=b0 ++ r/\WeLL b0.length kept.length aJ.tk b0 aJ.bx/\jr b0.length kept.length aJ.tk st.sl aJ.sl):Rel X (E.wk b0.length kept new) aJ a w:=by
 obtain ⟨q8,tG,ht,oK,cm,hb,nO,yj⟩:=eC;rw [oK] at nO yj;have PD:E.tk=kept ++ dropped:=by rw [h.tk,ht]
 have hbl:=nO.length;have mV:kept.length<=E.τ.length:=by rw [h.env.tl,PD];simp
 have fI:b0.length<=E.β.length:=by rw [h.env.len,hb];simp
 have hτ:∀ (k:Nat) y,(E.τ.take kept.length ++ List.replicate new.length (Value.slice none 0 0))[k]? = some y->(k < kept.length/\E.τ[k]? = some y)∨(kept.length<=k/\y = .slice none 0 0):=fun k y hy=>by grind
 exact {
  env:={
   len:=by simp only [En.wk,zLenT];omega
   tl:=by simp only [En.wk,List.length_append,zLenT,List.length_replicate];omega
   cM:=fun i cs' hi=>by
    obtain ⟨cs,bP,QH⟩:=nO.get i cs' hi;have av:=(gS bP).1;obtain ⟨b,ty,arr,hbb,Tl,hc⟩:=h.env.cM i cs (by rw [hb,c9 av];exact bP);exact ⟨b,ty,arr,by simp only [En.wk];rw [bJ,aj av];exact hbb,Tl,r8 PD h.env.tl cm QH hc.1,hc.2⟩
   inj:=h.env.inj.sublist (List.take_sublist _ _)
   sub:=h.env.sub
   pc:=fun x v hx hm=>h.env.pc x v hx (List.mem_of_mem_take hm)
   bN:=fun k q y hq hy=>by
    rcases hτ k y hy with ⟨hk,eS⟩ | ⟨hk,rfl⟩
    ·have jq:(kept ++ new)[k]? = some q:=hq;rw [c9 hk] at jq;rcases h.env.bN k q y (by rw [PD,c9 hk];exact jq) eS with h1 | ⟨g,cap,cur,rfl,h1,h2,h3,h4,h5,h6⟩
     ·exact .inl h1
     ·exact .inr ⟨g,cap,cur,rfl,h1,h2,h3,h4,fun hm=>h5 (List.mem_of_mem_take hm),h6⟩
    ·have jq:(kept ++ new)[k]? = some q:=hq;rw [List.getElem?_append_right hk] at jq;exact .inl ⟨rfl,TkE.Ds (cm q (mG jq)),TkE.IP (cm q (mG jq))⟩
   fH:=fun k k' y y' g rW hy eS hg om=>by
    rcases hτ k y hy with ⟨_,re⟩ | ⟨_,rfl⟩
    ·rcases hτ k' y' eS with ⟨_,iL⟩ | ⟨_,rfl⟩
     ·exact h.env.fH k k' y y' g rW re iL hg om
     ·simp [Value.ownBlock] at om
    ·simp [Value.ownBlock] at hg }
  tk:=by simp only [En.wk];exact oK.symm
  sz:=h.sz
  tm:=fun i x' rU=>by
   obtain ⟨x,hx,QH⟩:=pw yj i x' rU;have:=h.tm i _ hx;refine ⟨fun hh=>?_,this.2⟩;obtain ⟨v,h1,h2⟩:=this.1 hh;exact ⟨v,h1,vJ PD h.env.tl cm QH h2⟩
  df:=h.df
  nw:={
   c:=h.nw.c
   cn:=h.nw.cn
   β:=by
    obtain ⟨r2,hr,hl⟩:=h.nw.β;refine ⟨r2.take (b0.length - X.n0),?_,fun b hb=>hl b (List.mem_of_mem_take hb)⟩;simp only [En.wk];rw [hr,List.take_append,List.take_of_length_le (by rw [X.tG];omega),X.tG]
   tk:=fun j q0 y0 rX rf=>by
    obtain ⟨q',y',h1,h2,h3⟩:=h.nw.tk j q0 y0 rX rf;have hj:j < X.m0:=by rw [<- X.q8];exact (gS rX).1
    grind [En.wk]
   tn:=fun j y g hj hy hg=>by
    rcases hτ j y hy with ⟨_,re⟩ | ⟨_,rfl⟩
    ·exact h.nw.tn j y g hj re hg
    ·simp [Value.ownBlock] at hg
   l0:=h.nw.l0 }
  fr:=h.fr
  sh:=h.sh
  bt:=h.bt.sub _ }
theorem px (h:Rel X E st a w) (hw:kG X.n0 X.m0 st aJ):∃ E',Rel X E' aJ a w:=by
 obtain ⟨_,_,_,_,_,eC⟩:=hw.all;exact ⟨_,BB h eC⟩
theorem least {p:Nat->Prop} (h:∃ n,p n):∃ n,p n/\∀ m,p m->n<=m:=by
 obtain ⟨n,hn⟩:=h
 induction n using Nat.strongRecOn with
 | _ n ih=>grind
theorem b9 {c:Code} (I:Nat->St->Prop) (j0:Nat) (fY:St) (hw:kG X.n0 X.m0 st fY) (h0:I j0 fY)
  (hr:∀ j s,I j s->go X 4000 (.code c :: .mC (fun s'=>∃ vK,kG X.n0 X.m0 s' vK /\ ∃ j',j' < j/\I j' vK) :: k) s):kI X c k st:=by
 intro E a w h;obtain ⟨E0,hr0⟩:=px h hw
 classical
 let Inv:Act->World->Prop:=fun a w=>∃ j s E,Rel X E s a w/\I j s
 let μ:Act->World->Nat:=fun a w=>if hI:Inv a w then Classical.choose (least hI) else 0
 refine wp_loop Inv μ ⟨j0,fY,E0,hr0,h0⟩ ?_;intro a1 w1 hI;have du:=(Classical.choose_spec (least hI)).1;obtain ⟨s,E1,ba,QI⟩:=du;have hs:=go_sound 4000 _ _ (hr _ s QI) E1 a1 w1 ba;rw [cH] at hs;refine wp_mono hs ?_;intro e a2 w2 hq
 cases e with
 | normal=>
  obtain ⟨s',E2,lU,vK,MI,j',eQ,MJ⟩:=hq;obtain ⟨E3,vM⟩:=px lU MI;have Kz:Inv a2 w2:=⟨j',vK,E3,vM,MJ⟩;refine ⟨Kz,?_⟩;simp only [μ,dif_pos hI,dif_pos Kz];exact Nat.lt_of_le_of_lt ((Classical.choose_spec (least Kz)).2 j' ⟨vK,E3,vM,MJ⟩) eQ
 | exit id=>exact hq
 | goto l=>exact hq
 | ret=>exact hq
 | panic c=>exact hq
 | outgrown=>exact hq
theorem au {n m:Nat} {bl:List TkE} {x:DV} (h:clB n m x=true):We n m bl x x:=.inl ⟨rfl,h⟩
theorem az {n m:Nat} {bl:List TkE} {kd:IntKind} {x y:Int} (h:x=y):We n m bl (.v (.int kd x)) (.v (.int kd y)):=.inl ⟨by rw [h],rfl⟩
theorem cT {n m:Nat} {bl:List TkE} {e k:Nat} {q:TkE} (h1:m<=k) (h2:bl[k]? = some q):We n m bl (.v (.slice none 0 0)) (.sl e [] (some k)):=.inr (.inl ⟨rfl,e,k,q,rfl,h1,h2⟩)
theorem dx {n m:Nat} {bl:List TkE} {e k:Nat} {es u1:List (List DV)} (h:es=u1) (hk:Nat.blt k m=true):We n m bl (.sl e es (some k)) (.sl e u1 (some k)):=.inl ⟨by rw [h],hk⟩
theorem KA {n m:Nat} {bl:List TkE} {e:Nat}:We n m bl (.v (.slice none 0 0)) (.sl e [] none):=.inr (.inr (.inl ⟨rfl,e,rfl⟩))
theorem ax {p:Prop} (h:p:=by repeat' (first | exact rfl | exact trivial | exact Or.inr (Or.inl ⟨_,rfl⟩) | exact Or.inr ⟨_,rfl⟩ | exact Or.inl ⟨rfl,rfl⟩ | exact Or.inl rfl | refine Or.inr ⟨_,_,rfl,Nat.zero_le _,rfl,?_⟩ | refine ⟨_,_,rfl,?_,?_⟩ | refine ⟨_,rfl,?_⟩ | refine Or.inr (Or.inr (Or.inr ⟨_,_,rfl,?_⟩)) | exact Or.inl rfl | refine Or.inr ?_)):p:=h
theorem wA {p:Prop} (h:p:=by repeat' (first | exact rfl | exact au rfl | refine ⟨_,_,rfl,?_,?_⟩)):p:=h
theorem wB {p:Prop} (h:p:=by repeat' (first | exact trivial | exact au rfl | refine ⟨⟨_,rfl,?_⟩,?_⟩)):p:=h
theorem Hg {n0 m0:Nat} {st aJ:St} (h1:∃ r,st.bx=aJ.bx ++ r) (h2:WeLL aJ.bx.length aJ.tk.length aJ.tk aJ.bx aJ.bx) (h3:st.tk=aJ.tk) (h4:Nat.ble n0 aJ.bx.length=true) (h5:Nat.ble m0 aJ.tk.length=true)
  (h:jr aJ.bx.length aJ.tk.length aJ.tk st.sl aJ.sl):kG n0 m0 st aJ:=by
 obtain ⟨r,hr⟩:=h1;exact ⟨aJ.tk,[],[],aJ.bx,r,by simpa using h5,by simpa using h4,by simp [h3],by simp,by simp,hr,h2,h⟩
theorem KB {n0 m0:Nat} {st aJ:St} (n:Nat) (hn:Nat.ble n st.bx.length=true) (h2:WeLL n aJ.tk.length aJ.tk (st.bx.take n) aJ.bx) (h3:st.tk=aJ.tk) (h4:Nat.ble n0 n=true) (h5:Nat.ble m0 aJ.tk.length=true)
  (h:jr n aJ.tk.length aJ.tk st.sl aJ.sl):kG n0 m0 st aJ:=by
 have hl:(st.bx.take n).length=n:=by simp_all
 exact ⟨aJ.tk,[],[],st.bx.take n,st.bx.drop n,by simpa using h5,by rw [hl];simpa using h4,by simp [h3],by simp,by simp,(List.take_append_drop n st.bx).symm,by rw [hl];exact h2,by rw [hl];exact h⟩
theorem jG {n0 m0:Nat} {st aJ:St} (q:TkE) (hq:q.new=true) (h1:∃ r,st.bx=aJ.bx ++ r) (h3:st.tk ++ [q]=aJ.tk) (h2:WeLL aJ.bx.length st.tk.length aJ.tk aJ.bx aJ.bx) (h4:Nat.ble n0 aJ.bx.length=true) (h5:Nat.ble m0 st.tk.length=true)
  (h:jr aJ.bx.length st.tk.length aJ.tk st.sl aJ.sl):kG n0 m0 st aJ:=by
 obtain ⟨r,hr⟩:=h1;exact ⟨st.tk,[],[q],aJ.bx,r,by simpa using h5,by simpa using h4,by simp,h3.symm,by simpa using hq,hr,h2,h⟩
end
end Dv
end Go.Proofs.YtfdedoiiahbnnaaGreat
namespace Go.Proofs.YtfdedoiiahbnnaaGreat
namespace Dv
theorem aL {p : Prop} (h : p := by repeat' (first | exact rfl | exact trivial | exact Or.inr (Or.inl ⟨_,rfl⟩) | exact Or.inr ⟨_,rfl⟩ | exact Or.inl ⟨rfl,rfl⟩ | exact Or.inl rfl | refine Or.inr ⟨_,_,rfl,Nat.zero_le _,rfl,?_⟩ | refine ⟨_,_,rfl,?_,?_⟩ | refine ⟨_,rfl,?_⟩ | exact ⟨nL rfl,rfl⟩ | refine Or.inr (Or.inr (Or.inr ⟨_,_,rfl,?_⟩)) | exact Or.inl rfl | refine Or.inr ?_)) : p := h
theorem aI {p : Prop} {a b : Int} (q : a=b) (h : a=b -> p := by intro q;repeat' (first | exact rfl | exact trivial | exact Or.inr (Or.inl ⟨_,rfl⟩) | exact Or.inr ⟨_,rfl⟩ | exact Or.inl ⟨rfl,rfl⟩ | exact Or.inl rfl | refine Or.inr ⟨_,_,rfl,Nat.zero_le _,rfl,?_⟩ | refine ⟨_,_,rfl,?_,?_⟩ | refine ⟨_,rfl,?_⟩ | exact congrArg (fun z=>DV.v (.int .i64 z)) q | refine Or.inr (Or.inr (Or.inr ⟨_,_,rfl,?_⟩)) | exact Or.inl rfl | refine Or.inr ?_)) : p := h q
theorem aB {p : Prop} {a b : Bool} (q : a=b) (h : a=b -> p := by intro q;repeat' (first | exact rfl | exact trivial | exact Or.inr (Or.inl ⟨_,rfl⟩) | exact Or.inr ⟨_,rfl⟩ | exact Or.inl ⟨rfl,rfl⟩ | exact Or.inl rfl | refine Or.inr ⟨_,_,rfl,Nat.zero_le _,rfl,?_⟩ | refine ⟨_,_,rfl,?_,?_⟩ | refine ⟨_,rfl,?_⟩ | exact congrArg (fun b=>DV.v (.bool b)) q | refine Or.inr (Or.inr (Or.inr ⟨_,_,rfl,?_⟩)) | exact Or.inl rfl | refine Or.inr ?_)) : p := h q
theorem wNA {p : Prop} {a b : Nat} (q : a < b) (hn : b <= 4611686018427387904 := by omega) (h : a < b -> b <= 4611686018427387904 -> p := by intro q hn;repeat' (first | exact rfl | exact au rfl | exact az (bV q hn) | refine ⟨_,_,rfl,?_,?_⟩)) : p := h q hn
theorem wNB {p : Prop} {a b : Nat} (q : a < b) (hn : b <= 4611686018427387904 := by omega) (h : a < b -> b <= 4611686018427387904 -> p := by intro q hn;repeat' (first | exact trivial | exact au rfl | exact az (bV q hn) | refine ⟨⟨_,rfl,?_⟩,?_⟩)) : p := h q hn
theorem wSA {p r : Prop} {a b : Nat} (q : a < b) (s : r) (hn : b <= 4611686018427387904 := by omega) (h : a < b -> b <= 4611686018427387904 -> r -> p := by intro q hn s;repeat' (first | exact rfl | exact au rfl | exact az (bV q hn) | exact dx s rfl | refine ⟨_,_,rfl,?_,?_⟩)) : p := h q hn s
theorem wSB {p r : Prop} {a b : Nat} (q : a < b) (s : r) (hn : b <= 4611686018427387904 := by omega) (h : a < b -> b <= 4611686018427387904 -> r -> p := by intro q hn s;repeat' (first | exact trivial | exact au rfl | exact az (bV q hn) | exact dx s rfl | refine ⟨⟨_,rfl,?_⟩,?_⟩)) : p := h q hn s
theorem wTB {p : Prop} (h : p := by repeat' (first | exact trivial | exact au rfl | exact cT (Nat.le_refl _) rfl | refine ⟨⟨_,rfl,?_⟩,?_⟩)) : p := h
theorem wTA {p : Prop} (h : p := by repeat' (first | exact rfl | exact au rfl | exact cT (Nat.le_refl _) rfl | refine ⟨_,_,rfl,?_,?_⟩)) : p := h
theorem wRB {p : Prop} (h : p := by repeat' (first | exact trivial | exact au rfl | exact az rfl | refine ⟨⟨_,rfl,?_⟩,?_⟩)) : p := h
theorem wRA {p : Prop} (h : p := by repeat' (first | exact rfl | exact au rfl | exact az rfl | refine ⟨_,_,rfl,?_,?_⟩)) : p := h
theorem BC {p:Prop}   (h:p:=by repeat' (first | exact rfl | exact au rfl | exact eh rfl | exact cI rfl | exact py _ | exact cT (Nat.le_refl _) rfl | exact cT (Nat.le_succ _) rfl | refine ⟨_,_,rfl,?_,?_⟩)):p:=h 
theorem GK {p:Prop} {P0:Prop} (x0:P0) (h:P0->p:=by intro x0;repeat' (first | exact rfl | exact au rfl | exact az x0 | exact eh x0 | exact dx x0 rfl | exact dV x0 | exact cI x0 | exact az (congrArg Nat.cast x0) | exact au x0 | exact e8 x0 | exact x0 | exact eh rfl | exact cI rfl | exact py _ | exact cT (Nat.le_refl _) rfl | exact cT (Nat.le_succ _) rfl | refine ⟨_,_,rfl,?_,?_⟩)):p:=h x0
theorem Hh {p:Prop} {P0:Prop} {P1:Prop} (x0:P0) (x1:P1) (h:P0->P1->p:=by intro x0 x1;repeat' (first | exact rfl | exact au rfl | exact az x0 | exact eh x0 | exact dx x0 rfl | exact dV x0 | exact cI x0 | exact az (congrArg Nat.cast x0) | exact au x0 | exact e8 x0 | exact x0 | exact az x1 | exact eh x1 | exact dx x1 rfl | exact dV x1 | exact cI x1 | exact az (congrArg Nat.cast x1) | exact au x1 | exact e8 x1 | exact x1 | exact eh rfl | exact cI rfl | exact py _ | exact cT (Nat.le_refl _) rfl | exact cT (Nat.le_succ _) rfl | refine ⟨_,_,rfl,?_,?_⟩)):p:=h x0 x1
theorem tU {p:Prop}   (h:p:=by repeat' (first | exact trivial | exact au rfl | exact cT (Nat.le_refl _) rfl | exact cT (Nat.le_succ _) rfl | exact az rfl | refine ⟨⟨_,rfl,?_⟩,?_⟩)):p:=h 
theorem iG {p:Prop} {P0:Prop} (x0:P0) (h:P0->p:=by intro x0;repeat' (first | exact trivial | exact au rfl | exact az x0 | exact eh x0 | exact dx x0 rfl | exact dV x0 | exact cI x0 | exact az (congrArg Nat.cast x0) | exact au x0 | exact e8 x0 | exact x0 | exact cT (Nat.le_refl _) rfl | exact cT (Nat.le_succ _) rfl | exact az rfl | refine ⟨⟨_,rfl,?_⟩,?_⟩)):p:=h x0
theorem q5 {p:Prop} {P0:Prop} {P1:Prop} (x0:P0) (x1:P1) (h:P0->P1->p:=by intro x0 x1;repeat' (first | exact trivial | exact au rfl | exact az x0 | exact eh x0 | exact dx x0 rfl | exact dV x0 | exact cI x0 | exact az (congrArg Nat.cast x0) | exact au x0 | exact e8 x0 | exact x0 | exact az x1 | exact eh x1 | exact dx x1 rfl | exact dV x1 | exact cI x1 | exact az (congrArg Nat.cast x1) | exact au x1 | exact e8 x1 | exact x1 | exact cT (Nat.le_refl _) rfl | exact cT (Nat.le_succ _) rfl | exact az rfl | refine ⟨⟨_,rfl,?_⟩,?_⟩)):p:=h x0 x1
theorem MK {p:Prop} {P0:Prop} {P1:Prop} {P2:Prop} (x0:P0) (x1:P1) (x2:P2) (h:P0->P1->P2->p:=by intro x0 x1 x2;repeat' (first | exact trivial | exact au rfl | exact az x0 | exact eh x0 | exact dx x0 rfl | exact dV x0 | exact cI x0 | exact az (congrArg Nat.cast x0) | exact au x0 | exact e8 x0 | exact x0 | exact az x1 | exact eh x1 | exact dx x1 rfl | exact dV x1 | exact cI x1 | exact az (congrArg Nat.cast x1) | exact au x1 | exact e8 x1 | exact x1 | exact az x2 | exact eh x2 | exact dx x2 rfl | exact dV x2 | exact cI x2 | exact az (congrArg Nat.cast x2) | exact au x2 | exact e8 x2 | exact x2 | exact cT (Nat.le_refl _) rfl | exact cT (Nat.le_succ _) rfl | exact az rfl | refine ⟨⟨_,rfl,?_⟩,?_⟩)):p:=h x0 x1 x2
theorem ML {p:Prop} {P0:Prop} {P1:Prop} {P2:Prop} {P3:Prop} (x0:P0) (x1:P1) (x2:P2) (x3:P3) (h:P0->P1->P2->P3->p:=by intro x0 x1 x2 x3;repeat' (first | exact trivial | exact au rfl | exact az x0 | exact eh x0 | exact dx x0 rfl | exact dV x0 | exact cI x0 | exact az (congrArg Nat.cast x0) | exact au x0 | exact e8 x0 | exact x0 | exact az x1 | exact eh x1 | exact dx x1 rfl | exact dV x1 | exact cI x1 | exact az (congrArg Nat.cast x1) | exact au x1 | exact e8 x1 | exact x1 | exact az x2 | exact eh x2 | exact dx x2 rfl | exact dV x2 | exact cI x2 | exact az (congrArg Nat.cast x2) | exact au x2 | exact e8 x2 | exact x2 | exact az x3 | exact eh x3 | exact dx x3 rfl | exact dV x3 | exact cI x3 | exact az (congrArg Nat.cast x3) | exact au x3 | exact e8 x3 | exact x3 | exact cT (Nat.le_refl _) rfl | exact cT (Nat.le_succ _) rfl | exact az rfl | refine ⟨⟨_,rfl,?_⟩,?_⟩)):p:=h x0 x1 x2 x3
theorem aT {p:Prop}   (h:p:=by repeat' (first | exact rfl | exact trivial | exact Or.inr (Or.inl ⟨_,rfl⟩) | exact Or.inr ⟨_,rfl⟩ | exact Or.inl ⟨rfl,rfl⟩ | exact Or.inl rfl | refine Or.inr ⟨_,_,rfl,Nat.zero_le _,rfl,?_⟩ | refine ⟨_,_,rfl,?_,?_⟩ | refine ⟨_,rfl,?_⟩ | exact ⟨nL rfl,rfl⟩ | refine Or.inr (Or.inr (Or.inr ⟨_,_,rfl,?_⟩)) | exact Or.inl rfl | refine Or.inr ?_)):p:=h 
theorem r9 {p:Prop} {P0:Prop} (x0:P0) (h:P0->p:=by intro x0;repeat' (first | exact rfl | exact trivial | exact Or.inr (Or.inl ⟨_,rfl⟩) | exact Or.inr ⟨_,rfl⟩ | exact Or.inl ⟨rfl,rfl⟩ | exact Or.inl rfl | refine Or.inr ⟨_,_,rfl,Nat.zero_le _,rfl,?_⟩ | refine ⟨_,_,rfl,?_,?_⟩ | refine ⟨_,rfl,?_⟩ | exact congrArg (fun z=>DV.v (.int .i64 z)) x0 | exact congrArg (fun z=>DV.v (.int .i64 z)) (congrArg Nat.cast x0) | exact congrArg (fun b=>DV.v (.bool b)) x0 | exact x0 | exact Or.inr (Or.inl ⟨_,x0⟩) | apply x0 | exact ⟨nL rfl,rfl⟩ | refine Or.inr (Or.inr (Or.inr ⟨_,_,rfl,?_⟩)) | exact Or.inl rfl | refine Or.inr ?_)):p:=h x0
theorem Tx {p:Prop} {P0:Prop} {P1:Prop} (x0:P0) (x1:P1) (h:P0->P1->p:=by intro x0 x1;repeat' (first | exact rfl | exact trivial | exact Or.inr (Or.inl ⟨_,rfl⟩) | exact Or.inr ⟨_,rfl⟩ | exact Or.inl ⟨rfl,rfl⟩ | exact Or.inl rfl | refine Or.inr ⟨_,_,rfl,Nat.zero_le _,rfl,?_⟩ | refine ⟨_,_,rfl,?_,?_⟩ | refine ⟨_,rfl,?_⟩ | exact congrArg (fun z=>DV.v (.int .i64 z)) x0 | exact congrArg (fun z=>DV.v (.int .i64 z)) (congrArg Nat.cast x0) | exact congrArg (fun b=>DV.v (.bool b)) x0 | exact x0 | exact Or.inr (Or.inl ⟨_,x0⟩) | apply x0 | exact congrArg (fun z=>DV.v (.int .i64 z)) x1 | exact congrArg (fun z=>DV.v (.int .i64 z)) (congrArg Nat.cast x1) | exact congrArg (fun b=>DV.v (.bool b)) x1 | exact x1 | exact Or.inr (Or.inl ⟨_,x1⟩) | apply x1 | exact ⟨nL rfl,rfl⟩ | refine Or.inr (Or.inr (Or.inr ⟨_,_,rfl,?_⟩)) | exact Or.inl rfl | refine Or.inr ?_)):p:=h x0 x1
theorem iX {α:Type _} {P:α->Prop} {cs:α} {i:Int} {l:List α} (g:l[i.toNat]? = some cs) (k:P cs) (h:0<=i:=by omega):∃ cs,(0<=i/\l[i.toNat]? = some cs)/\P cs:=⟨cs,⟨h,g⟩,k⟩
theorem lI {X:Ctx} {st:St} {k:List It} {c:Code} (I:Nat->St->Prop) {j0:Nat} {fY:St} (h0:I j0 fY) (hw:kG X.n0 X.m0 st fY)
 (hr:∀ j s,I j s->go X 4000 (.code c :: .mC (fun s'=>∃ vK,kG X.n0 X.m0 s' vK/\∃ j',j' < j/\I j' vK) :: k) s):kI X c k st:=b9 I j0 fY hw h0 hr
theorem lJ {X:Ctx} {st:St} {k:List It} {c:Code} (S:Nat->St) (n:Nat) (hw:kG X.n0 X.m0 st (S 0))
 (hr:∀ e,e<=n->go X 4000 (.code c :: .mC (fun s'=>∃ vK,kG X.n0 X.m0 s' vK/\∃ j',j' < n - e/\∃ e:Nat,vK=S e/\e<=n/\j'=n - e) :: k) (S e)):kI X c k st:=b9 (fun j st=>∃ e:Nat,st=S e/\e<=n/\j=n - e) (n - 0) (S 0) hw ⟨0,rfl,Nat.zero_le _,rfl⟩ fun j s h=>by
 obtain ⟨e,rfl,he,rfl⟩:=h;exact hr e he
theorem dH {a b : Bool} (h : a = b) : DV.v (.bool a) = .v (.bool b) := h ▸ rfl
theorem BD {a b : Int} (h : a = b) : DV.v (.int .i64 a) = .v (.int .i64 b) := h ▸ rfl
theorem cL {n0 m0 : Nat} {st aJ : St} (h : jr aJ.bx.length aJ.tk.length aJ.tk st.sl aJ.sl) (h1 : ∃ r,st.bx = aJ.bx ++ r := by exact ⟨_,rfl⟩) (h2 : WeLL aJ.bx.length aJ.tk.length aJ.tk aJ.bx aJ.bx := by exact wA) (h3 : st.tk = aJ.tk := by exact rfl) (h4 : Nat.ble n0 aJ.bx.length = true := by exact rfl) (h5 : Nat.ble m0 aJ.tk.length = true := by exact rfl) : kG n0 m0 st aJ := Hg h1 h2 h3 h4 h5 h
theorem jy {n0 m0 : Nat} {st aJ : St} (n : Nat) (h2 : WeLL n aJ.tk.length aJ.tk (st.bx.take n) aJ.bx) (h : jr n aJ.tk.length aJ.tk st.sl aJ.sl) (hn : Nat.ble n st.bx.length = true := by exact rfl) (h3 : st.tk = aJ.tk := by exact rfl) (h4 : Nat.ble n0 n = true := by exact rfl) (h5 : Nat.ble m0 aJ.tk.length = true := by exact rfl) : kG n0 m0 st aJ := KB n hn h2 h3 h4 h5 h
abbrev aA (k : Nat) (n : Int) : Nat × Sl := (k,⟨[],.v (.int .i64 n)⟩)
abbrev QJ (k : Nat) (b : Bool) : Nat × Sl := (k,⟨[],.v (.bool b)⟩)
abbrev aS (k i : Nat) : Nat × Sl := (k,⟨[],.loc i 0⟩)
abbrev ry (k : Nat) (c : List DV) : Nat × Sl := (k,⟨[],.pt c 0⟩)
abbrev dJ (k e : Nat) (l : List (List DV)) : Nat × Sl := (k,⟨[],.sl e l none⟩)
end Dv
end Go.Proofs.YtfdedoiiahbnnaaGreat
namespace Go.Proofs.YtfdedoiiahbnnaaGreat
namespace Dv
open Go
section
variable {P:Program} {ops:Array Oper} {C:World->Prop} {Q:Act->World->Prop} {W:Nat->Bool} {π:Nat->Nat}
theorem MM {o:Oper} {a:Act} {w:World} {K:Act->World->Prop} (h:wq P o a w K):∃ v w',K (a.put o.dst v) w':=by
 unfold wq at h;split at h
 ·exact ⟨_,_,h⟩
 ·exact ⟨_,_,h⟩
 ·obtain ⟨e,w',fr,⟨v,_,hv⟩,_⟩:=h [];exact ⟨v,w',hv⟩
 ·exact h.elim
theorem KC {x y:Oper} {v:Value} (L5:x.apart ops y=true) (hs:∀ cs b,y.op ≠ .select cs b) {a:Act} {w:World} {K:Act->World->Prop} :
  wq P y (a.put x.dst v) w K↔wq P y a w (fun a' w'=>K (a'.put x.dst v) w'):=by
 obtain ⟨h1,h2,h3⟩:=Oper.apart_spec L5;unfold wq;rw [execOp_put y hs a x.dst v h1];have hc:∀ u,(a.put x.dst v).put y.dst u=(a.put y.dst u).put x.dst v:=fun u=>Act.put_comm a v u h2
 cases (execOp a.eval y).run P w with
 | halt h w'=>rfl
 | ok n w'=>cases n<;>simp [hc]
def Yl (P:Program) (ops:Array Oper) (C:World->Prop) (o:Oper) (v:Value) (a:Act):Prop:=
 (Region.wanted o (yielded ops a.tmps)=true/\∀ w,(isL o.op=true->C w)->(execOp a.eval o).run P w = .ok (.value v) w) ∨
 (Region.wanted o (yielded ops a.tmps)=false/\v=undef)
theorem Yl.same {x y:Oper} {v u:Value} (L5:x.apart ops y=true) (hs:∀ cs b,y.op ≠ .select cs b) {a:Act}:Yl P ops C y v (a.put x.dst u)↔Yl P ops C y v a:=by
 obtain ⟨h1,h2,h3⟩:=Oper.apart_spec L5;unfold Yl;rw [execOp_put y hs a x.dst u h1,wanted_put y a x.dst u h1]
def cd (P:Program) (ops:Array Oper) (o:Oper) (a:Act) (w:World) (K:Act->World->Prop):Prop:=
 if Region.wanted o (yielded ops a.tmps)=true then wq P o a w K else K (a.put o.dst undef) w
theorem bM {o:Oper} {a:Act} {w:World} {K K':Act->World->Prop} (hk:∀ a w,K a w->K' a w) (h:cd P ops o a w K):cd P ops o a w K':=by grind [cd,iN]
theorem ka {x y:Oper} {v:Value} (L5:x.apart ops y=true) (hs:∀ cs b,y.op ≠ .select cs b) {a:Act} {w:World} {K:Act->World->Prop} :
  cd P ops y (a.put x.dst v) w K↔cd P ops y a w (fun a' w'=>K (a'.put x.dst v) w'):=by
 obtain ⟨h1,h2,h3⟩:=Oper.apart_spec L5;unfold cd;rw [wanted_put y a x.dst v h1];split
 ·exact KC L5 hs
 ·rw [Act.put_comm a v undef h2]
theorem DN {o:Oper} {a:Act} {w:World} {K:Act->World->Prop} (h:cd P ops o a w K):∃ v w',K (a.put o.dst v) w':=by grind [cd,MM]
theorem iP {o:Oper} {a:Act} {w:World} {K:Act->World->Prop} (h:cd P ops o a w K):cd P ops o a w (fun a' w'=>K a' w' /\ ∃ u,a'=a.put o.dst u):=by grind [cd,wq]
theorem fl {o:Oper} {a:Act} {w:World} {v:Value} {K:Act->World->Prop} (hy:Yl P ops C o v a) (hc:isL o.op=true->C w) (hk:K (a.put o.dst v) w):cd P ops o a w K:=by
 unfold cd;rcases hy with ⟨hw,hv⟩ | ⟨hw,rfl⟩
 ·grind [wq]
 ·rw [ah (by simp [hw])];exact hk
theorem jH {o:Oper} {a:Act} {w:World} {v:Value} {K:Act->World->Prop} (hy:Yl P ops C o v a) (hc:isL o.op=true->C w) (h:cd P ops o a w K):K (a.put o.dst v) w:=by
 unfold cd at h;rcases hy with ⟨hw,hv⟩ | ⟨hw,rfl⟩
 ·grind [wq]
 ·rw [ah (by simp [hw])] at h;exact h
def runT (P:Program) (ops:Array Oper) (W:Nat->Bool) (C:World->Prop) (Q:Act->World->Prop):List Nat->Act->World->Prop
 | [],a,w=>Q a w
 | i :: r,a,w=>
  match ops[i]? with
  | none=>False
  | some o=>
   if isE o.op=true then cd P ops o a w fun a' w'=>(W i=false->C w->C w')/\runT P ops W C Q r a' w'
   else ∃ v,Yl P ops C o v a/\(isL o.op=true->C w)/\runT P ops W C Q r (a.put o.dst v) w
def ik (ops:Array Oper) (W:Nat->Bool) (j i:Nat):Bool:=
 match ops[j]?,ops[i]? with
 | some x,some y=>x.apart ops y && y.apart ops x && !(isE x.op && isE y.op) && !(isL x.op && W i)
 | _,_=>false
def DO (ops:Array Oper) (l:List Nat):Prop:=∃ i o,i∈l/\ops[i]? = some o/\isL o.op=true
theorem cV {j i:Nat} {x y:Oper} (h:ik ops W j i=true) (hj:ops[j]? = some x) (hi:ops[i]? = some y) :
  x.apart ops y=true/\y.apart ops x=true/\¬ (isE x.op=true/\isE y.op=true)/\¬ (isL x.op=true/\W i=true):=by
 unfold ik at h;rw [hj,hi] at h;simp only [aP,Bool.not_eq_true',Bool.and_eq_false_iff] at h;refine ⟨h.1.1.1,h.1.1.2,?_,?_⟩
 ·grind
 ·grind
theorem kW (dP:∀ (j:Nat) (o:Oper) cs b,ops[j]? = some o->o.op ≠ .select cs b) {i:Nat} {o:Oper} (hi:ops[i]? = some o) (hR:isE o.op=false) :
  ∀ (rem:List Nat) (a:Act) (w:World),runT P ops W C Q rem a w->i∈rem->(∀ j∈rem,j≠i->π j < π i->ik ops W j i=true)->rem.Pairwise (fun a b=>π a < π b)->∃ v,Yl P ops C o v a
 | [],_,_,_,hm,_,_=>by cases hm
 | h :: rem,a,w,hr,hm,vN,hp=>by
  simp only [runT] at hr;by_cases Dd:h=i
  ·grind
  ·have iE:i∈rem:=by grind
   have av:π h < π i:=(List.pairwise_cons.1 hp).1 i iE;split at hr
   ·exact hr.elim
   ·rename_i x hx;obtain ⟨BE,IZ,_,_⟩:=cV (vN h (by simp) Dd av) hx hi;have ih:=fun a w hr=>kW dP hi hR rem a w hr iE (fun j hj=>vN j (dn _ hj)) (List.pairwise_cons.1 hp).2
    grind [DN,Yl.same]
theorem sa {h:Nat} {rem:List Nat} (hl:DO ops rem):DO ops (h :: rem):=by
 obtain ⟨i,o,hm,ho,hL⟩:=hl;exact ⟨i,o,dn _ hm,ho,hL⟩
theorem gy (dP:∀ (j:Nat) (o:Oper) cs b,ops[j]? = some o->o.op ≠ .select cs b) (GL:∀ j i x y,π j < π i->ops[i]? = some x->ops[j]? = some y->isL x.op=true->W j=false) {i:Nat} {o:Oper} (hi:ops[i]? = some o) :
  ∀ (rem:List Nat) (a:Act) (w:World),(DO ops rem->C w)->runT P ops W C Q rem a w->i∈rem->(∀ j∈rem,j≠i->π j < π i->ik ops W j i=true)->rem.Pairwise (fun a b=>π a < π b) ->
   cd P ops o a w (fun a' w'=>(W i=false->C w->C w')/\runT P ops W C Q (rem.erase i) a' w')
 | [],_,_,_,_,hm,_,_=>by cases hm
 | h :: rem,a,w,hC,hr,hm,vN,hp=>by
  by_cases Dd:h=i
  ·grind [runT,fl]
  ·have iE:i∈rem:=by grind
   have av:π h < π i:=(List.pairwise_cons.1 hp).1 i iE;have rz:=(List.pairwise_cons.1 hp).2;rw [List.erase_cons_tail (sU Dd)];have hr0:=hr;simp only [runT] at hr;split at hr
   ·exact hr.elim
   ·rename_i x hx;obtain ⟨BE,IZ,hEE,Tz⟩:=cV (vN h (by simp) Dd av) hx hi;have QK:=fun cs b=>dP h x cs b hx;have De:=fun cs b=>dP i o cs b hi;have MN:∀ j∈rem,j≠i->π j < π i->ik ops W j i=true:=fun j hj=>vN j (dn _ hj);split at hr
    ·-- the head has an effect: so o has none
     rename_i TA;have QL:isE o.op=false:=by grind
     obtain ⟨v,hy⟩:=kW (π:=π) dP hi QL (h :: rem) a w hr0 hm vN hp;have hci:isL o.op=true->C w:=fun hL=>hC ⟨i,o,hm,hi,hL⟩;refine fl hy hci ⟨fun _ h=>h,?_⟩;simp only [runT,hx,TA,if_true];refine (ka IZ QK).2 ?_;refine bM ?_ (iP hr);rintro a' w' ⟨⟨BF,ei⟩,u,rfl⟩;refine ⟨BF,?_⟩
     have QM:DO ops rem->C w':=by
      intro hl;have x5:=hl;obtain ⟨l,z,hlm,hz,hL⟩:=hl;exact BF (GL h l z x ((List.pairwise_cons.1 hp).1 l hlm) hz hx hL) (hC (sa x5))
     have ih:=gy dP GL hi rem _ w' QM ei iE MN rz;have eS:=(Yl.same (u:=u) BE De).2 hy
     grind [jH]
    ·rename_i TA;obtain ⟨v,hy,hc,ei⟩:=hr;have ih:=gy dP GL hi rem (a.put x.dst v) w (fun hl=>hC (sa hl)) ei iE MN rz;refine bM ?_ (iP ((ka BE De).1 ih))
     grind [runT,Yl.same]
def ordB (ops:Array Oper):Nat->Nat->Nat->Bool
 | 0,_,_=>false
 | n + 1,j,i=>
  match ops[i]? with
  | some o=>o.after.toList.any fun e=>Region.binds .any e && (Nat.beq e.on j || ordB ops n j e.on)
  | none=>false
def oq (ops:Array Oper) (W:Nat->Bool) (π:Nat->Nat):Bool:=
 Region.noSelect ops &&
 (List.range ops.size).all fun i=>
  match ops[i]? with
   | some o=>o.after.toList.all (fun e=>!Region.binds .any e || (Nat.blt (π e.on) (π i) && Nat.blt e.on ops.size)) && (!isL o.op || (List.range ops.size).all fun j=>!Nat.blt (π j) (π i) || !W j)
   | none=>false
def vO (ops:Array Oper) (W:Nat->Bool) (π:Nat->Nat) (ex:Nat->Nat->Bool):Bool:=
 (List.range ops.size).all fun i=>(List.range ops.size).all fun j=>!Nat.blt (π j) (π i) || ex j i || ordB ops ops.size j i || ik ops W j i
def MO:Nat->Nat->Bool:=fun _ _=>false
def yr (ops:Array Oper) (W:Nat->Bool):Bool:=oq ops W (fun i=>i) && vO ops W (fun i=>i) MO
def Dn (ops:Array Oper) (ak:Array Bool):Prop:=
 ∀ i o,ops[i]? = some o->ak.getD i true=true->∀ e∈o.after,Region.binds .any e=true->ak.getD e.on false=true
theorem jI {ak:Array Bool} (hd:Dn ops ak):∀ (n:Nat) (j i:Nat) (o:Oper),ops[i]? = some o->(∀ e∈o.after,Region.binds .any e=true->ak.getD e.on false=true)->ordB ops n j i=true->ak.getD j false=true
 | 0,j,i,o,_,_,h=>by simp [ordB] at h
 | n + 1,j,i,o,ho,eC,h=>by
  simp only [ordB,ho,List.any_eq_true,aP,Bool.or_eq_true] at h;obtain ⟨e,he,hb,hj⟩:=h;have KD:e∈o.after:=sU he;have h1:=eC e KD hb;rcases hj with hj | hj
  ·have:e.on=j:=sU hj;rw [<- this];exact h1
  ·cases KE:ops[e.on]? with
   | none=>
    cases n with
    | zero=>simp [ordB] at hj
    | succ n=>simp [ordB,KE] at hj
   | some o'=>
    have hg:ak.getD e.on true=true:=by grind
    exact jI hd n j e.on o' KE (hd e.on o' KE hg) hj
theorem tV (hc:oq ops W π=true):∀ j i x y,π j < π i->ops[i]? = some x->ops[j]? = some y->isL x.op=true->W j=false:=by
 simp only [oq,aP,List.all_eq_true,List.mem_range] at hc;intro j i x y Km hx hy hL;have hj:=(Array.getElem?_eq_some_iff.1 hy).1;have:=hc.2 i (Array.getElem?_eq_some_iff.1 hx).1;simp only [hx,aP,Bool.or_eq_true,hL,Bool.not_true,Bool.false_eq_true,false_or,List.all_eq_true,List.mem_range,Bool.not_eq_true'] at this;rcases this.2 j hj with h1 | h1
 ·have:¬ Nat.blt (π j) (π i)=true:=by simp [h1]
  simp at this;omega
 ·exact h1
theorem sb (hc:oq ops W π=true):∀ i x,ops[i]? = some x->∀ e∈x.after,Region.binds .any e=true->π e.on < π i/\e.on < ops.size:=by
 simp only [oq,aP,List.all_eq_true,List.mem_range] at hc;intro i x hx e he hb;have:=hc.2 i (Array.getElem?_eq_some_iff.1 hx).1;simp only [hx,aP,List.all_eq_true,Bool.or_eq_true] at this;have h2:=this.1 e (sU he);rw [hb] at h2;simpa using h2
theorem vP (hc:oq ops W π=true):∀ (j:Nat) (o:Oper) cs b,ops[j]? = some o->o.op ≠ .select cs b:=by
 simp only [oq,aP] at hc;exact Region.noSelect_spec hc.1
theorem tW:∀ {l:List Nat},l.Pairwise (fun a b=>π a < π b)->∀ {x y:Nat},x∈l->y∈l->x≠y->π x < π y∨π y < π x
 | [],_,x,y,hx,_,_=>by cases hx
 | h :: r,hp,x,y,hx,hy,aY=>by
  have rz:=List.pairwise_cons.1 hp;rcases bX hx with e1 | e1
  ·grind
  ·rcases bX hy with e2 | e2
   ·subst e2;exact .inr (rz.1 _ e1)
   ·exact tW rz.2 e1 e2 aY
theorem kX {Q':Exit->Act->World->Prop} (ex:Nat->Nat->Bool) (QN:oq ops W π=true) (TB:vO ops W π ex=true) (hQ:∀ a w,Q a w->Q' .normal a w):∀ (fm:Nat) (ak:Array Bool) (rem:List Nat) (a:Act) (w:World),
  ak.size=ops.size->Dn ops ak->(∀ i,i∈rem↔i < ops.size/\ak.getD i true=false)->rem.Pairwise (fun a b=>π a < π b)->rem.length<=fm->(∀ j∈rem,∀ i∈rem,ex j i=false)->(DO ops rem->C w)->runT P ops W C Q rem a w ->
   wpAny P .any ops Q' fm ak a w:=by
 have dP:=vP QN;have GL:=tV QN;have DP:=sb QN;simp only [vO,List.all_eq_true,List.mem_range,Bool.or_eq_true,Bool.not_eq_true'] at TB;intro fm
 induction fm with
 | zero=>
  intro ak rem a w cf PE iQ hp hlen hex hC hr;have:rem=[]:=List.length_eq_zero_iff.1 (by omega);subst this;refine ⟨?_,hQ _ _ hr⟩;rw [List.eq_nil_iff_forall_not_mem];intro i hi;have:=(mem_ready.1 hi)
  grind
 | succ fm ih=>
  intro ak rem a w cf PE iQ hp hlen hex hC hr
  have KF:∀ i,i∈Region.ready .any ops ak->i∈rem:=by
   intro i hi;obtain ⟨h1,o,ho,_⟩:=mem_ready.1 hi
   grind
  refine ⟨fun h0=>?_,fun i hi=>?_⟩
  ·cases rem with
   | nil=>exact hQ _ _ hr
   | cons h rem=>
    have hh:=(iQ h).1 (by simp);have hx:ops[h]? = some ops[h]:=Array.getElem?_eq_getElem hh.1
    have:h∈Region.ready .any ops ak:=by
     refine mem_ready.2 ⟨hh.2,_,hx,fun e he hb=>?_⟩;obtain ⟨av,KG⟩:=DP h _ hx e he hb;cases hg:ak.getD e.on false
     ·have GM:ak.getD e.on true=false:=by grind
      have hm:=(iQ e.on).2 ⟨by omega,GM⟩;rcases bX hm with e1 | e1
      ·rw [e1] at av;omega
      ·have:=(List.pairwise_cons.1 hp).1 _ e1;omega
     ·rfl
    rw [h0] at this;cases this
  ·have jt:=KF i hi;obtain ⟨QO,o,ho,eC⟩:=mem_ready.1 hi;have iF:=(Array.getElem?_eq_some_iff.1 ho).1
   have vN:∀ j∈rem,j≠i->π j < π i->ik ops W j i=true:=by
    intro j hj _ av;rcases TB i iF j ((iQ j).1 hj).1 with ((h1 | h1) | h1) | h1
    ·have:¬ Nat.blt (π j) (π i)=true:=by simp [h1]
     simp at this;omega
    ·rw [hex j hj i jt] at h1;cases h1
    ·grind [jI]
    ·exact h1
   have bo:=gy dP GL ho rem a w hC hr jt vN hp;have hnd:rem.Nodup:=lD hp
   have key:∀ a' w',((W i=false->C w->C w')/\runT P ops W C Q (rem.erase i) a' w')->wpAny P .any ops Q' fm (ak.setIfInBounds i true) a' w':=by
    rintro a' w' ⟨BF,ei⟩;refine ih (ak.setIfInBounds i true) (rem.erase i) a' w' (by simp [cf]) ?_ ?_ (hp.sublist List.erase_sublist) (by rw [List.length_erase_of_mem jt];omega) (fun j hj i hi=>hex j (List.mem_of_mem_erase hj) i (List.mem_of_mem_erase hi)) ?_ ei
    ·intro k x hx hk e he hb;by_cases lO:k=i
     ·subst lO;rw [ho] at hx;simp only [oI] at hx;subst hx;exact getD_set_true (eC e he hb)
     ·rw [getD_set_ne true (Ne.symm lO)] at hk;exact getD_set_true (PE k x hx hk e he hb)
    ·intro k;rw [List.Nodup.mem_erase_iff hnd];by_cases lO:k=i
     ·subst lO;simp [cf,iF]
     ·rw [getD_set_ne true (Ne.symm lO)]
      grind
    ·rintro ⟨l,z,hl,hz,hL⟩;have x5:=List.mem_of_mem_erase hl;have aY:l≠i:=fun e=>by subst e;exact (List.Nodup.mem_erase_iff hnd).1 hl |>.1 rfl
     have Hi:=hC ⟨l,z,x5,hz,hL⟩;refine BF ?_ Hi;rcases Nat.lt_or_ge (π i) (π l) with h1 | h1
     ·exact GL i l z o h1 hz ho hL
     ·have h0:π l≠π i:=by
       intro he;rcases tW hp x5 jt aY with h2 | h2<;>omega
      have:=vN l x5 aY (by omega);obtain ⟨_,_,_,h4⟩:=cV this hz ho
      grind
   unfold wpOp
   grind [cd,Ak,iN]
theorem gY {id:Nat} {Q':Exit->Act->World->Prop} {a:Act} {w:World} (hm:P.follows .mixedOrders=true) (hc:yr ops W=true) (hQ:∀ a w,Q a w->Q' .normal a w)
  (hC:C w.drew) (h:runT P ops W C Q (List.range ops.size) a w.drew):(Code.region id ops true).wp P Q' a w:=by
 refine wp_region_any hm ?_;simp only [yr,aP] at hc;refine kX (π:=fun i=>i) MO hc.1 hc.2 hQ ops.size (Array.replicate ops.size false) (List.range ops.size) a _ (by simp) ?_ ?_ List.pairwise_lt_range (by simp) (fun _ _ _ _=>rfl) (fun _=>hC) h
 ·intro i o ho hl;have:i < ops.size:=(Array.getElem?_eq_some_iff.1 ho).1;simp [this] at hl
 ·simp_all
end
end Dv
end Go.Proofs.YtfdedoiiahbnnaaGreat
namespace Go.Proofs.YtfdedoiiahbnnaaGreat
namespace Dv
open Go Go.RowKit
structure Dr where
 ops:Array Oper
 W:Nat->Bool
 k:List It
 fY:St
 fin:Option (Bool->List (Nat × Sl)->St->Prop)
structure Dw where
 d:Dr
 E0:En
 wr:World
structure CC (E0:En) (bx:List (List DV)) (wr w:World):Prop where
 o:∀ (i:Nat) b cs,E0.β[i]? = some b->bx[i]? = some cs->cs ≠ []->w.heap[b]? = wr.heap[b]?
 c:∀ x v,E0.c x=some v->w.cell? x=some v
abbrev Dw.C (D:Dw) (w:World):Prop:=CC D.E0 D.d.fY.bx D.wr w
structure mW (E:En) (bx:List (List DV)) (w:World):Prop where
 len:E.β.length=bx.length
 cM:∀ (i:Nat) cs,bx[i]? = some cs->cs ≠ []->∃ b ty arr,E.β[i]? = some b/\w.heap[b]? = some (.cells (List.toArray arr) ty (0,0))/\RvC E cs arr
theorem Env.em {E:En} {bx:List (List DV)} {w:World} (h:Env E bx w):mW E bx w:=⟨h.len,fun i cs hi _=>h.cM i cs hi⟩
def MP:Option (List DV)->Bool
 | some []=>true
 | _=>false
theorem Hj {o:Option (List DV)} (h:MP o=true):o=some []:=by
 cases o with
 | none=>cases h
 | some l=>
  cases l with
  | nil=>rfl
  | cons _ _=>cases h
def Dw.wc (D:Dw) (E:En):En:=⟨D.E0.c,E.β,E.tk,E.τ⟩
structure dy (X:Ctx) (D:Dw) (c:Bool) (E:En) (s0:List (Nat × Sl)) (st:St) (a:Act) (w:World):Prop where
 rel:Rel X E st a w
 x:Ext D.E0 E
 β:∃ r,E.β=D.E0.β ++ r
 t0:∀ i x,get s0 i=some x->(Holds a.tmps x.gs->∃ v,a.tmps[i]? = some v/\Rv (D.wc E) x.s v)/\(¬ Holds a.tmps x.gs->a.tmps[i]? = some undef)
 cc:c=true->D.C w
def Dw.Q (D:Dw) (X:Ctx) (a:Act) (w:World):Prop:=
 match D.d.fin with
 | none=>kq X D.d.k .normal a w
 | some F=>∃ c E s0 st,dy X D c E s0 st a w/\F c s0 st
def delF {γ:Type _} (d:Nat):List (Nat × Sl)->(List (Nat × Sl)->γ)->γ
 | [],K=>K []
 | p :: r,K=>
  match Nat.beq p.1 d with
  | true=>delF d r K
  | false=>delF d r (fun r'=>K (p :: r'))
theorem kb {γ:Type _} (d:Nat):∀ (l:List (Nat × Sl)) (K:List (Nat × Sl)->γ),delF d l K=K (l.filter fun p=>!Nat.beq p.1 d)
 | [],K=>rfl
 | p :: r,K=>by
  simp only [delF,List.filter_cons];cases h:Nat.beq p.1 d
  ·simp only [Bool.not_false,if_true];rw [kb d r]
  ·simp only [Bool.not_true,Bool.false_eq_true,if_false];rw [kb d r K]
theorem get_filter (d:Nat):∀ (l:List (Nat × Sl)) (i:Nat) (x:Sl),get (l.filter fun p=>!Nat.beq p.1 d) i=some x->i≠d/\get l i=some x
 | [],i,x,h=>by cases h
 | (k,y) :: r,i,x,h=>by
  simp only [List.filter_cons] at h;split at h
  ·rename_i hk
   have hk:k≠d:=by
    rintro rfl;simp at hk
   simp only [bT] at h ⊢;split at h
   ·grind
   ·rename_i lO;rw [ah lO];exact get_filter d r i x h
  ·rename_i hk;have hk:k=d:=sU hk;obtain ⟨h1,h2⟩:=get_filter d r i x h
   grind [bT]
def scal:DV->Bool
 | .v _=>true
 | .ud=>true
 | .loc _ _=>true
 | .el _ _=>true
 | _=>false
def put2 (s0:List (Nat × Sl)) (st:St) (dst:Option Nat) (b:Bool) (gs:List (Nat × Bool)) (s:DV) (K:List (Nat × Sl)->St->Prop):Prop:=
 match dst with
 | none=>K s0 st
 | some d=>
  match st with
  | ⟨sl,bx,tk⟩=>
   match b || scal s with
   | true=>K ((d,⟨gs,s⟩) :: s0) ⟨(d,⟨gs,s⟩) :: sl,bx,tk⟩
   | false=>delF d s0 fun fi=>K fi ⟨(d,⟨gs,s⟩) :: sl,bx,tk⟩
def optP:Option Prop->Prop
 | some p=>p
 | none=>False
def pR (X:Ctx) (D:Dr) (c:Bool) (s0:List (Nat × Sl)) (st:St) (G:List (Nat × Bool)) (op:Op):Option (Bool × DV):=
 match !isE op && (!isL op || c) with
 | false=>none
 | true=>
  match pureT X.P X.T ⟨s0,D.fY.bx,[]⟩ G op with
  | some s=>some (true,s)
  | none=>
   match isL op with
   | true=>none
   | false=>
    match pureT X.P X.T ⟨st.sl,[],[]⟩ G op with
    | some s=>some (false,s)
    | none=>none
def eR (X:Ctx) (D:Dr) (c:Bool) (s0:List (Nat × Sl)) (st:St) (op:Op) (K:Bool->DV->Prop):Option Prop:=
 match isE op with
 | true=>none
 | false=>
  match isL op with
  | true=>
   match c with
   | true=>effR X ⟨s0,D.fY.bx,[]⟩ op (K true)
   | false=>none
  | false=>
   match effR X ⟨s0,[],[]⟩ op (K true) with
   | some p=>some p
   | none=>effR X ⟨st.sl,[],[]⟩ op (K false)
def sc (X:Ctx) (D:Dr) (c:Bool) (i:Nat) (l:List (Nat × Oper)) (f:FuncId) (args:List DV) (dst:Option Nat) (s0:List (Nat × Sl)) (st:St):Prop:=
 Go.Proofs.Enters X.P f/\((∀ p∈l,D.ops[p.1]? = some p.2)->∀ (E0:En) (wr:World),mW E0 D.fY.bx wr->∀ E a w vs,dy X ⟨D,E0,wr⟩ c E s0 st a w->RvL E args vs->Calls X.P f vs.toArray w fun e w'=>∃ v,e = .returned v /\
  (D.W i=false->CC E0 D.fY.bx wr w->CC E0 D.fY.bx wr w')/\runT X.P D.ops D.W (CC E0 D.fY.bx wr) (Dw.Q ⟨D,E0,wr⟩ X) (l.map (·.1)) (a.put dst v) w')
def TC (X:Ctx) (D:Dr) (c:Bool) (i:Nat) (l:List (Nat × Oper)) (o:Oper) (s0:List (Nat × Sl)) (st:St):Prop:=
 (∀ p∈l,D.ops[p.1]? = some p.2)->∀ (E0:En) (wr:World),mW E0 D.fY.bx wr->∀ E a w,dy X ⟨D,E0,wr⟩ c E s0 st a w->wq X.P o a w fun a' w'=>
  (D.W i=false->CC E0 D.fY.bx wr w->CC E0 D.fY.bx wr w')/\runT X.P D.ops D.W (CC E0 D.fY.bx wr) (Dw.Q ⟨D,E0,wr⟩ X) (l.map (·.1)) a' w'
def effE (X:Ctx) (D:Dr) (c:Bool) (i:Nat) (l:List (Nat × Oper)) (o:Oper) (s0:List (Nat × Sl)) (st:St) (K:Bool->List (Nat × Sl)->St->Prop):Prop:=
 match o.op with
 | .store t x y=>
  match o.dst with
  | some _=>False
  | none=>
   match D.W i with
   | true=>optP (effC X st o (K false s0))
   | false=>
    match stObj st o.op with
    | some j=>
     match Nat.ble D.fY.bx.length j || MP D.fY.bx[j]? with
     | true=>optP (effC X st o (K c s0))
     | false=>False
    | none=>False
 | .call cl=>
  match cl.callee with
  | .value f=>
   match rv st [] f,argsV st [] cl.args.toList with
   | some (.fn g first captured),some vs=>sc X D c i l g (first ++ vs ++ captured) o.dst s0 st
   | _,_=>False
  | _=>
   match o.dst with
   | some d=>optP (effC X st o fun aJ=>delF d s0 fun fi=>K c fi aJ)
   | none=>False
 | _=>
  match o.dst with
  | some d=>
   match effC X st o fun aJ=>
    match get aJ.sl d with
    | some ⟨[],.loc j off⟩=>K c ((d,⟨[],.loc j off⟩) :: s0) aJ
    | _=>delF d s0 fun fi=>K c fi aJ with
   | some p=>p
   | none=>TC X D c i l o s0 st
  | none=>False
def goD (X:Ctx) (D:Dr):Nat->Bool->List (Nat × Oper)->List (Nat × Sl)->St->Prop
 | _,c,[],s0,st=>
  match D.fin with
  | none=>go X 4000 D.k st
  | some F=>F c s0 st
 | 0,_,_ :: _,_,_=>False
 | n + 1,c,(i,o) :: r,s0,st=>
  match dF X.nt st.sl o.dst && dF X.nt s0 o.dst with
  | false=>False
  | true=>
   match o.guard with
   | none=>
    match isE o.op with
    | true=>effE X D c i r o s0 st fun c' fi aJ=>goD X D n c' r fi aJ
    | false=>
     match pR X D c s0 st [] o.op with
     | some (b,s)=>put2 s0 st o.dst b [] s (goD X D n c r)
     | none=>optP (eR X D c s0 st o.op fun b s=>put2 s0 st o.dst b [] s (goD X D n c r))
   | some (j,want)=>
    match gslot D.ops.toList j with
    | none=>False
    | some d=>
     match get st.sl d with
     | none=>False
     | some ⟨iD,_⟩=>
      match pR X D c s0 st ((d,want) :: iD) o.op with
      | some (b,s)=>
       match Qr ((d,want) :: iD) o.dst with
       | true=>put2 s0 st o.dst b ((d,want) :: iD) s (goD X D n c r)
       | false=>False
      | none=>
       match get st.sl (lastG (d,want) iD).1 with
       | some ⟨[],.v (.bool b)⟩=>
        match iD with
        | []=>Br (b == want)
          (rb st d want fun Df=>resL d want s0 fun s2=>
           match isE o.op with
           | true=>effE X D c i r o s2 Df fun c' fi aJ=>goD X D n c' r fi aJ
           | false=>optP (eR X D c s2 Df o.op fun b s=>put2 s2 Df o.dst b [] s (goD X D n c r)))
          (match !isL o.op || c with
           | true=>rb st d (!want) fun Df=>resL d (!want) s0 fun s2=>put2 s2 Df o.dst true [] .ud (goD X D n c r)
           | false=>False)
        | _ :: _=>Br (b == (lastG (d,want) iD).2)
          (rb st (lastG (d,want) iD).1 (lastG (d,want) iD).2 fun Df=>resL (lastG (d,want) iD).1 (lastG (d,want) iD).2 s0 fun s2=>goD X D n c ((i,o) :: r) s2 Df)
          (rb st (lastG (d,want) iD).1 (!(lastG (d,want) iD).2) fun Df=>resL (lastG (d,want) iD).1 (!(lastG (d,want) iD).2) s0 fun s2=>goD X D n c ((i,o) :: r) s2 Df)
       | some ⟨[],.ud⟩=>
        match iD with
        | []=>
         match !isL o.op || c with
         | true=>put2 s0 st o.dst true [] .ud (goD X D n c r)
         | false=>False
        | _ :: _=>False
       | _=>False
section
variable {X:Ctx} {D:Dw} {c:Bool} {i:Nat} {s0:List (Nat × Sl)} {st:St} {E:En} {a:Act} {w:World}
theorem KH (h:Ext D.E0 E):Ext D.E0 (D.wc E):=⟨fun _ _ h=>h,h.β,h.tk⟩
theorem yt (h:Ext D.E0 E):Ext (D.wc E) E:=⟨h.c,fun _ _ h=>h,fun k q hq=>⟨q,hq,.inl ⟨rfl,rfl⟩⟩⟩
theorem tX {E':En} (h:Ext E E'):Ext (D.wc E) (D.wc E'):=⟨fun _ _ h=>h,h.β,h.tk⟩
theorem dy.QP (h:dy X D c E s0 st a w) (hD:mW D.E0 D.d.fY.bx D.wr):Rl (D.wc E) D.d.fY.bx D.C s0 a where
 tm:=h.t0
 cM:=fun i cs hi=>by
  by_cases aY:cs=[]
  ·subst aY;have av:i < D.E0.β.length:=by rw [hD.len];exact (gS hi).1
   exact ⟨_,[],h.x.β i _ (gE av),⟨bE _,by simp⟩,fun w' _ j u hj=>by simp at hj⟩
  ·obtain ⟨b,ty,arr,hb,hw,hc⟩:=hD.cM i cs hi aY;exact ⟨b,arr,h.x.β i b hb,hc.mono (KH h.x),fun w' hC j u hj=>by rw [bD ((hC.o i b cs hb hi aY).trans hw)];simpa using hj⟩
 cc:=fun x v hx w' hC=>hC.c x v hx
theorem dy.TD (h:dy X D c E s0 st a w):Rl E [] (fun w'=>∀ x v,E.c x=some v->w'.cell? x=some v) st.sl a where
 tm:=h.rel.tm
 cM:=fun i cs hi=>by simp at hi
 cc:=fun x v hx w' hC=>hC x v hx
theorem Ap {s:DV} {v:Value} (hs:scal s=true) (hv:Rv E s v):Rv (D.wc E) s v:=by
 cases s<;>simp [scal] at hs
 ·unfold Rv at hv ⊢;exact hv
 ·unfold Rv at hv ⊢;exact hv
 ·unfold Rv at hv ⊢;exact hv
 ·unfold Rv at hv ⊢;exact hv
theorem fo (h:dy X D c E s0 st a w) {dst:Option Nat} (hd:(dF X.nt st.sl dst && dF X.nt s0 dst)=true) (b:Bool) (gs:List (Nat × Bool)) (s:DV) (v:Value) (Bs:∀ d,dst=some d->∀ p∈gs,p.1≠d)
  (u3:Holds a.tmps gs->Rv E s v) (mO:b=true->Holds a.tmps gs->Rv (D.wc E) s v) (Da:¬ Holds a.tmps gs->v=undef) {K:List (Nat × Sl)->St->Prop} (hk:put2 s0 st dst b gs s K) :
  ∃ fi aJ,K fi aJ /\ dy X D c E fi aJ (a.put dst v) w:=by
 simp only [aP] at hd;have h1:=lN h.rel hd.1 gs s v Bs u3 Da
 cases dst with
 | none=>exact ⟨s0,st,hk,h1,h.x,h.β,h.t0,h.cc⟩
 | some d=>
  obtain ⟨sl,bx,tk⟩:=st;have BG:=hd.2;simp only [dF,aP,Nat.blt_eq] at BG
  have hold:∀ i x,i≠d->get s0 i=some x->(Holds (a.put (some d) v).tmps x.gs->∃ u,(a.put (some d) v).tmps[i]? = some u/\Rv (D.wc E) x.s u)/\(¬ Holds (a.put (some d) v).tmps x.gs->(a.put (some d) v).tmps[i]? = some undef):=by
   intro i x hi hx;simp only [Act.put];rw [Array.getElem?_setIfInBounds_ne (Ne.symm hi),ig (iK BG.2 i x hx)];exact h.t0 i x hx
  simp only [put2] at hk;split at hk
  ·rename_i hb;refine ⟨_,_,hk,h1,h.x,h.β,fun i x hx=>?_,h.cc⟩;simp only [bT] at hx;split at hx
   ·rename_i Kb;subst Kb;simp only [oI] at hx;subst hx;have h2:(a.tmps.setIfInBounds d v)[d]? = some v:=by simp [Array.getElem?_setIfInBounds,h.rel.sz,BG.1]
    simp only [Act.put]
    grind [ig,Ap]
   all_goals grind
  ·rw [kb] at hk;refine ⟨_,_,hk,h1,h.x,h.β,fun i x hx=>?_,h.cc⟩;obtain ⟨h3,h4⟩:=get_filter d s0 i x hx;exact hold i x h3 h4
theorem iR (h:dy X D c E s0 st a w) {d:Nat} {b:Bool} (hd:a.tmps[d]? = some (.bool b)):dy X D c E (s0.map (bc d b)) (st.resolve d b) a w where
 rel:=gO h.rel hd
 x:=h.x
 β:=h.β
 t0:=by
  intro i y hy;simp only [get_map,Option.map_eq_some_iff] at hy;obtain ⟨x,hx,rfl⟩:=hy;have ht:=h.t0 i x hx;unfold bc;split
  ·rename_i hi;have iF:i=d:=sU hi;subst iF;exact ⟨fun _=>⟨_,hd,dq rfl⟩,fun hn=>(hn (aG _)).elim⟩
  ·split
   ·grind [Holds,nK,aG]
   ·have he:Holds a.tmps (x.gs.filter fun p=>p != (d,b))↔Holds a.tmps x.gs:=by
     constructor
     ·intro hh p hp;by_cases Kc:p=(d,b)
      ·subst Kc;exact hd
      ·exact hh p (by simp [List.mem_filter,hp,Kc])
     ·intro hh p hp;exact hh p (List.mem_filter.1 hp).1
    simp only [he];exact ht
 cc:=h.cc
theorem lV {nt d:Nat} {b:Bool} {dst:Option Nat} (h:(dF nt st.sl dst && dF nt s0 dst)=true):(dF nt (st.resolve d b).sl dst && dF nt (s0.map (bc d b)) dst)=true:=by
 simp only [aP] at h ⊢;exact ⟨gP h.1,gP (st:=⟨s0,[],[]⟩) h.2⟩
theorem vQ (hD:mW D.E0 D.d.fY.bx D.wr) (h:dy X D c E s0 st a w) {G:List (Nat × Bool)} (hG:Holds a.tmps G) {o:Oper} {b:Bool} {s:DV} (hp:pR X D.d c s0 st G o.op=some (b,s)) :
  isE o.op=false/\(isL o.op=true->c=true)/\∃ v,Rv E s v/\(b=true->Rv (D.wc E) s v)/\∀ w,(isL o.op=true->D.C w)->(execOp a.eval o).run X.P w = .ok (.value v) w:=by
 unfold pR at hp;split at hp
 ·cases hp
 ·rename_i hc;simp only [aP,Bool.not_eq_true',Bool.or_eq_true] at hc;refine ⟨hc.1,fun hL=>?_,?_⟩
  ·grind
  ·split at hp
   ·rename_i s' hs;simp only [oI,Prod.mk.injEq] at hp;obtain ⟨rfl,rfl⟩:=hp;obtain ⟨v,hv,hr⟩:=cR (st:=⟨s0,D.d.fY.bx,[]⟩) X.hT (h.QP hD) hG hs;exact ⟨v,Rv.mono (yt h.x) hv,fun _=>hv,hr⟩
   ·split at hp
    ·cases hp
    ·rename_i hL;split at hp
     ·rename_i s' hs;simp only [oI,Prod.mk.injEq] at hp;obtain ⟨rfl,rfl⟩:=hp;obtain ⟨v,hv,hr⟩:=cR (st:=⟨st.sl,[],[]⟩) X.hT h.TD hG hs
      grind
     ·cases hp
theorem DQ (hD:mW D.E0 D.d.fY.bx D.wr) (h:dy X D c E s0 st a w) {o:Oper} {K:Bool->DV->Prop} (hp:optP (eR X D.d c s0 st o.op K)) :
  isE o.op=false/\(isL o.op=true->c=true)/\∃ b s v,K b s/\Rv E s v/\(b=true->Rv (D.wc E) s v)/\∀ w,(isL o.op=true->D.C w)->(execOp a.eval o).run X.P w = .ok (.value v) w:=by
 unfold eR at hp;split at hp
 ·exact hp.elim
 ·rename_i hE;refine ⟨hE,?_⟩;split at hp
  ·rename_i hL;split at hp
   ·refine ⟨fun _=>rfl,?_⟩
    cases hs:effR X ⟨s0,D.d.fY.bx,[]⟩ o.op (K true) with
    | none=>rw [hs] at hp;exact hp.elim
    | some p=>
     rw [hs] at hp;obtain ⟨s,hk,v,hv,hr⟩:=iM (st:=⟨s0,D.d.fY.bx,[]⟩) (h.QP hD) hs hp;exact ⟨true,s,v,hk,Rv.mono (yt h.x) hv,fun _=>hv,hr⟩
   ·exact hp.elim
  ·rename_i hL;have gQ:∀ w':World,isL o.op=true->False:=fun w' h1=>by rw [hL] at h1;cases h1
   refine ⟨fun h1=>(by rw [hL] at h1;cases h1),?_⟩;split at hp
   ·rename_i p hs;obtain ⟨s,hk,v,hv,hr⟩:=iM (st:=⟨s0,[],[]⟩) (C:=D.C) ⟨h.t0,fun i cs hi=>by simp at hi,(h.QP hD).cc⟩ hs hp;exact ⟨true,s,v,hk,Rv.mono (yt h.x) hv,fun _=>hv,fun w' _=>hr w' fun h1=>(gQ w' h1).elim⟩
   ·cases hs:effR X ⟨st.sl,[],[]⟩ o.op (K false) with
    | none=>rw [hs] at hp;exact hp.elim
    | some p=>
     rw [hs] at hp;obtain ⟨s,hk,v,hv,hr⟩:=iM (st:=⟨st.sl,[],[]⟩) h.TD hs hp
     grind
theorem Aq {P:Program} {o:Oper} {K:Act->World->Prop} (h:wq P o a w K):wq P o a w fun a' w'=>K a' w' /\ ∃ u,a'=a.put o.dst u:=by grind [wq]
theorem vR (h:dy X D c E s0 st a w) {t:Option Nat} {E':En} {aJ:St} {a':Act} {w':World} (hs:Bu t E w E' w') (hr:Rel X E' aJ a' w') (ht:∀ j,t=some j->D.E0.β.length<=j∨D.d.fY.bx[j]? = some []):D.C w->D.C w':=fun hC=>
 ⟨fun i b cs hb bP aY=>by
  have eQ:=h.x.β i b hb
  rw [hs.o i _ eQ fun e=>by
   rcases ht i e with h1 | h1
   ·have:=(gS hb).1;omega
   ·rw [bP] at h1;simp only [oI] at h1;exact aY h1]
  exact hC.o i b cs hb bP aY,fun x v hx=>hr.env.sub x v (hs.x.c x v (h.x.c x v hx))⟩
theorem lW (h:dy X D c E s0 st a w) {t:Option Nat} {E':En} {aJ:St} {w':World} {c':Bool} {fi:List (Nat × Sl)} {dst:Option Nat} {u:Value} (hs:Bu t E w E' w') (hr:Rel X E' aJ (a.put dst u) w') (nN:c'=true->D.C w')
  (ht0:∀ i x,get fi i=some x->(∃ d,dst=some d/\i=d/\scal x.s=true/\get aJ.sl d=some x)∨(get s0 i=some x/\∀ d,dst=some d->i≠d)) (hd:dF X.nt s0 dst=true):dy X D c' E' fi aJ (a.put dst u) w' where
 rel:=hr
 x:=by
  refine ⟨fun y v hy=>hs.x.c y v (h.x.c y v hy),fun j b hb=>hs.x.β j b (h.x.β j b hb),fun k q hq=>?_⟩;obtain ⟨q1,h1,h2⟩:=h.x.tk k q hq;obtain ⟨q2,h3,h4⟩:=hs.x.tk k q1 h1
  grind
 β:=by
  obtain ⟨r1,h1⟩:=h.β;obtain ⟨r2,h2⟩:=hs.β
  grind
 t0:=fun i x hx=>by
  rcases ht0 i x hx with ⟨d,rfl,rfl,GG,hg⟩ | ⟨hg,aY⟩
  ·have:=hr.tm _ _ hg
   grind [Ap]
  ·have h1:=h.t0 i x hg
   cases dst with
   | none=>
    refine ⟨fun hh=>?_,h1.2⟩;obtain ⟨v,h2,h3⟩:=h1.1 hh;exact ⟨v,h2,Rv.mono (tX hs.x) h3⟩
   | some d=>
    simp only [dF,aP,Nat.blt_eq] at hd;simp only [Act.put];rw [Array.getElem?_setIfInBounds_ne (Ne.symm (aY d rfl)),ig (iK hd.2 i x hg)];refine ⟨fun hh=>?_,h1.2⟩;obtain ⟨v,h2,h3⟩:=h1.1 hh;exact ⟨v,h2,Rv.mono (tX hs.x) h3⟩
 cc:=nN
def MQ (X:Ctx) (D:Dw) (l:List Nat) (G:Bool->List (Nat × Sl)->St->Prop):Prop:=∀ c s0 st,G c s0 st->∀ E a w,dy X D c E s0 st a w->runT X.P D.d.ops D.d.W D.C (D.Q X) l a w
theorem yu (hD:mW D.E0 D.d.fY.bx D.wr) {l:List (Nat × Oper)} (hl:∀ p∈l,D.d.ops[p.1]? = some p.2) {G:Bool->List (Nat × Sl)->St->Prop} (hG:MQ X D (l.map (·.1)) G) {o:Oper} (hd:(dF X.nt st.sl o.dst && dF X.nt s0 o.dst)=true) (h:dy X D c E s0 st a w)
  (he:effE X D.d c i l o s0 st G):wq X.P o a w fun a' w'=>(D.d.W i=false->D.C w->D.C w')/\runT X.P D.d.ops D.d.W D.C (D.Q X) (l.map (·.1)) a' w':=by
 have Hk:=hd;simp only [aP] at Hk;have hlen:D.E0.β.length=D.d.fY.bx.length:=hD.len
 have core:∀ (K:St->Prop) (p:Prop) (c1:Bool),effC X st o K=some p->p->(c1=true->c=true)->(c1=true∨D.d.W i=false->∀ j,stObj st o.op=some j->D.E0.β.length<=j∨D.d.fY.bx[j]? = some []) ->
   (∀ aJ,K aJ -> ∃ fi,G c1 fi aJ /\ ∀ i x,get fi i=some x->(∃ d,o.dst=some d/\i=d/\scal x.s=true/\get aJ.sl d=some x)∨(get s0 i=some x/\∀ d,o.dst=some d->i≠d)) ->
   wq X.P o a w fun a' w'=>(D.d.W i=false->D.C w->D.C w')/\runT X.P D.d.ops D.d.W D.C (D.Q X) (l.map (·.1)) a' w':=by
  intro K p c1 hp hpp hc1 bo hK;refine iN ?_ (Aq (kU Hk.1 h.rel hp hpp));rintro a' w' ⟨⟨aJ,E',hk,hr,hs⟩,u,rfl⟩;refine ⟨fun hW=>vR h hs hr (bo (.inr hW)),?_⟩;obtain ⟨fi,hg,ht0⟩:=hK aJ hk;exact hG c1 fi aJ hg E' _ w' (lW h hs hr (fun hc=>vR h hs hr (bo (.inl hc)) (h.cc (hc1 hc))) ht0 Hk.2)
 have I0:(∀ t x y,o.op ≠ .store t x y)->∀ j,stObj st o.op=some j->D.E0.β.length<=j∨D.d.fY.bx[j]? = some []:=by simp_all [stObj]
 have MR:∀ (d:Nat) (aJ:St),o.dst=some d->∀ i x,get (s0.filter fun p=>!Nat.beq p.1 d) i=some x->(∃ d,o.dst=some d/\i=d/\scal x.s=true/\get aJ.sl d=some x)∨(get s0 i=some x/\∀ d,o.dst=some d->i≠d):=by
  intro d aJ gz i x hx;obtain ⟨h1,h2⟩:=get_filter d s0 i x hx
  grind
 unfold effE at he;split at he
 ·rename_i t x y ou;split at he
  ·exact he.elim
  ·rename_i gz;have vE:∀ aJ:St,∀ i x,get s0 i=some x->(∃ d,o.dst=some d/\i=d/\scal x.s=true/\get aJ.sl d=some x)∨(get s0 i=some x/\∀ d,o.dst=some d->i≠d):=fun aJ i x hx=>.inr ⟨hx,fun d hd=>by rw [gz] at hd;cases hd⟩;split at he
   ·rename_i hW
    cases hp:effC X st o (G false s0) with
    | none=>rw [hp] at he;exact he.elim
    | some p=>
     rw [hp] at he;exact core _ p false hp he (by intro h;cases h) (by rintro (h1 | h1);cases h1;rw [hW] at h1;cases h1) fun aJ hk=>⟨s0,hk,vE aJ⟩
   ·split at he
    ·rename_i j hj;split at he
     ·rename_i jv
      have jv:D.d.fY.bx.length<=j∨D.d.fY.bx[j]? = some []:=by
       rcases Bool.or_eq_true _ _ |>.mp jv with h1 | h1
       ·exact .inl (sU h1)
       ·exact .inr (Hj h1)
      cases hp:effC X st o (G c s0) with
      | none=>rw [hp] at he;exact he.elim
      | some p=>
       rw [hp] at he;exact core _ p c hp he id (fun _ j' eQ=>by rw [hj] at eQ;cases eQ;rw [hlen];exact jv) fun aJ hk=>⟨s0,hk,vE aJ⟩
     ·exact he.elim
    ·exact he.elim
 ·rename_i cl ou;split at he
  ·rename_i f ov;split at he
   ·rename_i g first captured vs hf x5
    obtain ⟨gV,jJ⟩:=he;have fN:=h.rel.rl;have e1:=aK fN hf;unfold Rv at e1;obtain ⟨l1,r1,e1,Bw,hr1⟩:=e1;have hargs:=eZ fN (aG _) _ _ x5;obtain ⟨dst,op,ty,pos,after,gu⟩:=o;obtain ⟨callee,args,argTypes⟩:=cl;simp only at ou ov;subst ou ov
    have hr:(execOp a.eval ⟨dst,.call ⟨.value f,args,argTypes⟩,ty,pos,after,gu⟩).run X.P w = .ok (.enter g (l1 ++ args.toList.map a.eval ++ r1).toArray) w:=by
     have e3:(l1.toArray ++ args.map a.eval ++ r1.toArray)=(l1 ++ args.toList.map a.eval ++ r1).toArray:=by apply Array.ext';simp
     simp only [execOp,resolve,e1,Deferred.ofValue,Sem.run_bind,Sem.run_pure,Result.andThen_ok,invoke,e3];exact gV _ _
    unfold wq;rw [hr];exact jJ hl D.E0 D.wr hD E a w _ h ((Bw.append hargs).append hr1)
   ·exact he.elim
  ·split at he
   ·rename_i d gz
    cases hp:effC X st o (fun aJ=>delF d s0 fun fi=>G c fi aJ) with
    | none=>rw [hp] at he;exact he.elim
    | some p=>
     rw [hp] at he;refine core _ p c hp he id (fun _=>I0 (fun t x y h1=>by rw [ou] at h1;cases h1)) fun aJ hk=>?_;rw [kb] at hk;exact ⟨_,hk,MR d aJ gz⟩
   ·exact he.elim
 ·rename_i u6 GW;split at he
  ·rename_i d gz
   cases hp:effC X st o (fun aJ=>
    match get aJ.sl d with
    | some ⟨[],.loc j off⟩=>G c ((d,⟨[],.loc j off⟩) :: s0) aJ
    | _=>delF d s0 fun fi=>G c fi aJ) with
   | none=>rw [hp] at he;exact he hl D.E0 D.wr hD E a w h
   | some p=>
    rw [hp] at he;refine core _ p c hp he id (fun _=>I0 u6) fun aJ hk=>?_;split at hk
    ·rename_i j off hg;refine ⟨_,hk,fun i x hx=>?_⟩;simp only [bT] at hx;split at hx
     ·rename_i Kb;simp only [oI] at hx;subst hx;exact .inl ⟨d,gz,Kb.symm,rfl,hg⟩
     all_goals grind
    ·rw [kb] at hk;exact ⟨_,hk,MR d aJ gz⟩
  ·exact he.elim
theorem dh (hD:mW D.E0 D.d.fY.bx D.wr):∀ n c l s0 st,goD X D.d n c l s0 st->(∀ p∈l,D.d.ops[p.1]? = some p.2)->∀ E a w,dy X D c E s0 st a w->runT X.P D.d.ops D.d.W D.C (D.Q X) (l.map (·.1)) a w
 | n,c,[],s0,st,hg,hl=>by
  intro E a w h;have hg:(match D.d.fin with | none=>go X 4000 D.d.k st | some F=>F c s0 st):=by cases n<;>simpa only [goD] using hg
  show D.Q X a w;unfold Dw.Q
  cases hf:D.d.fin with
  | none=>
   rw [hf] at hg;exact go_sound 4000 _ _ hg E a w h.rel
  | some F=>
   rw [hf] at hg;exact ⟨c,E,s0,st,h,hg⟩
 | 0,c,_ :: _,s0,st,hg,_=>by exact hg.elim
 | n + 1,c,(i,o) :: r,s0,st,hg,hl=>by
  intro E a w h;have ho:D.d.ops[i]? = some o:=hl (i,o) (by simp);have x5:∀ p∈r,D.d.ops[p.1]? = some p.2:=fun p hp=>hl p (dn _ hp);simp only [List.map_cons];have ih:∀ c s0 st,goD X D.d n c r s0 st->∀ E a w,dy X D c E s0 st a w->runT X.P D.d.ops D.d.W D.C (D.Q X) (r.map (·.1)) a w:=fun c s0 st hg=>dh hD n c r s0 st hg x5;have ihG:MQ X D (r.map (·.1)) (fun c s0 st=>goD X D.d n c r s0 st):=fun c s0 st hg=>ih c s0 st hg;simp only [goD,Ac,tH] at hg;split at hg
  ·exact hg.elim
  ·rename_i hd
   have fR:∀ (v:Value) fi aJ,isE o.op=false->Yl X.P D.d.ops D.C o v a->(isL o.op=true->c=true)->goD X D.d n c r fi aJ -> dy X D c E fi aJ (a.put o.dst v) w ->
     runT X.P D.d.ops D.d.W D.C (D.Q X) (i :: r.map (·.1)) a w:=by
    intro v fi aJ hE hy cC rr ba;simp only [runT,ho];rw [ah (by simp [hE])];exact ⟨v,hy,fun hL=>h.cc (cC hL),ih c fi aJ rr E _ w ba⟩
   have fS:∀ fi aJ,isE o.op=true->Region.wanted o (yielded D.d.ops a.tmps)=false->goD X D.d n c r fi aJ -> dy X D c E fi aJ (a.put o.dst undef) w ->
     runT X.P D.d.ops D.d.W D.C (D.Q X) (i :: r.map (·.1)) a w:=by
    intro fi aJ hE hw rr ba;simp only [runT,ho];rw [aj hE];unfold cd;rw [ah (by simp [hw])];exact ⟨fun _ h=>h,ih c fi aJ rr E _ w ba⟩
   have fE:∀ fi aJ,isE o.op=true->Region.wanted o (yielded D.d.ops a.tmps)=true->(dF X.nt aJ.sl o.dst && dF X.nt fi o.dst)=true->effE X D.d c i r o fi aJ (fun c' fi aJ=>goD X D.d n c' r fi aJ)->dy X D c E fi aJ a w ->
     runT X.P D.d.ops D.d.W D.C (D.Q X) (i :: r.map (·.1)) a w:=by
    intro fi aJ hE hw Hk he ba;simp only [runT,ho];rw [aj hE];unfold cd;rw [aj hw];exact yu hD x5 ihG Hk ba he
   have fP:∀ fi aJ,Region.wanted o (yielded D.d.ops a.tmps)=true->(dF X.nt aJ.sl o.dst && dF X.nt fi o.dst)=true->optP (eR X D.d c fi aJ o.op fun b s=>put2 fi aJ o.dst b [] s (goD X D.d n c r))->dy X D c E fi aJ a w ->
     runT X.P D.d.ops D.d.W D.C (D.Q X) (i :: r.map (·.1)) a w:=by
    intro fi aJ hw Hk he ba;obtain ⟨hE,cC,b,s,v,hk,hv,mO,bg⟩:=DQ hD ba he;obtain ⟨s1,lz,gL,cN⟩:=fo ba Hk b [] s v (fun _ _ p hp=>by cases hp) (fun _=>hv) (fun hb _=>mO hb) (fun hn=>(hn (aG _)).elim) hk;exact fR v s1 lz hE (.inl ⟨hw,bg⟩) cC gL cN
   have TF:∀ fi aJ,(dF X.nt aJ.sl o.dst && dF X.nt fi o.dst)=true->dy X D c E fi aJ a w->put2 fi aJ o.dst true [] .ud (goD X D.d n c r)->∃ s1 lz,goD X D.d n c r s1 lz/\dy X D c E s1 lz (a.put o.dst undef) w:=by
    intro fi aJ Hk ba hk;exact fo ba Hk true [] .ud undef (fun _ _ p hp=>by cases hp) (fun _=>nK E) (fun _ _=>nK _) (fun hn=>(hn (aG _)).elim) hk
   split at hg
   ·rename_i Hc;have hw:Region.wanted o (yielded D.d.ops a.tmps)=true:=by simp [Region.wanted,Hc]
    split at hg
    ·rename_i hE;exact fE s0 st hE hw hd hg h
    ·split at hg
     ·rename_i b s hs;obtain ⟨hE,cC,v,hv,mO,bg⟩:=vQ hD h (aG _) hs;obtain ⟨s1,lz,gL,cN⟩:=fo h hd b [] s v (fun _ _ p hp=>by cases hp) (fun _=>hv) (fun hb _=>mO hb) (fun hn=>(hn (aG _)).elim) hg;exact fR v s1 lz hE (.inl ⟨hw,bg⟩) cC gL cN
     ·exact fP s0 st hw hd hg h
   ·rename_i j want Hc;split at hg
    ·exact hg.elim
    ·rename_i d Bs;split at hg
     ·exact hg.elim
     ·rename_i iD sd GJ;have pv:=wanted_spec h.rel Hc Bs GJ;have yx:¬ Holds a.tmps ((d,want) :: iD)->Region.wanted o (yielded D.d.ops a.tmps)=false:=by grind
      split at hg
      ·rename_i b s hs;split at hg
       case h_2=>exact hg.elim
       rename_i fM;have MS:=pu fM;by_cases hh:Holds a.tmps ((d,want) :: iD)
       ·obtain ⟨hE,cC,v,hv,mO,bg⟩:=vQ hD h hh hs;obtain ⟨s1,lz,gL,cN⟩:=fo h hd b _ s v MS (fun _=>hv) (fun hb _=>mO hb) (fun hn=>(hn hh).elim) hg;exact fR v s1 lz hE (.inl ⟨pv.2 hh,bg⟩) cC gL cN
       ·obtain ⟨s1,lz,gL,cN⟩:=fo h hd b _ s undef MS (fun hn=>(hh hn).elim) (fun _ hn=>(hh hn).elim) (fun _=>rfl) hg;have cC:isE o.op=false/\(isL o.op=true->c=true):=by grind [pR]
        exact fR undef s1 lz cC.1 (.inr ⟨yx hh,rfl⟩) cC.2 gL cN
      ·split at hg
       ·rename_i b fI;have ht0:=vH h.rel fI
        cases iD with
        | nil=>
         simp only [lastG] at fI ht0;cases An:(b == want)
         ·have yp:b = !want:=by cases b<;>cases want<;>simp_all
          have hg:=hg.f An
          have hn:Region.wanted o (yielded D.d.ops a.tmps)=false:=by
           refine yx fun hh=>?_;have:=hh (d,want) (by simp)
           grind
          have hr:=iR (d:=d) (b:=!want) h (by rw [ht0,yp]);split at hg
          ·rename_i cC
           have KI:isL o.op=true->c=true:=by
            intro hL;simpa [hL] using cC
           obtain ⟨s1,lz,gL,cN⟩:=TF _ _ (lV hd) hr hg;cases hE:isE o.op
           ·exact fR undef s1 lz hE (.inr ⟨hn,rfl⟩) KI gL cN
           ·exact fS s1 lz hE hn gL cN
          ·exact hg.elim
         ·have PB:b=want:=sU An;have hg:=hg.t An
          grind [gq,aG,iR,lV]
        | cons g1 gr=>
         have key:∀ e,a.tmps[(lastG (d,want) (g1 :: gr)).1]? = some (.bool e)->goD X D.d n c ((i,o) :: r) (s0.map (bc (lastG (d,want) (g1 :: gr)).1 e)) (st.resolve (lastG (d,want) (g1 :: gr)).1 e)->_:=
          fun e Af rr=>dh hD n c ((i,o) :: r) _ _ rr hl E a w (iR h Af)
         cases An:(b == (lastG (d,want) (g1 :: gr)).2)
         ·have hg:=hg.f An;have yp:b = !(lastG (d,want) (g1 :: gr)).2:=by cases b<;>cases h0:(lastG (d,want) (g1 :: gr)).2<;>simp_all
          exact key _ (by rw [ht0,yp]) hg
         all_goals simp_all
       ·rename_i fI
        cases iD with
        | nil=>
         have ht0:=DK h.rel fI;simp only [lastG] at ht0
         have hn:Region.wanted o (yielded D.d.ops a.tmps)=false:=by
          refine yx fun hh=>?_;have:=hh (d,want) (by simp);simp only at this;rw [ht0] at this;simp [undef] at this
         simp only at hg;split at hg
         ·rename_i cC
          have KI:isL o.op=true->c=true:=by
           intro hL;simpa [hL] using cC
          obtain ⟨s1,lz,gL,cN⟩:=TF _ _ hd h hg;cases hE:isE o.op
          ·exact fR undef s1 lz hE (.inr ⟨hn,rfl⟩) KI gL cN
          ·exact fS s1 lz hE hn gL cN
         ·exact hg.elim
        | cons g1 gr=>exact hg.elim
       ·exact hg.elim
def L6 (X:Ctx) (o:Oper) (st aJ:St):Prop:=∀ E a w,Rel X E st a w->wq X.P o a w fun a' w'=>∃ E',Rel X E' aJ a' w' /\ Bu none E w E' w'
theorem L6.g {o:Oper} {k:List It} {st aJ:St} (h:L6 X o st aJ) (hk:go X 4000 k aJ):L0 X o k st:=fun E a w hr=>by
 refine Ak (iN ?_ (h E a w hr));rintro a' w' ⟨E',ei,_⟩;exact go_sound 4000 _ _ hk E' a' w' ei
theorem L6.d {o:Oper} {D:Dr} {aJ:St} {d:Nat} {r:List (Nat × Oper)} (h:L6 X o st aJ) (gz:o.dst=some d) (hd:dF X.nt s0 (some d)=true) (hk:delF d s0 fun fi=>goD X D 3000 c r fi aJ):TC X D c i r o s0 st:=fun hl E0 wr hD E a w hr=>by
 refine iN ?_ (Aq (h E a w hr.rel));rintro a' w' ⟨⟨E',ei,hs⟩,u,rfl⟩;have hC:=vR hr hs ei (fun j hj=>by cases hj);refine ⟨fun _=>hC,?_⟩;rw [kb] at hk;refine dh (D:=⟨D,E0,wr⟩) hD 3000 c r _ _ hk hl E' _ w' (lW hr hs ei (fun h1=>hC (hr.cc h1)) (fun i x hx=>?_) (by rw [gz];exact hd));obtain ⟨h1,h2⟩:=get_filter d s0 i x hx
 grind
def nOps:Nat->List Oper->List (Nat × Oper)
 | _,[]=>[]
 | i,o :: r=>(i,o) :: nOps (i + 1) r
theorem pz:∀ (l:List Oper) (i:Nat) (p:Nat × Oper),p∈nOps i l->i<=p.1/\l[p.1 - i]? = some p.2
 | [],_,_,h=>by cases h
 | o :: r,i,p,h=>by
  rcases bX h with h | h
  ·subst h;simp
  ·have:=pz r (i + 1) p h
   grind
theorem pA:∀ (l:List Oper) (i:Nat),(nOps i l).map (·.1)=List.range' i l.length
 | [],_=>rfl
 | o :: r,i=>by simp only [nOps,List.map_cons,pA r (i + 1),List.length_cons,List.range'_succ]
theorem kY (hr:Rel X E st a w) {ops:Array Oper} {W:Nat->Bool} {k:List It}:dy X ⟨⟨ops,W,k,st,none⟩,E,w⟩ true E st.sl st a w where
 rel:=hr
 x:=Ext.refl E
 β:=⟨[],by simp⟩
 t0:=hr.tm
 cc:=fun _=>⟨fun _ _ _ _ _ _=>rfl,hr.env.sub⟩
theorem Ar {id:Nat} {ops:Array Oper} {k:List It} {st:St} (W:Nat->Bool) (hm:X.P.follows .mixedOrders=true) (hc:yr ops W=true)
  (h:goD X ⟨ops,W,k,st,none⟩ 3000 true (nOps 0 ops.toList) st.sl st):jo X id ops k st:=by
 intro E a w hr;have ei:=eE hr;have hs:=kY ei (ops:=ops) (W:=W) (k:=k);refine gY (C:=CC E st.bx w.drew) (W:=W) (Q:=kq X k .normal) hm hc (fun a w h=>h) (hs.cc rfl) ?_;have:=dh (D:=⟨⟨ops,W,k,st,none⟩,E,w.drew⟩) ei.env.em 3000 true _ _ _ h (fun p hp=>by simpa using (pz _ _ p hp).2) E a w.drew hs;rw [pA] at this;rw [List.range_eq_range'];simp only [Array.length_toList] at this;exact this
def maskL:List Nat->Nat->List (List DV)->List (List DV)
 | _,_,[]=>[]
 | m,i,cs :: r=>(match m.contains i with | true=>[] | false=>cs) :: maskL m (i + 1) r
theorem ke (m:List Nat):∀ (l:List (List DV)) (i:Nat),(maskL m i l).length=l.length
 | [],_=>rfl
 | cs :: r,i=>by simp [maskL,ke m r]
theorem kg (m:List Nat):∀ (l:List (List DV)) (i j:Nat) cs,(maskL m i l)[j]? = some cs->cs=[]∨l[j]? = some cs
 | [],_,_,_,h=>by simp [maskL] at h
 | c :: r,i,0,cs,h=>by grind [maskL]
 | c :: r,i,j + 1,cs,h=>by
  simp only [maskL,List.getElem?_cons_succ] at h ⊢;exact kg m r (i + 1) j cs h
theorem cy {id:Nat} {ops:Array Oper} {k:List It} {st:St} (m:List Nat) (W:Nat->Bool) (hm:X.P.follows .mixedOrders=true) (hc:yr ops W=true)
  (h:goD X ⟨ops,W,k,⟨st.sl,maskL m 0 st.bx,st.tk⟩,none⟩ 3000 true (nOps 0 ops.toList) st.sl st):jo X id ops k st:=by
 intro E a w hr;have ei:=eE hr;have hs:dy X ⟨⟨ops,W,k,⟨st.sl,maskL m 0 st.bx,st.tk⟩,none⟩,E,w.drew⟩ true E st.sl st a w.drew:=⟨ei,Ext.refl E,⟨[],by simp⟩,ei.tm,fun _=>⟨fun _ _ _ _ _ _=>rfl,ei.env.sub⟩⟩;refine gY (C:=CC E (maskL m 0 st.bx) w.drew) (W:=W) (Q:=kq X k .normal) hm hc (fun a w h=>h) (hs.cc rfl) ?_
 have DR:mW E (maskL m 0 st.bx) w.drew:=⟨by rw [ke];exact ei.env.len,fun i cs hi aY=>by
  rcases kg m _ _ _ _ hi with h1 | h1
  ·exact (aY h1).elim
  ·exact ei.env.cM i cs h1⟩
 have:=dh (D:=⟨⟨ops,W,k,⟨st.sl,maskL m 0 st.bx,st.tk⟩,none⟩,E,w.drew⟩) DR 3000 true _ _ _ h (fun p hp=>by simpa using (pz _ _ p hp).2) E a w.drew hs;rw [pA] at this;rw [List.range_eq_range'];simp only [Array.length_toList] at this;exact this
def I1 (ops:Array Oper) (i:Nat):Bool:=
 match ops.toList[i]? with
 | some o=>
  match o.op with
  | .store ..=>true
  | _=>false
 | none=>false
theorem Hl {id:Nat} {ops:Array Oper} {k:List It} {st:St} (hm:X.P.follows .mixedOrders=true) (hc:yr ops (I1 ops)=true)
  (h:goD X ⟨ops,I1 ops,k,st,none⟩ 3000 true (nOps 0 ops.toList) st.sl st):jo X id ops k st:=Ar (I1 ops) hm hc h
theorem lX {D:Dr} {f:FuncId} {args aV:List DV} {d:Nat} {r:List (Nat × Oper)} (gV:Enters X.P f) (hd:(dF X.nt st.sl (some d) && dF X.nt s0 (some d))=true) {Φ:DV->List (List DV)->List TkE->Prop} (hc:Ev X.P f aV [] [] Φ) (ha:CcL [] 0 0 0 aV args)
  (hk:∀ yy,Φ yy [] []->put2 s0 st (some d) false [] yy (goD X D 3000 c r)) (bo:X.still=false:=by exact rfl):sc X D c i r f args (some d) s0 st:=by
 refine ⟨gV,fun hl E0 wr hD E a w vs h hv=>(nP h.rel bo hc ha hv).mono ?_⟩;rintro e w' ⟨v,E',yy,rfl,ba,hr,hΦ,hm,hx,hβ⟩
 have hh:∀ b,b < w.heap.size->w'.heap[b]? = w.heap[b]?:=fun b hb=>hm.block b hb (by
  rintro (h1 | ⟨y,h1,_⟩)
  ·simp [En.cl] at h1
  ·simp [En.cl] at h1)
 have hs:Bu none E w E' w':=⟨hx,⟨[],by rw [hβ];simp⟩,fun j b hb _=>hh b (h.rel.env.aN (mG hb))⟩;have hC:=vR h hs ba (fun j hj=>by cases hj);refine ⟨v,rfl,fun _=>hC,?_⟩;have vS:dy X ⟨D,E0,wr⟩ c E' s0 st (a.put none v) w':=lW h hs ba (fun h1=>hC (h.cc h1)) (fun i x hx=>.inr ⟨hx,fun d hd=>by cases hd⟩) rfl;obtain ⟨s1,lz,gL,cN⟩:=fo vS hd false [] yy v (fun _ _ p hp=>by cases hp) (fun _=>hr) (fun hb=>by cases hb) (fun hn=>(hn (aG _)).elim) (hk yy hΦ);exact dh (D:=⟨D,E0,wr⟩) hD 3000 c r _ _ gL hl E' _ w' cN
theorem Hm {D:Dr} {f:FuncId} {args aV:List DV} {d:Nat} {r:List (Nat × Oper)} {yy:DV} (gV:Enters X.P f) (hc:bh X.P f aV yy) (ha:CcL [] 0 0 0 aV args) (hd:(dF X.nt st.sl (some d) && dF X.nt s0 (some d))=true)
  (hk:put2 s0 st (some d) false [] yy (goD X D 3000 c r)) (bo:X.still=false:=by exact rfl):sc X D c i r f args (some d) s0 st:=
 lX gV hd hc ha (fun _ hr=>hr ▸ hk) bo
end
end Dv
end Go.Proofs.YtfdedoiiahbnnaaGreat
namespace Go.Proofs.YtfdedoiiahbnnaaGreat
namespace Dv
open Go Go.RowKit
section
variable {P:Program} {ops:Array Oper} {C:World->Prop} {Q:Act->World->Prop} {W:Nat->Bool} {π π':Nat->Nat}
theorem mX {o:Oper} {i:Nat} {a:Act} {w:World} {K:Act->World->Prop} {Q':Exit->Act->World->Prop} (ho:ops[i]? = some o) (h:cd P ops o a w K):wpOp P ops Q' i K a w:=by
 unfold wpOp
 grind [cd,Ak]
def chkT (ops:Array Oper) (x y:Nat):Bool:=
 (List.range ops.size).all fun i=>Nat.beq i x || Nat.beq i y ||
  match ops[i]? with
  | some o=>!isE o.op || ordB ops ops.size x i
  | none=>false
def ow (x y:Nat):Nat->Nat->Bool:=fun j i=>Nat.beq j x && Nat.beq i y
theorem yz {x y:Nat} {Q':Exit->Act->World->Prop} (Dg:x≠y) (L7:oq ops W π=true) (MT:vO ops W π (ow x y)=true) (PF:oq ops W π'=true) (MU:vO ops W π' (ow y x)=true) (hT:chkT ops x y=true)
  (hQ:∀ a w,Q a w->Q' .normal a w):∀ (fm:Nat) (ak:Array Bool) (r1 r2:List Nat) (a:Act) (w:World),
  ak.size=ops.size->Dn ops ak->(∀ i,i∈r1↔i < ops.size/\ak.getD i true=false)->(∀ i,i∈r2↔i < ops.size/\ak.getD i true=false)->r1.Pairwise (fun a b=>π a < π b)->r2.Pairwise (fun a b=>π' a < π' b)->r1.length<=fm ->
   x∈r1->y∈r1->C w->runT P ops W C Q r1 a w->runT P ops W C Q r2 a w->wpAny P .any ops Q' fm ak a w:=by
 have dP:=vP L7;have GL:=tV L7;have KJ:=tV PF;have QQ:=MT;have QR:=MU;simp only [vO,List.all_eq_true,List.mem_range,Bool.or_eq_true,Bool.not_eq_true'] at MT MU;intro fm
 induction fm with
 | zero=>grind
 | succ fm ih=>
  intro ak r1 r2 a w cf PE iH vv x6 GN hlen hx hy hC hr1 ly;have TG:∀ i,i∈r1↔i∈r2:=fun i=>(iH i).trans (vv i).symm;have BH:r1.Nodup:=lD x6;have rA:r2.Nodup:=lD GN;have DP:=sb L7;refine ⟨fun h0=>?_,fun i hi=>?_⟩
  ·cases r1 with
   | nil=>cases hx
   | cons h rem=>
    have hh:=(iH h).1 (by simp);have TH:ops[h]? = some ops[h]:=Array.getElem?_eq_getElem hh.1
    have:h∈Region.ready .any ops ak:=by
     refine mem_ready.2 ⟨hh.2,_,TH,fun e he hb=>?_⟩;obtain ⟨av,KG⟩:=DP h _ TH e he hb;cases hg:ak.getD e.on false
     ·have GM:ak.getD e.on true=false:=by grind
      have hm:=(iH e.on).2 ⟨by omega,GM⟩;rcases bX hm with e1 | e1
      ·rw [e1] at av;omega
      ·have:=(List.pairwise_cons.1 x6).1 _ e1;omega
     ·rfl
    rw [h0] at this;cases this
  ·obtain ⟨QO,o,ho,eC⟩:=mem_ready.1 hi;have iF:=(Array.getElem?_eq_some_iff.1 ho).1;have jt:i∈r1:=(iH i).2 ⟨iF,QO⟩;have Hn:i∈r2:=(TG i).1 jt;have ox:∀ j,j∈r1->ordB ops ops.size j i=true->False:=by grind [jI]
   have Ho:i≠y->∀ j∈r1,j≠i->π j < π i->ik ops W j i=true:=by
    intro L8 j hj _ av;rcases MT i iF j ((iH j).1 hj).1 with ((h1 | h1) | h1) | h1
    ·have:¬ Nat.blt (π j) (π i)=true:=by simp [h1]
     simp at this;omega
    ·simp [ow] at h1;exact (L8 h1.2).elim
    ·exact (ox j hj h1).elim
    ·exact h1
   have KK:i≠x->∀ j∈r2,j≠i->π' j < π' i->ik ops W j i=true:=by
    intro mY j hj _ av;rcases MU i iF j ((vv j).1 hj).1 with ((h1 | h1) | h1) | h1
    ·have:¬ Nat.blt (π' j) (π' i)=true:=by simp [h1]
     simp at this;omega
    ·simp [ow] at h1;exact (mY h1.2).elim
    all_goals grind
   have KL:Dn ops (ak.setIfInBounds i true):=by
    intro k z hz hk e he hb;by_cases lO:k=i
    ·subst lO;rw [ho] at hz;simp only [oI] at hz;subst hz;exact getD_set_true (eC e he hb)
    ·rw [getD_set_ne true (Ne.symm lO)] at hk;exact getD_set_true (PE k z hz hk e he hb)
   have se:∀ (rem:List Nat),rem.Nodup->(∀ i,i∈rem↔i < ops.size/\ak.getD i true=false)->∀ k,k∈rem.erase i↔k < ops.size/\(ak.setIfInBounds i true).getD k true=false:=by
    intro rem hnd iQ k;rw [List.Nodup.mem_erase_iff hnd];by_cases lO:k=i
    ·subst lO;simp [cf,iF]
    ·rw [getD_set_ne true (Ne.symm lO)]
     grind
   refine mX ho ?_;by_cases mY:i=x
   ·subst mY;have bo:=gy dP GL ho r1 a w (fun _=>hC) hr1 jt (Ho Dg) x6;refine bM ?_ bo;rintro a' w' ⟨BF,ei⟩;refine kX (C:=C) (ow i y) L7 QQ hQ fm _ (r1.erase i) a' w' (by simp [cf]) KL (se r1 BH iH) (x6.sublist List.erase_sublist) (by rw [List.length_erase_of_mem jt];omega) ?_ ?_ ei
    ·intro j hj k _;cases eQ:ow i y j k
     ·rfl
     ·simp_all [ow]
    ·rintro ⟨l,z,hl,hz,hL⟩;refine BF ?_ hC;have x5:=List.mem_of_mem_erase hl;have aY:l≠i:=((List.Nodup.mem_erase_iff BH).1 hl).1;rcases tW x6 jt x5 aY.symm with h1 | h1
     ·exact GL i l z o h1 hz ho hL
     ·have:=Ho Dg l x5 aY h1;obtain ⟨_,_,_,h4⟩:=cV this hz ho
      grind
   ·by_cases L8:i=y
    ·subst L8;have bo:=gy dP KJ ho r2 a w (fun _=>hC) ly Hn (KK (Ne.symm Dg)) GN;refine bM ?_ bo;rintro a' w' ⟨BF,ei⟩;refine kX (C:=C) (ow i x) PF QR hQ fm _ (r2.erase i) a' w' (by simp [cf]) KL (se r2 rA vv) (GN.sublist List.erase_sublist) ?_ ?_ ?_ ei
     ·have e1:r1.length=r2.length:=(List.perm_iff_count.2 (fun z=>by rw [BH.count,rA.count];simp [TG z])).length_eq;rw [List.length_erase_of_mem Hn];omega
     ·intro j hj k _;cases eQ:ow i x j k
      ·rfl
      ·simp_all [ow]
     ·rintro ⟨l,z,hl,hz,hL⟩;refine BF ?_ hC;have x5:=List.mem_of_mem_erase hl;have aY:l≠i:=((List.Nodup.mem_erase_iff rA).1 hl).1;rcases tW GN Hn x5 aY.symm with h1 | h1
      ·exact KJ i l z o h1 hz ho hL
      ·have:=KK (Ne.symm Dg) l x5 aY h1;obtain ⟨_,_,_,h4⟩:=cV this hz ho
       grind
    ·have QL:isE o.op=false:=by
      simp only [chkT,List.all_eq_true,List.mem_range,Bool.or_eq_true,Nat.beq_eq] at hT
      grind
     obtain ⟨v,DS⟩:=kW dP ho QL r1 a w hr1 jt (Ho L8) x6;have J8:=gy dP GL ho r1 a w (fun _=>hC) hr1 jt (Ho L8) x6;have Ah:=gy dP KJ ho r2 a w (fun _=>hC) ly Hn (KK mY) GN;have gL:=jH DS (fun _=>hC) J8;have DT:=jH DS (fun _=>hC) Ah;refine fl DS (fun _=>hC) ?_
     exact ih _ (r1.erase i) (r2.erase i) _ w (by simp [cf]) KL (se r1 BH iH) (se r2 rA vv) (x6.sublist List.erase_sublist) (GN.sublist List.erase_sublist) (by rw [List.length_erase_of_mem jt];omega)
      ((List.Nodup.mem_erase_iff BH).2 ⟨Ne.symm mY,hx⟩) ((List.Nodup.mem_erase_iff BH).2 ⟨Ne.symm L8,hy⟩) hC gL.2 DT.2
end
def selL (ops:List Oper):List Nat->List (Nat × Oper)
 | []=>[]
 | i :: r=>
  match ops[i]? with
  | some o=>(i,o) :: selL ops r
  | none=>selL ops r
theorem DU {ops:List Oper} {l:List Nat} {p:Nat × Oper} (h:p∈selL ops l):ops[p.1]? = some p.2:=by
 induction l with
 | nil=>cases h
 | cons i r ih=>grind [selL]
def plc:List Nat->Nat->Nat
 | [],_=>0
 | x :: r,i=>if Nat.beq x i then 0 else plc r i + 1
def DW (ops:Array Oper) (l:List Nat):Bool:=
 (selL ops.toList l).map (·.1) == l && (List.range ops.size).all (fun i=>l.contains i) && l.all (fun i=>Nat.blt i ops.size) && Nat.ble l.length ops.size && PG (plc l) l
where PG (f:Nat->Nat):List Nat->Bool
 | []=>true
 | x :: r=>r.all (fun y=>Nat.blt (f x) (f y)) && PG f r
theorem pB {f:Nat->Nat}:∀ {l:List Nat},DW.PG f l=true->l.Pairwise (fun a b=>f a < f b)
 | [],_=>List.Pairwise.nil
 | x :: r,h=>by
  simp only [DW.PG,aP,List.all_eq_true,Nat.blt_eq] at h;exact List.pairwise_cons.2 ⟨h.1,pB h.2⟩
def MV (ops:Array Oper) (W:Nat->Bool) (l l':List Nat) (x y:Nat):Bool:=
 !Nat.beq x y && Nat.blt x ops.size && Nat.blt y ops.size && DW ops l && DW ops l' && oq ops W (plc l) && vO ops W (plc l) (ow x y) && oq ops W (plc l') && vO ops W (plc l') (ow y x) && chkT ops x y
def swp (i j k:Nat):Nat:=
 match Nat.beq k i with
 | true=>j
 | false=>
  match Nat.beq k j with
  | true=>i
  | false=>k
theorem iS (i j k:Nat):swp i j (swp i j k)=k:=by
 have hb:∀ a b:Nat,Nat.beq a b=decide (a=b):=fun a b=>by
  by_cases h:a=b
  ·subst h;simp
  ·rw [decide_eq_false h];cases h1:Nat.beq a b
   ·rfl
   ·exact (h (sU h1)).elim
 grind [swp]
mutual
def renD (f:Nat->Nat):DV->DV
 | .v x=>.v x
 | .ud=>.ud
 | .agg l=>.agg (renL f l)
 | .cj l=>.cj (renL f l)
 | .sl e es tk=>.sl e es tk
 | .pt cs o=>.pt cs o
 | .loc i o=>.loc (f i) o
 | .el i o=>.el (f i) o
 | .ms i e o l c=>.ms (f i) e o l c
 | .fn g l r=>.fn g (renL f l) (renL f r)
 | .lF t x=>.lF t (renD f x)
def renL (f:Nat->Nat):List DV->List DV
 | []=>[]
 | d :: r=>renD f d :: renL f r
end
def renS (f:Nat->Nat):List (Nat × Sl)->List (Nat × Sl)
 | []=>[]
 | (k,⟨gs,s⟩) :: r=>(k,⟨gs,renD f s⟩) :: renS f r
def renO (f:Nat->Nat):List (List DV)->List (List DV)
 | []=>[]
 | cs :: r=>renL f cs :: renO f r
def swL {α:Type} (i j:Nat) (l:List α):List α:=
 match l[i]?,l[j]? with
 | some a,some b=>(l.set i b).set j a
 | _,_=>l
def ch (i j:Nat) (S:St):St:=⟨renS (swp i j) S.sl,swL i j (renO (swp i j) S.bx),S.tk⟩
theorem pD (f:Nat->Nat):∀ (l:List (List DV)) (k:Nat),(renO f l)[k]? = (l[k]?).map (renL f)
 | [],k=>by simp [renO]
 | c :: r,0=>by simp [renO]
 | c :: r,k + 1=>by simp only [renO,List.getElem?_cons_succ];exact pD f r k
theorem cO (f:Nat->Nat):∀ (l:List (List DV)),(renO f l).length=l.length
 | []=>rfl
 | c :: r=>by simp [renO,cO f r]
theorem vT (f:Nat->Nat):∀ (l:List (Nat × Sl)) (k:Nat),get (renS f l) k=(get l k).map fun x=>⟨x.gs,renD f x.s⟩
 | [],k=>rfl
 | (i,⟨gs,s⟩) :: r,k=>by
  simp only [renS,bT];split
  ·rfl
  ·exact vT f r k
theorem dz {α:Type} (i j:Nat) (l:List α):(swL i j l).length=l.length:=by
 unfold swL;split<;>simp
theorem dW {α:Type} {i j:Nat} {l:List α} (hi:i < l.length) (hj:j < l.length) (k:Nat):(swL i j l)[k]? = l[swp i j k]?:=by
 have hb:∀ a b:Nat,Nat.beq a b=true↔a=b:=fun a b=>by simp
 grind [swL,swp]
theorem Hp {α:Type} {i j:Nat} {l:List α} (hi:i < l.length) (hj:j < l.length):swL i j (swL i j l)=l:=by
 apply List.ext_getElem?
 grind [dW,dz,iS]
section
variable {E:En} {i j:Nat}
mutual
theorem Rv.yA (hi:i < E.β.length) (hj:j < E.β.length):∀ {d:DV} {v:Value},Rv E (renD (swp i j) d) v->Rv ⟨E.c,swL i j E.β,E.tk,E.τ⟩ d v
 | .v x,v,h=>by simp only [renD] at h;unfold Rv at h ⊢;exact h
 | .ud,v,h=>by simp only [renD] at h;unfold Rv at h ⊢;exact h
 | .sl e es tk,v,h=>by simp only [renD] at h;unfold Rv at h ⊢;exact h
 | .pt cs o,v,h=>by simp only [renD] at h;unfold Rv at h ⊢;exact h
 | .loc k o,v,h=>by grind [renD,Rv,swL,dW]
 | .el k o,v,h=>by grind [renD,Rv,swL,dW]
 | .ms k e o l c,v,h=>by grind [renD,Rv,swL,dW]
 | .agg l,v,h=>by
  simp only [renD] at h;unfold Rv at h ⊢;obtain ⟨vs,h1,h2,h3⟩:=h;exact ⟨vs,h1,RvL.yA hi hj h2,h3⟩
 | .cj l,v,h=>by
  simp only [renD] at h;unfold Rv at h ⊢;obtain ⟨vs,h1,h2⟩:=h;exact ⟨vs,h1,RvL.yA hi hj h2⟩
 | .fn g l r,v,h=>by
  simp only [renD] at h;unfold Rv at h ⊢;obtain ⟨l',r',h1,h2,h3⟩:=h;exact ⟨l',r',h1,RvL.yA hi hj h2,RvL.yA hi hj h3⟩
 | .lF t x,v,h=>by
  simp only [renD] at h;unfold Rv at h ⊢;obtain ⟨z,h1,h2⟩:=h;exact ⟨z,h1,Rv.yA hi hj h2⟩
theorem RvL.yA (hi:i < E.β.length) (hj:j < E.β.length):∀ {l:List DV} {vs:List Value},RvL E (renL (swp i j) l) vs->RvL ⟨E.c,swL i j E.β,E.tk,E.τ⟩ l vs
 | [],vs,h=>by simp only [renL,RvL] at h ⊢;exact h
 | d :: r,vs,h=>by
  simp only [renL,RvL] at h ⊢;obtain ⟨v,s,h1,h2,h3⟩:=h;exact ⟨v,s,h1,Rv.yA hi hj h2,RvL.yA hi hj h3⟩
end
end
theorem As {α:Type} {i j:Nat} {l:List α} (hi:i < l.length) (hj:j < l.length) {x:α}:x∈swL i j l↔x∈l:=by grind [swL,dW,dz,Hp]
theorem BI {i j:Nat} {l:List Nat} (hi:i < l.length) (hj:j < l.length) (h:l.Nodup):(swL i j l).Nodup:=by grind [swp,dz,swL,dW,iS]
theorem kh {P:Program} {ops:Array Oper} {W:Nat->Bool} {C:World->Prop} {Q Q':Act->World->Prop} (hQ:∀ a w,Q a w->Q' a w):∀ {l:List Nat} {a:Act} {w:World},runT P ops W C Q l a w->runT P ops W C Q' l a w
 | [],a,w,h=>hQ _ _ h
 | i :: r,a,w,h=>by
  simp only [runT] at h ⊢;split at h
  ·exact h.elim
  ·split at h
   ·rename_i hE;rw [aj hE];exact bM (fun a w hk=>⟨hk.1,kh hQ hk.2⟩) h
   ·rename_i hE;rw [ah hE];obtain ⟨v,h1,h2,h3⟩:=h;exact ⟨v,h1,h2,kh hQ h3⟩
section
variable {X:Ctx} {E:En} {S:St} {a:Act} {w:World} {i j:Nat}
theorem vU (hX:X.bt=[]) (h:Rel X E (ch i j S) a w) (DB:X.n0<=i) (vy:X.n0<=j) (hi:i < S.bx.length) (hj:j < S.bx.length):Rel X ⟨E.c,swL i j E.β,E.tk,E.τ⟩ S a w:=by
 have hlen:E.β.length=S.bx.length:=by
  rw [h.env.len];simp only [ch,dz,cO]
 have iF:i < E.β.length:=by rw [hlen];exact hi
 have eQ:j < E.β.length:=by rw [hlen];exact hj
 have nO:∀ k,(ch i j S).bx[k]? = (S.bx[swp i j k]?).map (renL (swp i j)):=fun k=>by grind [ch,dW,cO,pD]
 exact {
  env:={
   len:=by rw [dz];exact hlen
   tl:=h.env.tl
   cM:=fun k cs hk=>by
    obtain ⟨b,ty,arr,hb,hw,hc⟩:=h.env.cM (swp i j k) (renL (swp i j) cs) (by rw [nO,iS,hk];rfl);exact ⟨b,ty,arr,by rw [dW iF eQ];exact hb,hw,RvL.yA iF eQ hc.1,hc.2⟩
   inj:=BI iF eQ h.env.inj
   sub:=h.env.sub
   pc:=fun x v hx hm=>h.env.pc x v hx ((As iF eQ).1 hm)
   bN:=fun k q y hq hy=>by
    rcases h.env.bN k q y hq hy with h1 | ⟨g,cap,cur,rfl,h1,h2,h3,h4,h5,h6⟩
    ·exact .inl h1
    ·exact .inr ⟨g,cap,cur,rfl,h1,h2,h3,h4,fun hm=>h5 ((As iF eQ).1 hm),h6⟩
   fH:=h.env.fH }
  tk:=h.tk
  sz:=h.sz
  tm:=fun k x hx=>by
   have:=h.tm k ⟨x.gs,renD (swp i j) x.s⟩ (by simp only [ch];rw [vT,hx];rfl)
   grind [Rv.yA]
  df:=h.df
  nw:={
   c:=h.nw.c
   cn:=h.nw.cn
   β:=by
    obtain ⟨r,hr,hl⟩:=h.nw.β;have PH:X.E0.β.length=X.n0:=X.tG;refine ⟨(swL i j E.β).drop X.n0,?_,fun b hb=>?_⟩
    ·grind [swL,dW,swp]
    ·have hnd:=h.env.inj;obtain ⟨k,hk⟩:=List.mem_iff_getElem?.1 hb;rw [List.getElem?_drop,dW iF eQ] at hk;have bO:X.n0<=swp i j (X.n0 + k):=by grind [swp]
     rw [hr,List.getElem?_append_right (by omega)] at hk;exact hl b (mG hk)
   tk:=h.nw.tk
   tn:=h.nw.tn
   l0:=h.nw.l0 }
  fr:=h.fr
  sh:=h.sh
  bt:=.nil hX }
theorem tY (hX:X.bt=[]) (h:Rel X E (ch i j S) a w) (DB:X.n0<=i) (vy:X.n0<=j) (hi:i < S.bx.length) (hj:j < S.bx.length):∃ E',Rel X E' S a w:=⟨_,vU hX h DB vy hi hj⟩
end
def sf (sl:List (Nat × Sl)):List (Nat × Sl)->Prop
 | []=>True
 | p :: r=>get sl p.1=some p.2/\sf sl r
theorem kZ {sl:List (Nat × Sl)}:∀ {l:List (Nat × Sl)},sf sl l->∀ i x,get l i=some x->get sl i=some x
 | [],_,i,x,hx=>by cases hx
 | (k,y) :: r,h,i,x,hx=>by
  simp only [bT] at hx;split at hx
  ·rename_i lO;subst lO;simp only [oI] at hx;subst hx;exact h.1
  ·exact kZ h.2 i x hx
def uniqS:List Nat->List (Nat × Sl)->List (Nat × Sl)
 | _,[]=>[]
 | m,p :: r=>
  match muB m p.1 with
  | true=>uniqS m r
  | false=>p :: uniqS (p.1 :: m) r
theorem mZ:∀ (l:List (Nat × Sl)) (m:List Nat) (i:Nat),muB m i=false->get (uniqS m l) i=get l i
 | [],_,_,_=>rfl
 | (k,x) :: r,m,i,h=>by
  simp only [uniqS]
  cases hm:muB m k with
  | true=>
   simp only;rw [mZ r m i h,bT,ah];rintro rfl;rw [hm] at h;cases h
  | false=>
   simp only [bT];by_cases hk:k=i
   ·rw [aj hk,aj hk]
   ·rw [ah hk,ah hk]
    exact mZ r (k :: m) i (by simp only [muB,h,Bool.or_false];cases hb:Nat.beq k i with
     | true=>exact (hk (Nat.eq_of_beq_eq_true hb)).elim
     | false=>rfl)
def cp (s S:St):Prop:=s.bx=S.bx/\s.tk=S.tk/\sf s.sl (uniqS [] S.sl)
theorem pE {X:Ctx} {E:En} {s S:St} {a:Act} {w:World} (h:Rel X E s a w) (hs:cp s S):Rel X E S a w where
 env:=by rw [<- hs.1];exact h.env
 tk:=by rw [<- hs.2.1];exact h.tk
 sz:=h.sz
 tm:=fun i x hx=>h.tm i x (kZ hs.2.2 i x (by rw [mZ _ _ _ rfl];exact hx))
 df:=h.df
 nw:=h.nw
 fr:=h.fr
 sh:=h.sh
 bt:=h.bt
theorem BJ {X:Ctx} {id:Nat} {ops:Array Oper} {k:List It} {st:St} (W:Nat->Bool) (x y:Nat) (l l':List Nat) (i j:Nat) (hm:X.P.follows .mixedOrders=true) (hc:MV ops W l l' x y=true) (S:St)
  (h:goD X ⟨ops,W,[.mC fun s=>s=S],st,none⟩ 3000 true (selL ops.toList l) st.sl st) (h':goD X ⟨ops,W,[.mC fun s=>cp s (ch i j S)],st,none⟩ 3000 true (selL ops.toList l') st.sl st)
  (fL:(Nat.ble X.n0 i && Nat.ble X.n0 j && Nat.blt i S.bx.length && Nat.blt j S.bx.length)=true) (hk:go X 4000 k S) (hX:X.bt=[]:=by exact rfl):jo X id ops k st:=by
 intro E a w hr;have ei:=eE hr;simp only [aP,Nat.ble_eq,Nat.blt_eq] at fL;simp only [MV,DW,aP,List.all_eq_true,Nat.blt_eq,Nat.ble_eq,beq_iff_eq,List.mem_range,Bool.not_eq_true'] at hc;obtain ⟨⟨⟨⟨⟨⟨⟨⟨⟨Dg,DG⟩,Mo⟩,⟨⟨⟨h1a,L9⟩,h1c⟩,hlen⟩,h1d⟩,⟨⟨⟨h2a,QS⟩,h2c⟩,_⟩,h2d⟩,L7⟩,MT⟩,PF⟩,MU⟩,hT⟩:=hc
 have hQ:∀ S',(S'=S∨S'=ch i j S)->∀ a w,(∃ st E,Rel X E st a w/\(st=S' ∨ cp st S'))->kq X k .normal a w:=by
  rintro S' hS a w ⟨lz,E1,TI,vw⟩;have ba:Rel X E1 S' a w:=by grind [pE]
  rcases hS with rfl | rfl
  ·exact go_sound 4000 _ _ hk E1 a w ba
  ·obtain ⟨E2,lU⟩:=tY hX ba fL.1.1.1 fL.1.1.2 fL.1.2 fL.2;exact go_sound 4000 _ _ hk E2 a w lU
 have key:∀ (S':St),(S'=S∨S'=ch i j S)->∀ (l:List Nat),(selL ops.toList l).map (·.1)=l->∀ J:St->Prop,(∀ s,J s->s=S' ∨ cp s S')->(goD X ⟨ops,W,[.mC J],st,none⟩ 3000 true (selL ops.toList l) st.sl st) ->
   runT X.P ops W (CC E st.bx w.drew) (fun a w=>kq X k .normal a w) l a w.drew:=by
  intro S' hS l hl J hJ h;have hs:=kY ei (ops:=ops) (W:=W) (k:=[.mC J]);have:=dh (D:=⟨⟨ops,W,[.mC J],st,none⟩,E,w.drew⟩) ei.env.em 3000 true _ _ _ h (fun p hp=>by simpa using DU hp) E a w.drew hs;rw [hl] at this;exact kh (fun a w ⟨st,E1,h1,h2⟩=>hQ S' hS a w ⟨st,E1,h1,hJ st h2⟩) this
 have e1:=key S (.inl rfl) l h1a _ (fun s hs=>.inl hs) h;have e2:=key (ch i j S) (.inr rfl) l' h2a _ (fun s hs=>.inr hs) h';refine wp_region_any hm ?_
 have GO:∀ (l:List Nat),(∀ i,i < ops.size->l.contains i=true)->(∀ i∈l,i < ops.size)->∀ i,i∈l↔i < ops.size/\(Array.replicate ops.size false).getD i true=false:=by
  intro l ha hb i;constructor
  all_goals simp_all
 have QT:x≠y:=by
  intro e;subst e;simp at Dg
 refine yz (C:=CC E st.bx w.drew) (π:=plc l) (π':=plc l') (Q:=kq X k .normal) QT L7 MT PF MU hT (fun a w h=>h) ops.size (Array.replicate ops.size false) l l' a _ (by simp) ?_ (GO l L9 h1c) (GO l' QS h2c) (pB h1d) (pB h2d) hlen
  (by simpa using L9 x DG) (by simpa using L9 y Mo) ⟨fun _ _ _ _ _ _=>rfl,ei.env.sub⟩ e1 e2
 intro i o ho hl;have:i < ops.size:=(Array.getElem?_eq_some_iff.1 ho).1;simp [this] at hl
end Dv
end Go.Proofs.YtfdedoiiahbnnaaGreat
namespace Go.Proofs.YtfdedoiiahbnnaaGreat
namespace Dv
open Go Go.RowKit
section
variable {X:Ctx} {st:St} {k:List It} {E:En} {a:Act} {w:World}
noncomputable def En.Hq (E:En) (w:World):En:=⟨mT E 0 w,[],[],[]⟩
theorem Hr {bx:List (List DV)} (h:Env E bx w):Env (E.Hq w) [] w where
 len:=rfl
 tl:=rfl
 cM:=by simp
 inj:=List.nodup_nil
 sub:=fun x u hx=>by
  rcases cS hx with ⟨_,h1⟩ | h1
  ·exact h1
  ·exact h.sub x u h1
 pc:=by simp [En.Hq]
 bN:=by simp [En.Hq]
 fH:=by simp [En.Hq]
theorem Hs {bx:List (List DV)} (h:Env E bx w):Dc E (E.Hq w) bx 0 where
 c:=fun x u hx=>iO h hx
 fz:=fun i cs hi bP=>by
  obtain ⟨b,ty,arr,hb,hw,hc⟩:=h.cM i cs bP;refine ⟨b,arr,hb,hc,fun j u hj=>?_⟩;show mT E 0 w ⟨b,j,none⟩=some u;unfold mT;rw [aj ⟨i,hi,hb⟩,bD hw];simpa using hj
theorem fZ {P:Program} {s:Bool} {bx:List (List DV)} (h:Env E bx w) {f:FuncId} {args aV:List DV} {vs:List Value} {y:DV} (hc:L4 s P f aV [] [] fun d _ _=>d=y) (ha:CcL bx 0 0 0 aV args) (hv:RvL E args vs) :
  Calls P f vs.toArray w fun e w'=>∃ v E2,e = .returned v/\Rv E2 y v/\lG (fun _=>False) w w' /\ (s=true->∃ q,w'=w.drewN q):=by
 have J4:RvL (E.Hq w) aV vs:=CcL.sound (Hs h) (Al.zero _ _) ha hv;refine (hc (E.Hq w) w vs (Hr h) rfl J4).mono ?_;rintro e w' ⟨v,rfl,hm,hs,d,os,E2,he,hβ,oo,hn,Kx,rfl⟩;refine ⟨v,E2,rfl,Kx,⟨hm.os,hm.tape,hm.output,hm.size,fun i hi _=>hm.block i hi ?_⟩,hs⟩;rintro (h1 | ⟨y,h1,_⟩)
 ·simp [En.Hq] at h1
 ·simp [En.Hq] at h1
theorem na {f:FuncId} {args aV:List DV} {d:Nat} {y:Value} (gV:Enters X.P f) (hc:bh X.P f aV (.v y)) (ha:CcL st.bx 0 0 0 aV args) (hd:dF X.nt st.sl (some d)=true)
  (hk:go X 4000 k ⟨(d,⟨[],.v y⟩) :: st.sl,st.bx,st.tk⟩) (bo:X.still=false:=by exact rfl):CallG X f args (some d) k st:=by
 refine ⟨gV,bo,fun E a w vs h hv=>(fZ h.env hc ha hv).mono ?_⟩;rintro e w' ⟨v,E2,rfl,hr,hm,_⟩;have hh:∀ i,i < w.heap.size->w'.heap[i]? = w.heap[i]?:=fun i hi=>hm.block i hi (fun h=>h);have ba:Rel X E st a w':=bU h (Ext.refl E) (h.env.fX hh) h.tk h.nw (h.fr.bF hm.os hm.tape hm.output hm.size fun i hi=>.inr (hh i hi)) (kF bo) (h.bt.fX fun b hb=>hh b (h.env.aN hb));unfold Rv at hr;exact go_sound 4000 _ _ hk E _ w' (aO ba hd (.v y) v (by unfold Rv;exact hr))
end
end Dv
end Go.Proofs.YtfdedoiiahbnnaaGreat
namespace Go.Proofs.YtfdedoiiahbnnaaGreat
namespace Dv
open Go Go.RowKit
def Ht (bx:List (List DV)) (N m:Nat) (sl:List (Nat × Sl)):List (Nat × Sl)->Prop
 | []=>True
 | p :: r=>(∃ x,get sl p.1=some ⟨p.2.gs,x⟩/\Cc bx N N m p.2.s x)/\Ht bx N m sl r
theorem sg {bx:List (List DV)} {N m:Nat} {sl:List (Nat × Sl)}:∀ {l:List (Nat × Sl)},Ht bx N m sl l->∀ i x',get l i=some x' -> ∃ x,get sl i=some ⟨x'.gs,x⟩/\Cc bx N N m x'.s x
 | [],_,i,x',hx=>by cases hx
 | (k,y) :: r,h,i,x',hx=>by
  simp only [bT] at hx;split at hx
  ·rename_i lO;subst lO;simp only [oI] at hx;subst hx;exact h.1
  ·exact sg h.2 i x' hx
section
variable {X:Ctx} {E:En} {st aJ:St} {a:Act} {w:World} {k:List It}
theorem Hu (h:Rel X E st a w) (N:Nat) (hN:X.n0<=N) (hNl:N<=st.bx.length) (nO:jw st.bx N N st.tk.length aJ.bx (st.bx.take N)) (oo:aJ.tk=st.tk) (yj:Ht st.bx N st.tk.length st.sl aJ.sl):∃ E',Rel X E' aJ a w:=by
 obtain ⟨r,Kt,QE⟩:=h.nw.β;have hlen:E.β.length=st.bx.length:=h.env.len
 have cm:∀ (i:Nat) b,X.n0<=i->E.β[i]? = some b->b∈r:=fun i b hi hb=>by
  rw [Kt,List.getElem?_append_right (by rw [X.tG];exact hi)] at hb;exact mG hb
 let E':En:=⟨mT E N w,E.β.take N,E.tk,E.τ⟩
 have Ha:Dc E E' st.bx N:={
  c:=fun x u hx=>iO h.env hx
  fz:=fun i cs hi bP=>by
   obtain ⟨b,ty,arr,hb,hw,hc⟩:=h.env.cM i cs bP;refine ⟨b,arr,hb,hc,fun j u hj=>?_⟩;show mT E N w ⟨b,j,none⟩=some u;unfold mT;rw [aj ⟨i,hi,hb⟩,bD hw]
   simpa using hj }
 have tS:Al E E' N st.tk.length:={
  β:=fun i b hi hb=>by show (E.β.take N)[i]? = _;rw [bJ,aj hi];exact hb
  tk:=fun k hk=>⟨rfl,rfl⟩ }
 have Ku:∀ (i:Nat) b,N<=i->E.β[i]? = some b->b ∉ E.β.take N:=fun i b hi hb hm=>by
  obtain ⟨j,hj⟩:=List.getElem?_of_mem hm;rw [bJ] at hj;split at hj
  ·rename_i hjN;have:=(List.getElem?_inj (gS hb).1 h.env.inj).1 (hb.trans hj.symm);omega
  ·cases hj
 obtain ⟨gM,MF⟩:=nO.get;refine ⟨E',?_⟩
 exact {
  env:={
   len:=by grind
   tl:=h.env.tl
   cM:=fun i cs' hi=>by
    obtain ⟨cs,bP,nN⟩:=MF i cs' hi;rw [bJ] at bP;split at bP
    ·rename_i av;obtain ⟨b,ty,arr,hb,hw,hc⟩:=h.env.cM i cs bP;exact ⟨b,ty,arr,tS.β i b av hb,hw,CcL.sound Ha tS nN hc.1,hc.2⟩
    ·cases bP
   inj:=h.env.inj.sublist (List.take_sublist _ _)
   sub:=fun x u hx=>by
    rcases cS hx with ⟨_,h1⟩ | h1
    ·exact h1
    ·exact h.env.sub x u h1
   pc:=fun x u hx hm=>by
    rcases cS hx with ⟨⟨i,hi,hb⟩,_⟩ | h1
    ·exact Ku i _ hi hb hm
    ·exact h.env.pc x u h1 (List.mem_of_mem_take hm)
   bN:=fun k q y hq hy=>by
    rcases h.env.bN k q y hq hy with h1 | ⟨g,cap,cur,rfl,h1,h2,h3,h4,h5,h6⟩
    ·exact .inl h1
    ·refine .inr ⟨g,cap,cur,rfl,h1,⟨h2.1,h2.2.mono fun _ _ hx=>iO h.env hx⟩,h3,h4,fun hm=>h5 (List.mem_of_mem_take hm),fun x u hx hg=>?_⟩;rcases cS hx with ⟨⟨i,hi,hb⟩,_⟩ | h7
     all_goals grind
   fH:=h.env.fH }
  tk:=by rw [oo];exact h.tk
  sz:=h.sz
  tm:=fun i x' rU=>by
   obtain ⟨x,hx,nN⟩:=sg yj i x' rU;have:=h.tm i _ hx
   grind [Cc.sound]
  df:=h.df
  nw:={
   c:=fun x u hx=>iO h.env (h.nw.c x u hx)
   cn:=fun x u hx=>by
    rcases cS hx with ⟨⟨i,hi,hb⟩,_⟩ | h1
    ·grind
    ·exact h.nw.cn x u h1
   β:=by
    refine ⟨r.take (N - X.n0),?_,fun b hb=>QE b (List.mem_of_mem_take hb)⟩;show E.β.take N=_;rw [Kt,List.take_append,List.take_of_length_le (by rw [X.tG];omega),X.tG]
   tk:=h.nw.tk
   tn:=h.nw.tn
   l0:=h.nw.l0 }
  fr:=h.fr
  sh:=h.sh
  bt:=h.bt.sub _ }
theorem DX {c:Code} (N:Nat) (lz:St) (hN:Nat.ble X.n0 N=true) (hNl:Nat.ble N st.bx.length=true) (oo:lz.tk=st.tk) (nO:jw st.bx N N st.tk.length lz.bx (st.bx.take N)) (yj:Ht st.bx N st.tk.length st.sl lz.sl)
  (hk:kI X c k lz):kI X c k st:=by
 intro E a w h;obtain ⟨E',h'⟩:=Hu h N (nL hN) (nL hNl) nO oo yj;exact hk E' a w h'
theorem fj {n0 m0:Nat} {st aJ:St} (n:Nat) (q:TkE) (hq:q.new=true) (hn:Nat.ble n st.bx.length=true) (h3:st.tk ++ [q]=aJ.tk) (h2:WeLL n st.tk.length aJ.tk (st.bx.take n) aJ.bx) (h4:Nat.ble n0 n=true) (h5:Nat.ble m0 st.tk.length=true)
  (h:jr n st.tk.length aJ.tk st.sl aJ.sl):kG n0 m0 st aJ:=by
 have hl:(st.bx.take n).length=n:=by simp_all
 exact ⟨st.tk,[],[q],st.bx.take n,st.bx.drop n,by simpa using h5,by rw [hl];simpa using h4,by simp,h3.symm,by simpa using hq,(List.take_append_drop n st.bx).symm,by rw [hl];exact h2,by rw [hl];exact h⟩
end
end Dv
end Go.Proofs.YtfdedoiiahbnnaaGreat
namespace Go.Proofs.YtfdedoiiahbnnaaGreat
namespace Dv
open Go Go.RowKit
section
variable {X:Ctx} {st:St} {k:List It} {E:En} {a:Act} {w:World}
theorem iT {f:FuncId} {rest DY cs cs':List DV} {i d:Nat} (gV:Enters X.P f) (hd:dF X.nt st.sl (some d)=true) (nO:st.bx[i]? = some cs) (bP:CcL [] 0 0 0 cs' cs) (ha:CcL [] 0 0 0 DY rest)
  {Φ:DV->List (List DV)->List TkE->Prop} (hc:Ev X.P f (.loc 0 0 :: DY) [cs'] [] Φ) (cC:∀ r os tk,Φ r os tk->clB 0 0 r=true/\∀ mD∈os,clB.clL 0 0 mD=true)
  (hk:∀ r mD,Φ r [mD] []->go X 4000 k ⟨(d,⟨[],r⟩) :: st.sl,st.bx.set i mD,st.tk⟩) (bo:X.still=false:=by exact rfl) (hX:X.bt=[]:=by exact rfl):CallG X f (.loc i 0 :: rest) (some d) k st:=by
 refine ⟨gV,bo,fun E a w vs h hv=>?_⟩;simp only [RvL] at hv;obtain ⟨v1,vr,rfl,h1,hvr⟩:=hv;unfold Rv at h1;obtain ⟨b,hb,rfl⟩:=h1;obtain ⟨b',ty,arr,ee,hw,nN⟩:=h.env.cM i cs nO;rw [hb] at ee;simp only [oI] at ee;subst ee;have u7:b∈E.β:=mG hb;have KM:=h.env.aN u7
 let E1:En:=⟨E.c,[b],[],[]⟩
 have hx1:Ext E.cl E1:=⟨fun _ _ h=>h,fun j b hj=>by simp [En.cl] at hj,fun k q hk=>by simp [En.cl] at hk⟩;have hfz:Dc E E.cl [] 0:=⟨fun _ _ h=>h,fun i cs _ hi=>by simp at hi⟩
 have KN:Env E1 [cs'] w:={
  len:=rfl
  tl:=rfl
  cM:=fun j MW hj=>by
   cases j with
   | succ j=>simp at hj
   | zero=>
    simp only [List.getElem?_cons_zero,oI] at hj;subst hj;refine ⟨b,ty,arr,rfl,hw,RvL.mono hx1 (CcL.sound hfz (Al.zero _ _) bP nN.1),nN.2⟩
  inj:=by simp [E1]
  sub:=h.env.sub
  pc:=fun x v hx hm=>by
   simp only [E1,List.mem_singleton] at hm;exact h.env.pc x v hx (by rw [hm];exact u7)
  bN:=by simp [E1]
  fH:=by simp [E1] }
 have u3:RvL E1 (.loc 0 0 :: DY) (.pointer (some ⟨b,0,none⟩) :: vr):=rvL_cons (by unfold Rv;exact ⟨b,rfl,rfl⟩) (RvL.mono hx1 (CcL.sound hfz (Al.zero _ _) ha hvr));refine (hc E1 w _ KN rfl u3).mono ?_;rintro e w' ⟨v,rfl,hm,_,r,os,E2,he,hβ,oo,hn,Kx,hΦ⟩;have ht0:E2.tk=[]:=List.eq_nil_of_length_eq_zero oo;rw [ht0] at hΦ
 obtain ⟨mD,rfl⟩:∃ mD,os=[mD]:=by
  have:=he.len;rw [hβ] at this
  match os,this with
  | [x],_=>exact ⟨x,rfl⟩
 obtain ⟨QU,QV⟩:=cC _ _ _ hΦ
 have hh:∀ j,j < w.heap.size->j≠b->w'.heap[j]? = w.heap[j]?:=fun j hj aY=>hm.block j hj (by
  rintro (h1 | ⟨y,h1,_⟩)
  ·simp only [E1,List.mem_singleton] at h1;exact aY h1
  ·simp [E1] at h1)
 have cm:∀ x v,E2.c x=some v->E.c x=some v∨w.heap.size<=x.block:=fun x v hx=>by
  rcases hn.cn x v hx with h1 | h1 | ⟨y,h1,_⟩
  ·exact .inl h1
  ·exact .inr h1
  ·simp [E1] at h1
 let E':En:=⟨E2.c,E.β,E.tk,E.τ⟩
 have hx:Ext E E':=⟨hn.c,fun _ _ h=>h,fun _ q h=>⟨q,h,.inl ⟨rfl,rfl⟩⟩⟩;have BK:Ext (E2.cut 0 0) E':=⟨fun _ _ h=>h,fun j b hj=>by simp [En.cut] at hj,fun k q hk=>by simp [En.cut] at hk⟩
 have ba:Rel X E' ⟨st.sl,st.bx.set i mD,st.tk⟩ a w':=by
  refine bU h hx ?_ h.tk ?_ (h.fr.bF hm.os hm.tape hm.output hm.size fun j hj=>?_) (kF bo) (.nil hX)
  ·exact {
    len:=by rw [List.length_set];exact h.env.len
    tl:=h.env.tl
    cM:=fun j MW hj=>by
     by_cases Km:j=i
     ·subst Km;rw [gm (gS nO).1] at hj;simp only [oI] at hj;subst hj;obtain ⟨b2,QW,KO,kR,qX,jD⟩:=he.cM 0 mD rfl;rw [hβ] at kR;simp only [E1,List.getElem?_cons_zero,oI] at kR;subst kR;exact ⟨b,QW,KO,hb,qX,RvL.mono BK (RvL.cut jD.1 (QV mD (by simp))),jD.2⟩
     ·rw [List.getElem?_set_ne (Ne.symm Km)] at hj;obtain ⟨bj,QX,KP,I2,MX,Ke⟩:=h.env.cM j MW hj
      have aY:bj≠b:=by
       rintro rfl;exact Km ((List.getElem?_inj (gS I2).1 h.env.inj).1 (I2.trans hb.symm))
      exact ⟨bj,QX,KP,I2,by rw [hh bj (cv MX) aY];exact MX,Ke.mono hx⟩
    inj:=h.env.inj
    sub:=he.sub
    pc:=fun x v hc iE=>by
     rcases cm x v hc with h1 | h1
     ·exact h.env.pc x v h1 iE
     ·have:=h.env.aN iE;omega
    bN:=fun k q y hq hy=>by
     rcases h.env.bN k q y hq hy with h1 | ⟨g',cap,cur,rfl,h1,h2,h3,h4,h5,h6⟩
     ·exact .inl h1
     ·refine .inr ⟨g',cap,cur,rfl,by rw [hh g' (cv h1) (fun e=>h5 (by rw [e];exact u7))];exact h1,⟨h2.1,h2.2.mono hn.c⟩,h3,h4,h5,fun x v hc hg=>?_⟩;rcases cm x v hc with h7 | h7
      ·exact h6 x v h7 hg
      ·have:=cv h1;omega
    fH:=h.env.fH }
  ·exact {
    c:=fun x v hc=>hn.c x v (h.nw.c x v hc)
    cn:=fun x v hc=>by
     rcases cm x v hc with h1 | h1
     ·exact h.nw.cn x v h1
     ·have:=h.fr.size;exact .inr (.inl (by omega))
    β:=h.nw.β
    tk:=h.nw.tk
    tn:=h.nw.tn
    l0:=h.nw.l0 }
  ·by_cases Kf:j=b
   ·left;obtain ⟨r0,hr0,GO⟩:=h.nw.β;rw [hr0] at u7;rcases List.mem_append.1 u7 with u7 | u7
    ·exact .inl (.inl (Kf ▸ u7))
    ·exact .inr (Kf ▸ GO b u7)
   ·exact .inr (hh j hj Kf)
 exact go_sound 4000 _ _ (hk r mD hΦ) E' _ w' (aO ba hd r v (Rv.mono BK (Rv.cut Kx QU)))
end
end Dv
end Go.Proofs.YtfdedoiiahbnnaaGreat
namespace Go.Proofs.YtfdedoiiahbnnaaGreat
namespace Dv
open Go
def tt:TT:=.ag 210 ⟨1,false,.sl 29 1 24,[.slice none 0 0]⟩ (.ag 105 ⟨1,false,.sl 36 9 112,[.slice none 0 0]⟩ (.ag 51 ⟨4,true,.st [(0,29),(1,49),(2,50),(3,3)],[.slice none 0 0,.slice none 0 0,.slice none 0 0,.int .i64 0]⟩ (.ag 24 ⟨1,false,.int .i64,[.int .i64 0]⟩ (.ag 12 ⟨1,false,.int .u64,[.int .u64 0]⟩ (.ag 6 ⟨1,false,.int .u8,[.int .u8 0]⟩ (.ag 3 ⟨1,false,.int .i64,[.int .i64 0]⟩ (.ag 2 ⟨1,false,.int .i64,[.int .i64 0]⟩ (.ag 1 ⟨1,false,.fn,[.nilFunc]⟩ (.nil) (.nil)) (.nil)) (.ag 5 ⟨1,false,.int .u8,[.int .u8 0]⟩ (.ag 4 ⟨1,false,.bool,[.bool false]⟩ (.nil) (.nil)) (.nil))) (.ag 9 ⟨1,false,.str,[.string ByteArray.empty]⟩ (.ag 8 ⟨4,true,.st [(0,2),(1,3),(2,4),(3,6)],[.int .i64 0,.int .i64 0,.bool false,.int .u8 0]⟩ (.ag 7 ⟨4,true,.st [(0,2),(1,3),(2,4),(3,6)],[.int .i64 0,.int .i64 0,.bool false,.int .u8 0]⟩ (.nil) (.nil)) (.nil)) (.ag 11 ⟨1,false,.str,[.string ByteArray.empty]⟩ (.ag 10 ⟨1,false,.str,[.string ByteArray.empty]⟩ (.nil) (.nil)) (.nil)))) (.ag 18 ⟨1,true,.st [(0,17)],[.pointer none]⟩ (.ag 15 ⟨1,false,.ptr 418,[.pointer none]⟩ (.ag 14 ⟨2,true,.st [(0,9),(1,12)],[.string ByteArray.empty,.int .u64 0]⟩ (.ag 13 ⟨2,true,.st [(0,9),(1,12)],[.string ByteArray.empty,.int .u64 0]⟩ (.nil) (.nil)) (.nil)) (.ag 17 ⟨1,false,.ptr 428,[.pointer none]⟩ (.ag 16 ⟨1,false,.ptr 421,[.pointer none]⟩ (.nil) (.nil)) (.nil))) (.ag 21 ⟨1,false,.int .i32,[.int .i32 0]⟩ (.ag 20 ⟨1,false,.lF,[.nilIface]⟩ (.ag 19 ⟨1,true,.st [(0,17)],[.pointer none]⟩ (.nil) (.nil)) (.nil)) (.ag 23 ⟨1,false,.ptr 129,[.pointer none]⟩ (.ag 22 ⟨1,false,.fn,[.nilFunc]⟩ (.nil) (.nil)) (.nil))))) (.ag 37 ⟨12,true,.st [(0,29),(1,30),(2,31),(3,36)],[.slice none 0 0,.slice none 0 0,.slice none 0 0,.int .i64 0,.int .i64 0,.int .i64 0,.int .i64 0,.int .i64 0,.slice none 0 0,.slice none 0 0,.string ByteArray.empty,.int .i64 0]⟩ (.ag 31 ⟨1,false,.sl 93 11 136,[.slice none 0 0]⟩ (.ag 28 ⟨1,false,.fn,[.nilFunc]⟩ (.ag 26 ⟨2,true,.st [(0,24),(1,3)],[.int .i64 0,.int .i64 0]⟩ (.ag 25 ⟨2,true,.st [(0,24),(1,3)],[.int .i64 0,.int .i64 0]⟩ (.nil) (.nil)) (.nil)) (.ag 30 ⟨1,false,.sl 122 4 48,[.slice none 0 0]⟩ (.ag 29 ⟨1,false,.sl 34 2 24,[.slice none 0 0]⟩ (.nil) (.nil)) (.nil))) (.ag 34 ⟨2,true,.st [(0,9),(1,3)],[.string ByteArray.empty,.int .i64 0]⟩ (.ag 33 ⟨2,true,.st [(0,9),(1,3)],[.string ByteArray.empty,.int .i64 0]⟩ (.ag 32 ⟨1,false,.sl 133 18 224,[.slice none 0 0]⟩ (.nil) (.nil)) (.nil)) (.ag 36 ⟨9,true,.st [(0,3),(1,3),(2,3),(3,3),(4,3),(5,29),(6,32),(7,34)],[.int .i64 0,.int .i64 0,.int .i64 0,.int .i64 0,.int .i64 0,.slice none 0 0,.slice none 0 0,.string ByteArray.empty,.int .i64 0]⟩ (.ag 35 ⟨9,true,.st [(0,3),(1,3),(2,3),(3,3),(4,3),(5,29),(6,32),(7,34)],[.int .i64 0,.int .i64 0,.int .i64 0,.int .i64 0,.int .i64 0,.slice none 0 0,.slice none 0 0,.string ByteArray.empty,.int .i64 0]⟩ (.nil) (.nil)) (.nil)))) (.ag 44 ⟨1,false,.fn,[.nilFunc]⟩ (.ag 41 ⟨1,false,.fn,[.nilFunc]⟩ (.ag 40 ⟨1,false,.fn,[.nilFunc]⟩ (.ag 38 ⟨12,true,.st [(0,29),(1,30),(2,31),(3,36)],[.slice none 0 0,.slice none 0 0,.slice none 0 0,.int .i64 0,.int .i64 0,.int .i64 0,.int .i64 0,.int .i64 0,.slice none 0 0,.slice none 0 0,.string ByteArray.empty,.int .i64 0]⟩ (.nil) (.nil)) (.nil)) (.ag 43 ⟨1,false,.fn,[.nilFunc]⟩ (.ag 42 ⟨1,false,.fn,[.nilFunc]⟩ (.nil) (.nil)) (.nil))) (.ag 48 ⟨1,false,.fn,[.nilFunc]⟩ (.ag 47 ⟨1,false,.fn,[.nilFunc]⟩ (.ag 46 ⟨1,false,.fn,[.nilFunc]⟩ (.nil) (.nil)) (.nil)) (.ag 50 ⟨1,false,.sl 87 7 88,[.slice none 0 0]⟩ (.ag 49 ⟨1,false,.sl 183 1 24,[.slice none 0 0]⟩ (.nil) (.nil)) (.nil)))))) (.ag 79 ⟨1,false,.sl 9 1 16,[.slice none 0 0]⟩ (.ag 65 ⟨6,true,.st [(0,61),(4,26)],[.int .i64 0,.int .i64 0,.string ByteArray.empty,.slice none 0 0,.int .i64 0,.int .i64 0]⟩ (.ag 58 ⟨1,false,.fn,[.nilFunc]⟩ (.ag 54 ⟨1,false,.fn,[.nilFunc]⟩ (.ag 53 ⟨1,false,.fn,[.nilFunc]⟩ (.ag 52 ⟨4,true,.st [(0,29),(1,49),(2,50),(3,3)],[.slice none 0 0,.slice none 0 0,.slice none 0 0,.int .i64 0]⟩ (.nil) (.nil)) (.nil)) (.ag 56 ⟨1,false,.fn,[.nilFunc]⟩ (.ag 55 ⟨1,false,.fn,[.nilFunc]⟩ (.nil) (.nil)) (.nil))) (.ag 61 ⟨4,true,.st [(0,3),(1,3),(2,9),(3,59)],[.int .i64 0,.int .i64 0,.string ByteArray.empty,.slice none 0 0]⟩ (.ag 60 ⟨4,true,.st [(0,3),(1,3),(2,9),(3,59)],[.int .i64 0,.int .i64 0,.string ByteArray.empty,.slice none 0 0]⟩ (.ag 59 ⟨1,false,.sl 61 4 56,[.slice none 0 0]⟩ (.nil) (.nil)) (.nil)) (.ag 64 ⟨6,true,.st [(0,61),(4,26)],[.int .i64 0,.int .i64 0,.string ByteArray.empty,.slice none 0 0,.int .i64 0,.int .i64 0]⟩ (.ag 63 ⟨1,false,.fn,[.nilFunc]⟩ (.nil) (.nil)) (.nil)))) (.ag 72 ⟨1,false,.fn,[.nilFunc]⟩ (.ag 68 ⟨1,false,.sl 70 6 88,[.slice none 0 0]⟩ (.ag 67 ⟨1,false,.fn,[.nilFunc]⟩ (.ag 66 ⟨1,false,.fn,[.nilFunc]⟩ (.nil) (.nil)) (.nil)) (.ag 70 ⟨6,true,.st [(0,3),(1,3),(2,3),(3,9),(4,29),(5,68)],[.int .i64 0,.int .i64 0,.int .i64 0,.string ByteArray.empty,.slice none 0 0,.slice none 0 0]⟩ (.ag 69 ⟨6,true,.st [(0,3),(1,3),(2,3),(3,9),(4,29),(5,68)],[.int .i64 0,.int .i64 0,.int .i64 0,.string ByteArray.empty,.slice none 0 0,.slice none 0 0]⟩ (.nil) (.nil)) (.nil))) (.ag 75 ⟨1,false,.fn,[.nilFunc]⟩ (.ag 74 ⟨1,false,.fn,[.nilFunc]⟩ (.ag 73 ⟨1,false,.fn,[.nilFunc]⟩ (.nil) (.nil)) (.nil)) (.ag 78 ⟨1,false,.fn,[.nilFunc]⟩ (.ag 77 ⟨1,false,.fn,[.nilFunc]⟩ (.nil) (.nil)) (.nil))))) (.ag 92 ⟨11,true,.st [(0,34),(2,36)],[.string ByteArray.empty,.int .i64 0,.int .i64 0,.int .i64 0,.int .i64 0,.int .i64 0,.int .i64 0,.slice none 0 0,.slice none 0 0,.string ByteArray.empty,.int .i64 0]⟩ (.ag 86 ⟨7,true,.st [(0,3),(1,3),(2,3),(3,3),(4,3),(5,79),(6,85)],[.int .i64 0,.int .i64 0,.int .i64 0,.int .i64 0,.int .i64 0,.slice none 0 0,.slice none 0 0]⟩ (.ag 82 ⟨7,true,.st [(0,3),(1,3),(2,3),(3,3),(4,3),(5,79),(6,80)],[.int .i64 0,.int .i64 0,.int .i64 0,.int .i64 0,.int .i64 0,.slice none 0 0,.slice none 0 0]⟩ (.ag 81 ⟨7,true,.st [(0,3),(1,3),(2,3),(3,3),(4,3),(5,79),(6,80)],[.int .i64 0,.int .i64 0,.int .i64 0,.int .i64 0,.int .i64 0,.slice none 0 0,.slice none 0 0]⟩ (.ag 80 ⟨1,false,.sl 90 10 88,[.slice none 0 0]⟩ (.nil) (.nil)) (.nil)) (.ag 85 ⟨1,false,.sl 89 10 88,[.slice none 0 0]⟩ (.ag 84 ⟨1,false,.fn,[.nilFunc]⟩ (.nil) (.nil)) (.nil))) (.ag 89 ⟨10,true,.st [(0,9),(1,4),(2,3),(3,3),(4,3),(5,3),(6,3),(7,3),(8,3),(9,3)],[.string ByteArray.empty,.bool false,.int .i64 0,.int .i64 0,.int .i64 0,.int .i64 0,.int .i64 0,.int .i64 0,.int .i64 0,.int .i64 0]⟩ (.ag 88 ⟨10,true,.st [(0,9),(1,4),(2,3),(3,3),(4,3),(5,3),(6,3),(7,3),(8,3),(9,3)],[.string ByteArray.empty,.bool false,.int .i64 0,.int .i64 0,.int .i64 0,.int .i64 0,.int .i64 0,.int .i64 0,.int .i64 0,.int .i64 0]⟩ (.ag 87 ⟨7,true,.st [(0,3),(1,3),(2,3),(3,3),(4,3),(5,79),(6,85)],[.int .i64 0,.int .i64 0,.int .i64 0,.int .i64 0,.int .i64 0,.slice none 0 0,.slice none 0 0]⟩ (.nil) (.nil)) (.nil)) (.ag 91 ⟨1,false,.fn,[.nilFunc]⟩ (.ag 90 ⟨10,true,.st [(0,9),(1,4),(2,3),(3,3),(4,3),(5,3),(6,3),(7,3),(8,3),(9,3)],[.string ByteArray.empty,.bool false,.int .i64 0,.int .i64 0,.int .i64 0,.int .i64 0,.int .i64 0,.int .i64 0,.int .i64 0,.int .i64 0]⟩ (.nil) (.nil)) (.nil)))) (.ag 98 ⟨1,false,.fn,[.nilFunc]⟩ (.ag 95 ⟨1,false,.fn,[.nilFunc]⟩ (.ag 94 ⟨1,false,.fn,[.nilFunc]⟩ (.ag 93 ⟨11,true,.st [(0,34),(2,36)],[.string ByteArray.empty,.int .i64 0,.int .i64 0,.int .i64 0,.int .i64 0,.int .i64 0,.int .i64 0,.slice none 0 0,.slice none 0 0,.string ByteArray.empty,.int .i64 0]⟩ (.nil) (.nil)) (.nil)) (.ag 97 ⟨1,false,.fn,[.nilFunc]⟩ (.ag 96 ⟨1,false,.sl 3 1 8,[.slice none 0 0]⟩ (.nil) (.nil)) (.nil))) (.ag 102 ⟨1,false,.fn,[.nilFunc]⟩ (.ag 100 ⟨1,false,.fn,[.nilFunc]⟩ (.ag 99 ⟨1,false,.ptr 190,[.pointer none]⟩ (.nil) (.nil)) (.nil)) (.ag 104 ⟨1,false,.fn,[.nilFunc]⟩ (.ag 103 ⟨1,false,.fn,[.nilFunc]⟩ (.nil) (.nil)) (.nil))))))) (.ag 157 ⟨1,false,.fn,[.nilFunc]⟩ (.ag 130 ⟨4,true,.st [(0,3),(1,3),(2,3),(3,29)],[.int .i64 0,.int .i64 0,.int .i64 0,.slice none 0 0]⟩ (.ag 118 ⟨1,false,.fn,[.nilFunc]⟩ (.ag 111 ⟨1,false,.sl 5 1 1,[.slice none 0 0]⟩ (.ag 108 ⟨1,false,.fn,[.nilFunc]⟩ (.ag 107 ⟨1,false,.fn,[.nilFunc]⟩ (.ag 106 ⟨1,false,.fn,[.nilFunc]⟩ (.nil) (.nil)) (.nil)) (.ag 110 ⟨1,false,.ptr 113,[.pointer none]⟩ (.ag 109 ⟨1,false,.fn,[.nilFunc]⟩ (.nil) (.nil)) (.nil))) (.ag 114 ⟨1,false,.lF,[.nilIface]⟩ (.ag 113 ⟨2,true,.st [(0,110),(1,111)],[.pointer none,.slice none 0 0]⟩ (.ag 112 ⟨2,true,.st [(0,110),(1,111)],[.pointer none,.slice none 0 0]⟩ (.nil) (.nil)) (.nil)) (.ag 117 ⟨1,false,.fn,[.nilFunc]⟩ (.ag 115 ⟨1,false,.lF,[.nilIface]⟩ (.nil) (.nil)) (.nil)))) (.ag 124 ⟨1,false,.fn,[.nilFunc]⟩ (.ag 121 ⟨4,true,.st [(0,34),(2,34)],[.string ByteArray.empty,.int .i64 0,.string ByteArray.empty,.int .i64 0]⟩ (.ag 120 ⟨1,false,.fn,[.nilFunc]⟩ (.ag 119 ⟨1,false,.fn,[.nilFunc]⟩ (.nil) (.nil)) (.nil)) (.ag 123 ⟨1,false,.fn,[.nilFunc]⟩ (.ag 122 ⟨4,true,.st [(0,34),(2,34)],[.string ByteArray.empty,.int .i64 0,.string ByteArray.empty,.int .i64 0]⟩ (.nil) (.nil)) (.nil))) (.ag 127 ⟨1,false,.ptr 284,[.pointer none]⟩ (.ag 126 ⟨1,false,.sl 82 7 88,[.slice none 0 0]⟩ (.ag 125 ⟨1,false,.fn,[.nilFunc]⟩ (.nil) (.nil)) (.nil)) (.ag 129 ⟨5,true,.st [(0,99),(1,126),(2,3),(3,127),(4,96)],[.pointer none,.slice none 0 0,.int .i64 0,.pointer none,.slice none 0 0]⟩ (.ag 128 ⟨5,true,.st [(0,99),(1,126),(2,3),(3,127),(4,96)],[.pointer none,.slice none 0 0,.int .i64 0,.pointer none,.slice none 0 0]⟩ (.nil) (.nil)) (.nil))))) (.ag 144 ⟨1,false,.fn,[.nilFunc]⟩ (.ag 137 ⟨15,true,.st [(0,38),(12,99),(13,23),(14,3)],[.slice none 0 0,.slice none 0 0,.slice none 0 0,.int .i64 0,.int .i64 0,.int .i64 0,.int .i64 0,.int .i64 0,.slice none 0 0,.slice none 0 0,.string ByteArray.empty,.int .i64 0,.pointer none,.pointer none,.int .i64 0]⟩ (.ag 133 ⟨18,true,.st [(0,34),(2,4),(3,29),(4,3),(5,131),(9,36)],[.string ByteArray.empty,.int .i64 0,.bool false,.slice none 0 0,.int .i64 0,.int .i64 0,.int .i64 0,.int .i64 0,.slice none 0 0,.int .i64 0,.int .i64 0,.int .i64 0,.int .i64 0,.int .i64 0,.slice none 0 0,.slice none 0 0,.string ByteArray.empty,.int .i64 0]⟩ (.ag 132 ⟨18,true,.st [(0,34),(2,4),(3,29),(4,3),(5,131),(9,36)],[.string ByteArray.empty,.int .i64 0,.bool false,.slice none 0 0,.int .i64 0,.int .i64 0,.int .i64 0,.int .i64 0,.slice none 0 0,.int .i64 0,.int .i64 0,.int .i64 0,.int .i64 0,.int .i64 0,.slice none 0 0,.slice none 0 0,.string ByteArray.empty,.int .i64 0]⟩ (.ag 131 ⟨4,true,.st [(0,3),(1,3),(2,3),(3,29)],[.int .i64 0,.int .i64 0,.int .i64 0,.slice none 0 0]⟩ (.nil) (.nil)) (.nil)) (.ag 136 ⟨1,false,.ptr 138,[.pointer none]⟩ (.ag 135 ⟨1,false,.fn,[.nilFunc]⟩ (.nil) (.nil)) (.nil))) (.ag 140 ⟨1,false,.fn,[.nilFunc]⟩ (.ag 139 ⟨1,false,.fn,[.nilFunc]⟩ (.ag 138 ⟨15,true,.st [(0,38),(12,99),(13,23),(14,3)],[.slice none 0 0,.slice none 0 0,.slice none 0 0,.int .i64 0,.int .i64 0,.int .i64 0,.int .i64 0,.int .i64 0,.slice none 0 0,.slice none 0 0,.string ByteArray.empty,.int .i64 0,.pointer none,.pointer none,.int .i64 0]⟩ (.nil) (.nil)) (.nil)) (.ag 142 ⟨1,false,.fn,[.nilFunc]⟩ (.ag 141 ⟨1,false,.fn,[.nilFunc]⟩ (.nil) (.nil)) (.nil)))) (.ag 150 ⟨1,false,.fn,[.nilFunc]⟩ (.ag 147 ⟨1,false,.fn,[.nilFunc]⟩ (.ag 146 ⟨1,false,.fn,[.nilFunc]⟩ (.ag 145 ⟨1,false,.fn,[.nilFunc]⟩ (.nil) (.nil)) (.nil)) (.ag 149 ⟨1,false,.fn,[.nilFunc]⟩ (.ag 148 ⟨1,false,.fn,[.nilFunc]⟩ (.nil) (.nil)) (.nil))) (.ag 154 ⟨1,true,.st [(0,151)],[.pointer none]⟩ (.ag 153 ⟨1,false,.fn,[.nilFunc]⟩ (.ag 151 ⟨1,false,.ptr 244,[.pointer none]⟩ (.nil) (.nil)) (.nil)) (.ag 156 ⟨1,false,.fn,[.nilFunc]⟩ (.ag 155 ⟨1,true,.st [(0,151)],[.pointer none]⟩ (.nil) (.nil)) (.nil)))))) (.ag 183 ⟨1,false,.sl 4 1 1,[.slice none 0 0]⟩ (.ag 171 ⟨1,false,.fn,[.nilFunc]⟩ (.ag 163 ⟨1,false,.sl 218 5 48,[.slice none 0 0]⟩ (.ag 160 ⟨1,false,.fn,[.nilFunc]⟩ (.ag 159 ⟨1,false,.fn,[.nilFunc]⟩ (.ag 158 ⟨1,false,.fn,[.nilFunc]⟩ (.nil) (.nil)) (.nil)) (.ag 162 ⟨1,false,.fn,[.nilFunc]⟩ (.ag 161 ⟨1,false,.fn,[.nilFunc]⟩ (.nil) (.nil)) (.nil))) (.ag 167 ⟨3,true,.st [(0,163),(1,26)],[.slice none 0 0,.int .i64 0,.int .i64 0]⟩ (.ag 166 ⟨3,true,.st [(0,163),(1,26)],[.slice none 0 0,.int .i64 0,.int .i64 0]⟩ (.ag 165 ⟨1,false,.fn,[.nilFunc]⟩ (.nil) (.nil)) (.nil)) (.ag 170 ⟨1,false,.fn,[.nilFunc]⟩ (.ag 169 ⟨1,false,.fn,[.nilFunc]⟩ (.nil) (.nil)) (.nil)))) (.ag 177 ⟨1,false,.fn,[.nilFunc]⟩ (.ag 174 ⟨1,false,.fn,[.nilFunc]⟩ (.ag 173 ⟨1,false,.fn,[.nilFunc]⟩ (.ag 172 ⟨1,false,.fn,[.nilFunc]⟩ (.nil) (.nil)) (.nil)) (.ag 176 ⟨1,false,.fn,[.nilFunc]⟩ (.ag 175 ⟨1,false,.fn,[.nilFunc]⟩ (.nil) (.nil)) (.nil))) (.ag 180 ⟨1,false,.fn,[.nilFunc]⟩ (.ag 179 ⟨3,true,.st [(0,26),(2,3)],[.int .i64 0,.int .i64 0,.int .i64 0]⟩ (.ag 178 ⟨3,true,.st [(0,26),(2,3)],[.int .i64 0,.int .i64 0,.int .i64 0]⟩ (.nil) (.nil)) (.nil)) (.ag 182 ⟨1,false,.fn,[.nilFunc]⟩ (.ag 181 ⟨1,false,.fn,[.nilFunc]⟩ (.nil) (.nil)) (.nil))))) (.ag 195 ⟨1,false,.fn,[.nilFunc]⟩ (.ag 189 ⟨2051,true,.st [(0,79),(1,127),(2,186),(3,188),(1027,188)],(.slice none 0 0 :: .pointer none :: .pointer none :: List.replicate 2048 (.int .i64 0))⟩ (.ag 186 ⟨1,false,.ptr 295,[.pointer none]⟩ (.ag 185 ⟨1,false,.fn,[.nilFunc]⟩ (.ag 184 ⟨1,false,.fn,[.nilFunc]⟩ (.nil) (.nil)) (.nil)) (.ag 188 ⟨1024,true,.ar 32 32,(List.replicate 1024 (.int .i64 0))⟩ (.ag 187 ⟨32,true,.ar 32 1,[.int .i64 0,.int .i64 0,.int .i64 0,.int .i64 0,.int .i64 0,.int .i64 0,.int .i64 0,.int .i64 0,.int .i64 0,.int .i64 0,.int .i64 0,.int .i64 0,.int .i64 0,.int .i64 0,.int .i64 0,.int .i64 0,.int .i64 0,.int .i64 0,.int .i64 0,.int .i64 0,.int .i64 0,.int .i64 0,.int .i64 0,.int .i64 0,.int .i64 0,.int .i64 0,.int .i64 0,.int .i64 0,.int .i64 0,.int .i64 0,.int .i64 0,.int .i64 0]⟩ (.nil) (.nil)) (.nil))) (.ag 192 ⟨1,false,.sl 285 2 16,[.slice none 0 0]⟩ (.ag 191 ⟨1,false,.fn,[.nilFunc]⟩ (.ag 190 ⟨2051,true,.st [(0,79),(1,127),(2,186),(3,188),(1027,188)],(.slice none 0 0 :: .pointer none :: .pointer none :: List.replicate 2048 (.int .i64 0))⟩ (.nil) (.nil)) (.nil)) (.ag 194 ⟨1,false,.fn,[.nilFunc]⟩ (.ag 193 ⟨1,false,.fn,[.nilFunc]⟩ (.nil) (.nil)) (.nil)))) (.ag 202 ⟨1,false,.fn,[.nilFunc]⟩ (.ag 198 ⟨1,false,.fn,[.nilFunc]⟩ (.ag 197 ⟨1,false,.fn,[.nilFunc]⟩ (.ag 196 ⟨1,false,.fn,[.nilFunc]⟩ (.nil) (.nil)) (.nil)) (.ag 201 ⟨1,false,.fn,[.nilFunc]⟩ (.ag 199 ⟨1,false,.ptr 5,[.pointer none]⟩ (.nil) (.nil)) (.nil))) (.ag 207 ⟨1,false,.fn,[.nilFunc]⟩ (.ag 206 ⟨1,false,.fn,[.nilFunc]⟩ (.ag 204 ⟨1,false,.fn,[.nilFunc]⟩ (.nil) (.nil)) (.nil)) (.ag 209 ⟨1,false,.fn,[.nilFunc]⟩ (.ag 208 ⟨1,false,.fn,[.nilFunc]⟩ (.nil) (.nil)) (.nil)))))))) (.ag 319 ⟨1,false,.fn,[.nilFunc]⟩ (.ag 266 ⟨1,false,.fn,[.nilFunc]⟩ (.ag 238 ⟨1,false,.fn,[.nilFunc]⟩ (.ag 223 ⟨1,false,.fn,[.nilFunc]⟩ (.ag 216 ⟨1,false,.fn,[.nilFunc]⟩ (.ag 213 ⟨1,false,.ptr 215,[.pointer none]⟩ (.ag 212 ⟨1,false,.fn,[.nilFunc]⟩ (.ag 211 ⟨1,false,.fn,[.nilFunc]⟩ (.nil) (.nil)) (.nil)) (.ag 215 ⟨2,true,.st [(0,151),(1,3)],[.pointer none,.int .i64 0]⟩ (.ag 214 ⟨2,true,.st [(0,151),(1,3)],[.pointer none,.int .i64 0]⟩ (.nil) (.nil)) (.nil))) (.ag 219 ⟨1,false,.fn,[.nilFunc]⟩ (.ag 218 ⟨5,true,.st [(0,3),(1,3),(2,3),(3,9),(4,3)],[.int .i64 0,.int .i64 0,.int .i64 0,.string ByteArray.empty,.int .i64 0]⟩ (.ag 217 ⟨5,true,.st [(0,3),(1,3),(2,3),(3,9),(4,3)],[.int .i64 0,.int .i64 0,.int .i64 0,.string ByteArray.empty,.int .i64 0]⟩ (.nil) (.nil)) (.nil)) (.ag 221 ⟨4,true,.st [(0,163),(1,3),(2,26)],[.slice none 0 0,.int .i64 0,.int .i64 0,.int .i64 0]⟩ (.ag 220 ⟨4,true,.st [(0,163),(1,3),(2,26)],[.slice none 0 0,.int .i64 0,.int .i64 0,.int .i64 0]⟩ (.nil) (.nil)) (.nil)))) (.ag 231 ⟨1,false,.fn,[.nilFunc]⟩ (.ag 227 ⟨1,false,.fn,[.nilFunc]⟩ (.ag 226 ⟨1,false,.fn,[.nilFunc]⟩ (.ag 225 ⟨1,false,.fn,[.nilFunc]⟩ (.nil) (.nil)) (.nil)) (.ag 230 ⟨1,false,.fn,[.nilFunc]⟩ (.ag 228 ⟨1,false,.fn,[.nilFunc]⟩ (.nil) (.nil)) (.nil))) (.ag 234 ⟨1,false,.fn,[.nilFunc]⟩ (.ag 233 ⟨1,false,.fn,[.nilFunc]⟩ (.ag 232 ⟨1,false,.fn,[.nilFunc]⟩ (.nil) (.nil)) (.nil)) (.ag 237 ⟨1,false,.fn,[.nilFunc]⟩ (.ag 235 ⟨1,false,.fn,[.nilFunc]⟩ (.nil) (.nil)) (.nil))))) (.ag 250 ⟨1,false,.fn,[.nilFunc]⟩ (.ag 244 ⟨5,true,.st [(0,163),(1,3),(2,3),(3,26)],[.slice none 0 0,.int .i64 0,.int .i64 0,.int .i64 0,.int .i64 0]⟩ (.ag 241 ⟨1,true,.st [(0,3)],[.int .i64 0]⟩ (.ag 240 ⟨1,true,.st [(0,3)],[.int .i64 0]⟩ (.ag 239 ⟨1,false,.ptr 241,[.pointer none]⟩ (.nil) (.nil)) (.nil)) (.ag 243 ⟨5,true,.st [(0,163),(1,3),(2,3),(3,26)],[.slice none 0 0,.int .i64 0,.int .i64 0,.int .i64 0,.int .i64 0]⟩ (.ag 242 ⟨1,false,.fn,[.nilFunc]⟩ (.nil) (.nil)) (.nil))) (.ag 247 ⟨1,false,.fn,[.nilFunc]⟩ (.ag 246 ⟨1,false,.fn,[.nilFunc]⟩ (.ag 245 ⟨1,false,.fn,[.nilFunc]⟩ (.nil) (.nil)) (.nil)) (.ag 249 ⟨1,false,.fn,[.nilFunc]⟩ (.ag 248 ⟨1,false,.fn,[.nilFunc]⟩ (.nil) (.nil)) (.nil)))) (.ag 257 ⟨1,false,.fn,[.nilFunc]⟩ (.ag 253 ⟨1,false,.fn,[.nilFunc]⟩ (.ag 252 ⟨1,false,.fn,[.nilFunc]⟩ (.ag 251 ⟨1,false,.fn,[.nilFunc]⟩ (.nil) (.nil)) (.nil)) (.ag 256 ⟨1,false,.fn,[.nilFunc]⟩ (.ag 255 ⟨1,false,.fn,[.nilFunc]⟩ (.nil) (.nil)) (.nil))) (.ag 262 ⟨1,false,.fn,[.nilFunc]⟩ (.ag 261 ⟨1,false,.fn,[.nilFunc]⟩ (.ag 259 ⟨1,false,.fn,[.nilFunc]⟩ (.nil) (.nil)) (.nil)) (.ag 265 ⟨1,false,.fn,[.nilFunc]⟩ (.ag 263 ⟨1,false,.fn,[.nilFunc]⟩ (.nil) (.nil)) (.nil)))))) (.ag 293 ⟨1,false,.sl 290 1 8,[.slice none 0 0]⟩ (.ag 280 ⟨1,false,.fn,[.nilFunc]⟩ (.ag 274 ⟨1,false,.fn,[.nilFunc]⟩ (.ag 271 ⟨1,false,.fn,[.nilFunc]⟩ (.ag 270 ⟨1,false,.fn,[.nilFunc]⟩ (.ag 268 ⟨1,false,.fn,[.nilFunc]⟩ (.nil) (.nil)) (.nil)) (.ag 273 ⟨1,false,.fn,[.nilFunc]⟩ (.ag 272 ⟨1,false,.fn,[.nilFunc]⟩ (.nil) (.nil)) (.nil))) (.ag 277 ⟨1,false,.fn,[.nilFunc]⟩ (.ag 276 ⟨1,false,.fn,[.nilFunc]⟩ (.ag 275 ⟨1,false,.fn,[.nilFunc]⟩ (.nil) (.nil)) (.nil)) (.ag 279 ⟨1,false,.fn,[.nilFunc]⟩ (.ag 278 ⟨1,false,.fn,[.nilFunc]⟩ (.nil) (.nil)) (.nil)))) (.ag 286 ⟨1,false,.fn,[.nilFunc]⟩ (.ag 283 ⟨2,true,.st [(0,79),(1,96)],[.slice none 0 0,.slice none 0 0]⟩ (.ag 282 ⟨1,false,.fn,[.nilFunc]⟩ (.ag 281 ⟨1,false,.fn,[.nilFunc]⟩ (.nil) (.nil)) (.nil)) (.ag 285 ⟨2,true,.ar 2 1,[.int .i64 0,.int .i64 0]⟩ (.ag 284 ⟨2,true,.st [(0,79),(1,96)],[.slice none 0 0,.slice none 0 0]⟩ (.nil) (.nil)) (.nil))) (.ag 290 ⟨1,false,.int .u64,[.int .u64 0]⟩ (.ag 289 ⟨1,false,.fn,[.nilFunc]⟩ (.ag 288 ⟨1,false,.fn,[.nilFunc]⟩ (.nil) (.nil)) (.nil)) (.ag 292 ⟨1,false,.fn,[.nilFunc]⟩ (.ag 291 ⟨20,true,.ar 20 1,[.int .u8 0,.int .u8 0,.int .u8 0,.int .u8 0,.int .u8 0,.int .u8 0,.int .u8 0,.int .u8 0,.int .u8 0,.int .u8 0,.int .u8 0,.int .u8 0,.int .u8 0,.int .u8 0,.int .u8 0,.int .u8 0,.int .u8 0,.int .u8 0,.int .u8 0,.int .u8 0]⟩ (.nil) (.nil)) (.nil))))) (.ag 306 ⟨1,false,.fn,[.nilFunc]⟩ (.ag 299 ⟨1,false,.fn,[.nilFunc]⟩ (.ag 296 ⟨1,false,.fn,[.nilFunc]⟩ (.ag 295 ⟨1,true,.st [(0,293)],[.slice none 0 0]⟩ (.ag 294 ⟨1,true,.st [(0,293)],[.slice none 0 0]⟩ (.nil) (.nil)) (.nil)) (.ag 298 ⟨1,false,.fn,[.nilFunc]⟩ (.ag 297 ⟨1,false,.fn,[.nilFunc]⟩ (.nil) (.nil)) (.nil))) (.ag 302 ⟨1,false,.fn,[.nilFunc]⟩ (.ag 301 ⟨1,false,.ptr 70,[.pointer none]⟩ (.ag 300 ⟨1,false,.fn,[.nilFunc]⟩ (.nil) (.nil)) (.nil)) (.ag 305 ⟨1,false,.fn,[.nilFunc]⟩ (.ag 304 ⟨1,false,.fn,[.nilFunc]⟩ (.nil) (.nil)) (.nil)))) (.ag 312 ⟨1,false,.fn,[.nilFunc]⟩ (.ag 309 ⟨1,false,.fn,[.nilFunc]⟩ (.ag 308 ⟨1,false,.fn,[.nilFunc]⟩ (.ag 307 ⟨1,false,.fn,[.nilFunc]⟩ (.nil) (.nil)) (.nil)) (.ag 311 ⟨1,false,.fn,[.nilFunc]⟩ (.ag 310 ⟨1,false,.fn,[.nilFunc]⟩ (.nil) (.nil)) (.nil))) (.ag 316 ⟨1,false,.fn,[.nilFunc]⟩ (.ag 314 ⟨1,false,.fn,[.nilFunc]⟩ (.ag 313 ⟨1,false,.fn,[.nilFunc]⟩ (.nil) (.nil)) (.nil)) (.ag 318 ⟨1,false,.ptr 36,[.pointer none]⟩ (.ag 317 ⟨1,false,.fn,[.nilFunc]⟩ (.nil) (.nil)) (.nil))))))) (.ag 376 ⟨1,false,.int .i64,[.int .i64 0]⟩ (.ag 351 ⟨1,false,.fn,[.nilFunc]⟩ (.ag 334 ⟨1,false,.fn,[.nilFunc]⟩ (.ag 325 ⟨1,false,.sl 365 2 8,[.slice none 0 0]⟩ (.ag 322 ⟨1,false,.fn,[.nilFunc]⟩ (.ag 321 ⟨1,false,.fn,[.nilFunc]⟩ (.ag 320 ⟨1,false,.fn,[.nilFunc]⟩ (.nil) (.nil)) (.nil)) (.ag 324 ⟨1,false,.fn,[.nilFunc]⟩ (.ag 323 ⟨1,false,.fn,[.nilFunc]⟩ (.nil) (.nil)) (.nil))) (.ag 329 ⟨1,false,.fn,[.nilFunc]⟩ (.ag 327 ⟨1,false,.fn,[.nilFunc]⟩ (.ag 326 ⟨1,false,.fn,[.nilFunc]⟩ (.nil) (.nil)) (.nil)) (.ag 332 ⟨1,false,.fn,[.nilFunc]⟩ (.ag 331 ⟨1,false,.fn,[.nilFunc]⟩ (.nil) (.nil)) (.nil)))) (.ag 343 ⟨1,false,.int .u64,[.int .u64 0]⟩ (.ag 340 ⟨1,false,.fn,[.nilFunc]⟩ (.ag 338 ⟨1,false,.fn,[.nilFunc]⟩ (.ag 336 ⟨1,false,.fn,[.nilFunc]⟩ (.nil) (.nil)) (.nil)) (.ag 342 ⟨1,false,.fn,[.nilFunc]⟩ (.ag 341 ⟨1,false,.fn,[.nilFunc]⟩ (.nil) (.nil)) (.nil))) (.ag 346 ⟨1,false,.int .u64,[.int .u64 0]⟩ (.ag 345 ⟨1,false,.fn,[.nilFunc]⟩ (.ag 344 ⟨1,false,.fn,[.nilFunc]⟩ (.nil) (.nil)) (.nil)) (.ag 350 ⟨1,false,.fn,[.nilFunc]⟩ (.ag 349 ⟨1,false,.fn,[.nilFunc]⟩ (.nil) (.nil)) (.nil))))) (.ag 363 ⟨4,true,.ar 4 1,[.int .i64 0,.int .i64 0,.int .i64 0,.int .i64 0]⟩ (.ag 357 ⟨1,false,.fn,[.nilFunc]⟩ (.ag 354 ⟨2,true,.st [(0,272),(1,350)],[.nilFunc,.nilFunc]⟩ (.ag 353 ⟨1,false,.fn,[.nilFunc]⟩ (.ag 352 ⟨1,false,.fn,[.nilFunc]⟩ (.nil) (.nil)) (.nil)) (.ag 356 ⟨1,false,.fn,[.nilFunc]⟩ (.ag 355 ⟨2,true,.st [(0,272),(1,350)],[.nilFunc,.nilFunc]⟩ (.nil) (.nil)) (.nil))) (.ag 360 ⟨1,false,.fn,[.nilFunc]⟩ (.ag 359 ⟨1,false,.fn,[.nilFunc]⟩ (.ag 358 ⟨1,false,.fn,[.nilFunc]⟩ (.nil) (.nil)) (.nil)) (.ag 362 ⟨1,false,.fn,[.nilFunc]⟩ (.ag 361 ⟨1,false,.fn,[.nilFunc]⟩ (.nil) (.nil)) (.nil)))) (.ag 370 ⟨1,true,.st [(0,17)],[.pointer none]⟩ (.ag 366 ⟨1,false,.fn,[.nilFunc]⟩ (.ag 365 ⟨2,true,.st [(0,21),(1,21)],[.int .i32 0,.int .i32 0]⟩ (.ag 364 ⟨2,true,.st [(0,21),(1,21)],[.int .i32 0,.int .i32 0]⟩ (.nil) (.nil)) (.nil)) (.ag 369 ⟨1,false,.fn,[.nilFunc]⟩ (.ag 368 ⟨1,false,.fn,[.nilFunc]⟩ (.nil) (.nil)) (.nil))) (.ag 373 ⟨1,false,.fn,[.nilFunc]⟩ (.ag 372 ⟨1,false,.ptr 430,[.pointer none]⟩ (.ag 371 ⟨1,true,.st [(0,17)],[.pointer none]⟩ (.nil) (.nil)) (.nil)) (.ag 375 ⟨1,false,.fn,[.nilFunc]⟩ (.ag 374 ⟨1,false,.int .u32,[.int .u32 0]⟩ (.nil) (.nil)) (.nil)))))) (.ag 405 ⟨1,false,.fn,[.nilFunc]⟩ (.ag 392 ⟨1,false,.ptr 133,[.pointer none]⟩ (.ag 384 ⟨1,false,.fn,[.nilFunc]⟩ (.ag 380 ⟨1,false,.fn,[.nilFunc]⟩ (.ag 379 ⟨1,false,.fn,[.nilFunc]⟩ (.ag 378 ⟨1,false,.fn,[.nilFunc]⟩ (.nil) (.nil)) (.nil)) (.ag 383 ⟨1,false,.fn,[.nilFunc]⟩ (.ag 381 ⟨1,false,.fn,[.nilFunc]⟩ (.nil) (.nil)) (.nil))) (.ag 388 ⟨1,false,.fn,[.nilFunc]⟩ (.ag 386 ⟨1,false,.fn,[.nilFunc]⟩ (.ag 385 ⟨1,false,.fn,[.nilFunc]⟩ (.nil) (.nil)) (.nil)) (.ag 391 ⟨1,false,.fn,[.nilFunc]⟩ (.ag 390 ⟨1,false,.fn,[.nilFunc]⟩ (.nil) (.nil)) (.nil)))) (.ag 398 ⟨1,false,.ptr 3,[.pointer none]⟩ (.ag 395 ⟨1,false,.fn,[.nilFunc]⟩ (.ag 394 ⟨1,false,.int .u64,[.int .u64 0]⟩ (.ag 393 ⟨1,false,.fn,[.nilFunc]⟩ (.nil) (.nil)) (.nil)) (.ag 397 ⟨1,false,.fn,[.nilFunc]⟩ (.ag 396 ⟨1,false,.fn,[.nilFunc]⟩ (.nil) (.nil)) (.nil))) (.ag 401 ⟨1,false,.sl 414 2 8,[.slice none 0 0]⟩ (.ag 400 ⟨1,false,.fn,[.nilFunc]⟩ (.ag 399 ⟨1,false,.fn,[.nilFunc]⟩ (.nil) (.nil)) (.nil)) (.ag 404 ⟨1,false,.fn,[.nilFunc]⟩ (.ag 402 ⟨1,false,.fn,[.nilFunc]⟩ (.nil) (.nil)) (.nil))))) (.ag 418 ⟨4,true,.st [(0,17),(1,17),(2,17),(3,9)],[.pointer none,.pointer none,.pointer none,.string ByteArray.empty]⟩ (.ag 412 ⟨1,false,.fn,[.nilFunc]⟩ (.ag 408 ⟨1,false,.fn,[.nilFunc]⟩ (.ag 407 ⟨1,false,.fn,[.nilFunc]⟩ (.ag 406 ⟨1,false,.fn,[.nilFunc]⟩ (.nil) (.nil)) (.nil)) (.ag 411 ⟨1,false,.ptr 394,[.pointer none]⟩ (.ag 410 ⟨1,false,.fn,[.nilFunc]⟩ (.nil) (.nil)) (.nil))) (.ag 415 ⟨1,false,.fn,[.nilFunc]⟩ (.ag 414 ⟨2,true,.st [(0,21),(1,21)],[.int .i32 0,.int .i32 0]⟩ (.ag 413 ⟨2,true,.st [(0,21),(1,21)],[.int .i32 0,.int .i32 0]⟩ (.nil) (.nil)) (.nil)) (.ag 417 ⟨4,true,.st [(0,17),(1,17),(2,17),(3,9)],[.pointer none,.pointer none,.pointer none,.string ByteArray.empty]⟩ (.ag 416 ⟨1,false,.fn,[.nilFunc]⟩ (.nil) (.nil)) (.nil)))) (.ag 426 ⟨1,false,.int .i32,[.int .i32 0]⟩ (.ag 423 ⟨1,false,.int .u8,[.int .u8 0]⟩ (.ag 422 ⟨1,false,.int .u8,[.int .u8 0]⟩ (.ag 419 ⟨0,true,.ar 0 1,[]⟩ (.nil) (.nil)) (.nil)) (.ag 425 ⟨1,false,.int .i32,[.int .i32 0]⟩ (.ag 424 ⟨1,false,.fn,[.nilFunc]⟩ (.nil) (.nil)) (.nil))) (.ag 429 ⟨2,true,.st [(0,9),(1,423)],[.string ByteArray.empty,.int .u8 0]⟩ (.ag 428 ⟨11,true,.st [(0,12),(1,12),(2,374),(3,422),(4,5),(5,5),(6,423),(7,424),(8,199),(9,425),(10,426)],[.int .u64 0,.int .u64 0,.int .u32 0,.int .u8 0,.int .u8 0,.int .u8 0,.int .u8 0,.nilFunc,.pointer none,.int .i32 0,.int .i32 0]⟩ (.ag 427 ⟨11,true,.st [(0,12),(1,12),(2,374),(3,422),(4,5),(5,5),(6,423),(7,424),(8,199),(9,425),(10,426)],[.int .u64 0,.int .u64 0,.int .u32 0,.int .u8 0,.int .u8 0,.int .u8 0,.int .u8 0,.nilFunc,.pointer none,.int .i32 0,.int .i32 0]⟩ (.nil) (.nil)) (.nil)) (.ag 430 ⟨2,true,.st [(0,9),(1,423)],[.string ByteArray.empty,.int .u8 0]⟩ (.nil) (.nil))))))))
theorem si:tt.ok Tryz.prog=true:=by decide +kernel
theorem mo:Tryz.prog.follows .mixedOrders=true:=rfl
end Dv
end Go.Proofs.YtfdedoiiahbnnaaGreat
namespace Go.Proofs.YtfdedoiiahbnnaaGreat
namespace Dv
open Go
theorem eG {f:FuncId} {fn:Func} {c:Code} {args:List DV} {os:List (List DV)} {bN:List TkE} {Φ:DV->List (List DV)->List TkE->Prop} (nt:Nat) (rs:List ResultVar)
 (hf:Tryz.prog.funcs[f]? = some fn) (hb:fn.body=some c) (DL:fn.ntmps=nt) (rP:fn.results.toList=rs)
 (h:∀ (E:En) (w:World) (hn:E.β.length=os.length) (hm:E.tk.length=bN.length),go ⟨Tryz.prog,tt,si,fn,nt,rs,rP,w,E,os.length,bN.length,hn,hm,false,Φ,[],[],false⟩ 5000 [.code c] ⟨argSl 0 args,os,bN⟩) (hlen:args.length<=nt:=by exact Nat.le_of_ble_eq_true rfl):Ev Tryz.prog f args os bN Φ:=MG tt si 5000 nt rs hf hb DL rP hlen h
theorem cP {X:Ctx} {st:St} {k:List It} {f:FuncId} {args aV:List DV} {d:Nat} {r:DV} (gV:Enters X.P f) (hc:bh X.P f aV r) (hk:go X 4000 k ⟨(d,⟨[],r⟩) :: st.sl,st.bx,st.tk⟩) (ha:CcL [] 0 0 0 aV args:=by exact ax) (hd:dF X.nt st.sl (some d)=true:=by exact rfl) (bo:X.still=false:=by exact rfl):CallG X f args (some d) k st:=Ky gV hc ha hd hk bo
theorem cD {X:Ctx} {st:St} {c:Bool} {s0:List (Nat×Sl)} {D:Dr} {i:Nat} {f:FuncId} {args aV:List DV} {d:Nat} {r:List (Nat×Oper)} {yy:DV} (gV:Enters X.P f) (hc:bh X.P f aV yy) (hk:put2 s0 st (some d) false [] yy (goD X D 3000 c r)) (ha:CcL [] 0 0 0 aV args:=by exact ax) (hd:(dF X.nt st.sl (some d) && dF X.nt s0 (some d))=true:=by exact rfl) (bo:X.still=false:=by exact rfl):sc X D c i r f args (some d) s0 st:=Hm gV hc ha hd hk bo
theorem dI {X:Ctx} {st:St} {k:List It} {id:Nat} {ops:Array Oper} (h:goD X ⟨ops,fun _=>false,k,st,none⟩ 3000 true (nOps 0 ops.toList) st.sl st) (hm:X.P.follows .mixedOrders=true:=by exact mo) (hc:yr ops (fun _=>false)=true:=by decide +kernel):jo X id ops k st:=Ar _ hm hc h
theorem dS {X:Ctx} {st:St} {k:List It} {id:Nat} {ops:Array Oper} (h:goD X ⟨ops,I1 ops,k,st,none⟩ 3000 true (nOps 0 ops.toList) st.sl st) (hm:X.P.follows .mixedOrders=true:=by exact mo) (hc:yr ops (I1 ops)=true:=by decide +kernel):jo X id ops k st:=Hl hm hc h
end Dv
end Go.Proofs.YtfdedoiiahbnnaaGreat
set_option maxRecDepth 100000
namespace Go.Proofs.YtfdedoiiahbnnaaGreat
open Go Go.RowKit Dv Go.Proofs.Tryz
theorem QY:Enters prog 14:=enters_of func14 (by decide +kernel) rfl
theorem MY:Enters prog 22:=enters_of func22 (by decide +kernel) rfl
theorem Hv:Enters prog 23:=enters_of func23 (by decide +kernel) rfl
theorem DZ:Enters prog 25:=enters_of func25 (by decide +kernel) rfl
theorem MZ:Enters prog 26:=enters_of func26 (by decide +kernel) rfl
theorem QZ:Enters prog 27:=enters_of func27 (by decide +kernel) rfl
theorem D0:Enters prog 29:=enters_of func29 (by decide +kernel) rfl
theorem M0:Enters prog 30:=enters_of func30 (by decide +kernel) rfl
theorem vV:Enters prog 31:=enters_of func31 (by decide +kernel) rfl
theorem KQ:Enters prog 32:=enters_of func32 (by decide +kernel) rfl
theorem tZ:Enters prog 38:=enters_of func38 (by decide +kernel) rfl
theorem KR:Enters prog 39:=enters_of func39 (by decide +kernel) rfl
theorem Q0:Enters prog 46:=enters_of func46 (by decide +kernel) rfl
theorem M1:Enters prog 47:=enters_of func47 (by decide +kernel) rfl
theorem Q1:Enters prog 61:=enters_of func61 (by decide +kernel) rfl
theorem Q2:Enters prog 62:=enters_of func62 (by decide +kernel) rfl
theorem M3:Enters prog 63:=enters_of func63 (by decide +kernel) rfl
theorem M4:Enters prog 64:=enters_of func64 (by decide +kernel) rfl
theorem KS:Enters prog 65:=enters_of func65 (by decide +kernel) rfl
theorem Q3:Enters prog 66:=enters_of func66 (by decide +kernel) rfl
theorem Q4:Enters prog 67:=enters_of func67 (by decide +kernel) rfl
theorem Hw:Enters prog 68:=enters_of func68 (by decide +kernel) rfl
theorem Q5:Enters prog 69:=enters_of func69 (by decide +kernel) rfl
theorem Q6:Enters prog 72:=enters_of func72 (by decide +kernel) rfl
theorem Q7:Enters prog 73:=enters_of func73 (by decide +kernel) rfl
theorem Q8:Enters prog 74:=enters_of func74 (by decide +kernel) rfl
theorem Q9:Enters prog 75:=enters_of func75 (by decide +kernel) rfl
theorem Rb:Enters prog 76:=enters_of func76 (by decide +kernel) rfl
theorem Rc:Enters prog 77:=enters_of func77 (by decide +kernel) rfl
theorem Rf:Enters prog 78:=enters_of func78 (by decide +kernel) rfl
theorem Rg:Enters prog 79:=enters_of func79 (by decide +kernel) rfl
theorem BL:Enters prog 82:=enters_of func82 (by decide +kernel) rfl
theorem Rh:Enters prog 84:=enters_of func84 (by decide +kernel) rfl
theorem Ri:Enters prog 85:=enters_of func85 (by decide +kernel) rfl
theorem Rj:Enters prog 89:=enters_of func89 (by decide +kernel) rfl
theorem Rm:Enters prog 91:=enters_of func91 (by decide +kernel) rfl
theorem Ro:Enters prog 98:=enters_of func98 (by decide +kernel) rfl
theorem M5:Enters prog 99:=enters_of func99 (by decide +kernel) rfl
theorem D1:Enters prog 110:=enters_of func110 (by decide +kernel) rfl
theorem M6:Enters prog 111:=enters_of func111 (by decide +kernel) rfl
theorem jK:Enters prog 112:=enters_of func112 (by decide +kernel) rfl
theorem M7:Enters prog 123:=enters_of func123 (by decide +kernel) rfl
theorem I3:Enters prog 124:=enters_of func124 (by decide +kernel) rfl
theorem D2:Enters prog 125:=enters_of func125 (by decide +kernel) rfl
theorem I4:Enters prog 126:=enters_of func126 (by decide +kernel) rfl
theorem M8:Enters prog 127:=enters_of func127 (by decide +kernel) rfl
theorem I5:Enters prog 128:=enters_of func128 (by decide +kernel) rfl
theorem I6:Enters prog 129:=enters_of func129 (by decide +kernel) rfl
theorem M9:Enters prog 130:=enters_of func130 (by decide +kernel) rfl
theorem D3:Enters prog 131:=enters_of func131 (by decide +kernel) rfl
theorem I7:Enters prog 132:=enters_of func132 (by decide +kernel) rfl
theorem vW:Enters prog 133:=enters_of func133 (by decide +kernel) rfl
theorem en134:Enters prog 134:=enters_of func134 (by decide +kernel) rfl
theorem I8:Enters prog 135:=enters_of func135 (by decide +kernel) rfl
theorem Na:Enters prog 136:=enters_of func136 (by decide +kernel) rfl
theorem Au:Enters prog 137:=enters_of func137 (by decide +kernel) rfl
theorem D4:Enters prog 138:=enters_of func138 (by decide +kernel) rfl
theorem lY:Enters prog 139:=enters_of func139 (by decide +kernel) rfl
theorem fp:Enters prog 149:=enters_of func149 (by decide +kernel) rfl
theorem D5:Enters prog 150:=enters_of func150 (by decide +kernel) rfl
theorem Av:Enters prog 151:=enters_of func151 (by decide +kernel) rfl
theorem sj:Enters prog 152:=enters_of func152 (by decide +kernel) rfl
theorem Nb:Enters prog 153:=enters_of func153 (by decide +kernel) rfl
theorem Aw:Enters prog 154:=enters_of func154 (by decide +kernel) rfl
theorem D6:Enters prog 156:=enters_of func156 (by decide +kernel) rfl
theorem Nc:Enters prog 159:=enters_of func159 (by decide +kernel) rfl
theorem D7:Enters prog 168:=enters_of func168 (by decide +kernel) rfl
theorem Ax:Enters prog 170:=enters_of func170 (by decide +kernel) rfl
theorem Nf:Enters prog 171:=enters_of func171 (by decide +kernel) rfl
theorem D8:Enters prog 172:=enters_of func172 (by decide +kernel) rfl
theorem Ay:Enters prog 199:=enters_of func199 (by decide +kernel) rfl
theorem I9:Enters prog 200:=enters_of func200 (by decide +kernel) rfl
theorem Ja:Enters prog 201:=enters_of func201 (by decide +kernel) rfl
theorem Ng:Enters prog 206:=enters_of func206 (by decide +kernel) rfl
theorem D9:Enters prog 208:=enters_of func208 (by decide +kernel) rfl
theorem Nh:Enters prog 209:=enters_of func209 (by decide +kernel) rfl
theorem Ni:Enters prog 210:=enters_of func210 (by decide +kernel) rfl
theorem Ea:Enters prog 211:=enters_of func211 (by decide +kernel) rfl
theorem Az:Enters prog 212:=enters_of func212 (by decide +kernel) rfl
theorem Eb:Enters prog 213:=enters_of func213 (by decide +kernel) rfl
theorem Jb:Enters prog 214:=enters_of func214 (by decide +kernel) rfl
theorem Nj:Enters prog 215:=enters_of func215 (by decide +kernel) rfl
theorem Nk:Enters prog 216:=enters_of func216 (by decide +kernel) rfl
theorem Nl:Enters prog 217:=enters_of func217 (by decide +kernel) rfl
theorem AA:Enters prog 218:=enters_of func218 (by decide +kernel) rfl
theorem Jc:Enters prog 219:=enters_of func219 (by decide +kernel) rfl
theorem nQ:Enters prog 220:=enters_of func220 (by decide +kernel) rfl
theorem Nn:Enters prog 221:=enters_of func221 (by decide +kernel) rfl
theorem Np:Enters prog 223:=enters_of func223 (by decide +kernel) rfl
theorem Nq:Enters prog 224:=enters_of func224 (by decide +kernel) rfl
theorem Jd:Enters prog 225:=enters_of func225 (by decide +kernel) rfl
theorem Nr:Enters prog 232:=enters_of func232 (by decide +kernel) rfl
theorem Ns:Enters prog 233:=enters_of func233 (by decide +kernel) rfl
theorem Je:Enters prog 234:=enters_of func234 (by decide +kernel) rfl
theorem Jf:Enters prog 235:=enters_of func235 (by decide +kernel) rfl
theorem Nt:Enters prog 236:=enters_of func236 (by decide +kernel) rfl
theorem cJ:Enters prog 237:=enters_of func237 (by decide +kernel) rfl
theorem Nu:Enters prog 238:=enters_of func238 (by decide +kernel) rfl
theorem Nv:Enters prog 239:=enters_of func239 (by decide +kernel) rfl
theorem Jg:Enters prog 240:=enters_of func240 (by decide +kernel) rfl
theorem Jh:Enters prog 241:=enters_of func241 (by decide +kernel) rfl
theorem Ji:Enters prog 242:=enters_of func242 (by decide +kernel) rfl
theorem Nx:Enters prog 244:=enters_of func244 (by decide +kernel) rfl
theorem Ny:Enters prog 246:=enters_of func246 (by decide +kernel) rfl
theorem Nz:Enters prog 247:=enters_of func247 (by decide +kernel) rfl
theorem NA:Enters prog 248:=enters_of func248 (by decide +kernel) rfl
theorem NB:Enters prog 250:=enters_of func250 (by decide +kernel) rfl
theorem Jj:Enters prog 251:=enters_of func251 (by decide +kernel) rfl
theorem NC:Enters prog 281:=enters_of func281 (by decide +kernel) rfl
theorem NE:Enters prog 282:=enters_of func282 (by decide +kernel) rfl
theorem Ec:Enters prog 284:=enters_of func284 (by decide +kernel) rfl
theorem Jk:Enters prog 285:=enters_of func285 (by decide +kernel) rfl
theorem NF:Enters prog 286:=enters_of func286 (by decide +kernel) rfl
theorem NG:Enters prog 287:=enters_of func287 (by decide +kernel) rfl
theorem NH:Enters prog 290:=enters_of func290 (by decide +kernel) rfl
theorem vX:Enters prog 327:=enters_of func327 (by decide +kernel) rfl
theorem NI:Enters prog 328:=enters_of func328 (by decide +kernel) rfl
theorem NJ:Enters prog 332:=enters_of func332 (by decide +kernel) rfl
theorem NK:Enters prog 333:=enters_of func333 (by decide +kernel) rfl
theorem NL:Enters prog 352:=enters_of func352 (by decide +kernel) rfl
theorem NM:Enters prog 353:=enters_of func353 (by decide +kernel) rfl
end Go.Proofs.YtfdedoiiahbnnaaGreat
namespace Go.Proofs.YtfdedoiiahbnnaaGreat
open Go Go.RowKit Dv
structure Wd where
 s:ByteArray
 a:Int
structure Hd where
 ai:Int
 cF:Int
 lo:Int
 hi:Int
 most:Int
 af:List Wd
 name:Wd
structure Ph where
 name:Wd
 bare:Bool
 label:List Wd
 wide:Int
 ck:Int
 cn:Int
 ca:Int
 cl:List Wd
mutual
inductive Ty where
 | mk (h:Hd) (ps:Pts)
inductive Pts where
 | nil
 | cons (p:Ph) (t:Ty) (r:Pts)
end
def Ty.h:Ty->Hd | .mk h _=>h
def Ty.ps:Ty->Pts | .mk _ ps=>ps
def Pts.toList:Pts->List (Ph × Ty)
 | .nil=>[]
 | .cons p t r=>(p,t) :: r.toList
def Pts.len:Pts->Nat
 | .nil=>0
 | .cons _ _ r=>r.len + 1
theorem Pts.Ee:∀ ps:Pts,ps.len=ps.toList.length
 | .nil=>rfl
 | .cons _ _ r=>by simp [Pts.len,Pts.toList,Pts.Ee r]
def Wd.wt (w:Wd):Nat:=w.s.size + 64
def wdsWt:List Wd->Nat
 | []=>0
 | w :: r=>w.wt + wdsWt r
def Hd.wt (h:Hd):Nat:=256 + wdsWt h.af + h.name.wt
def Ph.wt (p:Ph):Nat:=256 + p.name.wt + wdsWt p.label + wdsWt p.cl
mutual
def Ty.wt:Ty->Nat
 | .mk h ps=>h.wt + ps.wt
def Pts.wt:Pts->Nat
 | .nil=>0
 | .cons p t r=>p.wt + t.wt + r.wt
end
theorem bQ:∀ l:List Wd,64 * l.length<=wdsWt l
 | []=>bd _
 | w :: r=>by have:=bQ r;simp only [List.length_cons,wdsWt,Wd.wt];omega
theorem ki:∀ {l:List Wd} {w:Wd},w∈l->w.s.size + 64<=wdsWt l
 | x :: r,w,h=>by
  rcases bX h with h | h
  ·subst h;simp only [wdsWt,Wd.wt];omega
  ·have:=ki h;simp only [wdsWt];omega
theorem Pts.iU:∀ ps:Pts,256 * ps.len<=ps.wt
 | .nil=>bd _
 | .cons p t r=>by have:=Pts.iU r;simp only [Pts.len,Pts.wt,Ph.wt];omega
theorem Pts.gZ:∀ {ps:Pts} {p:Ph} {t:Ty},(p,t)∈ps.toList->p.wt + t.wt<=ps.wt
 | .cons p t r,q,u,h=>by
  rcases bX h with h | h
  ·cases h;simp only [Pts.wt];omega
  ·have:=Pts.gZ h;simp only [Pts.wt];omega
theorem Ty.gA (t:Ty):256<=t.wt:=by
 cases t;simp only [Ty.wt,Hd.wt];omega
def kj (w:Wd):List DV:=[.v (.string w.s),.v (.int .i64 w.a)]
def bf (l:List Wd):List (List DV):=l.map kj
def Dh (p:Ph) (tl:List DV):List DV:=
 .v (.string p.name.s) :: .v (.int .i64 p.name.a) :: .v (.bool p.bare) :: .sl 2 (bf p.label) none :: .v (.int .i64 p.wide) :: .v (.int .i64 p.ck) :: .v (.int .i64 p.cn) :: .v (.int .i64 p.ca) :: .sl 2 (bf p.cl) none :: tl
mutual
def gd:Ty->List DV
 | .mk h ps=>[.v (.int .i64 h.ai),.v (.int .i64 h.cF),.v (.int .i64 h.lo),.v (.int .i64 h.hi),.v (.int .i64 h.most),.sl 2 (bf h.af) none,.sl 18 (ej ps) none,.v (.string h.name.s),.v (.int .i64 h.name.a)]
def ej:Pts->List (List DV)
 | .nil=>[]
 | .cons p t r=>Dh p (gd t) :: ej r
end
theorem aE (l:List Wd):(bf l).length=l.length:=by simp [bf]
theorem aU:∀ ps:Pts,(ej ps).length=ps.len
 | .nil=>by simp [ej,Pts.len]
 | .cons p t r=>by simp [ej,Pts.len,aU r]
theorem cz {l:List Wd} {j:Nat} {w:Wd} (h:l[j]? = some w):(bf l)[j]? = some (kj w):=by simp [bf,h]
theorem BM {l:List Wd} {e:Nat} {x:Wd} (h:l[e]? = some x):bf (l.take e) ++ [kj x]=bf (l.take (e + 1)):=by
 rw [List.take_add_one,h];simp [bf]
theorem dc:∀ {ps:Pts} {j:Nat} {p:Ph} {t:Ty},ps.toList[j]? = some (p,t)->(ej ps)[j]? = some (Dh p (gd t))
 | .nil,j,p,t,h=>by simp [Pts.toList] at h
 | .cons q u r,0,p,t,h=>by grind [Pts.toList,ej]
 | .cons q u r,j + 1,p,t,h=>by
  simp only [Pts.toList,List.getElem?_cons_succ] at h;simp only [ej,List.getElem?_cons_succ];exact dc h
def Pts.drop:Nat->Pts->Pts
 | 0,ps=>ps
 | _ + 1,.nil=>.nil
 | e + 1,.cons _ _ r=>r.drop e
theorem Pts.drop_cons:∀ {e:Nat} {ps:Pts} {p:Ph} {t:Ty},ps.toList[e]? = some (p,t)->ps.drop e = .cons p t (ps.drop (e + 1))
 | 0,.cons q u r,p,t,h=>by
  simp only [Pts.toList,List.getElem?_cons_zero,oI,Prod.mk.injEq] at h;obtain ⟨rfl,rfl⟩:=h;rfl
 | e + 1,.cons q u r,p,t,h=>by
  simp only [Pts.toList,List.getElem?_cons_succ] at h;simp only [Pts.drop];exact Pts.drop_cons h
 | 0,.nil,p,t,h=>by simp [Pts.toList] at h
 | e + 1,.nil,p,t,h=>by simp [Pts.toList] at h
theorem Pts.dQ:∀ (ps:Pts),ps.drop ps.len = .nil
 | .nil=>rfl
 | .cons _ _ r=>by simp only [Pts.len,Pts.drop];exact Pts.dQ r
theorem Pts.gB {ps:Pts} {e:Nat} (h:e < ps.len):∃ p t,ps.toList[e]? = some (p,t):=by
 rw [Pts.Ee] at h;exact ⟨_,_,gE h⟩
theorem drop_cons {α:Type} {l:List α} {e:Nat} {x:α} (h:l[e]? = some x):l.drop e=x :: l.drop (e + 1):=by
 obtain ⟨h1,h2⟩:=List.getElem?_eq_some_iff.1 h;rw [<- h2];exact List.drop_eq_getElem_cons h1
def al:ByteArray:=⟨#[]⟩
def Ef:Hd:=⟨0,0,0,0,0,[],⟨al,0⟩⟩
def ct:Ty:=.mk Ef .nil
def eF:Ph:=⟨⟨al,0⟩,false,[],0,0,0,0,[]⟩
def iV:Ph:=⟨⟨al,0⟩,true,[],0,0,0,0,[]⟩
theorem bV {e n:Nat} (h:e < n) (hn:n<=4611686018427387904):IntKind.i64.wrap ((e:Int) + 1)=((e + 1:Nat):Int):=by
 rw [IntWalk.i64_in _ ⟨by omega,by omega⟩];omega
theorem wrap64 {n:Int} (h1 : -9223372036854775808<=n) (h2:n<=9223372036854775807):IntKind.i64.wrap n=n:=IntWalk.i64_in n ⟨h1,h2⟩
theorem aH (x a:Bool):pickB x a false=(x && a):=by cases x<;>rfl
theorem aF (x b:Bool):pickB x true b=(x || b):=by cases x<;>rfl
end Go.Proofs.YtfdedoiiahbnnaaGreat
set_option maxRecDepth 100000
namespace Go.Proofs.YtfdedoiiahbnnaaGreat
open Go Go.RowKit Dv Go.Proofs.Tryz
def isLet (c:Int):Bool:=decide (97<=c) && decide (c<=122)
def iW (c:Int):Bool:=(isLet c || (decide (48<=c) && decide (c<=57))) || decide (c=95)
def signs:List UInt8->Nat
 | []=>0
 | c :: r=>if iW c.toNat=true then signs r + 1 else 0
def dK:List UInt8->Nat
 | []=>0
 | c :: r=>if isLet c.toNat=true then signs r + 1 else 0
def bG (s:ByteArray):Bool:=decide (0 < s.size) && (decide (s.size<=32) && decide (dK s.data.toList=s.size))
theorem vY {c:Int} (h:isLet c=true):iW c=true:=by simp [iW,h]
theorem vZ:∀ l:List UInt8,signs l<=l.length
 | []=>bd _
 | c :: r=>by
  simp only [signs,List.length_cons];split
  ·have:=vZ r;omega
  ·omega
theorem pF {c:UInt8} {r:List UInt8} (h:isLet c.toNat=true):dK (c :: r)=signs (c :: r):=by
 simp [dK,signs,h,vY h]
theorem sk {s:ByteArray} {k:Nat} (h:k < s.size):∃ c:UInt8,s.data.toList.drop k=c :: s.data.toList.drop (k + 1)/\di s k=c.toNat:=by
 have hk:k < s.data.toList.length:=sU h;refine ⟨s.data.toList[k],by rw [<- List.drop_eq_getElem_cons hk],?_⟩
 grind [di]
theorem Eg {s:ByteArray} {k:Nat} (h:s.size<=k):s.data.toList.drop k=[]:=List.drop_eq_nil_of_le (sU h)
theorem nR (c:Int):bh prog 235 [.v (.int .u8 c)] (.v (.bool (isLet c))):=by
 refine eG 9 [.tmp 2] func235 rfl ntmps235 rfl fun _ _ _ _=>?_;exact (congrArg (fun b=>DV.v (.bool b)) (aH _ _):_=_)
theorem BN (c:Int):bh prog 236 [.v (.int .u8 c)] (.v (.bool (iW c))):=by
 refine eG 17 [.tmp 2] func236 rfl ntmps236 rfl fun _ _ _ _=>?_;refine cP Jf (nR c) ?_;refine (dH ?_:);simp only [aH,aF,iW]
abbrev yB (s:ByteArray) (i e:Nat):St:=⟨[aA 5 e,(0,⟨[],.v (.string s)⟩),aA 1 i],[],[]⟩
theorem lZ (s:ByteArray) (i:Nat):s.extract i (i + 0)=⟨#[]⟩:=by
 apply ByteArray.ext
 simp_all
theorem nb (s:ByteArray) (i:Nat) (hi:i < s.size) (hs:s.size<=4611686018427387904):bh prog 154 [.v (.string s),.v (.int .i64 i)]
  (.cj [.v (.string (s.extract i (i + dK (s.data.toList.drop i)))),.v (.int .i64 ((i + dK (s.data.toList.drop i):Nat):Int))]):=by
 obtain ⟨c0,BO,fI⟩:=sk hi;refine eG 38 [.tmp 4,.tmp 5] func154 rfl ntmps154 rfl fun _ _ _ _=>?_;refine br (fun h=>?_) (fun _=>?_)
 ·simp [aF] at h;omega
 refine ⟨⟨by omega,by omega⟩,?_⟩;refine cP Jf (nR _) ?_;refine br ?_ ?_<;>intro h
 ·have hl:isLet (c0.toNat:Int)=false:=by grind
  have hn:dK (s.data.toList.drop i)=0:=by rw [BO];simp [dK,hl]
  rw [hn,lZ];exact ⟨_,ax,rfl⟩
 have hl:isLet (c0.toNat:Int)=true:=by grind
 have hn:dK (s.data.toList.drop i)=signs (s.data.toList.drop i):=by rw [BO];exact pF hl
 rw [hn]
 refine b9 (fun j st=>∃ e:Nat,st=yB s i e/\e<=s.size/\i<=e/\e + signs (s.data.toList.drop e)=i + signs (s.data.toList.drop i)/\j=s.size - e)
  (s.size - i) (yB s i i) (cL wB) ⟨i,rfl,by omega,by omega,rfl,rfl⟩ ?_
 rintro j st ⟨e,rfl,he,Hx,hinv,rfl⟩;refine br ?_ ?_<;>intro h
 ·have av:e < s.size:=sU h;refine ⟨⟨by omega,by omega⟩,?_⟩;refine cP Nt (BN _) ?_;obtain ⟨c,hd,hb⟩:=sk av;refine br ?_ ?_<;>intro h2
  ·have Rp:iW (c.toNat:Int)=true:=by
    have:iW ((di s e:Nat):Int)=true:=h2
    rwa [hb] at this
   refine ⟨yB s i (e + 1),(cL (iG (bV av (by omega)))),s.size - (e + 1),by omega,e + 1,rfl,by omega,by omega,?_,rfl⟩;rw [hd] at hinv;simp only [signs,Rp,if_true] at hinv;omega
  ·have Rp:iW (c.toNat:Int)=false:=by
    have:iW ((di s e:Nat):Int)=false:=h2
    rwa [hb] at this
   rw [hd] at hinv;simp only [signs,Rp] at hinv;refine ⟨⟨by omega,by omega,by omega⟩,?_⟩;have:i + signs (s.data.toList.drop i)=e:=by simp at hinv;omega
   rw [this];exact ⟨_,ax,rfl⟩
 ·have bO:e=s.size:=by simp at h;omega
  rw [Eg (by omega)] at hinv;simp only [signs] at hinv;refine ⟨⟨by omega,by omega,by omega⟩,?_⟩;have:i + signs (s.data.toList.drop i)=e:=by omega
  rw [this];exact ⟨_,ax,rfl⟩
theorem take_nil (s:ByteArray) (hs:s.size=0):bh prog 154 [.v (.string s),.v (.int .i64 0)] (.cj [.v (.string ⟨#[]⟩),.v (.int .i64 0)]):=by
 refine eG 38 [.tmp 4,.tmp 5] func154 rfl ntmps154 rfl fun _ _ _ _=>?_;refine br (fun _=>?_) (fun h=>?_)
 ·exact ⟨_,ax,rfl⟩
 ·simp [aF,hs] at h
theorem pG (l:List UInt8):dK l<=l.length:=by
 cases l with
 | nil=>exact bd _
 | cons c r=>grind [dK,vZ]
theorem v7 (s:ByteArray):decide (s=⟨#[]⟩)=decide (s.size=0):=by
 rw [Bool.eq_iff_iff];simp only [decide_eq_true_eq];constructor
 ·rintro rfl;rfl
 ·intro h;apply ByteArray.ext;exact Array.eq_empty_of_size_eq_zero h
theorem e9 (s:ByteArray) (hs:s.size<=4611686018427387904):bh prog 82 [.v (.string s)] (.v (.bool (bG s))):=by
 refine eG 22 [.tmp 2] func82 rfl ntmps82 rfl fun _ _ _ _=>?_;by_cases h0:s.size=0
 ·refine cP Aw (take_nil s h0) ?_;refine (dH ?_:);simp [aH,bG,v7,h0]
 ·refine cP Aw (nb s 0 (by omega) hs) ?_;refine (dH ?_:);have hl:=pG s.data.toList;simp only [Array.length_toList,ByteArray.size_data] at hl;simp only [aH,bG,v7,List.drop_zero,Nat.zero_add];rw [Bool.eq_iff_iff];simp only [aP,decide_eq_true_eq,Bool.not_eq_true',decide_eq_false_iff_not];omega
def dj (l:List ByteArray):List (List DV):=l.map fun s=>[.v (.string s)]
def dInts (l:List Nat):List (List DV):=l.map fun (i:Nat)=>[.v (.int .i64 (i:Int))]
theorem bz (l:List ByteArray):(dj l).length=l.length:=by simp [dj]
theorem bI (l:List Nat):(dInts l).length=l.length:=by simp [dInts]
theorem dX {l:List ByteArray} {j:Nat} {x:ByteArray} (h:l[j]? = some x):(dj l)[j]? = some [.v (.string x)]:=by simp [dj,h]
theorem dL {l:List Nat} {j:Nat} {x:Nat} (h:l[j]? = some x):(dInts l)[j]? = some [.v (.int .i64 (x:Int))]:=by simp [dInts,h]
abbrev yC (g:Nat) (cb:List DV) (i j:Nat):St:=⟨[(1,⟨[],.fn g [] cb⟩),aA 5 i,aA 6 j],[],[]⟩
theorem nS (g:Nat) (gV:Enters prog g) (cb:List DV) (n m:Nat) (hn:n<=1099511627776) (hm:m<=n) (hcb:CcL [] 0 0 0 cb cb) (cC:clB.clL 0 0 cb=true)
  (hp:∀ i:Nat,i < n->bh prog g (.v (.int .i64 i) :: cb) (.v (.bool (decide (m<=i))))) :
  bh prog 200 [.v (.int .i64 n),.fn g [] cb] (.v (.int .i64 m)):=by
 refine eG 26 [.tmp 4] func200 rfl ntmps200 rfl fun _ _ _ _=>?_;have u5:clB 0 0 (.fn g [] cb)=true:=by simp only [clB,aP];exact ⟨rfl,cC⟩
 refine lI (fun j st=>∃ a b:Nat,st=yC g cb a b/\a<=m/\m<=b/\b<=n/\j=b - a) ⟨0,n,rfl,by omega,by omega,by omega,rfl⟩ (cL (iG u5)) ?_;rintro j st ⟨a,b,rfl,h1,h2,h3,rfl⟩;refine br ?_ ?_<;>intro h
 ·have av:a < b:=sU h
  have KT:IntKind.i64.wrap ((IntKind.u64.wrap (IntKind.i64.wrap ((a:Int) + (b:Int)))).fdiv (2 ^ (min ((1:Int).toNat) IntKind.u64.bits)))=(((a + b) / 2:Nat):Int):=by
   rw [wrap64 (n:=(a:Int) + (b:Int)) (by omega) (by omega),IntKind.wrap_u64];have e2:(2:Int) ^ (min ((1:Int).toNat) IntKind.u64.bits)=2:=by decide
   rw [e2,Int.fdiv_eq_ediv_of_nonneg _ (by decide),wrap64 (by omega) (by omega)];omega
  refine ⟨by decide,?_⟩;refine cP gV (hp ((a + b) / 2) (by omega)) ?_ ⟨_,_,rfl,congrArg (fun z=>DV.v (.int .i64 z)) KT,hcb⟩;refine br ?_ ?_<;>intro hq
  ·have hq:(a + b) / 2 < m:=sU hq;have vu:=bV (e:=(a + b) / 2) (n:=n) (by omega) (by omega);rw [<- KT] at vu;refine ⟨yC g cb ((a + b) / 2 + 1) b,(cL (q5 u5 vu)),b - ((a + b) / 2 + 1),by omega,(a + b) / 2 + 1,b,rfl,by omega,by omega,by omega,rfl⟩
  ·have hq:m<=(a + b) / 2:=sU hq;refine ⟨yC g cb a ((a + b) / 2),(cL (q5 u5 KT)),(a + b) / 2 - a,by omega,a,(a + b) / 2,rfl,by omega,by omega,by omega,rfl⟩
 ·have bO:¬ a < b:=sU h;have:a=m:=by omega
  subst this;exact (rfl:_=_)
def ub (a b:ByteArray):Bool:=Op.bytesLess a.data.toList b.data.toList
theorem hU:∀ l:List UInt8,Op.bytesLess l l=false
 | []=>rfl
 | a :: r=>by simp [Op.bytesLess,hU r]
theorem gC:∀ {a b:List UInt8},Op.bytesLess a b=true->Op.bytesLess b a=false
 | _,[],h=>by simp [Op.bytesLess] at h
 | [],b :: r,_=>rfl
 | a :: x,b :: y,h=>by
  simp only [Op.bytesLess,Bool.or_eq_true,decide_eq_true_eq,aP,beq_iff_eq] at h;simp only [Op.bytesLess,Bool.or_eq_false_iff,decide_eq_false_iff_not,Bool.and_eq_false_imp,beq_iff_eq];rcases h with h | ⟨rfl,h⟩
  ·grind
  ·exact ⟨UInt8.lt_irrefl _,fun _=>gC h⟩
structure eT (L:List ByteArray) (ay:List Nat):Prop where
 lt:∀ (i p:Nat),ay[i]? = some p->p < L.length
 Rq:∀ (i j p q:Nat) (s t:ByteArray),i < j->ay[i]? = some p->ay[j]? = some q->L[p]? = some s->L[q]? = some t->ub s t=true
 fst:∀ (i p j:Nat) (s:ByteArray),ay[i]? = some p->L[p]? = some s->L[j]? = some s->p<=j
 all:∀ (j:Nat) (s:ByteArray),L[j]? = some s->∃ i p:Nat,ay[i]? = some p/\L[p]? = some s
abbrev bW (L:List ByteArray) (ay:List Nat):List DV:=[.sl 1 (dj L) none,.sl 1 (dInts ay) none]
theorem pH (L:List ByteArray) (ay:List Nat) (s:ByteArray) (i p:Nat) (t:ByteArray) (hi:ay[i]? = some p) (hp:L[p]? = some t) :
  bh prog 201 [.v (.int .i64 i),.pt [.pt (bW L ay) 0] 0,.pt [.v (.string s)] 0] (.v (.bool (!ub t s))):=by
 refine eG 20 [.tmp 4] func201 rfl ntmps201 rfl fun _ _ _ _=>?_;refine dI ?_;refine iX (dL hi) ?_;refine iX (dX hp) ?_;exact (rfl:_=_)
theorem find_spec (L:List ByteArray) (ay:List Nat) (s:ByteArray) (q p:Nat) (hT:eT L ay) (hl:ay.length<=1099511627776) (hq:ay[q]? = some p) (hp:L[p]? = some s) :
  bh prog 112 [.pt (bW L ay) 0,.v (.string s)] (.cj [.v (.int .i64 p),.v (.bool true)]):=by
 have hqlt:=(gS hq).1;refine eG 47 [.tmp 4,.tmp 5] func112 rfl ntmps112 rfl fun _ _ _ _=>?_
 have cC:∀ i:Nat,i < ay.length->bh prog 201 [.v (.int .i64 i),.pt [.pt (bW L ay) 0] 0,.pt [.v (.string s)] 0] (.v (.bool (decide (q<=i)))):=by
  intro i hi;obtain ⟨p',rz⟩:∃ p',ay[i]? = some p':=⟨_,gE hi⟩;obtain ⟨t,ht⟩:∃ t,L[p']? = some t:=⟨_,gE (hT.lt i p' rz)⟩;have:=pH L ay s i p' t rz ht
  have e:(!ub t s)=decide (q<=i):=by
   rcases Nat.lt_trichotomy i q with h | h | h
   ·rw [hT.Rq i q p' p t s h rz hq ht hp];simp;omega
   ·grind [ub,hU]
   ·have h2:=hT.Rq q i p p' s t h hq rz hp ht;rw [ub,gC h2];simp;omega
  rw [e] at this;exact this
 have hS:=nS 201 Ja [.pt [.pt (bW L ay) 0] 0,.pt [.v (.string s)] 0] ay.length q hl (by omega) ax rfl cC;refine na I9 hS (r9 (bI ay)) rfl ?_;refine dI ?_;refine br ?_ ?_<;>intro h
 ·refine iX (dL hq) ?_;refine iX (dX hp) ?_;refine br ?_ ?_<;>intro h2
  ·exfalso;simp [aF,bI] at h2
  ·refine iX (dL hq) ?_;exact ⟨_,ax,rfl⟩
 ·grind [dInts,bI]
end Go.Proofs.YtfdedoiiahbnnaaGreat
set_option maxRecDepth 100000
namespace Go.Proofs
open Go.Shelf
def Tryz.laysGg6_ren:Go.Shelf.Ren:=⟨fun | 6=>206 | 10=>276 | 11=>277 | 12=>278 | 13=>279 | 14=>280 | 24=>317 | 25=>318 | 26=>319 | 27=>320 | 28=>321 | 29=>322 | 30=>323 | 31=>324 | 32=>325 | 33=>326 | 34=>342 | 35=>343 | 36=>344 | 37=>345 | 38=>346 | 39=>360 | n=>n,fun | 20=>20 | 26=>272 | 35=>348 | 0=>0 | 37=>350 | 3=>3 | 41=>343 | 44=>355 | 49=>374 | 51=>290 | 4=>4 | 54=>377 | 53=>376 | 58=>101 | 5=>5 | 9=>9 | 60=>394 | 64=>398 | 66=>411 | 67=>71 | 17=>17 | 32=>287 | 33=>346 | 82=>428 | 12=>12 | 75=>422 | 76=>423 | 77=>424 | 78=>199 | 79=>425 | 80=>426 | n=>n,fun | n=>n⟩
theorem Tryz.laysGg6:Go.Proofs.LaysGg.n6 prog Tryz.laysGg6_ren:={
 mixed:=by kernel_rfl
 f6:=func206.trans (congrArg some (by kernel_rfl))
 f10:=func276.trans (congrArg some (by kernel_rfl))
 f11:=func277.trans (congrArg some (by kernel_rfl))
 f12:=func278.trans (congrArg some (by kernel_rfl))
 f13:=func279.trans (congrArg some (by kernel_rfl))
 f14:=func280.trans (congrArg some (by kernel_rfl))
 f24:=func317.trans (congrArg some (by kernel_rfl))
 f25:=func318.trans (congrArg some (by kernel_rfl))
 f26:=func319.trans (congrArg some (by kernel_rfl))
 f27:=func320.trans (congrArg some (by kernel_rfl))
 f28:=func321.trans (congrArg some (by kernel_rfl))
 f29:=func322.trans (congrArg some (by kernel_rfl))
 f30:=func323.trans (congrArg some (by kernel_rfl))
 f31:=func324.trans (congrArg some (by kernel_rfl))
 f32:=func325.trans (congrArg some (by kernel_rfl))
 f33:=func326.trans (congrArg some (by kernel_rfl))
 f34:=func342.trans (congrArg some (by kernel_rfl))
 f35:=func343.trans (congrArg some (by kernel_rfl))
 f36:=func344.trans (congrArg some (by kernel_rfl))
 f37:=func345.trans (congrArg some (by kernel_rfl))
 f38:=func346.trans (congrArg some (by kernel_rfl))
 f39:=func360.trans (congrArg some (by kernel_rfl))
 t0:=Tryz.underlying0
 a0:=Tryz.isAgg0
 z0:=Tryz.sizeOf0
 v0:=Tryz.zeroValue0
 i0:=by kernel_rfl
 t3:=Tryz.underlying3
 a3:=Tryz.isAgg3
 z3:=Tryz.sizeOf3
 v3:=Tryz.zeroValue3
 i3:=by kernel_rfl
 t4:=Tryz.underlying4
 a4:=Tryz.isAgg4
 z4:=Tryz.sizeOf4
 v4:=Tryz.zeroValue4
 i4:=by kernel_rfl
 t5:=Tryz.underlying5
 a5:=Tryz.isAgg5
 z5:=Tryz.sizeOf5
 v5:=Tryz.zeroValue5
 i5:=by kernel_rfl
 t9:=Tryz.underlying9
 a9:=Tryz.isAgg9
 z9:=Tryz.sizeOf9
 v9:=Tryz.zeroValue9
 i9:=by kernel_rfl
 t12:=Tryz.underlying12
 a12:=Tryz.isAgg12
 z12:=Tryz.sizeOf12
 v12:=Tryz.zeroValue12
 i12:=by kernel_rfl
 t17:=Tryz.underlying17
 a17:=Tryz.isAgg17
 z17:=Tryz.sizeOf17
 v17:=Tryz.zeroValue17
 i17:=by kernel_rfl
 t20:=Tryz.underlying20
 a20:=Tryz.isAgg20
 z20:=Tryz.sizeOf20
 v20:=Tryz.zeroValue20
 i20:=by kernel_rfl
 t26:=Tryz.underlying272
 a26:=Tryz.isAgg272
 z26:=Tryz.sizeOf272
 v26:=Tryz.zeroValue272
 i26:=by kernel_rfl
 t32:=Tryz.underlying287
 a32:=Tryz.isAgg287
 z32:=Tryz.sizeOf287
 v32:=Tryz.zeroValue287
 i32:=by kernel_rfl
 t33:=Tryz.underlying346
 a33:=Tryz.isAgg346
 z33:=Tryz.sizeOf346
 v33:=Tryz.zeroValue346
 i33:=by kernel_rfl
 t35:=Tryz.underlying348
 a35:=Tryz.isAgg348
 z35:=Tryz.sizeOf348
 v35:=Tryz.zeroValue348
 i35:=by kernel_rfl
 t37:=Tryz.underlying350
 a37:=Tryz.isAgg350
 z37:=Tryz.sizeOf350
 v37:=Tryz.zeroValue350
 i37:=by kernel_rfl
 t41:=Tryz.underlying343
 a41:=Tryz.isAgg343
 z41:=Tryz.sizeOf343
 v41:=Tryz.zeroValue343
 i41:=by kernel_rfl
 t44:=Tryz.underlying355
 a44:=Tryz.isAgg355
 z44:=Tryz.sizeOf355
 v44:=Tryz.zeroValue355
 i44:=by kernel_rfl
 t49:=Tryz.underlying374
 a49:=Tryz.isAgg374
 z49:=Tryz.sizeOf374
 v49:=Tryz.zeroValue374
 i49:=by kernel_rfl
 t51:=Tryz.underlying290
 a51:=Tryz.isAgg290
 z51:=Tryz.sizeOf290
 v51:=Tryz.zeroValue290
 i51:=by kernel_rfl
 t53:=Tryz.underlying376
 a53:=Tryz.isAgg376
 z53:=Tryz.sizeOf376
 v53:=Tryz.zeroValue376
 i53:=by kernel_rfl
 t54:=Tryz.underlying377
 a54:=Tryz.isAgg377
 z54:=Tryz.sizeOf377
 v54:=Tryz.zeroValue377
 i54:=by kernel_rfl
 t58:=Tryz.underlying101
 a58:=Tryz.isAgg101
 z58:=Tryz.sizeOf101
 v58:=Tryz.zeroValue101
 i58:=by kernel_rfl
 t60:=Tryz.underlying394
 a60:=Tryz.isAgg394
 z60:=Tryz.sizeOf394
 v60:=Tryz.zeroValue394
 i60:=by kernel_rfl
 t64:=Tryz.underlying398
 a64:=Tryz.isAgg398
 z64:=Tryz.sizeOf398
 v64:=Tryz.zeroValue398
 i64:=by kernel_rfl
 t66:=Tryz.underlying411
 a66:=Tryz.isAgg411
 z66:=Tryz.sizeOf411
 v66:=Tryz.zeroValue411
 i66:=by kernel_rfl
 t67:=Tryz.underlying71
 a67:=Tryz.isAgg71
 z67:=Tryz.sizeOf71
 v67:=Tryz.zeroValue71
 i67:=by kernel_rfl
 t75:=Tryz.underlying422
 a75:=Tryz.isAgg422
 z75:=Tryz.sizeOf422
 v75:=Tryz.zeroValue422
 i75:=by kernel_rfl
 t76:=Tryz.underlying423
 a76:=Tryz.isAgg423
 z76:=Tryz.sizeOf423
 v76:=Tryz.zeroValue423
 i76:=by kernel_rfl
 t77:=Tryz.underlying424
 a77:=Tryz.isAgg424
 z77:=Tryz.sizeOf424
 v77:=Tryz.zeroValue424
 i77:=by kernel_rfl
 t78:=Tryz.underlying199
 a78:=Tryz.isAgg199
 z78:=Tryz.sizeOf199
 v78:=Tryz.zeroValue199
 i78:=by kernel_rfl
 t79:=Tryz.underlying425
 a79:=Tryz.isAgg425
 z79:=Tryz.sizeOf425
 v79:=Tryz.zeroValue425
 i79:=by kernel_rfl
 t80:=Tryz.underlying426
 a80:=Tryz.isAgg426
 z80:=Tryz.sizeOf426
 v80:=Tryz.zeroValue426
 i80:=by kernel_rfl
 t82:=Tryz.underlying428
 a82:=Tryz.isAgg428
 z82:=Tryz.sizeOf428
 v82:=Tryz.zeroValue428
 i82:=by kernel_rfl }
end Go.Proofs
namespace Go.Proofs.YtfdedoiiahbnnaaGreat
open Go Go.RowKit Go.Lib Go.Sort Go.Proofs.Tryz
noncomputable def Rr:TypeInfo:=(prog.info? 96).get (by kernel_rfl)
noncomputable def Ma:TypeInfo:=(prog.info? 3).get (by kernel_rfl)
theorem siK (n:Nat) (h2:2<=n):Lib.swapperK n Ma 2=5:=by
 have a:Ma.hasPointers=false:=by kernel_rfl
 have b:Ma.bytes=8:=by kernel_rfl
 have c:(n == 0)=false:=by simp;omega
 have d:(n == 1)=false:=by simp;omega
 simp [Lib.swapperK,a,b,c,d]
theorem Eh {α:Type} [Inhabited α] (enc:α->Value) (h1:∀ x,(enc x).oneCell'=true) {lt:α->α->Bool} (hO:SWO lt) (lb:Array Value) (rQ c:Nat) (d:Array α) (h2:2<=d.size) (cf:d.size < 4611686018427387904) (w:World)
  (Ei:LessReads prog 207 lb enc lt rQ 0 d.size w) (hH:Holds enc w rQ 0 d) (Rt:rQ < w.heap.size) :
  Calls prog 206 #[.iface 96 (.slice (some ⟨rQ,0,none⟩) d.size c),.func (.func 207) #[] lb] w fun e w'=>
   e = .returned (.tuple #[])/\∃ d' n os,PermIn 0 d.size d d' /\ SortedIn lt 0 d.size d' /\ w'=grow (putRow enc (Sort.ahead w n) rQ 0 d') os:=
 Any.sort_Slice_sorted Tryz.laysGg6 96 3 Rr Ma (by kernel_rfl) (by kernel_rfl) (by kernel_rfl) (by kernel_rfl) 2 (fun _=>by kernel_rfl) (by kernel_rfl) (fun _=>by kernel_rfl) enc h1 lt hO 207 lb
  (enters_of func207 (by kernel_rfl) rfl) rQ 0 c d h2 cf 312 (by rw [siK _ h2];kernel_rfl) true
  (fun args W=>run_callFunc_extern func312 (by kernel_rfl) (by kernel_rfl) (by kernel_rfl) (e:=Extern.ReflectliteSwapper.swap true) (by kernel_rfl) args W) w Ei hH Rt
theorem BP (lb:Array Value) (p:Option Addr) (n c:Nat) (h1:n<=1) (w:World) :
  Calls prog 206 #[.iface 96 (.slice p n c),.func (.func 207) #[] lb] w fun e w'=>e = .returned (.tuple #[])/\∃ os,w'=grow w os:=by
 have h:n=0∨n=1:=by omega
 rcases h with rfl | rfl
 ·exact Any.sort_Slice_tiny Tryz.laysGg6 96 3 Rr Ma (by kernel_rfl) (by kernel_rfl) (by kernel_rfl) (by kernel_rfl) 2 (fun _=>by kernel_rfl) p 0 c h1 308 (by kernel_rfl) _ _ _ w
 ·exact Any.sort_Slice_tiny Tryz.laysGg6 96 3 Rr Ma (by kernel_rfl) (by kernel_rfl) (by kernel_rfl) (by kernel_rfl) 2 (fun _=>by kernel_rfl) p 1 c h1 309 (by kernel_rfl) _ _ _ w
end Go.Proofs.YtfdedoiiahbnnaaGreat
set_option maxRecDepth 100000
namespace Go.Proofs.YtfdedoiiahbnnaaGreat
open Go Go.RowKit Dv Go.Proofs.Tryz
theorem kK:∀ {a b:List UInt8},Op.bytesLess a b=false->a=b∨Op.bytesLess b a=true
 | [],[],_=>.inl rfl
 | a :: x,[],_=>.inr rfl
 | [],b :: r,h=>by simp [Op.bytesLess] at h
 | a :: x,b :: y,h=>by
  simp only [Op.bytesLess,Bool.or_eq_false_iff,decide_eq_false_iff_not,Bool.and_eq_false_imp,beq_iff_eq] at h;simp only [Op.bytesLess,Bool.or_eq_true,decide_eq_true_eq,aP,beq_iff_eq];by_cases NN:a=b
  ·subst NN;rcases kK (h.2 rfl) with h2 | h2
   all_goals grind
  all_goals grind
theorem dY:∀ {a b c:List UInt8},Op.bytesLess a b=true->Op.bytesLess b c=true->Op.bytesLess a c=true
 | _,[],_,h,_=>by simp [Op.bytesLess] at h
 | _,_ :: _,[],_,h=>by simp [Op.bytesLess] at h
 | [],b :: y,c :: z,_,_=>rfl
 | a :: x,b :: y,c :: z,h1,h2=>by
  simp only [Op.bytesLess,Bool.or_eq_true,decide_eq_true_eq,aP,beq_iff_eq] at h1 h2 ⊢;rcases h1 with h1 | ⟨rfl,h1⟩
  ·grind
  ·rcases h2 with h2 | ⟨rfl,h2⟩
   ·exact .inl h2
   ·exact .inr ⟨rfl,dY h1 h2⟩
theorem AB {s t:ByteArray} (h:ub s t=false):s=t∨ub t s=true:=by
 rcases kK h with h | h
 ·exact .inl (ByteArray.ext (Array.ext' h))
 ·exact .inr h
def v8 (L:List ByteArray) (p q:Nat):Bool:=
 if L.getD p al=L.getD q al then decide (p < q) else ub (L.getD p al) (L.getD q al)
theorem Hy (L:List ByteArray):Sort.SWO (v8 L):=by
 have irr:∀ x,v8 L x x=false:=fun x=>by simp [v8]
 have tr:∀ x y z,v8 L x y=true->v8 L y z=true->v8 L x z=true:=by grind [v8,al,gC,ub,dY]
 have tot:∀ x y,v8 L x y=false->x=y∨v8 L y x=true:=by grind [v8,al,AB]
 refine ⟨irr,tr,fun x y z h1 h2=>?_⟩
 grind
theorem BQ (L:List ByteArray) (d:List Nat) (i j p q:Nat) (hi:d[i]? = some p) (hj:d[j]? = some q) (hp:p < L.length) (hq:q < L.length) :
  Tw prog 207 [.v (.int .i64 i),.v (.int .i64 j),.pt [.sl 1 (dInts d) none] 0,.pt [.pt [.sl 1 (dj L) none,.v (.slice none 0 0)] 0] 0] [] [] (fun r _ _=>r = .v (.bool (v8 L p q))):=by
 obtain ⟨s,hs⟩:∃ s,L[p]? = some s:=⟨_,gE hp⟩;obtain ⟨t,ht⟩:∃ t,L[q]? = some t:=⟨_,gE hq⟩;have e:v8 L p q=if s=t then decide (p < q) else ub s t:=by grind [v8]
 refine DM (s:=true) (P:=prog) tt si 5000 50 [.tmp 6] func207 rfl ntmps207 rfl (nL rfl) (fun _ _ _ _=>?_);refine dI ?_;refine iX (dL hi) ?_;refine iX (dL hj) ?_;refine dI ?_;refine iX (dX hs) ?_;refine iX (dX ht) ?_;refine br ?_ ?_<;>intro h
 ·have aY:s≠t:=sU h;refine dI ?_;refine iX (dX hs) ?_;refine iX (dX ht) ?_;refine (dH ?_:);rw [e,ah aY];rfl
 ·have bL:s=t:=sU h;refine (dH ?_:);rw [e,aj bL];simp
abbrev Ej (p:Nat):Value:=.int .i64 (p:Int)
theorem wb {E:En}:∀ {ds:List Nat} {arr:List Value},RvL E (dInts ds).flatten arr->arr=ds.map Ej
 | [],arr,h=>by simpa [dInts,RvL] using h
 | x :: r,arr,h=>by
  simp only [dInts,List.map_cons,List.flatten_cons,List.cons_append,List.nil_append,RvL] at h;obtain ⟨v,s,rfl,h1,h2⟩:=h;unfold Rv at h1;rw [h1.1,wb (ds:=r) h2];rfl
theorem pI {E:En}:∀ ds:List Nat,RvC E (dInts ds).flatten (ds.map Ej)
 | []=>⟨bE E,by simp⟩
 | x :: r=>by
  have ih:=pI (E:=E) r;refine ⟨?_,?_⟩
  ·simp only [dInts,List.map_cons,List.flatten_cons,List.cons_append,List.nil_append];exact rvL_cons (dq rfl) ih.1
  ·intro v hv;simp only [List.map_cons,List.mem_cons] at hv;rcases hv with rfl | hv
   ·rfl
   ·exact ih.2 v hv
theorem NO {m:Nat}:∀ ds:List Nat,(∀ p∈ds,p < m + 1)->∃ D:List (Fin (m + 1)),D.map (·.val)=ds
 | [],_=>⟨[],rfl⟩
 | x :: r,h=>by
  obtain ⟨D,hD⟩:=NO r fun p hp=>h p (dn _ hp);exact ⟨⟨x,h x (by simp)⟩ :: D,by simp [hD]⟩
theorem pJ {α:Type} [Inhabited α] (enc:α->Value) (w:World) (b n:Nat) (dk:Array α) (os:Array Obj) (arr:List Value) (ty:TypeId) (hw:w.heap[b]? = some (.cells arr.toArray ty (0,0))) (hl:arr.length=dk.size) :
  ∀ k,k < w.heap.size->(Sort.grow (Sort.putRow enc (Sort.ahead w n) b 0 dk) os).heap[k]? = (World.bZ w b (.cells (dk.toList.map enc).toArray ty (0,0))).heap[k]?:=by
 intro k hk;simp only [Sort.grow,Sort.putRow,Sort.mapBlock,Sort.ahead];rw [Array.getElem?_append_left (sU hk),Array.getElem?_modify];by_cases Ru:b=k
 ·subst Ru;rw [aj rfl,hw,er hw];simp only [Option.map_some,Sort.onCells,oI,Obj.cells.injEq,and_true];apply Array.ext_getElem?;intro j;simp only [Sort.putCells,Array.getElem?_mapIdx]
  grind
 ·rw [ah Ru,bB (Ne.symm Ru)]
theorem Ek {α:Type} {l:List α} {i:Nat} {x:α} (h:l[i]? = some x):l.set i x=l:=by
 apply List.ext_getElem?
 grind
theorem BR {X:Ctx} {st:St} {k:List It} (hP:X.P=prog) {i c len:Nat} {ds:List Nat} (hlen:len=ds.length) {Rx:List DV} {d:Nat} (N:Nat) (hN:∀ p∈ds,p < N) (lt:Nat->Nat->Bool) (hO:Sort.SWO lt)
  (nO:st.bx[i]? = some (dInts ds).flatten) (hn:ds.length<=1099511627776) (TJ:List Nat->List DV) (Hz:∀ dk:List Nat,dk.length=ds.length->CcL (st.bx.set i (dInts dk).flatten) 0 0 0 (TJ dk) Rx)
  (Ei:∀ dk:List Nat,dk.length=ds.length->(∀ p∈dk,p < N)->∀ i j p q:Nat,dk[i]? = some p->dk[j]? = some q->Tw prog 207 (.v (.int .i64 i) :: .v (.int .i64 j) :: TJ dk) [] [] (fun r _ _=>r = .v (.bool (lt p q))))
  (hd:dF X.nt st.sl (some d)=true)
  (hk:∀ KU:List Nat,KU.Perm ds->(∀ i j p q:Nat,i < j->KU[i]? = some p->KU[j]? = some q->lt q p=false)->go X 4000 k ⟨(d,⟨[],.cj []⟩) :: st.sl,st.bx.set i (dInts KU).flatten,st.tk⟩)
  (bo:X.still=false:=by exact rfl) (hX:X.bt=[]:=by exact rfl):CallG X 206 [.lF 96 (.ms i 1 0 len c),.fn 207 [] Rx] (some d) k st:=by
 subst hlen;refine ⟨?_,bo,fun E a w vs h hv=>?_⟩
 ·rw [hP];exact Ng
 rw [hP];simp only [RvL] at hv;obtain ⟨v1,_,rfl,h1,v2,_,rfl,h2,rfl⟩:=hv;unfold Rv at h1;obtain ⟨z,rfl,h1⟩:=h1;unfold Rv at h1;obtain ⟨b,ad,hb,L1,rfl,hca⟩:=h1;unfold Rv at h2;obtain ⟨l,r,rfl,hl,hr⟩:=h2;simp only [RvL] at hl;subst hl;obtain ⟨b',ty,arr,ee,hw,nN⟩:=h.env.cM i _ nO;rw [hb] at ee;simp only [oI] at ee;subst ee;have El:=wb nN.1;have KM:=cv hw;by_cases h1:ds.length<=1
 ·refine (BP r.toArray ad ds.length c h1 w).mono ?_;rintro e w' ⟨rfl,os,rfl⟩
  have hh:∀ j,j < w.heap.size->(Sort.grow w os).heap[j]? = w.heap[j]?:=fun j hj=>by
   simp only [Sort.grow];rw [Array.getElem?_append_left hj]
  have ba:Rel X E st a (Sort.grow w os):=bU h (Ext.refl E) (h.env.fX hh) h.tk h.nw (h.fr.bF rfl rfl rfl (by simp [Sort.grow]) fun j hj=>.inr (hh j hj)) (kF bo) (.nil hX);have DT:=hk ds (List.Perm.refl _) (fun i j p q fL _ hj=>by have:=(gS hj).1;omega);rw [Ek nO] at DT;exact go_sound 4000 _ _ DT E _ _ (aO ba hd (.cj []) (.tuple #[]) (by unfold Rv;exact ⟨[],rfl,bE E⟩))
 ·have h2:2<=ds.length:=by omega
  have My:=hca (by omega);subst My
  obtain ⟨m,rfl⟩:∃ m,N=m + 1:=by
   cases Py:ds with
   | nil=>rw [Py] at h2;simp at h2
   | cons x r=>have:=hN x (by rw [Py];simp);exact ⟨N - 1,by omega⟩
  obtain ⟨D,hD⟩:=NO ds hN;have Jl:D.length=ds.length:=by rw [<- hD];simp
  let enc:Fin (m + 1)->Value:=fun x=>Ej x.val
  have hO':Sort.SWO (fun x y:Fin (m + 1)=>lt x.val y.val):=⟨fun x=>hO.irrefl _,fun x y z=>hO.trans _ _ _,fun x y z=>hO.ntrans _ _ _⟩;have NP:∀ l:List (Fin (m + 1)),l.map enc=(l.map (·.val)).map Ej:=fun l=>by simp [enc]
  have hS:=Eh enc (fun _=>rfl) hO' r.toArray b c D.toArray (by simpa [Jl] using h2) (by simp [Jl];omega) w ?_ ?_ KM
  ·simp only [List.size_toArray,Jl] at hS;refine hS.mono ?_;rintro e w' ⟨rfl,d',n,os,hp,hs,rfl⟩;have cf:d'.size=ds.length:=by have:=hp.1;simpa [Jl] using this
   have kL:(d'.toList.map (·.val)).Perm ds:=by
    have h3:=hp.2.2;have e1:d'.extract 0 ds.length=d':=Array.extract_eq_self_of_le (by omega);have e2:D.toArray.extract 0 ds.length=D.toArray:=Array.extract_eq_self_of_le (by simp [Jl]);rw [e1,e2] at h3;rw [<- hD];exact h3.map _
   have Em:∀ i j p q:Nat,i < j->(d'.toList.map (·.val))[i]? = some p->(d'.toList.map (·.val))[j]? = some q->lt q p=false:=by
    intro i j p q fL hi hj;have qY:j < d'.size:=by have:=(gS hj).1;simpa using this
    have h3:=hs i j (Nat.zero_le _) fL (by omega);rw [getElem!_pos d' j qY,getElem!_pos d' i (by omega)] at h3;have NQ:i < d'.size:=by omega
    simp [NQ] at hi;simp [qY] at hj;rw [<- hi,<- hj];exact h3
   have hh:=pJ enc w b n d' os arr ty hw (by rw [El];simp [cf]);have cN:=mN (ty:=ty) h bo hb (cs':=(dInts (d'.toList.map (·.val))).flatten) (arr':=(d'.toList.map (·.val)).map Ej) (pI _) ⟨_,hw⟩;rw [<- NP] at cN;have oX:(Sort.grow (Sort.putRow enc (Sort.ahead w n) b 0 d') os).heap.size=w.heap.size + os.size:=by simp [Sort.grow,Sort.putRow,Sort.mapBlock,Sort.ahead]
   have ba:=bU cN (Ext.refl E) (w':=Sort.grow (Sort.putRow enc (Sort.ahead w n) b 0 d') os) (cN.env.fX fun j hj=>hh j (by rwa [dp] at hj)) cN.tk cN.nw
    (cN.fr.bF rfl rfl rfl (by rw [dp,oX];omega) fun j hj=>.inr (hh j (by rwa [dp] at hj))) (kF bo) (.nil hX)
   exact go_sound 4000 _ _ (hk _ kL Em) E _ _ (aO ba hd (.cj []) (.tuple #[]) (by unfold Rv;exact ⟨[],rfl,bE E⟩))
  ·intro mm os dk hs i' j' hi hj;have cf:dk.size=ds.length:=sV Jl hs;have hh:=pJ enc w b mm dk os arr ty hw (by rw [El];simp [cf]);have hE:=h.env.set hb KM (ty:=ty) (pI (E:=E) (dk.toList.map (·.val)));rw [<- NP] at hE;have hE':=hE.fX (w':=Go.Proofs.sortWorld enc w b 0 mm dk os) fun j hj=>hh j (by rwa [dp] at hj);have NQ:i' < dk.size:=by rw [cf,<- Jl];simpa using hi
   have qY:j' < dk.size:=by rw [cf,<- Jl];simpa using hj
   have Ry:(dk.toList.map (·.val)).length=ds.length:=sU cf
   have hc:=Ei (dk.toList.map (·.val)) Ry (fun p hp=>by
    obtain ⟨x,_,rfl⟩:=List.mem_map.1 hp
    exact x.isLt) i' j' (dk[i']!).val (dk[j']!).val (by rw [getElem!_pos dk i' NQ];simp [NQ]) (by rw [getElem!_pos dk j' qY];simp [qY])
   have hv:RvL E (.v (.int .i64 (i':Int)) :: .v (.int .i64 (j':Int)) :: Rx) (.int .i64 (i':Int) :: .int .i64 (j':Int) :: r):=rvL_cons (dq rfl) (rvL_cons (dq rfl) hr);have hb:=fZ hE' hc ⟨_,_,rfl,rfl,_,_,rfl,rfl,Hz _ Ry⟩ hv;have hargs:(#[Value.int .i64 (i':Int),Value.int .i64 (j':Int)] ++ r.toArray)=(Value.int .i64 (i':Int) :: Value.int .i64 (j':Int) :: r).toArray:=by simp
   rw [hargs];refine hb.mono ?_;rintro e w' ⟨v,E2,rfl,Jm,_,Ah⟩;have:=aZ Jm;subst this;exact ⟨rfl,Ah rfl⟩
  ·intro j hj;have qY:j < D.length:=sU hj;rw [bD hw,Nat.zero_add,El];refine ⟨?_,?_⟩
   ·rw [getElem!_pos D.toArray j hj,<- hD];simp [qY,enc]
   ·simp [World.frozen?,hw]
theorem sm {n m:Nat} {tk:List TkE}:∀ ds:List Nat,WeL n m tk (dInts ds).flatten (dInts ds).flatten
 | []=>rfl
 | b :: r=>⟨_,_,rfl,au rfl,sm r⟩
theorem l6 {n m:Nat} {tk:List TkE} {l:List DV} {ds:List Nat} (h:l=(dInts ds).flatten):WeL n m tk l (dInts ds).flatten:=by rw [h];exact sm ds
def eU (n e:Nat):List Nat:=List.range e ++ List.replicate (n - e) 0
theorem BS {n e:Nat} (h:e<=n):(eU n e).length=n:=by simp [eU];omega
theorem fillA_0 (n:Nat):(List.replicate n [DV.v (.int .i64 0)]).flatten=(dInts (eU n 0)).flatten:=by simp [eU,dInts]
theorem HA (n:Nat):eU n n=List.range n:=by simp [eU]
theorem km (ds:List Nat):(dInts ds).flatten=ds.map fun (i:Nat)=>DV.v (.int .i64 (i:Int)):=by
 induction ds with
 | nil=>rfl
 | cons x r ih=>simp only [dInts,List.map_cons,List.flatten_cons] at ih ⊢;rw [ih];all_goals rfl
theorem yD {n e:Nat} (h:e < n):(dInts (eU n e)).flatten.take e ++ [DV.v (.int .i64 (e:Int))] ++ (dInts (eU n e)).flatten.drop (e + 1)=(dInts (eU n (e + 1))).flatten:=by
 simp only [km,<- List.map_take,<- List.map_drop];have e1:(eU n e).take e=List.range e:=by simp [eU]
 have e2:(eU n e).drop (e + 1)=List.replicate (n - (e + 1)) 0:=by
  simp only [eU,List.drop_append,List.length_range];rw [List.drop_eq_nil_of_le (by simp),List.nil_append,List.drop_replicate];congr 1;omega
 rw [e1,e2];simp [eU,List.range_succ]
abbrev Eo (L:List ByteArray) (e:Nat):St:=
 ⟨[aS 3 1,aS 4 3,aA 16 ((dj L).length),aA 17 e],
  [[.sl 1 (dj L) (some 0),.v (.slice none 0 0)],[.loc 0 0],(dInts (eU (dj L).length e)).flatten,[.ms 2 1 0 (dj L).length (dj L).length]],[⟨(dj L).length,9,1,none⟩]⟩
def eH (L:List ByteArray) (ds:List Nat) (i:Nat):Bool:=decide (i=0) || !decide (L.getD (ds.getD i 0) al=L.getD (ds.getD (i - 1) 0) al)
def dA (L:List ByteArray) (ds:List Nat) (e:Nat):List Nat:=((List.range e).filter (eH L ds)).map fun i=>ds.getD i 0
theorem pK (L:List ByteArray) (ds:List Nat) (e:Nat):dA L ds (e + 1)=dA L ds e ++ (if eH L ds e=true then [ds.getD e 0] else []):=by
 unfold dA;rw [List.range_succ,List.filter_append,List.map_append];congr 1;cases h:eH L ds e<;>simp [h]
theorem BT (L:List ByteArray) (ds:List Nat) (e:Nat):(dA L ds e).length<=e:=by grind [dA]
abbrev KV (L:List ByteArray) (ds:List Nat):St:=
 ⟨[aS 3 1,ry 4 [.sl 1 (dInts ds) none],dJ 29 1 (dInts ds),aA 30 ((dj L).length),aA 31 0],
  [[.sl 1 (dj L) (some 0),.v (.slice none 0 0)],[.loc 0 0]],[⟨(dj L).length,9,1,none⟩]⟩
abbrev we (L:List ByteArray) (ds ay:List Nat) (m e:Nat):St:=
 ⟨[aS 3 1,ry 4 [.sl 1 (dInts ds) none],dJ 29 1 (dInts ds),aA 30 ((dj L).length),aA 31 e],
  [[.sl 1 (dj L) (some 0),.sl 1 (dInts ay) (some 1)],[.loc 0 0]],[⟨(dj L).length,9,1,none⟩,⟨m,3,1,none⟩]⟩
theorem getD_some {α:Type} {l:List α} {i:Nat} {x d:α} (h:l[i]? = some x):l.getD i d=x:=by simp [jl,h]
theorem nc {α:Type} {l:List α} {i:Nat} {d:α} (h:i < l.length):l[i]? = some (l.getD i d):=by grind
theorem KW {L:List ByteArray} {ds:List Nat} (kL:ds.Perm (List.range L.length)) (Em:∀ i j p q:Nat,i < j->ds[i]? = some p->ds[j]? = some q->v8 L q p=false):eT L (dA L ds L.length):=by
 have hlen:ds.length=L.length:=by rw [kL.length_eq,List.length_range]
 let D:Nat->Nat:=fun i=>ds.getD i 0
 let T:Nat->ByteArray:=fun i=>L.getD (D i) al
 have hD:∀ i,i < L.length->ds[i]? = some (D i):=fun i hi=>nc (by omega)
 have TL:∀ i,i < L.length->D i < L.length:=fun i hi=>by
  have:=kL.mem_iff.1 (mG (hD i hi));exact List.mem_range.1 this
 have hT:∀ i,i < L.length->L[D i]? = some (T i):=fun i hi=>nc (TL i hi);have jv:∀ i j,i < j->j < L.length->T i=T j∨ub (T i) (T j)=true:=by grind [v8,AB]
 have NR:∀ i,i < L.length->eH L ds i=true->∀ j,j < i->ub (T j) (T i)=true:=by
  intro i hi hh j Km;have aY:T i≠T (i - 1):=by grind [eH]
  grind [ub,dY]
 have du:∀ j,j < L.length->∃ k,k < L.length/\D k=j:=by
  intro j hj;have:=kL.mem_iff.2 (List.mem_range.2 hj);obtain ⟨k,hk⟩:=List.getElem?_of_mem this
  grind
 let H:=(List.range L.length).filter (eH L ds)
 have hH:∀ (a i:Nat),H[a]? = some i->i < L.length/\eH L ds i=true:=fun a i h=>by
  have:=mG h
  grind
 have BU:∀ (a p:Nat),(dA L ds L.length)[a]? = some p->∃ i,H[a]? = some i/\D i=p:=by grind [dA,eH]
 have hinc:∀ (a b i k:Nat),a < b->H[a]? = some i->H[b]? = some k->i < k:=by
  intro a b i k NN hi hk;have hp:List.Pairwise (·< ·) H:=List.Pairwise.filter _ List.pairwise_lt_range;obtain ⟨ha,rfl⟩:=List.getElem?_eq_some_iff.1 hi;obtain ⟨hb,rfl⟩:=List.getElem?_eq_some_iff.1 hk;exact List.pairwise_iff_getElem.1 hp a b ha hb NN
 refine ⟨?_,?_,?_,?_⟩
 ·intro a p h;obtain ⟨i,hi,rfl⟩:=BU a p h;exact TL i (hH a i hi).1
 ·intro a b p q s t NN hp hq hs ht;obtain ⟨i,hi,rfl⟩:=BU a p hp;obtain ⟨k,hk,rfl⟩:=BU b q hq;rw [hT i (hH a i hi).1] at hs;rw [hT k (hH b k hk).1] at ht
  grind
 ·intro a p j s hp hs hj;obtain ⟨i,hi,rfl⟩:=BU a p hp;obtain ⟨Er,Dd⟩:=hH a i hi;obtain ⟨k,hk,rfl⟩:=du j (gS hj).1;rw [hT i Er] at hs;rw [hT k hk] at hj;simp only [oI] at hs hj;rcases Nat.lt_trichotomy k i with h | h | h
  ·have:=NR i Er Dd k h;rw [hs,hj,ub,hU] at this;cases this
  ·rw [h];exact bd _
  ·have h2:=Em i k (D i) (D k) h (hD i Er) (hD k hk)
   grind [v8,al]
 ·intro j s hj;obtain ⟨k,hk,rfl⟩:=du j (gS hj).1;rw [hT k hk] at hj;simp only [oI] at hj;obtain ⟨i,⟨Er,NS⟩,hmin⟩:=least (p:=fun i=>i < L.length/\T i=s) ⟨k,hk,hj⟩;have Dd:eH L ds i=true:=by grind [eH,al]
  have hm:i∈H:=by simp only [H,List.mem_filter,List.mem_range];exact ⟨Er,Dd⟩
  obtain ⟨a,ha⟩:=List.getElem?_of_mem hm;refine ⟨a,D i,?_,by rw [hT i Er,NS]⟩;unfold dA
  grind
theorem pL (L:List ByteArray) (hl:L.length<=1099511627776) :
  Ev prog 125 [.sl 1 (dj L) none] [] [] (fun r _ _=>∃ ay,eT L ay/\ay.length<=L.length/\r = .pt (bW L ay) 0):=by
 have hN:=bz L;refine eG 71 [.tmp 2] func125 rfl ntmps125 rfl fun _ _ _ _=>?_;refine ⟨⟨by simp [hN,maxLen];omega,by simp [hN];omega⟩,?_⟩;refine ⟨⟨rfl,by omega,by omega,by omega⟩,?_⟩;refine lJ (fun e=>Eo L e) L.length (jy 4 (by repeat' (first | exact rfl | exact au rfl | exact l6 (fillA_0 _) | refine ⟨_,_,rfl,?_,?_⟩)) (by repeat' (first | exact trivial | exact au rfl | exact l6 (fillA_0 _) | refine ⟨⟨_,rfl,?_⟩,?_⟩))) ?_;intro e he;refine br ?_ ?_<;>intro h
 ·have av:e < (dj L).length:=sU h;refine ⟨⟨by omega,by omega⟩,?_⟩;have e1:(dInts (eU (dj L).length e)).flatten.length=(dj L).length:=by rw [km,List.length_map,BS (by omega)]
  refine ⟨by rw [e1];omega,?_⟩
  have bP:(dInts (eU (dj L).length e)).flatten.set (0 + (e:Int).toNat * 1) (DV.v (.int .i64 (e:Int)))=(dInts (eU (dj L).length (e + 1))).flatten:=by
   rw [show 0 + (e:Int).toNat * 1=e by omega,List.set_eq_take_append_cons_drop,aj (by rw [e1];omega),<- yD av];simp
  refine ⟨Eo L (e + 1),(jy 4 (by repeat' (first | exact rfl | exact au rfl | exact l6 bP | exact az (bV av (by omega)) | refine ⟨_,_,rfl,?_,?_⟩)) (by repeat' (first | exact trivial | exact au rfl | exact l6 bP | exact az (bV av (by omega)) | refine ⟨⟨_,rfl,?_⟩,?_⟩))),L.length - (e + 1),by omega,e + 1,rfl,by omega,rfl⟩
 ·have bO:e=(dj L).length:=by grind
  subst bO;rw [HA]
  have TM:∀ dk:List Nat,dk.length=(List.range (dj L).length).length->∀ bx:List (List DV),bx[2]? = some (dInts dk).flatten->∀ N0 n0 m0:Nat,N0<=2->Cc bx N0 n0 m0 (.sl 1 (dInts dk) none) (.ms 2 1 0 (dj L).length (dj L).length):=by
   intro dk Mb bx hb N0 n0 m0 hN0;simp only [Cc];refine Or.inr (Or.inr (Or.inl ⟨2,0,(dj L).length,_,?_,hN0,hb,?_,?_,?_⟩))
   ·rw [bI,Mb,List.length_range]
   ·rw [List.drop_zero,List.take_of_length_le];rw [km,List.length_map,bI];omega
   ·grind [dInts]
   ·grind [km]
  refine BR (ds:=List.range (dj L).length) rfl (by simp) (dj L).length (fun p hp=>List.mem_range.1 hp) (v8 L) (Hy L) rfl (by simp [hN];omega)
   (fun dk=>[.pt [.sl 1 (dInts dk) none] 0,.pt [.pt [.sl 1 (dj L) none,.v (.slice none 0 0)] 0] 0])
   (fun dk Mb=>⟨_,_,rfl,Or.inr ⟨3,_,rfl,Nat.zero_le _,rfl,⟨_,_,rfl,TM dk Mb _ rfl 0 0 0 (Nat.zero_le _),rfl⟩⟩,ax⟩)
   (fun dk Mb hp i j p q hi hj=>BQ L dk i j p q hi hj (by have:=hp p (mG hi);omega) (by have:=hp q (mG hj);omega)) rfl (fun ds kL Em=>?_)
  have sn:ds.length=(dj L).length:=by rw [kL.length_eq,List.length_range]
  have NT:=TM ds (by rw [sn,List.length_range])
  refine DX 2 (KV L ds) rfl rfl rfl ⟨_,_,rfl,⟨_,_,rfl,⟨nL rfl,rfl⟩,_,_,rfl,rfl,rfl⟩,_,_,rfl,⟨_,_,rfl,⟨nL rfl,rfl⟩,rfl⟩,rfl⟩
   ⟨⟨_,rfl,⟨nL rfl,rfl⟩⟩,⟨_,rfl,Or.inr ⟨3,_,rfl,by decide,rfl,⟨_,_,rfl,NT _ rfl 2 0 0 (by decide),rfl⟩⟩⟩,⟨_,rfl,NT _ rfl 2 2 1 (by decide)⟩,⟨_,rfl,rfl⟩,⟨_,rfl,rfl⟩,trivial⟩ ?_
  refine b9 (fun j st=>∃ e m:Nat,st=we L ds (dA L ds e) m e/\m=(dA L ds e).length/\e<=(dj L).length/\j=(dj L).length - e) (dj L).length (we L ds [] 0 0)
   (fj 2 ⟨0,3,1,none⟩ rfl rfl rfl BC rfl rfl wB) ⟨0,0,rfl,rfl,by omega,by omega⟩ ?_
  rintro j st ⟨e,m,rfl,hm,he,rfl⟩;have gM:=BT L ds e;refine br ?_ ?_<;>intro h
  ·have av:e < (dj L).length:=sU h;obtain ⟨p,hp⟩:∃ p,ds[e]? = some p:=⟨_,gE (by omega)⟩
   have hpL:p < L.length:=by
    have:=kL.mem_iff.1 (mG hp);rw [List.mem_range] at this;omega
   obtain ⟨s,hs⟩:∃ s,L[p]? = some s:=⟨_,gE hpL⟩;refine iX (dL hp) ?_;have hgp:ds.getD e 0=p:=by simp [jl,hp]
   have Bs:L.getD p al=s:=by simp [jl,hs]
   have cm:eH L ds e=true->dA L ds (e + 1)=dA L ds e ++ [p]:=fun hh=>by rw [pK,aj hh,hgp]
   have hold:eH L ds e=false->dA L ds (e + 1)=dA L ds e:=fun hh=>by rw [pK,ah (by rw [hh];decide),List.append_nil]
   have AD:eH L ds e=true->dInts (dA L ds e) ++ [[DV.v (.int .i64 (p:Int))]]=dInts (dA L ds (e + 1)):=fun hh=>by rw [cm hh];simp [dInts]
   by_cases h0:e=0
   ·subst h0;have hh:eH L ds 0=true:=by simp [eH]
    refine dI ?_;refine dS ?_;refine ⟨by rw [bI,hm],⟨by simp [bI,maxLen];omega,by simp [bI];omega⟩,?_⟩;refine ⟨we L ds (dA L ds 1) (m + 1) 1,(jy 2 (by repeat' (first | exact rfl | exact au rfl | exact az (bV av (by omega)) | exact dx (AD hh) rfl | refine ⟨_,_,rfl,?_,?_⟩)) (by repeat' (first | exact trivial | exact au rfl | exact az (bV av (by omega)) | exact dx (AD hh) rfl | refine ⟨⟨_,rfl,?_⟩,?_⟩))),(dj L).length - 1,by omega,1,m + 1,rfl,by rw [cm hh,List.length_append,hm];rfl,by omega,rfl⟩
   ·obtain ⟨p',rz⟩:∃ p',ds[e - 1]? = some p':=⟨_,gE (by omega)⟩
    have Rz:p' < L.length:=by
     have:=kL.mem_iff.1 (mG rz);rw [List.mem_range] at this;omega
    obtain ⟨s',TN⟩:∃ s',L[p']? = some s':=⟨_,gE Rz⟩;have hgp':ds.getD (e - 1) 0=p':=by simp [jl,rz]
    have hgs':L.getD p' al=s':=by simp [jl,TN]
    have TO:eH L ds e = !decide (s=s'):=by grind [eH]
    have hz:IntKind.i64.wrap ((e:Int) - 1)=((e - 1:Nat):Int):=by rw [wrap64 (by omega) (by omega)];omega
    refine dI ?_;refine br (fun _=>?_) (fun h=>?_)
    ·refine iX (dX hs) ?_;refine ⟨[.v (.int .i64 (p':Int))],⟨by rw [hz];omega,by rw [hz];exact dL rz⟩,?_⟩;refine iX (dX TN) ?_;refine br ?_ ?_<;>intro h2
     ·have hh:eH L ds e=true:=by grind [aF]
      refine dS ?_;refine ⟨by rw [bI,hm],⟨by simp [bI,maxLen];omega,by simp [bI];omega⟩,?_⟩;refine ⟨we L ds (dA L ds (e + 1)) (m + 1) (e + 1),(jy 2 (by repeat' (first | exact rfl | exact au rfl | exact az (bV av (by omega)) | exact dx (AD hh) rfl | refine ⟨_,_,rfl,?_,?_⟩)) (by repeat' (first | exact trivial | exact au rfl | exact az (bV av (by omega)) | exact dx (AD hh) rfl | refine ⟨⟨_,rfl,?_⟩,?_⟩))),(dj L).length - (e + 1),by omega,e + 1,m + 1,rfl,by rw [cm hh,List.length_append,hm];rfl,by omega,rfl⟩
     ·have hh:eH L ds e=false:=by grind [aF]
      have bL:dInts (dA L ds e)=dInts (dA L ds (e + 1)):=by rw [hold hh]
      refine ⟨we L ds (dA L ds (e + 1)) m (e + 1),(jy 2 (Hh (bV av (by omega)) bL) (q5 (bV av (by omega)) bL)),(dj L).length - (e + 1),by omega,e + 1,m,rfl,by rw [hold hh,hm],by omega,rfl⟩
    ·grind
  ·have bO:e=L.length:=by grind
   subst bO;exact ⟨.pt (bW L (dA L ds L.length)) 0,Or.inr ⟨0,_,rfl,Nat.zero_le _,rfl,ax⟩,_,KW (by rw [<- hN];exact kL) Em,gM,rfl⟩
abbrev NU (L:List ByteArray) (ay:List Nat) (e:Nat):St:=
 ⟨[ry 3 (bW L ay),dJ 10 1 (dj L),aA 11 ((dj L).length),aA 12 e],[],[]⟩
theorem Et {α:Type}:∀ {l:List α},(∀ (i j:Nat) (x:α),j < i->l[i]? = some x->l[j]? ≠ some x)->l.Nodup
 | l,h=>by
  rw [List.nodup_iff_pairwise_ne,List.pairwise_iff_getElem];intro i j hi hj fL he;exact h j i l[j] fL (gE hj) (by rw [gE hi,he])
theorem k0 (L:List ByteArray) (hl:L.length<=1099511627776) :
  Ev prog 131 [.sl 1 (dj L) none] [] [] (fun r _ _=>∃ z:Int,r = .v (.int .i64 z)/\(0<=z↔¬ L.Nodup)):=by
 have hN:=bz L;refine eG 28 [.tmp 2] func131 rfl ntmps131 rfl fun _ _ _ _=>?_;refine gW D2 rfl (pL L hl) ax (fun r hr=>?_);obtain ⟨ay,hT,gM,rfl⟩:=hr;refine lI (fun j st=>∃ e:Nat,st=NU L ay e/\e<=L.length/\(∀ (i j:Nat) (x:ByteArray),i < e->j < i->L[i]? = some x->L[j]? ≠ some x)/\j=L.length - e) ⟨0,rfl,by omega,fun i j x hi=>by omega,rfl⟩ (cL wB) ?_;rintro j st ⟨e,rfl,he,hinv,rfl⟩;refine br ?_ ?_<;>intro h
 ·have av:e < L.length:=sV hN h;obtain ⟨s,hs⟩:=gX av;obtain ⟨q,p,hq,hp⟩:=hT.all e s hs;have cx:=hT.fst q p e s hq hp hs;refine iX (dX hs) ?_;refine cP jK (find_spec L ay s q p hT (by omega) hq hp) ?_;refine br ?_ ?_<;>intro h2
  ·have h2:p < e:=sU h2;refine ⟨(e:Int),rfl,⟨fun _ hnd=>?_,fun _=>by omega⟩⟩;rw [List.nodup_iff_pairwise_ne,List.pairwise_iff_getElem] at hnd;obtain ⟨h3,h4⟩:=List.getElem?_eq_some_iff.1 hp;obtain ⟨h5,h6⟩:=List.getElem?_eq_some_iff.1 hs;exact hnd p e h3 h5 h2 (by rw [h4,h6])
  ·have h2:¬ p < e:=sU h2;refine ⟨NU L ay (e + 1),(cL (iG (bV av (by omega)))),L.length - (e + 1),by omega,e + 1,rfl,by omega,fun i j x hi hj hx TP=>?_,rfl⟩;by_cases Hx:i=e
   ·subst Hx;rw [hs] at hx;simp only [oI] at hx;subst hx;have:=hT.fst q p j s hq hp TP;omega
   ·exact hinv i j x (by omega) hj hx TP
 ·have bO:e=L.length:=by grind
  subst bO;refine ⟨-1,rfl,⟨fun h3=>by omega,fun h3=>?_⟩⟩;exact absurd (Et fun i j x fL hi hj=>hinv i j x (gS hi).1 fL hi hj) h3
def sameWds:List Wd->List Wd->Bool
 | [],[]=>true
 | x :: r,y :: s=>decide (x.s=y.s) && sameWds r s
 | _,_=>false
def cW (p q:Ph):Bool:=(p.bare == q.bare) && decide (p.wide=q.wide) && sameWds p.label q.label && decide (p.ck=q.ck) && decide (p.cn=q.cn) && sameWds p.cl q.cl
def la (h k:Hd):Bool:=decide (h.ai=k.ai) && decide (h.lo=k.lo) && decide (h.hi=k.hi) && decide (h.most=k.most) && decide (h.name.s=k.name.s) && sameWds h.af k.af
mutual
def sameTy:Ty->Ty->Bool
 | .mk h ps,.mk k qs=>la h k && samePts ps qs
def samePts:Pts->Pts->Bool
 | .nil,.nil=>true
 | .cons p t r,.cons q u s=>decide (p.name.s=q.name.s) && cW p q && sameTy t u && samePts r s
 | _,_=>false
end
def Eu (h:Hd):Hd:=
 ⟨h.ai,0,if h.ai=2 then h.lo else 0,if h.ai=2 then h.hi else 0,if h.ai=3∨h.ai=5 then h.most else 0,if h.ai=4 then h.af else [],if h.ai=9 then h.name else ⟨al,0⟩⟩
def mask:Ty->Ty
 | .mk h ps=>.mk (Eu h) (if 4 < h.ai/\h.ai < 9 then ps else .nil)
end Go.Proofs.YtfdedoiiahbnnaaGreat
