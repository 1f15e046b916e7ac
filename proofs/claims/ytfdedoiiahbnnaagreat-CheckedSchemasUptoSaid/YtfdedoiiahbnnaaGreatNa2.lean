/- Part 2 of the proof: The evaluator 'go' is sound: the end of a call, the theorem; contracts; rules for branches, calls, loops; Rules for the evaluator: what is known made less, loops; A region that draws its order: where the operations with an effect are ordered among themselves, and what writes waits for all that reads, one run in the order of the text serves every order; The evaluator at regions that draw their order: one run in the order of the text; what is read is what was known at the region's beginning; A region that draws its order, in which two operations with an effect are not ordered: the run in either order of these two serves every order; Rules for the evaluator: a call that is handed the caller's own objects, to read them; Rules for the evaluator: objects that are written no more are frozen, ahead of a loop; Rules for the evaluator: a call that is handed one of the caller's objects, to write it; The table of this program's types, by which the evaluator goes; The program's functions are entered; The data of the document's types, plain, and as the evaluator has them; Names: the program's and the reference's functions say the same of a text; sort.Search; the program's table of texts: Find; The library's sort.Slice, laid at this program by the kit's tool (lay-plain; wip/tools/lay.sh); The order of the table; the closure handed to sort.Slice; sort.Slice of the table's places, at a call; names.New: the table; names.Twice: does a text stand earlier, too?. No condition. -/
import Derived.Scope
import Derived.Test.YtfdedoiiahbnnaaGreatProg
import Derived.Shelf.GgSortFunc.Whole
import Derived.Shelf.GgSortFunc.Tiny
import Derived.Test.YtfdedoiiahbnnaaGreatNa1
set_option linter.all false
namespace Go.Proofs.YtfdedoiiahbnnaaGreat
namespace Dv
open Go Go.RowKit
structure Eg (E E':En) (bx:List (List DV)) (N:Nat):Prop where
 c:∀ a v,E.c a=some v->E'.c a=some v
 fz:∀ (i:Nat) cs,N<=i->bx[i]? = some cs->∃ b arr,E.β[i]? = some b/\RvC E cs arr/\∀ (j:Nat) u,arr[j]? = some u->E'.c ⟨b,j,none⟩=some u
theorem Eg.cl {E E':En} {bx:List (List DV)} {N:Nat} (h:Eg E E' bx N):Eg E E'.cl bx N:=⟨h.c,h.fz⟩
structure Bs (E E':En) (n0 m0:Nat):Prop where
 β:∀ (i:Nat) b,i < n0->E.β[i]? = some b->E'.β[i]? = some b
 tk:∀ k,k < m0->E'.tk[k]? = E.tk[k]? /\ E'.τ[k]? = E.τ[k]?
theorem Bs.zero (E E':En):Bs E E' 0 0:=⟨fun _ _ h=>absurd h (Nat.not_lt_zero _),fun _ h=>absurd h (Nat.not_lt_zero _)⟩
theorem Ext.Ii (E:En):Ext E.cl E:=⟨fun _ _ h=>h,fun j b hj=>by simp [En.cl] at hj,fun k q hk=>by simp [En.cl] at hk⟩
theorem wZ {E E':En} (hm:∀ e b o es,RvEs E.cl e b o es->RvEs E'.cl e b o es):∀ {l:List DV} {arr:List Value},(∀ x∈l,(∃ y,x = .v y)∨∃ e' wj,x = .sl e' wj none)->RvL E l arr->RvL E' l arr
 | [],arr,_,h=>by simp only [RvL] at h ⊢;exact h
 | d :: r,arr,hs,h=>by
  simp only [RvL] at h ⊢;obtain ⟨v,s,rfl,h1,h2⟩:=h;refine ⟨v,s,rfl,?_,wZ hm (fun x hx=>hs x (gy _ hx)) h2⟩;rcases hs d (by simp) with ⟨y,rfl⟩ | ⟨e',wj,rfl⟩
  ·unfold Rv at h1 ⊢;exact h1
  ·unfold Rv at h1 ⊢;obtain ⟨b,n,cap,h3,h4,h5,_⟩:=h1;exact ⟨b,n,cap,h3,h4,fun hn=>⟨(h5 hn).1,hm _ _ _ _ (h5 hn).2⟩,fun k hk=>by cases hk⟩
theorem CcL.length {bx:List (List DV)} {N n0 m0:Nat}:∀ {l' l:List DV},CcL bx N n0 m0 l' l->l'.length=l.length
 | [],l,h=>by simp only [CcL] at h;subst h;rfl
 | d' :: r',l,h=>by
  simp only [CcL] at h;obtain ⟨d,r,rfl,_,h2⟩:=h;simp [CcL.length h2]
theorem CcE.length {bx:List (List DV)} {N:Nat}:∀ {l' l:List (List DV)},CcE bx N l' l->l'.length=l.length
 | [],l,h=>by simp only [CcE] at h;subst h;rfl
 | d' :: r',l,h=>by
  simp only [CcE] at h;obtain ⟨d,r,rfl,_,h2⟩:=h;simp [CcE.length h2]
mutual
theorem Cc.sound {bx:List (List DV)} {N:Nat} {E:En}:∀ {d':DV} {E':En} {n0 m0:Nat} {d:DV} {v:Value},Eg E E' bx N->Bs E E' n0 m0->Cc bx N n0 m0 d' d->Rv E d v->Rv E' d' v
 | .v y,E',n0,m0,d,v,hf,hl,h,hv=>by grind [Cc,Rv]
 | .ud,E',n0,m0,d,v,hf,hl,h,hv=>by grind [Cc,Rv]
 | .agg l',E',n0,m0,d,v,hf,hl,h,hv=>by
  simp only [Cc] at h;obtain ⟨l,rfl,h⟩:=h;unfold Rv at hv ⊢;obtain ⟨vs,h1,h2,h3⟩:=hv;exact ⟨vs,h1,CcL.sound hf hl h h2,h3⟩
 | .bW l',E',n0,m0,d,v,hf,hl,h,hv=>by
  simp only [Cc] at h;obtain ⟨l,rfl,h⟩:=h;unfold Rv at hv ⊢;obtain ⟨vs,h1,h2⟩:=hv;exact ⟨vs,h1,CcL.sound hf hl h h2⟩
 | .sl e es tk,E',n0,m0,d,v,hf,hl,h,hv=>by
  have hm:∀ b o,RvEs E.cl e b o es->RvEs E'.cl e b o es:=fun b o hr=>RvEs.mono (Ext.Bf hf.c) hr
  cases tk with
  | none=>
   simp only [Cc] at h;rcases h with ⟨rfl,rfl⟩ | ⟨tk',rfl⟩ | ⟨i,off,c,cs,rfl,hi,ch,Oi,wo,EO⟩ | ⟨SN,tk',rfl,h⟩
   ·have:=bn hv;subst this;unfold Rv;exact ⟨none,0,0,rfl,⟨rfl,zLeR _⟩,fun hn=>(hn rfl).elim,fun k hk=>by cases hk⟩
   ·unfold Rv at hv ⊢;obtain ⟨b,n,cap,h1,h2,h3,_⟩:=hv;exact ⟨b,n,cap,h1,h2,fun hn=>⟨(h3 hn).1,hm _ _ (h3 hn).2⟩,fun k hk=>by cases hk⟩
   ·obtain ⟨b,arr,hb,hc,hmm⟩:=hf.fz i cs hi ch;unfold Rv at hv ⊢;obtain ⟨b',ad,ef,Nr,rfl,hca⟩:=hv;rw [hb] at ef;simp only [oI] at ef;subst ef;refine ⟨ad,es.length,c,rfl,⟨rfl,Nr⟩,fun hn=>?_,fun k hk=>by cases hk⟩;have mF:0 < es.length:=List.length_pos_iff.2 hn;have Oa:=hca (by omega);subst Oa;refine ⟨rfl,?_⟩;have h1:=(hc.drop off).take (es.length * e);rw [<- Oi] at h1;refine rvEs_flat ⟨wZ (E':=E'.cl) (fun e b o es hr=>(RvEs.mono (Ext.Bf hf.c) hr:RvEs E'.cl e b o es)) EO h1.1,h1.2⟩ wo fun j u hj=>?_;rw [bM] at hj;split at hj
    ·rw [List.getElem?_drop] at hj;exact hmm (off + j) u hj
    ·cases hj
   ·have hlen:=CcE.length h;have hs:=fun b o=>CcE.sound (e:=e) (b:=b) (o:=o) hf h;unfold Rv at hv ⊢;obtain ⟨b,n,cap,h1,h2,h3,_⟩:=hv;refine ⟨b,n,cap,h1,by omega,fun hn=>?_,fun k hk=>by cases hk⟩
    grind
  | some k=>
   simp only [Cc] at h;obtain ⟨hk,rfl⟩:=h;unfold Rv at hv ⊢;obtain ⟨b,n,cap,h1,h2,h3,h4⟩:=hv;refine ⟨b,n,cap,h1,h2,fun hn=>⟨(h3 hn).1,hm _ _ (h3 hn).2⟩,fun k' fj=>?_⟩;cases fj;obtain ⟨e1,e2⟩:=hl.tk k hk;obtain ⟨q,h5,h6,h7⟩:=h4 k rfl
   grind
 | .pt cs' o,E',n0,m0,d,v,hf,hl,h,hv=>by
  simp only [Cc] at h;rcases h with rfl | ⟨i,cs,rfl,hi,ch,h⟩
  ·unfold Rv at hv ⊢;obtain ⟨b,p,h1,h2⟩:=hv;exact ⟨b,p,h1,RvAt.mono (Ext.Bf hf.c) h2⟩
  ·obtain ⟨b,arr,hb,hc,hm⟩:=hf.fz i cs hi ch;unfold Rv at hv ⊢;obtain ⟨b',ef,rfl⟩:=hv;rw [hb] at ef;simp only [oI] at ef;subst ef;refine ⟨b,0,by simp,?_⟩;have:=CcL.sound hf.cl (Bs.zero E E'.cl) h hc.1;exact uX ⟨this,hc.2⟩ fun j u hj=>by rw [Nat.zero_add];exact hm j u hj
 | .loc i o,E',n0,m0,d,v,hf,hl,h,hv=>by
  simp only [Cc] at h;obtain ⟨hi,rfl⟩:=h;unfold Rv at hv ⊢;obtain ⟨b,hb,h1⟩:=hv;exact ⟨b,hl.β i b hi hb,h1⟩
 | .el i o,E',n0,m0,d,v,hf,hl,h,hv=>by
  simp only [Cc] at h;obtain ⟨hi,rfl⟩:=h;unfold Rv at hv ⊢;obtain ⟨b,hb,h1⟩:=hv;exact ⟨b,hl.β i b hi hb,h1⟩
 | .ms i e o l c,E',n0,m0,d,v,hf,hl,h,hv=>by
  simp only [Cc] at h;obtain ⟨hi,rfl⟩:=h;unfold Rv at hv ⊢;obtain ⟨b,ad,hb,h1⟩:=hv;exact ⟨b,ad,hl.β i b hi hb,h1⟩
 | .fn f a' b',E',n0,m0,d,v,hf,hl,h,hv=>by
  simp only [Cc] at h;obtain ⟨a,b,rfl,ha,hb⟩:=h;unfold Rv at hv ⊢;obtain ⟨l,r,h1,h2,h3⟩:=hv;exact ⟨l,r,h1,CcL.sound hf hl ha h2,CcL.sound hf hl hb h3⟩
 | .lG t x',E',n0,m0,d,v,hf,hl,h,hv=>by
  simp only [Cc] at h;obtain ⟨x,rfl,hx⟩:=h;unfold Rv at hv ⊢;obtain ⟨z,h1,h2⟩:=hv;exact ⟨z,h1,Cc.sound hf hl hx h2⟩
theorem CcL.sound {bx:List (List DV)} {N:Nat} {E:En}:∀ {l':List DV} {E':En} {n0 m0:Nat} {l:List DV} {vs:List Value},Eg E E' bx N->Bs E E' n0 m0->CcL bx N n0 m0 l' l->RvL E l vs->RvL E' l' vs
 | [],E',n0,m0,l,vs,hf,hl,h,hv=>by grind [CcL,RvL]
 | d' :: r',E',n0,m0,l,vs,hf,hl,h,hv=>by
  simp only [CcL] at h;obtain ⟨d,r,rfl,h1,h2⟩:=h;simp only [RvL] at hv ⊢;obtain ⟨v,s,h3,h4,h5⟩:=hv;exact ⟨v,s,h3,Cc.sound hf hl h1 h4,CcL.sound hf hl h2 h5⟩
theorem VS.sound {bx:List (List DV)} {N:Nat} {E:En}:∀ {l':List DV} {E':En} {l:List DV} {b p:Nat},Eg E E' bx N->CcL bx N 0 0 l' l->RvAt E.cl b p l->RvAt E'.cl b p l'
 | [],E',l,b,p,hf,h,hv=>by simp only [RvAt]
 | d' :: r',E',l,b,p,hf,h,hv=>by
  simp only [CcL] at h;obtain ⟨d,r,rfl,h1,h2⟩:=h;simp only [RvAt] at hv ⊢;obtain ⟨⟨v,h3,h4,h5⟩,h6⟩:=hv;exact ⟨⟨v,hf.c _ _ h3,h4,Cc.sound hf.cl (Bs.zero E E'.cl) h1 (Rv.mono (Ext.Ii E) h5)⟩,VS.sound hf h2 h6⟩
theorem CcE.sound {bx:List (List DV)} {N:Nat} {E:En}:∀ {l':List (List DV)} {E':En} {l:List (List DV)} {e b o:Nat},Eg E E' bx N->CcE bx N l' l->RvEs E.cl e b o l->RvEs E'.cl e b o l'
 | [],E',l,e,b,o,hf,h,hv=>by simp only [RvEs]
 | a' :: r',E',l,e,b,o,hf,h,hv=>by
  simp only [CcE] at h;obtain ⟨a,r,rfl,h1,h2⟩:=h;simp only [RvEs] at hv ⊢;obtain ⟨h3,h4,h5⟩:=hv;refine ⟨?_,?_,CcE.sound hf h2 h5⟩
  ·grind [CcL.length]
  ·rcases h1 with rfl | h1
   ·exact RvAt.mono (Ext.Bf hf.c) h4
   ·exact VS.sound hf h1 h4
end
theorem J1 {E:En} {e:Nat} {es wj:List (List DV)} {tk:Option Nat} {v:Value} (h:CcE [] 0 wj es) (hv:Rv E (.sl e es tk) v):Rv E (.sl e wj tk) v:=by
 have hlen:=CcE.length h;have hs:=fun b o=>CcE.sound (E:=E) (E':=E) (bx:=[]) (N:=0) (e:=e) (b:=b) (o:=o) ⟨fun _ _ h=>h,fun i cs _ hi=>by simp at hi⟩ h
 grind [Rv]
theorem jw.get {bx:List (List DV)} {N n0 m0:Nat}:∀ {l' l:List (List DV)},jw bx N n0 m0 l' l->l'.length=l.length/\∀ (i:Nat) cs',l'[i]? = some cs' -> ∃ cs,l[i]? = some cs/\CcL bx N n0 m0 cs' cs
 | [],l,h=>by simp only [jw] at h;subst h;exact ⟨rfl,by simp⟩
 | a' :: r',l,h=>by
  simp only [jw] at h;obtain ⟨a,r,rfl,h1,h2⟩:=h;obtain ⟨h3,h4⟩:=jw.get h2
  grind
open Classical in
noncomputable def nW (E:En) (n:Nat) (w:World):Addr->Option Value:=
 fun a=>if ∃ i:Nat,n<=i/\E.β[i]? = some a.block then w.cell? a else E.c a
section
variable {X:Ctx} {E:En} {st:St} {a:Act} {w:World}
theorem dn {n:Nat} {x:Addr} {v:Value} (h:nW E n w x=some v):((∃ i:Nat,n<=i/\E.β[i]? = some x.block)/\w.cell? x=some v)∨E.c x=some v:=by
 unfold nW at h;split at h
 all_goals grind
theorem jD {bx:List (List DV)} (h:Env E bx w) {n:Nat} {x:Addr} {v:Value} (hx:E.c x=some v):nW E n w x=some v:=by
 unfold nW;split
 ·exact h.sub x v hx
 ·exact hx
theorem u4 (h:Rel X E st a w) {d d':DV} {os:List (List DV)} {v:Value} (hv:Rv E d v) (M:Nat) (hM:(X.fr=false/\M=X.m0)∨(X.fr=true/\M=st.tk.length)) (hd:Cc st.bx X.n0 X.n0 M d' d) (wV:jw st.bx X.n0 X.n0 M os (st.bx.take X.n0)) (hΦ:X.Φ d' os (st.tk.take M)):wN X.still X.E0 X.w0 X.Φ v w X.fr:=by
 obtain ⟨r,LB,S2⟩:=h.nw.β;have gj:E.β.take X.n0=X.E0.β:=by rw [LB,<- X.s8];simp
 have gF:∀ (i:Nat) b,i < X.n0->E.β[i]? = some b->X.E0.β[i]? = some b:=fun i b hi hb=>by grind
 have cE:∀ (i:Nat) b,X.n0<=i->E.β[i]? = some b->b∈r:=fun i b hi hb=>by grind
 have LD:∀ b,b∈X.E0.β->b∈r->False:=fun b h1 h2=>by
  have:=h.env.inj
  grind
 have hE0l:X.E0.τ.length=X.m0:=by rw [h.nw.l0,X.mv]
 have VT:X.m0<=E.tk.length:=by
  rcases Nat.lt_or_ge E.tk.length X.m0 with h1 | h1
  ·have hk:E.tk.length < X.E0.tk.length:=by rw [X.mv];exact h1
   have fj:E.tk.length < X.E0.τ.length:=by rw [h.nw.l0];exact hk
   obtain ⟨q',y',h2,_⟩:=h.nw.tk E.tk.length _ _ (gE hk) (gE fj)
   grind
  ·exact h1
 have hMm:X.m0<=M/\M<=E.tk.length:=by
  rcases hM with ⟨_,rfl⟩ | ⟨_,rfl⟩
  ·exact ⟨zLeR _,VT⟩
  ·rw [<- h.tk];exact ⟨VT,zLeR _⟩
 have Nu:VK X.fr (E.tk.take M).length X.E0.tk.length:=by
  rw [eQ];rcases hM with ⟨hf,rfl⟩ | ⟨hf,rfl⟩
  ·rw [hf];show min _ _=_;rw [X.mv];omega
  ·rw [hf];show _<=min _ _;rw [X.mv];omega
 let E':En:=⟨nW E X.n0 w,X.E0.β,E.tk.take M,E.τ.take M⟩
 have Ij:Eg E E' st.bx X.n0:={
  c:=fun x u hx=>jD h.env hx
  fz:=fun i cs hi ch=>by
   obtain ⟨b,ty,arr,hb,hw,hc⟩:=h.env.dm i cs ch;refine ⟨b,arr,hb,hc,fun j u hj=>?_⟩;show nW E X.n0 w ⟨b,j,none⟩=some u;unfold nW;rw [zIfP ⟨i,hi,hb⟩,bV hw]
   simpa using hj }
 have u5:Bs E E' X.n0 M:={
  β:=gF
  tk:=fun k hk=>⟨by show (E.tk.take M)[k]? = _;rw [bM,zIfP hk],by show (E.τ.take M)[k]? = _;rw [bM,zIfP hk]⟩ }
 obtain ⟨jr,Oj⟩:=wV.get;refine ⟨h.fr,h.sh,d',os,E',?_,rfl,Nu,?_,hd.sound Ij u5 hv,by show X.Φ d' os (E.tk.take M);rw [h.tk];exact hΦ⟩
 ·exact {
   len:=by
    show X.E0.β.length=os.length;rw [jr,X.s8,eQ]
    have:X.n0<=st.bx.length:=by
     rw [<- h.env.len,LB,List.length_append,X.s8];omega
    omega
   tl:=by simp only [E',eQ];rw [h.env.tl]
   dm:=fun i cs' hi=>by
    obtain ⟨cs,ch,pU⟩:=Oj i cs' hi;rw [bM] at ch;split at ch
    ·rename_i aq;obtain ⟨b,ty,arr,hb,hw,hc⟩:=h.env.dm i cs ch;exact ⟨b,ty,arr,gF i b aq hb,hw,CcL.sound Ij u5 pU hc.1,hc.2⟩
    ·cases ch
   inj:=by rw [<- gj];exact h.env.inj.sublist (List.take_sublist _ _)
   sub:=fun x u hx=>by
    rcases dn hx with ⟨_,h1⟩ | h1
    ·exact h1
    ·exact h.env.sub x u h1
   pc:=fun x u hx hm=>by
    rcases dn hx with ⟨⟨i,hi,hb⟩,_⟩ | h1
    ·exact LD _ hm (cE i _ hi hb)
    ·refine h.env.pc x u h1 ?_;rw [LB];exact List.mem_append.2 (.inl hm)
   bZ:=fun k q y hq hy=>by
    simp only [E',bM] at hq hy;split at hq
    ·rename_i hk;rw [zIfP hk] at hy;rcases h.env.bZ k q y hq hy with h1 | ⟨g,cap,cur,rfl,h1,h2,h3,h4,h5,h6⟩
     ·exact .inl h1
     ·refine .inr ⟨g,cap,cur,rfl,h1,⟨h2.1,h2.2.mono fun _ _ hx=>jD h.env hx⟩,h3,h4,fun hm=>h5 (by rw [LB];exact List.mem_append.2 (.inl hm)),fun x u hx hg=>?_⟩;rcases dn hx with ⟨⟨i,hi,hb⟩,_⟩ | h7
      all_goals grind
    ·cases hq
   gn:=fun k k' y y' g Ct hy fk=>by
    simp only [E',bM] at hy fk;split at hy
    ·split at fk
     ·exact h.env.gn k k' y y' g Ct hy fk
     ·cases fk
    ·cases hy }
 ·exact {
   c:=fun x u hx=>jD h.env (h.nw.c x u hx)
   cn:=fun x u hx=>by
    rcases dn hx with ⟨⟨i,hi,hb⟩,_⟩ | h1
    ·exact .inr (.inl (S2 _ (cE i _ hi hb)))
    ·exact h.nw.cn x u h1
   β:=⟨[],by simp [E'],by simp⟩
   tk:=fun k q y hq hy=>by
    obtain ⟨q',y',h1,h2,h3⟩:=h.nw.tk k q y hq hy
    grind
   tn:=fun k y g hk hy hg=>by
    simp only [E',bM] at hy;split at hy
    ·exact h.nw.tn k y g hk hy hg
    ·cases hy
   l0:=h.nw.l0 }
def resOf (tmps:Array Value):ResultVar->Sem Value
 | .tmp t=>pure (tmps.getD t undef)
 | .cell x t=>do loadVar t (<- asAddr (tmps.getD x undef))
theorem qF (fn:Func) (tmps:Array Value):results fn tmps=(do let vs <- fn.results.mapM (resOf tmps);pure (if h:vs.size=1 then vs[0] else .tuple vs)):=by
 unfold results;congr 2
theorem zk (h:Rel X E st a w) {r:ResultVar} {d:DV} (hr:res1 X.T st r=some d):∃ v,Rv E d v/\(resOf a.tmps r).run X.P w = .ok v w:=by
 cases r with
 | tmp t=>
  simp only [res1] at hr;split at hr
  ·rename_i x hg;simp only [oI] at hr;subst hr;obtain ⟨v,h1,h2⟩:=(h.tm t _ hg).1 (aM _);exact ⟨v,h2,by simp [resOf,Array.getD_eq_getD_getElem?,h1]⟩
  ·cases hr
 | cell x t=>
  simp only [res1] at hr;split at hr
  ·rename_i i off hg;split at hr
   ·rename_i cs ch;obtain ⟨v,h1,h2⟩:=(h.tm x _ hg).1 (aM _);unfold Rv at h2;obtain ⟨b,hb,rfl⟩:=h2;obtain ⟨b',zb,arr,ef,hw,hc⟩:=h.env.dm i cs ch;rw [hb] at ef;simp only [oI] at ef;subst ef;obtain ⟨v,hv,hl⟩:=jx X.hT hc (b:=b) (p:=0) hr;have hl:=hl w fun j u hj=>by rw [bV hw];simpa using hj
    rw [Nat.zero_add] at hl;exact ⟨v,hv,by simp only [resOf,Array.getD_eq_getD_getElem?,h1,Option.getD_some,asAddr,Sem.run_bind,Sem.run_pure,Result.andThen_ok,hl]⟩
   ·cases hr
  ·cases hr
theorem hU (h:Rel X E st a w):∀ {rs:List ResultVar} {ds:List DV},resD X.T st rs=some ds->∃ vs,RvL E ds vs/\(rs.mapM (resOf a.tmps)).run X.P w = .ok vs w
 | [],ds,hr=>by
  simp only [resD,oI] at hr;subst hr;exact ⟨[],bU E,rfl⟩
 | r :: rs,ds,hr=>by
  simp only [resD] at hr;split at hr
  ·rename_i d l hd hl;simp only [oI] at hr;subst hr;obtain ⟨v,hv,h1⟩:=zk h hd;obtain ⟨vs,nU,h2⟩:=hU h hl;refine ⟨v :: vs,rvL_cons hv nU,?_⟩
   simp_all
  ·cases hr
theorem lN (h:Rel X E st a w) {d:DV} {v:Value} (hv:Rv E d v) (hf:finD X st d):wN X.still X.E0 X.w0 X.Φ v w X.fr:=by
 unfold finD at hf;split at hf
 ·grind [u4]
 ·rename_i hfr;split at hf
  ·rename_i hn hm
   have key:∀ d',Cc st.bx 0 0 0 d' d->X.Φ d' [] []->wN X.still X.E0 X.w0 X.Φ v w X.fr:=fun d' hd hΦ=>
    u4 h hv (d':=d') (os:=[]) X.m0 (.inl ⟨hfr,rfl⟩) (by rw [hn,hm];exact hd) (by rw [hn];simp [jw]) (by rw [hm];exact hΦ)
   grind [Cc]
  ·grind [u4]
theorem tq (h:Rel X E st a w) (hf:fin X st):kq X [] .ret a w:=by
 have pB:X.fn.results=X.rs.toArray:=by rw [<- X.qu]
 simp only [kq];refine ⟨h.df,?_⟩
 have hbt:lk X.bt X.E0.β w:=fun p hp b hb=>by
  obtain ⟨r,hr,_⟩:=h.nw.β;exact h.bt p hp b (by rw [hr,dG (gS hb).1];exact hb)
 unfold fin at hf
 have qG:∀ (ds:List DV) (vs:List Value),(X.rs.mapM (resOf a.tmps)).run X.P w = .ok vs w->(results X.fn a.tmps).run X.P w = .ok (if h:vs.toArray.size=1 then vs.toArray[0] else .tuple vs.toArray) w:=by
  intro ds vs hv;rw [qF,pB]
  simp_all
 split at hf
 ·rename_i hr;obtain ⟨vs,nU,h1⟩:=hU h hr;simp only [RvL] at nU;subst nU;exact ⟨_,qG [] [] h1,lN h (v:=.tuple #[]) (by unfold Rv;exact ⟨[],rfl,bU E⟩) hf,hbt⟩
 ·rename_i d hr;obtain ⟨vs,nU,h1⟩:=hU h hr;have hl:=nU.length;simp only [RvL] at nU;obtain ⟨v,s,rfl,hv,rfl⟩:=nU;exact ⟨_,qG [d] [v] h1,lN h (v:=v) hv hf,hbt⟩
 ·rename_i d e l hr;obtain ⟨vs,nU,h1⟩:=hU h hr;have hl:=nU.length;have bd:¬ vs.toArray.size=1:=by simp at hl ⊢;omega
  have h2:=qG [] vs h1;rw [dif_neg bd] at h2;exact ⟨_,h2,lN h (v:=.tuple vs.toArray) (by unfold Rv;exact ⟨vs,rfl,nU⟩) hf,hbt⟩
 ·exact hf.elim
theorem qH:∀ (k:List It) (a:Act) (w:World),kq X [] .ret a w->kq X k .ret a w
 | [],_,_,h=>h
 | .code _ :: k,a,w,h=>qH k a w h
 | .ops _ _ :: k,a,w,h=>qH k a w h
 | .wM _ :: k,a,w,h=>qH k a w h
 | .yX _ :: k,a,w,h=>qH k a w h
theorem mI {id:Nat}:∀ (k k':List It) (a:Act) (w:World),dropBlk id k=some k' -> kq X k' .normal a w->kq X k (.exit id) a w
 | [],k',a,w,hd,_=>by simp [dropBlk] at hd
 | .code _ :: k,k',a,w,hd,h=>by simp only [dropBlk] at hd;exact mI k k' a w hd h
 | .ops _ _ :: k,k',a,w,hd,h=>by simp only [dropBlk] at hd;exact mI k k' a w hd h
 | .yX _ :: k,k',a,w,hd,h=>by simp only [dropBlk] at hd;exact mI k k' a w hd h
 | .wM i :: k,k',a,w,hd,h=>by
  simp only [dropBlk] at hd;split at hd
  ·simp_all [kq]
  ·rename_i hi
   have hi:id≠i:=by
    rintro rfl;rw [Nat.beq_refl] at hi;cases hi
   simp only [kq];rw [ah hi];exact mI k k' a w hd h
theorem CA {P:Program} {o:Oper} {a:Act} {K K':Act->World->Prop} {Q Q':Exit->Act->World->Prop} (hK:∀ a w,K a w->K' a w) (hQ:∀ e a w,Q e a w->Q' e a w)
  {r:Result Next} (h:o.upon P a K Q r):o.upon P a K' Q' r:=by
 unfold Oper.upon at *;split<;>simp_all
 ·refine h.mono ?_;intro e w' hq
  cases e with
  | returned v=>exact hK _ _ hq
  | panicked c=>exact hQ _ _ _ hq
  | outgrown=>obtain ⟨a,w,hq⟩:=hq;exact ⟨a,w,hQ _ _ _ hq⟩
 ·exact h.mono fun v w' hq=>hK _ _ hq
theorem w7 {P:Program} {o:Oper} {a:Act} {K K':Act->World->Prop} {Q Q':Exit->Act->World->Prop} {w:World} (hK:∀ a w,K a w->K' a w) (hQ:∀ e a w,Q e a w->Q' e a w)
  (h:o.wp P a w K Q):o.wp P a w K' Q':=CA hK hQ h
theorem mJ {l:Nat}:∀ (k:List It) (a:Act) (w:World),kq X k (.goto l) a w->False
 | [],a,w,h=>by simp [kq] at h
 | .code _ :: k,a,w,h=>mJ k a w (by simpa only [kq] using h)
 | .ops _ _ :: k,a,w,h=>mJ k a w (by simpa only [kq] using h)
 | .wM _ :: k,a,w,h=>mJ k a w (by simpa only [kq] using h)
 | .yX _ :: k,a,w,h=>mJ k a w (by simpa only [kq] using h)
theorem EV (k:List It) (e:Exit) (a:Act) (w:World) (h:kq X k e a w):Exit.noGoto (kq X k) e a w:=by
 cases e with
 | goto l=>exact (mJ k a w h).elim
 | _=>exact h
theorem c7 (c:Code) (k:List It) (a:Act) (w:World):kq X (.code c :: k) .normal a w=c.wp X.P (kq X k) a w:=rfl
theorem Ik (c:Code) (k:List It):kq X (.code c :: k)=Exit.then (c.wp X.P (kq X k)) (kq X k):=by
 funext e a w;cases e<;>rfl
theorem LF (id:Nat) (k:List It) (e:Exit) (a:Act) (w:World) (h:kq X (.wM id :: k) e a w):Exit.inBlock id (kq X k) e a w:=by
 cases e<;>exact h
theorem wanted_spec (h:Rel X E st a w) {all:Array Oper} {o:Oper} {j d:Nat} {want:Bool} {jq:List (Nat × Bool)} {sd:DV} (Il:o.guard=some (j,want)) (Cr:gslot all.toList j=some d) (J2:get st.sl d=some ⟨jq,sd⟩) :
  Region.wanted o (yielded all a.tmps)=true↔Holds a.tmps ((d,want) :: jq):=by
 have LG:yielded all a.tmps j=match a.tmps[d]? with | some (.bool b)=>some b | _=>none:=by
  unfold gslot at Cr;split at Cr
  ·rename_i oj hoj;have S3:all[j]? = some oj:=sU hoj;simp only [yielded,S3,Cr,Option.bind_some]
   grind
  ·cases Cr
 have htd:=h.tm d _ J2;simp only [Region.wanted,Il,LG];constructor
 ·intro hw;have hb:a.tmps[d]? = some (.bool want):=by grind
  refine gW hb ?_;by_cases hh:Holds a.tmps jq
  ·exact hh
  ·have:=htd.2 hh;rw [hb] at this;simp [undef] at this
 ·intro hh;have:=hh (d,want) (by simp);simp only at this;rw [this];simp
theorem w9 (h:Rel X E st a w) {t:Nat} {b:Bool} (hg:get st.sl t=some ⟨[],.v (.bool b)⟩):a.tmps[t]? = some (.bool b):=by
 obtain ⟨v,h1,h2⟩:=(h.tm t _ hg).1 (aM _);rw [h1,gY h2]
theorem EW (h:Rel X E st a w) {t:Nat} (hg:get st.sl t=some ⟨[],.ud⟩):a.tmps[t]? = some undef:=by
 obtain ⟨v,h1,h2⟩:=(h.tm t _ hg).1 (aM _);unfold Rv at h2;rw [h1,h2]
theorem qI {G:List (Nat × Bool)} {dst:Option Nat} (ei:SO G dst=true):∀ e,dst=some e->∀ p∈G,p.1≠e:=by
 intro e he p hp cH;rw [he] at ei;have:=(List.all_eq_true.1 ei) p hp;rw [cH] at this;simp at this
theorem go_sound:∀ n,VQ X (go X n)
 | 0=>fun k st hg=>hg.elim
 | n + 1=>by
  have ih:=go_sound n;intro k st hg E a w h
  match k with
  | []=>exact tq h (by simpa [go] using hg)
  | .wM id :: k=>exact ih k st (by simpa [go] using hg) E a w h
  | .yX J :: k=>exact ⟨st,E,h,by simpa [go] using hg⟩
  | .ops all [] :: k=>exact ih k st (by simpa [go] using hg) E a w h
  | .ops all (o :: r) :: k=>
   simp only [go,kP,Be] at hg;split at hg
   ·exact hg.elim
   ·rename_i hd;split at hg
    ·rename_i Il;simp only [kq,wpList,Region.wanted,Il,if_true];split at hg
     ·rename_i s hs;obtain ⟨v,hv,bO⟩:=fu X.hT h.rl (aM _) hs;exact .inl (iU (bO w fun _=>rfl) (ih _ _ hg E _ w (bi h hd s v hv)))
     ·exact .inl (w7 (fun a w hk=>hk) (fun e a w hq=>hq.elim) (tp ih hd h hg))
    ·rename_i j want Il;split at hg
     ·exact hg.elim
     ·rename_i d Cr;split at hg
      ·exact hg.elim
      ·rename_i jq sd J2;have qJ:=wanted_spec h Il Cr J2;simp only [kq,wpList];split at hg
       ·rename_i s hs;split at hg
        case h_2=>exact hg.elim
        rename_i ei;split
        ·rename_i hw;have hh:=qJ.1 hw;obtain ⟨v,hv,bO⟩:=fu X.hT h.rl hh hs;exact .inl (iU (bO w fun _=>rfl) (ih _ _ hg E _ w (mD h hd _ s v (qI ei) (fun _=>hv) (fun hn=>(hn hh).elim))))
        ·rename_i hw;have hh:¬ Holds a.tmps ((d,want) :: jq):=fun hh=>hw (qJ.2 hh);exact ih _ _ hg E _ w (mD h hd _ s undef (qI ei) (fun hn=>(hh hn).elim) (fun _=>rfl))
       ·split at hg
        ·rename_i b gj;have ht0:=w9 h gj
         cases jq with
         | nil=>
          simp only [lastG] at gj ht0;cases Bt:(b == want)
          ·have zl:b = !want:=by cases b<;>cases want<;>simp_all
           have hg:=hg.f Bt
           have hn:¬ Region.wanted o (yielded all a.tmps)=true:=by
            intro hw;have:=(qJ.1 hw) (d,want) (by simp)
            grind
           rw [ah hn];have hr:=iy (d:=d) (b:=!want) h (by rw [ht0,zl]);exact ih _ _ hg E _ w (bi hr (iz hd) .ud undef (oU E))
          ·have EY:b=want:=sU Bt;have hg:=hg.t Bt;subst EY;have hw:Region.wanted o (yielded all a.tmps)=true:=qJ.2 (gW ht0 (aM _));rw [zIfP hw];have hr:=iy (d:=d) (b:=b) h ht0;exact .inl (w7 (fun a w hk=>hk) (fun e a w hq=>hq.elim) (tp ih (iz hd) hr hg))
         | cons g1 gr=>
          have key:∀ c,a.tmps[(lastG (d,want) (g1 :: gr)).1]? = some (.bool c)->go X n (.ops all (o :: r) :: k) (st.resolve (lastG (d,want) (g1 :: gr)).1 c)->wpList X.P all (kq X k) (o :: r) a w:=
           fun c hc qE=>ih _ _ qE E a w (iy h hc)
          cases Bt:(b == (lastG (d,want) (g1 :: gr)).2)
          ·have hg:=hg.f Bt;have zl:b = !(lastG (d,want) (g1 :: gr)).2:=by cases b<;>cases h0:(lastG (d,want) (g1 :: gr)).2<;>simp_all
           have:=key _ (by rw [ht0,zl]) hg;simpa [wpList] using this
          ·have hg:=hg.t Bt;have EY:b=(lastG (d,want) (g1 :: gr)).2:=sU Bt;have:=key _ (by rw [ht0,EY]) hg;simpa [wpList] using this
        ·rename_i gj
         cases jq with
         | nil=>
          have ht0:=EW h gj;simp only [lastG] at ht0
          have hn:¬ Region.wanted o (yielded all a.tmps)=true:=by
           intro hw;have:=(qJ.1 hw) (d,want) (by simp);simp only at this;rw [ht0] at this;simp [undef] at this
          rw [ah hn];exact ih _ _ hg E _ w (bi h hd .ud undef (oU E))
         | cons g1 gr=>exact hg.elim
        ·exact hg.elim
  | .code c :: k=>
   rw [c7]
   cases c with
   | skip=>exact wp_skip (ih k st (by simpa [go] using hg) E a w h)
   | seq x y=>
    have:=ih (.code x :: .code y :: k) st (by simpa [go] using hg) E a w h;rw [c7,Ik] at this;exact wp_seq this
   | block id b=>
    have:=ih (.code b :: .wM id :: k) st (by simpa [go] using hg) E a w h;rw [c7] at this;exact wp_block (wp_mono this (LF id k))
   | exit id=>
    simp only [go] at hg;split at hg
    ·rename_i k' hk;exact wp_exit (mI k k' a w hk (ih k' st hg E a w h))
    ·exact hg.elim
   | cond x p q=>
    simp only [go] at hg;split at hg
    ·rename_i b hb;refine wp_cond (t:=b) (by rw [gY (aP h.rl hb)]) ?_;cases gj:b
     ·exact ih (.code q :: k) st (hg.f gj) E a w h
     ·exact ih (.code p :: k) st (hg.t gj) E a w h
    ·exact hg.elim
   | region id ops d=>
    simp only [go] at hg;cases d
    ·exact wp_region_list (ih (.ops ops ops.toList :: k) st hg E a w h)
    ·exact hg E a w h
   | loop b=>exact (by simpa [go] using hg:oT X b k st) E a w h
   | ret=>exact wp_ret (qH k a w (tq h (by simpa [go] using hg)))
   | scope c=>
    have:=ih (.code c :: k) st (by simpa [go] using hg) E a w h;rw [c7] at this;exact wp_scope_straight (wp_mono this (EV k))
   | label l=>exact wp_label (ih k st (by simpa [go] using hg) E a w h)
   | _=>simp [go] at hg
theorem xa {fn:Func} (pB:X.fn=fn) (e:Exit) (a:Act) (w:World) (h:kq X [] e a w):bodyPost X.P fn (fun e w'=>∃ v,e = .returned v/\wN X.still X.E0 X.w0 X.Φ v w' X.fr/\lk X.bt X.E0.β w') e a w:=by
 subst pB
 cases e with
 | normal=>obtain ⟨h1,v,h2,h3⟩:=h;exact ⟨h1,v,h2,v,rfl,h3⟩
 | ret=>obtain ⟨h1,v,h2,h3⟩:=h;exact ⟨h1,v,h2,v,rfl,h3⟩
 | exit _=>exact h.elim
 | goto _=>exact h.elim
 | panic _=>exact h.elim
 | outgrown=>exact h.elim
end
def Nv (s:Bool) (P:Program) (f:FuncId) (args:List DV) (os:List (List DV)) (bZ:List TkE) (Φ:DV->List (List DV)->List TkE->Prop) (fr:Bool:=false):Prop:=
 ∀ (E:En) (w:World) (vs:List Value),Env E os w->E.tk=bZ->RvL E args vs->Calls P f vs.toArray w fun e w'=>∃ v,e = .returned v/\wN s E w Φ v w' fr
def Ev (P:Program) (f:FuncId) (args:List DV) (os:List (List DV)) (bZ:List TkE) (Φ:DV->List (List DV)->List TkE->Prop):Prop:=Nv false P f args os bZ Φ
def VU (P:Program) (f:FuncId) (args:List DV) (os:List (List DV)) (bZ:List TkE) (Φ:DV->List (List DV)->List TkE->Prop):Prop:=Nv true P f args os bZ Φ
def aV (P:Program) (f:FuncId) (args:List DV) (d:DV):Prop:=Ev P f args [] [] fun d' _ _=>d'=d
def argSl:Nat->List DV->List (Nat × Sl)
 | _,[]=>[]
 | i,v :: r=>(i,⟨[],v⟩) :: argSl (i + 1) r
theorem tu:∀ (l:List DV) (i j:Nat) (x:Sl),get (argSl i l) j=some x->∃ v,x=⟨[],v⟩/\i<=j/\l[j - i]? = some v
 | [],_,_,_,h=>by simp [argSl,get] at h
 | v :: r,i,j,x,h=>by
  simp only [argSl,cp] at h;split at h
  ·grind
  ·rename_i wm;obtain ⟨u,hu,fL,hg⟩:=tu r (i + 1) j x h
   grind
theorem Nw.refl {E:En} {bx:List (List DV)} {w:World} (h:Env E bx w):Nw E E w where
 c:=fun _ _ h=>h
 cn:=fun _ _ h=>.inl h
 β:=⟨[],by simp,by simp⟩
 tk:=fun k q y hq hy=>⟨q,y,hq,hy,rfl,rfl,.inl ⟨rfl,rfl⟩,.inl rfl⟩
 tn:=fun k y g hk hy=>by
  have:=(gS hy).1;rw [h.tl] at this;omega
 l0:=h.tl
def S4 (s:Bool) (P:Program) (f:FuncId) (args:List DV) (os:List (List DV)) (bZ:List TkE) (bt:List (Nat × TypeId)) (Φ:DV->List (List DV)->List TkE->Prop) (fr:Bool:=false):Prop:=
 ∀ (E:En) (w:World) (vs:List Value),Env E os w->E.tk=bZ->lk bt E.β w->RvL E args vs->Calls P f vs.toArray w fun e w'=>∃ v,e = .returned v/\wN s E w Φ v w' fr/\lk bt E.β w'
theorem Im {s:Bool} {P:Program} {f:FuncId} {fn:Func} {c:Code} {args:List DV} {os:List (List DV)} {bZ:List TkE} {Φ:DV->List (List DV)->List TkE->Prop} (bt:List (Nat × TypeId)) (mu:List Nat) (fr:Bool) (T:TT) (hT:T.ok P=true) (n nt:Nat) (rs:List ResultVar)
  (hf:P.funcs[f]? = some fn) (hb:fn.body=some c) (zm:fn.ntmps=nt) (qu:fn.results.toList=rs) (hlen:args.length<=nt)
  (h:∀ (E:En) (w:World) (hn:E.β.length=os.length) (hm:E.tk.length=bZ.length),go ⟨P,T,hT,fn,nt,rs,qu,w,E,os.length,bZ.length,hn,hm,s,Φ,bt,mu,fr⟩ n [.code c] ⟨argSl 0 args,os,bZ⟩):S4 s P f args os bZ bt Φ fr:=by
 intro E w vs hE nF gj hv;have hl:=hv.length;have hg:=h E w hE.len (by rw [nF]);refine calls_of_wp hf hb ?_
 have hs:=go_sound (X:=⟨P,T,hT,fn,nt,rs,qu,w,E,os.length,bZ.length,hE.len,by rw [nF],s,Φ,bt,mu,fr⟩) n _ _ hg E
  {tmps:=vs.toArray ++ Array.replicate (fn.ntmps - vs.toArray.size) undef,defers:=[] } w
  {env:=hE
   tk:=nF
   sz:=by simp [zm];omega
   tm:=by
    intro i x hx;obtain ⟨d,rfl,_,hd⟩:=tu args 0 i x hx;simp only [Nat.sub_zero] at hd;obtain ⟨v,pT,Cs⟩:=hv.get hd
    grind [aM]
   df:=rfl
   nw:=Nw.refl hE
   fr:=⟨rfl,rfl,rfl,zLeR _,fun _ _ _=>rfl⟩
   sh:=fun _=>⟨0,rfl⟩
   bt:=gj }
 exact wp_mono hs (xa rfl)
theorem u6 {s:Bool} {P:Program} {f:FuncId} {fn:Func} {c:Code} {args:List DV} {os:List (List DV)} {bZ:List TkE} {Φ:DV->List (List DV)->List TkE->Prop} (bt:List (Nat × TypeId)) (mu:List Nat) (hbt:∀ p∈bt,os.length<=p.1) (fr:Bool) (T:TT) (hT:T.ok P=true) (n nt:Nat) (rs:List ResultVar)
  (hf:P.funcs[f]? = some fn) (hb:fn.body=some c) (zm:fn.ntmps=nt) (qu:fn.results.toList=rs) (hlen:args.length<=nt)
  (h:∀ (E:En) (w:World) (hn:E.β.length=os.length) (hm:E.tk.length=bZ.length),go ⟨P,T,hT,fn,nt,rs,qu,w,E,os.length,bZ.length,hn,hm,s,Φ,bt,mu,fr⟩ n [.code c] ⟨argSl 0 args,os,bZ⟩):Nv s P f args os bZ Φ fr:=fun E w vs hE nF hv=>(Im bt mu fr T hT n nt rs hf hb zm qu hlen h E w vs hE nF (fun p hp b hb=>by
  have h1:=hbt p hp;have h2:=(gS hb).1;have h3:=hE.len
  omega) hv).mono fun _ _ ⟨v,h1,h2,_⟩=>⟨v,h1,h2⟩
theorem Io {s:Bool} {P:Program} {f:FuncId} {fn:Func} {c:Code} {args:List DV} {os:List (List DV)} {bZ:List TkE} {Φ:DV->List (List DV)->List TkE->Prop} (bt:List (Nat × TypeId)) (hbt:∀ p∈bt,os.length<=p.1) (T:TT) (hT:T.ok P=true) (n nt:Nat) (rs:List ResultVar)
  (hf:P.funcs[f]? = some fn) (hb:fn.body=some c) (zm:fn.ntmps=nt) (qu:fn.results.toList=rs) (hlen:args.length<=nt)
  (h:∀ (E:En) (w:World) (hn:E.β.length=os.length) (hm:E.tk.length=bZ.length),go ⟨P,T,hT,fn,nt,rs,qu,w,E,os.length,bZ.length,hn,hm,s,Φ,bt,[],false⟩ n [.code c] ⟨argSl 0 args,os,bZ⟩):Nv s P f args os bZ Φ:=
 u6 bt [] hbt false T hT n nt rs hf hb zm qu hlen h
theorem EZ {s:Bool} {P:Program} {f:FuncId} {fn:Func} {c:Code} {args:List DV} {os:List (List DV)} {bZ:List TkE} {Φ:DV->List (List DV)->List TkE->Prop} (T:TT) (hT:T.ok P=true) (n nt:Nat) (rs:List ResultVar)
  (hf:P.funcs[f]? = some fn) (hb:fn.body=some c) (zm:fn.ntmps=nt) (qu:fn.results.toList=rs) (hlen:args.length<=nt)
  (h:∀ (E:En) (w:World) (hn:E.β.length=os.length) (hm:E.tk.length=bZ.length),go ⟨P,T,hT,fn,nt,rs,qu,w,E,os.length,bZ.length,hn,hm,s,Φ,[],[],false⟩ n [.code c] ⟨argSl 0 args,os,bZ⟩):Nv s P f args os bZ Φ:=
 Io [] (fun p hp=>by cases hp) T hT n nt rs hf hb zm qu hlen h
theorem Ol {P:Program} {f:FuncId} {fn:Func} {c:Code} {args:List DV} {os:List (List DV)} {bZ:List TkE} {Φ:DV->List (List DV)->List TkE->Prop} (T:TT) (hT:T.ok P=true) (n nt:Nat) (rs:List ResultVar)
  (hf:P.funcs[f]? = some fn) (hb:fn.body=some c) (zm:fn.ntmps=nt) (qu:fn.results.toList=rs) (hlen:args.length<=nt)
  (h:∀ (E:En) (w:World) (hn:E.β.length=os.length) (hm:E.tk.length=bZ.length),go ⟨P,T,hT,fn,nt,rs,qu,w,E,os.length,bZ.length,hn,hm,false,Φ,[],[],false⟩ n [.code c] ⟨argSl 0 args,os,bZ⟩):Ev P f args os bZ Φ:=
 EZ T hT n nt rs hf hb zm qu hlen h
theorem Ev.mono {P:Program} {f:FuncId} {args:List DV} {os:List (List DV)} {bZ:List TkE} {Φ Ψ:DV->List (List DV)->List TkE->Prop} (h:Ev P f args os bZ Φ) (hΦ:∀ d o t,Φ d o t->Ψ d o t):Ev P f args os bZ Ψ:=by
 intro E w vs h1 h2 h3;refine (h E w vs h1 h2 h3).mono ?_;rintro e w' ⟨v,rfl,h4,hs,d,o,E',h5,h6,h7,h8,h9,ti⟩;exact ⟨v,rfl,h4,hs,d,o,E',h5,h6,h7,h8,h9,hΦ _ _ _ ti⟩
theorem Ev.Om {P:Program} {f:FuncId} {args:List DV} {os:List (List DV)} {bZ:List TkE} {Φ:DV->List (List DV)->List TkE->Prop} {bt:List (Nat × TypeId)} (h:Ev P f args os bZ Φ) (hb:bt=[]):S4 false P f args os bZ bt Φ:=fun E w vs h1 h2 _ h4=>
 (h E w vs h1 h2 h4).mono fun _ _ ⟨v,h5,h6⟩=>⟨v,h5,h6,.nil hb⟩
theorem br {b:Bool} {A B:Prop} (h1:b=true->A) (h2:b=false->B):@Bool.rec (fun _=>Prop) B A b:=by
 cases b
 ·exact h2 rfl
 ·exact h1 rfl
section
variable {X:Ctx} {st:St} {k:List It} {E:En} {a:Act} {w:World}
theorem CB (h:Rel X E st a w) (hst:X.still=false) {E2:En} {w':World} (hm:mr (E.cl).S w w') (he:Env E2 [] w') (hn:Nw E.cl E2 w):Rel X ⟨E2.c,E.β,E.tk,E.τ⟩ st a w':=by
 have hh:∀ i,i < w.heap.size->w'.heap[i]? = w.heap[i]?:=fun i hi=>hm.block i hi (by
  rintro (h1 | ⟨y,h1,_⟩)
  ·simp [En.cl] at h1
  ·simp [En.cl] at h1)
 have cE:∀ x v,E2.c x=some v->E.c x=some v∨w.heap.size<=x.block:=fun x v hx=>by
  rcases hn.cn x v hx with h1 | h1 | ⟨y,h1,_⟩
  ·exact .inl h1
  ·exact .inr h1
  ·simp [En.cl] at h1
 have hx:Ext E ⟨E2.c,E.β,E.tk,E.τ⟩:=⟨hn.c,fun _ _ h=>h,fun _ q h=>⟨q,h,.inl ⟨rfl,rfl⟩⟩⟩;have hk:=h.env.fv hh;refine cv h hx ?_ h.tk ?_ (h.fr.bN hm.os hm.tape hm.output hm.size fun i hi=>.inr (hh i hi)) (ll hst) (h.bt.fv fun b hb=>hh b (h.env.aQ hb))
 ·exact {
   len:=h.env.len
   tl:=h.env.tl
   dm:=fun i cs hi=>by
    obtain ⟨b,ty,arr,hb,hw,hc⟩:=hk.dm i cs hi;exact ⟨b,ty,arr,hb,hw,hc.mono hx⟩
   inj:=h.env.inj
   sub:=he.sub
   pc:=fun x v hc jZ=>by
    rcases cE x v hc with h1 | h1
    ·exact h.env.pc x v h1 jZ
    ·have:=h.env.aQ jZ;omega
   bZ:=fun k q y hq hy=>by
    rcases hk.bZ k q y hq hy with h1 | ⟨g',cap,cur,rfl,h1,h2,h3,h4,h5,h6⟩
    ·exact .inl h1
    ·refine .inr ⟨g',cap,cur,rfl,h1,⟨h2.1,h2.2.mono hn.c⟩,h3,h4,h5,fun x v hc hg=>?_⟩;rcases cE x v hc with h7 | h7
     ·exact h6 x v h7 hg
     ·have:=(fw (h.env.bZ k q _ hq hy) (g:=g') rfl).1;omega
   gn:=h.env.gn }
 ·exact {
   c:=fun x v hc=>hn.c x v (h.nw.c x v hc)
   cn:=fun x v hc=>by
    rcases cE x v hc with h1 | h1
    ·exact h.nw.cn x v h1
    ·have:=h.fr.size;exact .inr (.inl (by omega))
   β:=h.nw.β
   tk:=h.nw.tk
   tn:=h.nw.tn
   l0:=h.nw.l0 }
theorem zn {bx:List (List DV)} (h:Env E bx w):Env E.cl [] w where
 len:=rfl
 tl:=rfl
 dm:=by simp
 inj:=List.nodup_nil
 sub:=h.sub
 pc:=by simp [En.cl]
 bZ:=by simp [En.cl]
 gn:=by simp [En.cl]
theorem oY {P:Program} (h:Rel X E st a w) (hst:X.still=false) {f:FuncId} {args ba:List DV} {vs:List Value} {Φ:DV->List (List DV)->List TkE->Prop} (hc:Ev P f ba [] [] Φ) (ha:CcL [] 0 0 0 ba args) (hv:RvL E args vs) :
  Calls P f vs.toArray w fun e w'=>∃ v E' d,e = .returned v/\Rel X E' st a w' /\ Rv E' d v/\Φ d [] []/\mr E.cl.S w w' /\ Ext E E' /\ E'.β=E.β:=by
 have Lf:RvL E.cl ba vs:=CcL.sound (E:=E) (E':=E.cl) ⟨fun _ _ h=>h,fun i cs _ hi=>by simp at hi⟩ (Bs.zero _ _) ha hv;refine (hc E.cl w vs (zn h.env) rfl Lf).mono ?_;rintro e w' ⟨v,rfl,hm,_,d,os,E2,he,hβ,nF,hn,LH,hΦ⟩
 have wV:os=[]:=by
  have:=he.len;rw [hβ] at this;exact List.eq_nil_of_length_eq_zero this.symm
 subst wV;have ht0:E2.tk=[]:=List.eq_nil_of_length_eq_zero nF;refine ⟨v,⟨E2.c,E.β,E.tk,E.τ⟩,d,rfl,CB h hst hm he hn,?_,by rw [ht0] at hΦ;exact hΦ,hm,⟨hn.c,fun _ _ h=>h,fun _ q h=>⟨q,h,.inl ⟨rfl,rfl⟩⟩⟩,rfl⟩;refine Rv.mono (E:=E2) (E':=⟨E2.c,E.β,E.tk,E.τ⟩) ⟨fun _ _ h=>h,fun i b hb=>?_,fun k q hq=>?_⟩ LH
 ·rw [hβ] at hb;simp [En.cl] at hb
 ·rw [ht0] at hq;simp at hq
theorem gp {f:FuncId} {args ba:List DV} {d:Nat} (iV:Enters X.P f) (hd:eL X.nt st.sl (some d)=true) {Φ:DV->List (List DV)->List TkE->Prop} (hc:Ev X.P f ba [] [] Φ) (ha:CcL [] 0 0 0 ba args)
  (hk:∀ r,Φ r [] []->go X 4000 k ⟨(d,⟨[],r⟩) :: st.sl,st.bx,st.tk⟩) (hst:X.still=false:=by exact rfl):CallG X f args (some d) k st:=by
 refine ⟨iV,hst,fun E a w vs h hv=>(oY h hst hc ha hv).mono ?_⟩;rintro e w' ⟨v,E',r,rfl,bD,hr,hΦ,_⟩;exact go_sound 4000 _ _ (hk r hΦ) E' _ w' (bi bD hd r v hr)
theorem E4 {f:FuncId} {args ba:List DV} {d:Nat} {r:DV} (iV:Enters X.P f) (hc:aV X.P f ba r) (ha:CcL [] 0 0 0 ba args) (hd:eL X.nt st.sl (some d)=true)
  (hk:go X 4000 k ⟨(d,⟨[],r⟩) :: st.sl,st.bx,st.tk⟩) (hst:X.still=false:=by exact rfl):CallG X f args (some d) k st:=
 gp iV hd hc ha (fun _ hr=>hr ▸ hk) hst
def clB (n m:Nat):DV->Bool
 | .v _=>true
 | .ud=>true
 | .sl _ _ none=>true
 | .sl _ _ (some k)=>Nat.blt k m
 | .pt _ _=>true
 | .loc i _=>Nat.blt i n
 | .el i _=>Nat.blt i n
 | .ms i _ _ _ _=>Nat.blt i n
 | .agg l=>clL l
 | .bW l=>clL l
 | .fn _ l r=>clL l && clL r
 | .lG _ x=>clB n m x
where clL:List DV->Bool
 | []=>true
 | d :: r=>clB n m d && clL r
def En.cut (E:En) (n m:Nat):En:=⟨E.c,E.β.take n,E.tk.take m,E.τ.take m⟩
mutual
theorem Rv.cut {n m:Nat} {E:En}:∀ {d:DV} {v:Value},Rv E d v->clB n m d=true->Rv (E.cut n m) d v
 | .v x,v,h,_=>by unfold Rv at h ⊢;exact h
 | .ud,v,h,_=>by unfold Rv at h ⊢;exact h
 | .sl e es none,v,h,_=>by
  unfold Rv at h ⊢;obtain ⟨b,n,cap,h1,h2,h3,_⟩:=h;exact ⟨b,n,cap,h1,h2,h3,fun k hk=>by cases hk⟩
 | .sl e es (some k),v,h,hc=>by
  unfold Rv at h ⊢;obtain ⟨b,n',cap,h1,h2,h3,h4⟩:=h;refine ⟨b,n',cap,h1,h2,h3,fun k' fj=>?_⟩;cases fj;have hk:k < m:=by simpa [clB] using hc
  obtain ⟨q,h5,h6,h7⟩:=h4 k rfl;exact ⟨q,by show (E.tk.take m)[k]? = _;rw [bM,zIfP hk];exact h5,h6,fun hh=>by show (E.τ.take m)[k]? = _;rw [bM,zIfP hk];exact h7 hh⟩
 | .pt cs o,v,h,_=>by unfold Rv at h ⊢;exact h
 | .loc i o,v,h,hc=>by
  unfold Rv at h ⊢;obtain ⟨b,hb,h1⟩:=h;have hi:i < n:=by simpa [clB] using hc
  exact ⟨b,by show (E.β.take n)[i]? = _;rw [bM,zIfP hi];exact hb,h1⟩
 | .el i o,v,h,hc=>by
  unfold Rv at h ⊢;obtain ⟨b,hb,h1⟩:=h;have hi:i < n:=by simpa [clB] using hc
  exact ⟨b,by show (E.β.take n)[i]? = _;rw [bM,zIfP hi];exact hb,h1⟩
 | .ms i e o l c,v,h,hc=>by
  unfold Rv at h ⊢;obtain ⟨b,ad,hb,h1⟩:=h;have hi:i < n:=by simpa [clB] using hc
  exact ⟨b,ad,by show (E.β.take n)[i]? = _;rw [bM,zIfP hi];exact hb,h1⟩
 | .agg l,v,h,hc=>by
  unfold Rv at h ⊢;obtain ⟨vs,h1,h2,h3⟩:=h;simp only [clB] at hc;exact ⟨vs,h1,RvL.cut h2 hc,h3⟩
 | .bW l,v,h,hc=>by
  unfold Rv at h ⊢;obtain ⟨vs,h1,h2⟩:=h;simp only [clB] at hc;exact ⟨vs,h1,RvL.cut h2 hc⟩
 | .fn f l r,v,h,hc=>by
  unfold Rv at h ⊢;obtain ⟨l',r',h1,h2,h3⟩:=h;simp only [clB,bA] at hc;exact ⟨l',r',h1,RvL.cut h2 hc.1,RvL.cut h3 hc.2⟩
 | .lG t x,v,h,hc=>by
  unfold Rv at h ⊢;obtain ⟨z,h1,h2⟩:=h;simp only [clB] at hc;exact ⟨z,h1,Rv.cut h2 hc⟩
theorem RvL.cut {n m:Nat} {E:En}:∀ {l:List DV} {vs:List Value},RvL E l vs->clB.clL n m l=true->RvL (E.cut n m) l vs
 | [],vs,h,_=>by simp only [RvL] at h ⊢;exact h
 | d :: r,vs,h,hc=>by
  simp only [RvL] at h ⊢;obtain ⟨v,s,h1,h2,h3⟩:=h;simp only [clB.clL,bA] at hc;exact ⟨v,s,h1,Rv.cut h2 hc.1,RvL.cut h3 hc.2⟩
end
end
end Dv
end Go.Proofs.YtfdedoiiahbnnaaGreat
namespace Go.Proofs.YtfdedoiiahbnnaaGreat
namespace Dv
open Go Go.RowKit
def We (n m:Nat) (tk':List TkE) (x x':DV):Prop:=
 (x=x' /\ clB n m x=true)∨(x = .v (.slice none 0 0)/\∃ e k q,x' = .sl e [] (some k)/\m<=k/\tk'[k]? = some q)∨(x = .v (.slice none 0 0)/\∃ e,x' = .sl e [] none)∨(∃ e es tk,x = .sl e es tk/\x' = .sl e es none)∨(∃ e es wj tk,x = .sl e es tk/\x' = .sl e wj none/\CcE [] 0 wj es)∨(∃ e es wj k,x = .sl e es (some k)/\x' = .sl e wj (some k)/\k < m/\CcE [] 0 wj es)
def WeL (n m:Nat) (tk':List TkE):List DV->List DV->Prop
 | [],l=>l=[]
 | x :: r,l=>∃ x' r',l=x' :: r' /\ We n m tk' x x' /\ WeL n m tk' r r'
def WeLL (n m:Nat) (tk':List TkE):List (List DV)->List (List DV)->Prop
 | [],l=>l=[]
 | x :: r,l=>∃ x' r',l=x' :: r' /\ WeL n m tk' x x' /\ WeLL n m tk' r r'
def kg (n m:Nat) (tk':List TkE) (sl:List (Nat × Sl)):List (Nat × Sl)->Prop
 | []=>True
 | p :: r=>(∃ x,get sl p.1=some ⟨p.2.gs,x⟩/\We n m tk' x p.2.s)/\kg n m tk' sl r
structure mK (n0 m0:Nat) (st st':St):Prop where
 all:∃ kept dropped new b0 r,m0<=kept.length/\n0<=b0.length/\st.tk=kept ++ dropped/\st'.tk=kept ++ new/\(∀ q∈new,TkE.new q=true)/\st.bx=b0 ++ r/\WeLL b0.length kept.length st'.tk b0 st'.bx/\kg b0.length kept.length st'.tk st.sl st'.sl
theorem WeLL.length {n m:Nat} {tk':List TkE}:∀ {l l':List (List DV)},WeLL n m tk' l l' -> l'.length=l.length
 | [],l',h=>by simp only [WeLL] at h;subst h;rfl
 | x :: r,l',h=>by
  simp only [WeLL] at h;obtain ⟨x',r',rfl,_,h2⟩:=h;simp [WeLL.length h2]
theorem WeLL.get {n m:Nat} {tk':List TkE}:∀ {l l':List (List DV)},WeLL n m tk' l l' -> ∀ (i:Nat) cs',l'[i]? = some cs' -> ∃ cs,l[i]? = some cs/\WeL n m tk' cs cs'
 | [],l',h,i,cs',hi=>by simp only [WeLL] at h;subst h;simp at hi
 | x :: r,l',h,i,cs',hi=>by
  simp only [WeLL] at h;obtain ⟨x',r',rfl,h1,h2⟩:=h
  cases i with
  | zero=>simp only [List.getElem?_cons_zero,oI] at hi;subst hi;exact ⟨x,rfl,h1⟩
  | succ i=>simp only [List.getElem?_cons_succ] at hi ⊢;exact WeLL.get h2 i cs' hi
theorem qK {n m:Nat} {tk':List TkE} {sl:List (Nat × Sl)}:∀ {l:List (Nat × Sl)},kg n m tk' sl l->∀ i x',get l i=some x' -> ∃ x,get sl i=some ⟨x'.gs,x⟩/\We n m tk' x x'.s
 | [],_,i,x',hx=>by cases hx
 | (k,y) :: r,h,i,x',hx=>by
  simp only [cp] at hx;split at hx
  ·rename_i sH;subst sH;simp only [oI] at hx;subst hx;exact h.1
  ·exact qK h.2 i x' hx
section
variable {X:Ctx} {E:En} {st st':St} {a:Act} {w:World} {k:List It}
def En.wk (E:En) (n:Nat) (kept new:List TkE):En:=⟨E.c,E.β.take n,kept ++ new,E.τ.take kept.length ++ List.replicate new.length (.slice none 0 0)⟩
theorem xc {n:Nat} {kept dropped new:List TkE} (ht:E.tk=kept ++ dropped) (hl:E.τ.length=E.tk.length) (cE:∀ q∈new,TkE.new q=true) {x x':DV} {v:Value} (hx:We n kept.length (kept ++ new) x x') (hv:Rv E x v):Rv (E.wk n kept new) x' v:=by
 have xd:kept.length<=E.τ.length:=by rw [hl,ht];simp
 have first:∀ {x:DV},clB n kept.length x=true->Rv E x v->Rv (E.wk n kept new) x v:=by
  intro x hc hv;refine Rv.mono (E:=E.cut n kept.length) ⟨fun _ _ h=>h,fun _ _ h=>h,fun k q hq=>?_⟩ (Rv.cut hv hc);have j2:(E.tk.take kept.length)[k]? = some q:=hq;rw [bM] at j2;split at j2
  ·rename_i hk;refine ⟨q,?_,.inl ⟨rfl,?_⟩⟩
   ·show (kept ++ new)[k]? = _
    grind
   ·show (E.τ.take kept.length ++ _)[k]? = (E.τ.take kept.length)[k]?
    grind
  ·cases j2
 rcases hx with ⟨rfl,hc⟩ | ⟨rfl,e,k,q,rfl,hk,hq⟩ | ⟨rfl,e,rfl⟩ | ⟨e,es,tk,rfl,rfl⟩ | ⟨e,es,wj,tk,rfl,rfl,he⟩ | ⟨e,es,wj,k,rfl,rfl,hk,he⟩
 ·exact first hc hv
 ·have:=bn hv;subst this;unfold Rv;refine ⟨none,0,0,rfl,⟨rfl,zLeR _⟩,fun hn=>(hn rfl).elim,fun k' fj=>?_⟩;cases fj;have E5:(kept ++ new)[k]? = some q:=hq;rw [List.getElem?_append_right hk] at E5;have wR:=TkE.EB (cE q (mG E5));refine ⟨q,hq,by omega,fun _=>?_⟩;have aq:=(gS E5).1;show (E.τ.take kept.length ++ List.replicate new.length _)[k]? = _
  grind
 ·have:=bn hv;subst this;unfold Rv;exact ⟨none,0,0,rfl,⟨rfl,zLeR _⟩,fun hn=>(hn rfl).elim,fun k hk=>by cases hk⟩
 ·unfold Rv at hv ⊢;obtain ⟨b,n,cap,h1,h2,h3,_⟩:=hv;exact ⟨b,n,cap,h1,h2,h3,fun k hk=>by cases hk⟩
 ·have hv:=J1 he hv;unfold Rv at hv ⊢;obtain ⟨b,n,cap,h1,h2,h3,_⟩:=hv;exact ⟨b,n,cap,h1,h2,h3,fun k hk=>by cases hk⟩
 ·exact first (by simp only [clB];exact Nat.ble_eq_true_of_le hk) (J1 he hv)
theorem nX {n:Nat} {kept dropped new:List TkE} (ht:E.tk=kept ++ dropped) (hl:E.τ.length=E.tk.length) (cE:∀ q∈new,TkE.new q=true):∀ {l l':List DV} {vs:List Value},WeL n kept.length (kept ++ new) l l' -> RvL E l vs->RvL (E.wk n kept new) l' vs
 | [],l',vs,h,hv=>by grind [WeL,RvL]
 | x :: r,l',vs,h,hv=>by
  simp only [WeL] at h;obtain ⟨x',r',rfl,h1,h2⟩:=h;simp only [RvL] at hv ⊢;obtain ⟨v,s,h3,h4,h5⟩:=hv;exact ⟨v,s,h3,xc ht hl cE h1 h4,nX ht hl cE h2 h5⟩
theorem tv (h:Rel X E st a w) {kept dropped new:List TkE} {b0 r:List (List DV)} (gD:X.m0<=kept.length/\X.n0<=b0.length/\st.tk=kept ++ dropped/\st'.tk=kept ++ new/\(∀ q∈new,TkE.new q=true)/\st.bx=b0 ++ r/\WeLL b0.length kept.length st'.tk b0 st'.bx/\kg b0.length kept.length st'.tk st.sl st'.sl):Rel X (E.wk b0.length kept new) st' a w:=by
 obtain ⟨mv,s8,ht,px,cE,hb,kS,nT⟩:=gD;rw [px] at kS nT;have R4:E.tk=kept ++ dropped:=by rw [h.tk,ht]
 have hbl:=kS.length;have xd:kept.length<=E.τ.length:=by rw [h.env.tl,R4];simp
 have gj:b0.length<=E.β.length:=by rw [h.env.len,hb];simp
 have hτ:∀ (k:Nat) y,(E.τ.take kept.length ++ List.replicate new.length (Value.slice none 0 0))[k]? = some y->(k < kept.length/\E.τ[k]? = some y)∨(kept.length<=k/\y = .slice none 0 0):=fun k y hy=>by grind
 exact {
  env:={
   len:=by simp only [En.wk,eQ];omega
   tl:=by simp only [En.wk,List.length_append,eQ,List.length_replicate];omega
   dm:=fun i cs' hi=>by
    obtain ⟨cs,ch,S5⟩:=kS.get i cs' hi;have aq:=(gS ch).1;obtain ⟨b,ty,arr,hbb,VM,hc⟩:=h.env.dm i cs (by rw [hb,dG aq];exact ch);exact ⟨b,ty,arr,by simp only [En.wk];rw [bM,zIfP aq];exact hbb,VM,nX R4 h.env.tl cE S5 hc.1,hc.2⟩
   inj:=h.env.inj.sublist (List.take_sublist _ _)
   sub:=h.env.sub
   pc:=fun x v hx hm=>h.env.pc x v hx (List.mem_of_mem_take hm)
   bZ:=fun k q y hq hy=>by
    rcases hτ k y hy with ⟨hk,fk⟩ | ⟨hk,rfl⟩
    ·have j2:(kept ++ new)[k]? = some q:=hq;rw [dG hk] at j2;rcases h.env.bZ k q y (by rw [R4,dG hk];exact j2) fk with h1 | ⟨g,cap,cur,rfl,h1,h2,h3,h4,h5,h6⟩
     ·exact .inl h1
     ·exact .inr ⟨g,cap,cur,rfl,h1,h2,h3,h4,fun hm=>h5 (List.mem_of_mem_take hm),h6⟩
    ·have j2:(kept ++ new)[k]? = some q:=hq;rw [List.getElem?_append_right hk] at j2;exact .inl ⟨rfl,TkE.EB (cE q (mG j2)),TkE.JU (cE q (mG j2))⟩
   gn:=fun k k' y y' g Ct hy fk hg sI=>by
    rcases hτ k y hy with ⟨_,sJ⟩ | ⟨_,rfl⟩
    ·rcases hτ k' y' fk with ⟨_,jz⟩ | ⟨_,rfl⟩
     ·exact h.env.gn k k' y y' g Ct sJ jz hg sI
     ·simp [Value.ownBlock] at sI
    ·simp [Value.ownBlock] at hg }
  tk:=by simp only [En.wk];exact px.symm
  sz:=h.sz
  tm:=fun i x' tf=>by
   obtain ⟨x,hx,S5⟩:=qK nT i x' tf;have:=h.tm i _ hx;refine ⟨fun hh=>?_,this.2⟩;obtain ⟨v,h1,h2⟩:=this.1 hh;exact ⟨v,h1,xc R4 h.env.tl cE S5 h2⟩
  df:=h.df
  nw:={
   c:=h.nw.c
   cn:=h.nw.cn
   β:=by
    obtain ⟨r2,hr,hl⟩:=h.nw.β;refine ⟨r2.take (b0.length - X.n0),?_,fun b hb=>hl b (List.mem_of_mem_take hb)⟩;simp only [En.wk];rw [hr,List.take_append,List.take_of_length_le (by rw [X.s8];omega),X.s8]
   tk:=fun j q0 y0 wR zd=>by
    obtain ⟨q',y',h1,h2,h3⟩:=h.nw.tk j q0 y0 wR zd;have hj:j < X.m0:=by rw [<- X.mv];exact (gS wR).1
    grind [En.wk]
   tn:=fun j y g hj hy hg=>by
    rcases hτ j y hy with ⟨_,sJ⟩ | ⟨_,rfl⟩
    ·exact h.nw.tn j y g hj sJ hg
    ·simp [Value.ownBlock] at hg
   l0:=h.nw.l0 }
  fr:=h.fr
  sh:=h.sh
  bt:=h.bt.sub _ }
theorem qL (h:Rel X E st a w) (hw:mK X.n0 X.m0 st st'):∃ E',Rel X E' st' a w:=by
 obtain ⟨_,_,_,_,_,gD⟩:=hw.all;exact ⟨_,tv h gD⟩
theorem least {p:Nat->Prop} (h:∃ n,p n):∃ n,p n/\∀ m,p m->n<=m:=by
 obtain ⟨n,hn⟩:=h
 induction n using Nat.strongRecOn with
 | _ n ih=>grind
theorem aX {c:Code} (I:Nat->St->Prop) (j0:Nat) (iA:St) (hw:mK X.n0 X.m0 st iA) (h0:I j0 iA)
  (hr:∀ j s,I j s->go X 4000 (.code c :: .yX (fun s'=>∃ xe,mK X.n0 X.m0 s' xe /\ ∃ j',j' < j/\I j' xe) :: k) s):oT X c k st:=by
 intro E a w h;obtain ⟨E0,hr0⟩:=qL h hw
 classical
 let Inv:Act->World->Prop:=fun a w=>∃ j s E,Rel X E s a w/\I j s
 let μ:Act->World->Nat:=fun a w=>if hI:Inv a w then Classical.choose (least hI) else 0
 refine wp_loop Inv μ ⟨j0,iA,E0,hr0,h0⟩ ?_;intro a1 w1 hI;have tw:=(Classical.choose_spec (least hI)).1;obtain ⟨s,E1,bD,S6⟩:=tw;have hs:=go_sound 4000 _ _ (hr _ s S6) E1 a1 w1 bD;rw [c7] at hs;refine wp_mono hs ?_;intro e a2 w2 hq
 cases e with
 | normal=>
  obtain ⟨s',E2,xf,xe,Ip,j',gM,On⟩:=hq;obtain ⟨E3,xg⟩:=qL xf Ip;have LI:Inv a2 w2:=⟨j',xe,E3,xg,On⟩;refine ⟨LI,?_⟩;simp only [μ,dif_pos hI,dif_pos LI];exact Nat.lt_of_le_of_lt ((Classical.choose_spec (least LI)).2 j' ⟨xe,E3,xg,On⟩) gM
 | exit id=>exact hq
 | goto l=>exact hq
 | ret=>exact hq
 | panic c=>exact hq
 | outgrown=>exact hq
theorem au {n m:Nat} {tk':List TkE} {x:DV} (h:clB n m x=true):We n m tk' x x:=.inl ⟨rfl,h⟩
theorem aw {n m:Nat} {tk':List TkE} {kd:IntKind} {x y:Int} (h:x=y):We n m tk' (.v (.int kd x)) (.v (.int kd y)):=.inl ⟨by rw [h],rfl⟩
theorem cS {n m:Nat} {tk':List TkE} {e k:Nat} {q:TkE} (h1:m<=k) (h2:tk'[k]? = some q):We n m tk' (.v (.slice none 0 0)) (.sl e [] (some k)):=.inr (.inl ⟨rfl,e,k,q,rfl,h1,h2⟩)
theorem bL {n m:Nat} {tk':List TkE} {e k:Nat} {es wj:List (List DV)} (h:es=wj) (hk:Nat.blt k m=true):We n m tk' (.sl e es (some k)) (.sl e wj (some k)):=.inl ⟨by rw [h],hk⟩
theorem ax {p:Prop} (h:p:=by repeat' (first | exact rfl | exact trivial | exact Or.inr (Or.inl ⟨_,rfl⟩) | exact Or.inr ⟨_,rfl⟩ | exact Or.inl ⟨rfl,rfl⟩ | exact Or.inl rfl | refine Or.inr ⟨_,_,rfl,Nat.zero_le _,rfl,?_⟩ | refine ⟨_,_,rfl,?_,?_⟩ | refine ⟨_,rfl,?_⟩ | refine Or.inr (Or.inr (Or.inr ⟨_,_,rfl,?_⟩)) | exact Or.inl rfl | refine Or.inr ?_)):p:=h
theorem wA {p:Prop} (h:p:=by repeat' (first | exact rfl | exact au rfl | refine ⟨_,_,rfl,?_,?_⟩)):p:=h
theorem wB {p:Prop} (h:p:=by repeat' (first | exact trivial | exact au rfl | refine ⟨⟨_,rfl,?_⟩,?_⟩)):p:=h
theorem Iq {n0 m0:Nat} {st st':St} (h1:∃ r,st.bx=st'.bx ++ r) (h2:WeLL st'.bx.length st'.tk.length st'.tk st'.bx st'.bx) (h3:st.tk=st'.tk) (h4:Nat.ble n0 st'.bx.length=true) (h5:Nat.ble m0 st'.tk.length=true)
  (h:kg st'.bx.length st'.tk.length st'.tk st.sl st'.sl):mK n0 m0 st st':=by
 obtain ⟨r,hr⟩:=h1;exact ⟨st'.tk,[],[],st'.bx,r,by simpa using h5,by simpa using h4,by simp [h3],by simp,by simp,hr,h2,h⟩
theorem LJ {n0 m0:Nat} {st st':St} (n:Nat) (hn:Nat.ble n st.bx.length=true) (h2:WeLL n st'.tk.length st'.tk (st.bx.take n) st'.bx) (h3:st.tk=st'.tk) (h4:Nat.ble n0 n=true) (h5:Nat.ble m0 st'.tk.length=true)
  (h:kg n st'.tk.length st'.tk st.sl st'.sl):mK n0 m0 st st':=by
 have hl:(st.bx.take n).length=n:=by simp_all
 exact ⟨st'.tk,[],[],st.bx.take n,st.bx.drop n,by simpa using h5,by rw [hl];simpa using h4,by simp [h3],by simp,by simp,(List.take_append_drop n st.bx).symm,by rw [hl];exact h2,by rw [hl];exact h⟩
theorem dH {n0 m0:Nat} {st st':St} (q:TkE) (hq:q.new=true) (h1:∃ r,st.bx=st'.bx ++ r) (h3:st.tk ++ [q]=st'.tk) (h2:WeLL st'.bx.length st.tk.length st'.tk st'.bx st'.bx) (h4:Nat.ble n0 st'.bx.length=true) (h5:Nat.ble m0 st.tk.length=true)
  (h:kg st'.bx.length st.tk.length st'.tk st.sl st'.sl):mK n0 m0 st st':=by
 obtain ⟨r,hr⟩:=h1;exact ⟨st.tk,[],[q],st'.bx,r,by simpa using h5,by simpa using h4,by simp,h3.symm,by simpa using hq,hr,h2,h⟩
end
end Dv
end Go.Proofs.YtfdedoiiahbnnaaGreat
namespace Go.Proofs.YtfdedoiiahbnnaaGreat
namespace Dv
theorem aL {p : Prop} (h : p := by repeat' (first | exact rfl | exact trivial | exact Or.inr (Or.inl ⟨_,rfl⟩) | exact Or.inr ⟨_,rfl⟩ | exact Or.inl ⟨rfl,rfl⟩ | exact Or.inl rfl | refine Or.inr ⟨_,_,rfl,Nat.zero_le _,rfl,?_⟩ | refine ⟨_,_,rfl,?_,?_⟩ | refine ⟨_,rfl,?_⟩ | exact ⟨nL rfl,rfl⟩ | refine Or.inr (Or.inr (Or.inr ⟨_,_,rfl,?_⟩)) | exact Or.inl rfl | refine Or.inr ?_)) : p := h
theorem aI {p : Prop} {a b : Int} (q : a=b) (h : a=b -> p := by intro q;repeat' (first | exact rfl | exact trivial | exact Or.inr (Or.inl ⟨_,rfl⟩) | exact Or.inr ⟨_,rfl⟩ | exact Or.inl ⟨rfl,rfl⟩ | exact Or.inl rfl | refine Or.inr ⟨_,_,rfl,Nat.zero_le _,rfl,?_⟩ | refine ⟨_,_,rfl,?_,?_⟩ | refine ⟨_,rfl,?_⟩ | exact congrArg (fun z=>DV.v (.int .i64 z)) q | refine Or.inr (Or.inr (Or.inr ⟨_,_,rfl,?_⟩)) | exact Or.inl rfl | refine Or.inr ?_)) : p := h q
theorem aB {p : Prop} {a b : Bool} (q : a=b) (h : a=b -> p := by intro q;repeat' (first | exact rfl | exact trivial | exact Or.inr (Or.inl ⟨_,rfl⟩) | exact Or.inr ⟨_,rfl⟩ | exact Or.inl ⟨rfl,rfl⟩ | exact Or.inl rfl | refine Or.inr ⟨_,_,rfl,Nat.zero_le _,rfl,?_⟩ | refine ⟨_,_,rfl,?_,?_⟩ | refine ⟨_,rfl,?_⟩ | exact congrArg (fun b=>DV.v (.bool b)) q | refine Or.inr (Or.inr (Or.inr ⟨_,_,rfl,?_⟩)) | exact Or.inl rfl | refine Or.inr ?_)) : p := h q
theorem wNA {p : Prop} {a b : Nat} (q : a < b) (hn : b <= 4611686018427387904 := by omega) (h : a < b -> b <= 4611686018427387904 -> p := by intro q hn;repeat' (first | exact rfl | exact au rfl | exact aw (aS q hn) | refine ⟨_,_,rfl,?_,?_⟩)) : p := h q hn
theorem wNB {p : Prop} {a b : Nat} (q : a < b) (hn : b <= 4611686018427387904 := by omega) (h : a < b -> b <= 4611686018427387904 -> p := by intro q hn;repeat' (first | exact trivial | exact au rfl | exact aw (aS q hn) | refine ⟨⟨_,rfl,?_⟩,?_⟩)) : p := h q hn
theorem wSA {p r : Prop} {a b : Nat} (q : a < b) (s : r) (hn : b <= 4611686018427387904 := by omega) (h : a < b -> b <= 4611686018427387904 -> r -> p := by intro q hn s;repeat' (first | exact rfl | exact au rfl | exact aw (aS q hn) | exact bL s rfl | refine ⟨_,_,rfl,?_,?_⟩)) : p := h q hn s
theorem wSB {p r : Prop} {a b : Nat} (q : a < b) (s : r) (hn : b <= 4611686018427387904 := by omega) (h : a < b -> b <= 4611686018427387904 -> r -> p := by intro q hn s;repeat' (first | exact trivial | exact au rfl | exact aw (aS q hn) | exact bL s rfl | refine ⟨⟨_,rfl,?_⟩,?_⟩)) : p := h q hn s
theorem wTB {p : Prop} (h : p := by repeat' (first | exact trivial | exact au rfl | exact cS (Nat.le_refl _) rfl | refine ⟨⟨_,rfl,?_⟩,?_⟩)) : p := h
theorem wTA {p : Prop} (h : p := by repeat' (first | exact rfl | exact au rfl | exact cS (Nat.le_refl _) rfl | refine ⟨_,_,rfl,?_,?_⟩)) : p := h
theorem wRB {p : Prop} (h : p := by repeat' (first | exact trivial | exact au rfl | exact aw rfl | refine ⟨⟨_,rfl,?_⟩,?_⟩)) : p := h
theorem wRA {p : Prop} (h : p := by repeat' (first | exact rfl | exact au rfl | exact aw rfl | refine ⟨_,_,rfl,?_,?_⟩)) : p := h
theorem zo {p:Prop}   (h:p:=by repeat' (first | exact rfl | exact au rfl | exact bS rfl | exact bK rfl | exact nY _ | exact cS (Nat.le_refl _) rfl | exact cS (Nat.le_succ _) rfl | refine ⟨_,_,rfl,?_,?_⟩)):p:=h 
theorem u7 {p:Prop} {P0:Prop} (x0:P0) (h:P0->p:=by intro x0;repeat' (first | exact rfl | exact au rfl | exact aw x0 | exact bS x0 | exact bL x0 rfl | exact cA x0 | exact bK x0 | exact aw (congrArg Nat.cast x0) | exact au x0 | exact dW x0 | exact x0 | exact bS rfl | exact bK rfl | exact nY _ | exact cS (Nat.le_refl _) rfl | exact cS (Nat.le_succ _) rfl | refine ⟨_,_,rfl,?_,?_⟩)):p:=h x0
theorem zp {p:Prop} {P0:Prop} {P1:Prop} (x0:P0) (x1:P1) (h:P0->P1->p:=by intro x0 x1;repeat' (first | exact rfl | exact au rfl | exact aw x0 | exact bS x0 | exact bL x0 rfl | exact cA x0 | exact bK x0 | exact aw (congrArg Nat.cast x0) | exact au x0 | exact dW x0 | exact x0 | exact aw x1 | exact bS x1 | exact bL x1 rfl | exact cA x1 | exact bK x1 | exact aw (congrArg Nat.cast x1) | exact au x1 | exact dW x1 | exact x1 | exact bS rfl | exact bK rfl | exact nY _ | exact cS (Nat.le_refl _) rfl | exact cS (Nat.le_succ _) rfl | refine ⟨_,_,rfl,?_,?_⟩)):p:=h x0 x1
theorem VV {p:Prop} {P0:Prop} {P1:Prop} {P2:Prop} (x0:P0) (x1:P1) (x2:P2) (h:P0->P1->P2->p:=by intro x0 x1 x2;repeat' (first | exact rfl | exact au rfl | exact aw x0 | exact bS x0 | exact bL x0 rfl | exact cA x0 | exact bK x0 | exact aw (congrArg Nat.cast x0) | exact au x0 | exact dW x0 | exact x0 | exact aw x1 | exact bS x1 | exact bL x1 rfl | exact cA x1 | exact bK x1 | exact aw (congrArg Nat.cast x1) | exact au x1 | exact dW x1 | exact x1 | exact aw x2 | exact bS x2 | exact bL x2 rfl | exact cA x2 | exact bK x2 | exact aw (congrArg Nat.cast x2) | exact au x2 | exact dW x2 | exact x2 | exact bS rfl | exact bK rfl | exact nY _ | exact cS (Nat.le_refl _) rfl | exact cS (Nat.le_succ _) rfl | refine ⟨_,_,rfl,?_,?_⟩)):p:=h x0 x1 x2
theorem pD {p:Prop}   (h:p:=by repeat' (first | exact trivial | exact au rfl | exact cS (Nat.le_refl _) rfl | exact cS (Nat.le_succ _) rfl | exact aw rfl | refine ⟨⟨_,rfl,?_⟩,?_⟩)):p:=h 
theorem c8 {p:Prop} {P0:Prop} (x0:P0) (h:P0->p:=by intro x0;repeat' (first | exact trivial | exact au rfl | exact aw x0 | exact bS x0 | exact bL x0 rfl | exact cA x0 | exact bK x0 | exact aw (congrArg Nat.cast x0) | exact au x0 | exact dW x0 | exact x0 | exact cS (Nat.le_refl _) rfl | exact cS (Nat.le_succ _) rfl | exact aw rfl | refine ⟨⟨_,rfl,?_⟩,?_⟩)):p:=h x0
theorem iv {p:Prop} {P0:Prop} {P1:Prop} (x0:P0) (x1:P1) (h:P0->P1->p:=by intro x0 x1;repeat' (first | exact trivial | exact au rfl | exact aw x0 | exact bS x0 | exact bL x0 rfl | exact cA x0 | exact bK x0 | exact aw (congrArg Nat.cast x0) | exact au x0 | exact dW x0 | exact x0 | exact aw x1 | exact bS x1 | exact bL x1 rfl | exact cA x1 | exact bK x1 | exact aw (congrArg Nat.cast x1) | exact au x1 | exact dW x1 | exact x1 | exact cS (Nat.le_refl _) rfl | exact cS (Nat.le_succ _) rfl | exact aw rfl | refine ⟨⟨_,rfl,?_⟩,?_⟩)):p:=h x0 x1
theorem LK {p:Prop} {P0:Prop} {P1:Prop} {P2:Prop} (x0:P0) (x1:P1) (x2:P2) (h:P0->P1->P2->p:=by intro x0 x1 x2;repeat' (first | exact trivial | exact au rfl | exact aw x0 | exact bS x0 | exact bL x0 rfl | exact cA x0 | exact bK x0 | exact aw (congrArg Nat.cast x0) | exact au x0 | exact dW x0 | exact x0 | exact aw x1 | exact bS x1 | exact bL x1 rfl | exact cA x1 | exact bK x1 | exact aw (congrArg Nat.cast x1) | exact au x1 | exact dW x1 | exact x1 | exact aw x2 | exact bS x2 | exact bL x2 rfl | exact cA x2 | exact bK x2 | exact aw (congrArg Nat.cast x2) | exact au x2 | exact dW x2 | exact x2 | exact cS (Nat.le_refl _) rfl | exact cS (Nat.le_succ _) rfl | exact aw rfl | refine ⟨⟨_,rfl,?_⟩,?_⟩)):p:=h x0 x1 x2
theorem Oo {p:Prop} {P0:Prop} {P1:Prop} {P2:Prop} {P3:Prop} (x0:P0) (x1:P1) (x2:P2) (x3:P3) (h:P0->P1->P2->P3->p:=by intro x0 x1 x2 x3;repeat' (first | exact trivial | exact au rfl | exact aw x0 | exact bS x0 | exact bL x0 rfl | exact cA x0 | exact bK x0 | exact aw (congrArg Nat.cast x0) | exact au x0 | exact dW x0 | exact x0 | exact aw x1 | exact bS x1 | exact bL x1 rfl | exact cA x1 | exact bK x1 | exact aw (congrArg Nat.cast x1) | exact au x1 | exact dW x1 | exact x1 | exact aw x2 | exact bS x2 | exact bL x2 rfl | exact cA x2 | exact bK x2 | exact aw (congrArg Nat.cast x2) | exact au x2 | exact dW x2 | exact x2 | exact aw x3 | exact bS x3 | exact bL x3 rfl | exact cA x3 | exact bK x3 | exact aw (congrArg Nat.cast x3) | exact au x3 | exact dW x3 | exact x3 | exact cS (Nat.le_refl _) rfl | exact cS (Nat.le_succ _) rfl | exact aw rfl | refine ⟨⟨_,rfl,?_⟩,?_⟩)):p:=h x0 x1 x2 x3
theorem aO {p:Prop}   (h:p:=by repeat' (first | exact rfl | exact trivial | exact Or.inr (Or.inl ⟨_,rfl⟩) | exact Or.inr ⟨_,rfl⟩ | exact Or.inl ⟨rfl,rfl⟩ | exact Or.inl rfl | refine Or.inr ⟨_,_,rfl,Nat.zero_le _,rfl,?_⟩ | refine ⟨_,_,rfl,?_,?_⟩ | refine ⟨_,rfl,?_⟩ | exact ⟨nL rfl,rfl⟩ | refine Or.inr (Or.inr (Or.inr ⟨_,_,rfl,?_⟩)) | exact Or.inl rfl | refine Or.inr ?_)):p:=h 
theorem pV {p:Prop} {P0:Prop} (x0:P0) (h:P0->p:=by intro x0;repeat' (first | exact rfl | exact trivial | exact Or.inr (Or.inl ⟨_,rfl⟩) | exact Or.inr ⟨_,rfl⟩ | exact Or.inl ⟨rfl,rfl⟩ | exact Or.inl rfl | refine Or.inr ⟨_,_,rfl,Nat.zero_le _,rfl,?_⟩ | refine ⟨_,_,rfl,?_,?_⟩ | refine ⟨_,rfl,?_⟩ | exact congrArg (fun z=>DV.v (.int .i64 z)) x0 | exact congrArg (fun z=>DV.v (.int .i64 z)) (congrArg Nat.cast x0) | exact congrArg (fun b=>DV.v (.bool b)) x0 | exact x0 | exact Or.inr (Or.inl ⟨_,x0⟩) | apply x0 | exact ⟨nL rfl,rfl⟩ | refine Or.inr (Or.inr (Or.inr ⟨_,_,rfl,?_⟩)) | exact Or.inl rfl | refine Or.inr ?_)):p:=h x0
theorem VW {p:Prop} {P0:Prop} {P1:Prop} (x0:P0) (x1:P1) (h:P0->P1->p:=by intro x0 x1;repeat' (first | exact rfl | exact trivial | exact Or.inr (Or.inl ⟨_,rfl⟩) | exact Or.inr ⟨_,rfl⟩ | exact Or.inl ⟨rfl,rfl⟩ | exact Or.inl rfl | refine Or.inr ⟨_,_,rfl,Nat.zero_le _,rfl,?_⟩ | refine ⟨_,_,rfl,?_,?_⟩ | refine ⟨_,rfl,?_⟩ | exact congrArg (fun z=>DV.v (.int .i64 z)) x0 | exact congrArg (fun z=>DV.v (.int .i64 z)) (congrArg Nat.cast x0) | exact congrArg (fun b=>DV.v (.bool b)) x0 | exact x0 | exact Or.inr (Or.inl ⟨_,x0⟩) | apply x0 | exact congrArg (fun z=>DV.v (.int .i64 z)) x1 | exact congrArg (fun z=>DV.v (.int .i64 z)) (congrArg Nat.cast x1) | exact congrArg (fun b=>DV.v (.bool b)) x1 | exact x1 | exact Or.inr (Or.inl ⟨_,x1⟩) | apply x1 | exact ⟨nL rfl,rfl⟩ | refine Or.inr (Or.inr (Or.inr ⟨_,_,rfl,?_⟩)) | exact Or.inl rfl | refine Or.inr ?_)):p:=h x0 x1
theorem iX {α:Type _} {P:α->Prop} {cs:α} {i:Int} {l:List α} (g:l[i.toNat]? = some cs) (k:P cs) (h:0<=i:=by omega):∃ cs,(0<=i/\l[i.toNat]? = some cs)/\P cs:=⟨cs,⟨h,g⟩,k⟩
theorem lI {X:Ctx} {st:St} {k:List It} {c:Code} (I:Nat->St->Prop) {j0:Nat} {iA:St} (h0:I j0 iA) (hw:mK X.n0 X.m0 st iA)
 (hr:∀ j s,I j s->go X 4000 (.code c :: .yX (fun s'=>∃ xe,mK X.n0 X.m0 s' xe/\∃ j',j' < j/\I j' xe) :: k) s):oT X c k st:=aX I j0 iA hw h0 hr
theorem lJ {X:Ctx} {st:St} {k:List It} {c:Code} (S:Nat->St) (n:Nat) (hw:mK X.n0 X.m0 st (S 0))
 (hr:∀ e,e<=n->go X 4000 (.code c :: .yX (fun s'=>∃ xe,mK X.n0 X.m0 s' xe/\∃ j',j' < n - e/\∃ e:Nat,xe=S e/\e<=n/\j'=n - e) :: k) (S e)):oT X c k st:=aX (fun j st=>∃ e:Nat,st=S e/\e<=n/\j=n - e) (n - 0) (S 0) hw ⟨0,rfl,Nat.zero_le _,rfl⟩ fun j s h=>by
 obtain ⟨e,rfl,he,rfl⟩:=h;exact hr e he
theorem cg {a b : Bool} (h : a = b) : DV.v (.bool a) = .v (.bool b) := h ▸ rfl
theorem qM {a b : Int} (h : a = b) : DV.v (.int .i64 a) = .v (.int .i64 b) := h ▸ rfl
theorem bl {n0 m0 : Nat} {st st' : St} (h : kg st'.bx.length st'.tk.length st'.tk st.sl st'.sl) (h1 : ∃ r,st.bx = st'.bx ++ r := by exact ⟨_,rfl⟩) (h2 : WeLL st'.bx.length st'.tk.length st'.tk st'.bx st'.bx := by exact wA) (h3 : st.tk = st'.tk := by exact rfl) (h4 : Nat.ble n0 st'.bx.length = true := by exact rfl) (h5 : Nat.ble m0 st'.tk.length = true := by exact rfl) : mK n0 m0 st st' := Iq h1 h2 h3 h4 h5 h
theorem ep {n0 m0 : Nat} {st st' : St} (n : Nat) (h2 : WeLL n st'.tk.length st'.tk (st.bx.take n) st'.bx) (h : kg n st'.tk.length st'.tk st.sl st'.sl) (hn : Nat.ble n st.bx.length = true := by exact rfl) (h3 : st.tk = st'.tk := by exact rfl) (h4 : Nat.ble n0 n = true := by exact rfl) (h5 : Nat.ble m0 st'.tk.length = true := by exact rfl) : mK n0 m0 st st' := LJ n hn h2 h3 h4 h5 h
abbrev al (k : Nat) (n : Int) : Nat × Sl := (k,⟨[],.v (.int .i64 n)⟩)
abbrev zq (k : Nat) (b : Bool) : Nat × Sl := (k,⟨[],.v (.bool b)⟩)
abbrev aE (k i : Nat) : Nat × Sl := (k,⟨[],.loc i 0⟩)
abbrev nZ (k : Nat) (c : List DV) : Nat × Sl := (k,⟨[],.pt c 0⟩)
abbrev aT (k e : Nat) (l : List (List DV)) : Nat × Sl := (k,⟨[],.sl e l none⟩)
end Dv
end Go.Proofs.YtfdedoiiahbnnaaGreat
namespace Go.Proofs.YtfdedoiiahbnnaaGreat
namespace Dv
open Go
section
variable {P:Program} {ops:Array Oper} {C:World->Prop} {Q:Act->World->Prop} {W:Nat->Bool} {π:Nat->Nat}
theorem Oq {o:Oper} {a:Act} {w:World} {K:Act->World->Prop} (h:wq P o a w K):∃ v w',K (a.put o.dst v) w':=by
 unfold wq at h;split at h
 ·exact ⟨_,_,h⟩
 ·exact ⟨_,_,h⟩
 ·obtain ⟨e,w',fr,⟨v,_,hv⟩,_⟩:=h [];exact ⟨v,w',hv⟩
 ·exact h.elim
theorem LL {x y:Oper} {v:Value} (Nx:x.apart ops y=true) (hs:∀ cs b,y.op ≠ .select cs b) {a:Act} {w:World} {K:Act->World->Prop} :
  wq P y (a.put x.dst v) w K↔wq P y a w (fun a' w'=>K (a'.put x.dst v) w'):=by
 obtain ⟨h1,h2,h3⟩:=Oper.apart_spec Nx;unfold wq;rw [execOp_put y hs a x.dst v h1];have hc:∀ u,(a.put x.dst v).put y.dst u=(a.put y.dst u).put x.dst v:=fun u=>Act.put_comm a v u h2
 cases (execOp a.eval y).run P w with
 | halt h w'=>rfl
 | ok n w'=>cases n<;>simp [hc]
def Yl (P:Program) (ops:Array Oper) (C:World->Prop) (o:Oper) (v:Value) (a:Act):Prop:=
 (Region.wanted o (yielded ops a.tmps)=true/\∀ w,(nO o.op=true->C w)->(execOp a.eval o).run P w = .ok (.value v) w) ∨
 (Region.wanted o (yielded ops a.tmps)=false/\v=undef)
theorem Yl.same {x y:Oper} {v u:Value} (Nx:x.apart ops y=true) (hs:∀ cs b,y.op ≠ .select cs b) {a:Act}:Yl P ops C y v (a.put x.dst u)↔Yl P ops C y v a:=by
 obtain ⟨h1,h2,h3⟩:=Oper.apart_spec Nx;unfold Yl;rw [execOp_put y hs a x.dst u h1,wanted_put y a x.dst u h1]
def dD (P:Program) (ops:Array Oper) (o:Oper) (a:Act) (w:World) (K:Act->World->Prop):Prop:=
 if Region.wanted o (yielded ops a.tmps)=true then wq P o a w K else K (a.put o.dst undef) w
theorem hY {o:Oper} {a:Act} {w:World} {K K':Act->World->Prop} (hk:∀ a w,K a w->K' a w) (h:dD P ops o a w K):dD P ops o a w K':=by grind [dD,jB]
theorem tz {x y:Oper} {v:Value} (Nx:x.apart ops y=true) (hs:∀ cs b,y.op ≠ .select cs b) {a:Act} {w:World} {K:Act->World->Prop} :
  dD P ops y (a.put x.dst v) w K↔dD P ops y a w (fun a' w'=>K (a'.put x.dst v) w'):=by
 obtain ⟨h1,h2,h3⟩:=Oper.apart_spec Nx;unfold dD;rw [wanted_put y a x.dst v h1];split
 ·exact LL Nx hs
 ·rw [Act.put_comm a v undef h2]
theorem E6 {o:Oper} {a:Act} {w:World} {K:Act->World->Prop} (h:dD P ops o a w K):∃ v w',K (a.put o.dst v) w':=by grind [dD,Oq]
theorem qN {o:Oper} {a:Act} {w:World} {K:Act->World->Prop} (h:dD P ops o a w K):dD P ops o a w (fun a' w'=>K a' w' /\ ∃ u,a'=a.put o.dst u):=by grind [dD,wq]
theorem kh {o:Oper} {a:Act} {w:World} {v:Value} {K:Act->World->Prop} (hy:Yl P ops C o v a) (hc:nO o.op=true->C w) (hk:K (a.put o.dst v) w):dD P ops o a w K:=by
 unfold dD;rcases hy with ⟨hw,hv⟩ | ⟨hw,rfl⟩
 ·grind [wq]
 ·rw [ah (by simp [hw])];exact hk
theorem ki {o:Oper} {a:Act} {w:World} {v:Value} {K:Act->World->Prop} (hy:Yl P ops C o v a) (hc:nO o.op=true->C w) (h:dD P ops o a w K):K (a.put o.dst v) w:=by
 unfold dD at h;rcases hy with ⟨hw,hv⟩ | ⟨hw,rfl⟩
 ·grind [wq]
 ·rw [ah (by simp [hw])] at h;exact h
def runT (P:Program) (ops:Array Oper) (W:Nat->Bool) (C:World->Prop) (Q:Act->World->Prop):List Nat->Act->World->Prop
 | [],a,w=>Q a w
 | i :: r,a,w=>
  match ops[i]? with
  | none=>False
  | some o=>
   if oW o.op=true then dD P ops o a w fun a' w'=>(W i=false->C w->C w')/\runT P ops W C Q r a' w'
   else ∃ v,Yl P ops C o v a/\(nO o.op=true->C w)/\runT P ops W C Q r (a.put o.dst v) w
def mL (ops:Array Oper) (W:Nat->Bool) (j i:Nat):Bool:=
 match ops[j]?,ops[i]? with
 | some x,some y=>x.apart ops y && y.apart ops x && !(oW x.op && oW y.op) && !(nO x.op && W i)
 | _,_=>false
def E7 (ops:Array Oper) (l:List Nat):Prop:=∃ i o,i∈l/\ops[i]? = some o/\nO o.op=true
theorem hZ {j i:Nat} {x y:Oper} (h:mL ops W j i=true) (hj:ops[j]? = some x) (hi:ops[i]? = some y) :
  x.apart ops y=true/\y.apart ops x=true/\¬ (oW x.op=true/\oW y.op=true)/\¬ (nO x.op=true/\W i=true):=by
 unfold mL at h;rw [hj,hi] at h;simp only [bA,Bool.not_eq_true',Bool.and_eq_false_iff] at h;refine ⟨h.1.1.1,h.1.1.2,?_,?_⟩
 ·grind
 ·grind
theorem lO (lP:∀ (j:Nat) (o:Oper) cs b,ops[j]? = some o->o.op ≠ .select cs b) {i:Nat} {o:Oper} (hi:ops[i]? = some o) (hR:oW o.op=false) :
  ∀ (rem:List Nat) (a:Act) (w:World),runT P ops W C Q rem a w->i∈rem->(∀ j∈rem,j≠i->π j < π i->mL ops W j i=true)->rem.Pairwise (fun a b=>π a < π b)->∃ v,Yl P ops C o v a
 | [],_,_,_,hm,_,_=>by cases hm
 | h :: rem,a,w,hr,hm,Ir,hp=>by
  simp only [runT] at hr;by_cases yZ:h=i
  ·grind
  ·have jZ:i∈rem:=by grind
   have aq:π h < π i:=(List.pairwise_cons.1 hp).1 i jZ;split at hr
   ·exact hr.elim
   ·rename_i x hx;obtain ⟨S7,VX,_,_⟩:=hZ (Ir h (by simp) yZ aq) hx hi;have ih:=fun a w hr=>lO lP hi hR rem a w hr jZ (fun j hj=>Ir j (gy _ hj)) (List.pairwise_cons.1 hp).2
    grind [E6,Yl.same]
theorem tC {h:Nat} {rem:List Nat} (hl:E7 ops rem):E7 ops (h :: rem):=by
 obtain ⟨i,o,hm,ho,hL⟩:=hl;exact ⟨i,o,gy _ hm,ho,hL⟩
theorem ia (lP:∀ (j:Nat) (o:Oper) cs b,ops[j]? = some o->o.op ≠ .select cs b) (HT:∀ j i x y,π j < π i->ops[i]? = some x->ops[j]? = some y->nO x.op=true->W j=false) {i:Nat} {o:Oper} (hi:ops[i]? = some o) :
  ∀ (rem:List Nat) (a:Act) (w:World),(E7 ops rem->C w)->runT P ops W C Q rem a w->i∈rem->(∀ j∈rem,j≠i->π j < π i->mL ops W j i=true)->rem.Pairwise (fun a b=>π a < π b) ->
   dD P ops o a w (fun a' w'=>(W i=false->C w->C w')/\runT P ops W C Q (rem.erase i) a' w')
 | [],_,_,_,_,hm,_,_=>by cases hm
 | h :: rem,a,w,hC,hr,hm,Ir,hp=>by
  by_cases yZ:h=i
  ·grind [runT,kh]
  ·have jZ:i∈rem:=by grind
   have aq:π h < π i:=(List.pairwise_cons.1 hp).1 i jZ;have sK:=(List.pairwise_cons.1 hp).2;rw [List.erase_cons_tail (sU yZ)];have hr0:=hr;simp only [runT] at hr;split at hr
   ·exact hr.elim
   ·rename_i x hx;obtain ⟨S7,VX,hEE,hLW⟩:=hZ (Ir h (by simp) yZ aq) hx hi;have hsx:=fun cs b=>lP h x cs b hx;have LM:=fun cs b=>lP i o cs b hi;have Ot:∀ j∈rem,j≠i->π j < π i->mL ops W j i=true:=fun j hj=>Ir j (gy _ hj);split at hr
    ·-- the head has an effect: so o has none
     rename_i VY;have S8:oW o.op=false:=by grind
     obtain ⟨v,hy⟩:=lO (π:=π) lP hi S8 (h :: rem) a w hr0 hm Ir hp;have hci:nO o.op=true->C w:=fun hL=>hC ⟨i,o,hm,hi,hL⟩;refine kh hy hci ⟨fun _ h=>h,?_⟩;simp only [runT,hx,VY,if_true];refine (tz VX hsx).2 ?_;refine hY ?_ (qN hr);rintro a' w' ⟨⟨HU,kT⟩,u,rfl⟩;refine ⟨HU,?_⟩
     have S9:E7 ops rem->C w':=by
      intro hl;have wv:=hl;obtain ⟨l,z,hlm,hz,hL⟩:=hl;exact HU (HT h l z x ((List.pairwise_cons.1 hp).1 l hlm) hz hx hL) (hC (tC wv))
     have ih:=ia lP HT hi rem _ w' S9 kT jZ Ot sK;have fk:=(Yl.same (u:=u) S7 LM).2 hy
     grind [ki]
    ·rename_i VY;obtain ⟨v,hy,hc,kT⟩:=hr;have ih:=ia lP HT hi rem (a.put x.dst v) w (fun hl=>hC (tC hl)) kT jZ Ot sK;refine hY ?_ (qN ((tz S7 LM).1 ih))
     grind [runT,Yl.same]
def ordB (ops:Array Oper):Nat->Nat->Nat->Bool
 | 0,_,_=>false
 | n + 1,j,i=>
  match ops[i]? with
  | some o=>o.after.toList.any fun e=>Region.binds .any e && (Nat.beq e.on j || ordB ops n j e.on)
  | none=>false
def pE (ops:Array Oper) (W:Nat->Bool) (π:Nat->Nat):Bool:=
 Region.noSelect ops &&
 (List.range ops.size).all fun i=>
  match ops[i]? with
   | some o=>o.after.toList.all (fun e=>!Region.binds .any e || (Nat.blt (π e.on) (π i) && Nat.blt e.on ops.size)) && (!nO o.op || (List.range ops.size).all fun j=>!Nat.blt (π j) (π i) || !W j)
   | none=>false
def xi (ops:Array Oper) (W:Nat->Bool) (π:Nat->Nat) (ex:Nat->Nat->Bool):Bool:=
 (List.range ops.size).all fun i=>(List.range ops.size).all fun j=>!Nat.blt (π j) (π i) || ex j i || ordB ops ops.size j i || mL ops W j i
def Ou:Nat->Nat->Bool:=fun _ _=>false
def zr (ops:Array Oper) (W:Nat->Bool):Bool:=pE ops W (fun i=>i) && xi ops W (fun i=>i) Ou
def Dn (ops:Array Oper) (bw:Array Bool):Prop:=
 ∀ i o,ops[i]? = some o->bw.getD i true=true->∀ e∈o.after,Region.binds .any e=true->bw.getD e.on false=true
theorem kj {bw:Array Bool} (hd:Dn ops bw):∀ (n:Nat) (j i:Nat) (o:Oper),ops[i]? = some o->(∀ e∈o.after,Region.binds .any e=true->bw.getD e.on false=true)->ordB ops n j i=true->bw.getD j false=true
 | 0,j,i,o,_,_,h=>by simp [ordB] at h
 | n + 1,j,i,o,ho,gD,h=>by
  simp only [ordB,ho,List.any_eq_true,bA,Bool.or_eq_true] at h;obtain ⟨e,he,hb,hj⟩:=h;have LN:e∈o.after:=sU he;have h1:=gD e LN hb;rcases hj with hj | hj
  ·have:e.on=j:=sU hj;rw [<- this];exact h1
  ·cases Ta:ops[e.on]? with
   | none=>
    cases n with
    | zero=>simp [ordB] at hj
    | succ n=>simp [ordB,Ta] at hj
   | some o'=>
    have hg:bw.getD e.on true=true:=by grind
    exact kj hd n j e.on o' Ta (hd e.on o' Ta hg) hj
theorem u9 (hc:pE ops W π=true):∀ j i x y,π j < π i->ops[i]? = some x->ops[j]? = some y->nO x.op=true->W j=false:=by
 simp only [pE,bA,List.all_eq_true,List.mem_range] at hc;intro j i x y Lu hx hy hL;have hj:=(Array.getElem?_eq_some_iff.1 hy).1;have:=hc.2 i (Array.getElem?_eq_some_iff.1 hx).1;simp only [hx,bA,Bool.or_eq_true,hL,Bool.not_true,Bool.false_eq_true,false_or,List.all_eq_true,List.mem_range,Bool.not_eq_true'] at this;rcases this.2 j hj with h1 | h1
 ·have:¬ Nat.blt (π j) (π i)=true:=by simp [h1]
  simp at this;omega
 ·exact h1
theorem tD (hc:pE ops W π=true):∀ i x,ops[i]? = some x->∀ e∈x.after,Region.binds .any e=true->π e.on < π i/\e.on < ops.size:=by
 simp only [pE,bA,List.all_eq_true,List.mem_range] at hc;intro i x hx e he hb;have:=hc.2 i (Array.getElem?_eq_some_iff.1 hx).1;simp only [hx,bA,List.all_eq_true,Bool.or_eq_true] at this;have h2:=this.1 e (sU he);rw [hb] at h2;simpa using h2
theorem xj (hc:pE ops W π=true):∀ (j:Nat) (o:Oper) cs b,ops[j]? = some o->o.op ≠ .select cs b:=by
 simp only [pE,bA] at hc;exact Region.noSelect_spec hc.1
theorem va:∀ {l:List Nat},l.Pairwise (fun a b=>π a < π b)->∀ {x y:Nat},x∈l->y∈l->x≠y->π x < π y∨π y < π x
 | [],_,x,y,hx,_,_=>by cases hx
 | h :: r,hp,x,y,hx,hy,bd=>by
  have sK:=List.pairwise_cons.1 hp;rcases cY hx with e1 | e1
  ·grind
  ·rcases cY hy with e2 | e2
   ·subst e2;exact .inr (sK.1 _ e1)
   ·exact va sK.2 e1 e2 bd
theorem lQ {Q':Exit->Act->World->Prop} (ex:Nat->Nat->Bool) (Tb:pE ops W π=true) (VZ:xi ops W π ex=true) (hQ:∀ a w,Q a w->Q' .normal a w):∀ (mM:Nat) (bw:Array Bool) (rem:List Nat) (a:Act) (w:World),
  bw.size=ops.size->Dn ops bw->(∀ i,i∈rem↔i < ops.size/\bw.getD i true=false)->rem.Pairwise (fun a b=>π a < π b)->rem.length<=mM->(∀ j∈rem,∀ i∈rem,ex j i=false)->(E7 ops rem->C w)->runT P ops W C Q rem a w ->
   wpAny P .any ops Q' mM bw a w:=by
 have lP:=xj Tb;have HT:=u9 Tb;have E8:=tD Tb;simp only [xi,List.all_eq_true,List.mem_range,Bool.or_eq_true,Bool.not_eq_true'] at VZ;intro mM
 induction mM with
 | zero=>
  intro bw rem a w cQ R5 E9 hp hlen hex hC hr;have:rem=[]:=List.length_eq_zero_iff.1 (by omega);subst this;refine ⟨?_,hQ _ _ hr⟩;rw [List.eq_nil_iff_forall_not_mem];intro i hi;have:=(mem_ready.1 hi)
  grind
 | succ mM ih=>
  intro bw rem a w cQ R5 E9 hp hlen hex hC hr
  have LO:∀ i,i∈Region.ready .any ops bw->i∈rem:=by
   intro i hi;obtain ⟨h1,o,ho,_⟩:=mem_ready.1 hi
   grind
  refine ⟨fun h0=>?_,fun i hi=>?_⟩
  ·cases rem with
   | nil=>exact hQ _ _ hr
   | cons h rem=>
    have hh:=(E9 h).1 (by simp);have hx:ops[h]? = some ops[h]:=Array.getElem?_eq_getElem hh.1
    have:h∈Region.ready .any ops bw:=by
     refine mem_ready.2 ⟨hh.2,_,hx,fun e he hb=>?_⟩;obtain ⟨aq,LP⟩:=E8 h _ hx e he hb;cases hg:bw.getD e.on false
     ·have J3:bw.getD e.on true=false:=by grind
      have hm:=(E9 e.on).2 ⟨by omega,J3⟩;rcases cY hm with e1 | e1
      ·rw [e1] at aq;omega
      ·have:=(List.pairwise_cons.1 hp).1 _ e1;omega
     ·rfl
    rw [h0] at this;cases this
  ·have Eh:=LO i hi;obtain ⟨Tc,o,ho,gD⟩:=mem_ready.1 hi;have j9:=(Array.getElem?_eq_some_iff.1 ho).1
   have Ir:∀ j∈rem,j≠i->π j < π i->mL ops W j i=true:=by
    intro j hj _ aq;rcases VZ i j9 j ((E9 j).1 hj).1 with ((h1 | h1) | h1) | h1
    ·have:¬ Nat.blt (π j) (π i)=true:=by simp [h1]
     simp at this;omega
    ·rw [hex j hj i Eh] at h1;cases h1
    ·grind [kj]
    ·exact h1
   have hst:=ia lP HT ho rem a w hC hr Eh Ir hp;have hnd:rem.Nodup:=mn hp
   have key:∀ a' w',((W i=false->C w->C w')/\runT P ops W C Q (rem.erase i) a' w')->wpAny P .any ops Q' mM (bw.setIfInBounds i true) a' w':=by
    rintro a' w' ⟨HU,kT⟩;refine ih (bw.setIfInBounds i true) (rem.erase i) a' w' (by simp [cQ]) ?_ ?_ (hp.sublist List.erase_sublist) (by rw [List.length_erase_of_mem Eh];omega) (fun j hj i hi=>hex j (List.mem_of_mem_erase hj) i (List.mem_of_mem_erase hi)) ?_ kT
    ·intro k x hx hk e he hb;by_cases sH:k=i
     ·subst sH;rw [ho] at hx;simp only [oI] at hx;subst hx;exact getD_set_true (gD e he hb)
     ·rw [getD_set_ne true (Ne.symm sH)] at hk;exact getD_set_true (R5 k x hx hk e he hb)
    ·intro k;rw [List.Nodup.mem_erase_iff hnd];by_cases sH:k=i
     ·subst sH;simp [cQ,j9]
     ·rw [getD_set_ne true (Ne.symm sH)]
      grind
    ·rintro ⟨l,z,hl,hz,hL⟩;have wv:=List.mem_of_mem_erase hl;have bd:l≠i:=fun e=>by subst e;exact (List.Nodup.mem_erase_iff hnd).1 hl |>.1 rfl
     have Ov:=hC ⟨l,z,wv,hz,hL⟩;refine HU ?_ Ov;rcases Nat.lt_or_ge (π i) (π l) with h1 | h1
     ·exact HT i l z o h1 hz ho hL
     ·have h0:π l≠π i:=by
       intro he;rcases va hp wv Eh bd with h2 | h2<;>omega
      have:=Ir l wv bd (by omega);obtain ⟨_,_,_,h4⟩:=hZ this hz ho
      grind
   unfold wpOp
   grind [dD,wW,jB]
theorem iH {id:Nat} {Q':Exit->Act->World->Prop} {a:Act} {w:World} (hm:P.follows .mixedOrders=true) (hc:zr ops W=true) (hQ:∀ a w,Q a w->Q' .normal a w)
  (hC:C w.drew) (h:runT P ops W C Q (List.range ops.size) a w.drew):(Code.region id ops true).wp P Q' a w:=by
 refine wp_region_any hm ?_;simp only [zr,bA] at hc;refine lQ (π:=fun i=>i) Ou hc.1 hc.2 hQ ops.size (Array.replicate ops.size false) (List.range ops.size) a _ (by simp) ?_ ?_ List.pairwise_lt_range (by simp) (fun _ _ _ _=>rfl) (fun _=>hC) h
 ·intro i o ho hl;have:i < ops.size:=(Array.getElem?_eq_some_iff.1 ho).1;simp [this] at hl
 ·simp_all
end
end Dv
end Go.Proofs.YtfdedoiiahbnnaaGreat
namespace Go.Proofs.YtfdedoiiahbnnaaGreat
namespace Dv
open Go Go.RowKit
structure Dr where
 ops:Array Oper
 W:Nat->Bool
 k:List It
 iA:St
 fin:Option (Bool->List (Nat × Sl)->St->Prop)
structure Dw where
 d:Dr
 E0:En
 wr:World
structure CC (E0:En) (bx:List (List DV)) (wr w:World):Prop where
 o:∀ (i:Nat) b cs,E0.β[i]? = some b->bx[i]? = some cs->cs ≠ []->w.heap[b]? = wr.heap[b]?
 c:∀ x v,E0.c x=some v->w.cell? x=some v
abbrev Dw.C (D:Dw) (w:World):Prop:=CC D.E0 D.d.iA.bx D.wr w
structure qO (E:En) (bx:List (List DV)) (w:World):Prop where
 len:E.β.length=bx.length
 dm:∀ (i:Nat) cs,bx[i]? = some cs->cs ≠ []->∃ b ty arr,E.β[i]? = some b/\w.heap[b]? = some (.cells (List.toArray arr) ty (0,0))/\RvC E cs arr
theorem Env.em {E:En} {bx:List (List DV)} {w:World} (h:Env E bx w):qO E bx w:=⟨h.len,fun i cs hi _=>h.dm i cs hi⟩
def Ow:Option (List DV)->Bool
 | some []=>true
 | _=>false
theorem Is {o:Option (List DV)} (h:Ow o=true):o=some []:=by
 cases o with
 | none=>cases h
 | some l=>
  cases l with
  | nil=>rfl
  | cons _ _=>cases h
def Dw.wc (D:Dw) (E:En):En:=⟨D.E0.c,E.β,E.tk,E.τ⟩
structure eC (X:Ctx) (D:Dw) (c:Bool) (E:En) (s0:List (Nat × Sl)) (st:St) (a:Act) (w:World):Prop where
 rel:Rel X E st a w
 x:Ext D.E0 E
 β:∃ r,E.β=D.E0.β ++ r
 t0:∀ i x,get s0 i=some x->(Holds a.tmps x.gs->∃ v,a.tmps[i]? = some v/\Rv (D.wc E) x.s v)/\(¬ Holds a.tmps x.gs->a.tmps[i]? = some undef)
 cc:c=true->D.C w
def Dw.Q (D:Dw) (X:Ctx) (a:Act) (w:World):Prop:=
 match D.d.fin with
 | none=>kq X D.d.k .normal a w
 | some F=>∃ c E s0 st,eC X D c E s0 st a w/\F c s0 st
def delF {γ:Type _} (d:Nat):List (Nat × Sl)->(List (Nat × Sl)->γ)->γ
 | [],K=>K []
 | p :: r,K=>
  match Nat.beq p.1 d with
  | true=>delF d r K
  | false=>delF d r (fun r'=>K (p :: r'))
theorem mN {γ:Type _} (d:Nat):∀ (l:List (Nat × Sl)) (K:List (Nat × Sl)->γ),delF d l K=K (l.filter fun p=>!Nat.beq p.1 d)
 | [],K=>rfl
 | p :: r,K=>by
  simp only [delF,List.filter_cons];cases h:Nat.beq p.1 d
  ·simp only [Bool.not_false,if_true];rw [mN d r]
  ·simp only [Bool.not_true,Bool.false_eq_true,if_false];rw [mN d r K]
theorem get_filter (d:Nat):∀ (l:List (Nat × Sl)) (i:Nat) (x:Sl),get (l.filter fun p=>!Nat.beq p.1 d) i=some x->i≠d/\get l i=some x
 | [],i,x,h=>by cases h
 | (k,y) :: r,i,x,h=>by
  simp only [List.filter_cons] at h;split at h
  ·rename_i hk
   have hk:k≠d:=by
    rintro rfl;simp at hk
   simp only [cp] at h ⊢;split at h
   ·grind
   ·rename_i sH;rw [ah sH];exact get_filter d r i x h
  ·rename_i hk;have hk:k=d:=sU hk;obtain ⟨h1,h2⟩:=get_filter d r i x h
   grind [cp]
def scal:DV->Bool
 | .v _=>true
 | .ud=>true
 | .loc _ _=>true
 | .el _ _=>true
 | _=>false
def put2 (s0:List (Nat × Sl)) (st:St) (dst:Option Nat) (b:Bool) (gs:List (Nat × Bool)) (s:DV) (K:List (Nat × Sl)->St->Prop):Prop:=
 match dst with
 | none=>K s0 st
 | some d=>
  match st with
  | ⟨sl,bx,tk⟩=>
   match b || scal s with
   | true=>K ((d,⟨gs,s⟩) :: s0) ⟨(d,⟨gs,s⟩) :: sl,bx,tk⟩
   | false=>delF d s0 fun gk=>K gk ⟨(d,⟨gs,s⟩) :: sl,bx,tk⟩
def optP:Option Prop->Prop
 | some p=>p
 | none=>False
def pR (X:Ctx) (D:Dr) (c:Bool) (s0:List (Nat × Sl)) (st:St) (G:List (Nat × Bool)) (op:Op):Option (Bool × DV):=
 match !oW op && (!nO op || c) with
 | false=>none
 | true=>
  match pureT X.P X.T ⟨s0,D.iA.bx,[]⟩ G op with
  | some s=>some (true,s)
  | none=>
   match nO op with
   | true=>none
   | false=>
    match pureT X.P X.T ⟨st.sl,[],[]⟩ G op with
    | some s=>some (false,s)
    | none=>none
def eR (X:Ctx) (D:Dr) (c:Bool) (s0:List (Nat × Sl)) (st:St) (op:Op) (K:Bool->DV->Prop):Option Prop:=
 match oW op with
 | true=>none
 | false=>
  match nO op with
  | true=>
   match c with
   | true=>effR X ⟨s0,D.iA.bx,[]⟩ op (K true)
   | false=>none
  | false=>
   match effR X ⟨s0,[],[]⟩ op (K true) with
   | some p=>some p
   | none=>effR X ⟨st.sl,[],[]⟩ op (K false)
def tE (X:Ctx) (D:Dr) (c:Bool) (i:Nat) (l:List (Nat × Oper)) (f:FuncId) (args:List DV) (dst:Option Nat) (s0:List (Nat × Sl)) (st:St):Prop:=
 Go.Proofs.Enters X.P f/\((∀ p∈l,D.ops[p.1]? = some p.2)->∀ (E0:En) (wr:World),qO E0 D.iA.bx wr->∀ E a w vs,eC X ⟨D,E0,wr⟩ c E s0 st a w->RvL E args vs->Calls X.P f vs.toArray w fun e w'=>∃ v,e = .returned v /\
  (D.W i=false->CC E0 D.iA.bx wr w->CC E0 D.iA.bx wr w')/\runT X.P D.ops D.W (CC E0 D.iA.bx wr) (Dw.Q ⟨D,E0,wr⟩ X) (l.map (·.1)) (a.put dst v) w')
def OpD (X:Ctx) (D:Dr) (c:Bool) (i:Nat) (l:List (Nat × Oper)) (o:Oper) (s0:List (Nat × Sl)) (st:St):Prop:=
 (∀ p∈l,D.ops[p.1]? = some p.2)->∀ (E0:En) (wr:World),qO E0 D.iA.bx wr->∀ E a w,eC X ⟨D,E0,wr⟩ c E s0 st a w->wq X.P o a w fun a' w'=>
  (D.W i=false->CC E0 D.iA.bx wr w->CC E0 D.iA.bx wr w')/\runT X.P D.ops D.W (CC E0 D.iA.bx wr) (Dw.Q ⟨D,E0,wr⟩ X) (l.map (·.1)) a' w'
def effE (X:Ctx) (D:Dr) (c:Bool) (i:Nat) (l:List (Nat × Oper)) (o:Oper) (s0:List (Nat × Sl)) (st:St) (K:Bool->List (Nat × Sl)->St->Prop):Prop:=
 match o.op with
 | .store t x y=>
  match o.dst with
  | some _=>False
  | none=>
   match D.W i with
   | true=>optP (effC X st o (K false s0))
   | false=>
    match stObj st o.op with
    | some j=>
     match Nat.ble D.iA.bx.length j || Ow D.iA.bx[j]? with
     | true=>optP (effC X st o (K c s0))
     | false=>False
    | none=>False
 | .call cl=>
  match cl.callee with
  | .value f=>
   match rv st [] f,argsV st [] cl.args.toList with
   | some (.fn g first captured),some vs=>tE X D c i l g (first ++ vs ++ captured) o.dst s0 st
   | _,_=>False
  | _=>
   match o.dst with
   | some d=>optP (effC X st o fun st'=>delF d s0 fun gk=>K c gk st')
   | none=>False
 | _=>
  match o.dst with
  | some d=>
   match effC X st o fun st'=>
    match get st'.sl d with
    | some ⟨[],.loc j off⟩=>K c ((d,⟨[],.loc j off⟩) :: s0) st'
    | _=>delF d s0 fun gk=>K c gk st' with
   | some p=>p
   | none=>OpD X D c i l o s0 st
  | none=>False
def goD (X:Ctx) (D:Dr):Nat->Bool->List (Nat × Oper)->List (Nat × Sl)->St->Prop
 | _,c,[],s0,st=>
  match D.fin with
  | none=>go X 4000 D.k st
  | some F=>F c s0 st
 | 0,_,_ :: _,_,_=>False
 | n + 1,c,(i,o) :: r,s0,st=>
  match eL X.nt st.sl o.dst && eL X.nt s0 o.dst with
  | false=>False
  | true=>
   match o.guard with
   | none=>
    match oW o.op with
    | true=>effE X D c i r o s0 st fun c' gk st'=>goD X D n c' r gk st'
    | false=>
     match pR X D c s0 st [] o.op with
     | some (b,s)=>put2 s0 st o.dst b [] s (goD X D n c r)
     | none=>optP (eR X D c s0 st o.op fun b s=>put2 s0 st o.dst b [] s (goD X D n c r))
   | some (j,want)=>
    match gslot D.ops.toList j with
    | none=>False
    | some d=>
     match get st.sl d with
     | none=>False
     | some ⟨jq,_⟩=>
      match pR X D c s0 st ((d,want) :: jq) o.op with
      | some (b,s)=>
       match SO ((d,want) :: jq) o.dst with
       | true=>put2 s0 st o.dst b ((d,want) :: jq) s (goD X D n c r)
       | false=>False
      | none=>
       match get st.sl (lastG (d,want) jq).1 with
       | some ⟨[],.v (.bool b)⟩=>
        match jq with
        | []=>Br (b == want)
          (sF st d want fun CD=>resL d want s0 fun s2=>
           match oW o.op with
           | true=>effE X D c i r o s2 CD fun c' gk st'=>goD X D n c' r gk st'
           | false=>optP (eR X D c s2 CD o.op fun b s=>put2 s2 CD o.dst b [] s (goD X D n c r)))
          (match !nO o.op || c with
           | true=>sF st d (!want) fun CD=>resL d (!want) s0 fun s2=>put2 s2 CD o.dst true [] .ud (goD X D n c r)
           | false=>False)
        | _ :: _=>Br (b == (lastG (d,want) jq).2)
          (sF st (lastG (d,want) jq).1 (lastG (d,want) jq).2 fun CD=>resL (lastG (d,want) jq).1 (lastG (d,want) jq).2 s0 fun s2=>goD X D n c ((i,o) :: r) s2 CD)
          (sF st (lastG (d,want) jq).1 (!(lastG (d,want) jq).2) fun CD=>resL (lastG (d,want) jq).1 (!(lastG (d,want) jq).2) s0 fun s2=>goD X D n c ((i,o) :: r) s2 CD)
       | some ⟨[],.ud⟩=>
        match jq with
        | []=>
         match !nO o.op || c with
         | true=>put2 s0 st o.dst true [] .ud (goD X D n c r)
         | false=>False
        | _ :: _=>False
       | _=>False
section
variable {X:Ctx} {D:Dw} {c:Bool} {i:Nat} {s0:List (Nat × Sl)} {st:St} {E:En} {a:Act} {w:World}
theorem LQ (h:Ext D.E0 E):Ext D.E0 (D.wc E):=⟨fun _ _ h=>h,h.β,h.tk⟩
theorem zs (h:Ext D.E0 E):Ext (D.wc E) E:=⟨h.c,fun _ _ h=>h,fun k q hq=>⟨q,hq,.inl ⟨rfl,rfl⟩⟩⟩
theorem vb {E':En} (h:Ext E E'):Ext (D.wc E) (D.wc E'):=⟨fun _ _ h=>h,h.β,h.tk⟩
theorem eC.Td (h:eC X D c E s0 st a w) (hD:qO D.E0 D.d.iA.bx D.wr):Rl (D.wc E) D.d.iA.bx D.C s0 a where
 tm:=h.t0
 dm:=fun i cs hi=>by
  by_cases bd:cs=[]
  ·subst bd;have aq:i < D.E0.β.length:=by rw [hD.len];exact (gS hi).1
   exact ⟨_,[],h.x.β i _ (gE aq),⟨bU _,by simp⟩,fun w' _ j u hj=>by simp at hj⟩
  ·obtain ⟨b,ty,arr,hb,hw,hc⟩:=hD.dm i cs hi bd;exact ⟨b,arr,h.x.β i b hb,hc.mono (LQ h.x),fun w' hC j u hj=>by rw [bV ((hC.o i b cs hb hi bd).trans hw)];simpa using hj⟩
 cc:=fun x v hx w' hC=>hC.c x v hx
theorem eC.V0 (h:eC X D c E s0 st a w):Rl E [] (fun w'=>∀ x v,E.c x=some v->w'.cell? x=some v) st.sl a where
 tm:=h.rel.tm
 dm:=fun i cs hi=>by simp at hi
 cc:=fun x v hx w' hC=>hC x v hx
theorem Bu {s:DV} {v:Value} (hs:scal s=true) (hv:Rv E s v):Rv (D.wc E) s v:=by
 cases s<;>simp [scal] at hs
 ·unfold Rv at hv ⊢;exact hv
 ·unfold Rv at hv ⊢;exact hv
 ·unfold Rv at hv ⊢;exact hv
 ·unfold Rv at hv ⊢;exact hv
theorem fU (h:eC X D c E s0 st a w) {dst:Option Nat} (hd:(eL X.nt st.sl dst && eL X.nt s0 dst)=true) (b:Bool) (gs:List (Nat × Bool)) (s:DV) (v:Value) (Cr:∀ d,dst=some d->∀ p∈gs,p.1≠d)
  (pT:Holds a.tmps gs->Rv E s v) (py:b=true->Holds a.tmps gs->Rv (D.wc E) s v) (Cs:¬ Holds a.tmps gs->v=undef) {K:List (Nat × Sl)->St->Prop} (hk:put2 s0 st dst b gs s K) :
  ∃ gk st',K gk st' /\ eC X D c E gk st' (a.put dst v) w:=by
 simp only [bA] at hd;have h1:=mD h.rel hd.1 gs s v Cr pT Cs
 cases dst with
 | none=>exact ⟨s0,st,hk,h1,h.x,h.β,h.t0,h.cc⟩
 | some d=>
  obtain ⟨sl,bx,tk⟩:=st;have LR:=hd.2;simp only [eL,bA,Nat.blt_eq] at LR
  have hold:∀ i x,i≠d->get s0 i=some x->(Holds (a.put (some d) v).tmps x.gs->∃ u,(a.put (some d) v).tmps[i]? = some u/\Rv (D.wc E) x.s u)/\(¬ Holds (a.put (some d) v).tmps x.gs->(a.put (some d) v).tmps[i]? = some undef):=by
   intro i x hi hx;simp only [Act.put];rw [Array.getElem?_setIfInBounds_ne (Ne.symm hi),iS (jy LR.2 i x hx)];exact h.t0 i x hx
  simp only [put2] at hk;split at hk
  ·rename_i hb;refine ⟨_,_,hk,h1,h.x,h.β,fun i x hx=>?_,h.cc⟩;simp only [cp] at hx;split at hx
   ·rename_i Ea;subst Ea;simp only [oI] at hx;subst hx;have h2:(a.tmps.setIfInBounds d v)[d]? = some v:=by simp [Array.getElem?_setIfInBounds,h.rel.sz,LR.1]
    simp only [Act.put]
    grind [iS,Bu]
   all_goals grind
  ·rw [mN] at hk;refine ⟨_,_,hk,h1,h.x,h.β,fun i x hx=>?_,h.cc⟩;obtain ⟨h3,h4⟩:=get_filter d s0 i x hx;exact hold i x h3 h4
theorem jE (h:eC X D c E s0 st a w) {d:Nat} {b:Bool} (hd:a.tmps[d]? = some (.bool b)):eC X D c E (s0.map (bo d b)) (st.resolve d b) a w where
 rel:=iy h.rel hd
 x:=h.x
 β:=h.β
 t0:=by
  intro i y hy;simp only [get_map,Option.map_eq_some_iff] at hy;obtain ⟨x,hx,rfl⟩:=hy;have ht:=h.t0 i x hx;unfold bo;split
  ·rename_i hi;have j9:i=d:=sU hi;subst j9;exact ⟨fun _=>⟨_,hd,dR rfl⟩,fun hn=>(hn (aM _)).elim⟩
  ·split
   ·grind [Holds,oU,aM]
   ·have he:Holds a.tmps (x.gs.filter fun p=>p != (d,b))↔Holds a.tmps x.gs:=by
     constructor
     ·intro hh p hp;by_cases Eb:p=(d,b)
      ·subst Eb;exact hd
      ·exact hh p (by simp [List.mem_filter,hp,Eb])
     ·intro hh p hp;exact hh p (List.mem_filter.1 hp).1
    simp only [he];exact ht
 cc:=h.cc
theorem mO {nt d:Nat} {b:Bool} {dst:Option Nat} (h:(eL nt st.sl dst && eL nt s0 dst)=true):(eL nt (st.resolve d b).sl dst && eL nt (s0.map (bo d b)) dst)=true:=by
 simp only [bA] at h ⊢;exact ⟨iz h.1,iz (st:=⟨s0,[],[]⟩) h.2⟩
theorem xk (hD:qO D.E0 D.d.iA.bx D.wr) (h:eC X D c E s0 st a w) {G:List (Nat × Bool)} (hG:Holds a.tmps G) {o:Oper} {b:Bool} {s:DV} (hp:pR X D.d c s0 st G o.op=some (b,s)) :
  oW o.op=false/\(nO o.op=true->c=true)/\∃ v,Rv E s v/\(b=true->Rv (D.wc E) s v)/\∀ w,(nO o.op=true->D.C w)->(execOp a.eval o).run X.P w = .ok (.value v) w:=by
 unfold pR at hp;split at hp
 ·cases hp
 ·rename_i hc;simp only [bA,Bool.not_eq_true',Bool.or_eq_true] at hc;refine ⟨hc.1,fun hL=>?_,?_⟩
  ·grind
  ·split at hp
   ·rename_i s' hs;simp only [oI,Prod.mk.injEq] at hp;obtain ⟨rfl,rfl⟩:=hp;obtain ⟨v,hv,hr⟩:=fu (st:=⟨s0,D.d.iA.bx,[]⟩) X.hT (h.Td hD) hG hs;exact ⟨v,Rv.mono (zs h.x) hv,fun _=>hv,hr⟩
   ·split at hp
    ·cases hp
    ·rename_i hL;split at hp
     ·rename_i s' hs;simp only [oI,Prod.mk.injEq] at hp;obtain ⟨rfl,rfl⟩:=hp;obtain ⟨v,hv,hr⟩:=fu (st:=⟨st.sl,[],[]⟩) X.hT h.V0 hG hs
      grind
     ·cases hp
theorem Fa (hD:qO D.E0 D.d.iA.bx D.wr) (h:eC X D c E s0 st a w) {o:Oper} {K:Bool->DV->Prop} (hp:optP (eR X D.d c s0 st o.op K)) :
  oW o.op=false/\(nO o.op=true->c=true)/\∃ b s v,K b s/\Rv E s v/\(b=true->Rv (D.wc E) s v)/\∀ w,(nO o.op=true->D.C w)->(execOp a.eval o).run X.P w = .ok (.value v) w:=by
 unfold eR at hp;split at hp
 ·exact hp.elim
 ·rename_i hE;refine ⟨hE,?_⟩;split at hp
  ·rename_i hL;split at hp
   ·refine ⟨fun _=>rfl,?_⟩
    cases hs:effR X ⟨s0,D.d.iA.bx,[]⟩ o.op (K true) with
    | none=>rw [hs] at hp;exact hp.elim
    | some p=>
     rw [hs] at hp;obtain ⟨s,hk,v,hv,hr⟩:=jA (st:=⟨s0,D.d.iA.bx,[]⟩) (h.Td hD) hs hp;exact ⟨true,s,v,hk,Rv.mono (zs h.x) hv,fun _=>hv,hr⟩
   ·exact hp.elim
  ·rename_i hL;have hno:∀ w':World,nO o.op=true->False:=fun w' h1=>by rw [hL] at h1;cases h1
   refine ⟨fun h1=>(by rw [hL] at h1;cases h1),?_⟩;split at hp
   ·rename_i p hs;obtain ⟨s,hk,v,hv,hr⟩:=jA (st:=⟨s0,[],[]⟩) (C:=D.C) ⟨h.t0,fun i cs hi=>by simp at hi,(h.Td hD).cc⟩ hs hp;exact ⟨true,s,v,hk,Rv.mono (zs h.x) hv,fun _=>hv,fun w' _=>hr w' fun h1=>(hno w' h1).elim⟩
   ·cases hs:effR X ⟨st.sl,[],[]⟩ o.op (K false) with
    | none=>rw [hs] at hp;exact hp.elim
    | some p=>
     rw [hs] at hp;obtain ⟨s,hk,v,hv,hr⟩:=jA (st:=⟨st.sl,[],[]⟩) h.V0 hs hp
     grind
theorem Iu {P:Program} {o:Oper} {K:Act->World->Prop} (h:wq P o a w K):wq P o a w fun a' w'=>K a' w' /\ ∃ u,a'=a.put o.dst u:=by grind [wq]
theorem Bv (h:eC X D c E s0 st a w) {t:Option Nat} {E':En} {st':St} {a':Act} {w':World} (hs:Ef t E w E' w') (hr:Rel X E' st' a' w') (ht:∀ j,t=some j->D.E0.β.length<=j∨D.d.iA.bx[j]? = some []):D.C w->D.C w':=fun hC=>
 ⟨fun i b cs hb ch bd=>by
  have gM:=h.x.β i b hb
  rw [hs.o i _ gM fun e=>by
   rcases ht i e with h1 | h1
   ·have:=(gS hb).1;omega
   ·rw [ch] at h1;simp only [oI] at h1;exact bd h1]
  exact hC.o i b cs hb ch bd,fun x v hx=>hr.env.sub x v (hs.x.c x v (h.x.c x v hx))⟩
theorem qP (h:eC X D c E s0 st a w) {t:Option Nat} {E':En} {st':St} {w':World} {c':Bool} {gk:List (Nat × Sl)} {dst:Option Nat} {u:Value} (hs:Ef t E w E' w') (hr:Rel X E' st' (a.put dst u) w') (pU:c'=true->D.C w')
  (ht0:∀ i x,get gk i=some x->(∃ d,dst=some d/\i=d/\scal x.s=true/\get st'.sl d=some x)∨(get s0 i=some x/\∀ d,dst=some d->i≠d)) (hd:eL X.nt s0 dst=true):eC X D c' E' gk st' (a.put dst u) w' where
 rel:=hr
 x:=by
  refine ⟨fun y v hy=>hs.x.c y v (h.x.c y v hy),fun j b hb=>hs.x.β j b (h.x.β j b hb),fun k q hq=>?_⟩;obtain ⟨q1,h1,h2⟩:=h.x.tk k q hq;obtain ⟨q2,h3,h4⟩:=hs.x.tk k q1 h1
  grind
 β:=by
  obtain ⟨r1,h1⟩:=h.β;obtain ⟨r2,h2⟩:=hs.β
  grind
 t0:=fun i x hx=>by
  rcases ht0 i x hx with ⟨d,rfl,rfl,EO,hg⟩ | ⟨hg,bd⟩
  ·have:=hr.tm _ _ hg
   grind [Bu]
  ·have h1:=h.t0 i x hg
   cases dst with
   | none=>
    refine ⟨fun hh=>?_,h1.2⟩;obtain ⟨v,h2,h3⟩:=h1.1 hh;exact ⟨v,h2,Rv.mono (vb hs.x) h3⟩
   | some d=>
    simp only [eL,bA,Nat.blt_eq] at hd;simp only [Act.put];rw [Array.getElem?_setIfInBounds_ne (Ne.symm (bd d rfl)),iS (jy hd.2 i x hg)];refine ⟨fun hh=>?_,h1.2⟩;obtain ⟨v,h2,h3⟩:=h1.1 hh;exact ⟨v,h2,Rv.mono (vb hs.x) h3⟩
 cc:=pU
def Ox (X:Ctx) (D:Dw) (l:List Nat) (G:Bool->List (Nat × Sl)->St->Prop):Prop:=∀ c s0 st,G c s0 st->∀ E a w,eC X D c E s0 st a w->runT X.P D.d.ops D.d.W D.C (D.Q X) l a w
theorem zt (hD:qO D.E0 D.d.iA.bx D.wr) {l:List (Nat × Oper)} (hl:∀ p∈l,D.d.ops[p.1]? = some p.2) {G:Bool->List (Nat × Sl)->St->Prop} (hG:Ox X D (l.map (·.1)) G) {o:Oper} (hd:(eL X.nt st.sl o.dst && eL X.nt s0 o.dst)=true) (h:eC X D c E s0 st a w)
  (he:effE X D.d c i l o s0 st G):wq X.P o a w fun a' w'=>(D.d.W i=false->D.C w->D.C w')/\runT X.P D.d.ops D.d.W D.C (D.Q X) (l.map (·.1)) a' w':=by
 have Iv:=hd;simp only [bA] at Iv;have hlen:D.E0.β.length=D.d.iA.bx.length:=hD.len
 have core:∀ (K:St->Prop) (p:Prop) (c1:Bool),effC X st o K=some p->p->(c1=true->c=true)->(c1=true∨D.d.W i=false->∀ j,stObj st o.op=some j->D.E0.β.length<=j∨D.d.iA.bx[j]? = some []) ->
   (∀ st',K st' -> ∃ gk,G c1 gk st' /\ ∀ i x,get gk i=some x->(∃ d,o.dst=some d/\i=d/\scal x.s=true/\get st'.sl d=some x)∨(get s0 i=some x/\∀ d,o.dst=some d->i≠d)) ->
   wq X.P o a w fun a' w'=>(D.d.W i=false->D.C w->D.C w')/\runT X.P D.d.ops D.d.W D.C (D.Q X) (l.map (·.1)) a' w':=by
  intro K p c1 hp hpp Ny hst hK;refine jB ?_ (Iu (jC Iv.1 h.rel hp hpp));rintro a' w' ⟨⟨st',E',hk,hr,hs⟩,u,rfl⟩;refine ⟨fun hW=>Bv h hs hr (hst (.inr hW)),?_⟩;obtain ⟨gk,hg,ht0⟩:=hK st' hk;exact hG c1 gk st' hg E' _ w' (qP h hs hr (fun hc=>Bv h hs hr (hst (.inl hc)) (h.cc (Ny hc))) ht0 Iv.2)
 have J4:(∀ t x y,o.op ≠ .store t x y)->∀ j,stObj st o.op=some j->D.E0.β.length<=j∨D.d.iA.bx[j]? = some []:=by simp_all [stObj]
 have Oy:∀ (d:Nat) (st':St),o.dst=some d->∀ i x,get (s0.filter fun p=>!Nat.beq p.1 d) i=some x->(∃ d,o.dst=some d/\i=d/\scal x.s=true/\get st'.sl d=some x)∨(get s0 i=some x/\∀ d,o.dst=some d->i≠d):=by
  intro d st' iI i x hx;obtain ⟨h1,h2⟩:=get_filter d s0 i x hx
  grind
 unfold effE at he;split at he
 ·rename_i t x y pW;split at he
  ·exact he.elim
  ·rename_i iI;have ER:∀ st':St,∀ i x,get s0 i=some x->(∃ d,o.dst=some d/\i=d/\scal x.s=true/\get st'.sl d=some x)∨(get s0 i=some x/\∀ d,o.dst=some d->i≠d):=fun st' i x hx=>.inr ⟨hx,fun d hd=>by rw [iI] at hd;cases hd⟩;split at he
   ·rename_i hW
    cases hp:effC X st o (G false s0) with
    | none=>rw [hp] at he;exact he.elim
    | some p=>
     rw [hp] at he;exact core _ p false hp he (by intro h;cases h) (by rintro (h1 | h1);cases h1;rw [hW] at h1;cases h1) fun st' hk=>⟨s0,hk,ER st'⟩
   ·split at he
    ·rename_i j hj;split at he
     ·rename_i fL
      have fL:D.d.iA.bx.length<=j∨D.d.iA.bx[j]? = some []:=by
       rcases Bool.or_eq_true _ _ |>.mp fL with h1 | h1
       ·exact .inl (sU h1)
       ·exact .inr (Is h1)
      cases hp:effC X st o (G c s0) with
      | none=>rw [hp] at he;exact he.elim
      | some p=>
       rw [hp] at he;exact core _ p c hp he id (fun _ j' gM=>by rw [hj] at gM;cases gM;rw [hlen];exact fL) fun st' hk=>⟨s0,hk,ER st'⟩
     ·exact he.elim
    ·exact he.elim
 ·rename_i cl pW;split at he
  ·rename_i f pF;split at he
   ·rename_i g first captured vs hf wv
    obtain ⟨iV,Fb⟩:=he;have ir:=h.rel.rl;have e1:=aP ir hf;unfold Rv at e1;obtain ⟨l1,r1,e1,wu,hr1⟩:=e1;have hargs:=fq ir (aM _) _ _ wv;obtain ⟨dst,op,ty,pos,after,gu⟩:=o;obtain ⟨callee,args,argTypes⟩:=cl;simp only at pW pF;subst pW pF
    have hr:(execOp a.eval ⟨dst,.call ⟨.value f,args,argTypes⟩,ty,pos,after,gu⟩).run X.P w = .ok (.enter g (l1 ++ args.toList.map a.eval ++ r1).toArray) w:=by
     have e3:(l1.toArray ++ args.map a.eval ++ r1.toArray)=(l1 ++ args.toList.map a.eval ++ r1).toArray:=by apply Array.ext';simp
     simp only [execOp,resolve,e1,Deferred.ofValue,Sem.run_bind,Sem.run_pure,Result.andThen_ok,invoke,e3];exact iV _ _
    unfold wq;rw [hr];exact Fb hl D.E0 D.wr hD E a w _ h ((wu.append hargs).append hr1)
   ·exact he.elim
  ·split at he
   ·rename_i d iI
    cases hp:effC X st o (fun st'=>delF d s0 fun gk=>G c gk st') with
    | none=>rw [hp] at he;exact he.elim
    | some p=>
     rw [hp] at he;refine core _ p c hp he id (fun _=>J4 (fun t x y h1=>by rw [pW] at h1;cases h1)) fun st' hk=>?_;rw [mN] at hk;exact ⟨_,hk,Oy d st' iI⟩
   ·exact he.elim
 ·rename_i y4 JS;split at he
  ·rename_i d iI
   cases hp:effC X st o (fun st'=>
    match get st'.sl d with
    | some ⟨[],.loc j off⟩=>G c ((d,⟨[],.loc j off⟩) :: s0) st'
    | _=>delF d s0 fun gk=>G c gk st') with
   | none=>rw [hp] at he;exact he hl D.E0 D.wr hD E a w h
   | some p=>
    rw [hp] at he;refine core _ p c hp he id (fun _=>J4 y4) fun st' hk=>?_;split at hk
    ·rename_i j off hg;refine ⟨_,hk,fun i x hx=>?_⟩;simp only [cp] at hx;split at hx
     ·rename_i Ea;simp only [oI] at hx;subst hx;exact .inl ⟨d,iI,Ea.symm,rfl,hg⟩
     all_goals grind
    ·rw [mN] at hk;exact ⟨_,hk,Oy d st' iI⟩
  ·exact he.elim
theorem eM (hD:qO D.E0 D.d.iA.bx D.wr):∀ n c l s0 st,goD X D.d n c l s0 st->(∀ p∈l,D.d.ops[p.1]? = some p.2)->∀ E a w,eC X D c E s0 st a w->runT X.P D.d.ops D.d.W D.C (D.Q X) (l.map (·.1)) a w
 | n,c,[],s0,st,hg,hl=>by
  intro E a w h;have hg:(match D.d.fin with | none=>go X 4000 D.d.k st | some F=>F c s0 st):=by cases n<;>simpa only [goD] using hg
  show D.Q X a w;unfold Dw.Q
  cases hf:D.d.fin with
  | none=>
   rw [hf] at hg;exact go_sound 4000 _ _ hg E a w h.rel
  | some F=>
   rw [hf] at hg;exact ⟨c,E,s0,st,h,hg⟩
 | 0,c,_ :: _,s0,st,hg,_=>by exact hg.elim
 | n + 1,c,(i,o) :: r,s0,st,hg,hl=>by
  intro E a w h;have ho:D.d.ops[i]? = some o:=hl (i,o) (by simp);have wv:∀ p∈r,D.d.ops[p.1]? = some p.2:=fun p hp=>hl p (gy _ hp);simp only [List.map_cons];have ih:∀ c s0 st,goD X D.d n c r s0 st->∀ E a w,eC X D c E s0 st a w->runT X.P D.d.ops D.d.W D.C (D.Q X) (r.map (·.1)) a w:=fun c s0 st hg=>eM hD n c r s0 st hg wv;have ihG:Ox X D (r.map (·.1)) (fun c s0 st=>goD X D.d n c r s0 st):=fun c s0 st hg=>ih c s0 st hg;simp only [goD,Be,uW] at hg;split at hg
  ·exact hg.elim
  ·rename_i hd
   have fR:∀ (v:Value) gk st',oW o.op=false->Yl X.P D.d.ops D.C o v a->(nO o.op=true->c=true)->goD X D.d n c r gk st' -> eC X D c E gk st' (a.put o.dst v) w ->
     runT X.P D.d.ops D.d.W D.C (D.Q X) (i :: r.map (·.1)) a w:=by
    intro v gk st' hE hy gL qE bD;simp only [runT,ho];rw [ah (by simp [hE])];exact ⟨v,hy,fun hL=>h.cc (gL hL),ih c gk st' qE E _ w bD⟩
   have fS:∀ gk st',oW o.op=true->Region.wanted o (yielded D.d.ops a.tmps)=false->goD X D.d n c r gk st' -> eC X D c E gk st' (a.put o.dst undef) w ->
     runT X.P D.d.ops D.d.W D.C (D.Q X) (i :: r.map (·.1)) a w:=by
    intro gk st' hE hw qE bD;simp only [runT,ho];rw [zIfP hE];unfold dD;rw [ah (by simp [hw])];exact ⟨fun _ h=>h,ih c gk st' qE E _ w bD⟩
   have fE:∀ gk st',oW o.op=true->Region.wanted o (yielded D.d.ops a.tmps)=true->(eL X.nt st'.sl o.dst && eL X.nt gk o.dst)=true->effE X D.d c i r o gk st' (fun c' gk st'=>goD X D.d n c' r gk st')->eC X D c E gk st' a w ->
     runT X.P D.d.ops D.d.W D.C (D.Q X) (i :: r.map (·.1)) a w:=by
    intro gk st' hE hw Iv he bD;simp only [runT,ho];rw [zIfP hE];unfold dD;rw [zIfP hw];exact zt hD wv ihG Iv bD he
   have fP:∀ gk st',Region.wanted o (yielded D.d.ops a.tmps)=true->(eL X.nt st'.sl o.dst && eL X.nt gk o.dst)=true->optP (eR X D.d c gk st' o.op fun b s=>put2 gk st' o.dst b [] s (goD X D.d n c r))->eC X D c E gk st' a w ->
     runT X.P D.d.ops D.d.W D.C (D.Q X) (i :: r.map (·.1)) a w:=by
    intro gk st' hw Iv he bD;obtain ⟨hE,gL,b,s,v,hk,hv,py,bO⟩:=Fa hD bD he;obtain ⟨s1,nG,ml,dh⟩:=fU bD Iv b [] s v (fun _ _ p hp=>by cases hp) (fun _=>hv) (fun hb _=>py hb) (fun hn=>(hn (aM _)).elim) hk;exact fR v s1 nG hE (.inl ⟨hw,bO⟩) gL ml dh
   have V1:∀ gk st',(eL X.nt st'.sl o.dst && eL X.nt gk o.dst)=true->eC X D c E gk st' a w->put2 gk st' o.dst true [] .ud (goD X D.d n c r)->∃ s1 nG,goD X D.d n c r s1 nG/\eC X D c E s1 nG (a.put o.dst undef) w:=by
    intro gk st' Iv bD hk;exact fU bD Iv true [] .ud undef (fun _ _ p hp=>by cases hp) (fun _=>oU E) (fun _ _=>oU _) (fun hn=>(hn (aM _)).elim) hk
   split at hg
   ·rename_i Il;have hw:Region.wanted o (yielded D.d.ops a.tmps)=true:=by simp [Region.wanted,Il]
    split at hg
    ·rename_i hE;exact fE s0 st hE hw hd hg h
    ·split at hg
     ·rename_i b s hs;obtain ⟨hE,gL,v,hv,py,bO⟩:=xk hD h (aM _) hs;obtain ⟨s1,nG,ml,dh⟩:=fU h hd b [] s v (fun _ _ p hp=>by cases hp) (fun _=>hv) (fun hb _=>py hb) (fun hn=>(hn (aM _)).elim) hg;exact fR v s1 nG hE (.inl ⟨hw,bO⟩) gL ml dh
     ·exact fP s0 st hw hd hg h
   ·rename_i j want Il;split at hg
    ·exact hg.elim
    ·rename_i d Cr;split at hg
     ·exact hg.elim
     ·rename_i jq sd J2;have qJ:=wanted_spec h.rel Il Cr J2;have zu:¬ Holds a.tmps ((d,want) :: jq)->Region.wanted o (yielded D.d.ops a.tmps)=false:=by grind
      split at hg
      ·rename_i b s hs;split at hg
       case h_2=>exact hg.elim
       rename_i ei;have Oz:=qI ei;by_cases hh:Holds a.tmps ((d,want) :: jq)
       ·obtain ⟨hE,gL,v,hv,py,bO⟩:=xk hD h hh hs;obtain ⟨s1,nG,ml,dh⟩:=fU h hd b _ s v Oz (fun _=>hv) (fun hb _=>py hb) (fun hn=>(hn hh).elim) hg;exact fR v s1 nG hE (.inl ⟨qJ.2 hh,bO⟩) gL ml dh
       ·obtain ⟨s1,nG,ml,dh⟩:=fU h hd b _ s undef Oz (fun hn=>(hh hn).elim) (fun _ hn=>(hh hn).elim) (fun _=>rfl) hg;have gL:oW o.op=false/\(nO o.op=true->c=true):=by grind [pR]
        exact fR undef s1 nG gL.1 (.inr ⟨zu hh,rfl⟩) gL.2 ml dh
      ·split at hg
       ·rename_i b gj;have ht0:=w9 h.rel gj
        cases jq with
        | nil=>
         simp only [lastG] at gj ht0;cases Bt:(b == want)
         ·have zl:b = !want:=by cases b<;>cases want<;>simp_all
          have hg:=hg.f Bt
          have hn:Region.wanted o (yielded D.d.ops a.tmps)=false:=by
           refine zu fun hh=>?_;have:=hh (d,want) (by simp)
           grind
          have hr:=jE (d:=d) (b:=!want) h (by rw [ht0,zl]);split at hg
          ·rename_i gL
           have LS:nO o.op=true->c=true:=by
            intro hL;simpa [hL] using gL
           obtain ⟨s1,nG,ml,dh⟩:=V1 _ _ (mO hd) hr hg;cases hE:oW o.op
           ·exact fR undef s1 nG hE (.inr ⟨hn,rfl⟩) LS ml dh
           ·exact fS s1 nG hE hn ml dh
          ·exact hg.elim
         ·have EY:b=want:=sU Bt;have hg:=hg.t Bt
          grind [gW,aM,jE,mO]
        | cons g1 gr=>
         have key:∀ e,a.tmps[(lastG (d,want) (g1 :: gr)).1]? = some (.bool e)->goD X D.d n c ((i,o) :: r) (s0.map (bo (lastG (d,want) (g1 :: gr)).1 e)) (st.resolve (lastG (d,want) (g1 :: gr)).1 e)->_:=
          fun e Bi qE=>eM hD n c ((i,o) :: r) _ _ qE hl E a w (jE h Bi)
         cases Bt:(b == (lastG (d,want) (g1 :: gr)).2)
         ·have hg:=hg.f Bt;have zl:b = !(lastG (d,want) (g1 :: gr)).2:=by cases b<;>cases h0:(lastG (d,want) (g1 :: gr)).2<;>simp_all
          exact key _ (by rw [ht0,zl]) hg
         all_goals simp_all
       ·rename_i gj
        cases jq with
        | nil=>
         have ht0:=EW h.rel gj;simp only [lastG] at ht0
         have hn:Region.wanted o (yielded D.d.ops a.tmps)=false:=by
          refine zu fun hh=>?_;have:=hh (d,want) (by simp);simp only at this;rw [ht0] at this;simp [undef] at this
         simp only at hg;split at hg
         ·rename_i gL
          have LS:nO o.op=true->c=true:=by
           intro hL;simpa [hL] using gL
          obtain ⟨s1,nG,ml,dh⟩:=V1 _ _ hd h hg;cases hE:oW o.op
          ·exact fR undef s1 nG hE (.inr ⟨hn,rfl⟩) LS ml dh
          ·exact fS s1 nG hE hn ml dh
         ·exact hg.elim
        | cons g1 gr=>exact hg.elim
       ·exact hg.elim
def Te (X:Ctx) (o:Oper) (st st':St):Prop:=∀ E a w,Rel X E st a w->wq X.P o a w fun a' w'=>∃ E',Rel X E' st' a' w' /\ Ef none E w E' w'
theorem Te.g {o:Oper} {k:List It} {st st':St} (h:Te X o st st') (hk:go X 4000 k st'):EC X o k st:=fun E a w hr=>by
 refine wW (jB ?_ (h E a w hr));rintro a' w' ⟨E',kT,_⟩;exact go_sound 4000 _ _ hk E' a' w' kT
def nOps:Nat->List Oper->List (Nat × Oper)
 | _,[]=>[]
 | i,o :: r=>(i,o) :: nOps (i + 1) r
theorem qQ:∀ (l:List Oper) (i:Nat) (p:Nat × Oper),p∈nOps i l->i<=p.1/\l[p.1 - i]? = some p.2
 | [],_,_,h=>by cases h
 | o :: r,i,p,h=>by
  rcases cY h with h | h
  ·subst h;simp
  ·have:=qQ r (i + 1) p h
   grind
theorem qR:∀ (l:List Oper) (i:Nat),(nOps i l).map (·.1)=List.range' i l.length
 | [],_=>rfl
 | o :: r,i=>by simp only [nOps,List.map_cons,qR r (i + 1),List.length_cons,List.range'_succ]
theorem qS (hr:Rel X E st a w) {ops:Array Oper} {W:Nat->Bool} {k:List It}:eC X ⟨⟨ops,W,k,st,none⟩,E,w⟩ true E st.sl st a w where
 rel:=hr
 x:=Ext.refl E
 β:=⟨[],by simp⟩
 t0:=hr.tm
 cc:=fun _=>⟨fun _ _ _ _ _ _=>rfl,hr.env.sub⟩
theorem vc {id:Nat} {ops:Array Oper} {k:List It} {st:St} (W:Nat->Bool) (hm:X.P.follows .mixedOrders=true) (hc:zr ops W=true)
  (h:goD X ⟨ops,W,k,st,none⟩ 3000 true (nOps 0 ops.toList) st.sl st):qv X id ops k st:=by
 intro E a w hr;have kT:=kf hr;have hs:=qS kT (ops:=ops) (W:=W) (k:=k);refine iH (C:=CC E st.bx w.drew) (W:=W) (Q:=kq X k .normal) hm hc (fun a w h=>h) (hs.cc rfl) ?_;have:=eM (D:=⟨⟨ops,W,k,st,none⟩,E,w.drew⟩) kT.env.em 3000 true _ _ _ h (fun p hp=>by simpa using (qQ _ _ p hp).2) E a w.drew hs;rw [qR] at this;rw [List.range_eq_range'];simp only [Array.length_toList] at this;exact this
def maskL:List Nat->Nat->List (List DV)->List (List DV)
 | _,_,[]=>[]
 | m,i,cs :: r=>(match m.contains i with | true=>[] | false=>cs) :: maskL m (i + 1) r
theorem n4 (m:List Nat):∀ (l:List (List DV)) (i:Nat),(maskL m i l).length=l.length
 | [],_=>rfl
 | cs :: r,i=>by simp [maskL,n4 m r]
theorem n5 (m:List Nat):∀ (l:List (List DV)) (i j:Nat) cs,(maskL m i l)[j]? = some cs->cs=[]∨l[j]? = some cs
 | [],_,_,_,h=>by simp [maskL] at h
 | c :: r,i,0,cs,h=>by grind [maskL]
 | c :: r,i,j + 1,cs,h=>by
  simp only [maskL,List.getElem?_cons_succ] at h ⊢;exact n5 m r (i + 1) j cs h
theorem fM {id:Nat} {ops:Array Oper} {k:List It} {st:St} (m:List Nat) (W:Nat->Bool) (hm:X.P.follows .mixedOrders=true) (hc:zr ops W=true)
  (h:goD X ⟨ops,W,k,⟨st.sl,maskL m 0 st.bx,st.tk⟩,none⟩ 3000 true (nOps 0 ops.toList) st.sl st):qv X id ops k st:=by
 intro E a w hr;have kT:=kf hr;have hs:eC X ⟨⟨ops,W,k,⟨st.sl,maskL m 0 st.bx,st.tk⟩,none⟩,E,w.drew⟩ true E st.sl st a w.drew:=⟨kT,Ext.refl E,⟨[],by simp⟩,kT.tm,fun _=>⟨fun _ _ _ _ _ _=>rfl,kT.env.sub⟩⟩;refine iH (C:=CC E (maskL m 0 st.bx) w.drew) (W:=W) (Q:=kq X k .normal) hm hc (fun a w h=>h) (hs.cc rfl) ?_
 have LU:qO E (maskL m 0 st.bx) w.drew:=⟨by rw [n4];exact kT.env.len,fun i cs hi bd=>by
  rcases n5 m _ _ _ _ hi with h1 | h1
  ·exact (bd h1).elim
  ·exact kT.env.dm i cs h1⟩
 have:=eM (D:=⟨⟨ops,W,k,⟨st.sl,maskL m 0 st.bx,st.tk⟩,none⟩,E,w.drew⟩) LU 3000 true _ _ _ h (fun p hp=>by simpa using (qQ _ _ p hp).2) E a w.drew hs;rw [qR] at this;rw [List.range_eq_range'];simp only [Array.length_toList] at this;exact this
def OA (ops:Array Oper) (i:Nat):Bool:=
 match ops.toList[i]? with
 | some o=>
  match o.op with
  | .store ..=>true
  | _=>false
 | none=>false
theorem Iw {id:Nat} {ops:Array Oper} {k:List It} {st:St} (hm:X.P.follows .mixedOrders=true) (hc:zr ops (OA ops)=true)
  (h:goD X ⟨ops,OA ops,k,st,none⟩ 3000 true (nOps 0 ops.toList) st.sl st):qv X id ops k st:=vc (OA ops) hm hc h
theorem mP {D:Dr} {f:FuncId} {args ba:List DV} {d:Nat} {r:List (Nat × Oper)} (iV:Enters X.P f) (hd:(eL X.nt st.sl (some d) && eL X.nt s0 (some d))=true) {Φ:DV->List (List DV)->List TkE->Prop} (hc:Ev X.P f ba [] [] Φ) (ha:CcL [] 0 0 0 ba args)
  (hk:∀ zw,Φ zw [] []->put2 s0 st (some d) false [] zw (goD X D 3000 c r)) (hst:X.still=false:=by exact rfl):tE X D c i r f args (some d) s0 st:=by
 refine ⟨iV,fun hl E0 wr hD E a w vs h hv=>(oY h.rel hst hc ha hv).mono ?_⟩;rintro e w' ⟨v,E',zw,rfl,bD,hr,hΦ,hm,hx,hβ⟩
 have hh:∀ b,b < w.heap.size->w'.heap[b]? = w.heap[b]?:=fun b hb=>hm.block b hb (by
  rintro (h1 | ⟨y,h1,_⟩)
  ·simp [En.cl] at h1
  ·simp [En.cl] at h1)
 have hs:Ef none E w E' w':=⟨hx,⟨[],by rw [hβ];simp⟩,fun j b hb _=>hh b (h.rel.env.aQ (mG hb))⟩;have hC:=Bv h hs bD (fun j hj=>by cases hj);refine ⟨v,rfl,fun _=>hC,?_⟩;have xl:eC X ⟨D,E0,wr⟩ c E' s0 st (a.put none v) w':=qP h hs bD (fun h1=>hC (h.cc h1)) (fun i x hx=>.inr ⟨hx,fun d hd=>by cases hd⟩) rfl;obtain ⟨s1,nG,ml,dh⟩:=fU xl hd false [] zw v (fun _ _ p hp=>by cases hp) (fun _=>hr) (fun hb=>by cases hb) (fun hn=>(hn (aM _)).elim) (hk zw hΦ);exact eM (D:=⟨D,E0,wr⟩) hD 3000 c r _ _ ml hl E' _ w' dh
theorem Ix {D:Dr} {f:FuncId} {args ba:List DV} {d:Nat} {r:List (Nat × Oper)} {zw:DV} (iV:Enters X.P f) (hc:aV X.P f ba zw) (ha:CcL [] 0 0 0 ba args) (hd:(eL X.nt st.sl (some d) && eL X.nt s0 (some d))=true)
  (hk:put2 s0 st (some d) false [] zw (goD X D 3000 c r)) (hst:X.still=false:=by exact rfl):tE X D c i r f args (some d) s0 st:=
 mP iV hd hc ha (fun _ hr=>hr ▸ hk) hst
end
end Dv
end Go.Proofs.YtfdedoiiahbnnaaGreat
namespace Go.Proofs.YtfdedoiiahbnnaaGreat
namespace Dv
open Go Go.RowKit
section
variable {P:Program} {ops:Array Oper} {C:World->Prop} {Q:Act->World->Prop} {W:Nat->Bool} {π π':Nat->Nat}
theorem CE {o:Oper} {i:Nat} {a:Act} {w:World} {K:Act->World->Prop} {Q':Exit->Act->World->Prop} (ho:ops[i]? = some o) (h:dD P ops o a w K):wpOp P ops Q' i K a w:=by
 unfold wpOp
 grind [dD,wW]
def chkT (ops:Array Oper) (x y:Nat):Bool:=
 (List.range ops.size).all fun i=>Nat.beq i x || Nat.beq i y ||
  match ops[i]? with
  | some o=>!oW o.op || ordB ops ops.size x i
  | none=>false
def pG (x y:Nat):Nat->Nat->Bool:=fun j i=>Nat.beq j x && Nat.beq i y
theorem zx {x y:Nat} {Q':Exit->Act->World->Prop} (Ei:x≠y) (Nz:pE ops W π=true) (OB:xi ops W π (pG x y)=true) (R6:pE ops W π'=true) (OC:xi ops W π' (pG y x)=true) (hT:chkT ops x y=true)
  (hQ:∀ a w,Q a w->Q' .normal a w):∀ (mM:Nat) (bw:Array Bool) (r1 r2:List Nat) (a:Act) (w:World),
  bw.size=ops.size->Dn ops bw->(∀ i,i∈r1↔i < ops.size/\bw.getD i true=false)->(∀ i,i∈r2↔i < ops.size/\bw.getD i true=false)->r1.Pairwise (fun a b=>π a < π b)->r2.Pairwise (fun a b=>π' a < π' b)->r1.length<=mM ->
   x∈r1->y∈r1->C w->runT P ops W C Q r1 a w->runT P ops W C Q r2 a w->wpAny P .any ops Q' mM bw a w:=by
 have lP:=xj Nz;have HT:=u9 Nz;have LV:=u9 R6;have Tf:=OB;have Tg:=OC;simp only [xi,List.all_eq_true,List.mem_range,Bool.or_eq_true,Bool.not_eq_true'] at OB OC;intro mM
 induction mM with
 | zero=>grind
 | succ mM ih=>
  intro bw r1 r2 a w cQ R5 iu zi Ej LW hlen hx hy hC hr1 lp;have V2:∀ i,i∈r1↔i∈r2:=fun i=>(iu i).trans (zi i).symm;have CF:r1.Nodup:=mn Ej;have sL:r2.Nodup:=mn LW;have E8:=tD Nz;refine ⟨fun h0=>?_,fun i hi=>?_⟩
  ·cases r1 with
   | nil=>cases hx
   | cons h rem=>
    have hh:=(iu h).1 (by simp);have V3:ops[h]? = some ops[h]:=Array.getElem?_eq_getElem hh.1
    have:h∈Region.ready .any ops bw:=by
     refine mem_ready.2 ⟨hh.2,_,V3,fun e he hb=>?_⟩;obtain ⟨aq,LP⟩:=E8 h _ V3 e he hb;cases hg:bw.getD e.on false
     ·have J3:bw.getD e.on true=false:=by grind
      have hm:=(iu e.on).2 ⟨by omega,J3⟩;rcases cY hm with e1 | e1
      ·rw [e1] at aq;omega
      ·have:=(List.pairwise_cons.1 Ej).1 _ e1;omega
     ·rfl
    rw [h0] at this;cases this
  ·obtain ⟨Tc,o,ho,gD⟩:=mem_ready.1 hi;have j9:=(Array.getElem?_eq_some_iff.1 ho).1;have Eh:i∈r1:=(iu i).2 ⟨j9,Tc⟩;have Iy:i∈r2:=(V2 i).1 Eh;have fh:∀ j,j∈r1->ordB ops ops.size j i=true->False:=by grind [kj]
   have Iz:i≠y->∀ j∈r1,j≠i->π j < π i->mL ops W j i=true:=by
    intro NA j hj _ aq;rcases OB i j9 j ((iu j).1 hj).1 with ((h1 | h1) | h1) | h1
    ·have:¬ Nat.blt (π j) (π i)=true:=by simp [h1]
     simp at this;omega
    ·simp [pG] at h1;exact (NA h1.2).elim
    ·exact (fh j hj h1).elim
    ·exact h1
   have LX:i≠x->∀ j∈r2,j≠i->π' j < π' i->mL ops W j i=true:=by
    intro HV j hj _ aq;rcases OC i j9 j ((zi j).1 hj).1 with ((h1 | h1) | h1) | h1
    ·have:¬ Nat.blt (π' j) (π' i)=true:=by simp [h1]
     simp at this;omega
    ·simp [pG] at h1;exact (HV h1.2).elim
    all_goals grind
   have LY:Dn ops (bw.setIfInBounds i true):=by
    intro k z hz hk e he hb;by_cases sH:k=i
    ·subst sH;rw [ho] at hz;simp only [oI] at hz;subst hz;exact getD_set_true (gD e he hb)
    ·rw [getD_set_ne true (Ne.symm sH)] at hk;exact getD_set_true (R5 k z hz hk e he hb)
   have Bw:∀ (rem:List Nat),rem.Nodup->(∀ i,i∈rem↔i < ops.size/\bw.getD i true=false)->∀ k,k∈rem.erase i↔k < ops.size/\(bw.setIfInBounds i true).getD k true=false:=by
    intro rem hnd E9 k;rw [List.Nodup.mem_erase_iff hnd];by_cases sH:k=i
    ·subst sH;simp [cQ,j9]
    ·rw [getD_set_ne true (Ne.symm sH)]
     grind
   refine CE ho ?_;by_cases HV:i=x
   ·subst HV;have hst:=ia lP HT ho r1 a w (fun _=>hC) hr1 Eh (Iz Ei) Ej;refine hY ?_ hst;rintro a' w' ⟨HU,kT⟩;refine lQ (C:=C) (pG i y) Nz Tf hQ mM _ (r1.erase i) a' w' (by simp [cQ]) LY (Bw r1 CF iu) (Ej.sublist List.erase_sublist) (by rw [List.length_erase_of_mem Eh];omega) ?_ ?_ kT
    ·intro j hj k _;cases gM:pG i y j k
     ·rfl
     ·simp_all [pG]
    ·rintro ⟨l,z,hl,hz,hL⟩;refine HU ?_ hC;have wv:=List.mem_of_mem_erase hl;have bd:l≠i:=((List.Nodup.mem_erase_iff CF).1 hl).1;rcases va Ej Eh wv bd.symm with h1 | h1
     ·exact HT i l z o h1 hz ho hL
     ·have:=Iz Ei l wv bd h1;obtain ⟨_,_,_,h4⟩:=hZ this hz ho
      grind
   ·by_cases NA:i=y
    ·subst NA;have hst:=ia lP LV ho r2 a w (fun _=>hC) lp Iy (LX (Ne.symm Ei)) LW;refine hY ?_ hst;rintro a' w' ⟨HU,kT⟩;refine lQ (C:=C) (pG i x) R6 Tg hQ mM _ (r2.erase i) a' w' (by simp [cQ]) LY (Bw r2 sL zi) (LW.sublist List.erase_sublist) ?_ ?_ ?_ kT
     ·have e1:r1.length=r2.length:=(List.perm_iff_count.2 (fun z=>by rw [CF.count,sL.count];simp [V2 z])).length_eq;rw [List.length_erase_of_mem Iy];omega
     ·intro j hj k _;cases gM:pG i x j k
      ·rfl
      ·simp_all [pG]
     ·rintro ⟨l,z,hl,hz,hL⟩;refine HU ?_ hC;have wv:=List.mem_of_mem_erase hl;have bd:l≠i:=((List.Nodup.mem_erase_iff sL).1 hl).1;rcases va LW Iy wv bd.symm with h1 | h1
      ·exact LV i l z o h1 hz ho hL
      ·have:=LX (Ne.symm Ei) l wv bd h1;obtain ⟨_,_,_,h4⟩:=hZ this hz ho
       grind
    ·have S8:oW o.op=false:=by
      simp only [chkT,List.all_eq_true,List.mem_range,Bool.or_eq_true,Nat.beq_eq] at hT
      grind
     obtain ⟨v,Th⟩:=lO lP ho S8 r1 a w hr1 Eh (Iz NA) Ej;have NV:=ia lP HT ho r1 a w (fun _=>hC) hr1 Eh (Iz NA) Ej;have zf:=ia lP LV ho r2 a w (fun _=>hC) lp Iy (LX HV) LW;have ml:=ki Th (fun _=>hC) NV;have Fc:=ki Th (fun _=>hC) zf;refine kh Th (fun _=>hC) ?_
     exact ih _ (r1.erase i) (r2.erase i) _ w (by simp [cQ]) LY (Bw r1 CF iu) (Bw r2 sL zi) (Ej.sublist List.erase_sublist) (LW.sublist List.erase_sublist) (by rw [List.length_erase_of_mem Eh];omega)
      ((List.Nodup.mem_erase_iff CF).2 ⟨Ne.symm HV,hx⟩) ((List.Nodup.mem_erase_iff CF).2 ⟨Ne.symm NA,hy⟩) hC ml.2 Fc.2
end
def selL (ops:List Oper):List Nat->List (Nat × Oper)
 | []=>[]
 | i :: r=>
  match ops[i]? with
  | some o=>(i,o) :: selL ops r
  | none=>selL ops r
theorem Fe {ops:List Oper} {l:List Nat} {p:Nat × Oper} (h:p∈selL ops l):ops[p.1]? = some p.2:=by
 induction l with
 | nil=>cases h
 | cons i r ih=>grind [selL]
def plc:List Nat->Nat->Nat
 | [],_=>0
 | x :: r,i=>if Nat.beq x i then 0 else plc r i + 1
def Ff (ops:Array Oper) (l:List Nat):Bool:=
 (selL ops.toList l).map (·.1) == l && (List.range ops.size).all (fun i=>l.contains i) && l.all (fun i=>Nat.blt i ops.size) && Nat.ble l.length ops.size && R7 (plc l) l
where R7 (f:Nat->Nat):List Nat->Bool
 | []=>true
 | x :: r=>r.all (fun y=>Nat.blt (f x) (f y)) && R7 f r
theorem qT {f:Nat->Nat}:∀ {l:List Nat},Ff.R7 f l=true->l.Pairwise (fun a b=>f a < f b)
 | [],_=>List.Pairwise.nil
 | x :: r,h=>by
  simp only [Ff.R7,bA,List.all_eq_true,Nat.blt_eq] at h;exact List.pairwise_cons.2 ⟨h.1,qT h.2⟩
def OD (ops:Array Oper) (W:Nat->Bool) (l l':List Nat) (x y:Nat):Bool:=
 !Nat.beq x y && Nat.blt x ops.size && Nat.blt y ops.size && Ff ops l && Ff ops l' && pE ops W (plc l) && xi ops W (plc l) (pG x y) && pE ops W (plc l') && xi ops W (plc l') (pG y x) && chkT ops x y
def swp (i j k:Nat):Nat:=
 match Nat.beq k i with
 | true=>j
 | false=>
  match Nat.beq k j with
  | true=>i
  | false=>k
theorem jF (i j k:Nat):swp i j (swp i j k)=k:=by
 have hb:∀ a b:Nat,Nat.beq a b=decide (a=b):=fun a b=>by
  by_cases h:a=b
  ·subst h;simp
  ·rw [decide_eq_false h];cases h1:Nat.beq a b
   ·rfl
   ·exact (h (sU h1)).elim
 grind [swp]
mutual
def renD (f:Nat->Nat):DV->DV
 | .v x=>.v x
 | .ud=>.ud
 | .agg l=>.agg (renL f l)
 | .bW l=>.bW (renL f l)
 | .sl e es tk=>.sl e es tk
 | .pt cs o=>.pt cs o
 | .loc i o=>.loc (f i) o
 | .el i o=>.el (f i) o
 | .ms i e o l c=>.ms (f i) e o l c
 | .fn g l r=>.fn g (renL f l) (renL f r)
 | .lG t x=>.lG t (renD f x)
def renL (f:Nat->Nat):List DV->List DV
 | []=>[]
 | d :: r=>renD f d :: renL f r
end
def renS (f:Nat->Nat):List (Nat × Sl)->List (Nat × Sl)
 | []=>[]
 | (k,⟨gs,s⟩) :: r=>(k,⟨gs,renD f s⟩) :: renS f r
def renO (f:Nat->Nat):List (List DV)->List (List DV)
 | []=>[]
 | cs :: r=>renL f cs :: renO f r
def swL {α:Type} (i j:Nat) (l:List α):List α:=
 match l[i]?,l[j]? with
 | some a,some b=>(l.set i b).set j a
 | _,_=>l
def ej (i j:Nat) (S:St):St:=⟨renS (swp i j) S.sl,swL i j (renO (swp i j) S.bx),S.tk⟩
theorem qU (f:Nat->Nat):∀ (l:List (List DV)) (k:Nat),(renO f l)[k]? = (l[k]?).map (renL f)
 | [],k=>by simp [renO]
 | c :: r,0=>by simp [renO]
 | c :: r,k + 1=>by simp only [renO,List.getElem?_cons_succ];exact qU f r k
theorem di (f:Nat->Nat):∀ (l:List (List DV)),(renO f l).length=l.length
 | []=>rfl
 | c :: r=>by simp [renO,di f r]
theorem xm (f:Nat->Nat):∀ (l:List (Nat × Sl)) (k:Nat),get (renS f l) k=(get l k).map fun x=>⟨x.gs,renD f x.s⟩
 | [],k=>rfl
 | (i,⟨gs,s⟩) :: r,k=>by
  simp only [renS,cp];split
  ·rfl
  ·exact xm f r k
theorem dJ {α:Type} (i j:Nat) (l:List α):(swL i j l).length=l.length:=by
 unfold swL;split<;>simp
theorem er {α:Type} {i j:Nat} {l:List α} (hi:i < l.length) (hj:j < l.length) (k:Nat):(swL i j l)[k]? = l[swp i j k]?:=by
 have hb:∀ a b:Nat,Nat.beq a b=true↔a=b:=fun a b=>by simp
 grind [swL,swp]
theorem IA {α:Type} {i j:Nat} {l:List α} (hi:i < l.length) (hj:j < l.length):swL i j (swL i j l)=l:=by
 apply List.ext_getElem?
 grind [er,dJ,jF]
section
variable {E:En} {i j:Nat}
mutual
theorem Rv.zy (hi:i < E.β.length) (hj:j < E.β.length):∀ {d:DV} {v:Value},Rv E (renD (swp i j) d) v->Rv ⟨E.c,swL i j E.β,E.tk,E.τ⟩ d v
 | .v x,v,h=>by simp only [renD] at h;unfold Rv at h ⊢;exact h
 | .ud,v,h=>by simp only [renD] at h;unfold Rv at h ⊢;exact h
 | .sl e es tk,v,h=>by simp only [renD] at h;unfold Rv at h ⊢;exact h
 | .pt cs o,v,h=>by simp only [renD] at h;unfold Rv at h ⊢;exact h
 | .loc k o,v,h=>by grind [renD,Rv,swL,er]
 | .el k o,v,h=>by grind [renD,Rv,swL,er]
 | .ms k e o l c,v,h=>by grind [renD,Rv,swL,er]
 | .agg l,v,h=>by
  simp only [renD] at h;unfold Rv at h ⊢;obtain ⟨vs,h1,h2,h3⟩:=h;exact ⟨vs,h1,RvL.zy hi hj h2,h3⟩
 | .bW l,v,h=>by
  simp only [renD] at h;unfold Rv at h ⊢;obtain ⟨vs,h1,h2⟩:=h;exact ⟨vs,h1,RvL.zy hi hj h2⟩
 | .fn g l r,v,h=>by
  simp only [renD] at h;unfold Rv at h ⊢;obtain ⟨l',r',h1,h2,h3⟩:=h;exact ⟨l',r',h1,RvL.zy hi hj h2,RvL.zy hi hj h3⟩
 | .lG t x,v,h=>by
  simp only [renD] at h;unfold Rv at h ⊢;obtain ⟨z,h1,h2⟩:=h;exact ⟨z,h1,Rv.zy hi hj h2⟩
theorem RvL.zy (hi:i < E.β.length) (hj:j < E.β.length):∀ {l:List DV} {vs:List Value},RvL E (renL (swp i j) l) vs->RvL ⟨E.c,swL i j E.β,E.tk,E.τ⟩ l vs
 | [],vs,h=>by simp only [renL,RvL] at h ⊢;exact h
 | d :: r,vs,h=>by
  simp only [renL,RvL] at h ⊢;obtain ⟨v,s,h1,h2,h3⟩:=h;exact ⟨v,s,h1,Rv.zy hi hj h2,RvL.zy hi hj h3⟩
end
end
theorem Bz {α:Type} {i j:Nat} {l:List α} (hi:i < l.length) (hj:j < l.length) {x:α}:x∈swL i j l↔x∈l:=by grind [swL,er,dJ,IA]
theorem CG {i j:Nat} {l:List Nat} (hi:i < l.length) (hj:j < l.length) (h:l.Nodup):(swL i j l).Nodup:=by grind [swp,dJ,swL,er,jF]
theorem n7 {P:Program} {ops:Array Oper} {W:Nat->Bool} {C:World->Prop} {Q Q':Act->World->Prop} (hQ:∀ a w,Q a w->Q' a w):∀ {l:List Nat} {a:Act} {w:World},runT P ops W C Q l a w->runT P ops W C Q' l a w
 | [],a,w,h=>hQ _ _ h
 | i :: r,a,w,h=>by
  simp only [runT] at h ⊢;split at h
  ·exact h.elim
  ·split at h
   ·rename_i hE;rw [zIfP hE];exact hY (fun a w hk=>⟨hk.1,n7 hQ hk.2⟩) h
   ·rename_i hE;rw [ah hE];obtain ⟨v,h1,h2,h3⟩:=h;exact ⟨v,h1,h2,n7 hQ h3⟩
section
variable {X:Ctx} {E:En} {S:St} {a:Act} {w:World} {i j:Nat}
theorem xn (hX:X.bt=[]) (h:Rel X E (ej i j S) a w) (EK:X.n0<=i) (wU:X.n0<=j) (hi:i < S.bx.length) (hj:j < S.bx.length):Rel X ⟨E.c,swL i j E.β,E.tk,E.τ⟩ S a w:=by
 have hlen:E.β.length=S.bx.length:=by
  rw [h.env.len];simp only [ej,dJ,di]
 have j9:i < E.β.length:=by rw [hlen];exact hi
 have gM:j < E.β.length:=by rw [hlen];exact hj
 have kS:∀ k,(ej i j S).bx[k]? = (S.bx[swp i j k]?).map (renL (swp i j)):=fun k=>by grind [ej,er,di,qU]
 exact {
  env:={
   len:=by rw [dJ];exact hlen
   tl:=h.env.tl
   dm:=fun k cs hk=>by
    obtain ⟨b,ty,arr,hb,hw,hc⟩:=h.env.dm (swp i j k) (renL (swp i j) cs) (by rw [kS,jF,hk];rfl);exact ⟨b,ty,arr,by rw [er j9 gM];exact hb,hw,RvL.zy j9 gM hc.1,hc.2⟩
   inj:=CG j9 gM h.env.inj
   sub:=h.env.sub
   pc:=fun x v hx hm=>h.env.pc x v hx ((Bz j9 gM).1 hm)
   bZ:=fun k q y hq hy=>by
    rcases h.env.bZ k q y hq hy with h1 | ⟨g,cap,cur,rfl,h1,h2,h3,h4,h5,h6⟩
    ·exact .inl h1
    ·exact .inr ⟨g,cap,cur,rfl,h1,h2,h3,h4,fun hm=>h5 ((Bz j9 gM).1 hm),h6⟩
   gn:=h.env.gn }
  tk:=h.tk
  sz:=h.sz
  tm:=fun k x hx=>by
   have:=h.tm k ⟨x.gs,renD (swp i j) x.s⟩ (by simp only [ej];rw [xm,hx];rfl)
   grind [Rv.zy]
  df:=h.df
  nw:={
   c:=h.nw.c
   cn:=h.nw.cn
   β:=by
    obtain ⟨r,hr,hl⟩:=h.nw.β;have R8:X.E0.β.length=X.n0:=X.s8;refine ⟨(swL i j E.β).drop X.n0,?_,fun b hb=>?_⟩
    ·grind [swL,er,swp]
    ·have hnd:=h.env.inj;obtain ⟨k,hk⟩:=List.mem_iff_getElem?.1 hb;rw [List.getElem?_drop,er j9 gM] at hk;have hge:X.n0<=swp i j (X.n0 + k):=by grind [swp]
     rw [hr,List.getElem?_append_right (by omega)] at hk;exact hl b (mG hk)
   tk:=h.nw.tk
   tn:=h.nw.tn
   l0:=h.nw.l0 }
  fr:=h.fr
  sh:=h.sh
  bt:=.nil hX }
theorem BA (hX:X.bt=[]) (h:Rel X E (ej i j S) a w) (EK:X.n0<=i) (wU:X.n0<=j) (hi:i < S.bx.length) (hj:j < S.bx.length):∃ E',Rel X E' S a w:=⟨_,xn hX h EK wU hi hj⟩
end
def BB (sl:List (Nat × Sl)):List (Nat × Sl)->Prop
 | []=>True
 | p :: r=>get sl p.1=some p.2/\BB sl r
theorem qV {sl:List (Nat × Sl)}:∀ {l:List (Nat × Sl)},BB sl l->∀ i x,get l i=some x->get sl i=some x
 | [],_,i,x,hx=>by cases hx
 | (k,y) :: r,h,i,x,hx=>by
  simp only [cp] at hx;split at hx
  ·rename_i sH;subst sH;simp only [oI] at hx;subst hx;exact h.1
  ·exact qV h.2 i x hx
def uniqS:List Nat->List (Nat × Sl)->List (Nat × Sl)
 | _,[]=>[]
 | m,p :: r=>
  match muB m p.1 with
  | true=>uniqS m r
  | false=>p :: uniqS (p.1 :: m) r
theorem n8:∀ (l:List (Nat × Sl)) (m:List Nat) (i:Nat),muB m i=false->get (uniqS m l) i=get l i
 | [],_,_,_=>rfl
 | (k,x) :: r,m,i,h=>by
  simp only [uniqS]
  cases hm:muB m k with
  | true=>
   simp only;rw [n8 r m i h,cp,ah];rintro rfl;rw [hm] at h;cases h
  | false=>
   simp only [cp];by_cases hk:k=i
   ·rw [zIfP hk,zIfP hk]
   ·rw [ah hk,ah hk]
    exact n8 r (k :: m) i (by simp only [muB,h,Bool.or_false];cases hb:Nat.beq k i with
     | true=>exact (hk (Nat.eq_of_beq_eq_true hb)).elim
     | false=>rfl)
def vd (s S:St):Prop:=s.bx=S.bx/\s.tk=S.tk/\BB s.sl (uniqS [] S.sl)
theorem Fg {X:Ctx} {E:En} {s S:St} {a:Act} {w:World} (h:Rel X E s a w) (hs:vd s S):Rel X E S a w where
 env:=by rw [<- hs.1];exact h.env
 tk:=by rw [<- hs.2.1];exact h.tk
 sz:=h.sz
 tm:=fun i x hx=>h.tm i x (qV hs.2.2 i x (by rw [n8 _ _ _ rfl];exact hx))
 df:=h.df
 nw:=h.nw
 fr:=h.fr
 sh:=h.sh
 bt:=h.bt
theorem kU {X:Ctx} {id:Nat} {ops:Array Oper} {k:List It} {st:St} (W:Nat->Bool) (x y:Nat) (l l':List Nat) (i j:Nat) (hm:X.P.follows .mixedOrders=true) (hc:OD ops W l l' x y=true) (S:St)
  (h:goD X ⟨ops,W,[.yX fun s=>s=S],st,none⟩ 3000 true (selL ops.toList l) st.sl st) (h':goD X ⟨ops,W,[.yX fun s=>vd s (ej i j S)],st,none⟩ 3000 true (selL ops.toList l') st.sl st)
  (wm:(Nat.ble X.n0 i && Nat.ble X.n0 j && Nat.blt i S.bx.length && Nat.blt j S.bx.length)=true) (hk:go X 4000 k S) (hX:X.bt=[]:=by exact rfl):qv X id ops k st:=by
 intro E a w hr;have kT:=kf hr;simp only [bA,Nat.ble_eq,Nat.blt_eq] at wm;simp only [OD,Ff,bA,List.all_eq_true,Nat.blt_eq,Nat.ble_eq,beq_iff_eq,List.mem_range,Bool.not_eq_true'] at hc;obtain ⟨⟨⟨⟨⟨⟨⟨⟨⟨Ei,Bq⟩,NW⟩,⟨⟨⟨h1a,NB⟩,h1c⟩,hlen⟩,h1d⟩,⟨⟨⟨h2a,Ti⟩,h2c⟩,_⟩,h2d⟩,Nz⟩,OB⟩,R6⟩,OC⟩,hT⟩:=hc
 have hQ:∀ S',(S'=S∨S'=ej i j S)->∀ a w,(∃ st E,Rel X E st a w/\(st=S' ∨ vd st S'))->kq X k .normal a w:=by
  rintro S' hS a w ⟨nG,E1,V4,wS⟩;have bD:Rel X E1 S' a w:=by grind [Fg]
  rcases hS with rfl | rfl
  ·exact go_sound 4000 _ _ hk E1 a w bD
  ·obtain ⟨E2,xf⟩:=BA hX bD wm.1.1.1 wm.1.1.2 wm.1.2 wm.2;exact go_sound 4000 _ _ hk E2 a w xf
 have key:∀ (S':St),(S'=S∨S'=ej i j S)->∀ (l:List Nat),(selL ops.toList l).map (·.1)=l->∀ J:St->Prop,(∀ s,J s->s=S' ∨ vd s S')->(goD X ⟨ops,W,[.yX J],st,none⟩ 3000 true (selL ops.toList l) st.sl st) ->
   runT X.P ops W (CC E st.bx w.drew) (fun a w=>kq X k .normal a w) l a w.drew:=by
  intro S' hS l hl J hJ h;have hs:=qS kT (ops:=ops) (W:=W) (k:=[.yX J]);have:=eM (D:=⟨⟨ops,W,[.yX J],st,none⟩,E,w.drew⟩) kT.env.em 3000 true _ _ _ h (fun p hp=>by simpa using Fe hp) E a w.drew hs;rw [hl] at this;exact n7 (fun a w ⟨st,E1,h1,h2⟩=>hQ S' hS a w ⟨st,E1,h1,hJ st h2⟩) this
 have e1:=key S (.inl rfl) l h1a _ (fun s hs=>.inl hs) h;have e2:=key (ej i j S) (.inr rfl) l' h2a _ (fun s hs=>.inr hs) h';refine wp_region_any hm ?_
 have HW:∀ (l:List Nat),(∀ i,i < ops.size->l.contains i=true)->(∀ i∈l,i < ops.size)->∀ i,i∈l↔i < ops.size/\(Array.replicate ops.size false).getD i true=false:=by
  intro l ha hb i;constructor
  all_goals simp_all
 have Tj:x≠y:=by
  intro e;subst e;simp at Ei
 refine zx (C:=CC E st.bx w.drew) (π:=plc l) (π':=plc l') (Q:=kq X k .normal) Tj Nz OB R6 OC hT (fun a w h=>h) ops.size (Array.replicate ops.size false) l l' a _ (by simp) ?_ (HW l NB h1c) (HW l' Ti h2c) (qT h1d) (qT h2d) hlen
  (by simpa using NB x Bq) (by simpa using NB y NW) ⟨fun _ _ _ _ _ _=>rfl,kT.env.sub⟩ e1 e2
 intro i o ho hl;have:i < ops.size:=(Array.getElem?_eq_some_iff.1 ho).1;simp [this] at hl
end Dv
end Go.Proofs.YtfdedoiiahbnnaaGreat
namespace Go.Proofs.YtfdedoiiahbnnaaGreat
namespace Dv
open Go Go.RowKit
section
variable {X:Ctx} {st:St} {k:List It} {E:En} {a:Act} {w:World}
noncomputable def En.y5 (E:En) (w:World):En:=⟨nW E 0 w,[],[],[]⟩
theorem IB {bx:List (List DV)} (h:Env E bx w):Env (E.y5 w) [] w where
 len:=rfl
 tl:=rfl
 dm:=by simp
 inj:=List.nodup_nil
 sub:=fun x u hx=>by
  rcases dn hx with ⟨_,h1⟩ | h1
  ·exact h1
  ·exact h.sub x u h1
 pc:=by simp [En.y5]
 bZ:=by simp [En.y5]
 gn:=by simp [En.y5]
theorem IC {bx:List (List DV)} (h:Env E bx w):Eg E (E.y5 w) bx 0 where
 c:=fun x u hx=>jD h hx
 fz:=fun i cs hi ch=>by
  obtain ⟨b,ty,arr,hb,hw,hc⟩:=h.dm i cs ch;refine ⟨b,arr,hb,hc,fun j u hj=>?_⟩;show nW E 0 w ⟨b,j,none⟩=some u;unfold nW;rw [zIfP ⟨i,hi,hb⟩,bV hw];simpa using hj
theorem gG {P:Program} {s:Bool} {bx:List (List DV)} (h:Env E bx w) {f:FuncId} {args ba:List DV} {vs:List Value} {y:DV} (hc:Nv s P f ba [] [] fun d _ _=>d=y) (ha:CcL bx 0 0 0 ba args) (hv:RvL E args vs) :
  Calls P f vs.toArray w fun e w'=>∃ v E2,e = .returned v/\Rv E2 y v/\mr (fun _=>False) w w' /\ (s=true->∃ q,w'=w.drewN q):=by
 have Lf:RvL (E.y5 w) ba vs:=CcL.sound (IC h) (Bs.zero _ _) ha hv;refine (hc (E.y5 w) w vs (IB h) rfl Lf).mono ?_;rintro e w' ⟨v,rfl,hm,hs,d,os,E2,he,hβ,nF,hn,LH,rfl⟩;refine ⟨v,E2,rfl,LH,⟨hm.os,hm.tape,hm.output,hm.size,fun i hi _=>hm.block i hi ?_⟩,hs⟩;rintro (h1 | ⟨y,h1,_⟩)
 ·simp [En.y5] at h1
 ·simp [En.y5] at h1
theorem ve {f:FuncId} {args ba:List DV} {d:Nat} {y:Value} (iV:Enters X.P f) (hc:aV X.P f ba (.v y)) (ha:CcL st.bx 0 0 0 ba args) (hd:eL X.nt st.sl (some d)=true)
  (hk:go X 4000 k ⟨(d,⟨[],.v y⟩) :: st.sl,st.bx,st.tk⟩) (hst:X.still=false:=by exact rfl):CallG X f args (some d) k st:=by
 refine ⟨iV,hst,fun E a w vs h hv=>(gG h.env hc ha hv).mono ?_⟩;rintro e w' ⟨v,E2,rfl,hr,hm,_⟩;have hh:∀ i,i < w.heap.size->w'.heap[i]? = w.heap[i]?:=fun i hi=>hm.block i hi (fun h=>h);have bD:Rel X E st a w':=cv h (Ext.refl E) (h.env.fv hh) h.tk h.nw (h.fr.bN hm.os hm.tape hm.output hm.size fun i hi=>.inr (hh i hi)) (ll hst) (h.bt.fv fun b hb=>hh b (h.env.aQ hb));unfold Rv at hr;exact go_sound 4000 _ _ hk E _ w' (bi bD hd (.v y) v (by unfold Rv;exact hr))
end
end Dv
end Go.Proofs.YtfdedoiiahbnnaaGreat
namespace Go.Proofs.YtfdedoiiahbnnaaGreat
namespace Dv
open Go Go.RowKit
def Fh (bx:List (List DV)) (N m:Nat) (sl:List (Nat × Sl)):List (Nat × Sl)->Prop
 | []=>True
 | p :: r=>(∃ x,get sl p.1=some ⟨p.2.gs,x⟩/\Cc bx N N m p.2.s x)/\Fh bx N m sl r
theorem tF {bx:List (List DV)} {N m:Nat} {sl:List (Nat × Sl)}:∀ {l:List (Nat × Sl)},Fh bx N m sl l->∀ i x',get l i=some x' -> ∃ x,get sl i=some ⟨x'.gs,x⟩/\Cc bx N N m x'.s x
 | [],_,i,x',hx=>by cases hx
 | (k,y) :: r,h,i,x',hx=>by
  simp only [cp] at hx;split at hx
  ·rename_i sH;subst sH;simp only [oI] at hx;subst hx;exact h.1
  ·exact tF h.2 i x' hx
section
variable {X:Ctx} {E:En} {st st':St} {a:Act} {w:World} {k:List It}
theorem BC (h:Rel X E st a w) (N:Nat) (hN:X.n0<=N) (zA:N<=st.bx.length) (kS:jw st.bx N N st.tk.length st'.bx (st.bx.take N)) (nF:st'.tk=st.tk) (nT:Fh st.bx N st.tk.length st.sl st'.sl):∃ E',Rel X E' st' a w:=by
 obtain ⟨r,LB,S2⟩:=h.nw.β;have hlen:E.β.length=st.bx.length:=h.env.len
 have cE:∀ (i:Nat) b,X.n0<=i->E.β[i]? = some b->b∈r:=fun i b hi hb=>by
  rw [LB,List.getElem?_append_right (by rw [X.s8];exact hi)] at hb;exact mG hb
 let E':En:=⟨nW E N w,E.β.take N,E.tk,E.τ⟩
 have Ij:Eg E E' st.bx N:={
  c:=fun x u hx=>jD h.env hx
  fz:=fun i cs hi ch=>by
   obtain ⟨b,ty,arr,hb,hw,hc⟩:=h.env.dm i cs ch;refine ⟨b,arr,hb,hc,fun j u hj=>?_⟩;show nW E N w ⟨b,j,none⟩=some u;unfold nW;rw [zIfP ⟨i,hi,hb⟩,bV hw]
   simpa using hj }
 have u5:Bs E E' N st.tk.length:={
  β:=fun i b hi hb=>by show (E.β.take N)[i]? = _;rw [bM,zIfP hi];exact hb
  tk:=fun k hk=>⟨rfl,rfl⟩ }
 have LD:∀ (i:Nat) b,N<=i->E.β[i]? = some b->b ∉ E.β.take N:=fun i b hi hb hm=>by
  obtain ⟨j,hj⟩:=List.getElem?_of_mem hm;rw [bM] at hj;split at hj
  ·rename_i hjN;have:=(List.getElem?_inj (gS hb).1 h.env.inj).1 (hb.trans hj.symm);omega
  ·cases hj
 obtain ⟨jr,Oj⟩:=kS.get;refine ⟨E',?_⟩
 exact {
  env:={
   len:=by grind
   tl:=h.env.tl
   dm:=fun i cs' hi=>by
    obtain ⟨cs,ch,pU⟩:=Oj i cs' hi;rw [bM] at ch;split at ch
    ·rename_i aq;obtain ⟨b,ty,arr,hb,hw,hc⟩:=h.env.dm i cs ch;exact ⟨b,ty,arr,u5.β i b aq hb,hw,CcL.sound Ij u5 pU hc.1,hc.2⟩
    ·cases ch
   inj:=h.env.inj.sublist (List.take_sublist _ _)
   sub:=fun x u hx=>by
    rcases dn hx with ⟨_,h1⟩ | h1
    ·exact h1
    ·exact h.env.sub x u h1
   pc:=fun x u hx hm=>by
    rcases dn hx with ⟨⟨i,hi,hb⟩,_⟩ | h1
    ·exact LD i _ hi hb hm
    ·exact h.env.pc x u h1 (List.mem_of_mem_take hm)
   bZ:=fun k q y hq hy=>by
    rcases h.env.bZ k q y hq hy with h1 | ⟨g,cap,cur,rfl,h1,h2,h3,h4,h5,h6⟩
    ·exact .inl h1
    ·refine .inr ⟨g,cap,cur,rfl,h1,⟨h2.1,h2.2.mono fun _ _ hx=>jD h.env hx⟩,h3,h4,fun hm=>h5 (List.mem_of_mem_take hm),fun x u hx hg=>?_⟩;rcases dn hx with ⟨⟨i,hi,hb⟩,_⟩ | h7
     all_goals grind
   gn:=h.env.gn }
  tk:=by rw [nF];exact h.tk
  sz:=h.sz
  tm:=fun i x' tf=>by
   obtain ⟨x,hx,pU⟩:=tF nT i x' tf;have:=h.tm i _ hx
   grind [Cc.sound]
  df:=h.df
  nw:={
   c:=fun x u hx=>jD h.env (h.nw.c x u hx)
   cn:=fun x u hx=>by
    rcases dn hx with ⟨⟨i,hi,hb⟩,_⟩ | h1
    ·grind
    ·exact h.nw.cn x u h1
   β:=by
    refine ⟨r.take (N - X.n0),?_,fun b hb=>S2 b (List.mem_of_mem_take hb)⟩;show E.β.take N=_;rw [LB,List.take_append,List.take_of_length_le (by rw [X.s8];omega),X.s8]
   tk:=h.nw.tk
   tn:=h.nw.tn
   l0:=h.nw.l0 }
  fr:=h.fr
  sh:=h.sh
  bt:=h.bt.sub _ }
theorem Fi {c:Code} (N:Nat) (nG:St) (hN:Nat.ble X.n0 N=true) (zA:Nat.ble N st.bx.length=true) (nF:nG.tk=st.tk) (kS:jw st.bx N N st.tk.length nG.bx (st.bx.take N)) (nT:Fh st.bx N st.tk.length st.sl nG.sl)
  (hk:oT X c k nG):oT X c k st:=by
 intro E a w h;obtain ⟨E',h'⟩:=BC h N (nL hN) (nL zA) kS nF nT;exact hk E' a w h'
theorem eT {n0 m0:Nat} {st st':St} (n:Nat) (q:TkE) (hq:q.new=true) (hn:Nat.ble n st.bx.length=true) (h3:st.tk ++ [q]=st'.tk) (h2:WeLL n st.tk.length st'.tk (st.bx.take n) st'.bx) (h4:Nat.ble n0 n=true) (h5:Nat.ble m0 st.tk.length=true)
  (h:kg n st.tk.length st'.tk st.sl st'.sl):mK n0 m0 st st':=by
 have hl:(st.bx.take n).length=n:=by simp_all
 exact ⟨st.tk,[],[q],st.bx.take n,st.bx.drop n,by simpa using h5,by rw [hl];simpa using h4,by simp,h3.symm,by simpa using hq,(List.take_append_drop n st.bx).symm,by rw [hl];exact h2,by rw [hl];exact h⟩
end
end Dv
end Go.Proofs.YtfdedoiiahbnnaaGreat
namespace Go.Proofs.YtfdedoiiahbnnaaGreat
namespace Dv
open Go Go.RowKit
section
variable {X:Ctx} {st:St} {k:List It} {E:En} {a:Act} {w:World}
theorem jG {f:FuncId} {rest Fj cs cs':List DV} {i d:Nat} (iV:Enters X.P f) (hd:eL X.nt st.sl (some d)=true) (kS:st.bx[i]? = some cs) (ch:CcL [] 0 0 0 cs' cs) (ha:CcL [] 0 0 0 Fj rest)
  {Φ:DV->List (List DV)->List TkE->Prop} (hc:Ev X.P f (.loc 0 0 :: Fj) [cs'] [] Φ) (gL:∀ r os tk,Φ r os tk->clB 0 0 r=true/\∀ n9∈os,clB.clL 0 0 n9=true)
  (hk:∀ r n9,Φ r [n9] []->go X 4000 k ⟨(d,⟨[],r⟩) :: st.sl,st.bx.set i n9,st.tk⟩) (hst:X.still=false:=by exact rfl) (hX:X.bt=[]:=by exact rfl):CallG X f (.loc i 0 :: rest) (some d) k st:=by
 refine ⟨iV,hst,fun E a w vs h hv=>?_⟩;simp only [RvL] at hv;obtain ⟨v1,vr,rfl,h1,hvr⟩:=hv;unfold Rv at h1;obtain ⟨b,hb,rfl⟩:=h1;obtain ⟨b',ty,arr,ef,hw,pU⟩:=h.env.dm i cs kS;rw [hb] at ef;simp only [oI] at ef;subst ef;have wx:b∈E.β:=mG hb;have LZ:=h.env.aQ wx
 let E1:En:=⟨E.c,[b],[],[]⟩
 have hx1:Ext E.cl E1:=⟨fun _ _ h=>h,fun j b hj=>by simp [En.cl] at hj,fun k q hk=>by simp [En.cl] at hk⟩;have hfz:Eg E E.cl [] 0:=⟨fun _ _ h=>h,fun i cs _ hi=>by simp at hi⟩
 have OE:Env E1 [cs'] w:={
  len:=rfl
  tl:=rfl
  dm:=fun j OG hj=>by
   cases j with
   | succ j=>simp at hj
   | zero=>
    simp only [List.getElem?_cons_zero,oI] at hj;subst hj;refine ⟨b,ty,arr,rfl,hw,RvL.mono hx1 (CcL.sound hfz (Bs.zero _ _) ch pU.1),pU.2⟩
  inj:=by simp [E1]
  sub:=h.env.sub
  pc:=fun x v hx hm=>by
   simp only [E1,List.mem_singleton] at hm;exact h.env.pc x v hx (by rw [hm];exact wx)
  bZ:=by simp [E1]
  gn:=by simp [E1] }
 have pT:RvL E1 (.loc 0 0 :: Fj) (.pointer (some ⟨b,0,none⟩) :: vr):=rvL_cons (by unfold Rv;exact ⟨b,rfl,rfl⟩) (RvL.mono hx1 (CcL.sound hfz (Bs.zero _ _) ha hvr));refine (hc E1 w _ OE rfl pT).mono ?_;rintro e w' ⟨v,rfl,hm,_,r,os,E2,he,hβ,nF,hn,LH,hΦ⟩;have ht0:E2.tk=[]:=List.eq_nil_of_length_eq_zero nF;rw [ht0] at hΦ
 obtain ⟨n9,rfl⟩:∃ n9,os=[n9]:=by
  have:=he.len;rw [hβ] at this
  match os,this with
  | [x],_=>exact ⟨x,rfl⟩
 obtain ⟨Tk,Tl⟩:=gL _ _ _ hΦ
 have hh:∀ j,j < w.heap.size->j≠b->w'.heap[j]? = w.heap[j]?:=fun j hj bd=>hm.block j hj (by
  rintro (h1 | ⟨y,h1,_⟩)
  ·simp only [E1,List.mem_singleton] at h1;exact bd h1
  ·simp [E1] at h1)
 have cE:∀ x v,E2.c x=some v->E.c x=some v∨w.heap.size<=x.block:=fun x v hx=>by
  rcases hn.cn x v hx with h1 | h1 | ⟨y,h1,_⟩
  ·exact .inl h1
  ·exact .inr h1
  ·simp [E1] at h1
 let E':En:=⟨E2.c,E.β,E.tk,E.τ⟩
 have hx:Ext E E':=⟨hn.c,fun _ _ h=>h,fun _ q h=>⟨q,h,.inl ⟨rfl,rfl⟩⟩⟩;have CH:Ext (E2.cut 0 0) E':=⟨fun _ _ h=>h,fun j b hj=>by simp [En.cut] at hj,fun k q hk=>by simp [En.cut] at hk⟩
 have bD:Rel X E' ⟨st.sl,st.bx.set i n9,st.tk⟩ a w':=by
  refine cv h hx ?_ h.tk ?_ (h.fr.bN hm.os hm.tape hm.output hm.size fun j hj=>?_) (ll hst) (.nil hX)
  ·exact {
    len:=by rw [List.length_set];exact h.env.len
    tl:=h.env.tl
    dm:=fun j OG hj=>by
     by_cases Lu:j=i
     ·subst Lu;rw [fO (gS kS).1] at hj;simp only [oI] at hj;subst hj;obtain ⟨b2,Tm,L0,iT,ze,mB⟩:=he.dm 0 n9 rfl;rw [hβ] at iT;simp only [E1,List.getElem?_cons_zero,oI] at iT;subst iT;exact ⟨b,Tm,L0,hb,ze,RvL.mono CH (RvL.cut mB.1 (Tl n9 (by simp))),mB.2⟩
     ·rw [List.getElem?_set_ne (Ne.symm Lu)] at hj;obtain ⟨bj,Tn,L1,J5,OH,Lm⟩:=h.env.dm j OG hj
      have bd:bj≠b:=by
       rintro rfl;exact Lu ((List.getElem?_inj (gS J5).1 h.env.inj).1 (J5.trans hb.symm))
      exact ⟨bj,Tn,L1,J5,by rw [hh bj (cF OH) bd];exact OH,Lm.mono hx⟩
    inj:=h.env.inj
    sub:=he.sub
    pc:=fun x v hc jZ=>by
     rcases cE x v hc with h1 | h1
     ·exact h.env.pc x v h1 jZ
     ·have:=h.env.aQ jZ;omega
    bZ:=fun k q y hq hy=>by
     rcases h.env.bZ k q y hq hy with h1 | ⟨g',cap,cur,rfl,h1,h2,h3,h4,h5,h6⟩
     ·exact .inl h1
     ·refine .inr ⟨g',cap,cur,rfl,by rw [hh g' (cF h1) (fun e=>h5 (by rw [e];exact wx))];exact h1,⟨h2.1,h2.2.mono hn.c⟩,h3,h4,h5,fun x v hc hg=>?_⟩;rcases cE x v hc with h7 | h7
      ·exact h6 x v h7 hg
      ·have:=cF h1;omega
    gn:=h.env.gn }
  ·exact {
    c:=fun x v hc=>hn.c x v (h.nw.c x v hc)
    cn:=fun x v hc=>by
     rcases cE x v hc with h1 | h1
     ·exact h.nw.cn x v h1
     ·have:=h.fr.size;exact .inr (.inl (by omega))
    β:=h.nw.β
    tk:=h.nw.tk
    tn:=h.nw.tn
    l0:=h.nw.l0 }
  ·by_cases Ln:j=b
   ·left;obtain ⟨r0,hr0,HW⟩:=h.nw.β;rw [hr0] at wx;rcases List.mem_append.1 wx with wx | wx
    ·exact .inl (.inl (Ln ▸ wx))
    ·exact .inr (Ln ▸ HW b wx)
   ·exact .inr (hh j hj Ln)
 exact go_sound 4000 _ _ (hk r n9 hΦ) E' _ w' (bi bD hd r v (Rv.mono CH (Rv.cut LH Tk)))
end
end Dv
end Go.Proofs.YtfdedoiiahbnnaaGreat
namespace Go.Proofs.YtfdedoiiahbnnaaGreat
namespace Dv
open Go
def tt:TT:=.ag 210 ⟨1,false,.sl 29 1 24,[.slice none 0 0]⟩ (.ag 105 ⟨1,false,.sl 36 9 112,[.slice none 0 0]⟩ (.ag 51 ⟨4,true,.st [(0,29),(1,49),(2,50),(3,3)],[.slice none 0 0,.slice none 0 0,.slice none 0 0,.int .i64 0]⟩ (.ag 24 ⟨1,false,.int .i64,[.int .i64 0]⟩ (.ag 12 ⟨1,false,.int .u64,[.int .u64 0]⟩ (.ag 6 ⟨1,false,.int .u8,[.int .u8 0]⟩ (.ag 3 ⟨1,false,.int .i64,[.int .i64 0]⟩ (.ag 2 ⟨1,false,.int .i64,[.int .i64 0]⟩ (.ag 1 ⟨1,false,.fn,[.nilFunc]⟩ (.nil) (.nil)) (.nil)) (.ag 5 ⟨1,false,.int .u8,[.int .u8 0]⟩ (.ag 4 ⟨1,false,.bool,[.bool false]⟩ (.nil) (.nil)) (.nil))) (.ag 9 ⟨1,false,.str,[.string ByteArray.empty]⟩ (.ag 8 ⟨4,true,.st [(0,2),(1,3),(2,4),(3,6)],[.int .i64 0,.int .i64 0,.bool false,.int .u8 0]⟩ (.ag 7 ⟨4,true,.st [(0,2),(1,3),(2,4),(3,6)],[.int .i64 0,.int .i64 0,.bool false,.int .u8 0]⟩ (.nil) (.nil)) (.nil)) (.ag 11 ⟨1,false,.str,[.string ByteArray.empty]⟩ (.ag 10 ⟨1,false,.str,[.string ByteArray.empty]⟩ (.nil) (.nil)) (.nil)))) (.ag 18 ⟨1,true,.st [(0,17)],[.pointer none]⟩ (.ag 15 ⟨1,false,.ptr 418,[.pointer none]⟩ (.ag 14 ⟨2,true,.st [(0,9),(1,12)],[.string ByteArray.empty,.int .u64 0]⟩ (.ag 13 ⟨2,true,.st [(0,9),(1,12)],[.string ByteArray.empty,.int .u64 0]⟩ (.nil) (.nil)) (.nil)) (.ag 17 ⟨1,false,.ptr 428,[.pointer none]⟩ (.ag 16 ⟨1,false,.ptr 421,[.pointer none]⟩ (.nil) (.nil)) (.nil))) (.ag 21 ⟨1,false,.int .i32,[.int .i32 0]⟩ (.ag 20 ⟨1,false,.lG,[.nilIface]⟩ (.ag 19 ⟨1,true,.st [(0,17)],[.pointer none]⟩ (.nil) (.nil)) (.nil)) (.ag 23 ⟨1,false,.ptr 129,[.pointer none]⟩ (.ag 22 ⟨1,false,.fn,[.nilFunc]⟩ (.nil) (.nil)) (.nil))))) (.ag 37 ⟨12,true,.st [(0,29),(1,30),(2,31),(3,36)],[.slice none 0 0,.slice none 0 0,.slice none 0 0,.int .i64 0,.int .i64 0,.int .i64 0,.int .i64 0,.int .i64 0,.slice none 0 0,.slice none 0 0,.string ByteArray.empty,.int .i64 0]⟩ (.ag 31 ⟨1,false,.sl 93 11 136,[.slice none 0 0]⟩ (.ag 28 ⟨1,false,.fn,[.nilFunc]⟩ (.ag 26 ⟨2,true,.st [(0,24),(1,3)],[.int .i64 0,.int .i64 0]⟩ (.ag 25 ⟨2,true,.st [(0,24),(1,3)],[.int .i64 0,.int .i64 0]⟩ (.nil) (.nil)) (.nil)) (.ag 30 ⟨1,false,.sl 122 4 48,[.slice none 0 0]⟩ (.ag 29 ⟨1,false,.sl 34 2 24,[.slice none 0 0]⟩ (.nil) (.nil)) (.nil))) (.ag 34 ⟨2,true,.st [(0,9),(1,3)],[.string ByteArray.empty,.int .i64 0]⟩ (.ag 33 ⟨2,true,.st [(0,9),(1,3)],[.string ByteArray.empty,.int .i64 0]⟩ (.ag 32 ⟨1,false,.sl 133 18 224,[.slice none 0 0]⟩ (.nil) (.nil)) (.nil)) (.ag 36 ⟨9,true,.st [(0,3),(1,3),(2,3),(3,3),(4,3),(5,29),(6,32),(7,34)],[.int .i64 0,.int .i64 0,.int .i64 0,.int .i64 0,.int .i64 0,.slice none 0 0,.slice none 0 0,.string ByteArray.empty,.int .i64 0]⟩ (.ag 35 ⟨9,true,.st [(0,3),(1,3),(2,3),(3,3),(4,3),(5,29),(6,32),(7,34)],[.int .i64 0,.int .i64 0,.int .i64 0,.int .i64 0,.int .i64 0,.slice none 0 0,.slice none 0 0,.string ByteArray.empty,.int .i64 0]⟩ (.nil) (.nil)) (.nil)))) (.ag 44 ⟨1,false,.fn,[.nilFunc]⟩ (.ag 41 ⟨1,false,.fn,[.nilFunc]⟩ (.ag 40 ⟨1,false,.fn,[.nilFunc]⟩ (.ag 38 ⟨12,true,.st [(0,29),(1,30),(2,31),(3,36)],[.slice none 0 0,.slice none 0 0,.slice none 0 0,.int .i64 0,.int .i64 0,.int .i64 0,.int .i64 0,.int .i64 0,.slice none 0 0,.slice none 0 0,.string ByteArray.empty,.int .i64 0]⟩ (.nil) (.nil)) (.nil)) (.ag 43 ⟨1,false,.fn,[.nilFunc]⟩ (.ag 42 ⟨1,false,.fn,[.nilFunc]⟩ (.nil) (.nil)) (.nil))) (.ag 48 ⟨1,false,.fn,[.nilFunc]⟩ (.ag 47 ⟨1,false,.fn,[.nilFunc]⟩ (.ag 46 ⟨1,false,.fn,[.nilFunc]⟩ (.nil) (.nil)) (.nil)) (.ag 50 ⟨1,false,.sl 87 7 88,[.slice none 0 0]⟩ (.ag 49 ⟨1,false,.sl 183 1 24,[.slice none 0 0]⟩ (.nil) (.nil)) (.nil)))))) (.ag 79 ⟨1,false,.sl 9 1 16,[.slice none 0 0]⟩ (.ag 65 ⟨6,true,.st [(0,61),(4,26)],[.int .i64 0,.int .i64 0,.string ByteArray.empty,.slice none 0 0,.int .i64 0,.int .i64 0]⟩ (.ag 58 ⟨1,false,.fn,[.nilFunc]⟩ (.ag 54 ⟨1,false,.fn,[.nilFunc]⟩ (.ag 53 ⟨1,false,.fn,[.nilFunc]⟩ (.ag 52 ⟨4,true,.st [(0,29),(1,49),(2,50),(3,3)],[.slice none 0 0,.slice none 0 0,.slice none 0 0,.int .i64 0]⟩ (.nil) (.nil)) (.nil)) (.ag 56 ⟨1,false,.fn,[.nilFunc]⟩ (.ag 55 ⟨1,false,.fn,[.nilFunc]⟩ (.nil) (.nil)) (.nil))) (.ag 61 ⟨4,true,.st [(0,3),(1,3),(2,9),(3,59)],[.int .i64 0,.int .i64 0,.string ByteArray.empty,.slice none 0 0]⟩ (.ag 60 ⟨4,true,.st [(0,3),(1,3),(2,9),(3,59)],[.int .i64 0,.int .i64 0,.string ByteArray.empty,.slice none 0 0]⟩ (.ag 59 ⟨1,false,.sl 61 4 56,[.slice none 0 0]⟩ (.nil) (.nil)) (.nil)) (.ag 64 ⟨6,true,.st [(0,61),(4,26)],[.int .i64 0,.int .i64 0,.string ByteArray.empty,.slice none 0 0,.int .i64 0,.int .i64 0]⟩ (.ag 63 ⟨1,false,.fn,[.nilFunc]⟩ (.nil) (.nil)) (.nil)))) (.ag 72 ⟨1,false,.fn,[.nilFunc]⟩ (.ag 68 ⟨1,false,.sl 70 6 88,[.slice none 0 0]⟩ (.ag 67 ⟨1,false,.fn,[.nilFunc]⟩ (.ag 66 ⟨1,false,.fn,[.nilFunc]⟩ (.nil) (.nil)) (.nil)) (.ag 70 ⟨6,true,.st [(0,3),(1,3),(2,3),(3,9),(4,29),(5,68)],[.int .i64 0,.int .i64 0,.int .i64 0,.string ByteArray.empty,.slice none 0 0,.slice none 0 0]⟩ (.ag 69 ⟨6,true,.st [(0,3),(1,3),(2,3),(3,9),(4,29),(5,68)],[.int .i64 0,.int .i64 0,.int .i64 0,.string ByteArray.empty,.slice none 0 0,.slice none 0 0]⟩ (.nil) (.nil)) (.nil))) (.ag 75 ⟨1,false,.fn,[.nilFunc]⟩ (.ag 74 ⟨1,false,.fn,[.nilFunc]⟩ (.ag 73 ⟨1,false,.fn,[.nilFunc]⟩ (.nil) (.nil)) (.nil)) (.ag 78 ⟨1,false,.fn,[.nilFunc]⟩ (.ag 77 ⟨1,false,.fn,[.nilFunc]⟩ (.nil) (.nil)) (.nil))))) (.ag 92 ⟨11,true,.st [(0,34),(2,36)],[.string ByteArray.empty,.int .i64 0,.int .i64 0,.int .i64 0,.int .i64 0,.int .i64 0,.int .i64 0,.slice none 0 0,.slice none 0 0,.string ByteArray.empty,.int .i64 0]⟩ (.ag 86 ⟨7,true,.st [(0,3),(1,3),(2,3),(3,3),(4,3),(5,79),(6,85)],[.int .i64 0,.int .i64 0,.int .i64 0,.int .i64 0,.int .i64 0,.slice none 0 0,.slice none 0 0]⟩ (.ag 82 ⟨7,true,.st [(0,3),(1,3),(2,3),(3,3),(4,3),(5,79),(6,80)],[.int .i64 0,.int .i64 0,.int .i64 0,.int .i64 0,.int .i64 0,.slice none 0 0,.slice none 0 0]⟩ (.ag 81 ⟨7,true,.st [(0,3),(1,3),(2,3),(3,3),(4,3),(5,79),(6,80)],[.int .i64 0,.int .i64 0,.int .i64 0,.int .i64 0,.int .i64 0,.slice none 0 0,.slice none 0 0]⟩ (.ag 80 ⟨1,false,.sl 90 10 88,[.slice none 0 0]⟩ (.nil) (.nil)) (.nil)) (.ag 85 ⟨1,false,.sl 89 10 88,[.slice none 0 0]⟩ (.ag 84 ⟨1,false,.fn,[.nilFunc]⟩ (.nil) (.nil)) (.nil))) (.ag 89 ⟨10,true,.st [(0,9),(1,4),(2,3),(3,3),(4,3),(5,3),(6,3),(7,3),(8,3),(9,3)],[.string ByteArray.empty,.bool false,.int .i64 0,.int .i64 0,.int .i64 0,.int .i64 0,.int .i64 0,.int .i64 0,.int .i64 0,.int .i64 0]⟩ (.ag 88 ⟨10,true,.st [(0,9),(1,4),(2,3),(3,3),(4,3),(5,3),(6,3),(7,3),(8,3),(9,3)],[.string ByteArray.empty,.bool false,.int .i64 0,.int .i64 0,.int .i64 0,.int .i64 0,.int .i64 0,.int .i64 0,.int .i64 0,.int .i64 0]⟩ (.ag 87 ⟨7,true,.st [(0,3),(1,3),(2,3),(3,3),(4,3),(5,79),(6,85)],[.int .i64 0,.int .i64 0,.int .i64 0,.int .i64 0,.int .i64 0,.slice none 0 0,.slice none 0 0]⟩ (.nil) (.nil)) (.nil)) (.ag 91 ⟨1,false,.fn,[.nilFunc]⟩ (.ag 90 ⟨10,true,.st [(0,9),(1,4),(2,3),(3,3),(4,3),(5,3),(6,3),(7,3),(8,3),(9,3)],[.string ByteArray.empty,.bool false,.int .i64 0,.int .i64 0,.int .i64 0,.int .i64 0,.int .i64 0,.int .i64 0,.int .i64 0,.int .i64 0]⟩ (.nil) (.nil)) (.nil)))) (.ag 98 ⟨1,false,.fn,[.nilFunc]⟩ (.ag 95 ⟨1,false,.fn,[.nilFunc]⟩ (.ag 94 ⟨1,false,.fn,[.nilFunc]⟩ (.ag 93 ⟨11,true,.st [(0,34),(2,36)],[.string ByteArray.empty,.int .i64 0,.int .i64 0,.int .i64 0,.int .i64 0,.int .i64 0,.int .i64 0,.slice none 0 0,.slice none 0 0,.string ByteArray.empty,.int .i64 0]⟩ (.nil) (.nil)) (.nil)) (.ag 97 ⟨1,false,.fn,[.nilFunc]⟩ (.ag 96 ⟨1,false,.sl 3 1 8,[.slice none 0 0]⟩ (.nil) (.nil)) (.nil))) (.ag 102 ⟨1,false,.fn,[.nilFunc]⟩ (.ag 100 ⟨1,false,.fn,[.nilFunc]⟩ (.ag 99 ⟨1,false,.ptr 190,[.pointer none]⟩ (.nil) (.nil)) (.nil)) (.ag 104 ⟨1,false,.fn,[.nilFunc]⟩ (.ag 103 ⟨1,false,.fn,[.nilFunc]⟩ (.nil) (.nil)) (.nil))))))) (.ag 157 ⟨1,false,.fn,[.nilFunc]⟩ (.ag 130 ⟨4,true,.st [(0,3),(1,3),(2,3),(3,29)],[.int .i64 0,.int .i64 0,.int .i64 0,.slice none 0 0]⟩ (.ag 118 ⟨1,false,.fn,[.nilFunc]⟩ (.ag 111 ⟨1,false,.sl 5 1 1,[.slice none 0 0]⟩ (.ag 108 ⟨1,false,.fn,[.nilFunc]⟩ (.ag 107 ⟨1,false,.fn,[.nilFunc]⟩ (.ag 106 ⟨1,false,.fn,[.nilFunc]⟩ (.nil) (.nil)) (.nil)) (.ag 110 ⟨1,false,.ptr 113,[.pointer none]⟩ (.ag 109 ⟨1,false,.fn,[.nilFunc]⟩ (.nil) (.nil)) (.nil))) (.ag 114 ⟨1,false,.lG,[.nilIface]⟩ (.ag 113 ⟨2,true,.st [(0,110),(1,111)],[.pointer none,.slice none 0 0]⟩ (.ag 112 ⟨2,true,.st [(0,110),(1,111)],[.pointer none,.slice none 0 0]⟩ (.nil) (.nil)) (.nil)) (.ag 117 ⟨1,false,.fn,[.nilFunc]⟩ (.ag 115 ⟨1,false,.lG,[.nilIface]⟩ (.nil) (.nil)) (.nil)))) (.ag 124 ⟨1,false,.fn,[.nilFunc]⟩ (.ag 121 ⟨4,true,.st [(0,34),(2,34)],[.string ByteArray.empty,.int .i64 0,.string ByteArray.empty,.int .i64 0]⟩ (.ag 120 ⟨1,false,.fn,[.nilFunc]⟩ (.ag 119 ⟨1,false,.fn,[.nilFunc]⟩ (.nil) (.nil)) (.nil)) (.ag 123 ⟨1,false,.fn,[.nilFunc]⟩ (.ag 122 ⟨4,true,.st [(0,34),(2,34)],[.string ByteArray.empty,.int .i64 0,.string ByteArray.empty,.int .i64 0]⟩ (.nil) (.nil)) (.nil))) (.ag 127 ⟨1,false,.ptr 284,[.pointer none]⟩ (.ag 126 ⟨1,false,.sl 82 7 88,[.slice none 0 0]⟩ (.ag 125 ⟨1,false,.fn,[.nilFunc]⟩ (.nil) (.nil)) (.nil)) (.ag 129 ⟨5,true,.st [(0,99),(1,126),(2,3),(3,127),(4,96)],[.pointer none,.slice none 0 0,.int .i64 0,.pointer none,.slice none 0 0]⟩ (.ag 128 ⟨5,true,.st [(0,99),(1,126),(2,3),(3,127),(4,96)],[.pointer none,.slice none 0 0,.int .i64 0,.pointer none,.slice none 0 0]⟩ (.nil) (.nil)) (.nil))))) (.ag 144 ⟨1,false,.fn,[.nilFunc]⟩ (.ag 137 ⟨15,true,.st [(0,38),(12,99),(13,23),(14,3)],[.slice none 0 0,.slice none 0 0,.slice none 0 0,.int .i64 0,.int .i64 0,.int .i64 0,.int .i64 0,.int .i64 0,.slice none 0 0,.slice none 0 0,.string ByteArray.empty,.int .i64 0,.pointer none,.pointer none,.int .i64 0]⟩ (.ag 133 ⟨18,true,.st [(0,34),(2,4),(3,29),(4,3),(5,131),(9,36)],[.string ByteArray.empty,.int .i64 0,.bool false,.slice none 0 0,.int .i64 0,.int .i64 0,.int .i64 0,.int .i64 0,.slice none 0 0,.int .i64 0,.int .i64 0,.int .i64 0,.int .i64 0,.int .i64 0,.slice none 0 0,.slice none 0 0,.string ByteArray.empty,.int .i64 0]⟩ (.ag 132 ⟨18,true,.st [(0,34),(2,4),(3,29),(4,3),(5,131),(9,36)],[.string ByteArray.empty,.int .i64 0,.bool false,.slice none 0 0,.int .i64 0,.int .i64 0,.int .i64 0,.int .i64 0,.slice none 0 0,.int .i64 0,.int .i64 0,.int .i64 0,.int .i64 0,.int .i64 0,.slice none 0 0,.slice none 0 0,.string ByteArray.empty,.int .i64 0]⟩ (.ag 131 ⟨4,true,.st [(0,3),(1,3),(2,3),(3,29)],[.int .i64 0,.int .i64 0,.int .i64 0,.slice none 0 0]⟩ (.nil) (.nil)) (.nil)) (.ag 136 ⟨1,false,.ptr 138,[.pointer none]⟩ (.ag 135 ⟨1,false,.fn,[.nilFunc]⟩ (.nil) (.nil)) (.nil))) (.ag 140 ⟨1,false,.fn,[.nilFunc]⟩ (.ag 139 ⟨1,false,.fn,[.nilFunc]⟩ (.ag 138 ⟨15,true,.st [(0,38),(12,99),(13,23),(14,3)],[.slice none 0 0,.slice none 0 0,.slice none 0 0,.int .i64 0,.int .i64 0,.int .i64 0,.int .i64 0,.int .i64 0,.slice none 0 0,.slice none 0 0,.string ByteArray.empty,.int .i64 0,.pointer none,.pointer none,.int .i64 0]⟩ (.nil) (.nil)) (.nil)) (.ag 142 ⟨1,false,.fn,[.nilFunc]⟩ (.ag 141 ⟨1,false,.fn,[.nilFunc]⟩ (.nil) (.nil)) (.nil)))) (.ag 150 ⟨1,false,.fn,[.nilFunc]⟩ (.ag 147 ⟨1,false,.fn,[.nilFunc]⟩ (.ag 146 ⟨1,false,.fn,[.nilFunc]⟩ (.ag 145 ⟨1,false,.fn,[.nilFunc]⟩ (.nil) (.nil)) (.nil)) (.ag 149 ⟨1,false,.fn,[.nilFunc]⟩ (.ag 148 ⟨1,false,.fn,[.nilFunc]⟩ (.nil) (.nil)) (.nil))) (.ag 154 ⟨1,true,.st [(0,151)],[.pointer none]⟩ (.ag 153 ⟨1,false,.fn,[.nilFunc]⟩ (.ag 151 ⟨1,false,.ptr 244,[.pointer none]⟩ (.nil) (.nil)) (.nil)) (.ag 156 ⟨1,false,.fn,[.nilFunc]⟩ (.ag 155 ⟨1,true,.st [(0,151)],[.pointer none]⟩ (.nil) (.nil)) (.nil)))))) (.ag 183 ⟨1,false,.sl 4 1 1,[.slice none 0 0]⟩ (.ag 171 ⟨1,false,.fn,[.nilFunc]⟩ (.ag 163 ⟨1,false,.sl 218 5 48,[.slice none 0 0]⟩ (.ag 160 ⟨1,false,.fn,[.nilFunc]⟩ (.ag 159 ⟨1,false,.fn,[.nilFunc]⟩ (.ag 158 ⟨1,false,.fn,[.nilFunc]⟩ (.nil) (.nil)) (.nil)) (.ag 162 ⟨1,false,.fn,[.nilFunc]⟩ (.ag 161 ⟨1,false,.fn,[.nilFunc]⟩ (.nil) (.nil)) (.nil))) (.ag 167 ⟨3,true,.st [(0,163),(1,26)],[.slice none 0 0,.int .i64 0,.int .i64 0]⟩ (.ag 166 ⟨3,true,.st [(0,163),(1,26)],[.slice none 0 0,.int .i64 0,.int .i64 0]⟩ (.ag 165 ⟨1,false,.fn,[.nilFunc]⟩ (.nil) (.nil)) (.nil)) (.ag 170 ⟨1,false,.fn,[.nilFunc]⟩ (.ag 169 ⟨1,false,.fn,[.nilFunc]⟩ (.nil) (.nil)) (.nil)))) (.ag 177 ⟨1,false,.fn,[.nilFunc]⟩ (.ag 174 ⟨1,false,.fn,[.nilFunc]⟩ (.ag 173 ⟨1,false,.fn,[.nilFunc]⟩ (.ag 172 ⟨1,false,.fn,[.nilFunc]⟩ (.nil) (.nil)) (.nil)) (.ag 176 ⟨1,false,.fn,[.nilFunc]⟩ (.ag 175 ⟨1,false,.fn,[.nilFunc]⟩ (.nil) (.nil)) (.nil))) (.ag 180 ⟨1,false,.fn,[.nilFunc]⟩ (.ag 179 ⟨3,true,.st [(0,26),(2,3)],[.int .i64 0,.int .i64 0,.int .i64 0]⟩ (.ag 178 ⟨3,true,.st [(0,26),(2,3)],[.int .i64 0,.int .i64 0,.int .i64 0]⟩ (.nil) (.nil)) (.nil)) (.ag 182 ⟨1,false,.fn,[.nilFunc]⟩ (.ag 181 ⟨1,false,.fn,[.nilFunc]⟩ (.nil) (.nil)) (.nil))))) (.ag 195 ⟨1,false,.fn,[.nilFunc]⟩ (.ag 189 ⟨2051,true,.st [(0,79),(1,127),(2,186),(3,188),(1027,188)],(.slice none 0 0 :: .pointer none :: .pointer none :: List.replicate 2048 (.int .i64 0))⟩ (.ag 186 ⟨1,false,.ptr 295,[.pointer none]⟩ (.ag 185 ⟨1,false,.fn,[.nilFunc]⟩ (.ag 184 ⟨1,false,.fn,[.nilFunc]⟩ (.nil) (.nil)) (.nil)) (.ag 188 ⟨1024,true,.ar 32 32,(List.replicate 1024 (.int .i64 0))⟩ (.ag 187 ⟨32,true,.ar 32 1,[.int .i64 0,.int .i64 0,.int .i64 0,.int .i64 0,.int .i64 0,.int .i64 0,.int .i64 0,.int .i64 0,.int .i64 0,.int .i64 0,.int .i64 0,.int .i64 0,.int .i64 0,.int .i64 0,.int .i64 0,.int .i64 0,.int .i64 0,.int .i64 0,.int .i64 0,.int .i64 0,.int .i64 0,.int .i64 0,.int .i64 0,.int .i64 0,.int .i64 0,.int .i64 0,.int .i64 0,.int .i64 0,.int .i64 0,.int .i64 0,.int .i64 0,.int .i64 0]⟩ (.nil) (.nil)) (.nil))) (.ag 192 ⟨1,false,.sl 285 2 16,[.slice none 0 0]⟩ (.ag 191 ⟨1,false,.fn,[.nilFunc]⟩ (.ag 190 ⟨2051,true,.st [(0,79),(1,127),(2,186),(3,188),(1027,188)],(.slice none 0 0 :: .pointer none :: .pointer none :: List.replicate 2048 (.int .i64 0))⟩ (.nil) (.nil)) (.nil)) (.ag 194 ⟨1,false,.fn,[.nilFunc]⟩ (.ag 193 ⟨1,false,.fn,[.nilFunc]⟩ (.nil) (.nil)) (.nil)))) (.ag 202 ⟨1,false,.fn,[.nilFunc]⟩ (.ag 198 ⟨1,false,.fn,[.nilFunc]⟩ (.ag 197 ⟨1,false,.fn,[.nilFunc]⟩ (.ag 196 ⟨1,false,.fn,[.nilFunc]⟩ (.nil) (.nil)) (.nil)) (.ag 201 ⟨1,false,.fn,[.nilFunc]⟩ (.ag 199 ⟨1,false,.ptr 5,[.pointer none]⟩ (.nil) (.nil)) (.nil))) (.ag 207 ⟨1,false,.fn,[.nilFunc]⟩ (.ag 206 ⟨1,false,.fn,[.nilFunc]⟩ (.ag 204 ⟨1,false,.fn,[.nilFunc]⟩ (.nil) (.nil)) (.nil)) (.ag 209 ⟨1,false,.fn,[.nilFunc]⟩ (.ag 208 ⟨1,false,.fn,[.nilFunc]⟩ (.nil) (.nil)) (.nil)))))))) (.ag 319 ⟨1,false,.fn,[.nilFunc]⟩ (.ag 266 ⟨1,false,.fn,[.nilFunc]⟩ (.ag 238 ⟨1,false,.fn,[.nilFunc]⟩ (.ag 223 ⟨1,false,.fn,[.nilFunc]⟩ (.ag 216 ⟨1,false,.fn,[.nilFunc]⟩ (.ag 213 ⟨1,false,.ptr 215,[.pointer none]⟩ (.ag 212 ⟨1,false,.fn,[.nilFunc]⟩ (.ag 211 ⟨1,false,.fn,[.nilFunc]⟩ (.nil) (.nil)) (.nil)) (.ag 215 ⟨2,true,.st [(0,151),(1,3)],[.pointer none,.int .i64 0]⟩ (.ag 214 ⟨2,true,.st [(0,151),(1,3)],[.pointer none,.int .i64 0]⟩ (.nil) (.nil)) (.nil))) (.ag 219 ⟨1,false,.fn,[.nilFunc]⟩ (.ag 218 ⟨5,true,.st [(0,3),(1,3),(2,3),(3,9),(4,3)],[.int .i64 0,.int .i64 0,.int .i64 0,.string ByteArray.empty,.int .i64 0]⟩ (.ag 217 ⟨5,true,.st [(0,3),(1,3),(2,3),(3,9),(4,3)],[.int .i64 0,.int .i64 0,.int .i64 0,.string ByteArray.empty,.int .i64 0]⟩ (.nil) (.nil)) (.nil)) (.ag 221 ⟨4,true,.st [(0,163),(1,3),(2,26)],[.slice none 0 0,.int .i64 0,.int .i64 0,.int .i64 0]⟩ (.ag 220 ⟨4,true,.st [(0,163),(1,3),(2,26)],[.slice none 0 0,.int .i64 0,.int .i64 0,.int .i64 0]⟩ (.nil) (.nil)) (.nil)))) (.ag 231 ⟨1,false,.fn,[.nilFunc]⟩ (.ag 227 ⟨1,false,.fn,[.nilFunc]⟩ (.ag 226 ⟨1,false,.fn,[.nilFunc]⟩ (.ag 225 ⟨1,false,.fn,[.nilFunc]⟩ (.nil) (.nil)) (.nil)) (.ag 230 ⟨1,false,.fn,[.nilFunc]⟩ (.ag 228 ⟨1,false,.fn,[.nilFunc]⟩ (.nil) (.nil)) (.nil))) (.ag 234 ⟨1,false,.fn,[.nilFunc]⟩ (.ag 233 ⟨1,false,.fn,[.nilFunc]⟩ (.ag 232 ⟨1,false,.fn,[.nilFunc]⟩ (.nil) (.nil)) (.nil)) (.ag 237 ⟨1,false,.fn,[.nilFunc]⟩ (.ag 235 ⟨1,false,.fn,[.nilFunc]⟩ (.nil) (.nil)) (.nil))))) (.ag 250 ⟨1,false,.fn,[.nilFunc]⟩ (.ag 244 ⟨5,true,.st [(0,163),(1,3),(2,3),(3,26)],[.slice none 0 0,.int .i64 0,.int .i64 0,.int .i64 0,.int .i64 0]⟩ (.ag 241 ⟨1,true,.st [(0,3)],[.int .i64 0]⟩ (.ag 240 ⟨1,true,.st [(0,3)],[.int .i64 0]⟩ (.ag 239 ⟨1,false,.ptr 241,[.pointer none]⟩ (.nil) (.nil)) (.nil)) (.ag 243 ⟨5,true,.st [(0,163),(1,3),(2,3),(3,26)],[.slice none 0 0,.int .i64 0,.int .i64 0,.int .i64 0,.int .i64 0]⟩ (.ag 242 ⟨1,false,.fn,[.nilFunc]⟩ (.nil) (.nil)) (.nil))) (.ag 247 ⟨1,false,.fn,[.nilFunc]⟩ (.ag 246 ⟨1,false,.fn,[.nilFunc]⟩ (.ag 245 ⟨1,false,.fn,[.nilFunc]⟩ (.nil) (.nil)) (.nil)) (.ag 249 ⟨1,false,.fn,[.nilFunc]⟩ (.ag 248 ⟨1,false,.fn,[.nilFunc]⟩ (.nil) (.nil)) (.nil)))) (.ag 257 ⟨1,false,.fn,[.nilFunc]⟩ (.ag 253 ⟨1,false,.fn,[.nilFunc]⟩ (.ag 252 ⟨1,false,.fn,[.nilFunc]⟩ (.ag 251 ⟨1,false,.fn,[.nilFunc]⟩ (.nil) (.nil)) (.nil)) (.ag 256 ⟨1,false,.fn,[.nilFunc]⟩ (.ag 255 ⟨1,false,.fn,[.nilFunc]⟩ (.nil) (.nil)) (.nil))) (.ag 262 ⟨1,false,.fn,[.nilFunc]⟩ (.ag 261 ⟨1,false,.fn,[.nilFunc]⟩ (.ag 259 ⟨1,false,.fn,[.nilFunc]⟩ (.nil) (.nil)) (.nil)) (.ag 265 ⟨1,false,.fn,[.nilFunc]⟩ (.ag 263 ⟨1,false,.fn,[.nilFunc]⟩ (.nil) (.nil)) (.nil)))))) (.ag 293 ⟨1,false,.sl 290 1 8,[.slice none 0 0]⟩ (.ag 280 ⟨1,false,.fn,[.nilFunc]⟩ (.ag 274 ⟨1,false,.fn,[.nilFunc]⟩ (.ag 271 ⟨1,false,.fn,[.nilFunc]⟩ (.ag 270 ⟨1,false,.fn,[.nilFunc]⟩ (.ag 268 ⟨1,false,.fn,[.nilFunc]⟩ (.nil) (.nil)) (.nil)) (.ag 273 ⟨1,false,.fn,[.nilFunc]⟩ (.ag 272 ⟨1,false,.fn,[.nilFunc]⟩ (.nil) (.nil)) (.nil))) (.ag 277 ⟨1,false,.fn,[.nilFunc]⟩ (.ag 276 ⟨1,false,.fn,[.nilFunc]⟩ (.ag 275 ⟨1,false,.fn,[.nilFunc]⟩ (.nil) (.nil)) (.nil)) (.ag 279 ⟨1,false,.fn,[.nilFunc]⟩ (.ag 278 ⟨1,false,.fn,[.nilFunc]⟩ (.nil) (.nil)) (.nil)))) (.ag 286 ⟨1,false,.fn,[.nilFunc]⟩ (.ag 283 ⟨2,true,.st [(0,79),(1,96)],[.slice none 0 0,.slice none 0 0]⟩ (.ag 282 ⟨1,false,.fn,[.nilFunc]⟩ (.ag 281 ⟨1,false,.fn,[.nilFunc]⟩ (.nil) (.nil)) (.nil)) (.ag 285 ⟨2,true,.ar 2 1,[.int .i64 0,.int .i64 0]⟩ (.ag 284 ⟨2,true,.st [(0,79),(1,96)],[.slice none 0 0,.slice none 0 0]⟩ (.nil) (.nil)) (.nil))) (.ag 290 ⟨1,false,.int .u64,[.int .u64 0]⟩ (.ag 289 ⟨1,false,.fn,[.nilFunc]⟩ (.ag 288 ⟨1,false,.fn,[.nilFunc]⟩ (.nil) (.nil)) (.nil)) (.ag 292 ⟨1,false,.fn,[.nilFunc]⟩ (.ag 291 ⟨20,true,.ar 20 1,[.int .u8 0,.int .u8 0,.int .u8 0,.int .u8 0,.int .u8 0,.int .u8 0,.int .u8 0,.int .u8 0,.int .u8 0,.int .u8 0,.int .u8 0,.int .u8 0,.int .u8 0,.int .u8 0,.int .u8 0,.int .u8 0,.int .u8 0,.int .u8 0,.int .u8 0,.int .u8 0]⟩ (.nil) (.nil)) (.nil))))) (.ag 306 ⟨1,false,.fn,[.nilFunc]⟩ (.ag 299 ⟨1,false,.fn,[.nilFunc]⟩ (.ag 296 ⟨1,false,.fn,[.nilFunc]⟩ (.ag 295 ⟨1,true,.st [(0,293)],[.slice none 0 0]⟩ (.ag 294 ⟨1,true,.st [(0,293)],[.slice none 0 0]⟩ (.nil) (.nil)) (.nil)) (.ag 298 ⟨1,false,.fn,[.nilFunc]⟩ (.ag 297 ⟨1,false,.fn,[.nilFunc]⟩ (.nil) (.nil)) (.nil))) (.ag 302 ⟨1,false,.fn,[.nilFunc]⟩ (.ag 301 ⟨1,false,.ptr 70,[.pointer none]⟩ (.ag 300 ⟨1,false,.fn,[.nilFunc]⟩ (.nil) (.nil)) (.nil)) (.ag 305 ⟨1,false,.fn,[.nilFunc]⟩ (.ag 304 ⟨1,false,.fn,[.nilFunc]⟩ (.nil) (.nil)) (.nil)))) (.ag 312 ⟨1,false,.fn,[.nilFunc]⟩ (.ag 309 ⟨1,false,.fn,[.nilFunc]⟩ (.ag 308 ⟨1,false,.fn,[.nilFunc]⟩ (.ag 307 ⟨1,false,.fn,[.nilFunc]⟩ (.nil) (.nil)) (.nil)) (.ag 311 ⟨1,false,.fn,[.nilFunc]⟩ (.ag 310 ⟨1,false,.fn,[.nilFunc]⟩ (.nil) (.nil)) (.nil))) (.ag 316 ⟨1,false,.fn,[.nilFunc]⟩ (.ag 314 ⟨1,false,.fn,[.nilFunc]⟩ (.ag 313 ⟨1,false,.fn,[.nilFunc]⟩ (.nil) (.nil)) (.nil)) (.ag 318 ⟨1,false,.ptr 36,[.pointer none]⟩ (.ag 317 ⟨1,false,.fn,[.nilFunc]⟩ (.nil) (.nil)) (.nil))))))) (.ag 376 ⟨1,false,.int .i64,[.int .i64 0]⟩ (.ag 351 ⟨1,false,.fn,[.nilFunc]⟩ (.ag 334 ⟨1,false,.fn,[.nilFunc]⟩ (.ag 325 ⟨1,false,.sl 365 2 8,[.slice none 0 0]⟩ (.ag 322 ⟨1,false,.fn,[.nilFunc]⟩ (.ag 321 ⟨1,false,.fn,[.nilFunc]⟩ (.ag 320 ⟨1,false,.fn,[.nilFunc]⟩ (.nil) (.nil)) (.nil)) (.ag 324 ⟨1,false,.fn,[.nilFunc]⟩ (.ag 323 ⟨1,false,.fn,[.nilFunc]⟩ (.nil) (.nil)) (.nil))) (.ag 329 ⟨1,false,.fn,[.nilFunc]⟩ (.ag 327 ⟨1,false,.fn,[.nilFunc]⟩ (.ag 326 ⟨1,false,.fn,[.nilFunc]⟩ (.nil) (.nil)) (.nil)) (.ag 332 ⟨1,false,.fn,[.nilFunc]⟩ (.ag 331 ⟨1,false,.fn,[.nilFunc]⟩ (.nil) (.nil)) (.nil)))) (.ag 343 ⟨1,false,.int .u64,[.int .u64 0]⟩ (.ag 340 ⟨1,false,.fn,[.nilFunc]⟩ (.ag 338 ⟨1,false,.fn,[.nilFunc]⟩ (.ag 336 ⟨1,false,.fn,[.nilFunc]⟩ (.nil) (.nil)) (.nil)) (.ag 342 ⟨1,false,.fn,[.nilFunc]⟩ (.ag 341 ⟨1,false,.fn,[.nilFunc]⟩ (.nil) (.nil)) (.nil))) (.ag 346 ⟨1,false,.int .u64,[.int .u64 0]⟩ (.ag 345 ⟨1,false,.fn,[.nilFunc]⟩ (.ag 344 ⟨1,false,.fn,[.nilFunc]⟩ (.nil) (.nil)) (.nil)) (.ag 350 ⟨1,false,.fn,[.nilFunc]⟩ (.ag 349 ⟨1,false,.fn,[.nilFunc]⟩ (.nil) (.nil)) (.nil))))) (.ag 363 ⟨4,true,.ar 4 1,[.int .i64 0,.int .i64 0,.int .i64 0,.int .i64 0]⟩ (.ag 357 ⟨1,false,.fn,[.nilFunc]⟩ (.ag 354 ⟨2,true,.st [(0,272),(1,350)],[.nilFunc,.nilFunc]⟩ (.ag 353 ⟨1,false,.fn,[.nilFunc]⟩ (.ag 352 ⟨1,false,.fn,[.nilFunc]⟩ (.nil) (.nil)) (.nil)) (.ag 356 ⟨1,false,.fn,[.nilFunc]⟩ (.ag 355 ⟨2,true,.st [(0,272),(1,350)],[.nilFunc,.nilFunc]⟩ (.nil) (.nil)) (.nil))) (.ag 360 ⟨1,false,.fn,[.nilFunc]⟩ (.ag 359 ⟨1,false,.fn,[.nilFunc]⟩ (.ag 358 ⟨1,false,.fn,[.nilFunc]⟩ (.nil) (.nil)) (.nil)) (.ag 362 ⟨1,false,.fn,[.nilFunc]⟩ (.ag 361 ⟨1,false,.fn,[.nilFunc]⟩ (.nil) (.nil)) (.nil)))) (.ag 370 ⟨1,true,.st [(0,17)],[.pointer none]⟩ (.ag 366 ⟨1,false,.fn,[.nilFunc]⟩ (.ag 365 ⟨2,true,.st [(0,21),(1,21)],[.int .i32 0,.int .i32 0]⟩ (.ag 364 ⟨2,true,.st [(0,21),(1,21)],[.int .i32 0,.int .i32 0]⟩ (.nil) (.nil)) (.nil)) (.ag 369 ⟨1,false,.fn,[.nilFunc]⟩ (.ag 368 ⟨1,false,.fn,[.nilFunc]⟩ (.nil) (.nil)) (.nil))) (.ag 373 ⟨1,false,.fn,[.nilFunc]⟩ (.ag 372 ⟨1,false,.ptr 430,[.pointer none]⟩ (.ag 371 ⟨1,true,.st [(0,17)],[.pointer none]⟩ (.nil) (.nil)) (.nil)) (.ag 375 ⟨1,false,.fn,[.nilFunc]⟩ (.ag 374 ⟨1,false,.int .u32,[.int .u32 0]⟩ (.nil) (.nil)) (.nil)))))) (.ag 405 ⟨1,false,.fn,[.nilFunc]⟩ (.ag 392 ⟨1,false,.ptr 133,[.pointer none]⟩ (.ag 384 ⟨1,false,.fn,[.nilFunc]⟩ (.ag 380 ⟨1,false,.fn,[.nilFunc]⟩ (.ag 379 ⟨1,false,.fn,[.nilFunc]⟩ (.ag 378 ⟨1,false,.fn,[.nilFunc]⟩ (.nil) (.nil)) (.nil)) (.ag 383 ⟨1,false,.fn,[.nilFunc]⟩ (.ag 381 ⟨1,false,.fn,[.nilFunc]⟩ (.nil) (.nil)) (.nil))) (.ag 388 ⟨1,false,.fn,[.nilFunc]⟩ (.ag 386 ⟨1,false,.fn,[.nilFunc]⟩ (.ag 385 ⟨1,false,.fn,[.nilFunc]⟩ (.nil) (.nil)) (.nil)) (.ag 391 ⟨1,false,.fn,[.nilFunc]⟩ (.ag 390 ⟨1,false,.fn,[.nilFunc]⟩ (.nil) (.nil)) (.nil)))) (.ag 398 ⟨1,false,.ptr 3,[.pointer none]⟩ (.ag 395 ⟨1,false,.fn,[.nilFunc]⟩ (.ag 394 ⟨1,false,.int .u64,[.int .u64 0]⟩ (.ag 393 ⟨1,false,.fn,[.nilFunc]⟩ (.nil) (.nil)) (.nil)) (.ag 397 ⟨1,false,.fn,[.nilFunc]⟩ (.ag 396 ⟨1,false,.fn,[.nilFunc]⟩ (.nil) (.nil)) (.nil))) (.ag 401 ⟨1,false,.sl 414 2 8,[.slice none 0 0]⟩ (.ag 400 ⟨1,false,.fn,[.nilFunc]⟩ (.ag 399 ⟨1,false,.fn,[.nilFunc]⟩ (.nil) (.nil)) (.nil)) (.ag 404 ⟨1,false,.fn,[.nilFunc]⟩ (.ag 402 ⟨1,false,.fn,[.nilFunc]⟩ (.nil) (.nil)) (.nil))))) (.ag 418 ⟨4,true,.st [(0,17),(1,17),(2,17),(3,9)],[.pointer none,.pointer none,.pointer none,.string ByteArray.empty]⟩ (.ag 412 ⟨1,false,.fn,[.nilFunc]⟩ (.ag 408 ⟨1,false,.fn,[.nilFunc]⟩ (.ag 407 ⟨1,false,.fn,[.nilFunc]⟩ (.ag 406 ⟨1,false,.fn,[.nilFunc]⟩ (.nil) (.nil)) (.nil)) (.ag 411 ⟨1,false,.ptr 394,[.pointer none]⟩ (.ag 410 ⟨1,false,.fn,[.nilFunc]⟩ (.nil) (.nil)) (.nil))) (.ag 415 ⟨1,false,.fn,[.nilFunc]⟩ (.ag 414 ⟨2,true,.st [(0,21),(1,21)],[.int .i32 0,.int .i32 0]⟩ (.ag 413 ⟨2,true,.st [(0,21),(1,21)],[.int .i32 0,.int .i32 0]⟩ (.nil) (.nil)) (.nil)) (.ag 417 ⟨4,true,.st [(0,17),(1,17),(2,17),(3,9)],[.pointer none,.pointer none,.pointer none,.string ByteArray.empty]⟩ (.ag 416 ⟨1,false,.fn,[.nilFunc]⟩ (.nil) (.nil)) (.nil)))) (.ag 426 ⟨1,false,.int .i32,[.int .i32 0]⟩ (.ag 423 ⟨1,false,.int .u8,[.int .u8 0]⟩ (.ag 422 ⟨1,false,.int .u8,[.int .u8 0]⟩ (.ag 419 ⟨0,true,.ar 0 1,[]⟩ (.nil) (.nil)) (.nil)) (.ag 425 ⟨1,false,.int .i32,[.int .i32 0]⟩ (.ag 424 ⟨1,false,.fn,[.nilFunc]⟩ (.nil) (.nil)) (.nil))) (.ag 429 ⟨2,true,.st [(0,9),(1,423)],[.string ByteArray.empty,.int .u8 0]⟩ (.ag 428 ⟨11,true,.st [(0,12),(1,12),(2,374),(3,422),(4,5),(5,5),(6,423),(7,424),(8,199),(9,425),(10,426)],[.int .u64 0,.int .u64 0,.int .u32 0,.int .u8 0,.int .u8 0,.int .u8 0,.int .u8 0,.nilFunc,.pointer none,.int .i32 0,.int .i32 0]⟩ (.ag 427 ⟨11,true,.st [(0,12),(1,12),(2,374),(3,422),(4,5),(5,5),(6,423),(7,424),(8,199),(9,425),(10,426)],[.int .u64 0,.int .u64 0,.int .u32 0,.int .u8 0,.int .u8 0,.int .u8 0,.int .u8 0,.nilFunc,.pointer none,.int .i32 0,.int .i32 0]⟩ (.nil) (.nil)) (.nil)) (.ag 430 ⟨2,true,.st [(0,9),(1,423)],[.string ByteArray.empty,.int .u8 0]⟩ (.nil) (.nil))))))))
theorem tG:tt.ok Tryz.prog=true:=by decide +kernel
theorem mo:Tryz.prog.follows .mixedOrders=true:=rfl
end Dv
end Go.Proofs.YtfdedoiiahbnnaaGreat
namespace Go.Proofs.YtfdedoiiahbnnaaGreat
namespace Dv
open Go
theorem eG {f:FuncId} {fn:Func} {c:Code} {args:List DV} {os:List (List DV)} {bZ:List TkE} {Φ:DV->List (List DV)->List TkE->Prop} (nt:Nat) (rs:List ResultVar)
 (hf:Tryz.prog.funcs[f]? = some fn) (hb:fn.body=some c) (zm:fn.ntmps=nt) (qu:fn.results.toList=rs)
 (h:∀ (E:En) (w:World) (hn:E.β.length=os.length) (hm:E.tk.length=bZ.length),go ⟨Tryz.prog,tt,tG,fn,nt,rs,qu,w,E,os.length,bZ.length,hn,hm,false,Φ,[],[],false⟩ 5000 [.code c] ⟨argSl 0 args,os,bZ⟩) (hlen:args.length<=nt:=by exact Nat.le_of_ble_eq_true rfl):Ev Tryz.prog f args os bZ Φ:=Ol tt tG 5000 nt rs hf hb zm qu hlen h
theorem cP {X:Ctx} {st:St} {k:List It} {f:FuncId} {args ba:List DV} {d:Nat} {r:DV} (iV:Enters X.P f) (hc:aV X.P f ba r) (hk:go X 4000 k ⟨(d,⟨[],r⟩) :: st.sl,st.bx,st.tk⟩) (ha:CcL [] 0 0 0 ba args:=by exact ax) (hd:eL X.nt st.sl (some d)=true:=by exact rfl) (hst:X.still=false:=by exact rfl):CallG X f args (some d) k st:=E4 iV hc ha hd hk hst
theorem cD {X:Ctx} {st:St} {c:Bool} {s0:List (Nat×Sl)} {D:Dr} {i:Nat} {f:FuncId} {args ba:List DV} {d:Nat} {r:List (Nat×Oper)} {zw:DV} (iV:Enters X.P f) (hc:aV X.P f ba zw) (hk:put2 s0 st (some d) false [] zw (goD X D 3000 c r)) (ha:CcL [] 0 0 0 ba args:=by exact ax) (hd:(eL X.nt st.sl (some d) && eL X.nt s0 (some d))=true:=by exact rfl) (hst:X.still=false:=by exact rfl):tE X D c i r f args (some d) s0 st:=Ix iV hc ha hd hk hst
theorem dI {X:Ctx} {st:St} {k:List It} {id:Nat} {ops:Array Oper} (h:goD X ⟨ops,fun _=>false,k,st,none⟩ 3000 true (nOps 0 ops.toList) st.sl st) (hm:X.P.follows .mixedOrders=true:=by exact mo) (hc:zr ops (fun _=>false)=true:=by decide +kernel):qv X id ops k st:=vc _ hm hc h
theorem dS {X:Ctx} {st:St} {k:List It} {id:Nat} {ops:Array Oper} (h:goD X ⟨ops,OA ops,k,st,none⟩ 3000 true (nOps 0 ops.toList) st.sl st) (hm:X.P.follows .mixedOrders=true:=by exact mo) (hc:zr ops (OA ops)=true:=by decide +kernel):qv X id ops k st:=Iw hm hc h
end Dv
end Go.Proofs.YtfdedoiiahbnnaaGreat
set_option maxRecDepth 100000
namespace Go.Proofs.YtfdedoiiahbnnaaGreat
open Go Go.RowKit Dv Go.Proofs.Tryz
theorem L2:Enters prog 10:=enters_of func10 (by decide +kernel) rfl
theorem OI:Enters prog 11:=enters_of func11 (by decide +kernel) rfl
theorem Tp:Enters prog 13:=enters_of func13 (by decide +kernel) rfl
theorem Tq:Enters prog 14:=enters_of func14 (by decide +kernel) rfl
theorem OJ:Enters prog 15:=enters_of func15 (by decide +kernel) rfl
theorem Tr:Enters prog 16:=enters_of func16 (by decide +kernel) rfl
theorem OL:Enters prog 20:=enters_of func20 (by decide +kernel) rfl
theorem Fk:Enters prog 22:=enters_of func22 (by decide +kernel) rfl
theorem Ts:Enters prog 23:=enters_of func23 (by decide +kernel) rfl
theorem Tt:Enters prog 26:=enters_of func26 (by decide +kernel) rfl
theorem OM:Enters prog 35:=enters_of func35 (by decide +kernel) rfl
theorem ID:Enters prog 38:=enters_of func38 (by decide +kernel) rfl
theorem IE:Enters prog 39:=enters_of func39 (by decide +kernel) rfl
theorem Tu:Enters prog 40:=enters_of func40 (by decide +kernel) rfl
theorem Tv:Enters prog 41:=enters_of func41 (by decide +kernel) rfl
theorem Tw:Enters prog 42:=enters_of func42 (by decide +kernel) rfl
theorem Tx:Enters prog 43:=enters_of func43 (by decide +kernel) rfl
theorem en44:Enters prog 44:=enters_of func44 (by decide +kernel) rfl
theorem Tz:Enters prog 45:=enters_of func45 (by decide +kernel) rfl
theorem TA:Enters prog 46:=enters_of func46 (by decide +kernel) rfl
theorem ON:Enters prog 47:=enters_of func47 (by decide +kernel) rfl
theorem L3:Enters prog 49:=enters_of func49 (by decide +kernel) rfl
theorem OO:Enters prog 50:=enters_of func50 (by decide +kernel) rfl
theorem IF:Enters prog 51:=enters_of func51 (by decide +kernel) rfl
theorem TB:Enters prog 52:=enters_of func52 (by decide +kernel) rfl
theorem OP:Enters prog 53:=enters_of func53 (by decide +kernel) rfl
theorem TC:Enters prog 61:=enters_of func61 (by decide +kernel) rfl
theorem TD:Enters prog 62:=enters_of func62 (by decide +kernel) rfl
theorem OQ:Enters prog 63:=enters_of func63 (by decide +kernel) rfl
theorem OR:Enters prog 64:=enters_of func64 (by decide +kernel) rfl
theorem L4:Enters prog 65:=enters_of func65 (by decide +kernel) rfl
theorem TF:Enters prog 66:=enters_of func66 (by decide +kernel) rfl
theorem TG:Enters prog 67:=enters_of func67 (by decide +kernel) rfl
theorem IG:Enters prog 68:=enters_of func68 (by decide +kernel) rfl
theorem CI:Enters prog 82:=enters_of func82 (by decide +kernel) rfl
theorem TH:Enters prog 84:=enters_of func84 (by decide +kernel) rfl
theorem TI:Enters prog 85:=enters_of func85 (by decide +kernel) rfl
theorem TJ:Enters prog 86:=enters_of func86 (by decide +kernel) rfl
theorem TL:Enters prog 87:=enters_of func87 (by decide +kernel) rfl
theorem TM:Enters prog 89:=enters_of func89 (by decide +kernel) rfl
theorem TN:Enters prog 91:=enters_of func91 (by decide +kernel) rfl
theorem TO:Enters prog 98:=enters_of func98 (by decide +kernel) rfl
theorem OS:Enters prog 99:=enters_of func99 (by decide +kernel) rfl
theorem J6:Enters prog 100:=enters_of func100 (by decide +kernel) rfl
theorem OT:Enters prog 101:=enters_of func101 (by decide +kernel) rfl
theorem OU:Enters prog 102:=enters_of func102 (by decide +kernel) rfl
theorem OV:Enters prog 103:=enters_of func103 (by decide +kernel) rfl
theorem OW:Enters prog 104:=enters_of func104 (by decide +kernel) rfl
theorem OX:Enters prog 105:=enters_of func105 (by decide +kernel) rfl
theorem Fl:Enters prog 106:=enters_of func106 (by decide +kernel) rfl
theorem Fm:Enters prog 107:=enters_of func107 (by decide +kernel) rfl
theorem Fo:Enters prog 108:=enters_of func108 (by decide +kernel) rfl
theorem OY:Enters prog 109:=enters_of func109 (by decide +kernel) rfl
theorem Fp:Enters prog 110:=enters_of func110 (by decide +kernel) rfl
theorem OZ:Enters prog 111:=enters_of func111 (by decide +kernel) rfl
theorem kk:Enters prog 112:=enters_of func112 (by decide +kernel) rfl
theorem O0:Enters prog 113:=enters_of func113 (by decide +kernel) rfl
theorem O1:Enters prog 114:=enters_of func114 (by decide +kernel) rfl
theorem J7:Enters prog 115:=enters_of func115 (by decide +kernel) rfl
theorem BD:Enters prog 116:=enters_of func116 (by decide +kernel) rfl
theorem O2:Enters prog 123:=enters_of func123 (by decide +kernel) rfl
theorem J8:Enters prog 124:=enters_of func124 (by decide +kernel) rfl
theorem Fq:Enters prog 125:=enters_of func125 (by decide +kernel) rfl
theorem J9:Enters prog 126:=enters_of func126 (by decide +kernel) rfl
theorem O3:Enters prog 127:=enters_of func127 (by decide +kernel) rfl
theorem Ka:Enters prog 128:=enters_of func128 (by decide +kernel) rfl
theorem Kb:Enters prog 129:=enters_of func129 (by decide +kernel) rfl
theorem O4:Enters prog 130:=enters_of func130 (by decide +kernel) rfl
theorem Fs:Enters prog 131:=enters_of func131 (by decide +kernel) rfl
theorem Kc:Enters prog 132:=enters_of func132 (by decide +kernel) rfl
theorem xq:Enters prog 133:=enters_of func133 (by decide +kernel) rfl
theorem en134:Enters prog 134:=enters_of func134 (by decide +kernel) rfl
theorem Kd:Enters prog 135:=enters_of func135 (by decide +kernel) rfl
theorem O5:Enters prog 136:=enters_of func136 (by decide +kernel) rfl
theorem Fu:Enters prog 138:=enters_of func138 (by decide +kernel) rfl
theorem mQ:Enters prog 139:=enters_of func139 (by decide +kernel) rfl
theorem xr:Enters prog 154:=enters_of func154 (by decide +kernel) rfl
theorem Fv:Enters prog 156:=enters_of func156 (by decide +kernel) rfl
theorem Ke:Enters prog 158:=enters_of func158 (by decide +kernel) rfl
theorem Kf:Enters prog 159:=enters_of func159 (by decide +kernel) rfl
theorem O6:Enters prog 160:=enters_of func160 (by decide +kernel) rfl
theorem O7:Enters prog 161:=enters_of func161 (by decide +kernel) rfl
theorem O8:Enters prog 162:=enters_of func162 (by decide +kernel) rfl
theorem BE:Enters prog 163:=enters_of func163 (by decide +kernel) rfl
theorem O9:Enters prog 166:=enters_of func166 (by decide +kernel) rfl
theorem Fw:Enters prog 167:=enters_of func167 (by decide +kernel) rfl
theorem xu:Enters prog 168:=enters_of func168 (by decide +kernel) rfl
theorem BF:Enters prog 170:=enters_of func170 (by decide +kernel) rfl
theorem Pa:Enters prog 171:=enters_of func171 (by decide +kernel) rfl
theorem Fx:Enters prog 172:=enters_of func172 (by decide +kernel) rfl
theorem Pb:Enters prog 185:=enters_of func185 (by decide +kernel) rfl
theorem Pc:Enters prog 186:=enters_of func186 (by decide +kernel) rfl
theorem BG:Enters prog 187:=enters_of func187 (by decide +kernel) rfl
theorem qW:Enters prog 188:=enters_of func188 (by decide +kernel) rfl
theorem Pd:Enters prog 189:=enters_of func189 (by decide +kernel) rfl
theorem Pe:Enters prog 190:=enters_of func190 (by decide +kernel) rfl
theorem Kg:Enters prog 191:=enters_of func191 (by decide +kernel) rfl
theorem Fy:Enters prog 192:=enters_of func192 (by decide +kernel) rfl
theorem eN:Enters prog 193:=enters_of func193 (by decide +kernel) rfl
theorem Pf:Enters prog 194:=enters_of func194 (by decide +kernel) rfl
theorem Kh:Enters prog 195:=enters_of func195 (by decide +kernel) rfl
theorem Fz:Enters prog 196:=enters_of func196 (by decide +kernel) rfl
theorem Pg:Enters prog 197:=enters_of func197 (by decide +kernel) rfl
theorem Ki:Enters prog 198:=enters_of func198 (by decide +kernel) rfl
theorem tH:Enters prog 199:=enters_of func199 (by decide +kernel) rfl
theorem Kj:Enters prog 200:=enters_of func200 (by decide +kernel) rfl
theorem Kk:Enters prog 201:=enters_of func201 (by decide +kernel) rfl
theorem Pj:Enters prog 202:=enters_of func202 (by decide +kernel) rfl
theorem Pk:Enters prog 206:=enters_of func206 (by decide +kernel) rfl
theorem FA:Enters prog 208:=enters_of func208 (by decide +kernel) rfl
theorem Pl:Enters prog 209:=enters_of func209 (by decide +kernel) rfl
theorem Pm:Enters prog 210:=enters_of func210 (by decide +kernel) rfl
theorem FB:Enters prog 211:=enters_of func211 (by decide +kernel) rfl
theorem xx:Enters prog 212:=enters_of func212 (by decide +kernel) rfl
theorem FC:Enters prog 213:=enters_of func213 (by decide +kernel) rfl
theorem Kl:Enters prog 214:=enters_of func214 (by decide +kernel) rfl
theorem Pn:Enters prog 215:=enters_of func215 (by decide +kernel) rfl
theorem Po:Enters prog 216:=enters_of func216 (by decide +kernel) rfl
theorem Pp:Enters prog 217:=enters_of func217 (by decide +kernel) rfl
theorem BH:Enters prog 218:=enters_of func218 (by decide +kernel) rfl
theorem FD:Enters prog 220:=enters_of func220 (by decide +kernel) rfl
theorem Km:Enters prog 225:=enters_of func225 (by decide +kernel) rfl
theorem Kn:Enters prog 235:=enters_of func235 (by decide +kernel) rfl
theorem Pq:Enters prog 236:=enters_of func236 (by decide +kernel) rfl
theorem c9:Enters prog 237:=enters_of func237 (by decide +kernel) rfl
theorem Pr:Enters prog 238:=enters_of func238 (by decide +kernel) rfl
theorem Ps:Enters prog 239:=enters_of func239 (by decide +kernel) rfl
theorem Ko:Enters prog 240:=enters_of func240 (by decide +kernel) rfl
theorem Kp:Enters prog 241:=enters_of func241 (by decide +kernel) rfl
theorem Kq:Enters prog 242:=enters_of func242 (by decide +kernel) rfl
theorem Pt:Enters prog 244:=enters_of func244 (by decide +kernel) rfl
theorem FE:Enters prog 245:=enters_of func245 (by decide +kernel) rfl
theorem BI:Enters prog 246:=enters_of func246 (by decide +kernel) rfl
theorem Kr:Enters prog 247:=enters_of func247 (by decide +kernel) rfl
theorem Ks:Enters prog 248:=enters_of func248 (by decide +kernel) rfl
theorem Pu:Enters prog 249:=enters_of func249 (by decide +kernel) rfl
theorem Pv:Enters prog 250:=enters_of func250 (by decide +kernel) rfl
theorem Kt:Enters prog 251:=enters_of func251 (by decide +kernel) rfl
theorem Pw:Enters prog 260:=enters_of func260 (by decide +kernel) rfl
theorem km:Enters prog 268:=enters_of func268 (by decide +kernel) rfl
theorem FG:Enters prog 269:=enters_of func269 (by decide +kernel) rfl
theorem Px:Enters prog 270:=enters_of func270 (by decide +kernel) rfl
theorem Py:Enters prog 271:=enters_of func271 (by decide +kernel) rfl
theorem Pz:Enters prog 272:=enters_of func272 (by decide +kernel) rfl
theorem Ku:Enters prog 273:=enters_of func273 (by decide +kernel) rfl
theorem Kv:Enters prog 284:=enters_of func284 (by decide +kernel) rfl
theorem Kw:Enters prog 285:=enters_of func285 (by decide +kernel) rfl
theorem PA:Enters prog 286:=enters_of func286 (by decide +kernel) rfl
theorem PB:Enters prog 287:=enters_of func287 (by decide +kernel) rfl
theorem Kx:Enters prog 290:=enters_of func290 (by decide +kernel) rfl
theorem PD:Enters prog 291:=enters_of func291 (by decide +kernel) rfl
theorem xy:Enters prog 327:=enters_of func327 (by decide +kernel) rfl
theorem PE:Enters prog 328:=enters_of func328 (by decide +kernel) rfl
theorem PF:Enters prog 332:=enters_of func332 (by decide +kernel) rfl
theorem PG:Enters prog 333:=enters_of func333 (by decide +kernel) rfl
theorem PH:Enters prog 334:=enters_of func334 (by decide +kernel) rfl
theorem PI:Enters prog 335:=enters_of func335 (by decide +kernel) rfl
theorem PJ:Enters prog 352:=enters_of func352 (by decide +kernel) rfl
theorem PK:Enters prog 353:=enters_of func353 (by decide +kernel) rfl
end Go.Proofs.YtfdedoiiahbnnaaGreat
namespace Go.Proofs.YtfdedoiiahbnnaaGreat
open Go Go.RowKit Dv
structure Wd where
 s:ByteArray
 a:Int
structure Hd where
 ai:Int
 cV:Int
 lo:Int
 hi:Int
 most:Int
 af:List Wd
 name:Wd
structure Ph where
 name:Wd
 bare:Bool
 label:List Wd
 wide:Int
 ck:Int
 cn:Int
 ca:Int
 cl:List Wd
mutual
inductive Ty where
 | mk (h:Hd) (ps:Pts)
inductive Pts where
 | nil
 | cons (p:Ph) (t:Ty) (r:Pts)
end
def Ty.h:Ty->Hd | .mk h _=>h
def Ty.ps:Ty->Pts | .mk _ ps=>ps
def Pts.toList:Pts->List (Ph × Ty)
 | .nil=>[]
 | .cons p t r=>(p,t) :: r.toList
def Pts.len:Pts->Nat
 | .nil=>0
 | .cons _ _ r=>r.len + 1
theorem Pts.FH:∀ ps:Pts,ps.len=ps.toList.length
 | .nil=>rfl
 | .cons _ _ r=>by simp [Pts.len,Pts.toList,Pts.FH r]
def Wd.wt (w:Wd):Nat:=w.s.size + 64
def wdsWt:List Wd->Nat
 | []=>0
 | w :: r=>w.wt + wdsWt r
def Hd.wt (h:Hd):Nat:=256 + wdsWt h.af + h.name.wt
def Ph.wt (p:Ph):Nat:=256 + p.name.wt + wdsWt p.label + wdsWt p.cl
mutual
def Ty.wt:Ty->Nat
 | .mk h ps=>h.wt + ps.wt
def Pts.wt:Pts->Nat
 | .nil=>0
 | .cons p t r=>p.wt + t.wt + r.wt
end
theorem bf:∀ l:List Wd,64 * l.length<=wdsWt l
 | []=>zLeR _
 | w :: r=>by have:=bf r;simp only [List.length_cons,wdsWt,Wd.wt];omega
theorem fx:∀ {l:List Wd} {w:Wd},w∈l->w.s.size + 64<=wdsWt l
 | x :: r,w,h=>by
  rcases cY h with h | h
  ·subst h;simp only [wdsWt,Wd.wt];omega
  ·have:=fx h;simp only [wdsWt];omega
theorem Pts.dX:∀ ps:Pts,256 * ps.len<=ps.wt
 | .nil=>zLeR _
 | .cons p t r=>by have:=Pts.dX r;simp only [Pts.len,Pts.wt,Ph.wt];omega
theorem Pts.eD:∀ {ps:Pts} {p:Ph} {t:Ty},(p,t)∈ps.toList->p.wt + t.wt<=ps.wt
 | .cons p t r,q,u,h=>by
  rcases cY h with h | h
  ·cases h;simp only [Pts.wt];omega
  ·have:=Pts.eD h;simp only [Pts.wt];omega
theorem Ty.gq (t:Ty):256<=t.wt:=by
 cases t;simp only [Ty.wt,Hd.wt];omega
def gl (w:Wd):List DV:=[.v (.string w.s),.v (.int .i64 w.a)]
def bm (l:List Wd):List (List DV):=l.map gl
def zB (p:Ph) (tl:List DV):List DV:=
 .v (.string p.name.s) :: .v (.int .i64 p.name.a) :: .v (.bool p.bare) :: .sl 2 (bm p.label) none :: .v (.int .i64 p.wide) :: .v (.int .i64 p.ck) :: .v (.int .i64 p.cn) :: .v (.int .i64 p.ca) :: .sl 2 (bm p.cl) none :: tl
mutual
def cX:Ty->List DV
 | .mk h ps=>[.v (.int .i64 h.ai),.v (.int .i64 h.cV),.v (.int .i64 h.lo),.v (.int .i64 h.hi),.v (.int .i64 h.most),.sl 2 (bm h.af) none,.sl 18 (dY ps) none,.v (.string h.name.s),.v (.int .i64 h.name.a)]
def dY:Pts->List (List DV)
 | .nil=>[]
 | .cons p t r=>zB p (cX t) :: dY r
end
theorem ak (l:List Wd):(bm l).length=l.length:=by simp [bm]
theorem aC:∀ ps:Pts,(dY ps).length=ps.len
 | .nil=>by simp [dY,Pts.len]
 | .cons p t r=>by simp [dY,Pts.len,aC r]
theorem aH {l:List Wd} {j:Nat} {w:Wd} (h:l[j]? = some w):(bm l)[j]? = some (gl w):=by simp [bm,h]
theorem tI {l:List Wd} {e:Nat} {x:Wd} (h:l[e]? = some x):bm (l.take e) ++ [gl x]=bm (l.take (e + 1)):=by
 rw [List.take_add_one,h];simp [bm]
theorem bz:∀ {ps:Pts} {j:Nat} {p:Ph} {t:Ty},ps.toList[j]? = some (p,t)->(dY ps)[j]? = some (zB p (cX t))
 | .nil,j,p,t,h=>by simp [Pts.toList] at h
 | .cons q u r,0,p,t,h=>by grind [Pts.toList,dY]
 | .cons q u r,j + 1,p,t,h=>by
  simp only [Pts.toList,List.getElem?_cons_succ] at h;simp only [dY,List.getElem?_cons_succ];exact bz h
def Pts.drop:Nat->Pts->Pts
 | 0,ps=>ps
 | _ + 1,.nil=>.nil
 | e + 1,.cons _ _ r=>r.drop e
theorem Pts.drop_cons:∀ {e:Nat} {ps:Pts} {p:Ph} {t:Ty},ps.toList[e]? = some (p,t)->ps.drop e = .cons p t (ps.drop (e + 1))
 | 0,.cons q u r,p,t,h=>by
  simp only [Pts.toList,List.getElem?_cons_zero,oI,Prod.mk.injEq] at h;obtain ⟨rfl,rfl⟩:=h;rfl
 | e + 1,.cons q u r,p,t,h=>by
  simp only [Pts.toList,List.getElem?_cons_succ] at h;simp only [Pts.drop];exact Pts.drop_cons h
 | 0,.nil,p,t,h=>by simp [Pts.toList] at h
 | e + 1,.nil,p,t,h=>by simp [Pts.toList] at h
theorem Pts.cq:∀ (ps:Pts),ps.drop ps.len = .nil
 | .nil=>rfl
 | .cons _ _ r=>by simp only [Pts.len,Pts.drop];exact Pts.cq r
theorem Pts.dp {ps:Pts} {e:Nat} (h:e < ps.len):∃ p t,ps.toList[e]? = some (p,t):=by
 rw [Pts.FH] at h;exact ⟨_,_,gE h⟩
theorem drop_cons {α:Type} {l:List α} {e:Nat} {x:α} (h:l[e]? = some x):l.drop e=x :: l.drop (e + 1):=by
 obtain ⟨h1,h2⟩:=List.getElem?_eq_some_iff.1 h;rw [<- h2];exact List.drop_eq_getElem_cons h1
def aJ:ByteArray:=⟨#[]⟩
def FI:Hd:=⟨0,0,0,0,0,[],⟨aJ,0⟩⟩
def bT:Ty:=.mk FI .nil
def dK:Ph:=⟨⟨aJ,0⟩,false,[],0,0,0,0,[]⟩
def gv:Ph:=⟨⟨aJ,0⟩,true,[],0,0,0,0,[]⟩
theorem aS {e n:Nat} (h:e < n) (hn:n<=4611686018427387904):IntKind.i64.wrap ((e:Int) + 1)=((e + 1:Nat):Int):=by
 rw [IntWalk.i64_in _ ⟨by omega,by omega⟩];omega
theorem wrap64 {n:Int} (h1 : -9223372036854775808<=n) (h2:n<=9223372036854775807):IntKind.i64.wrap n=n:=IntWalk.i64_in n ⟨h1,h2⟩
theorem av (x a:Bool):pickB x a false=(x && a):=by cases x<;>rfl
theorem aj (x b:Bool):pickB x true b=(x || b):=by cases x<;>rfl
end Go.Proofs.YtfdedoiiahbnnaaGreat
set_option maxRecDepth 100000
namespace Go.Proofs.YtfdedoiiahbnnaaGreat
open Go Go.RowKit Dv Go.Proofs.Tryz
def isLet (c:Int):Bool:=decide (97<=c) && decide (c<=122)
def fy (c:Int):Bool:=(isLet c || (decide (48<=c) && decide (c<=57))) || decide (c=95)
def signs:List UInt8->Nat
 | []=>0
 | c :: r=>if fy c.toNat=true then signs r + 1 else 0
def cj:List UInt8->Nat
 | []=>0
 | c :: r=>if isLet c.toNat=true then signs r + 1 else 0
def aY (s:ByteArray):Bool:=decide (0 < s.size) && (decide (s.size<=32) && decide (cj s.data.toList=s.size))
theorem xz {c:Int} (h:isLet c=true):fy c=true:=by simp [fy,h]
theorem xA:∀ l:List UInt8,signs l<=l.length
 | []=>zLeR _
 | c :: r=>by
  simp only [signs,List.length_cons];split
  ·have:=xA r;omega
  ·omega
theorem qX {c:UInt8} {r:List UInt8} (h:isLet c.toNat=true):cj (c :: r)=signs (c :: r):=by
 simp [cj,signs,h,xz h]
theorem gN {s:ByteArray} {k:Nat} (h:k < s.size):∃ c:UInt8,s.data.toList.drop k=c :: s.data.toList.drop (k + 1)/\bq s k=c.toNat:=by
 have hk:k < s.data.toList.length:=sU h;refine ⟨s.data.toList[k],by rw [<- List.drop_eq_getElem_cons hk],?_⟩
 grind [bq]
theorem mR {s:ByteArray} {k:Nat} (h:s.size<=k):s.data.toList.drop k=[]:=List.drop_eq_nil_of_le (sU h)
theorem oZ (c:Int):aV prog 235 [.v (.int .u8 c)] (.v (.bool (isLet c))):=by
 refine eG 9 [.tmp 2] func235 rfl ntmps235 rfl fun _ _ _ _=>?_;exact (congrArg (fun b=>DV.v (.bool b)) (av _ _):_=_)
theorem CJ (c:Int):aV prog 236 [.v (.int .u8 c)] (.v (.bool (fy c))):=by
 refine eG 17 [.tmp 2] func236 rfl ntmps236 rfl fun _ _ _ _=>?_;refine cP Kn (oZ c) ?_;refine (cg ?_:);simp only [av,aj,fy]
abbrev zC (s:ByteArray) (i e:Nat):St:=⟨[al 5 e,(0,⟨[],.v (.string s)⟩),al 1 i],[],[]⟩
theorem jH (s:ByteArray) (i:Nat):s.extract i (i + 0)=⟨#[]⟩:=by
 apply ByteArray.ext
 simp_all
theorem kV (s:ByteArray) (i:Nat) (hi:i < s.size) (hs:s.size<=4611686018427387904):aV prog 154 [.v (.string s),.v (.int .i64 i)]
  (.bW [.v (.string (s.extract i (i + cj (s.data.toList.drop i)))),.v (.int .i64 ((i + cj (s.data.toList.drop i):Nat):Int))]):=by
 obtain ⟨c0,tJ,gj⟩:=gN hi;refine eG 38 [.tmp 4,.tmp 5] func154 rfl ntmps154 rfl fun _ _ _ _=>?_;refine br (fun h=>?_) (fun _=>?_)
 ·simp [aj] at h;omega
 refine ⟨⟨by omega,by omega⟩,?_⟩;refine cP Kn (oZ _) ?_;refine br ?_ ?_<;>intro h
 ·have hl:isLet (c0.toNat:Int)=false:=by grind
  have hn:cj (s.data.toList.drop i)=0:=by rw [tJ];simp [cj,hl]
  rw [hn,jH];exact ⟨_,ax,rfl⟩
 have hl:isLet (c0.toNat:Int)=true:=by grind
 have hn:cj (s.data.toList.drop i)=signs (s.data.toList.drop i):=by rw [tJ];exact qX hl
 rw [hn]
 refine aX (fun j st=>∃ e:Nat,st=zC s i e/\e<=s.size/\i<=e/\e + signs (s.data.toList.drop e)=i + signs (s.data.toList.drop i)/\j=s.size - e)
  (s.size - i) (zC s i i) (bl wB) ⟨i,rfl,by omega,by omega,rfl,rfl⟩ ?_
 rintro j st ⟨e,rfl,he,Ek,hinv,rfl⟩;refine br ?_ ?_<;>intro h
 ·have aq:e < s.size:=sU h;refine ⟨⟨by omega,by omega⟩,?_⟩;refine cP Pq (CJ _) ?_;obtain ⟨c,hd,hb⟩:=gN aq;refine br ?_ ?_<;>intro h2
  ·have TP:fy (c.toNat:Int)=true:=by
    have:fy ((bq s e:Nat):Int)=true:=h2
    rwa [hb] at this
   refine ⟨zC s i (e + 1),(bl (c8 (aS aq (by omega)))),s.size - (e + 1),by omega,e + 1,rfl,by omega,by omega,?_,rfl⟩;rw [hd] at hinv;simp only [signs,TP,if_true] at hinv;omega
  ·have TP:fy (c.toNat:Int)=false:=by
    have:fy ((bq s e:Nat):Int)=false:=h2
    rwa [hb] at this
   rw [hd] at hinv;simp only [signs,TP] at hinv;refine ⟨⟨by omega,by omega,by omega⟩,?_⟩;have:i + signs (s.data.toList.drop i)=e:=by simp at hinv;omega
   rw [this];exact ⟨_,ax,rfl⟩
 ·have hge:e=s.size:=by simp at h;omega
  rw [mR (by omega)] at hinv;simp only [signs] at hinv;refine ⟨⟨by omega,by omega,by omega⟩,?_⟩;have:i + signs (s.data.toList.drop i)=e:=by omega
  rw [this];exact ⟨_,ax,rfl⟩
theorem take_nil (s:ByteArray) (hs:s.size=0):aV prog 154 [.v (.string s),.v (.int .i64 0)] (.bW [.v (.string ⟨#[]⟩),.v (.int .i64 0)]):=by
 refine eG 38 [.tmp 4,.tmp 5] func154 rfl ntmps154 rfl fun _ _ _ _=>?_;refine br (fun _=>?_) (fun h=>?_)
 ·exact ⟨_,ax,rfl⟩
 ·simp [aj,hs] at h
theorem qY (l:List UInt8):cj l<=l.length:=by
 cases l with
 | nil=>exact zLeR _
 | cons c r=>grind [cj,xA]
theorem xB (s:ByteArray):decide (s=⟨#[]⟩)=decide (s.size=0):=by
 rw [Bool.eq_iff_iff];simp only [decide_eq_true_eq];constructor
 ·rintro rfl;rfl
 ·intro h;apply ByteArray.ext;exact Array.eq_empty_of_size_eq_zero h
theorem fA (s:ByteArray) (hs:s.size<=4611686018427387904):aV prog 82 [.v (.string s)] (.v (.bool (aY s))):=by
 refine eG 22 [.tmp 2] func82 rfl ntmps82 rfl fun _ _ _ _=>?_;by_cases h0:s.size=0
 ·refine cP xr (take_nil s h0) ?_;refine (cg ?_:);simp [av,aY,xB,h0]
 ·refine cP xr (kV s 0 (by omega) hs) ?_;refine (cg ?_:);have hl:=qY s.data.toList;simp only [Array.length_toList,ByteArray.size_data] at hl;simp only [av,aY,xB,List.drop_zero,Nat.zero_add];rw [Bool.eq_iff_iff];simp only [bA,decide_eq_true_eq,Bool.not_eq_true',decide_eq_false_iff_not];omega
abbrev vf (s:ByteArray) (i n e:Nat):St:=⟨[al 5 n,al 6 e,(0,⟨[],.v (.string s)⟩),al 1 i],[],[]⟩
theorem xC (s:ByteArray) (hs:s.size<=4611686018427387904):aV prog 260 [.v (.string s),.v (.int .i64 0)] (.v (.int .i64 (cj s.data.toList))):=by
 refine eG 47 [.tmp 4] func260 rfl ntmps260 rfl fun _ _ _ _=>?_
 refine aX (fun j st=>∃ e:Nat,st=vf s 0 e e/\e<=s.size/\(e=0∨e + signs (s.data.toList.drop e)=cj s.data.toList)/\j=s.size - e)
  s.size (vf s 0 0 0) (bl wB) ⟨0,rfl,by omega,.inl rfl,rfl⟩ ?_
 rintro j st ⟨e,rfl,he,hinv,rfl⟩;refine br ?_ ?_<;>intro h
 ·have aq:e < s.size:=sU h;refine ⟨⟨by omega,by omega⟩,?_⟩;obtain ⟨c,hd,hb⟩:=gN aq;have key:cj s.data.toList=if (e=0/\isLet (c.toNat:Int)=true)∨(e≠0/\fy (c.toNat:Int)=true) then (e + 1) + signs (s.data.toList.drop (e + 1)) else e:=by grind [cj,isLet,signs,fy]
  refine br ?_ ?_<;>intro h2
  ·have iT:bq s ((e:Int).toNat)=c.toNat:=hb;rw [iT] at h2;have:cj s.data.toList=e:=by grind [av,aj,fy,isLet]
   rw [this];exact (rfl:_=_)
  ·have iT:bq s ((e:Int).toNat)=c.toNat:=hb;rw [iT] at h2;refine ⟨vf s 0 (e + 1) (e + 1),(bl (c8 (aS aq (by omega)))),s.size - (e + 1),by omega,e + 1,rfl,by omega,.inr ?_,rfl⟩;rw [key,zIfP];simp only [av,aj,fy,isLet] at h2 ⊢;simp at h2 ⊢;omega
 ·have hge:e=s.size:=by simp at h;omega
  have:cj s.data.toList=e:=by
   rcases hinv with h0 | h0
   ·subst h0;have:s.data.toList=[]:=by rw [<- List.drop_zero (l:=s.data.toList)];exact mR (by omega)
    rw [this];all_goals rfl
   ·grind [mR,signs]
  rw [this];exact (rfl:_=_)
theorem iB (s:ByteArray) (hs:s.size<=4611686018427387904):aV prog 187 [.v (.string s)] (.v (.bool (aY s))):=by
 refine eG 18 [.tmp 2] func187 rfl ntmps187 rfl fun _ _ _ _=>?_;refine br ?_ ?_<;>intro h
 ·refine cP Pw (xC s hs) ?_;refine (cg ?_:);rw [Bool.eq_iff_iff];simp [av] at h;simp [av,aY];omega
 ·refine (cg ?_:);rw [Bool.eq_iff_iff];simp [av] at h;simp [av,aY];omega
def dB (l:List ByteArray):List (List DV):=l.map fun s=>[.v (.string s)]
def dInts (l:List Nat):List (List DV):=l.map fun (i:Nat)=>[.v (.int .i64 (i:Int))]
theorem bP (l:List ByteArray):(dB l).length=l.length:=by simp [dB]
theorem aZ (l:List Nat):(dInts l).length=l.length:=by simp [dInts]
theorem eU {l:List ByteArray} {j:Nat} {x:ByteArray} (h:l[j]? = some x):(dB l)[j]? = some [.v (.string x)]:=by simp [dB,h]
theorem bX {l:List Nat} {j:Nat} {x:Nat} (h:l[j]? = some x):(dInts l)[j]? = some [.v (.int .i64 (x:Int))]:=by simp [dInts,h]
abbrev zD (g:Nat) (cb:List DV) (i j:Nat):St:=⟨[(1,⟨[],.fn g [] cb⟩),al 5 i,al 6 j],[],[]⟩
theorem o0 (g:Nat) (iV:Enters prog g) (cb:List DV) (n m:Nat) (hn:n<=1099511627776) (hm:m<=n) (hcb:CcL [] 0 0 0 cb cb) (gL:clB.clL 0 0 cb=true)
  (hp:∀ i:Nat,i < n->aV prog g (.v (.int .i64 i) :: cb) (.v (.bool (decide (m<=i))))) :
  aV prog 200 [.v (.int .i64 n),.fn g [] cb] (.v (.int .i64 m)):=by
 refine eG 26 [.tmp 4] func200 rfl ntmps200 rfl fun _ _ _ _=>?_;have pB:clB 0 0 (.fn g [] cb)=true:=by simp only [clB,bA];exact ⟨rfl,gL⟩
 refine lI (fun j st=>∃ a b:Nat,st=zD g cb a b/\a<=m/\m<=b/\b<=n/\j=b - a) ⟨0,n,rfl,by omega,by omega,by omega,rfl⟩ (bl (c8 pB)) ?_;rintro j st ⟨a,b,rfl,h1,h2,h3,rfl⟩;refine br ?_ ?_<;>intro h
 ·have aq:a < b:=sU h
  have L5:IntKind.i64.wrap ((IntKind.u64.wrap (IntKind.i64.wrap ((a:Int) + (b:Int)))).fdiv (2 ^ (min ((1:Int).toNat) IntKind.u64.bits)))=(((a + b) / 2:Nat):Int):=by
   rw [wrap64 (n:=(a:Int) + (b:Int)) (by omega) (by omega),IntKind.wrap_u64];have e2:(2:Int) ^ (min ((1:Int).toNat) IntKind.u64.bits)=2:=by decide
   rw [e2,Int.fdiv_eq_ediv_of_nonneg _ (by decide),wrap64 (by omega) (by omega)];omega
  refine ⟨by decide,?_⟩;refine cP iV (hp ((a + b) / 2) (by omega)) ?_ ⟨_,_,rfl,congrArg (fun z=>DV.v (.int .i64 z)) L5,hcb⟩;refine br ?_ ?_<;>intro hq
  ·have hq:(a + b) / 2 < m:=sU hq;have wQ:=aS (e:=(a + b) / 2) (n:=n) (by omega) (by omega);rw [<- L5] at wQ;refine ⟨zD g cb ((a + b) / 2 + 1) b,(bl (iv pB wQ)),b - ((a + b) / 2 + 1),by omega,(a + b) / 2 + 1,b,rfl,by omega,by omega,by omega,rfl⟩
  ·have hq:m<=(a + b) / 2:=sU hq;refine ⟨zD g cb a ((a + b) / 2),(bl (iv pB L5)),(a + b) / 2 - a,by omega,a,(a + b) / 2,rfl,by omega,by omega,by omega,rfl⟩
 ·have hge:¬ a < b:=sU h;have:a=m:=by omega
  subst this;exact (rfl:_=_)
def vg (a b:ByteArray):Bool:=Op.bytesLess a.data.toList b.data.toList
theorem iJ:∀ l:List UInt8,Op.bytesLess l l=false
 | []=>rfl
 | a :: r=>by simp [Op.bytesLess,iJ r]
theorem ib:∀ {a b:List UInt8},Op.bytesLess a b=true->Op.bytesLess b a=false
 | _,[],h=>by simp [Op.bytesLess] at h
 | [],b :: r,_=>rfl
 | a :: x,b :: y,h=>by
  simp only [Op.bytesLess,Bool.or_eq_true,decide_eq_true_eq,bA,beq_iff_eq] at h;simp only [Op.bytesLess,Bool.or_eq_false_iff,decide_eq_false_iff_not,Bool.and_eq_false_imp,beq_iff_eq];rcases h with h | ⟨rfl,h⟩
  ·grind
  ·exact ⟨UInt8.lt_irrefl _,fun _=>ib h⟩
structure fl (L:List ByteArray) (aA:List Nat):Prop where
 lt:∀ (i p:Nat),aA[i]? = some p->p < L.length
 TQ:∀ (i j p q:Nat) (s t:ByteArray),i < j->aA[i]? = some p->aA[j]? = some q->L[p]? = some s->L[q]? = some t->vg s t=true
 fst:∀ (i p j:Nat) (s:ByteArray),aA[i]? = some p->L[p]? = some s->L[j]? = some s->p<=j
 all:∀ (j:Nat) (s:ByteArray),L[j]? = some s->∃ i p:Nat,aA[i]? = some p/\L[p]? = some s
abbrev cd (L:List ByteArray) (aA:List Nat):List DV:=[.sl 1 (dB L) none,.sl 1 (dInts aA) none]
theorem qZ (L:List ByteArray) (aA:List Nat) (s:ByteArray) (i p:Nat) (t:ByteArray) (hi:aA[i]? = some p) (hp:L[p]? = some t) :
  aV prog 201 [.v (.int .i64 i),.pt [.pt (cd L aA) 0] 0,.pt [.v (.string s)] 0] (.v (.bool (!vg t s))):=by
 refine eG 20 [.tmp 4] func201 rfl ntmps201 rfl fun _ _ _ _=>?_;refine dI ?_;refine iX (bX hi) ?_;refine iX (eU hp) ?_;exact (rfl:_=_)
theorem find_spec (L:List ByteArray) (aA:List Nat) (s:ByteArray) (q p:Nat) (hT:fl L aA) (hl:aA.length<=1099511627776) (hq:aA[q]? = some p) (hp:L[p]? = some s) :
  aV prog 112 [.pt (cd L aA) 0,.v (.string s)] (.bW [.v (.int .i64 p),.v (.bool true)]):=by
 have hqlt:=(gS hq).1;refine eG 47 [.tmp 4,.tmp 5] func112 rfl ntmps112 rfl fun _ _ _ _=>?_
 have gL:∀ i:Nat,i < aA.length->aV prog 201 [.v (.int .i64 i),.pt [.pt (cd L aA) 0] 0,.pt [.v (.string s)] 0] (.v (.bool (decide (q<=i)))):=by
  intro i hi;obtain ⟨p',sK⟩:∃ p',aA[i]? = some p':=⟨_,gE hi⟩;obtain ⟨t,ht⟩:∃ t,L[p']? = some t:=⟨_,gE (hT.lt i p' sK)⟩;have:=qZ L aA s i p' t sK ht
  have e:(!vg t s)=decide (q<=i):=by
   rcases Nat.lt_trichotomy i q with h | h | h
   ·rw [hT.TQ i q p' p t s h sK hq ht hp];simp;omega
   ·grind [vg,iJ]
   ·have h2:=hT.TQ q i p p' s t h hq sK hp ht;rw [vg,ib h2];simp;omega
  rw [e] at this;exact this
 have hS:=o0 201 Kk [.pt [.pt (cd L aA) 0] 0,.pt [.v (.string s)] 0] aA.length q hl (by omega) ax rfl gL;refine ve Kj hS (pV (aZ aA)) rfl ?_;refine dI ?_;refine br ?_ ?_<;>intro h
 ·refine iX (bX hq) ?_;refine iX (eU hp) ?_;refine br ?_ ?_<;>intro h2
  ·exfalso;simp [aj,aZ] at h2
  ·refine iX (bX hq) ?_;exact ⟨_,ax,rfl⟩
 ·grind [dInts,aZ]
end Go.Proofs.YtfdedoiiahbnnaaGreat
set_option maxRecDepth 100000
namespace Go.Proofs
open Go.Shelf
def Tryz.laysGg6_ren:Go.Shelf.Ren:=⟨fun | 6=>206 | 10=>276 | 11=>277 | 12=>278 | 13=>279 | 14=>280 | 24=>317 | 25=>318 | 26=>319 | 27=>320 | 28=>321 | 29=>322 | 30=>323 | 31=>324 | 32=>325 | 33=>326 | 34=>342 | 35=>343 | 36=>344 | 37=>345 | 38=>346 | 39=>360 | n=>n,fun | 20=>20 | 26=>272 | 35=>348 | 0=>0 | 37=>350 | 3=>3 | 41=>343 | 44=>355 | 49=>374 | 51=>290 | 4=>4 | 54=>377 | 53=>376 | 58=>101 | 5=>5 | 9=>9 | 60=>394 | 64=>398 | 66=>411 | 67=>71 | 17=>17 | 32=>287 | 33=>346 | 82=>428 | 12=>12 | 75=>422 | 76=>423 | 77=>424 | 78=>199 | 79=>425 | 80=>426 | n=>n,fun | n=>n⟩
theorem Tryz.laysGg6:Go.Proofs.LaysGg.n6 prog Tryz.laysGg6_ren:={
 mixed:=by kernel_rfl
 f6:=func206.trans (congrArg some (by kernel_rfl))
 f10:=func276.trans (congrArg some (by kernel_rfl))
 f11:=func277.trans (congrArg some (by kernel_rfl))
 f12:=func278.trans (congrArg some (by kernel_rfl))
 f13:=func279.trans (congrArg some (by kernel_rfl))
 f14:=func280.trans (congrArg some (by kernel_rfl))
 f24:=func317.trans (congrArg some (by kernel_rfl))
 f25:=func318.trans (congrArg some (by kernel_rfl))
 f26:=func319.trans (congrArg some (by kernel_rfl))
 f27:=func320.trans (congrArg some (by kernel_rfl))
 f28:=func321.trans (congrArg some (by kernel_rfl))
 f29:=func322.trans (congrArg some (by kernel_rfl))
 f30:=func323.trans (congrArg some (by kernel_rfl))
 f31:=func324.trans (congrArg some (by kernel_rfl))
 f32:=func325.trans (congrArg some (by kernel_rfl))
 f33:=func326.trans (congrArg some (by kernel_rfl))
 f34:=func342.trans (congrArg some (by kernel_rfl))
 f35:=func343.trans (congrArg some (by kernel_rfl))
 f36:=func344.trans (congrArg some (by kernel_rfl))
 f37:=func345.trans (congrArg some (by kernel_rfl))
 f38:=func346.trans (congrArg some (by kernel_rfl))
 f39:=func360.trans (congrArg some (by kernel_rfl))
 t0:=Tryz.underlying0
 a0:=Tryz.isAgg0
 z0:=Tryz.sizeOf0
 v0:=Tryz.zeroValue0
 i0:=by kernel_rfl
 t3:=Tryz.underlying3
 a3:=Tryz.isAgg3
 z3:=Tryz.sizeOf3
 v3:=Tryz.zeroValue3
 i3:=by kernel_rfl
 t4:=Tryz.underlying4
 a4:=Tryz.isAgg4
 z4:=Tryz.sizeOf4
 v4:=Tryz.zeroValue4
 i4:=by kernel_rfl
 t5:=Tryz.underlying5
 a5:=Tryz.isAgg5
 z5:=Tryz.sizeOf5
 v5:=Tryz.zeroValue5
 i5:=by kernel_rfl
 t9:=Tryz.underlying9
 a9:=Tryz.isAgg9
 z9:=Tryz.sizeOf9
 v9:=Tryz.zeroValue9
 i9:=by kernel_rfl
 t12:=Tryz.underlying12
 a12:=Tryz.isAgg12
 z12:=Tryz.sizeOf12
 v12:=Tryz.zeroValue12
 i12:=by kernel_rfl
 t17:=Tryz.underlying17
 a17:=Tryz.isAgg17
 z17:=Tryz.sizeOf17
 v17:=Tryz.zeroValue17
 i17:=by kernel_rfl
 t20:=Tryz.underlying20
 a20:=Tryz.isAgg20
 z20:=Tryz.sizeOf20
 v20:=Tryz.zeroValue20
 i20:=by kernel_rfl
 t26:=Tryz.underlying272
 a26:=Tryz.isAgg272
 z26:=Tryz.sizeOf272
 v26:=Tryz.zeroValue272
 i26:=by kernel_rfl
 t32:=Tryz.underlying287
 a32:=Tryz.isAgg287
 z32:=Tryz.sizeOf287
 v32:=Tryz.zeroValue287
 i32:=by kernel_rfl
 t33:=Tryz.underlying346
 a33:=Tryz.isAgg346
 z33:=Tryz.sizeOf346
 v33:=Tryz.zeroValue346
 i33:=by kernel_rfl
 t35:=Tryz.underlying348
 a35:=Tryz.isAgg348
 z35:=Tryz.sizeOf348
 v35:=Tryz.zeroValue348
 i35:=by kernel_rfl
 t37:=Tryz.underlying350
 a37:=Tryz.isAgg350
 z37:=Tryz.sizeOf350
 v37:=Tryz.zeroValue350
 i37:=by kernel_rfl
 t41:=Tryz.underlying343
 a41:=Tryz.isAgg343
 z41:=Tryz.sizeOf343
 v41:=Tryz.zeroValue343
 i41:=by kernel_rfl
 t44:=Tryz.underlying355
 a44:=Tryz.isAgg355
 z44:=Tryz.sizeOf355
 v44:=Tryz.zeroValue355
 i44:=by kernel_rfl
 t49:=Tryz.underlying374
 a49:=Tryz.isAgg374
 z49:=Tryz.sizeOf374
 v49:=Tryz.zeroValue374
 i49:=by kernel_rfl
 t51:=Tryz.underlying290
 a51:=Tryz.isAgg290
 z51:=Tryz.sizeOf290
 v51:=Tryz.zeroValue290
 i51:=by kernel_rfl
 t53:=Tryz.underlying376
 a53:=Tryz.isAgg376
 z53:=Tryz.sizeOf376
 v53:=Tryz.zeroValue376
 i53:=by kernel_rfl
 t54:=Tryz.underlying377
 a54:=Tryz.isAgg377
 z54:=Tryz.sizeOf377
 v54:=Tryz.zeroValue377
 i54:=by kernel_rfl
 t58:=Tryz.underlying101
 a58:=Tryz.isAgg101
 z58:=Tryz.sizeOf101
 v58:=Tryz.zeroValue101
 i58:=by kernel_rfl
 t60:=Tryz.underlying394
 a60:=Tryz.isAgg394
 z60:=Tryz.sizeOf394
 v60:=Tryz.zeroValue394
 i60:=by kernel_rfl
 t64:=Tryz.underlying398
 a64:=Tryz.isAgg398
 z64:=Tryz.sizeOf398
 v64:=Tryz.zeroValue398
 i64:=by kernel_rfl
 t66:=Tryz.underlying411
 a66:=Tryz.isAgg411
 z66:=Tryz.sizeOf411
 v66:=Tryz.zeroValue411
 i66:=by kernel_rfl
 t67:=Tryz.underlying71
 a67:=Tryz.isAgg71
 z67:=Tryz.sizeOf71
 v67:=Tryz.zeroValue71
 i67:=by kernel_rfl
 t75:=Tryz.underlying422
 a75:=Tryz.isAgg422
 z75:=Tryz.sizeOf422
 v75:=Tryz.zeroValue422
 i75:=by kernel_rfl
 t76:=Tryz.underlying423
 a76:=Tryz.isAgg423
 z76:=Tryz.sizeOf423
 v76:=Tryz.zeroValue423
 i76:=by kernel_rfl
 t77:=Tryz.underlying424
 a77:=Tryz.isAgg424
 z77:=Tryz.sizeOf424
 v77:=Tryz.zeroValue424
 i77:=by kernel_rfl
 t78:=Tryz.underlying199
 a78:=Tryz.isAgg199
 z78:=Tryz.sizeOf199
 v78:=Tryz.zeroValue199
 i78:=by kernel_rfl
 t79:=Tryz.underlying425
 a79:=Tryz.isAgg425
 z79:=Tryz.sizeOf425
 v79:=Tryz.zeroValue425
 i79:=by kernel_rfl
 t80:=Tryz.underlying426
 a80:=Tryz.isAgg426
 z80:=Tryz.sizeOf426
 v80:=Tryz.zeroValue426
 i80:=by kernel_rfl
 t82:=Tryz.underlying428
 a82:=Tryz.isAgg428
 z82:=Tryz.sizeOf428
 v82:=Tryz.zeroValue428
 i82:=by kernel_rfl }
end Go.Proofs
namespace Go.Proofs.YtfdedoiiahbnnaaGreat
open Go Go.RowKit Go.Lib Go.Sort Go.Proofs.Tryz
noncomputable def TR:TypeInfo:=(prog.info? 96).get (by kernel_rfl)
noncomputable def NC:TypeInfo:=(prog.info? 3).get (by kernel_rfl)
theorem siK (n:Nat) (h2:2<=n):Lib.swapperK n NC 2=5:=by
 have a:NC.hasPointers=false:=by kernel_rfl
 have b:NC.bytes=8:=by kernel_rfl
 have c:(n == 0)=false:=by simp;omega
 have d:(n == 1)=false:=by simp;omega
 simp [Lib.swapperK,a,b,c,d]
theorem FJ {α:Type} [Inhabited α] (enc:α->Value) (h1:∀ x,(enc x).oneCell'=true) {lt:α->α->Bool} (hO:SWO lt) (lb:Array Value) (wM c:Nat) (d:Array α) (h2:2<=d.size) (cQ:d.size < 4611686018427387904) (w:World)
  (FK:LessReads prog 207 lb enc lt wM 0 d.size w) (hH:Holds enc w wM 0 d) (TS:wM < w.heap.size) :
  Calls prog 206 #[.iface 96 (.slice (some ⟨wM,0,none⟩) d.size c),.func (.func 207) #[] lb] w fun e w'=>
   e = .returned (.tuple #[])/\∃ d' n os,PermIn 0 d.size d d' /\ SortedIn lt 0 d.size d' /\ w'=grow (putRow enc (Sort.ahead w n) wM 0 d') os:=
 Any.sort_Slice_sorted Tryz.laysGg6 96 3 TR NC (by kernel_rfl) (by kernel_rfl) (by kernel_rfl) (by kernel_rfl) 2 (fun _=>by kernel_rfl) (by kernel_rfl) (fun _=>by kernel_rfl) enc h1 lt hO 207 lb
  (enters_of func207 (by kernel_rfl) rfl) wM 0 c d h2 cQ 312 (by rw [siK _ h2];kernel_rfl) true
  (fun args W=>run_callFunc_extern func312 (by kernel_rfl) (by kernel_rfl) (by kernel_rfl) (e:=Extern.ReflectliteSwapper.swap true) (by kernel_rfl) args W) w FK hH TS
theorem CK (lb:Array Value) (p:Option Addr) (n c:Nat) (h1:n<=1) (w:World) :
  Calls prog 206 #[.iface 96 (.slice p n c),.func (.func 207) #[] lb] w fun e w'=>e = .returned (.tuple #[])/\∃ os,w'=grow w os:=by
 have h:n=0∨n=1:=by omega
 rcases h with rfl | rfl
 ·exact Any.sort_Slice_tiny Tryz.laysGg6 96 3 TR NC (by kernel_rfl) (by kernel_rfl) (by kernel_rfl) (by kernel_rfl) 2 (fun _=>by kernel_rfl) p 0 c h1 308 (by kernel_rfl) _ _ _ w
 ·exact Any.sort_Slice_tiny Tryz.laysGg6 96 3 TR NC (by kernel_rfl) (by kernel_rfl) (by kernel_rfl) (by kernel_rfl) 2 (fun _=>by kernel_rfl) p 1 c h1 309 (by kernel_rfl) _ _ _ w
end Go.Proofs.YtfdedoiiahbnnaaGreat
set_option maxRecDepth 100000
namespace Go.Proofs.YtfdedoiiahbnnaaGreat
open Go Go.RowKit Dv Go.Proofs.Tryz
theorem lu:∀ {a b:List UInt8},Op.bytesLess a b=false->a=b∨Op.bytesLess b a=true
 | [],[],_=>.inl rfl
 | a :: x,[],_=>.inr rfl
 | [],b :: r,h=>by simp [Op.bytesLess] at h
 | a :: x,b :: y,h=>by
  simp only [Op.bytesLess,Bool.or_eq_false_iff,decide_eq_false_iff_not,Bool.and_eq_false_imp,beq_iff_eq] at h;simp only [Op.bytesLess,Bool.or_eq_true,decide_eq_true_eq,bA,beq_iff_eq];by_cases CL:a=b
  ·subst CL;rcases lu (h.2 rfl) with h2 | h2
   all_goals grind
  all_goals grind
theorem eu:∀ {a b c:List UInt8},Op.bytesLess a b=true->Op.bytesLess b c=true->Op.bytesLess a c=true
 | _,[],_,h,_=>by simp [Op.bytesLess] at h
 | _,_ :: _,[],_,h=>by simp [Op.bytesLess] at h
 | [],b :: y,c :: z,_,_=>rfl
 | a :: x,b :: y,c :: z,h1,h2=>by
  simp only [Op.bytesLess,Bool.or_eq_true,decide_eq_true_eq,bA,beq_iff_eq] at h1 h2 ⊢;rcases h1 with h1 | ⟨rfl,h1⟩
  ·grind
  ·rcases h2 with h2 | ⟨rfl,h2⟩
   ·exact .inl h2
   ·exact .inr ⟨rfl,eu h1 h2⟩
theorem BJ {s t:ByteArray} (h:vg s t=false):s=t∨vg t s=true:=by
 rcases lu h with h | h
 ·exact .inl (ByteArray.ext (Array.ext' h))
 ·exact .inr h
def xD (L:List ByteArray) (p q:Nat):Bool:=
 if L.getD p aJ=L.getD q aJ then decide (p < q) else vg (L.getD p aJ) (L.getD q aJ)
theorem IH (L:List ByteArray):Sort.SWO (xD L):=by
 have irr:∀ x,xD L x x=false:=fun x=>by simp [xD]
 have tr:∀ x y z,xD L x y=true->xD L y z=true->xD L x z=true:=by grind [xD,aJ,ib,vg,eu]
 have tot:∀ x y,xD L x y=false->x=y∨xD L y x=true:=by grind [xD,aJ,BJ]
 refine ⟨irr,tr,fun x y z h1 h2=>?_⟩
 grind
theorem CM (L:List ByteArray) (d:List Nat) (i j p q:Nat) (hi:d[i]? = some p) (hj:d[j]? = some q) (hp:p < L.length) (hq:q < L.length) :
  VU prog 207 [.v (.int .i64 i),.v (.int .i64 j),.pt [.sl 1 (dInts d) none] 0,.pt [.pt [.sl 1 (dB L) none,.v (.slice none 0 0)] 0] 0] [] [] (fun r _ _=>r = .v (.bool (xD L p q))):=by
 obtain ⟨s,hs⟩:∃ s,L[p]? = some s:=⟨_,gE hp⟩;obtain ⟨t,ht⟩:∃ t,L[q]? = some t:=⟨_,gE hq⟩;have e:xD L p q=if s=t then decide (p < q) else vg s t:=by grind [xD]
 refine EZ (s:=true) (P:=prog) tt tG 5000 50 [.tmp 6] func207 rfl ntmps207 rfl (nL rfl) (fun _ _ _ _=>?_);refine dI ?_;refine iX (bX hi) ?_;refine iX (bX hj) ?_;refine dI ?_;refine iX (eU hs) ?_;refine iX (eU ht) ?_;refine br ?_ ?_<;>intro h
 ·have bd:s≠t:=sU h;refine dI ?_;refine iX (eU hs) ?_;refine iX (eU ht) ?_;refine (cg ?_:);rw [e,ah bd];rfl
 ·have aD:s=t:=sU h;refine (cg ?_:);rw [e,zIfP aD];simp
abbrev FL (p:Nat):Value:=.int .i64 (p:Int)
theorem xE {E:En}:∀ {ds:List Nat} {arr:List Value},RvL E (dInts ds).flatten arr->arr=ds.map FL
 | [],arr,h=>by simpa [dInts,RvL] using h
 | x :: r,arr,h=>by
  simp only [dInts,List.map_cons,List.flatten_cons,List.cons_append,List.nil_append,RvL] at h;obtain ⟨v,s,rfl,h1,h2⟩:=h;unfold Rv at h1;rw [h1.1,xE (ds:=r) h2];rfl
theorem q5 {E:En}:∀ ds:List Nat,RvC E (dInts ds).flatten (ds.map FL)
 | []=>⟨bU E,by simp⟩
 | x :: r=>by
  have ih:=q5 (E:=E) r;refine ⟨?_,?_⟩
  ·simp only [dInts,List.map_cons,List.flatten_cons,List.cons_append,List.nil_append];exact rvL_cons (dR rfl) ih.1
  ·intro v hv;simp only [List.map_cons,List.mem_cons] at hv;rcases hv with rfl | hv
   ·rfl
   ·exact ih.2 v hv
theorem PL {m:Nat}:∀ ds:List Nat,(∀ p∈ds,p < m + 1)->∃ D:List (Fin (m + 1)),D.map (·.val)=ds
 | [],_=>⟨[],rfl⟩
 | x :: r,h=>by
  obtain ⟨D,hD⟩:=PL r fun p hp=>h p (gy _ hp);exact ⟨⟨x,h x (by simp)⟩ :: D,by simp [hD]⟩
theorem q6 {α:Type} [Inhabited α] (enc:α->Value) (w:World) (b n:Nat) (dk:Array α) (os:Array Obj) (arr:List Value) (ty:TypeId) (hw:w.heap[b]? = some (.cells arr.toArray ty (0,0))) (hl:arr.length=dk.size) :
  ∀ k,k < w.heap.size->(Sort.grow (Sort.putRow enc (Sort.ahead w n) b 0 dk) os).heap[k]? = (World.cR w b (.cells (dk.toList.map enc).toArray ty (0,0))).heap[k]?:=by
 intro k hk;simp only [Sort.grow,Sort.putRow,Sort.mapBlock,Sort.ahead];rw [Array.getElem?_append_left (sU hk),Array.getElem?_modify];by_cases TU:b=k
 ·subst TU;rw [zIfP rfl,hw,fT hw];simp only [Option.map_some,Sort.onCells,oI,Obj.cells.injEq,and_true];apply Array.ext_getElem?;intro j;simp only [Sort.putCells,Array.getElem?_mapIdx]
  grind
 ·rw [ah TU,cu (Ne.symm TU)]
theorem FM {α:Type} {l:List α} {i:Nat} {x:α} (h:l[i]? = some x):l.set i x=l:=by
 apply List.ext_getElem?
 grind
theorem CN {X:Ctx} {st:St} {k:List It} (hP:X.P=prog) {i c len:Nat} {ds:List Nat} (hlen:len=ds.length) {TV:List DV} {d:Nat} (N:Nat) (hN:∀ p∈ds,p < N) (lt:Nat->Nat->Bool) (hO:Sort.SWO lt)
  (kS:st.bx[i]? = some (dInts ds).flatten) (hn:ds.length<=1099511627776) (V5:List Nat->List DV) (II:∀ dk:List Nat,dk.length=ds.length->CcL (st.bx.set i (dInts dk).flatten) 0 0 0 (V5 dk) TV)
  (FK:∀ dk:List Nat,dk.length=ds.length->(∀ p∈dk,p < N)->∀ i j p q:Nat,dk[i]? = some p->dk[j]? = some q->VU prog 207 (.v (.int .i64 i) :: .v (.int .i64 j) :: V5 dk) [] [] (fun r _ _=>r = .v (.bool (lt p q))))
  (hd:eL X.nt st.sl (some d)=true)
  (hk:∀ L6:List Nat,L6.Perm ds->(∀ i j p q:Nat,i < j->L6[i]? = some p->L6[j]? = some q->lt q p=false)->go X 4000 k ⟨(d,⟨[],.bW []⟩) :: st.sl,st.bx.set i (dInts L6).flatten,st.tk⟩)
  (hst:X.still=false:=by exact rfl) (hX:X.bt=[]:=by exact rfl):CallG X 206 [.lG 96 (.ms i 1 0 len c),.fn 207 [] TV] (some d) k st:=by
 subst hlen;refine ⟨?_,hst,fun E a w vs h hv=>?_⟩
 ·rw [hP];exact Pk
 rw [hP];simp only [RvL] at hv;obtain ⟨v1,_,rfl,h1,v2,_,rfl,h2,rfl⟩:=hv;unfold Rv at h1;obtain ⟨z,rfl,h1⟩:=h1;unfold Rv at h1;obtain ⟨b,ad,hb,Nr,rfl,hca⟩:=h1;unfold Rv at h2;obtain ⟨l,r,rfl,hl,hr⟩:=h2;simp only [RvL] at hl;subst hl;obtain ⟨b',ty,arr,ef,hw,pU⟩:=h.env.dm i _ kS;rw [hb] at ef;simp only [oI] at ef;subst ef;have FN:=xE pU.1;have LZ:=cF hw;by_cases h1:ds.length<=1
 ·refine (CK r.toArray ad ds.length c h1 w).mono ?_;rintro e w' ⟨rfl,os,rfl⟩
  have hh:∀ j,j < w.heap.size->(Sort.grow w os).heap[j]? = w.heap[j]?:=fun j hj=>by
   simp only [Sort.grow];rw [Array.getElem?_append_left hj]
  have bD:Rel X E st a (Sort.grow w os):=cv h (Ext.refl E) (h.env.fv hh) h.tk h.nw (h.fr.bN rfl rfl rfl (by simp [Sort.grow]) fun j hj=>.inr (hh j hj)) (ll hst) (.nil hX);have Fc:=hk ds (List.Perm.refl _) (fun i j p q wm _ hj=>by have:=(gS hj).1;omega);rw [FM kS] at Fc;exact go_sound 4000 _ _ Fc E _ _ (bi bD hd (.bW []) (.tuple #[]) (by unfold Rv;exact ⟨[],rfl,bU E⟩))
 ·have h2:2<=ds.length:=by omega
  have Oa:=hca (by omega);subst Oa
  obtain ⟨m,rfl⟩:∃ m,N=m + 1:=by
   cases RY:ds with
   | nil=>rw [RY] at h2;simp at h2
   | cons x r=>have:=hN x (by rw [RY];simp);exact ⟨N - 1,by omega⟩
  obtain ⟨D,hD⟩:=PL ds hN;have FO:D.length=ds.length:=by rw [<- hD];simp
  let enc:Fin (m + 1)->Value:=fun x=>FL x.val
  have hO':Sort.SWO (fun x y:Fin (m + 1)=>lt x.val y.val):=⟨fun x=>hO.irrefl _,fun x y z=>hO.trans _ _ _,fun x y z=>hO.ntrans _ _ _⟩;have PM:∀ l:List (Fin (m + 1)),l.map enc=(l.map (·.val)).map FL:=fun l=>by simp [enc]
  have hS:=FJ enc (fun _=>rfl) hO' r.toArray b c D.toArray (by simpa [FO] using h2) (by simp [FO];omega) w ?_ ?_ LZ
  ·simp only [List.size_toArray,FO] at hS;refine hS.mono ?_;rintro e w' ⟨rfl,d',n,os,hp,hs,rfl⟩;have cQ:d'.size=ds.length:=by have:=hp.1;simpa [FO] using this
   have lx:(d'.toList.map (·.val)).Perm ds:=by
    have h3:=hp.2.2;have e1:d'.extract 0 ds.length=d':=Array.extract_eq_self_of_le (by omega);have e2:D.toArray.extract 0 ds.length=D.toArray:=Array.extract_eq_self_of_le (by simp [FO]);rw [e1,e2] at h3;rw [<- hD];exact h3.map _
   have FP:∀ i j p q:Nat,i < j->(d'.toList.map (·.val))[i]? = some p->(d'.toList.map (·.val))[j]? = some q->lt q p=false:=by
    intro i j p q wm hi hj;have pz:j < d'.size:=by have:=(gS hj).1;simpa using this
    have h3:=hs i j (Nat.zero_le _) wm (by omega);rw [getElem!_pos d' j pz,getElem!_pos d' i (by omega)] at h3;have El:i < d'.size:=by omega
    simp [El] at hi;simp [pz] at hj;rw [<- hi,<- hj];exact h3
   have hh:=q6 enc w b n d' os arr ty hw (by rw [FN];simp [cQ]);have dh:=nR (ty:=ty) h hst hb (cs':=(dInts (d'.toList.map (·.val))).flatten) (arr':=(d'.toList.map (·.val)).map FL) (q5 _) ⟨_,hw⟩;rw [<- PM] at dh;have qj:(Sort.grow (Sort.putRow enc (Sort.ahead w n) b 0 d') os).heap.size=w.heap.size + os.size:=by simp [Sort.grow,Sort.putRow,Sort.mapBlock,Sort.ahead]
   have bD:=cv dh (Ext.refl E) (w':=Sort.grow (Sort.putRow enc (Sort.ahead w n) b 0 d') os) (dh.env.fv fun j hj=>hh j (by rwa [eK] at hj)) dh.tk dh.nw
    (dh.fr.bN rfl rfl rfl (by rw [eK,qj];omega) fun j hj=>.inr (hh j (by rwa [eK] at hj))) (ll hst) (.nil hX)
   exact go_sound 4000 _ _ (hk _ lx FP) E _ _ (bi bD hd (.bW []) (.tuple #[]) (by unfold Rv;exact ⟨[],rfl,bU E⟩))
  ·intro mm os dk hs i' j' hi hj;have cQ:dk.size=ds.length:=sV FO hs;have hh:=q6 enc w b mm dk os arr ty hw (by rw [FN];simp [cQ]);have hE:=h.env.set hb LZ (ty:=ty) (q5 (E:=E) (dk.toList.map (·.val)));rw [<- PM] at hE;have hE':=hE.fv (w':=Go.Proofs.sortWorld enc w b 0 mm dk os) fun j hj=>hh j (by rwa [eK] at hj);have El:i' < dk.size:=by rw [cQ,<- FO];simpa using hi
   have pz:j' < dk.size:=by rw [cQ,<- FO];simpa using hj
   have R9:(dk.toList.map (·.val)).length=ds.length:=sU cQ
   have hc:=FK (dk.toList.map (·.val)) R9 (fun p hp=>by
    obtain ⟨x,_,rfl⟩:=List.mem_map.1 hp
    exact x.isLt) i' j' (dk[i']!).val (dk[j']!).val (by rw [getElem!_pos dk i' El];simp [El]) (by rw [getElem!_pos dk j' pz];simp [pz])
   have hv:RvL E (.v (.int .i64 (i':Int)) :: .v (.int .i64 (j':Int)) :: TV) (.int .i64 (i':Int) :: .int .i64 (j':Int) :: r):=rvL_cons (dR rfl) (rvL_cons (dR rfl) hr);have hb:=gG hE' hc ⟨_,_,rfl,rfl,_,_,rfl,rfl,II _ R9⟩ hv;have hargs:(#[Value.int .i64 (i':Int),Value.int .i64 (j':Int)] ++ r.toArray)=(Value.int .i64 (i':Int) :: Value.int .i64 (j':Int) :: r).toArray:=by simp
   rw [hargs];refine hb.mono ?_;rintro e w' ⟨v,E2,rfl,Ky,_,zf⟩;have:=bn Ky;subst this;exact ⟨rfl,zf rfl⟩
  ·intro j hj;have pz:j < D.length:=sU hj;rw [bV hw,Nat.zero_add,FN];refine ⟨?_,?_⟩
   ·rw [getElem!_pos D.toArray j hj,<- hD];simp [pz,enc]
   ·simp [World.frozen?,hw]
theorem tK {n m:Nat} {tk:List TkE}:∀ ds:List Nat,WeL n m tk (dInts ds).flatten (dInts ds).flatten
 | []=>rfl
 | b :: r=>⟨_,_,rfl,au rfl,tK r⟩
theorem mS {n m:Nat} {tk:List TkE} {l:List DV} {ds:List Nat} (h:l=(dInts ds).flatten):WeL n m tk l (dInts ds).flatten:=by rw [h];exact tK ds
def fm (n e:Nat):List Nat:=List.range e ++ List.replicate (n - e) 0
theorem CO {n e:Nat} (h:e<=n):(fm n e).length=n:=by simp [fm];omega
theorem fillA_0 (n:Nat):(List.replicate n [DV.v (.int .i64 0)]).flatten=(dInts (fm n 0)).flatten:=by simp [fm,dInts]
theorem IJ (n:Nat):fm n n=List.range n:=by simp [fm]
theorem kW (ds:List Nat):(dInts ds).flatten=ds.map fun (i:Nat)=>DV.v (.int .i64 (i:Int)):=by
 induction ds with
 | nil=>rfl
 | cons x r ih=>simp only [dInts,List.map_cons,List.flatten_cons] at ih ⊢;rw [ih];all_goals rfl
theorem zE {n e:Nat} (h:e < n):(dInts (fm n e)).flatten.take e ++ [DV.v (.int .i64 (e:Int))] ++ (dInts (fm n e)).flatten.drop (e + 1)=(dInts (fm n (e + 1))).flatten:=by
 simp only [kW,<- List.map_take,<- List.map_drop];have e1:(fm n e).take e=List.range e:=by simp [fm]
 have e2:(fm n e).drop (e + 1)=List.replicate (n - (e + 1)) 0:=by
  simp only [fm,List.drop_append,List.length_range];rw [List.drop_eq_nil_of_le (by simp),List.nil_append,List.drop_replicate];congr 1;omega
 rw [e1,e2];simp [fm,List.range_succ]
abbrev FQ (L:List ByteArray) (e:Nat):St:=
 ⟨[aE 3 1,aE 4 3,al 16 ((dB L).length),al 17 e],
  [[.sl 1 (dB L) (some 0),.v (.slice none 0 0)],[.loc 0 0],(dInts (fm (dB L).length e)).flatten,[.ms 2 1 0 (dB L).length (dB L).length]],[⟨(dB L).length,9,1,none⟩]⟩
def eV (L:List ByteArray) (ds:List Nat) (i:Nat):Bool:=decide (i=0) || !decide (L.getD (ds.getD i 0) aJ=L.getD (ds.getD (i - 1) 0) aJ)
def dL (L:List ByteArray) (ds:List Nat) (e:Nat):List Nat:=((List.range e).filter (eV L ds)).map fun i=>ds.getD i 0
theorem q7 (L:List ByteArray) (ds:List Nat) (e:Nat):dL L ds (e + 1)=dL L ds e ++ (if eV L ds e=true then [ds.getD e 0] else []):=by
 unfold dL;rw [List.range_succ,List.filter_append,List.map_append];congr 1;cases h:eV L ds e<;>simp [h]
theorem CP (L:List ByteArray) (ds:List Nat) (e:Nat):(dL L ds e).length<=e:=by grind [dL]
abbrev L7 (L:List ByteArray) (ds:List Nat):St:=
 ⟨[aE 3 1,nZ 4 [.sl 1 (dInts ds) none],aT 29 1 (dInts ds),al 30 ((dB L).length),al 31 0],
  [[.sl 1 (dB L) (some 0),.v (.slice none 0 0)],[.loc 0 0]],[⟨(dB L).length,9,1,none⟩]⟩
abbrev xF (L:List ByteArray) (ds aA:List Nat) (m e:Nat):St:=
 ⟨[aE 3 1,nZ 4 [.sl 1 (dInts ds) none],aT 29 1 (dInts ds),al 30 ((dB L).length),al 31 e],
  [[.sl 1 (dB L) (some 0),.sl 1 (dInts aA) (some 1)],[.loc 0 0]],[⟨(dB L).length,9,1,none⟩,⟨m,3,1,none⟩]⟩
theorem getD_some {α:Type} {l:List α} {i:Nat} {x d:α} (h:l[i]? = some x):l.getD i d=x:=by simp [dx,h]
theorem oa {α:Type} {l:List α} {i:Nat} {d:α} (h:i < l.length):l[i]? = some (l.getD i d):=by grind
theorem L8 {L:List ByteArray} {ds:List Nat} (lx:ds.Perm (List.range L.length)) (FP:∀ i j p q:Nat,i < j->ds[i]? = some p->ds[j]? = some q->xD L q p=false):fl L (dL L ds L.length):=by
 have hlen:ds.length=L.length:=by rw [lx.length_eq,List.length_range]
 let D:Nat->Nat:=fun i=>ds.getD i 0
 let T:Nat->ByteArray:=fun i=>L.getD (D i) aJ
 have hD:∀ i,i < L.length->ds[i]? = some (D i):=fun i hi=>oa (by omega)
 have V6:∀ i,i < L.length->D i < L.length:=fun i hi=>by
  have:=lx.mem_iff.1 (mG (hD i hi));exact List.mem_range.1 this
 have hT:∀ i,i < L.length->L[D i]? = some (T i):=fun i hi=>oa (V6 i hi);have fL:∀ i j,i < j->j < L.length->T i=T j∨vg (T i) (T j)=true:=by grind [xD,BJ]
 have PN:∀ i,i < L.length->eV L ds i=true->∀ j,j < i->vg (T j) (T i)=true:=by
  intro i hi hh j Lu;have bd:T i≠T (i - 1):=by grind [eV]
  grind [vg,eu]
 have tw:∀ j,j < L.length->∃ k,k < L.length/\D k=j:=by
  intro j hj;have:=lx.mem_iff.2 (List.mem_range.2 hj);obtain ⟨k,hk⟩:=List.getElem?_of_mem this
  grind
 let H:=(List.range L.length).filter (eV L ds)
 have hH:∀ (a i:Nat),H[a]? = some i->i < L.length/\eV L ds i=true:=fun a i h=>by
  have:=mG h
  grind
 have CQ:∀ (a p:Nat),(dL L ds L.length)[a]? = some p->∃ i,H[a]? = some i/\D i=p:=by grind [dL,eV]
 have hinc:∀ (a b i k:Nat),a < b->H[a]? = some i->H[b]? = some k->i < k:=by
  intro a b i k CL hi hk;have hp:List.Pairwise (·< ·) H:=List.Pairwise.filter _ List.pairwise_lt_range;obtain ⟨ha,rfl⟩:=List.getElem?_eq_some_iff.1 hi;obtain ⟨hb,rfl⟩:=List.getElem?_eq_some_iff.1 hk;exact List.pairwise_iff_getElem.1 hp a b ha hb CL
 refine ⟨?_,?_,?_,?_⟩
 ·intro a p h;obtain ⟨i,hi,rfl⟩:=CQ a p h;exact V6 i (hH a i hi).1
 ·intro a b p q s t CL hp hq hs ht;obtain ⟨i,hi,rfl⟩:=CQ a p hp;obtain ⟨k,hk,rfl⟩:=CQ b q hq;rw [hT i (hH a i hi).1] at hs;rw [hT k (hH b k hk).1] at ht
  grind
 ·intro a p j s hp hs hj;obtain ⟨i,hi,rfl⟩:=CQ a p hp;obtain ⟨wy,yZ⟩:=hH a i hi;obtain ⟨k,hk,rfl⟩:=tw j (gS hj).1;rw [hT i wy] at hs;rw [hT k hk] at hj;simp only [oI] at hs hj;rcases Nat.lt_trichotomy k i with h | h | h
  ·have:=PN i wy yZ k h;rw [hs,hj,vg,iJ] at this;cases this
  ·rw [h];exact zLeR _
  ·have h2:=FP i k (D i) (D k) h (hD i wy) (hD k hk)
   grind [xD,aJ]
 ·intro j s hj;obtain ⟨k,hk,rfl⟩:=tw j (gS hj).1;rw [hT k hk] at hj;simp only [oI] at hj;obtain ⟨i,⟨wy,V7⟩,hmin⟩:=least (p:=fun i=>i < L.length/\T i=s) ⟨k,hk,hj⟩;have yZ:eV L ds i=true:=by grind [eV,aJ]
  have hm:i∈H:=by simp only [H,List.mem_filter,List.mem_range];exact ⟨wy,yZ⟩
  obtain ⟨a,ha⟩:=List.getElem?_of_mem hm;refine ⟨a,D i,?_,by rw [hT i wy,V7]⟩;unfold dL
  grind
theorem q8 (L:List ByteArray) (hl:L.length<=1099511627776) :
  Ev prog 125 [.sl 1 (dB L) none] [] [] (fun r _ _=>∃ aA,fl L aA/\aA.length<=L.length/\r = .pt (cd L aA) 0):=by
 have hN:=bP L;refine eG 71 [.tmp 2] func125 rfl ntmps125 rfl fun _ _ _ _=>?_;refine ⟨⟨by simp [hN,maxLen];omega,by simp [hN];omega⟩,?_⟩;refine ⟨⟨rfl,by omega,by omega,by omega⟩,?_⟩;refine lJ (fun e=>FQ L e) L.length (ep 4 (by repeat' (first | exact rfl | exact au rfl | exact mS (fillA_0 _) | refine ⟨_,_,rfl,?_,?_⟩)) (by repeat' (first | exact trivial | exact au rfl | exact mS (fillA_0 _) | refine ⟨⟨_,rfl,?_⟩,?_⟩))) ?_;intro e he;refine br ?_ ?_<;>intro h
 ·have aq:e < (dB L).length:=sU h;refine ⟨⟨by omega,by omega⟩,?_⟩;have e1:(dInts (fm (dB L).length e)).flatten.length=(dB L).length:=by rw [kW,List.length_map,CO (by omega)]
  refine ⟨by rw [e1];omega,?_⟩
  have ch:(dInts (fm (dB L).length e)).flatten.set (0 + (e:Int).toNat * 1) (DV.v (.int .i64 (e:Int)))=(dInts (fm (dB L).length (e + 1))).flatten:=by
   rw [show 0 + (e:Int).toNat * 1=e by omega,List.set_eq_take_append_cons_drop,zIfP (by rw [e1];omega),<- zE aq];simp
  refine ⟨FQ L (e + 1),(ep 4 (by repeat' (first | exact rfl | exact au rfl | exact mS ch | exact aw (aS aq (by omega)) | refine ⟨_,_,rfl,?_,?_⟩)) (by repeat' (first | exact trivial | exact au rfl | exact mS ch | exact aw (aS aq (by omega)) | refine ⟨⟨_,rfl,?_⟩,?_⟩))),L.length - (e + 1),by omega,e + 1,rfl,by omega,rfl⟩
 ·have hge:e=(dB L).length:=by grind
  subst hge;rw [IJ]
  have V8:∀ dk:List Nat,dk.length=(List.range (dB L).length).length->∀ bx:List (List DV),bx[2]? = some (dInts dk).flatten->∀ N0 n0 m0:Nat,N0<=2->Cc bx N0 n0 m0 (.sl 1 (dInts dk) none) (.ms 2 1 0 (dB L).length (dB L).length):=by
   intro dk Sa bx hb N0 n0 m0 TW;simp only [Cc];refine Or.inr (Or.inr (Or.inl ⟨2,0,(dB L).length,_,?_,TW,hb,?_,?_,?_⟩))
   ·rw [aZ,Sa,List.length_range]
   ·rw [List.drop_zero,List.take_of_length_le];rw [kW,List.length_map,aZ];omega
   ·grind [dInts]
   ·grind [kW]
  refine CN (ds:=List.range (dB L).length) rfl (by simp) (dB L).length (fun p hp=>List.mem_range.1 hp) (xD L) (IH L) rfl (by simp [hN];omega)
   (fun dk=>[.pt [.sl 1 (dInts dk) none] 0,.pt [.pt [.sl 1 (dB L) none,.v (.slice none 0 0)] 0] 0])
   (fun dk Sa=>⟨_,_,rfl,Or.inr ⟨3,_,rfl,Nat.zero_le _,rfl,⟨_,_,rfl,V8 dk Sa _ rfl 0 0 0 (Nat.zero_le _),rfl⟩⟩,ax⟩)
   (fun dk Sa hp i j p q hi hj=>CM L dk i j p q hi hj (by have:=hp p (mG hi);omega) (by have:=hp q (mG hj);omega)) rfl (fun ds lx FP=>?_)
  have gz:ds.length=(dB L).length:=by rw [lx.length_eq,List.length_range]
  have PO:=V8 ds (by rw [gz,List.length_range])
  refine Fi 2 (L7 L ds) rfl rfl rfl ⟨_,_,rfl,⟨_,_,rfl,⟨nL rfl,rfl⟩,_,_,rfl,rfl,rfl⟩,_,_,rfl,⟨_,_,rfl,⟨nL rfl,rfl⟩,rfl⟩,rfl⟩
   ⟨⟨_,rfl,⟨nL rfl,rfl⟩⟩,⟨_,rfl,Or.inr ⟨3,_,rfl,by decide,rfl,⟨_,_,rfl,PO _ rfl 2 0 0 (by decide),rfl⟩⟩⟩,⟨_,rfl,PO _ rfl 2 2 1 (by decide)⟩,⟨_,rfl,rfl⟩,⟨_,rfl,rfl⟩,trivial⟩ ?_
  refine aX (fun j st=>∃ e m:Nat,st=xF L ds (dL L ds e) m e/\m=(dL L ds e).length/\e<=(dB L).length/\j=(dB L).length - e) (dB L).length (xF L ds [] 0 0)
   (eT 2 ⟨0,3,1,none⟩ rfl rfl rfl zo rfl rfl wB) ⟨0,0,rfl,rfl,by omega,by omega⟩ ?_
  rintro j st ⟨e,m,rfl,hm,he,rfl⟩;have jr:=CP L ds e;refine br ?_ ?_<;>intro h
  ·have aq:e < (dB L).length:=sU h;obtain ⟨p,hp⟩:∃ p,ds[e]? = some p:=⟨_,gE (by omega)⟩
   have hpL:p < L.length:=by
    have:=lx.mem_iff.1 (mG hp);rw [List.mem_range] at this;omega
   obtain ⟨s,hs⟩:∃ s,L[p]? = some s:=⟨_,gE hpL⟩;refine iX (bX hp) ?_;have hgp:ds.getD e 0=p:=by simp [dx,hp]
   have Cr:L.getD p aJ=s:=by simp [dx,hs]
   have cE:eV L ds e=true->dL L ds (e + 1)=dL L ds e ++ [p]:=fun hh=>by rw [q7,zIfP hh,hgp]
   have hold:eV L ds e=false->dL L ds (e + 1)=dL L ds e:=fun hh=>by rw [q7,ah (by rw [hh];decide),List.append_nil]
   have BK:eV L ds e=true->dInts (dL L ds e) ++ [[DV.v (.int .i64 (p:Int))]]=dInts (dL L ds (e + 1)):=fun hh=>by rw [cE hh];simp [dInts]
   by_cases h0:e=0
   ·subst h0;have hh:eV L ds 0=true:=by simp [eV]
    refine dI ?_;refine dS ?_;refine ⟨by rw [aZ,hm],⟨by simp [aZ,maxLen];omega,by simp [aZ];omega⟩,?_⟩;refine ⟨xF L ds (dL L ds 1) (m + 1) 1,(ep 2 (by repeat' (first | exact rfl | exact au rfl | exact aw (aS aq (by omega)) | exact bL (BK hh) rfl | refine ⟨_,_,rfl,?_,?_⟩)) (by repeat' (first | exact trivial | exact au rfl | exact aw (aS aq (by omega)) | exact bL (BK hh) rfl | refine ⟨⟨_,rfl,?_⟩,?_⟩))),(dB L).length - 1,by omega,1,m + 1,rfl,by rw [cE hh,List.length_append,hm];rfl,by omega,rfl⟩
   ·obtain ⟨p',sK⟩:∃ p',ds[e - 1]? = some p':=⟨_,gE (by omega)⟩
    have TX:p' < L.length:=by
     have:=lx.mem_iff.1 (mG sK);rw [List.mem_range] at this;omega
    obtain ⟨s',V9⟩:∃ s',L[p']? = some s':=⟨_,gE TX⟩;have hgp':ds.getD (e - 1) 0=p':=by simp [dx,sK]
    have hgs':L.getD p' aJ=s':=by simp [dx,V9]
    have hhd:eV L ds e = !decide (s=s'):=by grind [eV]
    have hz:IntKind.i64.wrap ((e:Int) - 1)=((e - 1:Nat):Int):=by rw [wrap64 (by omega) (by omega)];omega
    refine dI ?_;refine br (fun _=>?_) (fun h=>?_)
    ·refine iX (eU hs) ?_;refine ⟨[.v (.int .i64 (p':Int))],⟨by rw [hz];omega,by rw [hz];exact bX sK⟩,?_⟩;refine iX (eU V9) ?_;refine br ?_ ?_<;>intro h2
     ·have hh:eV L ds e=true:=by grind [aj]
      refine dS ?_;refine ⟨by rw [aZ,hm],⟨by simp [aZ,maxLen];omega,by simp [aZ];omega⟩,?_⟩;refine ⟨xF L ds (dL L ds (e + 1)) (m + 1) (e + 1),(ep 2 (by repeat' (first | exact rfl | exact au rfl | exact aw (aS aq (by omega)) | exact bL (BK hh) rfl | refine ⟨_,_,rfl,?_,?_⟩)) (by repeat' (first | exact trivial | exact au rfl | exact aw (aS aq (by omega)) | exact bL (BK hh) rfl | refine ⟨⟨_,rfl,?_⟩,?_⟩))),(dB L).length - (e + 1),by omega,e + 1,m + 1,rfl,by rw [cE hh,List.length_append,hm];rfl,by omega,rfl⟩
     ·have hh:eV L ds e=false:=by grind [aj]
      have aD:dInts (dL L ds e)=dInts (dL L ds (e + 1)):=by rw [hold hh]
      refine ⟨xF L ds (dL L ds (e + 1)) m (e + 1),(ep 2 (zp (aS aq (by omega)) aD) (iv (aS aq (by omega)) aD)),(dB L).length - (e + 1),by omega,e + 1,m,rfl,by rw [hold hh,hm],by omega,rfl⟩
    ·grind
  ·have hge:e=L.length:=by grind
   subst hge;exact ⟨.pt (cd L (dL L ds L.length)) 0,Or.inr ⟨0,_,rfl,Nat.zero_le _,rfl,ax⟩,_,L8 (by rw [<- hN];exact lx) FP,jr,rfl⟩
abbrev PQ (L:List ByteArray) (aA:List Nat) (e:Nat):St:=
 ⟨[nZ 3 (cd L aA),aT 10 1 (dB L),al 11 ((dB L).length),al 12 e],[],[]⟩
theorem FR {α:Type}:∀ {l:List α},(∀ (i j:Nat) (x:α),j < i->l[i]? = some x->l[j]? ≠ some x)->l.Nodup
 | l,h=>by
  rw [List.nodup_iff_pairwise_ne,List.pairwise_iff_getElem];intro i j hi hj wm he;exact h j i l[j] wm (gE hj) (by rw [gE hi,he])
theorem lR (L:List ByteArray) (hl:L.length<=1099511627776) :
  Ev prog 131 [.sl 1 (dB L) none] [] [] (fun r _ _=>∃ z:Int,r = .v (.int .i64 z)/\(0<=z↔¬ L.Nodup)):=by
 have hN:=bP L;refine eG 28 [.tmp 2] func131 rfl ntmps131 rfl fun _ _ _ _=>?_;refine gp Fq rfl (q8 L hl) ax (fun r hr=>?_);obtain ⟨aA,hT,jr,rfl⟩:=hr;refine lI (fun j st=>∃ e:Nat,st=PQ L aA e/\e<=L.length/\(∀ (i j:Nat) (x:ByteArray),i < e->j < i->L[i]? = some x->L[j]? ≠ some x)/\j=L.length - e) ⟨0,rfl,by omega,fun i j x hi=>by omega,rfl⟩ (bl wB) ?_;rintro j st ⟨e,rfl,he,hinv,rfl⟩;refine br ?_ ?_<;>intro h
 ·have aq:e < L.length:=sV hN h;obtain ⟨s,hs⟩:=gX aq;obtain ⟨q,p,hq,hp⟩:=hT.all e s hs;have cH:=hT.fst q p e s hq hp hs;refine iX (eU hs) ?_;refine cP kk (find_spec L aA s q p hT (by omega) hq hp) ?_;refine br ?_ ?_<;>intro h2
  ·have h2:p < e:=sU h2;refine ⟨(e:Int),rfl,⟨fun _ hnd=>?_,fun _=>by omega⟩⟩;rw [List.nodup_iff_pairwise_ne,List.pairwise_iff_getElem] at hnd;obtain ⟨h3,h4⟩:=List.getElem?_eq_some_iff.1 hp;obtain ⟨h5,h6⟩:=List.getElem?_eq_some_iff.1 hs;exact hnd p e h3 h5 h2 (by rw [h4,h6])
  ·have h2:¬ p < e:=sU h2;refine ⟨PQ L aA (e + 1),(bl (c8 (aS aq (by omega)))),L.length - (e + 1),by omega,e + 1,rfl,by omega,fun i j x hi hj hx Wa=>?_,rfl⟩;by_cases Ek:i=e
   ·subst Ek;rw [hs] at hx;simp only [oI] at hx;subst hx;have:=hT.fst q p j s hq hp Wa;omega
   ·exact hinv i j x (by omega) hj hx Wa
 ·have hge:e=L.length:=by grind
  subst hge;refine ⟨-1,rfl,⟨fun h3=>by omega,fun h3=>?_⟩⟩;exact absurd (FR fun i j x wm hi hj=>hinv i j x (gS hi).1 wm hi hj) h3
end Go.Proofs.YtfdedoiiahbnnaaGreat
