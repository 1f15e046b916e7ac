/- Part 2 of the proof: The evaluator 'go' is sound: the end of a call, the theorem; contracts; rules for branches, calls, loops; Rules for the evaluator: what is known made less, loops; A region that draws its order: where the operations with an effect are ordered among themselves, and what writes waits for all that reads, one run in the order of the text serves every order; The evaluator at regions that draw their order: one run in the order of the text; what is read is what was known at the region's beginning; A region that draws its order, in which two operations with an effect are not ordered: the run in either order of these two serves every order; Rules for the evaluator: a call that is handed the caller's own objects, to read them; Rules for the evaluator: objects that are written no more are frozen, ahead of a loop; Rules for the evaluator: a call that is handed one of the caller's objects, to write it; The table of this program's types, by which the evaluator goes; The program's functions are entered; The data of the document's types, plain, and as the evaluator has them; Names: the program's and the reference's functions say the same of a text; sort.Search; the program's table of texts: Find; The library's sort.Slice, laid at this program by the kit's tool (lay-plain; wip/tools/lay.sh); The order of the table; the closure handed to sort.Slice; sort.Slice of the table's places, at a call; names.New: the table; names.Twice: does a text stand earlier, too?. No condition. -/
import Derived.Scope
import Derived.Test.YtfdedoiiahbnnaaGreatProg
import Derived.Shelf.GgSortFunc.Whole
import Derived.Shelf.GgSortFunc.Tiny
import Derived.Test.YtfdedoiiahbnnaaGreatNb1
set_option linter.all false
namespace Go.Proofs.YtfdedoiiahbnnaaGreat
namespace Dv
open Go Go.RowKit
structure Em (E E':En) (bx:List (List DV)) (N:Nat):Prop where
 c:∀ a v,E.c a=some v->E'.c a=some v
 fz:∀ (i:Nat) cs,N<=i->bx[i]? = some cs->∃ b arr,E.β[i]? = some b/\RvC E cs arr/\∀ (j:Nat) u,arr[j]? = some u->E'.c ⟨b,j,none⟩=some u
theorem Em.cl {E E':En} {bx:List (List DV)} {N:Nat} (h:Em E E' bx N):Em E E'.cl bx N:=⟨h.c,h.fz⟩
structure BC (E E':En) (n0 m0:Nat):Prop where
 β:∀ (i:Nat) b,i < n0->E.β[i]? = some b->E'.β[i]? = some b
 tk:∀ k,k < m0->E'.tk[k]? = E.tk[k]? /\ E'.τ[k]? = E.τ[k]?
theorem BC.zero (E E':En):BC E E' 0 0:=⟨fun _ _ h=>absurd h (Nat.not_lt_zero _),fun _ h=>absurd h (Nat.not_lt_zero _)⟩
theorem Ext.Ij (E:En):Ext E.cl E:=⟨fun _ _ h=>h,fun j b hj=>by simp [En.cl] at hj,fun k q hk=>by simp [En.cl] at hk⟩
theorem xc {E E':En} (hm:∀ e b o es,RvEs E.cl e b o es->RvEs E'.cl e b o es):∀ {l:List DV} {arr:List Value},(∀ x∈l,(∃ y,x = .v y)∨∃ e' wx,x = .sl e' wx none)->RvL E l arr->RvL E' l arr
 | [],arr,_,h=>by simp only [RvL] at h ⊢;exact h
 | d :: r,arr,hs,h=>by
  simp only [RvL] at h ⊢;obtain ⟨v,s,rfl,h1,h2⟩:=h;refine ⟨v,s,rfl,?_,xc hm (fun x hx=>hs x (gA _ hx)) h2⟩;rcases hs d (by simp) with ⟨y,rfl⟩ | ⟨e',wx,rfl⟩
  ·unfold Rv at h1 ⊢;exact h1
  ·unfold Rv at h1 ⊢;obtain ⟨b,n,cap,h3,h4,h5,_⟩:=h1;exact ⟨b,n,cap,h3,h4,fun hn=>⟨(h5 hn).1,hm _ _ _ _ (h5 hn).2⟩,fun k hk=>by cases hk⟩
theorem CcL.length {bx:List (List DV)} {N n0 m0:Nat}:∀ {l' l:List DV},CcL bx N n0 m0 l' l->l'.length=l.length
 | [],l,h=>by simp only [CcL] at h;subst h;rfl
 | d' :: r',l,h=>by
  simp only [CcL] at h;obtain ⟨d,r,rfl,_,h2⟩:=h;simp [CcL.length h2]
theorem CcE.length {bx:List (List DV)} {N:Nat}:∀ {l' l:List (List DV)},CcE bx N l' l->l'.length=l.length
 | [],l,h=>by simp only [CcE] at h;subst h;rfl
 | d' :: r',l,h=>by
  simp only [CcE] at h;obtain ⟨d,r,rfl,_,h2⟩:=h;simp [CcE.length h2]
mutual
theorem Cc.sound {bx:List (List DV)} {N:Nat} {E:En}:∀ {d':DV} {E':En} {n0 m0:Nat} {d:DV} {v:Value},Em E E' bx N->BC E E' n0 m0->Cc bx N n0 m0 d' d->Rv E d v->Rv E' d' v
 | .v y,E',n0,m0,d,v,hf,hl,h,hv=>by grind [Cc,Rv]
 | .ud,E',n0,m0,d,v,hf,hl,h,hv=>by grind [Cc,Rv]
 | .agg l',E',n0,m0,d,v,hf,hl,h,hv=>by
  simp only [Cc] at h;obtain ⟨l,rfl,h⟩:=h;unfold Rv at hv ⊢;obtain ⟨vs,h1,h2,h3⟩:=hv;exact ⟨vs,h1,CcL.sound hf hl h h2,h3⟩
 | .bS l',E',n0,m0,d,v,hf,hl,h,hv=>by
  simp only [Cc] at h;obtain ⟨l,rfl,h⟩:=h;unfold Rv at hv ⊢;obtain ⟨vs,h1,h2⟩:=hv;exact ⟨vs,h1,CcL.sound hf hl h h2⟩
 | .sl e es tk,E',n0,m0,d,v,hf,hl,h,hv=>by
  have hm:∀ b o,RvEs E.cl e b o es->RvEs E'.cl e b o es:=fun b o hr=>RvEs.mono (Ext.Bo hf.c) hr
  cases tk with
  | none=>
   simp only [Cc] at h;rcases h with ⟨rfl,rfl⟩ | ⟨tk',rfl⟩ | ⟨i,off,c,cs,rfl,hi,cm,Ow,za,ES⟩ | ⟨S3,tk',rfl,h⟩
   ·have:=bn hv;subst this;unfold Rv;exact ⟨none,0,0,rfl,⟨rfl,zLeR _⟩,fun hn=>(hn rfl).elim,fun k hk=>by cases hk⟩
   ·unfold Rv at hv ⊢;obtain ⟨b,n,cap,h1,h2,h3,_⟩:=hv;exact ⟨b,n,cap,h1,h2,fun hn=>⟨(h3 hn).1,hm _ _ (h3 hn).2⟩,fun k hk=>by cases hk⟩
   ·obtain ⟨b,arr,hb,hc,hmm⟩:=hf.fz i cs hi cm;unfold Rv at hv ⊢;obtain ⟨b',ad,ee,NC,rfl,hca⟩:=hv;rw [hb] at ee;simp only [oI] at ee;subst ee;refine ⟨ad,es.length,c,rfl,⟨rfl,NC⟩,fun hn=>?_,fun k hk=>by cases hk⟩;have mH:0 < es.length:=List.length_pos_iff.2 hn;have Om:=hca (by omega);subst Om;refine ⟨rfl,?_⟩;have h1:=(hc.drop off).take (es.length * e);rw [<- Ow] at h1;refine rvEs_flat ⟨xc (E':=E'.cl) (fun e b o es hr=>(RvEs.mono (Ext.Bo hf.c) hr:RvEs E'.cl e b o es)) ES h1.1,h1.2⟩ za fun j u hj=>?_;rw [bM] at hj;split at hj
    ·rw [List.getElem?_drop] at hj;exact hmm (off + j) u hj
    ·cases hj
   ·have hlen:=CcE.length h;have hs:=fun b o=>CcE.sound (e:=e) (b:=b) (o:=o) hf h;unfold Rv at hv ⊢;obtain ⟨b,n,cap,h1,h2,h3,_⟩:=hv;refine ⟨b,n,cap,h1,by omega,fun hn=>?_,fun k hk=>by cases hk⟩
    grind
  | some k=>
   simp only [Cc] at h;obtain ⟨hk,rfl⟩:=h;unfold Rv at hv ⊢;obtain ⟨b,n,cap,h1,h2,h3,h4⟩:=hv;refine ⟨b,n,cap,h1,h2,fun hn=>⟨(h3 hn).1,hm _ _ (h3 hn).2⟩,fun k' fl=>?_⟩;cases fl;obtain ⟨e1,e2⟩:=hl.tk k hk;obtain ⟨q,h5,h6,h7⟩:=h4 k rfl
   grind
 | .pt cs' o,E',n0,m0,d,v,hf,hl,h,hv=>by
  simp only [Cc] at h;rcases h with rfl | ⟨i,cs,rfl,hi,cm,h⟩
  ·unfold Rv at hv ⊢;obtain ⟨b,p,h1,h2⟩:=hv;exact ⟨b,p,h1,RvAt.mono (Ext.Bo hf.c) h2⟩
  ·obtain ⟨b,arr,hb,hc,hm⟩:=hf.fz i cs hi cm;unfold Rv at hv ⊢;obtain ⟨b',ee,rfl⟩:=hv;rw [hb] at ee;simp only [oI] at ee;subst ee;refine ⟨b,0,by simp,?_⟩;have:=CcL.sound hf.cl (BC.zero E E'.cl) h hc.1;exact u3 ⟨this,hc.2⟩ fun j u hj=>by rw [Nat.zero_add];exact hm j u hj
 | .loc i o,E',n0,m0,d,v,hf,hl,h,hv=>by
  simp only [Cc] at h;obtain ⟨hi,rfl⟩:=h;unfold Rv at hv ⊢;obtain ⟨b,hb,h1⟩:=hv;exact ⟨b,hl.β i b hi hb,h1⟩
 | .el i o,E',n0,m0,d,v,hf,hl,h,hv=>by
  simp only [Cc] at h;obtain ⟨hi,rfl⟩:=h;unfold Rv at hv ⊢;obtain ⟨b,hb,h1⟩:=hv;exact ⟨b,hl.β i b hi hb,h1⟩
 | .ms i e o l c,E',n0,m0,d,v,hf,hl,h,hv=>by
  simp only [Cc] at h;obtain ⟨hi,rfl⟩:=h;unfold Rv at hv ⊢;obtain ⟨b,ad,hb,h1⟩:=hv;exact ⟨b,ad,hl.β i b hi hb,h1⟩
 | .fn f a' b',E',n0,m0,d,v,hf,hl,h,hv=>by
  simp only [Cc] at h;obtain ⟨a,b,rfl,ha,hb⟩:=h;unfold Rv at hv ⊢;obtain ⟨l,r,h1,h2,h3⟩:=hv;exact ⟨l,r,h1,CcL.sound hf hl ha h2,CcL.sound hf hl hb h3⟩
 | .lH t x',E',n0,m0,d,v,hf,hl,h,hv=>by
  simp only [Cc] at h;obtain ⟨x,rfl,hx⟩:=h;unfold Rv at hv ⊢;obtain ⟨z,h1,h2⟩:=hv;exact ⟨z,h1,Cc.sound hf hl hx h2⟩
theorem CcL.sound {bx:List (List DV)} {N:Nat} {E:En}:∀ {l':List DV} {E':En} {n0 m0:Nat} {l:List DV} {vs:List Value},Em E E' bx N->BC E E' n0 m0->CcL bx N n0 m0 l' l->RvL E l vs->RvL E' l' vs
 | [],E',n0,m0,l,vs,hf,hl,h,hv=>by grind [CcL,RvL]
 | d' :: r',E',n0,m0,l,vs,hf,hl,h,hv=>by
  simp only [CcL] at h;obtain ⟨d,r,rfl,h1,h2⟩:=h;simp only [RvL] at hv ⊢;obtain ⟨v,s,h3,h4,h5⟩:=hv;exact ⟨v,s,h3,Cc.sound hf hl h1 h4,CcL.sound hf hl h2 h5⟩
theorem V1.sound {bx:List (List DV)} {N:Nat} {E:En}:∀ {l':List DV} {E':En} {l:List DV} {b p:Nat},Em E E' bx N->CcL bx N 0 0 l' l->RvAt E.cl b p l->RvAt E'.cl b p l'
 | [],E',l,b,p,hf,h,hv=>by simp only [RvAt]
 | d' :: r',E',l,b,p,hf,h,hv=>by
  simp only [CcL] at h;obtain ⟨d,r,rfl,h1,h2⟩:=h;simp only [RvAt] at hv ⊢;obtain ⟨⟨v,h3,h4,h5⟩,h6⟩:=hv;exact ⟨⟨v,hf.c _ _ h3,h4,Cc.sound hf.cl (BC.zero E E'.cl) h1 (Rv.mono (Ext.Ij E) h5)⟩,V1.sound hf h2 h6⟩
theorem CcE.sound {bx:List (List DV)} {N:Nat} {E:En}:∀ {l':List (List DV)} {E':En} {l:List (List DV)} {e b o:Nat},Em E E' bx N->CcE bx N l' l->RvEs E.cl e b o l->RvEs E'.cl e b o l'
 | [],E',l,e,b,o,hf,h,hv=>by simp only [RvEs]
 | a' :: r',E',l,e,b,o,hf,h,hv=>by
  simp only [CcE] at h;obtain ⟨a,r,rfl,h1,h2⟩:=h;simp only [RvEs] at hv ⊢;obtain ⟨h3,h4,h5⟩:=hv;refine ⟨?_,?_,CcE.sound hf h2 h5⟩
  ·grind [CcL.length]
  ·rcases h1 with rfl | h1
   ·exact RvAt.mono (Ext.Bo hf.c) h4
   ·exact V1.sound hf h1 h4
end
theorem Kb {E:En} {e:Nat} {es wx:List (List DV)} {tk:Option Nat} {v:Value} (h:CcE [] 0 wx es) (hv:Rv E (.sl e es tk) v):Rv E (.sl e wx tk) v:=by
 have hlen:=CcE.length h;have hs:=fun b o=>CcE.sound (E:=E) (E':=E) (bx:=[]) (N:=0) (e:=e) (b:=b) (o:=o) ⟨fun _ _ h=>h,fun i cs _ hi=>by simp at hi⟩ h
 grind [Rv]
theorem jy.get {bx:List (List DV)} {N n0 m0:Nat}:∀ {l' l:List (List DV)},jy bx N n0 m0 l' l->l'.length=l.length/\∀ (i:Nat) cs',l'[i]? = some cs' -> ∃ cs,l[i]? = some cs/\CcL bx N n0 m0 cs' cs
 | [],l,h=>by simp only [jy] at h;subst h;exact ⟨rfl,by simp⟩
 | a' :: r',l,h=>by
  simp only [jy] at h;obtain ⟨a,r,rfl,h1,h2⟩:=h;obtain ⟨h3,h4⟩:=jy.get h2
  grind
open Classical in
noncomputable def nY (E:En) (n:Nat) (w:World):Addr->Option Value:=
 fun a=>if ∃ i:Nat,n<=i/\E.β[i]? = some a.block then w.cell? a else E.c a
section
variable {X:Ctx} {E:En} {st:St} {a:Act} {w:World}
theorem dp {n:Nat} {x:Addr} {v:Value} (h:nY E n w x=some v):((∃ i:Nat,n<=i/\E.β[i]? = some x.block)/\w.cell? x=some v)∨E.c x=some v:=by
 unfold nY at h;split at h
 all_goals grind
theorem jF {bx:List (List DV)} (h:Env E bx w) {n:Nat} {x:Addr} {v:Value} (hx:E.c x=some v):nY E n w x=some v:=by
 unfold nY;split
 ·exact h.sub x v hx
 ·exact hx
theorem vb (h:Rel X E st a w) {d d':DV} {os:List (List DV)} {v:Value} (hv:Rv E d v) (M:Nat) (hM:(X.fr=false/\M=X.m0)∨(X.fr=true/\M=st.tk.length)) (hd:Cc st.bx X.n0 X.n0 M d' d) (wY:jy st.bx X.n0 X.n0 M os (st.bx.take X.n0)) (hΦ:X.Φ d' os (st.tk.take M)):wQ X.still X.E0 X.w0 X.Φ v w X.fr:=by
 obtain ⟨r,LO,Tg⟩:=h.nw.β;have gk:E.β.take X.n0=X.E0.β:=by rw [LO,<- X.ti];simp
 have gH:∀ (i:Nat) b,i < X.n0->E.β[i]? = some b->X.E0.β[i]? = some b:=fun i b hi hb=>by grind
 have cG:∀ (i:Nat) b,X.n0<=i->E.β[i]? = some b->b∈r:=fun i b hi hb=>by grind
 have LP:∀ b,b∈X.E0.β->b∈r->False:=fun b h1 h2=>by
  have:=h.env.inj
  grind
 have hE0l:X.E0.τ.length=X.m0:=by rw [h.nw.l0,X.mw]
 have V2:X.m0<=E.tk.length:=by
  rcases Nat.lt_or_ge E.tk.length X.m0 with h1 | h1
  ·have hk:E.tk.length < X.E0.tk.length:=by rw [X.mw];exact h1
   have fl:E.tk.length < X.E0.τ.length:=by rw [h.nw.l0];exact hk
   obtain ⟨q',y',h2,_⟩:=h.nw.tk E.tk.length _ _ (gE hk) (gE fl)
   grind
  ·exact h1
 have hMm:X.m0<=M/\M<=E.tk.length:=by
  rcases hM with ⟨_,rfl⟩ | ⟨_,rfl⟩
  ·exact ⟨zLeR _,V2⟩
  ·rw [<- h.tk];exact ⟨V2,zLeR _⟩
 have NG:VT X.fr (E.tk.take M).length X.E0.tk.length:=by
  rw [eP];rcases hM with ⟨hf,rfl⟩ | ⟨hf,rfl⟩
  ·rw [hf];show min _ _=_;rw [X.mw];omega
  ·rw [hf];show _<=min _ _;rw [X.mw];omega
 let E':En:=⟨nY E X.n0 w,X.E0.β,E.tk.take M,E.τ.take M⟩
 have Ik:Em E E' st.bx X.n0:={
  c:=fun x u hx=>jF h.env hx
  fz:=fun i cs hi cm=>by
   obtain ⟨b,ty,arr,hb,hw,hc⟩:=h.env.dn i cs cm;refine ⟨b,arr,hb,hc,fun j u hj=>?_⟩;show nY E X.n0 w ⟨b,j,none⟩=some u;unfold nY;rw [zIfP ⟨i,hi,hb⟩,bX hw]
   simpa using hj }
 have vc:BC E E' X.n0 M:={
  β:=gH
  tk:=fun k hk=>⟨by show (E.tk.take M)[k]? = _;rw [bM,zIfP hk],by show (E.τ.take M)[k]? = _;rw [bM,zIfP hk]⟩ }
 obtain ⟨iY,Ox⟩:=wY.get;refine ⟨h.fr,h.sh,d',os,E',?_,rfl,NG,?_,hd.sound Ik vc hv,by show X.Φ d' os (E.tk.take M);rw [h.tk];exact hΦ⟩
 ·exact {
   len:=by
    show X.E0.β.length=os.length;rw [iY,X.ti,eP]
    have:X.n0<=st.bx.length:=by
     rw [<- h.env.len,LO,List.length_append,X.ti];omega
    omega
   tl:=by simp only [E',eP];rw [h.env.tl]
   dn:=fun i cs' hi=>by
    obtain ⟨cs,cm,pV⟩:=Ox i cs' hi;rw [bM] at cm;split at cm
    ·rename_i ap;obtain ⟨b,ty,arr,hb,hw,hc⟩:=h.env.dn i cs cm;exact ⟨b,ty,arr,gH i b ap hb,hw,CcL.sound Ik vc pV hc.1,hc.2⟩
    ·cases cm
   inj:=by rw [<- gk];exact h.env.inj.sublist (List.take_sublist _ _)
   sub:=fun x u hx=>by
    rcases dp hx with ⟨_,h1⟩ | h1
    ·exact h1
    ·exact h.env.sub x u h1
   pc:=fun x u hx hm=>by
    rcases dp hx with ⟨⟨i,hi,hb⟩,_⟩ | h1
    ·exact LP _ hm (cG i _ hi hb)
    ·refine h.env.pc x u h1 ?_;rw [LO];exact List.mem_append.2 (.inl hm)
   b9:=fun k q y hq hy=>by
    simp only [E',bM] at hq hy;split at hq
    ·rename_i hk;rw [zIfP hk] at hy;rcases h.env.b9 k q y hq hy with h1 | ⟨g,cap,cur,rfl,h1,h2,h3,h4,h5,h6⟩
     ·exact .inl h1
     ·refine .inr ⟨g,cap,cur,rfl,h1,⟨h2.1,h2.2.mono fun _ _ hx=>jF h.env hx⟩,h3,h4,fun hm=>h5 (by rw [LO];exact List.mem_append.2 (.inl hm)),fun x u hx hg=>?_⟩;rcases dp hx with ⟨⟨i,hi,hb⟩,_⟩ | h7
      all_goals grind
    ·cases hq
   gp:=fun k k' y y' g CA hy fm=>by
    simp only [E',bM] at hy fm;split at hy
    ·split at fm
     ·exact h.env.gp k k' y y' g CA hy fm
     ·cases fm
    ·cases hy }
 ·exact {
   c:=fun x u hx=>jF h.env (h.nw.c x u hx)
   cn:=fun x u hx=>by
    rcases dp hx with ⟨⟨i,hi,hb⟩,_⟩ | h1
    ·exact .inr (.inl (Tg _ (cG i _ hi hb)))
    ·exact h.nw.cn x u h1
   β:=⟨[],by simp [E'],by simp⟩
   tk:=fun k q y hq hy=>by
    obtain ⟨q',y',h1,h2,h3⟩:=h.nw.tk k q y hq hy
    grind
   tn:=fun k y g hk hy hg=>by
    simp only [E',bM] at hy;split at hy
    ·exact h.nw.tn k y g hk hy hg
    ·cases hy
   l0:=h.nw.l0 }
def resOf (tmps:Array Value):ResultVar->Sem Value
 | .tmp t=>pure (tmps.getD t undef)
 | .cell x t=>do loadVar t (<- asAddr (tmps.getD x undef))
theorem qG (fn:Func) (tmps:Array Value):results fn tmps=(do let vs <- fn.results.mapM (resOf tmps);pure (if h:vs.size=1 then vs[0] else .tuple vs)):=by
 unfold results;congr 2
theorem zw (h:Rel X E st a w) {r:ResultVar} {d:DV} (hr:res1 X.T st r=some d):∃ v,Rv E d v/\(resOf a.tmps r).run X.P w = .ok v w:=by
 cases r with
 | tmp t=>
  simp only [res1] at hr;split at hr
  ·rename_i x hg;simp only [oI] at hr;subst hr;obtain ⟨v,h1,h2⟩:=(h.tm t _ hg).1 (aM _);exact ⟨v,h2,by simp [resOf,Array.getD_eq_getD_getElem?,h1]⟩
  ·cases hr
 | cell x t=>
  simp only [res1] at hr;split at hr
  ·rename_i i off hg;split at hr
   ·rename_i cs cm;obtain ⟨v,h1,h2⟩:=(h.tm x _ hg).1 (aM _);unfold Rv at h2;obtain ⟨b,hb,rfl⟩:=h2;obtain ⟨b',zm,arr,ee,hw,hc⟩:=h.env.dn i cs cm;rw [hb] at ee;simp only [oI] at ee;subst ee;obtain ⟨v,hv,hl⟩:=jz X.hT hc (b:=b) (p:=0) hr;have hl:=hl w fun j u hj=>by rw [bX hw];simpa using hj
    rw [Nat.zero_add] at hl;exact ⟨v,hv,by simp only [resOf,Array.getD_eq_getD_getElem?,h1,Option.getD_some,asAddr,Sem.run_bind,Sem.run_pure,Result.andThen_ok,hl]⟩
   ·cases hr
  ·cases hr
theorem hU (h:Rel X E st a w):∀ {rs:List ResultVar} {ds:List DV},resD X.T st rs=some ds->∃ vs,RvL E ds vs/\(rs.mapM (resOf a.tmps)).run X.P w = .ok vs w
 | [],ds,hr=>by
  simp only [resD,oI] at hr;subst hr;exact ⟨[],bW E,rfl⟩
 | r :: rs,ds,hr=>by
  simp only [resD] at hr;split at hr
  ·rename_i d l hd hl;simp only [oI] at hr;subst hr;obtain ⟨v,hv,h1⟩:=zw h hd;obtain ⟨vs,nW,h2⟩:=hU h hl;refine ⟨v :: vs,rvL_cons hv nW,?_⟩
   simp_all
  ·cases hr
theorem lO (h:Rel X E st a w) {d:DV} {v:Value} (hv:Rv E d v) (hf:finD X st d):wQ X.still X.E0 X.w0 X.Φ v w X.fr:=by
 unfold finD at hf;split at hf
 ·grind [vb]
 ·rename_i hfr;split at hf
  ·rename_i hn hm
   have key:∀ d',Cc st.bx 0 0 0 d' d->X.Φ d' [] []->wQ X.still X.E0 X.w0 X.Φ v w X.fr:=fun d' hd hΦ=>
    vb h hv (d':=d') (os:=[]) X.m0 (.inl ⟨hfr,rfl⟩) (by rw [hn,hm];exact hd) (by rw [hn];simp [jy]) (by rw [hm];exact hΦ)
   grind [Cc]
  ·grind [vb]
theorem tC (h:Rel X E st a w) (hf:fin X st):kq X [] .ret a w:=by
 have pD:X.fn.results=X.rs.toArray:=by rw [<- X.qw]
 simp only [kq];refine ⟨h.df,?_⟩
 have hbt:lm X.bt X.E0.β w:=fun p hp b hb=>by
  obtain ⟨r,hr,_⟩:=h.nw.β;exact h.bt p hp b (by rw [hr,dF (gS hb).1];exact hb)
 unfold fin at hf
 have qH:∀ (ds:List DV) (vs:List Value),(X.rs.mapM (resOf a.tmps)).run X.P w = .ok vs w->(results X.fn a.tmps).run X.P w = .ok (if h:vs.toArray.size=1 then vs.toArray[0] else .tuple vs.toArray) w:=by
  intro ds vs hv;rw [qG,pD]
  simp_all
 split at hf
 ·rename_i hr;obtain ⟨vs,nW,h1⟩:=hU h hr;simp only [RvL] at nW;subst nW;exact ⟨_,qH [] [] h1,lO h (v:=.tuple #[]) (by unfold Rv;exact ⟨[],rfl,bW E⟩) hf,hbt⟩
 ·rename_i d hr;obtain ⟨vs,nW,h1⟩:=hU h hr;have hl:=nW.length;simp only [RvL] at nW;obtain ⟨v,s,rfl,hv,rfl⟩:=nW;exact ⟨_,qH [d] [v] h1,lO h (v:=v) hv hf,hbt⟩
 ·rename_i d e l hr;obtain ⟨vs,nW,h1⟩:=hU h hr;have hl:=nW.length;have bi:¬ vs.toArray.size=1:=by simp at hl ⊢;omega
  have h2:=qH [] vs h1;rw [dif_neg bi] at h2;exact ⟨_,h2,lO h (v:=.tuple vs.toArray) (by unfold Rv;exact ⟨vs,rfl,nW⟩) hf,hbt⟩
 ·exact hf.elim
theorem qI:∀ (k:List It) (a:Act) (w:World),kq X [] .ret a w->kq X k .ret a w
 | [],_,_,h=>h
 | .code _ :: k,a,w,h=>qI k a w h
 | .ops _ _ :: k,a,w,h=>qI k a w h
 | .wP _ :: k,a,w,h=>qI k a w h
 | .y8 _ :: k,a,w,h=>qI k a w h
theorem mJ {id:Nat}:∀ (k k':List It) (a:Act) (w:World),dropBlk id k=some k' -> kq X k' .normal a w->kq X k (.exit id) a w
 | [],k',a,w,hd,_=>by simp [dropBlk] at hd
 | .code _ :: k,k',a,w,hd,h=>by simp only [dropBlk] at hd;exact mJ k k' a w hd h
 | .ops _ _ :: k,k',a,w,hd,h=>by simp only [dropBlk] at hd;exact mJ k k' a w hd h
 | .y8 _ :: k,k',a,w,hd,h=>by simp only [dropBlk] at hd;exact mJ k k' a w hd h
 | .wP i :: k,k',a,w,hd,h=>by
  simp only [dropBlk] at hd;split at hd
  ·simp_all [kq]
  ·rename_i hi
   have hi:id≠i:=by
    rintro rfl;rw [Nat.beq_refl] at hi;cases hi
   simp only [kq];rw [ah hi];exact mJ k k' a w hd h
theorem CI {P:Program} {o:Oper} {a:Act} {K K':Act->World->Prop} {Q Q':Exit->Act->World->Prop} (hK:∀ a w,K a w->K' a w) (hQ:∀ e a w,Q e a w->Q' e a w)
  {r:Result Next} (h:o.upon P a K Q r):o.upon P a K' Q' r:=by
 unfold Oper.upon at *;split<;>simp_all
 ·refine h.mono ?_;intro e w' hq
  cases e with
  | returned v=>exact hK _ _ hq
  | panicked c=>exact hQ _ _ _ hq
  | outgrown=>obtain ⟨a,w,hq⟩:=hq;exact ⟨a,w,hQ _ _ _ hq⟩
 ·exact h.mono fun v w' hq=>hK _ _ hq
theorem xd {P:Program} {o:Oper} {a:Act} {K K':Act->World->Prop} {Q Q':Exit->Act->World->Prop} {w:World} (hK:∀ a w,K a w->K' a w) (hQ:∀ e a w,Q e a w->Q' e a w)
  (h:o.wp P a w K Q):o.wp P a w K' Q':=CI hK hQ h
theorem mK {l:Nat}:∀ (k:List It) (a:Act) (w:World),kq X k (.goto l) a w->False
 | [],a,w,h=>by simp [kq] at h
 | .code _ :: k,a,w,h=>mK k a w (by simpa only [kq] using h)
 | .ops _ _ :: k,a,w,h=>mK k a w (by simpa only [kq] using h)
 | .wP _ :: k,a,w,h=>mK k a w (by simpa only [kq] using h)
 | .y8 _ :: k,a,w,h=>mK k a w (by simpa only [kq] using h)
theorem E4 (k:List It) (e:Exit) (a:Act) (w:World) (h:kq X k e a w):Exit.noGoto (kq X k) e a w:=by
 cases e with
 | goto l=>exact (mK k a w h).elim
 | _=>exact h
theorem c7 (c:Code) (k:List It) (a:Act) (w:World):kq X (.code c :: k) .normal a w=c.wp X.P (kq X k) a w:=rfl
theorem Il (c:Code) (k:List It):kq X (.code c :: k)=Exit.then (c.wp X.P (kq X k)) (kq X k):=by
 funext e a w;cases e<;>rfl
theorem LQ (id:Nat) (k:List It) (e:Exit) (a:Act) (w:World) (h:kq X (.wP id :: k) e a w):Exit.inBlock id (kq X k) e a w:=by
 cases e<;>exact h
theorem wanted_spec (h:Rel X E st a w) {all:Array Oper} {o:Oper} {j d:Nat} {want:Bool} {ju:List (Nat × Bool)} {sd:DV} (Im:o.guard=some (j,want)) (Cy:gslot all.toList j=some d) (Kc:get st.sl d=some ⟨ju,sd⟩) :
  Region.wanted o (yielded all a.tmps)=true↔Holds a.tmps ((d,want) :: ju):=by
 have LR:yielded all a.tmps j=match a.tmps[d]? with | some (.bool b)=>some b | _=>none:=by
  unfold gslot at Cy;split at Cy
  ·rename_i oj hoj;have Th:all[j]? = some oj:=sU hoj;simp only [yielded,Th,Cy,Option.bind_some]
   grind
  ·cases Cy
 have htd:=h.tm d _ Kc;simp only [Region.wanted,Im,LR];constructor
 ·intro hw;have hb:a.tmps[d]? = some (.bool want):=by grind
  refine gW hb ?_;by_cases hh:Holds a.tmps ju
  ·exact hh
  ·have:=htd.2 hh;rw [hb] at this;simp [undef] at this
 ·intro hh;have:=hh (d,want) (by simp);simp only at this;rw [this];simp
theorem xe (h:Rel X E st a w) {t:Nat} {b:Bool} (hg:get st.sl t=some ⟨[],.v (.bool b)⟩):a.tmps[t]? = some (.bool b):=by
 obtain ⟨v,h1,h2⟩:=(h.tm t _ hg).1 (aM _);rw [h1,gY h2]
theorem E5 (h:Rel X E st a w) {t:Nat} (hg:get st.sl t=some ⟨[],.ud⟩):a.tmps[t]? = some undef:=by
 obtain ⟨v,h1,h2⟩:=(h.tm t _ hg).1 (aM _);unfold Rv at h2;rw [h1,h2]
theorem qJ {G:List (Nat × Bool)} {dst:Option Nat} (ef:S4 G dst=true):∀ e,dst=some e->∀ p∈G,p.1≠e:=by
 intro e he p hp cK;rw [he] at ef;have:=(List.all_eq_true.1 ef) p hp;rw [cK] at this;simp at this
theorem go_sound:∀ n,VZ X (go X n)
 | 0=>fun k st hg=>hg.elim
 | n + 1=>by
  have ih:=go_sound n;intro k st hg E a w h
  match k with
  | []=>exact tC h (by simpa [go] using hg)
  | .wP id :: k=>exact ih k st (by simpa [go] using hg) E a w h
  | .y8 J :: k=>exact ⟨st,E,h,by simpa [go] using hg⟩
  | .ops all [] :: k=>exact ih k st (by simpa [go] using hg) E a w h
  | .ops all (o :: r) :: k=>
   simp only [go,kQ,Bn] at hg;split at hg
   ·exact hg.elim
   ·rename_i hd;split at hg
    ·rename_i Im;simp only [kq,wpList,Region.wanted,Im,if_true];split at hg
     ·rename_i s hs;obtain ⟨v,hv,bO⟩:=fw X.hT h.rl (aM _) hs;exact .inl (iV (bO w fun _=>rfl) (ih _ _ hg E _ w (bl h hd s v hv)))
     ·exact .inl (xd (fun a w hk=>hk) (fun e a w hq=>hq.elim) (tz ih hd h hg))
    ·rename_i j want Im;split at hg
     ·exact hg.elim
     ·rename_i d Cy;split at hg
      ·exact hg.elim
      ·rename_i ju sd Kc;have qK:=wanted_spec h Im Cy Kc;simp only [kq,wpList];split at hg
       ·rename_i s hs;split at hg
        case h_2=>exact hg.elim
        rename_i ef;split
        ·rename_i hw;have hh:=qK.1 hw;obtain ⟨v,hv,bO⟩:=fw X.hT h.rl hh hs;exact .inl (iV (bO w fun _=>rfl) (ih _ _ hg E _ w (mE h hd _ s v (qJ ef) (fun _=>hv) (fun hn=>(hn hh).elim))))
        ·rename_i hw;have hh:¬ Holds a.tmps ((d,want) :: ju):=fun hh=>hw (qK.2 hh);exact ih _ _ hg E _ w (mE h hd _ s undef (qJ ef) (fun hn=>(hh hn).elim) (fun _=>rfl))
       ·split at hg
        ·rename_i b gk;have ht0:=xe h gk
         cases ju with
         | nil=>
          simp only [lastG] at gk ht0;cases BD:(b == want)
          ·have zx:b = !want:=by cases b<;>cases want<;>simp_all
           have hg:=hg.f BD
           have hn:¬ Region.wanted o (yielded all a.tmps)=true:=by
            intro hw;have:=(qK.1 hw) (d,want) (by simp)
            grind
           rw [ah hn];have hr:=iz (d:=d) (b:=!want) h (by rw [ht0,zx]);exact ih _ _ hg E _ w (bl hr (iA hd) .ud undef (oV E))
          ·have E6:b=want:=sU BD;have hg:=hg.t BD;subst E6;have hw:Region.wanted o (yielded all a.tmps)=true:=qK.2 (gW ht0 (aM _));rw [zIfP hw];have hr:=iz (d:=d) (b:=b) h ht0;exact .inl (xd (fun a w hk=>hk) (fun e a w hq=>hq.elim) (tz ih (iA hd) hr hg))
         | cons g1 gr=>
          have key:∀ c,a.tmps[(lastG (d,want) (g1 :: gr)).1]? = some (.bool c)->go X n (.ops all (o :: r) :: k) (st.resolve (lastG (d,want) (g1 :: gr)).1 c)->wpList X.P all (kq X k) (o :: r) a w:=
           fun c hc qF=>ih _ _ qF E a w (iz h hc)
          cases BD:(b == (lastG (d,want) (g1 :: gr)).2)
          ·have hg:=hg.f BD;have zx:b = !(lastG (d,want) (g1 :: gr)).2:=by cases b<;>cases h0:(lastG (d,want) (g1 :: gr)).2<;>simp_all
           have:=key _ (by rw [ht0,zx]) hg;simpa [wpList] using this
          ·have hg:=hg.t BD;have E6:b=(lastG (d,want) (g1 :: gr)).2:=sU BD;have:=key _ (by rw [ht0,E6]) hg;simpa [wpList] using this
        ·rename_i gk
         cases ju with
         | nil=>
          have ht0:=E5 h gk;simp only [lastG] at ht0
          have hn:¬ Region.wanted o (yielded all a.tmps)=true:=by
           intro hw;have:=(qK.1 hw) (d,want) (by simp);simp only at this;rw [ht0] at this;simp [undef] at this
          rw [ah hn];exact ih _ _ hg E _ w (bl h hd .ud undef (oV E))
         | cons g1 gr=>exact hg.elim
        ·exact hg.elim
  | .code c :: k=>
   rw [c7]
   cases c with
   | skip=>exact wp_skip (ih k st (by simpa [go] using hg) E a w h)
   | seq x y=>
    have:=ih (.code x :: .code y :: k) st (by simpa [go] using hg) E a w h;rw [c7,Il] at this;exact wp_seq this
   | block id b=>
    have:=ih (.code b :: .wP id :: k) st (by simpa [go] using hg) E a w h;rw [c7] at this;exact wp_block (wp_mono this (LQ id k))
   | exit id=>
    simp only [go] at hg;split at hg
    ·rename_i k' hk;exact wp_exit (mJ k k' a w hk (ih k' st hg E a w h))
    ·exact hg.elim
   | cond x p q=>
    simp only [go] at hg;split at hg
    ·rename_i b hb;refine wp_cond (t:=b) (by rw [gY (aP h.rl hb)]) ?_;cases gk:b
     ·exact ih (.code q :: k) st (hg.f gk) E a w h
     ·exact ih (.code p :: k) st (hg.t gk) E a w h
    ·exact hg.elim
   | region id ops d=>
    simp only [go] at hg;cases d
    ·exact wp_region_list (ih (.ops ops ops.toList :: k) st hg E a w h)
    ·exact hg E a w h
   | loop b=>exact (by simpa [go] using hg:oU X b k st) E a w h
   | ret=>exact wp_ret (qI k a w (tC h (by simpa [go] using hg)))
   | scope c=>
    have:=ih (.code c :: k) st (by simpa [go] using hg) E a w h;rw [c7] at this;exact wp_scope_straight (wp_mono this (E4 k))
   | label l=>exact wp_label (ih k st (by simpa [go] using hg) E a w h)
   | _=>simp [go] at hg
theorem xf {fn:Func} (pD:X.fn=fn) (e:Exit) (a:Act) (w:World) (h:kq X [] e a w):bodyPost X.P fn (fun e w'=>∃ v,e = .returned v/\wQ X.still X.E0 X.w0 X.Φ v w' X.fr/\lm X.bt X.E0.β w') e a w:=by
 subst pD
 cases e with
 | normal=>obtain ⟨h1,v,h2,h3⟩:=h;exact ⟨h1,v,h2,v,rfl,h3⟩
 | ret=>obtain ⟨h1,v,h2,h3⟩:=h;exact ⟨h1,v,h2,v,rfl,h3⟩
 | exit _=>exact h.elim
 | goto _=>exact h.elim
 | panic _=>exact h.elim
 | outgrown=>exact h.elim
end
def NH (s:Bool) (P:Program) (f:FuncId) (args:List DV) (os:List (List DV)) (b9:List TkE) (Φ:DV->List (List DV)->List TkE->Prop) (fr:Bool:=false):Prop:=
 ∀ (E:En) (w:World) (vs:List Value),Env E os w->E.tk=b9->RvL E args vs->Calls P f vs.toArray w fun e w'=>∃ v,e = .returned v/\wQ s E w Φ v w' fr
def Ev (P:Program) (f:FuncId) (args:List DV) (os:List (List DV)) (b9:List TkE) (Φ:DV->List (List DV)->List TkE->Prop):Prop:=NH false P f args os b9 Φ
def V3 (P:Program) (f:FuncId) (args:List DV) (os:List (List DV)) (b9:List TkE) (Φ:DV->List (List DV)->List TkE->Prop):Prop:=NH true P f args os b9 Φ
def aV (P:Program) (f:FuncId) (args:List DV) (d:DV):Prop:=Ev P f args [] [] fun d' _ _=>d'=d
def argSl:Nat->List DV->List (Nat × Sl)
 | _,[]=>[]
 | i,v :: r=>(i,⟨[],v⟩) :: argSl (i + 1) r
theorem tD:∀ (l:List DV) (i j:Nat) (x:Sl),get (argSl i l) j=some x->∃ v,x=⟨[],v⟩/\i<=j/\l[j - i]? = some v
 | [],_,_,_,h=>by simp [argSl,get] at h
 | v :: r,i,j,x,h=>by
  simp only [argSl,ct] at h;split at h
  ·grind
  ·rename_i wy;obtain ⟨u,hu,fN,hg⟩:=tD r (i + 1) j x h
   grind
theorem Nw.refl {E:En} {bx:List (List DV)} {w:World} (h:Env E bx w):Nw E E w where
 c:=fun _ _ h=>h
 cn:=fun _ _ h=>.inl h
 β:=⟨[],by simp,by simp⟩
 tk:=fun k q y hq hy=>⟨q,y,hq,hy,rfl,rfl,.inl ⟨rfl,rfl⟩,.inl rfl⟩
 tn:=fun k y g hk hy=>by
  have:=(gS hy).1;rw [h.tl] at this;omega
 l0:=h.tl
def Ti (s:Bool) (P:Program) (f:FuncId) (args:List DV) (os:List (List DV)) (b9:List TkE) (bt:List (Nat × TypeId)) (Φ:DV->List (List DV)->List TkE->Prop) (fr:Bool:=false):Prop:=
 ∀ (E:En) (w:World) (vs:List Value),Env E os w->E.tk=b9->lm bt E.β w->RvL E args vs->Calls P f vs.toArray w fun e w'=>∃ v,e = .returned v/\wQ s E w Φ v w' fr/\lm bt E.β w'
theorem Io {s:Bool} {P:Program} {f:FuncId} {fn:Func} {c:Code} {args:List DV} {os:List (List DV)} {b9:List TkE} {Φ:DV->List (List DV)->List TkE->Prop} (bt:List (Nat × TypeId)) (mu:List Nat) (fr:Bool) (T:TT) (hT:T.ok P=true) (n nt:Nat) (rs:List ResultVar)
  (hf:P.funcs[f]? = some fn) (hb:fn.body=some c) (zy:fn.ntmps=nt) (qw:fn.results.toList=rs) (hlen:args.length<=nt)
  (h:∀ (E:En) (w:World) (hn:E.β.length=os.length) (hm:E.tk.length=b9.length),go ⟨P,T,hT,fn,nt,rs,qw,w,E,os.length,b9.length,hn,hm,s,Φ,bt,mu,fr⟩ n [.code c] ⟨argSl 0 args,os,b9⟩):Ti s P f args os b9 bt Φ fr:=by
 intro E w vs hE nH gk hv;have hl:=hv.length;have hg:=h E w hE.len (by rw [nH]);refine calls_of_wp hf hb ?_
 have hs:=go_sound (X:=⟨P,T,hT,fn,nt,rs,qw,w,E,os.length,b9.length,hE.len,by rw [nH],s,Φ,bt,mu,fr⟩) n _ _ hg E
  {tmps:=vs.toArray ++ Array.replicate (fn.ntmps - vs.toArray.size) undef,defers:=[] } w
  {env:=hE
   tk:=nH
   sz:=by simp [zy];omega
   tm:=by
    intro i x hx;obtain ⟨d,rfl,_,hd⟩:=tD args 0 i x hx;simp only [Nat.sub_zero] at hd;obtain ⟨v,pU,Cz⟩:=hv.get hd
    grind [aM]
   df:=rfl
   nw:=Nw.refl hE
   fr:=⟨rfl,rfl,rfl,zLeR _,fun _ _ _=>rfl⟩
   sh:=fun _=>⟨0,rfl⟩
   bt:=gk }
 exact wp_mono hs (xf rfl)
theorem vd {s:Bool} {P:Program} {f:FuncId} {fn:Func} {c:Code} {args:List DV} {os:List (List DV)} {b9:List TkE} {Φ:DV->List (List DV)->List TkE->Prop} (bt:List (Nat × TypeId)) (mu:List Nat) (hbt:∀ p∈bt,os.length<=p.1) (fr:Bool) (T:TT) (hT:T.ok P=true) (n nt:Nat) (rs:List ResultVar)
  (hf:P.funcs[f]? = some fn) (hb:fn.body=some c) (zy:fn.ntmps=nt) (qw:fn.results.toList=rs) (hlen:args.length<=nt)
  (h:∀ (E:En) (w:World) (hn:E.β.length=os.length) (hm:E.tk.length=b9.length),go ⟨P,T,hT,fn,nt,rs,qw,w,E,os.length,b9.length,hn,hm,s,Φ,bt,mu,fr⟩ n [.code c] ⟨argSl 0 args,os,b9⟩):NH s P f args os b9 Φ fr:=fun E w vs hE nH hv=>(Io bt mu fr T hT n nt rs hf hb zy qw hlen h E w vs hE nH (fun p hp b hb=>by
  have h1:=hbt p hp;have h2:=(gS hb).1;have h3:=hE.len
  omega) hv).mono fun _ _ ⟨v,h1,h2,_⟩=>⟨v,h1,h2⟩
theorem Ip {s:Bool} {P:Program} {f:FuncId} {fn:Func} {c:Code} {args:List DV} {os:List (List DV)} {b9:List TkE} {Φ:DV->List (List DV)->List TkE->Prop} (bt:List (Nat × TypeId)) (hbt:∀ p∈bt,os.length<=p.1) (T:TT) (hT:T.ok P=true) (n nt:Nat) (rs:List ResultVar)
  (hf:P.funcs[f]? = some fn) (hb:fn.body=some c) (zy:fn.ntmps=nt) (qw:fn.results.toList=rs) (hlen:args.length<=nt)
  (h:∀ (E:En) (w:World) (hn:E.β.length=os.length) (hm:E.tk.length=b9.length),go ⟨P,T,hT,fn,nt,rs,qw,w,E,os.length,b9.length,hn,hm,s,Φ,bt,[],false⟩ n [.code c] ⟨argSl 0 args,os,b9⟩):NH s P f args os b9 Φ:=
 vd bt [] hbt false T hT n nt rs hf hb zy qw hlen h
theorem E7 {s:Bool} {P:Program} {f:FuncId} {fn:Func} {c:Code} {args:List DV} {os:List (List DV)} {b9:List TkE} {Φ:DV->List (List DV)->List TkE->Prop} (T:TT) (hT:T.ok P=true) (n nt:Nat) (rs:List ResultVar)
  (hf:P.funcs[f]? = some fn) (hb:fn.body=some c) (zy:fn.ntmps=nt) (qw:fn.results.toList=rs) (hlen:args.length<=nt)
  (h:∀ (E:En) (w:World) (hn:E.β.length=os.length) (hm:E.tk.length=b9.length),go ⟨P,T,hT,fn,nt,rs,qw,w,E,os.length,b9.length,hn,hm,s,Φ,[],[],false⟩ n [.code c] ⟨argSl 0 args,os,b9⟩):NH s P f args os b9 Φ:=
 Ip [] (fun p hp=>by cases hp) T hT n nt rs hf hb zy qw hlen h
theorem Oy {P:Program} {f:FuncId} {fn:Func} {c:Code} {args:List DV} {os:List (List DV)} {b9:List TkE} {Φ:DV->List (List DV)->List TkE->Prop} (T:TT) (hT:T.ok P=true) (n nt:Nat) (rs:List ResultVar)
  (hf:P.funcs[f]? = some fn) (hb:fn.body=some c) (zy:fn.ntmps=nt) (qw:fn.results.toList=rs) (hlen:args.length<=nt)
  (h:∀ (E:En) (w:World) (hn:E.β.length=os.length) (hm:E.tk.length=b9.length),go ⟨P,T,hT,fn,nt,rs,qw,w,E,os.length,b9.length,hn,hm,false,Φ,[],[],false⟩ n [.code c] ⟨argSl 0 args,os,b9⟩):Ev P f args os b9 Φ:=
 E7 T hT n nt rs hf hb zy qw hlen h
theorem Ev.mono {P:Program} {f:FuncId} {args:List DV} {os:List (List DV)} {b9:List TkE} {Φ Ψ:DV->List (List DV)->List TkE->Prop} (h:Ev P f args os b9 Φ) (hΦ:∀ d o t,Φ d o t->Ψ d o t):Ev P f args os b9 Ψ:=by
 intro E w vs h1 h2 h3;refine (h E w vs h1 h2 h3).mono ?_;rintro e w' ⟨v,rfl,h4,hs,d,o,E',h5,h6,h7,h8,h9,tv⟩;exact ⟨v,rfl,h4,hs,d,o,E',h5,h6,h7,h8,h9,hΦ _ _ _ tv⟩
theorem Ev.Oz {P:Program} {f:FuncId} {args:List DV} {os:List (List DV)} {b9:List TkE} {Φ:DV->List (List DV)->List TkE->Prop} {bt:List (Nat × TypeId)} (h:Ev P f args os b9 Φ) (hb:bt=[]):Ti false P f args os b9 bt Φ:=fun E w vs h1 h2 _ h4=>
 (h E w vs h1 h2 h4).mono fun _ _ ⟨v,h5,h6⟩=>⟨v,h5,h6,.nil hb⟩
theorem br {b:Bool} {A B:Prop} (h1:b=true->A) (h2:b=false->B):@Bool.rec (fun _=>Prop) B A b:=by
 cases b
 ·exact h2 rfl
 ·exact h1 rfl
section
variable {X:Ctx} {st:St} {k:List It} {E:En} {a:Act} {w:World}
theorem CJ (h:Rel X E st a w) (hst:X.still=false) {E2:En} {w':World} (hm:mv (E.cl).S w w') (he:Env E2 [] w') (hn:Nw E.cl E2 w):Rel X ⟨E2.c,E.β,E.tk,E.τ⟩ st a w':=by
 have hh:∀ i,i < w.heap.size->w'.heap[i]? = w.heap[i]?:=fun i hi=>hm.block i hi (by
  rintro (h1 | ⟨y,h1,_⟩)
  ·simp [En.cl] at h1
  ·simp [En.cl] at h1)
 have cG:∀ x v,E2.c x=some v->E.c x=some v∨w.heap.size<=x.block:=fun x v hx=>by
  rcases hn.cn x v hx with h1 | h1 | ⟨y,h1,_⟩
  ·exact .inl h1
  ·exact .inr h1
  ·simp [En.cl] at h1
 have hx:Ext E ⟨E2.c,E.β,E.tk,E.τ⟩:=⟨hn.c,fun _ _ h=>h,fun _ q h=>⟨q,h,.inl ⟨rfl,rfl⟩⟩⟩;have hk:=h.env.fx hh;refine cy h hx ?_ h.tk ?_ (h.fr.bN hm.os hm.tape hm.output hm.size fun i hi=>.inr (hh i hi)) (ln hst) (h.bt.fx fun b hb=>hh b (h.env.aQ hb))
 ·exact {
   len:=h.env.len
   tl:=h.env.tl
   dn:=fun i cs hi=>by
    obtain ⟨b,ty,arr,hb,hw,hc⟩:=hk.dn i cs hi;exact ⟨b,ty,arr,hb,hw,hc.mono hx⟩
   inj:=h.env.inj
   sub:=he.sub
   pc:=fun x v hc j1=>by
    rcases cG x v hc with h1 | h1
    ·exact h.env.pc x v h1 j1
    ·have:=h.env.aQ j1;omega
   b9:=fun k q y hq hy=>by
    rcases hk.b9 k q y hq hy with h1 | ⟨g',cap,cur,rfl,h1,h2,h3,h4,h5,h6⟩
    ·exact .inl h1
    ·refine .inr ⟨g',cap,cur,rfl,h1,⟨h2.1,h2.2.mono hn.c⟩,h3,h4,h5,fun x v hc hg=>?_⟩;rcases cG x v hc with h7 | h7
     ·exact h6 x v h7 hg
     ·have:=(fy (h.env.b9 k q _ hq hy) (g:=g') rfl).1;omega
   gp:=h.env.gp }
 ·exact {
   c:=fun x v hc=>hn.c x v (h.nw.c x v hc)
   cn:=fun x v hc=>by
    rcases cG x v hc with h1 | h1
    ·exact h.nw.cn x v h1
    ·have:=h.fr.size;exact .inr (.inl (by omega))
   β:=h.nw.β
   tk:=h.nw.tk
   tn:=h.nw.tn
   l0:=h.nw.l0 }
theorem zA {bx:List (List DV)} (h:Env E bx w):Env E.cl [] w where
 len:=rfl
 tl:=rfl
 dn:=by simp
 inj:=List.nodup_nil
 sub:=h.sub
 pc:=by simp [En.cl]
 b9:=by simp [En.cl]
 gp:=by simp [En.cl]
theorem oZ {P:Program} (h:Rel X E st a w) (hst:X.still=false) {f:FuncId} {args aZ:List DV} {vs:List Value} {Φ:DV->List (List DV)->List TkE->Prop} (hc:Ev P f aZ [] [] Φ) (ha:CcL [] 0 0 0 aZ args) (hv:RvL E args vs) :
  Calls P f vs.toArray w fun e w'=>∃ v E' d,e = .returned v/\Rel X E' st a w' /\ Rv E' d v/\Φ d [] []/\mv E.cl.S w w' /\ Ext E E' /\ E'.β=E.β:=by
 have Lq:RvL E.cl aZ vs:=CcL.sound (E:=E) (E':=E.cl) ⟨fun _ _ h=>h,fun i cs _ hi=>by simp at hi⟩ (BC.zero _ _) ha hv;refine (hc E.cl w vs (zA h.env) rfl Lq).mono ?_;rintro e w' ⟨v,rfl,hm,_,d,os,E2,he,hβ,nH,hn,LS,hΦ⟩
 have wY:os=[]:=by
  have:=he.len;rw [hβ] at this;exact List.eq_nil_of_length_eq_zero this.symm
 subst wY;have ht0:E2.tk=[]:=List.eq_nil_of_length_eq_zero nH;refine ⟨v,⟨E2.c,E.β,E.tk,E.τ⟩,d,rfl,CJ h hst hm he hn,?_,by rw [ht0] at hΦ;exact hΦ,hm,⟨hn.c,fun _ _ h=>h,fun _ q h=>⟨q,h,.inl ⟨rfl,rfl⟩⟩⟩,rfl⟩;refine Rv.mono (E:=E2) (E':=⟨E2.c,E.β,E.tk,E.τ⟩) ⟨fun _ _ h=>h,fun i b hb=>?_,fun k q hq=>?_⟩ LS
 ·rw [hβ] at hb;simp [En.cl] at hb
 ·rw [ht0] at hq;simp at hq
theorem gq {f:FuncId} {args aZ:List DV} {d:Nat} (iW:Enters X.P f) (hd:eK X.nt st.sl (some d)=true) {Φ:DV->List (List DV)->List TkE->Prop} (hc:Ev X.P f aZ [] [] Φ) (ha:CcL [] 0 0 0 aZ args)
  (hk:∀ r,Φ r [] []->go X 4000 k ⟨(d,⟨[],r⟩) :: st.sl,st.bx,st.tk⟩) (hst:X.still=false:=by exact rfl):CallG X f args (some d) k st:=by
 refine ⟨iW,hst,fun E a w vs h hv=>(oZ h hst hc ha hv).mono ?_⟩;rintro e w' ⟨v,E',r,rfl,bD,hr,hΦ,_⟩;exact go_sound 4000 _ _ (hk r hΦ) E' _ w' (bl bD hd r v hr)
theorem E8 {f:FuncId} {args aZ:List DV} {d:Nat} {r:DV} (iW:Enters X.P f) (hc:aV X.P f aZ r) (ha:CcL [] 0 0 0 aZ args) (hd:eK X.nt st.sl (some d)=true)
  (hk:go X 4000 k ⟨(d,⟨[],r⟩) :: st.sl,st.bx,st.tk⟩) (hst:X.still=false:=by exact rfl):CallG X f args (some d) k st:=
 gq iW hd hc ha (fun _ hr=>hr ▸ hk) hst
def clB (n m:Nat):DV->Bool
 | .v _=>true
 | .ud=>true
 | .sl _ _ none=>true
 | .sl _ _ (some k)=>Nat.blt k m
 | .pt _ _=>true
 | .loc i _=>Nat.blt i n
 | .el i _=>Nat.blt i n
 | .ms i _ _ _ _=>Nat.blt i n
 | .agg l=>clL l
 | .bS l=>clL l
 | .fn _ l r=>clL l && clL r
 | .lH _ x=>clB n m x
where clL:List DV->Bool
 | []=>true
 | d :: r=>clB n m d && clL r
def En.cut (E:En) (n m:Nat):En:=⟨E.c,E.β.take n,E.tk.take m,E.τ.take m⟩
mutual
theorem Rv.cut {n m:Nat} {E:En}:∀ {d:DV} {v:Value},Rv E d v->clB n m d=true->Rv (E.cut n m) d v
 | .v x,v,h,_=>by unfold Rv at h ⊢;exact h
 | .ud,v,h,_=>by unfold Rv at h ⊢;exact h
 | .sl e es none,v,h,_=>by
  unfold Rv at h ⊢;obtain ⟨b,n,cap,h1,h2,h3,_⟩:=h;exact ⟨b,n,cap,h1,h2,h3,fun k hk=>by cases hk⟩
 | .sl e es (some k),v,h,hc=>by
  unfold Rv at h ⊢;obtain ⟨b,n',cap,h1,h2,h3,h4⟩:=h;refine ⟨b,n',cap,h1,h2,h3,fun k' fl=>?_⟩;cases fl;have hk:k < m:=by simpa [clB] using hc
  obtain ⟨q,h5,h6,h7⟩:=h4 k rfl;exact ⟨q,by show (E.tk.take m)[k]? = _;rw [bM,zIfP hk];exact h5,h6,fun hh=>by show (E.τ.take m)[k]? = _;rw [bM,zIfP hk];exact h7 hh⟩
 | .pt cs o,v,h,_=>by unfold Rv at h ⊢;exact h
 | .loc i o,v,h,hc=>by
  unfold Rv at h ⊢;obtain ⟨b,hb,h1⟩:=h;have hi:i < n:=by simpa [clB] using hc
  exact ⟨b,by show (E.β.take n)[i]? = _;rw [bM,zIfP hi];exact hb,h1⟩
 | .el i o,v,h,hc=>by
  unfold Rv at h ⊢;obtain ⟨b,hb,h1⟩:=h;have hi:i < n:=by simpa [clB] using hc
  exact ⟨b,by show (E.β.take n)[i]? = _;rw [bM,zIfP hi];exact hb,h1⟩
 | .ms i e o l c,v,h,hc=>by
  unfold Rv at h ⊢;obtain ⟨b,ad,hb,h1⟩:=h;have hi:i < n:=by simpa [clB] using hc
  exact ⟨b,ad,by show (E.β.take n)[i]? = _;rw [bM,zIfP hi];exact hb,h1⟩
 | .agg l,v,h,hc=>by
  unfold Rv at h ⊢;obtain ⟨vs,h1,h2,h3⟩:=h;simp only [clB] at hc;exact ⟨vs,h1,RvL.cut h2 hc,h3⟩
 | .bS l,v,h,hc=>by
  unfold Rv at h ⊢;obtain ⟨vs,h1,h2⟩:=h;simp only [clB] at hc;exact ⟨vs,h1,RvL.cut h2 hc⟩
 | .fn f l r,v,h,hc=>by
  unfold Rv at h ⊢;obtain ⟨l',r',h1,h2,h3⟩:=h;simp only [clB,bA] at hc;exact ⟨l',r',h1,RvL.cut h2 hc.1,RvL.cut h3 hc.2⟩
 | .lH t x,v,h,hc=>by
  unfold Rv at h ⊢;obtain ⟨z,h1,h2⟩:=h;simp only [clB] at hc;exact ⟨z,h1,Rv.cut h2 hc⟩
theorem RvL.cut {n m:Nat} {E:En}:∀ {l:List DV} {vs:List Value},RvL E l vs->clB.clL n m l=true->RvL (E.cut n m) l vs
 | [],vs,h,_=>by simp only [RvL] at h ⊢;exact h
 | d :: r,vs,h,hc=>by
  simp only [RvL] at h ⊢;obtain ⟨v,s,h1,h2,h3⟩:=h;simp only [clB.clL,bA] at hc;exact ⟨v,s,h1,Rv.cut h2 hc.1,RvL.cut h3 hc.2⟩
end
end
end Dv
end Go.Proofs.YtfdedoiiahbnnaaGreat
namespace Go.Proofs.YtfdedoiiahbnnaaGreat
namespace Dv
open Go Go.RowKit
def We (n m:Nat) (tk':List TkE) (x x':DV):Prop:=
 (x=x' /\ clB n m x=true)∨(x = .v (.slice none 0 0)/\∃ e k q,x' = .sl e [] (some k)/\m<=k/\tk'[k]? = some q)∨(x = .v (.slice none 0 0)/\∃ e,x' = .sl e [] none)∨(∃ e es tk,x = .sl e es tk/\x' = .sl e es none)∨(∃ e es wx tk,x = .sl e es tk/\x' = .sl e wx none/\CcE [] 0 wx es)∨(∃ e es wx k,x = .sl e es (some k)/\x' = .sl e wx (some k)/\k < m/\CcE [] 0 wx es)
def WeL (n m:Nat) (tk':List TkE):List DV->List DV->Prop
 | [],l=>l=[]
 | x :: r,l=>∃ x' r',l=x' :: r' /\ We n m tk' x x' /\ WeL n m tk' r r'
def WeLL (n m:Nat) (tk':List TkE):List (List DV)->List (List DV)->Prop
 | [],l=>l=[]
 | x :: r,l=>∃ x' r',l=x' :: r' /\ WeL n m tk' x x' /\ WeLL n m tk' r r'
def kh (n m:Nat) (tk':List TkE) (sl:List (Nat × Sl)):List (Nat × Sl)->Prop
 | []=>True
 | p :: r=>(∃ x,get sl p.1=some ⟨p.2.gs,x⟩/\We n m tk' x p.2.s)/\kh n m tk' sl r
structure mL (n0 m0:Nat) (st st':St):Prop where
 all:∃ kept dropped new b0 r,m0<=kept.length/\n0<=b0.length/\st.tk=kept ++ dropped/\st'.tk=kept ++ new/\(∀ q∈new,TkE.new q=true)/\st.bx=b0 ++ r/\WeLL b0.length kept.length st'.tk b0 st'.bx/\kh b0.length kept.length st'.tk st.sl st'.sl
theorem WeLL.length {n m:Nat} {tk':List TkE}:∀ {l l':List (List DV)},WeLL n m tk' l l' -> l'.length=l.length
 | [],l',h=>by simp only [WeLL] at h;subst h;rfl
 | x :: r,l',h=>by
  simp only [WeLL] at h;obtain ⟨x',r',rfl,_,h2⟩:=h;simp [WeLL.length h2]
theorem WeLL.get {n m:Nat} {tk':List TkE}:∀ {l l':List (List DV)},WeLL n m tk' l l' -> ∀ (i:Nat) cs',l'[i]? = some cs' -> ∃ cs,l[i]? = some cs/\WeL n m tk' cs cs'
 | [],l',h,i,cs',hi=>by simp only [WeLL] at h;subst h;simp at hi
 | x :: r,l',h,i,cs',hi=>by
  simp only [WeLL] at h;obtain ⟨x',r',rfl,h1,h2⟩:=h
  cases i with
  | zero=>simp only [List.getElem?_cons_zero,oI] at hi;subst hi;exact ⟨x,rfl,h1⟩
  | succ i=>simp only [List.getElem?_cons_succ] at hi ⊢;exact WeLL.get h2 i cs' hi
theorem qL {n m:Nat} {tk':List TkE} {sl:List (Nat × Sl)}:∀ {l:List (Nat × Sl)},kh n m tk' sl l->∀ i x',get l i=some x' -> ∃ x,get sl i=some ⟨x'.gs,x⟩/\We n m tk' x x'.s
 | [],_,i,x',hx=>by cases hx
 | (k,y) :: r,h,i,x',hx=>by
  simp only [ct] at hx;split at hx
  ·rename_i sJ;subst sJ;simp only [oI] at hx;subst hx;exact h.1
  ·exact qL h.2 i x' hx
section
variable {X:Ctx} {E:En} {st st':St} {a:Act} {w:World} {k:List It}
def En.wk (E:En) (n:Nat) (kept new:List TkE):En:=⟨E.c,E.β.take n,kept ++ new,E.τ.take kept.length ++ List.replicate new.length (.slice none 0 0)⟩
theorem xg {n:Nat} {kept dropped new:List TkE} (ht:E.tk=kept ++ dropped) (hl:E.τ.length=E.tk.length) (cG:∀ q∈new,TkE.new q=true) {x x':DV} {v:Value} (hx:We n kept.length (kept ++ new) x x') (hv:Rv E x v):Rv (E.wk n kept new) x' v:=by
 have xi:kept.length<=E.τ.length:=by rw [hl,ht];simp
 have first:∀ {x:DV},clB n kept.length x=true->Rv E x v->Rv (E.wk n kept new) x v:=by
  intro x hc hv;refine Rv.mono (E:=E.cut n kept.length) ⟨fun _ _ h=>h,fun _ _ h=>h,fun k q hq=>?_⟩ (Rv.cut hv hc);have j3:(E.tk.take kept.length)[k]? = some q:=hq;rw [bM] at j3;split at j3
  ·rename_i hk;refine ⟨q,?_,.inl ⟨rfl,?_⟩⟩
   ·show (kept ++ new)[k]? = _
    grind
   ·show (E.τ.take kept.length ++ _)[k]? = (E.τ.take kept.length)[k]?
    grind
  ·cases j3
 rcases hx with ⟨rfl,hc⟩ | ⟨rfl,e,k,q,rfl,hk,hq⟩ | ⟨rfl,e,rfl⟩ | ⟨e,es,tk,rfl,rfl⟩ | ⟨e,es,wx,tk,rfl,rfl,he⟩ | ⟨e,es,wx,k,rfl,rfl,hk,he⟩
 ·exact first hc hv
 ·have:=bn hv;subst this;unfold Rv;refine ⟨none,0,0,rfl,⟨rfl,zLeR _⟩,fun hn=>(hn rfl).elim,fun k' fl=>?_⟩;cases fl;have E9:(kept ++ new)[k]? = some q:=hq;rw [List.getElem?_append_right hk] at E9;have wU:=TkE.EG (cG q (mG E9));refine ⟨q,hq,by omega,fun _=>?_⟩;have ap:=(gS E9).1;show (E.τ.take kept.length ++ List.replicate new.length _)[k]? = _
  grind
 ·have:=bn hv;subst this;unfold Rv;exact ⟨none,0,0,rfl,⟨rfl,zLeR _⟩,fun hn=>(hn rfl).elim,fun k hk=>by cases hk⟩
 ·unfold Rv at hv ⊢;obtain ⟨b,n,cap,h1,h2,h3,_⟩:=hv;exact ⟨b,n,cap,h1,h2,h3,fun k hk=>by cases hk⟩
 ·have hv:=Kb he hv;unfold Rv at hv ⊢;obtain ⟨b,n,cap,h1,h2,h3,_⟩:=hv;exact ⟨b,n,cap,h1,h2,h3,fun k hk=>by cases hk⟩
 ·exact first (by simp only [clB];exact Nat.ble_eq_true_of_le hk) (Kb he hv)
theorem nZ {n:Nat} {kept dropped new:List TkE} (ht:E.tk=kept ++ dropped) (hl:E.τ.length=E.tk.length) (cG:∀ q∈new,TkE.new q=true):∀ {l l':List DV} {vs:List Value},WeL n kept.length (kept ++ new) l l' -> RvL E l vs->RvL (E.wk n kept new) l' vs
 | [],l',vs,h,hv=>by grind [WeL,RvL]
 | x :: r,l',vs,h,hv=>by
  simp only [WeL] at h;obtain ⟨x',r',rfl,h1,h2⟩:=h;simp only [RvL] at hv ⊢;obtain ⟨v,s,h3,h4,h5⟩:=hv;exact ⟨v,s,h3,xg ht hl cG h1 h4,nZ ht hl cG h2 h5⟩
theorem tE (h:Rel X E st a w) {kept dropped new:List TkE} {b0 r:List (List DV)} (gG:X.m0<=kept.length/\X.n0<=b0.length/\st.tk=kept ++ dropped/\st'.tk=kept ++ new/\(∀ q∈new,TkE.new q=true)/\st.bx=b0 ++ r/\WeLL b0.length kept.length st'.tk b0 st'.bx/\kh b0.length kept.length st'.tk st.sl st'.sl):Rel X (E.wk b0.length kept new) st' a w:=by
 obtain ⟨mw,ti,ht,py,cG,hb,kT,nV⟩:=gG;rw [py] at kT nV;have Sh:E.tk=kept ++ dropped:=by rw [h.tk,ht]
 have hbl:=kT.length;have xi:kept.length<=E.τ.length:=by rw [h.env.tl,Sh];simp
 have gk:b0.length<=E.β.length:=by rw [h.env.len,hb];simp
 have hτ:∀ (k:Nat) y,(E.τ.take kept.length ++ List.replicate new.length (Value.slice none 0 0))[k]? = some y->(k < kept.length/\E.τ[k]? = some y)∨(kept.length<=k/\y = .slice none 0 0):=fun k y hy=>by grind
 exact {
  env:={
   len:=by simp only [En.wk,eP];omega
   tl:=by simp only [En.wk,List.length_append,eP,List.length_replicate];omega
   dn:=fun i cs' hi=>by
    obtain ⟨cs,cm,Tj⟩:=kT.get i cs' hi;have ap:=(gS cm).1;obtain ⟨b,ty,arr,hbb,VV,hc⟩:=h.env.dn i cs (by rw [hb,dF ap];exact cm);exact ⟨b,ty,arr,by simp only [En.wk];rw [bM,zIfP ap];exact hbb,VV,nZ Sh h.env.tl cG Tj hc.1,hc.2⟩
   inj:=h.env.inj.sublist (List.take_sublist _ _)
   sub:=h.env.sub
   pc:=fun x v hx hm=>h.env.pc x v hx (List.mem_of_mem_take hm)
   b9:=fun k q y hq hy=>by
    rcases hτ k y hy with ⟨hk,fm⟩ | ⟨hk,rfl⟩
    ·have j3:(kept ++ new)[k]? = some q:=hq;rw [dF hk] at j3;rcases h.env.b9 k q y (by rw [Sh,dF hk];exact j3) fm with h1 | ⟨g,cap,cur,rfl,h1,h2,h3,h4,h5,h6⟩
     ·exact .inl h1
     ·exact .inr ⟨g,cap,cur,rfl,h1,h2,h3,h4,fun hm=>h5 (List.mem_of_mem_take hm),h6⟩
    ·have j3:(kept ++ new)[k]? = some q:=hq;rw [List.getElem?_append_right hk] at j3;exact .inl ⟨rfl,TkE.EG (cG q (mG j3)),TkE.J4 (cG q (mG j3))⟩
   gp:=fun k k' y y' g CA hy fm hg sK=>by
    rcases hτ k y hy with ⟨_,sL⟩ | ⟨_,rfl⟩
    ·rcases hτ k' y' fm with ⟨_,jB⟩ | ⟨_,rfl⟩
     ·exact h.env.gp k k' y y' g CA sL jB hg sK
     ·simp [Value.ownBlock] at sK
    ·simp [Value.ownBlock] at hg }
  tk:=by simp only [En.wk];exact py.symm
  sz:=h.sz
  tm:=fun i x' tq=>by
   obtain ⟨x,hx,Tj⟩:=qL nV i x' tq;have:=h.tm i _ hx;refine ⟨fun hh=>?_,this.2⟩;obtain ⟨v,h1,h2⟩:=this.1 hh;exact ⟨v,h1,xg Sh h.env.tl cG Tj h2⟩
  df:=h.df
  nw:={
   c:=h.nw.c
   cn:=h.nw.cn
   β:=by
    obtain ⟨r2,hr,hl⟩:=h.nw.β;refine ⟨r2.take (b0.length - X.n0),?_,fun b hb=>hl b (List.mem_of_mem_take hb)⟩;simp only [En.wk];rw [hr,List.take_append,List.take_of_length_le (by rw [X.ti];omega),X.ti]
   tk:=fun j q0 y0 wU zo=>by
    obtain ⟨q',y',h1,h2,h3⟩:=h.nw.tk j q0 y0 wU zo;have hj:j < X.m0:=by rw [<- X.mw];exact (gS wU).1
    grind [En.wk]
   tn:=fun j y g hj hy hg=>by
    rcases hτ j y hy with ⟨_,sL⟩ | ⟨_,rfl⟩
    ·exact h.nw.tn j y g hj sL hg
    ·simp [Value.ownBlock] at hg
   l0:=h.nw.l0 }
  fr:=h.fr
  sh:=h.sh
  bt:=h.bt.sub _ }
theorem qM (h:Rel X E st a w) (hw:mL X.n0 X.m0 st st'):∃ E',Rel X E' st' a w:=by
 obtain ⟨_,_,_,_,_,gG⟩:=hw.all;exact ⟨_,tE h gG⟩
theorem least {p:Nat->Prop} (h:∃ n,p n):∃ n,p n/\∀ m,p m->n<=m:=by
 obtain ⟨n,hn⟩:=h
 induction n using Nat.strongRecOn with
 | _ n ih=>grind
theorem aW {c:Code} (I:Nat->St->Prop) (j0:Nat) (iB:St) (hw:mL X.n0 X.m0 st iB) (h0:I j0 iB)
  (hr:∀ j s,I j s->go X 4000 (.code c :: .y8 (fun s'=>∃ xj,mL X.n0 X.m0 s' xj /\ ∃ j',j' < j/\I j' xj) :: k) s):oU X c k st:=by
 intro E a w h;obtain ⟨E0,hr0⟩:=qM h hw
 classical
 let Inv:Act->World->Prop:=fun a w=>∃ j s E,Rel X E s a w/\I j s
 let μ:Act->World->Nat:=fun a w=>if hI:Inv a w then Classical.choose (least hI) else 0
 refine wp_loop Inv μ ⟨j0,iB,E0,hr0,h0⟩ ?_;intro a1 w1 hI;have tF:=(Classical.choose_spec (least hI)).1;obtain ⟨s,E1,bD,Tk⟩:=tF;have hs:=go_sound 4000 _ _ (hr _ s Tk) E1 a1 w1 bD;rw [c7] at hs;refine wp_mono hs ?_;intro e a2 w2 hq
 cases e with
 | normal=>
  obtain ⟨s',E2,xk,xj,Iq,j',gN,OA⟩:=hq;obtain ⟨E3,xl⟩:=qM xk Iq;have LU:Inv a2 w2:=⟨j',xj,E3,xl,OA⟩;refine ⟨LU,?_⟩;simp only [μ,dif_pos hI,dif_pos LU];exact Nat.lt_of_le_of_lt ((Classical.choose_spec (least LU)).2 j' ⟨xj,E3,xl,OA⟩) gN
 | exit id=>exact hq
 | goto l=>exact hq
 | ret=>exact hq
 | panic c=>exact hq
 | outgrown=>exact hq
theorem au {n m:Nat} {tk':List TkE} {x:DV} (h:clB n m x=true):We n m tk' x x:=.inl ⟨rfl,h⟩
theorem aw {n m:Nat} {tk':List TkE} {kd:IntKind} {x y:Int} (h:x=y):We n m tk' (.v (.int kd x)) (.v (.int kd y)):=.inl ⟨by rw [h],rfl⟩
theorem cT {n m:Nat} {tk':List TkE} {e k:Nat} {q:TkE} (h1:m<=k) (h2:tk'[k]? = some q):We n m tk' (.v (.slice none 0 0)) (.sl e [] (some k)):=.inr (.inl ⟨rfl,e,k,q,rfl,h1,h2⟩)
theorem bL {n m:Nat} {tk':List TkE} {e k:Nat} {es wx:List (List DV)} (h:es=wx) (hk:Nat.blt k m=true):We n m tk' (.sl e es (some k)) (.sl e wx (some k)):=.inl ⟨by rw [h],hk⟩
theorem ax {p:Prop} (h:p:=by repeat' (first | exact rfl | exact trivial | exact Or.inr (Or.inl ⟨_,rfl⟩) | exact Or.inr ⟨_,rfl⟩ | exact Or.inl ⟨rfl,rfl⟩ | exact Or.inl rfl | refine Or.inr ⟨_,_,rfl,Nat.zero_le _,rfl,?_⟩ | refine ⟨_,_,rfl,?_,?_⟩ | refine ⟨_,rfl,?_⟩ | refine Or.inr (Or.inr (Or.inr ⟨_,_,rfl,?_⟩)) | exact Or.inl rfl | refine Or.inr ?_)):p:=h
theorem wA {p:Prop} (h:p:=by repeat' (first | exact rfl | exact au rfl | refine ⟨_,_,rfl,?_,?_⟩)):p:=h
theorem wB {p:Prop} (h:p:=by repeat' (first | exact trivial | exact au rfl | refine ⟨⟨_,rfl,?_⟩,?_⟩)):p:=h
theorem Ir {n0 m0:Nat} {st st':St} (h1:∃ r,st.bx=st'.bx ++ r) (h2:WeLL st'.bx.length st'.tk.length st'.tk st'.bx st'.bx) (h3:st.tk=st'.tk) (h4:Nat.ble n0 st'.bx.length=true) (h5:Nat.ble m0 st'.tk.length=true)
  (h:kh st'.bx.length st'.tk.length st'.tk st.sl st'.sl):mL n0 m0 st st':=by
 obtain ⟨r,hr⟩:=h1;exact ⟨st'.tk,[],[],st'.bx,r,by simpa using h5,by simpa using h4,by simp [h3],by simp,by simp,hr,h2,h⟩
theorem LV {n0 m0:Nat} {st st':St} (n:Nat) (hn:Nat.ble n st.bx.length=true) (h2:WeLL n st'.tk.length st'.tk (st.bx.take n) st'.bx) (h3:st.tk=st'.tk) (h4:Nat.ble n0 n=true) (h5:Nat.ble m0 st'.tk.length=true)
  (h:kh n st'.tk.length st'.tk st.sl st'.sl):mL n0 m0 st st':=by
 have hl:(st.bx.take n).length=n:=by simp_all
 exact ⟨st'.tk,[],[],st.bx.take n,st.bx.drop n,by simpa using h5,by rw [hl];simpa using h4,by simp [h3],by simp,by simp,(List.take_append_drop n st.bx).symm,by rw [hl];exact h2,by rw [hl];exact h⟩
theorem dG {n0 m0:Nat} {st st':St} (q:TkE) (hq:q.new=true) (h1:∃ r,st.bx=st'.bx ++ r) (h3:st.tk ++ [q]=st'.tk) (h2:WeLL st'.bx.length st.tk.length st'.tk st'.bx st'.bx) (h4:Nat.ble n0 st'.bx.length=true) (h5:Nat.ble m0 st.tk.length=true)
  (h:kh st'.bx.length st.tk.length st'.tk st.sl st'.sl):mL n0 m0 st st':=by
 obtain ⟨r,hr⟩:=h1;exact ⟨st.tk,[],[q],st'.bx,r,by simpa using h5,by simpa using h4,by simp,h3.symm,by simpa using hq,hr,h2,h⟩
end
end Dv
end Go.Proofs.YtfdedoiiahbnnaaGreat
namespace Go.Proofs.YtfdedoiiahbnnaaGreat
namespace Dv
theorem aL {p : Prop} (h : p := by repeat' (first | exact rfl | exact trivial | exact Or.inr (Or.inl ⟨_,rfl⟩) | exact Or.inr ⟨_,rfl⟩ | exact Or.inl ⟨rfl,rfl⟩ | exact Or.inl rfl | refine Or.inr ⟨_,_,rfl,Nat.zero_le _,rfl,?_⟩ | refine ⟨_,_,rfl,?_,?_⟩ | refine ⟨_,rfl,?_⟩ | exact ⟨nL rfl,rfl⟩ | refine Or.inr (Or.inr (Or.inr ⟨_,_,rfl,?_⟩)) | exact Or.inl rfl | refine Or.inr ?_)) : p := h
theorem aI {p : Prop} {a b : Int} (q : a=b) (h : a=b -> p := by intro q;repeat' (first | exact rfl | exact trivial | exact Or.inr (Or.inl ⟨_,rfl⟩) | exact Or.inr ⟨_,rfl⟩ | exact Or.inl ⟨rfl,rfl⟩ | exact Or.inl rfl | refine Or.inr ⟨_,_,rfl,Nat.zero_le _,rfl,?_⟩ | refine ⟨_,_,rfl,?_,?_⟩ | refine ⟨_,rfl,?_⟩ | exact congrArg (fun z=>DV.v (.int .i64 z)) q | refine Or.inr (Or.inr (Or.inr ⟨_,_,rfl,?_⟩)) | exact Or.inl rfl | refine Or.inr ?_)) : p := h q
theorem aB {p : Prop} {a b : Bool} (q : a=b) (h : a=b -> p := by intro q;repeat' (first | exact rfl | exact trivial | exact Or.inr (Or.inl ⟨_,rfl⟩) | exact Or.inr ⟨_,rfl⟩ | exact Or.inl ⟨rfl,rfl⟩ | exact Or.inl rfl | refine Or.inr ⟨_,_,rfl,Nat.zero_le _,rfl,?_⟩ | refine ⟨_,_,rfl,?_,?_⟩ | refine ⟨_,rfl,?_⟩ | exact congrArg (fun b=>DV.v (.bool b)) q | refine Or.inr (Or.inr (Or.inr ⟨_,_,rfl,?_⟩)) | exact Or.inl rfl | refine Or.inr ?_)) : p := h q
theorem wNA {p : Prop} {a b : Nat} (q : a < b) (hn : b <= 4611686018427387904 := by omega) (h : a < b -> b <= 4611686018427387904 -> p := by intro q hn;repeat' (first | exact rfl | exact au rfl | exact aw (aT q hn) | refine ⟨_,_,rfl,?_,?_⟩)) : p := h q hn
theorem wNB {p : Prop} {a b : Nat} (q : a < b) (hn : b <= 4611686018427387904 := by omega) (h : a < b -> b <= 4611686018427387904 -> p := by intro q hn;repeat' (first | exact trivial | exact au rfl | exact aw (aT q hn) | refine ⟨⟨_,rfl,?_⟩,?_⟩)) : p := h q hn
theorem wSA {p r : Prop} {a b : Nat} (q : a < b) (s : r) (hn : b <= 4611686018427387904 := by omega) (h : a < b -> b <= 4611686018427387904 -> r -> p := by intro q hn s;repeat' (first | exact rfl | exact au rfl | exact aw (aT q hn) | exact bL s rfl | refine ⟨_,_,rfl,?_,?_⟩)) : p := h q hn s
theorem wSB {p r : Prop} {a b : Nat} (q : a < b) (s : r) (hn : b <= 4611686018427387904 := by omega) (h : a < b -> b <= 4611686018427387904 -> r -> p := by intro q hn s;repeat' (first | exact trivial | exact au rfl | exact aw (aT q hn) | exact bL s rfl | refine ⟨⟨_,rfl,?_⟩,?_⟩)) : p := h q hn s
theorem wTB {p : Prop} (h : p := by repeat' (first | exact trivial | exact au rfl | exact cT (Nat.le_refl _) rfl | refine ⟨⟨_,rfl,?_⟩,?_⟩)) : p := h
theorem wTA {p : Prop} (h : p := by repeat' (first | exact rfl | exact au rfl | exact cT (Nat.le_refl _) rfl | refine ⟨_,_,rfl,?_,?_⟩)) : p := h
theorem wRB {p : Prop} (h : p := by repeat' (first | exact trivial | exact au rfl | exact aw rfl | refine ⟨⟨_,rfl,?_⟩,?_⟩)) : p := h
theorem wRA {p : Prop} (h : p := by repeat' (first | exact rfl | exact au rfl | exact aw rfl | refine ⟨_,_,rfl,?_,?_⟩)) : p := h
theorem zB {p:Prop}   (h:p:=by repeat' (first | exact rfl | exact au rfl | exact bT rfl | exact bK rfl | exact n4 _ | exact cT (Nat.le_refl _) rfl | exact cT (Nat.le_succ _) rfl | refine ⟨_,_,rfl,?_,?_⟩)):p:=h 
theorem ve {p:Prop} {P0:Prop} (x0:P0) (h:P0->p:=by intro x0;repeat' (first | exact rfl | exact au rfl | exact aw x0 | exact bT x0 | exact bL x0 rfl | exact cz x0 | exact bK x0 | exact aw (congrArg Nat.cast x0) | exact au x0 | exact dW x0 | exact x0 | exact bT rfl | exact bK rfl | exact n4 _ | exact cT (Nat.le_refl _) rfl | exact cT (Nat.le_succ _) rfl | refine ⟨_,_,rfl,?_,?_⟩)):p:=h x0
theorem zC {p:Prop} {P0:Prop} {P1:Prop} (x0:P0) (x1:P1) (h:P0->P1->p:=by intro x0 x1;repeat' (first | exact rfl | exact au rfl | exact aw x0 | exact bT x0 | exact bL x0 rfl | exact cz x0 | exact bK x0 | exact aw (congrArg Nat.cast x0) | exact au x0 | exact dW x0 | exact x0 | exact aw x1 | exact bT x1 | exact bL x1 rfl | exact cz x1 | exact bK x1 | exact aw (congrArg Nat.cast x1) | exact au x1 | exact dW x1 | exact x1 | exact bT rfl | exact bK rfl | exact n4 _ | exact cT (Nat.le_refl _) rfl | exact cT (Nat.le_succ _) rfl | refine ⟨_,_,rfl,?_,?_⟩)):p:=h x0 x1
theorem V4 {p:Prop} {P0:Prop} {P1:Prop} {P2:Prop} (x0:P0) (x1:P1) (x2:P2) (h:P0->P1->P2->p:=by intro x0 x1 x2;repeat' (first | exact rfl | exact au rfl | exact aw x0 | exact bT x0 | exact bL x0 rfl | exact cz x0 | exact bK x0 | exact aw (congrArg Nat.cast x0) | exact au x0 | exact dW x0 | exact x0 | exact aw x1 | exact bT x1 | exact bL x1 rfl | exact cz x1 | exact bK x1 | exact aw (congrArg Nat.cast x1) | exact au x1 | exact dW x1 | exact x1 | exact aw x2 | exact bT x2 | exact bL x2 rfl | exact cz x2 | exact bK x2 | exact aw (congrArg Nat.cast x2) | exact au x2 | exact dW x2 | exact x2 | exact bT rfl | exact bK rfl | exact n4 _ | exact cT (Nat.le_refl _) rfl | exact cT (Nat.le_succ _) rfl | refine ⟨_,_,rfl,?_,?_⟩)):p:=h x0 x1 x2
theorem pE {p:Prop}   (h:p:=by repeat' (first | exact trivial | exact au rfl | exact cT (Nat.le_refl _) rfl | exact cT (Nat.le_succ _) rfl | exact aw rfl | refine ⟨⟨_,rfl,?_⟩,?_⟩)):p:=h 
theorem c8 {p:Prop} {P0:Prop} (x0:P0) (h:P0->p:=by intro x0;repeat' (first | exact trivial | exact au rfl | exact aw x0 | exact bT x0 | exact bL x0 rfl | exact cz x0 | exact bK x0 | exact aw (congrArg Nat.cast x0) | exact au x0 | exact dW x0 | exact x0 | exact cT (Nat.le_refl _) rfl | exact cT (Nat.le_succ _) rfl | exact aw rfl | refine ⟨⟨_,rfl,?_⟩,?_⟩)):p:=h x0
theorem hY {p:Prop} {P0:Prop} {P1:Prop} (x0:P0) (x1:P1) (h:P0->P1->p:=by intro x0 x1;repeat' (first | exact trivial | exact au rfl | exact aw x0 | exact bT x0 | exact bL x0 rfl | exact cz x0 | exact bK x0 | exact aw (congrArg Nat.cast x0) | exact au x0 | exact dW x0 | exact x0 | exact aw x1 | exact bT x1 | exact bL x1 rfl | exact cz x1 | exact bK x1 | exact aw (congrArg Nat.cast x1) | exact au x1 | exact dW x1 | exact x1 | exact cT (Nat.le_refl _) rfl | exact cT (Nat.le_succ _) rfl | exact aw rfl | refine ⟨⟨_,rfl,?_⟩,?_⟩)):p:=h x0 x1
theorem LW {p:Prop} {P0:Prop} {P1:Prop} {P2:Prop} (x0:P0) (x1:P1) (x2:P2) (h:P0->P1->P2->p:=by intro x0 x1 x2;repeat' (first | exact trivial | exact au rfl | exact aw x0 | exact bT x0 | exact bL x0 rfl | exact cz x0 | exact bK x0 | exact aw (congrArg Nat.cast x0) | exact au x0 | exact dW x0 | exact x0 | exact aw x1 | exact bT x1 | exact bL x1 rfl | exact cz x1 | exact bK x1 | exact aw (congrArg Nat.cast x1) | exact au x1 | exact dW x1 | exact x1 | exact aw x2 | exact bT x2 | exact bL x2 rfl | exact cz x2 | exact bK x2 | exact aw (congrArg Nat.cast x2) | exact au x2 | exact dW x2 | exact x2 | exact cT (Nat.le_refl _) rfl | exact cT (Nat.le_succ _) rfl | exact aw rfl | refine ⟨⟨_,rfl,?_⟩,?_⟩)):p:=h x0 x1 x2
theorem OB {p:Prop} {P0:Prop} {P1:Prop} {P2:Prop} {P3:Prop} (x0:P0) (x1:P1) (x2:P2) (x3:P3) (h:P0->P1->P2->P3->p:=by intro x0 x1 x2 x3;repeat' (first | exact trivial | exact au rfl | exact aw x0 | exact bT x0 | exact bL x0 rfl | exact cz x0 | exact bK x0 | exact aw (congrArg Nat.cast x0) | exact au x0 | exact dW x0 | exact x0 | exact aw x1 | exact bT x1 | exact bL x1 rfl | exact cz x1 | exact bK x1 | exact aw (congrArg Nat.cast x1) | exact au x1 | exact dW x1 | exact x1 | exact aw x2 | exact bT x2 | exact bL x2 rfl | exact cz x2 | exact bK x2 | exact aw (congrArg Nat.cast x2) | exact au x2 | exact dW x2 | exact x2 | exact aw x3 | exact bT x3 | exact bL x3 rfl | exact cz x3 | exact bK x3 | exact aw (congrArg Nat.cast x3) | exact au x3 | exact dW x3 | exact x3 | exact cT (Nat.le_refl _) rfl | exact cT (Nat.le_succ _) rfl | exact aw rfl | refine ⟨⟨_,rfl,?_⟩,?_⟩)):p:=h x0 x1 x2 x3
theorem aO {p:Prop}   (h:p:=by repeat' (first | exact rfl | exact trivial | exact Or.inr (Or.inl ⟨_,rfl⟩) | exact Or.inr ⟨_,rfl⟩ | exact Or.inl ⟨rfl,rfl⟩ | exact Or.inl rfl | refine Or.inr ⟨_,_,rfl,Nat.zero_le _,rfl,?_⟩ | refine ⟨_,_,rfl,?_,?_⟩ | refine ⟨_,rfl,?_⟩ | exact ⟨nL rfl,rfl⟩ | refine Or.inr (Or.inr (Or.inr ⟨_,_,rfl,?_⟩)) | exact Or.inl rfl | refine Or.inr ?_)):p:=h 
theorem pW {p:Prop} {P0:Prop} (x0:P0) (h:P0->p:=by intro x0;repeat' (first | exact rfl | exact trivial | exact Or.inr (Or.inl ⟨_,rfl⟩) | exact Or.inr ⟨_,rfl⟩ | exact Or.inl ⟨rfl,rfl⟩ | exact Or.inl rfl | refine Or.inr ⟨_,_,rfl,Nat.zero_le _,rfl,?_⟩ | refine ⟨_,_,rfl,?_,?_⟩ | refine ⟨_,rfl,?_⟩ | exact congrArg (fun z=>DV.v (.int .i64 z)) x0 | exact congrArg (fun z=>DV.v (.int .i64 z)) (congrArg Nat.cast x0) | exact congrArg (fun b=>DV.v (.bool b)) x0 | exact x0 | exact Or.inr (Or.inl ⟨_,x0⟩) | apply x0 | exact ⟨nL rfl,rfl⟩ | refine Or.inr (Or.inr (Or.inr ⟨_,_,rfl,?_⟩)) | exact Or.inl rfl | refine Or.inr ?_)):p:=h x0
theorem V5 {p:Prop} {P0:Prop} {P1:Prop} (x0:P0) (x1:P1) (h:P0->P1->p:=by intro x0 x1;repeat' (first | exact rfl | exact trivial | exact Or.inr (Or.inl ⟨_,rfl⟩) | exact Or.inr ⟨_,rfl⟩ | exact Or.inl ⟨rfl,rfl⟩ | exact Or.inl rfl | refine Or.inr ⟨_,_,rfl,Nat.zero_le _,rfl,?_⟩ | refine ⟨_,_,rfl,?_,?_⟩ | refine ⟨_,rfl,?_⟩ | exact congrArg (fun z=>DV.v (.int .i64 z)) x0 | exact congrArg (fun z=>DV.v (.int .i64 z)) (congrArg Nat.cast x0) | exact congrArg (fun b=>DV.v (.bool b)) x0 | exact x0 | exact Or.inr (Or.inl ⟨_,x0⟩) | apply x0 | exact congrArg (fun z=>DV.v (.int .i64 z)) x1 | exact congrArg (fun z=>DV.v (.int .i64 z)) (congrArg Nat.cast x1) | exact congrArg (fun b=>DV.v (.bool b)) x1 | exact x1 | exact Or.inr (Or.inl ⟨_,x1⟩) | apply x1 | exact ⟨nL rfl,rfl⟩ | refine Or.inr (Or.inr (Or.inr ⟨_,_,rfl,?_⟩)) | exact Or.inl rfl | refine Or.inr ?_)):p:=h x0 x1
theorem iX {α:Type _} {P:α->Prop} {cs:α} {i:Int} {l:List α} (g:l[i.toNat]? = some cs) (k:P cs) (h:0<=i:=by omega):∃ cs,(0<=i/\l[i.toNat]? = some cs)/\P cs:=⟨cs,⟨h,g⟩,k⟩
theorem lI {X:Ctx} {st:St} {k:List It} {c:Code} (I:Nat->St->Prop) {j0:Nat} {iB:St} (h0:I j0 iB) (hw:mL X.n0 X.m0 st iB)
 (hr:∀ j s,I j s->go X 4000 (.code c :: .y8 (fun s'=>∃ xj,mL X.n0 X.m0 s' xj/\∃ j',j' < j/\I j' xj) :: k) s):oU X c k st:=aW I j0 iB hw h0 hr
theorem lJ {X:Ctx} {st:St} {k:List It} {c:Code} (S:Nat->St) (n:Nat) (hw:mL X.n0 X.m0 st (S 0))
 (hr:∀ e,e<=n->go X 4000 (.code c :: .y8 (fun s'=>∃ xj,mL X.n0 X.m0 s' xj/\∃ j',j' < n - e/\∃ e:Nat,xj=S e/\e<=n/\j'=n - e) :: k) (S e)):oU X c k st:=aW (fun j st=>∃ e:Nat,st=S e/\e<=n/\j=n - e) (n - 0) (S 0) hw ⟨0,rfl,Nat.zero_le _,rfl⟩ fun j s h=>by
 obtain ⟨e,rfl,he,rfl⟩:=h;exact hr e he
theorem cj {a b : Bool} (h : a = b) : DV.v (.bool a) = .v (.bool b) := h ▸ rfl
theorem qN {a b : Int} (h : a = b) : DV.v (.int .i64 a) = .v (.int .i64 b) := h ▸ rfl
theorem bc {n0 m0 : Nat} {st st' : St} (h : kh st'.bx.length st'.tk.length st'.tk st.sl st'.sl) (h1 : ∃ r,st.bx = st'.bx ++ r := by exact ⟨_,rfl⟩) (h2 : WeLL st'.bx.length st'.tk.length st'.tk st'.bx st'.bx := by exact wA) (h3 : st.tk = st'.tk := by exact rfl) (h4 : Nat.ble n0 st'.bx.length = true := by exact rfl) (h5 : Nat.ble m0 st'.tk.length = true := by exact rfl) : mL n0 m0 st st' := Ir h1 h2 h3 h4 h5 h
theorem ep {n0 m0 : Nat} {st st' : St} (n : Nat) (h2 : WeLL n st'.tk.length st'.tk (st.bx.take n) st'.bx) (h : kh n st'.tk.length st'.tk st.sl st'.sl) (hn : Nat.ble n st.bx.length = true := by exact rfl) (h3 : st.tk = st'.tk := by exact rfl) (h4 : Nat.ble n0 n = true := by exact rfl) (h5 : Nat.ble m0 st'.tk.length = true := by exact rfl) : mL n0 m0 st st' := LV n hn h2 h3 h4 h5 h
abbrev aq (k : Nat) (n : Int) : Nat × Sl := (k,⟨[],.v (.int .i64 n)⟩)
abbrev xm (k : Nat) (b : Bool) : Nat × Sl := (k,⟨[],.v (.bool b)⟩)
abbrev aF (k i : Nat) : Nat × Sl := (k,⟨[],.loc i 0⟩)
abbrev qO (k : Nat) (c : List DV) : Nat × Sl := (k,⟨[],.pt c 0⟩)
abbrev aS (k e : Nat) (l : List (List DV)) : Nat × Sl := (k,⟨[],.sl e l none⟩)
end Dv
end Go.Proofs.YtfdedoiiahbnnaaGreat
namespace Go.Proofs.YtfdedoiiahbnnaaGreat
namespace Dv
open Go
section
variable {P:Program} {ops:Array Oper} {C:World->Prop} {Q:Act->World->Prop} {W:Nat->Bool} {π:Nat->Nat}
theorem OC {o:Oper} {a:Act} {w:World} {K:Act->World->Prop} (h:wq P o a w K):∃ v w',K (a.put o.dst v) w':=by
 unfold wq at h;split at h
 ·exact ⟨_,_,h⟩
 ·exact ⟨_,_,h⟩
 ·obtain ⟨e,w',fr,⟨v,_,hv⟩,_⟩:=h [];exact ⟨v,w',hv⟩
 ·exact h.elim
theorem LX {x y:Oper} {v:Value} (NI:x.apart ops y=true) (hs:∀ cs b,y.op ≠ .select cs b) {a:Act} {w:World} {K:Act->World->Prop} :
  wq P y (a.put x.dst v) w K↔wq P y a w (fun a' w'=>K (a'.put x.dst v) w'):=by
 obtain ⟨h1,h2,h3⟩:=Oper.apart_spec NI;unfold wq;rw [execOp_put y hs a x.dst v h1];have hc:∀ u,(a.put x.dst v).put y.dst u=(a.put y.dst u).put x.dst v:=fun u=>Act.put_comm a v u h2
 cases (execOp a.eval y).run P w with
 | halt h w'=>rfl
 | ok n w'=>cases n<;>simp [hc]
def Yl (P:Program) (ops:Array Oper) (C:World->Prop) (o:Oper) (v:Value) (a:Act):Prop:=
 (Region.wanted o (yielded ops a.tmps)=true/\∀ w,(nQ o.op=true->C w)->(execOp a.eval o).run P w = .ok (.value v) w) ∨
 (Region.wanted o (yielded ops a.tmps)=false/\v=undef)
theorem Yl.same {x y:Oper} {v u:Value} (NI:x.apart ops y=true) (hs:∀ cs b,y.op ≠ .select cs b) {a:Act}:Yl P ops C y v (a.put x.dst u)↔Yl P ops C y v a:=by
 obtain ⟨h1,h2,h3⟩:=Oper.apart_spec NI;unfold Yl;rw [execOp_put y hs a x.dst u h1,wanted_put y a x.dst u h1]
def dD (P:Program) (ops:Array Oper) (o:Oper) (a:Act) (w:World) (K:Act->World->Prop):Prop:=
 if Region.wanted o (yielded ops a.tmps)=true then wq P o a w K else K (a.put o.dst undef) w
theorem hZ {o:Oper} {a:Act} {w:World} {K K':Act->World->Prop} (hk:∀ a w,K a w->K' a w) (h:dD P ops o a w K):dD P ops o a w K':=by grind [dD,jD]
theorem tG {x y:Oper} {v:Value} (NI:x.apart ops y=true) (hs:∀ cs b,y.op ≠ .select cs b) {a:Act} {w:World} {K:Act->World->Prop} :
  dD P ops y (a.put x.dst v) w K↔dD P ops y a w (fun a' w'=>K (a'.put x.dst v) w'):=by
 obtain ⟨h1,h2,h3⟩:=Oper.apart_spec NI;unfold dD;rw [wanted_put y a x.dst v h1];split
 ·exact LX NI hs
 ·rw [Act.put_comm a v undef h2]
theorem Fa {o:Oper} {a:Act} {w:World} {K:Act->World->Prop} (h:dD P ops o a w K):∃ v w',K (a.put o.dst v) w':=by grind [dD,OC]
theorem qP {o:Oper} {a:Act} {w:World} {K:Act->World->Prop} (h:dD P ops o a w K):dD P ops o a w (fun a' w'=>K a' w' /\ ∃ u,a'=a.put o.dst u):=by grind [dD,wq]
theorem ki {o:Oper} {a:Act} {w:World} {v:Value} {K:Act->World->Prop} (hy:Yl P ops C o v a) (hc:nQ o.op=true->C w) (hk:K (a.put o.dst v) w):dD P ops o a w K:=by
 unfold dD;rcases hy with ⟨hw,hv⟩ | ⟨hw,rfl⟩
 ·grind [wq]
 ·rw [ah (by simp [hw])];exact hk
theorem kj {o:Oper} {a:Act} {w:World} {v:Value} {K:Act->World->Prop} (hy:Yl P ops C o v a) (hc:nQ o.op=true->C w) (h:dD P ops o a w K):K (a.put o.dst v) w:=by
 unfold dD at h;rcases hy with ⟨hw,hv⟩ | ⟨hw,rfl⟩
 ·grind [wq]
 ·rw [ah (by simp [hw])] at h;exact h
def runT (P:Program) (ops:Array Oper) (W:Nat->Bool) (C:World->Prop) (Q:Act->World->Prop):List Nat->Act->World->Prop
 | [],a,w=>Q a w
 | i :: r,a,w=>
  match ops[i]? with
  | none=>False
  | some o=>
   if oX o.op=true then dD P ops o a w fun a' w'=>(W i=false->C w->C w')/\runT P ops W C Q r a' w'
   else ∃ v,Yl P ops C o v a/\(nQ o.op=true->C w)/\runT P ops W C Q r (a.put o.dst v) w
def mM (ops:Array Oper) (W:Nat->Bool) (j i:Nat):Bool:=
 match ops[j]?,ops[i]? with
 | some x,some y=>x.apart ops y && y.apart ops x && !(oX x.op && oX y.op) && !(nQ x.op && W i)
 | _,_=>false
def Fb (ops:Array Oper) (l:List Nat):Prop:=∃ i o,i∈l/\ops[i]? = some o/\nQ o.op=true
theorem ia {j i:Nat} {x y:Oper} (h:mM ops W j i=true) (hj:ops[j]? = some x) (hi:ops[i]? = some y) :
  x.apart ops y=true/\y.apart ops x=true/\¬ (oX x.op=true/\oX y.op=true)/\¬ (nQ x.op=true/\W i=true):=by
 unfold mM at h;rw [hj,hi] at h;simp only [bA,Bool.not_eq_true',Bool.and_eq_false_iff] at h;refine ⟨h.1.1.1,h.1.1.2,?_,?_⟩
 ·grind
 ·grind
theorem lP (lQ:∀ (j:Nat) (o:Oper) cs b,ops[j]? = some o->o.op ≠ .select cs b) {i:Nat} {o:Oper} (hi:ops[i]? = some o) (hR:oX o.op=false) :
  ∀ (rem:List Nat) (a:Act) (w:World),runT P ops W C Q rem a w->i∈rem->(∀ j∈rem,j≠i->π j < π i->mM ops W j i=true)->rem.Pairwise (fun a b=>π a < π b)->∃ v,Yl P ops C o v a
 | [],_,_,_,hm,_,_=>by cases hm
 | h :: rem,a,w,hr,hm,Is,hp=>by
  simp only [runT] at hr;by_cases zb:h=i
  ·grind
  ·have j1:i∈rem:=by grind
   have ap:π h < π i:=(List.pairwise_cons.1 hp).1 i j1;split at hr
   ·exact hr.elim
   ·rename_i x hx;obtain ⟨Tl,V6,_,_⟩:=ia (Is h (by simp) zb ap) hx hi;have ih:=fun a w hr=>lP lQ hi hR rem a w hr j1 (fun j hj=>Is j (gA _ hj)) (List.pairwise_cons.1 hp).2
    grind [Fa,Yl.same]
theorem tH {h:Nat} {rem:List Nat} (hl:Fb ops rem):Fb ops (h :: rem):=by
 obtain ⟨i,o,hm,ho,hL⟩:=hl;exact ⟨i,o,gA _ hm,ho,hL⟩
theorem ib (lQ:∀ (j:Nat) (o:Oper) cs b,ops[j]? = some o->o.op ≠ .select cs b) (HU:∀ j i x y,π j < π i->ops[i]? = some x->ops[j]? = some y->nQ x.op=true->W j=false) {i:Nat} {o:Oper} (hi:ops[i]? = some o) :
  ∀ (rem:List Nat) (a:Act) (w:World),(Fb ops rem->C w)->runT P ops W C Q rem a w->i∈rem->(∀ j∈rem,j≠i->π j < π i->mM ops W j i=true)->rem.Pairwise (fun a b=>π a < π b) ->
   dD P ops o a w (fun a' w'=>(W i=false->C w->C w')/\runT P ops W C Q (rem.erase i) a' w')
 | [],_,_,_,_,hm,_,_=>by cases hm
 | h :: rem,a,w,hC,hr,hm,Is,hp=>by
  by_cases zb:h=i
  ·grind [runT,ki]
  ·have j1:i∈rem:=by grind
   have ap:π h < π i:=(List.pairwise_cons.1 hp).1 i j1;have sN:=(List.pairwise_cons.1 hp).2;rw [List.erase_cons_tail (sU zb)];have hr0:=hr;simp only [runT] at hr;split at hr
   ·exact hr.elim
   ·rename_i x hx;obtain ⟨Tl,V6,hEE,hLW⟩:=ia (Is h (by simp) zb ap) hx hi;have hsx:=fun cs b=>lQ h x cs b hx;have LY:=fun cs b=>lQ i o cs b hi;have OD:∀ j∈rem,j≠i->π j < π i->mM ops W j i=true:=fun j hj=>Is j (gA _ hj);split at hr
    ·-- the head has an effect: so o has none
     rename_i V7;have Tm:oX o.op=false:=by grind
     obtain ⟨v,hy⟩:=lP (π:=π) lQ hi Tm (h :: rem) a w hr0 hm Is hp;have hci:nQ o.op=true->C w:=fun hL=>hC ⟨i,o,hm,hi,hL⟩;refine ki hy hci ⟨fun _ h=>h,?_⟩;simp only [runT,hx,V7,if_true];refine (tG V6 hsx).2 ?_;refine hZ ?_ (qP hr);rintro a' w' ⟨⟨HV,kU⟩,u,rfl⟩;refine ⟨HV,?_⟩
     have Tn:Fb ops rem->C w':=by
      intro hl;have wE:=hl;obtain ⟨l,z,hlm,hz,hL⟩:=hl;exact HV (HU h l z x ((List.pairwise_cons.1 hp).1 l hlm) hz hx hL) (hC (tH wE))
     have ih:=ib lQ HU hi rem _ w' Tn kU j1 OD sN;have fm:=(Yl.same (u:=u) Tl LY).2 hy
     grind [kj]
    ·rename_i V7;obtain ⟨v,hy,hc,kU⟩:=hr;have ih:=ib lQ HU hi rem (a.put x.dst v) w (fun hl=>hC (tH hl)) kU j1 OD sN;refine hZ ?_ (qP ((tG Tl LY).1 ih))
     grind [runT,Yl.same]
def ordB (ops:Array Oper):Nat->Nat->Nat->Bool
 | 0,_,_=>false
 | n + 1,j,i=>
  match ops[i]? with
  | some o=>o.after.toList.any fun e=>Region.binds .any e && (Nat.beq e.on j || ordB ops n j e.on)
  | none=>false
def pF (ops:Array Oper) (W:Nat->Bool) (π:Nat->Nat):Bool:=
 Region.noSelect ops &&
 (List.range ops.size).all fun i=>
  match ops[i]? with
   | some o=>o.after.toList.all (fun e=>!Region.binds .any e || (Nat.blt (π e.on) (π i) && Nat.blt e.on ops.size)) && (!nQ o.op || (List.range ops.size).all fun j=>!Nat.blt (π j) (π i) || !W j)
   | none=>false
def xn (ops:Array Oper) (W:Nat->Bool) (π:Nat->Nat) (ex:Nat->Nat->Bool):Bool:=
 (List.range ops.size).all fun i=>(List.range ops.size).all fun j=>!Nat.blt (π j) (π i) || ex j i || ordB ops ops.size j i || mM ops W j i
def OE:Nat->Nat->Bool:=fun _ _=>false
def zD (ops:Array Oper) (W:Nat->Bool):Bool:=pF ops W (fun i=>i) && xn ops W (fun i=>i) OE
def Dn (ops:Array Oper) (bw:Array Bool):Prop:=
 ∀ i o,ops[i]? = some o->bw.getD i true=true->∀ e∈o.after,Region.binds .any e=true->bw.getD e.on false=true
theorem kk {bw:Array Bool} (hd:Dn ops bw):∀ (n:Nat) (j i:Nat) (o:Oper),ops[i]? = some o->(∀ e∈o.after,Region.binds .any e=true->bw.getD e.on false=true)->ordB ops n j i=true->bw.getD j false=true
 | 0,j,i,o,_,_,h=>by simp [ordB] at h
 | n + 1,j,i,o,ho,gG,h=>by
  simp only [ordB,ho,List.any_eq_true,bA,Bool.or_eq_true] at h;obtain ⟨e,he,hb,hj⟩:=h;have LZ:e∈o.after:=sU he;have h1:=gG e LZ hb;rcases hj with hj | hj
  ·have:e.on=j:=sU hj;rw [<- this];exact h1
  ·cases Tp:ops[e.on]? with
   | none=>
    cases n with
    | zero=>simp [ordB] at hj
    | succ n=>simp [ordB,Tp] at hj
   | some o'=>
    have hg:bw.getD e.on true=true:=by grind
    exact kk hd n j e.on o' Tp (hd e.on o' Tp hg) hj
theorem vf (hc:pF ops W π=true):∀ j i x y,π j < π i->ops[i]? = some x->ops[j]? = some y->nQ x.op=true->W j=false:=by
 simp only [pF,bA,List.all_eq_true,List.mem_range] at hc;intro j i x y LI hx hy hL;have hj:=(Array.getElem?_eq_some_iff.1 hy).1;have:=hc.2 i (Array.getElem?_eq_some_iff.1 hx).1;simp only [hx,bA,Bool.or_eq_true,hL,Bool.not_true,Bool.false_eq_true,false_or,List.all_eq_true,List.mem_range,Bool.not_eq_true'] at this;rcases this.2 j hj with h1 | h1
 ·have:¬ Nat.blt (π j) (π i)=true:=by simp [h1]
  simp at this;omega
 ·exact h1
theorem tI (hc:pF ops W π=true):∀ i x,ops[i]? = some x->∀ e∈x.after,Region.binds .any e=true->π e.on < π i/\e.on < ops.size:=by
 simp only [pF,bA,List.all_eq_true,List.mem_range] at hc;intro i x hx e he hb;have:=hc.2 i (Array.getElem?_eq_some_iff.1 hx).1;simp only [hx,bA,List.all_eq_true,Bool.or_eq_true] at this;have h2:=this.1 e (sU he);rw [hb] at h2;simpa using h2
theorem xq (hc:pF ops W π=true):∀ (j:Nat) (o:Oper) cs b,ops[j]? = some o->o.op ≠ .select cs b:=by
 simp only [pF,bA] at hc;exact Region.noSelect_spec hc.1
theorem vg:∀ {l:List Nat},l.Pairwise (fun a b=>π a < π b)->∀ {x y:Nat},x∈l->y∈l->x≠y->π x < π y∨π y < π x
 | [],_,x,y,hx,_,_=>by cases hx
 | h :: r,hp,x,y,hx,hy,bi=>by
  have sN:=List.pairwise_cons.1 hp;rcases cY hx with e1 | e1
  ·grind
  ·rcases cY hy with e2 | e2
   ·subst e2;exact .inr (sN.1 _ e1)
   ·exact vg sN.2 e1 e2 bi
theorem lR {Q':Exit->Act->World->Prop} (ex:Nat->Nat->Bool) (Tq:pF ops W π=true) (V8:xn ops W π ex=true) (hQ:∀ a w,Q a w->Q' .normal a w):∀ (mN:Nat) (bw:Array Bool) (rem:List Nat) (a:Act) (w:World),
  bw.size=ops.size->Dn ops bw->(∀ i,i∈rem↔i < ops.size/\bw.getD i true=false)->rem.Pairwise (fun a b=>π a < π b)->rem.length<=mN->(∀ j∈rem,∀ i∈rem,ex j i=false)->(Fb ops rem->C w)->runT P ops W C Q rem a w ->
   wpAny P .any ops Q' mN bw a w:=by
 have lQ:=xq Tq;have HU:=vf Tq;have Fc:=tI Tq;simp only [xn,List.all_eq_true,List.mem_range,Bool.or_eq_true,Bool.not_eq_true'] at V8;intro mN
 induction mN with
 | zero=>
  intro bw rem a w cR Si Fe hp hlen hex hC hr;have:rem=[]:=List.length_eq_zero_iff.1 (by omega);subst this;refine ⟨?_,hQ _ _ hr⟩;rw [List.eq_nil_iff_forall_not_mem];intro i hi;have:=(mem_ready.1 hi)
  grind
 | succ mN ih=>
  intro bw rem a w cR Si Fe hp hlen hex hC hr
  have L0:∀ i,i∈Region.ready .any ops bw->i∈rem:=by
   intro i hi;obtain ⟨h1,o,ho,_⟩:=mem_ready.1 hi
   grind
  refine ⟨fun h0=>?_,fun i hi=>?_⟩
  ·cases rem with
   | nil=>exact hQ _ _ hr
   | cons h rem=>
    have hh:=(Fe h).1 (by simp);have hx:ops[h]? = some ops[h]:=Array.getElem?_eq_getElem hh.1
    have:h∈Region.ready .any ops bw:=by
     refine mem_ready.2 ⟨hh.2,_,hx,fun e he hb=>?_⟩;obtain ⟨ap,L1⟩:=Fc h _ hx e he hb;cases hg:bw.getD e.on false
     ·have Kd:bw.getD e.on true=false:=by grind
      have hm:=(Fe e.on).2 ⟨by omega,Kd⟩;rcases cY hm with e1 | e1
      ·rw [e1] at ap;omega
      ·have:=(List.pairwise_cons.1 hp).1 _ e1;omega
     ·rfl
    rw [h0] at this;cases this
  ·have Eo:=L0 i hi;obtain ⟨Tr,o,ho,gG⟩:=mem_ready.1 hi;have j9:=(Array.getElem?_eq_some_iff.1 ho).1
   have Is:∀ j∈rem,j≠i->π j < π i->mM ops W j i=true:=by
    intro j hj _ ap;rcases V8 i j9 j ((Fe j).1 hj).1 with ((h1 | h1) | h1) | h1
    ·have:¬ Nat.blt (π j) (π i)=true:=by simp [h1]
     simp at this;omega
    ·rw [hex j hj i Eo] at h1;cases h1
    ·grind [kk]
    ·exact h1
   have hst:=ib lQ HU ho rem a w hC hr Eo Is hp;have hnd:rem.Nodup:=mq hp
   have key:∀ a' w',((W i=false->C w->C w')/\runT P ops W C Q (rem.erase i) a' w')->wpAny P .any ops Q' mN (bw.setIfInBounds i true) a' w':=by
    rintro a' w' ⟨HV,kU⟩;refine ih (bw.setIfInBounds i true) (rem.erase i) a' w' (by simp [cR]) ?_ ?_ (hp.sublist List.erase_sublist) (by rw [List.length_erase_of_mem Eo];omega) (fun j hj i hi=>hex j (List.mem_of_mem_erase hj) i (List.mem_of_mem_erase hi)) ?_ kU
    ·intro k x hx hk e he hb;by_cases sJ:k=i
     ·subst sJ;rw [ho] at hx;simp only [oI] at hx;subst hx;exact getD_set_true (gG e he hb)
     ·rw [getD_set_ne true (Ne.symm sJ)] at hk;exact getD_set_true (Si k x hx hk e he hb)
    ·intro k;rw [List.Nodup.mem_erase_iff hnd];by_cases sJ:k=i
     ·subst sJ;simp [cR,j9]
     ·rw [getD_set_ne true (Ne.symm sJ)]
      grind
    ·rintro ⟨l,z,hl,hz,hL⟩;have wE:=List.mem_of_mem_erase hl;have bi:l≠i:=fun e=>by subst e;exact (List.Nodup.mem_erase_iff hnd).1 hl |>.1 rfl
     have OG:=hC ⟨l,z,wE,hz,hL⟩;refine HV ?_ OG;rcases Nat.lt_or_ge (π i) (π l) with h1 | h1
     ·exact HU i l z o h1 hz ho hL
     ·have h0:π l≠π i:=by
       intro he;rcases vg hp wE Eo bi with h2 | h2<;>omega
      have:=Is l wE bi (by omega);obtain ⟨_,_,_,h4⟩:=ia this hz ho
      grind
   unfold wpOp
   grind [dD,wZ,jD]
theorem iI {id:Nat} {Q':Exit->Act->World->Prop} {a:Act} {w:World} (hm:P.follows .mixedOrders=true) (hc:zD ops W=true) (hQ:∀ a w,Q a w->Q' .normal a w)
  (hC:C w.drew) (h:runT P ops W C Q (List.range ops.size) a w.drew):(Code.region id ops true).wp P Q' a w:=by
 refine wp_region_any hm ?_;simp only [zD,bA] at hc;refine lR (π:=fun i=>i) OE hc.1 hc.2 hQ ops.size (Array.replicate ops.size false) (List.range ops.size) a _ (by simp) ?_ ?_ List.pairwise_lt_range (by simp) (fun _ _ _ _=>rfl) (fun _=>hC) h
 ·intro i o ho hl;have:i < ops.size:=(Array.getElem?_eq_some_iff.1 ho).1;simp [this] at hl
 ·simp_all
end
end Dv
end Go.Proofs.YtfdedoiiahbnnaaGreat
namespace Go.Proofs.YtfdedoiiahbnnaaGreat
namespace Dv
open Go Go.RowKit
structure Dr where
 ops:Array Oper
 W:Nat->Bool
 k:List It
 iB:St
 fin:Option (Bool->List (Nat × Sl)->St->Prop)
structure Dw where
 d:Dr
 E0:En
 wr:World
structure CC (E0:En) (bx:List (List DV)) (wr w:World):Prop where
 o:∀ (i:Nat) b cs,E0.β[i]? = some b->bx[i]? = some cs->cs ≠ []->w.heap[b]? = wr.heap[b]?
 c:∀ x v,E0.c x=some v->w.cell? x=some v
abbrev Dw.C (D:Dw) (w:World):Prop:=CC D.E0 D.d.iB.bx D.wr w
structure qQ (E:En) (bx:List (List DV)) (w:World):Prop where
 len:E.β.length=bx.length
 dn:∀ (i:Nat) cs,bx[i]? = some cs->cs ≠ []->∃ b ty arr,E.β[i]? = some b/\w.heap[b]? = some (.cells (List.toArray arr) ty (0,0))/\RvC E cs arr
theorem Env.em {E:En} {bx:List (List DV)} {w:World} (h:Env E bx w):qQ E bx w:=⟨h.len,fun i cs hi _=>h.dn i cs hi⟩
def OH:Option (List DV)->Bool
 | some []=>true
 | _=>false
theorem Iu {o:Option (List DV)} (h:OH o=true):o=some []:=by
 cases o with
 | none=>cases h
 | some l=>
  cases l with
  | nil=>rfl
  | cons _ _=>cases h
def Dw.wc (D:Dw) (E:En):En:=⟨D.E0.c,E.β,E.tk,E.τ⟩
structure eB (X:Ctx) (D:Dw) (c:Bool) (E:En) (s0:List (Nat × Sl)) (st:St) (a:Act) (w:World):Prop where
 rel:Rel X E st a w
 x:Ext D.E0 E
 β:∃ r,E.β=D.E0.β ++ r
 t0:∀ i x,get s0 i=some x->(Holds a.tmps x.gs->∃ v,a.tmps[i]? = some v/\Rv (D.wc E) x.s v)/\(¬ Holds a.tmps x.gs->a.tmps[i]? = some undef)
 cc:c=true->D.C w
def Dw.Q (D:Dw) (X:Ctx) (a:Act) (w:World):Prop:=
 match D.d.fin with
 | none=>kq X D.d.k .normal a w
 | some F=>∃ c E s0 st,eB X D c E s0 st a w/\F c s0 st
def delF {γ:Type _} (d:Nat):List (Nat × Sl)->(List (Nat × Sl)->γ)->γ
 | [],K=>K []
 | p :: r,K=>
  match Nat.beq p.1 d with
  | true=>delF d r K
  | false=>delF d r (fun r'=>K (p :: r'))
theorem mO {γ:Type _} (d:Nat):∀ (l:List (Nat × Sl)) (K:List (Nat × Sl)->γ),delF d l K=K (l.filter fun p=>!Nat.beq p.1 d)
 | [],K=>rfl
 | p :: r,K=>by
  simp only [delF,List.filter_cons];cases h:Nat.beq p.1 d
  ·simp only [Bool.not_false,if_true];rw [mO d r]
  ·simp only [Bool.not_true,Bool.false_eq_true,if_false];rw [mO d r K]
theorem get_filter (d:Nat):∀ (l:List (Nat × Sl)) (i:Nat) (x:Sl),get (l.filter fun p=>!Nat.beq p.1 d) i=some x->i≠d/\get l i=some x
 | [],i,x,h=>by cases h
 | (k,y) :: r,i,x,h=>by
  simp only [List.filter_cons] at h;split at h
  ·rename_i hk
   have hk:k≠d:=by
    rintro rfl;simp at hk
   simp only [ct] at h ⊢;split at h
   ·grind
   ·rename_i sJ;rw [ah sJ];exact get_filter d r i x h
  ·rename_i hk;have hk:k=d:=sU hk;obtain ⟨h1,h2⟩:=get_filter d r i x h
   grind [ct]
def scal:DV->Bool
 | .v _=>true
 | .ud=>true
 | .loc _ _=>true
 | .el _ _=>true
 | _=>false
def put2 (s0:List (Nat × Sl)) (st:St) (dst:Option Nat) (b:Bool) (gs:List (Nat × Bool)) (s:DV) (K:List (Nat × Sl)->St->Prop):Prop:=
 match dst with
 | none=>K s0 st
 | some d=>
  match st with
  | ⟨sl,bx,tk⟩=>
   match b || scal s with
   | true=>K ((d,⟨gs,s⟩) :: s0) ⟨(d,⟨gs,s⟩) :: sl,bx,tk⟩
   | false=>delF d s0 fun gl=>K gl ⟨(d,⟨gs,s⟩) :: sl,bx,tk⟩
def optP:Option Prop->Prop
 | some p=>p
 | none=>False
def pR (X:Ctx) (D:Dr) (c:Bool) (s0:List (Nat × Sl)) (st:St) (G:List (Nat × Bool)) (op:Op):Option (Bool × DV):=
 match !oX op && (!nQ op || c) with
 | false=>none
 | true=>
  match pureT X.P X.T ⟨s0,D.iB.bx,[]⟩ G op with
  | some s=>some (true,s)
  | none=>
   match nQ op with
   | true=>none
   | false=>
    match pureT X.P X.T ⟨st.sl,[],[]⟩ G op with
    | some s=>some (false,s)
    | none=>none
def eR (X:Ctx) (D:Dr) (c:Bool) (s0:List (Nat × Sl)) (st:St) (op:Op) (K:Bool->DV->Prop):Option Prop:=
 match oX op with
 | true=>none
 | false=>
  match nQ op with
  | true=>
   match c with
   | true=>effR X ⟨s0,D.iB.bx,[]⟩ op (K true)
   | false=>none
  | false=>
   match effR X ⟨s0,[],[]⟩ op (K true) with
   | some p=>some p
   | none=>effR X ⟨st.sl,[],[]⟩ op (K false)
def tJ (X:Ctx) (D:Dr) (c:Bool) (i:Nat) (l:List (Nat × Oper)) (f:FuncId) (args:List DV) (dst:Option Nat) (s0:List (Nat × Sl)) (st:St):Prop:=
 Go.Proofs.Enters X.P f/\((∀ p∈l,D.ops[p.1]? = some p.2)->∀ (E0:En) (wr:World),qQ E0 D.iB.bx wr->∀ E a w vs,eB X ⟨D,E0,wr⟩ c E s0 st a w->RvL E args vs->Calls X.P f vs.toArray w fun e w'=>∃ v,e = .returned v /\
  (D.W i=false->CC E0 D.iB.bx wr w->CC E0 D.iB.bx wr w')/\runT X.P D.ops D.W (CC E0 D.iB.bx wr) (Dw.Q ⟨D,E0,wr⟩ X) (l.map (·.1)) (a.put dst v) w')
def OpD (X:Ctx) (D:Dr) (c:Bool) (i:Nat) (l:List (Nat × Oper)) (o:Oper) (s0:List (Nat × Sl)) (st:St):Prop:=
 (∀ p∈l,D.ops[p.1]? = some p.2)->∀ (E0:En) (wr:World),qQ E0 D.iB.bx wr->∀ E a w,eB X ⟨D,E0,wr⟩ c E s0 st a w->wq X.P o a w fun a' w'=>
  (D.W i=false->CC E0 D.iB.bx wr w->CC E0 D.iB.bx wr w')/\runT X.P D.ops D.W (CC E0 D.iB.bx wr) (Dw.Q ⟨D,E0,wr⟩ X) (l.map (·.1)) a' w'
def effE (X:Ctx) (D:Dr) (c:Bool) (i:Nat) (l:List (Nat × Oper)) (o:Oper) (s0:List (Nat × Sl)) (st:St) (K:Bool->List (Nat × Sl)->St->Prop):Prop:=
 match o.op with
 | .store t x y=>
  match o.dst with
  | some _=>False
  | none=>
   match D.W i with
   | true=>optP (effC X st o (K false s0))
   | false=>
    match stObj st o.op with
    | some j=>
     match Nat.ble D.iB.bx.length j || OH D.iB.bx[j]? with
     | true=>optP (effC X st o (K c s0))
     | false=>False
    | none=>False
 | .call cl=>
  match cl.callee with
  | .value f=>
   match rv st [] f,argsV st [] cl.args.toList with
   | some (.fn g first captured),some vs=>tJ X D c i l g (first ++ vs ++ captured) o.dst s0 st
   | _,_=>False
  | _=>
   match o.dst with
   | some d=>optP (effC X st o fun st'=>delF d s0 fun gl=>K c gl st')
   | none=>False
 | _=>
  match o.dst with
  | some d=>
   match effC X st o fun st'=>
    match get st'.sl d with
    | some ⟨[],.loc j off⟩=>K c ((d,⟨[],.loc j off⟩) :: s0) st'
    | _=>delF d s0 fun gl=>K c gl st' with
   | some p=>p
   | none=>OpD X D c i l o s0 st
  | none=>False
def goD (X:Ctx) (D:Dr):Nat->Bool->List (Nat × Oper)->List (Nat × Sl)->St->Prop
 | _,c,[],s0,st=>
  match D.fin with
  | none=>go X 4000 D.k st
  | some F=>F c s0 st
 | 0,_,_ :: _,_,_=>False
 | n + 1,c,(i,o) :: r,s0,st=>
  match eK X.nt st.sl o.dst && eK X.nt s0 o.dst with
  | false=>False
  | true=>
   match o.guard with
   | none=>
    match oX o.op with
    | true=>effE X D c i r o s0 st fun c' gl st'=>goD X D n c' r gl st'
    | false=>
     match pR X D c s0 st [] o.op with
     | some (b,s)=>put2 s0 st o.dst b [] s (goD X D n c r)
     | none=>optP (eR X D c s0 st o.op fun b s=>put2 s0 st o.dst b [] s (goD X D n c r))
   | some (j,want)=>
    match gslot D.ops.toList j with
    | none=>False
    | some d=>
     match get st.sl d with
     | none=>False
     | some ⟨ju,_⟩=>
      match pR X D c s0 st ((d,want) :: ju) o.op with
      | some (b,s)=>
       match S4 ((d,want) :: ju) o.dst with
       | true=>put2 s0 st o.dst b ((d,want) :: ju) s (goD X D n c r)
       | false=>False
      | none=>
       match get st.sl (lastG (d,want) ju).1 with
       | some ⟨[],.v (.bool b)⟩=>
        match ju with
        | []=>Br (b == want)
          (sH st d want fun CK=>resL d want s0 fun s2=>
           match oX o.op with
           | true=>effE X D c i r o s2 CK fun c' gl st'=>goD X D n c' r gl st'
           | false=>optP (eR X D c s2 CK o.op fun b s=>put2 s2 CK o.dst b [] s (goD X D n c r)))
          (match !nQ o.op || c with
           | true=>sH st d (!want) fun CK=>resL d (!want) s0 fun s2=>put2 s2 CK o.dst true [] .ud (goD X D n c r)
           | false=>False)
        | _ :: _=>Br (b == (lastG (d,want) ju).2)
          (sH st (lastG (d,want) ju).1 (lastG (d,want) ju).2 fun CK=>resL (lastG (d,want) ju).1 (lastG (d,want) ju).2 s0 fun s2=>goD X D n c ((i,o) :: r) s2 CK)
          (sH st (lastG (d,want) ju).1 (!(lastG (d,want) ju).2) fun CK=>resL (lastG (d,want) ju).1 (!(lastG (d,want) ju).2) s0 fun s2=>goD X D n c ((i,o) :: r) s2 CK)
       | some ⟨[],.ud⟩=>
        match ju with
        | []=>
         match !nQ o.op || c with
         | true=>put2 s0 st o.dst true [] .ud (goD X D n c r)
         | false=>False
        | _ :: _=>False
       | _=>False
section
variable {X:Ctx} {D:Dw} {c:Bool} {i:Nat} {s0:List (Nat × Sl)} {st:St} {E:En} {a:Act} {w:World}
theorem L2 (h:Ext D.E0 E):Ext D.E0 (D.wc E):=⟨fun _ _ h=>h,h.β,h.tk⟩
theorem zE (h:Ext D.E0 E):Ext (D.wc E) E:=⟨h.c,fun _ _ h=>h,fun k q hq=>⟨q,hq,.inl ⟨rfl,rfl⟩⟩⟩
theorem vi {E':En} (h:Ext E E'):Ext (D.wc E) (D.wc E'):=⟨fun _ _ h=>h,h.β,h.tk⟩
theorem eB.Ts (h:eB X D c E s0 st a w) (hD:qQ D.E0 D.d.iB.bx D.wr):Rl (D.wc E) D.d.iB.bx D.C s0 a where
 tm:=h.t0
 dn:=fun i cs hi=>by
  by_cases bi:cs=[]
  ·subst bi;have ap:i < D.E0.β.length:=by rw [hD.len];exact (gS hi).1
   exact ⟨_,[],h.x.β i _ (gE ap),⟨bW _,by simp⟩,fun w' _ j u hj=>by simp at hj⟩
  ·obtain ⟨b,ty,arr,hb,hw,hc⟩:=hD.dn i cs hi bi;exact ⟨b,arr,h.x.β i b hb,hc.mono (L2 h.x),fun w' hC j u hj=>by rw [bX ((hC.o i b cs hb hi bi).trans hw)];simpa using hj⟩
 cc:=fun x v hx w' hC=>hC.c x v hx
theorem eB.V9 (h:eB X D c E s0 st a w):Rl E [] (fun w'=>∀ x v,E.c x=some v->w'.cell? x=some v) st.sl a where
 tm:=h.rel.tm
 dn:=fun i cs hi=>by simp at hi
 cc:=fun x v hx w' hC=>hC x v hx
theorem BE {s:DV} {v:Value} (hs:scal s=true) (hv:Rv E s v):Rv (D.wc E) s v:=by
 cases s<;>simp [scal] at hs
 ·unfold Rv at hv ⊢;exact hv
 ·unfold Rv at hv ⊢;exact hv
 ·unfold Rv at hv ⊢;exact hv
 ·unfold Rv at hv ⊢;exact hv
theorem fW (h:eB X D c E s0 st a w) {dst:Option Nat} (hd:(eK X.nt st.sl dst && eK X.nt s0 dst)=true) (b:Bool) (gs:List (Nat × Bool)) (s:DV) (v:Value) (Cy:∀ d,dst=some d->∀ p∈gs,p.1≠d)
  (pU:Holds a.tmps gs->Rv E s v) (pz:b=true->Holds a.tmps gs->Rv (D.wc E) s v) (Cz:¬ Holds a.tmps gs->v=undef) {K:List (Nat × Sl)->St->Prop} (hk:put2 s0 st dst b gs s K) :
  ∃ gl st',K gl st' /\ eB X D c E gl st' (a.put dst v) w:=by
 simp only [bA] at hd;have h1:=mE h.rel hd.1 gs s v Cy pU Cz
 cases dst with
 | none=>exact ⟨s0,st,hk,h1,h.x,h.β,h.t0,h.cc⟩
 | some d=>
  obtain ⟨sl,bx,tk⟩:=st;have L3:=hd.2;simp only [eK,bA,Nat.blt_eq] at L3
  have hold:∀ i x,i≠d->get s0 i=some x->(Holds (a.put (some d) v).tmps x.gs->∃ u,(a.put (some d) v).tmps[i]? = some u/\Rv (D.wc E) x.s u)/\(¬ Holds (a.put (some d) v).tmps x.gs->(a.put (some d) v).tmps[i]? = some undef):=by
   intro i x hi hx;simp only [Act.put];rw [Array.getElem?_setIfInBounds_ne (Ne.symm hi),iT (jA L3.2 i x hx)];exact h.t0 i x hx
  simp only [put2] at hk;split at hk
  ·rename_i hb;refine ⟨_,_,hk,h1,h.x,h.β,fun i x hx=>?_,h.cc⟩;simp only [ct] at hx;split at hx
   ·rename_i Eh;subst Eh;simp only [oI] at hx;subst hx;have h2:(a.tmps.setIfInBounds d v)[d]? = some v:=by simp [Array.getElem?_setIfInBounds,h.rel.sz,L3.1]
    simp only [Act.put]
    grind [iT,BE]
   all_goals grind
  ·rw [mO] at hk;refine ⟨_,_,hk,h1,h.x,h.β,fun i x hx=>?_,h.cc⟩;obtain ⟨h3,h4⟩:=get_filter d s0 i x hx;exact hold i x h3 h4
theorem jG (h:eB X D c E s0 st a w) {d:Nat} {b:Bool} (hd:a.tmps[d]? = some (.bool b)):eB X D c E (s0.map (bo d b)) (st.resolve d b) a w where
 rel:=iz h.rel hd
 x:=h.x
 β:=h.β
 t0:=by
  intro i y hy;simp only [get_map,Option.map_eq_some_iff] at hy;obtain ⟨x,hx,rfl⟩:=hy;have ht:=h.t0 i x hx;unfold bo;split
  ·rename_i hi;have j9:i=d:=sU hi;subst j9;exact ⟨fun _=>⟨_,hd,dQ rfl⟩,fun hn=>(hn (aM _)).elim⟩
  ·split
   ·grind [Holds,oV,aM]
   ·have he:Holds a.tmps (x.gs.filter fun p=>p != (d,b))↔Holds a.tmps x.gs:=by
     constructor
     ·intro hh p hp;by_cases Ei:p=(d,b)
      ·subst Ei;exact hd
      ·exact hh p (by simp [List.mem_filter,hp,Ei])
     ·intro hh p hp;exact hh p (List.mem_filter.1 hp).1
    simp only [he];exact ht
 cc:=h.cc
theorem mP {nt d:Nat} {b:Bool} {dst:Option Nat} (h:(eK nt st.sl dst && eK nt s0 dst)=true):(eK nt (st.resolve d b).sl dst && eK nt (s0.map (bo d b)) dst)=true:=by
 simp only [bA] at h ⊢;exact ⟨iA h.1,iA (st:=⟨s0,[],[]⟩) h.2⟩
theorem xr (hD:qQ D.E0 D.d.iB.bx D.wr) (h:eB X D c E s0 st a w) {G:List (Nat × Bool)} (hG:Holds a.tmps G) {o:Oper} {b:Bool} {s:DV} (hp:pR X D.d c s0 st G o.op=some (b,s)) :
  oX o.op=false/\(nQ o.op=true->c=true)/\∃ v,Rv E s v/\(b=true->Rv (D.wc E) s v)/\∀ w,(nQ o.op=true->D.C w)->(execOp a.eval o).run X.P w = .ok (.value v) w:=by
 unfold pR at hp;split at hp
 ·cases hp
 ·rename_i hc;simp only [bA,Bool.not_eq_true',Bool.or_eq_true] at hc;refine ⟨hc.1,fun hL=>?_,?_⟩
  ·grind
  ·split at hp
   ·rename_i s' hs;simp only [oI,Prod.mk.injEq] at hp;obtain ⟨rfl,rfl⟩:=hp;obtain ⟨v,hv,hr⟩:=fw (st:=⟨s0,D.d.iB.bx,[]⟩) X.hT (h.Ts hD) hG hs;exact ⟨v,Rv.mono (zE h.x) hv,fun _=>hv,hr⟩
   ·split at hp
    ·cases hp
    ·rename_i hL;split at hp
     ·rename_i s' hs;simp only [oI,Prod.mk.injEq] at hp;obtain ⟨rfl,rfl⟩:=hp;obtain ⟨v,hv,hr⟩:=fw (st:=⟨st.sl,[],[]⟩) X.hT h.V9 hG hs
      grind
     ·cases hp
theorem Ff (hD:qQ D.E0 D.d.iB.bx D.wr) (h:eB X D c E s0 st a w) {o:Oper} {K:Bool->DV->Prop} (hp:optP (eR X D.d c s0 st o.op K)) :
  oX o.op=false/\(nQ o.op=true->c=true)/\∃ b s v,K b s/\Rv E s v/\(b=true->Rv (D.wc E) s v)/\∀ w,(nQ o.op=true->D.C w)->(execOp a.eval o).run X.P w = .ok (.value v) w:=by
 unfold eR at hp;split at hp
 ·exact hp.elim
 ·rename_i hE;refine ⟨hE,?_⟩;split at hp
  ·rename_i hL;split at hp
   ·refine ⟨fun _=>rfl,?_⟩
    cases hs:effR X ⟨s0,D.d.iB.bx,[]⟩ o.op (K true) with
    | none=>rw [hs] at hp;exact hp.elim
    | some p=>
     rw [hs] at hp;obtain ⟨s,hk,v,hv,hr⟩:=jC (st:=⟨s0,D.d.iB.bx,[]⟩) (h.Ts hD) hs hp;exact ⟨true,s,v,hk,Rv.mono (zE h.x) hv,fun _=>hv,hr⟩
   ·exact hp.elim
  ·rename_i hL;have hno:∀ w':World,nQ o.op=true->False:=fun w' h1=>by rw [hL] at h1;cases h1
   refine ⟨fun h1=>(by rw [hL] at h1;cases h1),?_⟩;split at hp
   ·rename_i p hs;obtain ⟨s,hk,v,hv,hr⟩:=jC (st:=⟨s0,[],[]⟩) (C:=D.C) ⟨h.t0,fun i cs hi=>by simp at hi,(h.Ts hD).cc⟩ hs hp;exact ⟨true,s,v,hk,Rv.mono (zE h.x) hv,fun _=>hv,fun w' _=>hr w' fun h1=>(hno w' h1).elim⟩
   ·cases hs:effR X ⟨st.sl,[],[]⟩ o.op (K false) with
    | none=>rw [hs] at hp;exact hp.elim
    | some p=>
     rw [hs] at hp;obtain ⟨s,hk,v,hv,hr⟩:=jC (st:=⟨st.sl,[],[]⟩) h.V9 hs hp
     grind
theorem Iv {P:Program} {o:Oper} {K:Act->World->Prop} (h:wq P o a w K):wq P o a w fun a' w'=>K a' w' /\ ∃ u,a'=a.put o.dst u:=by grind [wq]
theorem BF (h:eB X D c E s0 st a w) {t:Option Nat} {E':En} {st':St} {a':Act} {w':World} (hs:El t E w E' w') (hr:Rel X E' st' a' w') (ht:∀ j,t=some j->D.E0.β.length<=j∨D.d.iB.bx[j]? = some []):D.C w->D.C w':=fun hC=>
 ⟨fun i b cs hb cm bi=>by
  have gN:=h.x.β i b hb
  rw [hs.o i _ gN fun e=>by
   rcases ht i e with h1 | h1
   ·have:=(gS hb).1;omega
   ·rw [cm] at h1;simp only [oI] at h1;exact bi h1]
  exact hC.o i b cs hb cm bi,fun x v hx=>hr.env.sub x v (hs.x.c x v (h.x.c x v hx))⟩
theorem qR (h:eB X D c E s0 st a w) {t:Option Nat} {E':En} {st':St} {w':World} {c':Bool} {gl:List (Nat × Sl)} {dst:Option Nat} {u:Value} (hs:El t E w E' w') (hr:Rel X E' st' (a.put dst u) w') (pV:c'=true->D.C w')
  (ht0:∀ i x,get gl i=some x->(∃ d,dst=some d/\i=d/\scal x.s=true/\get st'.sl d=some x)∨(get s0 i=some x/\∀ d,dst=some d->i≠d)) (hd:eK X.nt s0 dst=true):eB X D c' E' gl st' (a.put dst u) w' where
 rel:=hr
 x:=by
  refine ⟨fun y v hy=>hs.x.c y v (h.x.c y v hy),fun j b hb=>hs.x.β j b (h.x.β j b hb),fun k q hq=>?_⟩;obtain ⟨q1,h1,h2⟩:=h.x.tk k q hq;obtain ⟨q2,h3,h4⟩:=hs.x.tk k q1 h1
  grind
 β:=by
  obtain ⟨r1,h1⟩:=h.β;obtain ⟨r2,h2⟩:=hs.β
  grind
 t0:=fun i x hx=>by
  rcases ht0 i x hx with ⟨d,rfl,rfl,ES,hg⟩ | ⟨hg,bi⟩
  ·have:=hr.tm _ _ hg
   grind [BE]
  ·have h1:=h.t0 i x hg
   cases dst with
   | none=>
    refine ⟨fun hh=>?_,h1.2⟩;obtain ⟨v,h2,h3⟩:=h1.1 hh;exact ⟨v,h2,Rv.mono (vi hs.x) h3⟩
   | some d=>
    simp only [eK,bA,Nat.blt_eq] at hd;simp only [Act.put];rw [Array.getElem?_setIfInBounds_ne (Ne.symm (bi d rfl)),iT (jA hd.2 i x hg)];refine ⟨fun hh=>?_,h1.2⟩;obtain ⟨v,h2,h3⟩:=h1.1 hh;exact ⟨v,h2,Rv.mono (vi hs.x) h3⟩
 cc:=pV
def OI (X:Ctx) (D:Dw) (l:List Nat) (G:Bool->List (Nat × Sl)->St->Prop):Prop:=∀ c s0 st,G c s0 st->∀ E a w,eB X D c E s0 st a w->runT X.P D.d.ops D.d.W D.C (D.Q X) l a w
theorem zF (hD:qQ D.E0 D.d.iB.bx D.wr) {l:List (Nat × Oper)} (hl:∀ p∈l,D.d.ops[p.1]? = some p.2) {G:Bool->List (Nat × Sl)->St->Prop} (hG:OI X D (l.map (·.1)) G) {o:Oper} (hd:(eK X.nt st.sl o.dst && eK X.nt s0 o.dst)=true) (h:eB X D c E s0 st a w)
  (he:effE X D.d c i l o s0 st G):wq X.P o a w fun a' w'=>(D.d.W i=false->D.C w->D.C w')/\runT X.P D.d.ops D.d.W D.C (D.Q X) (l.map (·.1)) a' w':=by
 have Iw:=hd;simp only [bA] at Iw;have hlen:D.E0.β.length=D.d.iB.bx.length:=hD.len
 have core:∀ (K:St->Prop) (p:Prop) (c1:Bool),effC X st o K=some p->p->(c1=true->c=true)->(c1=true∨D.d.W i=false->∀ j,stObj st o.op=some j->D.E0.β.length<=j∨D.d.iB.bx[j]? = some []) ->
   (∀ st',K st' -> ∃ gl,G c1 gl st' /\ ∀ i x,get gl i=some x->(∃ d,o.dst=some d/\i=d/\scal x.s=true/\get st'.sl d=some x)∨(get s0 i=some x/\∀ d,o.dst=some d->i≠d)) ->
   wq X.P o a w fun a' w'=>(D.d.W i=false->D.C w->D.C w')/\runT X.P D.d.ops D.d.W D.C (D.Q X) (l.map (·.1)) a' w':=by
  intro K p c1 hp hpp NJ hst hK;refine jD ?_ (Iv (jE Iw.1 h.rel hp hpp));rintro a' w' ⟨⟨st',E',hk,hr,hs⟩,u,rfl⟩;refine ⟨fun hW=>BF h hs hr (hst (.inr hW)),?_⟩;obtain ⟨gl,hg,ht0⟩:=hK st' hk;exact hG c1 gl st' hg E' _ w' (qR h hs hr (fun hc=>BF h hs hr (hst (.inl hc)) (h.cc (NJ hc))) ht0 Iw.2)
 have Ke:(∀ t x y,o.op ≠ .store t x y)->∀ j,stObj st o.op=some j->D.E0.β.length<=j∨D.d.iB.bx[j]? = some []:=by simp_all [stObj]
 have OJ:∀ (d:Nat) (st':St),o.dst=some d->∀ i x,get (s0.filter fun p=>!Nat.beq p.1 d) i=some x->(∃ d,o.dst=some d/\i=d/\scal x.s=true/\get st'.sl d=some x)∨(get s0 i=some x/\∀ d,o.dst=some d->i≠d):=by
  intro d st' iJ i x hx;obtain ⟨h1,h2⟩:=get_filter d s0 i x hx
  grind
 unfold effE at he;split at he
 ·rename_i t x y pX;split at he
  ·exact he.elim
  ·rename_i iJ;have EV:∀ st':St,∀ i x,get s0 i=some x->(∃ d,o.dst=some d/\i=d/\scal x.s=true/\get st'.sl d=some x)∨(get s0 i=some x/\∀ d,o.dst=some d->i≠d):=fun st' i x hx=>.inr ⟨hx,fun d hd=>by rw [iJ] at hd;cases hd⟩;split at he
   ·rename_i hW
    cases hp:effC X st o (G false s0) with
    | none=>rw [hp] at he;exact he.elim
    | some p=>
     rw [hp] at he;exact core _ p false hp he (by intro h;cases h) (by rintro (h1 | h1);cases h1;rw [hW] at h1;cases h1) fun st' hk=>⟨s0,hk,EV st'⟩
   ·split at he
    ·rename_i j hj;split at he
     ·rename_i fN
      have fN:D.d.iB.bx.length<=j∨D.d.iB.bx[j]? = some []:=by
       rcases Bool.or_eq_true _ _ |>.mp fN with h1 | h1
       ·exact .inl (sU h1)
       ·exact .inr (Iu h1)
      cases hp:effC X st o (G c s0) with
      | none=>rw [hp] at he;exact he.elim
      | some p=>
       rw [hp] at he;exact core _ p c hp he id (fun _ j' gN=>by rw [hj] at gN;cases gN;rw [hlen];exact fN) fun st' hk=>⟨s0,hk,EV st'⟩
     ·exact he.elim
    ·exact he.elim
 ·rename_i cl pX;split at he
  ·rename_i f pG;split at he
   ·rename_i g first captured vs hf wE
    obtain ⟨iW,Fg⟩:=he;have iv:=h.rel.rl;have e1:=aP iv hf;unfold Rv at e1;obtain ⟨l1,r1,e1,wz,hr1⟩:=e1;have hargs:=fv iv (aM _) _ _ wE;obtain ⟨dst,op,ty,pos,after,gu⟩:=o;obtain ⟨callee,args,argTypes⟩:=cl;simp only at pX pG;subst pX pG
    have hr:(execOp a.eval ⟨dst,.call ⟨.value f,args,argTypes⟩,ty,pos,after,gu⟩).run X.P w = .ok (.enter g (l1 ++ args.toList.map a.eval ++ r1).toArray) w:=by
     have e3:(l1.toArray ++ args.map a.eval ++ r1.toArray)=(l1 ++ args.toList.map a.eval ++ r1).toArray:=by apply Array.ext';simp
     simp only [execOp,resolve,e1,Deferred.ofValue,Sem.run_bind,Sem.run_pure,Result.andThen_ok,invoke,e3];exact iW _ _
    unfold wq;rw [hr];exact Fg hl D.E0 D.wr hD E a w _ h ((wz.append hargs).append hr1)
   ·exact he.elim
  ·split at he
   ·rename_i d iJ
    cases hp:effC X st o (fun st'=>delF d s0 fun gl=>G c gl st') with
    | none=>rw [hp] at he;exact he.elim
    | some p=>
     rw [hp] at he;refine core _ p c hp he id (fun _=>Ke (fun t x y h1=>by rw [pX] at h1;cases h1)) fun st' hk=>?_;rw [mO] at hk;exact ⟨_,hk,OJ d st' iJ⟩
   ·exact he.elim
 ·rename_i zc J2;split at he
  ·rename_i d iJ
   cases hp:effC X st o (fun st'=>
    match get st'.sl d with
    | some ⟨[],.loc j off⟩=>G c ((d,⟨[],.loc j off⟩) :: s0) st'
    | _=>delF d s0 fun gl=>G c gl st') with
   | none=>rw [hp] at he;exact he hl D.E0 D.wr hD E a w h
   | some p=>
    rw [hp] at he;refine core _ p c hp he id (fun _=>Ke zc) fun st' hk=>?_;split at hk
    ·rename_i j off hg;refine ⟨_,hk,fun i x hx=>?_⟩;simp only [ct] at hx;split at hx
     ·rename_i Eh;simp only [oI] at hx;subst hx;exact .inl ⟨d,iJ,Eh.symm,rfl,hg⟩
     all_goals grind
    ·rw [mO] at hk;exact ⟨_,hk,OJ d st' iJ⟩
  ·exact he.elim
theorem eL (hD:qQ D.E0 D.d.iB.bx D.wr):∀ n c l s0 st,goD X D.d n c l s0 st->(∀ p∈l,D.d.ops[p.1]? = some p.2)->∀ E a w,eB X D c E s0 st a w->runT X.P D.d.ops D.d.W D.C (D.Q X) (l.map (·.1)) a w
 | n,c,[],s0,st,hg,hl=>by
  intro E a w h;have hg:(match D.d.fin with | none=>go X 4000 D.d.k st | some F=>F c s0 st):=by cases n<;>simpa only [goD] using hg
  show D.Q X a w;unfold Dw.Q
  cases hf:D.d.fin with
  | none=>
   rw [hf] at hg;exact go_sound 4000 _ _ hg E a w h.rel
  | some F=>
   rw [hf] at hg;exact ⟨c,E,s0,st,h,hg⟩
 | 0,c,_ :: _,s0,st,hg,_=>by exact hg.elim
 | n + 1,c,(i,o) :: r,s0,st,hg,hl=>by
  intro E a w h;have ho:D.d.ops[i]? = some o:=hl (i,o) (by simp);have wE:∀ p∈r,D.d.ops[p.1]? = some p.2:=fun p hp=>hl p (gA _ hp);simp only [List.map_cons];have ih:∀ c s0 st,goD X D.d n c r s0 st->∀ E a w,eB X D c E s0 st a w->runT X.P D.d.ops D.d.W D.C (D.Q X) (r.map (·.1)) a w:=fun c s0 st hg=>eL hD n c r s0 st hg wE;have ihG:OI X D (r.map (·.1)) (fun c s0 st=>goD X D.d n c r s0 st):=fun c s0 st hg=>ih c s0 st hg;simp only [goD,Bn,u2] at hg;split at hg
  ·exact hg.elim
  ·rename_i hd
   have fR:∀ (v:Value) gl st',oX o.op=false->Yl X.P D.d.ops D.C o v a->(nQ o.op=true->c=true)->goD X D.d n c r gl st' -> eB X D c E gl st' (a.put o.dst v) w ->
     runT X.P D.d.ops D.d.W D.C (D.Q X) (i :: r.map (·.1)) a w:=by
    intro v gl st' hE hy gM qF bD;simp only [runT,ho];rw [ah (by simp [hE])];exact ⟨v,hy,fun hL=>h.cc (gM hL),ih c gl st' qF E _ w bD⟩
   have fS:∀ gl st',oX o.op=true->Region.wanted o (yielded D.d.ops a.tmps)=false->goD X D.d n c r gl st' -> eB X D c E gl st' (a.put o.dst undef) w ->
     runT X.P D.d.ops D.d.W D.C (D.Q X) (i :: r.map (·.1)) a w:=by
    intro gl st' hE hw qF bD;simp only [runT,ho];rw [zIfP hE];unfold dD;rw [ah (by simp [hw])];exact ⟨fun _ h=>h,ih c gl st' qF E _ w bD⟩
   have fE:∀ gl st',oX o.op=true->Region.wanted o (yielded D.d.ops a.tmps)=true->(eK X.nt st'.sl o.dst && eK X.nt gl o.dst)=true->effE X D.d c i r o gl st' (fun c' gl st'=>goD X D.d n c' r gl st')->eB X D c E gl st' a w ->
     runT X.P D.d.ops D.d.W D.C (D.Q X) (i :: r.map (·.1)) a w:=by
    intro gl st' hE hw Iw he bD;simp only [runT,ho];rw [zIfP hE];unfold dD;rw [zIfP hw];exact zF hD wE ihG Iw bD he
   have fP:∀ gl st',Region.wanted o (yielded D.d.ops a.tmps)=true->(eK X.nt st'.sl o.dst && eK X.nt gl o.dst)=true->optP (eR X D.d c gl st' o.op fun b s=>put2 gl st' o.dst b [] s (goD X D.d n c r))->eB X D c E gl st' a w ->
     runT X.P D.d.ops D.d.W D.C (D.Q X) (i :: r.map (·.1)) a w:=by
    intro gl st' hw Iw he bD;obtain ⟨hE,gM,b,s,v,hk,hv,pz,bO⟩:=Ff hD bD he;obtain ⟨s1,nI,mn,di⟩:=fW bD Iw b [] s v (fun _ _ p hp=>by cases hp) (fun _=>hv) (fun hb _=>pz hb) (fun hn=>(hn (aM _)).elim) hk;exact fR v s1 nI hE (.inl ⟨hw,bO⟩) gM mn di
   have Wa:∀ gl st',(eK X.nt st'.sl o.dst && eK X.nt gl o.dst)=true->eB X D c E gl st' a w->put2 gl st' o.dst true [] .ud (goD X D.d n c r)->∃ s1 nI,goD X D.d n c r s1 nI/\eB X D c E s1 nI (a.put o.dst undef) w:=by
    intro gl st' Iw bD hk;exact fW bD Iw true [] .ud undef (fun _ _ p hp=>by cases hp) (fun _=>oV E) (fun _ _=>oV _) (fun hn=>(hn (aM _)).elim) hk
   split at hg
   ·rename_i Im;have hw:Region.wanted o (yielded D.d.ops a.tmps)=true:=by simp [Region.wanted,Im]
    split at hg
    ·rename_i hE;exact fE s0 st hE hw hd hg h
    ·split at hg
     ·rename_i b s hs;obtain ⟨hE,gM,v,hv,pz,bO⟩:=xr hD h (aM _) hs;obtain ⟨s1,nI,mn,di⟩:=fW h hd b [] s v (fun _ _ p hp=>by cases hp) (fun _=>hv) (fun hb _=>pz hb) (fun hn=>(hn (aM _)).elim) hg;exact fR v s1 nI hE (.inl ⟨hw,bO⟩) gM mn di
     ·exact fP s0 st hw hd hg h
   ·rename_i j want Im;split at hg
    ·exact hg.elim
    ·rename_i d Cy;split at hg
     ·exact hg.elim
     ·rename_i ju sd Kc;have qK:=wanted_spec h.rel Im Cy Kc;have zG:¬ Holds a.tmps ((d,want) :: ju)->Region.wanted o (yielded D.d.ops a.tmps)=false:=by grind
      split at hg
      ·rename_i b s hs;split at hg
       case h_2=>exact hg.elim
       rename_i ef;have OL:=qJ ef;by_cases hh:Holds a.tmps ((d,want) :: ju)
       ·obtain ⟨hE,gM,v,hv,pz,bO⟩:=xr hD h hh hs;obtain ⟨s1,nI,mn,di⟩:=fW h hd b _ s v OL (fun _=>hv) (fun hb _=>pz hb) (fun hn=>(hn hh).elim) hg;exact fR v s1 nI hE (.inl ⟨qK.2 hh,bO⟩) gM mn di
       ·obtain ⟨s1,nI,mn,di⟩:=fW h hd b _ s undef OL (fun hn=>(hh hn).elim) (fun _ hn=>(hh hn).elim) (fun _=>rfl) hg;have gM:oX o.op=false/\(nQ o.op=true->c=true):=by grind [pR]
        exact fR undef s1 nI gM.1 (.inr ⟨zG hh,rfl⟩) gM.2 mn di
      ·split at hg
       ·rename_i b gk;have ht0:=xe h.rel gk
        cases ju with
        | nil=>
         simp only [lastG] at gk ht0;cases BD:(b == want)
         ·have zx:b = !want:=by cases b<;>cases want<;>simp_all
          have hg:=hg.f BD
          have hn:Region.wanted o (yielded D.d.ops a.tmps)=false:=by
           refine zG fun hh=>?_;have:=hh (d,want) (by simp)
           grind
          have hr:=jG (d:=d) (b:=!want) h (by rw [ht0,zx]);split at hg
          ·rename_i gM
           have L4:nQ o.op=true->c=true:=by
            intro hL;simpa [hL] using gM
           obtain ⟨s1,nI,mn,di⟩:=Wa _ _ (mP hd) hr hg;cases hE:oX o.op
           ·exact fR undef s1 nI hE (.inr ⟨hn,rfl⟩) L4 mn di
           ·exact fS s1 nI hE hn mn di
          ·exact hg.elim
         ·have E6:b=want:=sU BD;have hg:=hg.t BD
          grind [gW,aM,jG,mP]
        | cons g1 gr=>
         have key:∀ e,a.tmps[(lastG (d,want) (g1 :: gr)).1]? = some (.bool e)->goD X D.d n c ((i,o) :: r) (s0.map (bo (lastG (d,want) (g1 :: gr)).1 e)) (st.resolve (lastG (d,want) (g1 :: gr)).1 e)->_:=
          fun e Bs qF=>eL hD n c ((i,o) :: r) _ _ qF hl E a w (jG h Bs)
         cases BD:(b == (lastG (d,want) (g1 :: gr)).2)
         ·have hg:=hg.f BD;have zx:b = !(lastG (d,want) (g1 :: gr)).2:=by cases b<;>cases h0:(lastG (d,want) (g1 :: gr)).2<;>simp_all
          exact key _ (by rw [ht0,zx]) hg
         all_goals simp_all
       ·rename_i gk
        cases ju with
        | nil=>
         have ht0:=E5 h.rel gk;simp only [lastG] at ht0
         have hn:Region.wanted o (yielded D.d.ops a.tmps)=false:=by
          refine zG fun hh=>?_;have:=hh (d,want) (by simp);simp only at this;rw [ht0] at this;simp [undef] at this
         simp only at hg;split at hg
         ·rename_i gM
          have L4:nQ o.op=true->c=true:=by
           intro hL;simpa [hL] using gM
          obtain ⟨s1,nI,mn,di⟩:=Wa _ _ hd h hg;cases hE:oX o.op
          ·exact fR undef s1 nI hE (.inr ⟨hn,rfl⟩) L4 mn di
          ·exact fS s1 nI hE hn mn di
         ·exact hg.elim
        | cons g1 gr=>exact hg.elim
       ·exact hg.elim
def Tt (X:Ctx) (o:Oper) (st st':St):Prop:=∀ E a w,Rel X E st a w->wq X.P o a w fun a' w'=>∃ E',Rel X E' st' a' w' /\ El none E w E' w'
theorem Tt.g {o:Oper} {k:List It} {st st':St} (h:Tt X o st st') (hk:go X 4000 k st'):EH X o k st:=fun E a w hr=>by
 refine wZ (jD ?_ (h E a w hr));rintro a' w' ⟨E',kU,_⟩;exact go_sound 4000 _ _ hk E' a' w' kU
def nOps:Nat->List Oper->List (Nat × Oper)
 | _,[]=>[]
 | i,o :: r=>(i,o) :: nOps (i + 1) r
theorem qS:∀ (l:List Oper) (i:Nat) (p:Nat × Oper),p∈nOps i l->i<=p.1/\l[p.1 - i]? = some p.2
 | [],_,_,h=>by cases h
 | o :: r,i,p,h=>by
  rcases cY h with h | h
  ·subst h;simp
  ·have:=qS r (i + 1) p h
   grind
theorem qT:∀ (l:List Oper) (i:Nat),(nOps i l).map (·.1)=List.range' i l.length
 | [],_=>rfl
 | o :: r,i=>by simp only [nOps,List.map_cons,qT r (i + 1),List.length_cons,List.range'_succ]
theorem qU (hr:Rel X E st a w) {ops:Array Oper} {W:Nat->Bool} {k:List It}:eB X ⟨⟨ops,W,k,st,none⟩,E,w⟩ true E st.sl st a w where
 rel:=hr
 x:=Ext.refl E
 β:=⟨[],by simp⟩
 t0:=hr.tm
 cc:=fun _=>⟨fun _ _ _ _ _ _=>rfl,hr.env.sub⟩
theorem vj {id:Nat} {ops:Array Oper} {k:List It} {st:St} (W:Nat->Bool) (hm:X.P.follows .mixedOrders=true) (hc:zD ops W=true)
  (h:goD X ⟨ops,W,k,st,none⟩ 3000 true (nOps 0 ops.toList) st.sl st):qx X id ops k st:=by
 intro E a w hr;have kU:=kg hr;have hs:=qU kU (ops:=ops) (W:=W) (k:=k);refine iI (C:=CC E st.bx w.drew) (W:=W) (Q:=kq X k .normal) hm hc (fun a w h=>h) (hs.cc rfl) ?_;have:=eL (D:=⟨⟨ops,W,k,st,none⟩,E,w.drew⟩) kU.env.em 3000 true _ _ _ h (fun p hp=>by simpa using (qS _ _ p hp).2) E a w.drew hs;rw [qT] at this;rw [List.range_eq_range'];simp only [Array.length_toList] at this;exact this
def maskL:List Nat->Nat->List (List DV)->List (List DV)
 | _,_,[]=>[]
 | m,i,cs :: r=>(match m.contains i with | true=>[] | false=>cs) :: maskL m (i + 1) r
theorem n5 (m:List Nat):∀ (l:List (List DV)) (i:Nat),(maskL m i l).length=l.length
 | [],_=>rfl
 | cs :: r,i=>by simp [maskL,n5 m r]
theorem n7 (m:List Nat):∀ (l:List (List DV)) (i j:Nat) cs,(maskL m i l)[j]? = some cs->cs=[]∨l[j]? = some cs
 | [],_,_,_,h=>by simp [maskL] at h
 | c :: r,i,0,cs,h=>by grind [maskL]
 | c :: r,i,j + 1,cs,h=>by
  simp only [maskL,List.getElem?_cons_succ] at h ⊢;exact n7 m r (i + 1) j cs h
theorem fO {id:Nat} {ops:Array Oper} {k:List It} {st:St} (m:List Nat) (W:Nat->Bool) (hm:X.P.follows .mixedOrders=true) (hc:zD ops W=true)
  (h:goD X ⟨ops,W,k,⟨st.sl,maskL m 0 st.bx,st.tk⟩,none⟩ 3000 true (nOps 0 ops.toList) st.sl st):qx X id ops k st:=by
 intro E a w hr;have kU:=kg hr;have hs:eB X ⟨⟨ops,W,k,⟨st.sl,maskL m 0 st.bx,st.tk⟩,none⟩,E,w.drew⟩ true E st.sl st a w.drew:=⟨kU,Ext.refl E,⟨[],by simp⟩,kU.tm,fun _=>⟨fun _ _ _ _ _ _=>rfl,kU.env.sub⟩⟩;refine iI (C:=CC E (maskL m 0 st.bx) w.drew) (W:=W) (Q:=kq X k .normal) hm hc (fun a w h=>h) (hs.cc rfl) ?_
 have L5:qQ E (maskL m 0 st.bx) w.drew:=⟨by rw [n5];exact kU.env.len,fun i cs hi bi=>by
  rcases n7 m _ _ _ _ hi with h1 | h1
  ·exact (bi h1).elim
  ·exact kU.env.dn i cs h1⟩
 have:=eL (D:=⟨⟨ops,W,k,⟨st.sl,maskL m 0 st.bx,st.tk⟩,none⟩,E,w.drew⟩) L5 3000 true _ _ _ h (fun p hp=>by simpa using (qS _ _ p hp).2) E a w.drew hs;rw [qT] at this;rw [List.range_eq_range'];simp only [Array.length_toList] at this;exact this
def OM (ops:Array Oper) (i:Nat):Bool:=
 match ops.toList[i]? with
 | some o=>
  match o.op with
  | .store ..=>true
  | _=>false
 | none=>false
theorem Ix {id:Nat} {ops:Array Oper} {k:List It} {st:St} (hm:X.P.follows .mixedOrders=true) (hc:zD ops (OM ops)=true)
  (h:goD X ⟨ops,OM ops,k,st,none⟩ 3000 true (nOps 0 ops.toList) st.sl st):qx X id ops k st:=vj (OM ops) hm hc h
theorem mQ {D:Dr} {f:FuncId} {args aZ:List DV} {d:Nat} {r:List (Nat × Oper)} (iW:Enters X.P f) (hd:(eK X.nt st.sl (some d) && eK X.nt s0 (some d))=true) {Φ:DV->List (List DV)->List TkE->Prop} (hc:Ev X.P f aZ [] [] Φ) (ha:CcL [] 0 0 0 aZ args)
  (hk:∀ zH,Φ zH [] []->put2 s0 st (some d) false [] zH (goD X D 3000 c r)) (hst:X.still=false:=by exact rfl):tJ X D c i r f args (some d) s0 st:=by
 refine ⟨iW,fun hl E0 wr hD E a w vs h hv=>(oZ h.rel hst hc ha hv).mono ?_⟩;rintro e w' ⟨v,E',zH,rfl,bD,hr,hΦ,hm,hx,hβ⟩
 have hh:∀ b,b < w.heap.size->w'.heap[b]? = w.heap[b]?:=fun b hb=>hm.block b hb (by
  rintro (h1 | ⟨y,h1,_⟩)
  ·simp [En.cl] at h1
  ·simp [En.cl] at h1)
 have hs:El none E w E' w':=⟨hx,⟨[],by rw [hβ];simp⟩,fun j b hb _=>hh b (h.rel.env.aQ (mG hb))⟩;have hC:=BF h hs bD (fun j hj=>by cases hj);refine ⟨v,rfl,fun _=>hC,?_⟩;have xu:eB X ⟨D,E0,wr⟩ c E' s0 st (a.put none v) w':=qR h hs bD (fun h1=>hC (h.cc h1)) (fun i x hx=>.inr ⟨hx,fun d hd=>by cases hd⟩) rfl;obtain ⟨s1,nI,mn,di⟩:=fW xu hd false [] zH v (fun _ _ p hp=>by cases hp) (fun _=>hr) (fun hb=>by cases hb) (fun hn=>(hn (aM _)).elim) (hk zH hΦ);exact eL (D:=⟨D,E0,wr⟩) hD 3000 c r _ _ mn hl E' _ w' di
theorem Iy {D:Dr} {f:FuncId} {args aZ:List DV} {d:Nat} {r:List (Nat × Oper)} {zH:DV} (iW:Enters X.P f) (hc:aV X.P f aZ zH) (ha:CcL [] 0 0 0 aZ args) (hd:(eK X.nt st.sl (some d) && eK X.nt s0 (some d))=true)
  (hk:put2 s0 st (some d) false [] zH (goD X D 3000 c r)) (hst:X.still=false:=by exact rfl):tJ X D c i r f args (some d) s0 st:=
 mQ iW hd hc ha (fun _ hr=>hr ▸ hk) hst
end
end Dv
end Go.Proofs.YtfdedoiiahbnnaaGreat
namespace Go.Proofs.YtfdedoiiahbnnaaGreat
namespace Dv
open Go Go.RowKit
section
variable {P:Program} {ops:Array Oper} {C:World->Prop} {Q:Act->World->Prop} {W:Nat->Bool} {π π':Nat->Nat}
theorem CL {o:Oper} {i:Nat} {a:Act} {w:World} {K:Act->World->Prop} {Q':Exit->Act->World->Prop} (ho:ops[i]? = some o) (h:dD P ops o a w K):wpOp P ops Q' i K a w:=by
 unfold wpOp
 grind [dD,wZ]
def chkT (ops:Array Oper) (x y:Nat):Bool:=
 (List.range ops.size).all fun i=>Nat.beq i x || Nat.beq i y ||
  match ops[i]? with
  | some o=>!oX o.op || ordB ops ops.size x i
  | none=>false
def pH (x y:Nat):Nat->Nat->Bool:=fun j i=>Nat.beq j x && Nat.beq i y
theorem zI {x y:Nat} {Q':Exit->Act->World->Prop} (Ep:x≠y) (NK:pF ops W π=true) (ON:xn ops W π (pH x y)=true) (Sj:pF ops W π'=true) (OO:xn ops W π' (pH y x)=true) (hT:chkT ops x y=true)
  (hQ:∀ a w,Q a w->Q' .normal a w):∀ (mN:Nat) (bw:Array Bool) (r1 r2:List Nat) (a:Act) (w:World),
  bw.size=ops.size->Dn ops bw->(∀ i,i∈r1↔i < ops.size/\bw.getD i true=false)->(∀ i,i∈r2↔i < ops.size/\bw.getD i true=false)->r1.Pairwise (fun a b=>π a < π b)->r2.Pairwise (fun a b=>π' a < π' b)->r1.length<=mN ->
   x∈r1->y∈r1->C w->runT P ops W C Q r1 a w->runT P ops W C Q r2 a w->wpAny P .any ops Q' mN bw a w:=by
 have lQ:=xq NK;have HU:=vf NK;have L6:=vf Sj;have Tu:=ON;have Tv:=OO;simp only [xn,List.all_eq_true,List.mem_range,Bool.or_eq_true,Bool.not_eq_true'] at ON OO;intro mN
 induction mN with
 | zero=>grind
 | succ mN ih=>
  intro bw r1 r2 a w cR Si iw zt Er L7 hlen hx hy hC hr1 lu;have Wb:∀ i,i∈r1↔i∈r2:=fun i=>(iw i).trans (zt i).symm;have CM:r1.Nodup:=mq Er;have sO:r2.Nodup:=mq L7;have Fc:=tI NK;refine ⟨fun h0=>?_,fun i hi=>?_⟩
  ·cases r1 with
   | nil=>cases hx
   | cons h rem=>
    have hh:=(iw h).1 (by simp);have Wc:ops[h]? = some ops[h]:=Array.getElem?_eq_getElem hh.1
    have:h∈Region.ready .any ops bw:=by
     refine mem_ready.2 ⟨hh.2,_,Wc,fun e he hb=>?_⟩;obtain ⟨ap,L1⟩:=Fc h _ Wc e he hb;cases hg:bw.getD e.on false
     ·have Kd:bw.getD e.on true=false:=by grind
      have hm:=(iw e.on).2 ⟨by omega,Kd⟩;rcases cY hm with e1 | e1
      ·rw [e1] at ap;omega
      ·have:=(List.pairwise_cons.1 Er).1 _ e1;omega
     ·rfl
    rw [h0] at this;cases this
  ·obtain ⟨Tr,o,ho,gG⟩:=mem_ready.1 hi;have j9:=(Array.getElem?_eq_some_iff.1 ho).1;have Eo:i∈r1:=(iw i).2 ⟨j9,Tr⟩;have Iz:i∈r2:=(Wb i).1 Eo;have fi:∀ j,j∈r1->ordB ops ops.size j i=true->False:=by grind [kk]
   have IA:i≠y->∀ j∈r1,j≠i->π j < π i->mM ops W j i=true:=by
    intro NL j hj _ ap;rcases ON i j9 j ((iw j).1 hj).1 with ((h1 | h1) | h1) | h1
    ·have:¬ Nat.blt (π j) (π i)=true:=by simp [h1]
     simp at this;omega
    ·simp [pH] at h1;exact (NL h1.2).elim
    ·exact (fi j hj h1).elim
    ·exact h1
   have L8:i≠x->∀ j∈r2,j≠i->π' j < π' i->mM ops W j i=true:=by
    intro HW j hj _ ap;rcases OO i j9 j ((zt j).1 hj).1 with ((h1 | h1) | h1) | h1
    ·have:¬ Nat.blt (π' j) (π' i)=true:=by simp [h1]
     simp at this;omega
    ·simp [pH] at h1;exact (HW h1.2).elim
    all_goals grind
   have L9:Dn ops (bw.setIfInBounds i true):=by
    intro k z hz hk e he hb;by_cases sJ:k=i
    ·subst sJ;rw [ho] at hz;simp only [oI] at hz;subst hz;exact getD_set_true (gG e he hb)
    ·rw [getD_set_ne true (Ne.symm sJ)] at hk;exact getD_set_true (Si k z hz hk e he hb)
   have BG:∀ (rem:List Nat),rem.Nodup->(∀ i,i∈rem↔i < ops.size/\bw.getD i true=false)->∀ k,k∈rem.erase i↔k < ops.size/\(bw.setIfInBounds i true).getD k true=false:=by
    intro rem hnd Fe k;rw [List.Nodup.mem_erase_iff hnd];by_cases sJ:k=i
    ·subst sJ;simp [cR,j9]
    ·rw [getD_set_ne true (Ne.symm sJ)]
     grind
   refine CL ho ?_;by_cases HW:i=x
   ·subst HW;have hst:=ib lQ HU ho r1 a w (fun _=>hC) hr1 Eo (IA Ep) Er;refine hZ ?_ hst;rintro a' w' ⟨HV,kU⟩;refine lR (C:=C) (pH i y) NK Tu hQ mN _ (r1.erase i) a' w' (by simp [cR]) L9 (BG r1 CM iw) (Er.sublist List.erase_sublist) (by rw [List.length_erase_of_mem Eo];omega) ?_ ?_ kU
    ·intro j hj k _;cases gN:pH i y j k
     ·rfl
     ·simp_all [pH]
    ·rintro ⟨l,z,hl,hz,hL⟩;refine HV ?_ hC;have wE:=List.mem_of_mem_erase hl;have bi:l≠i:=((List.Nodup.mem_erase_iff CM).1 hl).1;rcases vg Er Eo wE bi.symm with h1 | h1
     ·exact HU i l z o h1 hz ho hL
     ·have:=IA Ep l wE bi h1;obtain ⟨_,_,_,h4⟩:=ia this hz ho
      grind
   ·by_cases NL:i=y
    ·subst NL;have hst:=ib lQ L6 ho r2 a w (fun _=>hC) lu Iz (L8 (Ne.symm Ep)) L7;refine hZ ?_ hst;rintro a' w' ⟨HV,kU⟩;refine lR (C:=C) (pH i x) Sj Tv hQ mN _ (r2.erase i) a' w' (by simp [cR]) L9 (BG r2 sO zt) (L7.sublist List.erase_sublist) ?_ ?_ ?_ kU
     ·have e1:r1.length=r2.length:=(List.perm_iff_count.2 (fun z=>by rw [CM.count,sO.count];simp [Wb z])).length_eq;rw [List.length_erase_of_mem Iz];omega
     ·intro j hj k _;cases gN:pH i x j k
      ·rfl
      ·simp_all [pH]
     ·rintro ⟨l,z,hl,hz,hL⟩;refine HV ?_ hC;have wE:=List.mem_of_mem_erase hl;have bi:l≠i:=((List.Nodup.mem_erase_iff sO).1 hl).1;rcases vg L7 Iz wE bi.symm with h1 | h1
      ·exact L6 i l z o h1 hz ho hL
      ·have:=L8 (Ne.symm Ep) l wE bi h1;obtain ⟨_,_,_,h4⟩:=ia this hz ho
       grind
    ·have Tm:oX o.op=false:=by
      simp only [chkT,List.all_eq_true,List.mem_range,Bool.or_eq_true,Nat.beq_eq] at hT
      grind
     obtain ⟨v,Tw⟩:=lP lQ ho Tm r1 a w hr1 Eo (IA NL) Er;have N7:=ib lQ HU ho r1 a w (fun _=>hC) hr1 Eo (IA NL) Er;have zq:=ib lQ L6 ho r2 a w (fun _=>hC) lu Iz (L8 HW) L7;have mn:=kj Tw (fun _=>hC) N7;have Fh:=kj Tw (fun _=>hC) zq;refine ki Tw (fun _=>hC) ?_
     exact ih _ (r1.erase i) (r2.erase i) _ w (by simp [cR]) L9 (BG r1 CM iw) (BG r2 sO zt) (Er.sublist List.erase_sublist) (L7.sublist List.erase_sublist) (by rw [List.length_erase_of_mem Eo];omega)
      ((List.Nodup.mem_erase_iff CM).2 ⟨Ne.symm HW,hx⟩) ((List.Nodup.mem_erase_iff CM).2 ⟨Ne.symm NL,hy⟩) hC mn.2 Fh.2
end
def selL (ops:List Oper):List Nat->List (Nat × Oper)
 | []=>[]
 | i :: r=>
  match ops[i]? with
  | some o=>(i,o) :: selL ops r
  | none=>selL ops r
theorem Fi {ops:List Oper} {l:List Nat} {p:Nat × Oper} (h:p∈selL ops l):ops[p.1]? = some p.2:=by
 induction l with
 | nil=>cases h
 | cons i r ih=>grind [selL]
def plc:List Nat->Nat->Nat
 | [],_=>0
 | x :: r,i=>if Nat.beq x i then 0 else plc r i + 1
def Fj (ops:Array Oper) (l:List Nat):Bool:=
 (selL ops.toList l).map (·.1) == l && (List.range ops.size).all (fun i=>l.contains i) && l.all (fun i=>Nat.blt i ops.size) && Nat.ble l.length ops.size && Sk (plc l) l
where Sk (f:Nat->Nat):List Nat->Bool
 | []=>true
 | x :: r=>r.all (fun y=>Nat.blt (f x) (f y)) && Sk f r
theorem qV {f:Nat->Nat}:∀ {l:List Nat},Fj.Sk f l=true->l.Pairwise (fun a b=>f a < f b)
 | [],_=>List.Pairwise.nil
 | x :: r,h=>by
  simp only [Fj.Sk,bA,List.all_eq_true,Nat.blt_eq] at h;exact List.pairwise_cons.2 ⟨h.1,qV h.2⟩
def OP (ops:Array Oper) (W:Nat->Bool) (l l':List Nat) (x y:Nat):Bool:=
 !Nat.beq x y && Nat.blt x ops.size && Nat.blt y ops.size && Fj ops l && Fj ops l' && pF ops W (plc l) && xn ops W (plc l) (pH x y) && pF ops W (plc l') && xn ops W (plc l') (pH y x) && chkT ops x y
def swp (i j k:Nat):Nat:=
 match Nat.beq k i with
 | true=>j
 | false=>
  match Nat.beq k j with
  | true=>i
  | false=>k
theorem jH (i j k:Nat):swp i j (swp i j k)=k:=by
 have hb:∀ a b:Nat,Nat.beq a b=decide (a=b):=fun a b=>by
  by_cases h:a=b
  ·subst h;simp
  ·rw [decide_eq_false h];cases h1:Nat.beq a b
   ·rfl
   ·exact (h (sU h1)).elim
 grind [swp]
mutual
def renD (f:Nat->Nat):DV->DV
 | .v x=>.v x
 | .ud=>.ud
 | .agg l=>.agg (renL f l)
 | .bS l=>.bS (renL f l)
 | .sl e es tk=>.sl e es tk
 | .pt cs o=>.pt cs o
 | .loc i o=>.loc (f i) o
 | .el i o=>.el (f i) o
 | .ms i e o l c=>.ms (f i) e o l c
 | .fn g l r=>.fn g (renL f l) (renL f r)
 | .lH t x=>.lH t (renD f x)
def renL (f:Nat->Nat):List DV->List DV
 | []=>[]
 | d :: r=>renD f d :: renL f r
end
def renS (f:Nat->Nat):List (Nat × Sl)->List (Nat × Sl)
 | []=>[]
 | (k,⟨gs,s⟩) :: r=>(k,⟨gs,renD f s⟩) :: renS f r
def renO (f:Nat->Nat):List (List DV)->List (List DV)
 | []=>[]
 | cs :: r=>renL f cs :: renO f r
def swL {α:Type} (i j:Nat) (l:List α):List α:=
 match l[i]?,l[j]? with
 | some a,some b=>(l.set i b).set j a
 | _,_=>l
def ei (i j:Nat) (S:St):St:=⟨renS (swp i j) S.sl,swL i j (renO (swp i j) S.bx),S.tk⟩
theorem qW (f:Nat->Nat):∀ (l:List (List DV)) (k:Nat),(renO f l)[k]? = (l[k]?).map (renL f)
 | [],k=>by simp [renO]
 | c :: r,0=>by simp [renO]
 | c :: r,k + 1=>by simp only [renO,List.getElem?_cons_succ];exact qW f r k
theorem dj (f:Nat->Nat):∀ (l:List (List DV)),(renO f l).length=l.length
 | []=>rfl
 | c :: r=>by simp [renO,dj f r]
theorem xx (f:Nat->Nat):∀ (l:List (Nat × Sl)) (k:Nat),get (renS f l) k=(get l k).map fun x=>⟨x.gs,renD f x.s⟩
 | [],k=>rfl
 | (i,⟨gs,s⟩) :: r,k=>by
  simp only [renS,ct];split
  ·rfl
  ·exact xx f r k
theorem dH {α:Type} (i j:Nat) (l:List α):(swL i j l).length=l.length:=by
 unfold swL;split<;>simp
theorem er {α:Type} {i j:Nat} {l:List α} (hi:i < l.length) (hj:j < l.length) (k:Nat):(swL i j l)[k]? = l[swp i j k]?:=by
 have hb:∀ a b:Nat,Nat.beq a b=true↔a=b:=fun a b=>by simp
 grind [swL,swp]
theorem IB {α:Type} {i j:Nat} {l:List α} (hi:i < l.length) (hj:j < l.length):swL i j (swL i j l)=l:=by
 apply List.ext_getElem?
 grind [er,dH,jH]
section
variable {E:En} {i j:Nat}
mutual
theorem Rv.zJ (hi:i < E.β.length) (hj:j < E.β.length):∀ {d:DV} {v:Value},Rv E (renD (swp i j) d) v->Rv ⟨E.c,swL i j E.β,E.tk,E.τ⟩ d v
 | .v x,v,h=>by simp only [renD] at h;unfold Rv at h ⊢;exact h
 | .ud,v,h=>by simp only [renD] at h;unfold Rv at h ⊢;exact h
 | .sl e es tk,v,h=>by simp only [renD] at h;unfold Rv at h ⊢;exact h
 | .pt cs o,v,h=>by simp only [renD] at h;unfold Rv at h ⊢;exact h
 | .loc k o,v,h=>by grind [renD,Rv,swL,er]
 | .el k o,v,h=>by grind [renD,Rv,swL,er]
 | .ms k e o l c,v,h=>by grind [renD,Rv,swL,er]
 | .agg l,v,h=>by
  simp only [renD] at h;unfold Rv at h ⊢;obtain ⟨vs,h1,h2,h3⟩:=h;exact ⟨vs,h1,RvL.zJ hi hj h2,h3⟩
 | .bS l,v,h=>by
  simp only [renD] at h;unfold Rv at h ⊢;obtain ⟨vs,h1,h2⟩:=h;exact ⟨vs,h1,RvL.zJ hi hj h2⟩
 | .fn g l r,v,h=>by
  simp only [renD] at h;unfold Rv at h ⊢;obtain ⟨l',r',h1,h2,h3⟩:=h;exact ⟨l',r',h1,RvL.zJ hi hj h2,RvL.zJ hi hj h3⟩
 | .lH t x,v,h=>by
  simp only [renD] at h;unfold Rv at h ⊢;obtain ⟨z,h1,h2⟩:=h;exact ⟨z,h1,Rv.zJ hi hj h2⟩
theorem RvL.zJ (hi:i < E.β.length) (hj:j < E.β.length):∀ {l:List DV} {vs:List Value},RvL E (renL (swp i j) l) vs->RvL ⟨E.c,swL i j E.β,E.tk,E.τ⟩ l vs
 | [],vs,h=>by simp only [renL,RvL] at h ⊢;exact h
 | d :: r,vs,h=>by
  simp only [renL,RvL] at h ⊢;obtain ⟨v,s,h1,h2,h3⟩:=h;exact ⟨v,s,h1,Rv.zJ hi hj h2,RvL.zJ hi hj h3⟩
end
end
theorem BH {α:Type} {i j:Nat} {l:List α} (hi:i < l.length) (hj:j < l.length) {x:α}:x∈swL i j l↔x∈l:=by grind [swL,er,dH,IB]
theorem CN {i j:Nat} {l:List Nat} (hi:i < l.length) (hj:j < l.length) (h:l.Nodup):(swL i j l).Nodup:=by grind [swp,dH,swL,er,jH]
theorem n8 {P:Program} {ops:Array Oper} {W:Nat->Bool} {C:World->Prop} {Q Q':Act->World->Prop} (hQ:∀ a w,Q a w->Q' a w):∀ {l:List Nat} {a:Act} {w:World},runT P ops W C Q l a w->runT P ops W C Q' l a w
 | [],a,w,h=>hQ _ _ h
 | i :: r,a,w,h=>by
  simp only [runT] at h ⊢;split at h
  ·exact h.elim
  ·split at h
   ·rename_i hE;rw [zIfP hE];exact hZ (fun a w hk=>⟨hk.1,n8 hQ hk.2⟩) h
   ·rename_i hE;rw [ah hE];obtain ⟨v,h1,h2,h3⟩:=h;exact ⟨v,h1,h2,n8 hQ h3⟩
section
variable {X:Ctx} {E:En} {S:St} {a:Act} {w:World} {i j:Nat}
theorem xy (hX:X.bt=[]) (h:Rel X E (ei i j S) a w) (EO:X.n0<=i) (wX:X.n0<=j) (hi:i < S.bx.length) (hj:j < S.bx.length):Rel X ⟨E.c,swL i j E.β,E.tk,E.τ⟩ S a w:=by
 have hlen:E.β.length=S.bx.length:=by
  rw [h.env.len];simp only [ei,dH,dj]
 have j9:i < E.β.length:=by rw [hlen];exact hi
 have gN:j < E.β.length:=by rw [hlen];exact hj
 have kT:∀ k,(ei i j S).bx[k]? = (S.bx[swp i j k]?).map (renL (swp i j)):=fun k=>by grind [ei,er,dj,qW]
 exact {
  env:={
   len:=by rw [dH];exact hlen
   tl:=h.env.tl
   dn:=fun k cs hk=>by
    obtain ⟨b,ty,arr,hb,hw,hc⟩:=h.env.dn (swp i j k) (renL (swp i j) cs) (by rw [kT,jH,hk];rfl);exact ⟨b,ty,arr,by rw [er j9 gN];exact hb,hw,RvL.zJ j9 gN hc.1,hc.2⟩
   inj:=CN j9 gN h.env.inj
   sub:=h.env.sub
   pc:=fun x v hx hm=>h.env.pc x v hx ((BH j9 gN).1 hm)
   b9:=fun k q y hq hy=>by
    rcases h.env.b9 k q y hq hy with h1 | ⟨g,cap,cur,rfl,h1,h2,h3,h4,h5,h6⟩
    ·exact .inl h1
    ·exact .inr ⟨g,cap,cur,rfl,h1,h2,h3,h4,fun hm=>h5 ((BH j9 gN).1 hm),h6⟩
   gp:=h.env.gp }
  tk:=h.tk
  sz:=h.sz
  tm:=fun k x hx=>by
   have:=h.tm k ⟨x.gs,renD (swp i j) x.s⟩ (by simp only [ei];rw [xx,hx];rfl)
   grind [Rv.zJ]
  df:=h.df
  nw:={
   c:=h.nw.c
   cn:=h.nw.cn
   β:=by
    obtain ⟨r,hr,hl⟩:=h.nw.β;have Sm:X.E0.β.length=X.n0:=X.ti;refine ⟨(swL i j E.β).drop X.n0,?_,fun b hb=>?_⟩
    ·grind [swL,er,swp]
    ·have hnd:=h.env.inj;obtain ⟨k,hk⟩:=List.mem_iff_getElem?.1 hb;rw [List.getElem?_drop,er j9 gN] at hk;have hge:X.n0<=swp i j (X.n0 + k):=by grind [swp]
     rw [hr,List.getElem?_append_right (by omega)] at hk;exact hl b (mG hk)
   tk:=h.nw.tk
   tn:=h.nw.tn
   l0:=h.nw.l0 }
  fr:=h.fr
  sh:=h.sh
  bt:=.nil hX }
theorem BI (hX:X.bt=[]) (h:Rel X E (ei i j S) a w) (EO:X.n0<=i) (wX:X.n0<=j) (hi:i < S.bx.length) (hj:j < S.bx.length):∃ E',Rel X E' S a w:=⟨_,xy hX h EO wX hi hj⟩
end
def BJ (sl:List (Nat × Sl)):List (Nat × Sl)->Prop
 | []=>True
 | p :: r=>get sl p.1=some p.2/\BJ sl r
theorem qX {sl:List (Nat × Sl)}:∀ {l:List (Nat × Sl)},BJ sl l->∀ i x,get l i=some x->get sl i=some x
 | [],_,i,x,hx=>by cases hx
 | (k,y) :: r,h,i,x,hx=>by
  simp only [ct] at hx;split at hx
  ·rename_i sJ;subst sJ;simp only [oI] at hx;subst hx;exact h.1
  ·exact qX h.2 i x hx
def uniqS:List Nat->List (Nat × Sl)->List (Nat × Sl)
 | _,[]=>[]
 | m,p :: r=>
  match muB m p.1 with
  | true=>uniqS m r
  | false=>p :: uniqS (p.1 :: m) r
theorem n9:∀ (l:List (Nat × Sl)) (m:List Nat) (i:Nat),muB m i=false->get (uniqS m l) i=get l i
 | [],_,_,_=>rfl
 | (k,x) :: r,m,i,h=>by
  simp only [uniqS]
  cases hm:muB m k with
  | true=>
   simp only;rw [n9 r m i h,ct,ah];rintro rfl;rw [hm] at h;cases h
  | false=>
   simp only [ct];by_cases hk:k=i
   ·rw [zIfP hk,zIfP hk]
   ·rw [ah hk,ah hk]
    exact n9 r (k :: m) i (by simp only [muB,h,Bool.or_false];cases hb:Nat.beq k i with
     | true=>exact (hk (Nat.eq_of_beq_eq_true hb)).elim
     | false=>rfl)
def vk (s S:St):Prop:=s.bx=S.bx/\s.tk=S.tk/\BJ s.sl (uniqS [] S.sl)
theorem Fk {X:Ctx} {E:En} {s S:St} {a:Act} {w:World} (h:Rel X E s a w) (hs:vk s S):Rel X E S a w where
 env:=by rw [<- hs.1];exact h.env
 tk:=by rw [<- hs.2.1];exact h.tk
 sz:=h.sz
 tm:=fun i x hx=>h.tm i x (qX hs.2.2 i x (by rw [n9 _ _ _ rfl];exact hx))
 df:=h.df
 nw:=h.nw
 fr:=h.fr
 sh:=h.sh
 bt:=h.bt
theorem kV {X:Ctx} {id:Nat} {ops:Array Oper} {k:List It} {st:St} (W:Nat->Bool) (x y:Nat) (l l':List Nat) (i j:Nat) (hm:X.P.follows .mixedOrders=true) (hc:OP ops W l l' x y=true) (S:St)
  (h:goD X ⟨ops,W,[.y8 fun s=>s=S],st,none⟩ 3000 true (selL ops.toList l) st.sl st) (h':goD X ⟨ops,W,[.y8 fun s=>vk s (ei i j S)],st,none⟩ 3000 true (selL ops.toList l') st.sl st)
  (wy:(Nat.ble X.n0 i && Nat.ble X.n0 j && Nat.blt i S.bx.length && Nat.blt j S.bx.length)=true) (hk:go X 4000 k S) (hX:X.bt=[]:=by exact rfl):qx X id ops k st:=by
 intro E a w hr;have kU:=kg hr;simp only [bA,Nat.ble_eq,Nat.blt_eq] at wy;simp only [OP,Fj,bA,List.all_eq_true,Nat.blt_eq,Nat.ble_eq,beq_iff_eq,List.mem_range,Bool.not_eq_true'] at hc;obtain ⟨⟨⟨⟨⟨⟨⟨⟨⟨Ep,BB⟩,N8⟩,⟨⟨⟨h1a,NM⟩,h1c⟩,hlen⟩,h1d⟩,⟨⟨⟨h2a,Tx⟩,h2c⟩,_⟩,h2d⟩,NK⟩,ON⟩,Sj⟩,OO⟩,hT⟩:=hc
 have hQ:∀ S',(S'=S∨S'=ei i j S)->∀ a w,(∃ st E,Rel X E st a w/\(st=S' ∨ vk st S'))->kq X k .normal a w:=by
  rintro S' hS a w ⟨nI,E1,Wf,wV⟩;have bD:Rel X E1 S' a w:=by grind [Fk]
  rcases hS with rfl | rfl
  ·exact go_sound 4000 _ _ hk E1 a w bD
  ·obtain ⟨E2,xk⟩:=BI hX bD wy.1.1.1 wy.1.1.2 wy.1.2 wy.2;exact go_sound 4000 _ _ hk E2 a w xk
 have key:∀ (S':St),(S'=S∨S'=ei i j S)->∀ (l:List Nat),(selL ops.toList l).map (·.1)=l->∀ J:St->Prop,(∀ s,J s->s=S' ∨ vk s S')->(goD X ⟨ops,W,[.y8 J],st,none⟩ 3000 true (selL ops.toList l) st.sl st) ->
   runT X.P ops W (CC E st.bx w.drew) (fun a w=>kq X k .normal a w) l a w.drew:=by
  intro S' hS l hl J hJ h;have hs:=qU kU (ops:=ops) (W:=W) (k:=[.y8 J]);have:=eL (D:=⟨⟨ops,W,[.y8 J],st,none⟩,E,w.drew⟩) kU.env.em 3000 true _ _ _ h (fun p hp=>by simpa using Fi hp) E a w.drew hs;rw [hl] at this;exact n8 (fun a w ⟨st,E1,h1,h2⟩=>hQ S' hS a w ⟨st,E1,h1,hJ st h2⟩) this
 have e1:=key S (.inl rfl) l h1a _ (fun s hs=>.inl hs) h;have e2:=key (ei i j S) (.inr rfl) l' h2a _ (fun s hs=>.inr hs) h';refine wp_region_any hm ?_
 have HX:∀ (l:List Nat),(∀ i,i < ops.size->l.contains i=true)->(∀ i∈l,i < ops.size)->∀ i,i∈l↔i < ops.size/\(Array.replicate ops.size false).getD i true=false:=by
  intro l ha hb i;constructor
  all_goals simp_all
 have Tz:x≠y:=by
  intro e;subst e;simp at Ep
 refine zI (C:=CC E st.bx w.drew) (π:=plc l) (π':=plc l') (Q:=kq X k .normal) Tz NK ON Sj OO hT (fun a w h=>h) ops.size (Array.replicate ops.size false) l l' a _ (by simp) ?_ (HX l NM h1c) (HX l' Tx h2c) (qV h1d) (qV h2d) hlen
  (by simpa using NM x BB) (by simpa using NM y N8) ⟨fun _ _ _ _ _ _=>rfl,kU.env.sub⟩ e1 e2
 intro i o ho hl;have:i < ops.size:=(Array.getElem?_eq_some_iff.1 ho).1;simp [this] at hl
end Dv
end Go.Proofs.YtfdedoiiahbnnaaGreat
namespace Go.Proofs.YtfdedoiiahbnnaaGreat
namespace Dv
open Go Go.RowKit
section
variable {X:Ctx} {st:St} {k:List It} {E:En} {a:Act} {w:World}
noncomputable def En.zd (E:En) (w:World):En:=⟨nY E 0 w,[],[],[]⟩
theorem IC {bx:List (List DV)} (h:Env E bx w):Env (E.zd w) [] w where
 len:=rfl
 tl:=rfl
 dn:=by simp
 inj:=List.nodup_nil
 sub:=fun x u hx=>by
  rcases dp hx with ⟨_,h1⟩ | h1
  ·exact h1
  ·exact h.sub x u h1
 pc:=by simp [En.zd]
 b9:=by simp [En.zd]
 gp:=by simp [En.zd]
theorem ID {bx:List (List DV)} (h:Env E bx w):Em E (E.zd w) bx 0 where
 c:=fun x u hx=>jF h hx
 fz:=fun i cs hi cm=>by
  obtain ⟨b,ty,arr,hb,hw,hc⟩:=h.dn i cs cm;refine ⟨b,arr,hb,hc,fun j u hj=>?_⟩;show nY E 0 w ⟨b,j,none⟩=some u;unfold nY;rw [zIfP ⟨i,hi,hb⟩,bX hw];simpa using hj
theorem gI {P:Program} {s:Bool} {bx:List (List DV)} (h:Env E bx w) {f:FuncId} {args aZ:List DV} {vs:List Value} {y:DV} (hc:NH s P f aZ [] [] fun d _ _=>d=y) (ha:CcL bx 0 0 0 aZ args) (hv:RvL E args vs) :
  Calls P f vs.toArray w fun e w'=>∃ v E2,e = .returned v/\Rv E2 y v/\mv (fun _=>False) w w' /\ (s=true->∃ q,w'=w.drewN q):=by
 have Lq:RvL (E.zd w) aZ vs:=CcL.sound (ID h) (BC.zero _ _) ha hv;refine (hc (E.zd w) w vs (IC h) rfl Lq).mono ?_;rintro e w' ⟨v,rfl,hm,hs,d,os,E2,he,hβ,nH,hn,LS,rfl⟩;refine ⟨v,E2,rfl,LS,⟨hm.os,hm.tape,hm.output,hm.size,fun i hi _=>hm.block i hi ?_⟩,hs⟩;rintro (h1 | ⟨y,h1,_⟩)
 ·simp [En.zd] at h1
 ·simp [En.zd] at h1
theorem vl {f:FuncId} {args aZ:List DV} {d:Nat} {y:Value} (iW:Enters X.P f) (hc:aV X.P f aZ (.v y)) (ha:CcL st.bx 0 0 0 aZ args) (hd:eK X.nt st.sl (some d)=true)
  (hk:go X 4000 k ⟨(d,⟨[],.v y⟩) :: st.sl,st.bx,st.tk⟩) (hst:X.still=false:=by exact rfl):CallG X f args (some d) k st:=by
 refine ⟨iW,hst,fun E a w vs h hv=>(gI h.env hc ha hv).mono ?_⟩;rintro e w' ⟨v,E2,rfl,hr,hm,_⟩;have hh:∀ i,i < w.heap.size->w'.heap[i]? = w.heap[i]?:=fun i hi=>hm.block i hi (fun h=>h);have bD:Rel X E st a w':=cy h (Ext.refl E) (h.env.fx hh) h.tk h.nw (h.fr.bN hm.os hm.tape hm.output hm.size fun i hi=>.inr (hh i hi)) (ln hst) (h.bt.fx fun b hb=>hh b (h.env.aQ hb));unfold Rv at hr;exact go_sound 4000 _ _ hk E _ w' (bl bD hd (.v y) v (by unfold Rv;exact hr))
end
end Dv
end Go.Proofs.YtfdedoiiahbnnaaGreat
namespace Go.Proofs.YtfdedoiiahbnnaaGreat
namespace Dv
open Go Go.RowKit
def Fl (bx:List (List DV)) (N m:Nat) (sl:List (Nat × Sl)):List (Nat × Sl)->Prop
 | []=>True
 | p :: r=>(∃ x,get sl p.1=some ⟨p.2.gs,x⟩/\Cc bx N N m p.2.s x)/\Fl bx N m sl r
theorem tK {bx:List (List DV)} {N m:Nat} {sl:List (Nat × Sl)}:∀ {l:List (Nat × Sl)},Fl bx N m sl l->∀ i x',get l i=some x' -> ∃ x,get sl i=some ⟨x'.gs,x⟩/\Cc bx N N m x'.s x
 | [],_,i,x',hx=>by cases hx
 | (k,y) :: r,h,i,x',hx=>by
  simp only [ct] at hx;split at hx
  ·rename_i sJ;subst sJ;simp only [oI] at hx;subst hx;exact h.1
  ·exact tK h.2 i x' hx
section
variable {X:Ctx} {E:En} {st st':St} {a:Act} {w:World} {k:List It}
theorem BK (h:Rel X E st a w) (N:Nat) (hN:X.n0<=N) (zK:N<=st.bx.length) (kT:jy st.bx N N st.tk.length st'.bx (st.bx.take N)) (nH:st'.tk=st.tk) (nV:Fl st.bx N st.tk.length st.sl st'.sl):∃ E',Rel X E' st' a w:=by
 obtain ⟨r,LO,Tg⟩:=h.nw.β;have hlen:E.β.length=st.bx.length:=h.env.len
 have cG:∀ (i:Nat) b,X.n0<=i->E.β[i]? = some b->b∈r:=fun i b hi hb=>by
  rw [LO,List.getElem?_append_right (by rw [X.ti];exact hi)] at hb;exact mG hb
 let E':En:=⟨nY E N w,E.β.take N,E.tk,E.τ⟩
 have Ik:Em E E' st.bx N:={
  c:=fun x u hx=>jF h.env hx
  fz:=fun i cs hi cm=>by
   obtain ⟨b,ty,arr,hb,hw,hc⟩:=h.env.dn i cs cm;refine ⟨b,arr,hb,hc,fun j u hj=>?_⟩;show nY E N w ⟨b,j,none⟩=some u;unfold nY;rw [zIfP ⟨i,hi,hb⟩,bX hw]
   simpa using hj }
 have vc:BC E E' N st.tk.length:={
  β:=fun i b hi hb=>by show (E.β.take N)[i]? = _;rw [bM,zIfP hi];exact hb
  tk:=fun k hk=>⟨rfl,rfl⟩ }
 have LP:∀ (i:Nat) b,N<=i->E.β[i]? = some b->b ∉ E.β.take N:=fun i b hi hb hm=>by
  obtain ⟨j,hj⟩:=List.getElem?_of_mem hm;rw [bM] at hj;split at hj
  ·rename_i hjN;have:=(List.getElem?_inj (gS hb).1 h.env.inj).1 (hb.trans hj.symm);omega
  ·cases hj
 obtain ⟨iY,Ox⟩:=kT.get;refine ⟨E',?_⟩
 exact {
  env:={
   len:=by grind
   tl:=h.env.tl
   dn:=fun i cs' hi=>by
    obtain ⟨cs,cm,pV⟩:=Ox i cs' hi;rw [bM] at cm;split at cm
    ·rename_i ap;obtain ⟨b,ty,arr,hb,hw,hc⟩:=h.env.dn i cs cm;exact ⟨b,ty,arr,vc.β i b ap hb,hw,CcL.sound Ik vc pV hc.1,hc.2⟩
    ·cases cm
   inj:=h.env.inj.sublist (List.take_sublist _ _)
   sub:=fun x u hx=>by
    rcases dp hx with ⟨_,h1⟩ | h1
    ·exact h1
    ·exact h.env.sub x u h1
   pc:=fun x u hx hm=>by
    rcases dp hx with ⟨⟨i,hi,hb⟩,_⟩ | h1
    ·exact LP i _ hi hb hm
    ·exact h.env.pc x u h1 (List.mem_of_mem_take hm)
   b9:=fun k q y hq hy=>by
    rcases h.env.b9 k q y hq hy with h1 | ⟨g,cap,cur,rfl,h1,h2,h3,h4,h5,h6⟩
    ·exact .inl h1
    ·refine .inr ⟨g,cap,cur,rfl,h1,⟨h2.1,h2.2.mono fun _ _ hx=>jF h.env hx⟩,h3,h4,fun hm=>h5 (List.mem_of_mem_take hm),fun x u hx hg=>?_⟩;rcases dp hx with ⟨⟨i,hi,hb⟩,_⟩ | h7
     all_goals grind
   gp:=h.env.gp }
  tk:=by rw [nH];exact h.tk
  sz:=h.sz
  tm:=fun i x' tq=>by
   obtain ⟨x,hx,pV⟩:=tK nV i x' tq;have:=h.tm i _ hx
   grind [Cc.sound]
  df:=h.df
  nw:={
   c:=fun x u hx=>jF h.env (h.nw.c x u hx)
   cn:=fun x u hx=>by
    rcases dp hx with ⟨⟨i,hi,hb⟩,_⟩ | h1
    ·grind
    ·exact h.nw.cn x u h1
   β:=by
    refine ⟨r.take (N - X.n0),?_,fun b hb=>Tg b (List.mem_of_mem_take hb)⟩;show E.β.take N=_;rw [LO,List.take_append,List.take_of_length_le (by rw [X.ti];omega),X.ti]
   tk:=h.nw.tk
   tn:=h.nw.tn
   l0:=h.nw.l0 }
  fr:=h.fr
  sh:=h.sh
  bt:=h.bt.sub _ }
theorem Fm {c:Code} (N:Nat) (nI:St) (hN:Nat.ble X.n0 N=true) (zK:Nat.ble N st.bx.length=true) (nH:nI.tk=st.tk) (kT:jy st.bx N N st.tk.length nI.bx (st.bx.take N)) (nV:Fl st.bx N st.tk.length st.sl nI.sl)
  (hk:oU X c k nI):oU X c k st:=by
 intro E a w h;obtain ⟨E',h'⟩:=BK h N (nL hN) (nL zK) kT nH nV;exact hk E' a w h'
theorem eS {n0 m0:Nat} {st st':St} (n:Nat) (q:TkE) (hq:q.new=true) (hn:Nat.ble n st.bx.length=true) (h3:st.tk ++ [q]=st'.tk) (h2:WeLL n st.tk.length st'.tk (st.bx.take n) st'.bx) (h4:Nat.ble n0 n=true) (h5:Nat.ble m0 st.tk.length=true)
  (h:kh n st.tk.length st'.tk st.sl st'.sl):mL n0 m0 st st':=by
 have hl:(st.bx.take n).length=n:=by simp_all
 exact ⟨st.tk,[],[q],st.bx.take n,st.bx.drop n,by simpa using h5,by rw [hl];simpa using h4,by simp,h3.symm,by simpa using hq,(List.take_append_drop n st.bx).symm,by rw [hl];exact h2,by rw [hl];exact h⟩
end
end Dv
end Go.Proofs.YtfdedoiiahbnnaaGreat
namespace Go.Proofs.YtfdedoiiahbnnaaGreat
namespace Dv
open Go Go.RowKit
section
variable {X:Ctx} {st:St} {k:List It} {E:En} {a:Act} {w:World}
theorem jI {f:FuncId} {rest Fo cs cs':List DV} {i d:Nat} (iW:Enters X.P f) (hd:eK X.nt st.sl (some d)=true) (kT:st.bx[i]? = some cs) (cm:CcL [] 0 0 0 cs' cs) (ha:CcL [] 0 0 0 Fo rest)
  {Φ:DV->List (List DV)->List TkE->Prop} (hc:Ev X.P f (.loc 0 0 :: Fo) [cs'] [] Φ) (gM:∀ r os tk,Φ r os tk->clB 0 0 r=true/\∀ oa∈os,clB.clL 0 0 oa=true)
  (hk:∀ r oa,Φ r [oa] []->go X 4000 k ⟨(d,⟨[],r⟩) :: st.sl,st.bx.set i oa,st.tk⟩) (hst:X.still=false:=by exact rfl) (hX:X.bt=[]:=by exact rfl):CallG X f (.loc i 0 :: rest) (some d) k st:=by
 refine ⟨iW,hst,fun E a w vs h hv=>?_⟩;simp only [RvL] at hv;obtain ⟨v1,vr,rfl,h1,hvr⟩:=hv;unfold Rv at h1;obtain ⟨b,hb,rfl⟩:=h1;obtain ⟨b',ty,arr,ee,hw,pV⟩:=h.env.dn i cs kT;rw [hb] at ee;simp only [oI] at ee;subst ee;have wF:b∈E.β:=mG hb;have Ma:=h.env.aQ wF
 let E1:En:=⟨E.c,[b],[],[]⟩
 have hx1:Ext E.cl E1:=⟨fun _ _ h=>h,fun j b hj=>by simp [En.cl] at hj,fun k q hk=>by simp [En.cl] at hk⟩;have hfz:Em E E.cl [] 0:=⟨fun _ _ h=>h,fun i cs _ hi=>by simp at hi⟩
 have OQ:Env E1 [cs'] w:={
  len:=rfl
  tl:=rfl
  dn:=fun j OR hj=>by
   cases j with
   | succ j=>simp at hj
   | zero=>
    simp only [List.getElem?_cons_zero,oI] at hj;subst hj;refine ⟨b,ty,arr,rfl,hw,RvL.mono hx1 (CcL.sound hfz (BC.zero _ _) cm pV.1),pV.2⟩
  inj:=by simp [E1]
  sub:=h.env.sub
  pc:=fun x v hx hm=>by
   simp only [E1,List.mem_singleton] at hm;exact h.env.pc x v hx (by rw [hm];exact wF)
  b9:=by simp [E1]
  gp:=by simp [E1] }
 have pU:RvL E1 (.loc 0 0 :: Fo) (.pointer (some ⟨b,0,none⟩) :: vr):=rvL_cons (by unfold Rv;exact ⟨b,rfl,rfl⟩) (RvL.mono hx1 (CcL.sound hfz (BC.zero _ _) ha hvr));refine (hc E1 w _ OQ rfl pU).mono ?_;rintro e w' ⟨v,rfl,hm,_,r,os,E2,he,hβ,nH,hn,LS,hΦ⟩;have ht0:E2.tk=[]:=List.eq_nil_of_length_eq_zero nH;rw [ht0] at hΦ
 obtain ⟨oa,rfl⟩:∃ oa,os=[oa]:=by
  have:=he.len;rw [hβ] at this
  match os,this with
  | [x],_=>exact ⟨x,rfl⟩
 obtain ⟨TA,TB⟩:=gM _ _ _ hΦ
 have hh:∀ j,j < w.heap.size->j≠b->w'.heap[j]? = w.heap[j]?:=fun j hj bi=>hm.block j hj (by
  rintro (h1 | ⟨y,h1,_⟩)
  ·simp only [E1,List.mem_singleton] at h1;exact bi h1
  ·simp [E1] at h1)
 have cG:∀ x v,E2.c x=some v->E.c x=some v∨w.heap.size<=x.block:=fun x v hx=>by
  rcases hn.cn x v hx with h1 | h1 | ⟨y,h1,_⟩
  ·exact .inl h1
  ·exact .inr h1
  ·simp [E1] at h1
 let E':En:=⟨E2.c,E.β,E.tk,E.τ⟩
 have hx:Ext E E':=⟨hn.c,fun _ _ h=>h,fun _ q h=>⟨q,h,.inl ⟨rfl,rfl⟩⟩⟩;have CO:Ext (E2.cut 0 0) E':=⟨fun _ _ h=>h,fun j b hj=>by simp [En.cut] at hj,fun k q hk=>by simp [En.cut] at hk⟩
 have bD:Rel X E' ⟨st.sl,st.bx.set i oa,st.tk⟩ a w':=by
  refine cy h hx ?_ h.tk ?_ (h.fr.bN hm.os hm.tape hm.output hm.size fun j hj=>?_) (ln hst) (.nil hX)
  ·exact {
    len:=by rw [List.length_set];exact h.env.len
    tl:=h.env.tl
    dn:=fun j OR hj=>by
     by_cases LI:j=i
     ·subst LI;rw [fT (gS kT).1] at hj;simp only [oI] at hj;subst hj;obtain ⟨b2,TC,Mb,iU,zp,mC⟩:=he.dn 0 oa rfl;rw [hβ] at iU;simp only [E1,List.getElem?_cons_zero,oI] at iU;subst iU;exact ⟨b,TC,Mb,hb,zp,RvL.mono CO (RvL.cut mC.1 (TB oa (by simp))),mC.2⟩
     ·rw [List.getElem?_set_ne (Ne.symm LI)] at hj;obtain ⟨bj,TD,Mc,Kf,OS,Ly⟩:=h.env.dn j OR hj
      have bi:bj≠b:=by
       rintro rfl;exact LI ((List.getElem?_inj (gS Kf).1 h.env.inj).1 (Kf.trans hb.symm))
      exact ⟨bj,TD,Mc,Kf,by rw [hh bj (cI OS) bi];exact OS,Ly.mono hx⟩
    inj:=h.env.inj
    sub:=he.sub
    pc:=fun x v hc j1=>by
     rcases cG x v hc with h1 | h1
     ·exact h.env.pc x v h1 j1
     ·have:=h.env.aQ j1;omega
    b9:=fun k q y hq hy=>by
     rcases h.env.b9 k q y hq hy with h1 | ⟨g',cap,cur,rfl,h1,h2,h3,h4,h5,h6⟩
     ·exact .inl h1
     ·refine .inr ⟨g',cap,cur,rfl,by rw [hh g' (cI h1) (fun e=>h5 (by rw [e];exact wF))];exact h1,⟨h2.1,h2.2.mono hn.c⟩,h3,h4,h5,fun x v hc hg=>?_⟩;rcases cG x v hc with h7 | h7
      ·exact h6 x v h7 hg
      ·have:=cI h1;omega
    gp:=h.env.gp }
  ·exact {
    c:=fun x v hc=>hn.c x v (h.nw.c x v hc)
    cn:=fun x v hc=>by
     rcases cG x v hc with h1 | h1
     ·exact h.nw.cn x v h1
     ·have:=h.fr.size;exact .inr (.inl (by omega))
    β:=h.nw.β
    tk:=h.nw.tk
    tn:=h.nw.tn
    l0:=h.nw.l0 }
  ·by_cases Lz:j=b
   ·left;obtain ⟨r0,hr0,HX⟩:=h.nw.β;rw [hr0] at wF;rcases List.mem_append.1 wF with wF | wF
    ·exact .inl (.inl (Lz ▸ wF))
    ·exact .inr (Lz ▸ HX b wF)
   ·exact .inr (hh j hj Lz)
 exact go_sound 4000 _ _ (hk r oa hΦ) E' _ w' (bl bD hd r v (Rv.mono CO (Rv.cut LS TA)))
end
end Dv
end Go.Proofs.YtfdedoiiahbnnaaGreat
namespace Go.Proofs.YtfdedoiiahbnnaaGreat
namespace Dv
open Go
def tt:TT:=.ag 210 ⟨1,false,.sl 29 1 24,[.slice none 0 0]⟩ (.ag 105 ⟨1,false,.sl 36 9 112,[.slice none 0 0]⟩ (.ag 51 ⟨4,true,.st [(0,29),(1,49),(2,50),(3,3)],[.slice none 0 0,.slice none 0 0,.slice none 0 0,.int .i64 0]⟩ (.ag 24 ⟨1,false,.int .i64,[.int .i64 0]⟩ (.ag 12 ⟨1,false,.int .u64,[.int .u64 0]⟩ (.ag 6 ⟨1,false,.int .u8,[.int .u8 0]⟩ (.ag 3 ⟨1,false,.int .i64,[.int .i64 0]⟩ (.ag 2 ⟨1,false,.int .i64,[.int .i64 0]⟩ (.ag 1 ⟨1,false,.fn,[.nilFunc]⟩ (.nil) (.nil)) (.nil)) (.ag 5 ⟨1,false,.int .u8,[.int .u8 0]⟩ (.ag 4 ⟨1,false,.bool,[.bool false]⟩ (.nil) (.nil)) (.nil))) (.ag 9 ⟨1,false,.str,[.string ByteArray.empty]⟩ (.ag 8 ⟨4,true,.st [(0,2),(1,3),(2,4),(3,6)],[.int .i64 0,.int .i64 0,.bool false,.int .u8 0]⟩ (.ag 7 ⟨4,true,.st [(0,2),(1,3),(2,4),(3,6)],[.int .i64 0,.int .i64 0,.bool false,.int .u8 0]⟩ (.nil) (.nil)) (.nil)) (.ag 11 ⟨1,false,.str,[.string ByteArray.empty]⟩ (.ag 10 ⟨1,false,.str,[.string ByteArray.empty]⟩ (.nil) (.nil)) (.nil)))) (.ag 18 ⟨1,true,.st [(0,17)],[.pointer none]⟩ (.ag 15 ⟨1,false,.ptr 418,[.pointer none]⟩ (.ag 14 ⟨2,true,.st [(0,9),(1,12)],[.string ByteArray.empty,.int .u64 0]⟩ (.ag 13 ⟨2,true,.st [(0,9),(1,12)],[.string ByteArray.empty,.int .u64 0]⟩ (.nil) (.nil)) (.nil)) (.ag 17 ⟨1,false,.ptr 428,[.pointer none]⟩ (.ag 16 ⟨1,false,.ptr 421,[.pointer none]⟩ (.nil) (.nil)) (.nil))) (.ag 21 ⟨1,false,.int .i32,[.int .i32 0]⟩ (.ag 20 ⟨1,false,.lH,[.nilIface]⟩ (.ag 19 ⟨1,true,.st [(0,17)],[.pointer none]⟩ (.nil) (.nil)) (.nil)) (.ag 23 ⟨1,false,.ptr 129,[.pointer none]⟩ (.ag 22 ⟨1,false,.fn,[.nilFunc]⟩ (.nil) (.nil)) (.nil))))) (.ag 37 ⟨12,true,.st [(0,29),(1,30),(2,31),(3,36)],[.slice none 0 0,.slice none 0 0,.slice none 0 0,.int .i64 0,.int .i64 0,.int .i64 0,.int .i64 0,.int .i64 0,.slice none 0 0,.slice none 0 0,.string ByteArray.empty,.int .i64 0]⟩ (.ag 31 ⟨1,false,.sl 93 11 136,[.slice none 0 0]⟩ (.ag 28 ⟨1,false,.fn,[.nilFunc]⟩ (.ag 26 ⟨2,true,.st [(0,24),(1,3)],[.int .i64 0,.int .i64 0]⟩ (.ag 25 ⟨2,true,.st [(0,24),(1,3)],[.int .i64 0,.int .i64 0]⟩ (.nil) (.nil)) (.nil)) (.ag 30 ⟨1,false,.sl 122 4 48,[.slice none 0 0]⟩ (.ag 29 ⟨1,false,.sl 34 2 24,[.slice none 0 0]⟩ (.nil) (.nil)) (.nil))) (.ag 34 ⟨2,true,.st [(0,9),(1,3)],[.string ByteArray.empty,.int .i64 0]⟩ (.ag 33 ⟨2,true,.st [(0,9),(1,3)],[.string ByteArray.empty,.int .i64 0]⟩ (.ag 32 ⟨1,false,.sl 133 18 224,[.slice none 0 0]⟩ (.nil) (.nil)) (.nil)) (.ag 36 ⟨9,true,.st [(0,3),(1,3),(2,3),(3,3),(4,3),(5,29),(6,32),(7,34)],[.int .i64 0,.int .i64 0,.int .i64 0,.int .i64 0,.int .i64 0,.slice none 0 0,.slice none 0 0,.string ByteArray.empty,.int .i64 0]⟩ (.ag 35 ⟨9,true,.st [(0,3),(1,3),(2,3),(3,3),(4,3),(5,29),(6,32),(7,34)],[.int .i64 0,.int .i64 0,.int .i64 0,.int .i64 0,.int .i64 0,.slice none 0 0,.slice none 0 0,.string ByteArray.empty,.int .i64 0]⟩ (.nil) (.nil)) (.nil)))) (.ag 44 ⟨1,false,.fn,[.nilFunc]⟩ (.ag 41 ⟨1,false,.fn,[.nilFunc]⟩ (.ag 40 ⟨1,false,.fn,[.nilFunc]⟩ (.ag 38 ⟨12,true,.st [(0,29),(1,30),(2,31),(3,36)],[.slice none 0 0,.slice none 0 0,.slice none 0 0,.int .i64 0,.int .i64 0,.int .i64 0,.int .i64 0,.int .i64 0,.slice none 0 0,.slice none 0 0,.string ByteArray.empty,.int .i64 0]⟩ (.nil) (.nil)) (.nil)) (.ag 43 ⟨1,false,.fn,[.nilFunc]⟩ (.ag 42 ⟨1,false,.fn,[.nilFunc]⟩ (.nil) (.nil)) (.nil))) (.ag 48 ⟨1,false,.fn,[.nilFunc]⟩ (.ag 47 ⟨1,false,.fn,[.nilFunc]⟩ (.ag 46 ⟨1,false,.fn,[.nilFunc]⟩ (.nil) (.nil)) (.nil)) (.ag 50 ⟨1,false,.sl 87 7 88,[.slice none 0 0]⟩ (.ag 49 ⟨1,false,.sl 183 1 24,[.slice none 0 0]⟩ (.nil) (.nil)) (.nil)))))) (.ag 79 ⟨1,false,.sl 9 1 16,[.slice none 0 0]⟩ (.ag 65 ⟨6,true,.st [(0,61),(4,26)],[.int .i64 0,.int .i64 0,.string ByteArray.empty,.slice none 0 0,.int .i64 0,.int .i64 0]⟩ (.ag 58 ⟨1,false,.fn,[.nilFunc]⟩ (.ag 54 ⟨1,false,.fn,[.nilFunc]⟩ (.ag 53 ⟨1,false,.fn,[.nilFunc]⟩ (.ag 52 ⟨4,true,.st [(0,29),(1,49),(2,50),(3,3)],[.slice none 0 0,.slice none 0 0,.slice none 0 0,.int .i64 0]⟩ (.nil) (.nil)) (.nil)) (.ag 56 ⟨1,false,.fn,[.nilFunc]⟩ (.ag 55 ⟨1,false,.fn,[.nilFunc]⟩ (.nil) (.nil)) (.nil))) (.ag 61 ⟨4,true,.st [(0,3),(1,3),(2,9),(3,59)],[.int .i64 0,.int .i64 0,.string ByteArray.empty,.slice none 0 0]⟩ (.ag 60 ⟨4,true,.st [(0,3),(1,3),(2,9),(3,59)],[.int .i64 0,.int .i64 0,.string ByteArray.empty,.slice none 0 0]⟩ (.ag 59 ⟨1,false,.sl 61 4 56,[.slice none 0 0]⟩ (.nil) (.nil)) (.nil)) (.ag 64 ⟨6,true,.st [(0,61),(4,26)],[.int .i64 0,.int .i64 0,.string ByteArray.empty,.slice none 0 0,.int .i64 0,.int .i64 0]⟩ (.ag 63 ⟨1,false,.fn,[.nilFunc]⟩ (.nil) (.nil)) (.nil)))) (.ag 72 ⟨1,false,.fn,[.nilFunc]⟩ (.ag 68 ⟨1,false,.sl 70 6 88,[.slice none 0 0]⟩ (.ag 67 ⟨1,false,.fn,[.nilFunc]⟩ (.ag 66 ⟨1,false,.fn,[.nilFunc]⟩ (.nil) (.nil)) (.nil)) (.ag 70 ⟨6,true,.st [(0,3),(1,3),(2,3),(3,9),(4,29),(5,68)],[.int .i64 0,.int .i64 0,.int .i64 0,.string ByteArray.empty,.slice none 0 0,.slice none 0 0]⟩ (.ag 69 ⟨6,true,.st [(0,3),(1,3),(2,3),(3,9),(4,29),(5,68)],[.int .i64 0,.int .i64 0,.int .i64 0,.string ByteArray.empty,.slice none 0 0,.slice none 0 0]⟩ (.nil) (.nil)) (.nil))) (.ag 75 ⟨1,false,.fn,[.nilFunc]⟩ (.ag 74 ⟨1,false,.fn,[.nilFunc]⟩ (.ag 73 ⟨1,false,.fn,[.nilFunc]⟩ (.nil) (.nil)) (.nil)) (.ag 78 ⟨1,false,.fn,[.nilFunc]⟩ (.ag 77 ⟨1,false,.fn,[.nilFunc]⟩ (.nil) (.nil)) (.nil))))) (.ag 92 ⟨11,true,.st [(0,34),(2,36)],[.string ByteArray.empty,.int .i64 0,.int .i64 0,.int .i64 0,.int .i64 0,.int .i64 0,.int .i64 0,.slice none 0 0,.slice none 0 0,.string ByteArray.empty,.int .i64 0]⟩ (.ag 86 ⟨7,true,.st [(0,3),(1,3),(2,3),(3,3),(4,3),(5,79),(6,85)],[.int .i64 0,.int .i64 0,.int .i64 0,.int .i64 0,.int .i64 0,.slice none 0 0,.slice none 0 0]⟩ (.ag 82 ⟨7,true,.st [(0,3),(1,3),(2,3),(3,3),(4,3),(5,79),(6,80)],[.int .i64 0,.int .i64 0,.int .i64 0,.int .i64 0,.int .i64 0,.slice none 0 0,.slice none 0 0]⟩ (.ag 81 ⟨7,true,.st [(0,3),(1,3),(2,3),(3,3),(4,3),(5,79),(6,80)],[.int .i64 0,.int .i64 0,.int .i64 0,.int .i64 0,.int .i64 0,.slice none 0 0,.slice none 0 0]⟩ (.ag 80 ⟨1,false,.sl 90 10 88,[.slice none 0 0]⟩ (.nil) (.nil)) (.nil)) (.ag 85 ⟨1,false,.sl 89 10 88,[.slice none 0 0]⟩ (.ag 84 ⟨1,false,.fn,[.nilFunc]⟩ (.nil) (.nil)) (.nil))) (.ag 89 ⟨10,true,.st [(0,9),(1,4),(2,3),(3,3),(4,3),(5,3),(6,3),(7,3),(8,3),(9,3)],[.string ByteArray.empty,.bool false,.int .i64 0,.int .i64 0,.int .i64 0,.int .i64 0,.int .i64 0,.int .i64 0,.int .i64 0,.int .i64 0]⟩ (.ag 88 ⟨10,true,.st [(0,9),(1,4),(2,3),(3,3),(4,3),(5,3),(6,3),(7,3),(8,3),(9,3)],[.string ByteArray.empty,.bool false,.int .i64 0,.int .i64 0,.int .i64 0,.int .i64 0,.int .i64 0,.int .i64 0,.int .i64 0,.int .i64 0]⟩ (.ag 87 ⟨7,true,.st [(0,3),(1,3),(2,3),(3,3),(4,3),(5,79),(6,85)],[.int .i64 0,.int .i64 0,.int .i64 0,.int .i64 0,.int .i64 0,.slice none 0 0,.slice none 0 0]⟩ (.nil) (.nil)) (.nil)) (.ag 91 ⟨1,false,.fn,[.nilFunc]⟩ (.ag 90 ⟨10,true,.st [(0,9),(1,4),(2,3),(3,3),(4,3),(5,3),(6,3),(7,3),(8,3),(9,3)],[.string ByteArray.empty,.bool false,.int .i64 0,.int .i64 0,.int .i64 0,.int .i64 0,.int .i64 0,.int .i64 0,.int .i64 0,.int .i64 0]⟩ (.nil) (.nil)) (.nil)))) (.ag 98 ⟨1,false,.fn,[.nilFunc]⟩ (.ag 95 ⟨1,false,.fn,[.nilFunc]⟩ (.ag 94 ⟨1,false,.fn,[.nilFunc]⟩ (.ag 93 ⟨11,true,.st [(0,34),(2,36)],[.string ByteArray.empty,.int .i64 0,.int .i64 0,.int .i64 0,.int .i64 0,.int .i64 0,.int .i64 0,.slice none 0 0,.slice none 0 0,.string ByteArray.empty,.int .i64 0]⟩ (.nil) (.nil)) (.nil)) (.ag 97 ⟨1,false,.fn,[.nilFunc]⟩ (.ag 96 ⟨1,false,.sl 3 1 8,[.slice none 0 0]⟩ (.nil) (.nil)) (.nil))) (.ag 102 ⟨1,false,.fn,[.nilFunc]⟩ (.ag 100 ⟨1,false,.fn,[.nilFunc]⟩ (.ag 99 ⟨1,false,.ptr 190,[.pointer none]⟩ (.nil) (.nil)) (.nil)) (.ag 104 ⟨1,false,.fn,[.nilFunc]⟩ (.ag 103 ⟨1,false,.fn,[.nilFunc]⟩ (.nil) (.nil)) (.nil))))))) (.ag 157 ⟨1,false,.fn,[.nilFunc]⟩ (.ag 130 ⟨4,true,.st [(0,3),(1,3),(2,3),(3,29)],[.int .i64 0,.int .i64 0,.int .i64 0,.slice none 0 0]⟩ (.ag 118 ⟨1,false,.fn,[.nilFunc]⟩ (.ag 111 ⟨1,false,.sl 5 1 1,[.slice none 0 0]⟩ (.ag 108 ⟨1,false,.fn,[.nilFunc]⟩ (.ag 107 ⟨1,false,.fn,[.nilFunc]⟩ (.ag 106 ⟨1,false,.fn,[.nilFunc]⟩ (.nil) (.nil)) (.nil)) (.ag 110 ⟨1,false,.ptr 113,[.pointer none]⟩ (.ag 109 ⟨1,false,.fn,[.nilFunc]⟩ (.nil) (.nil)) (.nil))) (.ag 114 ⟨1,false,.lH,[.nilIface]⟩ (.ag 113 ⟨2,true,.st [(0,110),(1,111)],[.pointer none,.slice none 0 0]⟩ (.ag 112 ⟨2,true,.st [(0,110),(1,111)],[.pointer none,.slice none 0 0]⟩ (.nil) (.nil)) (.nil)) (.ag 117 ⟨1,false,.fn,[.nilFunc]⟩ (.ag 115 ⟨1,false,.lH,[.nilIface]⟩ (.nil) (.nil)) (.nil)))) (.ag 124 ⟨1,false,.fn,[.nilFunc]⟩ (.ag 121 ⟨4,true,.st [(0,34),(2,34)],[.string ByteArray.empty,.int .i64 0,.string ByteArray.empty,.int .i64 0]⟩ (.ag 120 ⟨1,false,.fn,[.nilFunc]⟩ (.ag 119 ⟨1,false,.fn,[.nilFunc]⟩ (.nil) (.nil)) (.nil)) (.ag 123 ⟨1,false,.fn,[.nilFunc]⟩ (.ag 122 ⟨4,true,.st [(0,34),(2,34)],[.string ByteArray.empty,.int .i64 0,.string ByteArray.empty,.int .i64 0]⟩ (.nil) (.nil)) (.nil))) (.ag 127 ⟨1,false,.ptr 284,[.pointer none]⟩ (.ag 126 ⟨1,false,.sl 82 7 88,[.slice none 0 0]⟩ (.ag 125 ⟨1,false,.fn,[.nilFunc]⟩ (.nil) (.nil)) (.nil)) (.ag 129 ⟨5,true,.st [(0,99),(1,126),(2,3),(3,127),(4,96)],[.pointer none,.slice none 0 0,.int .i64 0,.pointer none,.slice none 0 0]⟩ (.ag 128 ⟨5,true,.st [(0,99),(1,126),(2,3),(3,127),(4,96)],[.pointer none,.slice none 0 0,.int .i64 0,.pointer none,.slice none 0 0]⟩ (.nil) (.nil)) (.nil))))) (.ag 144 ⟨1,false,.fn,[.nilFunc]⟩ (.ag 137 ⟨15,true,.st [(0,38),(12,99),(13,23),(14,3)],[.slice none 0 0,.slice none 0 0,.slice none 0 0,.int .i64 0,.int .i64 0,.int .i64 0,.int .i64 0,.int .i64 0,.slice none 0 0,.slice none 0 0,.string ByteArray.empty,.int .i64 0,.pointer none,.pointer none,.int .i64 0]⟩ (.ag 133 ⟨18,true,.st [(0,34),(2,4),(3,29),(4,3),(5,131),(9,36)],[.string ByteArray.empty,.int .i64 0,.bool false,.slice none 0 0,.int .i64 0,.int .i64 0,.int .i64 0,.int .i64 0,.slice none 0 0,.int .i64 0,.int .i64 0,.int .i64 0,.int .i64 0,.int .i64 0,.slice none 0 0,.slice none 0 0,.string ByteArray.empty,.int .i64 0]⟩ (.ag 132 ⟨18,true,.st [(0,34),(2,4),(3,29),(4,3),(5,131),(9,36)],[.string ByteArray.empty,.int .i64 0,.bool false,.slice none 0 0,.int .i64 0,.int .i64 0,.int .i64 0,.int .i64 0,.slice none 0 0,.int .i64 0,.int .i64 0,.int .i64 0,.int .i64 0,.int .i64 0,.slice none 0 0,.slice none 0 0,.string ByteArray.empty,.int .i64 0]⟩ (.ag 131 ⟨4,true,.st [(0,3),(1,3),(2,3),(3,29)],[.int .i64 0,.int .i64 0,.int .i64 0,.slice none 0 0]⟩ (.nil) (.nil)) (.nil)) (.ag 136 ⟨1,false,.ptr 138,[.pointer none]⟩ (.ag 135 ⟨1,false,.fn,[.nilFunc]⟩ (.nil) (.nil)) (.nil))) (.ag 140 ⟨1,false,.fn,[.nilFunc]⟩ (.ag 139 ⟨1,false,.fn,[.nilFunc]⟩ (.ag 138 ⟨15,true,.st [(0,38),(12,99),(13,23),(14,3)],[.slice none 0 0,.slice none 0 0,.slice none 0 0,.int .i64 0,.int .i64 0,.int .i64 0,.int .i64 0,.int .i64 0,.slice none 0 0,.slice none 0 0,.string ByteArray.empty,.int .i64 0,.pointer none,.pointer none,.int .i64 0]⟩ (.nil) (.nil)) (.nil)) (.ag 142 ⟨1,false,.fn,[.nilFunc]⟩ (.ag 141 ⟨1,false,.fn,[.nilFunc]⟩ (.nil) (.nil)) (.nil)))) (.ag 150 ⟨1,false,.fn,[.nilFunc]⟩ (.ag 147 ⟨1,false,.fn,[.nilFunc]⟩ (.ag 146 ⟨1,false,.fn,[.nilFunc]⟩ (.ag 145 ⟨1,false,.fn,[.nilFunc]⟩ (.nil) (.nil)) (.nil)) (.ag 149 ⟨1,false,.fn,[.nilFunc]⟩ (.ag 148 ⟨1,false,.fn,[.nilFunc]⟩ (.nil) (.nil)) (.nil))) (.ag 154 ⟨1,true,.st [(0,151)],[.pointer none]⟩ (.ag 153 ⟨1,false,.fn,[.nilFunc]⟩ (.ag 151 ⟨1,false,.ptr 244,[.pointer none]⟩ (.nil) (.nil)) (.nil)) (.ag 156 ⟨1,false,.fn,[.nilFunc]⟩ (.ag 155 ⟨1,true,.st [(0,151)],[.pointer none]⟩ (.nil) (.nil)) (.nil)))))) (.ag 183 ⟨1,false,.sl 4 1 1,[.slice none 0 0]⟩ (.ag 171 ⟨1,false,.fn,[.nilFunc]⟩ (.ag 163 ⟨1,false,.sl 218 5 48,[.slice none 0 0]⟩ (.ag 160 ⟨1,false,.fn,[.nilFunc]⟩ (.ag 159 ⟨1,false,.fn,[.nilFunc]⟩ (.ag 158 ⟨1,false,.fn,[.nilFunc]⟩ (.nil) (.nil)) (.nil)) (.ag 162 ⟨1,false,.fn,[.nilFunc]⟩ (.ag 161 ⟨1,false,.fn,[.nilFunc]⟩ (.nil) (.nil)) (.nil))) (.ag 167 ⟨3,true,.st [(0,163),(1,26)],[.slice none 0 0,.int .i64 0,.int .i64 0]⟩ (.ag 166 ⟨3,true,.st [(0,163),(1,26)],[.slice none 0 0,.int .i64 0,.int .i64 0]⟩ (.ag 165 ⟨1,false,.fn,[.nilFunc]⟩ (.nil) (.nil)) (.nil)) (.ag 170 ⟨1,false,.fn,[.nilFunc]⟩ (.ag 169 ⟨1,false,.fn,[.nilFunc]⟩ (.nil) (.nil)) (.nil)))) (.ag 177 ⟨1,false,.fn,[.nilFunc]⟩ (.ag 174 ⟨1,false,.fn,[.nilFunc]⟩ (.ag 173 ⟨1,false,.fn,[.nilFunc]⟩ (.ag 172 ⟨1,false,.fn,[.nilFunc]⟩ (.nil) (.nil)) (.nil)) (.ag 176 ⟨1,false,.fn,[.nilFunc]⟩ (.ag 175 ⟨1,false,.fn,[.nilFunc]⟩ (.nil) (.nil)) (.nil))) (.ag 180 ⟨1,false,.fn,[.nilFunc]⟩ (.ag 179 ⟨3,true,.st [(0,26),(2,3)],[.int .i64 0,.int .i64 0,.int .i64 0]⟩ (.ag 178 ⟨3,true,.st [(0,26),(2,3)],[.int .i64 0,.int .i64 0,.int .i64 0]⟩ (.nil) (.nil)) (.nil)) (.ag 182 ⟨1,false,.fn,[.nilFunc]⟩ (.ag 181 ⟨1,false,.fn,[.nilFunc]⟩ (.nil) (.nil)) (.nil))))) (.ag 195 ⟨1,false,.fn,[.nilFunc]⟩ (.ag 189 ⟨2051,true,.st [(0,79),(1,127),(2,186),(3,188),(1027,188)],(.slice none 0 0 :: .pointer none :: .pointer none :: List.replicate 2048 (.int .i64 0))⟩ (.ag 186 ⟨1,false,.ptr 295,[.pointer none]⟩ (.ag 185 ⟨1,false,.fn,[.nilFunc]⟩ (.ag 184 ⟨1,false,.fn,[.nilFunc]⟩ (.nil) (.nil)) (.nil)) (.ag 188 ⟨1024,true,.ar 32 32,(List.replicate 1024 (.int .i64 0))⟩ (.ag 187 ⟨32,true,.ar 32 1,[.int .i64 0,.int .i64 0,.int .i64 0,.int .i64 0,.int .i64 0,.int .i64 0,.int .i64 0,.int .i64 0,.int .i64 0,.int .i64 0,.int .i64 0,.int .i64 0,.int .i64 0,.int .i64 0,.int .i64 0,.int .i64 0,.int .i64 0,.int .i64 0,.int .i64 0,.int .i64 0,.int .i64 0,.int .i64 0,.int .i64 0,.int .i64 0,.int .i64 0,.int .i64 0,.int .i64 0,.int .i64 0,.int .i64 0,.int .i64 0,.int .i64 0,.int .i64 0]⟩ (.nil) (.nil)) (.nil))) (.ag 192 ⟨1,false,.sl 285 2 16,[.slice none 0 0]⟩ (.ag 191 ⟨1,false,.fn,[.nilFunc]⟩ (.ag 190 ⟨2051,true,.st [(0,79),(1,127),(2,186),(3,188),(1027,188)],(.slice none 0 0 :: .pointer none :: .pointer none :: List.replicate 2048 (.int .i64 0))⟩ (.nil) (.nil)) (.nil)) (.ag 194 ⟨1,false,.fn,[.nilFunc]⟩ (.ag 193 ⟨1,false,.fn,[.nilFunc]⟩ (.nil) (.nil)) (.nil)))) (.ag 202 ⟨1,false,.fn,[.nilFunc]⟩ (.ag 198 ⟨1,false,.fn,[.nilFunc]⟩ (.ag 197 ⟨1,false,.fn,[.nilFunc]⟩ (.ag 196 ⟨1,false,.fn,[.nilFunc]⟩ (.nil) (.nil)) (.nil)) (.ag 201 ⟨1,false,.fn,[.nilFunc]⟩ (.ag 199 ⟨1,false,.ptr 5,[.pointer none]⟩ (.nil) (.nil)) (.nil))) (.ag 207 ⟨1,false,.fn,[.nilFunc]⟩ (.ag 206 ⟨1,false,.fn,[.nilFunc]⟩ (.ag 204 ⟨1,false,.fn,[.nilFunc]⟩ (.nil) (.nil)) (.nil)) (.ag 209 ⟨1,false,.fn,[.nilFunc]⟩ (.ag 208 ⟨1,false,.fn,[.nilFunc]⟩ (.nil) (.nil)) (.nil)))))))) (.ag 319 ⟨1,false,.fn,[.nilFunc]⟩ (.ag 266 ⟨1,false,.fn,[.nilFunc]⟩ (.ag 238 ⟨1,false,.fn,[.nilFunc]⟩ (.ag 223 ⟨1,false,.fn,[.nilFunc]⟩ (.ag 216 ⟨1,false,.fn,[.nilFunc]⟩ (.ag 213 ⟨1,false,.ptr 215,[.pointer none]⟩ (.ag 212 ⟨1,false,.fn,[.nilFunc]⟩ (.ag 211 ⟨1,false,.fn,[.nilFunc]⟩ (.nil) (.nil)) (.nil)) (.ag 215 ⟨2,true,.st [(0,151),(1,3)],[.pointer none,.int .i64 0]⟩ (.ag 214 ⟨2,true,.st [(0,151),(1,3)],[.pointer none,.int .i64 0]⟩ (.nil) (.nil)) (.nil))) (.ag 219 ⟨1,false,.fn,[.nilFunc]⟩ (.ag 218 ⟨5,true,.st [(0,3),(1,3),(2,3),(3,9),(4,3)],[.int .i64 0,.int .i64 0,.int .i64 0,.string ByteArray.empty,.int .i64 0]⟩ (.ag 217 ⟨5,true,.st [(0,3),(1,3),(2,3),(3,9),(4,3)],[.int .i64 0,.int .i64 0,.int .i64 0,.string ByteArray.empty,.int .i64 0]⟩ (.nil) (.nil)) (.nil)) (.ag 221 ⟨4,true,.st [(0,163),(1,3),(2,26)],[.slice none 0 0,.int .i64 0,.int .i64 0,.int .i64 0]⟩ (.ag 220 ⟨4,true,.st [(0,163),(1,3),(2,26)],[.slice none 0 0,.int .i64 0,.int .i64 0,.int .i64 0]⟩ (.nil) (.nil)) (.nil)))) (.ag 231 ⟨1,false,.fn,[.nilFunc]⟩ (.ag 227 ⟨1,false,.fn,[.nilFunc]⟩ (.ag 226 ⟨1,false,.fn,[.nilFunc]⟩ (.ag 225 ⟨1,false,.fn,[.nilFunc]⟩ (.nil) (.nil)) (.nil)) (.ag 230 ⟨1,false,.fn,[.nilFunc]⟩ (.ag 228 ⟨1,false,.fn,[.nilFunc]⟩ (.nil) (.nil)) (.nil))) (.ag 234 ⟨1,false,.fn,[.nilFunc]⟩ (.ag 233 ⟨1,false,.fn,[.nilFunc]⟩ (.ag 232 ⟨1,false,.fn,[.nilFunc]⟩ (.nil) (.nil)) (.nil)) (.ag 237 ⟨1,false,.fn,[.nilFunc]⟩ (.ag 235 ⟨1,false,.fn,[.nilFunc]⟩ (.nil) (.nil)) (.nil))))) (.ag 250 ⟨1,false,.fn,[.nilFunc]⟩ (.ag 244 ⟨5,true,.st [(0,163),(1,3),(2,3),(3,26)],[.slice none 0 0,.int .i64 0,.int .i64 0,.int .i64 0,.int .i64 0]⟩ (.ag 241 ⟨1,true,.st [(0,3)],[.int .i64 0]⟩ (.ag 240 ⟨1,true,.st [(0,3)],[.int .i64 0]⟩ (.ag 239 ⟨1,false,.ptr 241,[.pointer none]⟩ (.nil) (.nil)) (.nil)) (.ag 243 ⟨5,true,.st [(0,163),(1,3),(2,3),(3,26)],[.slice none 0 0,.int .i64 0,.int .i64 0,.int .i64 0,.int .i64 0]⟩ (.ag 242 ⟨1,false,.fn,[.nilFunc]⟩ (.nil) (.nil)) (.nil))) (.ag 247 ⟨1,false,.fn,[.nilFunc]⟩ (.ag 246 ⟨1,false,.fn,[.nilFunc]⟩ (.ag 245 ⟨1,false,.fn,[.nilFunc]⟩ (.nil) (.nil)) (.nil)) (.ag 249 ⟨1,false,.fn,[.nilFunc]⟩ (.ag 248 ⟨1,false,.fn,[.nilFunc]⟩ (.nil) (.nil)) (.nil)))) (.ag 257 ⟨1,false,.fn,[.nilFunc]⟩ (.ag 253 ⟨1,false,.fn,[.nilFunc]⟩ (.ag 252 ⟨1,false,.fn,[.nilFunc]⟩ (.ag 251 ⟨1,false,.fn,[.nilFunc]⟩ (.nil) (.nil)) (.nil)) (.ag 256 ⟨1,false,.fn,[.nilFunc]⟩ (.ag 255 ⟨1,false,.fn,[.nilFunc]⟩ (.nil) (.nil)) (.nil))) (.ag 262 ⟨1,false,.fn,[.nilFunc]⟩ (.ag 261 ⟨1,false,.fn,[.nilFunc]⟩ (.ag 259 ⟨1,false,.fn,[.nilFunc]⟩ (.nil) (.nil)) (.nil)) (.ag 265 ⟨1,false,.fn,[.nilFunc]⟩ (.ag 263 ⟨1,false,.fn,[.nilFunc]⟩ (.nil) (.nil)) (.nil)))))) (.ag 293 ⟨1,false,.sl 290 1 8,[.slice none 0 0]⟩ (.ag 280 ⟨1,false,.fn,[.nilFunc]⟩ (.ag 274 ⟨1,false,.fn,[.nilFunc]⟩ (.ag 271 ⟨1,false,.fn,[.nilFunc]⟩ (.ag 270 ⟨1,false,.fn,[.nilFunc]⟩ (.ag 268 ⟨1,false,.fn,[.nilFunc]⟩ (.nil) (.nil)) (.nil)) (.ag 273 ⟨1,false,.fn,[.nilFunc]⟩ (.ag 272 ⟨1,false,.fn,[.nilFunc]⟩ (.nil) (.nil)) (.nil))) (.ag 277 ⟨1,false,.fn,[.nilFunc]⟩ (.ag 276 ⟨1,false,.fn,[.nilFunc]⟩ (.ag 275 ⟨1,false,.fn,[.nilFunc]⟩ (.nil) (.nil)) (.nil)) (.ag 279 ⟨1,false,.fn,[.nilFunc]⟩ (.ag 278 ⟨1,false,.fn,[.nilFunc]⟩ (.nil) (.nil)) (.nil)))) (.ag 286 ⟨1,false,.fn,[.nilFunc]⟩ (.ag 283 ⟨2,true,.st [(0,79),(1,96)],[.slice none 0 0,.slice none 0 0]⟩ (.ag 282 ⟨1,false,.fn,[.nilFunc]⟩ (.ag 281 ⟨1,false,.fn,[.nilFunc]⟩ (.nil) (.nil)) (.nil)) (.ag 285 ⟨2,true,.ar 2 1,[.int .i64 0,.int .i64 0]⟩ (.ag 284 ⟨2,true,.st [(0,79),(1,96)],[.slice none 0 0,.slice none 0 0]⟩ (.nil) (.nil)) (.nil))) (.ag 290 ⟨1,false,.int .u64,[.int .u64 0]⟩ (.ag 289 ⟨1,false,.fn,[.nilFunc]⟩ (.ag 288 ⟨1,false,.fn,[.nilFunc]⟩ (.nil) (.nil)) (.nil)) (.ag 292 ⟨1,false,.fn,[.nilFunc]⟩ (.ag 291 ⟨20,true,.ar 20 1,[.int .u8 0,.int .u8 0,.int .u8 0,.int .u8 0,.int .u8 0,.int .u8 0,.int .u8 0,.int .u8 0,.int .u8 0,.int .u8 0,.int .u8 0,.int .u8 0,.int .u8 0,.int .u8 0,.int .u8 0,.int .u8 0,.int .u8 0,.int .u8 0,.int .u8 0,.int .u8 0]⟩ (.nil) (.nil)) (.nil))))) (.ag 306 ⟨1,false,.fn,[.nilFunc]⟩ (.ag 299 ⟨1,false,.fn,[.nilFunc]⟩ (.ag 296 ⟨1,false,.fn,[.nilFunc]⟩ (.ag 295 ⟨1,true,.st [(0,293)],[.slice none 0 0]⟩ (.ag 294 ⟨1,true,.st [(0,293)],[.slice none 0 0]⟩ (.nil) (.nil)) (.nil)) (.ag 298 ⟨1,false,.fn,[.nilFunc]⟩ (.ag 297 ⟨1,false,.fn,[.nilFunc]⟩ (.nil) (.nil)) (.nil))) (.ag 302 ⟨1,false,.fn,[.nilFunc]⟩ (.ag 301 ⟨1,false,.ptr 70,[.pointer none]⟩ (.ag 300 ⟨1,false,.fn,[.nilFunc]⟩ (.nil) (.nil)) (.nil)) (.ag 305 ⟨1,false,.fn,[.nilFunc]⟩ (.ag 304 ⟨1,false,.fn,[.nilFunc]⟩ (.nil) (.nil)) (.nil)))) (.ag 312 ⟨1,false,.fn,[.nilFunc]⟩ (.ag 309 ⟨1,false,.fn,[.nilFunc]⟩ (.ag 308 ⟨1,false,.fn,[.nilFunc]⟩ (.ag 307 ⟨1,false,.fn,[.nilFunc]⟩ (.nil) (.nil)) (.nil)) (.ag 311 ⟨1,false,.fn,[.nilFunc]⟩ (.ag 310 ⟨1,false,.fn,[.nilFunc]⟩ (.nil) (.nil)) (.nil))) (.ag 316 ⟨1,false,.fn,[.nilFunc]⟩ (.ag 314 ⟨1,false,.fn,[.nilFunc]⟩ (.ag 313 ⟨1,false,.fn,[.nilFunc]⟩ (.nil) (.nil)) (.nil)) (.ag 318 ⟨1,false,.ptr 36,[.pointer none]⟩ (.ag 317 ⟨1,false,.fn,[.nilFunc]⟩ (.nil) (.nil)) (.nil))))))) (.ag 376 ⟨1,false,.int .i64,[.int .i64 0]⟩ (.ag 351 ⟨1,false,.fn,[.nilFunc]⟩ (.ag 334 ⟨1,false,.fn,[.nilFunc]⟩ (.ag 325 ⟨1,false,.sl 365 2 8,[.slice none 0 0]⟩ (.ag 322 ⟨1,false,.fn,[.nilFunc]⟩ (.ag 321 ⟨1,false,.fn,[.nilFunc]⟩ (.ag 320 ⟨1,false,.fn,[.nilFunc]⟩ (.nil) (.nil)) (.nil)) (.ag 324 ⟨1,false,.fn,[.nilFunc]⟩ (.ag 323 ⟨1,false,.fn,[.nilFunc]⟩ (.nil) (.nil)) (.nil))) (.ag 329 ⟨1,false,.fn,[.nilFunc]⟩ (.ag 327 ⟨1,false,.fn,[.nilFunc]⟩ (.ag 326 ⟨1,false,.fn,[.nilFunc]⟩ (.nil) (.nil)) (.nil)) (.ag 332 ⟨1,false,.fn,[.nilFunc]⟩ (.ag 331 ⟨1,false,.fn,[.nilFunc]⟩ (.nil) (.nil)) (.nil)))) (.ag 343 ⟨1,false,.int .u64,[.int .u64 0]⟩ (.ag 340 ⟨1,false,.fn,[.nilFunc]⟩ (.ag 338 ⟨1,false,.fn,[.nilFunc]⟩ (.ag 336 ⟨1,false,.fn,[.nilFunc]⟩ (.nil) (.nil)) (.nil)) (.ag 342 ⟨1,false,.fn,[.nilFunc]⟩ (.ag 341 ⟨1,false,.fn,[.nilFunc]⟩ (.nil) (.nil)) (.nil))) (.ag 346 ⟨1,false,.int .u64,[.int .u64 0]⟩ (.ag 345 ⟨1,false,.fn,[.nilFunc]⟩ (.ag 344 ⟨1,false,.fn,[.nilFunc]⟩ (.nil) (.nil)) (.nil)) (.ag 350 ⟨1,false,.fn,[.nilFunc]⟩ (.ag 349 ⟨1,false,.fn,[.nilFunc]⟩ (.nil) (.nil)) (.nil))))) (.ag 363 ⟨4,true,.ar 4 1,[.int .i64 0,.int .i64 0,.int .i64 0,.int .i64 0]⟩ (.ag 357 ⟨1,false,.fn,[.nilFunc]⟩ (.ag 354 ⟨2,true,.st [(0,272),(1,350)],[.nilFunc,.nilFunc]⟩ (.ag 353 ⟨1,false,.fn,[.nilFunc]⟩ (.ag 352 ⟨1,false,.fn,[.nilFunc]⟩ (.nil) (.nil)) (.nil)) (.ag 356 ⟨1,false,.fn,[.nilFunc]⟩ (.ag 355 ⟨2,true,.st [(0,272),(1,350)],[.nilFunc,.nilFunc]⟩ (.nil) (.nil)) (.nil))) (.ag 360 ⟨1,false,.fn,[.nilFunc]⟩ (.ag 359 ⟨1,false,.fn,[.nilFunc]⟩ (.ag 358 ⟨1,false,.fn,[.nilFunc]⟩ (.nil) (.nil)) (.nil)) (.ag 362 ⟨1,false,.fn,[.nilFunc]⟩ (.ag 361 ⟨1,false,.fn,[.nilFunc]⟩ (.nil) (.nil)) (.nil)))) (.ag 370 ⟨1,true,.st [(0,17)],[.pointer none]⟩ (.ag 366 ⟨1,false,.fn,[.nilFunc]⟩ (.ag 365 ⟨2,true,.st [(0,21),(1,21)],[.int .i32 0,.int .i32 0]⟩ (.ag 364 ⟨2,true,.st [(0,21),(1,21)],[.int .i32 0,.int .i32 0]⟩ (.nil) (.nil)) (.nil)) (.ag 369 ⟨1,false,.fn,[.nilFunc]⟩ (.ag 368 ⟨1,false,.fn,[.nilFunc]⟩ (.nil) (.nil)) (.nil))) (.ag 373 ⟨1,false,.fn,[.nilFunc]⟩ (.ag 372 ⟨1,false,.ptr 430,[.pointer none]⟩ (.ag 371 ⟨1,true,.st [(0,17)],[.pointer none]⟩ (.nil) (.nil)) (.nil)) (.ag 375 ⟨1,false,.fn,[.nilFunc]⟩ (.ag 374 ⟨1,false,.int .u32,[.int .u32 0]⟩ (.nil) (.nil)) (.nil)))))) (.ag 405 ⟨1,false,.fn,[.nilFunc]⟩ (.ag 392 ⟨1,false,.ptr 133,[.pointer none]⟩ (.ag 384 ⟨1,false,.fn,[.nilFunc]⟩ (.ag 380 ⟨1,false,.fn,[.nilFunc]⟩ (.ag 379 ⟨1,false,.fn,[.nilFunc]⟩ (.ag 378 ⟨1,false,.fn,[.nilFunc]⟩ (.nil) (.nil)) (.nil)) (.ag 383 ⟨1,false,.fn,[.nilFunc]⟩ (.ag 381 ⟨1,false,.fn,[.nilFunc]⟩ (.nil) (.nil)) (.nil))) (.ag 388 ⟨1,false,.fn,[.nilFunc]⟩ (.ag 386 ⟨1,false,.fn,[.nilFunc]⟩ (.ag 385 ⟨1,false,.fn,[.nilFunc]⟩ (.nil) (.nil)) (.nil)) (.ag 391 ⟨1,false,.fn,[.nilFunc]⟩ (.ag 390 ⟨1,false,.fn,[.nilFunc]⟩ (.nil) (.nil)) (.nil)))) (.ag 398 ⟨1,false,.ptr 3,[.pointer none]⟩ (.ag 395 ⟨1,false,.fn,[.nilFunc]⟩ (.ag 394 ⟨1,false,.int .u64,[.int .u64 0]⟩ (.ag 393 ⟨1,false,.fn,[.nilFunc]⟩ (.nil) (.nil)) (.nil)) (.ag 397 ⟨1,false,.fn,[.nilFunc]⟩ (.ag 396 ⟨1,false,.fn,[.nilFunc]⟩ (.nil) (.nil)) (.nil))) (.ag 401 ⟨1,false,.sl 414 2 8,[.slice none 0 0]⟩ (.ag 400 ⟨1,false,.fn,[.nilFunc]⟩ (.ag 399 ⟨1,false,.fn,[.nilFunc]⟩ (.nil) (.nil)) (.nil)) (.ag 404 ⟨1,false,.fn,[.nilFunc]⟩ (.ag 402 ⟨1,false,.fn,[.nilFunc]⟩ (.nil) (.nil)) (.nil))))) (.ag 418 ⟨4,true,.st [(0,17),(1,17),(2,17),(3,9)],[.pointer none,.pointer none,.pointer none,.string ByteArray.empty]⟩ (.ag 412 ⟨1,false,.fn,[.nilFunc]⟩ (.ag 408 ⟨1,false,.fn,[.nilFunc]⟩ (.ag 407 ⟨1,false,.fn,[.nilFunc]⟩ (.ag 406 ⟨1,false,.fn,[.nilFunc]⟩ (.nil) (.nil)) (.nil)) (.ag 411 ⟨1,false,.ptr 394,[.pointer none]⟩ (.ag 410 ⟨1,false,.fn,[.nilFunc]⟩ (.nil) (.nil)) (.nil))) (.ag 415 ⟨1,false,.fn,[.nilFunc]⟩ (.ag 414 ⟨2,true,.st [(0,21),(1,21)],[.int .i32 0,.int .i32 0]⟩ (.ag 413 ⟨2,true,.st [(0,21),(1,21)],[.int .i32 0,.int .i32 0]⟩ (.nil) (.nil)) (.nil)) (.ag 417 ⟨4,true,.st [(0,17),(1,17),(2,17),(3,9)],[.pointer none,.pointer none,.pointer none,.string ByteArray.empty]⟩ (.ag 416 ⟨1,false,.fn,[.nilFunc]⟩ (.nil) (.nil)) (.nil)))) (.ag 426 ⟨1,false,.int .i32,[.int .i32 0]⟩ (.ag 423 ⟨1,false,.int .u8,[.int .u8 0]⟩ (.ag 422 ⟨1,false,.int .u8,[.int .u8 0]⟩ (.ag 419 ⟨0,true,.ar 0 1,[]⟩ (.nil) (.nil)) (.nil)) (.ag 425 ⟨1,false,.int .i32,[.int .i32 0]⟩ (.ag 424 ⟨1,false,.fn,[.nilFunc]⟩ (.nil) (.nil)) (.nil))) (.ag 429 ⟨2,true,.st [(0,9),(1,423)],[.string ByteArray.empty,.int .u8 0]⟩ (.ag 428 ⟨11,true,.st [(0,12),(1,12),(2,374),(3,422),(4,5),(5,5),(6,423),(7,424),(8,199),(9,425),(10,426)],[.int .u64 0,.int .u64 0,.int .u32 0,.int .u8 0,.int .u8 0,.int .u8 0,.int .u8 0,.nilFunc,.pointer none,.int .i32 0,.int .i32 0]⟩ (.ag 427 ⟨11,true,.st [(0,12),(1,12),(2,374),(3,422),(4,5),(5,5),(6,423),(7,424),(8,199),(9,425),(10,426)],[.int .u64 0,.int .u64 0,.int .u32 0,.int .u8 0,.int .u8 0,.int .u8 0,.int .u8 0,.nilFunc,.pointer none,.int .i32 0,.int .i32 0]⟩ (.nil) (.nil)) (.nil)) (.ag 430 ⟨2,true,.st [(0,9),(1,423)],[.string ByteArray.empty,.int .u8 0]⟩ (.nil) (.nil))))))))
theorem tM:tt.ok Tryz.prog=true:=by decide +kernel
theorem mo:Tryz.prog.follows .mixedOrders=true:=rfl
end Dv
end Go.Proofs.YtfdedoiiahbnnaaGreat
namespace Go.Proofs.YtfdedoiiahbnnaaGreat
namespace Dv
open Go
theorem eG {f:FuncId} {fn:Func} {c:Code} {args:List DV} {os:List (List DV)} {b9:List TkE} {Φ:DV->List (List DV)->List TkE->Prop} (nt:Nat) (rs:List ResultVar)
 (hf:Tryz.prog.funcs[f]? = some fn) (hb:fn.body=some c) (zy:fn.ntmps=nt) (qw:fn.results.toList=rs)
 (h:∀ (E:En) (w:World) (hn:E.β.length=os.length) (hm:E.tk.length=b9.length),go ⟨Tryz.prog,tt,tM,fn,nt,rs,qw,w,E,os.length,b9.length,hn,hm,false,Φ,[],[],false⟩ 5000 [.code c] ⟨argSl 0 args,os,b9⟩) (hlen:args.length<=nt:=by exact Nat.le_of_ble_eq_true rfl):Ev Tryz.prog f args os b9 Φ:=Oy tt tM 5000 nt rs hf hb zy qw hlen h
theorem cP {X:Ctx} {st:St} {k:List It} {f:FuncId} {args aZ:List DV} {d:Nat} {r:DV} (iW:Enters X.P f) (hc:aV X.P f aZ r) (hk:go X 4000 k ⟨(d,⟨[],r⟩) :: st.sl,st.bx,st.tk⟩) (ha:CcL [] 0 0 0 aZ args:=by exact ax) (hd:eK X.nt st.sl (some d)=true:=by exact rfl) (hst:X.still=false:=by exact rfl):CallG X f args (some d) k st:=E8 iW hc ha hd hk hst
theorem cD {X:Ctx} {st:St} {c:Bool} {s0:List (Nat×Sl)} {D:Dr} {i:Nat} {f:FuncId} {args aZ:List DV} {d:Nat} {r:List (Nat×Oper)} {zH:DV} (iW:Enters X.P f) (hc:aV X.P f aZ zH) (hk:put2 s0 st (some d) false [] zH (goD X D 3000 c r)) (ha:CcL [] 0 0 0 aZ args:=by exact ax) (hd:(eK X.nt st.sl (some d) && eK X.nt s0 (some d))=true:=by exact rfl) (hst:X.still=false:=by exact rfl):tJ X D c i r f args (some d) s0 st:=Iy iW hc ha hd hk hst
theorem dI {X:Ctx} {st:St} {k:List It} {id:Nat} {ops:Array Oper} (h:goD X ⟨ops,fun _=>false,k,st,none⟩ 3000 true (nOps 0 ops.toList) st.sl st) (hm:X.P.follows .mixedOrders=true:=by exact mo) (hc:zD ops (fun _=>false)=true:=by decide +kernel):qx X id ops k st:=vj _ hm hc h
theorem dS {X:Ctx} {st:St} {k:List It} {id:Nat} {ops:Array Oper} (h:goD X ⟨ops,OM ops,k,st,none⟩ 3000 true (nOps 0 ops.toList) st.sl st) (hm:X.P.follows .mixedOrders=true:=by exact mo) (hc:zD ops (OM ops)=true:=by decide +kernel):qx X id ops k st:=Ix hm hc h
end Dv
end Go.Proofs.YtfdedoiiahbnnaaGreat
set_option maxRecDepth 100000
namespace Go.Proofs.YtfdedoiiahbnnaaGreat
open Go Go.RowKit Dv Go.Proofs.Tryz
theorem IE:Enters prog 10:=enters_of func10 (by decide +kernel) rfl
theorem OT:Enters prog 11:=enters_of func11 (by decide +kernel) rfl
theorem TF:Enters prog 14:=enters_of func14 (by decide +kernel) rfl
theorem OU:Enters prog 15:=enters_of func15 (by decide +kernel) rfl
theorem TG:Enters prog 16:=enters_of func16 (by decide +kernel) rfl
theorem Md:Enters prog 17:=enters_of func17 (by decide +kernel) rfl
theorem TH:Enters prog 18:=enters_of func18 (by decide +kernel) rfl
theorem OV:Enters prog 19:=enters_of func19 (by decide +kernel) rfl
theorem Me:Enters prog 20:=enters_of func20 (by decide +kernel) rfl
theorem IF:Enters prog 22:=enters_of func22 (by decide +kernel) rfl
theorem TI:Enters prog 26:=enters_of func26 (by decide +kernel) rfl
theorem OW:Enters prog 35:=enters_of func35 (by decide +kernel) rfl
theorem Mf:Enters prog 38:=enters_of func38 (by decide +kernel) rfl
theorem IG:Enters prog 39:=enters_of func39 (by decide +kernel) rfl
theorem TJ:Enters prog 40:=enters_of func40 (by decide +kernel) rfl
theorem TL:Enters prog 41:=enters_of func41 (by decide +kernel) rfl
theorem TM:Enters prog 42:=enters_of func42 (by decide +kernel) rfl
theorem TN:Enters prog 43:=enters_of func43 (by decide +kernel) rfl
theorem en44:Enters prog 44:=enters_of func44 (by decide +kernel) rfl
theorem IH:Enters prog 45:=enters_of func45 (by decide +kernel) rfl
theorem OX:Enters prog 46:=enters_of func46 (by decide +kernel) rfl
theorem II:Enters prog 47:=enters_of func47 (by decide +kernel) rfl
theorem TO:Enters prog 48:=enters_of func48 (by decide +kernel) rfl
theorem Mg:Enters prog 49:=enters_of func49 (by decide +kernel) rfl
theorem OY:Enters prog 50:=enters_of func50 (by decide +kernel) rfl
theorem IJ:Enters prog 51:=enters_of func51 (by decide +kernel) rfl
theorem TP:Enters prog 52:=enters_of func52 (by decide +kernel) rfl
theorem OZ:Enters prog 53:=enters_of func53 (by decide +kernel) rfl
theorem TQ:Enters prog 61:=enters_of func61 (by decide +kernel) rfl
theorem TR:Enters prog 62:=enters_of func62 (by decide +kernel) rfl
theorem O0:Enters prog 63:=enters_of func63 (by decide +kernel) rfl
theorem O1:Enters prog 64:=enters_of func64 (by decide +kernel) rfl
theorem Mh:Enters prog 65:=enters_of func65 (by decide +kernel) rfl
theorem TS:Enters prog 66:=enters_of func66 (by decide +kernel) rfl
theorem TU:Enters prog 67:=enters_of func67 (by decide +kernel) rfl
theorem IK:Enters prog 68:=enters_of func68 (by decide +kernel) rfl
theorem CP:Enters prog 82:=enters_of func82 (by decide +kernel) rfl
theorem TV:Enters prog 84:=enters_of func84 (by decide +kernel) rfl
theorem TW:Enters prog 85:=enters_of func85 (by decide +kernel) rfl
theorem TX:Enters prog 86:=enters_of func86 (by decide +kernel) rfl
theorem TY:Enters prog 87:=enters_of func87 (by decide +kernel) rfl
theorem TZ:Enters prog 89:=enters_of func89 (by decide +kernel) rfl
theorem T0:Enters prog 91:=enters_of func91 (by decide +kernel) rfl
theorem T1:Enters prog 98:=enters_of func98 (by decide +kernel) rfl
theorem O2:Enters prog 99:=enters_of func99 (by decide +kernel) rfl
theorem Kg:Enters prog 100:=enters_of func100 (by decide +kernel) rfl
theorem O3:Enters prog 101:=enters_of func101 (by decide +kernel) rfl
theorem O4:Enters prog 102:=enters_of func102 (by decide +kernel) rfl
theorem O5:Enters prog 103:=enters_of func103 (by decide +kernel) rfl
theorem O6:Enters prog 104:=enters_of func104 (by decide +kernel) rfl
theorem O7:Enters prog 105:=enters_of func105 (by decide +kernel) rfl
theorem Fp:Enters prog 106:=enters_of func106 (by decide +kernel) rfl
theorem Fq:Enters prog 107:=enters_of func107 (by decide +kernel) rfl
theorem Fs:Enters prog 108:=enters_of func108 (by decide +kernel) rfl
theorem O8:Enters prog 109:=enters_of func109 (by decide +kernel) rfl
theorem Fu:Enters prog 110:=enters_of func110 (by decide +kernel) rfl
theorem O9:Enters prog 111:=enters_of func111 (by decide +kernel) rfl
theorem km:Enters prog 112:=enters_of func112 (by decide +kernel) rfl
theorem Pa:Enters prog 113:=enters_of func113 (by decide +kernel) rfl
theorem Pb:Enters prog 114:=enters_of func114 (by decide +kernel) rfl
theorem Kh:Enters prog 115:=enters_of func115 (by decide +kernel) rfl
theorem BL:Enters prog 116:=enters_of func116 (by decide +kernel) rfl
theorem Pc:Enters prog 123:=enters_of func123 (by decide +kernel) rfl
theorem Ki:Enters prog 124:=enters_of func124 (by decide +kernel) rfl
theorem Fv:Enters prog 125:=enters_of func125 (by decide +kernel) rfl
theorem Kj:Enters prog 126:=enters_of func126 (by decide +kernel) rfl
theorem Pd:Enters prog 127:=enters_of func127 (by decide +kernel) rfl
theorem Kk:Enters prog 128:=enters_of func128 (by decide +kernel) rfl
theorem Kl:Enters prog 129:=enters_of func129 (by decide +kernel) rfl
theorem Pe:Enters prog 130:=enters_of func130 (by decide +kernel) rfl
theorem Fw:Enters prog 131:=enters_of func131 (by decide +kernel) rfl
theorem Km:Enters prog 132:=enters_of func132 (by decide +kernel) rfl
theorem xz:Enters prog 133:=enters_of func133 (by decide +kernel) rfl
theorem en134:Enters prog 134:=enters_of func134 (by decide +kernel) rfl
theorem Kn:Enters prog 135:=enters_of func135 (by decide +kernel) rfl
theorem Pf:Enters prog 136:=enters_of func136 (by decide +kernel) rfl
theorem Fx:Enters prog 138:=enters_of func138 (by decide +kernel) rfl
theorem mR:Enters prog 139:=enters_of func139 (by decide +kernel) rfl
theorem xA:Enters prog 154:=enters_of func154 (by decide +kernel) rfl
theorem Fy:Enters prog 156:=enters_of func156 (by decide +kernel) rfl
theorem Ko:Enters prog 158:=enters_of func158 (by decide +kernel) rfl
theorem Kp:Enters prog 159:=enters_of func159 (by decide +kernel) rfl
theorem Pg:Enters prog 160:=enters_of func160 (by decide +kernel) rfl
theorem Pj:Enters prog 161:=enters_of func161 (by decide +kernel) rfl
theorem Pk:Enters prog 162:=enters_of func162 (by decide +kernel) rfl
theorem BM:Enters prog 163:=enters_of func163 (by decide +kernel) rfl
theorem Pl:Enters prog 166:=enters_of func166 (by decide +kernel) rfl
theorem Fz:Enters prog 167:=enters_of func167 (by decide +kernel) rfl
theorem xB:Enters prog 168:=enters_of func168 (by decide +kernel) rfl
theorem BN:Enters prog 170:=enters_of func170 (by decide +kernel) rfl
theorem Pm:Enters prog 171:=enters_of func171 (by decide +kernel) rfl
theorem FA:Enters prog 172:=enters_of func172 (by decide +kernel) rfl
theorem Pn:Enters prog 185:=enters_of func185 (by decide +kernel) rfl
theorem Po:Enters prog 186:=enters_of func186 (by decide +kernel) rfl
theorem BO:Enters prog 187:=enters_of func187 (by decide +kernel) rfl
theorem qY:Enters prog 188:=enters_of func188 (by decide +kernel) rfl
theorem Pp:Enters prog 189:=enters_of func189 (by decide +kernel) rfl
theorem Pq:Enters prog 190:=enters_of func190 (by decide +kernel) rfl
theorem Kq:Enters prog 191:=enters_of func191 (by decide +kernel) rfl
theorem FB:Enters prog 192:=enters_of func192 (by decide +kernel) rfl
theorem eM:Enters prog 193:=enters_of func193 (by decide +kernel) rfl
theorem Pr:Enters prog 194:=enters_of func194 (by decide +kernel) rfl
theorem Kr:Enters prog 195:=enters_of func195 (by decide +kernel) rfl
theorem FC:Enters prog 196:=enters_of func196 (by decide +kernel) rfl
theorem Ps:Enters prog 197:=enters_of func197 (by decide +kernel) rfl
theorem Ks:Enters prog 198:=enters_of func198 (by decide +kernel) rfl
theorem tN:Enters prog 199:=enters_of func199 (by decide +kernel) rfl
theorem Kt:Enters prog 200:=enters_of func200 (by decide +kernel) rfl
theorem Ku:Enters prog 201:=enters_of func201 (by decide +kernel) rfl
theorem Pt:Enters prog 202:=enters_of func202 (by decide +kernel) rfl
theorem Pu:Enters prog 206:=enters_of func206 (by decide +kernel) rfl
theorem FD:Enters prog 208:=enters_of func208 (by decide +kernel) rfl
theorem Pv:Enters prog 209:=enters_of func209 (by decide +kernel) rfl
theorem Pw:Enters prog 210:=enters_of func210 (by decide +kernel) rfl
theorem FE:Enters prog 211:=enters_of func211 (by decide +kernel) rfl
theorem xC:Enters prog 212:=enters_of func212 (by decide +kernel) rfl
theorem FG:Enters prog 213:=enters_of func213 (by decide +kernel) rfl
theorem Kv:Enters prog 214:=enters_of func214 (by decide +kernel) rfl
theorem Px:Enters prog 215:=enters_of func215 (by decide +kernel) rfl
theorem Py:Enters prog 216:=enters_of func216 (by decide +kernel) rfl
theorem Pz:Enters prog 217:=enters_of func217 (by decide +kernel) rfl
theorem BP:Enters prog 218:=enters_of func218 (by decide +kernel) rfl
theorem FH:Enters prog 220:=enters_of func220 (by decide +kernel) rfl
theorem Kw:Enters prog 225:=enters_of func225 (by decide +kernel) rfl
theorem Kx:Enters prog 235:=enters_of func235 (by decide +kernel) rfl
theorem PA:Enters prog 236:=enters_of func236 (by decide +kernel) rfl
theorem c9:Enters prog 237:=enters_of func237 (by decide +kernel) rfl
theorem PB:Enters prog 238:=enters_of func238 (by decide +kernel) rfl
theorem PD:Enters prog 239:=enters_of func239 (by decide +kernel) rfl
theorem Ky:Enters prog 240:=enters_of func240 (by decide +kernel) rfl
theorem Kz:Enters prog 241:=enters_of func241 (by decide +kernel) rfl
theorem KA:Enters prog 242:=enters_of func242 (by decide +kernel) rfl
theorem PE:Enters prog 244:=enters_of func244 (by decide +kernel) rfl
theorem FI:Enters prog 245:=enters_of func245 (by decide +kernel) rfl
theorem BQ:Enters prog 246:=enters_of func246 (by decide +kernel) rfl
theorem KB:Enters prog 247:=enters_of func247 (by decide +kernel) rfl
theorem KC:Enters prog 248:=enters_of func248 (by decide +kernel) rfl
theorem PF:Enters prog 249:=enters_of func249 (by decide +kernel) rfl
theorem PG:Enters prog 250:=enters_of func250 (by decide +kernel) rfl
theorem KD:Enters prog 251:=enters_of func251 (by decide +kernel) rfl
theorem PH:Enters prog 260:=enters_of func260 (by decide +kernel) rfl
theorem ko:Enters prog 268:=enters_of func268 (by decide +kernel) rfl
theorem FJ:Enters prog 269:=enters_of func269 (by decide +kernel) rfl
theorem PI:Enters prog 270:=enters_of func270 (by decide +kernel) rfl
theorem PJ:Enters prog 271:=enters_of func271 (by decide +kernel) rfl
theorem PK:Enters prog 272:=enters_of func272 (by decide +kernel) rfl
theorem KE:Enters prog 273:=enters_of func273 (by decide +kernel) rfl
theorem KF:Enters prog 284:=enters_of func284 (by decide +kernel) rfl
theorem KG:Enters prog 285:=enters_of func285 (by decide +kernel) rfl
theorem PL:Enters prog 286:=enters_of func286 (by decide +kernel) rfl
theorem PM:Enters prog 287:=enters_of func287 (by decide +kernel) rfl
theorem KH:Enters prog 290:=enters_of func290 (by decide +kernel) rfl
theorem PN:Enters prog 291:=enters_of func291 (by decide +kernel) rfl
theorem xD:Enters prog 327:=enters_of func327 (by decide +kernel) rfl
theorem PO:Enters prog 328:=enters_of func328 (by decide +kernel) rfl
theorem PQ:Enters prog 332:=enters_of func332 (by decide +kernel) rfl
theorem PR:Enters prog 333:=enters_of func333 (by decide +kernel) rfl
theorem PS:Enters prog 334:=enters_of func334 (by decide +kernel) rfl
theorem PT:Enters prog 335:=enters_of func335 (by decide +kernel) rfl
theorem PU:Enters prog 352:=enters_of func352 (by decide +kernel) rfl
theorem PV:Enters prog 353:=enters_of func353 (by decide +kernel) rfl
end Go.Proofs.YtfdedoiiahbnnaaGreat
namespace Go.Proofs.YtfdedoiiahbnnaaGreat
open Go Go.RowKit Dv
structure Wd where
 s:ByteArray
 a:Int
structure Hd where
 ai:Int
 cW:Int
 lo:Int
 hi:Int
 most:Int
 af:List Wd
 name:Wd
structure Ph where
 name:Wd
 bare:Bool
 label:List Wd
 wide:Int
 ck:Int
 cn:Int
 ca:Int
 cl:List Wd
mutual
inductive Ty where
 | mk (h:Hd) (ps:Pts)
inductive Pts where
 | nil
 | cons (p:Ph) (t:Ty) (r:Pts)
end
def Ty.h:Ty->Hd | .mk h _=>h
def Ty.ps:Ty->Pts | .mk _ ps=>ps
def Pts.toList:Pts->List (Ph × Ty)
 | .nil=>[]
 | .cons p t r=>(p,t) :: r.toList
def Pts.len:Pts->Nat
 | .nil=>0
 | .cons _ _ r=>r.len + 1
theorem Pts.FK:∀ ps:Pts,ps.len=ps.toList.length
 | .nil=>rfl
 | .cons _ _ r=>by simp [Pts.len,Pts.toList,Pts.FK r]
def Wd.wt (w:Wd):Nat:=w.s.size + 64
def wdsWt:List Wd->Nat
 | []=>0
 | w :: r=>w.wt + wdsWt r
def Hd.wt (h:Hd):Nat:=256 + wdsWt h.af + h.name.wt
def Ph.wt (p:Ph):Nat:=256 + p.name.wt + wdsWt p.label + wdsWt p.cl
mutual
def Ty.wt:Ty->Nat
 | .mk h ps=>h.wt + ps.wt
def Pts.wt:Pts->Nat
 | .nil=>0
 | .cons p t r=>p.wt + t.wt + r.wt
end
theorem bd:∀ l:List Wd,64 * l.length<=wdsWt l
 | []=>zLeR _
 | w :: r=>by have:=bd r;simp only [List.length_cons,wdsWt,Wd.wt];omega
theorem fA:∀ {l:List Wd} {w:Wd},w∈l->w.s.size + 64<=wdsWt l
 | x :: r,w,h=>by
  rcases cY h with h | h
  ·subst h;simp only [wdsWt,Wd.wt];omega
  ·have:=fA h;simp only [wdsWt];omega
theorem Pts.dX:∀ ps:Pts,256 * ps.len<=ps.wt
 | .nil=>zLeR _
 | .cons p t r=>by have:=Pts.dX r;simp only [Pts.len,Pts.wt,Ph.wt];omega
theorem Pts.eC:∀ {ps:Pts} {p:Ph} {t:Ty},(p,t)∈ps.toList->p.wt + t.wt<=ps.wt
 | .cons p t r,q,u,h=>by
  rcases cY h with h | h
  ·cases h;simp only [Pts.wt];omega
  ·have:=Pts.eC h;simp only [Pts.wt];omega
theorem Ty.gv (t:Ty):256<=t.wt:=by
 cases t;simp only [Ty.wt,Hd.wt];omega
def gm (w:Wd):List DV:=[.v (.string w.s),.v (.int .i64 w.a)]
def bm (l:List Wd):List (List DV):=l.map gm
def zL (p:Ph) (tl:List DV):List DV:=
 .v (.string p.name.s) :: .v (.int .i64 p.name.a) :: .v (.bool p.bare) :: .sl 2 (bm p.label) none :: .v (.int .i64 p.wide) :: .v (.int .i64 p.ck) :: .v (.int .i64 p.cn) :: .v (.int .i64 p.ca) :: .sl 2 (bm p.cl) none :: tl
mutual
def cX:Ty->List DV
 | .mk h ps=>[.v (.int .i64 h.ai),.v (.int .i64 h.cW),.v (.int .i64 h.lo),.v (.int .i64 h.hi),.v (.int .i64 h.most),.sl 2 (bm h.af) none,.sl 18 (dY ps) none,.v (.string h.name.s),.v (.int .i64 h.name.a)]
def dY:Pts->List (List DV)
 | .nil=>[]
 | .cons p t r=>zL p (cX t) :: dY r
end
theorem ak (l:List Wd):(bm l).length=l.length:=by simp [bm]
theorem aC:∀ ps:Pts,(dY ps).length=ps.len
 | .nil=>by simp [dY,Pts.len]
 | .cons p t r=>by simp [dY,Pts.len,aC r]
theorem aH {l:List Wd} {j:Nat} {w:Wd} (h:l[j]? = some w):(bm l)[j]? = some (gm w):=by simp [bm,h]
theorem tO {l:List Wd} {e:Nat} {x:Wd} (h:l[e]? = some x):bm (l.take e) ++ [gm x]=bm (l.take (e + 1)):=by
 rw [List.take_add_one,h];simp [bm]
theorem bz:∀ {ps:Pts} {j:Nat} {p:Ph} {t:Ty},ps.toList[j]? = some (p,t)->(dY ps)[j]? = some (zL p (cX t))
 | .nil,j,p,t,h=>by simp [Pts.toList] at h
 | .cons q u r,0,p,t,h=>by grind [Pts.toList,dY]
 | .cons q u r,j + 1,p,t,h=>by
  simp only [Pts.toList,List.getElem?_cons_succ] at h;simp only [dY,List.getElem?_cons_succ];exact bz h
def Pts.drop:Nat->Pts->Pts
 | 0,ps=>ps
 | _ + 1,.nil=>.nil
 | e + 1,.cons _ _ r=>r.drop e
theorem Pts.drop_cons:∀ {e:Nat} {ps:Pts} {p:Ph} {t:Ty},ps.toList[e]? = some (p,t)->ps.drop e = .cons p t (ps.drop (e + 1))
 | 0,.cons q u r,p,t,h=>by
  simp only [Pts.toList,List.getElem?_cons_zero,oI,Prod.mk.injEq] at h;obtain ⟨rfl,rfl⟩:=h;rfl
 | e + 1,.cons q u r,p,t,h=>by
  simp only [Pts.toList,List.getElem?_cons_succ] at h;simp only [Pts.drop];exact Pts.drop_cons h
 | 0,.nil,p,t,h=>by simp [Pts.toList] at h
 | e + 1,.nil,p,t,h=>by simp [Pts.toList] at h
theorem Pts.cu:∀ (ps:Pts),ps.drop ps.len = .nil
 | .nil=>rfl
 | .cons _ _ r=>by simp only [Pts.len,Pts.drop];exact Pts.cu r
theorem Pts.dq {ps:Pts} {e:Nat} (h:e < ps.len):∃ p t,ps.toList[e]? = some (p,t):=by
 rw [Pts.FK] at h;exact ⟨_,_,gE h⟩
theorem drop_cons {α:Type} {l:List α} {e:Nat} {x:α} (h:l[e]? = some x):l.drop e=x :: l.drop (e + 1):=by
 obtain ⟨h1,h2⟩:=List.getElem?_eq_some_iff.1 h;rw [<- h2];exact List.drop_eq_getElem_cons h1
def aJ:ByteArray:=⟨#[]⟩
def FL:Hd:=⟨0,0,0,0,0,[],⟨aJ,0⟩⟩
def bU:Ty:=.mk FL .nil
def dJ:Ph:=⟨⟨aJ,0⟩,false,[],0,0,0,0,[]⟩
def gw:Ph:=⟨⟨aJ,0⟩,true,[],0,0,0,0,[]⟩
theorem aT {e n:Nat} (h:e < n) (hn:n<=4611686018427387904):IntKind.i64.wrap ((e:Int) + 1)=((e + 1:Nat):Int):=by
 rw [IntWalk.i64_in _ ⟨by omega,by omega⟩];omega
theorem wrap64 {n:Int} (h1 : -9223372036854775808<=n) (h2:n<=9223372036854775807):IntKind.i64.wrap n=n:=IntWalk.i64_in n ⟨h1,h2⟩
theorem av (x a:Bool):pickB x a false=(x && a):=by cases x<;>rfl
theorem aj (x b:Bool):pickB x true b=(x || b):=by cases x<;>rfl
end Go.Proofs.YtfdedoiiahbnnaaGreat
set_option maxRecDepth 100000
namespace Go.Proofs.YtfdedoiiahbnnaaGreat
open Go Go.RowKit Dv Go.Proofs.Tryz
def isLet (c:Int):Bool:=decide (97<=c) && decide (c<=122)
def fB (c:Int):Bool:=(isLet c || (decide (48<=c) && decide (c<=57))) || decide (c=95)
def signs:List UInt8->Nat
 | []=>0
 | c :: r=>if fB c.toNat=true then signs r + 1 else 0
def cp:List UInt8->Nat
 | []=>0
 | c :: r=>if isLet c.toNat=true then signs r + 1 else 0
def aX (s:ByteArray):Bool:=decide (0 < s.size) && (decide (s.size<=32) && decide (cp s.data.toList=s.size))
theorem xE {c:Int} (h:isLet c=true):fB c=true:=by simp [fB,h]
theorem xF:∀ l:List UInt8,signs l<=l.length
 | []=>zLeR _
 | c :: r=>by
  simp only [signs,List.length_cons];split
  ·have:=xF r;omega
  ·omega
theorem qZ {c:UInt8} {r:List UInt8} (h:isLet c.toNat=true):cp (c :: r)=signs (c :: r):=by
 simp [cp,signs,h,xE h]
theorem gO {s:ByteArray} {k:Nat} (h:k < s.size):∃ c:UInt8,s.data.toList.drop k=c :: s.data.toList.drop (k + 1)/\bq s k=c.toNat:=by
 have hk:k < s.data.toList.length:=sU h;refine ⟨s.data.toList[k],by rw [<- List.drop_eq_getElem_cons hk],?_⟩
 grind [bq]
theorem mS {s:ByteArray} {k:Nat} (h:s.size<=k):s.data.toList.drop k=[]:=List.drop_eq_nil_of_le (sU h)
theorem o0 (c:Int):aV prog 235 [.v (.int .u8 c)] (.v (.bool (isLet c))):=by
 refine eG 9 [.tmp 2] func235 rfl ntmps235 rfl fun _ _ _ _=>?_;exact (congrArg (fun b=>DV.v (.bool b)) (av _ _):_=_)
theorem CQ (c:Int):aV prog 236 [.v (.int .u8 c)] (.v (.bool (fB c))):=by
 refine eG 17 [.tmp 2] func236 rfl ntmps236 rfl fun _ _ _ _=>?_;refine cP Kx (o0 c) ?_;refine (cj ?_:);simp only [av,aj,fB]
abbrev zM (s:ByteArray) (i e:Nat):St:=⟨[aq 5 e,(0,⟨[],.v (.string s)⟩),aq 1 i],[],[]⟩
theorem jJ (s:ByteArray) (i:Nat):s.extract i (i + 0)=⟨#[]⟩:=by
 apply ByteArray.ext
 simp_all
theorem kW (s:ByteArray) (i:Nat) (hi:i < s.size) (hs:s.size<=4611686018427387904):aV prog 154 [.v (.string s),.v (.int .i64 i)]
  (.bS [.v (.string (s.extract i (i + cp (s.data.toList.drop i)))),.v (.int .i64 ((i + cp (s.data.toList.drop i):Nat):Int))]):=by
 obtain ⟨c0,tP,gk⟩:=gO hi;refine eG 38 [.tmp 4,.tmp 5] func154 rfl ntmps154 rfl fun _ _ _ _=>?_;refine br (fun h=>?_) (fun _=>?_)
 ·simp [aj] at h;omega
 refine ⟨⟨by omega,by omega⟩,?_⟩;refine cP Kx (o0 _) ?_;refine br ?_ ?_<;>intro h
 ·have hl:isLet (c0.toNat:Int)=false:=by grind
  have hn:cp (s.data.toList.drop i)=0:=by rw [tP];simp [cp,hl]
  rw [hn,jJ];exact ⟨_,ax,rfl⟩
 have hl:isLet (c0.toNat:Int)=true:=by grind
 have hn:cp (s.data.toList.drop i)=signs (s.data.toList.drop i):=by rw [tP];exact qZ hl
 rw [hn]
 refine aW (fun j st=>∃ e:Nat,st=zM s i e/\e<=s.size/\i<=e/\e + signs (s.data.toList.drop e)=i + signs (s.data.toList.drop i)/\j=s.size - e)
  (s.size - i) (zM s i i) (bc wB) ⟨i,rfl,by omega,by omega,rfl,rfl⟩ ?_
 rintro j st ⟨e,rfl,he,Et,hinv,rfl⟩;refine br ?_ ?_<;>intro h
 ·have ap:e < s.size:=sU h;refine ⟨⟨by omega,by omega⟩,?_⟩;refine cP PA (CQ _) ?_;obtain ⟨c,hd,hb⟩:=gO ap;refine br ?_ ?_<;>intro h2
  ·have T3:fB (c.toNat:Int)=true:=by
    have:fB ((bq s e:Nat):Int)=true:=h2
    rwa [hb] at this
   refine ⟨zM s i (e + 1),(bc (c8 (aT ap (by omega)))),s.size - (e + 1),by omega,e + 1,rfl,by omega,by omega,?_,rfl⟩;rw [hd] at hinv;simp only [signs,T3,if_true] at hinv;omega
  ·have T3:fB (c.toNat:Int)=false:=by
    have:fB ((bq s e:Nat):Int)=false:=h2
    rwa [hb] at this
   rw [hd] at hinv;simp only [signs,T3] at hinv;refine ⟨⟨by omega,by omega,by omega⟩,?_⟩;have:i + signs (s.data.toList.drop i)=e:=by simp at hinv;omega
   rw [this];exact ⟨_,ax,rfl⟩
 ·have hge:e=s.size:=by simp at h;omega
  rw [mS (by omega)] at hinv;simp only [signs] at hinv;refine ⟨⟨by omega,by omega,by omega⟩,?_⟩;have:i + signs (s.data.toList.drop i)=e:=by omega
  rw [this];exact ⟨_,ax,rfl⟩
theorem take_nil (s:ByteArray) (hs:s.size=0):aV prog 154 [.v (.string s),.v (.int .i64 0)] (.bS [.v (.string ⟨#[]⟩),.v (.int .i64 0)]):=by
 refine eG 38 [.tmp 4,.tmp 5] func154 rfl ntmps154 rfl fun _ _ _ _=>?_;refine br (fun _=>?_) (fun h=>?_)
 ·exact ⟨_,ax,rfl⟩
 ·simp [aj,hs] at h
theorem q4 (l:List UInt8):cp l<=l.length:=by
 cases l with
 | nil=>exact zLeR _
 | cons c r=>grind [cp,xF]
theorem xG (s:ByteArray):decide (s=⟨#[]⟩)=decide (s.size=0):=by
 rw [Bool.eq_iff_iff];simp only [decide_eq_true_eq];constructor
 ·rintro rfl;rfl
 ·intro h;apply ByteArray.ext;exact Array.eq_empty_of_size_eq_zero h
theorem fC (s:ByteArray) (hs:s.size<=4611686018427387904):aV prog 82 [.v (.string s)] (.v (.bool (aX s))):=by
 refine eG 22 [.tmp 2] func82 rfl ntmps82 rfl fun _ _ _ _=>?_;by_cases h0:s.size=0
 ·refine cP xA (take_nil s h0) ?_;refine (cj ?_:);simp [av,aX,xG,h0]
 ·refine cP xA (kW s 0 (by omega) hs) ?_;refine (cj ?_:);have hl:=q4 s.data.toList;simp only [Array.length_toList,ByteArray.size_data] at hl;simp only [av,aX,xG,List.drop_zero,Nat.zero_add];rw [Bool.eq_iff_iff];simp only [bA,decide_eq_true_eq,Bool.not_eq_true',decide_eq_false_iff_not];omega
abbrev vm (s:ByteArray) (i n e:Nat):St:=⟨[aq 5 n,aq 6 e,(0,⟨[],.v (.string s)⟩),aq 1 i],[],[]⟩
theorem xH (s:ByteArray) (hs:s.size<=4611686018427387904):aV prog 260 [.v (.string s),.v (.int .i64 0)] (.v (.int .i64 (cp s.data.toList))):=by
 refine eG 47 [.tmp 4] func260 rfl ntmps260 rfl fun _ _ _ _=>?_
 refine aW (fun j st=>∃ e:Nat,st=vm s 0 e e/\e<=s.size/\(e=0∨e + signs (s.data.toList.drop e)=cp s.data.toList)/\j=s.size - e)
  s.size (vm s 0 0 0) (bc wB) ⟨0,rfl,by omega,.inl rfl,rfl⟩ ?_
 rintro j st ⟨e,rfl,he,hinv,rfl⟩;refine br ?_ ?_<;>intro h
 ·have ap:e < s.size:=sU h;refine ⟨⟨by omega,by omega⟩,?_⟩;obtain ⟨c,hd,hb⟩:=gO ap;have key:cp s.data.toList=if (e=0/\isLet (c.toNat:Int)=true)∨(e≠0/\fB (c.toNat:Int)=true) then (e + 1) + signs (s.data.toList.drop (e + 1)) else e:=by grind [cp,isLet,signs,fB]
  refine br ?_ ?_<;>intro h2
  ·have iU:bq s ((e:Int).toNat)=c.toNat:=hb;rw [iU] at h2;have:cp s.data.toList=e:=by grind [av,aj,fB,isLet]
   rw [this];exact (rfl:_=_)
  ·have iU:bq s ((e:Int).toNat)=c.toNat:=hb;rw [iU] at h2;refine ⟨vm s 0 (e + 1) (e + 1),(bc (c8 (aT ap (by omega)))),s.size - (e + 1),by omega,e + 1,rfl,by omega,.inr ?_,rfl⟩;rw [key,zIfP];simp only [av,aj,fB,isLet] at h2 ⊢;simp at h2 ⊢;omega
 ·have hge:e=s.size:=by simp at h;omega
  have:cp s.data.toList=e:=by
   rcases hinv with h0 | h0
   ·subst h0;have:s.data.toList=[]:=by rw [<- List.drop_zero (l:=s.data.toList)];exact mS (by omega)
    rw [this];all_goals rfl
   ·grind [mS,signs]
  rw [this];exact (rfl:_=_)
theorem iC (s:ByteArray) (hs:s.size<=4611686018427387904):aV prog 187 [.v (.string s)] (.v (.bool (aX s))):=by
 refine eG 18 [.tmp 2] func187 rfl ntmps187 rfl fun _ _ _ _=>?_;refine br ?_ ?_<;>intro h
 ·refine cP PH (xH s hs) ?_;refine (cj ?_:);rw [Bool.eq_iff_iff];simp [av] at h;simp [av,aX];omega
 ·refine (cj ?_:);rw [Bool.eq_iff_iff];simp [av] at h;simp [av,aX];omega
def dB (l:List ByteArray):List (List DV):=l.map fun s=>[.v (.string s)]
def dInts (l:List Nat):List (List DV):=l.map fun (i:Nat)=>[.v (.int .i64 (i:Int))]
theorem bP (l:List ByteArray):(dB l).length=l.length:=by simp [dB]
theorem aY (l:List Nat):(dInts l).length=l.length:=by simp [dInts]
theorem eT {l:List ByteArray} {j:Nat} {x:ByteArray} (h:l[j]? = some x):(dB l)[j]? = some [.v (.string x)]:=by simp [dB,h]
theorem bY {l:List Nat} {j:Nat} {x:Nat} (h:l[j]? = some x):(dInts l)[j]? = some [.v (.int .i64 (x:Int))]:=by simp [dInts,h]
abbrev zN (g:Nat) (cb:List DV) (i j:Nat):St:=⟨[(1,⟨[],.fn g [] cb⟩),aq 5 i,aq 6 j],[],[]⟩
theorem o6 (g:Nat) (iW:Enters prog g) (cb:List DV) (n m:Nat) (hn:n<=1099511627776) (hm:m<=n) (hcb:CcL [] 0 0 0 cb cb) (gM:clB.clL 0 0 cb=true)
  (hp:∀ i:Nat,i < n->aV prog g (.v (.int .i64 i) :: cb) (.v (.bool (decide (m<=i))))) :
  aV prog 200 [.v (.int .i64 n),.fn g [] cb] (.v (.int .i64 m)):=by
 refine eG 26 [.tmp 4] func200 rfl ntmps200 rfl fun _ _ _ _=>?_;have pD:clB 0 0 (.fn g [] cb)=true:=by simp only [clB,bA];exact ⟨rfl,gM⟩
 refine lI (fun j st=>∃ a b:Nat,st=zN g cb a b/\a<=m/\m<=b/\b<=n/\j=b - a) ⟨0,n,rfl,by omega,by omega,by omega,rfl⟩ (bc (c8 pD)) ?_;rintro j st ⟨a,b,rfl,h1,h2,h3,rfl⟩;refine br ?_ ?_<;>intro h
 ·have ap:a < b:=sU h
  have Mi:IntKind.i64.wrap ((IntKind.u64.wrap (IntKind.i64.wrap ((a:Int) + (b:Int)))).fdiv (2 ^ (min ((1:Int).toNat) IntKind.u64.bits)))=(((a + b) / 2:Nat):Int):=by
   rw [wrap64 (n:=(a:Int) + (b:Int)) (by omega) (by omega),IntKind.wrap_u64];have e2:(2:Int) ^ (min ((1:Int).toNat) IntKind.u64.bits)=2:=by decide
   rw [e2,Int.fdiv_eq_ediv_of_nonneg _ (by decide),wrap64 (by omega) (by omega)];omega
  refine ⟨by decide,?_⟩;refine cP iW (hp ((a + b) / 2) (by omega)) ?_ ⟨_,_,rfl,congrArg (fun z=>DV.v (.int .i64 z)) Mi,hcb⟩;refine br ?_ ?_<;>intro hq
  ·have hq:(a + b) / 2 < m:=sU hq;have wT:=aT (e:=(a + b) / 2) (n:=n) (by omega) (by omega);rw [<- Mi] at wT;refine ⟨zN g cb ((a + b) / 2 + 1) b,(bc (hY pD wT)),b - ((a + b) / 2 + 1),by omega,(a + b) / 2 + 1,b,rfl,by omega,by omega,by omega,rfl⟩
  ·have hq:m<=(a + b) / 2:=sU hq;refine ⟨zN g cb a ((a + b) / 2),(bc (hY pD Mi)),(a + b) / 2 - a,by omega,a,(a + b) / 2,rfl,by omega,by omega,by omega,rfl⟩
 ·have hge:¬ a < b:=sU h;have:a=m:=by omega
  subst this;exact (rfl:_=_)
def vn (a b:ByteArray):Bool:=Op.bytesLess a.data.toList b.data.toList
theorem iK:∀ l:List UInt8,Op.bytesLess l l=false
 | []=>rfl
 | a :: r=>by simp [Op.bytesLess,iK r]
theorem ic:∀ {a b:List UInt8},Op.bytesLess a b=true->Op.bytesLess b a=false
 | _,[],h=>by simp [Op.bytesLess] at h
 | [],b :: r,_=>rfl
 | a :: x,b :: y,h=>by
  simp only [Op.bytesLess,Bool.or_eq_true,decide_eq_true_eq,bA,beq_iff_eq] at h;simp only [Op.bytesLess,Bool.or_eq_false_iff,decide_eq_false_iff_not,Bool.and_eq_false_imp,beq_iff_eq];rcases h with h | ⟨rfl,h⟩
  ·grind
  ·exact ⟨UInt8.lt_irrefl _,fun _=>ic h⟩
structure fo (L:List ByteArray) (az:List Nat):Prop where
 lt:∀ (i p:Nat),az[i]? = some p->p < L.length
 T4:∀ (i j p q:Nat) (s t:ByteArray),i < j->az[i]? = some p->az[j]? = some q->L[p]? = some s->L[q]? = some t->vn s t=true
 fst:∀ (i p j:Nat) (s:ByteArray),az[i]? = some p->L[p]? = some s->L[j]? = some s->p<=j
 all:∀ (j:Nat) (s:ByteArray),L[j]? = some s->∃ i p:Nat,az[i]? = some p/\L[p]? = some s
abbrev cd (L:List ByteArray) (az:List Nat):List DV:=[.sl 1 (dB L) none,.sl 1 (dInts az) none]
theorem q5 (L:List ByteArray) (az:List Nat) (s:ByteArray) (i p:Nat) (t:ByteArray) (hi:az[i]? = some p) (hp:L[p]? = some t) :
  aV prog 201 [.v (.int .i64 i),.pt [.pt (cd L az) 0] 0,.pt [.v (.string s)] 0] (.v (.bool (!vn t s))):=by
 refine eG 20 [.tmp 4] func201 rfl ntmps201 rfl fun _ _ _ _=>?_;refine dI ?_;refine iX (bY hi) ?_;refine iX (eT hp) ?_;exact (rfl:_=_)
theorem find_spec (L:List ByteArray) (az:List Nat) (s:ByteArray) (q p:Nat) (hT:fo L az) (hl:az.length<=1099511627776) (hq:az[q]? = some p) (hp:L[p]? = some s) :
  aV prog 112 [.pt (cd L az) 0,.v (.string s)] (.bS [.v (.int .i64 p),.v (.bool true)]):=by
 have hqlt:=(gS hq).1;refine eG 47 [.tmp 4,.tmp 5] func112 rfl ntmps112 rfl fun _ _ _ _=>?_
 have gM:∀ i:Nat,i < az.length->aV prog 201 [.v (.int .i64 i),.pt [.pt (cd L az) 0] 0,.pt [.v (.string s)] 0] (.v (.bool (decide (q<=i)))):=by
  intro i hi;obtain ⟨p',sN⟩:∃ p',az[i]? = some p':=⟨_,gE hi⟩;obtain ⟨t,ht⟩:∃ t,L[p']? = some t:=⟨_,gE (hT.lt i p' sN)⟩;have:=q5 L az s i p' t sN ht
  have e:(!vn t s)=decide (q<=i):=by
   rcases Nat.lt_trichotomy i q with h | h | h
   ·rw [hT.T4 i q p' p t s h sN hq ht hp];simp;omega
   ·grind [vn,iK]
   ·have h2:=hT.T4 q i p p' s t h hq sN hp ht;rw [vn,ic h2];simp;omega
  rw [e] at this;exact this
 have hS:=o6 201 Ku [.pt [.pt (cd L az) 0] 0,.pt [.v (.string s)] 0] az.length q hl (by omega) ax rfl gM;refine vl Kt hS (pW (aY az)) rfl ?_;refine dI ?_;refine br ?_ ?_<;>intro h
 ·refine iX (bY hq) ?_;refine iX (eT hp) ?_;refine br ?_ ?_<;>intro h2
  ·exfalso;simp [aj,aY] at h2
  ·refine iX (bY hq) ?_;exact ⟨_,ax,rfl⟩
 ·grind [dInts,aY]
end Go.Proofs.YtfdedoiiahbnnaaGreat
set_option maxRecDepth 100000
namespace Go.Proofs
open Go.Shelf
def Tryz.laysGg6_ren:Go.Shelf.Ren:=⟨fun | 6=>206 | 10=>276 | 11=>277 | 12=>278 | 13=>279 | 14=>280 | 24=>317 | 25=>318 | 26=>319 | 27=>320 | 28=>321 | 29=>322 | 30=>323 | 31=>324 | 32=>325 | 33=>326 | 34=>342 | 35=>343 | 36=>344 | 37=>345 | 38=>346 | 39=>360 | n=>n,fun | 20=>20 | 26=>272 | 35=>348 | 0=>0 | 37=>350 | 3=>3 | 41=>343 | 44=>355 | 49=>374 | 51=>290 | 4=>4 | 54=>377 | 53=>376 | 58=>101 | 5=>5 | 9=>9 | 60=>394 | 64=>398 | 66=>411 | 67=>71 | 17=>17 | 32=>287 | 33=>346 | 82=>428 | 12=>12 | 75=>422 | 76=>423 | 77=>424 | 78=>199 | 79=>425 | 80=>426 | n=>n,fun | n=>n⟩
theorem Tryz.laysGg6:Go.Proofs.LaysGg.n6 prog Tryz.laysGg6_ren:={
 mixed:=by kernel_rfl
 f6:=func206.trans (congrArg some (by kernel_rfl))
 f10:=func276.trans (congrArg some (by kernel_rfl))
 f11:=func277.trans (congrArg some (by kernel_rfl))
 f12:=func278.trans (congrArg some (by kernel_rfl))
 f13:=func279.trans (congrArg some (by kernel_rfl))
 f14:=func280.trans (congrArg some (by kernel_rfl))
 f24:=func317.trans (congrArg some (by kernel_rfl))
 f25:=func318.trans (congrArg some (by kernel_rfl))
 f26:=func319.trans (congrArg some (by kernel_rfl))
 f27:=func320.trans (congrArg some (by kernel_rfl))
 f28:=func321.trans (congrArg some (by kernel_rfl))
 f29:=func322.trans (congrArg some (by kernel_rfl))
 f30:=func323.trans (congrArg some (by kernel_rfl))
 f31:=func324.trans (congrArg some (by kernel_rfl))
 f32:=func325.trans (congrArg some (by kernel_rfl))
 f33:=func326.trans (congrArg some (by kernel_rfl))
 f34:=func342.trans (congrArg some (by kernel_rfl))
 f35:=func343.trans (congrArg some (by kernel_rfl))
 f36:=func344.trans (congrArg some (by kernel_rfl))
 f37:=func345.trans (congrArg some (by kernel_rfl))
 f38:=func346.trans (congrArg some (by kernel_rfl))
 f39:=func360.trans (congrArg some (by kernel_rfl))
 t0:=Tryz.underlying0
 a0:=Tryz.isAgg0
 z0:=Tryz.sizeOf0
 v0:=Tryz.zeroValue0
 i0:=by kernel_rfl
 t3:=Tryz.underlying3
 a3:=Tryz.isAgg3
 z3:=Tryz.sizeOf3
 v3:=Tryz.zeroValue3
 i3:=by kernel_rfl
 t4:=Tryz.underlying4
 a4:=Tryz.isAgg4
 z4:=Tryz.sizeOf4
 v4:=Tryz.zeroValue4
 i4:=by kernel_rfl
 t5:=Tryz.underlying5
 a5:=Tryz.isAgg5
 z5:=Tryz.sizeOf5
 v5:=Tryz.zeroValue5
 i5:=by kernel_rfl
 t9:=Tryz.underlying9
 a9:=Tryz.isAgg9
 z9:=Tryz.sizeOf9
 v9:=Tryz.zeroValue9
 i9:=by kernel_rfl
 t12:=Tryz.underlying12
 a12:=Tryz.isAgg12
 z12:=Tryz.sizeOf12
 v12:=Tryz.zeroValue12
 i12:=by kernel_rfl
 t17:=Tryz.underlying17
 a17:=Tryz.isAgg17
 z17:=Tryz.sizeOf17
 v17:=Tryz.zeroValue17
 i17:=by kernel_rfl
 t20:=Tryz.underlying20
 a20:=Tryz.isAgg20
 z20:=Tryz.sizeOf20
 v20:=Tryz.zeroValue20
 i20:=by kernel_rfl
 t26:=Tryz.underlying272
 a26:=Tryz.isAgg272
 z26:=Tryz.sizeOf272
 v26:=Tryz.zeroValue272
 i26:=by kernel_rfl
 t32:=Tryz.underlying287
 a32:=Tryz.isAgg287
 z32:=Tryz.sizeOf287
 v32:=Tryz.zeroValue287
 i32:=by kernel_rfl
 t33:=Tryz.underlying346
 a33:=Tryz.isAgg346
 z33:=Tryz.sizeOf346
 v33:=Tryz.zeroValue346
 i33:=by kernel_rfl
 t35:=Tryz.underlying348
 a35:=Tryz.isAgg348
 z35:=Tryz.sizeOf348
 v35:=Tryz.zeroValue348
 i35:=by kernel_rfl
 t37:=Tryz.underlying350
 a37:=Tryz.isAgg350
 z37:=Tryz.sizeOf350
 v37:=Tryz.zeroValue350
 i37:=by kernel_rfl
 t41:=Tryz.underlying343
 a41:=Tryz.isAgg343
 z41:=Tryz.sizeOf343
 v41:=Tryz.zeroValue343
 i41:=by kernel_rfl
 t44:=Tryz.underlying355
 a44:=Tryz.isAgg355
 z44:=Tryz.sizeOf355
 v44:=Tryz.zeroValue355
 i44:=by kernel_rfl
 t49:=Tryz.underlying374
 a49:=Tryz.isAgg374
 z49:=Tryz.sizeOf374
 v49:=Tryz.zeroValue374
 i49:=by kernel_rfl
 t51:=Tryz.underlying290
 a51:=Tryz.isAgg290
 z51:=Tryz.sizeOf290
 v51:=Tryz.zeroValue290
 i51:=by kernel_rfl
 t53:=Tryz.underlying376
 a53:=Tryz.isAgg376
 z53:=Tryz.sizeOf376
 v53:=Tryz.zeroValue376
 i53:=by kernel_rfl
 t54:=Tryz.underlying377
 a54:=Tryz.isAgg377
 z54:=Tryz.sizeOf377
 v54:=Tryz.zeroValue377
 i54:=by kernel_rfl
 t58:=Tryz.underlying101
 a58:=Tryz.isAgg101
 z58:=Tryz.sizeOf101
 v58:=Tryz.zeroValue101
 i58:=by kernel_rfl
 t60:=Tryz.underlying394
 a60:=Tryz.isAgg394
 z60:=Tryz.sizeOf394
 v60:=Tryz.zeroValue394
 i60:=by kernel_rfl
 t64:=Tryz.underlying398
 a64:=Tryz.isAgg398
 z64:=Tryz.sizeOf398
 v64:=Tryz.zeroValue398
 i64:=by kernel_rfl
 t66:=Tryz.underlying411
 a66:=Tryz.isAgg411
 z66:=Tryz.sizeOf411
 v66:=Tryz.zeroValue411
 i66:=by kernel_rfl
 t67:=Tryz.underlying71
 a67:=Tryz.isAgg71
 z67:=Tryz.sizeOf71
 v67:=Tryz.zeroValue71
 i67:=by kernel_rfl
 t75:=Tryz.underlying422
 a75:=Tryz.isAgg422
 z75:=Tryz.sizeOf422
 v75:=Tryz.zeroValue422
 i75:=by kernel_rfl
 t76:=Tryz.underlying423
 a76:=Tryz.isAgg423
 z76:=Tryz.sizeOf423
 v76:=Tryz.zeroValue423
 i76:=by kernel_rfl
 t77:=Tryz.underlying424
 a77:=Tryz.isAgg424
 z77:=Tryz.sizeOf424
 v77:=Tryz.zeroValue424
 i77:=by kernel_rfl
 t78:=Tryz.underlying199
 a78:=Tryz.isAgg199
 z78:=Tryz.sizeOf199
 v78:=Tryz.zeroValue199
 i78:=by kernel_rfl
 t79:=Tryz.underlying425
 a79:=Tryz.isAgg425
 z79:=Tryz.sizeOf425
 v79:=Tryz.zeroValue425
 i79:=by kernel_rfl
 t80:=Tryz.underlying426
 a80:=Tryz.isAgg426
 z80:=Tryz.sizeOf426
 v80:=Tryz.zeroValue426
 i80:=by kernel_rfl
 t82:=Tryz.underlying428
 a82:=Tryz.isAgg428
 z82:=Tryz.sizeOf428
 v82:=Tryz.zeroValue428
 i82:=by kernel_rfl }
end Go.Proofs
namespace Go.Proofs.YtfdedoiiahbnnaaGreat
open Go Go.RowKit Go.Lib Go.Sort Go.Proofs.Tryz
noncomputable def T5:TypeInfo:=(prog.info? 96).get (by kernel_rfl)
noncomputable def NN:TypeInfo:=(prog.info? 3).get (by kernel_rfl)
theorem siK (n:Nat) (h2:2<=n):Lib.swapperK n NN 2=5:=by
 have a:NN.hasPointers=false:=by kernel_rfl
 have b:NN.bytes=8:=by kernel_rfl
 have c:(n == 0)=false:=by simp;omega
 have d:(n == 1)=false:=by simp;omega
 simp [Lib.swapperK,a,b,c,d]
theorem FM {α:Type} [Inhabited α] (enc:α->Value) (h1:∀ x,(enc x).oneCell'=true) {lt:α->α->Bool} (hO:SWO lt) (lb:Array Value) (wP c:Nat) (d:Array α) (h2:2<=d.size) (cR:d.size < 4611686018427387904) (w:World)
  (FN:LessReads prog 207 lb enc lt wP 0 d.size w) (hH:Holds enc w wP 0 d) (T6:wP < w.heap.size) :
  Calls prog 206 #[.iface 96 (.slice (some ⟨wP,0,none⟩) d.size c),.func (.func 207) #[] lb] w fun e w'=>
   e = .returned (.tuple #[])/\∃ d' n os,PermIn 0 d.size d d' /\ SortedIn lt 0 d.size d' /\ w'=grow (putRow enc (Sort.ahead w n) wP 0 d') os:=
 Any.sort_Slice_sorted Tryz.laysGg6 96 3 T5 NN (by kernel_rfl) (by kernel_rfl) (by kernel_rfl) (by kernel_rfl) 2 (fun _=>by kernel_rfl) (by kernel_rfl) (fun _=>by kernel_rfl) enc h1 lt hO 207 lb
  (enters_of func207 (by kernel_rfl) rfl) wP 0 c d h2 cR 312 (by rw [siK _ h2];kernel_rfl) true
  (fun args W=>run_callFunc_extern func312 (by kernel_rfl) (by kernel_rfl) (by kernel_rfl) (e:=Extern.ReflectliteSwapper.swap true) (by kernel_rfl) args W) w FN hH T6
theorem CR (lb:Array Value) (p:Option Addr) (n c:Nat) (h1:n<=1) (w:World) :
  Calls prog 206 #[.iface 96 (.slice p n c),.func (.func 207) #[] lb] w fun e w'=>e = .returned (.tuple #[])/\∃ os,w'=grow w os:=by
 have h:n=0∨n=1:=by omega
 rcases h with rfl | rfl
 ·exact Any.sort_Slice_tiny Tryz.laysGg6 96 3 T5 NN (by kernel_rfl) (by kernel_rfl) (by kernel_rfl) (by kernel_rfl) 2 (fun _=>by kernel_rfl) p 0 c h1 308 (by kernel_rfl) _ _ _ w
 ·exact Any.sort_Slice_tiny Tryz.laysGg6 96 3 T5 NN (by kernel_rfl) (by kernel_rfl) (by kernel_rfl) (by kernel_rfl) 2 (fun _=>by kernel_rfl) p 1 c h1 309 (by kernel_rfl) _ _ _ w
end Go.Proofs.YtfdedoiiahbnnaaGreat
set_option maxRecDepth 100000
namespace Go.Proofs.YtfdedoiiahbnnaaGreat
open Go Go.RowKit Dv Go.Proofs.Tryz
theorem ly:∀ {a b:List UInt8},Op.bytesLess a b=false->a=b∨Op.bytesLess b a=true
 | [],[],_=>.inl rfl
 | a :: x,[],_=>.inr rfl
 | [],b :: r,h=>by simp [Op.bytesLess] at h
 | a :: x,b :: y,h=>by
  simp only [Op.bytesLess,Bool.or_eq_false_iff,decide_eq_false_iff_not,Bool.and_eq_false_imp,beq_iff_eq] at h;simp only [Op.bytesLess,Bool.or_eq_true,decide_eq_true_eq,bA,beq_iff_eq];by_cases CS:a=b
  ·subst CS;rcases ly (h.2 rfl) with h2 | h2
   all_goals grind
  all_goals grind
theorem eu:∀ {a b c:List UInt8},Op.bytesLess a b=true->Op.bytesLess b c=true->Op.bytesLess a c=true
 | _,[],_,h,_=>by simp [Op.bytesLess] at h
 | _,_ :: _,[],_,h=>by simp [Op.bytesLess] at h
 | [],b :: y,c :: z,_,_=>rfl
 | a :: x,b :: y,c :: z,h1,h2=>by
  simp only [Op.bytesLess,Bool.or_eq_true,decide_eq_true_eq,bA,beq_iff_eq] at h1 h2 ⊢;rcases h1 with h1 | ⟨rfl,h1⟩
  ·grind
  ·rcases h2 with h2 | ⟨rfl,h2⟩
   ·exact .inl h2
   ·exact .inr ⟨rfl,eu h1 h2⟩
theorem BR {s t:ByteArray} (h:vn s t=false):s=t∨vn t s=true:=by
 rcases ly h with h | h
 ·exact .inl (ByteArray.ext (Array.ext' h))
 ·exact .inr h
def xI (L:List ByteArray) (p q:Nat):Bool:=
 if L.getD p aJ=L.getD q aJ then decide (p < q) else vn (L.getD p aJ) (L.getD q aJ)
theorem IL (L:List ByteArray):Sort.SWO (xI L):=by
 have irr:∀ x,xI L x x=false:=fun x=>by simp [xI]
 have tr:∀ x y z,xI L x y=true->xI L y z=true->xI L x z=true:=by grind [xI,aJ,ic,vn,eu]
 have tot:∀ x y,xI L x y=false->x=y∨xI L y x=true:=by grind [xI,aJ,BR]
 refine ⟨irr,tr,fun x y z h1 h2=>?_⟩
 grind
theorem CT (L:List ByteArray) (d:List Nat) (i j p q:Nat) (hi:d[i]? = some p) (hj:d[j]? = some q) (hp:p < L.length) (hq:q < L.length) :
  V3 prog 207 [.v (.int .i64 i),.v (.int .i64 j),.pt [.sl 1 (dInts d) none] 0,.pt [.pt [.sl 1 (dB L) none,.v (.slice none 0 0)] 0] 0] [] [] (fun r _ _=>r = .v (.bool (xI L p q))):=by
 obtain ⟨s,hs⟩:∃ s,L[p]? = some s:=⟨_,gE hp⟩;obtain ⟨t,ht⟩:∃ t,L[q]? = some t:=⟨_,gE hq⟩;have e:xI L p q=if s=t then decide (p < q) else vn s t:=by grind [xI]
 refine E7 (s:=true) (P:=prog) tt tM 5000 50 [.tmp 6] func207 rfl ntmps207 rfl (nL rfl) (fun _ _ _ _=>?_);refine dI ?_;refine iX (bY hi) ?_;refine iX (bY hj) ?_;refine dI ?_;refine iX (eT hs) ?_;refine iX (eT ht) ?_;refine br ?_ ?_<;>intro h
 ·have bi:s≠t:=sU h;refine dI ?_;refine iX (eT hs) ?_;refine iX (eT ht) ?_;refine (cj ?_:);rw [e,ah bi];rfl
 ·have aD:s=t:=sU h;refine (cj ?_:);rw [e,zIfP aD];simp
abbrev FO (p:Nat):Value:=.int .i64 (p:Int)
theorem xJ {E:En}:∀ {ds:List Nat} {arr:List Value},RvL E (dInts ds).flatten arr->arr=ds.map FO
 | [],arr,h=>by simpa [dInts,RvL] using h
 | x :: r,arr,h=>by
  simp only [dInts,List.map_cons,List.flatten_cons,List.cons_append,List.nil_append,RvL] at h;obtain ⟨v,s,rfl,h1,h2⟩:=h;unfold Rv at h1;rw [h1.1,xJ (ds:=r) h2];rfl
theorem q6 {E:En}:∀ ds:List Nat,RvC E (dInts ds).flatten (ds.map FO)
 | []=>⟨bW E,by simp⟩
 | x :: r=>by
  have ih:=q6 (E:=E) r;refine ⟨?_,?_⟩
  ·simp only [dInts,List.map_cons,List.flatten_cons,List.cons_append,List.nil_append];exact rvL_cons (dQ rfl) ih.1
  ·intro v hv;simp only [List.map_cons,List.mem_cons] at hv;rcases hv with rfl | hv
   ·rfl
   ·exact ih.2 v hv
theorem PW {m:Nat}:∀ ds:List Nat,(∀ p∈ds,p < m + 1)->∃ D:List (Fin (m + 1)),D.map (·.val)=ds
 | [],_=>⟨[],rfl⟩
 | x :: r,h=>by
  obtain ⟨D,hD⟩:=PW r fun p hp=>h p (gA _ hp);exact ⟨⟨x,h x (by simp)⟩ :: D,by simp [hD]⟩
theorem q7 {α:Type} [Inhabited α] (enc:α->Value) (w:World) (b n:Nat) (dk:Array α) (os:Array Obj) (arr:List Value) (ty:TypeId) (hw:w.heap[b]? = some (.cells arr.toArray ty (0,0))) (hl:arr.length=dk.size) :
  ∀ k,k < w.heap.size->(Sort.grow (Sort.putRow enc (Sort.ahead w n) b 0 dk) os).heap[k]? = (World.cS w b (.cells (dk.toList.map enc).toArray ty (0,0))).heap[k]?:=by
 intro k hk;simp only [Sort.grow,Sort.putRow,Sort.mapBlock,Sort.ahead];rw [Array.getElem?_append_left (sU hk),Array.getElem?_modify];by_cases T7:b=k
 ·subst T7;rw [zIfP rfl,hw,fV hw];simp only [Option.map_some,Sort.onCells,oI,Obj.cells.injEq,and_true];apply Array.ext_getElem?;intro j;simp only [Sort.putCells,Array.getElem?_mapIdx]
  grind
 ·rw [ah T7,cx (Ne.symm T7)]
theorem FP {α:Type} {l:List α} {i:Nat} {x:α} (h:l[i]? = some x):l.set i x=l:=by
 apply List.ext_getElem?
 grind
theorem CU {X:Ctx} {st:St} {k:List It} (hP:X.P=prog) {i c len:Nat} {ds:List Nat} (hlen:len=ds.length) {T8:List DV} {d:Nat} (N:Nat) (hN:∀ p∈ds,p < N) (lt:Nat->Nat->Bool) (hO:Sort.SWO lt)
  (kT:st.bx[i]? = some (dInts ds).flatten) (hn:ds.length<=1099511627776) (Wg:List Nat->List DV) (IM:∀ dk:List Nat,dk.length=ds.length->CcL (st.bx.set i (dInts dk).flatten) 0 0 0 (Wg dk) T8)
  (FN:∀ dk:List Nat,dk.length=ds.length->(∀ p∈dk,p < N)->∀ i j p q:Nat,dk[i]? = some p->dk[j]? = some q->V3 prog 207 (.v (.int .i64 i) :: .v (.int .i64 j) :: Wg dk) [] [] (fun r _ _=>r = .v (.bool (lt p q))))
  (hd:eK X.nt st.sl (some d)=true)
  (hk:∀ Mj:List Nat,Mj.Perm ds->(∀ i j p q:Nat,i < j->Mj[i]? = some p->Mj[j]? = some q->lt q p=false)->go X 4000 k ⟨(d,⟨[],.bS []⟩) :: st.sl,st.bx.set i (dInts Mj).flatten,st.tk⟩)
  (hst:X.still=false:=by exact rfl) (hX:X.bt=[]:=by exact rfl):CallG X 206 [.lH 96 (.ms i 1 0 len c),.fn 207 [] T8] (some d) k st:=by
 subst hlen;refine ⟨?_,hst,fun E a w vs h hv=>?_⟩
 ·rw [hP];exact Pu
 rw [hP];simp only [RvL] at hv;obtain ⟨v1,_,rfl,h1,v2,_,rfl,h2,rfl⟩:=hv;unfold Rv at h1;obtain ⟨z,rfl,h1⟩:=h1;unfold Rv at h1;obtain ⟨b,ad,hb,NC,rfl,hca⟩:=h1;unfold Rv at h2;obtain ⟨l,r,rfl,hl,hr⟩:=h2;simp only [RvL] at hl;subst hl;obtain ⟨b',ty,arr,ee,hw,pV⟩:=h.env.dn i _ kT;rw [hb] at ee;simp only [oI] at ee;subst ee;have FQ:=xJ pV.1;have Ma:=cI hw;by_cases h1:ds.length<=1
 ·refine (CR r.toArray ad ds.length c h1 w).mono ?_;rintro e w' ⟨rfl,os,rfl⟩
  have hh:∀ j,j < w.heap.size->(Sort.grow w os).heap[j]? = w.heap[j]?:=fun j hj=>by
   simp only [Sort.grow];rw [Array.getElem?_append_left hj]
  have bD:Rel X E st a (Sort.grow w os):=cy h (Ext.refl E) (h.env.fx hh) h.tk h.nw (h.fr.bN rfl rfl rfl (by simp [Sort.grow]) fun j hj=>.inr (hh j hj)) (ln hst) (.nil hX);have Fh:=hk ds (List.Perm.refl _) (fun i j p q wy _ hj=>by have:=(gS hj).1;omega);rw [FP kT] at Fh;exact go_sound 4000 _ _ Fh E _ _ (bl bD hd (.bS []) (.tuple #[]) (by unfold Rv;exact ⟨[],rfl,bW E⟩))
 ·have h2:2<=ds.length:=by omega
  have Om:=hca (by omega);subst Om
  obtain ⟨m,rfl⟩:∃ m,N=m + 1:=by
   cases Sd:ds with
   | nil=>rw [Sd] at h2;simp at h2
   | cons x r=>have:=hN x (by rw [Sd];simp);exact ⟨N - 1,by omega⟩
  obtain ⟨D,hD⟩:=PW ds hN;have FR:D.length=ds.length:=by rw [<- hD];simp
  let enc:Fin (m + 1)->Value:=fun x=>FO x.val
  have hO':Sort.SWO (fun x y:Fin (m + 1)=>lt x.val y.val):=⟨fun x=>hO.irrefl _,fun x y z=>hO.trans _ _ _,fun x y z=>hO.ntrans _ _ _⟩;have PX:∀ l:List (Fin (m + 1)),l.map enc=(l.map (·.val)).map FO:=fun l=>by simp [enc]
  have hS:=FM enc (fun _=>rfl) hO' r.toArray b c D.toArray (by simpa [FR] using h2) (by simp [FR];omega) w ?_ ?_ Ma
  ·simp only [List.size_toArray,FR] at hS;refine hS.mono ?_;rintro e w' ⟨rfl,d',n,os,hp,hs,rfl⟩;have cR:d'.size=ds.length:=by have:=hp.1;simpa [FR] using this
   have lz:(d'.toList.map (·.val)).Perm ds:=by
    have h3:=hp.2.2;have e1:d'.extract 0 ds.length=d':=Array.extract_eq_self_of_le (by omega);have e2:D.toArray.extract 0 ds.length=D.toArray:=Array.extract_eq_self_of_le (by simp [FR]);rw [e1,e2] at h3;rw [<- hD];exact h3.map _
   have FT:∀ i j p q:Nat,i < j->(d'.toList.map (·.val))[i]? = some p->(d'.toList.map (·.val))[j]? = some q->lt q p=false:=by
    intro i j p q wy hi hj;have pA:j < d'.size:=by have:=(gS hj).1;simpa using this
    have h3:=hs i j (Nat.zero_le _) wy (by omega);rw [getElem!_pos d' j pA,getElem!_pos d' i (by omega)] at h3;have Eu:i < d'.size:=by omega
    simp [Eu] at hi;simp [pA] at hj;rw [<- hi,<- hj];exact h3
   have hh:=q7 enc w b n d' os arr ty hw (by rw [FQ];simp [cR]);have di:=nT (ty:=ty) h hst hb (cs':=(dInts (d'.toList.map (·.val))).flatten) (arr':=(d'.toList.map (·.val)).map FO) (q6 _) ⟨_,hw⟩;rw [<- PX] at di;have ql:(Sort.grow (Sort.putRow enc (Sort.ahead w n) b 0 d') os).heap.size=w.heap.size + os.size:=by simp [Sort.grow,Sort.putRow,Sort.mapBlock,Sort.ahead]
   have bD:=cy di (Ext.refl E) (w':=Sort.grow (Sort.putRow enc (Sort.ahead w n) b 0 d') os) (di.env.fx fun j hj=>hh j (by rwa [eJ] at hj)) di.tk di.nw
    (di.fr.bN rfl rfl rfl (by rw [eJ,ql];omega) fun j hj=>.inr (hh j (by rwa [eJ] at hj))) (ln hst) (.nil hX)
   exact go_sound 4000 _ _ (hk _ lz FT) E _ _ (bl bD hd (.bS []) (.tuple #[]) (by unfold Rv;exact ⟨[],rfl,bW E⟩))
  ·intro mm os dk hs i' j' hi hj;have cR:dk.size=ds.length:=sV FR hs;have hh:=q7 enc w b mm dk os arr ty hw (by rw [FQ];simp [cR]);have hE:=h.env.set hb Ma (ty:=ty) (q6 (E:=E) (dk.toList.map (·.val)));rw [<- PX] at hE;have hE':=hE.fx (w':=Go.Proofs.sortWorld enc w b 0 mm dk os) fun j hj=>hh j (by rwa [eJ] at hj);have Eu:i' < dk.size:=by rw [cR,<- FR];simpa using hi
   have pA:j' < dk.size:=by rw [cR,<- FR];simpa using hj
   have Sn:(dk.toList.map (·.val)).length=ds.length:=sU cR
   have hc:=FN (dk.toList.map (·.val)) Sn (fun p hp=>by
    obtain ⟨x,_,rfl⟩:=List.mem_map.1 hp
    exact x.isLt) i' j' (dk[i']!).val (dk[j']!).val (by rw [getElem!_pos dk i' Eu];simp [Eu]) (by rw [getElem!_pos dk j' pA];simp [pA])
   have hv:RvL E (.v (.int .i64 (i':Int)) :: .v (.int .i64 (j':Int)) :: T8) (.int .i64 (i':Int) :: .int .i64 (j':Int) :: r):=rvL_cons (dQ rfl) (rvL_cons (dQ rfl) hr);have hb:=gI hE' hc ⟨_,_,rfl,rfl,_,_,rfl,rfl,IM _ Sn⟩ hv;have hargs:(#[Value.int .i64 (i':Int),Value.int .i64 (j':Int)] ++ r.toArray)=(Value.int .i64 (i':Int) :: Value.int .i64 (j':Int) :: r).toArray:=by simp
   rw [hargs];refine hb.mono ?_;rintro e w' ⟨v,E2,rfl,KI,_,zq⟩;have:=bn KI;subst this;exact ⟨rfl,zq rfl⟩
  ·intro j hj;have pA:j < D.length:=sU hj;rw [bX hw,Nat.zero_add,FQ];refine ⟨?_,?_⟩
   ·rw [getElem!_pos D.toArray j hj,<- hD];simp [pA,enc]
   ·simp [World.frozen?,hw]
theorem tQ {n m:Nat} {tk:List TkE}:∀ ds:List Nat,WeL n m tk (dInts ds).flatten (dInts ds).flatten
 | []=>rfl
 | b :: r=>⟨_,_,rfl,au rfl,tQ r⟩
theorem mT {n m:Nat} {tk:List TkE} {l:List DV} {ds:List Nat} (h:l=(dInts ds).flatten):WeL n m tk l (dInts ds).flatten:=by rw [h];exact tQ ds
def fp (n e:Nat):List Nat:=List.range e ++ List.replicate (n - e) 0
theorem CV {n e:Nat} (h:e<=n):(fp n e).length=n:=by simp [fp];omega
theorem fillA_0 (n:Nat):(List.replicate n [DV.v (.int .i64 0)]).flatten=(dInts (fp n 0)).flatten:=by simp [fp,dInts]
theorem IP (n:Nat):fp n n=List.range n:=by simp [fp]
theorem kX (ds:List Nat):(dInts ds).flatten=ds.map fun (i:Nat)=>DV.v (.int .i64 (i:Int)):=by
 induction ds with
 | nil=>rfl
 | cons x r ih=>simp only [dInts,List.map_cons,List.flatten_cons] at ih ⊢;rw [ih];all_goals rfl
theorem zO {n e:Nat} (h:e < n):(dInts (fp n e)).flatten.take e ++ [DV.v (.int .i64 (e:Int))] ++ (dInts (fp n e)).flatten.drop (e + 1)=(dInts (fp n (e + 1))).flatten:=by
 simp only [kX,<- List.map_take,<- List.map_drop];have e1:(fp n e).take e=List.range e:=by simp [fp]
 have e2:(fp n e).drop (e + 1)=List.replicate (n - (e + 1)) 0:=by
  simp only [fp,List.drop_append,List.length_range];rw [List.drop_eq_nil_of_le (by simp),List.nil_append,List.drop_replicate];congr 1;omega
 rw [e1,e2];simp [fp,List.range_succ]
abbrev FU (L:List ByteArray) (e:Nat):St:=
 ⟨[aF 3 1,aF 4 3,aq 16 ((dB L).length),aq 17 e],
  [[.sl 1 (dB L) (some 0),.v (.slice none 0 0)],[.loc 0 0],(dInts (fp (dB L).length e)).flatten,[.ms 2 1 0 (dB L).length (dB L).length]],[⟨(dB L).length,9,1,none⟩]⟩
def eU (L:List ByteArray) (ds:List Nat) (i:Nat):Bool:=decide (i=0) || !decide (L.getD (ds.getD i 0) aJ=L.getD (ds.getD (i - 1) 0) aJ)
def dK (L:List ByteArray) (ds:List Nat) (e:Nat):List Nat:=((List.range e).filter (eU L ds)).map fun i=>ds.getD i 0
theorem q8 (L:List ByteArray) (ds:List Nat) (e:Nat):dK L ds (e + 1)=dK L ds e ++ (if eU L ds e=true then [ds.getD e 0] else []):=by
 unfold dK;rw [List.range_succ,List.filter_append,List.map_append];congr 1;cases h:eU L ds e<;>simp [h]
theorem CW (L:List ByteArray) (ds:List Nat) (e:Nat):(dK L ds e).length<=e:=by grind [dK]
abbrev Mk (L:List ByteArray) (ds:List Nat):St:=
 ⟨[aF 3 1,qO 4 [.sl 1 (dInts ds) none],aS 29 1 (dInts ds),aq 30 ((dB L).length),aq 31 0],
  [[.sl 1 (dB L) (some 0),.v (.slice none 0 0)],[.loc 0 0]],[⟨(dB L).length,9,1,none⟩]⟩
abbrev xK (L:List ByteArray) (ds az:List Nat) (m e:Nat):St:=
 ⟨[aF 3 1,qO 4 [.sl 1 (dInts ds) none],aS 29 1 (dInts ds),aq 30 ((dB L).length),aq 31 e],
  [[.sl 1 (dB L) (some 0),.sl 1 (dInts az) (some 1)],[.loc 0 0]],[⟨(dB L).length,9,1,none⟩,⟨m,3,1,none⟩]⟩
theorem getD_some {α:Type} {l:List α} {i:Nat} {x d:α} (h:l[i]? = some x):l.getD i d=x:=by simp [dz,h]
theorem ob {α:Type} {l:List α} {i:Nat} {d:α} (h:i < l.length):l[i]? = some (l.getD i d):=by grind
theorem Ml {L:List ByteArray} {ds:List Nat} (lz:ds.Perm (List.range L.length)) (FT:∀ i j p q:Nat,i < j->ds[i]? = some p->ds[j]? = some q->xI L q p=false):fo L (dK L ds L.length):=by
 have hlen:ds.length=L.length:=by rw [lz.length_eq,List.length_range]
 let D:Nat->Nat:=fun i=>ds.getD i 0
 let T:Nat->ByteArray:=fun i=>L.getD (D i) aJ
 have hD:∀ i,i < L.length->ds[i]? = some (D i):=fun i hi=>ob (by omega)
 have Wh:∀ i,i < L.length->D i < L.length:=fun i hi=>by
  have:=lz.mem_iff.1 (mG (hD i hi));exact List.mem_range.1 this
 have hT:∀ i,i < L.length->L[D i]? = some (T i):=fun i hi=>ob (Wh i hi);have fN:∀ i j,i < j->j < L.length->T i=T j∨vn (T i) (T j)=true:=by grind [xI,BR]
 have PY:∀ i,i < L.length->eU L ds i=true->∀ j,j < i->vn (T j) (T i)=true:=by
  intro i hi hh j LI;have bi:T i≠T (i - 1):=by grind [eU]
  grind [vn,eu]
 have tF:∀ j,j < L.length->∃ k,k < L.length/\D k=j:=by
  intro j hj;have:=lz.mem_iff.2 (List.mem_range.2 hj);obtain ⟨k,hk⟩:=List.getElem?_of_mem this
  grind
 let H:=(List.range L.length).filter (eU L ds)
 have hH:∀ (a i:Nat),H[a]? = some i->i < L.length/\eU L ds i=true:=fun a i h=>by
  have:=mG h
  grind
 have CY:∀ (a p:Nat),(dK L ds L.length)[a]? = some p->∃ i,H[a]? = some i/\D i=p:=by grind [dK,eU]
 have hinc:∀ (a b i k:Nat),a < b->H[a]? = some i->H[b]? = some k->i < k:=by
  intro a b i k CS hi hk;have hp:List.Pairwise (·< ·) H:=List.Pairwise.filter _ List.pairwise_lt_range;obtain ⟨ha,rfl⟩:=List.getElem?_eq_some_iff.1 hi;obtain ⟨hb,rfl⟩:=List.getElem?_eq_some_iff.1 hk;exact List.pairwise_iff_getElem.1 hp a b ha hb CS
 refine ⟨?_,?_,?_,?_⟩
 ·intro a p h;obtain ⟨i,hi,rfl⟩:=CY a p h;exact Wh i (hH a i hi).1
 ·intro a b p q s t CS hp hq hs ht;obtain ⟨i,hi,rfl⟩:=CY a p hp;obtain ⟨k,hk,rfl⟩:=CY b q hq;rw [hT i (hH a i hi).1] at hs;rw [hT k (hH b k hk).1] at ht
  grind
 ·intro a p j s hp hs hj;obtain ⟨i,hi,rfl⟩:=CY a p hp;obtain ⟨wH,zb⟩:=hH a i hi;obtain ⟨k,hk,rfl⟩:=tF j (gS hj).1;rw [hT i wH] at hs;rw [hT k hk] at hj;simp only [oI] at hs hj;rcases Nat.lt_trichotomy k i with h | h | h
  ·have:=PY i wH zb k h;rw [hs,hj,vn,iK] at this;cases this
  ·rw [h];exact zLeR _
  ·have h2:=FT i k (D i) (D k) h (hD i wH) (hD k hk)
   grind [xI,aJ]
 ·intro j s hj;obtain ⟨k,hk,rfl⟩:=tF j (gS hj).1;rw [hT k hk] at hj;simp only [oI] at hj;obtain ⟨i,⟨wH,Wi⟩,hmin⟩:=least (p:=fun i=>i < L.length/\T i=s) ⟨k,hk,hj⟩;have zb:eU L ds i=true:=by grind [eU,aJ]
  have hm:i∈H:=by simp only [H,List.mem_filter,List.mem_range];exact ⟨wH,zb⟩
  obtain ⟨a,ha⟩:=List.getElem?_of_mem hm;refine ⟨a,D i,?_,by rw [hT i wH,Wi]⟩;unfold dK
  grind
theorem ra (L:List ByteArray) (hl:L.length<=1099511627776) :
  Ev prog 125 [.sl 1 (dB L) none] [] [] (fun r _ _=>∃ az,fo L az/\az.length<=L.length/\r = .pt (cd L az) 0):=by
 have hN:=bP L;refine eG 71 [.tmp 2] func125 rfl ntmps125 rfl fun _ _ _ _=>?_;refine ⟨⟨by simp [hN,maxLen];omega,by simp [hN];omega⟩,?_⟩;refine ⟨⟨rfl,by omega,by omega,by omega⟩,?_⟩;refine lJ (fun e=>FU L e) L.length (ep 4 (by repeat' (first | exact rfl | exact au rfl | exact mT (fillA_0 _) | refine ⟨_,_,rfl,?_,?_⟩)) (by repeat' (first | exact trivial | exact au rfl | exact mT (fillA_0 _) | refine ⟨⟨_,rfl,?_⟩,?_⟩))) ?_;intro e he;refine br ?_ ?_<;>intro h
 ·have ap:e < (dB L).length:=sU h;refine ⟨⟨by omega,by omega⟩,?_⟩;have e1:(dInts (fp (dB L).length e)).flatten.length=(dB L).length:=by rw [kX,List.length_map,CV (by omega)]
  refine ⟨by rw [e1];omega,?_⟩
  have cm:(dInts (fp (dB L).length e)).flatten.set (0 + (e:Int).toNat * 1) (DV.v (.int .i64 (e:Int)))=(dInts (fp (dB L).length (e + 1))).flatten:=by
   rw [show 0 + (e:Int).toNat * 1=e by omega,List.set_eq_take_append_cons_drop,zIfP (by rw [e1];omega),<- zO ap];simp
  refine ⟨FU L (e + 1),(ep 4 (by repeat' (first | exact rfl | exact au rfl | exact mT cm | exact aw (aT ap (by omega)) | refine ⟨_,_,rfl,?_,?_⟩)) (by repeat' (first | exact trivial | exact au rfl | exact mT cm | exact aw (aT ap (by omega)) | refine ⟨⟨_,rfl,?_⟩,?_⟩))),L.length - (e + 1),by omega,e + 1,rfl,by omega,rfl⟩
 ·have hge:e=(dB L).length:=by grind
  subst hge;rw [IP]
  have Wj:∀ dk:List Nat,dk.length=(List.range (dB L).length).length->∀ bx:List (List DV),bx[2]? = some (dInts dk).flatten->∀ N0 n0 m0:Nat,N0<=2->Cc bx N0 n0 m0 (.sl 1 (dInts dk) none) (.ms 2 1 0 (dB L).length (dB L).length):=by
   intro dk Sp bx hb N0 n0 m0 T9;simp only [Cc];refine Or.inr (Or.inr (Or.inl ⟨2,0,(dB L).length,_,?_,T9,hb,?_,?_,?_⟩))
   ·rw [aY,Sp,List.length_range]
   ·rw [List.drop_zero,List.take_of_length_le];rw [kX,List.length_map,aY];omega
   ·grind [dInts]
   ·grind [kX]
  refine CU (ds:=List.range (dB L).length) rfl (by simp) (dB L).length (fun p hp=>List.mem_range.1 hp) (xI L) (IL L) rfl (by simp [hN];omega)
   (fun dk=>[.pt [.sl 1 (dInts dk) none] 0,.pt [.pt [.sl 1 (dB L) none,.v (.slice none 0 0)] 0] 0])
   (fun dk Sp=>⟨_,_,rfl,Or.inr ⟨3,_,rfl,Nat.zero_le _,rfl,⟨_,_,rfl,Wj dk Sp _ rfl 0 0 0 (Nat.zero_le _),rfl⟩⟩,ax⟩)
   (fun dk Sp hp i j p q hi hj=>CT L dk i j p q hi hj (by have:=hp p (mG hi);omega) (by have:=hp q (mG hj);omega)) rfl (fun ds lz FT=>?_)
  have gB:ds.length=(dB L).length:=by rw [lz.length_eq,List.length_range]
  have PZ:=Wj ds (by rw [gB,List.length_range])
  refine Fm 2 (Mk L ds) rfl rfl rfl ⟨_,_,rfl,⟨_,_,rfl,⟨nL rfl,rfl⟩,_,_,rfl,rfl,rfl⟩,_,_,rfl,⟨_,_,rfl,⟨nL rfl,rfl⟩,rfl⟩,rfl⟩
   ⟨⟨_,rfl,⟨nL rfl,rfl⟩⟩,⟨_,rfl,Or.inr ⟨3,_,rfl,by decide,rfl,⟨_,_,rfl,PZ _ rfl 2 0 0 (by decide),rfl⟩⟩⟩,⟨_,rfl,PZ _ rfl 2 2 1 (by decide)⟩,⟨_,rfl,rfl⟩,⟨_,rfl,rfl⟩,trivial⟩ ?_
  refine aW (fun j st=>∃ e m:Nat,st=xK L ds (dK L ds e) m e/\m=(dK L ds e).length/\e<=(dB L).length/\j=(dB L).length - e) (dB L).length (xK L ds [] 0 0)
   (eS 2 ⟨0,3,1,none⟩ rfl rfl rfl zB rfl rfl wB) ⟨0,0,rfl,rfl,by omega,by omega⟩ ?_
  rintro j st ⟨e,m,rfl,hm,he,rfl⟩;have iY:=CW L ds e;refine br ?_ ?_<;>intro h
  ·have ap:e < (dB L).length:=sU h;obtain ⟨p,hp⟩:∃ p,ds[e]? = some p:=⟨_,gE (by omega)⟩
   have hpL:p < L.length:=by
    have:=lz.mem_iff.1 (mG hp);rw [List.mem_range] at this;omega
   obtain ⟨s,hs⟩:∃ s,L[p]? = some s:=⟨_,gE hpL⟩;refine iX (bY hp) ?_;have hgp:ds.getD e 0=p:=by simp [dz,hp]
   have Cy:L.getD p aJ=s:=by simp [dz,hs]
   have cG:eU L ds e=true->dK L ds (e + 1)=dK L ds e ++ [p]:=fun hh=>by rw [q8,zIfP hh,hgp]
   have hold:eU L ds e=false->dK L ds (e + 1)=dK L ds e:=fun hh=>by rw [q8,ah (by rw [hh];decide),List.append_nil]
   have BS:eU L ds e=true->dInts (dK L ds e) ++ [[DV.v (.int .i64 (p:Int))]]=dInts (dK L ds (e + 1)):=fun hh=>by rw [cG hh];simp [dInts]
   by_cases h0:e=0
   ·subst h0;have hh:eU L ds 0=true:=by simp [eU]
    refine dI ?_;refine dS ?_;refine ⟨by rw [aY,hm],⟨by simp [aY,maxLen];omega,by simp [aY];omega⟩,?_⟩;refine ⟨xK L ds (dK L ds 1) (m + 1) 1,(ep 2 (by repeat' (first | exact rfl | exact au rfl | exact aw (aT ap (by omega)) | exact bL (BS hh) rfl | refine ⟨_,_,rfl,?_,?_⟩)) (by repeat' (first | exact trivial | exact au rfl | exact aw (aT ap (by omega)) | exact bL (BS hh) rfl | refine ⟨⟨_,rfl,?_⟩,?_⟩))),(dB L).length - 1,by omega,1,m + 1,rfl,by rw [cG hh,List.length_append,hm];rfl,by omega,rfl⟩
   ·obtain ⟨p',sN⟩:∃ p',ds[e - 1]? = some p':=⟨_,gE (by omega)⟩
    have Ua:p' < L.length:=by
     have:=lz.mem_iff.1 (mG sN);rw [List.mem_range] at this;omega
    obtain ⟨s',Wl⟩:∃ s',L[p']? = some s':=⟨_,gE Ua⟩;have hgp':ds.getD (e - 1) 0=p':=by simp [dz,sN]
    have hgs':L.getD p' aJ=s':=by simp [dz,Wl]
    have hhd:eU L ds e = !decide (s=s'):=by grind [eU]
    have hz:IntKind.i64.wrap ((e:Int) - 1)=((e - 1:Nat):Int):=by rw [wrap64 (by omega) (by omega)];omega
    refine dI ?_;refine br (fun _=>?_) (fun h=>?_)
    ·refine iX (eT hs) ?_;refine ⟨[.v (.int .i64 (p':Int))],⟨by rw [hz];omega,by rw [hz];exact bY sN⟩,?_⟩;refine iX (eT Wl) ?_;refine br ?_ ?_<;>intro h2
     ·have hh:eU L ds e=true:=by grind [aj]
      refine dS ?_;refine ⟨by rw [aY,hm],⟨by simp [aY,maxLen];omega,by simp [aY];omega⟩,?_⟩;refine ⟨xK L ds (dK L ds (e + 1)) (m + 1) (e + 1),(ep 2 (by repeat' (first | exact rfl | exact au rfl | exact aw (aT ap (by omega)) | exact bL (BS hh) rfl | refine ⟨_,_,rfl,?_,?_⟩)) (by repeat' (first | exact trivial | exact au rfl | exact aw (aT ap (by omega)) | exact bL (BS hh) rfl | refine ⟨⟨_,rfl,?_⟩,?_⟩))),(dB L).length - (e + 1),by omega,e + 1,m + 1,rfl,by rw [cG hh,List.length_append,hm];rfl,by omega,rfl⟩
     ·have hh:eU L ds e=false:=by grind [aj]
      have aD:dInts (dK L ds e)=dInts (dK L ds (e + 1)):=by rw [hold hh]
      refine ⟨xK L ds (dK L ds (e + 1)) m (e + 1),(ep 2 (zC (aT ap (by omega)) aD) (hY (aT ap (by omega)) aD)),(dB L).length - (e + 1),by omega,e + 1,m,rfl,by rw [hold hh,hm],by omega,rfl⟩
    ·grind
  ·have hge:e=L.length:=by grind
   subst hge;exact ⟨.pt (cd L (dK L ds L.length)) 0,Or.inr ⟨0,_,rfl,Nat.zero_le _,rfl,ax⟩,_,Ml (by rw [<- hN];exact lz) FT,iY,rfl⟩
abbrev P4 (L:List ByteArray) (az:List Nat) (e:Nat):St:=
 ⟨[qO 3 (cd L az),aS 10 1 (dB L),aq 11 ((dB L).length),aq 12 e],[],[]⟩
theorem FV {α:Type}:∀ {l:List α},(∀ (i j:Nat) (x:α),j < i->l[i]? = some x->l[j]? ≠ some x)->l.Nodup
 | l,h=>by
  rw [List.nodup_iff_pairwise_ne,List.pairwise_iff_getElem];intro i j hi hj wy he;exact h j i l[j] wy (gE hj) (by rw [gE hi,he])
theorem lS (L:List ByteArray) (hl:L.length<=1099511627776) :
  Ev prog 131 [.sl 1 (dB L) none] [] [] (fun r _ _=>∃ z:Int,r = .v (.int .i64 z)/\(0<=z↔¬ L.Nodup)):=by
 have hN:=bP L;refine eG 28 [.tmp 2] func131 rfl ntmps131 rfl fun _ _ _ _=>?_;refine gq Fv rfl (ra L hl) ax (fun r hr=>?_);obtain ⟨az,hT,iY,rfl⟩:=hr;refine lI (fun j st=>∃ e:Nat,st=P4 L az e/\e<=L.length/\(∀ (i j:Nat) (x:ByteArray),i < e->j < i->L[i]? = some x->L[j]? ≠ some x)/\j=L.length - e) ⟨0,rfl,by omega,fun i j x hi=>by omega,rfl⟩ (bc wB) ?_;rintro j st ⟨e,rfl,he,hinv,rfl⟩;refine br ?_ ?_<;>intro h
 ·have ap:e < L.length:=sV hN h;obtain ⟨s,hs⟩:=gX ap;obtain ⟨q,p,hq,hp⟩:=hT.all e s hs;have cK:=hT.fst q p e s hq hp hs;refine iX (eT hs) ?_;refine cP km (find_spec L az s q p hT (by omega) hq hp) ?_;refine br ?_ ?_<;>intro h2
  ·have h2:p < e:=sU h2;refine ⟨(e:Int),rfl,⟨fun _ hnd=>?_,fun _=>by omega⟩⟩;rw [List.nodup_iff_pairwise_ne,List.pairwise_iff_getElem] at hnd;obtain ⟨h3,h4⟩:=List.getElem?_eq_some_iff.1 hp;obtain ⟨h5,h6⟩:=List.getElem?_eq_some_iff.1 hs;exact hnd p e h3 h5 h2 (by rw [h4,h6])
  ·have h2:¬ p < e:=sU h2;refine ⟨P4 L az (e + 1),(bc (c8 (aT ap (by omega)))),L.length - (e + 1),by omega,e + 1,rfl,by omega,fun i j x hi hj hx Wm=>?_,rfl⟩;by_cases Et:i=e
   ·subst Et;rw [hs] at hx;simp only [oI] at hx;subst hx;have:=hT.fst q p j s hq hp Wm;omega
   ·exact hinv i j x (by omega) hj hx Wm
 ·have hge:e=L.length:=by grind
  subst hge;refine ⟨-1,rfl,⟨fun h3=>by omega,fun h3=>?_⟩⟩;exact absurd (FV fun i j x wy hi hj=>hinv i j x (gS hi).1 wy hi hj) h3
end Go.Proofs.YtfdedoiiahbnnaaGreat
