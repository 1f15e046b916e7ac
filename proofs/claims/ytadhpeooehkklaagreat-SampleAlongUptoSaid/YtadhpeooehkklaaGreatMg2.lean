/- Part 2 of the proof: The evaluator 'go' is sound: the end of a call, the theorem; contracts; rules for branches, calls, loops; Rules for the evaluator: what is known made less, loops; A region that draws its order: where the operations with an effect are ordered among themselves, and what writes waits for all that reads, one run in the order of the text serves every order; The evaluator at regions that draw their order: one run in the order of the text; what is read is what was known at the region's beginning; A region that draws its order, in which two operations with an effect are not ordered: the run in either order of these two serves every order; Rules for the evaluator: a call that is handed the caller's own objects, to read them; Rules for the evaluator: objects that are written no more are frozen, ahead of a loop; Rules for the evaluator: a call that is handed one of the caller's objects, to write it; The table of this program's types, by which the evaluator goes; The program's functions are entered; The data of the document's types, plain, and as the evaluator has them; Names: the program's and the reference's functions say the same of a text; sort.Search; the program's table of texts: Find; The library's sort.Slice, laid at this program by the kit's tool (lay-plain; wip/tools/lay.sh); The order of the table; the closure handed to sort.Slice; sort.Slice of the table's places, at a call. No condition. -/
import Derived.Test.YtadhpeooehkklaaGreatProg
import Derived.Shelf.GgSortFunc.Whole
import Derived.Shelf.GgSortFunc.Tiny
import Derived.Test.YtadhpeooehkklaaGreatMg1
set_option linter.all false
namespace Go.Proofs.YtadhpeooehkklaaGreat
namespace Dv
open Go Go.RowKit
structure Lr (E E':En) (bx:List (List DV)) (N:Nat):Prop where
 c:∀ a v,E.c a=some v->E'.c a=some v
 fz:∀ (i:Nat) cs,N<=i->bx[i]? = some cs->∃ b arr,E.β[i]? = some b/\RvC E cs arr/\∀ (j:Nat) u,arr[j]? = some u->E'.c ⟨b,j,none⟩=some u
theorem Lr.cl {E E':En} {bx:List (List DV)} {N:Nat} (h:Lr E E' bx N):Lr E E'.cl bx N:=⟨h.c,h.fz⟩
structure Im (E E':En) (n0 m0:Nat):Prop where
 β:∀ (i:Nat) b,i < n0->E.β[i]? = some b->E'.β[i]? = some b
 tk:∀ k,k < m0->E'.tk[k]? = E.tk[k]? /\ E'.τ[k]? = E.τ[k]?
theorem Im.zero (E E':En):Im E E' 0 0:=⟨fun _ _ h=>absurd h (Nat.not_lt_zero _),fun _ h=>absurd h (Nat.not_lt_zero _)⟩
theorem Ext.PV (E:En):Ext E.cl E:=⟨fun _ _ h=>h,fun j b hj=>by simp [En.cl] at hj,fun k q hk=>by simp [En.cl] at hk⟩
theorem Dm {E E':En}:∀ {l:List DV} {arr:List Value},(∀ x∈l,∃ y,x = .v y)->RvL E l arr->RvL E' l arr
 | [],arr,_,h=>by simp only [RvL] at h ⊢;exact h
 | d :: r,arr,hs,h=>by
  simp only [RvL] at h ⊢;obtain ⟨v,s,rfl,h1,h2⟩:=h;obtain ⟨y,rfl⟩:=hs d (by simp);unfold Rv at h1;exact ⟨v,s,rfl,(by unfold Rv;exact h1),Dm (fun x hx=>hs x (de _ hx)) h2⟩
theorem CcL.length {bx:List (List DV)} {N n0 m0:Nat}:∀ {l' l:List DV},CcL bx N n0 m0 l' l->l'.length=l.length
 | [],l,h=>by simp only [CcL] at h;subst h;rfl
 | d' :: r',l,h=>by
  simp only [CcL] at h;obtain ⟨d,r,rfl,_,h2⟩:=h;simp [CcL.length h2]
theorem CcE.length {bx:List (List DV)} {N:Nat}:∀ {l' l:List (List DV)},CcE bx N l' l->l'.length=l.length
 | [],l,h=>by simp only [CcE] at h;subst h;rfl
 | d' :: r',l,h=>by
  simp only [CcE] at h;obtain ⟨d,r,rfl,_,h2⟩:=h;simp [CcE.length h2]
mutual
theorem Cc.sound {bx:List (List DV)} {N:Nat} {E:En}:∀ {d':DV} {E':En} {n0 m0:Nat} {d:DV} {v:Value},Lr E E' bx N->Im E E' n0 m0->Cc bx N n0 m0 d' d->Rv E d v->Rv E' d' v
 | .v y,E',n0,m0,d,v,hf,hl,h,hv=>by
  simp only [Cc] at h;subst h;unfold Rv at hv ⊢;exact hv
 | .ud,E',n0,m0,d,v,hf,hl,h,hv=>by
  simp only [Cc] at h;subst h;unfold Rv at hv ⊢;exact hv
 | .agg l',E',n0,m0,d,v,hf,hl,h,hv=>by
  simp only [Cc] at h;obtain ⟨l,rfl,h⟩:=h;unfold Rv at hv ⊢;obtain ⟨vs,h1,h2,h3⟩:=hv;exact ⟨vs,h1,CcL.sound hf hl h h2,h3⟩
 | .tup l',E',n0,m0,d,v,hf,hl,h,hv=>by
  simp only [Cc] at h;obtain ⟨l,rfl,h⟩:=h;unfold Rv at hv ⊢;obtain ⟨vs,h1,h2⟩:=hv;exact ⟨vs,h1,CcL.sound hf hl h h2⟩
 | .sl e es tk,E',n0,m0,d,v,hf,hl,h,hv=>by
  have hm:∀ b o,RvEs E.cl e b o es->RvEs E'.cl e b o es:=fun b o hr=>RvEs.mono (Ext.LN hf.c) hr
  cases tk with
  | none=>
   simp only [Cc] at h;rcases h with ⟨rfl,rfl⟩ | ⟨dL,rfl⟩ | ⟨i,off,c,cs,rfl,hi,dr,JQ,ez,Gf⟩ | ⟨es0,dL,rfl,h⟩
   ·have:=cE hv;subst this;unfold Rv;exact ⟨none,0,0,rfl,⟨rfl,aR _⟩,fun hn=>(hn rfl).elim,fun k hk=>by cases hk⟩
   ·unfold Rv at hv ⊢;obtain ⟨b,n,cap,h1,h2,h3,_⟩:=hv;exact ⟨b,n,cap,h1,h2,fun hn=>⟨(h3 hn).1,hm _ _ (h3 hn).2⟩,fun k hk=>by cases hk⟩
   ·obtain ⟨b,arr,hb,hc,hmm⟩:=hf.fz i cs hi dr;unfold Rv at hv ⊢;obtain ⟨b',ad,gv,V6,rfl,hca⟩:=hv;rw [hb] at gv;simp only [oI] at gv;subst gv;refine ⟨ad,es.length,c,rfl,⟨rfl,V6⟩,fun hn=>?_,fun k hk=>by cases hk⟩;have jT:0 < es.length:=List.length_pos_iff.2 hn;have WS:=hca (by omega);subst WS;refine ⟨rfl,?_⟩;have h1:=(hc.drop off).take (es.length * e);rw [<- JQ] at h1;refine rvEs_flat ⟨Dm Gf h1.1,h1.2⟩ ez fun j u hj=>?_;rw [cf] at hj;split at hj
    ·rw [List.getElem?_drop] at hj;exact hmm (off + j) u hj
    ·cases hj
   ·have hlen:=CcE.length h;have hs:=fun b o=>CcE.sound (e:=e) (b:=b) (o:=o) hf h;unfold Rv at hv ⊢;obtain ⟨b,n,cap,h1,h2,h3,_⟩:=hv;refine ⟨b,n,cap,h1,by omega,fun hn=>?_,fun k hk=>by cases hk⟩;have kX:es0 ≠ []:=fun hc=>hn (List.eq_nil_of_length_eq_zero (by rw [hlen,hc];rfl));exact ⟨(h3 kX).1,hs _ _ (h3 kX).2⟩
  | some k=>
   simp only [Cc] at h;obtain ⟨hk,rfl⟩:=h;unfold Rv at hv ⊢;obtain ⟨b,n,cap,h1,h2,h3,h4⟩:=hv;refine ⟨b,n,cap,h1,h2,fun hn=>⟨(h3 hn).1,hm _ _ (h3 hn).2⟩,fun k' eX=>?_⟩;cases eX;obtain ⟨e1,e2⟩:=hl.tk k hk;obtain ⟨q,h5,h6,h7⟩:=h4 k rfl;exact ⟨q,by rw [e1];exact h5,h6,fun hh=>by rw [e2];exact h7 hh⟩
 | .pt cs' o,E',n0,m0,d,v,hf,hl,h,hv=>by
  simp only [Cc] at h;rcases h with rfl | ⟨i,cs,rfl,hi,dr,h⟩
  ·unfold Rv at hv ⊢;obtain ⟨b,p,h1,h2⟩:=hv;exact ⟨b,p,h1,RvAt.mono (Ext.LN hf.c) h2⟩
  ·obtain ⟨b,arr,hb,hc,hm⟩:=hf.fz i cs hi dr;unfold Rv at hv ⊢;obtain ⟨b',gv,rfl⟩:=hv;rw [hb] at gv;simp only [oI] at gv;subst gv;refine ⟨b,0,by simp,?_⟩;have:=CcL.sound hf.cl (Im.zero E E'.cl) h hc.1;exact Bt ⟨this,hc.2⟩ fun j u hj=>by rw [Nat.zero_add];exact hm j u hj
 | .loc i o,E',n0,m0,d,v,hf,hl,h,hv=>by
  simp only [Cc] at h;obtain ⟨hi,rfl⟩:=h;unfold Rv at hv ⊢;obtain ⟨b,hb,h1⟩:=hv;exact ⟨b,hl.β i b hi hb,h1⟩
 | .el i o,E',n0,m0,d,v,hf,hl,h,hv=>by
  simp only [Cc] at h;obtain ⟨hi,rfl⟩:=h;unfold Rv at hv ⊢;obtain ⟨b,hb,h1⟩:=hv;exact ⟨b,hl.β i b hi hb,h1⟩
 | .ms i e o l c,E',n0,m0,d,v,hf,hl,h,hv=>by
  simp only [Cc] at h;obtain ⟨hi,rfl⟩:=h;unfold Rv at hv ⊢;obtain ⟨b,ad,hb,h1⟩:=hv;exact ⟨b,ad,hl.β i b hi hb,h1⟩
 | .fn f a' b',E',n0,m0,d,v,hf,hl,h,hv=>by
  simp only [Cc] at h;obtain ⟨a,b,rfl,ha,hb⟩:=h;unfold Rv at hv ⊢;obtain ⟨l,r,h1,h2,h3⟩:=hv;exact ⟨l,r,h1,CcL.sound hf hl ha h2,CcL.sound hf hl hb h3⟩
 | .sq t x',E',n0,m0,d,v,hf,hl,h,hv=>by
  simp only [Cc] at h;obtain ⟨x,rfl,hx⟩:=h;unfold Rv at hv ⊢;obtain ⟨z,h1,h2⟩:=hv;exact ⟨z,h1,Cc.sound hf hl hx h2⟩
theorem CcL.sound {bx:List (List DV)} {N:Nat} {E:En}:∀ {l':List DV} {E':En} {n0 m0:Nat} {l:List DV} {vs:List Value},Lr E E' bx N->Im E E' n0 m0->CcL bx N n0 m0 l' l->RvL E l vs->RvL E' l' vs
 | [],E',n0,m0,l,vs,hf,hl,h,hv=>by
  simp only [CcL] at h;subst h;simp only [RvL] at hv ⊢;exact hv
 | d' :: r',E',n0,m0,l,vs,hf,hl,h,hv=>by
  simp only [CcL] at h;obtain ⟨d,r,rfl,h1,h2⟩:=h;simp only [RvL] at hv ⊢;obtain ⟨v,s,h3,h4,h5⟩:=hv;exact ⟨v,s,h3,Cc.sound hf hl h1 h4,CcL.sound hf hl h2 h5⟩
theorem CcA.sound {bx:List (List DV)} {N:Nat} {E:En}:∀ {l':List DV} {E':En} {l:List DV} {b p:Nat},Lr E E' bx N->CcL bx N 0 0 l' l->RvAt E.cl b p l->RvAt E'.cl b p l'
 | [],E',l,b,p,hf,h,hv=>by simp only [RvAt]
 | d' :: r',E',l,b,p,hf,h,hv=>by
  simp only [CcL] at h;obtain ⟨d,r,rfl,h1,h2⟩:=h;simp only [RvAt] at hv ⊢;obtain ⟨⟨v,h3,h4,h5⟩,h6⟩:=hv;exact ⟨⟨v,hf.c _ _ h3,h4,Cc.sound hf.cl (Im.zero E E'.cl) h1 (Rv.mono (Ext.PV E) h5)⟩,CcA.sound hf h2 h6⟩
theorem CcE.sound {bx:List (List DV)} {N:Nat} {E:En}:∀ {l':List (List DV)} {E':En} {l:List (List DV)} {e b o:Nat},Lr E E' bx N->CcE bx N l' l->RvEs E.cl e b o l->RvEs E'.cl e b o l'
 | [],E',l,e,b,o,hf,h,hv=>by simp only [RvEs]
 | a' :: r',E',l,e,b,o,hf,h,hv=>by
  simp only [CcE] at h;obtain ⟨a,r,rfl,h1,h2⟩:=h;simp only [RvEs] at hv ⊢;obtain ⟨h3,h4,h5⟩:=hv;refine ⟨?_,?_,CcE.sound hf h2 h5⟩
  ·rcases h1 with rfl | h1
   ·exact h3
   ·rw [CcL.length h1];exact h3
  ·rcases h1 with rfl | h1
   ·exact RvAt.mono (Ext.LN hf.c) h4
   ·exact CcA.sound hf h1 h4
end
theorem R2 {E:En} {e:Nat} {es JR:List (List DV)} {tk:Option Nat} {v:Value} (h:CcE [] 0 JR es) (hv:Rv E (.sl e es tk) v):Rv E (.sl e JR tk) v:=by
 have hlen:=CcE.length h;have hs:=fun b o=>CcE.sound (E:=E) (E':=E) (bx:=[]) (N:=0) (e:=e) (b:=b) (o:=o) ⟨fun _ _ h=>h,fun i cs _ hi=>by simp at hi⟩ h;unfold Rv at hv ⊢;obtain ⟨b,n,cap,h1,h2,h3,h4⟩:=hv;refine ⟨b,n,cap,h1,by omega,fun hn=>?_,h4⟩;have kX:es ≠ []:=fun hc=>hn (List.eq_nil_of_length_eq_zero (by rw [hlen,hc];rfl));exact ⟨(h3 kX).1,hs _ _ (h3 kX).2⟩
theorem nP.get {bx:List (List DV)} {N n0 m0:Nat}:∀ {l' l:List (List DV)},nP bx N n0 m0 l' l->l'.length=l.length/\∀ (i:Nat) cs',l'[i]? = some cs' -> ∃ cs,l[i]? = some cs/\CcL bx N n0 m0 cs' cs
 | [],l,h=>by simp only [nP] at h;subst h;exact ⟨rfl,by simp⟩
 | a' :: r',l,h=>by
  simp only [nP] at h;obtain ⟨a,r,rfl,h1,h2⟩:=h;obtain ⟨h3,h4⟩:=nP.get h2;refine ⟨by simp [h3],fun i cs' hi=>?_⟩
  cases i with
  | zero=>simp only [List.getElem?_cons_zero,oI] at hi;subst hi;exact ⟨a,rfl,h1⟩
  | succ i=>simp only [List.getElem?_cons_succ] at hi ⊢;exact h4 i cs' hi
open Classical in
noncomputable def sD (E:En) (n:Nat) (w:World):Addr->Option Value:=
 fun a=>if ∃ i:Nat,n<=i/\E.β[i]? = some a.block then w.cell? a else E.c a
section
variable {X:Ctx} {E:En} {st:St} {a:Act} {w:World}
theorem eY {n:Nat} {x:Addr} {v:Value} (h:sD E n w x=some v):((∃ i:Nat,n<=i/\E.β[i]? = some x.block)/\w.cell? x=some v)∨E.c x=some v:=by
 unfold sD at h;split at h
 ·rename_i hc;exact .inl ⟨hc,h⟩
 ·exact .inr h
theorem mD {bx:List (List DV)} (h:Env E bx w) {n:Nat} {x:Addr} {v:Value} (hx:E.c x=some v):sD E n w x=some v:=by
 unfold sD;split
 ·exact h.sub x v hx
 ·exact hx
theorem BG (h:Rel X E st a w) {d d':DV} {os:List (List DV)} {v:Value} (hv:Rv E d v) (M:Nat) (hM:(X.fr=false/\M=X.m0)∨(X.fr=true/\M=st.tk.length)) (hd:Cc st.bx X.n0 X.n0 M d' d) (sx:nP st.bx X.n0 X.n0 M os (st.bx.take X.n0)) (hΦ:X.Φ d' os (st.tk.take M)):po X.still X.E0 X.w0 X.Φ v w X.fr:=by
 obtain ⟨r,PW,hβl⟩:=h.nw.β;have iB:E.β.take X.n0=X.E0.β:=by rw [PW,<- X.kX];simp
 have eZ:∀ (i:Nat) b,i < X.n0->E.β[i]? = some b->X.E0.β[i]? = some b:=fun i b hi hb=>by
  rw [<- iB,cf,ai hi];exact hb
 have bY:∀ (i:Nat) b,X.n0<=i->E.β[i]? = some b->b∈r:=fun i b hi hb=>by
  rw [PW,List.getElem?_append_right (by rw [X.kX];exact hi)] at hb;exact mG hb
 have T3:∀ b,b∈X.E0.β->b∈r->False:=fun b h1 h2=>by
  have:=h.env.inj;rw [PW] at this;exact (List.nodup_append.1 this).2.2 b h1 b h2 rfl
 have hE0l:X.E0.τ.length=X.m0:=by rw [h.nw.l0,X.pk]
 have hEt:X.m0<=E.tk.length:=by
  rcases Nat.lt_or_ge E.tk.length X.m0 with h1 | h1
  ·have hk:E.tk.length < X.E0.tk.length:=by rw [X.pk];exact h1
   have eX:E.tk.length < X.E0.τ.length:=by rw [h.nw.l0];exact hk
   obtain ⟨q',y',h2,_⟩:=h.nw.tk E.tk.length _ _ (gE hk) (gE eX);have:=(gS h2).1;omega
  ·exact h1
 have hMm:X.m0<=M/\M<=E.tk.length:=by
  rcases hM with ⟨_,rfl⟩ | ⟨_,rfl⟩
  ·exact ⟨aR _,hEt⟩
  ·rw [<- h.tk];exact ⟨hEt,aR _⟩
 have V8:tkL X.fr (E.tk.take M).length X.E0.tk.length:=by
  rw [zLenT];rcases hM with ⟨hf,rfl⟩ | ⟨hf,rfl⟩
  ·rw [hf];show min _ _=_;rw [X.pk];omega
  ·rw [hf];show _<=min _ _;rw [X.pk];omega
 let E':En:=⟨sD E X.n0 w,X.E0.β,E.tk.take M,E.τ.take M⟩
 have L1:Lr E E' st.bx X.n0:={
  c:=fun x u hx=>mD h.env hx
  fz:=fun i cs hi dr=>by
   obtain ⟨b,ty,arr,hb,hw,hc⟩:=h.env.fk i cs dr;refine ⟨b,arr,hb,hc,fun j u hj=>?_⟩;show sD E X.n0 w ⟨b,j,none⟩=some u;unfold sD;rw [ai ⟨i,hi,hb⟩,cS hw]
   simpa using hj }
 have y8:Im E E' X.n0 M:={
  β:=eZ
  tk:=fun k hk=>⟨by show (E.tk.take M)[k]? = _;rw [cf,ai hk],by show (E.τ.take M)[k]? = _;rw [cf,ai hk]⟩ }
 obtain ⟨jQ,WX⟩:=sx.get;refine ⟨h.fr,h.sh,d',os,E',?_,rfl,V8,?_,hd.sound L1 y8 hv,by show X.Φ d' os (E.tk.take M);rw [h.tk];exact hΦ⟩
 ·exact {
   len:=by
    show X.E0.β.length=os.length;rw [jQ,X.kX,zLenT]
    have:X.n0<=st.bx.length:=by
     rw [<- h.env.len,PW,List.length_append,X.kX];omega
    omega
   tl:=by simp only [E',zLenT];rw [h.env.tl]
   fk:=fun i cs' hi=>by
    obtain ⟨cs,dr,tX⟩:=WX i cs' hi;rw [cf] at dr;split at dr
    ·rename_i ap;obtain ⟨b,ty,arr,hb,hw,hc⟩:=h.env.fk i cs dr;exact ⟨b,ty,arr,eZ i b ap hb,hw,CcL.sound L1 y8 tX hc.1,hc.2⟩
    ·cases dr
   inj:=by rw [<- iB];exact h.env.inj.sublist (List.take_sublist _ _)
   sub:=fun x u hx=>by
    rcases eY hx with ⟨_,h1⟩ | h1
    ·exact h1
    ·exact h.env.sub x u h1
   pc:=fun x u hx hm=>by
    rcases eY hx with ⟨⟨i,hi,hb⟩,_⟩ | h1
    ·exact T3 _ hm (bY i _ hi hb)
    ·refine h.env.pc x u h1 ?_;rw [PW];exact List.mem_append.2 (.inl hm)
   cC:=fun k q y hq hy=>by
    simp only [E',cf] at hq hy;split at hq
    ·rename_i hk;rw [ai hk] at hy;rcases h.env.cC k q y hq hy with h1 | ⟨g,cap,cur,rfl,h1,h2,h3,h4,h5,h6⟩
     ·exact .inl h1
     ·refine .inr ⟨g,cap,cur,rfl,h1,⟨h2.1,h2.2.mono fun _ _ hx=>mD h.env hx⟩,h3,h4,fun hm=>h5 (by rw [PW];exact List.mem_append.2 (.inl hm)),fun x u hx hg=>?_⟩;rcases eY hx with ⟨⟨i,hi,hb⟩,_⟩ | h7
      ·rw [hg] at hb;exact (h5 (mG hb)).elim
      ·exact h6 x u h7 hg
    ·cases hq
   jE:=fun k k' y y' g C1 hy fA=>by
    simp only [E',cf] at hy fA;split at hy
    ·split at fA
     ·exact h.env.jE k k' y y' g C1 hy fA
     ·cases fA
    ·cases hy }
 ·exact {
   c:=fun x u hx=>mD h.env (h.nw.c x u hx)
   cn:=fun x u hx=>by
    rcases eY hx with ⟨⟨i,hi,hb⟩,_⟩ | h1
    ·exact .inr (.inl (hβl _ (bY i _ hi hb)))
    ·exact h.nw.cn x u h1
   β:=⟨[],by simp [E'],by simp⟩
   tk:=fun k q y hq hy=>by
    obtain ⟨q',y',h1,h2,h3⟩:=h.nw.tk k q y hq hy;have hk:k < X.m0:=by rw [<- X.pk];exact (gS hq).1
    exact ⟨q',y',by show (E.tk.take M)[k]? = _;rw [cf,ai (by omega)];exact h1,by show (E.τ.take M)[k]? = _;rw [cf,ai (by omega)];exact h2,h3⟩
   tn:=fun k y g hk hy hg=>by
    simp only [E',cf] at hy;split at hy
    ·exact h.nw.tn k y g hk hy hg
    ·cases hy
   l0:=h.nw.l0 }
def resOf (tmps:Array Value):ResultVar->Sem Value
 | .tmp t=>pure (tmps.getD t undef)
 | .cell x t=>do loadVar t (<- asAddr (tmps.getD x undef))
theorem Gh (fn:Func) (tmps:Array Value):results fn tmps=(do let vs <- fn.results.mapM (resOf tmps);pure (if h:vs.size=1 then vs[0] else .tuple vs)):=by
 unfold results;congr 2
theorem Gi (h:Rel X E st a w) {r:ResultVar} {d:DV} (hr:res1 X.T st r=some d):∃ v,Rv E d v/\(resOf a.tmps r).run X.P w = .ok v w:=by
 cases r with
 | tmp t=>
  simp only [res1] at hr;split at hr
  ·rename_i x hg;simp only [oI] at hr;subst hr;obtain ⟨v,h1,h2⟩:=(h.tm t _ hg).1 (bF _);exact ⟨v,h2,by simp [resOf,Array.getD_eq_getD_getElem?,h1]⟩
  ·cases hr
 | cell x t=>
  simp only [res1] at hr;split at hr
  ·rename_i i off hg;split at hr
   ·rename_i cs dr;obtain ⟨v,h1,h2⟩:=(h.tm x _ hg).1 (bF _);unfold Rv at h2;obtain ⟨b,hb,rfl⟩:=h2;obtain ⟨b',Ga,arr,gv,hw,hc⟩:=h.env.fk i cs dr;rw [hb] at gv;simp only [oI] at gv;subst gv;obtain ⟨v,hv,hl⟩:=mv X.hT hc (b:=b) (p:=0) hr;have hl:=hl w fun j u hj=>by rw [cS hw];simpa using hj
    rw [Nat.zero_add] at hl;exact ⟨v,hv,by simp only [resOf,Array.getD_eq_getD_getElem?,h1,Option.getD_some,asAddr,Sem.run_bind,Sem.run_pure,Result.andThen_ok,hl]⟩
   ·cases hr
  ·cases hr
theorem mE (h:Rel X E st a w):∀ {rs:List ResultVar} {ds:List DV},resD X.T st rs=some ds->∃ vs,RvL E ds vs/\(rs.mapM (resOf a.tmps)).run X.P w = .ok vs w
 | [],ds,hr=>by
  simp only [resD,oI] at hr;subst hr;exact ⟨[],c9 E,rfl⟩
 | r :: rs,ds,hr=>by
  simp only [resD] at hr;split at hr
  ·rename_i d l hd hl;simp only [oI] at hr;subst hr;obtain ⟨v,hv,h1⟩:=Gi h hd;obtain ⟨vs,vV,h2⟩:=mE h hl;refine ⟨v :: vs,rvL_cons hv vV,?_⟩;simp only [List.mapM_cons,Sem.run_bind,h1,Result.andThen_ok,h2,Sem.run_pure]
  ·cases hr
theorem pQ (h:Rel X E st a w) {d:DV} {v:Value} (hv:Rv E d v) (hf:finD X st d):po X.still X.E0 X.w0 X.Φ v w X.fr:=by
 unfold finD at hf;split at hf
 ·rename_i PX;obtain ⟨d',os,hd,sx,hΦ⟩:=hf;exact BG h hv st.tk.length (.inr ⟨PX,rfl⟩) hd sx (by rw [List.take_length];exact hΦ)
 ·rename_i PX;split at hf
  ·rename_i hn hm
   have key:∀ d',Cc st.bx 0 0 0 d' d->X.Φ d' [] []->po X.still X.E0 X.w0 X.Φ v w X.fr:=fun d' hd hΦ=>
    BG h hv (d':=d') (os:=[]) X.m0 (.inl ⟨PX,rfl⟩) (by rw [hn,hm];exact hd) (by rw [hn];simp [nP]) (by rw [hm];exact hΦ)
   split at hf
   ·rename_i x;exact key (.v x) (by simp only [Cc]) hf
   ·obtain ⟨d',hd,hΦ⟩:=hf;exact key d' hd hΦ
  ·obtain ⟨d',os,hd,sx,hΦ⟩:=hf;exact BG h hv X.m0 (.inl ⟨PX,rfl⟩) hd sx hΦ
theorem zD (h:Rel X E st a w) (hf:fin X st):kq X [] .ret a w:=by
 have C5:X.fn.results=X.rs.toArray:=by rw [<- X.Bq]
 simp only [kq];refine ⟨h.df,?_⟩;unfold fin at hf
 have L2:∀ (ds:List DV) (vs:List Value),(X.rs.mapM (resOf a.tmps)).run X.P w = .ok vs w->(results X.fn a.tmps).run X.P w = .ok (if h:vs.toArray.size=1 then vs.toArray[0] else .tuple vs.toArray) w:=by
  intro ds vs hv;rw [Gh,C5];simp only [List.mapM_toArray,Sem.run_bind,Sem.run_map,hv];rfl
 split at hf
 ·rename_i hr;obtain ⟨vs,vV,h1⟩:=mE h hr;simp only [RvL] at vV;subst vV;exact ⟨_,L2 [] [] h1,pQ h (v:=.tuple #[]) (by unfold Rv;exact ⟨[],rfl,c9 E⟩) hf⟩
 ·rename_i d hr;obtain ⟨vs,vV,h1⟩:=mE h hr;have hl:=vV.length;simp only [RvL] at vV;obtain ⟨v,s,rfl,hv,rfl⟩:=vV;exact ⟨_,L2 [d] [v] h1,pQ h (v:=v) hv hf⟩
 ·rename_i d e l hr;obtain ⟨vs,vV,h1⟩:=mE h hr;have hl:=vV.length;have bp:¬ vs.toArray.size=1:=by simp at hl ⊢;omega
  have h2:=L2 [] vs h1;rw [dif_neg bp] at h2;exact ⟨_,h2,pQ h (v:=.tuple vs.toArray) (by unfold Rv;exact ⟨vs,rfl,vV⟩) hf⟩
 ·exact hf.elim
theorem v7:∀ (k:List It) (a:Act) (w:World),kq X [] .ret a w->kq X k .ret a w
 | [],_,_,h=>h
 | .code _ :: k,a,w,h=>v7 k a w h
 | .ops _ _ :: k,a,w,h=>v7 k a w h
 | .FY _ :: k,a,w,h=>v7 k a w h
 | .rZ _ :: k,a,w,h=>v7 k a w h
theorem qT {id:Nat}:∀ (k k':List It) (a:Act) (w:World),dropBlk id k=some k' -> kq X k' .normal a w->kq X k (.exit id) a w
 | [],k',a,w,hd,_=>by simp [dropBlk] at hd
 | .code _ :: k,k',a,w,hd,h=>by simp only [dropBlk] at hd;exact qT k k' a w hd h
 | .ops _ _ :: k,k',a,w,hd,h=>by simp only [dropBlk] at hd;exact qT k k' a w hd h
 | .rZ _ :: k,k',a,w,hd,h=>by simp only [dropBlk] at hd;exact qT k k' a w hd h
 | .FY i :: k,k',a,w,hd,h=>by
  simp only [dropBlk] at hd;split at hd
  ·rename_i hi;have hi:id=i:=sU hi;simp only [oI] at hd;subst hd;simp only [kq];rw [ai hi];exact h
  ·rename_i hi
   have hi:id≠i:=by
    rintro rfl;rw [Nat.beq_refl] at hi;cases hi
   simp only [kq];rw [ah hi];exact qT k k' a w hd h
theorem JS {P:Program} {o:Oper} {a:Act} {K K':Act->World->Prop} {Q Q':Exit->Act->World->Prop} (hK:∀ a w,K a w->K' a w) (hQ:∀ e a w,Q e a w->Q' e a w)
  {r:Result Next} (h:o.upon P a K Q r):o.upon P a K' Q' r:=by
 unfold Oper.upon at *;split<;>simp_all
 ·refine h.mono ?_;intro e w' hq
  cases e with
  | returned v=>exact hK _ _ hq
  | panicked c=>exact hQ _ _ _ hq
  | outgrown=>obtain ⟨a,w,hq⟩:=hq;exact ⟨a,w,hQ _ _ _ hq⟩
 ·exact h.mono fun v w' hq=>hK _ _ hq
theorem Dp {P:Program} {o:Oper} {a:Act} {K K':Act->World->Prop} {Q Q':Exit->Act->World->Prop} {w:World} (hK:∀ a w,K a w->K' a w) (hQ:∀ e a w,Q e a w->Q' e a w)
  (h:o.wp P a w K Q):o.wp P a w K' Q':=JS hK hQ h
theorem fI (c:Code) (k:List It) (a:Act) (w:World):kq X (.code c :: k) .normal a w=c.wp X.P (kq X k) a w:=rfl
theorem PY (c:Code) (k:List It):kq X (.code c :: k)=Exit.then (c.wp X.P (kq X k)) (kq X k):=by
 funext e a w;cases e<;>rfl
theorem T4 (id:Nat) (k:List It) (e:Exit) (a:Act) (w:World) (h:kq X (.FY id :: k) e a w):Exit.inBlock id (kq X k) e a w:=by
 cases e<;>exact h
theorem wanted_spec (h:Rel X E st a w) {all:Array Oper} {o:Oper} {j d:Nat} {want:Bool} {iz:List (Nat × Bool)} {sd:DV} (PZ:o.guard=some (j,want)) (C0:gslot all.toList j=some d) (Lt:get st.sl d=some ⟨iz,sd⟩) :
  Region.wanted o (yielded all a.tmps)=true↔Holds a.tmps ((d,want) :: iz):=by
 have T5:yielded all a.tmps j=match a.tmps[d]? with | some (.bool b)=>some b | _=>none:=by
  unfold gslot at C0;split at C0
  ·rename_i oj hoj;have hoj':all[j]? = some oj:=sU hoj;simp only [yielded,hoj',C0,Option.bind_some]
   cases a.tmps[d]? with
   | none=>rfl
   | some v=>cases v<;>rfl
  ·cases C0
 have R3:=h.tm d _ Lt;simp only [Region.wanted,PZ,T5];constructor
 ·intro hw
  have hb:a.tmps[d]? = some (.bool want):=by
   split at hw
   ·rename_i b hb;rw [hb];have:b=want:=sU hw;rw [this]
   ·simp at hw
  refine kx hb ?_;by_cases hh:Holds a.tmps iz
  ·exact hh
  ·have:=R3.2 hh;rw [hb] at this;simp [undef] at this
 ·intro hh;have:=hh (d,want) (by simp);simp only at this;rw [this];simp
theorem Dq (h:Rel X E st a w) {t:Nat} {b:Bool} (hg:get st.sl t=some ⟨[],.v (.bool b)⟩):a.tmps[t]? = some (.bool b):=by
 obtain ⟨v,h1,h2⟩:=(h.tm t _ hg).1 (bF _);rw [h1,kz h2]
theorem L3 (h:Rel X E st a w) {t:Nat} (hg:get st.sl t=some ⟨[],.ud⟩):a.tmps[t]? = some undef:=by
 obtain ⟨v,h1,h2⟩:=(h.tm t _ hg).1 (bF _);unfold Rv at h2;rw [h1,h2]
theorem v8 {G:List (Nat × Bool)} {dst:Option Nat} (bw:WI G dst=true):∀ e,dst=some e->∀ p∈G,p.1≠e:=by
 intro e he p hp dO;rw [he] at bw;have:=(List.all_eq_true.1 bw) p hp;rw [dO] at this;simp at this
theorem go_sound:∀ n,Snd X (go X n)
 | 0=>fun k st hg=>hg.elim
 | n + 1=>by
  have ih:=go_sound n;intro k st hg E a w h
  match k with
  | []=>exact zD h (by simpa [go] using hg)
  | .FY id :: k=>exact ih k st (by simpa [go] using hg) E a w h
  | .rZ J :: k=>exact ⟨st,E,h,by simpa [go] using hg⟩
  | .ops all [] :: k=>exact ih k st (by simpa [go] using hg) E a w h
  | .ops all (o :: r) :: k=>
   simp only [go,oJ,Ic] at hg;split at hg
   ·exact hg.elim
   ·rename_i hd;split at hg
    ·rename_i PZ;simp only [kq,wpList,Region.wanted,PZ,if_true];split at hg
     ·rename_i s hs;obtain ⟨v,hv,cv⟩:=jf X.hT h.rl (bF _) hs;exact .inl (lS (cv w fun _=>rfl) (ih _ _ hg E _ w (bG h hd s v hv)))
     ·exact .inl (Dp (fun a w hk=>hk) (fun e a w hq=>hq.elim) (zC ih hd h hg))
    ·rename_i j want PZ;split at hg
     ·exact hg.elim
     ·rename_i d C0;split at hg
      ·exact hg.elim
      ·rename_i iz sd Lt;have qU:=wanted_spec h PZ C0 Lt;simp only [kq,wpList];split at hg
       ·rename_i s hs;split at hg
        case h_2=>exact hg.elim
        rename_i bw;split
        ·rename_i hw;have hh:=qU.1 hw;obtain ⟨v,hv,cv⟩:=jf X.hT h.rl hh hs;exact .inl (lS (cv w fun _=>rfl) (ih _ _ hg E _ w (qO h hd _ s v (v8 bw) (fun _=>hv) (fun hn=>(hn hh).elim))))
        ·rename_i hw;have hh:¬ Holds a.tmps ((d,want) :: iz):=fun hh=>hw (qU.2 hh);exact ih _ _ hg E _ w (qO h hd _ s undef (v8 bw) (fun hn=>(hh hn).elim) (fun _=>rfl))
       ·split at hg
        ·rename_i b iB;have ht0:=Dq h iB
         cases iz with
         | nil=>
          simp only [lastG] at iB ht0;cases uO:(b == want)
          ·have Gj:b = !want:=by cases b<;>cases want<;>simp_all
           have hg:=hg.f uO
           have hn:¬ Region.wanted o (yielded all a.tmps)=true:=by
            intro hw;have:=(qU.1 hw) (d,want) (by simp);simp only at this;rw [ht0] at this;simp only [oI,Value.bool.injEq] at this;rw [this] at uO;simp at uO
           rw [ah hn];have hr:=lf (d:=d) (b:=!want) h (by rw [ht0,Gj]);exact ih _ _ hg E _ w (bG hr (lg hd) .ud undef (tS E))
          ·have qV:b=want:=sU uO;have hg:=hg.t uO;subst qV;have hw:Region.wanted o (yielded all a.tmps)=true:=qU.2 (kx ht0 (bF _));rw [ai hw];have hr:=lf (d:=d) (b:=b) h ht0;exact .inl (Dp (fun a w hk=>hk) (fun e a w hq=>hq.elim) (zC ih (lg hd) hr hg))
         | cons g1 gr=>
          have key:∀ c,a.tmps[(lastG (d,want) (g1 :: gr)).1]? = some (.bool c)->go X n (.ops all (o :: r) :: k) (st.resolve (lastG (d,want) (g1 :: gr)).1 c)->wpList X.P all (kq X k) (o :: r) a w:=
           fun c hc iv=>ih _ _ iv E a w (lf h hc)
          cases uO:(b == (lastG (d,want) (g1 :: gr)).2)
          ·have hg:=hg.f uO;have Gj:b = !(lastG (d,want) (g1 :: gr)).2:=by cases b<;>cases h0:(lastG (d,want) (g1 :: gr)).2<;>simp_all
           have:=key _ (by rw [ht0,Gj]) hg;simpa [wpList] using this
          ·have hg:=hg.t uO;have qV:b=(lastG (d,want) (g1 :: gr)).2:=sU uO;have:=key _ (by rw [ht0,qV]) hg;simpa [wpList] using this
        ·rename_i iB
         cases iz with
         | nil=>
          have ht0:=L3 h iB;simp only [lastG] at ht0
          have hn:¬ Region.wanted o (yielded all a.tmps)=true:=by
           intro hw;have:=(qU.1 hw) (d,want) (by simp);simp only at this;rw [ht0] at this;simp [undef] at this
          rw [ah hn];exact ih _ _ hg E _ w (bG h hd .ud undef (tS E))
         | cons g1 gr=>exact hg.elim
        ·exact hg.elim
  | .code c :: k=>
   rw [fI]
   cases c with
   | skip=>exact wp_skip (ih k st (by simpa [go] using hg) E a w h)
   | seq x y=>
    have:=ih (.code x :: .code y :: k) st (by simpa [go] using hg) E a w h;rw [fI,PY] at this;exact wp_seq this
   | block id b=>
    have:=ih (.code b :: .FY id :: k) st (by simpa [go] using hg) E a w h;rw [fI] at this;exact wp_block (wp_mono this (T4 id k))
   | exit id=>
    simp only [go] at hg;split at hg
    ·rename_i k' hk;exact wp_exit (qT k k' a w hk (ih k' st hg E a w h))
    ·exact hg.elim
   | cond x p q=>
    simp only [go] at hg;split at hg
    ·rename_i b hb;refine wp_cond (t:=b) (by rw [kz (bh h.rl hb)]) ?_;cases iB:b
     ·exact ih (.code q :: k) st (hg.f iB) E a w h
     ·exact ih (.code p :: k) st (hg.t iB) E a w h
    ·exact hg.elim
   | region id ops d=>
    simp only [go] at hg;cases d
    ·exact wp_region_list (ih (.ops ops ops.toList :: k) st hg E a w h)
    ·exact hg E a w h
   | loop b=>exact (by simpa [go] using hg:pw X b k st) E a w h
   | ret=>exact wp_ret (v7 k a w (zD h (by simpa [go] using hg)))
   | _=>simp [go] at hg
theorem Ds {fn:Func} (C5:X.fn=fn) (e:Exit) (a:Act) (w:World) (h:kq X [] e a w):bodyPost X.P fn (fun e w'=>∃ v,e = .returned v/\po X.still X.E0 X.w0 X.Φ v w' X.fr) e a w:=by
 subst C5
 cases e with
 | normal=>obtain ⟨h1,v,h2,h3⟩:=h;exact ⟨h1,v,h2,v,rfl,h3⟩
 | ret=>obtain ⟨h1,v,h2,h3⟩:=h;exact ⟨h1,v,h2,v,rfl,h3⟩
 | exit _=>exact h.elim
 | goto _=>exact h.elim
 | panic _=>exact h.elim
 | outgrown=>exact h.elim
end
def T6 (s:Bool) (P:Program) (f:FuncId) (args:List DV) (os:List (List DV)) (cC:List TkE) (Φ:DV->List (List DV)->List TkE->Prop) (fr:Bool:=false):Prop:=
 ∀ (E:En) (w:World) (vs:List Value),Env E os w->E.tk=cC->RvL E args vs->Calls P f vs.toArray w fun e w'=>∃ v,e = .returned v/\po s E w Φ v w' fr
def Ev (P:Program) (f:FuncId) (args:List DV) (os:List (List DV)) (cC:List TkE) (Φ:DV->List (List DV)->List TkE->Prop):Prop:=T6 false P f args os cC Φ
def EvS (P:Program) (f:FuncId) (args:List DV) (os:List (List DV)) (cC:List TkE) (Φ:DV->List (List DV)->List TkE->Prop):Prop:=T6 true P f args os cC Φ
def V9 (P:Program) (f:FuncId) (args:List DV) (os:List (List DV)) (cC:List TkE) (Φ:DV->List (List DV)->List TkE->Prop):Prop:=T6 false P f args os cC Φ true
def aV (P:Program) (f:FuncId) (args:List DV) (d:DV):Prop:=Ev P f args [] [] fun d' _ _=>d'=d
def argSl:Nat->List DV->List (Nat × Sl)
 | _,[]=>[]
 | i,v :: r=>(i,⟨[],v⟩) :: argSl (i + 1) r
theorem zE:∀ (l:List DV) (i j:Nat) (x:Sl),get (argSl i l) j=some x->∃ v,x=⟨[],v⟩/\i<=j/\l[j - i]? = some v
 | [],_,_,_,h=>by simp [argSl,get] at h
 | v :: r,i,j,x,h=>by
  simp only [argSl,dV] at h;split at h
  ·rename_i jB;simp only [oI] at h;subst h jB;exact ⟨v,rfl,aR _,by simp⟩
  ·rename_i jB;obtain ⟨u,hu,dG,hg⟩:=zE r (i + 1) j x h;refine ⟨u,hu,by omega,?_⟩;rw [show j - i=(j - (i + 1)) + 1 by omega];simpa using hg
theorem Nw.refl {E:En} {bx:List (List DV)} {w:World} (h:Env E bx w):Nw E E w where
 c:=fun _ _ h=>h
 cn:=fun _ _ h=>.inl h
 β:=⟨[],by simp,by simp⟩
 tk:=fun k q y hq hy=>⟨q,y,hq,hy,rfl,rfl,.inl ⟨rfl,rfl⟩,.inl rfl⟩
 tn:=fun k y g hk hy=>by
  have:=(gS hy).1;rw [h.tl] at this;omega
 l0:=h.tl
theorem vb {s:Bool} {P:Program} {f:FuncId} {fn:Func} {c:Code} {args:List DV} {os:List (List DV)} {cC:List TkE} {Φ:DV->List (List DV)->List TkE->Prop} (bt:List (Nat × TypeId)) (mu:List Nat) (hbt:∀ p∈bt,os.length<=p.1) (fr:Bool) (T:TT) (hT:T.ok P=true) (n nt:Nat) (rs:List ResultVar)
  (hf:P.funcs[f]? = some fn) (hb:fn.body=some c) (JT:fn.ntmps=nt) (Bq:fn.results.toList=rs) (hlen:args.length<=nt)
  (h:∀ (E:En) (w:World) (hn:E.β.length=os.length) (hm:E.tk.length=cC.length),go ⟨P,T,hT,fn,nt,rs,Bq,w,E,os.length,cC.length,hn,hm,s,Φ,bt,mu,fr⟩ n [.code c] ⟨argSl 0 args,os,cC⟩):T6 s P f args os cC Φ fr:=by
 intro E w vs hE k0 hv;have hl:=hv.length;have hg:=h E w hE.len (by rw [k0]);refine calls_of_wp hf hb ?_
 have hs:=go_sound (X:=⟨P,T,hT,fn,nt,rs,Bq,w,E,os.length,cC.length,hE.len,by rw [k0],s,Φ,bt,mu,fr⟩) n _ _ hg E
  {tmps:=vs.toArray ++ Array.replicate (fn.ntmps - vs.toArray.size) undef,defers:=[] } w
  {env:=hE
   tk:=k0
   sz:=by simp [JT];omega
   tm:=by
    intro i x hx;obtain ⟨d,rfl,_,hd⟩:=zE args 0 i x hx;simp only [Nat.sub_zero] at hd;obtain ⟨v,nI,vR⟩:=hv.get hd;rw [Array.getElem?_append_left (by simpa using (gS nI).1)];exact ⟨fun _=>⟨v,by simpa using nI,vR⟩,fun hn=>(hn (bF _)).elim⟩
   df:=rfl
   nw:=Nw.refl hE
   fr:=⟨rfl,rfl,rfl,aR _,fun _ _ _=>rfl⟩
   sh:=fun _=>⟨0,rfl⟩
   bt:=fun p hp b hb=>by
    have h1:=hbt p hp;have h2:=(gS hb).1;have h3:=hE.len
    omega }
 exact wp_mono hs (Ds rfl)
theorem P4 {s:Bool} {P:Program} {f:FuncId} {fn:Func} {c:Code} {args:List DV} {os:List (List DV)} {cC:List TkE} {Φ:DV->List (List DV)->List TkE->Prop} (bt:List (Nat × TypeId)) (hbt:∀ p∈bt,os.length<=p.1) (T:TT) (hT:T.ok P=true) (n nt:Nat) (rs:List ResultVar)
  (hf:P.funcs[f]? = some fn) (hb:fn.body=some c) (JT:fn.ntmps=nt) (Bq:fn.results.toList=rs) (hlen:args.length<=nt)
  (h:∀ (E:En) (w:World) (hn:E.β.length=os.length) (hm:E.tk.length=cC.length),go ⟨P,T,hT,fn,nt,rs,Bq,w,E,os.length,cC.length,hn,hm,s,Φ,bt,[],false⟩ n [.code c] ⟨argSl 0 args,os,cC⟩):T6 s P f args os cC Φ:=
 vb bt [] hbt false T hT n nt rs hf hb JT Bq hlen h
theorem L4 {s:Bool} {P:Program} {f:FuncId} {fn:Func} {c:Code} {args:List DV} {os:List (List DV)} {cC:List TkE} {Φ:DV->List (List DV)->List TkE->Prop} (T:TT) (hT:T.ok P=true) (n nt:Nat) (rs:List ResultVar)
  (hf:P.funcs[f]? = some fn) (hb:fn.body=some c) (JT:fn.ntmps=nt) (Bq:fn.results.toList=rs) (hlen:args.length<=nt)
  (h:∀ (E:En) (w:World) (hn:E.β.length=os.length) (hm:E.tk.length=cC.length),go ⟨P,T,hT,fn,nt,rs,Bq,w,E,os.length,cC.length,hn,hm,s,Φ,[],[],false⟩ n [.code c] ⟨argSl 0 args,os,cC⟩):T6 s P f args os cC Φ:=
 P4 [] (fun p hp=>by cases hp) T hT n nt rs hf hb JT Bq hlen h
theorem WY {P:Program} {f:FuncId} {fn:Func} {c:Code} {args:List DV} {os:List (List DV)} {cC:List TkE} {Φ:DV->List (List DV)->List TkE->Prop} (T:TT) (hT:T.ok P=true) (n nt:Nat) (rs:List ResultVar)
  (hf:P.funcs[f]? = some fn) (hb:fn.body=some c) (JT:fn.ntmps=nt) (Bq:fn.results.toList=rs) (hlen:args.length<=nt)
  (h:∀ (E:En) (w:World) (hn:E.β.length=os.length) (hm:E.tk.length=cC.length),go ⟨P,T,hT,fn,nt,rs,Bq,w,E,os.length,cC.length,hn,hm,false,Φ,[],[],false⟩ n [.code c] ⟨argSl 0 args,os,cC⟩):Ev P f args os cC Φ:=
 L4 T hT n nt rs hf hb JT Bq hlen h
theorem Ev.mono {P:Program} {f:FuncId} {args:List DV} {os:List (List DV)} {cC:List TkE} {Φ Ψ:DV->List (List DV)->List TkE->Prop} (h:Ev P f args os cC Φ) (hΦ:∀ d o t,Φ d o t->Ψ d o t):Ev P f args os cC Ψ:=by
 intro E w vs h1 h2 h3;refine (h E w vs h1 h2 h3).mono ?_;rintro e w' ⟨v,rfl,h4,hs,d,o,E',h5,h6,h7,h8,h9,zA⟩;exact ⟨v,rfl,h4,hs,d,o,E',h5,h6,h7,h8,h9,hΦ _ _ _ zA⟩
theorem br {b:Bool} {A B:Prop} (h1:b=true->A) (h2:b=false->B):@Bool.rec (fun _=>Prop) B A b:=by
 cases b
 ·exact h2 rfl
 ·exact h1 rfl
section
variable {X:Ctx} {st:St} {k:List It} {E:En} {a:Act} {w:World}
theorem zF (h:Rel X E st a w) (aW:X.still=false) {E2:En} {w':World} (hm:qI (E.cl).S w w') (he:Env E2 [] w') (hn:Nw E.cl E2 w):Rel X ⟨E2.c,E.β,E.tk,E.τ⟩ st a w':=by
 have hh:∀ i,i < w.heap.size->w'.heap[i]? = w.heap[i]?:=fun i hi=>hm.block i hi (by
  rintro (h1 | ⟨y,h1,_⟩)
  ·simp [En.cl] at h1
  ·simp [En.cl] at h1)
 have bY:∀ x v,E2.c x=some v->E.c x=some v∨w.heap.size<=x.block:=fun x v hx=>by
  rcases hn.cn x v hx with h1 | h1 | ⟨y,h1,_⟩
  ·exact .inl h1
  ·exact .inr h1
  ·simp [En.cl] at h1
 have hx:Ext E ⟨E2.c,E.β,E.tk,E.τ⟩:=⟨hn.c,fun _ _ h=>h,fun _ q h=>⟨q,h,.inl ⟨rfl,rfl⟩⟩⟩;have hk:=h.env.j8 hh;refine dB h hx ?_ h.tk ?_ (h.fr.dg hm.os hm.tape hm.output hm.size fun i hi=>.inr (hh i hi)) (nR aW) (h.bt.j8 fun b hb=>hh b (h.env.bm hb))
 ·exact {
   len:=h.env.len
   tl:=h.env.tl
   fk:=fun i cs hi=>by
    obtain ⟨b,ty,arr,hb,hw,hc⟩:=hk.fk i cs hi;exact ⟨b,ty,arr,hb,hw,hc.mono hx⟩
   inj:=h.env.inj
   sub:=he.sub
   pc:=fun x v hc lQ=>by
    rcases bY x v hc with h1 | h1
    ·exact h.env.pc x v h1 lQ
    ·have:=h.env.bm lQ;omega
   cC:=fun k q y hq hy=>by
    rcases hk.cC k q y hq hy with h1 | ⟨g',cap,cur,rfl,h1,h2,h3,h4,h5,h6⟩
    ·exact .inl h1
    ·refine .inr ⟨g',cap,cur,rfl,h1,⟨h2.1,h2.2.mono hn.c⟩,h3,h4,h5,fun x v hc hg=>?_⟩;rcases bY x v hc with h7 | h7
     ·exact h6 x v h7 hg
     ·have:=(jg (h.env.cC k q _ hq hy) (g:=g') rfl).1;omega
   jE:=h.env.jE }
 ·exact {
   c:=fun x v hc=>hn.c x v (h.nw.c x v hc)
   cn:=fun x v hc=>by
    rcases bY x v hc with h1 | h1
    ·exact h.nw.cn x v h1
    ·have:=h.fr.size;exact .inr (.inl (by omega))
   β:=h.nw.β
   tk:=h.nw.tk
   tn:=h.nw.tn
   l0:=h.nw.l0 }
theorem L5 {bx:List (List DV)} (h:Env E bx w):Env E.cl [] w where
 len:=rfl
 tl:=rfl
 fk:=by simp
 inj:=List.nodup_nil
 sub:=h.sub
 pc:=by simp [En.cl]
 cC:=by simp [En.cl]
 jE:=by simp [En.cl]
theorem nU {P:Program} (h:Rel X E st a w) (aW:X.still=false) {f:FuncId} {args bJ:List DV} {vs:List Value} {Φ:DV->List (List DV)->List TkE->Prop} (hc:Ev P f bJ [] [] Φ) (ha:CcL [] 0 0 0 bJ args) (hv:RvL E args vs) :
  Calls P f vs.toArray w fun e w'=>∃ v E' d,e = .returned v/\Rel X E' st a w' /\ Rv E' d v/\Φ d [] []/\qI E.cl.S w w' /\ Ext E E' /\ E'.β=E.β:=by
 have TH:RvL E.cl bJ vs:=CcL.sound (E:=E) (E':=E.cl) ⟨fun _ _ h=>h,fun i cs _ hi=>by simp at hi⟩ (Im.zero _ _) ha hv;refine (hc E.cl w vs (L5 h.env) rfl TH).mono ?_;rintro e w' ⟨v,rfl,hm,_,d,os,E2,he,hβ,k0,hn,y9,hΦ⟩
 have sx:os=[]:=by
  have:=he.len;rw [hβ] at this;exact List.eq_nil_of_length_eq_zero this.symm
 subst sx;have ht0:E2.tk=[]:=List.eq_nil_of_length_eq_zero k0;refine ⟨v,⟨E2.c,E.β,E.tk,E.τ⟩,d,rfl,zF h aW hm he hn,?_,by rw [ht0] at hΦ;exact hΦ,hm,⟨hn.c,fun _ _ h=>h,fun _ q h=>⟨q,h,.inl ⟨rfl,rfl⟩⟩⟩,rfl⟩;refine Rv.mono (E:=E2) (E':=⟨E2.c,E.β,E.tk,E.τ⟩) ⟨fun _ _ h=>h,fun i b hb=>?_,fun k q hq=>?_⟩ y9
 ·rw [hβ] at hb;simp [En.cl] at hb
 ·rw [ht0] at hq;simp at hq
theorem kD {f:FuncId} {args bJ:List DV} {d:Nat} (mC:Enters X.P f) (hd:gp X.nt st.sl (some d)=true) {Φ:DV->List (List DV)->List TkE->Prop} (hc:Ev X.P f bJ [] [] Φ) (ha:CcL [] 0 0 0 bJ args)
  (hk:∀ r,Φ r [] []->go X 4000 k ⟨(d,⟨[],r⟩) :: st.sl,st.bx,st.tk⟩) (aW:X.still=false:=by exact rfl):ie X f args (some d) k st:=by
 refine ⟨mC,aW,fun E a w vs h hv=>(nU h aW hc ha hv).mono ?_⟩;rintro e w' ⟨v,E',r,rfl,ch,hr,hΦ,_⟩;exact go_sound 4000 _ _ (hk r hΦ) E' _ w' (bG ch hd r v hr)
theorem L6 {f:FuncId} {args bJ:List DV} {d:Nat} {r:DV} (mC:Enters X.P f) (hc:aV X.P f bJ r) (ha:CcL [] 0 0 0 bJ args) (hd:gp X.nt st.sl (some d)=true)
  (hk:go X 4000 k ⟨(d,⟨[],r⟩) :: st.sl,st.bx,st.tk⟩) (aW:X.still=false:=by exact rfl):ie X f args (some d) k st:=
 kD mC hd hc ha (fun _ hr=>hr ▸ hk) aW
def clB (n m:Nat):DV->Bool
 | .v _=>true
 | .ud=>true
 | .sl _ _ none=>true
 | .sl _ _ (some k)=>Nat.blt k m
 | .pt _ _=>true
 | .loc i _=>Nat.blt i n
 | .el i _=>Nat.blt i n
 | .ms i _ _ _ _=>Nat.blt i n
 | .agg l=>clL l
 | .tup l=>clL l
 | .fn _ l r=>clL l && clL r
 | .sq _ x=>clB n m x
where clL:List DV->Bool
 | []=>true
 | d :: r=>clB n m d && clL r
def En.cut (E:En) (n m:Nat):En:=⟨E.c,E.β.take n,E.tk.take m,E.τ.take m⟩
mutual
theorem Rv.cut {n m:Nat} {E:En}:∀ {d:DV} {v:Value},Rv E d v->clB n m d=true->Rv (E.cut n m) d v
 | .v x,v,h,_=>by unfold Rv at h ⊢;exact h
 | .ud,v,h,_=>by unfold Rv at h ⊢;exact h
 | .sl e es none,v,h,_=>by
  unfold Rv at h ⊢;obtain ⟨b,n,cap,h1,h2,h3,_⟩:=h;exact ⟨b,n,cap,h1,h2,h3,fun k hk=>by cases hk⟩
 | .sl e es (some k),v,h,hc=>by
  unfold Rv at h ⊢;obtain ⟨b,n',cap,h1,h2,h3,h4⟩:=h;refine ⟨b,n',cap,h1,h2,h3,fun k' eX=>?_⟩;cases eX;have hk:k < m:=by simpa [clB] using hc
  obtain ⟨q,h5,h6,h7⟩:=h4 k rfl;exact ⟨q,by show (E.tk.take m)[k]? = _;rw [cf,ai hk];exact h5,h6,fun hh=>by show (E.τ.take m)[k]? = _;rw [cf,ai hk];exact h7 hh⟩
 | .pt cs o,v,h,_=>by unfold Rv at h ⊢;exact h
 | .loc i o,v,h,hc=>by
  unfold Rv at h ⊢;obtain ⟨b,hb,h1⟩:=h;have hi:i < n:=by simpa [clB] using hc
  exact ⟨b,by show (E.β.take n)[i]? = _;rw [cf,ai hi];exact hb,h1⟩
 | .el i o,v,h,hc=>by
  unfold Rv at h ⊢;obtain ⟨b,hb,h1⟩:=h;have hi:i < n:=by simpa [clB] using hc
  exact ⟨b,by show (E.β.take n)[i]? = _;rw [cf,ai hi];exact hb,h1⟩
 | .ms i e o l c,v,h,hc=>by
  unfold Rv at h ⊢;obtain ⟨b,ad,hb,h1⟩:=h;have hi:i < n:=by simpa [clB] using hc
  exact ⟨b,ad,by show (E.β.take n)[i]? = _;rw [cf,ai hi];exact hb,h1⟩
 | .agg l,v,h,hc=>by
  unfold Rv at h ⊢;obtain ⟨vs,h1,h2,h3⟩:=h;simp only [clB] at hc;exact ⟨vs,h1,RvL.cut h2 hc,h3⟩
 | .tup l,v,h,hc=>by
  unfold Rv at h ⊢;obtain ⟨vs,h1,h2⟩:=h;simp only [clB] at hc;exact ⟨vs,h1,RvL.cut h2 hc⟩
 | .fn f l r,v,h,hc=>by
  unfold Rv at h ⊢;obtain ⟨l',r',h1,h2,h3⟩:=h;simp only [clB,aP] at hc;exact ⟨l',r',h1,RvL.cut h2 hc.1,RvL.cut h3 hc.2⟩
 | .sq t x,v,h,hc=>by
  unfold Rv at h ⊢;obtain ⟨z,h1,h2⟩:=h;simp only [clB] at hc;exact ⟨z,h1,Rv.cut h2 hc⟩
theorem RvL.cut {n m:Nat} {E:En}:∀ {l:List DV} {vs:List Value},RvL E l vs->clB.clL n m l=true->RvL (E.cut n m) l vs
 | [],vs,h,_=>by simp only [RvL] at h ⊢;exact h
 | d :: r,vs,h,hc=>by
  simp only [RvL] at h ⊢;obtain ⟨v,s,h1,h2,h3⟩:=h;simp only [clB.clL,aP] at hc;exact ⟨v,s,h1,Rv.cut h2 hc.1,RvL.cut h3 hc.2⟩
end
end
end Dv
end Go.Proofs.YtadhpeooehkklaaGreat
namespace Go.Proofs.YtadhpeooehkklaaGreat
namespace Dv
open Go Go.RowKit
def We (n m:Nat) (dL:List TkE) (x x':DV):Prop:=
 (x=x' /\ clB n m x=true)∨(x = .v (.slice none 0 0)/\∃ e k q,x' = .sl e [] (some k)/\m<=k/\dL[k]? = some q)∨(x = .v (.slice none 0 0)/\∃ e,x' = .sl e [] none)∨(∃ e es tk,x = .sl e es tk/\x' = .sl e es none)∨(∃ e es JR tk,x = .sl e es tk/\x' = .sl e JR none/\CcE [] 0 JR es)∨(∃ e es JR k,x = .sl e es (some k)/\x' = .sl e JR (some k)/\k < m/\CcE [] 0 JR es)
def WeL (n m:Nat) (dL:List TkE):List DV->List DV->Prop
 | [],l=>l=[]
 | x :: r,l=>∃ x' r',l=x' :: r' /\ We n m dL x x' /\ WeL n m dL r r'
def WeLL (n m:Nat) (dL:List TkE):List (List DV)->List (List DV)->Prop
 | [],l=>l=[]
 | x :: r,l=>∃ x' r',l=x' :: r' /\ WeL n m dL x x' /\ WeLL n m dL r r'
def tY (n m:Nat) (dL:List TkE) (sl:List (Nat × Sl)):List (Nat × Sl)->Prop
 | []=>True
 | p :: r=>(∃ x,get sl p.1=some ⟨p.2.gs,x⟩/\We n m dL x p.2.s)/\tY n m dL sl r
structure sE (n0 m0:Nat) (st st':St):Prop where
 all:∃ kept dropped new b0 r,m0<=kept.length/\n0<=b0.length/\st.tk=kept ++ dropped/\st'.tk=kept ++ new/\(∀ q∈new,TkE.new q=true)/\st.bx=b0 ++ r/\WeLL b0.length kept.length st'.tk b0 st'.bx/\tY b0.length kept.length st'.tk st.sl st'.sl
theorem WeLL.length {n m:Nat} {dL:List TkE}:∀ {l l':List (List DV)},WeLL n m dL l l' -> l'.length=l.length
 | [],l',h=>by simp only [WeLL] at h;subst h;rfl
 | x :: r,l',h=>by
  simp only [WeLL] at h;obtain ⟨x',r',rfl,_,h2⟩:=h;simp [WeLL.length h2]
theorem WeLL.get {n m:Nat} {dL:List TkE}:∀ {l l':List (List DV)},WeLL n m dL l l' -> ∀ (i:Nat) cs',l'[i]? = some cs' -> ∃ cs,l[i]? = some cs/\WeL n m dL cs cs'
 | [],l',h,i,cs',hi=>by simp only [WeLL] at h;subst h;simp at hi
 | x :: r,l',h,i,cs',hi=>by
  simp only [WeLL] at h;obtain ⟨x',r',rfl,h1,h2⟩:=h
  cases i with
  | zero=>simp only [List.getElem?_cons_zero,oI] at hi;subst hi;exact ⟨x,rfl,h1⟩
  | succ i=>simp only [List.getElem?_cons_succ] at hi ⊢;exact WeLL.get h2 i cs' hi
theorem wa {n m:Nat} {dL:List TkE} {sl:List (Nat × Sl)}:∀ {l:List (Nat × Sl)},tY n m dL sl l->∀ i x',get l i=some x' -> ∃ x,get sl i=some ⟨x'.gs,x⟩/\We n m dL x x'.s
 | [],_,i,x',hx=>by cases hx
 | (k,y) :: r,h,i,x',hx=>by
  simp only [dV] at hx;split at hx
  ·rename_i kA;subst kA;simp only [oI] at hx;subst hx;exact h.1
  ·exact wa h.2 i x' hx
section
variable {X:Ctx} {E:En} {st st':St} {a:Act} {w:World} {k:List It}
def En.wk (E:En) (n:Nat) (kept new:List TkE):En:=⟨E.c,E.β.take n,kept ++ new,E.τ.take kept.length ++ List.replicate new.length (.slice none 0 0)⟩
theorem Dt {n:Nat} {kept dropped new:List TkE} (ht:E.tk=kept ++ dropped) (hl:E.τ.length=E.tk.length) (bY:∀ q∈new,TkE.new q=true) {x x':DV} {v:Value} (hx:We n kept.length (kept ++ new) x x') (hv:Rv E x v):Rv (E.wk n kept new) x' v:=by
 have eC:kept.length<=E.τ.length:=by rw [hl,ht];simp
 have first:∀ {x:DV},clB n kept.length x=true->Rv E x v->Rv (E.wk n kept new) x v:=by
  intro x hc hv;refine Rv.mono (E:=E.cut n kept.length) ⟨fun _ _ h=>h,fun _ _ h=>h,fun k q hq=>?_⟩ (Rv.cut hv hc);have jh:(E.tk.take kept.length)[k]? = some q:=hq;rw [cf] at jh;split at jh
  ·rename_i hk;refine ⟨q,?_,.inl ⟨rfl,?_⟩⟩
   ·show (kept ++ new)[k]? = _;rw [ht,cj hk] at jh;rw [cj hk];exact jh
   ·show (E.τ.take kept.length ++ _)[k]? = (E.τ.take kept.length)[k]?;rw [cj (by rw [zLenT];omega)]
  ·cases jh
 rcases hx with ⟨rfl,hc⟩ | ⟨rfl,e,k,q,rfl,hk,hq⟩ | ⟨rfl,e,rfl⟩ | ⟨e,es,tk,rfl,rfl⟩ | ⟨e,es,JR,tk,rfl,rfl,he⟩ | ⟨e,es,JR,k,rfl,rfl,hk,he⟩
 ·exact first hc hv
 ·have:=cE hv;subst this;unfold Rv;refine ⟨none,0,0,rfl,⟨rfl,aR _⟩,fun hn=>(hn rfl).elim,fun k' eX=>?_⟩;cases eX;have Io:(kept ++ new)[k]? = some q:=hq;rw [List.getElem?_append_right hk] at Io;have va:=TkE.LK (bY q (mG Io));refine ⟨q,hq,by omega,fun _=>?_⟩;have ap:=(gS Io).1;show (E.τ.take kept.length ++ List.replicate new.length _)[k]? = _;rw [List.getElem?_append_right (by rw [zLenT];omega)];rw [zLenT,Nat.min_eq_left eC,List.getElem?_replicate,ai ap]
 ·have:=cE hv;subst this;unfold Rv;exact ⟨none,0,0,rfl,⟨rfl,aR _⟩,fun hn=>(hn rfl).elim,fun k hk=>by cases hk⟩
 ·unfold Rv at hv ⊢;obtain ⟨b,n,cap,h1,h2,h3,_⟩:=hv;exact ⟨b,n,cap,h1,h2,h3,fun k hk=>by cases hk⟩
 ·have hv:=R2 he hv;unfold Rv at hv ⊢;obtain ⟨b,n,cap,h1,h2,h3,_⟩:=hv;exact ⟨b,n,cap,h1,h2,h3,fun k hk=>by cases hk⟩
 ·exact first (by simp only [clB];exact Nat.ble_eq_true_of_le hk) (R2 he hv)
theorem zG {n:Nat} {kept dropped new:List TkE} (ht:E.tk=kept ++ dropped) (hl:E.τ.length=E.tk.length) (bY:∀ q∈new,TkE.new q=true):∀ {l l':List DV} {vs:List Value},WeL n kept.length (kept ++ new) l l' -> RvL E l vs->RvL (E.wk n kept new) l' vs
 | [],l',vs,h,hv=>by
  simp only [WeL] at h;subst h;simp only [RvL] at hv ⊢;exact hv
 | x :: r,l',vs,h,hv=>by
  simp only [WeL] at h;obtain ⟨x',r',rfl,h1,h2⟩:=h;simp only [RvL] at hv ⊢;obtain ⟨v,s,h3,h4,h5⟩:=hv;exact ⟨v,s,h3,Dt ht hl bY h1 h4,zG ht hl bY h2 h5⟩
theorem wb (h:Rel X E st a w) (hw:sE X.n0 X.m0 st st'):∃ E',Rel X E' st' a w:=by
 obtain ⟨kept,dropped,new,b0,r,pk,kX,ht,pq,bY,hb,uN,nK⟩:=hw.all;rw [pq] at uN nK;have WZ:E.tk=kept ++ dropped:=by rw [h.tk,ht]
 have hbl:=uN.length;have eC:kept.length<=E.τ.length:=by rw [h.env.tl,WZ];simp
 have iB:b0.length<=E.β.length:=by rw [h.env.len,hb];simp
 have hτ:∀ (k:Nat) y,(E.τ.take kept.length ++ List.replicate new.length (Value.slice none 0 0))[k]? = some y->(k < kept.length/\E.τ[k]? = some y)∨(kept.length<=k/\y = .slice none 0 0):=fun k y hy=>by
  rw [List.getElem?_append] at hy;split at hy
  ·rename_i hk;rw [zLenT] at hk;rw [cf,ai (by omega)] at hy;exact .inl ⟨by omega,hy⟩
  ·rename_i hk;rw [zLenT] at hk;rw [List.getElem?_replicate] at hy;split at hy
   ·simp only [oI] at hy;exact .inr ⟨by omega,hy.symm⟩
   ·cases hy
 refine ⟨E.wk b0.length kept new,?_⟩
 exact {
  env:={
   len:=by simp only [En.wk,zLenT];omega
   tl:=by simp only [En.wk,List.length_append,zLenT,List.length_replicate];omega
   fk:=fun i cs' hi=>by
    obtain ⟨cs,dr,hwe⟩:=uN.get i cs' hi;have ap:=(gS dr).1;obtain ⟨b,ty,arr,hbb,hwb,hc⟩:=h.env.fk i cs (by rw [hb,cj ap];exact dr);exact ⟨b,ty,arr,by simp only [En.wk];rw [cf,ai ap];exact hbb,hwb,zG WZ h.env.tl bY hwe hc.1,hc.2⟩
   inj:=h.env.inj.sublist (List.take_sublist _ _)
   sub:=h.env.sub
   pc:=fun x v hx hm=>h.env.pc x v hx (List.mem_of_mem_take hm)
   cC:=fun k q y hq hy=>by
    rcases hτ k y hy with ⟨hk,fA⟩ | ⟨hk,rfl⟩
    ·have jh:(kept ++ new)[k]? = some q:=hq;rw [cj hk] at jh;rcases h.env.cC k q y (by rw [WZ,cj hk];exact jh) fA with h1 | ⟨g,cap,cur,rfl,h1,h2,h3,h4,h5,h6⟩
     ·exact .inl h1
     ·exact .inr ⟨g,cap,cur,rfl,h1,h2,h3,h4,fun hm=>h5 (List.mem_of_mem_take hm),h6⟩
    ·have jh:(kept ++ new)[k]? = some q:=hq;rw [List.getElem?_append_right hk] at jh;exact .inl ⟨rfl,TkE.LK (bY q (mG jh)),TkE.RW (bY q (mG jh))⟩
   jE:=fun k k' y y' g C1 hy fA hg r7=>by
    rcases hτ k y hy with ⟨_,u9⟩ | ⟨_,rfl⟩
    ·rcases hτ k' y' fA with ⟨_,kZ⟩ | ⟨_,rfl⟩
     ·exact h.env.jE k k' y y' g C1 u9 kZ hg r7
     ·simp [Value.ownBlock] at r7
    ·simp [Value.ownBlock] at hg }
  tk:=by simp only [En.wk];exact pq.symm
  sz:=h.sz
  tm:=fun i x' r6=>by
   obtain ⟨x,hx,hwe⟩:=wa nK i x' r6;have:=h.tm i _ hx;refine ⟨fun hh=>?_,this.2⟩;obtain ⟨v,h1,h2⟩:=this.1 hh;exact ⟨v,h1,Dt WZ h.env.tl bY hwe h2⟩
  df:=h.df
  nw:={
   c:=h.nw.c
   cn:=h.nw.cn
   β:=by
    obtain ⟨r2,hr,hl⟩:=h.nw.β;refine ⟨r2.take (b0.length - X.n0),?_,fun b hb=>hl b (List.mem_of_mem_take hb)⟩;simp only [En.wk];rw [hr,List.take_append,List.take_of_length_le (by rw [X.kX];omega),X.kX]
   tk:=fun j q0 y0 va BA=>by
    obtain ⟨q',y',h1,h2,h3⟩:=h.nw.tk j q0 y0 va BA;have hj:j < X.m0:=by rw [<- X.pk];exact (gS va).1
    have JU:j < kept.length:=by omega
    exact ⟨q',y',by simp only [En.wk];rw [cj JU];rw [WZ,cj JU] at h1;exact h1,by simp only [En.wk];rw [cj (by rw [zLenT];omega),cf,ai JU];exact h2,h3⟩
   tn:=fun j y g hj hy hg=>by
    rcases hτ j y hy with ⟨_,u9⟩ | ⟨_,rfl⟩
    ·exact h.nw.tn j y g hj u9 hg
    ·simp [Value.ownBlock] at hg
   l0:=h.nw.l0 }
  fr:=h.fr
  sh:=h.sh
  bt:=h.bt.sub _ }
theorem least {p:Nat->Prop} (h:∃ n,p n):∃ n,p n/\∀ m,p m->n<=m:=by
 obtain ⟨n,hn⟩:=h
 induction n using Nat.strongRecOn with
 | _ n ih=>
  by_cases hm:∃ m,m < n/\p m
  ·obtain ⟨m,ap,hp⟩:=hm;exact ih m ap hp
  ·refine ⟨n,hn,fun m hp=>?_⟩;rcases Nat.lt_or_ge m n with h1 | h1
   ·exact (hm ⟨m,h1,hp⟩).elim
   ·exact h1
theorem bz {c:Code} (I:Nat->St->Prop) (j0:Nat) (iC:St) (hw:sE X.n0 X.m0 st iC) (h0:I j0 iC)
  (hr:∀ j s,I j s->go X 4000 (.code c :: .rZ (fun s'=>∃ Du,sE X.n0 X.m0 s' Du /\ ∃ j',j' < j/\I j' Du) :: k) s):pw X c k st:=by
 intro E a w h;obtain ⟨E0,hr0⟩:=wb h hw
 classical
 let Inv:Act->World->Prop:=fun a w=>∃ j s E,Rel X E s a w/\I j s
 let μ:Act->World->Nat:=fun a w=>if hI:Inv a w then Classical.choose (least hI) else 0
 refine wp_loop Inv μ ⟨j0,iC,E0,hr0,h0⟩ ?_;intro a1 w1 hI;have zH:=(Classical.choose_spec (least hI)).1;obtain ⟨s,E1,ch,hIs⟩:=zH;have hs:=go_sound 4000 _ _ (hr _ s hIs) E1 a1 w1 ch;rw [fI] at hs;refine wp_mono hs ?_;intro e a2 w2 hq
 cases e with
 | normal=>
  obtain ⟨s',E2,nV,Du,T7,j',gw,W0⟩:=hq;obtain ⟨E3,Dx⟩:=wb nV T7;have T8:Inv a2 w2:=⟨j',Du,E3,Dx,W0⟩;refine ⟨T8,?_⟩;simp only [μ,dif_pos hI,dif_pos T8];exact Nat.lt_of_le_of_lt ((Classical.choose_spec (least T8)).2 j' ⟨Du,E3,Dx,W0⟩) gw
 | exit id=>exact hq
 | goto l=>exact hq
 | ret=>exact hq
 | panic c=>exact hq
 | outgrown=>exact hq
theorem az {n m:Nat} {dL:List TkE} {x:DV} (h:clB n m x=true):We n m dL x x:=.inl ⟨rfl,h⟩
theorem aD {n m:Nat} {dL:List TkE} {kd:IntKind} {x y:Int} (h:x=y):We n m dL (.v (.int kd x)) (.v (.int kd y)):=.inl ⟨by rw [h],rfl⟩
theorem cT {n m:Nat} {dL:List TkE} {e k:Nat} {q:TkE} (h1:m<=k) (h2:dL[k]? = some q):We n m dL (.v (.slice none 0 0)) (.sl e [] (some k)):=.inr (.inl ⟨rfl,e,k,q,rfl,h1,h2⟩)
theorem cO {n m:Nat} {dL:List TkE} {e k:Nat} {es JR:List (List DV)} (h:es=JR) (hk:Nat.blt k m=true):We n m dL (.sl e es (some k)) (.sl e JR (some k)):=.inl ⟨by rw [h],hk⟩
theorem ax {p:Prop} (h:p:=by repeat' (first | exact rfl | exact trivial | exact Or.inr (Or.inl ⟨_,rfl⟩) | exact Or.inr ⟨_,rfl⟩ | exact Or.inl ⟨rfl,rfl⟩ | exact Or.inl rfl | refine Or.inr ⟨_,_,rfl,Nat.zero_le _,rfl,?_⟩ | refine ⟨_,_,rfl,?_,?_⟩ | refine ⟨_,rfl,?_⟩ | refine Or.inr (Or.inr (Or.inr ⟨_,_,rfl,?_⟩)) | exact Or.inl rfl | refine Or.inr ?_)):p:=h
theorem wA {p:Prop} (h:p:=by repeat' (first | exact rfl | exact az rfl | refine ⟨_,_,rfl,?_,?_⟩)):p:=h
theorem wB {p:Prop} (h:p:=by repeat' (first | exact trivial | exact az rfl | refine ⟨⟨_,rfl,?_⟩,?_⟩)):p:=h
theorem aj {n0 m0:Nat} {st st':St} (h1:∃ r,st.bx=st'.bx ++ r) (h2:WeLL st'.bx.length st'.tk.length st'.tk st'.bx st'.bx) (h3:st.tk=st'.tk) (h4:Nat.ble n0 st'.bx.length=true) (h5:Nat.ble m0 st'.tk.length=true)
  (h:tY st'.bx.length st'.tk.length st'.tk st.sl st'.sl):sE n0 m0 st st':=by
 obtain ⟨r,hr⟩:=h1;exact ⟨st'.tk,[],[],st'.bx,r,by simpa using h5,by simpa using h4,by simp [h3],by simp,by simp,hr,h2,h⟩
theorem au {n0 m0:Nat} {st st':St} (n:Nat) (hn:Nat.ble n st.bx.length=true) (h2:WeLL n st'.tk.length st'.tk (st.bx.take n) st'.bx) (h3:st.tk=st'.tk) (h4:Nat.ble n0 n=true) (h5:Nat.ble m0 st'.tk.length=true)
  (h:tY n st'.tk.length st'.tk st.sl st'.sl):sE n0 m0 st st':=by
 have hl:(st.bx.take n).length=n:=by
  have:=nL hn;rw [zLenT];omega
 exact ⟨st'.tk,[],[],st.bx.take n,st.bx.drop n,by simpa using h5,by rw [hl];simpa using h4,by simp [h3],by simp,by simp,(List.take_append_drop n st.bx).symm,by rw [hl];exact h2,by rw [hl];exact h⟩
theorem fJ {n0 m0:Nat} {st st':St} (q:TkE) (hq:q.new=true) (h1:∃ r,st.bx=st'.bx ++ r) (h3:st.tk ++ [q]=st'.tk) (h2:WeLL st'.bx.length st.tk.length st'.tk st'.bx st'.bx) (h4:Nat.ble n0 st'.bx.length=true) (h5:Nat.ble m0 st.tk.length=true)
  (h:tY st'.bx.length st.tk.length st'.tk st.sl st'.sl):sE n0 m0 st st':=by
 obtain ⟨r,hr⟩:=h1;exact ⟨st.tk,[],[q],st'.bx,r,by simpa using h5,by simpa using h4,by simp,h3.symm,by simpa using hq,hr,h2,h⟩
end
end Dv
end Go.Proofs.YtadhpeooehkklaaGreat
namespace Go.Proofs.YtadhpeooehkklaaGreat
namespace Dv
theorem aL {p : Prop} (h : p := by repeat' (first | exact rfl | exact trivial | exact Or.inr (Or.inl ⟨_,rfl⟩) | exact Or.inr ⟨_,rfl⟩ | exact Or.inl ⟨rfl,rfl⟩ | exact Or.inl rfl | refine Or.inr ⟨_,_,rfl,Nat.zero_le _,rfl,?_⟩ | refine ⟨_,_,rfl,?_,?_⟩ | refine ⟨_,rfl,?_⟩ | exact ⟨nL rfl,rfl⟩ | refine Or.inr (Or.inr (Or.inr ⟨_,_,rfl,?_⟩)) | exact Or.inl rfl | refine Or.inr ?_)) : p := h
theorem aI {p : Prop} {a b : Int} (q : a=b) (h : a=b -> p := by intro q;repeat' (first | exact rfl | exact trivial | exact Or.inr (Or.inl ⟨_,rfl⟩) | exact Or.inr ⟨_,rfl⟩ | exact Or.inl ⟨rfl,rfl⟩ | exact Or.inl rfl | refine Or.inr ⟨_,_,rfl,Nat.zero_le _,rfl,?_⟩ | refine ⟨_,_,rfl,?_,?_⟩ | refine ⟨_,rfl,?_⟩ | exact congrArg (fun z=>DV.v (.int .i64 z)) q | refine Or.inr (Or.inr (Or.inr ⟨_,_,rfl,?_⟩)) | exact Or.inl rfl | refine Or.inr ?_)) : p := h q
theorem aB {p : Prop} {a b : Bool} (q : a=b) (h : a=b -> p := by intro q;repeat' (first | exact rfl | exact trivial | exact Or.inr (Or.inl ⟨_,rfl⟩) | exact Or.inr ⟨_,rfl⟩ | exact Or.inl ⟨rfl,rfl⟩ | exact Or.inl rfl | refine Or.inr ⟨_,_,rfl,Nat.zero_le _,rfl,?_⟩ | refine ⟨_,_,rfl,?_,?_⟩ | refine ⟨_,rfl,?_⟩ | exact congrArg (fun b=>DV.v (.bool b)) q | refine Or.inr (Or.inr (Or.inr ⟨_,_,rfl,?_⟩)) | exact Or.inl rfl | refine Or.inr ?_)) : p := h q
theorem wNA {p : Prop} {a b : Nat} (q : a < b) (hn : b <= 4611686018427387904 := by omega) (h : a < b -> b <= 4611686018427387904 -> p := by intro q hn;repeat' (first | exact rfl | exact az rfl | exact aD (aJ q hn) | refine ⟨_,_,rfl,?_,?_⟩)) : p := h q hn
theorem wNB {p : Prop} {a b : Nat} (q : a < b) (hn : b <= 4611686018427387904 := by omega) (h : a < b -> b <= 4611686018427387904 -> p := by intro q hn;repeat' (first | exact trivial | exact az rfl | exact aD (aJ q hn) | refine ⟨⟨_,rfl,?_⟩,?_⟩)) : p := h q hn
theorem wSA {p r : Prop} {a b : Nat} (q : a < b) (s : r) (hn : b <= 4611686018427387904 := by omega) (h : a < b -> b <= 4611686018427387904 -> r -> p := by intro q hn s;repeat' (first | exact rfl | exact az rfl | exact aD (aJ q hn) | exact cO s rfl | refine ⟨_,_,rfl,?_,?_⟩)) : p := h q hn s
theorem wSB {p r : Prop} {a b : Nat} (q : a < b) (s : r) (hn : b <= 4611686018427387904 := by omega) (h : a < b -> b <= 4611686018427387904 -> r -> p := by intro q hn s;repeat' (first | exact trivial | exact az rfl | exact aD (aJ q hn) | exact cO s rfl | refine ⟨⟨_,rfl,?_⟩,?_⟩)) : p := h q hn s
theorem wTB {p : Prop} (h : p := by repeat' (first | exact trivial | exact az rfl | exact cT (Nat.le_refl _) rfl | refine ⟨⟨_,rfl,?_⟩,?_⟩)) : p := h
theorem wTA {p : Prop} (h : p := by repeat' (first | exact rfl | exact az rfl | exact cT (Nat.le_refl _) rfl | refine ⟨_,_,rfl,?_,?_⟩)) : p := h
theorem wRB {p : Prop} (h : p := by repeat' (first | exact trivial | exact az rfl | exact aD rfl | refine ⟨⟨_,rfl,?_⟩,?_⟩)) : p := h
theorem wRA {p : Prop} (h : p := by repeat' (first | exact rfl | exact az rfl | exact aD rfl | refine ⟨_,_,rfl,?_,?_⟩)) : p := h
theorem pS {p:Prop}   (h:p:=by repeat' (first | exact rfl | exact az rfl | exact bW rfl | exact cA rfl | exact sF _ | exact cT (Nat.le_refl _) rfl | exact cT (Nat.le_succ _) rfl | refine ⟨_,_,rfl,?_,?_⟩)):p:=h 
theorem ny {p:Prop} {P0:Prop} (x0:P0) (h:P0->p:=by intro x0;repeat' (first | exact rfl | exact az rfl | exact aD x0 | exact bW x0 | exact cO x0 rfl | exact cF x0 | exact cA x0 | exact aD (congrArg Nat.cast x0) | exact az x0 | exact gx x0 | exact x0 | exact bW rfl | exact cA rfl | exact sF _ | exact cT (Nat.le_refl _) rfl | exact cT (Nat.le_succ _) rfl | refine ⟨_,_,rfl,?_,?_⟩)):p:=h x0
theorem gF {p:Prop} {P0:Prop} {P1:Prop} (x0:P0) (x1:P1) (h:P0->P1->p:=by intro x0 x1;repeat' (first | exact rfl | exact az rfl | exact aD x0 | exact bW x0 | exact cO x0 rfl | exact cF x0 | exact cA x0 | exact aD (congrArg Nat.cast x0) | exact az x0 | exact gx x0 | exact x0 | exact aD x1 | exact bW x1 | exact cO x1 rfl | exact cF x1 | exact cA x1 | exact aD (congrArg Nat.cast x1) | exact az x1 | exact gx x1 | exact x1 | exact bW rfl | exact cA rfl | exact sF _ | exact cT (Nat.le_refl _) rfl | exact cT (Nat.le_succ _) rfl | refine ⟨_,_,rfl,?_,?_⟩)):p:=h x0 x1
theorem T9 {p:Prop} {P0:Prop} {P1:Prop} {P2:Prop} (x0:P0) (x1:P1) (x2:P2) (h:P0->P1->P2->p:=by intro x0 x1 x2;repeat' (first | exact rfl | exact az rfl | exact aD x0 | exact bW x0 | exact cO x0 rfl | exact cF x0 | exact cA x0 | exact aD (congrArg Nat.cast x0) | exact az x0 | exact gx x0 | exact x0 | exact aD x1 | exact bW x1 | exact cO x1 rfl | exact cF x1 | exact cA x1 | exact aD (congrArg Nat.cast x1) | exact az x1 | exact gx x1 | exact x1 | exact aD x2 | exact bW x2 | exact cO x2 rfl | exact cF x2 | exact cA x2 | exact aD (congrArg Nat.cast x2) | exact az x2 | exact gx x2 | exact x2 | exact bW rfl | exact cA rfl | exact sF _ | exact cT (Nat.le_refl _) rfl | exact cT (Nat.le_succ _) rfl | refine ⟨_,_,rfl,?_,?_⟩)):p:=h x0 x1 x2
theorem mi {p:Prop}   (h:p:=by repeat' (first | exact trivial | exact az rfl | exact cT (Nat.le_refl _) rfl | exact cT (Nat.le_succ _) rfl | exact aD rfl | refine ⟨⟨_,rfl,?_⟩,?_⟩)):p:=h 
theorem dt {p:Prop} {P0:Prop} (x0:P0) (h:P0->p:=by intro x0;repeat' (first | exact trivial | exact az rfl | exact aD x0 | exact bW x0 | exact cO x0 rfl | exact cF x0 | exact cA x0 | exact aD (congrArg Nat.cast x0) | exact az x0 | exact gx x0 | exact x0 | exact cT (Nat.le_refl _) rfl | exact cT (Nat.le_succ _) rfl | exact aD rfl | refine ⟨⟨_,rfl,?_⟩,?_⟩)):p:=h x0
theorem wB2 {p:Prop} {P0:Prop} {P1:Prop} (x0:P0) (x1:P1) (h:P0->P1->p:=by intro x0 x1;repeat' (first | exact trivial | exact az rfl | exact aD x0 | exact bW x0 | exact cO x0 rfl | exact cF x0 | exact cA x0 | exact aD (congrArg Nat.cast x0) | exact az x0 | exact gx x0 | exact x0 | exact aD x1 | exact bW x1 | exact cO x1 rfl | exact cF x1 | exact cA x1 | exact aD (congrArg Nat.cast x1) | exact az x1 | exact gx x1 | exact x1 | exact cT (Nat.le_refl _) rfl | exact cT (Nat.le_succ _) rfl | exact aD rfl | refine ⟨⟨_,rfl,?_⟩,?_⟩)):p:=h x0 x1
theorem zI {p:Prop} {P0:Prop} {P1:Prop} {P2:Prop} (x0:P0) (x1:P1) (x2:P2) (h:P0->P1->P2->p:=by intro x0 x1 x2;repeat' (first | exact trivial | exact az rfl | exact aD x0 | exact bW x0 | exact cO x0 rfl | exact cF x0 | exact cA x0 | exact aD (congrArg Nat.cast x0) | exact az x0 | exact gx x0 | exact x0 | exact aD x1 | exact bW x1 | exact cO x1 rfl | exact cF x1 | exact cA x1 | exact aD (congrArg Nat.cast x1) | exact az x1 | exact gx x1 | exact x1 | exact aD x2 | exact bW x2 | exact cO x2 rfl | exact cF x2 | exact cA x2 | exact aD (congrArg Nat.cast x2) | exact az x2 | exact gx x2 | exact x2 | exact cT (Nat.le_refl _) rfl | exact cT (Nat.le_succ _) rfl | exact aD rfl | refine ⟨⟨_,rfl,?_⟩,?_⟩)):p:=h x0 x1 x2
theorem W1 {p:Prop} {P0:Prop} {P1:Prop} {P2:Prop} {P3:Prop} (x0:P0) (x1:P1) (x2:P2) (x3:P3) (h:P0->P1->P2->P3->p:=by intro x0 x1 x2 x3;repeat' (first | exact trivial | exact az rfl | exact aD x0 | exact bW x0 | exact cO x0 rfl | exact cF x0 | exact cA x0 | exact aD (congrArg Nat.cast x0) | exact az x0 | exact gx x0 | exact x0 | exact aD x1 | exact bW x1 | exact cO x1 rfl | exact cF x1 | exact cA x1 | exact aD (congrArg Nat.cast x1) | exact az x1 | exact gx x1 | exact x1 | exact aD x2 | exact bW x2 | exact cO x2 rfl | exact cF x2 | exact cA x2 | exact aD (congrArg Nat.cast x2) | exact az x2 | exact gx x2 | exact x2 | exact aD x3 | exact bW x3 | exact cO x3 rfl | exact cF x3 | exact cA x3 | exact aD (congrArg Nat.cast x3) | exact az x3 | exact gx x3 | exact x3 | exact cT (Nat.le_refl _) rfl | exact cT (Nat.le_succ _) rfl | exact aD rfl | refine ⟨⟨_,rfl,?_⟩,?_⟩)):p:=h x0 x1 x2 x3
theorem mj {p:Prop}   (h:p:=by repeat' (first | exact rfl | exact trivial | exact Or.inr (Or.inl ⟨_,rfl⟩) | exact Or.inr ⟨_,rfl⟩ | exact Or.inl ⟨rfl,rfl⟩ | exact Or.inl rfl | refine Or.inr ⟨_,_,rfl,Nat.zero_le _,rfl,?_⟩ | refine ⟨_,_,rfl,?_,?_⟩ | refine ⟨_,rfl,?_⟩ | exact ⟨nL rfl,rfl⟩ | refine Or.inr (Or.inr (Or.inr ⟨_,_,rfl,?_⟩)) | exact Or.inl rfl | refine Or.inr ?_)):p:=h 
theorem gU {p:Prop} {P0:Prop} (x0:P0) (h:P0->p:=by intro x0;repeat' (first | exact rfl | exact trivial | exact Or.inr (Or.inl ⟨_,rfl⟩) | exact Or.inr ⟨_,rfl⟩ | exact Or.inl ⟨rfl,rfl⟩ | exact Or.inl rfl | refine Or.inr ⟨_,_,rfl,Nat.zero_le _,rfl,?_⟩ | refine ⟨_,_,rfl,?_,?_⟩ | refine ⟨_,rfl,?_⟩ | exact congrArg (fun z=>DV.v (.int .i64 z)) x0 | exact congrArg (fun z=>DV.v (.int .i64 z)) (congrArg Nat.cast x0) | exact congrArg (fun b=>DV.v (.bool b)) x0 | exact x0 | exact Or.inr (Or.inl ⟨_,x0⟩) | apply x0 | exact ⟨nL rfl,rfl⟩ | refine Or.inr (Or.inr (Or.inr ⟨_,_,rfl,?_⟩)) | exact Or.inl rfl | refine Or.inr ?_)):p:=h x0
theorem wC2 {p:Prop} {P0:Prop} {P1:Prop} (x0:P0) (x1:P1) (h:P0->P1->p:=by intro x0 x1;repeat' (first | exact rfl | exact trivial | exact Or.inr (Or.inl ⟨_,rfl⟩) | exact Or.inr ⟨_,rfl⟩ | exact Or.inl ⟨rfl,rfl⟩ | exact Or.inl rfl | refine Or.inr ⟨_,_,rfl,Nat.zero_le _,rfl,?_⟩ | refine ⟨_,_,rfl,?_,?_⟩ | refine ⟨_,rfl,?_⟩ | exact congrArg (fun z=>DV.v (.int .i64 z)) x0 | exact congrArg (fun z=>DV.v (.int .i64 z)) (congrArg Nat.cast x0) | exact congrArg (fun b=>DV.v (.bool b)) x0 | exact x0 | exact Or.inr (Or.inl ⟨_,x0⟩) | apply x0 | exact congrArg (fun z=>DV.v (.int .i64 z)) x1 | exact congrArg (fun z=>DV.v (.int .i64 z)) (congrArg Nat.cast x1) | exact congrArg (fun b=>DV.v (.bool b)) x1 | exact x1 | exact Or.inr (Or.inl ⟨_,x1⟩) | apply x1 | exact ⟨nL rfl,rfl⟩ | refine Or.inr (Or.inr (Or.inr ⟨_,_,rfl,?_⟩)) | exact Or.inl rfl | refine Or.inr ?_)):p:=h x0 x1
theorem iX {α:Type _} {P:α->Prop} {cs:α} {i:Int} {l:List α} (g:l[i.toNat]? = some cs) (k:P cs) (h:0<=i:=by omega):∃ cs,(0<=i/\l[i.toNat]? = some cs)/\P cs:=⟨cs,⟨h,g⟩,k⟩
theorem lI {X:Ctx} {st:St} {k:List It} {c:Code} (I:Nat->St->Prop) {j0:Nat} {iC:St} (h0:I j0 iC) (hw:sE X.n0 X.m0 st iC)
 (hr:∀ j s,I j s->go X 4000 (.code c :: .rZ (fun s'=>∃ Du,sE X.n0 X.m0 s' Du/\∃ j',j' < j/\I j' Du) :: k) s):pw X c k st:=bz I j0 iC hw h0 hr
theorem lJ {X:Ctx} {st:St} {k:List It} {c:Code} (S:Nat->St) (n:Nat) (hw:sE X.n0 X.m0 st (S 0))
 (hr:∀ e,e<=n->go X 4000 (.code c :: .rZ (fun s'=>∃ Du,sE X.n0 X.m0 s' Du/\∃ j',j' < n - e/\∃ e:Nat,Du=S e/\e<=n/\j'=n - e) :: k) (S e)):pw X c k st:=bz (fun j st=>∃ e:Nat,st=S e/\e<=n/\j=n - e) (n - 0) (S 0) hw ⟨0,rfl,Nat.zero_le _,rfl⟩ fun j s h=>by
 obtain ⟨e,rfl,he,rfl⟩:=h;exact hr e he
end Dv
end Go.Proofs.YtadhpeooehkklaaGreat
namespace Go.Proofs.YtadhpeooehkklaaGreat
namespace Dv
open Go
section
variable {P:Program} {ops:Array Oper} {C:World->Prop} {Q:Act->World->Prop} {W:Nat->Bool} {π:Nat->Nat}
theorem W2 {o:Oper} {a:Act} {w:World} {K:Act->World->Prop} (h:wq P o a w K):∃ v w',K (a.put o.dst v) w':=by
 unfold wq at h;split at h
 ·exact ⟨_,_,h⟩
 ·exact ⟨_,_,h⟩
 ·obtain ⟨e,w',fr,⟨v,_,hv⟩,_⟩:=h [];exact ⟨v,w',hv⟩
 ·exact h.elim
theorem Ua {x y:Oper} {v:Value} (Wa:x.apart ops y=true) (hs:∀ cs b,y.op ≠ .select cs b) {a:Act} {w:World} {K:Act->World->Prop} :
  wq P y (a.put x.dst v) w K↔wq P y a w (fun a' w'=>K (a'.put x.dst v) w'):=by
 obtain ⟨h1,h2,h3⟩:=Oper.apart_spec Wa;unfold wq;rw [execOp_put y hs a x.dst v h1];have hc:∀ u,(a.put x.dst v).put y.dst u=(a.put y.dst u).put x.dst v:=fun u=>Act.put_comm a v u h2
 cases (execOp a.eval y).run P w with
 | halt h w'=>rfl
 | ok n w'=>cases n<;>simp [hc]
def Yl (P:Program) (ops:Array Oper) (C:World->Prop) (o:Oper) (v:Value) (a:Act):Prop:=
 (Region.wanted o (yielded ops a.tmps)=true/\∀ w,(j7 o.op=true->C w)->(execOp a.eval o).run P w = .ok (.value v) w) ∨
 (Region.wanted o (yielded ops a.tmps)=false/\v=undef)
theorem Yl.same {x y:Oper} {v u:Value} (Wa:x.apart ops y=true) (hs:∀ cs b,y.op ≠ .select cs b) {a:Act}:Yl P ops C y v (a.put x.dst u)↔Yl P ops C y v a:=by
 obtain ⟨h1,h2,h3⟩:=Oper.apart_spec Wa;unfold Yl;rw [execOp_put y hs a x.dst u h1,wanted_put y a x.dst u h1]
def dP (P:Program) (ops:Array Oper) (o:Oper) (a:Act) (w:World) (K:Act->World->Prop):Prop:=
 if Region.wanted o (yielded ops a.tmps)=true then wq P o a w K else K (a.put o.dst undef) w
theorem cI {o:Oper} {a:Act} {w:World} {K K':Act->World->Prop} (hk:∀ a w,K a w->K' a w) (h:dP P ops o a w K):dP P ops o a w K':=by
 unfold dP at *;split<;>rename_i hw
 ·rw [ai hw] at h;exact mA hk h
 ·rw [ah hw] at h;exact hk _ _ h
theorem ki {x y:Oper} {v:Value} (Wa:x.apart ops y=true) (hs:∀ cs b,y.op ≠ .select cs b) {a:Act} {w:World} {K:Act->World->Prop} :
  dP P ops y (a.put x.dst v) w K↔dP P ops y a w (fun a' w'=>K (a'.put x.dst v) w'):=by
 obtain ⟨h1,h2,h3⟩:=Oper.apart_spec Wa;unfold dP;rw [wanted_put y a x.dst v h1];split
 ·exact Ua Wa hs
 ·rw [Act.put_comm a v undef h2]
theorem L7 {o:Oper} {a:Act} {w:World} {K:Act->World->Prop} (h:dP P ops o a w K):∃ v w',K (a.put o.dst v) w':=by
 unfold dP at h;split at h
 ·exact W2 h
 ·exact ⟨_,_,h⟩
theorem ji {o:Oper} {a:Act} {w:World} {K:Act->World->Prop} (h:dP P ops o a w K):dP P ops o a w (fun a' w'=>K a' w' /\ ∃ u,a'=a.put o.dst u):=by
 unfold dP at *;split<;>rename_i hw
 ·rw [ai hw] at h;unfold wq at *;split at h
  ·rename_i hr;exact ⟨h,_,rfl⟩
  ·rename_i hr;exact ⟨h,_,rfl⟩
  ·rename_i hr;refine h.mono ?_;rintro e w' ⟨v,rfl,hv⟩;exact ⟨v,rfl,hv,v,rfl⟩
  ·exact h.elim
 ·rw [ah hw] at h;exact ⟨h,_,rfl⟩
theorem ig {o:Oper} {a:Act} {w:World} {v:Value} {K:Act->World->Prop} (hy:Yl P ops C o v a) (hc:j7 o.op=true->C w) (hk:K (a.put o.dst v) w):dP P ops o a w K:=by
 unfold dP;rcases hy with ⟨hw,hv⟩ | ⟨hw,rfl⟩
 ·rw [ai hw];unfold wq;rw [hv w hc];exact hk
 ·rw [ah (by simp [hw])];exact hk
theorem ij {o:Oper} {a:Act} {w:World} {v:Value} {K:Act->World->Prop} (hy:Yl P ops C o v a) (hc:j7 o.op=true->C w) (h:dP P ops o a w K):K (a.put o.dst v) w:=by
 unfold dP at h;rcases hy with ⟨hw,hv⟩ | ⟨hw,rfl⟩
 ·rw [ai hw] at h;unfold wq at h;rw [hv w hc] at h;exact h
 ·rw [ah (by simp [hw])] at h;exact h
def runT (P:Program) (ops:Array Oper) (W:Nat->Bool) (C:World->Prop) (Q:Act->World->Prop):List Nat->Act->World->Prop
 | [],a,w=>Q a w
 | i :: r,a,w=>
  match ops[i]? with
  | none=>False
  | some o=>
   if gq o.op=true then dP P ops o a w fun a' w'=>(W i=false->C w->C w')/\runT P ops W C Q r a' w'
   else ∃ v,Yl P ops C o v a/\(j7 o.op=true->C w)/\runT P ops W C Q r (a.put o.dst v) w
def fK (ops:Array Oper) (W:Nat->Bool) (j i:Nat):Bool:=
 match ops[j]?,ops[i]? with
 | some x,some y=>x.apart ops y && y.apart ops x && !(gq x.op && gq y.op) && !(j7 x.op && W i)
 | _,_=>false
def za (ops:Array Oper) (l:List Nat):Prop:=∃ i o,i∈l/\ops[i]? = some o/\j7 o.op=true
theorem eA {j i:Nat} {x y:Oper} (h:fK ops W j i=true) (hj:ops[j]? = some x) (hi:ops[i]? = some y) :
  x.apart ops y=true/\y.apart ops x=true/\¬ (gq x.op=true/\gq y.op=true)/\¬ (j7 x.op=true/\W i=true):=by
 unfold fK at h;rw [hj,hi] at h;simp only [aP,Bool.not_eq_true',Bool.and_eq_false_iff] at h;refine ⟨h.1.1.1,h.1.1.2,?_,?_⟩
 ·rintro ⟨h1,h2⟩;rcases h.1.2 with h3 | h3<;>simp_all
 ·rintro ⟨h1,h2⟩;rcases h.2 with h3 | h3<;>simp_all
theorem kE (dy:∀ (j:Nat) (o:Oper) cs b,ops[j]? = some o->o.op ≠ .select cs b) {i:Nat} {o:Oper} (hi:ops[i]? = some o) (hR:gq o.op=false) :
  ∀ (rem:List Nat) (a:Act) (w:World),runT P ops W C Q rem a w->i∈rem->(∀ j∈rem,j≠i->π j < π i->fK ops W j i=true)->rem.Pairwise (fun a b=>π a < π b)->∃ v,Yl P ops C o v a
 | [],_,_,_,hm,_,_=>by cases hm
 | h :: rem,a,w,hr,hm,tZ,hp=>by
  simp only [runT] at hr;by_cases qW:h=i
  ·subst qW;rw [hi] at hr;simp only [hR,Bool.false_eq_true,if_false] at hr;obtain ⟨v,hy,_⟩:=hr;exact ⟨v,hy⟩
  ·have lQ:i∈rem:=by
    rcases bI hm with e | e
    ·exact (qW e.symm).elim
    ·exact e
   have ap:π h < π i:=(List.pairwise_cons.1 hp).1 i lQ;split at hr
   ·exact hr.elim
   ·rename_i x hx;obtain ⟨Gk,Lu,_,_⟩:=eA (tZ h (by simp) qW ap) hx hi;have ih:=fun a w hr=>kE dy hi hR rem a w hr lQ (fun j hj=>tZ j (de _ hj)) (List.pairwise_cons.1 hp).2;split at hr
    ·obtain ⟨u,w',_,iw⟩:=L7 hr;obtain ⟨v,hy⟩:=ih _ _ iw;exact ⟨v,(Yl.same Gk (fun cs b=>dy i o cs b hi)).1 hy⟩
    ·obtain ⟨u,_,_,iw⟩:=hr;obtain ⟨v,hy⟩:=ih _ _ iw;exact ⟨v,(Yl.same Gk (fun cs b=>dy i o cs b hi)).1 hy⟩
theorem zJ {h:Nat} {rem:List Nat} (hl:za ops rem):za ops (h :: rem):=by
 obtain ⟨i,o,hm,ho,hL⟩:=hl;exact ⟨i,o,de _ hm,ho,hL⟩
theorem gH (dy:∀ (j:Nat) (o:Oper) cs b,ops[j]? = some o->o.op ≠ .select cs b) (sb:∀ j i x y,π j < π i->ops[i]? = some x->ops[j]? = some y->j7 x.op=true->W j=false) {i:Nat} {o:Oper} (hi:ops[i]? = some o) :
  ∀ (rem:List Nat) (a:Act) (w:World),(za ops rem->C w)->runT P ops W C Q rem a w->i∈rem->(∀ j∈rem,j≠i->π j < π i->fK ops W j i=true)->rem.Pairwise (fun a b=>π a < π b) ->
   dP P ops o a w (fun a' w'=>(W i=false->C w->C w')/\runT P ops W C Q (rem.erase i) a' w')
 | [],_,_,_,_,hm,_,_=>by cases hm
 | h :: rem,a,w,hC,hr,hm,tZ,hp=>by
  by_cases qW:h=i
  ·subst qW;rw [List.erase_cons_head];simp only [runT,hi] at hr;split at hr
   ·exact hr
   ·obtain ⟨v,hy,hc,iw⟩:=hr;exact ig hy hc ⟨fun _ h=>h,iw⟩
  ·have lQ:i∈rem:=by
    rcases bI hm with e | e
    ·exact (qW e.symm).elim
    ·exact e
   have ap:π h < π i:=(List.pairwise_cons.1 hp).1 i lQ;have qX:=(List.pairwise_cons.1 hp).2;rw [List.erase_cons_tail (sU qW)];have hr0:=hr;simp only [runT] at hr;split at hr
   ·exact hr.elim
   ·rename_i x hx;obtain ⟨Gk,Lu,hEE,W3⟩:=eA (tZ h (by simp) qW ap) hx hi;have yL:=fun cs b=>dy h x cs b hx;have zK:=fun cs b=>dy i o cs b hi;have L8:∀ j∈rem,j≠i->π j < π i->fK ops W j i=true:=fun j hj=>tZ j (de _ hj);split at hr
    ·-- the head has an effect: so o has none
     rename_i Wb
     have hRo:gq o.op=false:=by
      cases he:gq o.op
      ·rfl
      ·exact (hEE ⟨Wb,he⟩).elim
     obtain ⟨v,hy⟩:=kE (π:=π) dy hi hRo (h :: rem) a w hr0 hm tZ hp;have Ub:j7 o.op=true->C w:=fun hL=>hC ⟨i,o,hm,hi,hL⟩;refine ig hy Ub ⟨fun _ h=>h,?_⟩;simp only [runT,hx,Wb,if_true];refine (ki Lu yL).2 ?_;refine cI ?_ (ji hr);rintro a' w' ⟨⟨oM,iw⟩,u,rfl⟩;refine ⟨oM,?_⟩
     have Uc:za ops rem->C w':=by
      intro hl;have uP:=hl;obtain ⟨l,z,JV,hz,hL⟩:=hl;exact oM (sb h l z x ((List.pairwise_cons.1 hp).1 l JV) hz hx hL) (hC (zJ uP))
     have ih:=gH dy sb hi rem _ w' Uc iw lQ L8 qX;have fA:=(Yl.same (u:=u) Gk zK).2 hy;exact (ij fA (fun hL=>Uc ⟨i,o,lQ,hi,hL⟩) ih).2
    ·rename_i Wb;obtain ⟨v,hy,hc,iw⟩:=hr;have ih:=gH dy sb hi rem (a.put x.dst v) w (fun hl=>hC (zJ hl)) iw lQ L8 qX;refine cI ?_ (ji ((ki Gk zK).1 ih));rintro a' w' ⟨⟨oM,hr2⟩,u,rfl⟩;refine ⟨oM,?_⟩;simp only [runT,hx];rw [ah Wb];refine ⟨v,?_,fun hL=>?_,hr2⟩
     ·exact (Yl.same (u:=u) Lu yL).2 hy
     ·have W4:W i=false:=by
       cases hw:W i
       ·rfl
       ·exact (W3 ⟨hL,hw⟩).elim
      exact oM W4 (hc hL)
def ordB (ops:Array Oper):Nat->Nat->Nat->Bool
 | 0,_,_=>false
 | n + 1,j,i=>
  match ops[i]? with
  | some o=>o.after.toList.any fun e=>Region.binds .any e && (Nat.beq e.on j || ordB ops n j e.on)
  | none=>false
def qY (ops:Array Oper) (W:Nat->Bool) (π:Nat->Nat):Bool:=
 Region.noSelect ops &&
 (List.range ops.size).all fun i=>
  match ops[i]? with
   | some o=>o.after.toList.all (fun e=>!Region.binds .any e || (Nat.blt (π e.on) (π i) && Nat.blt e.on ops.size)) && (!j7 o.op || (List.range ops.size).all fun j=>!Nat.blt (π j) (π i) || !W j)
   | none=>false
def uQ (ops:Array Oper) (W:Nat->Bool) (π:Nat->Nat) (ex:Nat->Nat->Bool):Bool:=
 (List.range ops.size).all fun i=>(List.range ops.size).all fun j=>!Nat.blt (π j) (π i) || ex j i || ordB ops ops.size j i || fK ops W j i
def W5:Nat->Nat->Bool:=fun _ _=>false
def Dy (ops:Array Oper) (W:Nat->Bool):Bool:=qY ops W (fun i=>i) && uQ ops W (fun i=>i) W5
def Dn (ops:Array Oper) (listed:Array Bool):Prop:=
 ∀ i o,ops[i]? = some o->listed.getD i true=true->∀ e∈o.after,Region.binds .any e=true->listed.getD e.on false=true
theorem lj {listed:Array Bool} (hd:Dn ops listed):∀ (n:Nat) (j i:Nat) (o:Oper),ops[i]? = some o->(∀ e∈o.after,Region.binds .any e=true->listed.getD e.on false=true)->ordB ops n j i=true->listed.getD j false=true
 | 0,j,i,o,_,_,h=>by simp [ordB] at h
 | n + 1,j,i,o,ho,fG,h=>by
  simp only [ordB,ho,List.any_eq_true,aP,Bool.or_eq_true] at h;obtain ⟨e,he,hb,hj⟩:=h;have pT:e∈o.after:=sU he;have h1:=fG e pT hb;rcases hj with hj | hj
  ·have:e.on=j:=sU hj;rw [<- this];exact h1
  ·cases P5:ops[e.on]? with
   | none=>
    cases n with
    | zero=>simp [ordB] at hj
    | succ n=>simp [ordB,P5] at hj
   | some o'=>
    have hg:listed.getD e.on true=true:=by
     rcases Nat.lt_or_ge e.on listed.size with h' | h'
     ·simp [h'] at h1 ⊢;exact h1
     ·simp [Array.getElem?_eq_none h'] at h1
    exact lj hd n j e.on o' P5 (hd e.on o' P5 hg) hj
theorem qZ (hc:qY ops W π=true):∀ j i x y,π j < π i->ops[i]? = some x->ops[j]? = some y->j7 x.op=true->W j=false:=by
 simp only [qY,aP,List.all_eq_true,List.mem_range] at hc;intro j i x y Ge hx hy hL;have hj:=(Array.getElem?_eq_some_iff.1 hy).1;have:=hc.2 i (Array.getElem?_eq_some_iff.1 hx).1;simp only [hx,aP,Bool.or_eq_true,hL,Bool.not_true,Bool.false_eq_true,false_or,List.all_eq_true,List.mem_range,Bool.not_eq_true'] at this;rcases this.2 j hj with h1 | h1
 ·have:¬ Nat.blt (π j) (π i)=true:=by simp [h1]
  simp at this;omega
 ·exact h1
theorem sG (hc:qY ops W π=true):∀ i x,ops[i]? = some x->∀ e∈x.after,Region.binds .any e=true->π e.on < π i/\e.on < ops.size:=by
 simp only [qY,aP,List.all_eq_true,List.mem_range] at hc;intro i x hx e he hb;have:=hc.2 i (Array.getElem?_eq_some_iff.1 hx).1;simp only [hx,aP,List.all_eq_true,Bool.or_eq_true] at this;have h2:=this.1 e (sU he);rw [hb] at h2;simpa using h2
theorem q4 (hc:qY ops W π=true):∀ (j:Nat) (o:Oper) cs b,ops[j]? = some o->o.op ≠ .select cs b:=by
 simp only [qY,aP] at hc;exact Region.noSelect_spec hc.1
theorem we:∀ {l:List Nat},l.Pairwise (fun a b=>π a < π b)->∀ {x y:Nat},x∈l->y∈l->x≠y->π x < π y∨π y < π x
 | [],_,x,y,hx,_,_=>by cases hx
 | h :: r,hp,x,y,hx,hy,bp=>by
  have qX:=List.pairwise_cons.1 hp;rcases bI hx with e1 | e1
  ·rcases bI hy with e2 | e2
   ·exact (bp (e1.trans e2.symm)).elim
   ·subst e1;exact .inl (qX.1 _ e2)
  ·rcases bI hy with e2 | e2
   ·subst e2;exact .inr (qX.1 _ e1)
   ·exact we qX.2 e1 e2 bp
theorem mF {Q':Exit->Act->World->Prop} (ex:Nat->Nat->Bool) (R4:qY ops W π=true) (Ud:uQ ops W π ex=true) (hQ:∀ a w,Q a w->Q' .normal a w):∀ (iQ:Nat) (listed:Array Bool) (rem:List Nat) (a:Act) (w:World),
  listed.size=ops.size->Dn ops listed->(∀ i,i∈rem↔i < ops.size/\listed.getD i true=false)->rem.Pairwise (fun a b=>π a < π b)->rem.length<=iQ->(∀ j∈rem,∀ i∈rem,ex j i=false)->(za ops rem->C w)->runT P ops W C Q rem a w ->
   wpAny P .any ops Q' iQ listed a w:=by
 have dy:=q4 R4;have sb:=qZ R4;have Dz:=sG R4;simp only [uQ,List.all_eq_true,List.mem_range,Bool.or_eq_true,Bool.not_eq_true'] at Ud;intro iQ
 induction iQ with
 | zero=>
  intro listed rem a w bQ Px iy hp hlen hex hC hr;have:rem=[]:=List.length_eq_zero_iff.1 (by omega);subst this;refine ⟨?_,hQ _ _ hr⟩;rw [List.eq_nil_iff_forall_not_mem];intro i hi;have:=(mem_ready.1 hi);obtain ⟨h1,o,ho,_⟩:=this;have:=(iy i).2 ⟨(Array.getElem?_eq_some_iff.1 ho).1,h1⟩;cases this
 | succ iQ ih=>
  intro listed rem a w bQ Px iy hp hlen hex hC hr
  have Ue:∀ i,i∈Region.ready .any ops listed->i∈rem:=by
   intro i hi;obtain ⟨h1,o,ho,_⟩:=mem_ready.1 hi;exact (iy i).2 ⟨(Array.getElem?_eq_some_iff.1 ho).1,h1⟩
  refine ⟨fun h0=>?_,fun i hi=>?_⟩
  ·cases rem with
   | nil=>exact hQ _ _ hr
   | cons h rem=>
    have hh:=(iy h).1 (by simp);have hx:ops[h]? = some ops[h]:=Array.getElem?_eq_getElem hh.1
    have:h∈Region.ready .any ops listed:=by
     refine mem_ready.2 ⟨hh.2,_,hx,fun e he hb=>?_⟩;obtain ⟨ap,la⟩:=Dz h _ hx e he hb;cases hg:listed.getD e.on false
     ·have Py:listed.getD e.on true=false:=by
       have:e.on < listed.size:=by rw [bQ];omega
       simp [this] at hg ⊢;exact hg
      have hm:=(iy e.on).2 ⟨by omega,Py⟩;rcases bI hm with e1 | e1
      ·rw [e1] at ap;omega
      ·have:=(List.pairwise_cons.1 hp).1 _ e1;omega
     ·rfl
    rw [h0] at this;cases this
  ·have ml:=Ue i hi;obtain ⟨Gl,o,ho,fG⟩:=mem_ready.1 hi;have eQ:=(Array.getElem?_eq_some_iff.1 ho).1
   have tZ:∀ j∈rem,j≠i->π j < π i->fK ops W j i=true:=by
    intro j hj _ ap;rcases Ud i eQ j ((iy j).1 hj).1 with ((h1 | h1) | h1) | h1
    ·have:¬ Nat.blt (π j) (π i)=true:=by simp [h1]
     simp at this;omega
    ·rw [hex j hj i ml] at h1;cases h1
    ·have h2:=lj Px _ _ _ _ ho fG h1;have h3:=((iy j).1 hj).2;have:j < listed.size:=by rw [bQ];exact ((iy j).1 hj).1
     simp [this] at h2 h3;rw [h2] at h3;cases h3
    ·exact h1
   have aW:=gH dy sb ho rem a w hC hr ml tZ hp;have hnd:rem.Nodup:=nN hp
   have key:∀ a' w',((W i=false->C w->C w')/\runT P ops W C Q (rem.erase i) a' w')->wpAny P .any ops Q' iQ (listed.setIfInBounds i true) a' w':=by
    rintro a' w' ⟨oM,iw⟩;refine ih (listed.setIfInBounds i true) (rem.erase i) a' w' (by simp [bQ]) ?_ ?_ (hp.sublist List.erase_sublist) (by rw [List.length_erase_of_mem ml];omega) (fun j hj i hi=>hex j (List.mem_of_mem_erase hj) i (List.mem_of_mem_erase hi)) ?_ iw
    ·intro k x hx hk e he hb;by_cases kA:k=i
     ·subst kA;rw [ho] at hx;simp only [oI] at hx;subst hx;exact getD_set_true (fG e he hb)
     ·rw [getD_set_ne true (Ne.symm kA)] at hk;exact getD_set_true (Px k x hx hk e he hb)
    ·intro k;rw [List.Nodup.mem_erase_iff hnd];by_cases kA:k=i
     ·subst kA;simp [bQ,eQ]
     ·rw [getD_set_ne true (Ne.symm kA)];simp only [ne_eq,kA,not_false_eq_true,true_and];exact iy k
    ·rintro ⟨l,z,hl,hz,hL⟩;have uP:=List.mem_of_mem_erase hl;have bp:l≠i:=fun e=>by subst e;exact (List.Nodup.mem_erase_iff hnd).1 hl |>.1 rfl
     have Uf:=hC ⟨l,z,uP,hz,hL⟩;refine oM ?_ Uf;rcases Nat.lt_or_ge (π i) (π l) with h1 | h1
     ·exact sb i l z o h1 hz ho hL
     ·have h0:π l≠π i:=by
       intro he;rcases we hp uP ml bp with h2 | h2<;>omega
      have:=tZ l uP bp (by omega);obtain ⟨_,_,_,h4⟩:=eA this hz ho;cases hw:W i
      ·rfl
      ·exact (h4 ⟨hL,hw⟩).elim
   unfold wpOp;rw [ho];simp only;unfold dP at aW;split
   ·rename_i hw;rw [ai hw] at aW;exact .inl (Dk (mA key aW))
   ·rename_i hw;rw [ah hw] at aW;exact key _ _ aW
theorem lB {id:Nat} {Q':Exit->Act->World->Prop} {a:Act} {w:World} (hm:P.follows .mixedOrders=true) (hc:Dy ops W=true) (hQ:∀ a w,Q a w->Q' .normal a w)
  (hC:C w.drew) (h:runT P ops W C Q (List.range ops.size) a w.drew):(Code.region id ops true).wp P Q' a w:=by
 refine wp_region_any hm ?_;simp only [Dy,aP] at hc;refine mF (π:=fun i=>i) W5 hc.1 hc.2 hQ ops.size (Array.replicate ops.size false) (List.range ops.size) a _ (by simp) ?_ ?_ List.pairwise_lt_range (by simp) (fun _ _ _ _=>rfl) (fun _=>hC) h
 ·intro i o ho hl;have:i < ops.size:=(Array.getElem?_eq_some_iff.1 ho).1;simp [this] at hl
 ·intro i;simp only [List.mem_range];constructor
  ·intro hi;exact ⟨hi,by simp [hi]⟩
  ·intro hi;exact hi.1
end
end Dv
end Go.Proofs.YtadhpeooehkklaaGreat
namespace Go.Proofs.YtadhpeooehkklaaGreat
namespace Dv
open Go Go.RowKit
structure Dr where
 ops:Array Oper
 W:Nat->Bool
 k:List It
 iC:St
 fin:Option (Bool->List (Nat × Sl)->St->Prop)
structure Dw where
 d:Dr
 E0:En
 wr:World
structure CC (E0:En) (bx:List (List DV)) (wr w:World):Prop where
 o:∀ (i:Nat) b cs,E0.β[i]? = some b->bx[i]? = some cs->cs ≠ []->w.heap[b]? = wr.heap[b]?
 c:∀ x v,E0.c x=some v->w.cell? x=some v
abbrev Dw.C (D:Dw) (w:World):Prop:=CC D.E0 D.d.iC.bx D.wr w
structure sH (E:En) (bx:List (List DV)) (w:World):Prop where
 len:E.β.length=bx.length
 fk:∀ (i:Nat) cs,bx[i]? = some cs->cs ≠ []->∃ b ty arr,E.β[i]? = some b/\w.heap[b]? = some (.cells (List.toArray arr) ty (0,0))/\RvC E cs arr
theorem Env.em {E:En} {bx:List (List DV)} {w:World} (h:Env E bx w):sH E bx w:=⟨h.len,fun i cs hi _=>h.fk i cs hi⟩
def W6:Option (List DV)->Bool
 | some []=>true
 | _=>false
theorem P6 {o:Option (List DV)} (h:W6 o=true):o=some []:=by
 cases o with
 | none=>cases h
 | some l=>
  cases l with
  | nil=>rfl
  | cons _ _=>cases h
def Dw.wc (D:Dw) (E:En):En:=⟨D.E0.c,E.β,E.tk,E.τ⟩
structure fL (X:Ctx) (D:Dw) (c:Bool) (E:En) (s0:List (Nat × Sl)) (st:St) (a:Act) (w:World):Prop where
 rel:Rel X E st a w
 x:Ext D.E0 E
 β:∃ r,E.β=D.E0.β ++ r
 t0:∀ i x,get s0 i=some x->(Holds a.tmps x.gs->∃ v,a.tmps[i]? = some v/\Rv (D.wc E) x.s v)/\(¬ Holds a.tmps x.gs->a.tmps[i]? = some undef)
 cc:c=true->D.C w
def Dw.Q (D:Dw) (X:Ctx) (a:Act) (w:World):Prop:=
 match D.d.fin with
 | none=>kq X D.d.k .normal a w
 | some F=>∃ c E s0 st,fL X D c E s0 st a w/\F c s0 st
def delF {γ:Type _} (d:Nat):List (Nat × Sl)->(List (Nat × Sl)->γ)->γ
 | [],K=>K []
 | p :: r,K=>
  match Nat.beq p.1 d with
  | true=>delF d r K
  | false=>delF d r (fun r'=>K (p :: r'))
theorem q5 {γ:Type _} (d:Nat):∀ (l:List (Nat × Sl)) (K:List (Nat × Sl)->γ),delF d l K=K (l.filter fun p=>!Nat.beq p.1 d)
 | [],K=>rfl
 | p :: r,K=>by
  simp only [delF,List.filter_cons];cases h:Nat.beq p.1 d
  ·simp only [Bool.not_false,if_true];rw [q5 d r]
  ·simp only [Bool.not_true,Bool.false_eq_true,if_false];rw [q5 d r K]
theorem get_filter (d:Nat):∀ (l:List (Nat × Sl)) (i:Nat) (x:Sl),get (l.filter fun p=>!Nat.beq p.1 d) i=some x->i≠d/\get l i=some x
 | [],i,x,h=>by cases h
 | (k,y) :: r,i,x,h=>by
  simp only [List.filter_cons] at h;split at h
  ·rename_i hk
   have hk:k≠d:=by
    rintro rfl;simp at hk
   simp only [dV] at h ⊢;split at h
   ·rename_i kA;subst kA;exact ⟨hk,by rw [ai rfl];exact h⟩
   ·rename_i kA;rw [ah kA];exact get_filter d r i x h
  ·rename_i hk;have hk:k=d:=sU hk;obtain ⟨h1,h2⟩:=get_filter d r i x h;refine ⟨h1,?_⟩;simp only [dV];rw [ah (by omega)];exact h2
def scal:DV->Bool
 | .v _=>true
 | .ud=>true
 | .loc _ _=>true
 | .el _ _=>true
 | _=>false
def put2 (s0:List (Nat × Sl)) (st:St) (dst:Option Nat) (b:Bool) (gs:List (Nat × Bool)) (s:DV) (K:List (Nat × Sl)->St->Prop):Prop:=
 match dst with
 | none=>K s0 st
 | some d=>
  match st with
  | ⟨sl,bx,tk⟩=>
   match b || scal s with
   | true=>K ((d,⟨gs,s⟩) :: s0) ⟨(d,⟨gs,s⟩) :: sl,bx,tk⟩
   | false=>delF d s0 fun jR=>K jR ⟨(d,⟨gs,s⟩) :: sl,bx,tk⟩
def optP:Option Prop->Prop
 | some p=>p
 | none=>False
def pR (X:Ctx) (D:Dr) (c:Bool) (s0:List (Nat × Sl)) (st:St) (G:List (Nat × Bool)) (op:Op):Option (Bool × DV):=
 match !gq op && (!j7 op || c) with
 | false=>none
 | true=>
  match pureT X.P X.T ⟨s0,D.iC.bx,[]⟩ G op with
  | some s=>some (true,s)
  | none=>
   match j7 op with
   | true=>none
   | false=>
    match pureT X.P X.T ⟨st.sl,[],[]⟩ G op with
    | some s=>some (false,s)
    | none=>none
def eR (X:Ctx) (D:Dr) (c:Bool) (s0:List (Nat × Sl)) (st:St) (op:Op) (K:Bool->DV->Prop):Option Prop:=
 match gq op with
 | true=>none
 | false=>
  match j7 op with
  | true=>
   match c with
   | true=>effR X ⟨s0,D.iC.bx,[]⟩ op (K true)
   | false=>none
  | false=>
   match effR X ⟨s0,[],[]⟩ op (K true) with
   | some p=>some p
   | none=>effR X ⟨st.sl,[],[]⟩ op (K false)
def zL (X:Ctx) (D:Dr) (c:Bool) (i:Nat) (l:List (Nat × Oper)) (f:FuncId) (args:List DV) (dst:Option Nat) (s0:List (Nat × Sl)) (st:St):Prop:=
 Go.Proofs.Enters X.P f/\((∀ p∈l,D.ops[p.1]? = some p.2)->∀ (E0:En) (wr:World),sH E0 D.iC.bx wr->∀ E a w vs,fL X ⟨D,E0,wr⟩ c E s0 st a w->RvL E args vs->Calls X.P f vs.toArray w fun e w'=>∃ v,e = .returned v /\
  (D.W i=false->CC E0 D.iC.bx wr w->CC E0 D.iC.bx wr w')/\runT X.P D.ops D.W (CC E0 D.iC.bx wr) (Dw.Q ⟨D,E0,wr⟩ X) (l.map (·.1)) (a.put dst v) w')
def OpD (X:Ctx) (D:Dr) (c:Bool) (i:Nat) (l:List (Nat × Oper)) (o:Oper) (s0:List (Nat × Sl)) (st:St):Prop:=
 (∀ p∈l,D.ops[p.1]? = some p.2)->∀ (E0:En) (wr:World),sH E0 D.iC.bx wr->∀ E a w,fL X ⟨D,E0,wr⟩ c E s0 st a w->wq X.P o a w fun a' w'=>
  (D.W i=false->CC E0 D.iC.bx wr w->CC E0 D.iC.bx wr w')/\runT X.P D.ops D.W (CC E0 D.iC.bx wr) (Dw.Q ⟨D,E0,wr⟩ X) (l.map (·.1)) a' w'
def effE (X:Ctx) (D:Dr) (c:Bool) (i:Nat) (l:List (Nat × Oper)) (o:Oper) (s0:List (Nat × Sl)) (st:St) (K:Bool->List (Nat × Sl)->St->Prop):Prop:=
 match o.op with
 | .store t x y=>
  match o.dst with
  | some _=>False
  | none=>
   match D.W i with
   | true=>optP (effC X st o (K false s0))
   | false=>
    match stObj st o.op with
    | some j=>
     match Nat.ble D.iC.bx.length j || W6 D.iC.bx[j]? with
     | true=>optP (effC X st o (K c s0))
     | false=>False
    | none=>False
 | .call cl=>
  match cl.callee with
  | .value f=>
   match rv st [] f,argsV st [] cl.args.toList with
   | some (.fn g first captured),some vs=>zL X D c i l g (first ++ vs ++ captured) o.dst s0 st
   | _,_=>False
  | _=>
   match o.dst with
   | some d=>optP (effC X st o fun st'=>delF d s0 fun jR=>K c jR st')
   | none=>False
 | _=>
  match o.dst with
  | some d=>
   match effC X st o fun st'=>
    match get st'.sl d with
    | some ⟨[],.loc j off⟩=>K c ((d,⟨[],.loc j off⟩) :: s0) st'
    | _=>delF d s0 fun jR=>K c jR st' with
   | some p=>p
   | none=>OpD X D c i l o s0 st
  | none=>False
def goD (X:Ctx) (D:Dr):Nat->Bool->List (Nat × Oper)->List (Nat × Sl)->St->Prop
 | _,c,[],s0,st=>
  match D.fin with
  | none=>go X 4000 D.k st
  | some F=>F c s0 st
 | 0,_,_ :: _,_,_=>False
 | n + 1,c,(i,o) :: r,s0,st=>
  match gp X.nt st.sl o.dst && gp X.nt s0 o.dst with
  | false=>False
  | true=>
   match o.guard with
   | none=>
    match gq o.op with
    | true=>effE X D c i r o s0 st fun c' jR st'=>goD X D n c' r jR st'
    | false=>
     match pR X D c s0 st [] o.op with
     | some (b,s)=>put2 s0 st o.dst b [] s (goD X D n c r)
     | none=>optP (eR X D c s0 st o.op fun b s=>put2 s0 st o.dst b [] s (goD X D n c r))
   | some (j,want)=>
    match gslot D.ops.toList j with
    | none=>False
    | some d=>
     match get st.sl d with
     | none=>False
     | some ⟨iz,_⟩=>
      match pR X D c s0 st ((d,want) :: iz) o.op with
      | some (b,s)=>
       match WI ((d,want) :: iz) o.dst with
       | true=>put2 s0 st o.dst b ((d,want) :: iz) s (goD X D n c r)
       | false=>False
      | none=>
       match get st.sl (lastG (d,want) iz).1 with
       | some ⟨[],.v (.bool b)⟩=>
        match iz with
        | []=>Br (b == want)
          (vO st d want fun DA=>resL d want s0 fun s2=>
           match gq o.op with
           | true=>effE X D c i r o s2 DA fun c' jR st'=>goD X D n c' r jR st'
           | false=>optP (eR X D c s2 DA o.op fun b s=>put2 s2 DA o.dst b [] s (goD X D n c r)))
          (match !j7 o.op || c with
           | true=>vO st d (!want) fun DA=>resL d (!want) s0 fun s2=>put2 s2 DA o.dst true [] .ud (goD X D n c r)
           | false=>False)
        | _ :: _=>Br (b == (lastG (d,want) iz).2)
          (vO st (lastG (d,want) iz).1 (lastG (d,want) iz).2 fun DA=>resL (lastG (d,want) iz).1 (lastG (d,want) iz).2 s0 fun s2=>goD X D n c ((i,o) :: r) s2 DA)
          (vO st (lastG (d,want) iz).1 (!(lastG (d,want) iz).2) fun DA=>resL (lastG (d,want) iz).1 (!(lastG (d,want) iz).2) s0 fun s2=>goD X D n c ((i,o) :: r) s2 DA)
       | some ⟨[],.ud⟩=>
        match iz with
        | []=>
         match !j7 o.op || c with
         | true=>put2 s0 st o.dst true [] .ud (goD X D n c r)
         | false=>False
        | _ :: _=>False
       | _=>False
section
variable {X:Ctx} {D:Dw} {c:Bool} {i:Nat} {s0:List (Nat × Sl)} {st:St} {E:En} {a:Act} {w:World}
theorem Ug (h:Ext D.E0 E):Ext D.E0 (D.wc E):=⟨fun _ _ h=>h,h.β,h.tk⟩
theorem Gm (h:Ext D.E0 E):Ext (D.wc E) E:=⟨h.c,fun _ _ h=>h,fun k q hq=>⟨q,hq,.inl ⟨rfl,rfl⟩⟩⟩
theorem Ip {E':En} (h:Ext E E'):Ext (D.wc E) (D.wc E'):=⟨fun _ _ h=>h,h.β,h.tk⟩
theorem fL.rl0 (h:fL X D c E s0 st a w) (hD:sH D.E0 D.d.iC.bx D.wr):Rl (D.wc E) D.d.iC.bx D.C s0 a where
 tm:=h.t0
 fk:=fun i cs hi=>by
  by_cases bp:cs=[]
  ·subst bp;have ap:i < D.E0.β.length:=by rw [hD.len];exact (gS hi).1
   exact ⟨_,[],h.x.β i _ (gE ap),⟨c9 _,by simp⟩,fun w' _ j u hj=>by simp at hj⟩
  ·obtain ⟨b,ty,arr,hb,hw,hc⟩:=hD.fk i cs hi bp;exact ⟨b,arr,h.x.β i b hb,hc.mono (Ug h.x),fun w' hC j u hj=>by rw [cS ((hC.o i b cs hb hi bp).trans hw)];simpa using hj⟩
 cc:=fun x v hx w' hC=>hC.c x v hx
theorem fL.rlE (h:fL X D c E s0 st a w):Rl E [] (fun w'=>∀ x v,E.c x=some v->w'.cell? x=some v) st.sl a where
 tm:=h.rel.tm
 fk:=fun i cs hi=>by simp at hi
 cc:=fun x v hx w' hC=>hC x v hx
theorem Iq {s:DV} {v:Value} (hs:scal s=true) (hv:Rv E s v):Rv (D.wc E) s v:=by
 cases s<;>simp [scal] at hs
 ·unfold Rv at hv ⊢;exact hv
 ·unfold Rv at hv ⊢;exact hv
 ·unfold Rv at hv ⊢;exact hv
 ·unfold Rv at hv ⊢;exact hv
theorem kF (h:fL X D c E s0 st a w) {dst:Option Nat} (hd:(gp X.nt st.sl dst && gp X.nt s0 dst)=true) (b:Bool) (gs:List (Nat × Bool)) (s:DV) (v:Value) (C0:∀ d,dst=some d->∀ p∈gs,p.1≠d)
  (nI:Holds a.tmps gs->Rv E s v) (r8:b=true->Holds a.tmps gs->Rv (D.wc E) s v) (vR:¬ Holds a.tmps gs->v=undef) {K:List (Nat × Sl)->St->Prop} (hk:put2 s0 st dst b gs s K) :
  ∃ jR st',K jR st' /\ fL X D c E jR st' (a.put dst v) w:=by
 simp only [aP] at hd;have h1:=qO h.rel hd.1 gs s v C0 nI vR
 cases dst with
 | none=>exact ⟨s0,st,hk,h1,h.x,h.β,h.t0,h.cc⟩
 | some d=>
  obtain ⟨sl,bx,tk⟩:=st;have JW:=hd.2;simp only [gp,aP,Nat.blt_eq] at JW
  have hold:∀ i x,i≠d->get s0 i=some x->(Holds (a.put (some d) v).tmps x.gs->∃ u,(a.put (some d) v).tmps[i]? = some u/\Rv (D.wc E) x.s u)/\(¬ Holds (a.put (some d) v).tmps x.gs->(a.put (some d) v).tmps[i]? = some undef):=by
   intro i x hi hx;simp only [Act.put];rw [Array.getElem?_setIfInBounds_ne (Ne.symm hi),lR (mw JW.2 i x hx)];exact h.t0 i x hx
  simp only [put2] at hk;split at hk
  ·rename_i hb;refine ⟨_,_,hk,h1,h.x,h.β,fun i x hx=>?_,h.cc⟩;simp only [dV] at hx;split at hx
   ·rename_i LR;subst LR;simp only [oI] at hx;subst hx;have h2:(a.tmps.setIfInBounds d v)[d]? = some v:=by simp [Array.getElem?_setIfInBounds,h.rel.sz,JW.1]
    simp only [Act.put];rw [lR (C0 d rfl),h2];refine ⟨fun hh=>⟨v,rfl,?_⟩,fun hh=>by rw [vR hh]⟩;rcases Bool.or_eq_true _ _ |>.mp hb with hb | hb
    ·exact r8 hb hh
    ·exact Iq hb (nI hh)
   ·rename_i LR;exact hold i x (Ne.symm LR) hx
  ·rw [q5] at hk;refine ⟨_,_,hk,h1,h.x,h.β,fun i x hx=>?_,h.cc⟩;obtain ⟨h3,h4⟩:=get_filter d s0 i x hx;exact hold i x h3 h4
theorem mH (h:fL X D c E s0 st a w) {d:Nat} {b:Bool} (hd:a.tmps[d]? = some (.bool b)):fL X D c E (s0.map (bR d b)) (st.resolve d b) a w where
 rel:=lf h.rel hd
 x:=h.x
 β:=h.β
 t0:=by
  intro i y hy;simp only [get_map,Option.map_eq_some_iff] at hy;obtain ⟨x,hx,rfl⟩:=hy;have ht:=h.t0 i x hx;unfold bR;split
  ·rename_i hi;have eQ:i=d:=sU hi;subst eQ;exact ⟨fun _=>⟨_,hd,gG rfl⟩,fun hn=>(hn (bF _)).elim⟩
  ·split
   ·rename_i hc
    have hn:¬ Holds a.tmps x.gs:=by
     intro hh;have:=hh (d,!b) (sU hc);simp only at this;rw [hd] at this;cases b<;>simp at this
    exact ⟨fun _=>⟨_,ht.2 hn,tS _⟩,fun hn=>(hn (bF _)).elim⟩
   ·have he:Holds a.tmps (x.gs.filter fun p=>p != (d,b))↔Holds a.tmps x.gs:=by
     constructor
     ·intro hh p hp;by_cases Ig:p=(d,b)
      ·subst Ig;exact hd
      ·exact hh p (by simp [List.mem_filter,hp,Ig])
     ·intro hh p hp;exact hh p (List.mem_filter.1 hp).1
    simp only [he];exact ht
 cc:=h.cc
theorem mI {nt d:Nat} {b:Bool} {dst:Option Nat} (h:(gp nt st.sl dst && gp nt s0 dst)=true):(gp nt (st.resolve d b).sl dst && gp nt (s0.map (bR d b)) dst)=true:=by
 simp only [aP] at h ⊢;exact ⟨lg h.1,lg (st:=⟨s0,[],[]⟩) h.2⟩
theorem DB (hD:sH D.E0 D.d.iC.bx D.wr) (h:fL X D c E s0 st a w) {G:List (Nat × Bool)} (hG:Holds a.tmps G) {o:Oper} {b:Bool} {s:DV} (hp:pR X D.d c s0 st G o.op=some (b,s)) :
  gq o.op=false/\(j7 o.op=true->c=true)/\∃ v,Rv E s v/\(b=true->Rv (D.wc E) s v)/\∀ w,(j7 o.op=true->D.C w)->(execOp a.eval o).run X.P w = .ok (.value v) w:=by
 unfold pR at hp;split at hp
 ·cases hp
 ·rename_i hc;simp only [aP,Bool.not_eq_true',Bool.or_eq_true] at hc;refine ⟨hc.1,fun hL=>?_,?_⟩
  ·rcases hc.2 with h1 | h1
   ·rw [hL] at h1;cases h1
   ·exact h1
  ·split at hp
   ·rename_i s' hs;simp only [oI,Prod.mk.injEq] at hp;obtain ⟨rfl,rfl⟩:=hp;obtain ⟨v,hv,hr⟩:=jf (st:=⟨s0,D.d.iC.bx,[]⟩) X.hT (h.rl0 hD) hG hs;exact ⟨v,Rv.mono (Gm h.x) hv,fun _=>hv,hr⟩
   ·split at hp
    ·cases hp
    ·rename_i hL;split at hp
     ·rename_i s' hs;simp only [oI,Prod.mk.injEq] at hp;obtain ⟨rfl,rfl⟩:=hp;obtain ⟨v,hv,hr⟩:=jf (st:=⟨st.sl,[],[]⟩) X.hT h.rlE hG hs;exact ⟨v,hv,(by intro h;cases h),fun w' _=>hr w' (by intro h1;rw [hL] at h1;cases h1)⟩
     ·cases hp
theorem L9 (hD:sH D.E0 D.d.iC.bx D.wr) (h:fL X D c E s0 st a w) {o:Oper} {K:Bool->DV->Prop} (hp:optP (eR X D.d c s0 st o.op K)) :
  gq o.op=false/\(j7 o.op=true->c=true)/\∃ b s v,K b s/\Rv E s v/\(b=true->Rv (D.wc E) s v)/\∀ w,(j7 o.op=true->D.C w)->(execOp a.eval o).run X.P w = .ok (.value v) w:=by
 unfold eR at hp;split at hp
 ·exact hp.elim
 ·rename_i hE;refine ⟨hE,?_⟩;split at hp
  ·rename_i hL;split at hp
   ·refine ⟨fun _=>rfl,?_⟩
    cases hs:effR X ⟨s0,D.d.iC.bx,[]⟩ o.op (K true) with
    | none=>rw [hs] at hp;exact hp.elim
    | some p=>
     rw [hs] at hp;obtain ⟨s,hk,v,hv,hr⟩:=my (st:=⟨s0,D.d.iC.bx,[]⟩) (h.rl0 hD) hs hp;exact ⟨true,s,v,hk,Rv.mono (Gm h.x) hv,fun _=>hv,hr⟩
   ·exact hp.elim
  ·rename_i hL;have fq:∀ w':World,j7 o.op=true->False:=fun w' h1=>by rw [hL] at h1;cases h1
   refine ⟨fun h1=>(by rw [hL] at h1;cases h1),?_⟩;split at hp
   ·rename_i p hs;obtain ⟨s,hk,v,hv,hr⟩:=my (st:=⟨s0,[],[]⟩) (C:=D.C) ⟨h.t0,fun i cs hi=>by simp at hi,(h.rl0 hD).cc⟩ hs hp;exact ⟨true,s,v,hk,Rv.mono (Gm h.x) hv,fun _=>hv,fun w' _=>hr w' fun h1=>(fq w' h1).elim⟩
   ·cases hs:effR X ⟨st.sl,[],[]⟩ o.op (K false) with
    | none=>rw [hs] at hp;exact hp.elim
    | some p=>
     rw [hs] at hp;obtain ⟨s,hk,v,hv,hr⟩:=my (st:=⟨st.sl,[],[]⟩) h.rlE hs hp;exact ⟨false,s,v,hk,hv,(by intro h;cases h),fun w' _=>hr w' fun h1=>(fq w' h1).elim⟩
theorem P7 {P:Program} {o:Oper} {K:Act->World->Prop} (h:wq P o a w K):wq P o a w fun a' w'=>K a' w' /\ ∃ u,a'=a.put o.dst u:=by
 unfold wq at *;split at h
 ·exact ⟨h,_,rfl⟩
 ·exact ⟨h,_,rfl⟩
 ·refine h.mono ?_;rintro e w' ⟨v,rfl,hv⟩;exact ⟨v,rfl,hv,v,rfl⟩
 ·exact h.elim
theorem DC (h:fL X D c E s0 st a w) {t:Option Nat} {E':En} {st':St} {a':Act} {w':World} (hs:dj t E w E' w') (hr:Rel X E' st' a' w') (ht:∀ j,t=some j->D.E0.β.length<=j∨D.d.iC.bx[j]? = some []):D.C w->D.C w':=fun hC=>
 ⟨fun i b cs hb dr bp=>by
  have gw:=h.x.β i b hb
  rw [hs.o i _ gw fun e=>by
   rcases ht i e with h1 | h1
   ·have:=(gS hb).1;omega
   ·rw [dr] at h1;simp only [oI] at h1;exact bp h1]
  exact hC.o i b cs hb dr bp,fun x v hx=>hr.env.sub x v (hs.x.c x v (h.x.c x v hx))⟩
theorem wg (h:fL X D c E s0 st a w) {t:Option Nat} {E':En} {st':St} {w':World} {c':Bool} {jR:List (Nat × Sl)} {dst:Option Nat} {u:Value} (hs:dj t E w E' w') (hr:Rel X E' st' (a.put dst u) w') (tX:c'=true->D.C w')
  (ht0:∀ i x,get jR i=some x->(∃ d,dst=some d/\i=d/\scal x.s=true/\get st'.sl d=some x)∨(get s0 i=some x/\∀ d,dst=some d->i≠d)) (hd:gp X.nt s0 dst=true):fL X D c' E' jR st' (a.put dst u) w' where
 rel:=hr
 x:=by
  refine ⟨fun y v hy=>hs.x.c y v (h.x.c y v hy),fun j b hb=>hs.x.β j b (h.x.β j b hb),fun k q hq=>?_⟩;obtain ⟨q1,h1,h2⟩:=h.x.tk k q hq;obtain ⟨q2,h3,h4⟩:=hs.x.tk k q1 h1;refine ⟨q2,h3,?_⟩;rcases h2 with ⟨h2,h5⟩ | h2
  ·rcases h4 with ⟨h4,h6⟩ | h4
   ·exact .inl ⟨by omega,by rw [h6,h5]⟩
   ·exact .inr (by omega)
  ·rcases h4 with ⟨h4,h6⟩ | h4
   ·exact .inr (by omega)
   ·exact .inr (by omega)
 β:=by
  obtain ⟨r1,h1⟩:=h.β;obtain ⟨r2,h2⟩:=hs.β;exact ⟨r1 ++ r2,by rw [h2,h1,List.append_assoc]⟩
 t0:=fun i x hx=>by
  rcases ht0 i x hx with ⟨d,rfl,rfl,Gf,hg⟩ | ⟨hg,bp⟩
  ·have:=hr.tm _ _ hg;refine ⟨fun hh=>?_,this.2⟩;obtain ⟨v,h1,h2⟩:=this.1 hh;exact ⟨v,h1,Iq Gf h2⟩
  ·have h1:=h.t0 i x hg
   cases dst with
   | none=>
    refine ⟨fun hh=>?_,h1.2⟩;obtain ⟨v,h2,h3⟩:=h1.1 hh;exact ⟨v,h2,Rv.mono (Ip hs.x) h3⟩
   | some d=>
    simp only [gp,aP,Nat.blt_eq] at hd;simp only [Act.put];rw [Array.getElem?_setIfInBounds_ne (Ne.symm (bp d rfl)),lR (mw hd.2 i x hg)];refine ⟨fun hh=>?_,h1.2⟩;obtain ⟨v,h2,h3⟩:=h1.1 hh;exact ⟨v,h2,Rv.mono (Ip hs.x) h3⟩
 cc:=tX
def W7 (X:Ctx) (D:Dw) (l:List Nat) (G:Bool->List (Nat × Sl)->St->Prop):Prop:=∀ c s0 st,G c s0 st->∀ E a w,fL X D c E s0 st a w->runT X.P D.d.ops D.d.W D.C (D.Q X) l a w
theorem Gn (hD:sH D.E0 D.d.iC.bx D.wr) {l:List (Nat × Oper)} (hl:∀ p∈l,D.d.ops[p.1]? = some p.2) {G:Bool->List (Nat × Sl)->St->Prop} (hG:W7 X D (l.map (·.1)) G) {o:Oper} (hd:(gp X.nt st.sl o.dst && gp X.nt s0 o.dst)=true) (h:fL X D c E s0 st a w)
  (he:effE X D.d c i l o s0 st G):wq X.P o a w fun a' w'=>(D.d.W i=false->D.C w->D.C w')/\runT X.P D.d.ops D.d.W D.C (D.Q X) (l.map (·.1)) a' w':=by
 have BH:=hd;simp only [aP] at BH;have hlen:D.E0.β.length=D.d.iC.bx.length:=hD.len
 have core:∀ (K:St->Prop) (p:Prop) (c1:Bool),effC X st o K=some p->p->(c1=true->c=true)->(c1=true∨D.d.W i=false->∀ j,stObj st o.op=some j->D.E0.β.length<=j∨D.d.iC.bx[j]? = some []) ->
   (∀ st',K st' -> ∃ jR,G c1 jR st' /\ ∀ i x,get jR i=some x->(∃ d,o.dst=some d/\i=d/\scal x.s=true/\get st'.sl d=some x)∨(get s0 i=some x/\∀ d,o.dst=some d->i≠d)) ->
   wq X.P o a w fun a' w'=>(D.d.W i=false->D.C w->D.C w')/\runT X.P D.d.ops D.d.W D.C (D.Q X) (l.map (·.1)) a' w':=by
  intro K p c1 hp hpp Ir aW hK;refine mA ?_ (P7 (mB BH.1 h.rel hp hpp));rintro a' w' ⟨⟨st',E',hk,hr,hs⟩,u,rfl⟩;refine ⟨fun hW=>DC h hs hr (aW (.inr hW)),?_⟩;obtain ⟨jR,hg,ht0⟩:=hK st' hk;exact hG c1 jR st' hg E' _ w' (wg h hs hr (fun hc=>DC h hs hr (aW (.inl hc)) (h.cc (Ir hc))) ht0 BH.2)
 have R5:(∀ t x y,o.op ≠ .store t x y)->∀ j,stObj st o.op=some j->D.E0.β.length<=j∨D.d.iC.bx[j]? = some []:=by
  intro bp j hj;unfold stObj at hj;split at hj
  ·rename_i t x y qB;exact (bp t x y qB).elim
  ·cases hj
 have W8:∀ (d:Nat) (st':St),o.dst=some d->∀ i x,get (s0.filter fun p=>!Nat.beq p.1 d) i=some x->(∃ d,o.dst=some d/\i=d/\scal x.s=true/\get st'.sl d=some x)∨(get s0 i=some x/\∀ d,o.dst=some d->i≠d):=by
  intro d st' jj i x hx;obtain ⟨h1,h2⟩:=get_filter d s0 i x hx;exact .inr ⟨h2,fun d' BH=>by rw [jj] at BH;cases BH;exact h1⟩
 unfold effE at he;split at he
 ·rename_i t x y qB;split at he
  ·exact he.elim
  ·rename_i jj;have vY:∀ st':St,∀ i x,get s0 i=some x->(∃ d,o.dst=some d/\i=d/\scal x.s=true/\get st'.sl d=some x)∨(get s0 i=some x/\∀ d,o.dst=some d->i≠d):=fun st' i x hx=>.inr ⟨hx,fun d hd=>by rw [jj] at hd;cases hd⟩;split at he
   ·rename_i hW
    cases hp:effC X st o (G false s0) with
    | none=>rw [hp] at he;exact he.elim
    | some p=>
     rw [hp] at he;exact core _ p false hp he (by intro h;cases h) (by rintro (h1 | h1);cases h1;rw [hW] at h1;cases h1) fun st' hk=>⟨s0,hk,vY st'⟩
   ·split at he
    ·rename_i j hj;split at he
     ·rename_i dG
      have dG:D.d.iC.bx.length<=j∨D.d.iC.bx[j]? = some []:=by
       rcases Bool.or_eq_true _ _ |>.mp dG with h1 | h1
       ·exact .inl (sU h1)
       ·exact .inr (P6 h1)
      cases hp:effC X st o (G c s0) with
      | none=>rw [hp] at he;exact he.elim
      | some p=>
       rw [hp] at he;exact core _ p c hp he id (fun _ j' gw=>by rw [hj] at gw;cases gw;rw [hlen];exact dG) fun st' hk=>⟨s0,hk,vY st'⟩
     ·exact he.elim
    ·exact he.elim
 ·rename_i cl qB;split at he
  ·rename_i f uR;split at he
   ·rename_i g first captured vs hf uP
    obtain ⟨mC,W9⟩:=he;have eB:=h.rel.rl;have e1:=bh eB hf;unfold Rv at e1;obtain ⟨l1,r1,e1,y7,hr1⟩:=e1;have hargs:=je eB (bF _) _ _ uP;obtain ⟨dst,op,ty,pos,after,gu⟩:=o;obtain ⟨callee,args,argTypes⟩:=cl;simp only at qB uR;subst qB uR
    have hr:(execOp a.eval ⟨dst,.call ⟨.value f,args,argTypes⟩,ty,pos,after,gu⟩).run X.P w = .ok (.enter g (l1 ++ args.toList.map a.eval ++ r1).toArray) w:=by
     have e3:(l1.toArray ++ args.map a.eval ++ r1.toArray)=(l1 ++ args.toList.map a.eval ++ r1).toArray:=by apply Array.ext';simp
     simp only [execOp,resolve,e1,Deferred.ofValue,Sem.run_bind,Sem.run_pure,Result.andThen_ok,invoke,e3];exact mC _ _
    unfold wq;rw [hr];exact W9 hl D.E0 D.wr hD E a w _ h ((y7.append hargs).append hr1)
   ·exact he.elim
  ·split at he
   ·rename_i d jj
    cases hp:effC X st o (fun st'=>delF d s0 fun jR=>G c jR st') with
    | none=>rw [hp] at he;exact he.elim
    | some p=>
     rw [hp] at he;refine core _ p c hp he id (fun _=>R5 (fun t x y h1=>by rw [qB] at h1;cases h1)) fun st' hk=>?_;rw [q5] at hk;exact ⟨_,hk,W8 d st' jj⟩
   ·exact he.elim
 ·rename_i yM RV;split at he
  ·rename_i d jj
   cases hp:effC X st o (fun st'=>
    match get st'.sl d with
    | some ⟨[],.loc j off⟩=>G c ((d,⟨[],.loc j off⟩) :: s0) st'
    | _=>delF d s0 fun jR=>G c jR st') with
   | none=>rw [hp] at he;exact he hl D.E0 D.wr hD E a w h
   | some p=>
    rw [hp] at he;refine core _ p c hp he id (fun _=>R5 yM) fun st' hk=>?_;split at hk
    ·rename_i j off hg;refine ⟨_,hk,fun i x hx=>?_⟩;simp only [dV] at hx;split at hx
     ·rename_i LR;simp only [oI] at hx;subst hx;exact .inl ⟨d,jj,LR.symm,rfl,hg⟩
     ·rename_i LR;exact .inr ⟨hx,fun d' BH=>by rw [jj] at BH;cases BH;exact Ne.symm LR⟩
    ·rw [q5] at hk;exact ⟨_,hk,W8 d st' jj⟩
  ·exact he.elim
theorem eH (hD:sH D.E0 D.d.iC.bx D.wr):∀ n c l s0 st,goD X D.d n c l s0 st->(∀ p∈l,D.d.ops[p.1]? = some p.2)->∀ E a w,fL X D c E s0 st a w->runT X.P D.d.ops D.d.W D.C (D.Q X) (l.map (·.1)) a w
 | n,c,[],s0,st,hg,hl=>by
  intro E a w h;have hg:(match D.d.fin with | none=>go X 4000 D.d.k st | some F=>F c s0 st):=by cases n<;>simpa only [goD] using hg
  show D.Q X a w;unfold Dw.Q
  cases hf:D.d.fin with
  | none=>
   rw [hf] at hg;exact go_sound 4000 _ _ hg E a w h.rel
  | some F=>
   rw [hf] at hg;exact ⟨c,E,s0,st,h,hg⟩
 | 0,c,_ :: _,s0,st,hg,_=>by exact hg.elim
 | n + 1,c,(i,o) :: r,s0,st,hg,hl=>by
  intro E a w h;have ho:D.d.ops[i]? = some o:=hl (i,o) (by simp);have uP:∀ p∈r,D.d.ops[p.1]? = some p.2:=fun p hp=>hl p (de _ hp);simp only [List.map_cons];have ih:∀ c s0 st,goD X D.d n c r s0 st->∀ E a w,fL X D c E s0 st a w->runT X.P D.d.ops D.d.W D.C (D.Q X) (r.map (·.1)) a w:=fun c s0 st hg=>eH hD n c r s0 st hg uP;have ihG:W7 X D (r.map (·.1)) (fun c s0 st=>goD X D.d n c r s0 st):=fun c s0 st hg=>ih c s0 st hg;simp only [goD,Ic,u6] at hg;split at hg
  ·exact hg.elim
  ·rename_i hd
   have fR:∀ (v:Value) jR st',gq o.op=false->Yl X.P D.d.ops D.C o v a->(j7 o.op=true->c=true)->goD X D.d n c r jR st' -> fL X D c E jR st' (a.put o.dst v) w ->
     runT X.P D.d.ops D.d.W D.C (D.Q X) (i :: r.map (·.1)) a w:=by
    intro v jR st' hE hy eS iv ch;simp only [runT,ho];rw [ah (by simp [hE])];exact ⟨v,hy,fun hL=>h.cc (eS hL),ih c jR st' iv E _ w ch⟩
   have fS:∀ jR st',gq o.op=true->Region.wanted o (yielded D.d.ops a.tmps)=false->goD X D.d n c r jR st' -> fL X D c E jR st' (a.put o.dst undef) w ->
     runT X.P D.d.ops D.d.W D.C (D.Q X) (i :: r.map (·.1)) a w:=by
    intro jR st' hE hw iv ch;simp only [runT,ho];rw [ai hE];unfold dP;rw [ah (by simp [hw])];exact ⟨fun _ h=>h,ih c jR st' iv E _ w ch⟩
   have fE:∀ jR st',gq o.op=true->Region.wanted o (yielded D.d.ops a.tmps)=true->(gp X.nt st'.sl o.dst && gp X.nt jR o.dst)=true->effE X D.d c i r o jR st' (fun c' jR st'=>goD X D.d n c' r jR st')->fL X D c E jR st' a w ->
     runT X.P D.d.ops D.d.W D.C (D.Q X) (i :: r.map (·.1)) a w:=by
    intro jR st' hE hw BH he ch;simp only [runT,ho];rw [ai hE];unfold dP;rw [ai hw];exact Gn hD uP ihG BH ch he
   have fP:∀ jR st',Region.wanted o (yielded D.d.ops a.tmps)=true->(gp X.nt st'.sl o.dst && gp X.nt jR o.dst)=true->optP (eR X D.d c jR st' o.op fun b s=>put2 jR st' o.dst b [] s (goD X D.d n c r))->fL X D c E jR st' a w ->
     runT X.P D.d.ops D.d.W D.C (D.Q X) (i :: r.map (·.1)) a w:=by
    intro jR st' hw BH he ch;obtain ⟨hE,eS,b,s,v,hk,hv,r8,cv⟩:=L9 hD ch he;obtain ⟨s1,qC,jU,fB⟩:=kF ch BH b [] s v (fun _ _ p hp=>by cases hp) (fun _=>hv) (fun hb _=>r8 hb) (fun hn=>(hn (bF _)).elim) hk;exact fR v s1 qC hE (.inl ⟨hw,cv⟩) eS jU fB
   have udE:∀ jR st',(gp X.nt st'.sl o.dst && gp X.nt jR o.dst)=true->fL X D c E jR st' a w->put2 jR st' o.dst true [] .ud (goD X D.d n c r)->∃ s1 qC,goD X D.d n c r s1 qC/\fL X D c E s1 qC (a.put o.dst undef) w:=by
    intro jR st' BH ch hk;exact kF ch BH true [] .ud undef (fun _ _ p hp=>by cases hp) (fun _=>tS E) (fun _ _=>tS _) (fun hn=>(hn (bF _)).elim) hk
   split at hg
   ·rename_i PZ;have hw:Region.wanted o (yielded D.d.ops a.tmps)=true:=by simp [Region.wanted,PZ]
    split at hg
    ·rename_i hE;exact fE s0 st hE hw hd hg h
    ·split at hg
     ·rename_i b s hs;obtain ⟨hE,eS,v,hv,r8,cv⟩:=DB hD h (bF _) hs;obtain ⟨s1,qC,jU,fB⟩:=kF h hd b [] s v (fun _ _ p hp=>by cases hp) (fun _=>hv) (fun hb _=>r8 hb) (fun hn=>(hn (bF _)).elim) hg;exact fR v s1 qC hE (.inl ⟨hw,cv⟩) eS jU fB
     ·exact fP s0 st hw hd hg h
   ·rename_i j want PZ;split at hg
    ·exact hg.elim
    ·rename_i d C0;split at hg
     ·exact hg.elim
     ·rename_i iz sd Lt;have qU:=wanted_spec h.rel PZ C0 Lt
      have Gp:¬ Holds a.tmps ((d,want) :: iz)->Region.wanted o (yielded D.d.ops a.tmps)=false:=by
       intro hn;cases Wc:Region.wanted o (yielded D.d.ops a.tmps)
       ·rfl
       ·exact (hn (qU.1 Wc)).elim
      split at hg
      ·rename_i b s hs;split at hg
       case h_2=>exact hg.elim
       rename_i bw;have Xa:=v8 bw;by_cases hh:Holds a.tmps ((d,want) :: iz)
       ·obtain ⟨hE,eS,v,hv,r8,cv⟩:=DB hD h hh hs;obtain ⟨s1,qC,jU,fB⟩:=kF h hd b _ s v Xa (fun _=>hv) (fun hb _=>r8 hb) (fun hn=>(hn hh).elim) hg;exact fR v s1 qC hE (.inl ⟨qU.2 hh,cv⟩) eS jU fB
       ·obtain ⟨s1,qC,jU,fB⟩:=kF h hd b _ s undef Xa (fun hn=>(hh hn).elim) (fun _ hn=>(hh hn).elim) (fun _=>rfl) hg
        have eS:gq o.op=false/\(j7 o.op=true->c=true):=by
         unfold pR at hs;split at hs
         ·cases hs
         ·rename_i hc;simp only [aP,Bool.not_eq_true',Bool.or_eq_true] at hc;refine ⟨hc.1,fun hL=>?_⟩;rcases hc.2 with h1 | h1
          ·rw [hL] at h1;cases h1
          ·exact h1
        exact fR undef s1 qC eS.1 (.inr ⟨Gp hh,rfl⟩) eS.2 jU fB
      ·split at hg
       ·rename_i b iB;have ht0:=Dq h.rel iB
        cases iz with
        | nil=>
         simp only [lastG] at iB ht0;cases uO:(b == want)
         ·have Gj:b = !want:=by cases b<;>cases want<;>simp_all
          have hg:=hg.f uO
          have hn:Region.wanted o (yielded D.d.ops a.tmps)=false:=by
           refine Gp fun hh=>?_;have:=hh (d,want) (by simp);simp only at this;rw [ht0] at this;simp only [oI,Value.bool.injEq] at this;rw [this] at uO;simp at uO
          have hr:=mH (d:=d) (b:=!want) h (by rw [ht0,Gj]);split at hg
          ·rename_i eS
           have Uh:j7 o.op=true->c=true:=by
            intro hL;simpa [hL] using eS
           obtain ⟨s1,qC,jU,fB⟩:=udE _ _ (mI hd) hr hg;cases hE:gq o.op
           ·exact fR undef s1 qC hE (.inr ⟨hn,rfl⟩) Uh jU fB
           ·exact fS s1 qC hE hn jU fB
          ·exact hg.elim
         ·have qV:b=want:=sU uO;have hg:=hg.t uO;subst qV;have hw:Region.wanted o (yielded D.d.ops a.tmps)=true:=qU.2 (kx ht0 (bF _));have hr:=mH (d:=d) (b:=b) h ht0;split at hg
          ·rename_i hE;exact fE _ _ hE hw (mI hd) hg hr
          ·exact fP _ _ hw (mI hd) hg hr
        | cons g1 gr=>
         have key:∀ e,a.tmps[(lastG (d,want) (g1 :: gr)).1]? = some (.bool e)->goD X D.d n c ((i,o) :: r) (s0.map (bR (lastG (d,want) (g1 :: gr)).1 e)) (st.resolve (lastG (d,want) (g1 :: gr)).1 e)->_:=
          fun e Di iv=>eH hD n c ((i,o) :: r) _ _ iv hl E a w (mH h Di)
         cases uO:(b == (lastG (d,want) (g1 :: gr)).2)
         ·have hg:=hg.f uO;have Gj:b = !(lastG (d,want) (g1 :: gr)).2:=by cases b<;>cases h0:(lastG (d,want) (g1 :: gr)).2<;>simp_all
          exact key _ (by rw [ht0,Gj]) hg
         ·have hg:=hg.t uO;have qV:b=(lastG (d,want) (g1 :: gr)).2:=sU uO;exact key _ (by rw [ht0,qV]) hg
       ·rename_i iB
        cases iz with
        | nil=>
         have ht0:=L3 h.rel iB;simp only [lastG] at ht0
         have hn:Region.wanted o (yielded D.d.ops a.tmps)=false:=by
          refine Gp fun hh=>?_;have:=hh (d,want) (by simp);simp only at this;rw [ht0] at this;simp [undef] at this
         simp only at hg;split at hg
         ·rename_i eS
          have Uh:j7 o.op=true->c=true:=by
           intro hL;simpa [hL] using eS
          obtain ⟨s1,qC,jU,fB⟩:=udE _ _ hd h hg;cases hE:gq o.op
          ·exact fR undef s1 qC hE (.inr ⟨hn,rfl⟩) Uh jU fB
          ·exact fS s1 qC hE hn jU fB
         ·exact hg.elim
        | cons g1 gr=>exact hg.elim
       ·exact hg.elim
def OpS (X:Ctx) (o:Oper) (st st':St):Prop:=∀ E a w,Rel X E st a w->wq X.P o a w fun a' w'=>∃ E',Rel X E' st' a' w' /\ dj none E w E' w'
theorem OpS.g {o:Oper} {k:List It} {st st':St} (h:OpS X o st st') (hk:go X 4000 k st'):Lm X o k st:=fun E a w hr=>by
 refine Dk (mA ?_ (h E a w hr));rintro a' w' ⟨E',iw,_⟩;exact go_sound 4000 _ _ hk E' a' w' iw
def nOps:Nat->List Oper->List (Nat × Oper)
 | _,[]=>[]
 | i,o :: r=>(i,o) :: nOps (i + 1) r
theorem wh:∀ (l:List Oper) (i:Nat) (p:Nat × Oper),p∈nOps i l->i<=p.1/\l[p.1 - i]? = some p.2
 | [],_,_,h=>by cases h
 | o :: r,i,p,h=>by
  rcases bI h with h | h
  ·subst h;simp
  ·have:=wh r (i + 1) p h;refine ⟨by omega,?_⟩;rw [show p.1 - i=(p.1 - (i + 1)) + 1 by omega];simpa using this.2
theorem wi:∀ (l:List Oper) (i:Nat),(nOps i l).map (·.1)=List.range' i l.length
 | [],_=>rfl
 | o :: r,i=>by simp only [nOps,List.map_cons,wi r (i + 1),List.length_cons,List.range'_succ]
theorem kG (hr:Rel X E st a w) {ops:Array Oper} {W:Nat->Bool} {k:List It}:fL X ⟨⟨ops,W,k,st,none⟩,E,w⟩ true E st.sl st a w where
 rel:=hr
 x:=Ext.refl E
 β:=⟨[],by simp⟩
 t0:=hr.tm
 cc:=fun _=>⟨fun _ _ _ _ _ _=>rfl,hr.env.sub⟩
theorem vd {id:Nat} {ops:Array Oper} {k:List It} {st:St} (W:Nat->Bool) (hm:X.P.follows .mixedOrders=true) (hc:Dy ops W=true)
  (h:goD X ⟨ops,W,k,st,none⟩ 3000 true (nOps 0 ops.toList) st.sl st):lO X id ops k st:=by
 intro E a w hr;have iw:=jF hr;have hs:=kG iw (ops:=ops) (W:=W) (k:=k);refine lB (C:=CC E st.bx w.drew) (W:=W) (Q:=kq X k .normal) hm hc (fun a w h=>h) (hs.cc rfl) ?_;have:=eH (D:=⟨⟨ops,W,k,st,none⟩,E,w.drew⟩) iw.env.em 3000 true _ _ _ h (fun p hp=>by simpa using (wh _ _ p hp).2) E a w.drew hs;rw [wi] at this;rw [List.range_eq_range'];simp only [Array.length_toList] at this;exact this
def maskL:List Nat->Nat->List (List DV)->List (List DV)
 | _,_,[]=>[]
 | m,i,cs :: r=>(match m.contains i with | true=>[] | false=>cs) :: maskL m (i + 1) r
theorem sI (m:List Nat):∀ (l:List (List DV)) (i:Nat),(maskL m i l).length=l.length
 | [],_=>rfl
 | cs :: r,i=>by simp [maskL,sI m r]
theorem sJ (m:List Nat):∀ (l:List (List DV)) (i j:Nat) cs,(maskL m i l)[j]? = some cs->cs=[]∨l[j]? = some cs
 | [],_,_,_,h=>by simp [maskL] at h
 | c :: r,i,0,cs,h=>by
  simp only [maskL,List.getElem?_cons_zero,oI] at h;split at h
  ·exact .inl h.symm
  ·exact .inr (by simp [h])
 | c :: r,i,j + 1,cs,h=>by
  simp only [maskL,List.getElem?_cons_succ] at h ⊢;exact sJ m r (i + 1) j cs h
theorem ve {id:Nat} {ops:Array Oper} {k:List It} {st:St} (m:List Nat) (W:Nat->Bool) (hm:X.P.follows .mixedOrders=true) (hc:Dy ops W=true)
  (h:goD X ⟨ops,W,k,⟨st.sl,maskL m 0 st.bx,st.tk⟩,none⟩ 3000 true (nOps 0 ops.toList) st.sl st):lO X id ops k st:=by
 intro E a w hr;have iw:=jF hr;have hs:fL X ⟨⟨ops,W,k,⟨st.sl,maskL m 0 st.bx,st.tk⟩,none⟩,E,w.drew⟩ true E st.sl st a w.drew:=⟨iw,Ext.refl E,⟨[],by simp⟩,iw.tm,fun _=>⟨fun _ _ _ _ _ _=>rfl,iw.env.sub⟩⟩;refine lB (C:=CC E (maskL m 0 st.bx) w.drew) (W:=W) (Q:=kq X k .normal) hm hc (fun a w h=>h) (hs.cc rfl) ?_
 have Ui:sH E (maskL m 0 st.bx) w.drew:=⟨by rw [sI];exact iw.env.len,fun i cs hi bp=>by
  rcases sJ m _ _ _ _ hi with h1 | h1
  ·exact (bp h1).elim
  ·exact iw.env.fk i cs h1⟩
 have:=eH (D:=⟨⟨ops,W,k,⟨st.sl,maskL m 0 st.bx,st.tk⟩,none⟩,E,w.drew⟩) Ui 3000 true _ _ _ h (fun p hp=>by simpa using (wh _ _ p hp).2) E a w.drew hs;rw [wi] at this;rw [List.range_eq_range'];simp only [Array.length_toList] at this;exact this
def Ma (ops:Array Oper) (i:Nat):Bool:=
 match ops.toList[i]? with
 | some o=>
  match o.op with
  | .store ..=>true
  | _=>false
 | none=>false
theorem P8 {id:Nat} {ops:Array Oper} {k:List It} {st:St} (hm:X.P.follows .mixedOrders=true) (hc:Dy ops (Ma ops)=true)
  (h:goD X ⟨ops,Ma ops,k,st,none⟩ 3000 true (nOps 0 ops.toList) st.sl st):lO X id ops k st:=vd (Ma ops) hm hc h
theorem q6 {D:Dr} {f:FuncId} {args bJ:List DV} {d:Nat} {r:List (Nat × Oper)} (mC:Enters X.P f) (hd:(gp X.nt st.sl (some d) && gp X.nt s0 (some d))=true) {Φ:DV->List (List DV)->List TkE->Prop} (hc:Ev X.P f bJ [] [] Φ) (ha:CcL [] 0 0 0 bJ args)
  (hk:∀ BI,Φ BI [] []->put2 s0 st (some d) false [] BI (goD X D 3000 c r)) (aW:X.still=false:=by exact rfl):zL X D c i r f args (some d) s0 st:=by
 refine ⟨mC,fun hl E0 wr hD E a w vs h hv=>(nU h.rel aW hc ha hv).mono ?_⟩;rintro e w' ⟨v,E',BI,rfl,ch,hr,hΦ,hm,hx,hβ⟩
 have hh:∀ b,b < w.heap.size->w'.heap[b]? = w.heap[b]?:=fun b hb=>hm.block b hb (by
  rintro (h1 | ⟨y,h1,_⟩)
  ·simp [En.cl] at h1
  ·simp [En.cl] at h1)
 have hs:dj none E w E' w':=⟨hx,⟨[],by rw [hβ];simp⟩,fun j b hb _=>hh b (h.rel.env.bm (mG hb))⟩;have hC:=DC h hs ch (fun j hj=>by cases hj);refine ⟨v,rfl,fun _=>hC,?_⟩;have Mb:fL X ⟨D,E0,wr⟩ c E' s0 st (a.put none v) w':=wg h hs ch (fun h1=>hC (h.cc h1)) (fun i x hx=>.inr ⟨hx,fun d hd=>by cases hd⟩) rfl;obtain ⟨s1,qC,jU,fB⟩:=kF Mb hd false [] BI v (fun _ _ p hp=>by cases hp) (fun _=>hr) (fun hb=>by cases hb) (fun hn=>(hn (bF _)).elim) (hk BI hΦ);exact eH (D:=⟨D,E0,wr⟩) hD 3000 c r _ _ jU hl E' _ w' fB
theorem aH {D:Dr} {f:FuncId} {args bJ:List DV} {d:Nat} {r:List (Nat × Oper)} {BI:DV} (mC:Enters X.P f) (hc:aV X.P f bJ BI) (ha:CcL [] 0 0 0 bJ args) (hd:(gp X.nt st.sl (some d) && gp X.nt s0 (some d))=true)
  (hk:put2 s0 st (some d) false [] BI (goD X D 3000 c r)) (aW:X.still=false:=by exact rfl):zL X D c i r f args (some d) s0 st:=
 q6 mC hd hc ha (fun _ hr=>hr ▸ hk) aW
end
end Dv
end Go.Proofs.YtadhpeooehkklaaGreat
namespace Go.Proofs.YtadhpeooehkklaaGreat
namespace Dv
open Go Go.RowKit
section
variable {P:Program} {ops:Array Oper} {C:World->Prop} {Q:Act->World->Prop} {W:Nat->Bool} {π π':Nat->Nat}
theorem sK {o:Oper} {i:Nat} {a:Act} {w:World} {K:Act->World->Prop} {Q':Exit->Act->World->Prop} (ho:ops[i]? = some o) (h:dP P ops o a w K):wpOp P ops Q' i K a w:=by
 unfold wpOp;rw [ho];simp only;unfold dP at h;split
 ·rename_i hw;rw [ai hw] at h;exact .inl (Dk h)
 ·rename_i hw;rw [ah hw] at h;exact h
def chkT (ops:Array Oper) (x y:Nat):Bool:=
 (List.range ops.size).all fun i=>Nat.beq i x || Nat.beq i y ||
  match ops[i]? with
  | some o=>!gq o.op || ordB ops ops.size x i
  | none=>false
def uS (x y:Nat):Nat->Nat->Bool:=fun j i=>Nat.beq j x && Nat.beq i y
theorem Gq {x y:Nat} {Q':Exit->Act->World->Prop} (Gr:x≠y) (Wf:qY ops W π=true) (Xb:uQ ops W π (uS x y)=true) (h2O:qY ops W π'=true) (Xc:uQ ops W π' (uS y x)=true) (hT:chkT ops x y=true)
  (hQ:∀ a w,Q a w->Q' .normal a w):∀ (iQ:Nat) (listed:Array Bool) (r1 r2:List Nat) (a:Act) (w:World),
  listed.size=ops.size->Dn ops listed->(∀ i,i∈r1↔i < ops.size/\listed.getD i true=false)->(∀ i,i∈r2↔i < ops.size/\listed.getD i true=false)->r1.Pairwise (fun a b=>π a < π b)->r2.Pairwise (fun a b=>π' a < π' b)->r1.length<=iQ ->
   x∈r1->y∈r1->C w->runT P ops W C Q r1 a w->runT P ops W C Q r2 a w->wpAny P .any ops Q' iQ listed a w:=by
 have dy:=q4 Wf;have sb:=qZ Wf;have Uj:=qZ h2O;have h1S':=Xb;have h2S':=Xc;simp only [uQ,List.all_eq_true,List.mem_range,Bool.or_eq_true,Bool.not_eq_true'] at Xb Xc;intro iQ
 induction iQ with
 | zero=>
  intro listed r1 r2 a w bQ Px kj Lp sL DD hlen hx hy hC hr1 hr2;have:r1=[]:=List.length_eq_zero_iff.1 (by omega);rw [this] at hx;cases hx
 | succ iQ ih=>
  intro listed r1 r2 a w bQ Px kj Lp sL DD hlen hx hy hC hr1 hr2;have h12:∀ i,i∈r1↔i∈r2:=fun i=>(kj i).trans (Lp i).symm;have Gs:r1.Nodup:=nN sL;have wj:r2.Nodup:=nN DD;have Dz:=sG Wf;refine ⟨fun h0=>?_,fun i hi=>?_⟩
  ·cases r1 with
   | nil=>cases hx
   | cons h rem=>
    have hh:=(kj h).1 (by simp);have hxx:ops[h]? = some ops[h]:=Array.getElem?_eq_getElem hh.1
    have:h∈Region.ready .any ops listed:=by
     refine mem_ready.2 ⟨hh.2,_,hxx,fun e he hb=>?_⟩;obtain ⟨ap,la⟩:=Dz h _ hxx e he hb;cases hg:listed.getD e.on false
     ·have Py:listed.getD e.on true=false:=by
       have:e.on < listed.size:=by rw [bQ];omega
       simp [this] at hg ⊢;exact hg
      have hm:=(kj e.on).2 ⟨by omega,Py⟩;rcases bI hm with e1 | e1
      ·rw [e1] at ap;omega
      ·have:=(List.pairwise_cons.1 sL).1 _ e1;omega
     ·rfl
    rw [h0] at this;cases this
  ·obtain ⟨Gl,o,ho,fG⟩:=mem_ready.1 hi;have eQ:=(Array.getElem?_eq_some_iff.1 ho).1;have ml:i∈r1:=(kj i).2 ⟨eQ,Gl⟩;have P9:i∈r2:=(h12 i).1 ml
   have fv:∀ j,j∈r1->ordB ops ops.size j i=true->False:=by
    intro j hj h1;have h2:=lj Px _ _ _ _ ho fG h1;have h3:=((kj j).1 hj).2;have:j < listed.size:=by rw [bQ];exact ((kj j).1 hj).1
    simp [this] at h2 h3;rw [h2] at h3;cases h3
   have Qa:i≠y->∀ j∈r1,j≠i->π j < π i->fK ops W j i=true:=by
    intro Uk j hj _ ap;rcases Xb i eQ j ((kj j).1 hj).1 with ((h1 | h1) | h1) | h1
    ·have:¬ Nat.blt (π j) (π i)=true:=by simp [h1]
     simp at this;omega
    ·simp [uS] at h1;exact (Uk h1.2).elim
    ·exact (fv j hj h1).elim
    ·exact h1
   have Ul:i≠x->∀ j∈r2,j≠i->π' j < π' i->fK ops W j i=true:=by
    intro zM j hj _ ap;rcases Xc i eQ j ((Lp j).1 hj).1 with ((h1 | h1) | h1) | h1
    ·have:¬ Nat.blt (π' j) (π' i)=true:=by simp [h1]
     simp at this;omega
    ·simp [uS] at h1;exact (zM h1.2).elim
    ·exact (fv j ((h12 j).2 hj) h1).elim
    ·exact h1
   have JX:Dn ops (listed.setIfInBounds i true):=by
    intro k z hz hk e he hb;by_cases kA:k=i
    ·subst kA;rw [ho] at hz;simp only [oI] at hz;subst hz;exact getD_set_true (fG e he hb)
    ·rw [getD_set_ne true (Ne.symm kA)] at hk;exact getD_set_true (Px k z hz hk e he hb)
   have zN:∀ (rem:List Nat),rem.Nodup->(∀ i,i∈rem↔i < ops.size/\listed.getD i true=false)->∀ k,k∈rem.erase i↔k < ops.size/\(listed.setIfInBounds i true).getD k true=false:=by
    intro rem hnd iy k;rw [List.Nodup.mem_erase_iff hnd];by_cases kA:k=i
    ·subst kA;simp [bQ,eQ]
    ·rw [getD_set_ne true (Ne.symm kA)];simp only [ne_eq,kA,not_false_eq_true,true_and];exact iy k
   refine sK ho ?_;by_cases zM:i=x
   ·subst zM;have aW:=gH dy sb ho r1 a w (fun _=>hC) hr1 ml (Qa Gr) sL;refine cI ?_ aW;rintro a' w' ⟨oM,iw⟩;refine mF (C:=C) (uS i y) Wf h1S' hQ iQ _ (r1.erase i) a' w' (by simp [bQ]) JX (zN r1 Gs kj) (sL.sublist List.erase_sublist) (by rw [List.length_erase_of_mem ml];omega) ?_ ?_ iw
    ·intro j hj k _;cases gw:uS i y j k
     ·rfl
     ·simp only [uS,aP,Nat.beq_eq] at gw;exact (((List.Nodup.mem_erase_iff Gs).1 hj).1 gw.1).elim
    ·rintro ⟨l,z,hl,hz,hL⟩;refine oM ?_ hC;have uP:=List.mem_of_mem_erase hl;have bp:l≠i:=((List.Nodup.mem_erase_iff Gs).1 hl).1;rcases we sL ml uP bp.symm with h1 | h1
     ·exact sb i l z o h1 hz ho hL
     ·have:=Qa Gr l uP bp h1;obtain ⟨_,_,_,h4⟩:=eA this hz ho;cases hw:W i
      ·rfl
      ·exact (h4 ⟨hL,hw⟩).elim
   ·by_cases Uk:i=y
    ·subst Uk;have aW:=gH dy Uj ho r2 a w (fun _=>hC) hr2 P9 (Ul (Ne.symm Gr)) DD;refine cI ?_ aW;rintro a' w' ⟨oM,iw⟩;refine mF (C:=C) (uS i x) h2O h2S' hQ iQ _ (r2.erase i) a' w' (by simp [bQ]) JX (zN r2 wj Lp) (DD.sublist List.erase_sublist) ?_ ?_ ?_ iw
     ·have e1:r1.length=r2.length:=(List.perm_iff_count.2 (fun z=>by rw [Gs.count,wj.count];simp [h12 z])).length_eq;rw [List.length_erase_of_mem P9];omega
     ·intro j hj k _;cases gw:uS i x j k
      ·rfl
      ·simp only [uS,aP,Nat.beq_eq] at gw;exact (((List.Nodup.mem_erase_iff wj).1 hj).1 gw.1).elim
     ·rintro ⟨l,z,hl,hz,hL⟩;refine oM ?_ hC;have uP:=List.mem_of_mem_erase hl;have bp:l≠i:=((List.Nodup.mem_erase_iff wj).1 hl).1;rcases we DD P9 uP bp.symm with h1 | h1
      ·exact Uj i l z o h1 hz ho hL
      ·have:=Ul (Ne.symm Gr) l uP bp h1;obtain ⟨_,_,_,h4⟩:=eA this hz ho;cases hw:W i
       ·rfl
       ·exact (h4 ⟨hL,hw⟩).elim
    ·have hRo:gq o.op=false:=by
      simp only [chkT,List.all_eq_true,List.mem_range,Bool.or_eq_true,Nat.beq_eq] at hT;rcases hT i eQ with (h1 | h1) | h1
      ·exact (zM h1).elim
      ·exact (Uk h1).elim
      ·rw [ho] at h1;simp only [Bool.or_eq_true,Bool.not_eq_true'] at h1;rcases h1 with h1 | h1
       ·exact h1
       ·exact (fv x hx h1).elim
     obtain ⟨v,Is⟩:=kE dy ho hRo r1 a w hr1 ml (Qa Uk) sL;have pL:=gH dy sb ho r1 a w (fun _=>hC) hr1 ml (Qa Uk) sL;have vT:=gH dy Uj ho r2 a w (fun _=>hC) hr2 P9 (Ul zM) DD;have jU:=ij Is (fun _=>hC) pL;have Mc:=ij Is (fun _=>hC) vT;refine ig Is (fun _=>hC) ?_
     exact ih _ (r1.erase i) (r2.erase i) _ w (by simp [bQ]) JX (zN r1 Gs kj) (zN r2 wj Lp) (sL.sublist List.erase_sublist) (DD.sublist List.erase_sublist) (by rw [List.length_erase_of_mem ml];omega)
      ((List.Nodup.mem_erase_iff Gs).2 ⟨Ne.symm zM,hx⟩) ((List.Nodup.mem_erase_iff Gs).2 ⟨Ne.symm Uk,hy⟩) hC jU.2 Mc.2
end
def selL (ops:List Oper):List Nat->List (Nat × Oper)
 | []=>[]
 | i :: r=>
  match ops[i]? with
  | some o=>(i,o) :: selL ops r
  | none=>selL ops r
theorem wm {ops:List Oper} {l:List Nat} {p:Nat × Oper} (h:p∈selL ops l):ops[p.1]? = some p.2:=by
 induction l with
 | nil=>cases h
 | cons i r ih=>
  unfold selL at h;split at h
  ·rename_i o ho;rcases bI h with h | h
   ·rw [h];exact ho
   ·exact ih h
  ·exact ih h
def plc:List Nat->Nat->Nat
 | [],_=>0
 | x :: r,i=>if Nat.beq x i then 0 else plc r i + 1
def Gt (ops:Array Oper) (l:List Nat):Bool:=
 (selL ops.toList l).map (·.1) == l && (List.range ops.size).all (fun i=>l.contains i) && l.all (fun i=>Nat.blt i ops.size) && Nat.ble l.length ops.size && pwB (plc l) l
where pwB (f:Nat->Nat):List Nat->Bool
 | []=>true
 | x :: r=>r.all (fun y=>Nat.blt (f x) (f y)) && pwB f r
theorem q7 {f:Nat->Nat}:∀ {l:List Nat},Gt.pwB f l=true->l.Pairwise (fun a b=>f a < f b)
 | [],_=>List.Pairwise.nil
 | x :: r,h=>by
  simp only [Gt.pwB,aP,List.all_eq_true,Nat.blt_eq] at h;exact List.pairwise_cons.2 ⟨h.1,q7 h.2⟩
def Xd (ops:Array Oper) (W:Nat->Bool) (l l':List Nat) (x y:Nat):Bool:=
 !Nat.beq x y && Nat.blt x ops.size && Nat.blt y ops.size && Gt ops l && Gt ops l' && qY ops W (plc l) && uQ ops W (plc l) (uS x y) && qY ops W (plc l') && uQ ops W (plc l') (uS y x) && chkT ops x y
def swp (i j k:Nat):Nat:=
 match Nat.beq k i with
 | true=>j
 | false=>
  match Nat.beq k j with
  | true=>i
  | false=>k
theorem lk (i j k:Nat):swp i j (swp i j k)=k:=by
 have hb:∀ a b:Nat,Nat.beq a b=decide (a=b):=fun a b=>by
  by_cases h:a=b
  ·subst h;simp
  ·rw [decide_eq_false h];cases h1:Nat.beq a b
   ·rfl
   ·exact (h (sU h1)).elim
 unfold swp;simp only [hb];by_cases h1:k=i
 ·subst h1;simp only [decide_true];by_cases h2:j=k
  ·subst h2;simp
  ·simp [h2]
 ·by_cases h2:k=j
  ·subst h2;simp [h1]
  ·simp [h1,h2]
mutual
def renD (f:Nat->Nat):DV->DV
 | .v x=>.v x
 | .ud=>.ud
 | .agg l=>.agg (renL f l)
 | .tup l=>.tup (renL f l)
 | .sl e es tk=>.sl e es tk
 | .pt cs o=>.pt cs o
 | .loc i o=>.loc (f i) o
 | .el i o=>.el (f i) o
 | .ms i e o l c=>.ms (f i) e o l c
 | .fn g l r=>.fn g (renL f l) (renL f r)
 | .sq t x=>.sq t (renD f x)
def renL (f:Nat->Nat):List DV->List DV
 | []=>[]
 | d :: r=>renD f d :: renL f r
end
def renS (f:Nat->Nat):List (Nat × Sl)->List (Nat × Sl)
 | []=>[]
 | (k,⟨gs,s⟩) :: r=>(k,⟨gs,renD f s⟩) :: renS f r
def renO (f:Nat->Nat):List (List DV)->List (List DV)
 | []=>[]
 | cs :: r=>renL f cs :: renO f r
def swL {α:Type} (i j:Nat) (l:List α):List α:=
 match l[i]?,l[j]? with
 | some a,some b=>(l.set i b).set j a
 | _,_=>l
def dX (i j:Nat) (S:St):St:=⟨renS (swp i j) S.sl,swL i j (renO (swp i j) S.bx),S.tk⟩
theorem q8 (f:Nat->Nat):∀ (l:List (List DV)) (k:Nat),(renO f l)[k]? = (l[k]?).map (renL f)
 | [],k=>by simp [renO]
 | c :: r,0=>by simp [renO]
 | c :: r,k + 1=>by simp only [renO,List.getElem?_cons_succ];exact q8 f r k
theorem cX (f:Nat->Nat):∀ (l:List (List DV)),(renO f l).length=l.length
 | []=>rfl
 | c :: r=>by simp [renO,cX f r]
theorem DE (f:Nat->Nat):∀ (l:List (Nat × Sl)) (k:Nat),get (renS f l) k=(get l k).map fun x=>⟨x.gs,renD f x.s⟩
 | [],k=>rfl
 | (i,⟨gs,s⟩) :: r,k=>by
  simp only [renS,dV];split
  ·rfl
  ·exact DE f r k
theorem dh {α:Type} (i j:Nat) (l:List α):(swL i j l).length=l.length:=by
 unfold swL;split<;>simp
theorem fb {α:Type} {i j:Nat} {l:List α} (hi:i < l.length) (hj:j < l.length) (k:Nat):(swL i j l)[k]? = l[swp i j k]?:=by
 have hb:∀ a b:Nat,Nat.beq a b=true↔a=b:=fun a b=>by simp
 unfold swL;rw [gE hi,gE hj];simp only;unfold swp;by_cases hkj:k=j
 ·subst hkj;rw [cQ (sU hj)];cases h1:Nat.beq k i
  ·simp only [Nat.beq_refl];exact (gE hi).symm
  ·have:=(hb k i).1 h1;subst this;exact (gE hi).symm
 ·rw [List.getElem?_set_ne (Ne.symm hkj)];by_cases kA:k=i
  ·subst kA;rw [cQ hi];simp only [Nat.beq_refl];exact (gE hj).symm
  ·rw [List.getElem?_set_ne (Ne.symm kA)]
   have h1:Nat.beq k i=false:=by
    cases h:Nat.beq k i
    ·rfl
    ·exact (kA ((hb k i).1 h)).elim
   have h2:Nat.beq k j=false:=by
    cases h:Nat.beq k j
    ·rfl
    ·exact (hkj ((hb k j).1 h)).elim
   simp only [h1,h2]
theorem Qb {α:Type} {i j:Nat} {l:List α} (hi:i < l.length) (hj:j < l.length):swL i j (swL i j l)=l:=by
 apply List.ext_getElem?;intro k;rw [fb (by rw [dh];exact hi) (by rw [dh];exact hj),fb hi hj,lk]
section
variable {E:En} {i j:Nat}
mutual
theorem Rv.Gu (hi:i < E.β.length) (hj:j < E.β.length):∀ {d:DV} {v:Value},Rv E (renD (swp i j) d) v->Rv ⟨E.c,swL i j E.β,E.tk,E.τ⟩ d v
 | .v x,v,h=>by simp only [renD] at h;unfold Rv at h ⊢;exact h
 | .ud,v,h=>by simp only [renD] at h;unfold Rv at h ⊢;exact h
 | .sl e es tk,v,h=>by simp only [renD] at h;unfold Rv at h ⊢;exact h
 | .pt cs o,v,h=>by simp only [renD] at h;unfold Rv at h ⊢;exact h
 | .loc k o,v,h=>by
  simp only [renD] at h;unfold Rv at h ⊢;obtain ⟨b,h1,h2⟩:=h;exact ⟨b,by show (swL i j E.β)[k]? = _;rw [fb hi hj];exact h1,h2⟩
 | .el k o,v,h=>by
  simp only [renD] at h;unfold Rv at h ⊢;obtain ⟨b,h1,h2⟩:=h;exact ⟨b,by show (swL i j E.β)[k]? = _;rw [fb hi hj];exact h1,h2⟩
 | .ms k e o l c,v,h=>by
  simp only [renD] at h;unfold Rv at h ⊢;obtain ⟨b,ad,h1,h2⟩:=h;exact ⟨b,ad,by show (swL i j E.β)[k]? = _;rw [fb hi hj];exact h1,h2⟩
 | .agg l,v,h=>by
  simp only [renD] at h;unfold Rv at h ⊢;obtain ⟨vs,h1,h2,h3⟩:=h;exact ⟨vs,h1,RvL.Gu hi hj h2,h3⟩
 | .tup l,v,h=>by
  simp only [renD] at h;unfold Rv at h ⊢;obtain ⟨vs,h1,h2⟩:=h;exact ⟨vs,h1,RvL.Gu hi hj h2⟩
 | .fn g l r,v,h=>by
  simp only [renD] at h;unfold Rv at h ⊢;obtain ⟨l',r',h1,h2,h3⟩:=h;exact ⟨l',r',h1,RvL.Gu hi hj h2,RvL.Gu hi hj h3⟩
 | .sq t x,v,h=>by
  simp only [renD] at h;unfold Rv at h ⊢;obtain ⟨z,h1,h2⟩:=h;exact ⟨z,h1,Rv.Gu hi hj h2⟩
theorem RvL.Gu (hi:i < E.β.length) (hj:j < E.β.length):∀ {l:List DV} {vs:List Value},RvL E (renL (swp i j) l) vs->RvL ⟨E.c,swL i j E.β,E.tk,E.τ⟩ l vs
 | [],vs,h=>by simp only [renL,RvL] at h ⊢;exact h
 | d :: r,vs,h=>by
  simp only [renL,RvL] at h ⊢;obtain ⟨v,s,h1,h2,h3⟩:=h;exact ⟨v,s,h1,Rv.Gu hi hj h2,RvL.Gu hi hj h3⟩
end
end
theorem Iu {α:Type} {i j:Nat} {l:List α} (hi:i < l.length) (hj:j < l.length) {x:α}:x∈swL i j l↔x∈l:=by
 have h1:∀ (l:List α),i < l.length->j < l.length->x∈swL i j l->x∈l:=by
  intro l hi hj h;obtain ⟨k,hk⟩:=List.mem_iff_getElem?.1 h;rw [fb hi hj] at hk;exact mG hk
 refine ⟨h1 l hi hj,fun h=>?_⟩;have:=h1 (swL i j l) (by rw [dh];exact hi) (by rw [dh];exact hj);rw [Qb hi hj] at this;exact this h
theorem JY {i j:Nat} {l:List Nat} (hi:i < l.length) (hj:j < l.length) (h:l.Nodup):(swL i j l).Nodup:=by
 have ap:∀ k,k < l.length->swp i j k < l.length:=by
  intro k hk;unfold swp;split
  ·exact hj
  ·split
   ·exact hi
   ·exact hk
 unfold List.Nodup;rw [List.pairwise_iff_getElem];intro a b ha hb zb he;rw [dh] at ha hb
 have hg:∀ k (hk:k < l.length),(swL i j l)[k]'(by rw [dh];exact hk)=l[swp i j k]'(ap k hk):=by
  intro k hk;have:=fb hi hj k;rw [gE (by rw [dh];exact hk),gE (ap k hk)] at this;exact Option.some.inj this
 rw [hg a ha,hg b hb] at he
 have h1:l[swp i j a]? = l[swp i j b]?:=by
  rw [gE (ap a ha),gE (ap b hb),he]
 have:=(List.getElem?_inj (ap a ha) h).1 h1;have:=congrArg (swp i j) this;rw [lk,lk] at this;omega
theorem lT {P:Program} {ops:Array Oper} {W:Nat->Bool} {C:World->Prop} {Q Q':Act->World->Prop} (hQ:∀ a w,Q a w->Q' a w):∀ {l:List Nat} {a:Act} {w:World},runT P ops W C Q l a w->runT P ops W C Q' l a w
 | [],a,w,h=>hQ _ _ h
 | i :: r,a,w,h=>by
  simp only [runT] at h ⊢;split at h
  ·exact h.elim
  ·split at h
   ·rename_i hE;rw [ai hE];exact cI (fun a w hk=>⟨hk.1,lT hQ hk.2⟩) h
   ·rename_i hE;rw [ah hE];obtain ⟨v,h1,h2,h3⟩:=h;exact ⟨v,h1,h2,lT hQ h3⟩
section
variable {X:Ctx} {E:En} {S:St} {a:Act} {w:World} {i j:Nat}
theorem DF (hX:X.bt=[]) (h:Rel X E (dX i j S) a w) (Ln:X.n0<=i) (y5:X.n0<=j) (hi:i < S.bx.length) (hj:j < S.bx.length):Rel X ⟨E.c,swL i j E.β,E.tk,E.τ⟩ S a w:=by
 have hlen:E.β.length=S.bx.length:=by
  rw [h.env.len];simp only [dX,dh,cX]
 have eQ:i < E.β.length:=by rw [hlen];exact hi
 have gw:j < E.β.length:=by rw [hlen];exact hj
 have uN:∀ k,(dX i j S).bx[k]? = (S.bx[swp i j k]?).map (renL (swp i j)):=fun k=>by
  simp only [dX];rw [fb (by rw [cX];exact hi) (by rw [cX];exact hj),q8]
 exact {
  env:={
   len:=by rw [dh];exact hlen
   tl:=h.env.tl
   fk:=fun k cs hk=>by
    obtain ⟨b,ty,arr,hb,hw,hc⟩:=h.env.fk (swp i j k) (renL (swp i j) cs) (by rw [uN,lk,hk];rfl);exact ⟨b,ty,arr,by rw [fb eQ gw];exact hb,hw,RvL.Gu eQ gw hc.1,hc.2⟩
   inj:=JY eQ gw h.env.inj
   sub:=h.env.sub
   pc:=fun x v hx hm=>h.env.pc x v hx ((Iu eQ gw).1 hm)
   cC:=fun k q y hq hy=>by
    rcases h.env.cC k q y hq hy with h1 | ⟨g,cap,cur,rfl,h1,h2,h3,h4,h5,h6⟩
    ·exact .inl h1
    ·exact .inr ⟨g,cap,cur,rfl,h1,h2,h3,h4,fun hm=>h5 ((Iu eQ gw).1 hm),h6⟩
   jE:=h.env.jE }
  tk:=h.tk
  sz:=h.sz
  tm:=fun k x hx=>by
   have:=h.tm k ⟨x.gs,renD (swp i j) x.s⟩ (by simp only [dX];rw [DE,hx];rfl);refine ⟨fun hh=>?_,this.2⟩;obtain ⟨v,h1,h2⟩:=this.1 hh;exact ⟨v,h1,Rv.Gu eQ gw h2⟩
  df:=h.df
  nw:={
   c:=h.nw.c
   cn:=h.nw.cn
   β:=by
    obtain ⟨r,hr,hl⟩:=h.nw.β;have hE0:X.E0.β.length=X.n0:=X.kX;refine ⟨(swL i j E.β).drop X.n0,?_,fun b hb=>?_⟩
    ·show swL i j E.β=_
     have:(swL i j E.β).take X.n0=X.E0.β:=by
      apply List.ext_getElem?;intro k;rw [cf];split
      ·rename_i hk;rw [fb eQ gw]
       have:swp i j k=k:=by
        unfold swp;have hb:∀ a b:Nat,Nat.beq a b=true↔a=b:=fun a b=>by simp
        cases h1:Nat.beq k i
        ·cases h2:Nat.beq k j
         ·rfl
         ·have:=(hb k j).1 h2;omega
        ·have:=(hb k i).1 h1;omega
       rw [this,hr,cj (by omega)]
      ·rename_i hk;exact (cR (by omega)).symm
     rw [<- this,List.take_append_drop]
    ·have hnd:=h.env.inj;obtain ⟨k,hk⟩:=List.mem_iff_getElem?.1 hb;rw [List.getElem?_drop,fb eQ gw] at hk
     have aQ:X.n0<=swp i j (X.n0 + k):=by
      unfold swp;split
      ·exact y5
      ·split
       ·exact Ln
       ·omega
     rw [hr,List.getElem?_append_right (by omega)] at hk;exact hl b (mG hk)
   tk:=h.nw.tk
   tn:=h.nw.tn
   l0:=h.nw.l0 }
  fr:=h.fr
  sh:=h.sh
  bt:=.nil hX }
theorem vf (hX:X.bt=[]) (h:Rel X E (dX i j S) a w) (Ln:X.n0<=i) (y5:X.n0<=j) (hi:i < S.bx.length) (hj:j < S.bx.length):∃ E',Rel X E' S a w:=⟨_,DF hX h Ln y5 hi hj⟩
end
def Iv (sl:List (Nat × Sl)):List (Nat × Sl)->Prop
 | []=>True
 | p :: r=>get sl p.1=some p.2/\Iv sl r
theorem wo {sl:List (Nat × Sl)}:∀ {l:List (Nat × Sl)},Iv sl l->∀ i x,get l i=some x->get sl i=some x
 | [],_,i,x,hx=>by cases hx
 | (k,y) :: r,h,i,x,hx=>by
  simp only [dV] at hx;split at hx
  ·rename_i kA;subst kA;simp only [oI] at hx;subst hx;exact h.1
  ·exact wo h.2 i x hx
def uniqS:List Nat->List (Nat × Sl)->List (Nat × Sl)
 | _,[]=>[]
 | m,p :: r=>
  match muB m p.1 with
  | true=>uniqS m r
  | false=>p :: uniqS (p.1 :: m) r
theorem sM:∀ (l:List (Nat × Sl)) (m:List Nat) (i:Nat),muB m i=false->get (uniqS m l) i=get l i
 | [],_,_,_=>rfl
 | (k,x) :: r,m,i,h=>by
  simp only [uniqS]
  cases hm:muB m k with
  | true=>
   simp only;rw [sM r m i h,dV,ah];rintro rfl;rw [hm] at h;cases h
  | false=>
   simp only [dV];by_cases hk:k=i
   ·rw [ai hk,ai hk]
   ·rw [ah hk,ah hk]
    exact sM r (k :: m) i (by simp only [muB,h,Bool.or_false];cases hb:Nat.beq k i with
     | true=>exact (hk (Nat.eq_of_beq_eq_true hb)).elim
     | false=>rfl)
def cY (s S:St):Prop:=s.bx=S.bx/\s.tk=S.tk/\Iv s.sl (uniqS [] S.sl)
theorem nW {X:Ctx} {E:En} {s S:St} {a:Act} {w:World} (h:Rel X E s a w) (hs:cY s S):Rel X E S a w where
 env:=by rw [<- hs.1];exact h.env
 tk:=by rw [<- hs.2.1];exact h.tk
 sz:=h.sz
 tm:=fun i x hx=>h.tm i x (wo hs.2.2 i x (by rw [sM _ _ _ rfl];exact hx))
 df:=h.df
 nw:=h.nw
 fr:=h.fr
 sh:=h.sh
 bt:=h.bt
theorem oN {X:Ctx} {id:Nat} {ops:Array Oper} {k:List It} {st:St} (W:Nat->Bool) (x y:Nat) (l l':List Nat) (i j:Nat) (hm:X.P.follows .mixedOrders=true) (hc:Xd ops W l l' x y=true) (S:St)
  (h:goD X ⟨ops,W,[.rZ fun s=>s=S],st,none⟩ 3000 true (selL ops.toList l) st.sl st) (h':goD X ⟨ops,W,[.rZ fun s=>cY s (dX i j S)],st,none⟩ 3000 true (selL ops.toList l') st.sl st)
  (jB:(Nat.ble X.n0 i && Nat.ble X.n0 j && Nat.blt i S.bx.length && Nat.blt j S.bx.length)=true) (hk:go X 4000 k S) (hX:X.bt=[]:=by exact rfl):lO X id ops k st:=by
 intro E a w hr;have iw:=jF hr;simp only [aP,Nat.ble_eq,Nat.blt_eq] at jB;simp only [Xd,Gt,aP,List.all_eq_true,Nat.blt_eq,Nat.ble_eq,beq_iff_eq,List.mem_range,Bool.not_eq_true'] at hc;obtain ⟨⟨⟨⟨⟨⟨⟨⟨⟨Gr,qA⟩,WJ⟩,⟨⟨⟨h1a,R6⟩,Wg⟩,hlen⟩,h1d⟩,⟨⟨⟨h2a,h2b⟩,h2c⟩,_⟩,h2d⟩,Wf⟩,Xb⟩,h2O⟩,Xc⟩,hT⟩:=hc
 have hQ:∀ S',(S'=S∨S'=dX i j S)->∀ a w,(∃ st E,Rel X E st a w/\(st=S' ∨ cY st S'))->kq X k .normal a w:=by
  rintro S' hS a w ⟨qC,E1,R7,tW⟩
  have ch:Rel X E1 S' a w:=by
   rcases tW with rfl | tW
   ·exact R7
   ·exact nW R7 tW
  rcases hS with rfl | rfl
  ·exact go_sound 4000 _ _ hk E1 a w ch
  ·obtain ⟨E2,nV⟩:=vf hX ch jB.1.1.1 jB.1.1.2 jB.1.2 jB.2;exact go_sound 4000 _ _ hk E2 a w nV
 have key:∀ (S':St),(S'=S∨S'=dX i j S)->∀ (l:List Nat),(selL ops.toList l).map (·.1)=l->∀ J:St->Prop,(∀ s,J s->s=S' ∨ cY s S')->(goD X ⟨ops,W,[.rZ J],st,none⟩ 3000 true (selL ops.toList l) st.sl st) ->
   runT X.P ops W (CC E st.bx w.drew) (fun a w=>kq X k .normal a w) l a w.drew:=by
  intro S' hS l hl J hJ h;have hs:=kG iw (ops:=ops) (W:=W) (k:=[.rZ J]);have:=eH (D:=⟨⟨ops,W,[.rZ J],st,none⟩,E,w.drew⟩) iw.env.em 3000 true _ _ _ h (fun p hp=>by simpa using wm hp) E a w.drew hs;rw [hl] at this;exact lT (fun a w ⟨st,E1,h1,h2⟩=>hQ S' hS a w ⟨st,E1,h1,hJ st h2⟩) this
 have e1:=key S (.inl rfl) l h1a _ (fun s hs=>.inl hs) h;have e2:=key (dX i j S) (.inr rfl) l' h2a _ (fun s hs=>.inr hs) h';refine wp_region_any hm ?_
 have Lv:∀ (l:List Nat),(∀ i,i < ops.size->l.contains i=true)->(∀ i∈l,i < ops.size)->∀ i,i∈l↔i < ops.size/\(Array.replicate ops.size false).getD i true=false:=by
  intro l ha hb i;constructor
  ·intro hi;exact ⟨hb i hi,by simp [hb i hi]⟩
  ·intro hi;simpa using ha i hi.1
 have hxy':x≠y:=by
  intro e;subst e;simp at Gr
 refine Gq (C:=CC E st.bx w.drew) (π:=plc l) (π':=plc l') (Q:=kq X k .normal) hxy' Wf Xb h2O Xc hT (fun a w h=>h) ops.size (Array.replicate ops.size false) l l' a _ (by simp) ?_ (Lv l R6 Wg) (Lv l' h2b h2c) (q7 h1d) (q7 h2d) hlen
  (by simpa using R6 x qA) (by simpa using R6 y WJ) ⟨fun _ _ _ _ _ _=>rfl,iw.env.sub⟩ e1 e2
 intro i o ho hl;have:i < ops.size:=(Array.getElem?_eq_some_iff.1 ho).1;simp [this] at hl
end Dv
end Go.Proofs.YtadhpeooehkklaaGreat
namespace Go.Proofs.YtadhpeooehkklaaGreat
namespace Dv
open Go Go.RowKit
section
variable {X:Ctx} {st:St} {k:List It} {E:En} {a:Act} {w:World}
noncomputable def En.C6 (E:En) (w:World):En:=⟨sD E 0 w,[],[],[]⟩
theorem Qc {bx:List (List DV)} (h:Env E bx w):Env (E.C6 w) [] w where
 len:=rfl
 tl:=rfl
 fk:=by simp
 inj:=List.nodup_nil
 sub:=fun x u hx=>by
  rcases eY hx with ⟨_,h1⟩ | h1
  ·exact h1
  ·exact h.sub x u h1
 pc:=by simp [En.C6]
 cC:=by simp [En.C6]
 jE:=by simp [En.C6]
theorem Qd {bx:List (List DV)} (h:Env E bx w):Lr E (E.C6 w) bx 0 where
 c:=fun x u hx=>mD h hx
 fz:=fun i cs hi dr=>by
  obtain ⟨b,ty,arr,hb,hw,hc⟩:=h.fk i cs dr;refine ⟨b,arr,hb,hc,fun j u hj=>?_⟩;show sD E 0 w ⟨b,j,none⟩=some u;unfold sD;rw [ai ⟨i,hi,hb⟩,cS hw];simpa using hj
theorem j9 {P:Program} {s:Bool} {bx:List (List DV)} (h:Env E bx w) {f:FuncId} {args bJ:List DV} {vs:List Value} {y:DV} (hc:T6 s P f bJ [] [] fun d _ _=>d=y) (ha:CcL bx 0 0 0 bJ args) (hv:RvL E args vs) :
  Calls P f vs.toArray w fun e w'=>∃ v E2,e = .returned v/\Rv E2 y v/\qI (fun _=>False) w w' /\ (s=true->∃ q,w'=w.drewN q):=by
 have TH:RvL (E.C6 w) bJ vs:=CcL.sound (Qd h) (Im.zero _ _) ha hv;refine (hc (E.C6 w) w vs (Qc h) rfl TH).mono ?_;rintro e w' ⟨v,rfl,hm,hs,d,os,E2,he,hβ,k0,hn,y9,rfl⟩;refine ⟨v,E2,rfl,y9,⟨hm.os,hm.tape,hm.output,hm.size,fun i hi _=>hm.block i hi ?_⟩,hs⟩;rintro (h1 | ⟨y,h1,_⟩)
 ·simp [En.C6] at h1
 ·simp [En.C6] at h1
theorem BJ {f:FuncId} {args bJ:List DV} {d:Nat} {y:Value} (mC:Enters X.P f) (hc:aV X.P f bJ (.v y)) (ha:CcL st.bx 0 0 0 bJ args) (hd:gp X.nt st.sl (some d)=true)
  (hk:go X 4000 k ⟨(d,⟨[],.v y⟩) :: st.sl,st.bx,st.tk⟩) (aW:X.still=false:=by exact rfl):ie X f args (some d) k st:=by
 refine ⟨mC,aW,fun E a w vs h hv=>(j9 h.env hc ha hv).mono ?_⟩;rintro e w' ⟨v,E2,rfl,hr,hm,_⟩;have hh:∀ i,i < w.heap.size->w'.heap[i]? = w.heap[i]?:=fun i hi=>hm.block i hi (fun h=>h);have ch:Rel X E st a w':=dB h (Ext.refl E) (h.env.j8 hh) h.tk h.nw (h.fr.dg hm.os hm.tape hm.output hm.size fun i hi=>.inr (hh i hi)) (nR aW) (h.bt.j8 fun b hb=>hh b (h.env.bm hb));unfold Rv at hr;exact go_sound 4000 _ _ hk E _ w' (bG ch hd (.v y) v (by unfold Rv;exact hr))
end
end Dv
end Go.Proofs.YtadhpeooehkklaaGreat
namespace Go.Proofs.YtadhpeooehkklaaGreat
namespace Dv
open Go Go.RowKit
def Md (bx:List (List DV)) (N m:Nat) (sl:List (Nat × Sl)):List (Nat × Sl)->Prop
 | []=>True
 | p :: r=>(∃ x,get sl p.1=some ⟨p.2.gs,x⟩/\Cc bx N N m p.2.s x)/\Md bx N m sl r
theorem zO {bx:List (List DV)} {N m:Nat} {sl:List (Nat × Sl)}:∀ {l:List (Nat × Sl)},Md bx N m sl l->∀ i x',get l i=some x' -> ∃ x,get sl i=some ⟨x'.gs,x⟩/\Cc bx N N m x'.s x
 | [],_,i,x',hx=>by cases hx
 | (k,y) :: r,h,i,x',hx=>by
  simp only [dV] at hx;split at hx
  ·rename_i kA;subst kA;simp only [oI] at hx;subst hx;exact h.1
  ·exact zO h.2 i x' hx
section
variable {X:Ctx} {E:En} {st st':St} {a:Act} {w:World} {k:List It}
theorem Iw (h:Rel X E st a w) (N:Nat) (hN:X.n0<=N) (hNl:N<=st.bx.length) (uN:nP st.bx N N st.tk.length st'.bx (st.bx.take N)) (k0:st'.tk=st.tk) (nK:Md st.bx N st.tk.length st.sl st'.sl):∃ E',Rel X E' st' a w:=by
 obtain ⟨r,PW,hβl⟩:=h.nw.β;have hlen:E.β.length=st.bx.length:=h.env.len
 have bY:∀ (i:Nat) b,X.n0<=i->E.β[i]? = some b->b∈r:=fun i b hi hb=>by
  rw [PW,List.getElem?_append_right (by rw [X.kX];exact hi)] at hb;exact mG hb
 let E':En:=⟨sD E N w,E.β.take N,E.tk,E.τ⟩
 have L1:Lr E E' st.bx N:={
  c:=fun x u hx=>mD h.env hx
  fz:=fun i cs hi dr=>by
   obtain ⟨b,ty,arr,hb,hw,hc⟩:=h.env.fk i cs dr;refine ⟨b,arr,hb,hc,fun j u hj=>?_⟩;show sD E N w ⟨b,j,none⟩=some u;unfold sD;rw [ai ⟨i,hi,hb⟩,cS hw]
   simpa using hj }
 have y8:Im E E' N st.tk.length:={
  β:=fun i b hi hb=>by show (E.β.take N)[i]? = _;rw [cf,ai hi];exact hb
  tk:=fun k hk=>⟨rfl,rfl⟩ }
 have T3:∀ (i:Nat) b,N<=i->E.β[i]? = some b->b ∉ E.β.take N:=fun i b hi hb hm=>by
  obtain ⟨j,hj⟩:=List.getElem?_of_mem hm;rw [cf] at hj;split at hj
  ·rename_i hjN;have:=(List.getElem?_inj (gS hb).1 h.env.inj).1 (hb.trans hj.symm);omega
  ·cases hj
 obtain ⟨jQ,WX⟩:=uN.get;refine ⟨E',?_⟩
 exact {
  env:={
   len:=by
    show (E.β.take N).length=st'.bx.length;rw [jQ,zLenT,zLenT];omega
   tl:=h.env.tl
   fk:=fun i cs' hi=>by
    obtain ⟨cs,dr,tX⟩:=WX i cs' hi;rw [cf] at dr;split at dr
    ·rename_i ap;obtain ⟨b,ty,arr,hb,hw,hc⟩:=h.env.fk i cs dr;exact ⟨b,ty,arr,y8.β i b ap hb,hw,CcL.sound L1 y8 tX hc.1,hc.2⟩
    ·cases dr
   inj:=h.env.inj.sublist (List.take_sublist _ _)
   sub:=fun x u hx=>by
    rcases eY hx with ⟨_,h1⟩ | h1
    ·exact h1
    ·exact h.env.sub x u h1
   pc:=fun x u hx hm=>by
    rcases eY hx with ⟨⟨i,hi,hb⟩,_⟩ | h1
    ·exact T3 i _ hi hb hm
    ·exact h.env.pc x u h1 (List.mem_of_mem_take hm)
   cC:=fun k q y hq hy=>by
    rcases h.env.cC k q y hq hy with h1 | ⟨g,cap,cur,rfl,h1,h2,h3,h4,h5,h6⟩
    ·exact .inl h1
    ·refine .inr ⟨g,cap,cur,rfl,h1,⟨h2.1,h2.2.mono fun _ _ hx=>mD h.env hx⟩,h3,h4,fun hm=>h5 (List.mem_of_mem_take hm),fun x u hx hg=>?_⟩;rcases eY hx with ⟨⟨i,hi,hb⟩,_⟩ | h7
     ·rw [hg] at hb;exact (h5 (mG hb)).elim
     ·exact h6 x u h7 hg
   jE:=h.env.jE }
  tk:=by rw [k0];exact h.tk
  sz:=h.sz
  tm:=fun i x' r6=>by
   obtain ⟨x,hx,tX⟩:=zO nK i x' r6;have:=h.tm i _ hx;refine ⟨fun hh=>?_,this.2⟩;obtain ⟨v,h1,h2⟩:=this.1 hh;exact ⟨v,h1,Cc.sound L1 y8 tX h2⟩
  df:=h.df
  nw:={
   c:=fun x u hx=>mD h.env (h.nw.c x u hx)
   cn:=fun x u hx=>by
    rcases eY hx with ⟨⟨i,hi,hb⟩,_⟩ | h1
    ·exact .inr (.inl (hβl _ (bY i _ (by omega) hb)))
    ·exact h.nw.cn x u h1
   β:=by
    refine ⟨r.take (N - X.n0),?_,fun b hb=>hβl b (List.mem_of_mem_take hb)⟩;show E.β.take N=_;rw [PW,List.take_append,List.take_of_length_le (by rw [X.kX];omega),X.kX]
   tk:=h.nw.tk
   tn:=h.nw.tn
   l0:=h.nw.l0 }
  fr:=h.fr
  sh:=h.sh
  bt:=h.bt.sub _ }
theorem Me {c:Code} (N:Nat) (qC:St) (hN:Nat.ble X.n0 N=true) (hNl:Nat.ble N st.bx.length=true) (k0:qC.tk=st.tk) (uN:nP st.bx N N st.tk.length qC.bx (st.bx.take N)) (nK:Md st.bx N st.tk.length st.sl qC.sl)
  (hk:pw X c k qC):pw X c k st:=by
 intro E a w h;obtain ⟨E',h'⟩:=Iw h N (nL hN) (nL hNl) uN k0 nK;exact hk E' a w h'
theorem dc {n0 m0:Nat} {st st':St} (n:Nat) (q:TkE) (hq:q.new=true) (hn:Nat.ble n st.bx.length=true) (h3:st.tk ++ [q]=st'.tk) (h2:WeLL n st.tk.length st'.tk (st.bx.take n) st'.bx) (h4:Nat.ble n0 n=true) (h5:Nat.ble m0 st.tk.length=true)
  (h:tY n st.tk.length st'.tk st.sl st'.sl):sE n0 m0 st st':=by
 have hl:(st.bx.take n).length=n:=by
  have:=nL hn;rw [zLenT];omega
 exact ⟨st.tk,[],[q],st.bx.take n,st.bx.drop n,by simpa using h5,by rw [hl];simpa using h4,by simp,h3.symm,by simpa using hq,(List.take_append_drop n st.bx).symm,by rw [hl];exact h2,by rw [hl];exact h⟩
end
end Dv
end Go.Proofs.YtadhpeooehkklaaGreat
namespace Go.Proofs.YtadhpeooehkklaaGreat
namespace Dv
open Go Go.RowKit
section
variable {X:Ctx} {st:St} {k:List It} {E:En} {a:Act} {w:World}
theorem mJ {f:FuncId} {rest Mf cs cs':List DV} {i d:Nat} (mC:Enters X.P f) (hd:gp X.nt st.sl (some d)=true) (uN:st.bx[i]? = some cs) (dr:CcL [] 0 0 0 cs' cs) (ha:CcL [] 0 0 0 Mf rest)
  {Φ:DV->List (List DV)->List TkE->Prop} (hc:Ev X.P f (.loc 0 0 :: Mf) [cs'] [] Φ) (eS:∀ r os tk,Φ r os tk->clB 0 0 r=true/\∀ sc∈os,clB.clL 0 0 sc=true)
  (hk:∀ r sc,Φ r [sc] []->go X 4000 k ⟨(d,⟨[],r⟩) :: st.sl,st.bx.set i sc,st.tk⟩) (aW:X.still=false:=by exact rfl) (hX:X.bt=[]:=by exact rfl):ie X f (.loc i 0 :: rest) (some d) k st:=by
 refine ⟨mC,aW,fun E a w vs h hv=>?_⟩;simp only [RvL] at hv;obtain ⟨v1,vr,rfl,h1,hvr⟩:=hv;unfold Rv at h1;obtain ⟨b,hb,rfl⟩:=h1;obtain ⟨b',ty,arr,gv,hw,tX⟩:=h.env.fk i cs uN;rw [hb] at gv;simp only [oI] at gv;subst gv;have BK:b∈E.β:=mG hb;have Um:=h.env.bm BK
 let E1:En:=⟨E.c,[b],[],[]⟩
 have hx1:Ext E.cl E1:=⟨fun _ _ h=>h,fun j b hj=>by simp [En.cl] at hj,fun k q hk=>by simp [En.cl] at hk⟩;have hfz:Lr E E.cl [] 0:=⟨fun _ _ h=>h,fun i cs _ hi=>by simp at hi⟩
 have Xe:Env E1 [cs'] w:={
  len:=rfl
  tl:=rfl
  fk:=fun j Xf hj=>by
   cases j with
   | succ j=>simp at hj
   | zero=>
    simp only [List.getElem?_cons_zero,oI] at hj;subst hj;refine ⟨b,ty,arr,rfl,hw,RvL.mono hx1 (CcL.sound hfz (Im.zero _ _) dr tX.1),tX.2⟩
  inj:=by simp [E1]
  sub:=h.env.sub
  pc:=fun x v hx hm=>by
   simp only [E1,List.mem_singleton] at hm;exact h.env.pc x v hx (by rw [hm];exact BK)
  cC:=by simp [E1]
  jE:=by simp [E1] }
 have nI:RvL E1 (.loc 0 0 :: Mf) (.pointer (some ⟨b,0,none⟩) :: vr):=rvL_cons (by unfold Rv;exact ⟨b,rfl,rfl⟩) (RvL.mono hx1 (CcL.sound hfz (Im.zero _ _) ha hvr));refine (hc E1 w _ Xe rfl nI).mono ?_;rintro e w' ⟨v,rfl,hm,_,r,os,E2,he,hβ,k0,hn,y9,hΦ⟩;have ht0:E2.tk=[]:=List.eq_nil_of_length_eq_zero k0;rw [ht0] at hΦ
 obtain ⟨sc,rfl⟩:∃ sc,os=[sc]:=by
  have:=he.len;rw [hβ] at this
  match os,this with
  | [x],_=>exact ⟨x,rfl⟩
 obtain ⟨hclr,hclc⟩:=eS _ _ _ hΦ
 have hh:∀ j,j < w.heap.size->j≠b->w'.heap[j]? = w.heap[j]?:=fun j hj bp=>hm.block j hj (by
  rintro (h1 | ⟨y,h1,_⟩)
  ·simp only [E1,List.mem_singleton] at h1;exact bp h1
  ·simp [E1] at h1)
 have bY:∀ x v,E2.c x=some v->E.c x=some v∨w.heap.size<=x.block:=fun x v hx=>by
  rcases hn.cn x v hx with h1 | h1 | ⟨y,h1,_⟩
  ·exact .inl h1
  ·exact .inr h1
  ·simp [E1] at h1
 let E':En:=⟨E2.c,E.β,E.tk,E.τ⟩
 have hx:Ext E E':=⟨hn.c,fun _ _ h=>h,fun _ q h=>⟨q,h,.inl ⟨rfl,rfl⟩⟩⟩;have Pz:Ext (E2.cut 0 0) E':=⟨fun _ _ h=>h,fun j b hj=>by simp [En.cut] at hj,fun k q hk=>by simp [En.cut] at hk⟩
 have ch:Rel X E' ⟨st.sl,st.bx.set i sc,st.tk⟩ a w':=by
  refine dB h hx ?_ h.tk ?_ (h.fr.dg hm.os hm.tape hm.output hm.size fun j hj=>?_) (nR aW) (.nil hX)
  ·exact {
    len:=by rw [List.length_set];exact h.env.len
    tl:=h.env.tl
    fk:=fun j Xf hj=>by
     by_cases Ge:j=i
     ·subst Ge;rw [cQ (gS uN).1] at hj;simp only [oI] at hj;subst hj;obtain ⟨b2,ty2,Un,lh,hw2,lA⟩:=he.fk 0 sc rfl;rw [hβ] at lh;simp only [E1,List.getElem?_cons_zero,oI] at lh;subst lh;exact ⟨b,ty2,Un,hb,hw2,RvL.mono Pz (RvL.cut lA.1 (hclc sc (by simp))),lA.2⟩
     ·rw [List.getElem?_set_ne (Ne.symm Ge)] at hj;obtain ⟨bj,tyj,Uo,R8,Xg,LS⟩:=h.env.fk j Xf hj
      have bp:bj≠b:=by
       rintro rfl;exact Ge ((List.getElem?_inj (gS R8).1 h.env.inj).1 (R8.trans hb.symm))
      exact ⟨bj,tyj,Uo,R8,by rw [hh bj (dA Xg) bp];exact Xg,LS.mono hx⟩
    inj:=h.env.inj
    sub:=he.sub
    pc:=fun x v hc lQ=>by
     rcases bY x v hc with h1 | h1
     ·exact h.env.pc x v h1 lQ
     ·have:=h.env.bm lQ;omega
    cC:=fun k q y hq hy=>by
     rcases h.env.cC k q y hq hy with h1 | ⟨g',cap,cur,rfl,h1,h2,h3,h4,h5,h6⟩
     ·exact .inl h1
     ·refine .inr ⟨g',cap,cur,rfl,by rw [hh g' (dA h1) (fun e=>h5 (by rw [e];exact BK))];exact h1,⟨h2.1,h2.2.mono hn.c⟩,h3,h4,h5,fun x v hc hg=>?_⟩;rcases bY x v hc with h7 | h7
      ·exact h6 x v h7 hg
      ·have:=dA h1;omega
    jE:=h.env.jE }
  ·exact {
    c:=fun x v hc=>hn.c x v (h.nw.c x v hc)
    cn:=fun x v hc=>by
     rcases bY x v hc with h1 | h1
     ·exact h.nw.cn x v h1
     ·have:=h.fr.size;exact .inr (.inl (by omega))
    β:=h.nw.β
    tk:=h.nw.tk
    tn:=h.nw.tn
    l0:=h.nw.l0 }
  ·by_cases JJ:j=b
   ·left;obtain ⟨r0,hr0,Lv⟩:=h.nw.β;rw [hr0] at BK;rcases List.mem_append.1 BK with BK | BK
    ·exact .inl (.inl (JJ ▸ BK))
    ·exact .inr (JJ ▸ Lv b BK)
   ·exact .inr (hh j hj JJ)
 exact go_sound 4000 _ _ (hk r sc hΦ) E' _ w' (bG ch hd r v (Rv.mono Pz (Rv.cut y9 hclr)))
end
end Dv
end Go.Proofs.YtadhpeooehkklaaGreat
namespace Go.Proofs.YtadhpeooehkklaaGreat
namespace Dv
open Go
def tt:TT:=.aq 161 ⟨2051,true,.st [(0,102),(1,93),(2,158),(3,160),(1027,160)],(.slice none 0 0 :: .pointer none :: .pointer none :: List.replicate 2048 (.int .i64 0))⟩ (.aq 82 ⟨1,false,.fn,[.nilFunc]⟩ (.aq 39 ⟨1,false,.fn,[.nilFunc]⟩ (.aq 19 ⟨1,true,.st [(0,17)],[.pointer none]⟩ (.aq 10 ⟨1,false,.str,[.string ByteArray.empty]⟩ (.aq 5 ⟨1,false,.int .u8,[.int .u8 0]⟩ (.aq 3 ⟨1,false,.int .i64,[.int .i64 0]⟩ (.aq 2 ⟨1,false,.int .i64,[.int .i64 0]⟩ (.aq 1 ⟨1,false,.fn,[.nilFunc]⟩ (.nil) (.nil)) (.nil)) (.aq 4 ⟨1,false,.bool,[.bool false]⟩ (.nil) (.nil))) (.aq 8 ⟨4,true,.st [(0,2),(1,3),(2,4),(3,6)],[.int .i64 0,.int .i64 0,.bool false,.int .u8 0]⟩ (.aq 7 ⟨4,true,.st [(0,2),(1,3),(2,4),(3,6)],[.int .i64 0,.int .i64 0,.bool false,.int .u8 0]⟩ (.aq 6 ⟨1,false,.int .u8,[.int .u8 0]⟩ (.nil) (.nil)) (.nil)) (.aq 9 ⟨1,false,.str,[.string ByteArray.empty]⟩ (.nil) (.nil)))) (.aq 15 ⟨1,false,.ptr 308,[.pointer none]⟩ (.aq 13 ⟨2,true,.st [(0,9),(1,12)],[.string ByteArray.empty,.int .u64 0]⟩ (.aq 12 ⟨1,false,.int .u64,[.int .u64 0]⟩ (.aq 11 ⟨1,false,.str,[.string ByteArray.empty]⟩ (.nil) (.nil)) (.nil)) (.aq 14 ⟨2,true,.st [(0,9),(1,12)],[.string ByteArray.empty,.int .u64 0]⟩ (.nil) (.nil))) (.aq 17 ⟨1,false,.ptr 319,[.pointer none]⟩ (.aq 16 ⟨1,false,.ptr 311,[.pointer none]⟩ (.nil) (.nil)) (.aq 18 ⟨1,true,.st [(0,17)],[.pointer none]⟩ (.nil) (.nil))))) (.aq 29 ⟨9,true,.st [(0,3),(1,3),(2,3),(3,3),(4,3),(5,22),(6,25),(7,27)],[.int .i64 0,.int .i64 0,.int .i64 0,.int .i64 0,.int .i64 0,.slice none 0 0,.slice none 0 0,.string ByteArray.empty,.int .i64 0]⟩ (.aq 24 ⟨1,false,.sl 87 11 136,[.slice none 0 0]⟩ (.aq 22 ⟨1,false,.sl 27 2 24,[.slice none 0 0]⟩ (.aq 21 ⟨1,false,.int .i32,[.int .i32 0]⟩ (.aq 20 ⟨1,false,.sq,[.nilIface]⟩ (.nil) (.nil)) (.nil)) (.aq 23 ⟨1,false,.sl 220 4 48,[.slice none 0 0]⟩ (.nil) (.nil))) (.aq 27 ⟨2,true,.st [(0,9),(1,3)],[.string ByteArray.empty,.int .i64 0]⟩ (.aq 26 ⟨2,true,.st [(0,9),(1,3)],[.string ByteArray.empty,.int .i64 0]⟩ (.aq 25 ⟨1,false,.sl 153 18 224,[.slice none 0 0]⟩ (.nil) (.nil)) (.nil)) (.aq 28 ⟨9,true,.st [(0,3),(1,3),(2,3),(3,3),(4,3),(5,22),(6,25),(7,27)],[.int .i64 0,.int .i64 0,.int .i64 0,.int .i64 0,.int .i64 0,.slice none 0 0,.slice none 0 0,.string ByteArray.empty,.int .i64 0]⟩ (.nil) (.nil)))) (.aq 34 ⟨4,true,.st [(0,3),(1,3),(2,9),(3,32)],[.int .i64 0,.int .i64 0,.string ByteArray.empty,.slice none 0 0]⟩ (.aq 32 ⟨1,false,.sl 34 4 56,[.slice none 0 0]⟩ (.aq 31 ⟨12,true,.st [(0,22),(1,23),(2,24),(3,29)],[.slice none 0 0,.slice none 0 0,.slice none 0 0,.int .i64 0,.int .i64 0,.int .i64 0,.int .i64 0,.int .i64 0,.slice none 0 0,.slice none 0 0,.string ByteArray.empty,.int .i64 0]⟩ (.aq 30 ⟨12,true,.st [(0,22),(1,23),(2,24),(3,29)],[.slice none 0 0,.slice none 0 0,.slice none 0 0,.int .i64 0,.int .i64 0,.int .i64 0,.int .i64 0,.int .i64 0,.slice none 0 0,.slice none 0 0,.string ByteArray.empty,.int .i64 0]⟩ (.nil) (.nil)) (.nil)) (.aq 33 ⟨4,true,.st [(0,3),(1,3),(2,9),(3,32)],[.int .i64 0,.int .i64 0,.string ByteArray.empty,.slice none 0 0]⟩ (.nil) (.nil))) (.aq 36 ⟨6,true,.st [(0,3),(1,3),(2,3),(3,9),(4,22),(5,35)],[.int .i64 0,.int .i64 0,.int .i64 0,.string ByteArray.empty,.slice none 0 0,.slice none 0 0]⟩ (.aq 35 ⟨1,false,.sl 37 6 88,[.slice none 0 0]⟩ (.nil) (.nil)) (.aq 37 ⟨6,true,.st [(0,3),(1,3),(2,3),(3,9),(4,22),(5,35)],[.int .i64 0,.int .i64 0,.int .i64 0,.string ByteArray.empty,.slice none 0 0,.slice none 0 0]⟩ (.nil) (.nil)))))) (.aq 62 ⟨1,false,.fn,[.nilFunc]⟩ (.aq 51 ⟨1,false,.fn,[.nilFunc]⟩ (.aq 44 ⟨2,true,.st [(0,43),(1,3)],[.int .i64 0,.int .i64 0]⟩ (.aq 42 ⟨1,false,.ptr 95,[.pointer none]⟩ (.aq 41 ⟨1,false,.fn,[.nilFunc]⟩ (.aq 40 ⟨1,false,.fn,[.nilFunc]⟩ (.nil) (.nil)) (.nil)) (.aq 43 ⟨1,false,.int .i64,[.int .i64 0]⟩ (.nil) (.nil))) (.aq 48 ⟨1,false,.fn,[.nilFunc]⟩ (.aq 47 ⟨1,false,.fn,[.nilFunc]⟩ (.aq 45 ⟨2,true,.st [(0,43),(1,3)],[.int .i64 0,.int .i64 0]⟩ (.nil) (.nil)) (.nil)) (.aq 50 ⟨1,false,.fn,[.nilFunc]⟩ (.nil) (.nil)))) (.aq 58 ⟨1,false,.fn,[.nilFunc]⟩ (.aq 55 ⟨1,false,.sl 59 1 24,[.slice none 0 0]⟩ (.aq 54 ⟨1,false,.fn,[.nilFunc]⟩ (.aq 52 ⟨1,false,.fn,[.nilFunc]⟩ (.nil) (.nil)) (.nil)) (.aq 56 ⟨1,false,.fn,[.nilFunc]⟩ (.nil) (.nil))) (.aq 60 ⟨1,false,.fn,[.nilFunc]⟩ (.aq 59 ⟨1,false,.sl 117 3 32,[.slice none 0 0]⟩ (.nil) (.nil)) (.aq 61 ⟨1,false,.fn,[.nilFunc]⟩ (.nil) (.nil))))) (.aq 72 ⟨1,false,.fn,[.nilFunc]⟩ (.aq 68 ⟨4,true,.st [(0,22),(1,65),(2,66),(3,3)],[.slice none 0 0,.slice none 0 0,.slice none 0 0,.int .i64 0]⟩ (.aq 66 ⟨1,false,.sl 128 7 88,[.slice none 0 0]⟩ (.aq 65 ⟨1,false,.sl 140 1 24,[.slice none 0 0]⟩ (.aq 64 ⟨1,false,.fn,[.nilFunc]⟩ (.nil) (.nil)) (.nil)) (.aq 67 ⟨4,true,.st [(0,22),(1,65),(2,66),(3,3)],[.slice none 0 0,.slice none 0 0,.slice none 0 0,.int .i64 0]⟩ (.nil) (.nil))) (.aq 70 ⟨8,true,.st [(0,68),(4,69),(5,69),(6,69),(7,69)],[.slice none 0 0,.slice none 0 0,.slice none 0 0,.int .i64 0,.slice none 0 0,.slice none 0 0,.slice none 0 0,.slice none 0 0]⟩ (.aq 69 ⟨1,false,.sl 3 1 8,[.slice none 0 0]⟩ (.nil) (.nil)) (.aq 71 ⟨8,true,.st [(0,68),(4,69),(5,69),(6,69),(7,69)],[.slice none 0 0,.slice none 0 0,.slice none 0 0,.int .i64 0,.slice none 0 0,.slice none 0 0,.slice none 0 0,.slice none 0 0]⟩ (.nil) (.nil)))) (.aq 78 ⟨1,false,.fn,[.nilFunc]⟩ (.aq 75 ⟨1,false,.fn,[.nilFunc]⟩ (.aq 74 ⟨1,false,.fn,[.nilFunc]⟩ (.aq 73 ⟨1,false,.fn,[.nilFunc]⟩ (.nil) (.nil)) (.nil)) (.aq 77 ⟨1,false,.fn,[.nilFunc]⟩ (.nil) (.nil))) (.aq 80 ⟨1,false,.fn,[.nilFunc]⟩ (.aq 79 ⟨1,false,.fn,[.nilFunc]⟩ (.nil) (.nil)) (.aq 81 ⟨1,false,.fn,[.nilFunc]⟩ (.nil) (.nil))))))) (.aq 122 ⟨1,false,.ptr 142,[.pointer none]⟩ (.aq 102 ⟨1,false,.sl 9 1 16,[.slice none 0 0]⟩ (.aq 93 ⟨1,false,.ptr 222,[.pointer none]⟩ (.aq 87 ⟨11,true,.st [(0,27),(2,29)],[.string ByteArray.empty,.int .i64 0,.int .i64 0,.int .i64 0,.int .i64 0,.int .i64 0,.int .i64 0,.slice none 0 0,.slice none 0 0,.string ByteArray.empty,.int .i64 0]⟩ (.aq 85 ⟨1,false,.fn,[.nilFunc]⟩ (.aq 84 ⟨1,false,.fn,[.nilFunc]⟩ (.aq 83 ⟨1,false,.fn,[.nilFunc]⟩ (.nil) (.nil)) (.nil)) (.aq 86 ⟨11,true,.st [(0,27),(2,29)],[.string ByteArray.empty,.int .i64 0,.int .i64 0,.int .i64 0,.int .i64 0,.int .i64 0,.int .i64 0,.slice none 0 0,.slice none 0 0,.string ByteArray.empty,.int .i64 0]⟩ (.nil) (.nil))) (.aq 91 ⟨1,false,.ptr 97,[.pointer none]⟩ (.aq 90 ⟨1,false,.fn,[.nilFunc]⟩ (.aq 88 ⟨1,false,.ptr 162,[.pointer none]⟩ (.nil) (.nil)) (.nil)) (.aq 92 ⟨1,false,.sl 105 7 88,[.slice none 0 0]⟩ (.nil) (.nil)))) (.aq 98 ⟨1,false,.fn,[.nilFunc]⟩ (.aq 96 ⟨15,true,.st [(0,31),(12,88),(13,42),(14,3)],[.slice none 0 0,.slice none 0 0,.slice none 0 0,.int .i64 0,.int .i64 0,.int .i64 0,.int .i64 0,.int .i64 0,.slice none 0 0,.slice none 0 0,.string ByteArray.empty,.int .i64 0,.pointer none,.pointer none,.int .i64 0]⟩ (.aq 95 ⟨5,true,.st [(0,88),(1,92),(2,3),(3,93),(4,69)],[.pointer none,.slice none 0 0,.int .i64 0,.pointer none,.slice none 0 0]⟩ (.aq 94 ⟨5,true,.st [(0,88),(1,92),(2,3),(3,93),(4,69)],[.pointer none,.slice none 0 0,.int .i64 0,.pointer none,.slice none 0 0]⟩ (.nil) (.nil)) (.nil)) (.aq 97 ⟨15,true,.st [(0,31),(12,88),(13,42),(14,3)],[.slice none 0 0,.slice none 0 0,.slice none 0 0,.int .i64 0,.int .i64 0,.int .i64 0,.int .i64 0,.int .i64 0,.slice none 0 0,.slice none 0 0,.string ByteArray.empty,.int .i64 0,.pointer none,.pointer none,.int .i64 0]⟩ (.nil) (.nil))) (.aq 100 ⟨1,false,.fn,[.nilFunc]⟩ (.aq 99 ⟨1,false,.fn,[.nilFunc]⟩ (.nil) (.nil)) (.aq 101 ⟨1,false,.fn,[.nilFunc]⟩ (.nil) (.nil))))) (.aq 113 ⟨1,false,.fn,[.nilFunc]⟩ (.aq 108 ⟨1,false,.fn,[.nilFunc]⟩ (.aq 105 ⟨7,true,.st [(0,3),(1,3),(2,3),(3,3),(4,3),(5,102),(6,103)],[.int .i64 0,.int .i64 0,.int .i64 0,.int .i64 0,.int .i64 0,.slice none 0 0,.slice none 0 0]⟩ (.aq 104 ⟨7,true,.st [(0,3),(1,3),(2,3),(3,3),(4,3),(5,102),(6,103)],[.int .i64 0,.int .i64 0,.int .i64 0,.int .i64 0,.int .i64 0,.slice none 0 0,.slice none 0 0]⟩ (.aq 103 ⟨1,false,.sl 178 10 88,[.slice none 0 0]⟩ (.nil) (.nil)) (.nil)) (.aq 107 ⟨1,false,.fn,[.nilFunc]⟩ (.nil) (.nil))) (.aq 110 ⟨1,false,.fn,[.nilFunc]⟩ (.aq 109 ⟨1,false,.fn,[.nilFunc]⟩ (.nil) (.nil)) (.aq 111 ⟨1,false,.fn,[.nilFunc]⟩ (.nil) (.nil)))) (.aq 118 ⟨1,false,.fn,[.nilFunc]⟩ (.aq 116 ⟨3,true,.st [(0,3),(1,3),(2,9)],[.int .i64 0,.int .i64 0,.string ByteArray.empty]⟩ (.aq 115 ⟨1,false,.fn,[.nilFunc]⟩ (.aq 114 ⟨1,false,.fn,[.nilFunc]⟩ (.nil) (.nil)) (.nil)) (.aq 117 ⟨3,true,.st [(0,3),(1,3),(2,9)],[.int .i64 0,.int .i64 0,.string ByteArray.empty]⟩ (.nil) (.nil))) (.aq 120 ⟨1,false,.fn,[.nilFunc]⟩ (.aq 119 ⟨1,false,.fn,[.nilFunc]⟩ (.nil) (.nil)) (.aq 121 ⟨1,false,.fn,[.nilFunc]⟩ (.nil) (.nil)))))) (.aq 142 ⟨6,true,.st [(0,42),(1,92),(2,69),(3,140),(4,69),(5,69)],[.pointer none,.slice none 0 0,.slice none 0 0,.slice none 0 0,.slice none 0 0,.slice none 0 0]⟩ (.aq 132 ⟨1,false,.fn,[.nilFunc]⟩ (.aq 127 ⟨7,true,.st [(0,3),(1,3),(2,3),(3,3),(4,3),(5,102),(6,126)],[.int .i64 0,.int .i64 0,.int .i64 0,.int .i64 0,.int .i64 0,.slice none 0 0,.slice none 0 0]⟩ (.aq 125 ⟨1,false,.fn,[.nilFunc]⟩ (.aq 124 ⟨1,false,.fn,[.nilFunc]⟩ (.aq 123 ⟨1,false,.fn,[.nilFunc]⟩ (.nil) (.nil)) (.nil)) (.aq 126 ⟨1,false,.sl 146 10 88,[.slice none 0 0]⟩ (.nil) (.nil))) (.aq 130 ⟨1,false,.sl 29 9 112,[.slice none 0 0]⟩ (.aq 129 ⟨1,false,.fn,[.nilFunc]⟩ (.aq 128 ⟨7,true,.st [(0,3),(1,3),(2,3),(3,3),(4,3),(5,102),(6,126)],[.int .i64 0,.int .i64 0,.int .i64 0,.int .i64 0,.int .i64 0,.slice none 0 0,.slice none 0 0]⟩ (.nil) (.nil)) (.nil)) (.aq 131 ⟨1,false,.fn,[.nilFunc]⟩ (.nil) (.nil)))) (.aq 137 ⟨1,false,.fn,[.nilFunc]⟩ (.aq 135 ⟨1,false,.fn,[.nilFunc]⟩ (.aq 134 ⟨1,false,.fn,[.nilFunc]⟩ (.aq 133 ⟨1,false,.fn,[.nilFunc]⟩ (.nil) (.nil)) (.nil)) (.aq 136 ⟨1,false,.fn,[.nilFunc]⟩ (.nil) (.nil))) (.aq 140 ⟨1,false,.sl 4 1 1,[.slice none 0 0]⟩ (.aq 139 ⟨1,false,.fn,[.nilFunc]⟩ (.nil) (.nil)) (.aq 141 ⟨6,true,.st [(0,42),(1,92),(2,69),(3,140),(4,69),(5,69)],[.pointer none,.slice none 0 0,.slice none 0 0,.slice none 0 0,.slice none 0 0,.slice none 0 0]⟩ (.nil) (.nil))))) (.aq 151 ⟨4,true,.st [(0,3),(1,3),(2,3),(3,22)],[.int .i64 0,.int .i64 0,.int .i64 0,.slice none 0 0]⟩ (.aq 147 ⟨1,false,.fn,[.nilFunc]⟩ (.aq 145 ⟨10,true,.st [(0,9),(1,4),(2,3),(3,3),(4,3),(5,3),(6,3),(7,3),(8,3),(9,3)],[.string ByteArray.empty,.bool false,.int .i64 0,.int .i64 0,.int .i64 0,.int .i64 0,.int .i64 0,.int .i64 0,.int .i64 0,.int .i64 0]⟩ (.aq 144 ⟨1,false,.fn,[.nilFunc]⟩ (.aq 143 ⟨1,false,.fn,[.nilFunc]⟩ (.nil) (.nil)) (.nil)) (.aq 146 ⟨10,true,.st [(0,9),(1,4),(2,3),(3,3),(4,3),(5,3),(6,3),(7,3),(8,3),(9,3)],[.string ByteArray.empty,.bool false,.int .i64 0,.int .i64 0,.int .i64 0,.int .i64 0,.int .i64 0,.int .i64 0,.int .i64 0,.int .i64 0]⟩ (.nil) (.nil))) (.aq 149 ⟨1,false,.fn,[.nilFunc]⟩ (.aq 148 ⟨1,false,.fn,[.nilFunc]⟩ (.nil) (.nil)) (.aq 150 ⟨4,true,.st [(0,3),(1,3),(2,3),(3,22)],[.int .i64 0,.int .i64 0,.int .i64 0,.slice none 0 0]⟩ (.nil) (.nil)))) (.aq 157 ⟨1,false,.fn,[.nilFunc]⟩ (.aq 154 ⟨1,false,.fn,[.nilFunc]⟩ (.aq 153 ⟨18,true,.st [(0,27),(2,4),(3,22),(4,3),(5,151),(9,29)],[.string ByteArray.empty,.int .i64 0,.bool false,.slice none 0 0,.int .i64 0,.int .i64 0,.int .i64 0,.int .i64 0,.slice none 0 0,.int .i64 0,.int .i64 0,.int .i64 0,.int .i64 0,.int .i64 0,.slice none 0 0,.slice none 0 0,.string ByteArray.empty,.int .i64 0]⟩ (.aq 152 ⟨18,true,.st [(0,27),(2,4),(3,22),(4,3),(5,151),(9,29)],[.string ByteArray.empty,.int .i64 0,.bool false,.slice none 0 0,.int .i64 0,.int .i64 0,.int .i64 0,.int .i64 0,.slice none 0 0,.int .i64 0,.int .i64 0,.int .i64 0,.int .i64 0,.int .i64 0,.slice none 0 0,.slice none 0 0,.string ByteArray.empty,.int .i64 0]⟩ (.nil) (.nil)) (.nil)) (.aq 156 ⟨1,false,.fn,[.nilFunc]⟩ (.nil) (.nil))) (.aq 159 ⟨32,true,.ar 32 1,[.int .i64 0,.int .i64 0,.int .i64 0,.int .i64 0,.int .i64 0,.int .i64 0,.int .i64 0,.int .i64 0,.int .i64 0,.int .i64 0,.int .i64 0,.int .i64 0,.int .i64 0,.int .i64 0,.int .i64 0,.int .i64 0,.int .i64 0,.int .i64 0,.int .i64 0,.int .i64 0,.int .i64 0,.int .i64 0,.int .i64 0,.int .i64 0,.int .i64 0,.int .i64 0,.int .i64 0,.int .i64 0,.int .i64 0,.int .i64 0,.int .i64 0,.int .i64 0]⟩ (.aq 158 ⟨1,false,.ptr 228,[.pointer none]⟩ (.nil) (.nil)) (.aq 160 ⟨1024,true,.ar 32 32,(List.replicate 1024 (.int .i64 0))⟩ (.nil) (.nil)))))))) (.aq 242 ⟨1,false,.fn,[.nilFunc]⟩ (.aq 203 ⟨1,false,.fn,[.nilFunc]⟩ (.aq 184 ⟨1,false,.fn,[.nilFunc]⟩ (.aq 174 ⟨1,false,.sl 22 1 24,[.slice none 0 0]⟩ (.aq 169 ⟨1,false,.fn,[.nilFunc]⟩ (.aq 165 ⟨1,false,.fn,[.nilFunc]⟩ (.aq 163 ⟨1,false,.sl 225 2 16,[.slice none 0 0]⟩ (.aq 162 ⟨2051,true,.st [(0,102),(1,93),(2,158),(3,160),(1027,160)],(.slice none 0 0 :: .pointer none :: .pointer none :: List.replicate 2048 (.int .i64 0))⟩ (.nil) (.nil)) (.nil)) (.aq 167 ⟨1,false,.fn,[.nilFunc]⟩ (.nil) (.nil))) (.aq 172 ⟨1,false,.fn,[.nilFunc]⟩ (.aq 171 ⟨1,false,.fn,[.nilFunc]⟩ (.aq 170 ⟨1,false,.fn,[.nilFunc]⟩ (.nil) (.nil)) (.nil)) (.aq 173 ⟨1,false,.fn,[.nilFunc]⟩ (.nil) (.nil)))) (.aq 180 ⟨1,false,.fn,[.nilFunc]⟩ (.aq 178 ⟨10,true,.st [(0,9),(1,4),(2,3),(3,3),(4,3),(5,3),(6,3),(7,3),(8,3),(9,3)],[.string ByteArray.empty,.bool false,.int .i64 0,.int .i64 0,.int .i64 0,.int .i64 0,.int .i64 0,.int .i64 0,.int .i64 0,.int .i64 0]⟩ (.aq 177 ⟨1,false,.fn,[.nilFunc]⟩ (.aq 176 ⟨1,false,.fn,[.nilFunc]⟩ (.nil) (.nil)) (.nil)) (.aq 179 ⟨1,false,.fn,[.nilFunc]⟩ (.nil) (.nil))) (.aq 182 ⟨1,false,.fn,[.nilFunc]⟩ (.aq 181 ⟨1,false,.fn,[.nilFunc]⟩ (.nil) (.nil)) (.aq 183 ⟨1,false,.fn,[.nilFunc]⟩ (.nil) (.nil))))) (.aq 193 ⟨1,false,.fn,[.nilFunc]⟩ (.aq 189 ⟨1,false,.fn,[.nilFunc]⟩ (.aq 187 ⟨1,false,.fn,[.nilFunc]⟩ (.aq 186 ⟨1,false,.fn,[.nilFunc]⟩ (.aq 185 ⟨1,false,.fn,[.nilFunc]⟩ (.nil) (.nil)) (.nil)) (.aq 188 ⟨1,false,.fn,[.nilFunc]⟩ (.nil) (.nil))) (.aq 191 ⟨3,true,.st [(0,45),(2,3)],[.int .i64 0,.int .i64 0,.int .i64 0]⟩ (.aq 190 ⟨1,false,.fn,[.nilFunc]⟩ (.nil) (.nil)) (.aq 192 ⟨3,true,.st [(0,45),(2,3)],[.int .i64 0,.int .i64 0,.int .i64 0]⟩ (.nil) (.nil)))) (.aq 198 ⟨1,false,.fn,[.nilFunc]⟩ (.aq 196 ⟨1,false,.fn,[.nilFunc]⟩ (.aq 195 ⟨1,false,.fn,[.nilFunc]⟩ (.aq 194 ⟨1,false,.fn,[.nilFunc]⟩ (.nil) (.nil)) (.nil)) (.aq 197 ⟨1,false,.fn,[.nilFunc]⟩ (.nil) (.nil))) (.aq 201 ⟨1,false,.fn,[.nilFunc]⟩ (.aq 199 ⟨1,false,.fn,[.nilFunc]⟩ (.nil) (.nil)) (.aq 202 ⟨1,false,.fn,[.nilFunc]⟩ (.nil) (.nil)))))) (.aq 223 ⟨1,false,.fn,[.nilFunc]⟩ (.aq 213 ⟨2,true,.st [(0,3),(1,3)],[.int .i64 0,.int .i64 0]⟩ (.aq 208 ⟨1,false,.fn,[.nilFunc]⟩ (.aq 206 ⟨1,false,.fn,[.nilFunc]⟩ (.aq 205 ⟨1,false,.fn,[.nilFunc]⟩ (.aq 204 ⟨1,false,.fn,[.nilFunc]⟩ (.nil) (.nil)) (.nil)) (.aq 207 ⟨1,false,.fn,[.nilFunc]⟩ (.nil) (.nil))) (.aq 211 ⟨1,false,.fn,[.nilFunc]⟩ (.aq 210 ⟨1,false,.fn,[.nilFunc]⟩ (.aq 209 ⟨1,false,.fn,[.nilFunc]⟩ (.nil) (.nil)) (.nil)) (.aq 212 ⟨1,false,.fn,[.nilFunc]⟩ (.nil) (.nil)))) (.aq 219 ⟨4,true,.st [(0,27),(2,27)],[.string ByteArray.empty,.int .i64 0,.string ByteArray.empty,.int .i64 0]⟩ (.aq 217 ⟨1,false,.fn,[.nilFunc]⟩ (.aq 216 ⟨1,false,.fn,[.nilFunc]⟩ (.aq 214 ⟨2,true,.st [(0,3),(1,3)],[.int .i64 0,.int .i64 0]⟩ (.nil) (.nil)) (.nil)) (.aq 218 ⟨1,false,.fn,[.nilFunc]⟩ (.nil) (.nil))) (.aq 221 ⟨2,true,.st [(0,102),(1,69)],[.slice none 0 0,.slice none 0 0]⟩ (.aq 220 ⟨4,true,.st [(0,27),(2,27)],[.string ByteArray.empty,.int .i64 0,.string ByteArray.empty,.int .i64 0]⟩ (.nil) (.nil)) (.aq 222 ⟨2,true,.st [(0,102),(1,69)],[.slice none 0 0,.slice none 0 0]⟩ (.nil) (.nil))))) (.aq 232 ⟨1,false,.fn,[.nilFunc]⟩ (.aq 228 ⟨1,true,.st [(0,226)],[.slice none 0 0]⟩ (.aq 226 ⟨1,false,.sl 229 1 8,[.slice none 0 0]⟩ (.aq 225 ⟨2,true,.ar 2 1,[.int .i64 0,.int .i64 0]⟩ (.aq 224 ⟨1,false,.fn,[.nilFunc]⟩ (.nil) (.nil)) (.nil)) (.aq 227 ⟨1,true,.st [(0,226)],[.slice none 0 0]⟩ (.nil) (.nil))) (.aq 230 ⟨1,false,.fn,[.nilFunc]⟩ (.aq 229 ⟨1,false,.int .u64,[.int .u64 0]⟩ (.nil) (.nil)) (.aq 231 ⟨1,false,.fn,[.nilFunc]⟩ (.nil) (.nil)))) (.aq 238 ⟨1,true,.st [(0,3)],[.int .i64 0]⟩ (.aq 236 ⟨1,false,.ptr 238,[.pointer none]⟩ (.aq 235 ⟨1,false,.fn,[.nilFunc]⟩ (.aq 233 ⟨1,false,.fn,[.nilFunc]⟩ (.nil) (.nil)) (.nil)) (.aq 237 ⟨1,true,.st [(0,3)],[.int .i64 0]⟩ (.nil) (.nil))) (.aq 240 ⟨1,false,.fn,[.nilFunc]⟩ (.aq 239 ⟨1,false,.fn,[.nilFunc]⟩ (.nil) (.nil)) (.aq 241 ⟨1,false,.fn,[.nilFunc]⟩ (.nil) (.nil))))))) (.aq 282 ⟨1,true,.st [(0,17)],[.pointer none]⟩ (.aq 262 ⟨1,false,.int .u64,[.int .u64 0]⟩ (.aq 252 ⟨1,false,.fn,[.nilFunc]⟩ (.aq 247 ⟨1,false,.fn,[.nilFunc]⟩ (.aq 245 ⟨1,false,.fn,[.nilFunc]⟩ (.aq 244 ⟨1,false,.fn,[.nilFunc]⟩ (.aq 243 ⟨1,false,.fn,[.nilFunc]⟩ (.nil) (.nil)) (.nil)) (.aq 246 ⟨1,false,.fn,[.nilFunc]⟩ (.nil) (.nil))) (.aq 250 ⟨1,false,.fn,[.nilFunc]⟩ (.aq 249 ⟨1,false,.fn,[.nilFunc]⟩ (.aq 248 ⟨1,false,.fn,[.nilFunc]⟩ (.nil) (.nil)) (.nil)) (.aq 251 ⟨1,false,.fn,[.nilFunc]⟩ (.nil) (.nil)))) (.aq 257 ⟨1,false,.fn,[.nilFunc]⟩ (.aq 255 ⟨1,false,.fn,[.nilFunc]⟩ (.aq 254 ⟨1,false,.fn,[.nilFunc]⟩ (.aq 253 ⟨1,false,.fn,[.nilFunc]⟩ (.nil) (.nil)) (.nil)) (.aq 256 ⟨1,false,.fn,[.nilFunc]⟩ (.nil) (.nil))) (.aq 259 ⟨1,false,.fn,[.nilFunc]⟩ (.aq 258 ⟨1,false,.fn,[.nilFunc]⟩ (.nil) (.nil)) (.aq 260 ⟨1,false,.fn,[.nilFunc]⟩ (.nil) (.nil))))) (.aq 273 ⟨1,false,.fn,[.nilFunc]⟩ (.aq 269 ⟨1,false,.int .u64,[.int .u64 0]⟩ (.aq 267 ⟨1,false,.fn,[.nilFunc]⟩ (.aq 266 ⟨1,false,.fn,[.nilFunc]⟩ (.aq 265 ⟨1,false,.fn,[.nilFunc]⟩ (.nil) (.nil)) (.nil)) (.aq 268 ⟨1,false,.fn,[.nilFunc]⟩ (.nil) (.nil))) (.aq 271 ⟨2,true,.st [(0,224),(1,266)],[.nilFunc,.nilFunc]⟩ (.aq 270 ⟨1,false,.fn,[.nilFunc]⟩ (.nil) (.nil)) (.aq 272 ⟨2,true,.st [(0,224),(1,266)],[.nilFunc,.nilFunc]⟩ (.nil) (.nil)))) (.aq 278 ⟨1,false,.fn,[.nilFunc]⟩ (.aq 276 ⟨1,false,.fn,[.nilFunc]⟩ (.aq 275 ⟨1,false,.fn,[.nilFunc]⟩ (.aq 274 ⟨1,false,.fn,[.nilFunc]⟩ (.nil) (.nil)) (.nil)) (.aq 277 ⟨1,false,.fn,[.nilFunc]⟩ (.nil) (.nil))) (.aq 280 ⟨1,false,.fn,[.nilFunc]⟩ (.aq 279 ⟨1,false,.fn,[.nilFunc]⟩ (.nil) (.nil)) (.aq 281 ⟨1,true,.st [(0,17)],[.pointer none]⟩ (.nil) (.nil)))))) (.aq 302 ⟨1,false,.ptr 296,[.pointer none]⟩ (.aq 293 ⟨1,false,.fn,[.nilFunc]⟩ (.aq 287 ⟨1,false,.int .i64,[.int .i64 0]⟩ (.aq 285 ⟨1,false,.int .u32,[.int .u32 0]⟩ (.aq 284 ⟨1,false,.fn,[.nilFunc]⟩ (.aq 283 ⟨1,false,.ptr 321,[.pointer none]⟩ (.nil) (.nil)) (.nil)) (.aq 286 ⟨1,false,.fn,[.nilFunc]⟩ (.nil) (.nil))) (.aq 291 ⟨1,false,.fn,[.nilFunc]⟩ (.aq 290 ⟨1,false,.fn,[.nilFunc]⟩ (.aq 289 ⟨1,false,.fn,[.nilFunc]⟩ (.nil) (.nil)) (.nil)) (.aq 292 ⟨1,false,.fn,[.nilFunc]⟩ (.nil) (.nil)))) (.aq 298 ⟨1,false,.fn,[.nilFunc]⟩ (.aq 296 ⟨1,false,.int .u64,[.int .u64 0]⟩ (.aq 295 ⟨1,false,.fn,[.nilFunc]⟩ (.aq 294 ⟨1,false,.fn,[.nilFunc]⟩ (.nil) (.nil)) (.nil)) (.aq 297 ⟨1,false,.fn,[.nilFunc]⟩ (.nil) (.nil))) (.aq 300 ⟨1,false,.ptr 3,[.pointer none]⟩ (.aq 299 ⟨1,false,.fn,[.nilFunc]⟩ (.nil) (.nil)) (.aq 301 ⟨1,false,.fn,[.nilFunc]⟩ (.nil) (.nil))))) (.aq 313 ⟨1,false,.int .u8,[.int .u8 0]⟩ (.aq 307 ⟨4,true,.st [(0,17),(1,17),(2,17),(3,9)],[.pointer none,.pointer none,.pointer none,.string ByteArray.empty]⟩ (.aq 305 ⟨1,false,.fn,[.nilFunc]⟩ (.aq 304 ⟨1,false,.fn,[.nilFunc]⟩ (.aq 303 ⟨1,false,.fn,[.nilFunc]⟩ (.nil) (.nil)) (.nil)) (.aq 306 ⟨1,false,.fn,[.nilFunc]⟩ (.nil) (.nil))) (.aq 309 ⟨0,true,.ar 0 1,[]⟩ (.aq 308 ⟨4,true,.st [(0,17),(1,17),(2,17),(3,9)],[.pointer none,.pointer none,.pointer none,.string ByteArray.empty]⟩ (.nil) (.nil)) (.aq 312 ⟨1,false,.int .u8,[.int .u8 0]⟩ (.nil) (.nil)))) (.aq 318 ⟨11,true,.st [(0,12),(1,12),(2,285),(3,312),(4,5),(5,5),(6,313),(7,314),(8,315),(9,316),(10,317)],[.int .u64 0,.int .u64 0,.int .u32 0,.int .u8 0,.int .u8 0,.int .u8 0,.int .u8 0,.nilFunc,.pointer none,.int .i32 0,.int .i32 0]⟩ (.aq 316 ⟨1,false,.int .i32,[.int .i32 0]⟩ (.aq 315 ⟨1,false,.ptr 5,[.pointer none]⟩ (.aq 314 ⟨1,false,.fn,[.nilFunc]⟩ (.nil) (.nil)) (.nil)) (.aq 317 ⟨1,false,.int .i32,[.int .i32 0]⟩ (.nil) (.nil))) (.aq 320 ⟨2,true,.st [(0,9),(1,313)],[.string ByteArray.empty,.int .u8 0]⟩ (.aq 319 ⟨11,true,.st [(0,12),(1,12),(2,285),(3,312),(4,5),(5,5),(6,313),(7,314),(8,315),(9,316),(10,317)],[.int .u64 0,.int .u64 0,.int .u32 0,.int .u8 0,.int .u8 0,.int .u8 0,.int .u8 0,.nilFunc,.pointer none,.int .i32 0,.int .i32 0]⟩ (.nil) (.nil)) (.aq 321 ⟨2,true,.st [(0,9),(1,313)],[.string ByteArray.empty,.int .u8 0]⟩ (.nil) (.nil))))))))
theorem zP:tt.ok Tryz.prog=true:=by decide +kernel
theorem mo:Tryz.prog.follows .mixedOrders=true:=rfl
end Dv
end Go.Proofs.YtadhpeooehkklaaGreat
namespace Go.Proofs.YtadhpeooehkklaaGreat
namespace Dv
open Go
theorem eG {f:FuncId} {fn:Func} {c:Code} {args:List DV} {os:List (List DV)} {cC:List TkE} {Φ:DV->List (List DV)->List TkE->Prop} (nt:Nat) (rs:List ResultVar)
 (hf:Tryz.prog.funcs[f]? = some fn) (hb:fn.body=some c) (JT:fn.ntmps=nt) (Bq:fn.results.toList=rs)
 (h:∀ (E:En) (w:World) (hn:E.β.length=os.length) (hm:E.tk.length=cC.length),go ⟨Tryz.prog,tt,zP,fn,nt,rs,Bq,w,E,os.length,cC.length,hn,hm,false,Φ,[],[],false⟩ 5000 [.code c] ⟨argSl 0 args,os,cC⟩) (hlen:args.length<=nt:=by exact Nat.le_of_ble_eq_true rfl):Ev Tryz.prog f args os cC Φ:=WY tt zP 5000 nt rs hf hb JT Bq hlen h
theorem cP {X:Ctx} {st:St} {k:List It} {f:FuncId} {args bJ:List DV} {d:Nat} {r:DV} (mC:Enters X.P f) (hc:aV X.P f bJ r) (hk:go X 4000 k ⟨(d,⟨[],r⟩) :: st.sl,st.bx,st.tk⟩) (ha:CcL [] 0 0 0 bJ args:=by exact ax) (hd:gp X.nt st.sl (some d)=true:=by exact rfl) (aW:X.still=false:=by exact rfl):ie X f args (some d) k st:=L6 mC hc ha hd hk aW
theorem cD {X:Ctx} {st:St} {c:Bool} {s0:List (Nat×Sl)} {D:Dr} {i:Nat} {f:FuncId} {args bJ:List DV} {d:Nat} {r:List (Nat×Oper)} {BI:DV} (mC:Enters X.P f) (hc:aV X.P f bJ BI) (hk:put2 s0 st (some d) false [] BI (goD X D 3000 c r)) (ha:CcL [] 0 0 0 bJ args:=by exact ax) (hd:(gp X.nt st.sl (some d) && gp X.nt s0 (some d))=true:=by exact rfl) (aW:X.still=false:=by exact rfl):zL X D c i r f args (some d) s0 st:=aH mC hc ha hd hk aW
theorem dI {X:Ctx} {st:St} {k:List It} {id:Nat} {ops:Array Oper} (h:goD X ⟨ops,fun _=>false,k,st,none⟩ 3000 true (nOps 0 ops.toList) st.sl st) (hm:X.P.follows .mixedOrders=true:=by exact mo) (hc:Dy ops (fun _=>false)=true:=by decide +kernel):lO X id ops k st:=vd _ hm hc h
theorem dS {X:Ctx} {st:St} {k:List It} {id:Nat} {ops:Array Oper} (h:goD X ⟨ops,Ma ops,k,st,none⟩ 3000 true (nOps 0 ops.toList) st.sl st) (hm:X.P.follows .mixedOrders=true:=by exact mo) (hc:Dy ops (Ma ops)=true:=by decide +kernel):lO X id ops k st:=P8 hm hc h
end Dv
end Go.Proofs.YtadhpeooehkklaaGreat
set_option maxRecDepth 100000
namespace Go.Proofs.YtadhpeooehkklaaGreat
open Go Go.RowKit Dv Go.Proofs.Tryz
theorem en7:Enters prog 7:=enters_of func7 (by decide +kernel) rfl
theorem en8:Enters prog 8:=enters_of func8 (by decide +kernel) rfl
theorem Xh:Enters prog 10:=enters_of func10 (by decide +kernel) rfl
theorem en13:Enters prog 13:=enters_of func13 (by decide +kernel) rfl
theorem Mg:Enters prog 14:=enters_of func14 (by decide +kernel) rfl
theorem en17:Enters prog 17:=enters_of func17 (by decide +kernel) rfl
theorem Xi:Enters prog 19:=enters_of func19 (by decide +kernel) rfl
theorem en20:Enters prog 20:=enters_of func20 (by decide +kernel) rfl
theorem Qe:Enters prog 21:=enters_of func21 (by decide +kernel) rfl
theorem Xj:Enters prog 22:=enters_of func22 (by decide +kernel) rfl
theorem Xk:Enters prog 23:=enters_of func23 (by decide +kernel) rfl
theorem Xl:Enters prog 24:=enters_of func24 (by decide +kernel) rfl
theorem Xm:Enters prog 25:=enters_of func25 (by decide +kernel) rfl
theorem Xn:Enters prog 26:=enters_of func26 (by decide +kernel) rfl
theorem Xo:Enters prog 28:=enters_of func28 (by decide +kernel) rfl
theorem Qf:Enters prog 30:=enters_of func30 (by decide +kernel) rfl
theorem en32:Enters prog 32:=enters_of func32 (by decide +kernel) rfl
theorem en33:Enters prog 33:=enters_of func33 (by decide +kernel) rfl
theorem Qg:Enters prog 35:=enters_of func35 (by decide +kernel) rfl
theorem en36:Enters prog 36:=enters_of func36 (by decide +kernel) rfl
theorem en37:Enters prog 37:=enters_of func37 (by decide +kernel) rfl
theorem Xp:Enters prog 38:=enters_of func38 (by decide +kernel) rfl
theorem Xq:Enters prog 39:=enters_of func39 (by decide +kernel) rfl
theorem Up:Enters prog 40:=enters_of func40 (by decide +kernel) rfl
theorem en41:Enters prog 41:=enters_of func41 (by decide +kernel) rfl
theorem en42:Enters prog 42:=enters_of func42 (by decide +kernel) rfl
theorem Qh:Enters prog 43:=enters_of func43 (by decide +kernel) rfl
theorem Gv:Enters prog 44:=enters_of func44 (by decide +kernel) rfl
theorem en53:Enters prog 53:=enters_of func53 (by decide +kernel) rfl
theorem Xr:Enters prog 54:=enters_of func54 (by decide +kernel) rfl
theorem en57:Enters prog 57:=enters_of func57 (by decide +kernel) rfl
theorem Xs:Enters prog 58:=enters_of func58 (by decide +kernel) rfl
theorem en60:Enters prog 60:=enters_of func60 (by decide +kernel) rfl
theorem JZ:Enters prog 61:=enters_of func61 (by decide +kernel) rfl
theorem Xt:Enters prog 62:=enters_of func62 (by decide +kernel) rfl
theorem nX:Enters prog 63:=enters_of func63 (by decide +kernel) rfl
theorem dM:Enters prog 64:=enters_of func64 (by decide +kernel) rfl
theorem en65:Enters prog 65:=enters_of func65 (by decide +kernel) rfl
theorem en66:Enters prog 66:=enters_of func66 (by decide +kernel) rfl
theorem Uq:Enters prog 67:=enters_of func67 (by decide +kernel) rfl
theorem Xu:Enters prog 68:=enters_of func68 (by decide +kernel) rfl
theorem Qi:Enters prog 69:=enters_of func69 (by decide +kernel) rfl
theorem en70:Enters prog 70:=enters_of func70 (by decide +kernel) rfl
theorem Xv:Enters prog 71:=enters_of func71 (by decide +kernel) rfl
theorem Ur:Enters prog 72:=enters_of func72 (by decide +kernel) rfl
theorem Xw:Enters prog 73:=enters_of func73 (by decide +kernel) rfl
theorem Xx:Enters prog 74:=enters_of func74 (by decide +kernel) rfl
theorem Xy:Enters prog 75:=enters_of func75 (by decide +kernel) rfl
theorem Mh:Enters prog 76:=enters_of func76 (by decide +kernel) rfl
theorem Qj:Enters prog 77:=enters_of func77 (by decide +kernel) rfl
theorem zc:Enters prog 78:=enters_of func78 (by decide +kernel) rfl
theorem Us:Enters prog 79:=enters_of func79 (by decide +kernel) rfl
theorem Ut:Enters prog 80:=enters_of func80 (by decide +kernel) rfl
theorem Xz:Enters prog 81:=enters_of func81 (by decide +kernel) rfl
theorem en82:Enters prog 82:=enters_of func82 (by decide +kernel) rfl
theorem Qk:Enters prog 83:=enters_of func83 (by decide +kernel) rfl
theorem en84:Enters prog 84:=enters_of func84 (by decide +kernel) rfl
theorem en86:Enters prog 86:=enters_of func86 (by decide +kernel) rfl
theorem XA:Enters prog 87:=enters_of func87 (by decide +kernel) rfl
theorem Uu:Enters prog 88:=enters_of func88 (by decide +kernel) rfl
theorem XB:Enters prog 89:=enters_of func89 (by decide +kernel) rfl
theorem en90:Enters prog 90:=enters_of func90 (by decide +kernel) rfl
theorem XC:Enters prog 91:=enters_of func91 (by decide +kernel) rfl
theorem XD:Enters prog 92:=enters_of func92 (by decide +kernel) rfl
theorem en93:Enters prog 93:=enters_of func93 (by decide +kernel) rfl
theorem Gw:Enters prog 94:=enters_of func94 (by decide +kernel) rfl
theorem Uv:Enters prog 95:=enters_of func95 (by decide +kernel) rfl
theorem en96:Enters prog 96:=enters_of func96 (by decide +kernel) rfl
theorem XE:Enters prog 97:=enters_of func97 (by decide +kernel) rfl
theorem wu:Enters prog 98:=enters_of func98 (by decide +kernel) rfl
theorem Mi:Enters prog 99:=enters_of func99 (by decide +kernel) rfl
theorem en100:Enters prog 100:=enters_of func100 (by decide +kernel) rfl
theorem R9:Enters prog 101:=enters_of func101 (by decide +kernel) rfl
theorem XF:Enters prog 102:=enters_of func102 (by decide +kernel) rfl
theorem DG:Enters prog 103:=enters_of func103 (by decide +kernel) rfl
theorem XG:Enters prog 104:=enters_of func104 (by decide +kernel) rfl
theorem Sa:Enters prog 105:=enters_of func105 (by decide +kernel) rfl
theorem XH:Enters prog 113:=enters_of func113 (by decide +kernel) rfl
theorem XI:Enters prog 114:=enters_of func114 (by decide +kernel) rfl
theorem XJ:Enters prog 115:=enters_of func115 (by decide +kernel) rfl
theorem XK:Enters prog 116:=enters_of func116 (by decide +kernel) rfl
theorem Mj:Enters prog 117:=enters_of func117 (by decide +kernel) rfl
theorem Mk:Enters prog 118:=enters_of func118 (by decide +kernel) rfl
theorem Ml:Enters prog 119:=enters_of func119 (by decide +kernel) rfl
theorem Sb:Enters prog 120:=enters_of func120 (by decide +kernel) rfl
theorem XL:Enters prog 121:=enters_of func121 (by decide +kernel) rfl
theorem XM:Enters prog 122:=enters_of func122 (by decide +kernel) rfl
theorem XN:Enters prog 123:=enters_of func123 (by decide +kernel) rfl
theorem Sc:Enters prog 124:=enters_of func124 (by decide +kernel) rfl
theorem Sd:Enters prog 125:=enters_of func125 (by decide +kernel) rfl
theorem nz:Enters prog 126:=enters_of func126 (by decide +kernel) rfl
theorem XO:Enters prog 127:=enters_of func127 (by decide +kernel) rfl
theorem XP:Enters prog 128:=enters_of func128 (by decide +kernel) rfl
theorem XQ:Enters prog 129:=enters_of func129 (by decide +kernel) rfl
theorem XR:Enters prog 130:=enters_of func130 (by decide +kernel) rfl
theorem DH:Enters prog 131:=enters_of func131 (by decide +kernel) rfl
theorem wv:Enters prog 132:=enters_of func132 (by decide +kernel) rfl
theorem XS:Enters prog 133:=enters_of func133 (by decide +kernel) rfl
theorem XT:Enters prog 134:=enters_of func134 (by decide +kernel) rfl
theorem Se:Enters prog 135:=enters_of func135 (by decide +kernel) rfl
theorem Ix:Enters prog 136:=enters_of func136 (by decide +kernel) rfl
theorem XU:Enters prog 137:=enters_of func137 (by decide +kernel) rfl
theorem Iy:Enters prog 138:=enters_of func138 (by decide +kernel) rfl
theorem Sf:Enters prog 139:=enters_of func139 (by decide +kernel) rfl
theorem Sg:Enters prog 140:=enters_of func140 (by decide +kernel) rfl
theorem Sh:Enters prog 141:=enters_of func141 (by decide +kernel) rfl
theorem XV:Enters prog 142:=enters_of func142 (by decide +kernel) rfl
theorem Iz:Enters prog 143:=enters_of func143 (by decide +kernel) rfl
theorem Si:Enters prog 144:=enters_of func144 (by decide +kernel) rfl
theorem Mm:Enters prog 145:=enters_of func145 (by decide +kernel) rfl
theorem Mn:Enters prog 146:=enters_of func146 (by decide +kernel) rfl
theorem IA:Enters prog 147:=enters_of func147 (by decide +kernel) rfl
theorem XW:Enters prog 148:=enters_of func148 (by decide +kernel) rfl
theorem Mo:Enters prog 150:=enters_of func150 (by decide +kernel) rfl
theorem XX:Enters prog 151:=enters_of func151 (by decide +kernel) rfl
theorem XY:Enters prog 152:=enters_of func152 (by decide +kernel) rfl
theorem Mp:Enters prog 153:=enters_of func153 (by decide +kernel) rfl
theorem IB:Enters prog 154:=enters_of func154 (by decide +kernel) rfl
theorem Mq:Enters prog 155:=enters_of func155 (by decide +kernel) rfl
theorem Sj:Enters prog 156:=enters_of func156 (by decide +kernel) rfl
theorem XZ:Enters prog 157:=enters_of func157 (by decide +kernel) rfl
theorem X0:Enters prog 158:=enters_of func158 (by decide +kernel) rfl
theorem Sk:Enters prog 159:=enters_of func159 (by decide +kernel) rfl
theorem Mr:Enters prog 160:=enters_of func160 (by decide +kernel) rfl
theorem Sm:Enters prog 161:=enters_of func161 (by decide +kernel) rfl
theorem Sn:Enters prog 162:=enters_of func162 (by decide +kernel) rfl
theorem Sp:Enters prog 163:=enters_of func163 (by decide +kernel) rfl
theorem Sq:Enters prog 164:=enters_of func164 (by decide +kernel) rfl
theorem IC:Enters prog 165:=enters_of func165 (by decide +kernel) rfl
theorem DI:Enters prog 169:=enters_of func169 (by decide +kernel) rfl
theorem wx:Enters prog 170:=enters_of func170 (by decide +kernel) rfl
theorem X1:Enters prog 171:=enters_of func171 (by decide +kernel) rfl
theorem X2:Enters prog 172:=enters_of func172 (by decide +kernel) rfl
theorem Ms:Enters prog 173:=enters_of func173 (by decide +kernel) rfl
theorem ik:Enters prog 174:=enters_of func174 (by decide +kernel) rfl
theorem X3:Enters prog 175:=enters_of func175 (by decide +kernel) rfl
theorem Sr:Enters prog 176:=enters_of func176 (by decide +kernel) rfl
theorem Mt:Enters prog 177:=enters_of func177 (by decide +kernel) rfl
theorem X4:Enters prog 178:=enters_of func178 (by decide +kernel) rfl
theorem Ss:Enters prog 179:=enters_of func179 (by decide +kernel) rfl
theorem Su:Enters prog 180:=enters_of func180 (by decide +kernel) rfl
theorem X5:Enters prog 181:=enters_of func181 (by decide +kernel) rfl
theorem X6:Enters prog 182:=enters_of func182 (by decide +kernel) rfl
theorem zQ:Enters prog 183:=enters_of func183 (by decide +kernel) rfl
theorem ua:Enters prog 184:=enters_of func184 (by decide +kernel) rfl
theorem X7:Enters prog 185:=enters_of func185 (by decide +kernel) rfl
theorem X8:Enters prog 186:=enters_of func186 (by decide +kernel) rfl
theorem Mu:Enters prog 187:=enters_of func187 (by decide +kernel) rfl
theorem X9:Enters prog 188:=enters_of func188 (by decide +kernel) rfl
theorem Ya:Enters prog 189:=enters_of func189 (by decide +kernel) rfl
theorem Sv:Enters prog 190:=enters_of func190 (by decide +kernel) rfl
theorem Sw:Enters prog 196:=enters_of func196 (by decide +kernel) rfl
theorem Yb:Enters prog 197:=enters_of func197 (by decide +kernel) rfl
theorem eI:Enters prog 198:=enters_of func198 (by decide +kernel) rfl
theorem Yc:Enters prog 199:=enters_of func199 (by decide +kernel) rfl
theorem Yd:Enters prog 200:=enters_of func200 (by decide +kernel) rfl
theorem Sx:Enters prog 201:=enters_of func201 (by decide +kernel) rfl
theorem Sy:Enters prog 202:=enters_of func202 (by decide +kernel) rfl
theorem ID:Enters prog 203:=enters_of func203 (by decide +kernel) rfl
theorem Ye:Enters prog 204:=enters_of func204 (by decide +kernel) rfl
theorem nY:Enters prog 205:=enters_of func205 (by decide +kernel) rfl
theorem Mv:Enters prog 206:=enters_of func206 (by decide +kernel) rfl
theorem Yf:Enters prog 207:=enters_of func207 (by decide +kernel) rfl
theorem Yg:Enters prog 208:=enters_of func208 (by decide +kernel) rfl
theorem Yh:Enters prog 209:=enters_of func209 (by decide +kernel) rfl
theorem Yi:Enters prog 210:=enters_of func210 (by decide +kernel) rfl
theorem Sz:Enters prog 211:=enters_of func211 (by decide +kernel) rfl
theorem SA:Enters prog 231:=enters_of func231 (by decide +kernel) rfl
theorem Yj:Enters prog 232:=enters_of func232 (by decide +kernel) rfl
theorem Ym:Enters prog 233:=enters_of func233 (by decide +kernel) rfl
theorem Mw:Enters prog 239:=enters_of func239 (by decide +kernel) rfl
theorem DJ:Enters prog 240:=enters_of func240 (by decide +kernel) rfl
theorem Yo:Enters prog 241:=enters_of func241 (by decide +kernel) rfl
theorem IE:Enters prog 243:=enters_of func243 (by decide +kernel) rfl
theorem Yp:Enters prog 244:=enters_of func244 (by decide +kernel) rfl
theorem Yq:Enters prog 245:=enters_of func245 (by decide +kernel) rfl
theorem SB:Enters prog 246:=enters_of func246 (by decide +kernel) rfl
theorem Yr:Enters prog 247:=enters_of func247 (by decide +kernel) rfl
end Go.Proofs.YtadhpeooehkklaaGreat
namespace Go.Proofs.YtadhpeooehkklaaGreat
open Go Go.RowKit Dv
structure Wd where
 s:ByteArray
 a:Int
structure Hd where
 ag:Int
 aX:Int
 lo:Int
 hi:Int
 most:Int
 af:List Wd
 name:Wd
structure Ph where
 name:Wd
 bare:Bool
 label:List Wd
 wide:Int
 ck:Int
 cn:Int
 ca:Int
 cl:List Wd
mutual
inductive Ty where
 | mk (h:Hd) (ps:Pts)
inductive Pts where
 | nil
 | cons (p:Ph) (t:Ty) (r:Pts)
end
def Ty.h:Ty->Hd | .mk h _=>h
def Ty.ps:Ty->Pts | .mk _ ps=>ps
def Pts.toList:Pts->List (Ph × Ty)
 | .nil=>[]
 | .cons p t r=>(p,t) :: r.toList
def Pts.len:Pts->Nat
 | .nil=>0
 | .cons _ _ r=>r.len + 1
theorem Pts.Mx:∀ ps:Pts,ps.len=ps.toList.length
 | .nil=>rfl
 | .cons _ _ r=>by simp [Pts.len,Pts.toList,Pts.Mx r]
def Wd.wt (w:Wd):Nat:=w.s.size + 64
def wdsWt:List Wd->Nat
 | []=>0
 | w :: r=>w.wt + wdsWt r
def Hd.wt (h:Hd):Nat:=256 + wdsWt h.af + h.name.wt
def Ph.wt (p:Ph):Nat:=256 + p.name.wt + wdsWt p.label + wdsWt p.cl
mutual
def Ty.wt:Ty->Nat
 | .mk h ps=>h.wt + ps.wt
def Pts.wt:Pts->Nat
 | .nil=>0
 | .cons p t r=>p.wt + t.wt + r.wt
end
theorem bL:∀ l:List Wd,64 * l.length<=wdsWt l
 | []=>aR _
 | w :: r=>by have:=bL r;simp only [List.length_cons,wdsWt,Wd.wt];omega
theorem jk:∀ {l:List Wd} {w:Wd},w∈l->w.s.size + 64<=wdsWt l
 | x :: r,w,h=>by
  rcases bI h with h | h
  ·subst h;simp only [wdsWt,Wd.wt];omega
  ·have:=jk h;simp only [wdsWt];omega
theorem Pts.gz:∀ ps:Pts,256 * ps.len<=ps.wt
 | .nil=>aR _
 | .cons p t r=>by have:=Pts.gz r;simp only [Pts.len,Pts.wt,Ph.wt];omega
theorem Pts.gV:∀ {ps:Pts} {p:Ph} {t:Ty},(p,t)∈ps.toList->p.wt + t.wt<=ps.wt
 | .cons p t r,q,u,h=>by
  rcases bI h with h | h
  ·cases h;simp only [Pts.wt];omega
  ·have:=Pts.gV h;simp only [Pts.wt];omega
theorem Ty.eJ (t:Ty):256<=t.wt:=by
 cases t;simp only [Ty.wt,Hd.wt];omega
def kH (w:Wd):List DV:=[.v (.string w.s),.v (.int .i64 w.a)]
def bO (l:List Wd):List (List DV):=l.map kH
def Gx (p:Ph) (tl:List DV):List DV:=
 .v (.string p.name.s) :: .v (.int .i64 p.name.a) :: .v (.bool p.bare) :: .sl 2 (bO p.label) none :: .v (.int .i64 p.wide) :: .v (.int .i64 p.ck) :: .v (.int .i64 p.cn) :: .v (.int .i64 p.ca) :: .sl 2 (bO p.cl) none :: tl
mutual
def eE:Ty->List DV
 | .mk h ps=>[.v (.int .i64 h.ag),.v (.int .i64 h.aX),.v (.int .i64 h.lo),.v (.int .i64 h.hi),.v (.int .i64 h.most),.sl 2 (bO h.af) none,.sl 18 (gA ps) none,.v (.string h.name.s),.v (.int .i64 h.name.a)]
def gA:Pts->List (List DV)
 | .nil=>[]
 | .cons p t r=>Gx p (eE t) :: gA r
end
theorem aA (l:List Wd):(bO l).length=l.length:=by simp [bO]
theorem aO:∀ ps:Pts,(gA ps).length=ps.len
 | .nil=>by simp [gA,Pts.len]
 | .cons p t r=>by simp [gA,Pts.len,aO r]
theorem aY {l:List Wd} {j:Nat} {w:Wd} (h:l[j]? = some w):(bO l)[j]? = some (kH w):=by simp [bO,h]
theorem zR {l:List Wd} {e:Nat} {x:Wd} (h:l[e]? = some x):bO (l.take e) ++ [kH x]=bO (l.take (e + 1)):=by
 rw [List.take_add_one,h];simp [bO]
theorem cp:∀ {ps:Pts} {j:Nat} {p:Ph} {t:Ty},ps.toList[j]? = some (p,t)->(gA ps)[j]? = some (Gx p (eE t))
 | .nil,j,p,t,h=>by simp [Pts.toList] at h
 | .cons q u r,0,p,t,h=>by
  simp only [Pts.toList,List.getElem?_cons_zero,oI,Prod.mk.injEq] at h;obtain ⟨rfl,rfl⟩:=h;simp [gA]
 | .cons q u r,j + 1,p,t,h=>by
  simp only [Pts.toList,List.getElem?_cons_succ] at h;simp only [gA,List.getElem?_cons_succ];exact cp h
def Pts.drop:Nat->Pts->Pts
 | 0,ps=>ps
 | _ + 1,.nil=>.nil
 | e + 1,.cons _ _ r=>r.drop e
theorem Pts.drop_cons:∀ {e:Nat} {ps:Pts} {p:Ph} {t:Ty},ps.toList[e]? = some (p,t)->ps.drop e = .cons p t (ps.drop (e + 1))
 | 0,.cons q u r,p,t,h=>by
  simp only [Pts.toList,List.getElem?_cons_zero,oI,Prod.mk.injEq] at h;obtain ⟨rfl,rfl⟩:=h;rfl
 | e + 1,.cons q u r,p,t,h=>by
  simp only [Pts.toList,List.getElem?_cons_succ] at h;simp only [Pts.drop];exact Pts.drop_cons h
 | 0,.nil,p,t,h=>by simp [Pts.toList] at h
 | e + 1,.nil,p,t,h=>by simp [Pts.toList] at h
theorem Pts.dH:∀ (ps:Pts),ps.drop ps.len = .nil
 | .nil=>rfl
 | .cons _ _ r=>by simp only [Pts.len,Pts.drop];exact Pts.dH r
theorem Pts.fc {ps:Pts} {e:Nat} (h:e < ps.len):∃ p t,ps.toList[e]? = some (p,t):=by
 rw [Pts.Mx] at h;exact ⟨_,_,gE h⟩
theorem drop_cons {α:Type} {l:List α} {e:Nat} {x:α} (h:l[e]? = some x):l.drop e=x :: l.drop (e + 1):=by
 obtain ⟨h1,h2⟩:=List.getElem?_eq_some_iff.1 h;rw [<- h2];exact List.drop_eq_getElem_cons h1
def ay:ByteArray:=⟨#[]⟩
def My:Hd:=⟨0,0,0,0,0,[],⟨ay,0⟩⟩
def cx:Ty:=.mk My .nil
def fw:Ph:=⟨⟨ay,0⟩,false,[],0,0,0,0,[]⟩
def fM:Ph:=⟨⟨ay,0⟩,true,[],0,0,0,0,[]⟩
theorem aJ {e n:Nat} (h:e < n) (hn:n<=4611686018427387904):IntKind.i64.wrap ((e:Int) + 1)=((e + 1:Nat):Int):=by
 rw [IntWalk.i64_in _ ⟨by omega,by omega⟩];omega
theorem wrap64 {n:Int} (h1 : -9223372036854775808<=n) (h2:n<=9223372036854775807):IntKind.i64.wrap n=n:=IntWalk.i64_in n ⟨h1,h2⟩
theorem av (x a:Bool):pickB x a false=(x && a):=by cases x<;>rfl
theorem aw (x b:Bool):pickB x true b=(x || b):=by cases x<;>rfl
end Go.Proofs.YtadhpeooehkklaaGreat
set_option maxRecDepth 100000
namespace Go.Proofs.YtadhpeooehkklaaGreat
open Go Go.RowKit Dv Go.Proofs.Tryz
def isLet (c:Int):Bool:=decide (97<=c) && decide (c<=122)
def jl (c:Int):Bool:=(isLet c || (decide (48<=c) && decide (c<=57))) || decide (c=95)
def signs:List UInt8->Nat
 | []=>0
 | c :: r=>if jl c.toNat=true then signs r + 1 else 0
def ek:List UInt8->Nat
 | []=>0
 | c :: r=>if isLet c.toNat=true then signs r + 1 else 0
def bi (s:ByteArray):Bool:=decide (0 < s.size) && (decide (s.size<=32) && decide (ek s.data.toList=s.size))
theorem DK {c:Int} (h:isLet c=true):jl c=true:=by simp [jl,h]
theorem DL:∀ l:List UInt8,signs l<=l.length
 | []=>aR _
 | c :: r=>by
  simp only [signs,List.length_cons];split
  ·have:=DL r;omega
  ·omega
theorem wy {c:UInt8} {r:List UInt8} (h:isLet c.toNat=true):ek (c :: r)=signs (c :: r):=by
 simp [ek,signs,h,DK h]
theorem sN {s:ByteArray} {k:Nat} (h:k < s.size):∃ c:UInt8,s.data.toList.drop k=c :: s.data.toList.drop (k + 1)/\iZ s k=c.toNat:=by
 have hk:k < s.data.toList.length:=sU h;refine ⟨s.data.toList[k],by rw [<- List.drop_eq_getElem_cons hk],?_⟩;simp [iZ,aF,gE hk]
theorem wz {s:ByteArray} {k:Nat} (h:s.size<=k):s.data.toList.drop k=[]:=List.drop_eq_nil_of_le (sU h)
theorem ub (c:Int):aV prog 196 [.v (.int .u8 c)] (.v (.bool (isLet c))):=by
 refine eG 9 [.tmp 2] func196 rfl ntmps196 rfl fun _ _ _ _=>?_;exact (congrArg (fun b=>DV.v (.bool b)) (av _ _):_=_)
theorem J0 (c:Int):aV prog 197 [.v (.int .u8 c)] (.v (.bool (jl c))):=by
 refine eG 17 [.tmp 2] func197 rfl ntmps197 rfl fun _ _ _ _=>?_;refine cP Sw (ub c) ?_;refine (congrArg (fun b=>DV.v (.bool b)) ?_:_=_);simp only [av,aw,jl]
abbrev Gy (s:ByteArray) (i e:Nat):St:=⟨[(5,⟨[],.v (.int .i64 e)⟩),(0,⟨[],.v (.string s)⟩),(1,⟨[],.v (.int .i64 i)⟩)],[],[]⟩
theorem BL (s:ByteArray) (i:Nat):s.extract i (i + 0)=⟨#[]⟩:=by
 apply ByteArray.ext;simp only [Nat.add_zero,ByteArray.extract,ByteArray.copySlice];apply Array.ext';simp
theorem J1 (s:ByteArray) (i:Nat) (hi:i < s.size) (hs:s.size<=4611686018427387904):aV prog 159 [.v (.string s),.v (.int .i64 i)]
  (.tup [.v (.string (s.extract i (i + ek (s.data.toList.drop i)))),.v (.int .i64 ((i + ek (s.data.toList.drop i):Nat):Int))]):=by
 obtain ⟨c0,vg,iB⟩:=sN hi;refine eG 38 [.tmp 4,.tmp 5] func159 rfl ntmps159 rfl fun _ _ _ _=>?_;refine br (fun h=>?_) (fun _=>?_)
 ·simp [aw] at h;omega
 refine ⟨⟨by omega,by omega⟩,?_⟩;refine cP Sw (ub _) ?_;refine br ?_ ?_<;>intro h
 ·have hl:isLet (c0.toNat:Int)=false:=by
   have:(!isLet ((iZ s i:Nat):Int))=true:=h;rw [iB] at this;simpa using this
  have hn:ek (s.data.toList.drop i)=0:=by rw [vg];simp [ek,hl]
  rw [hn,BL];exact ⟨_,ax,rfl⟩
 have hl:isLet (c0.toNat:Int)=true:=by
  have:(!isLet ((iZ s i:Nat):Int))=false:=h;rw [iB] at this;simpa using this
 have hn:ek (s.data.toList.drop i)=signs (s.data.toList.drop i):=by rw [vg];exact wy hl
 rw [hn]
 refine bz (fun j st=>∃ e:Nat,st=Gy s i e/\e<=s.size/\i<=e/\e + signs (s.data.toList.drop e)=i + signs (s.data.toList.drop i)/\j=s.size - e)
  (s.size - i) (Gy s i i) (aj ⟨_,rfl⟩ wA rfl rfl rfl wB) ⟨i,rfl,by omega,by omega,rfl,rfl⟩ ?_
 rintro j st ⟨e,rfl,he,yN,hinv,rfl⟩;refine br ?_ ?_<;>intro h
 ·have ap:e < s.size:=sU h;refine ⟨⟨by omega,by omega⟩,?_⟩;refine cP Yb (J0 _) ?_;obtain ⟨c,hd,hb⟩:=sN ap;refine br ?_ ?_<;>intro h2
  ·have hsg:jl (c.toNat:Int)=true:=by
    have:jl ((iZ s e:Nat):Int)=true:=h2
    rwa [hb] at this
   refine ⟨Gy s i (e + 1),(aj ⟨_,rfl⟩ wA rfl rfl rfl (dt (aJ ap (by omega)))),s.size - (e + 1),by omega,e + 1,rfl,by omega,by omega,?_,rfl⟩;rw [hd] at hinv;simp only [signs,hsg,if_true] at hinv;omega
  ·have hsg:jl (c.toNat:Int)=false:=by
    have:jl ((iZ s e:Nat):Int)=false:=h2
    rwa [hb] at this
   rw [hd] at hinv;simp only [signs,hsg] at hinv;refine ⟨⟨by omega,by omega,by omega⟩,?_⟩;have:i + signs (s.data.toList.drop i)=e:=by simp at hinv;omega
   rw [this];exact ⟨_,ax,rfl⟩
 ·have aQ:e=s.size:=by simp at h;omega
  rw [wz (by omega)] at hinv;simp only [signs] at hinv;refine ⟨⟨by omega,by omega,by omega⟩,?_⟩;have:i + signs (s.data.toList.drop i)=e:=by omega
  rw [this];exact ⟨_,ax,rfl⟩
theorem take_nil (s:ByteArray) (hs:s.size=0):aV prog 159 [.v (.string s),.v (.int .i64 0)] (.tup [.v (.string ⟨#[]⟩),.v (.int .i64 0)]):=by
 refine eG 38 [.tmp 4,.tmp 5] func159 rfl ntmps159 rfl fun _ _ _ _=>?_;refine br (fun _=>?_) (fun h=>?_)
 ·exact ⟨_,ax,rfl⟩
 ·simp [aw,hs] at h
theorem Gz (l:List UInt8):ek l<=l.length:=by
 cases l with
 | nil=>exact aR _
 | cons c r=>
  simp only [ek,List.length_cons];split
  ·have:=DL r;omega
  ·omega
theorem DM (s:ByteArray):decide (s=⟨#[]⟩)=decide (s.size=0):=by
 rw [Bool.eq_iff_iff];simp only [decide_eq_true_eq];constructor
 ·rintro rfl;rfl
 ·intro h;apply ByteArray.ext;exact Array.eq_empty_of_size_eq_zero h
theorem jm (s:ByteArray) (hs:s.size<=4611686018427387904):aV prog 94 [.v (.string s)] (.v (.bool (bi s))):=by
 refine eG 22 [.tmp 2] func94 rfl ntmps94 rfl fun _ _ _ _=>?_;by_cases h0:s.size=0
 ·refine cP Sk (take_nil s h0) ?_;refine (congrArg (fun b=>DV.v (.bool b)) ?_:_=_);simp [av,bi,DM,h0]
 ·refine cP Sk (J1 s 0 (by omega) hs) ?_;refine (congrArg (fun b=>DV.v (.bool b)) ?_:_=_);have hl:=Gz s.data.toList;simp only [Array.length_toList,ByteArray.size_data] at hl;simp only [av,bi,DM,List.drop_zero,Nat.zero_add];rw [Bool.eq_iff_iff];simp only [aP,decide_eq_true_eq,Bool.not_eq_true',decide_eq_false_iff_not];omega
abbrev BM (s:ByteArray) (i n e:Nat):St:=⟨[(5,⟨[],.v (.int .i64 n)⟩),(6,⟨[],.v (.int .i64 e)⟩),(0,⟨[],.v (.string s)⟩),(1,⟨[],.v (.int .i64 i)⟩)],[],[]⟩
theorem DN (s:ByteArray) (hs:s.size<=4611686018427387904):aV prog 204 [.v (.string s),.v (.int .i64 0)] (.v (.int .i64 (ek s.data.toList))):=by
 refine eG 47 [.tmp 4] func204 rfl ntmps204 rfl fun _ _ _ _=>?_
 refine bz (fun j st=>∃ e:Nat,st=BM s 0 e e/\e<=s.size/\(e=0∨e + signs (s.data.toList.drop e)=ek s.data.toList)/\j=s.size - e)
  s.size (BM s 0 0 0) (aj ⟨_,rfl⟩ wA rfl rfl rfl wB) ⟨0,rfl,by omega,.inl rfl,rfl⟩ ?_
 rintro j st ⟨e,rfl,he,hinv,rfl⟩;refine br ?_ ?_<;>intro h
 ·have ap:e < s.size:=sU h;refine ⟨⟨by omega,by omega⟩,?_⟩;obtain ⟨c,hd,hb⟩:=sN ap
  have key:ek s.data.toList=if (e=0/\isLet (c.toNat:Int)=true)∨(e≠0/\jl (c.toNat:Int)=true) then (e + 1) + signs (s.data.toList.drop (e + 1)) else e:=by
   by_cases h0:e=0
   ·subst h0;simp only [List.drop_zero] at hd;have hk:ek s.data.toList=if isLet (c.toNat:Int)=true then signs (s.data.toList.drop (0 + 1)) + 1 else 0:=congrArg ek hd
    rw [hk];by_cases hl:isLet (c.toNat:Int)=true
    ·rw [ai hl,ai (.inl ⟨rfl,hl⟩)];omega
    ·rw [ah hl,ah (by simp [hl])]
   ·have qQ:=hinv.resolve_left h0;rw [hd] at qQ;simp only [signs] at qQ;by_cases hl:jl (c.toNat:Int)=true
    ·rw [ai hl] at qQ;rw [ai (.inr ⟨h0,hl⟩)];omega
    ·rw [ah hl] at qQ;rw [ah (by simp [hl,h0])];omega
  refine br ?_ ?_<;>intro h2
  ·have lh:iZ s ((e:Int).toNat)=c.toNat:=hb;rw [lh] at h2
   have:ek s.data.toList=e:=by
    rw [key,ah];simp only [av,aw,jl,isLet] at h2 ⊢;simp at h2 ⊢;omega
   rw [this];exact (rfl:_=_)
  ·have lh:iZ s ((e:Int).toNat)=c.toNat:=hb;rw [lh] at h2;refine ⟨BM s 0 (e + 1) (e + 1),(aj ⟨_,rfl⟩ wA rfl rfl rfl (dt (aJ ap (by omega)))),s.size - (e + 1),by omega,e + 1,rfl,by omega,.inr ?_,rfl⟩;rw [key,ai];simp only [av,aw,jl,isLet] at h2 ⊢;simp at h2 ⊢;omega
 ·have aQ:e=s.size:=by simp at h;omega
  have:ek s.data.toList=e:=by
   rcases hinv with h0 | h0
   ·subst h0;have:s.data.toList=[]:=by rw [<- List.drop_zero (l:=s.data.toList)];exact wz (by omega)
    rw [this];all_goals rfl
   ·rw [wz (by omega)] at h0;simp only [signs] at h0;omega
  rw [this];exact (rfl:_=_)
theorem jG (s:ByteArray) (hs:s.size<=4611686018427387904):aV prog 169 [.v (.string s)] (.v (.bool (bi s))):=by
 refine eG 18 [.tmp 2] func169 rfl ntmps169 rfl fun _ _ _ _=>?_;refine br ?_ ?_<;>intro h
 ·refine cP Ye (DN s hs) ?_;refine (congrArg (fun b=>DV.v (.bool b)) ?_:_=_);rw [Bool.eq_iff_iff];simp [av] at h;simp [av,bi];omega
 ·refine (congrArg (fun b=>DV.v (.bool b)) ?_:_=_);rw [Bool.eq_iff_iff];simp [av] at h;simp [av,bi];omega
def fl (l:List ByteArray):List (List DV):=l.map fun s=>[.v (.string s)]
def dInts (l:List Nat):List (List DV):=l.map fun (i:Nat)=>[.v (.int .i64 (i:Int))]
theorem ct (l:List ByteArray):(fl l).length=l.length:=by simp [fl]
theorem bg (l:List Nat):(dInts l).length=l.length:=by simp [dInts]
theorem iD {l:List ByteArray} {j:Nat} {x:ByteArray} (h:l[j]? = some x):(fl l)[j]? = some [.v (.string x)]:=by simp [fl,h]
theorem aG {l:List Nat} {j:Nat} {x:Nat} (h:l[j]? = some x):(dInts l)[j]? = some [.v (.int .i64 (x:Int))]:=by simp [dInts,h]
abbrev GA (g:Nat) (cb:List DV) (i j:Nat):St:=⟨[(1,⟨[],.fn g [] cb⟩),(5,⟨[],.v (.int .i64 i)⟩),(6,⟨[],.v (.int .i64 j)⟩)],[],[]⟩
theorem uc (g:Nat) (mC:Enters prog g) (cb:List DV) (n m:Nat) (hn:n<=1099511627776) (hm:m<=n) (hcb:CcL [] 0 0 0 cb cb) (eS:clB.clL 0 0 cb=true)
  (hp:∀ i:Nat,i < n->aV prog g (.v (.int .i64 i) :: cb) (.v (.bool (decide (m<=i))))) :
  aV prog 161 [.v (.int .i64 n),.fn g [] cb] (.v (.int .i64 m)):=by
 refine eG 26 [.tmp 4] func161 rfl ntmps161 rfl fun _ _ _ _=>?_;have C5:clB 0 0 (.fn g [] cb)=true:=by simp only [clB,aP];exact ⟨rfl,eS⟩
 refine lI (fun j st=>∃ a b:Nat,st=GA g cb a b/\a<=m/\m<=b/\b<=n/\j=b - a) ⟨0,n,rfl,by omega,by omega,by omega,rfl⟩ (aj ⟨_,rfl⟩ wA rfl rfl rfl (dt C5)) ?_;rintro j st ⟨a,b,rfl,h1,h2,h3,rfl⟩;refine br ?_ ?_<;>intro h
 ·have ap:a < b:=sU h
  have Uw:IntKind.i64.wrap ((IntKind.u64.wrap (IntKind.i64.wrap ((a:Int) + (b:Int)))).fdiv (2 ^ (min ((1:Int).toNat) IntKind.u64.bits)))=(((a + b) / 2:Nat):Int):=by
   rw [wrap64 (n:=(a:Int) + (b:Int)) (by omega) (by omega),IntKind.wrap_u64];have e2:(2:Int) ^ (min ((1:Int).toNat) IntKind.u64.bits)=2:=by decide
   rw [e2,Int.fdiv_eq_ediv_of_nonneg _ (by decide),wrap64 (by omega) (by omega)];omega
  refine ⟨by decide,?_⟩;refine cP mC (hp ((a + b) / 2) (by omega)) ?_ ⟨_,_,rfl,congrArg (fun z=>DV.v (.int .i64 z)) Uw,hcb⟩;refine br ?_ ?_<;>intro hq
  ·have hq:(a + b) / 2 < m:=sU hq;have zt:=aJ (e:=(a + b) / 2) (n:=n) (by omega) (by omega);rw [<- Uw] at zt;refine ⟨GA g cb ((a + b) / 2 + 1) b,(aj ⟨_,rfl⟩ wA rfl rfl rfl (wB2 C5 zt)),b - ((a + b) / 2 + 1),by omega,(a + b) / 2 + 1,b,rfl,by omega,by omega,by omega,rfl⟩
  ·have hq:m<=(a + b) / 2:=sU hq;refine ⟨GA g cb a ((a + b) / 2),(aj ⟨_,rfl⟩ wA rfl rfl rfl (wB2 C5 Uw)),(a + b) / 2 - a,by omega,a,(a + b) / 2,rfl,by omega,by omega,by omega,rfl⟩
 ·have aQ:¬ a < b:=sU h;have:a=m:=by omega
  subst this;exact (rfl:_=_)
def zd (a b:ByteArray):Bool:=Op.bytesLess a.data.toList b.data.toList
theorem lC:∀ l:List UInt8,Op.bytesLess l l=false
 | []=>rfl
 | a :: r=>by simp [Op.bytesLess,lC r]
theorem kI:∀ {a b:List UInt8},Op.bytesLess a b=true->Op.bytesLess b a=false
 | _,[],h=>by simp [Op.bytesLess] at h
 | [],b :: r,_=>rfl
 | a :: x,b :: y,h=>by
  simp only [Op.bytesLess,Bool.or_eq_true,decide_eq_true_eq,aP,beq_iff_eq] at h;simp only [Op.bytesLess,Bool.or_eq_false_iff,decide_eq_false_iff_not,Bool.and_eq_false_imp,beq_iff_eq];rcases h with h | ⟨rfl,h⟩
  ·refine ⟨fun h2=>?_,fun h2=>?_⟩
   ·exact absurd (UInt8.lt_trans h h2) (UInt8.lt_irrefl _)
   ·subst h2;exact absurd h (UInt8.lt_irrefl _)
  ·exact ⟨UInt8.lt_irrefl _,fun _=>kI h⟩
structure iT (L:List ByteArray) (aM:List Nat):Prop where
 lt:∀ (i p:Nat),aM[i]? = some p->p < L.length
 srt:∀ (i j p q:Nat) (s t:ByteArray),i < j->aM[i]? = some p->aM[j]? = some q->L[p]? = some s->L[q]? = some t->zd s t=true
 fst:∀ (i p j:Nat) (s:ByteArray),aM[i]? = some p->L[p]? = some s->L[j]? = some s->p<=j
 all:∀ (j:Nat) (s:ByteArray),L[j]? = some s->∃ i p:Nat,aM[i]? = some p/\L[p]? = some s
abbrev dz (L:List ByteArray) (aM:List Nat):List DV:=[.sl 1 (fl L) none,.sl 1 (dInts aM) none]
theorem wE (L:List ByteArray) (aM:List Nat) (s:ByteArray) (i p:Nat) (t:ByteArray) (hi:aM[i]? = some p) (hp:L[p]? = some t) :
  aV prog 162 [.v (.int .i64 i),.pt [.pt (dz L aM) 0] 0,.pt [.v (.string s)] 0] (.v (.bool (!zd t s))):=by
 refine eG 20 [.tmp 4] func162 rfl ntmps162 rfl fun _ _ _ _=>?_;refine dI ?_;refine iX (aG hi) ?_;refine iX (iD hp) ?_;exact (rfl:_=_)
theorem find_spec (L:List ByteArray) (aM:List Nat) (s:ByteArray) (q p:Nat) (hT:iT L aM) (hl:aM.length<=1099511627776) (hq:aM[q]? = some p) (hp:L[p]? = some s) :
  aV prog 98 [.pt (dz L aM) 0,.v (.string s)] (.tup [.v (.int .i64 p),.v (.bool true)]):=by
 have hqlt:=(gS hq).1;refine eG 47 [.tmp 4,.tmp 5] func98 rfl ntmps98 rfl fun _ _ _ _=>?_
 have eS:∀ i:Nat,i < aM.length->aV prog 162 [.v (.int .i64 i),.pt [.pt (dz L aM) 0] 0,.pt [.v (.string s)] 0] (.v (.bool (decide (q<=i)))):=by
  intro i hi;obtain ⟨p',qX⟩:∃ p',aM[i]? = some p':=⟨_,gE hi⟩;obtain ⟨t,ht⟩:∃ t,L[p']? = some t:=⟨_,gE (hT.lt i p' qX)⟩;have:=wE L aM s i p' t qX ht
  have e:(!zd t s)=decide (q<=i):=by
   rcases Nat.lt_trichotomy i q with h | h | h
   ·rw [hT.srt i q p' p t s h qX hq ht hp];simp;omega
   ·subst h;rw [hq] at qX;simp only [oI] at qX;subst qX;rw [hp] at ht;simp only [oI] at ht;subst ht;rw [zd,lC];simp
   ·have h2:=hT.srt q i p p' s t h hq qX hp ht;rw [zd,kI h2];simp;omega
  rw [e] at this;exact this
 have hS:=uc 162 Sn [.pt [.pt (dz L aM) 0] 0,.pt [.v (.string s)] 0] aM.length q hl (by omega) ax rfl eS;refine BJ Sm hS (gU (bg aM)) rfl ?_;refine dI ?_;refine br ?_ ?_<;>intro h
 ·refine iX (aG hq) ?_;refine iX (iD hp) ?_;refine br ?_ ?_<;>intro h2
  ·exfalso;simp [aw,bg] at h2
  ·refine iX (aG hq) ?_;exact ⟨_,ax,rfl⟩
 ·exfalso;have:decide ((q:Int)=((dInts aM).length:Int))=true:=sU h;simp [bg] at this;omega
end Go.Proofs.YtadhpeooehkklaaGreat
set_option maxRecDepth 100000
namespace Go.Proofs
open Go.Shelf
def Tryz.laysGg6_ren:Go.Shelf.Ren:=⟨fun | 6=>148 | 10=>191 | 11=>192 | 12=>193 | 13=>194 | 14=>195 | 24=>221 | 25=>222 | 26=>223 | 27=>224 | 28=>225 | 29=>226 | 30=>227 | 31=>228 | 32=>229 | 33=>230 | 34=>234 | 35=>235 | 36=>236 | 37=>237 | 38=>238 | 39=>242 | n=>n,fun | 20=>20 | 26=>224 | 35=>264 | 0=>0 | 37=>266 | 3=>3 | 41=>269 | 44=>272 | 49=>285 | 51=>229 | 4=>4 | 54=>288 | 53=>287 | 58=>168 | 5=>5 | 9=>9 | 60=>296 | 64=>300 | 66=>302 | 67=>38 | 17=>17 | 32=>261 | 33=>262 | 82=>319 | 12=>12 | 75=>312 | 76=>313 | 77=>314 | 78=>315 | 79=>316 | 80=>317 | n=>n,fun | n=>n⟩
theorem Tryz.laysGg6:Go.Proofs.LaysGg.n6 prog Tryz.laysGg6_ren:={
 mixed:=by kernel_rfl
 f6:=func148.trans (congrArg some (by kernel_rfl))
 f10:=func191.trans (congrArg some (by kernel_rfl))
 f11:=func192.trans (congrArg some (by kernel_rfl))
 f12:=func193.trans (congrArg some (by kernel_rfl))
 f13:=func194.trans (congrArg some (by kernel_rfl))
 f14:=func195.trans (congrArg some (by kernel_rfl))
 f24:=func221.trans (congrArg some (by kernel_rfl))
 f25:=func222.trans (congrArg some (by kernel_rfl))
 f26:=func223.trans (congrArg some (by kernel_rfl))
 f27:=func224.trans (congrArg some (by kernel_rfl))
 f28:=func225.trans (congrArg some (by kernel_rfl))
 f29:=func226.trans (congrArg some (by kernel_rfl))
 f30:=func227.trans (congrArg some (by kernel_rfl))
 f31:=func228.trans (congrArg some (by kernel_rfl))
 f32:=func229.trans (congrArg some (by kernel_rfl))
 f33:=func230.trans (congrArg some (by kernel_rfl))
 f34:=func234.trans (congrArg some (by kernel_rfl))
 f35:=func235.trans (congrArg some (by kernel_rfl))
 f36:=func236.trans (congrArg some (by kernel_rfl))
 f37:=func237.trans (congrArg some (by kernel_rfl))
 f38:=func238.trans (congrArg some (by kernel_rfl))
 f39:=func242.trans (congrArg some (by kernel_rfl))
 t0:=Tryz.underlying0
 a0:=Tryz.isAgg0
 z0:=Tryz.sizeOf0
 v0:=Tryz.zeroValue0
 i0:=by kernel_rfl
 t3:=Tryz.underlying3
 a3:=Tryz.isAgg3
 z3:=Tryz.sizeOf3
 v3:=Tryz.zeroValue3
 i3:=by kernel_rfl
 t4:=Tryz.underlying4
 a4:=Tryz.isAgg4
 z4:=Tryz.sizeOf4
 v4:=Tryz.zeroValue4
 i4:=by kernel_rfl
 t5:=Tryz.underlying5
 a5:=Tryz.isAgg5
 z5:=Tryz.sizeOf5
 v5:=Tryz.zeroValue5
 i5:=by kernel_rfl
 t9:=Tryz.underlying9
 a9:=Tryz.isAgg9
 z9:=Tryz.sizeOf9
 v9:=Tryz.zeroValue9
 i9:=by kernel_rfl
 t12:=Tryz.underlying12
 a12:=Tryz.isAgg12
 z12:=Tryz.sizeOf12
 v12:=Tryz.zeroValue12
 i12:=by kernel_rfl
 t17:=Tryz.underlying17
 a17:=Tryz.isAgg17
 z17:=Tryz.sizeOf17
 v17:=Tryz.zeroValue17
 i17:=by kernel_rfl
 t20:=Tryz.underlying20
 a20:=Tryz.isAgg20
 z20:=Tryz.sizeOf20
 v20:=Tryz.zeroValue20
 i20:=by kernel_rfl
 t26:=Tryz.underlying224
 a26:=Tryz.isAgg224
 z26:=Tryz.sizeOf224
 v26:=Tryz.zeroValue224
 i26:=by kernel_rfl
 t32:=Tryz.underlying261
 a32:=Tryz.isAgg261
 z32:=Tryz.sizeOf261
 v32:=Tryz.zeroValue261
 i32:=by kernel_rfl
 t33:=Tryz.underlying262
 a33:=Tryz.isAgg262
 z33:=Tryz.sizeOf262
 v33:=Tryz.zeroValue262
 i33:=by kernel_rfl
 t35:=Tryz.underlying264
 a35:=Tryz.isAgg264
 z35:=Tryz.sizeOf264
 v35:=Tryz.zeroValue264
 i35:=by kernel_rfl
 t37:=Tryz.underlying266
 a37:=Tryz.isAgg266
 z37:=Tryz.sizeOf266
 v37:=Tryz.zeroValue266
 i37:=by kernel_rfl
 t41:=Tryz.underlying269
 a41:=Tryz.isAgg269
 z41:=Tryz.sizeOf269
 v41:=Tryz.zeroValue269
 i41:=by kernel_rfl
 t44:=Tryz.underlying272
 a44:=Tryz.isAgg272
 z44:=Tryz.sizeOf272
 v44:=Tryz.zeroValue272
 i44:=by kernel_rfl
 t49:=Tryz.underlying285
 a49:=Tryz.isAgg285
 z49:=Tryz.sizeOf285
 v49:=Tryz.zeroValue285
 i49:=by kernel_rfl
 t51:=Tryz.underlying229
 a51:=Tryz.isAgg229
 z51:=Tryz.sizeOf229
 v51:=Tryz.zeroValue229
 i51:=by kernel_rfl
 t53:=Tryz.underlying287
 a53:=Tryz.isAgg287
 z53:=Tryz.sizeOf287
 v53:=Tryz.zeroValue287
 i53:=by kernel_rfl
 t54:=Tryz.underlying288
 a54:=Tryz.isAgg288
 z54:=Tryz.sizeOf288
 v54:=Tryz.zeroValue288
 i54:=by kernel_rfl
 t58:=Tryz.underlying168
 a58:=Tryz.isAgg168
 z58:=Tryz.sizeOf168
 v58:=Tryz.zeroValue168
 i58:=by kernel_rfl
 t60:=Tryz.underlying296
 a60:=Tryz.isAgg296
 z60:=Tryz.sizeOf296
 v60:=Tryz.zeroValue296
 i60:=by kernel_rfl
 t64:=Tryz.underlying300
 a64:=Tryz.isAgg300
 z64:=Tryz.sizeOf300
 v64:=Tryz.zeroValue300
 i64:=by kernel_rfl
 t66:=Tryz.underlying302
 a66:=Tryz.isAgg302
 z66:=Tryz.sizeOf302
 v66:=Tryz.zeroValue302
 i66:=by kernel_rfl
 t67:=Tryz.underlying38
 a67:=Tryz.isAgg38
 z67:=Tryz.sizeOf38
 v67:=Tryz.zeroValue38
 i67:=by kernel_rfl
 t75:=Tryz.underlying312
 a75:=Tryz.isAgg312
 z75:=Tryz.sizeOf312
 v75:=Tryz.zeroValue312
 i75:=by kernel_rfl
 t76:=Tryz.underlying313
 a76:=Tryz.isAgg313
 z76:=Tryz.sizeOf313
 v76:=Tryz.zeroValue313
 i76:=by kernel_rfl
 t77:=Tryz.underlying314
 a77:=Tryz.isAgg314
 z77:=Tryz.sizeOf314
 v77:=Tryz.zeroValue314
 i77:=by kernel_rfl
 t78:=Tryz.underlying315
 a78:=Tryz.isAgg315
 z78:=Tryz.sizeOf315
 v78:=Tryz.zeroValue315
 i78:=by kernel_rfl
 t79:=Tryz.underlying316
 a79:=Tryz.isAgg316
 z79:=Tryz.sizeOf316
 v79:=Tryz.zeroValue316
 i79:=by kernel_rfl
 t80:=Tryz.underlying317
 a80:=Tryz.isAgg317
 z80:=Tryz.sizeOf317
 v80:=Tryz.zeroValue317
 i80:=by kernel_rfl
 t82:=Tryz.underlying319
 a82:=Tryz.isAgg319
 z82:=Tryz.sizeOf319
 v82:=Tryz.zeroValue319
 i82:=by kernel_rfl }
end Go.Proofs
namespace Go.Proofs.YtadhpeooehkklaaGreat
open Go Go.RowKit Go.Lib Go.Sort Go.Proofs.Tryz
noncomputable def siT:TypeInfo:=(prog.info? 69).get (by kernel_rfl)
noncomputable def Wh:TypeInfo:=(prog.info? 3).get (by kernel_rfl)
theorem siK (n:Nat) (h2:2<=n):Lib.swapperK n Wh 2=5:=by
 have a:Wh.hasPointers=false:=by kernel_rfl
 have b:Wh.bytes=8:=by kernel_rfl
 have c:(n == 0)=false:=by simp;omega
 have d:(n == 1)=false:=by simp;omega
 simp [Lib.swapperK,a,b,c,d]
theorem Mz {α:Type} [Inhabited α] (enc:α->Value) (h1:∀ x,(enc x).oneCell'=true) {lt:α->α->Bool} (hO:SWO lt) (lb:Array Value) (FY c:Nat) (d:Array α) (h2:2<=d.size) (bQ:d.size < 4611686018427387904) (w:World)
  (MA:LessReads prog 149 lb enc lt FY 0 d.size w) (hH:Holds enc w FY 0 d) (hblk:FY < w.heap.size) :
  Calls prog 148 #[.iface 69 (.slice (some ⟨FY,0,none⟩) d.size c),.func (.func 149) #[] lb] w fun e w'=>
   e = .returned (.tuple #[])/\∃ d' n os,PermIn 0 d.size d d' /\ SortedIn lt 0 d.size d' /\ w'=grow (putRow enc (Sort.ahead w n) FY 0 d') os:=
 Any.sort_Slice_sorted Tryz.laysGg6 69 3 siT Wh (by kernel_rfl) (by kernel_rfl) (by kernel_rfl) (by kernel_rfl) 2 (fun _=>by kernel_rfl) (by kernel_rfl) (fun _=>by kernel_rfl) enc h1 lt hO 149 lb
  (enters_of func149 (by kernel_rfl) rfl) FY 0 c d h2 bQ 216 (by rw [siK _ h2];kernel_rfl) true
  (fun args W=>run_callFunc_extern func216 (by kernel_rfl) (by kernel_rfl) (by kernel_rfl) (e:=Extern.ReflectliteSwapper.swap true) (by kernel_rfl) args W) w MA hH hblk
theorem J2 (lb:Array Value) (p:Option Addr) (n c:Nat) (h1:n<=1) (w:World) :
  Calls prog 148 #[.iface 69 (.slice p n c),.func (.func 149) #[] lb] w fun e w'=>e = .returned (.tuple #[])/\∃ os,w'=grow w os:=by
 have h:n=0∨n=1:=by omega
 rcases h with rfl | rfl
 ·exact Any.sort_Slice_tiny Tryz.laysGg6 69 3 siT Wh (by kernel_rfl) (by kernel_rfl) (by kernel_rfl) (by kernel_rfl) 2 (fun _=>by kernel_rfl) p 0 c h1 212 (by kernel_rfl) _ _ _ w
 ·exact Any.sort_Slice_tiny Tryz.laysGg6 69 3 siT Wh (by kernel_rfl) (by kernel_rfl) (by kernel_rfl) (by kernel_rfl) 2 (fun _=>by kernel_rfl) p 1 c h1 213 (by kernel_rfl) _ _ _ w
end Go.Proofs.YtadhpeooehkklaaGreat
set_option maxRecDepth 100000
namespace Go.Proofs.YtadhpeooehkklaaGreat
open Go Go.RowKit Dv Go.Proofs.Tryz
theorem pz:∀ {a b:List UInt8},Op.bytesLess a b=false->a=b∨Op.bytesLess b a=true
 | [],[],_=>.inl rfl
 | a :: x,[],_=>.inr rfl
 | [],b :: r,h=>by simp [Op.bytesLess] at h
 | a :: x,b :: y,h=>by
  simp only [Op.bytesLess,Bool.or_eq_false_iff,decide_eq_false_iff_not,Bool.and_eq_false_imp,beq_iff_eq] at h;simp only [Op.bytesLess,Bool.or_eq_true,decide_eq_true_eq,aP,beq_iff_eq];by_cases zb:a=b
  ·subst zb;rcases pz (h.2 rfl) with h2 | h2
   ·exact .inl (by rw [h2])
   ·exact .inr (.inr ⟨rfl,h2⟩)
  ·refine .inr (.inl ?_);rcases UInt8.lt_or_lt_of_ne zb with h3 | h3
   ·exact absurd h3 h.1
   ·exact h3
theorem gR:∀ {a b c:List UInt8},Op.bytesLess a b=true->Op.bytesLess b c=true->Op.bytesLess a c=true
 | _,[],_,h,_=>by simp [Op.bytesLess] at h
 | _,_ :: _,[],_,h=>by simp [Op.bytesLess] at h
 | [],b :: y,c :: z,_,_=>rfl
 | a :: x,b :: y,c :: z,h1,h2=>by
  simp only [Op.bytesLess,Bool.or_eq_true,decide_eq_true_eq,aP,beq_iff_eq] at h1 h2 ⊢;rcases h1 with h1 | ⟨rfl,h1⟩
  ·rcases h2 with h2 | ⟨rfl,h2⟩
   ·exact .inl (UInt8.lt_trans h1 h2)
   ·exact .inl h1
  ·rcases h2 with h2 | ⟨rfl,h2⟩
   ·exact .inl h2
   ·exact .inr ⟨rfl,gR h1 h2⟩
theorem IF {s t:ByteArray} (h:zd s t=false):s=t∨zd t s=true:=by
 rcases pz h with h | h
 ·exact .inl (ByteArray.ext (Array.ext' h))
 ·exact .inr h
def C7 (L:List ByteArray) (p q:Nat):Bool:=
 if L.getD p ay=L.getD q ay then decide (p < q) else zd (L.getD p ay) (L.getD q ay)
theorem Ql (L:List ByteArray):Sort.SWO (C7 L):=by
 have irr:∀ x,C7 L x x=false:=fun x=>by simp [C7]
 have tr:∀ x y z,C7 L x y=true->C7 L y z=true->C7 L x z=true:=by
  intro x y z h1 h2;unfold C7 at *;generalize L.getD x ay=a at *;generalize L.getD y ay=b at *;generalize L.getD z ay=c at *;by_cases zb:a=b
  ·subst zb;rw [ai rfl] at h1;by_cases Yt:a=c
   ·rw [ai Yt] at h2 ⊢;simp at h1 h2 ⊢;omega
   ·rw [ah Yt] at h2 ⊢;exact h2
  ·rw [ah zb] at h1;by_cases Yt:b=c
   ·subst Yt;rw [ah zb];exact h1
   ·rw [ah Yt] at h2
    have hac:a≠c:=by
     rintro rfl;have:=kI h1;rw [zd,this] at h2;cases h2
    rw [ah hac];exact gR h1 h2
 have tot:∀ x y,C7 L x y=false->x=y∨C7 L y x=true:=by
  intro x y h;unfold C7 at *;by_cases zb:L.getD x ay=L.getD y ay
  ·rw [ai zb] at h;rw [ai zb.symm];simp at h ⊢;omega
  ·rw [ah zb] at h;rw [ah (fun e=>zb e.symm)];rcases IF h with h | h
   ·exact absurd h zb
   ·exact .inr h
 refine ⟨irr,tr,fun x y z h1 h2=>?_⟩;rcases tot x y h1 with rfl | h3
 ·exact h2
 ·rcases tot y z h2 with rfl | h4
  ·exact h1
  ·cases h5:C7 L x z
   ·rfl
   ·have:=tr _ _ _ (tr _ _ _ h4 h3) h5;rw [irr] at this;cases this
theorem J3 (L:List ByteArray) (d:List Nat) (i j p q:Nat) (hi:d[i]? = some p) (hj:d[j]? = some q) (hp:p < L.length) (hq:q < L.length) :
  EvS prog 149 [.v (.int .i64 i),.v (.int .i64 j),.pt [.sl 1 (dInts d) none] 0,.pt [.pt [.sl 1 (fl L) none,.v (.slice none 0 0)] 0] 0] [] [] (fun r _ _=>r = .v (.bool (C7 L p q))):=by
 obtain ⟨s,hs⟩:∃ s,L[p]? = some s:=⟨_,gE hp⟩;obtain ⟨t,ht⟩:∃ t,L[q]? = some t:=⟨_,gE hq⟩
 have e:C7 L p q=if s=t then decide (p < q) else zd s t:=by
  simp [C7,aF,hs,ht]
 refine L4 (s:=true) (P:=prog) tt zP 5000 50 [.tmp 6] func149 rfl ntmps149 rfl (nL rfl) (fun _ _ _ _=>?_);refine dI ?_;refine iX (aG hi) ?_;refine iX (aG hj) ?_;refine dI ?_;refine iX (iD hs) ?_;refine iX (iD ht) ?_;refine br ?_ ?_<;>intro h
 ·have bp:s≠t:=sU h;refine dI ?_;refine iX (iD hs) ?_;refine iX (iD ht) ?_;refine (congrArg (fun b=>DV.v (.bool b)) ?_:_=_);rw [e,ah bp];rfl
 ·have aN:s=t:=sU h;refine (congrArg (fun b=>DV.v (.bool b)) ?_:_=_);rw [e,ai aN];simp
abbrev MB (p:Nat):Value:=.int .i64 (p:Int)
theorem DO {E:En}:∀ {ds:List Nat} {arr:List Value},RvL E (dInts ds).flatten arr->arr=ds.map MB
 | [],arr,h=>by simpa [dInts,RvL] using h
 | x :: r,arr,h=>by
  simp only [dInts,List.map_cons,List.flatten_cons,List.cons_append,List.nil_append,RvL] at h;obtain ⟨v,s,rfl,h1,h2⟩:=h;unfold Rv at h1;rw [h1.1,DO (ds:=r) h2];rfl
theorem wF {E:En}:∀ ds:List Nat,RvC E (dInts ds).flatten (ds.map MB)
 | []=>⟨c9 E,by simp⟩
 | x :: r=>by
  have ih:=wF (E:=E) r;refine ⟨?_,?_⟩
  ·simp only [dInts,List.map_cons,List.flatten_cons,List.cons_append,List.nil_append];exact rvL_cons (gG rfl) ih.1
  ·intro v hv;simp only [List.map_cons,List.mem_cons] at hv;rcases hv with rfl | hv
   ·rfl
   ·exact ih.2 v hv
theorem Yu {m:Nat}:∀ ds:List Nat,(∀ p∈ds,p < m + 1)->∃ D:List (Fin (m + 1)),D.map (·.val)=ds
 | [],_=>⟨[],rfl⟩
 | x :: r,h=>by
  obtain ⟨D,hD⟩:=Yu r fun p hp=>h p (de _ hp);exact ⟨⟨x,h x (by simp)⟩ :: D,by simp [hD]⟩
theorem wH {α:Type} [Inhabited α] (enc:α->Value) (w:World) (b n:Nat) (dk:Array α) (os:Array Obj) (arr:List Value) (ty:TypeId) (hw:w.heap[b]? = some (.cells arr.toArray ty (0,0))) (hl:arr.length=dk.size) :
  ∀ k,k < w.heap.size->(Sort.grow (Sort.putRow enc (Sort.ahead w n) b 0 dk) os).heap[k]? = (World.dT w b (.cells (dk.toList.map enc).toArray ty (0,0))).heap[k]?:=by
 intro k hk;simp only [Sort.grow,Sort.putRow,Sort.mapBlock,Sort.ahead];rw [Array.getElem?_append_left (sU hk),Array.getElem?_modify];by_cases J4:b=k
 ·subst J4;rw [ai rfl,hw,ib hw];simp only [Option.map_some,Sort.onCells,oI,Obj.cells.injEq,and_true];apply Array.ext_getElem?;intro j;simp only [Sort.putCells,Array.getElem?_mapIdx];rcases Nat.lt_or_ge j dk.size with hj | hj
  ·have h1:j < arr.length:=by omega
   simp [h1,hj]
  ·have h1:arr.length<=j:=by omega
   simp [h1,hj]
 ·rw [ah J4,dp (Ne.symm J4)]
theorem MC {α:Type} {l:List α} {i:Nat} {x:α} (h:l[i]? = some x):l.set i x=l:=by
 apply List.ext_getElem?;intro j;by_cases hj:j=i
 ·subst hj;rw [cQ (gS h).1,h]
 ·rw [List.getElem?_set_ne (Ne.symm hj)]
theorem J5 {X:Ctx} {st:St} {k:List It} (hP:X.P=prog) {i c len:Nat} {ds:List Nat} (hlen:len=ds.length) {lbD:List DV} {d:Nat} (N:Nat) (hN:∀ p∈ds,p < N) (lt:Nat->Nat->Bool) (hO:Sort.SWO lt)
  (uN:st.bx[i]? = some (dInts ds).flatten) (hn:ds.length<=1099511627776) (lbF:List Nat->List DV) (Qm:∀ dk:List Nat,dk.length=ds.length->CcL (st.bx.set i (dInts dk).flatten) 0 0 0 (lbF dk) lbD)
  (MA:∀ dk:List Nat,dk.length=ds.length->(∀ p∈dk,p < N)->∀ i j p q:Nat,dk[i]? = some p->dk[j]? = some q->EvS prog 149 (.v (.int .i64 i) :: .v (.int .i64 j) :: lbF dk) [] [] (fun r _ _=>r = .v (.bool (lt p q))))
  (hd:gp X.nt st.sl (some d)=true)
  (hk:∀ Ux:List Nat,Ux.Perm ds->(∀ i j p q:Nat,i < j->Ux[i]? = some p->Ux[j]? = some q->lt q p=false)->go X 4000 k ⟨(d,⟨[],.tup []⟩) :: st.sl,st.bx.set i (dInts Ux).flatten,st.tk⟩)
  (aW:X.still=false:=by exact rfl) (hX:X.bt=[]:=by exact rfl):ie X 148 [.sq 69 (.ms i 1 0 len c),.fn 149 [] lbD] (some d) k st:=by
 subst hlen;refine ⟨?_,aW,fun E a w vs h hv=>?_⟩
 ·rw [hP];exact XW
 rw [hP];simp only [RvL] at hv;obtain ⟨v1,_,rfl,h1,v2,_,rfl,h2,rfl⟩:=hv;unfold Rv at h1;obtain ⟨z,rfl,h1⟩:=h1;unfold Rv at h1;obtain ⟨b,ad,hb,V6,rfl,hca⟩:=h1;unfold Rv at h2;obtain ⟨l,r,rfl,hl,hr⟩:=h2;simp only [RvL] at hl;subst hl;obtain ⟨b',ty,arr,gv,hw,tX⟩:=h.env.fk i _ uN;rw [hb] at gv;simp only [oI] at gv;subst gv;have MD:=DO tX.1;have Um:=dA hw;by_cases h1:ds.length<=1
 ·refine (J2 r.toArray ad ds.length c h1 w).mono ?_;rintro e w' ⟨rfl,os,rfl⟩
  have hh:∀ j,j < w.heap.size->(Sort.grow w os).heap[j]? = w.heap[j]?:=fun j hj=>by
   simp only [Sort.grow];rw [Array.getElem?_append_left hj]
  have ch:Rel X E st a (Sort.grow w os):=dB h (Ext.refl E) (h.env.j8 hh) h.tk h.nw (h.fr.dg rfl rfl rfl (by simp [Sort.grow]) fun j hj=>.inr (hh j hj)) (nR aW) (.nil hX);have Mc:=hk ds (List.Perm.refl _) (fun i j p q jB _ hj=>by have:=(gS hj).1;omega);rw [MC uN] at Mc;exact go_sound 4000 _ _ Mc E _ _ (bG ch hd (.tup []) (.tuple #[]) (by unfold Rv;exact ⟨[],rfl,c9 E⟩))
 ·have h2:2<=ds.length:=by omega
  have WS:=hca (by omega);subst WS
  obtain ⟨m,rfl⟩:∃ m,N=m + 1:=by
   cases C2:ds with
   | nil=>rw [C2] at h2;simp at h2
   | cons x r=>have:=hN x (by rw [C2];simp);exact ⟨N - 1,by omega⟩
  obtain ⟨D,hD⟩:=Yu ds hN;have PA:D.length=ds.length:=by rw [<- hD];simp
  let enc:Fin (m + 1)->Value:=fun x=>MB x.val
  have hO':Sort.SWO (fun x y:Fin (m + 1)=>lt x.val y.val):=⟨fun x=>hO.irrefl _,fun x y z=>hO.trans _ _ _,fun x y z=>hO.ntrans _ _ _⟩;have Yv:∀ l:List (Fin (m + 1)),l.map enc=(l.map (·.val)).map MB:=fun l=>by simp [enc]
  have hS:=Mz enc (fun _=>rfl) hO' r.toArray b c D.toArray (by simpa [PA] using h2) (by simp [PA];omega) w ?_ ?_ Um
  ·simp only [List.size_toArray,PA] at hS;refine hS.mono ?_;rintro e w' ⟨rfl,d',n,os,hp,hs,rfl⟩;have bQ:d'.size=ds.length:=by have:=hp.1;simpa [PA] using this
   have pA:(d'.toList.map (·.val)).Perm ds:=by
    have h3:=hp.2.2;have e1:d'.extract 0 ds.length=d':=Array.extract_eq_self_of_le (by omega);have e2:D.toArray.extract 0 ds.length=D.toArray:=Array.extract_eq_self_of_le (by simp [PA]);rw [e1,e2] at h3;rw [<- hD];exact h3.map _
   have J6:∀ i j p q:Nat,i < j->(d'.toList.map (·.val))[i]? = some p->(d'.toList.map (·.val))[j]? = some q->lt q p=false:=by
    intro i j p q jB hi hj;have nS:j < d'.size:=by have:=(gS hj).1;simpa using this
    have h3:=hs i j (Nat.zero_le _) jB (by omega);rw [getElem!_pos d' j nS,getElem!_pos d' i (by omega)] at h3;have DP:i < d'.size:=by omega
    simp [DP] at hi;simp [nS] at hj;rw [<- hi,<- hj];exact h3
   have hh:=wH enc w b n d' os arr ty hw (by rw [MD];simp [bQ]);have fB:=sw (ty:=ty) h aW hb (cs':=(dInts (d'.toList.map (·.val))).flatten) (arr':=(d'.toList.map (·.val)).map MB) (wF _) ⟨_,hw⟩;rw [<- Yv] at fB;have kv:(Sort.grow (Sort.putRow enc (Sort.ahead w n) b 0 d') os).heap.size=w.heap.size + os.size:=by simp [Sort.grow,Sort.putRow,Sort.mapBlock,Sort.ahead]
   have ch:=dB fB (Ext.refl E) (w':=Sort.grow (Sort.putRow enc (Sort.ahead w n) b 0 d') os) (fB.env.j8 fun j hj=>hh j (by rwa [fH] at hj)) fB.tk fB.nw
    (fB.fr.dg rfl rfl rfl (by rw [fH,kv];omega) fun j hj=>.inr (hh j (by rwa [fH] at hj))) (nR aW) (.nil hX)
   exact go_sound 4000 _ _ (hk _ pA J6) E _ _ (bG ch hd (.tup []) (.tuple #[]) (by unfold Rv;exact ⟨[],rfl,c9 E⟩))
  ·intro mm os dk hs i' j' hi hj;have bQ:dk.size=ds.length:=sV PA hs;have hh:=wH enc w b mm dk os arr ty hw (by rw [MD];simp [bQ]);have hE:=h.env.set hb Um (ty:=ty) (wF (E:=E) (dk.toList.map (·.val)));rw [<- Yv] at hE;have hE':=hE.j8 (w':=Go.Proofs.sortWorld enc w b 0 mm dk os) fun j hj=>hh j (by rwa [fH] at hj);have DP:i' < dk.size:=by rw [bQ,<- PA];simpa using hi
   have nS:j' < dk.size:=by rw [bQ,<- PA];simpa using hj
   have hLL:(dk.toList.map (·.val)).length=ds.length:=sU bQ
   have hc:=MA (dk.toList.map (·.val)) hLL (fun p hp=>by
    obtain ⟨x,_,rfl⟩:=List.mem_map.1 hp
    exact x.isLt) i' j' (dk[i']!).val (dk[j']!).val (by rw [getElem!_pos dk i' DP];simp [DP]) (by rw [getElem!_pos dk j' nS];simp [nS])
   have hv:RvL E (.v (.int .i64 (i':Int)) :: .v (.int .i64 (j':Int)) :: lbD) (.int .i64 (i':Int) :: .int .i64 (j':Int) :: r):=rvL_cons (gG rfl) (rvL_cons (gG rfl) hr);have hb:=j9 hE' hc ⟨_,_,rfl,rfl,_,_,rfl,rfl,Qm _ hLL⟩ hv;have hargs:(#[Value.int .i64 (i':Int),Value.int .i64 (j':Int)] ++ r.toArray)=(Value.int .i64 (i':Int) :: Value.int .i64 (j':Int) :: r).toArray:=by simp
   rw [hargs];refine hb.mono ?_;rintro e w' ⟨v,E2,rfl,SC,_,vT⟩;have:=cE SC;subst this;exact ⟨rfl,vT rfl⟩
  ·intro j hj;have nS:j < D.length:=sU hj;rw [cS hw,Nat.zero_add,MD];refine ⟨?_,?_⟩
   ·rw [getElem!_pos D.toArray j hj,<- hD];simp [nS,enc]
   ·simp [World.frozen?,hw]
end Go.Proofs.YtadhpeooehkklaaGreat
