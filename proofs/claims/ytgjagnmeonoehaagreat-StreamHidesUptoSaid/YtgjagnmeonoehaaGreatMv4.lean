/- Part 4 of the proof: Rules for the evaluator: a call that is handed the caller's first objects and rows; rows whose cells nobody else knows; lattice.best, and the closures of bounds; lattice.bounds: all joins and meets; lattice.Build; Reading a lattice: Len, has, Name, Find, Join, Meet, Bottom; labels.Of; The checker's part, once check is known for lighter types; The checker's parts, once check is known for lighter types; The checker's one and check, once check is known for lighter types; so check; kinds.Count, resolve.nodes; the builder's level; The builder's end, loops, known; The builder's each, right, called; The builder's each of right; called; places; The builder's places; The builder's edge; The builder's node; Steps of a region that draws its order, one by one; What resolve.Build says of a schema; lattices in which nothing is wrong. No condition. -/
import Derived.Test.YtgjagnmeonoehaaGreatMv2
import Derived.Test.YtgjagnmeonoehaaGreatMv3
set_option linter.all false
namespace Go.Proofs.YtgjagnmeonoehaaGreat
namespace Dv
open Go Go.RowKit
section
variable {X:Ctx} {st:St} {k:List It} {E:En} {a:Act} {w:World}
def Wk (X:Ctx) (st st':St):Prop:=∀ E a w,Rel X E st a w->∃ E',Rel X E' st' a w
theorem Wk.refl (X:Ctx) (st:St):Wk X st st:=fun E _ _ h=>⟨E,h⟩
theorem Wk.trans {X:Ctx} {s1 s2 s3:St} (h1:Wk X s1 s2) (h2:Wk X s2 s3):Wk X s1 s3:=fun _ _ _ h=>by
 obtain ⟨E1,h3⟩:=h1 _ _ _ h;exact h2 _ _ _ h3
theorem Wk.O2 {X:Ctx} {s1 s2:St} (h:qh X.n0 X.m0 s1 s2):Wk X s1 s2:=fun _ _ _ hr=>vw hr h
theorem zQ {f:FuncId} {args bo:List DV} {os:List (List DV)} (n1 m1:Nat) (Db:Nat.ble n1 st.bx.length=true) (jk:Nat.ble m1 st.tk.length=true)
  (A7:lM [] n1 n1 m1 os (st.bx.take n1)) (ha:CcL [] n1 n1 m1 bo args)
  {Φ:DV->List (List DV)->List TkE->Prop} (hc:RJ false X.P f bo os (st.tk.take m1) X.bt Φ) (aW:X.still=false) {vs:List Value} (h:Rel X E st a w) (hv:RvL E args vs) :
  Calls X.P f vs.toArray w fun e w'=>∃ v r fX bX E',e = .returned v/\Φ r fX bX /\ fX.length=n1/\bX.length=m1/\Rel X E' ⟨st.sl,fX ++ st.bx.drop n1,bX ++ st.tk.drop m1⟩ a w' /\ Rv E' r v/\Ext E E' /\ E'.β=E.β /\
   ∀ (i:Nat) b,n1<=i->E.β[i]? = some b->w'.heap[b]? = w.heap[b]?:=by
 have Db:=nL Db;have jk:=nL jk;have hlen:=h.env.len;have gl:=h.env.tl;have ig:=h.tk;have htkl:E.tk.length=st.tk.length:=by rw [ig]
 let E1:En:=⟨E.c,E.β.take n1,E.tk.take m1,E.τ.take m1⟩
 have hfz:MJ E E1 [] n1:=⟨fun _ _ h=>h,fun i cs _ hi=>by simp at hi⟩
 have Bc:Jm E E1 n1 m1:={
  β:=fun i b hi hb=>by show (E.β.take n1)[i]? = _;rw [cx,ap hi];exact hb
  tk:=fun k hk=>⟨by show (E.tk.take m1)[k]? = _;rw [cx,ap hk],by show (E.τ.take m1)[k]? = _;rw [cx,ap hk]⟩ }
 obtain ⟨kZ,YN⟩:=A7.get;have hosl:os.length=n1:=by rw [kZ,zLenT];omega
 have hτg:∀ (j:Nat) y,(E.τ.take m1)[j]? = some y->j < m1/\E.τ[j]? = some y:=fun j y hy=>by
  rw [cx] at hy;split at hy
  ·rename_i hj;exact ⟨hj,hy⟩
  ·cases hy
 have hkg:∀ (j:Nat) q,(E.tk.take m1)[j]? = some q->j < m1/\E.tk[j]? = some q:=fun j y hy=>by
  rw [cx] at hy;split at hy
  ·rename_i hj;exact ⟨hj,hy⟩
  ·cases hy
 have zp:Env E1 os w:={
  len:=by show (E.β.take n1).length=_;rw [zLenT,hosl];omega
  tl:=by show (E.τ.take m1).length=(E.tk.take m1).length;rw [zLenT,zLenT,gl]
  bxs:=fun i cs' hi=>by
   obtain ⟨cs,hcs,vi⟩:=YN i cs' hi;rw [cx] at hcs;split at hcs
   ·rename_i au;obtain ⟨b,ty,arr,hb,hw,hc⟩:=h.env.bxs i cs hcs;exact ⟨b,ty,arr,Bc.β i b au hb,hw,CcL.sound hfz Bc vi hc.1,hc.2⟩
   ·cases hcs
  inj:=h.env.inj.sublist (List.take_sublist _ _)
  sub:=h.env.sub
  pc:=fun x v hx hm=>h.env.pc x v hx (List.mem_of_mem_take hm)
  bY:=fun j q y hq hy=>by
   obtain ⟨_,hq⟩:=hkg j q hq;obtain ⟨_,hy⟩:=hτg j y hy;rcases h.env.bY j q y hq hy with h1 | ⟨g,cap,cur,rfl,h1,h2,h3,h4,h5,h6⟩
   ·exact .inl h1
   ·exact .inr ⟨g,cap,cur,rfl,h1,h2,h3,h4,fun hm=>h5 (List.mem_of_mem_take hm),h6⟩
  ji:=fun j j' y y' g Jk hy fG=>h.env.ji j j' y y' g Jk (hτg j y hy).2 (hτg j' y' fG).2 }
 refine (hc E1 w _ zp (by show E.tk.take m1=_;rw [ig]) (h.bt.sub n1) (CcL.sound hfz Bc ha hv)).mono ?_;rintro e w' ⟨v,rfl,⟨hm,_,r,fX,E2,he,hβ,sa,hn,RK,hΦ⟩,hbt2⟩;have sa:E2.tk.length=E1.tk.length:=sa;have hE1t:E1.tk.length=m1:=by show (E.tk.take m1).length=_;rw [zLenT];omega
 have hE1τ:E1.τ.length=m1:=by show (E.τ.take m1).length=_;rw [zLenT];omega
 have hE1β:E1.β.length=n1:=by show (E.β.take n1).length=_;rw [zLenT];omega
 rw [hE1t] at sa;have X0:E2.τ.length=m1:=by rw [he.tl,sa]
 have Hp:fX.length=n1:=by rw [<- he.len,hβ,hE1β]
 have hS:∀ j,E1.S j->j∈E.β.take n1∨∃ i y,i < m1/\E.τ[i]? = some y/\y.ownBlock=some j:=fun j hj=>by
  rcases hj with h1 | ⟨y,h1,h2⟩
  ·exact .inl h1
  ·obtain ⟨i,hi,he⟩:=List.getElem_of_mem h1;have gK:E1.τ[i]? = some y:=by rw [gE hi,he]
   obtain ⟨h3,h4⟩:=hτg i y gK;exact .inr ⟨i,y,h3,h4,h2⟩
 have hh:∀ j,j < w.heap.size->¬ E1.S j->w'.heap[j]? = w.heap[j]?:=fun j hj bf=>hm.block j hj bf;have dc:∀ (i:Nat) y g,E.τ[i]? = some y->y.ownBlock=some g->g < w.heap.size/\g ∉ E.β:=fun i y g hy hg=>h.env.own (mG hy) hg
 have eB:∀ x v,E2.c x=some v->E.c x=some v∨w.heap.size<=x.block∨∃ i y,i < m1/\E.τ[i]? = some y/\y.ownBlock=some x.block:=fun x v hx=>by
  rcases hn.cn x v hx with h1 | h1 | ⟨y,h1,h2⟩
  ·exact .inl h1
  ·exact .inr (.inl h1)
  ·obtain ⟨i,hi,he⟩:=List.getElem_of_mem h1;have gK:E1.τ[i]? = some y:=by rw [gE hi,he]
   obtain ⟨h3,h4⟩:=hτg i y gK;exact .inr (.inr ⟨i,y,h3,h4,h2⟩)
 have oY:∀ (j:Nat) q,j < m1->E.tk[j]? = some q->∃ y q' y',E.τ[j]? = some y/\E2.tk[j]? = some q' /\ E2.τ[j]? = some y' /\ q.ty=q'.ty/\q.e=q'.e/\((q'.n=q.n/\y'=y)∨q.n < q'.n)/\(y'.ownBlock=y.ownBlock∨∀ g,y'.ownBlock=some g->w.heap.size<=g):=fun j q hj hq=>by
  have pO:j < E.τ.length:=by rw [gl];omega
  obtain ⟨q',y',h1,h2,h3⟩:=hn.tk j q E.τ[j] (by show (E.tk.take m1)[j]? = _;rw [cx,ap hj];exact hq) (by show (E.τ.take m1)[j]? = _;rw [cx,ap hj,gE pO]);exact ⟨_,q',y',gE pO,h1,h2,h3⟩
 have J0:∀ (j:Nat) y',j < m1->E2.τ[j]? = some y' -> ∃ y,E.τ[j]? = some y/\(y'.ownBlock=y.ownBlock∨∀ g,y'.ownBlock=some g->w.heap.size<=g):=fun j y' hj hy=>by
  have pO:j < E.tk.length:=by omega
  obtain ⟨y,q1,y1,h1,_,h3,_,_,_,h7⟩:=oY j _ hj (gE pO);rw [hy] at h3;simp only [oI] at h3;subst h3;exact ⟨y,h1,h7⟩
 let E':En:=⟨E2.c,E.β,E2.tk ++ E.tk.drop m1,E2.τ ++ E.τ.drop m1⟩
 have gD:∀ (j:Nat),m1<=j->E'.tk[j]? = E.tk[j]?:=fun j hj=>by
  show (E2.tk ++ E.tk.drop m1)[j]? = _;rw [List.getElem?_append_right (by omega),List.getElem?_drop,sa];congr 1;omega
 have WG:∀ (j:Nat),m1<=j->E'.τ[j]? = E.τ[j]?:=fun j hj=>by
  show (E2.τ ++ E.τ.drop m1)[j]? = _;rw [List.getElem?_append_right (by omega),List.getElem?_drop,X0];congr 1;omega
 have Nv:∀ (j:Nat),j < m1->E'.tk[j]? = E2.tk[j]?:=fun j hj=>by
  show (E2.tk ++ E.tk.drop m1)[j]? = _;rw [dC (by omega)]
 have MH:∀ (j:Nat),j < m1->E'.τ[j]? = E2.τ[j]?:=fun j hj=>by
  show (E2.τ ++ E.τ.drop m1)[j]? = _;rw [dC (by omega)]
 have hx:Ext E E':=⟨hn.c,fun _ _ h=>h,fun j q hq=>by
  rcases Nat.lt_or_ge j m1 with hj | hj
  ·obtain ⟨y,q',y',h1,h2,h3,_,_,h6,_⟩:=oY j q hj hq;refine ⟨q',by rw [Nv j hj];exact h2,?_⟩;rcases h6 with ⟨h6,rfl⟩ | h6
   ·exact .inl ⟨h6,by rw [MH j hj,h3,h1]⟩
   ·exact .inr h6
  ·exact ⟨q,by rw [gD j hj];exact hq,.inl ⟨rfl,WG j hj⟩⟩⟩
 have Jx:Ext E2 E':={
  c:=fun _ _ h=>h
  β:=fun j b hj=>by
   rw [hβ] at hj;have hj:(E.β.take n1)[j]? = some b:=hj;rw [cx] at hj;split at hj
   ·exact hj
   ·cases hj
  tk:=fun j q hq=>by
   have hj:j < m1:=by have:=(gS hq).1;omega
   exact ⟨q,by rw [Nv j hj];exact hq,.inl ⟨rfl,MH j hj⟩⟩ }
 have UM:∀ (i:Nat) b,n1<=i->E.β[i]? = some b->w'.heap[b]? = w.heap[b]?:=fun i b hi hb=>by
  refine hh b (h.env.bi (mG hb)) fun hs=>?_;rcases hS b hs with h1 | ⟨i',y,_,h2,h3⟩
  ·obtain ⟨i',gK,KW⟩:=List.getElem_of_mem h1;have h4:(E.β.take n1)[i']? = some b:=by rw [gE gK,KW]
   rw [cx] at h4;split at h4
   ·rename_i au;have:=(List.getElem?_inj (gS hb).1 h.env.inj).1 (hb.trans h4.symm);omega
   ·cases h4
  ·exact (dc i' y b h2 h3).2 (mG hb)
 have hbt':oD X.bt E.β w':=fun p hp b hb=>by
  rcases Nat.lt_or_ge p.1 n1 with au | hge
  ·exact hbt2 p hp b (by show (E.β.take n1)[p.1]? = _;rw [cx,ap au];exact hb)
  ·obtain ⟨cs,hcs⟩:=h.bt p hp b hb;exact ⟨cs,by rw [UM p.1 b hge hb];exact hcs⟩
 have cf:Rel X E' ⟨st.sl,fX ++ st.bx.drop n1,E2.tk ++ st.tk.drop m1⟩ a w':=by
  refine dw h hx ?_ (by show E2.tk ++ E.tk.drop m1=_;rw [ig]) ?_ (h.fr.cj hm.os hm.tape hm.output hm.size fun j hj=>?_) (mM aW) hbt'
  ·exact {
    len:=by show E.β.length=_;rw [List.length_append,List.length_drop,Hp,hlen];omega
    tl:=by show (E2.τ ++ E.τ.drop m1).length=(E2.tk ++ E.tk.drop m1).length;simp only [List.length_append,List.length_drop,X0,sa,gl]
    bxs:=fun i RU hi=>by
     rcases Nat.lt_or_ge i n1 with uL | uL
     ·rw [dC (by omega)] at hi;obtain ⟨b2,ty2,Wc,gF,hw2,nZ⟩:=he.bxs i RU hi;exact ⟨b2,ty2,Wc,Jx.β i b2 gF,hw2,nZ.mono Jx⟩
     ·rw [List.getElem?_append_right (by omega),List.getElem?_drop,Hp] at hi;rw [show n1 + (i - n1)=i by omega] at hi;obtain ⟨bj,tyj,Wf,TS,Y7,VF⟩:=h.env.bxs i RU hi;refine ⟨bj,tyj,Wf,TS,(hh bj (cL Y7) ?_).trans Y7,VF.mono hx⟩;intro hs;rcases hS bj hs with h1 | ⟨i',y,_,h2,h3⟩
      ·obtain ⟨i',gK,KW⟩:=List.getElem_of_mem h1;have h4:(E.β.take n1)[i']? = some bj:=by rw [gE gK,KW]
       rw [cx] at h4;split at h4
       ·rename_i au;have:=(List.getElem?_inj (gS TS).1 h.env.inj).1 (TS.trans h4.symm);omega
       ·cases h4
      ·exact (dc i' y bj h2 h3).2 (mG TS)
    inj:=h.env.inj
    sub:=he.sub
    pc:=fun x v hc rL=>by
     rcases eB x v hc with h1 | h1 | ⟨i,y,_,h2,h3⟩
     ·exact h.env.pc x v h1 rL
     ·have:=h.env.bi rL;omega
     ·exact (dc i y _ h2 h3).2 rL
    bY:=fun j q y hq hy=>by
     rcases Nat.lt_or_ge j m1 with hj | hj
     ·rw [Nv j hj] at hq;rw [MH j hj] at hy;rcases he.bY j q y hq hy with h1 | ⟨g,cap,cur,rfl,h1,h2,h3,h4,h5,h6⟩
      ·exact .inl h1
      ·refine .inr ⟨g,cap,cur,rfl,h1,h2,h3,h4,fun rL=>?_,h6⟩;obtain ⟨y0,h7,h8⟩:=J0 j _ hj hy;rcases h8 with h8 | h8
       ·exact (dc j y0 g h7 (by rw [<- h8];rfl)).2 rL
       ·have:=h8 g rfl;have:=h.env.bi rL;omega
     ·rw [gD j hj] at hq;rw [WG j hj] at hy;rcases h.env.bY j q y hq hy with h1 | ⟨g,cap,cur,rfl,h1,h2,h3,h4,h5,h6⟩
      ·exact .inl h1
      ·have bf:∀ i y',i < m1->E.τ[i]? = some y' -> y'.ownBlock≠some g:=fun i y' hi fG=>h.env.ji j i _ y' g (by omega) hy fG rfl
       have uq:¬ E1.S g:=fun hs=>by
        rcases hS g hs with h7 | ⟨i,y',h7,h8,h9⟩
        ·exact h5 (List.mem_of_mem_take h7)
        ·exact bf i y' h7 h8 h9
       refine .inr ⟨g,cap,cur,rfl,by rw [hh g (cL h1) uq];exact h1,⟨h2.1,h2.2.mono hn.c⟩,h3,h4,h5,fun x v hc hg=>?_⟩
       ·rcases eB x v hc with h7 | h7 | ⟨i,y',h7,h8,h9⟩
        ·exact h6 x v h7 hg
        ·have:=cL h1;omega
        ·exact (bf i y' h7 h8 (by rw [h9,hg])).elim
    ji:=fun j j' y y' g Jk hy fG hg ta=>by
     rcases Nat.lt_or_ge j m1 with hj | hj
     ·rw [MH j hj] at hy;obtain ⟨y0,h7,h8⟩:=J0 j _ hj hy;rcases Nat.lt_or_ge j' m1 with jw | jw
      ·rw [MH j' jw] at fG;exact he.ji j j' y y' g Jk hy fG hg ta
      ·rw [WG j' jw] at fG;rcases h8 with h8 | h8
       ·exact h.env.ji j j' y0 y' g Jk h7 fG (by rw [<- h8];exact hg) ta
       ·have:=h8 g hg;have:=(dc j' y' g fG ta).1;omega
     ·rw [WG j hj] at hy;rcases Nat.lt_or_ge j' m1 with jw | jw
      ·rw [MH j' jw] at fG;obtain ⟨y0,h7,h8⟩:=J0 j' _ jw fG;rcases h8 with h8 | h8
       ·exact h.env.ji j j' y y0 g Jk hy h7 hg (by rw [<- h8];exact ta)
       ·have:=h8 g ta;have:=(dc j y g hy hg).1;omega
      ·rw [WG j' jw] at fG
       exact h.env.ji j j' y y' g Jk hy fG hg ta }
  ·exact {
    c:=fun x v hc=>hn.c x v (h.nw.c x v hc)
    cn:=fun x v hc=>by
     rcases eB x v hc with h1 | h1 | ⟨i,y,_,h2,h3⟩
     ·exact h.nw.cn x v h1
     ·have:=h.fr.size;exact .inr (.inl (by omega))
     ·rcases h.nw.own h2 h3 with h4 | h4
      ·exact .inr (.inr h4)
      ·exact .inr (.inl h4)
    β:=h.nw.β
    tk:=fun j q0 y0 A3 Dd=>by
     obtain ⟨q1,y1,h1,h2,h3,h4,h5,h6⟩:=h.nw.tk j q0 y0 A3 Dd;rcases Nat.lt_or_ge j m1 with hj | hj
     ·obtain ⟨y,q',y',g1,g2,g3,g4,g5,g6,g7⟩:=oY j q1 hj h1;rw [h2] at g1;simp only [oI] at g1;subst g1;refine ⟨q',y',by rw [Nv j hj];exact g2,by rw [MH j hj];exact g3,h3.trans g4,h4.trans g5,?_,?_⟩
      ·rcases g6 with ⟨g6,rfl⟩ | g6
       ·rcases h5 with ⟨h5,rfl⟩ | h5
        ·exact .inl ⟨by omega,rfl⟩
        ·exact .inr (by omega)
       ·rcases h5 with ⟨h5,_⟩ | h5
        ·exact .inr (by omega)
        ·exact .inr (by omega)
      ·rcases g7 with g7 | g7
       ·rcases h6 with h6 | h6
        ·exact .inl (g7.trans h6)
        ·exact .inr fun g hg=>h6 g (by rw [<- g7];exact hg)
       ·refine .inr fun g hg=>?_;have:=g7 g hg;have:=h.fr.size;omega
     ·exact ⟨q1,y1,by rw [gD j hj];exact h1,by rw [WG j hj];exact h2,h3,h4,h5,h6⟩
    tn:=fun j y g Di hy hg=>by
     rcases Nat.lt_or_ge j m1 with hj | hj
     ·rw [MH j hj] at hy;obtain ⟨y0,h7,h8⟩:=J0 j _ hj hy;rcases h8 with h8 | h8
      ·exact h.nw.tn j y0 g Di h7 (by rw [<- h8];exact hg)
      ·have:=h8 g hg;have:=h.fr.size;omega
     ·rw [WG j hj] at hy;exact h.nw.tn j y g Di hy hg
    l0:=h.nw.l0 }
  ·by_cases hjs:E1.S j
   ·left;rcases hS j hjs with h1 | ⟨i,y,_,h2,h3⟩
    ·have zo:=List.mem_of_mem_take h1;obtain ⟨r0,hr0,CY⟩:=h.nw.β;rw [hr0] at zo;rcases List.mem_append.1 zo with zo | zo
     ·exact .inl (.inl zo)
     ·exact .inr (CY j zo)
    ·rcases h.nw.own h2 h3 with h4 | h4
     ·exact .inl (.inr h4)
     ·exact .inr h4
   ·exact .inr (hh j hj hjs)
 exact ⟨v,r,fX,E2.tk,E',rfl,hΦ,Hp,sa,cf,Rv.mono Jx RK,hx,rfl,UM⟩
theorem Et {f:FuncId} {args bo:List DV} {os:List (List DV)} (n1 m1:Nat) (Db:Nat.ble n1 st.bx.length=true) (jk:Nat.ble m1 st.tk.length=true)
  (A7:lM [] n1 n1 m1 os (st.bx.take n1)) (ha:CcL [] n1 n1 m1 bo args)
  {Φ:DV->List (List DV)->List TkE->Prop} (hc:Ev X.P f bo os (st.tk.take m1) Φ) (aW:X.still=false) (hX:X.bt=[]) {vs:List Value} (h:Rel X E st a w) (hv:RvL E args vs) :
  Calls X.P f vs.toArray w fun e w'=>∃ v r fX bX E',e = .returned v/\Φ r fX bX /\ fX.length=n1/\bX.length=m1/\Rel X E' ⟨st.sl,fX ++ st.bx.drop n1,bX ++ st.tk.drop m1⟩ a w' /\ Rv E' r v/\Ext E E' /\ E'.β=E.β /\
   ∀ (i:Nat) b,n1<=i->E.β[i]? = some b->w'.heap[b]? = w.heap[b]?:=
 zQ n1 m1 (by exact Db) (by exact jk) A7 ha (hc.YO hX) aW h hv
theorem qF {f:FuncId} {args bo:List DV} {os:List (List DV)} {d:Nat} (n1 m1:Nat) (ki:Enters X.P f) (hd:ez X.nt st.sl (some d)=true) (Db:Nat.ble n1 st.bx.length=true) (jk:Nat.ble m1 st.tk.length=true)
  (A7:lM [] n1 n1 m1 os (st.bx.take n1)) (ha:CcL [] n1 n1 m1 bo args)
  {Φ:DV->List (List DV)->List TkE->Prop} (hc:Ev X.P f bo os (st.tk.take m1) Φ)
  (hk:∀ r fX bX,Φ r fX bX -> fX.length=n1->bX.length=m1->∃ st',Wk X ⟨(d,⟨[],r⟩) :: st.sl,fX ++ st.bx.drop n1,bX ++ st.tk.drop m1⟩ st' /\ go X 4000 k st') (aW:X.still=false:=by exact rfl) (hX:X.bt=[]:=by exact rfl):CallG X f args (some d) k st:=by
 refine ⟨ki,aW,fun E a w vs h hv=>(Et n1 m1 Db jk A7 ha hc aW hX h hv).mono ?_⟩;rintro e w' ⟨v,r,fX,bX,E',rfl,hΦ,Hp,sa,cf,Bn,_,_,_⟩;obtain ⟨st',VY,nc⟩:=hk r fX bX hΦ Hp sa;obtain ⟨E3,hr3⟩:=VY _ _ _ (aX cf hd r v Bn);exact go_sound 4000 _ _ nc E3 _ w' hr3
theorem gY {f:FuncId} {args bo:List DV} {os:List (List DV)} {d:Nat} (n1 m1:Nat) (ki:Enters X.P f) (hd:ez X.nt st.sl (some d)=true) (Db:Nat.ble n1 st.bx.length=true) (jk:Nat.ble m1 st.tk.length=true)
  (A7:lM [] n1 n1 m1 os (st.bx.take n1)) (ha:CcL [] n1 n1 m1 bo args)
  {Φ:DV->List (List DV)->List TkE->Prop} (hc:Ev X.P f bo os (st.tk.take m1) Φ)
  (hk:∀ r fX bX,Φ r fX bX -> fX.length=n1->bX.length=m1->go X 4000 k ⟨(d,⟨[],r⟩) :: st.sl,fX ++ st.bx.drop n1,bX ++ st.tk.drop m1⟩) (aW:X.still=false:=by exact rfl) (hX:X.bt=[]:=by exact rfl):CallG X f args (some d) k st:=
 qF n1 m1 ki hd Db jk A7 ha hc (fun r fX bX h1 h2 h3=>⟨_,Wk.refl _ _,hk r fX bX h1 h2 h3⟩) aW hX
theorem fx {f:FuncId} {args bo:List DV} {os:List (List DV)} {d:Nat} (n1 m1:Nat) (ki:Enters X.P f) (hd:ez X.nt st.sl (some d)=true) (Db:Nat.ble n1 st.bx.length=true) (jk:Nat.ble m1 st.tk.length=true)
  (A7:lM [] n1 n1 m1 os (st.bx.take n1)) (ha:CcL [] n1 n1 m1 bo args)
  {Φ:DV->List (List DV)->List TkE->Prop} (hc:RJ false X.P f bo os (st.tk.take m1) X.bt Φ)
  (hk:∀ r fX bX,Φ r fX bX -> fX.length=n1->bX.length=m1->go X 4000 k ⟨(d,⟨[],r⟩) :: st.sl,fX ++ st.bx.drop n1,bX ++ st.tk.drop m1⟩) (aW:X.still=false:=by exact rfl):CallG X f args (some d) k st:=by
 refine ⟨ki,aW,fun E a w vs h hv=>(zQ n1 m1 Db jk A7 ha hc aW h hv).mono ?_⟩;rintro e w' ⟨v,r,fX,bX,E',rfl,hΦ,Hp,sa,cf,Bn,_,_,_⟩;exact go_sound 4000 _ _ (hk r fX bX hΦ Hp sa) E' _ w' (aX cf hd r v Bn)
theorem Ls {all:Array Oper} {o1 o2 o3:Oper} {r:List Oper} {d1 d2 kt t sT f off ft ty et e jh m ux nn:Nat} {bb:Bool} {zz:List Value} {z:Int} {kd:IntKind} {es:List (List DV)} {cs:List DV} {s ix x:Operand} {dv dv':DV}
  (h1:o1.op = .indexAddr t s ix/\o1.dst=some d1) (h2:o2.op = .fieldAddr sT (.tmp d1) f/\o2.dst=some d2/\o2.guard=none) (h3:o3.op = .store ty (.tmp d2) x/\o3.dst=none/\o3.guard=none)
  (uM:ez X.nt st.sl (some d1)=true) (DF:ez X.nt ((d1,⟨[],.pt [] 0⟩) :: st.sl) (some d2)=true)
  (hs:rv st [] s=some (.sl 0 es (some kt))) (hi:rv st [] ix=some (.v (.int kd z))) (hx:rv ⟨(d2,⟨[],.pt [] 0⟩) :: (d1,⟨[],.pt [] 0⟩) :: st.sl,st.bx,st.tk⟩ [] x=some dv) (hdv:eraD dv=some dv') (Ri:dv.cells=[dv])
  (hT:X.T.find t=some ⟨nn,bb,.sl et e jh,zz⟩) (ui:X.T.off sT f=some (off,ft)) (bZ:X.T.sz ty=some 1)
  (hq:st.tk[kt]? = some ⟨m,ux,e,some cs⟩) (gL:es.length=m) (hz:0<=z/\z < m) (fT:off + 1<=e)
  (hk:go X 4000 (.ops all r :: k) ⟨(d2,⟨[],.pt [] 0⟩) :: (d1,⟨[],.pt [] 0⟩) :: st.sl,st.bx,st.tk.set kt ⟨m,ux,e,some (cs.set (z.toNat * e + off) dv')⟩⟩)
  (aW:X.still=false:=by exact rfl):KO X o1 (.ops all (o2 :: o3 :: r) :: k) st:=by
 intro E a w h;have eM:=h.rl;have e1:=aR eM hs;have e2:=bR (aR eM hi);unfold Rv at e1;obtain ⟨bs,ns,kY,e1,⟨uq,Nc⟩,Rb,vj⟩:=e1;subst uq;obtain ⟨q',kX,_,VO⟩:=vj kt rfl;have jB:E.tk[kt]? = some ⟨m,ux,e,some cs⟩:=by rw [h.tk];exact hq
 rw [jB] at kX;simp only [oI] at kX;subst kX;have hy:=VO gL;rw [e1,gL] at hy;rw [gL] at e1;have hot:=h.env.bY kt _ _ jB hy;rcases hot with ⟨n5,oH,_⟩ | ⟨g,cap,cur,n5,hw0,⟨vm,Dl⟩,vo,yH,gM,Dm⟩
 ·simp only at oH;omega
 injection n5 with i1 i2 i3
 subst i1 i3;obtain ⟨hu,ii,zv,yv,_,Lt,_,_⟩:=eA X.hT hT;have mO:iy X.P et=some e:=by rw [fC yv,Lt]
 have aa5:(execOp a.eval o1).run X.P w = .ok (.value (.pointer (some ⟨g,z.toNat * e,none⟩))) w:=by
  have cd:(Instr.indexAt t (.slice (some ⟨g,0,none⟩) m kY) (.int kd z)).run X.P w = .ok (.pointer (some ⟨g,z.toNat * e,none⟩)) w:=by
   simp [Instr.indexAt,asIntOf,run_underlying hu,hz.1,hz.2,aM mO,Addr.add_lit]
  simp only [execOp,h1.1,e1,e2,Sem.run_bind,cd,Result.andThen_ok,Sem.run_pure]
 refine iW aa5 ?_;rw [h1.2];have hr1:Rel X E ⟨(d1,⟨[],.pt [] 0⟩) :: st.sl,st.bx,st.tk⟩ (a.put (some d1) (.pointer (some ⟨g,z.toNat * e,none⟩))) w:=aX h uM (.pt [] 0) _ (by unfold Rv;exact ⟨g,z.toNat * e,rfl,by simp only [RvAt]⟩);generalize ha1:a.put (some d1) (.pointer (some ⟨g,z.toNat * e,none⟩))=a1 at hr1
 have ht1:a1.eval (.tmp d1) = .pointer (some ⟨g,z.toNat * e,none⟩):=by
  subst ha1;simp only [ez,aP,Nat.blt_eq] at uM;simp [Act.eval,Act.put,h.sz,uM.1]
 show kq X (.ops all (o2 :: o3 :: r) :: k) .normal a1 w;simp only [kq,wpList,Region.wanted,h2.2.2,h3.2.2,if_true];refine .inl (iW (v:=.pointer (some ⟨g,z.toNat * e + off,none⟩)) (w':=w) ?_ ?_)
 ·simp only [execOp,h2.1,ht1,Sem.run_bind,jy (rJ X.hT ui),Result.andThen_ok,Sem.run_pure]
 rw [h2.2.1];have hr2:Rel X E ⟨(d2,⟨[],.pt [] 0⟩) :: (d1,⟨[],.pt [] 0⟩) :: st.sl,st.bx,st.tk⟩ (a1.put (some d2) (.pointer (some ⟨g,z.toNat * e + off,none⟩))) w:=aX hr1 DF (.pt [] 0) _ (by unfold Rv;exact ⟨g,z.toNat * e + off,rfl,by simp only [RvAt]⟩);generalize M9:a1.put (some d2) (.pointer (some ⟨g,z.toNat * e + off,none⟩))=a2 at hr2
 have ht2:a2.eval (.tmp d2) = .pointer (some ⟨g,z.toNat * e + off,none⟩):=by
  subst M9;simp only [ez,aP,Nat.blt_eq] at DF;simp [Act.eval,Act.put,hr1.sz,DF.1]
 have e3:=aR hr2.rl hx
 have jH:RvC E [dv] (a2.eval x).cells.toList:=by
  have:=e3.cells (iz (n:=1) (by rw [Ri];rfl) (by omega))
  rwa [Ri] at this
 have uJ:(a2.eval x).cells.toList.length=1:=by rw [jH.1.length];all_goals rfl
 obtain ⟨xv,hxv⟩:∃ xv,(a2.eval x).cells.toList=[xv]:=by
  match hh:(a2.eval x).cells.toList,uJ with
  | [y],_=>exact ⟨y,rfl⟩
 obtain ⟨h5,h6⟩:=Dl cs rfl;simp only at h5 h6 vm hw0 vo;have UN:cur.toList.length=kY * e:=sU vm;have hme:m * e<=kY * e:=Nat.mul_le_mul_right _ vo
 have jX:z.toNat * e + off + 1<=m * e:=by
  have:(z.toNat + 1) * e<=m * e:=Nat.mul_le_mul_right _ (by omega);rw [Nat.add_mul] at this;omega
 have TP:=jz (P:=X.P) (t:=ty) (off:=z.toNat * e + off) (n:=1) hw0 (C9 X.hT bZ) uJ (by rw [vm];omega) (List.all_eq_true.2 jH.2);refine .inl (RE (w':=World.cK w g (.cells ((cur.toList.take (z.toNat * e + off) ++ (a2.eval x).cells.toList ++ cur.toList.drop (z.toNat * e + off + 1)).toArray) ux (0,0))) ?_ ?_)
 ·simp only [execOp,h3.1,ht2,Instr.storeAt,Instr.sureAddr,Sem.run_bind,Sem.run_pure,Result.andThen_ok,TP]
 rw [h3.2.1]
 have VS:cur.toList.take (z.toNat * e + off) ++ (a2.eval x).cells.toList ++ cur.toList.drop (z.toNat * e + off + 1)=cur.toList.set (z.toNat * e + off) xv:=by
  rw [hxv,List.set_eq_take_append_cons_drop,ap (by omega)];simp
 rw [VS]
 have hx1:RvC E.cl [dv'] [xv]:=by
  rw [hxv] at jH;have h7:=jH.1;simp only [RvL] at h7;obtain ⟨v,s',h8,h9,td⟩:=h7;simp only [List.cons.injEq] at h8;obtain ⟨rfl,rfl⟩:=h8;exact ⟨rvL_cons (vg hdv h9) (by simp only [RvL]),jH.2⟩
 have MG:C6 (World.cK w g (.cells (cur.toList.set (z.toNat * e + off) xv).toArray ux (0,0))) E.c E.β ⟨m,ux,e,some (cs.set (z.toNat * e + off) dv')⟩ (.slice (some ⟨g,0,none⟩) m kY):=by
  refine .inr ⟨g,kY,_,rfl,dA hw0,⟨by simpa using UN,fun cs' Ji=>?_⟩,vo,yH,gM,Dm⟩;simp only [oI] at Ji;subst Ji;simp only;refine ⟨by rw [List.length_set];exact h5,?_⟩;rw [List.take_set];have au:z.toNat * e + off < (cur.toList.take (m * e)).length:=by rw [zLenT];omega
  rw [List.set_eq_take_append_cons_drop,ap (by omega),List.set_eq_take_append_cons_drop,ap au];have h8:=(RvC.take (z.toNat * e + off) h6).append (RvC.append hx1 (RvC.drop (z.toNat * e + off + 1) h6));simpa using h8
 have V1:some g≠some g->False:=fun h=>h rfl
 obtain ⟨cf,hext⟩:=A6 (q':=⟨m,ux,e,some (cs.set (z.toNat * e + off) dv')⟩) (w':=World.cK w g (.cells (cur.toList.set (z.toNat * e + off) xv).toArray ux (0,0))) hr2 aW jB hy rfl rfl rfl (.inl ⟨rfl,rfl⟩) MG (.inl rfl) rfl rfl rfl (by rw [fh];exact aQ _) (fun j _ bf=>b9 (by
  rintro rfl
  exact bf rfl))
 exact go_sound 4000 _ _ hk _ _ _ cf
open Classical in
noncomputable def Eu (E:En) (w:World) (y:Value) (n:Nat):Addr->Option Value:=
 fun x=>if y.ownBlock=some x.block/\x.spot=none/\x.off < n then w.cell? x else E.c x
theorem j9 {y:Value} {n:Nat} {x:Addr} {v:Value} (h:Eu E w y n x=some v):(y.ownBlock=some x.block/\x.spot=none/\x.off < n/\w.cell? x=some v)∨E.c x=some v:=by
 unfold Eu at h
 grind
theorem J1 (h:Rel X E st a w) {k n ty e:Nat} {cs:List DV} {ns:List (List DV)} (hq:st.tk[k]? = some ⟨n,ty,e,some cs⟩) (hcs:cs=ns.flatten) (uq:∀ x∈ns,x.length=e) (hZ:ns.length=n) :
  ∃ E',Rel X E' ⟨st.sl,st.bx,st.tk.set k ⟨n,ty,e,none⟩⟩ a w/\Ext E E' /\ ∀ es y,es.length=n->Rv E (.sl 0 es (some k)) y->Rv E' (.sl e ns (some k)) y:=by
 subst hcs;have jB:E.tk[k]? = some ⟨n,ty,e,some ns.flatten⟩:=by rw [h.tk];exact hq
 have iS:=(gS jB).1;have YE:k < E.τ.length:=by rw [h.env.tl];exact iS
 have hv:E.τ[k]? = some E.τ[k]:=gE YE;generalize E.τ[k]=v at hv;have hot:=h.env.bY k _ v jB hv
 have fF:∀ x u,E.c x=some u->Eu E w v (n * e) x=some u:=fun x u hx=>by
  unfold Eu;split
  ·exact h.env.sub x u hx
  ·exact hx
 have hext:Ext E ⟨Eu E w v (n * e),E.β,E.tk.set k ⟨n,ty,e,none⟩,E.τ⟩:=⟨fF,fun _ _ h=>h,fun j q O3=>by
  by_cases hj:j=k
  ·subst hj;rw [jB] at O3;simp only [oI] at O3;subst O3;exact ⟨_,gN iS,.inl ⟨rfl,rfl⟩⟩
  ·exact ⟨q,by rw [List.getElem?_set_ne (Ne.symm hj)];exact O3,.inl ⟨rfl,rfl⟩⟩⟩
 refine ⟨⟨Eu E w v (n * e),E.β,E.tk.set k ⟨n,ty,e,none⟩,E.τ⟩,dw h hext ?_ (by rw [h.tk]) ?_ h.fr h.sh h.bt,hext,?_⟩
 ·exact {
   len:=h.env.len
   tl:=by simp only [List.length_set];exact h.env.tl
   bxs:=fun i cs hi=>by
    obtain ⟨b,t,arr,hb,hw,hc⟩:=h.env.bxs i cs hi;exact ⟨b,t,arr,hb,hw,hc.mono hext⟩
   inj:=h.env.inj
   sub:=fun x u hx=>by
    rcases j9 hx with ⟨_,_,_,h1⟩ | h1
    ·exact h1
    ·exact h.env.sub x u h1
   pc:=fun x u hx hm=>by
    rcases j9 hx with ⟨h1,_⟩ | h1
    ·exact (jl hot h1).2 hm
    ·exact h.env.pc x u h1 hm
   bY:=fun j q y hj hy=>by
    by_cases hjk:j=k
    ·subst hjk;have jw:(E.tk.set j ⟨n,ty,e,none⟩)[j]? = some q:=hj;rw [gN iS] at jw;have fG:E.τ[j]? = some y:=hy;rw [hv] at fG;simp only [oI] at jw fG;subst jw fG;rcases hot with ⟨h1,h2,_⟩ | ⟨g,cap,cur,rfl,h1,h2,h3,h4,h5,h6⟩
     ·exact .inl ⟨h1,h2,fun cs hc=>by cases hc⟩
     ·refine .inr ⟨g,cap,cur,rfl,h1,⟨h2.1,pY.none rfl⟩,h3,h4,h5,fun x u hx Df=>?_⟩;rcases j9 hx with ⟨_,_,h7,_⟩ | h7
      ·exact h7
      ·have:=h6 x u h7 Df;simp only [TkE.kn] at this;omega
    ·have jw:E.tk[j]? = some q:=by
      have:(E.tk.set k ⟨n,ty,e,none⟩)[j]? = some q:=hj
      rwa [List.getElem?_set_ne (Ne.symm hjk)] at this
     rcases h.env.bY j q y jw hy with h1 | ⟨g,cap,cur,rfl,h1,h2,h3,h4,h5,h6⟩
     ·exact .inl h1
     ·refine .inr ⟨g,cap,cur,rfl,h1,⟨h2.1,h2.2.mono fF⟩,h3,h4,h5,fun x u hx Df=>?_⟩;rcases j9 hx with ⟨h7,_⟩ | h7
      ·exact (h.env.ji j k _ v g hjk hy hv rfl (by rw [h7,Df])).elim
      ·exact h6 x u h7 Df
   ji:=h.env.ji }
 ·exact {
   c:=fun x u hx=>fF x u (h.nw.c x u hx)
   cn:=fun x u hx=>by
    rcases j9 hx with ⟨h1,_⟩ | h1
    ·rcases h.nw.own hv h1 with h2 | h2
     ·exact .inr (.inr h2)
     ·exact .inr (.inl h2)
    ·exact h.nw.cn x u h1
   β:=h.nw.β
   tk:=fun j q0 y0 A3 Dd=>by
    obtain ⟨q1,y1,h1,h2,h3,h4,h5,h6⟩:=h.nw.tk j q0 y0 A3 Dd;by_cases hj:j=k
    ·subst hj;rw [jB] at h1;simp only [oI] at h1;subst h1;exact ⟨_,y1,gN iS,h2,h3,h4,h5,h6⟩
    ·exact ⟨q1,y1,by rw [List.getElem?_set_ne (Ne.symm hj)];exact h1,h2,h3,h4,h5,h6⟩
   tn:=fun j y g hj hy=>h.nw.tn j y g hj hy
   l0:=h.nw.l0 }
 ·intro es y gL hy;unfold Rv at hy ⊢;obtain ⟨b,m,cap,rfl,⟨rfl,hmc⟩,hr,aW⟩:=hy;obtain ⟨q',kX,_,hτ⟩:=aW k rfl;rw [jB] at kX;simp only [oI] at kX;subst kX;have hy:=hτ gL;rw [hv] at hy;simp only [oI] at hy;subst hy;refine ⟨b,es.length,cap,rfl,⟨by omega,hmc⟩,fun bf=>?_,fun k' gD=>?_⟩
  ·rcases hot with ⟨h1,h2,h3⟩ | ⟨g,YC,cur,h0,h1,h2,h3,h4,h5,h6⟩
   ·simp only at h2;exact (bf (List.eq_nil_of_length_eq_zero (by omega))).elim
   ·injection h0 with i1 i2 i3
    subst i1;refine ⟨rfl,?_⟩;obtain ⟨h7,h8⟩:=h2.2 _ rfl;refine rvEs_flat (h8.mono (E:=⟨E.c,[],[],[]⟩) ⟨fF,fun _ _ h=>by simp at h,fun _ _ h=>by simp at h⟩) uq fun j u hj=>?_;rw [cx] at hj;split at hj
    ·rename_i pO;show Eu E w _ (n * e) _=_;unfold Eu;rw [ap ⟨rfl,rfl,by simpa [ao] using pO⟩];simp only [ab,ao,Nat.zero_add];rw [cm h1];simpa using hj
    ·cases hj
  ·cases gD;exact ⟨_,gN iS,by simp only;omega,fun _=>hv⟩
theorem WH {j o k n ty e:Nat} {MR:List DV} {es ns:List (List DV)} (hq:st.tk[k]? = some ⟨n,ty,e,some ns.flatten⟩) (uq:∀ x∈ns,x.length=e) (hZ:ns.length=n) (hj:st.bx[j]? = some MR) (ho:MR[o]? = some (.sl 0 es (some k))) (gL:es.length=n) :
  Wk X st ⟨st.sl,st.bx.set j (MR.set o (.sl e ns none)),st.tk.set k ⟨n,ty,e,none⟩⟩:=by
 intro E a w h;obtain ⟨E',hr,hx,oY⟩:=J1 h hq rfl uq hZ;refine ⟨E',{ hr with env:=?_ }⟩
 exact { hr.env with
  len:=by simp only [List.length_set];exact hr.env.len
  bxs:=fun i cs' hi=>by
   by_cases za:i=j
   ·subst za;have au:=(gS hj).1;have gK:(st.bx.set i (MR.set o (.sl e ns none)))[i]? = some cs':=hi;rw [gN au] at gK;simp only [oI] at gK;subst gK;obtain ⟨b,t,arr,hb,hw,hc⟩:=hr.env.bxs i MR hj;obtain ⟨b0,t0,KU,gM,hw0,Dm⟩:=h.env.bxs i MR hj;have iD:=hx.β i b0 gM;rw [hb] at iD;simp only [oI] at iD;subst iD;rw [hw] at hw0;simp only [oI,Obj.cells.injEq] at hw0
    have G1:arr=KU:=by
     have:=hw0.1;simpa using this
    subst G1;refine ⟨b,t,arr,hb,hw,?_,hc.2⟩;obtain ⟨v,uI,Q8⟩:=Dm.1.get ho;have Bn:=oY es v gL Q8;have kZ:=(gS ho).1;have Na:arr.length=MR.length:=hc.1.length
    have h1:=(RvL.take o hc.1).append (rvL_cons (d:=.sl e ns none) (v:=v) (by
     unfold Rv at Bn ⊢;obtain ⟨b,n,cap,g1,g2,g3,_⟩:=Bn
     exact ⟨b,n,cap,g1,g2,g3,fun k hk=>by cases hk⟩) (RvL.drop (o + 1) hc.1))
    rw [List.set_eq_take_append_cons_drop,ap kZ]
    have h2:arr.take o ++ v :: arr.drop (o + 1)=arr:=by
     have hoa:o < arr.length:=by omega
     have:arr[o]=v:=by grind
     rw [<- this];simp
    rwa [h2] at h1
   ·have gK:(st.bx.set j (MR.set o (.sl e ns none)))[i]? = some cs':=hi;rw [List.getElem?_set_ne (Ne.symm za)] at gK
    exact hr.env.bxs i cs' gK }
theorem Wk.GV (i j:Nat) (S S':St) (he:S'=fk i j S) (ME:Nat.ble X.n0 i=true) (Di:Nat.ble X.n0 j=true) (hi:Nat.blt i S.bx.length=true) (hj:Nat.blt j S.bx.length=true) (hX:X.bt=[]:=by exact rfl):Wk X S' S:=fun E a w h=>by
 subst he;simp only [Nat.blt_eq] at hi hj;exact Jt hX h (nL ME) (nL Di) hi hj
theorem O4 {c:Code} (I:Nat->St->Prop) (j0:Nat) (lH:St) (hw:Wk X st lH) (h0:I j0 lH)
  (hr:∀ j s,I j s->go X 4000 (.code c :: .Jc (fun s'=>∃ Dz,Wk X s' Dz /\ ∃ j',j' < j/\I j' Dz) :: k) s):sY X c k st:=by
 intro E a w h;obtain ⟨E0,hr0⟩:=hw _ _ _ h
 classical
 let Inv:Act->World->Prop:=fun a w=>∃ j s E,Rel X E s a w/\I j s
 let μ:Act->World->Nat:=fun a w=>if hI:Inv a w then Classical.choose (least hI) else 0
 refine wp_loop Inv μ ⟨j0,lH,E0,hr0,h0⟩ ?_;intro a1 w1 hI;have zi:=(Classical.choose_spec (least hI)).1;obtain ⟨s,E1,cf,hIs⟩:=zi;have hs:=go_sound 4000 _ _ (hr _ s hIs) E1 a1 w1 cf;rw [fj] at hs;refine wp_mono hs ?_;intro e a2 w2 hq
 cases e with
 | normal=>
  obtain ⟨s',E2,vx,Dz,VY,j',jw,YQ⟩:=hq;obtain ⟨E3,DA⟩:=VY _ _ _ vx;have VZ:Inv a2 w2:=⟨j',Dz,E3,DA,YQ⟩;refine ⟨VZ,?_⟩;simp only [μ,dif_pos hI,dif_pos VZ];exact Nat.lt_of_le_of_lt ((Classical.choose_spec (least VZ)).2 j' ⟨Dz,E3,DA,YQ⟩) jw
 | exit id=>exact hq
 | goto l=>exact hq
 | ret=>exact hq
 | panic c=>exact hq
 | outgrown=>exact hq
mutual
def flatD:DV->Bool
 | .v _=>true
 | .agg l=>flatL l
 | .tup l=>flatL l
 | _=>false
def flatL:List DV->Bool
 | []=>true
 | d :: r=>flatD d && flatL r
end
mutual
theorem Rv.flat {E E':En}:∀ {d:DV} {v:Value},flatD d=true->Rv E d v->Rv E' d v
 | .v x,v,_,h=>by unfold Rv at h ⊢;exact h
 | .agg l,v,hf,h=>by
  simp only [flatD] at hf;simp only [Rv] at h ⊢;obtain ⟨vs,h1,h2,h3⟩:=h;exact ⟨vs,h1,RvL.flat hf h2,h3⟩
 | .tup l,v,hf,h=>by
  simp only [flatD] at hf;simp only [Rv] at h ⊢;obtain ⟨vs,h1,h2⟩:=h;exact ⟨vs,h1,RvL.flat hf h2⟩
 | .ud,_,hf,_=>by simp [flatD] at hf
 | .sl _ _ _,_,hf,_=>by simp [flatD] at hf
 | .pt _ _,_,hf,_=>by simp [flatD] at hf
 | .loc _ _,_,hf,_=>by simp [flatD] at hf
 | .el _ _,_,hf,_=>by simp [flatD] at hf
 | .ms _ _ _ _ _,_,hf,_=>by simp [flatD] at hf
 | .fn _ _ _,_,hf,_=>by simp [flatD] at hf
 | .pV _ _,_,hf,_=>by simp [flatD] at hf
theorem RvL.flat {E E':En}:∀ {l:List DV} {vs:List Value},flatL l=true->RvL E l vs->RvL E' l vs
 | [],vs,_,h=>by simpa only [RvL] using h
 | d :: r,vs,hf,h=>by
  simp only [flatL,aP] at hf;simp only [RvL] at h ⊢;obtain ⟨v,s,h1,h2,h3⟩:=h;exact ⟨v,s,h1,Rv.flat hf.1 h2,RvL.flat hf.2 h3⟩
end
theorem J2 {f:FuncId} {args bo:List DV} {d:Nat} {y:DV} (ki:Enters X.P f) (hc:EvP X.P f bo y) (ha:CcL st.bx 0 0 0 bo args) (hy:flatD y=true) (hd:ez X.nt st.sl (some d)=true)
  (hk:go X 4000 k ⟨(d,⟨[],y⟩) :: st.sl,st.bx,st.tk⟩) (aW:X.still=false:=by exact rfl):CallG X f args (some d) k st:=by
 refine ⟨ki,aW,fun E a w vs h hv=>(jD h.env hc ha hv).mono ?_⟩;rintro e w' ⟨v,E2,rfl,hr,hm,_⟩;have hh:∀ i,i < w.heap.size->w'.heap[i]? = w.heap[i]?:=fun i hi=>hm.block i hi (fun h=>h);have cf:Rel X E st a w':=dw h (Ext.refl E) (h.env.kF hh) h.tk h.nw (h.fr.cj hm.os hm.tape hm.output hm.size fun i hi=>.inr (hh i hi)) (mM aW) (h.bt.kF fun b hb=>hh b (h.env.bi hb));exact go_sound 4000 _ _ hk E _ w' (aX cf hd y v (Rv.flat hy hr))
theorem qG {D:Dr} {c:Bool} {i:Nat} {s0:List (Nat × Sl)} {f:FuncId} {args bo:List DV} {d:Nat} {y:DV} {r:List (Nat × Oper)} (ki:Enters X.P f) (hc:EvP X.P f bo y) (ha:CcL st.bx 0 0 0 bo args) (hy:flatD y=true) (hd:(ez X.nt st.sl (some d) && ez X.nt s0 (some d))=true)
  (hk:put2 s0 st (some d) true [] y (goD X D 3000 c r)) (aW:X.still=false:=by exact rfl):vA X D c i r f args (some d) s0 st:=by
 refine ⟨ki,fun hl E0 wr hD E a w vs h hv=>(jD h.rel.env hc ha hv).mono ?_⟩;rintro e w' ⟨v,E2,rfl,hr,hm,_⟩;have hh:∀ i,i < w.heap.size->w'.heap[i]? = w.heap[i]?:=fun i hi=>hm.block i hi (fun h=>h);have cf:Rel X E st a w':=dw h.rel (Ext.refl E) (h.rel.env.kF hh) h.rel.tk h.rel.nw (h.rel.fr.cj hm.os hm.tape hm.output hm.size fun i hi=>.inr (hh i hi)) (mM aW) (h.rel.bt.kF fun b hb=>hh b (h.rel.env.bi hb));have hs:Stp none E w E w':=⟨Ext.refl E,⟨[],by simp⟩,fun j b hb _=>hh b (h.rel.env.bi (mG hb))⟩;have hC:=DH h hs cf (fun j hj=>by cases hj);refine ⟨v,rfl,fun _=>hC,?_⟩;have DI:gp X ⟨D,E0,wr⟩ c E s0 st (a.put none v) w':=qm h hs cf (fun h1=>hC (h.cc h1)) (fun i x hx=>.inr ⟨hx,fun d hd=>by cases hd⟩) rfl;obtain ⟨s1,rA,pQ,ep⟩:=iY DI hd true [] y v (fun _ _ p hp=>by cases hp) (fun _=>Rv.flat hy hr) (fun _ _=>Rv.flat hy hr) (fun hn=>(hn (bg _)).elim) hk;exact gG (D:=⟨D,E0,wr⟩) hD 3000 c r _ _ pQ hl E _ w' ep
theorem CallG.GV {S:St} {f:FuncId} {args bo:List DV} {dst:Option Nat} (i j:Nat) (hS:st=fk i j S) (ha:args=renL (swp i j) bo) (ME:Nat.ble X.n0 i=true) (Di:Nat.ble X.n0 j=true) (hi:Nat.blt i S.bx.length=true) (hj:Nat.blt j S.bx.length=true)
  (h:CallG X f bo dst k S) (hX:X.bt=[]:=by exact rfl):CallG X f args dst k st:=by
 subst hS ha;simp only [Nat.blt_eq] at hi hj;refine ⟨h.1,h.2.1,fun E a w vs hr hv=>?_⟩
 have hlen:E.β.length=S.bx.length:=by
  rw [hr.env.len];simp only [fk,fm,er]
 exact h.2.2 _ a w vs (DK hX hr (nL ME) (nL Di) hi hj) (RvL.GV (by rw [hlen];exact hi) (by rw [hlen];exact hj) hv)
end
end Dv
end Go.Proofs.YtgjagnmeonoehaaGreat
set_option maxRecDepth 100000
namespace Go.Proofs.YtgjagnmeonoehaaGreat
open Go Go.RowKit Dv Go.Proofs.Tryz
def cZ (l:List Int):List DV:=l.map fun z=>DV.v (.int .i64 z)
def Hq (af:List ByteArray) (tb lq:DV) (js:List Int):List DV:=.sl 1 (eV af) none :: tb :: lq :: cZ js
def oz:Option Nat->Int
 | none=>-1
 | some k=>(k:Int)
def Ew (pb:Nat->Nat->Bool) (e:Nat):Option Nat->Bool
 | none=>true
 | some o=>pb e o
def bestA (kN:Nat->Bool) (pb:Nat->Nat->Bool):Nat->Option Nat
 | 0=>none
 | e + 1=>if kN e && Ew pb e (bestA kN pb e) then some e else bestA kN pb e
def ny (kN:Nat->Bool) (pb:Nat->Nat->Bool) (n:Nat):Option Nat:=
 match bestA kN pb n with
 | none=>none
 | some o=>if (List.range n).any (fun c=>kN c && !pb o c) then none else some o
theorem nz {kN:Nat->Bool} {pb:Nat->Nat->Bool}:∀ {e k:Nat},bestA kN pb e=some k->k < e
 | 0,k,h=>by cases h
 | e + 1,k,h=>by
  rw [bestA] at h;split at h
  ·simp only [oI] at h;omega
  ·have:=nz h;omega
theorem sb (af:List ByteArray) (tb:DV) (rows:List Nat) (js:List Int) (hr:ei rows) (a b:Nat) (ha:a < rows.length) (hb:b < rows.length) :
  EvP prog 193 [.v (.int .i64 a),.v (.int .i64 b),.pt [.pt (Hq af tb (mT rows) js) 0] 0] (.v (.bool (aU rows a b))):=by
 have h1:=la rows hr a b;rw [qz ha hb] at h1;refine eG 13 [.tmp 5] func193 rfl ntmps193 rfl fun _ _ _ _=>?_;refine cP DN h1 ?_;exact (rfl:_=_)
theorem sc (af:List ByteArray) (tb:DV) (rows:List Nat) (js:List Int) (hr:ei rows) (a b:Nat) (ha:a < rows.length) (hb:b < rows.length) :
  EvP prog 194 [.v (.int .i64 a),.v (.int .i64 b),.pt [.pt (Hq af tb (mT rows) js) 0] 0] (.v (.bool (aU rows b a))):=by
 have h1:=la rows hr b a;rw [qz hb ha] at h1;refine eG 13 [.tmp 5] func194 rfl ntmps194 rfl fun _ _ _ _=>?_;refine cP DN h1 ?_;exact (rfl:_=_)
abbrev UO (L:List DV):DV:=.fn 193 [] [.pt [.pt L 0] 0]
abbrev UP (L:List DV):DV:=.fn 194 [] [.pt [.pt L 0] 0]
theorem Lu (af:List ByteArray) (tb:DV) (rows:List Nat) (js:List Int) (hr:ei rows) (a b c:Nat) (ha:a < rows.length) (hb:b < rows.length) (hc:c < rows.length) :
  EvP prog 196 [.v (.int .i64 c),.pt [UO (Hq af tb (mT rows) js)] 0,.pt [.v (.int .i64 a)] 0,.pt [.v (.int .i64 b)] 0] (.v (.bool (aU rows a c && aU rows b c))):=by
 have h1:=sb af tb rows js hr a c ha hc;have h2:=sb af tb rows js hr b c hb hc;refine eG 16 [.tmp 5] func196 rfl ntmps196 rfl fun _ _ _ _=>?_;refine cP NO h1 ?_;refine br ?_ ?_<;>intro g
 ·have g:aU rows a c=true:=sU g;refine cP NO h2 ?_;refine (bF ?_:);simp [g,pickB]
 ·have g:aU rows a c=false:=sU g;refine (bF ?_:);simp [g,pickB]
theorem Lv (af:List ByteArray) (tb:DV) (rows:List Nat) (js:List Int) (hr:ei rows) (a b c:Nat) (ha:a < rows.length) (hb:b < rows.length) (hc:c < rows.length) :
  EvP prog 197 [.v (.int .i64 c),.pt [UP (Hq af tb (mT rows) js)] 0,.pt [.v (.int .i64 a)] 0,.pt [.v (.int .i64 b)] 0] (.v (.bool (aU rows c a && aU rows c b))):=by
 have h1:=sc af tb rows js hr a c ha hc;have h2:=sc af tb rows js hr b c hb hc;refine eG 16 [.tmp 5] func197 rfl ntmps197 rfl fun _ _ _ _=>?_;refine cP NP h1 ?_;refine br ?_ ?_<;>intro g
 ·have g:aU rows c a=true:=sU g;refine cP NP h2 ?_;refine (bF ?_:);simp [g,pickB]
 ·have g:aU rows c a=false:=sU g;refine (bF ?_:);simp [g,pickB]
abbrev WI (L:List DV) (gi gb:Nat) (ci cb:List DV) (n:Nat) (o:Int) (e:Nat):St:=
 ⟨[mQ 0 L,(1,⟨[],.fn gi [] ci⟩),(2,⟨[],.fn gb [] cb⟩),ay 7 o,ay 14 n,ay 15 e],[],[]⟩
abbrev J3 (L:List DV) (gi gb:Nat) (ci cb:List DV) (n:Nat) (o:Int) (e:Nat):St:=
 ⟨[mQ 0 L,(1,⟨[],.fn gi [] ci⟩),(2,⟨[],.fn gb [] cb⟩),ay 7 o,ay 37 n,ay 38 e],[],[]⟩
theorem zR (af:List ByteArray) (tb lq:DV) (js:List Int) (gi gb:Nat) (hei:Enters prog gi) (heb:Enters prog gb) (ci cb:List DV) (kN:Nat->Bool) (pb:Nat->Nat->Bool)
  (aa6:CcL [] 0 0 0 ci ci) (aa7:CcL [] 0 0 0 cb cb) (hcli:clB.clL 0 0 ci=true) (hclb:clB.clL 0 0 cb=true) (hn:af.length<=64)
  (uL:∀ c:Nat,c < af.length->EvP prog gi (.v (.int .i64 c) :: ci) (.v (.bool (kN c))))
  (hpb:∀ a b:Nat,a < af.length->b < af.length->EvP prog gb (.v (.int .i64 a) :: .v (.int .i64 b) :: cb) (.v (.bool (pb a b)))) :
  EvP prog 195 [.pt (Hq af tb lq js) 0,.fn gi [] ci,.fn gb [] cb] (.v (.int .i64 (oz (ny kN pb af.length)))):=by
 have hN:=cg af;have BL:clB 0 0 (.fn gi [] ci)=true:=by simp only [clB,aP];exact ⟨rfl,hcli⟩
 have J4:clB 0 0 (.fn gb [] cb)=true:=by simp only [clB,aP];exact ⟨rfl,hclb⟩
 refine eG 57 [.tmp 6] func195 rfl ntmps195 rfl fun _ _ _ _=>?_;refine lJ (fun e=>WI (Hq af tb lq js) gi gb ci cb (eV af).length (oz (bestA kN pb e)) e) af.length (bp (iT BL J4)) ?_;intro e he;refine br ?_ ?_<;>intro hL
 ·have au:e < af.length:=by have:=hL;simp [hN] at this;exact this
  have hs:bestA kN pb (e + 1)=if kN e && Ew pb e (bestA kN pb e) then some e else bestA kN pb e:=rfl
  refine cP hei (uL e au) ?_ ⟨_,_,rfl,rfl,aa6⟩
  cases hA:bestA kN pb e with
  | none=>
   rw [hA] at hs;refine br ?_ ?_<;>intro g
   ·have g:kN e=true:=by simpa [lastG] using g
    have hz:(e:Int)=oz (bestA kN pb (e + 1)):=by rw [hs,g];all_goals rfl
    exact rE ⟨_,by omega,e + 1,rfl,by omega,rfl⟩ (bp (YR BL J4 (aN au (by omega)) hz))
   ·have g:kN e=false:=by simpa [lastG] using g
    have hz:oz none=oz (bestA kN pb (e + 1)):=by rw [hs,g];all_goals rfl
    exact rE ⟨_,by omega,e + 1,rfl,by omega,rfl⟩ (bp (YR BL J4 (aN au (by omega)) hz))
  | some k=>
   rw [hA] at hs;have hk:=nz hA;refine br ?_ ?_<;>intro g
   ·have g:kN e=true:=by simpa [lastG] using g
    refine cP heb (hpb e k au (by omega)) ?_ ⟨_,_,rfl,rfl,_,_,rfl,rfl,aa7⟩;refine br ?_ ?_<;>intro g2
    ·have g2:pb e k=true:=by simpa [pickB,g,lastG] using g2
     have hz:(e:Int)=oz (bestA kN pb (e + 1)):=by rw [hs,g,Ew,g2];all_goals rfl
     exact rE ⟨_,by omega,e + 1,rfl,by omega,rfl⟩ (bp (YR BL J4 (aN au (by omega)) hz))
    ·have g2:pb e k=false:=by simpa [pickB,g,lastG] using g2
     have hz:oz (some k)=oz (bestA kN pb (e + 1)):=by rw [hs,g,Ew,g2];all_goals rfl
     exact rE ⟨_,by omega,e + 1,rfl,by omega,rfl⟩ (bp (YR BL J4 (aN au (by omega)) hz))
   ·have g:kN e=false:=by simpa [lastG] using g
    have hz:oz (some k)=oz (bestA kN pb (e + 1)):=by rw [hs,g];all_goals rfl
    exact rE ⟨_,by omega,e + 1,rfl,by omega,rfl⟩ (bp (YR BL J4 (aN au (by omega)) hz))
 ·have hge:e=af.length:=sW hN hL;subst hge;refine lI (fun j st=>∃ e:Nat,st=J3 (Hq af tb lq js) gi gb ci cb (eV af).length (oz (bestA kN pb af.length)) e/\e<=af.length/\(∀ o,bestA kN pb af.length=some o->∀ c,c < e->(kN c && !pb o c)=false)/\j=af.length - e) ⟨0,rfl,by omega,fun _ _ c hc=>by omega,rfl⟩ (bp (iT BL J4)) ?_;rintro j st ⟨e,rfl,he,gO,rfl⟩;refine br ?_ ?_<;>intro hL
  ·have au:e < af.length:=by have:=hL;simp [hN] at this;exact this
   cases hA:bestA kN pb af.length with
   | none=>
    exact ⟨J3 (Hq af tb lq js) gi gb ci cb (eV af).length (oz none) (e + 1),(bp (Rc BL J4 (aN au (by omega)))),af.length - (e + 1),by omega,e + 1,rfl,by omega,(fun _ h=>by cases h),rfl⟩
   | some o=>
    have ho:=nz hA;have gO:=gO o hA;refine cP hei (uL e au) ?_ ⟨_,_,rfl,rfl,aa6⟩;refine br ?_ ?_<;>intro g
    ·have g:kN e=true:=by simpa [pickB] using g
     refine cP heb (hpb o e ho au) ?_ ⟨_,_,rfl,rfl,_,_,rfl,rfl,aa7⟩;refine br ?_ ?_<;>intro g2
     ·have g2:pb o e=false:=by simpa [pickB,g,lastG] using g2
      have:ny kN pb af.length=none:=by
       rw [ny,hA];simp only;rw [ap];rw [List.any_eq_true];exact ⟨e,by simpa using au,by simp [g,g2]⟩
      rw [this];exact (rfl:_=_)
     ·have g2:pb o e=true:=by simpa [pickB,g,lastG] using g2
      exact rE ⟨_,by omega,e + 1,rfl,by omega,fun o' TN c hc=>by
       cases TN;rcases kE hc with hc | rfl
       ·exact gO c hc
       ·simp [g2],rfl⟩ (bp (Rc BL J4 (aN au (by omega))))
    ·have g:kN e=false:=by simpa [pickB] using g
     exact rE ⟨_,by omega,e + 1,rfl,by omega,fun o' TN c hc=>by
       cases TN;rcases kE hc with hc | rfl
       ·exact gO c hc
       ·simp [g],rfl⟩ (bp (Rc BL J4 (aN au (by omega))))
  ·have hge:e=af.length:=sW hN hL;subst hge
   have:ny kN pb af.length=bestA kN pb af.length:=by
    cases hA:bestA kN pb af.length with
    | none=>rw [ny,hA]
    | some o=>
     rw [ny,hA];simp only;rw [aj];rw [List.any_eq_true];rintro ⟨c,hc,h2⟩;rw [gO o hA c (sU hc)] at h2;cases h2
   rw [this];exact (rfl:_=_)
theorem se (js:List Int) (bx:List (List DV)) (N n m:Nat):CcL bx N n m (cZ js) (cZ js):=by
 induction js with
 | nil=>exact rfl
 | cons z r ih=>exact ⟨_,_,rfl,rfl,ih⟩
theorem rP {n m:Nat} {tk:List TkE} (js:List Int):WeL n m tk (cZ js) (cZ js):=wh _ fun x hx=>by
 obtain ⟨z,_,rfl⟩:=List.mem_map.1 hx;exact ⟨_,rfl⟩
theorem WJ (f:Nat->Nat) (js:List Int):renL f (cZ js)=cZ js:=by
 induction js with
 | nil=>rfl
 | cons z r ih=>simp only [cZ,List.map_cons,renL,renD] at ih ⊢;rw [ih]
theorem WK (js:List Int):(cZ js).length=js.length:=by simp [cZ]
theorem O5 (js:List Int) (i:Nat) (z:Int):(cZ js).set i (.v (.int .i64 z))=cZ (js.set i z):=by simp [cZ,List.map_set]
abbrev im (af:List ByteArray) (tc:List DV) (rows:List Nat) (js:List Int):List DV:=Hq af (.pt tc 0) (mT rows) js
theorem Si (af:List ByteArray) (tc:List DV) (rows:List Nat) (js:List Int):(im af tc rows js).length=js.length + 3:=by simp [Hq,cZ]
theorem uR {af:List ByteArray} {tc:List DV} {rows:List Nat} {js:List Int} {i k:Nat} {z:Int} (h:k=i + 3):(im af tc rows js).set k (.v (.int .i64 z))=im af tc rows (js.set i z):=by grind [Hq,O5]
theorem Sj (f:Nat->Nat) (af:List ByteArray) (tc:List DV) (rows:List Nat) (js:List Int):renL f (im af tc rows js)=im af tc rows js:=by
 simp only [Hq,renL,WJ];rfl
theorem J5 {n m:Nat} {tk:List TkE} {l:List DV} {af:List ByteArray} {tc:List DV} {rows:List Nat} {js:List Int} (h:l=im af tc rows js):WeL n m tk l (im af tc rows js):=by
 subst h;exact ⟨_,_,rfl,az rfl,_,_,rfl,az rfl,_,_,rfl,az rfl,rP js⟩
def ff (f:Nat->Nat->Bool) (n a b:Nat):Option Nat:=ny (fun c=>f a c && f b c) f n
def jd (f:Nat->Nat->Bool) (n a b:Nat):Option Nat:=ny (fun c=>f c a && f c b) (fun x y=>f y x) n
theorem wE (f:Nat->Nat->Bool) (n a b:Nat):ff f n a b=ff f n b a:=by grind [ff]
theorem wF (f:Nat->Nat->Bool) (n a b:Nat):jd f n a b=jd f n b a:=by grind [jd]
def lh (f:Nat->Nat->Bool) (n a b:Nat):Bool:=(ff f n a b).isNone || (jd f n a b).isNone
def nA (f:Nat->Nat->Bool) (n b:Nat):Bool:=(List.range (b + 1)).any fun a=>lh f n a b
def JM (f:Nat->Nat->Bool) (n:Nat) (js:List Int) (a b:Nat):Prop:=js[a * 32 + b]? = some (oz (ff f n a b))/\js[1024 + (a * 32 + b)]? = some (oz (jd f n a b))
def yO (js:List Int) (a b:Nat) (j m:Int):List Int:=(((js.set (a * 32 + b) j).set (b * 32 + a) j).set (1024 + (a * 32 + b)) m).set (1024 + (b * 32 + a)) m
theorem O6 (js:List Int) (a b:Nat) (j m:Int):(yO js a b j m).length=js.length:=by simp [yO]
theorem po {js:List Int} {i k:Nat} {z:Int} (h:k≠i):(js.set k z)[i]? = js[i]?:=List.getElem?_set_ne h
theorem J6 {f:Nat->Nat->Bool} {n:Nat} {js:List Int} (hl:js.length=2048) {a b:Nat} (ha:a < 32) (hb:b < 32) {x y:Nat} (hx:x < 32) (hy:y < 32)
  (h:JM f n js x y∨(x=a/\y=b)∨(x=b/\y=a)):JM f n (yO js a b (oz (ff f n a b)) (oz (jd f n a b))) x y:=by
 have key:(x=a/\y=b)∨(x=b/\y=a)∨(JM f n js x y/\¬ (x=a/\y=b)/\¬ (x=b/\y=a)):=by grind
 rcases key with ⟨rfl,rfl⟩ | ⟨rfl,rfl⟩ | ⟨h,h1,h2⟩
 ·grind [JM,yO,po]
 ·grind [JM,yO,wE,wF,po]
 ·grind [JM,yO,po]
abbrev UQ (af:List ByteArray) (tc:List DV) (rows:List Nat) (js:List Int) (e:Nat):St:=
 ⟨[aE 1 1,aE 3 2,aE 4 3,ay 15 ((eV af).length),ay 16 e],
  [im af tc rows js,[.loc 0 0],[.fn 193 [] [.loc 1 0]],[.fn 194 [] [.loc 1 0]]],[]⟩
abbrev Hr (af:List ByteArray) (tc:List DV) (rows:List Nat) (js:List Int) (e f:Nat):St:=
 ⟨[aE 1 1,aE 3 2,aE 4 3,ay 15 ((eV af).length),ay 16 e,aE 5 4,aE 6 5],
  [im af tc rows js,[.loc 0 0],[.fn 193 [] [.loc 1 0]],[.fn 194 [] [.loc 1 0]],[.v (.int .i64 e)],[.v (.int .i64 f)]],[]⟩
abbrev O7 (af:List ByteArray) (tc:List DV) (rows:List Nat) (js:List Int) (e f:Nat):St:=
 ⟨[aE 1 1,aE 3 2,aE 4 3,ay 15 ((eV af).length),ay 16 e,aE 5 4,aE 6 6],
  [im af tc rows js,[.loc 0 0],[.fn 193 [] [.loc 1 0]],[.fn 194 [] [.loc 1 0]],[.v (.int .i64 e)],[.v (.int .i64 f)],[.v (.int .i64 (f + 1:Nat))]],[]⟩
abbrev O8 (af:List ByteArray) (tc:List DV) (rows:List Nat) (js:List Int) (e f:Nat):St:=
 ⟨[aE 1 1,aE 3 2,aE 4 3,ay 15 ((eV af).length),ay 16 e,aE 5 4,aE 6 5],
  [im af tc rows js,[.loc 0 0],[.fn 193 [] [.loc 1 0]],[.fn 194 [] [.loc 1 0]],[.v (.int .i64 e)],[.v (.int .i64 (f + 1:Nat))],[.v (.int .i64 f)]],[]⟩
theorem Sk (af:List ByteArray) (tc:List DV) (rows:List Nat) (js:List Int) (e f:Nat):O7 af tc rows js e f=fk 5 6 (O8 af tc rows js e f):=by
 simp only [fk,renO,Sj];rfl
def BndΦ (af:List ByteArray) (tc:List DV) (rows:List Nat) (r:DV) (os:List (List DV)) (_:List TkE):Prop:=
 ∃ WL,os=[im af tc rows WL]/\WL.length=2048/\r = .v (.int .i64 (oz (bB (nA (aU rows) af.length) af.length))) /\
  (bB (nA (aU rows) af.length) af.length=none->∀ x y,x < af.length->y < af.length->JM (aU rows) af.length WL x y)
theorem Ex (af:List ByteArray) (tc:List DV) (rows:List Nat) (js:List Int) (hr:ei rows) (hlen:rows.length=af.length) (hn:af.length<=32) (hj:js.length=2048) :
  Ev prog 110 [.loc 0 0] [im af tc rows js] [] (BndΦ af tc rows):=by
 have hN:=cg af;refine eG 73 [.tmp 2] func110 rfl ntmps110 rfl fun _ _ _ _=>?_;refine lI (fun j st=>∃ (e:Nat) (js:List Int),st=UQ af tc rows js e/\e<=af.length/\js.length=2048/\(∀ b,b < e->nA (aU rows) af.length b=false)/\(∀ x y,x < e->y < e->JM (aU rows) af.length js x y)/\j=af.length - e) ⟨0,js,rfl,by omega,hj,fun _ h=>by omega,fun _ _ h=>by omega,rfl⟩ (dj 4 pP kj) ?_;rintro j st ⟨e,js,rfl,he,hj,gO,Rj,rfl⟩;refine br ?_ ?_<;>intro hL
 ·have au:e < af.length:=by have:=hL;simp [hN] at this;exact this
  refine O4 (fun j st=>∃ (f:Nat) (js:List Int),st=Hr af tc rows js e f/\f<=e + 1/\js.length=2048/\(∀ a,a < f->lh (aU rows) af.length a e=false)/\(∀ x y,x < e->y < e->JM (aU rows) af.length js x y)/\(∀ x,x < f->JM (aU rows) af.length js x e/\JM (aU rows) af.length js e x)/\j=e + 1 - f) (e + 1) (Hr af tc rows js e 0) (.O2 (dj 6 pP kj)) ⟨0,js,rfl,by omega,hj,fun _ h=>by omega,Rj,fun _ h=>by omega,by omega⟩ ?_;clear Rj hj;rintro j st ⟨f,js,rfl,hf,hj,XW,Rj,hje,rfl⟩;refine br ?_ ?_<;>intro oQ
  ·have mP:f<=e:=by have:=oQ;simp at this;exact this
   have iD:=zR af (.pt tc 0) (mT rows) js 196 193 ZK NO
    [.pt [UO (im af tc rows js)] 0,.pt [.v (.int .i64 f)] 0,.pt [.v (.int .i64 e)] 0] [.pt [.pt (im af tc rows js) 0] 0] (fun c=>aU rows f c && aU rows e c) (aU rows) ax ax rfl rfl (by omega)
    (fun c hc=>Lu af (.pt tc 0) rows js hr f e c (by omega) (by omega) (by omega)) (fun a b ha hb=>sb af (.pt tc 0) rows js hr a b (by omega) (by omega))
   have gF:=zR af (.pt tc 0) (mT rows) js 197 194 ZL NP
    [.pt [UP (im af tc rows js)] 0,.pt [.v (.int .i64 f)] 0,.pt [.v (.int .i64 e)] 0] [.pt [.pt (im af tc rows js) 0] 0] (fun c=>aU rows c f && aU rows c e) (fun x y=>aU rows y x) ax ax rfl rfl (by omega)
    (fun c hc=>Lv af (.pt tc 0) rows js hr f e c (by omega) (by omega) (by omega)) (fun a b ha hb=>sc af (.pt tc 0) rows js hr a b (by omega) (by omega))
   refine Bh T9 iD (by repeat' (first | exact rfl | exact trivial | exact Or.inr (Or.inl ⟨_,rfl⟩) | exact Or.inr ⟨_,rfl⟩ | exact Or.inl ⟨rfl,rfl⟩ | exact Or.inl rfl | refine Or.inr ⟨_,_,rfl,Nat.zero_le _,rfl,?_⟩ | refine ⟨_,_,rfl,?_,?_⟩ | refine ⟨_,rfl,?_⟩ | exact se _ _ _ _ _ | refine Or.inr (Or.inr (Or.inr ⟨_,_,rfl,?_⟩)) | exact Or.inl rfl | refine Or.inr ?_)) rfl ?_;refine Bh T9 gF (by repeat' (first | exact rfl | exact trivial | exact Or.inr (Or.inl ⟨_,rfl⟩) | exact Or.inr ⟨_,rfl⟩ | exact Or.inl ⟨rfl,rfl⟩ | exact Or.inl rfl | refine Or.inr ⟨_,_,rfl,Nat.zero_le _,rfl,?_⟩ | refine ⟨_,_,rfl,?_,?_⟩ | refine ⟨_,rfl,?_⟩ | exact se _ _ _ _ _ | refine Or.inr (Or.inr (Or.inr ⟨_,_,rfl,?_⟩)) | exact Or.inl rfl | refine Or.inr ?_)) rfl ?_
   have Ey:pickB (decide (oz (ff (aU rows) af.length f e) = -1)) true (decide (oz (jd (aU rows) af.length f e) = -1))=lh (aU rows) af.length f e:=by
    unfold lh
    cases ff (aU rows) af.length f e with
    | none=>rfl
    | some j=>
     have:decide (oz (some j) = -1)=false:=by simp [oz]
     rw [this]
     cases jd (aU rows) af.length f e with
     | none=>rfl
     | some m=>
      have:decide (oz (some m) = -1)=false:=by simp [oz]
      rw [this];rfl
   refine br ?_ ?_<;>intro g
   ·have g:lh (aU rows) af.length f e=true:=Ey.symm.trans g;have hb:nA (aU rows) af.length e=true:=by grind [nA]
    have CX:=cI (p:=nA (aU rows) af.length) au hb gO;refine ⟨.v (.int .i64 e),[im af tc rows js],ax,(by repeat' (first | exact rfl | exact trivial | exact Or.inr (Or.inl ⟨_,rfl⟩) | exact Or.inr ⟨_,rfl⟩ | exact Or.inl ⟨rfl,rfl⟩ | exact Or.inl rfl | refine Or.inr ⟨_,_,rfl,Nat.zero_le _,rfl,?_⟩ | refine ⟨_,_,rfl,?_,?_⟩ | refine ⟨_,rfl,?_⟩ | exact se _ _ _ _ _ | refine Or.inr (Or.inr (Or.inr ⟨_,_,rfl,?_⟩)) | exact Or.inl rfl | refine Or.inr ?_)),js,rfl,hj,?_,fun h=>by rw [CX] at h;cases h⟩;rw [CX];rfl
   ·have g:lh (aU rows) af.length f e=false:=Ey.symm.trans g;refine uK [0] (fun _=>false) mo (by decide +kernel) ?_;have de:=Si af tc rows js;refine ⟨⟨by omega,by omega⟩,?_⟩;refine ⟨⟨by omega,by omega⟩,?_⟩;refine ⟨by rw [de];omega,?_⟩;refine ⟨⟨by omega,by omega⟩,?_⟩;refine ⟨⟨by omega,by omega⟩,?_⟩;refine ⟨by rw [List.length_set,de];omega,?_⟩;refine uK [0] (fun _=>false) mo (by decide +kernel) ?_;refine ⟨⟨by omega,by omega⟩,?_⟩;refine ⟨⟨by omega,by omega⟩,?_⟩;refine ⟨by rw [List.length_set,List.length_set,de];omega,?_⟩;refine ⟨⟨by omega,by omega⟩,?_⟩;refine ⟨⟨by omega,by omega⟩,?_⟩;refine ⟨by rw [List.length_set,List.length_set,List.length_set,de];omega,?_⟩
    have gM:((((im af tc rows js).set (0 + 0 + 3 + (f:Int).toNat * 32 + (e:Int).toNat * 1) (DV.v (.int .i64 (oz (ff (aU rows) af.length f e))))).set (0 + 0 + 3 + (e:Int).toNat * 32 + (f:Int).toNat * 1) (DV.v (.int .i64 (oz (ff (aU rows) af.length f e))))).set (0 + 0 + 1027 + (f:Int).toNat * 32 + (e:Int).toNat * 1) (DV.v (.int .i64 (oz (jd (aU rows) af.length f e))))).set (0 + 0 + 1027 + (e:Int).toNat * 32 + (f:Int).toNat * 1) (DV.v (.int .i64 (oz (jd (aU rows) af.length f e))))=im af tc rows (yO js f e (oz (ff (aU rows) af.length f e)) (oz (jd (aU rows) af.length f e))):=by
     rw [uR (i:=f * 32 + e) (by omega),uR (i:=e * 32 + f) (by omega),uR (i:=1024 + (f * 32 + e)) (by omega),uR (i:=1024 + (e * 32 + f)) (by omega)];rfl
    refine ⟨Hr af tc rows (yO js f e (oz (ff (aU rows) af.length f e)) (oz (jd (aU rows) af.length f e))) e (f + 1),
     .trans (.O2 (s2:=O7 af tc rows (yO js f e (oz (ff (aU rows) af.length f e)) (oz (jd (aU rows) af.length f e))) e f) (dj 7 (by repeat' (first | exact rfl | exact az rfl | exact J5 gM | exact aD (aN (n:=e + 1) (by omega) (by omega)) | refine ⟨_,_,rfl,?_,?_⟩)) (by repeat' (first | exact trivial | exact az rfl | exact J5 gM | exact aD (aN (n:=e + 1) (by omega) (by omega)) | refine ⟨⟨_,rfl,?_⟩,?_⟩))))
      (.trans (.GV 5 6 (O8 af tc rows (yO js f e (oz (ff (aU rows) af.length f e)) (oz (jd (aU rows) af.length f e))) e f) _ (Sk _ _ _ _ _ _) rfl rfl rfl rfl) (.O2 (dj 6 pP kj))),
     e + 1 - (f + 1),by omega,f + 1,_,rfl,by omega,by rw [O6];exact hj,fun a ha=>?_,fun x y hx hy=>?_,fun x hx=>?_,rfl⟩
    ·grind
    ·grind [J6]
    ·grind [J6]
  ·have mP:f=e + 1:=by have:=oQ;simp at this;omega
   subst mP;have hb:nA (aU rows) af.length e=false:=by grind [nA]
   refine ⟨UQ af tc rows js (e + 1),(dj 4 (kH (aN au (by omega))) (cY (aN au (by omega)))),af.length - (e + 1),by omega,e + 1,js,rfl,by omega,hj,fun b eo=>?_,fun x y hx hy=>?_,rfl⟩
   ·grind
   ·grind
 ·have hge:e=af.length:=sW hN hL;subst hge;refine ⟨.v (.int .i64 (-1)),[im af tc rows js],ax,(by repeat' (first | exact rfl | exact trivial | exact Or.inr (Or.inl ⟨_,rfl⟩) | exact Or.inr ⟨_,rfl⟩ | exact Or.inl ⟨rfl,rfl⟩ | exact Or.inl rfl | refine Or.inr ⟨_,_,rfl,Nat.zero_le _,rfl,?_⟩ | refine ⟨_,_,rfl,?_,?_⟩ | refine ⟨_,rfl,?_⟩ | exact se _ _ _ _ _ | refine Or.inr (Or.inr (Or.inr ⟨_,_,rfl,?_⟩)) | exact Or.inl rfl | refine Or.inr ?_)),js,rfl,hj,?_,fun _=>Rj⟩;rw [cT gO];rfl
def WM (l:List Wd) (k:Nat):Int:=((l[k]?).getD (⟨av,0⟩:Wd)).a
def latF (l:List Wd) (o:List (Wd × Wd)):Ft:=
 if (fW l o).1≠0 then fW l o
 else if (enumL l 0 l).1≠0 then enumL l 0 l
 else if (numF (aA l) o).1≠0 then numF (aA l) o
 else match bB (kx l.length (eQ l.length (dz (aA l) o))) l.length with
  | some a=>(11,WM l a)
  | none=>
   match bB (nA (eQ l.length (dz (aA l) o)) l.length) l.length with
   | some b=>(12,WM l b)
   | none=>(0,0)
def WN (l:List Wd) (o:List (Wd × Wd)) (d:DV):Prop:=
 ∃ aF js,ij (aA l) aF/\aF.length<=l.length/\js.length=2048/\(∀ x y,x < l.length->y < l.length->JM (eQ l.length (dz (aA l) o)) l.length js x y) /\
  d = .pt (im (aA l) (cQ (aA l) aF) (closeR (fu l.length (dz (aA l) o)) l.length) js) 0
def Hs (l:List Wd) (o:List (Wd × Wd)) (r:DV) (_:List (List DV)) (_:List TkE):Prop:=
 if (latF l o).1≠0 then r = .tup [.v (.pointer none),(latF l o).d] else ∃ d,WN l o d/\r = .tup [d,(latF l o).d]
theorem oi {L:List ByteArray}:∀ {o:List (Wd × Wd)},(numF L o).1=0->r7 L.length (dz L o)
 | [],_=>by intro p hp;simp [dz] at hp
 | q :: r,h=>by
  rw [numF] at h;split at h
  ·cases h
  ·rename_i h1;split at h
   ·cases h
   ·rename_i h2;have ih:=oi (o:=r) h;intro p hp;simp only [dz,List.map_cons,List.mem_cons] at hp;rcases hp with rfl | hp
    ·obtain ⟨a,ha⟩:=Option.ne_none_iff_exists'.1 h1;obtain ⟨b,hb⟩:=Option.ne_none_iff_exists'.1 h2;simp only [WD,ha,hb,Option.getD_some];exact ⟨(dh ha).1,(dh hb).1⟩
    ·exact ih p hp
theorem dD (l:List Wd):(aA l).length=l.length:=by simp [aA]
theorem wH {all:List Wd}:∀ {l:List Wd} {i:Nat},(enumL all i l).1=0->enumL all i l=(0,0)
 | [],_,_=>rfl
 | x :: r,i,h=>by
  rw [enumL] at h ⊢;split at h
  ·rename_i h1;exact (h1 h).elim
  ·rename_i h1;rw [aj h1];exact wH h
theorem zS {L:List ByteArray}:∀ {o:List (Wd × Wd)},(numF L o).1=0->numF L o=(0,0)
 | [],_=>rfl
 | q :: r,h=>by
  rw [numF] at h ⊢;split at h
  ·cases h
  ·rename_i h1;split at h
   ·cases h
   ·rename_i h2;rw [aj h1,aj h2];exact zS h
theorem ky {l:List Wd} {k:Nat} {w:Wd} (h:l[k]? = some w):WM l k=w.a:=by simp [WM,h]
theorem WO (n:Nat):vL (List.replicate n (.int .i64 0))=cZ (List.replicate n 0):=by
 induction n with
 | zero=>rfl
 | succ n ih=>simp only [List.replicate_succ,vL,cZ,List.map_cons] at ih ⊢;rw [ih]
theorem nB {l:List Wd} {o:List (Wd × Wd)} {f:Ft} {os:List (List DV)} {tk:List TkE} (h:latF l o=f) (hf:f.1≠0):Hs l o (.tup [.v (.pointer none),f.d]) os tk:=by
 unfold Hs;rw [h,ap hf]
theorem Sm {l:List Wd} {o:List (Wd × Wd)} {d:DV} {os:List (List DV)} {tk:List TkE} (h:latF l o=(0,0)) (hd:WN l o d):Hs l o (.tup [d,Ft.d (0,0)]) os tk:=by grind [Hs]
theorem Sn (n m:Nat) (af:List ByteArray) (tc:List DV) (rows:List Nat) (js:List Int):clB.clL n m (im af tc rows js)=true:=by
 have h:∀ l:List Int,clB.clL n m (cZ l)=true:=by
  intro l
  induction l with
  | nil=>rfl
  | cons z r ih=>simp only [cZ,List.map_cons,clB.clL,clB,Bool.true_and] at ih ⊢;exact ih
 simp only [Hq,clB.clL,clB,h,mT,Bool.and_self]
theorem Ez (l:List Wd) (o:List (Wd × Wd)) (hs:wdsWt l<=1099511627776) (CV:prsWt o<=1099511627776) :
  Ev prog 45 [.sl 2 (bG l) none,.sl 4 (mS o) none] [] [] (Hs l o):=by
 have mW:=bu l;have V1:=iI o;have hZ:=dD l;have hF:=latF.eq_1 l o;refine eG 86 [.tmp 4,.cell 5 44] func45 rfl ntmps45 rfl fun _ _ _ _=>?_;refine cP Zq (Lr l o) ?_;by_cases hm:(fW l o).1≠0
 ·rw [ap hm] at hF;refine br ?_ ?_<;>intro h
  ·refine dS ?_;exact ⟨_,ax,nB (os:=[]) (tk:=[]) hF hm⟩
  ·exfalso;simp at h;exact hm h
 rw [aj hm] at hF;refine br (fun h=>?_) (fun _=>?_)
 ·exfalso;simp at h;exact hm h
 have CY:l ≠ []:=by
  rintro rfl;simp [fW] at hm
 have hl32:l.length<=32:=by grind [fW]
 have uo:=Eo l hs;unfold aaX at uo;by_cases hE:(enumL l 0 l).1≠0
 ·rw [aj hE] at uo;rw [ap hE] at hF;refine cP TU uo ?_;refine br ?_ ?_<;>intro h
  ·refine dS ?_;exact ⟨_,ax,nB (os:=[]) (tk:=[]) hF hE⟩
  ·exfalso;simp at h;exact hE h
 rw [aj hE] at hF;have hE:(enumL l 0 l).1=0:=sU hE;rw [ap hE] at uo;rw [wH hE] at uo;refine cP TU uo ?_;refine bS NH rfl (vQ (aA l) (by omega)) ax (fun r hr=>?_);obtain ⟨aF,hT,kZ,rfl⟩:=hr;have yP:=yN (aA l) aF hT (by omega) o CV;unfold aaY at yP;by_cases hN:(numF (aA l) o).1≠0
 ·rw [aj hN] at yP;rw [ap hN] at hF;refine cP TW yP ?_;refine br ?_ ?_<;>intro h
  ·refine dS ?_;exact ⟨_,ax,nB (os:=[]) (tk:=[]) hF hN⟩
  ·exfalso;simp at h;exact hN h
 rw [aj hN] at hF;have hN:(numF (aA l) o).1=0:=sU hN;rw [ap hN] at yP;rw [zS hN] at yP;have hP:=oi hN;rw [hZ] at hP;have hPl:(dz (aA l) o).length=o.length:=by simp [dz]
 generalize hPP:dz (aA l) o=P at yP hF hP hPl;refine cP TW yP ?_;have hLn:(eV (aA l)).length=l.length:=by rw [cg,hZ]
 have hPb:P.length<=1099511627776:=by omega
 have hro:=BE (n:=l.length) (by omega) P hP;have eM:=j6 l.length P;have hr0:fu l.length P ≠ []:=fun h=>CY (List.eq_nil_of_length_eq_zero (by rw [<- eM,h];rfl));refine cP Zr (Lj l.length (by omega) P hP hPb) ?_ (rz hLn);have hlo:=Hm _ hro hr0;rw [eM,Sd (by omega) hP] at hlo
 cases hA:bB (kx l.length (eQ l.length P)) l.length with
 | some a=>
  rw [hA] at hlo hF;simp only at hF;have Na:=(dN hA).1;obtain ⟨w,hw⟩:∃ w,l[a]? = some w:=⟨_,gE Na⟩;rw [ky hw] at hF;refine cP TX hlo ?_;refine dS ?_;refine ⟨j2 w,⟨by omega,aT hw⟩,?_⟩;exact ⟨_,ax,nB (os:=[]) (tk:=[]) hF (by simp)⟩
 | none=>
 rw [hA] at hlo hF;simp only at hF;refine cP TX hlo ?_;have jH:=tw _ hro hr0;rw [eM] at jH;have hcok:=ld hro l.length (by omega);have aa9:=fv (fu l.length P) l.length;rw [eM] at aa9;refine cP TY jH ?_;have BM:(List.replicate 2048 (0:Int)).length=2048:=List.length_replicate
 have hcs:CcL [] 0 0 0 (im (aA l) (cQ (aA l) aF) (closeR (fu l.length P) l.length) (List.replicate 2048 0)) (.sl 1 (eV (aA l)) none :: .pt (cQ (aA l) aF) 0 :: mT (closeR (fu l.length P) l.length) :: vL (List.replicate 2048 (.int .i64 0))):=by
  refine ⟨_,_,rfl,Or.inr (Or.inl ⟨_,rfl⟩),_,_,rfl,Or.inl rfl,_,_,rfl,Or.inl rfl,?_⟩;rw [WO];exact se _ _ _ _ _
 have hbn:=Ex (aA l) (cQ (aA l) aF) _ (List.replicate 2048 0) hcok (by omega) (by omega) BM;refine l4 Zs rfl rfl hcs ax hbn (fun r os tk h=>?_) (fun r rB h=>?_)
 ·obtain ⟨WL,rfl,_,rfl,_⟩:=h;refine ⟨rfl,fun rB h=>?_⟩;rw [List.mem_singleton.1 h];exact Sn _ _ _ _ _ _
 obtain ⟨WL,h1,hj2,hr,Rj⟩:=h;simp only [List.cons.injEq,and_true] at h1;subst h1
 have hB:bB (nA (aU (closeR (fu l.length P) l.length)) (aA l).length) (aA l).length=bB (nA (eQ l.length P) l.length) l.length:=by
  rw [hZ];rfl
 rw [hB] at hr Rj
 cases hb:bB (nA (eQ l.length P) l.length) l.length with
 | some b=>
  rw [hb] at hr hF;subst hr;simp only at hF;have hbl:=(dN hb).1;obtain ⟨w,hw⟩:∃ w,l[b]? = some w:=⟨_,gE hbl⟩;rw [ky hw] at hF;refine dS ?_;refine ⟨j2 w,⟨by simp only [oz];omega,aT hw⟩,?_⟩;exact ⟨_,ax,nB (os:=[]) (tk:=[]) hF (by simp)⟩
 | none=>
  rw [hb] at hr hF;subst hr;simp only at hF;refine ⟨.tup [.pt (im (aA l) (cQ (aA l) aF) (closeR (fu l.length P) l.length) WL) 0,Ft.d (0,0)],(by repeat' (first | exact rfl | exact trivial | exact Or.inr (Or.inl ⟨_,rfl⟩) | exact Or.inr ⟨_,rfl⟩ | exact Or.inl ⟨rfl,rfl⟩ | exact Or.inl rfl | refine Or.inr ⟨_,_,rfl,Nat.zero_le _,rfl,?_⟩ | refine ⟨_,_,rfl,?_,?_⟩ | refine ⟨_,rfl,?_⟩ | exact se _ _ _ _ _ | refine Or.inr (Or.inr (Or.inr ⟨_,_,rfl,?_⟩)) | exact Or.inl rfl | refine Or.inr ?_)),Sm (os:=[]) (tk:=[]) hF ⟨aF,WL,hT,by omega,hj2,?_,by rw [hPP]⟩⟩;rw [hPP];rw [hZ] at Rj;exact Rj hb
section
variable (af:List ByteArray) (tc:List DV) (rows:List Nat) (js:List Int)
theorem sf:EvP prog 73 [.pt (im af tc rows js) 0] (.v (.int .i64 af.length)):=by
 refine eG 10 [.tmp 2] func73 rfl ntmps73 rfl fun _ _ _ _=>?_;refine (Be ?_:);rw [cg]
theorem sg (i:Int):EvP prog 168 [.pt (im af tc rows js) 0,.v (.int .i64 i)] (.v (.bool (decide (0<=i) && decide (i < af.length)))):=by
 refine eG 13 [.tmp 4] func168 rfl ntmps168 rfl fun _ _ _ _=>?_;refine br ?_ ?_<;>intro g
 ·have g:decide (0<=i)=true:=sU g;refine cP DL (sf af tc rows js) ?_;refine (bF ?_:);simp [g,pickB]
 ·have g:decide (0<=i)=false:=sU g;refine (bF ?_:);simp [g,pickB]
theorem qH {a:Nat} (h:a < af.length):EvP prog 168 [.pt (im af tc rows js) 0,.v (.int .i64 a)] (.v (.bool true)):=by
 have:=sg af tc rows js a;have e:(decide (0<=(a:Int)) && decide ((a:Int) < af.length))=true:=by simp [h]
 rw [e] at this;exact this
theorem Ht (i:Int):EvP prog 157 [.pt (im af tc rows js) 0,.v (.int .i64 i)] (.v (.string (if 0<=i/\i < af.length then (af[i.toNat]?).getD av else av))):=by
 refine eG 16 [.tmp 4] func157 rfl ntmps157 rfl fun _ _ _ _=>?_;refine cP vH (sg af tc rows js i) ?_;refine br ?_ ?_<;>intro g
 ·have g:¬ (0<=i/\i < af.length):=by simp at g;omega
  rw [aj g];exact (rfl:_=_)
 ·have g:0<=i/\i < af.length:=by simp at g;omega
  obtain ⟨x,hx⟩:∃ x,af[i.toNat]? = some x:=⟨_,gE (by omega)⟩;refine ⟨_,⟨g.1,fc hx⟩,?_⟩;rw [ap g,hx];exact (rfl:_=_)
end
theorem Hu (af:List ByteArray) (aF rows:List Nat) (js:List Int) (s:ByteArray) (hT:ij af aF) (hl:aF.length<=1099511627776) :
  EvP prog 202 [.pt (im af (cQ af aF) rows js) 0,.v (.string s)] (OV (cV af s)):=by
 have h:=iL af aF s hT hl;refine eG 16 [.tmp 4,.tmp 5] func202 rfl ntmps202 rfl fun _ _ _ _=>?_
 cases hx:cV af s with
 | none=>
  rw [hx] at h;refine cP ni h ?_;exact ⟨_,ax,rfl⟩
 | some k=>
  rw [hx] at h;refine cP ni h ?_;exact ⟨_,ax,rfl⟩
theorem EA {l:List DV} {k b:Nat} {x:DV} (hb:b < 32) (h:l[k + b]? = some x):(((l.drop k).take 32).drop b).take 1=[x]:=by
 have h1:((l.drop k).take 32)[b]? = some x:=by grind
 rw [List.drop_eq_getElem_cons (gS h1).1]
 grind
section
variable (af:List ByteArray) (tc:List DV) (rows:List Nat) (js:List Int)
theorem wI (a b:Nat) (z:Int) (ha:a < af.length) (hb:b < af.length) (hn:af.length<=32) (hz:js[a * 32 + b]? = some z) :
  EvP prog 203 [.pt (im af tc rows js) 0,.v (.int .i64 a),.v (.int .i64 b)] (.v (.int .i64 z)):=by
 refine eG 25 [.tmp 6] func203 rfl ntmps203 rfl fun _ _ _ _=>?_;refine cP vH (qH af tc rows js ha) ?_;refine cP vH (qH af tc rows js hb) ?_;refine ⟨_,⟨⟨by omega,by omega⟩,rfl⟩,?_⟩;refine ⟨_,⟨⟨by omega,by omega⟩,EA (x:=.v (.int .i64 z)) (by omega) ?_⟩,?_⟩
 ·grind [Hq,cZ]
 exact (rfl:_=_)
theorem Hv (a b:Nat) (z:Int) (ha:a < af.length) (hb:b < af.length) (hn:af.length<=32) (hz:js[1024 + (a * 32 + b)]? = some z) :
  EvP prog 144 [.pt (im af tc rows js) 0,.v (.int .i64 a),.v (.int .i64 b)] (.v (.int .i64 z)):=by
 refine eG 25 [.tmp 6] func144 rfl ntmps144 rfl fun _ _ _ _=>?_;refine cP vH (qH af tc rows js ha) ?_;refine cP vH (qH af tc rows js hb) ?_;refine ⟨_,⟨⟨by omega,by omega⟩,rfl⟩,?_⟩;refine ⟨_,⟨⟨by omega,by omega⟩,EA (x:=.v (.int .i64 z)) (by omega) ?_⟩,?_⟩
 ·grind [Hq,cZ]
 exact (rfl:_=_)
end
theorem si {kN:Nat->Bool} {pb:Nat->Nat->Bool}:∀ {e k:Nat},bestA kN pb e=some k->kN k=true
 | 0,k,h=>by cases h
 | e + 1,k,h=>by
  rw [bestA] at h;split at h
  ·grind
  ·exact si h
theorem wJ {kN:Nat->Bool} {pb:Nat->Nat->Bool} {n k:Nat} (h:ny kN pb n=some k):k < n/\kN k=true/\∀ c,c < n->kN c=true->pb k c=true:=by grind [ny,nz,si]
structure fY (f:Nat->Nat->Bool) (n:Nat):Prop where
 pos:0 < n
 rfl':∀ a,a < n->f a a=true
 tr:∀ a b c,a < n->b < n->c < n->f a b=true->f b c=true->f a c=true
 Lw:∀ a b,a < n->b < n->f a b=true->f b a=true->a=b
 jn:∀ a b,a < n->b < n->∃ k,ff f n a b=some k
 mt:∀ a b,a < n->b < n->∃ k,jd f n a b=some k
theorem pq {f:Nat->Nat->Bool} {n a b k:Nat} (h:ff f n a b=some k):k < n/\f a k=true/\f b k=true/\∀ c,c < n->f a c=true->f b c=true->f k c=true:=by
 obtain ⟨h1,h2,h3⟩:=wJ h
 grind
theorem pu {f:Nat->Nat->Bool} {n a b k:Nat} (h:jd f n a b=some k):k < n/\f k a=true/\f k b=true/\∀ c,c < n->f c a=true->f c b=true->f c k=true:=by
 obtain ⟨h1,h2,h3⟩:=wJ h
 grind
def iq (f:Nat->Nat->Bool) (l:List Nat) (c:Nat):Bool:=l.all fun i=>f i c
def EB (f:Nat->Nat->Bool) (n:Nat) (l:List Nat) (c:Nat):Bool:=iq f l c && (List.range n).all fun d=>!iq f l d || f c d
def fM (f:Nat->Nat->Bool) (n:Nat) (l:List Nat):Option Nat:=bB (EB f n l) n
theorem nC {f:Nat->Nat->Bool} {n:Nat} {l:List Nat} {c:Nat}:EB f n l c=true↔iq f l c=true/\∀ d,d < n->iq f l d=true->f c d=true:=by grind [EB,iq]
theorem zT {f:Nat->Nat->Bool} {n:Nat} (hL:fY f n) {l:List Nat} {c:Nat} (hc:c < n) (h:EB f n l c=true):fM f n l=some c:=by
 refine cI hc h fun a ha=>?_;cases h2:EB f n l a
 ·rfl
 ·obtain ⟨h3,h4⟩:=nC.1 h;obtain ⟨h5,h6⟩:=nC.1 h2;have:=hL.Lw a c (by omega) hc (h6 c hc h3) (h4 a (by omega) h5);omega
theorem pw {f:Nat->Nat->Bool} {n c:Nat} (hL:fY f n) (hc:c < n) (h:∀ d,d < n->f c d=true):fM f n []=some c:=
 zT hL hc (nC.2 ⟨rfl,fun d hd _=>h d hd⟩)
theorem tB {f:Nat->Nat->Bool} {n c k i:Nat} {l:List Nat} (hL:fY f n) (hl:∀ x∈l,x < n) (hi:i < n) (h:fM f n l=some c) (hk:ff f n c i=some k):fM f n (l ++ [i])=some k:=by
 obtain ⟨h1,h2,_⟩:=dN h;obtain ⟨h3,h4⟩:=nC.1 h2;obtain ⟨g1,g2,g3,g4⟩:=pq hk;simp only [iq,List.all_eq_true] at h3;refine zT hL g1 (nC.2 ⟨?_,fun d hd ho=>?_⟩)
 ·simp only [iq,List.all_eq_true,List.mem_append,List.mem_singleton];rintro x (hx | rfl)
  ·exact hL.tr x c k (hl x hx) h1 g1 (h3 x hx) g2
  ·exact g3
 ·grind [iq]
theorem om {f:Nat->Nat->Bool} {n c:Nat} {l:List Nat} (h:fM f n l=some c):c < n:=(dN h).1
abbrev UR (L:List DV) (n b e:Nat):St:=
 ⟨[mQ 0 L,ay 3 b,ay 9 n,ay 10 e],[],[]⟩
theorem qI (af:List ByteArray) (tc:List DV) (rows:List Nat) (js:List Int) {f:Nat->Nat->Bool} (hL:fY f af.length) (hn:af.length<=32) (hj:∀ x y,x < af.length->y < af.length->JM f af.length js x y) :
  EvP prog 70 [.pt (im af tc rows js) 0] (.v (.int .i64 (oz (fM f af.length [])))):=by
 have hlen:=sf af tc rows js;have jX:=hL.pos;refine eG 19 [.tmp 2] func70 rfl ntmps70 rfl fun _ _ _ _=>?_;refine cP DL hlen ?_;refine br ?_ ?_<;>intro g
 ·exfalso;simp at g;simp [g] at jX
 refine cP DL hlen ?_;refine lI (fun j st=>∃ e b:Nat,st=UR (im af tc rows js) af.length b e/\e<=af.length/\b < af.length/\(∀ x,x < e->f b x=true)/\j=af.length - e) ⟨0,0,rfl,by omega,by omega,fun _ h=>by omega,rfl⟩ (bp wB) ?_;rintro j st ⟨e,b,rfl,he,hb,fF,rfl⟩;refine br ?_ ?_<;>intro hL'
 ·have au:e < af.length:=by have:=hL';simp at this;exact this
  obtain ⟨k,hk⟩:=hL.mt b e hb au;obtain ⟨g1,g2,g3,g4⟩:=pu hk;have hz:=(hj b e hb au).2;rw [hk] at hz;refine cP Zz (Hv af tc rows js b e k hb au hn hz) ?_;refine ⟨UR (im af tc rows js) af.length k (e + 1),(bp (cY (aN au (by omega)))),af.length - (e + 1),by omega,e + 1,k,rfl,by omega,g1,fun x hx=>?_,rfl⟩;rcases kE hx with hx | rfl
  ·exact hL.tr k b x g1 hb (by omega) g2 (fF x hx)
  ·exact g3
 ·have hge:e=af.length:=by have:=hL';simp at this;omega
  subst hge;rw [pw hL hb fF];exact (rfl:_=_)
def labW (L:List ByteArray):List Wd->Ft
 | []=>(0,0)
 | w :: r=>if cV L w.s=none then (17,w.a) else labW L r
def mj (L:List ByteArray) (l:List Wd):List Nat:=l.map fun w=>(cV L w.s).getD 0
def BN (f:Nat->Nat->Bool) (L:List ByteArray) (l:List Wd):Int:=if (labW L l).1=0 then oz (fM f L.length (mj L l)) else 0
def Ly (f:Nat->Nat->Bool) (L:List ByteArray) (l:List Wd):DV:=.tup [.v (.int .i64 (BN f L l)),(labW L l).d]
theorem sj {L:List ByteArray} {l:List Wd} {e:Nat} {w:Wd} (h:l[e]? = some w):labW L (l.drop e)=if cV L w.s=none then (17,w.a) else labW L (l.drop (e + 1)):=by
 rw [drop_cons h,labW]
theorem sm {L:List ByteArray} {l:List Wd} {e i:Nat} {w:Wd} (h:l[e]? = some w) (hi:cV L w.s=some i):mj L (l.take (e + 1))=mj L (l.take e) ++ [i]:=by
 rw [List.take_add_one,h];simp [mj,hi]
abbrev US (L:List DV) (l:List Wd) (b e:Nat):St:=
 ⟨[mQ 0 L,aE 5 0,ay 6 b,bh 16 2 (bG l),ay 17 ((bG l).length),ay 18 e],[[.v (.int .i64 0),.v (.int .i64 0)]],[]⟩
theorem O9 (af:List ByteArray) (aF rows:List Nat) (js:List Int) (hT:ij af aF) (kZ:aF.length<=1099511627776) {f:Nat->Nat->Bool} (hL:fY f af.length) (hn:af.length<=32) (hj:∀ x y,x < af.length->y < af.length->JM f af.length js x y)
  (l:List Wd) (hs:wdsWt l<=1099511627776) :
  EvP prog 116 [.pt (im af (cQ af aF) rows js) 0,.sl 2 (bG l) none] (Ly f af l):=by
 have mW:=bu l;have qJ:=qI af (cQ af aF) rows js hL hn hj
 have kG:∃ b,fM f af.length []=some b:=by
  have:∀ e,e<=af.length->∃ b,b < af.length/\∀ x,x < e->f b x=true:=by
   intro e
   induction e with
   | zero=>intro _;exact ⟨0,hL.pos,fun _ h=>by omega⟩
   | succ e ih=>
    intro he;obtain ⟨b,hb,fF⟩:=ih (by omega);obtain ⟨k,hk⟩:=hL.mt b e hb (by omega);obtain ⟨g1,g2,g3,_⟩:=pu hk;refine ⟨k,g1,fun x hx=>?_⟩;rcases kE hx with hx | rfl
    ·exact hL.tr k b x g1 hb (by omega) g2 (fF x hx)
    ·exact g3
  obtain ⟨b,hb,fF⟩:=this af.length (aQ _);exact ⟨b,pw hL hb fF⟩
 obtain ⟨b0,gM⟩:=kG;rw [gM] at qJ;refine eG 41 [.tmp 4,.cell 5 44] func116 rfl ntmps116 rfl fun _ _ _ _=>?_;refine cP NG qJ ?_;refine lI (fun j st=>∃ e b:Nat,st=US (im af (cQ af aF) rows js) l b e/\e<=l.length/\labW af l=labW af (l.drop e)/\fM f af.length (mj af (l.take e))=some b/\(∀ x∈mj af (l.take e),x < af.length)/\j=l.length - e) ⟨0,b0,rfl,by omega,rfl,gM,by simp [mj],rfl⟩ (bp wB) ?_;rintro j st ⟨e,b,rfl,he,aO,N9,Rh,rfl⟩;have hb:=om N9;refine br ?_ ?_<;>intro nD
 ·have au:e < l.length:=by simpa [aC] using nD
  obtain ⟨w,hw⟩:=gX au;have aW:=sj (L:=af) hw;have BL:=Hu af aF rows js w.s hT kZ;refine ⟨j2 w,⟨by omega,aT hw⟩,?_⟩
  cases hx:cV af w.s with
  | none=>
   rw [hx] at BL;refine cP Ud BL ?_;rw [ap hx] at aW;have h1:labW af l=(17,w.a):=aO.trans aW;refine dS ?_;refine ⟨_,?_,rfl⟩;rw [Ly,BN,h1,aj (by simp)];exact ax
  | some i=>
   rw [hx] at BL;refine cP Ud BL ?_;rw [aj (by rw [hx];simp)] at aW;have hi:=(dh hx).1;obtain ⟨k,hk⟩:=hL.jn b i hb hi;have hz:=(hj b i hb hi).1;rw [hk] at hz;refine cP tg (wI af (cQ af aF) rows js b i k hb hi hn hz) ?_;refine ⟨US (im af (cQ af aF) rows js) l k (e + 1),(bp (cY (aN au (by omega)))),l.length - (e + 1),by omega,e + 1,k,rfl,by omega,aO.trans aW,?_,?_,rfl⟩
   ·rw [sm hw hx];exact tB hL Rh hi N9 hk
   ·rw [sm hw hx];intro x hm;rcases List.mem_append.1 hm with hm | hm
    ·exact Rh x hm
    ·rw [List.mem_singleton.1 hm];exact hi
 ·have hge:e=l.length:=by
   have:=nD;simp [aC] at this;omega
  subst hge;rw [List.drop_length] at aO;rw [List.take_length] at N9;have h1:labW af l=(0,0):=aO;refine ⟨_,?_,rfl⟩;rw [Ly,BN,h1,ap rfl,N9];exact ax
def Hw (x:Ft × Int) (r:DV) (os:List (List DV)) (_:List TkE):Prop:=
 r=x.1.d/\∃ z:Int,os=[[.v (.int .i64 z)]]/\(x.1.1=0->z=x.2)
theorem ml {x:Ft × Int}:∀ r os tk,Hw x r os tk->clB 0 0 r=true/\∀ rB∈os,clB.clL 0 0 rB=true:=by
 rintro r os tk ⟨rfl,z,rfl,_⟩;refine ⟨rfl,fun rB h=>?_⟩;simp only [List.mem_singleton] at h;subst h;rfl
def Pa (k:Nat):Prop:=∀ (t:Ty) (depth m:Int),t.wt<=k->t.wt<=1099511627776->0<=depth->depth<=25->0<=m->m<=512 ->
 Ev prog 199 [.loc 0 0,.agg (dX t),.v (.int .i64 depth)] [[.v (.int .i64 m)]] [] (Hw (wrong t depth m))
def lj (p:Ph) (t:Ty) (un:Bool) (depth m:Int):Ft × Int:=
 if p.bare=true then (if un=false∨dg p t (pj p) cJ=false then ((19,p.name.a),m) else ((0,0),m))
 else if (dT p).1≠0 then (dT p,m)
 else wrong t (depth + 1) m
theorem bw {x:Ft × Int} {f:Ft} {m z:Int} (h:x=(f,m)) (hz:f.1=0->z=m) {tk:List TkE}:Hw x f.d [[.v (.int .i64 z)]] tk:=by
 subst h;exact ⟨rfl,z,rfl,hz⟩
theorem Hx (k:Nat) (ih:Pa k) (p:Ph) (t:Ty) (un:Bool) (depth m:Int) (hk:t.wt<=k) (hp:p.wt<=1099511627776) (cw:t.wt<=1099511627776) (zu:0<=depth) (uM:depth<=24) (lN:0<=m) (jk:m<=512) :
  Ev prog 305 [.loc 0 0,.agg (GX p (dX t)),.v (.bool un),.v (.int .i64 depth)] [[.v (.int .i64 m)]] [] (Hw (lj p t un depth m)):=by
 have yI:=hp;simp only [Ph.wt] at yI;have Dg:=nq p (pj p) t cJ hp (by simp only [Ph.wt,pj,wdsWt];omega) (vW t cJ cw (by decide));have yz:=ih t (depth + 1) m hk cw (by omega) (by omega) lN jk;obtain ⟨u,us⟩:=t;have hcoa:=Bw p (dX (.mk u us)) (.mk u us) rfl hp;have hS:=lj.eq_def p (.mk u us) un depth m;generalize lj p (.mk u us) un depth m=F at hS ⊢;obtain ⟨nm,bare,lab,wide,ck,cn,ca,cl⟩:=p;simp only at hS yI Dg
 cases bare with
 | true=>
  rw [ap rfl] at hS
  cases un with
  | true=>
   refine eG 68 [.cell 8 44] func305 rfl ntmps305 rfl fun _ _ _ _=>?_;refine cP N1 Dg ?_;refine br ?_ ?_<;>intro q
   ·have q:dg ⟨nm,true,lab,wide,ck,cn,ca,cl⟩ (.mk u us) (pj ⟨nm,true,lab,wide,ck,cn,ca,cl⟩) cJ=false:=by simpa [show (lastG (21,false) [(18,true)]).snd=true from rfl,pickB] using q
    rw [ap (.inr q)] at hS;refine cP ee (bA 19 nm.a) ?_;exact ⟨_,_,ax,ax,bw (tk:=[]) (f:=(19,nm.a)) hS (fun _=>rfl)⟩
   ·have q:dg ⟨nm,true,lab,wide,ck,cn,ca,cl⟩ (.mk u us) (pj ⟨nm,true,lab,wide,ck,cn,ca,cl⟩) cJ=true:=by simpa [show (lastG (21,false) [(18,true)]).snd=true from rfl,pickB] using q
    rw [aj (by simp [q])] at hS;exact ⟨_,_,ax,ax,bw (tk:=[]) (f:=(0,0)) hS (fun _=>rfl)⟩
  | false=>
   refine eG 68 [.cell 8 44] func305 rfl ntmps305 rfl fun _ _ _ _=>?_;rw [ap (.inl rfl)] at hS;refine cP ee (bA 19 nm.a) ?_;exact ⟨_,_,ax,ax,bw (tk:=[]) (f:=(19,nm.a)) hS (fun _=>rfl)⟩
 | false=>
  rw [aj (by simp)] at hS;refine eG 68 [.cell 8 44] func305 rfl ntmps305 rfl fun _ _ _ _=>?_;refine br ?_ ?_<;>intro hw
  ·have hw:wide < 0∨64 < wide:=by simpa [aq] using hw
   have hP:dT ⟨nm,false,lab,wide,ck,cn,ca,cl⟩=(20,nm.a):=by simp only [dT,ap hw]
   rw [hP,ap (by simp)] at hS;refine cP ee (bA 20 nm.a) ?_;exact ⟨_,_,ax,ax,bw (tk:=[]) (f:=(20,nm.a)) hS (fun _=>rfl)⟩
  have hw:¬ (wide < 0∨64 < wide):=by simp [aq] at hw;omega
  refine cP DP (iZ lab (by omega)) ?_;refine br ?_ ?_<;>intro hb
  ·have hb:(bM lab).1≠0:=sU hb;have hP:dT ⟨nm,false,lab,wide,ck,cn,ca,cl⟩=bM lab:=by simp only [dT,aj hw,ap hb]
   rw [hP,ap hb] at hS;exact ⟨_,_,ax,ax,bw (tk:=[]) (f:=bM lab) hS (fun _=>rfl)⟩
  have hb:(bM lab).1=0:=sU hb;have hP:dT ⟨nm,false,lab,wide,ck,cn,ca,cl⟩=aY ⟨nm,false,lab,wide,ck,cn,ca,cl⟩:=by simp only [dT,aj hw];rw [aj (by simp [hb])]
  rw [hP] at hS;refine cP aai hcoa ?_;refine br ?_ ?_<;>intro hc
  ·have hc:(aY ⟨nm,false,lab,wide,ck,cn,ca,cl⟩).1≠0:=sU hc;rw [ap hc] at hS;exact ⟨_,_,ax,ax,bw (tk:=[]) (f:=aY ⟨nm,false,lab,wide,ck,cn,ca,cl⟩) hS (fun _=>rfl)⟩
  have hc:(aY ⟨nm,false,lab,wide,ck,cn,ca,cl⟩).1=0:=sU hc;rw [aj (by simp [hc])] at hS;refine l4 NQ rfl rfl ax (by repeat' (first | exact rfl | exact trivial | exact Or.inr (Or.inl ⟨_,rfl⟩) | exact Or.inr ⟨_,rfl⟩ | exact Or.inl ⟨rfl,rfl⟩ | exact Or.inl rfl | refine Or.inr ⟨_,_,rfl,Nat.zero_le _,rfl,?_⟩ | refine ⟨_,_,rfl,?_,?_⟩ | refine ⟨_,rfl,?_⟩ | exact congrArg (fun z=>DV.v (.int .i64 z)) (wrap64 (by omega) (by omega)) | refine Or.inr (Or.inr (Or.inr ⟨_,_,rfl,?_⟩)) | exact Or.inl rfl | refine Or.inr ?_)) yz ml (fun r rB hr=>?_);obtain ⟨rfl,z,hz,Dk⟩:=hr;simp only [List.cons.injEq,and_true] at hz;subst hz;exact ⟨_,_,ax,ax,bw (tk:=[]) (f:=(wrong (.mk u us) (depth + 1) m).1) hS Dk⟩
theorem yQ {ag:Int} {all:List Wd} {i:Nat} {p:Ph} {t:Ty} {r:Pts} {depth m:Int} (hk:ag=7∨ag=8) (hl:aG all i p.name=0) :
  wrongPts ag all i (.cons p t r) depth m=if (lj p t (decide (ag=8)) depth m).1.1≠0 then lj p t (decide (ag=8)) depth m else wrongPts ag all (i + 1) r depth (lj p t (decide (ag=8)) depth m).2:=by
 simp only [wrongPts];rw [aj (by simp [hl])];unfold lj;by_cases hb:p.bare=true
 ·grind [Sh,sameTy,cJ,cC,jo]
 ·grind
theorem Pb {p:Ph} {t:Ty} {un:Bool} {depth m:Int} (lN:0<=m) (jk:m<=512) (h:(lj p t un depth m).1.1=0):(lj p t un depth m).1=(0,0)/\0<=(lj p t un depth m).2/\(lj p t un depth m).2<=512:=by grind [qv,lj,dT]
abbrev EC (h:Hd) (ps:Pts) (n e:Nat) (depth m:Int):St:=
 ⟨[aE 0 0,ay 2 depth,aE 4 1,aE 6 2,bh 38 18 (fL ps),ay 39 ((fL ps).length),ay 40 e,(7,⟨[],.sl 1 (eV (aA ((pNames ps).take e))) (some 0)⟩)],
  [[.v (.int .i64 m)],dX (.mk h ps),[.v (.int .i64 0),.v (.int .i64 0)]],[⟨n,9,1,none⟩]⟩
theorem tC (k:Nat) (ih:Pa k) (h:Hd) (ps:Pts) (depth m:Int) (MS:h.ag=7∨h.ag=8) (hk:ps.wt<=k) (cw:(Ty.mk h ps).wt<=1099511627776) (zu:0<=depth) (uM:depth<=24) (lN:0<=m) (jk:m<=512) :
  Ev prog 256 [.loc 0 0,.agg (dX (.mk h ps)),.v (.int .i64 depth)] [[.v (.int .i64 m)]] [] (Hw (eX h ps depth m)):=by
 simp only [Ty.wt,Hd.wt] at cw;have gn:=ps.fK;have hZ:=gw ps;have Wt:=rW ps;have hS:=eX.eq_def h ps depth m;generalize eX h ps depth m=F at hS ⊢;refine eG 72 [.cell 6 44] func256 rfl ntmps256 rfl fun _ _ _ _=>?_;refine br ?_ ?_<;>intro c1
 ·have c1:h.ag=8/\ps.len=0:=by grind [ai,aH]
  rw [ap c1] at hS;refine cP ee (bA 15 h.at') ?_;exact ⟨_,_,ax,ax,bw (tk:=[]) (f:=(15,h.at')) hS (fun _=>rfl)⟩
 have c1:¬ (h.ag=8/\ps.len=0):=by
  simp [ai,aH] at c1;omega
 rw [aj c1] at hS;refine br ?_ ?_<;>intro c2
 ·have au:64 < ps.len:=by simp [aH] at c2;omega
  obtain ⟨p,t,hx⟩:=Pts.eE au;refine iX (bQ hx) ?_;refine cP ee (bA 8 p.name.a) ?_;rw [ap au,gx hx] at hS;exact ⟨_,_,ax,ax,bw (tk:=[]) (f:=(8,p.name.a)) hS (fun _=>rfl)⟩
 have c2:¬ 64 < ps.len:=by simp [aH] at c2;omega
 rw [aj c2] at hS
 refine aV (fun j st=>∃ (e:Nat) (m':Int),st=EC h ps e e depth m' /\ e<=ps.len/\0<=m' /\ m' <= 512/\(aA ((pNames ps).take e)).Nodup /\
   F=wrongPts h.ag (pNames ps) e (ps.drop e) depth m' /\ j=ps.len - e) ps.len (EC h ps 0 0 depth m) (fU ⟨0,9,1,none⟩ rfl ⟨_,rfl⟩ rfl wA rfl rfl kj) ⟨0,m,rfl,by omega,lN,jk,by simp [aA],hS,by omega⟩ ?_
 rintro j st ⟨e,m',rfl,he,uv,D4,hnd,aO,rfl⟩;refine br ?_ ?_<;>intro hL
 ·have au:e < ps.len:=by simpa [aH] using hL
  obtain ⟨p,t,hx⟩:=Pts.eE au;have D0:=Pts.gq (mG hx);have Hy:=gx hx;have hpw:p.name.s.size + 64<=p.wt:=by simp only [Ph.wt,Wd.wt];omega
  rw [Pts.drop_cons hx] at aO;have Oq:(aA ((pNames ps).take (e + 1)))[(aA ((pNames ps).take (e + 1))).length - 1]? = some p.name.s:=by grind [aA,pNames]
  have VJ:=tu (aA ((pNames ps).take (e + 1))) p.name.s p.name.a Oq (by simp [aA];omega) (by omega);have ek:=jI Hy;rw [zN p.name.a Hy hnd,<- ek] at VJ;have ED:=Hx k ih p t (decide (h.ag=8)) depth m' (by omega) (by omega) (by omega) zu uM uv D4;obtain ⟨u,us⟩:=t;refine iX (bQ hx) ?_;refine ⟨by simp [cg,aA];omega,⟨by simp [cg,aA,maxLen];omega,by simp [cg,aA];omega⟩,?_⟩;refine cP Us VJ ?_;by_cases hl:aG (pNames ps) e p.name≠0
  ·rw [ap hl];refine br ?_ ?_<;>intro hf
   ·simp only [wrongPts] at aO;rw [ap hl] at aO;exact ⟨_,_,ax,ax,bw (tk:=[]) (f:=(aG (pNames ps) e p.name,p.name.a)) aO (fun _=>rfl)⟩
   ·exact absurd (sU hf) hl
  have hl:aG (pNames ps) e p.name=0:=sU hl;have hndn:=mi Hy hnd hl;rw [aj (by simp [hl])];rw [yQ MS hl] at aO;have bI:=Pb (p:=p) (t:=.mk u us) (un:=decide (h.ag=8)) (depth:=depth) uv D4;generalize lj p (.mk u us) (decide (h.ag=8)) depth m'=r at ED aO bI;obtain ⟨⟨fe,fa⟩,many⟩:=r;simp only at aO bI;refine l4 aaa rfl rfl ax ax ED ml (fun r rB hr=>?_);obtain ⟨rfl,z,hz,Dk⟩:=hr;simp only [List.cons.injEq,and_true] at hz;subst hz;refine br ?_ ?_<;>intro hd
  ·have hd:fe≠0:=sU hd;rw [ap hd] at aO;exact ⟨_,_,ax,ax,bw (tk:=[]) (f:=(fe,fa)) aO (fun h0=>absurd h0 hd)⟩
  ·have hd:fe=0:=sU hd;subst hd;obtain ⟨_,h2,h3⟩:=bI rfl;rw [aj (by simp)] at aO;have Yd:z=many:=Dk rfl;subst Yd;exact rE ⟨_,by omega,e + 1,z,rfl,by omega,h2,h3,hndn,aO,rfl⟩ (bp (iT (aN au (by omega)) ek))
 ·have hge:e=ps.len:=by simp [aH] at hL;omega
  rw [hge,Pts.dn] at aO;simp only [wrongPts] at aO;exact ⟨_,_,ax,ax,bw (tk:=[]) (f:=(0,0)) aO (fun _=>rfl)⟩
theorem zU (k:Nat) (ih:Pa k) (h:Hd) (ps:Pts) (depth m:Int) (hk:ps.wt<=k) (cw:(Ty.mk h ps).wt<=1099511627776) (zu:0<=depth) (uM:depth<=24) (lN:0<=m) (jk:m<=512) :
  Ev prog 255 [.loc 0 0,.agg (dX (.mk h ps)),.v (.int .i64 depth)] [[.v (.int .i64 m)]] [] (Hw (wrongOne h ps depth m)):=by
 simp only [Ty.wt,Hd.wt] at cw
 cases ps with
 | nil=>
  have hS:wrongOne h .nil depth m=((19,h.at'),m):=by simp only [wrongOne]
  generalize wrongOne h .nil depth m=F at hS ⊢;refine eG 44 [.cell 6 44] func255 rfl ntmps255 rfl fun _ _ _ _=>?_;refine cP ee (bA 19 h.at') ?_;exact ⟨_,_,ax,ax,bw (tk:=[]) (f:=(19,h.at')) hS (fun _=>rfl)⟩
 | cons p t r=>
  cases r with
  | cons p2 t2 r2=>
   have hS:wrongOne h (.cons p t (.cons p2 t2 r2)) depth m=((19,h.at'),m):=by simp only [wrongOne]
   generalize wrongOne h (.cons p t (.cons p2 t2 r2)) depth m=F at hS ⊢;refine eG 44 [.cell 6 44] func255 rfl ntmps255 rfl fun _ _ _ _=>?_;refine cP ee (bA 19 h.at') ?_;exact ⟨_,_,ax,ax,bw (tk:=[]) (f:=(19,h.at')) hS (fun _=>rfl)⟩
  | nil=>
   simp only [Pts.wt] at cw hk;have hS:wrongOne h (.cons p t .nil) depth m=if p.name.s≠av∨cC p fp=false then ((19,h.at'),m) else if h.most < 0∨1024 < h.most then ((20,h.at'),m) else wrong t (depth + 1) m:=by simp only [wrongOne]
   generalize wrongOne h (.cons p t .nil) depth m=F at hS ⊢;have V6:=D7 p t (by omega);rw [empty_eq] at V6;have yz:=ih t (depth + 1) m (by omega) (by omega) (by omega) (by omega) lN jk;obtain ⟨u,us⟩:=t;refine eG 44 [.cell 6 44] func255 rfl ntmps255 rfl fun _ _ _ _=>?_;refine ⟨_,⟨by omega,rfl⟩,?_⟩;refine cP Z9 V6 ?_;refine br ?_ ?_<;>intro q
   ·have q:p.name.s≠av∨cC p fp=false:=by
     have:=q;simp [pickB] at this;exact this
    rw [ap q] at hS;refine cP ee (bA 19 h.at') ?_;exact ⟨_,_,ax,ax,bw (tk:=[]) (f:=(19,h.at')) hS (fun _=>rfl)⟩
   have q:¬ (p.name.s≠av∨cC p fp=false):=by grind [pickB]
   rw [aj q] at hS;refine br ?_ ?_<;>intro x
   ·have x:h.most < 0∨1024 < h.most:=by simpa [aq] using x
    rw [ap x] at hS;refine cP ee (bA 20 h.at') ?_;exact ⟨_,_,ax,ax,bw (tk:=[]) (f:=(20,h.at')) hS (fun _=>rfl)⟩
   have x:¬ (h.most < 0∨1024 < h.most):=by simp [aq] at x;omega
   rw [aj x] at hS;refine ⟨_,⟨by omega,rfl⟩,?_⟩;refine l4 NQ rfl rfl ax (by repeat' (first | exact rfl | exact trivial | exact Or.inr (Or.inl ⟨_,rfl⟩) | exact Or.inr ⟨_,rfl⟩ | exact Or.inl ⟨rfl,rfl⟩ | exact Or.inl rfl | refine Or.inr ⟨_,_,rfl,Nat.zero_le _,rfl,?_⟩ | refine ⟨_,_,rfl,?_,?_⟩ | refine ⟨_,rfl,?_⟩ | exact congrArg (fun z=>DV.v (.int .i64 z)) (wrap64 (by omega) (by omega)) | refine Or.inr (Or.inr (Or.inr ⟨_,_,rfl,?_⟩)) | exact Or.inl rfl | refine Or.inr ?_)) yz ml (fun r rB hr=>?_);obtain ⟨rfl,z,hz,Dk⟩:=hr;simp only [List.cons.injEq,and_true] at hz;subst hz;exact ⟨_,_,ax,ax,bw (tk:=[]) (f:=(wrong (.mk u us) (depth + 1) m).1) hS Dk⟩
theorem EE (k:Nat) (ih:Pa k) (h:Hd) (ps:Pts) (depth m:Int) (hk:ps.wt<=k) (cw:(Ty.mk h ps).wt<=1099511627776) (zu:0<=depth) (uM:depth<=25) (lN:0<=m) (jk:m<=512) :
  Ev prog 199 [.loc 0 0,.agg (dX (.mk h ps)),.v (.int .i64 depth)] [[.v (.int .i64 m)]] [] (Hw (wrong (.mk h ps) depth m)):=by
 have zV:=cw;simp only [Ty.wt,Hd.wt] at zV;have rC:IntKind.i64.wrap (m + 1)=m + 1:=wrap64 (by omega) (by omega);have hS:=wrong.eq_def (.mk h ps) depth m;simp only at hS;generalize wrong (.mk h ps) depth m=F at hS ⊢;have dc:=Lb h ps;rw [JL] at dc;refine eG 103 [.cell 6 44] func199 rfl ntmps199 rfl fun _ _ _ _=>?_;refine br ?_ ?_<;>intro c
 ·have c:24 < depth:=of_decide_eq_true c;rw [ap c] at hS;refine cP ee (bA 6 h.at') ?_;exact ⟨_,[[.v (.int .i64 (m + 1))]],ax,(rz rC),bw (tk:=[]) (f:=(6,h.at')) hS (fun _=>rfl)⟩
 have c:¬ 24 < depth:=of_decide_eq_false c;rw [aj c] at hS;refine br ?_ ?_<;>intro c
 ·have c:512 < IntKind.i64.wrap (m + 1):=of_decide_eq_true c;rw [rC] at c;rw [ap c] at hS;refine cP ee (bA 8 h.at') ?_;exact ⟨_,[[.v (.int .i64 (m + 1))]],ax,(rz rC),bw (tk:=[]) (f:=(8,h.at')) hS (fun _=>rfl)⟩
 have c:¬ 512 < IntKind.i64.wrap (m + 1):=of_decide_eq_false c;rw [rC] at c;rw [aj c] at hS;refine br ?_ ?_<;>intro c
 ·have c:h.ag < 1∨9 < h.ag:=by simpa [aq] using c
  rw [ap c] at hS;refine cP ee (bA 14 h.at') ?_;exact ⟨_,[[.v (.int .i64 (m + 1))]],ax,(rz rC),bw (tk:=[]) (f:=(14,h.at')) hS (fun _=>rfl)⟩
 have ck:¬ (h.ag < 1∨9 < h.ag):=by simp [aq] at c;omega
 rw [aj ck] at hS;refine cP ZY dc ?_;refine br ?_ ?_<;>intro c
 ·have c:vS (.mk h ps)=false:=by simpa [vS] using c
  rw [ap c] at hS;refine cP ee (bA 19 h.at') ?_;exact ⟨_,[[.v (.int .i64 (m + 1))]],ax,(rz rC),bw (tk:=[]) (f:=(19,h.at')) hS (fun _=>rfl)⟩
 have c:¬ vS (.mk h ps)=false:=by simpa [vS] using c
 rw [aj c] at hS;refine br ?_ ?_<;>intro k2
 ·have k2:h.ag=2:=of_decide_eq_true k2;refine br ?_ ?_<;>intro x
  ·have x:h.hi < h.lo:=of_decide_eq_true x;rw [ap (.inl ⟨k2,x⟩)] at hS;refine cP ee (bA 20 h.at') ?_;exact ⟨_,[[.v (.int .i64 (m + 1))]],ax,(rz rC),bw (tk:=[]) (f:=(20,h.at')) hS (fun _=>rfl)⟩
  have x:¬ h.hi < h.lo:=of_decide_eq_false x;rw [aj (by omega),aj (by omega),aj (by omega),aj (by omega),aj (by omega)] at hS;exact ⟨_,[[.v (.int .i64 (m + 1))]],ax,(rz rC),bw (tk:=[]) (f:=(0,0)) hS (fun _=>rfl)⟩
 have k2:¬ h.ag=2:=of_decide_eq_false k2;refine br ?_ ?_<;>intro k3
 ·have k3:h.ag=3:=of_decide_eq_true k3;refine br ?_ ?_<;>intro x
  ·have x:h.most < 0∨4096 < h.most:=by simpa [aq] using x
   rw [ap (.inr ⟨k3,x⟩)] at hS;refine cP ee (bA 20 h.at') ?_;exact ⟨_,[[.v (.int .i64 (m + 1))]],ax,(rz rC),bw (tk:=[]) (f:=(20,h.at')) hS (fun _=>rfl)⟩
  have x:¬ (h.most < 0∨4096 < h.most):=by simp [aq] at x;omega
  rw [aj (by omega),aj (by omega),aj (by omega),aj (by omega),aj (by omega)] at hS;exact ⟨_,[[.v (.int .i64 (m + 1))]],ax,(rz rC),bw (tk:=[]) (f:=(0,0)) hS (fun _=>rfl)⟩
 have k3:¬ h.ag=3:=of_decide_eq_false k3;rw [aj (by omega)] at hS;refine br ?_ ?_<;>intro k4
 ·have k4:h.ag=4:=of_decide_eq_true k4;rw [aj (by omega),ap k4,<- O0] at hS;refine cP ZZ (G7 h ps (by omega)) ?_;exact ⟨_,[[.v (.int .i64 (m + 1))]],ax,(rz rC),bw (tk:=[]) (f:=nr h) hS (fun _=>rfl)⟩
 have k4:¬ h.ag=4:=of_decide_eq_false k4;refine br ?_ ?_<;>intro k5
 ·have k5':h.ag=5∨h.ag=6:=.inl (of_decide_eq_true k5);rw [aj (by omega),aj (by omega),ap k5'] at hS;refine br (fun _=>?_) (fun hc=>by rw [k5] at hc;cases hc);refine l4 Ul rfl rfl (cs':=[.v (.int .i64 (m + 1))]) (rz rC) ax (zU k ih h ps depth (m + 1) hk cw zu (by omega) (by omega) (by omega)) ml (fun r rB hr=>?_);obtain ⟨rfl,z,hz,Dk⟩:=hr;simp only [List.cons.injEq,and_true] at hz;subst hz;exact ⟨_,_,ax,ax,bw (tk:=[]) (f:=(wrongOne h ps depth (m + 1)).1) hS Dk⟩
 have k5:¬ h.ag=5:=of_decide_eq_false k5;refine br ?_ ?_<;>intro k6
 ·have k5':h.ag=5∨h.ag=6:=.inr (of_decide_eq_true k6);rw [aj (by omega),aj (by omega),ap k5'] at hS;refine l4 Ul rfl rfl (cs':=[.v (.int .i64 (m + 1))]) (rz rC) ax (zU k ih h ps depth (m + 1) hk cw zu (by omega) (by omega) (by omega)) ml (fun r rB hr=>?_);obtain ⟨rfl,z,hz,Dk⟩:=hr;simp only [List.cons.injEq,and_true] at hz;subst hz;exact ⟨_,_,ax,ax,bw (tk:=[]) (f:=(wrongOne h ps depth (m + 1)).1) hS Dk⟩
 have k6:¬ h.ag=6:=of_decide_eq_false k6;have hP:eX h ps depth (m + 1)=eX h ps depth (m + 1):=rfl
 conv at hP=>lhs;unfold eX
 refine br ?_ ?_<;>intro k7
 ·have k7':h.ag=7∨h.ag=8:=.inl (of_decide_eq_true k7);rw [aj (by omega),aj (by omega),aj (by omega),ap k7',hP] at hS;refine br (fun _=>?_) (fun hc=>by rw [k7] at hc;cases hc);refine l4 Um rfl rfl (cs':=[.v (.int .i64 (m + 1))]) (rz rC) ax (tC k ih h ps depth (m + 1) k7' hk cw zu (by omega) (by omega) (by omega)) ml (fun r rB hr=>?_);obtain ⟨rfl,z,hz,Dk⟩:=hr;simp only [List.cons.injEq,and_true] at hz;subst hz;exact ⟨_,_,ax,ax,bw (tk:=[]) (f:=(eX h ps depth (m + 1)).1) hS Dk⟩
 have k7:¬ h.ag=7:=of_decide_eq_false k7;refine br ?_ ?_<;>intro k8
 ·have k7':h.ag=7∨h.ag=8:=.inr (of_decide_eq_true k8);rw [aj (by omega),aj (by omega),aj (by omega),ap k7',hP] at hS;refine l4 Um rfl rfl (cs':=[.v (.int .i64 (m + 1))]) (rz rC) ax (tC k ih h ps depth (m + 1) k7' hk cw zu (by omega) (by omega) (by omega)) ml (fun r rB hr=>?_);obtain ⟨rfl,z,hz,Dk⟩:=hr;simp only [List.cons.injEq,and_true] at hz;subst hz;exact ⟨_,_,ax,ax,bw (tk:=[]) (f:=(eX h ps depth (m + 1)).1) hS Dk⟩
 have k8:¬ h.ag=8:=of_decide_eq_false k8;refine br ?_ ?_<;>intro k9
 ·have k9:h.ag=9:=of_decide_eq_true k9;refine cP tf (gv h.name.s (by simp only [Wd.wt] at zV;omega)) ?_;refine br ?_ ?_<;>intro q
  ·have q:bd h.name.s=false:=sU q;rw [ap ⟨k9,q⟩] at hS;refine cP ee (bA 9 h.name.a) ?_;exact ⟨_,[[.v (.int .i64 (m + 1))]],ax,(rz rC),bw (tk:=[]) (f:=(9,h.name.a)) hS (fun _=>rfl)⟩
  ·have q:bd h.name.s=true:=sU q;rw [aj (by simp [q]),aj (by omega),aj (by omega),aj (by omega)] at hS;exact ⟨_,[[.v (.int .i64 (m + 1))]],ax,(rz rC),bw (tk:=[]) (f:=(0,0)) hS (fun _=>rfl)⟩
 have k9:¬ h.ag=9:=of_decide_eq_false k9;rw [aj (by omega),aj (by omega),aj (by omega),aj (by omega)] at hS;exact ⟨_,[[.v (.int .i64 (m + 1))]],ax,(rz rC),bw (tk:=[]) (f:=(0,0)) hS (fun _=>rfl)⟩
theorem EF:∀ k,Pa k
 | 0=>fun t depth m hk=>by have:=t.dy;omega
 | k + 1=>fun t depth m hk cw zu uM lN jk=>by
  obtain ⟨h,ps⟩:=t;have gD:=hk;simp only [Ty.wt,Hd.wt] at gD;exact EE k (EF k) h ps depth m (by omega) cw zu uM lN jk
theorem EG (t:Ty) (cw:t.wt<=1099511627776):EvP prog 113 [.agg (dX t)] (wrong t 1 0).1.d:=
 Lc t (EF t.wt t 1 0 (aQ _) cw (by omega) (by omega) (by omega) (by omega))
abbrev Pc (t:Ty) (ps:Pts) (e n:Nat):St:=
 ⟨[aE 1 0,ay 3 n,bh 7 18 (fL ps),ay 8 ((fL ps).length),ay 9 e],[dX t],[]⟩
theorem wK:∀ (k:Nat) (t:Ty),t.wt<=k->t.wt<=1099511627776 ->
  EvP prog 114 [.agg (dX t)] (.v (.int .i64 t.cnt))
 | 0,t,hn,_=>by have:=t.dy;omega
 | k + 1,.mk h ps,hn,cw=>by
  simp only [Ty.wt,Hd.wt] at hn cw;have gn:=ps.fK;have hc:=ps.eF;refine eG 23 [.tmp 2] func114 rfl ntmps114 rfl fun _ _ _ _=>?_
  refine aV (fun j st=>∃ (e n:Nat),st=Pc (.mk h ps) ps e n/\e<=ps.len/\n + (ps.drop e).cnt=1 + ps.cnt/\j=ps.len - e) ps.len
   (Pc (.mk h ps) ps 0 1) (bp wB) ⟨0,1,rfl,by omega,rfl,by omega⟩ ?_
  rintro j st ⟨e,n,rfl,he,bf,rfl⟩;refine br ?_ ?_<;>intro hL
  ·have au:e < ps.len:=by simpa [aH] using hL
   obtain ⟨p,t,hx⟩:=Pts.eE au;have D0:=Pts.gq (mG hx);rw [Pts.drop_cons hx] at bf;simp only [Pts.cnt] at bf;have hct:=t.eF;obtain ⟨u,us⟩:=t;refine iX (bQ hx) ?_;refine br ?_ ?_<;>intro hB
   ·have hB:p.bare=false:=sU hB;rw [hB] at bf;have bf:n + ((Ty.mk u us).cnt + (ps.drop (e + 1)).cnt)=1 + ps.cnt:=bf;refine cP TZ (wK k (.mk u us) (by omega) (by omega)) ?_;have yB:IntKind.i64.wrap ((n:Int) + (Ty.mk u us).cnt)=((n + (Ty.mk u us).cnt:Nat):Int):=by rw [wrap64 (by omega) (by omega)];omega
    exact ⟨Pc (.mk h ps) ps (e + 1) (n + (Ty.mk u us).cnt),(bp (iT yB (aN au (by omega)))),ps.len - (e + 1),by omega,e + 1,_,rfl,by omega,by omega,rfl⟩
   ·have hB:p.bare=true:=sU hB;rw [hB] at bf;have bf:n + (0 + (ps.drop (e + 1)).cnt)=1 + ps.cnt:=bf;exact rE ⟨_,by omega,e + 1,n,rfl,by omega,by omega,rfl⟩ (bp (cY (aN au (by omega))))
  ·have hge:e=ps.len:=by simp [aH] at hL;omega
   rw [hge,Pts.dn] at bf;simp only [Pts.cnt] at bf;have e2:(n:Int)=((Ty.mk h ps).cnt:Int):=by simp only [Ty.cnt];omega
   refine (Be ?_:);exact e2
mutual
def Ty.nn:Ty->Nat
 | .mk h ps=>if h.ag=9 then 0 else 1 + ps.nn
def Pts.nn:Pts->Nat
 | .nil=>0
 | .cons p t r=>(if p.bare then 0 else t.nn) + r.nn
end
mutual
theorem Ty.gy:∀ t:Ty,t.nn<=t.cnt
 | .mk h ps=>by
  have:=Pts.gy ps;simp only [Ty.nn,Ty.cnt];split<;>omega
theorem Pts.gy:∀ ps:Pts,ps.nn<=ps.cnt
 | .nil=>aQ _
 | .cons p t r=>by
  have:=Ty.gy t;have:=Pts.gy r;simp only [Pts.nn,Pts.cnt];split<;>omega
end
abbrev WQ (t:Ty) (ps:Pts) (e n:Nat):St:=
 ⟨[aE 1 0,ay 3 n,bh 10 18 (fL ps),ay 11 ((fL ps).length),ay 12 e],[dX t],[]⟩
theorem wM:∀ (k:Nat) (t:Ty),t.wt<=k->t.wt<=1099511627776 ->
  EvP prog 118 [.agg (dX t)] (.v (.int .i64 t.nn))
 | 0,t,hn,_=>by have:=t.dy;omega
 | k + 1,.mk h ps,hn,cw=>by
  simp only [Ty.wt,Hd.wt] at hn cw;have gn:=ps.fK;have hc:=ps.eF;have nZ:=ps.gy;refine eG 26 [.tmp 2] func118 rfl ntmps118 rfl fun _ _ _ _=>?_;refine br ?_ ?_<;>intro h9
  ·have h9:h.ag=9:=sU h9;have:(Ty.mk h ps).nn=0:=by simp [Ty.nn,h9]
   rw [this];exact (rfl:_=_)
  have h9:¬ h.ag=9:=sU h9
  refine aV (fun j st=>∃ (e n:Nat),st=WQ (.mk h ps) ps e n/\e<=ps.len/\n + (ps.drop e).nn=1 + ps.nn/\j=ps.len - e) ps.len
   (WQ (.mk h ps) ps 0 1) (bp wB) ⟨0,1,rfl,by omega,rfl,by omega⟩ ?_
  rintro j st ⟨e,n,rfl,he,bf,rfl⟩;refine br ?_ ?_<;>intro hL
  ·have au:e < ps.len:=by simpa [aH] using hL
   obtain ⟨p,t,hx⟩:=Pts.eE au;have D0:=Pts.gq (mG hx);rw [Pts.drop_cons hx] at bf;simp only [Pts.nn] at bf;have hct:=t.eF;have hct2:=t.gy;obtain ⟨u,us⟩:=t;refine iX (bQ hx) ?_;refine br ?_ ?_<;>intro hB
   ·have hB:p.bare=false:=sU hB;rw [hB] at bf;have bf:n + ((Ty.mk u us).nn + (ps.drop (e + 1)).nn)=1 + ps.nn:=bf;refine cP T0 (wM k (.mk u us) (by omega) (by omega)) ?_;have yB:IntKind.i64.wrap ((n:Int) + (Ty.mk u us).nn)=((n + (Ty.mk u us).nn:Nat):Int):=by rw [wrap64 (by omega) (by omega)];omega
    exact ⟨WQ (.mk h ps) ps (e + 1) (n + (Ty.mk u us).nn),(bp (iT yB (aN au (by omega)))),ps.len - (e + 1),by omega,e + 1,_,rfl,by omega,by omega,rfl⟩
   ·have hB:p.bare=true:=sU hB;rw [hB] at bf;have bf:n + (0 + (ps.drop (e + 1)).nn)=1 + ps.nn:=bf;exact rE ⟨_,by omega,e + 1,n,rfl,by omega,by omega,rfl⟩ (bp (cY (aN au (by omega))))
  ·have hge:e=ps.len:=by simp [aH] at hL;omega
   rw [hge,Pts.dn] at bf;simp only [Pts.nn] at bf;have e2:(n:Int)=((Ty.mk h ps).nn:Int):=by simp only [Ty.nn,aj h9];omega
   refine (Be ?_:);exact e2
structure Lx where
 af:List ByteArray
 aF:List Nat
 rows:List Nat
 js:List Int
 f:Nat->Nat->Bool
def Lx.pd (X:Lx):DV:=.pt (im X.af (cQ X.af X.aF) X.rows X.js) 0
def Lx.lev (X:Lx) (l:List Wd):Int:=BN X.f X.af l
def Lx.bad (X:Lx) (l:List Wd):Ft:=labW X.af l
structure Lx.OK (X:Lx):Prop where
 hT:ij X.af X.aF
 kZ:X.aF.length<=1099511627776
 hL:fY X.f X.af.length
 hn:X.af.length<=32
 hj:∀ x y,x < X.af.length->y < X.af.length->JM X.f X.af.length X.js x y
theorem Lx.qK {X:Lx} (h:X.OK) (l:List Wd) (hs:wdsWt l<=1099511627776):EvP prog 116 [X.pd,.sl 2 (bG l) none] (.tup [.v (.int .i64 (X.lev l)),(X.bad l).d]):=
 O9 X.af X.aF X.rows X.js h.hT h.kZ h.hL h.hn h.hj l hs
def bC (s:Sch) (lat out:DV) (m:Int):List DV:=.sl 2 (bG s.ae) none :: .sl 4 (mS s.order) none :: .sl 11 (dNms s.types) none :: (dX s.root ++ [lat,out,.v (.int .i64 m)])
theorem wN {X:Lx} (h:X.OK) (s:Sch) (pc:List DV) (m:Int) (l:List Wd) (hs:wdsWt l<=1099511627776) :
  EvP prog 204 [.pt (bC s X.pd (.pt pc 0) m) 0,.sl 2 (bG l) none] (.v (.int .i64 (X.lev l))):=by
 obtain ⟨ae,order,types,⟨rh,rp⟩⟩:=s;refine eG 17 [.tmp 4] func204 rfl ntmps204 rfl fun _ _ _ _=>?_;refine cP DM (Lx.qK h l hs) ?_;exact (rfl:_=_)
def uy (s:Sch):List Wd:=s.types.map fun x=>x.1
def tL (s:Sch):List ByteArray:=aA (uy s)
theorem J7 (s:Sch):(uy s).length=s.types.length:=by simp [uy]
theorem ka (s:Sch):(tL s).length=s.types.length:=by simp [tL,aA,uy]
def pC (s:Sch) (aF:List Nat) (a b c e:DV):List DV:=[a,b,c,.pt (cQ (tL s) aF) 0,e]
def uz (s:Sch) (t:Ty):Bool:=decide (t.h.ag=9->cV (tL s) t.h.name.s≠none)
def endI (s:Sch):Nat->Nat->Option Nat
 | 0,_=>none
 | k + 1,i=>
  match s.types[i]? with
  | none=>none
  | some x=>if x.2.h.ag=9 then endI s k ((cV (tL s) x.2.h.name.s).getD 0) else some i
theorem qL {s:Sch}:∀ {k i j:Nat},endI s k i=some j->j < s.types.length/\∀ x,s.types[j]? = some x->x.2.h.ag≠9
 | 0,i,j,h=>by cases h
 | k + 1,i,j,h=>by
  rw [endI] at h
  cases hx:s.types[i]? with
  | none=>rw [hx] at h;cases h
  | some x=>
   rw [hx] at h;simp only at h;split at h
   ·exact qL h
   all_goals grind
abbrev UT (B:DV) (n i e:Nat):St:=
 ⟨[(0,⟨[],B⟩),ay 1 i,ay 12 n,ay 13 e],[],[]⟩
theorem EH (s:Sch) (lat:DV) (aF:List Nat) (a b c e0:DV) (m:Int) (hT:ij (tL s) aF) (kZ:aF.length<=1099511627776) (hl:s.types.length<=64) (hr:∀ x∈s.types,uz s x.2=true) (i:Nat) (hi:i < s.types.length) :
  EvP prog 117 [.pt (bC s lat (.pt (pC s aF a b c e0) 0) m) 0,.v (.int .i64 i)] (.v (.int .i64 (oz (endI s (s.types.length + 1) i)))):=by
 have gl:=ka s;obtain ⟨ae,order,types,⟨rh,rp⟩⟩:=s;simp only at hl hr hi gl;have hN:=dM types;have hcnt:IntKind.i64.wrap ((((dNms types).length:Nat):Int) + 1)=((types.length + 1:Nat):Int):=by rw [hN,wrap64 (by omega) (by omega)];all_goals rfl
 refine eG 43 [.tmp 4] func117 rfl ntmps117 rfl fun _ _ _ _=>?_
 refine aV (fun j st=>∃ e q:Nat,st=UT (.pt (bC ⟨ae,order,types,.mk rh rp⟩ lat (.pt (pC ⟨ae,order,types,.mk rh rp⟩ aF a b c e0) 0) m) 0) (types.length + 1) q e/\e<=types.length + 1/\q < types.length/\endI ⟨ae,order,types,.mk rh rp⟩ (types.length + 1) i=endI ⟨ae,order,types,.mk rh rp⟩ (types.length + 1 - e) q/\j=types.length + 1 - e) (types.length + 1)
  (UT (.pt (bC ⟨ae,order,types,.mk rh rp⟩ lat (.pt (pC ⟨ae,order,types,.mk rh rp⟩ aF a b c e0) 0) m) 0) (types.length + 1) i 0) (bp (cY hcnt)) ⟨0,i,rfl,by omega,hi,rfl,by omega⟩ ?_
 rintro j st ⟨e,q,rfl,he,hq,aO,rfl⟩;refine br ?_ ?_<;>intro hL
 ·have au:e < types.length + 1:=by have:=hL;simp at this;omega
  obtain ⟨x,hx⟩:∃ x,types[q]? = some x:=⟨_,gE hq⟩;have mU:=hr x (mG hx);obtain ⟨xw,⟨xh,xp⟩⟩:=x
  have aW:endI ⟨ae,order,types,.mk rh rp⟩ (types.length + 1 - e) q=if xh.ag=9 then endI ⟨ae,order,types,.mk rh rp⟩ (types.length + 1 - (e + 1)) ((cV (tL ⟨ae,order,types,.mk rh rp⟩) xh.name.s).getD 0) else some q:=by
   rw [show types.length + 1 - e=(types.length + 1 - (e + 1)) + 1 by omega,endI];simp only [hx];rfl
  rw [aW] at aO;refine iX (dNms_get hx) ?_;refine br ?_ ?_<;>intro h9
  ·have h9:¬ xh.ag=9:=sU h9;rw [aj h9] at aO;rw [aO];exact (rfl:_=_)
  have h9:xh.ag=9:=sU h9;rw [ap h9] at aO
  have bf:cV (tL ⟨ae,order,types,.mk rh rp⟩) xh.name.s≠none:=by
   have:=of_decide_eq_true mU;exact this h9
  obtain ⟨k,hk⟩:=Option.ne_none_iff_exists'.1 bf;have lG:=(dh hk).1;rw [hk] at aO;have hf:=iL (tL ⟨ae,order,types,.mk rh rp⟩) aF xh.name.s hT kZ;rw [hk] at hf;refine dI ?_;refine cD ni hf ?_;exact rE ⟨_,by omega,e + 1,k,rfl,by omega,by omega,aO,rfl⟩ (bp (cY (aN au (by omega))))
 ·have hge:e=types.length + 1:=by have:=hL;simp at this;omega
  subst hge;rw [Nat.sub_self] at aO;rw [aO];exact (rfl:_=_)
def loopF (s:Sch):Ft:=
 match bB (fun i=>(endI s (s.types.length + 1) i).isNone) s.types.length with
 | none=>(0,0)
 | some i=>(11,WM (uy s) i)
abbrev BO (B:DV) (s:Sch) (e:Nat):St:=
 ⟨[(0,⟨[],B⟩),aE 2 0,bh 9 11 (dNms s.types),ay 10 ((dNms s.types).length),ay 11 e],[[.v (.int .i64 0),.v (.int .i64 0)]],[]⟩
theorem Hz (s:Sch) (lat:DV) (aF:List Nat) (a b c e0:DV) (m:Int) (hT:ij (tL s) aF) (kZ:aF.length<=1099511627776) (hl:s.types.length<=64) (hr:∀ x∈s.types,uz s x.2=true) :
  EvP prog 50 [.pt (bC s lat (.pt (pC s aF a b c e0) 0) m) 0] (loopF s).d:=by
 have oF:=EH s lat aF a b c e0 m hT kZ hl hr;have hN:=dM s.types;have hF:=loopF.eq_1 s;obtain ⟨ae,order,types,⟨rh,rp⟩⟩:=s;simp only at hl hr oF hN;refine eG 26 [.cell 2 44] func50 rfl ntmps50 rfl fun _ _ _ _=>?_
 refine aV (fun j st=>∃ e:Nat,st=BO (.pt (bC ⟨ae,order,types,.mk rh rp⟩ lat (.pt (pC ⟨ae,order,types,.mk rh rp⟩ aF a b c e0) 0) m) 0) ⟨ae,order,types,.mk rh rp⟩ e/\e<=types.length/\(∀ i,i < e->(endI ⟨ae,order,types,.mk rh rp⟩ (types.length + 1) i).isNone=false)/\j=types.length - e) types.length
  (BO (.pt (bC ⟨ae,order,types,.mk rh rp⟩ lat (.pt (pC ⟨ae,order,types,.mk rh rp⟩ aF a b c e0) 0) m) 0) ⟨ae,order,types,.mk rh rp⟩ 0) (bp wB) ⟨0,rfl,by omega,fun _ h=>by omega,by omega⟩ ?_
 rintro j st ⟨e,rfl,he,gO,rfl⟩;refine br ?_ ?_<;>intro hL
 ·have au:e < types.length:=by have:=hL;simp [hN] at this;exact this
  obtain ⟨x,hx⟩:=gX au;have WR:(uy ⟨ae,order,types,.mk rh rp⟩)[e]? = some x.1:=by simp [uy,hx]
  have h1:=oF e au;obtain ⟨xw,⟨xh,xp⟩⟩:=x;refine iX (dNms_get hx) ?_;refine cP en117 h1 ?_
  cases hE:endI ⟨ae,order,types,.mk rh rp⟩ (types.length + 1) e with
  | none=>
   have CX:=cI (p:=fun i=>(endI ⟨ae,order,types,.mk rh rp⟩ (types.length + 1) i).isNone) au (by simp only [hE];rfl) gO;simp only [CX] at hF;rw [ky WR] at hF;refine ⟨_,?_,rfl⟩;rw [hF];exact ax
  | some k=>
   refine ⟨BO (.pt (bC ⟨ae,order,types,.mk rh rp⟩ lat (.pt (pC ⟨ae,order,types,.mk rh rp⟩ aF a b c e0) 0) m) 0) ⟨ae,order,types,.mk rh rp⟩ (e + 1),(bp (cY (aN au (by omega)))),types.length - (e + 1),by omega,e + 1,rfl,by omega,fun i hi=>?_,rfl⟩;rcases kE hi with hi | rfl
   ·exact gO i hi
   ·rw [hE];all_goals rfl
 ·have hge:e=types.length:=sW hN hL;subst hge;simp only [cT gO] at hF;refine ⟨_,?_,rfl⟩;rw [hF];exact ax
mutual
def knT (X:Lx) (L:List ByteArray):Ty->Ft
 | .mk h ps=>if h.ag=9/\cV L h.name.s=none then (15,h.name.a) else knP X L ps
def knP (X:Lx) (L:List ByteArray):Pts->Ft
 | .nil=>(0,0)
 | .cons p t r=>if (X.bad p.label).1≠0 then X.bad p.label else if (X.bad p.cl).1≠0 then X.bad p.cl else if p.bare then knP X L r else if (knT X L t).1≠0 then knT X L t else knP X L r
end
abbrev abb (B:DV) (t:Ty) (ps:Pts) (e:Nat):St:=
 ⟨[(0,⟨[],B⟩),aE 3 0,aE 4 1,bh 38 18 (fL ps),ay 39 ((fL ps).length),ay 40 e],[dX t,[.v (.int .i64 0),.v (.int .i64 0)]],[]⟩
abbrev zW (B:DV) (t:Ty) (ps:Pts) (p:Ph) (u:Ty) (e q:Nat):St:=
 ⟨[(0,⟨[],B⟩),aE 3 0,aE 4 1,bh 38 18 (fL ps),ay 39 ((fL ps).length),ay 40 e,aE 8 2,bh 49 1 [[.sl 2 (bG p.label) none],[.sl 2 (bG p.cl) none]],ay 50 (2:Nat),ay 51 q],[dX t,[.v (.int .i64 0),.v (.int .i64 0)],GX p (dX u)],[]⟩
theorem wO {X:Lx} (hX:X.OK) (s:Sch) (aF:List Nat) (a b c e0:DV) (m:Int) (hT:ij (tL s) aF) (kZ:aF.length<=1099511627776):∀ (k:Nat) (t:Ty),t.wt<=k->t.wt<=1099511627776 ->
  EvP prog 49 [.pt (bC s X.pd (.pt (pC s aF a b c e0) 0) m) 0,.agg (dX t)] (knT X (tL s) t).d
 | 0,t,hn,_=>by have:=t.dy;omega
 | k + 1,.mk h ps,hn,cw=>by
  have ih:=wO hX s aF a b c e0 m hT kZ k;simp only [Ty.wt,Hd.wt] at hn cw;have gn:=ps.fK;obtain ⟨ae,order,types,⟨rh,rp⟩⟩:=s;have hf:=iL (tL ⟨ae,order,types,.mk rh rp⟩) aF h.name.s hT kZ;have hS:knT X (tL ⟨ae,order,types,.mk rh rp⟩) (.mk h ps)=if h.ag=9/\cV (tL ⟨ae,order,types,.mk rh rp⟩) h.name.s=none then (15,h.name.a) else knP X (tL ⟨ae,order,types,.mk rh rp⟩) ps:=by rw [knT]
  refine eG 81 [.cell 4 44] func49 rfl ntmps49 rfl fun _ _ _ _=>?_;generalize knT X (tL ⟨ae,order,types,.mk rh rp⟩) (.mk h ps)=F at hS ⊢;have hS0:knP X (tL ⟨ae,order,types,.mk rh rp⟩) ps=knP X (tL ⟨ae,order,types,.mk rh rp⟩) (ps.drop 0):=by rw [Pts.drop]
  refine br ?_ ?_<;>intro h9
  ·have h9:h.ag=9:=sU h9;refine dI ?_
   cases hx:cV (tL ⟨ae,order,types,.mk rh rp⟩) h.name.s with
   | none=>
    rw [ap ⟨h9,hx⟩] at hS;rw [hx] at hf;refine cD ni hf ?_;refine ⟨_,?_,rfl⟩;rw [hS];exact ax
   | some i=>
    rw [aj (by rw [hx];simp),hS0] at hS;rw [hx] at hf;refine cD ni hf ?_;refine lI (fun j st=>∃ e:Nat,st=abb (.pt (bC ⟨ae,order,types,.mk rh rp⟩ X.pd (.pt (pC ⟨ae,order,types,.mk rh rp⟩ aF a b c e0) 0) m) 0) (.mk h ps) ps e/\e<=ps.len/\F=knP X (tL ⟨ae,order,types,.mk rh rp⟩) (ps.drop e)/\j=ps.len - e) ⟨0,rfl,by omega,hS,rfl⟩ (bp wB) ?_;rintro j st ⟨e,rfl,he,aO,rfl⟩;refine br ?_ ?_<;>intro hL
    ·have au:e < ps.len:=by simpa [aH] using hL
     obtain ⟨p,t,hx⟩:=Pts.eE au;have D0:=Pts.gq (mG hx);rw [Pts.drop_cons hx] at aO;simp only [knP] at aO;have hw1:wdsWt p.label + wdsWt p.cl<=p.wt:=by simp only [Ph.wt];omega
     obtain ⟨u,us⟩:=t;refine iX (bQ hx) ?_;refine lI (fun j st=>∃ q:Nat,st=zW (.pt (bC ⟨ae,order,types,.mk rh rp⟩ X.pd (.pt (pC ⟨ae,order,types,.mk rh rp⟩ aF a b c e0) 0) m) 0) (.mk h ps) ps p (.mk u us) e q/\q<=2/\(1<=q->(X.bad p.label).1=0)/\(2<=q->(X.bad p.cl).1=0)/\j=2 - q) ⟨0,rfl,by omega,fun h=>by omega,fun h=>by omega,rfl⟩ (bp wB) ?_;rintro j st ⟨q,rfl,hq,hq1,jB,rfl⟩;refine br ?_ ?_<;>intro oQ
     ·have KT:q=0∨q=1:=by have:=oQ;simp at this;omega
      rcases KT with rfl | rfl
      ·refine ⟨_,⟨by omega,rfl⟩,?_⟩;refine cP DM (Lx.qK hX p.label (by omega)) ?_;refine br ?_ ?_<;>intro hb
       ·have hb:(X.bad p.label).1≠0:=sU hb;rw [ap hb] at aO;refine ⟨_,?_,rfl⟩;rw [aO];exact ax
       ·have hb:(X.bad p.label).1=0:=sU hb;exact ⟨zW (.pt (bC ⟨ae,order,types,.mk rh rp⟩ X.pd (.pt (pC ⟨ae,order,types,.mk rh rp⟩ aF a b c e0) 0) m) 0) (.mk h ps) ps p (.mk u us) e 1,(bp (cY (aN (e:=0) (n:=2) (by omega) (by omega)))),1,by omega,1,rfl,by omega,fun _=>hb,fun h=>by omega,rfl⟩
      ·have gM:=hq1 (by omega);refine ⟨_,⟨by omega,rfl⟩,?_⟩;refine cP DM (Lx.qK hX p.cl (by omega)) ?_;refine br ?_ ?_<;>intro hb
       ·have hb:(X.bad p.cl).1≠0:=sU hb;rw [aj (by rw [gM];simp),ap hb] at aO;refine ⟨_,?_,rfl⟩;rw [aO];exact ax
       ·have hb:(X.bad p.cl).1=0:=sU hb;exact ⟨zW (.pt (bC ⟨ae,order,types,.mk rh rp⟩ X.pd (.pt (pC ⟨ae,order,types,.mk rh rp⟩ aF a b c e0) 0) m) 0) (.mk h ps) ps p (.mk u us) e 2,(bp (cY (aN (e:=1) (n:=2) (by omega) (by omega)))),0,by omega,2,rfl,by omega,fun _=>gM,fun _=>hb,rfl⟩
     ·have KT:q=2:=by have:=oQ;simp at this;omega
      subst KT;have gM:=hq1 (by omega);have iD:=jB (by omega);rw [aj (by rw [gM];simp),aj (by rw [iD];simp)] at aO;refine br ?_ ?_<;>intro hB
      ·have hB:p.bare=true:=hB;rw [ap hB] at aO;exact rE ⟨_,by omega,e + 1,rfl,by omega,aO,rfl⟩ (bp (cY (aN au (by omega))))
      ·have hB:p.bare=false:=hB;rw [aj (by rw [hB];decide)] at aO;refine cP Wh (ih (.mk u us) (by omega) (by omega)) ?_;refine br ?_ ?_<;>intro hb
       ·have hb:(knT X (tL ⟨ae,order,types,.mk rh rp⟩) (.mk u us)).1≠0:=sU hb;rw [ap hb] at aO;refine ⟨_,?_,rfl⟩;rw [aO];exact ax
       ·have hb:(knT X (tL ⟨ae,order,types,.mk rh rp⟩) (.mk u us)).1=0:=sU hb;rw [aj (by rw [hb];simp)] at aO;exact rE ⟨_,by omega,e + 1,rfl,by omega,aO,rfl⟩ (bp (cY (aN au (by omega))))
    ·have hge:e=ps.len:=by simp [aH] at hL;omega
     rw [hge,Pts.dn] at aO;simp only [knP] at aO;refine ⟨_,?_,rfl⟩;rw [aO];exact ax
  ·have h9:¬ h.ag=9:=sU h9;rw [aj (fun hc=>h9 hc.1),hS0] at hS;refine lI (fun j st=>∃ e:Nat,st=abb (.pt (bC ⟨ae,order,types,.mk rh rp⟩ X.pd (.pt (pC ⟨ae,order,types,.mk rh rp⟩ aF a b c e0) 0) m) 0) (.mk h ps) ps e/\e<=ps.len/\F=knP X (tL ⟨ae,order,types,.mk rh rp⟩) (ps.drop e)/\j=ps.len - e) ⟨0,rfl,by omega,hS,rfl⟩ (bp wB) ?_;rintro j st ⟨e,rfl,he,aO,rfl⟩;refine br ?_ ?_<;>intro hL
   ·have au:e < ps.len:=by simpa [aH] using hL
    obtain ⟨p,t,hx⟩:=Pts.eE au;have D0:=Pts.gq (mG hx);rw [Pts.drop_cons hx] at aO;simp only [knP] at aO;have hw1:wdsWt p.label + wdsWt p.cl<=p.wt:=by simp only [Ph.wt];omega
    obtain ⟨u,us⟩:=t;refine iX (bQ hx) ?_;refine lI (fun j st=>∃ q:Nat,st=zW (.pt (bC ⟨ae,order,types,.mk rh rp⟩ X.pd (.pt (pC ⟨ae,order,types,.mk rh rp⟩ aF a b c e0) 0) m) 0) (.mk h ps) ps p (.mk u us) e q/\q<=2/\(1<=q->(X.bad p.label).1=0)/\(2<=q->(X.bad p.cl).1=0)/\j=2 - q) ⟨0,rfl,by omega,fun h=>by omega,fun h=>by omega,rfl⟩ (bp wB) ?_;rintro j st ⟨q,rfl,hq,hq1,jB,rfl⟩;refine br ?_ ?_<;>intro oQ
    ·have KT:q=0∨q=1:=by have:=oQ;simp at this;omega
     rcases KT with rfl | rfl
     ·refine ⟨_,⟨by omega,rfl⟩,?_⟩;refine cP DM (Lx.qK hX p.label (by omega)) ?_;refine br ?_ ?_<;>intro hb
      ·have hb:(X.bad p.label).1≠0:=sU hb;rw [ap hb] at aO;refine ⟨_,?_,rfl⟩;rw [aO];exact ax
      ·have hb:(X.bad p.label).1=0:=sU hb;exact ⟨zW (.pt (bC ⟨ae,order,types,.mk rh rp⟩ X.pd (.pt (pC ⟨ae,order,types,.mk rh rp⟩ aF a b c e0) 0) m) 0) (.mk h ps) ps p (.mk u us) e 1,(bp (cY (aN (e:=0) (n:=2) (by omega) (by omega)))),1,by omega,1,rfl,by omega,fun _=>hb,fun h=>by omega,rfl⟩
     ·have gM:=hq1 (by omega);refine ⟨_,⟨by omega,rfl⟩,?_⟩;refine cP DM (Lx.qK hX p.cl (by omega)) ?_;refine br ?_ ?_<;>intro hb
      ·have hb:(X.bad p.cl).1≠0:=sU hb;rw [aj (by rw [gM];simp),ap hb] at aO;refine ⟨_,?_,rfl⟩;rw [aO];exact ax
      ·have hb:(X.bad p.cl).1=0:=sU hb;exact ⟨zW (.pt (bC ⟨ae,order,types,.mk rh rp⟩ X.pd (.pt (pC ⟨ae,order,types,.mk rh rp⟩ aF a b c e0) 0) m) 0) (.mk h ps) ps p (.mk u us) e 2,(bp (cY (aN (e:=1) (n:=2) (by omega) (by omega)))),0,by omega,2,rfl,by omega,fun _=>gM,fun _=>hb,rfl⟩
    ·have KT:q=2:=by have:=oQ;simp at this;omega
     subst KT;have gM:=hq1 (by omega);have iD:=jB (by omega);rw [aj (by rw [gM];simp),aj (by rw [iD];simp)] at aO;refine br ?_ ?_<;>intro hB
     ·have hB:p.bare=true:=hB;rw [ap hB] at aO;exact rE ⟨_,by omega,e + 1,rfl,by omega,aO,rfl⟩ (bp (cY (aN au (by omega))))
     ·have hB:p.bare=false:=hB;rw [aj (by rw [hB];decide)] at aO;refine cP Wh (ih (.mk u us) (by omega) (by omega)) ?_;refine br ?_ ?_<;>intro hb
      ·have hb:(knT X (tL ⟨ae,order,types,.mk rh rp⟩) (.mk u us)).1≠0:=sU hb;rw [ap hb] at aO;refine ⟨_,?_,rfl⟩;rw [aO];exact ax
      ·have hb:(knT X (tL ⟨ae,order,types,.mk rh rp⟩) (.mk u us)).1=0:=sU hb;rw [aj (by rw [hb];simp)] at aO;exact rE ⟨_,by omega,e + 1,rfl,by omega,aO,rfl⟩ (bp (cY (aN au (by omega))))
   ·have hge:e=ps.len:=by simp [aH] at hL;omega
    rw [hge,Pts.dn] at aO;simp only [knP] at aO;refine ⟨_,?_,rfl⟩;rw [aO];exact ax
def eaL (F:Ty->Ft) (z:Ft):List (Wd × Ty)->Ft
 | []=>z
 | x :: r=>if (F x.2).1≠0 then F x.2 else eaL F z r
theorem Pd {F:Ty->Ft} {z:Ft} {l:List (Wd × Ty)} {e:Nat} {x:Wd × Ty} (h:l[e]? = some x):eaL F z (l.drop e)=if (F x.2).1≠0 then F x.2 else eaL F z (l.drop (e + 1)):=by
 rw [drop_cons h,eaL]
abbrev Pe (B:DV) (fn:DV) (types:List (Wd × Ty)) (e:Nat):St:=
 ⟨[(0,⟨[],B⟩),(1,⟨[],fn⟩),aE 4 0,bh 12 11 (dNms types),ay 13 ((dNms types).length),ay 14 e],[[.v (.int .i64 0),.v (.int .i64 0)]],[]⟩
theorem Lz (s:Sch) (lat:DV) (pc:List DV) (m:Int) (hl:s.types.length<=1099511627776) (g:Nat) (hg:Enters prog g) (F:Ty->Ft)
  (hF:∀ t,(t=s.root∨∃ x∈s.types,t=x.2)->EvP prog g [.pt (bC s lat (.pt pc 0) m) 0,.agg (dX t)] (F t).d) :
  EvP prog 47 [.pt (bC s lat (.pt pc 0) m) 0,.fn g [.pt (bC s lat (.pt pc 0) m) 0] []] (eaL F (F s.root) s.types).d:=by
 have hN:=dM s.types;obtain ⟨ae,order,types,⟨rh,rp⟩⟩:=s;simp only at hl hF hN;have cW:=hF (.mk rh rp) (.inl rfl);have WS:∀ x∈types,_:=fun x hx=>hF x.2 (.inr ⟨x,hx,rfl⟩);clear hF;refine eG 34 [.cell 4 44] func47 rfl ntmps47 rfl fun _ _ _ _=>?_;generalize hG:eaL F (F (.mk rh rp)) types=G;have hG0:G=eaL F (F (.mk rh rp)) (types.drop 0):=by rw [List.drop_zero,hG]
 refine aV (fun j st=>∃ e:Nat,st=Pe (.pt (bC ⟨ae,order,types,.mk rh rp⟩ lat (.pt pc 0) m) 0) (.fn g [.pt (bC ⟨ae,order,types,.mk rh rp⟩ lat (.pt pc 0) m) 0] []) types e/\e<=types.length/\G=eaL F (F (.mk rh rp)) (types.drop e)/\j=types.length - e) types.length
  (Pe (.pt (bC ⟨ae,order,types,.mk rh rp⟩ lat (.pt pc 0) m) 0) (.fn g [.pt (bC ⟨ae,order,types,.mk rh rp⟩ lat (.pt pc 0) m) 0] []) types 0) (bp wB) ⟨0,rfl,by omega,hG0,by omega⟩ ?_
 rintro j st ⟨e,rfl,he,aO,rfl⟩;refine br ?_ ?_<;>intro hL
 ·have au:e < types.length:=by have:=hL;simp [hN] at this;exact this
  obtain ⟨x,hx⟩:=gX au;have hp:=WS x (mG hx);rw [Pd hx] at aO;obtain ⟨xw,⟨xh,xp⟩⟩:=x;refine iX (dNms_get hx) ?_;refine cP hg hp ?_;refine br ?_ ?_<;>intro hf
  ·have hf:(F (.mk xh xp)).1≠0:=sU hf;rw [ap hf] at aO;refine ⟨_,?_,rfl⟩;rw [aO];exact ax
  ·have hf:(F (.mk xh xp)).1=0:=sU hf;rw [aj (by rw [hf];simp)] at aO;exact rE ⟨_,by omega,e + 1,rfl,by omega,aO,rfl⟩ (bp (cY (aN au (by omega))))
 ·have hge:e=types.length:=sW hN hL;subst hge;rw [List.drop_length,eaL] at aO;refine cP hg cW ?_;refine ⟨_,?_,rfl⟩;rw [aO];exact ax
def bU (t:Ty) (m:Int):Ft × Int:=if (wrong t 1 0).1.1≠0 then ((wrong t 1 0).1,m) else if 512 < m + t.cnt then ((8,t.h.at'),m + t.cnt) else ((0,0),m + t.cnt)
def Pf (s:Sch) (lat:DV) (pc:List DV) (x:Ft × Int) (r:DV) (os:List (List DV)) (_:List TkE):Prop:=r=x.1.d/\os=[bC s lat (.loc 1 0) x.2,pc]
theorem EI (s:Sch) (lc pc:List DV) (m:Int) (lN:0<=m) (jk:m<=1099511627776) (t:Ty) (cw:t.wt<=1099511627776) (hpc:∀ bx N n0 m0,CcL bx N n0 m0 pc pc) :
  Ev prog 48 [.loc 0 0,.agg (dX t)] [bC s (.pt lc 0) (.loc 1 0) m,pc] [] (Pf s (.pt lc 0) pc (bU t m)):=by
 have hk:=EG t cw;have hc:=wK t.wt t (aQ _) cw;have Nq:=t.eF;have hF:=bU.eq_1 t m;obtain ⟨ae,order,types,⟨rh,rp⟩⟩:=s;obtain ⟨h,ps⟩:=t;generalize bU (.mk h ps) m=R at hF ⊢;refine eG 30 [.cell 4 44] func48 rfl ntmps48 rfl fun _ _ _ _=>?_;refine cP Zt hk ?_;refine br ?_ ?_<;>intro hf
 ·have hf:(wrong (.mk h ps) 1 0).1.1≠0:=sU hf;rw [ap hf] at hF;subst hF;exact ⟨Ft.d _,[bC ⟨ae,order,types,.mk rh rp⟩ (.pt lc 0) (.loc 1 0) m,pc],ax,(by repeat' (first | exact rfl | exact trivial | exact Or.inr (Or.inl ⟨_,rfl⟩) | exact Or.inr ⟨_,rfl⟩ | exact Or.inl ⟨rfl,rfl⟩ | exact Or.inl rfl | refine Or.inr ⟨_,_,rfl,Nat.zero_le _,rfl,?_⟩ | refine ⟨_,_,rfl,?_,?_⟩ | refine ⟨_,rfl,?_⟩ | exact hpc _ _ _ _ | exact ⟨nL rfl,rfl⟩ | exact congrArg (fun z=>DV.v (.int .i64 z)) hw | refine Or.inr (Or.inr (Or.inr ⟨_,_,rfl,?_⟩)) | exact Or.inl rfl | refine Or.inr ?_)),rfl,rfl⟩
 have hf:(wrong (.mk h ps) 1 0).1.1=0:=sU hf;rw [aj (by rw [hf];simp)] at hF;have hw:IntKind.i64.wrap (m + ((Ty.mk h ps).cnt:Int))=m + ((Ty.mk h ps).cnt:Int):=wrap64 (by omega) (by omega);refine dS ?_;refine cD TZ hc ?_;refine br ?_ ?_<;>intro hg
 ·have hg:512 < m + ((Ty.mk h ps).cnt:Int):=sV hw hg;rw [ap hg] at hF;subst hF;exact ⟨Ft.d _,[bC ⟨ae,order,types,.mk rh rp⟩ (.pt lc 0) (.loc 1 0) (m + (Ty.mk h ps).cnt),pc],ax,(wC2 hpc hw),rfl,rfl⟩
 ·have hg:¬ 512 < m + ((Ty.mk h ps).cnt:Int):=sV hw hg;rw [aj hg] at hF;subst hF;exact ⟨Ft.d _,[bC ⟨ae,order,types,.mk rh rp⟩ (.pt lc 0) (.loc 1 0) (m + (Ty.mk h ps).cnt),pc],ax,(wC2 hpc hw),rfl,rfl⟩
def eaR (z:Ty):List (Wd × Ty)->Int->Ft × Int
 | [],m=>bU z m
 | x :: r,m=>if (bU x.2 m).1.1≠0 then bU x.2 m else eaR z r (bU x.2 m).2
theorem Pg {z:Ty} {l:List (Wd × Ty)} {e:Nat} {m:Int} {x:Wd × Ty} (h:l[e]? = some x):eaR z (l.drop e) m=if (bU x.2 m).1.1≠0 then bU x.2 m else eaR z (l.drop (e + 1)) (bU x.2 m).2:=by
 rw [drop_cons h,eaR]
theorem oo {t:Ty} {m:Int} (h:(bU t m).1.1=0):(bU t m).2=m + t.cnt/\(bU t m).2<=512/\(wrong t 1 0).1.1=0/\(bU t m).1=(0,0):=by grind [bU]
abbrev HA (s:Sch) (aF:List Nat) (lc:List DV):List DV:=pC s aF (.pt lc 0) (.v (.slice none 0 0)) (.v (.int .i64 0)) (.v (.slice none 0 0))
abbrev BP (s:Sch) (lc pc:List DV) (m:Int) (types:List (Wd × Ty)) (e:Nat):St:=
 ⟨[aE 0 0,(1,⟨[],.fn 48 [.loc 0 0] []⟩),aE 4 2,bh 12 11 (dNms types),ay 13 ((dNms types).length),ay 14 e],
  [bC s (.pt lc 0) (.loc 1 0) m,pc,[.v (.int .i64 0),.v (.int .i64 0)]],[]⟩
theorem HB (s:Sch) (lc:List DV) (aF:List Nat) (m:Int) (lN:0<=m) (jk:m<=512) (hl:s.types.length<=1099511627776) (cw:∀ t,(t=s.root∨∃ x∈s.types,t=x.2)->t.wt<=1099511627776) :
  Ev prog 47 [.loc 0 0,.fn 48 [.loc 0 0] []] [bC s (.pt lc 0) (.loc 1 0) m,HA s aF lc] [] (Pf s (.pt lc 0) (HA s aF lc) (eaR s.root s.types m)):=by
 have hN:=dM s.types;have hR:∀ (m':Int),0<=m' -> m' <= 512->∀ t,(t=s.root∨∃ x∈s.types,t=x.2)->_:=fun m' h0 h1 t ht=>EI s lc (HA s aF lc) m' h0 (by omega) t (cw t ht) (fun bx N n0 m0=>ax);obtain ⟨ae,order,types,⟨rh,rp⟩⟩:=s;simp only at hl hR hN cw;refine eG 34 [.cell 4 44] func47 rfl ntmps47 rfl fun _ _ _ _=>?_;generalize hG:eaR (.mk rh rp) types m=G;have hG0:G=eaR (.mk rh rp) (types.drop 0) m:=by rw [List.drop_zero,hG]
 refine aV (fun j st=>∃ (e:Nat) (m':Int),st=BP ⟨ae,order,types,.mk rh rp⟩ lc (HA ⟨ae,order,types,.mk rh rp⟩ aF lc) m' types e/\e<=types.length/\0<=m' /\ m' <= 512/\G=eaR (.mk rh rp) (types.drop e) m' /\ j=types.length - e) types.length
  (BP ⟨ae,order,types,.mk rh rp⟩ lc (HA ⟨ae,order,types,.mk rh rp⟩ aF lc) m types 0) (dj 3 (by repeat' (first | exact rfl | exact az rfl | exact rfl | refine ⟨_,_,rfl,?_,?_⟩)) (by repeat' (first | exact trivial | exact az rfl | exact rfl | refine ⟨⟨_,rfl,?_⟩,?_⟩))) ⟨0,m,rfl,by omega,lN,jk,hG0,by omega⟩ ?_
 rintro j st ⟨e,m',rfl,he,uv,D4,aO,rfl⟩;refine br ?_ ?_<;>intro hL
 ·have au:e < types.length:=by have:=hL;simp [hN] at this;exact this
  obtain ⟨x,hx⟩:=gX au;have hp:=hR m' uv D4 x.2 (.inr ⟨x,mG hx,rfl⟩);rw [Pg hx] at aO;obtain ⟨xw,⟨xh,xp⟩⟩:=x;refine iX (dNms_get hx) ?_;refine gY 2 0 Zd rfl rfl rfl fA fA hp (fun r fX bX hΦ h1 h2=>?_);obtain ⟨rfl,rfl⟩:=hΦ;have h2:=List.eq_nil_of_length_eq_zero h2;subst h2;refine br ?_ ?_<;>intro hf
  ·have hf:(bU (.mk xh xp) m').1.1≠0:=sU hf;rw [ap hf] at aO;subst aO;exact ⟨Ft.d _,[bC ⟨ae,order,types,.mk rh rp⟩ (.pt lc 0) (.loc 1 0) (bU (.mk xh xp) m').2,HA ⟨ae,order,types,.mk rh rp⟩ aF lc],ax,fA,rfl,rfl⟩
  ·have hf:(bU (.mk xh xp) m').1.1=0:=sU hf;rw [aj (by rw [hf];simp)] at aO;obtain ⟨g1,g2,_,_⟩:=oo hf;exact ⟨BP ⟨ae,order,types,.mk rh rp⟩ lc (HA ⟨ae,order,types,.mk rh rp⟩ aF lc) (bU (.mk xh xp) m').2 types (e + 1),(dj 3 (kH (aN au (by omega))) (cY (aN au (by omega)))),types.length - (e + 1),by omega,e + 1,_,rfl,by omega,by omega,g2,aO,rfl⟩
 ·have hge:e=types.length:=sW hN hL;subst hge;rw [List.drop_length,eaR] at aO;refine gY 2 0 Zd rfl rfl rfl fA fA (hR m' uv D4 (.mk rh rp) (.inl rfl)) (fun r fX bX hΦ h1 h2=>?_);obtain ⟨rfl,rfl⟩:=hΦ;have h2:=List.eq_nil_of_length_eq_zero h2;subst h2;subst aO;exact ⟨Ft.d _,[bC ⟨ae,order,types,.mk rh rp⟩ (.pt lc 0) (.loc 1 0) (bU (.mk rh rp) m').2,HA ⟨ae,order,types,.mk rh rp⟩ aF lc],ax,fA,rfl,rfl⟩
def eK (s:Sch):Ft:=if 64 < s.types.length then (8,WM (uy s) 64) else enumL (uy s) 0 (uy s)
def Sp (s:Sch) (lc:List DV) (r:DV) (os:List (List DV)) (_:List TkE):Prop:=
 r=(eK s).d/\((eK s).1=0->∃ aF,ij (tL s) aF/\aF.length<=s.types.length/\os=[bC s (.pt lc 0) (.loc 1 0) 0,HA s aF lc])
abbrev Pj (s:Sch) (lc:List DV) (n e:Nat):St:=
 ⟨[aE 0 0,aE 2 2,(3,⟨[],.sl 1 (eV (aA ((uy s).take e))) (some 0)⟩),bh 27 11 (dNms s.types),ay 28 ((dNms s.types).length),ay 29 e],
  [bC s (.pt lc 0) (.loc 1 0) 0,[.pt lc 0,.v (.slice none 0 0),.v (.int .i64 0),.v (.pointer none),.v (.slice none 0 0)],[.v (.int .i64 0),.v (.int .i64 0)]],[⟨n,9,1,none⟩]⟩
theorem BQ (s:Sch) (lc:List DV) (hs:nmsWt s.types<=1099511627776) :
  Ev prog 46 [.loc 0 0] [bC s (.pt lc 0) (.loc 1 0) 0,[.pt lc 0,.v (.slice none 0 0),.v (.int .i64 0),.v (.pointer none),.v (.slice none 0 0)]] [] (Sp s lc):=by
 have hN:=dM s.types;have hZ:=jJ s.types;have gl:=J7 s;have hF:=eK.eq_1 s;have jC:∀ {e:Nat} {x:Wd × Ty},s.types[e]? = some x->(uy s)[e]? = some x.1:=fun h=>by simp [uy,h]
 have eB:=vQ (tL s) (by rw [ka];omega);have hTL:tL s=aA (uy s):=rfl
 have hw:∀ x∈s.types,x.1.s.size<=1099511627776:=fun x hx=>by
  have:=gI hx;simp only [Wd.wt] at this;omega
 obtain ⟨ae,order,types,⟨rh,rp⟩⟩:=s;simp only at hs hN hZ gl jC hw hF;generalize hQ:uy ⟨ae,order,types,.mk rh rp⟩=Q at gl hF jC hTL;refine eG 67 [.cell 2 44] func46 rfl ntmps46 rfl fun _ _ _ _=>?_;refine br ?_ ?_<;>intro h
 ·have h:64 < types.length:=by simp [hN] at h;omega
  obtain ⟨x,hx⟩:∃ x,types[64]? = some x:=⟨_,gE h⟩;have WR:=jC hx;rw [ap h,ky WR] at hF;obtain ⟨xw,⟨xh,xp⟩⟩:=x;refine iX (dNms_get hx) ?_;refine ⟨Ft.d (8,xw.a),[bC ⟨ae,order,types,.mk rh rp⟩ (.pt lc 0) (.loc 1 0) 0,[.pt lc 0,.v (.slice none 0 0),.v (.int .i64 0),.v (.pointer none),.v (.slice none 0 0)]],ax,fA,by rw [hF],fun h0=>by rw [hF] at h0;simp at h0⟩
 have h:¬ 64 < types.length:=by simp [hN] at h;omega
 rw [aj h] at hF;refine lI (fun j st=>∃ e:Nat,st=Pj ⟨ae,order,types,.mk rh rp⟩ lc e e/\e<=types.length/\(aA (Q.take e)).Nodup/\enumL Q 0 Q=enumL Q e (Q.drop e)/\j=types.length - e) ⟨0,rfl,by omega,by simp [aA],rfl,rfl⟩ (dx 3 ⟨0,9,1,none⟩ rfl rfl rfl pP rfl rfl kj) ?_;rintro j st ⟨e,rfl,he,hnd,aO,rfl⟩;rw [aO] at hF;refine br ?_ ?_<;>intro hL
 ·have au:e < types.length:=by have:=hL;simp [hN] at this;exact this
  obtain ⟨x,hx⟩:=gX au;have Gz:=hw x (mG hx);have hq:=jC hx;have ek:=jI hq;have aW:=pk hq;have uq:=mh hq hnd;have O1:=pa (aA (Q.take (e + 1))) (by simp [aA];omega);rw [<- ek] at O1;obtain ⟨xw,⟨xh,xp⟩⟩:=x;simp only at Gz hq ek aW uq O1;refine iX (dNms_get hx) ?_;rw [hQ];refine ⟨by simp [cg,aA];omega,⟨by simp [cg,aA,maxLen];omega,by simp [cg,aA];omega⟩,?_⟩;refine cP tf (gv xw.s (by omega)) ?_;refine br ?_ ?_<;>intro J8
  ·have J8:bd xw.s=false:=sU J8;have hf:aG Q e xw=9:=by simp [aG,J8]
   rw [aW,hf,ap (by decide)] at hF;refine ⟨Ft.d (9,xw.a),[bC ⟨ae,order,types,.mk rh rp⟩ (.pt lc 0) (.loc 1 0) 0,[.pt lc 0,.v (.slice none 0 0),.v (.int .i64 0),.v (.pointer none),.v (.slice none 0 0)]],ax,fA,by rw [hF],fun h0=>by rw [hF] at h0;simp at h0⟩
  ·have J8:bd xw.s=true:=sU J8;refine bS NI rfl O1 ax (fun r hr=>?_);obtain ⟨z,rfl,hz⟩:=hr;refine br ?_ ?_<;>intro h2
   ·have h2:0<=z:=sU h2;have hd:cH (Q.take e) xw.s=true:=by grind
    have hf:aG Q e xw=10:=by simp [aG,J8,hd]
    rw [aW,hf,ap (by decide)] at hF;refine ⟨Ft.d (10,xw.a),[bC ⟨ae,order,types,.mk rh rp⟩ (.pt lc 0) (.loc 1 0) 0,[.pt lc 0,.v (.slice none 0 0),.v (.int .i64 0),.v (.pointer none),.v (.slice none 0 0)]],ax,fA,by rw [hF],fun h0=>by rw [hF] at h0;simp at h0⟩
   ·have h2:¬ 0<=z:=sU h2;have yK:(aA (Q.take (e + 1))).Nodup:=Classical.byContradiction fun hn=>h2 (hz.2 hn);have hf:aG Q e xw=0:=by simp [aG,J8,uq.1 yK]
    rw [hf,aj (by simp)] at aW;have abf:eV (aA (Q.take e)) ++ [[DV.v (.string xw.s)]]=eV (aA ((uy ⟨ae,order,types,.mk rh rp⟩).take (e + 1))):=by rw [hQ];exact ek
    refine ⟨Pj ⟨ae,order,types,.mk rh rp⟩ lc (e + 1) (e + 1),(dj 3 (yy (aN au (by omega)) abf) (iT (aN au (by omega)) abf)),types.length - (e + 1),by omega,e + 1,rfl,by omega,yK,aO.trans aW,rfl⟩
 ·have hge:e=types.length:=sW hN hL;have h0:enumL Q e (Q.drop e)=(0,0):=by rw [hge,<- gl,List.drop_length];all_goals rfl
  rw [h0] at hF;have ht:Q.take e=Q:=by rw [hge,<- gl,List.take_length]
  have hEq:aA ((uy ⟨ae,order,types,.mk rh rp⟩).take e)=tL ⟨ae,order,types,.mk rh rp⟩:=by rw [hQ,ht,hTL]
  rw [<- hEq] at eB;refine dS ?_;refine qp NH rfl eB ax (fun yA hr=>?_);obtain ⟨aF,hT,kZ,rfl⟩:=hr;rw [hEq] at hT kZ;have hpt:DV.pt (cQ (aA ((uy ⟨ae,order,types,.mk rh rp⟩).take e)) aF) 0=DV.pt (cQ (tL ⟨ae,order,types,.mk rh rp⟩) aF) 0:=congrArg (fun L=>DV.pt (cQ L aF) 0) hEq;rw [ka] at kZ;exact ⟨Ft.d (0,0),[bC ⟨ae,order,types,.mk rh rp⟩ (.pt lc 0) (.loc 1 0) 0,HA ⟨ae,order,types,.mk rh rp⟩ aF lc],ax,(by repeat' (first | exact rfl | exact trivial | exact Or.inr (Or.inl ⟨_,rfl⟩) | exact Or.inr ⟨_,rfl⟩ | exact Or.inl ⟨rfl,rfl⟩ | exact Or.inl rfl | refine Or.inr ⟨_,_,rfl,Nat.zero_le _,rfl,?_⟩ | refine ⟨_,_,rfl,?_,?_⟩ | refine ⟨_,rfl,?_⟩ | exact ⟨nL rfl,rfl⟩ | exact Or.inl hpt | refine Or.inr (Or.inr (Or.inr ⟨_,_,rfl,?_⟩)) | exact Or.inl rfl | refine Or.inr ?_)),by rw [hF],fun _=>⟨aF,hT,kZ,rfl⟩⟩
def firstA (s:Sch) (k:Nat):Nat:=((s.types.take k).map fun x=>x.2.nn).sum
theorem nE {s:Sch} {k:Nat} {x:Wd × Ty} (h:s.types[k]? = some x):firstA s (k + 1)=firstA s k + x.2.nn:=by
 unfold firstA;rw [List.take_add_one,h];simp
theorem zX (s:Sch):∀ k,firstA s k<=nmsWt s.types:=by
 intro k;unfold firstA;generalize s.types=l
 induction l generalizing k with
 | nil=>simp
 | cons x r ih=>
  cases k with
  | zero=>simp
  | succ k=>
   have h1:=ih k;have h2:=x.2.gy;have h3:=x.2.eF
   grind [nmsWt]
def namedN (s:Sch) (i:Nat):Nat:=firstA s ((endI s (s.types.length + 1) i).getD 0)
def namedL (s:Sch):List Nat:=(List.range s.types.length).map (namedN s)
theorem abg (n:Nat):(List.replicate n (vL [Value.int .i64 0])).flatten=cZ (List.replicate n 0):=by
 induction n with
 | zero=>rfl
 | succ n ih=>simp only [List.replicate_succ,List.flatten_cons,ih];rfl
theorem uS {n m:Nat} {tk:List TkE} {l:List DV} {js:List Int} (h:l=cZ js):WeL n m tk l (cZ js):=by rw [h];exact rP js
abbrev WT (s:Sch) (lc pc:List DV) (m:Int) (l:List Int) (at' e:Nat):St:=
 ⟨[aE 0 0,(2,⟨[],.ms 2 1 0 (dNms s.types).length (dNms s.types).length⟩),ay 3 at',bh 18 11 (dNms s.types),ay 19 ((dNms s.types).length),ay 20 e],
  [bC s (.pt lc 0) (.loc 1 0) m,pc,cZ l],[]⟩
abbrev abh (s:Sch) (aF:List Nat) (lc:List DV) (m:Int) (l:List Int) (n e:Nat):St:=
 ⟨[aE 0 0,(2,⟨[],.ms 2 1 0 (dNms s.types).length (dNms s.types).length⟩),ay 40 ((dNms s.types).length),ay 41 e],
  [bC s (.pt lc 0) (.loc 1 0) m,pC s aF (.pt lc 0) (.v (.slice none 0 0)) (.v (.int .i64 0)) (.sl 1 (dInts ((namedL s).take e)) (some 0)),cZ l],[⟨n,3,1,none⟩]⟩
def Sq (s:Sch) (aF:List Nat) (lc:List DV) (m:Int) (_:DV) (os:List (List DV)) (_:List TkE):Prop:=
 os=[bC s (.pt lc 0) (.loc 1 0) m,pC s aF (.pt lc 0) (.v (.slice none 0 0)) (.v (.int .i64 0)) (.sl 1 (dInts (namedL s)) none)]
theorem WU {l:List Int} {i:Nat} {z:Int} (h:l[i]? = some z):(cZ l)[i]? = some (DV.v (.int .i64 z)):=by simp [cZ,h]
theorem EJ (s:Sch) (lc:List DV) (aF:List Nat) (m:Int) (hT:ij (tL s) aF) (kZ:aF.length<=1099511627776) (hl:s.types.length<=64) (hr:∀ x∈s.types,uz s x.2=true) (hs:nmsWt s.types<=1099511627776)
  (hlo:∀ i,i < s.types.length->∃ k,endI s (s.types.length + 1) i=some k) :
  Ev prog 51 [.loc 0 0] [bC s (.pt lc 0) (.loc 1 0) m,HA s aF lc] [] (Sq s aF lc m):=by
 have hN:=dM s.types
 have Wt:∀ x∈s.types,x.2.wt<=1099511627776:=fun x hx=>by
  have:=gI hx;omega
 have hfw:=zX s;have RC:=fun {k:Nat} {x:Wd × Ty}=>@nE s k x;have hZ:(namedL s).length=s.types.length:=by simp [namedL]
 have oF:=fun (e0:DV)=>EH s (.pt lc 0) aF (.pt lc 0) (.v (.slice none 0 0)) (.v (.int .i64 0)) e0 m hT kZ hl hr;obtain ⟨ae,order,types,⟨rh,rp⟩⟩:=s;simp only at hl hr hN hs Wt hfw RC hZ oF hlo;have hN2:(dNms (⟨ae,order,types,.mk rh rp⟩:Sch).types).length=types.length:=hN;refine eG 66 [] func51 rfl ntmps51 rfl fun _ _ _ _=>?_;refine ⟨⟨rfl,by omega,by omega,by omega⟩,?_⟩
 refine aV (fun j st=>∃ (e:Nat) (l:List Int),st=WT ⟨ae,order,types,.mk rh rp⟩ lc (HA ⟨ae,order,types,.mk rh rp⟩ aF lc) m l (firstA ⟨ae,order,types,.mk rh rp⟩ e) e/\e<=types.length/\l.length=types.length/\(∀ i:Nat,i < e->l[i]? = some (firstA ⟨ae,order,types,.mk rh rp⟩ i:Int))/\j=types.length - e) types.length
  (WT ⟨ae,order,types,.mk rh rp⟩ lc (HA ⟨ae,order,types,.mk rh rp⟩ aF lc) m (List.replicate ((dNms types).length:Int).toNat 0) (firstA ⟨ae,order,types,.mk rh rp⟩ 0) 0) (dj 3 (by repeat' (first | exact rfl | exact az rfl | exact uS (abg _) | refine ⟨_,_,rfl,?_,?_⟩)) (by repeat' (first | exact trivial | exact az rfl | exact uS (abg _) | refine ⟨⟨_,rfl,?_⟩,?_⟩))) ⟨0,_,rfl,by omega,by simp [hN],fun _ h=>by omega,by omega⟩ ?_
 rintro j st ⟨e,l,rfl,he,BR,UU,rfl⟩;refine br ?_ ?_<;>intro hL
 ·have au:e < types.length:=by have:=hL;simp [hN] at this;exact this
  obtain ⟨x,hx⟩:=gX au;have UW:=Wt x (mG hx);have mP:=RC hx;have JP:=hfw (e + 1);obtain ⟨xw,⟨xh,xp⟩⟩:=x;have hnd:=wM (Ty.mk xh xp).wt (.mk xh xp) (aQ _) UW;refine iX (dNms_get hx) ?_;refine ⟨⟨by omega,by omega⟩,?_⟩;refine ⟨by rw [WK];omega,?_⟩;refine cP T0 hnd ?_;simp only at mP JP;have iD:(cZ l).set (0 + (e:Int).toNat * 1) (DV.v (.int .i64 ((firstA ⟨ae,order,types,.mk rh rp⟩ e:Nat):Int)))=cZ (l.set e ((firstA ⟨ae,order,types,.mk rh rp⟩ e:Nat):Int)):=by grind [O5]
  have yB:IntKind.i64.wrap (((firstA ⟨ae,order,types,.mk rh rp⟩ e:Nat):Int) + (Ty.mk xh xp).nn)=((firstA ⟨ae,order,types,.mk rh rp⟩ (e + 1):Nat):Int):=by grind [wrap64]
  refine ⟨WT ⟨ae,order,types,.mk rh rp⟩ lc (HA ⟨ae,order,types,.mk rh rp⟩ aF lc) m (l.set e ((firstA ⟨ae,order,types,.mk rh rp⟩ e:Nat):Int)) (firstA ⟨ae,order,types,.mk rh rp⟩ (e + 1)) (e + 1),(dj 3 (by repeat' (first | exact rfl | exact az rfl | exact uS iD | exact aD yB | exact aD (aN au (by omega)) | refine ⟨_,_,rfl,?_,?_⟩)) (by repeat' (first | exact trivial | exact az rfl | exact uS iD | exact aD yB | exact aD (aN au (by omega)) | refine ⟨⟨_,rfl,?_⟩,?_⟩))),types.length - (e + 1),by omega,e + 1,_,rfl,by omega,by rw [List.length_set];exact BR,fun i hi=>?_,rfl⟩;by_cases MN:i=e
  ·grind
  ·grind
 ·have hge:e=types.length:=sW hN hL;subst hge;refine lJ (fun e=>abh ⟨ae,order,types,.mk rh rp⟩ aF lc m l e e) types.length (dx 3 ⟨0,3,1,none⟩ rfl rfl rfl pP rfl rfl kj) ?_;intro e he;refine br ?_ ?_<;>intro hL
  ·have au:e < types.length:=by have:=hL;simp [hN] at this;exact this
   obtain ⟨k,hk⟩:=hlo e au;have lG:=(qL hk).1;simp only at lG;have hE:=oF (.sl 1 (dInts ((namedL ⟨ae,order,types,.mk rh rp⟩).take e)) none) e au;rw [hk] at hE;have hnn:namedN ⟨ae,order,types,.mk rh rp⟩ e=firstA ⟨ae,order,types,.mk rh rp⟩ k:=by unfold namedN;rw [hk];all_goals rfl
   have jC:(namedL ⟨ae,order,types,.mk rh rp⟩)[e]? = some (firstA ⟨ae,order,types,.mk rh rp⟩ k):=by grind [namedL]
   have ek:dInts ((namedL ⟨ae,order,types,.mk rh rp⟩).take e) ++ [[DV.v (.int .i64 ((firstA ⟨ae,order,types,.mk rh rp⟩ k:Nat):Int))]]=dInts ((namedL ⟨ae,order,types,.mk rh rp⟩).take (e + 1)):=by
    rw [List.take_add_one,jC];simp [dInts]
   refine dS ?_;refine qG en117 hE ax rfl rfl ?_;refine ⟨⟨by simp only [oz];omega,by simp only [oz];omega⟩,?_⟩;have J9:(cZ l)[0 + (oz (some k)).toNat * 1]? = some (DV.v (.int .i64 ((firstA ⟨ae,order,types,.mk rh rp⟩ k:Nat):Int))):=by grind [oz,WU]
   refine ⟨_,J9,?_⟩;refine ⟨by simp [bz];omega,⟨by simp [bz,maxLen];omega,by simp [bz];omega⟩,?_⟩;exact rE ⟨_,by omega,e + 1,rfl,by omega,rfl⟩ (dj 3 (yy (aN au (by omega)) ek) (iT (aN au (by omega)) ek))
  ·have hge:e=types.length:=sW hN hL;subst hge;have ht:(namedL ⟨ae,order,types,.mk rh rp⟩).take types.length=namedL ⟨ae,order,types,.mk rh rp⟩:=by rw [<- hZ,List.take_length]
   rw [ht];exact ⟨.tup [],[bC ⟨ae,order,types,.mk rh rp⟩ (.pt lc 0) (.loc 1 0) m,pC ⟨ae,order,types,.mk rh rp⟩ aF (.pt lc 0) (.v (.slice none 0 0)) (.v (.int .i64 0)) (.sl 1 (dInts (namedL ⟨ae,order,types,.mk rh rp⟩)) none)],ax,fA,rfl⟩
structure Ed where
 name:ByteArray
 bare:Bool
 at':Int
 to:Int
 label:Int
 wide:Int
 ck:Int
 cn:Int
 seen:Int
 ca:Int
structure Nd where
 ag:Int
 at':Int
 lo:Int
 hi:Int
 most:Int
 af:List ByteArray
 aw:List Ed
def nF (e:Ed):List DV:=[.v (.string e.name),.v (.bool e.bare),.v (.int .i64 e.at'),.v (.int .i64 e.to),.v (.int .i64 e.label),.v (.int .i64 e.wide),.v (.int .i64 e.ck),.v (.int .i64 e.cn),.v (.int .i64 e.seen),.v (.int .i64 e.ca)]
def fN (l:List Ed):List (List DV):=l.map nF
def kO (n:Nd):List DV:=[.v (.int .i64 n.ag),.v (.int .i64 n.at'),.v (.int .i64 n.lo),.v (.int .i64 n.hi),.v (.int .i64 n.most),.sl 1 (eV n.af) none,.sl 10 (fN n.aw) none]
def dq (l:List Nd):List (List DV):=l.map kO
def lk (w:Int):Int:=if w=0 then 3 else w
def wP (lev:List Wd->Int) (p:Ph) (to:Int):Ed:=⟨p.name.s,p.bare,p.name.a,to,lev p.label,lk p.wide,p.ck,p.cn,lev p.cl,p.ca⟩
def WV (s:Sch) (name:ByteArray):Int:=(namedN s ((cV (tL s) name).getD 0):Int)
def nG (s:Sch) (t:Ty) (k:Nat):Int:=if t.h.ag=9 then WV s t.h.name.s else (k:Int)
def uT (s:Sch) (p:Ph) (u:Ty) (k:Nat):Int:=if p.bare then -1 else nG s u k
mutual
def ndsT (lev:List Wd->Int) (s:Sch):Ty->Nat->List Nd
 | .mk h ps,k=>if h.ag=9 then [] else ⟨h.ag,h.at',h.lo,h.hi,h.most,aA h.af,edsP lev s ps (k + 1)⟩ :: wQ lev s ps (k + 1)
def edsP (lev:List Wd->Int) (s:Sch):Pts->Nat->List Ed
 | .nil,_=>[]
 | .cons p u r,k=>wP lev p (uT s p u k) :: edsP lev s r (k + if p.bare then 0 else u.nn)
def wQ (lev:List Wd->Int) (s:Sch):Pts->Nat->List Nd
 | .nil,_=>[]
 | .cons p u r,k=>(if p.bare then [] else ndsT lev s u k) ++ wQ lev s r (k + if p.bare then 0 else u.nn)
end
mutual
theorem kb (lev:List Wd->Int) (s:Sch):∀ (t:Ty) (k:Nat),(ndsT lev s t k).length=t.nn
 | .mk h ps,k=>by
  simp only [ndsT,Ty.nn];split
  ·rfl
  ·rw [List.length_cons,wR lev s ps];omega
theorem wR (lev:List Wd->Int) (s:Sch):∀ (ps:Pts) (k:Nat),(wQ lev s ps k).length=ps.nn
 | .nil,k=>rfl
 | .cons p u r,k=>by
  simp only [wQ,Pts.nn,List.length_append,wR lev s r];split
  ·rfl
  ·rw [kb lev s u]
end
abbrev MT (s:Sch) (aF:List Nat) (lc:List DV) (n:Nat):List DV:=pC s aF (.pt lc 0) (.sl 0 (List.replicate n []) (some 0)) (.v (.int .i64 0)) (.sl 1 (dInts (namedL s)) none)
abbrev HC (n:Nat) (base:List DV):TkE:=⟨n,91,7,some base⟩
def UX (s:Sch) (aF:List Nat) (lc:List DV) (m:Int) (n:Nat) (base:List DV) (y:DV) (BS:List Nd) (r:DV) (os:List (List DV)) (tk:List TkE):Prop:=
 r=y/\os=[bC s (.pt lc 0) (.loc 1 0) m,MT s aF lc (n + BS.length)]/\tk=[HC (n + BS.length) (base ++ (dq BS).flatten)]
def Pk (lev:List Wd->Int) (s:Sch) (aF:List Nat) (lc:List DV) (m:Int) (t:Ty):Prop:=
 ∀ (n:Nat) (base:List DV),n + t.nn<=1099511627776->base.length=n * 7 ->
  Ev prog 52 [.loc 0 0,.agg (dX t)] [bC s (.pt lc 0) (.loc 1 0) m,MT s aF lc n] [HC n base] (UX s aF lc m n base (.v (.int .i64 (nG s t n))) (ndsT lev s t n))
theorem LA {X:Lx} (hX:X.OK) (s:Sch) (aF:List Nat) (m:Int) (p:Ph) (u:Ty) (hp:p.wt<=1099511627776) (dE:p.bare=false->Pk X.lev s aF (im X.af (cQ X.af X.aF) X.rows X.js) m u)
  (n:Nat) (base:List DV) (hb:p.bare=false->n + u.nn<=1099511627776) (hbl:base.length=n * 7) :
  Ev prog 119 [.loc 0 0,.agg (GX p (dX u))] [bC s (.pt (im X.af (cQ X.af X.aF) X.rows X.js) 0) (.loc 1 0) m,MT s aF (im X.af (cQ X.af X.aF) X.rows X.js) n] [HC n base]
   (UX s aF (im X.af (cQ X.af X.aF) X.rows X.js) m n base (.agg (nF (wP X.lev p (uT s p u n)))) (if p.bare then [] else ndsT X.lev s u n)):=by
 have hw1:wdsWt p.label + wdsWt p.cl<=p.wt:=by simp only [Ph.wt];omega
 have Jh:X.pd = .pt (im X.af (cQ X.af X.aF) X.rows X.js) 0:=rfl;have Dp:=fun pc=>wN hX s pc m p.label (by omega);have UY:=fun pc=>wN hX s pc m p.cl (by omega);rw [Jh] at Dp UY;have hE:=fun to=>wP.eq_1 X.lev p to;have qM:=uT.eq_1 s p u n;generalize im X.af (cQ X.af X.aF) X.rows X.js=lc at Dp UY dE ⊢;obtain ⟨ae,order,types,⟨rh,rp⟩⟩:=s;obtain ⟨uh,us⟩:=u;refine eG 52 [.cell 4 193] func119 rfl ntmps119 rfl fun _ _ _ _=>?_;have UZ:=Dp [.pt lc 0,.sl 0 (List.replicate n []) none,.v (.int .i64 0),.pt (cQ (tL ⟨ae,order,types,.mk rh rp⟩) aF) 0,.sl 1 (dInts (namedL ⟨ae,order,types,.mk rh rp⟩)) none];have U0:=UY [.pt lc 0,.sl 0 (List.replicate n []) none,.v (.int .i64 0),.pt (cQ (tL ⟨ae,order,types,.mk rh rp⟩) aF) 0,.sl 1 (dInts (namedL ⟨ae,order,types,.mk rh rp⟩)) none];apply n8 (fun _=>false) 11 15 [0,1,2,3,4,5,6,7,8,9,10,11,12,13,14,15,16] [0,1,2,3,4,5,6,7,8,9,10,15,11,12,13,14,16] 4 4 mo (by decide +kernel)
 ·refine qG JE UZ ax rfl rfl ?_;refine (?_:@Eq St _ _);exact rfl
 ·refine qG JE UZ ax rfl rfl ?_;refine (⟨rfl,rfl,?_⟩:_/\_/\_)
  repeat' (first | exact trivial | refine ⟨rfl,?_⟩)
 ·rfl
 refine br ?_ ?_<;>intro hw
 ·have hw:p.wide=0:=sU hw;refine uK [4] (fun _=>false) mo (by decide +kernel) ?_;refine qG JE U0 ax rfl rfl ?_;refine br ?_ ?_<;>intro hB
  ·have hB:p.bare=false:=sU hB;refine gY 2 1 RV rfl rfl rfl fA fA (dE hB n base (hb hB) hbl) (fun r fX bX hΦ h1 h2=>?_);obtain ⟨rfl,rfl,rfl⟩:=hΦ;refine ⟨.agg (nF ⟨p.name.s,p.bare,p.name.a,nG ⟨ae,order,types,.mk rh rp⟩ (.mk uh us) n,X.lev p.label,3,p.ck,p.cn,X.lev p.cl,p.ca⟩),[bC ⟨ae,order,types,.mk rh rp⟩ (.pt lc 0) (.loc 1 0) m,MT ⟨ae,order,types,.mk rh rp⟩ aF lc (n + (ndsT X.lev ⟨ae,order,types,.mk rh rp⟩ (.mk uh us) n).length)],ax,fA,?_,?_,?_⟩
   ·simp [hE,uT,hB,lk,hw]
   ·simp [hB]
   ·simp [hB]
  ·have hB:p.bare=true:=sU hB;refine ⟨.agg (nF ⟨p.name.s,p.bare,p.name.a,-1,X.lev p.label,3,p.ck,p.cn,X.lev p.cl,p.ca⟩),[bC ⟨ae,order,types,.mk rh rp⟩ (.pt lc 0) (.loc 1 0) m,MT ⟨ae,order,types,.mk rh rp⟩ aF lc n],ax,fA,?_,?_,?_⟩
   ·simp [hE,uT,hB,lk,hw]
   ·simp [hB]
   ·simp [hB,dq]
 ·have hw:¬ p.wide=0:=sU hw;refine uK [4] (fun _=>false) mo (by decide +kernel) ?_;refine qG JE U0 ax rfl rfl ?_;refine br ?_ ?_<;>intro hB
  ·have hB:p.bare=false:=sU hB;refine gY 2 1 RV rfl rfl rfl fA fA (dE hB n base (hb hB) hbl) (fun r fX bX hΦ h1 h2=>?_);obtain ⟨rfl,rfl,rfl⟩:=hΦ;refine ⟨.agg (nF ⟨p.name.s,p.bare,p.name.a,nG ⟨ae,order,types,.mk rh rp⟩ (.mk uh us) n,X.lev p.label,p.wide,p.ck,p.cn,X.lev p.cl,p.ca⟩),[bC ⟨ae,order,types,.mk rh rp⟩ (.pt lc 0) (.loc 1 0) m,MT ⟨ae,order,types,.mk rh rp⟩ aF lc (n + (ndsT X.lev ⟨ae,order,types,.mk rh rp⟩ (.mk uh us) n).length)],ax,fA,?_,?_,?_⟩
   ·simp [hE,uT,hB,lk,hw]
   ·simp [hB]
   ·simp [hB]
  ·have hB:p.bare=true:=sU hB;refine ⟨.agg (nF ⟨p.name.s,p.bare,p.name.a,-1,X.lev p.label,p.wide,p.ck,p.cn,X.lev p.cl,p.ca⟩),[bC ⟨ae,order,types,.mk rh rp⟩ (.pt lc 0) (.loc 1 0) m,MT ⟨ae,order,types,.mk rh rp⟩ aF lc n],ax,fA,?_,?_,?_⟩
   ·simp [hE,uT,hB,lk,hw]
   ·simp [hB]
   ·simp [hB,dq]
def nd0 (h:Hd):List DV:=[.v (.int .i64 h.ag),.v (.int .i64 h.at'),.v (.int .i64 h.lo),.v (.int .i64 h.hi),.v (.int .i64 h.most),.sl 1 (eV (aA h.af)) none,.v (.slice none 0 0)]
theorem Sr {h:Hd} {base R:List DV} {n:Nat} {x:DV} (hb:base.length=n * 7):(base ++ (nd0 h ++ R)).set (n * 7 + 6) x=base ++ ([.v (.int .i64 h.ag),.v (.int .i64 h.at'),.v (.int .i64 h.lo),.v (.int .i64 h.hi),.v (.int .i64 h.most),.sl 1 (eV (aA h.af)) none,x] ++ R):=by
 rw [List.set_append_right _ _ (by omega),hb,Nat.add_sub_cancel_left];rfl
theorem zY (l:List Ed) (e:Ed):fN l ++ [nF e]=fN (l ++ [e]):=by simp [fN]
theorem cF (l:List Ed):(fN l).length=l.length:=by simp [fN]
theorem qN (lev:List Wd->Int) (s:Sch):∀ (ps:Pts) (k:Nat),(edsP lev s ps k).length=ps.len
 | .nil,_=>rfl
 | .cons p u r,k=>by simp [edsP,Pts.len,qN lev s r]
abbrev abk (s:Sch) (aF:List Nat) (lc:List DV) (m:Int) (n:Nat) (base:List DV) (h:Hd) (ps:Pts) (q e:Nat):St:=
 ⟨[aE 0 0,aE 3 2,ay 7 n,aE 8 3,bh 61 2 (bG h.af),ay 62 ((bG h.af).length),ay 63 e],
  [bC s (.pt lc 0) (.loc 1 0) m,MT s aF lc n,dX (.mk h ps),[.v (.int .i64 h.ag),.v (.int .i64 h.at'),.v (.int .i64 h.lo),.v (.int .i64 h.hi),.v (.int .i64 h.most),.sl 1 (eV (aA (h.af.take e))) (some 1),.v (.slice none 0 0)]],
  [HC n base,⟨q,9,1,none⟩]⟩
abbrev Pl (s:Sch) (aF:List Nat) (lc:List DV) (m:Int) (n:Nat) (h:Hd) (ps:Pts) (n':Nat) (qO:List DV) (Es:List Ed) (q1 q2 e:Nat):St:=
 ⟨[aE 0 0,aE 3 2,ay 7 n,(11,⟨[],.sl 10 (fN Es) (some 2)⟩),bh 92 18 (fL ps),ay 93 ((fL ps).length),ay 94 e],
  [bC s (.pt lc 0) (.loc 1 0) m,MT s aF lc n',dX (.mk h ps)],
  [HC n' qO,⟨q1,9,1,none⟩,⟨q2,193,10,none⟩]⟩
theorem mn {X:Lx} {L:List ByteArray} {h:Hd} {ps:Pts} (hk:(knT X L (.mk h ps)).1=0):(h.ag=9->cV L h.name.s≠none)/\(knP X L ps).1=0:=by grind [knT]
theorem sq {X:Lx} {L:List ByteArray} {p:Ph} {u:Ty} {r:Pts} (hk:(knP X L (.cons p u r)).1=0):(p.bare=false->(knT X L u).1=0)/\(knP X L r).1=0:=by grind [knP]
theorem zZ {X:Lx} (hX:X.OK) (s:Sch) (aF:List Nat) (m:Int) (hT:ij (tL s) aF) (kZ:aF.length<=1099511627776):∀ (k:Nat) (t:Ty),t.wt<=k->t.wt<=1099511627776->(knT X (tL s) t).1=0 ->
  Pk X.lev s aF (im X.af (cQ X.af X.aF) X.rows X.js) m t
 | 0,t,hn,_,_=>by have:=t.dy;omega
 | k + 1,.mk h ps,hn,cw,Nl=>by
  have ih:=zZ hX s aF m hT kZ k;intro n base hnb hbl;obtain ⟨hk9,WW⟩:=mn Nl;have kz:=fun (p:Ph) (u:Ty)=>LA hX s aF m p u;generalize im X.af (cQ X.af X.aF) X.rows X.js=lc at ih kz ⊢;simp only [Ty.wt,Hd.wt] at hn cw;have gn:=ps.fK;have hZ:=bu h.af;have hf:=iL (tL s) aF h.name.s hT kZ;have gl:=ka s;have hnmL:(namedL s).length=s.types.length:=by simp [namedL]
  have Ss:nG s (.mk h ps) n=if h.ag=9 then WV s h.name.s else (n:Int):=rfl
  have LB:ndsT X.lev s (.mk h ps) n=if h.ag=9 then [] else ⟨h.ag,h.at',h.lo,h.hi,h.most,aA h.af,edsP X.lev s ps (n + 1)⟩ :: wQ X.lev s ps (n + 1):=by rw [ndsT]
  have hnn:(Ty.mk h ps).nn=if h.ag=9 then 0 else 1 + ps.nn:=by rw [Ty.nn]
  generalize hS:s=S at *;subst hS;obtain ⟨ae,order,types,⟨rh,rp⟩⟩:=s;refine eG 117 [.tmp 4] func52 rfl ntmps52 rfl fun _ _ _ _=>?_;refine br ?_ ?_<;>intro h9
  ·have h9:h.ag=9:=sU h9;obtain ⟨i,hi⟩:=Option.ne_none_iff_exists'.1 (hk9 h9);have MP:=(dh hi).1;rw [hi] at hf;rw [ap h9] at Ss LB;have jC:(namedL ⟨ae,order,types,.mk rh rp⟩)[i]? = some (namedN ⟨ae,order,types,.mk rh rp⟩ i):=by grind [namedL]
   refine dI ?_;refine cD ni hf ?_;refine iX (ef jC) ?_;refine ⟨.v (.int .i64 (namedN ⟨ae,order,types,.mk rh rp⟩ i:Nat)),[bC ⟨ae,order,types,.mk rh rp⟩ (.pt lc 0) (.loc 1 0) m,MT ⟨ae,order,types,.mk rh rp⟩ aF lc n],ax,fA,?_,?_,?_⟩
   ·rw [Ss,WV,hi];rfl
   ·rw [LB];rfl
   ·rw [LB];simp [dq]
  have h9:¬ h.ag=9:=sU h9;rw [aj h9] at Ss LB hnn;have eM:(List.replicate n ([]:List DV)).length=n:=List.length_replicate;refine lJ (fun e=>abk ⟨ae,order,types,.mk rh rp⟩ aF lc m n base h ps e e) h.af.length (dx 4 ⟨0,9,1,none⟩ rfl rfl rfl (kH eM) rfl rfl (cY eM)) ?_;intro e he;refine br ?_ ?_<;>intro hL
  ·have au:e < h.af.length:=by simpa [aC] using hL
   obtain ⟨w,hw⟩:=gX au;have ek:=jI hw;refine ⟨j2 w,⟨by omega,aT hw⟩,?_⟩;refine ⟨by simp [cg,aA];omega,⟨by simp [cg,aA,maxLen];omega,by simp [cg,aA];omega⟩,?_⟩;exact rE ⟨_,by omega,e + 1,rfl,by omega,rfl⟩ (dj 4 (yy (aN au (by omega)) ek) (iT (aN au (by omega)) ek))
  have hge:e=h.af.length:=by have:=hL;simp [aC] at this;omega
  subst hge;rw [List.take_length];refine dS ?_;refine ⟨⟨⟨eM,by simp⟩,by simp [maxLen];omega,by simp;omega⟩,?_⟩
  refine aV (fun j st=>∃ (e n':Nat) (qO:List DV) (Es:List Ed) (K:List Nd),st=Pl ⟨ae,order,types,.mk rh rp⟩ aF lc m n h ps n' qO Es h.af.length e e/\e<=ps.len/\n'=n + 1 + K.length/\qO=base ++ (nd0 h ++ (dq K).flatten)/\Es.length=e /\
    K ++ wQ X.lev ⟨ae,order,types,.mk rh rp⟩ (ps.drop e) (n + 1 + K.length)=wQ X.lev ⟨ae,order,types,.mk rh rp⟩ ps (n + 1)/\Es ++ edsP X.lev ⟨ae,order,types,.mk rh rp⟩ (ps.drop e) (n + 1 + K.length)=edsP X.lev ⟨ae,order,types,.mk rh rp⟩ ps (n + 1)/\K.length + (ps.drop e).nn=ps.nn/\(knP X (tL ⟨ae,order,types,.mk rh rp⟩) (ps.drop e)).1=0/\j=ps.len - e) ps.len
   (Pl ⟨ae,order,types,.mk rh rp⟩ aF lc m n h ps (n + 1) (base ++ (nd0 h ++ [])) [] h.af.length 0 0) (dx 3 ⟨0,193,10,none⟩ rfl rfl rfl pP rfl rfl kj) ⟨0,n + 1,_,[],[],rfl,by omega,rfl,rfl,rfl,rfl,rfl,by simp [Pts.drop],WW,by omega⟩ ?_
  rintro j st ⟨e,n',qO,Es,K,rfl,he,TO,eo,X1,hK,Ye,hKn,MS,rfl⟩
  have hbl':qO.length=n' * 7:=by
   have:∀ l:List Nd,(dq l).flatten.length=l.length * 7:=by
    intro l
    induction l with
    | nil=>rfl
    | cons a r ih=>simp only [dq,List.map_cons,List.flatten_cons,List.length_append,List.length_cons] at ih ⊢;rw [ih];simp only [kO,List.length_cons,List.length_nil];omega
   rw [eo,List.length_append,List.length_append,this,hbl,TO];simp only [nd0,List.length_cons,List.length_nil];omega
  refine br ?_ ?_<;>intro hL
  ·have au:e < ps.len:=by simpa [aH] using hL
   obtain ⟨p,u,hx⟩:=Pts.eE au;have D0:=Pts.gq (mG hx);rw [Pts.drop_cons hx] at hK Ye hKn MS;obtain ⟨pQ,Nv⟩:=sq MS;simp only [wQ] at hK;simp only [edsP] at Ye;simp only [Pts.nn] at hKn;rw [<- TO] at hK Ye;have Rg:=u.gy;have huc:=u.eF;have dG:=kz p u (by omega) (fun hB=>ih u (by omega) (by omega) (pQ hB)) n' qO (fun hB=>by rw [hB] at hKn;simp only [Bool.false_eq_true,if_false] at hKn;omega) hbl';have abl:=kb X.lev ⟨ae,order,types,.mk rh rp⟩ u n';obtain ⟨uh,us⟩:=u;refine iX (bQ hx) ?_;refine gY 2 1 Zu rfl rfl rfl fA fA dG (fun r fX bX hΦ h1 h2=>?_);obtain ⟨rfl,rfl,rfl⟩:=hΦ;refine ⟨by rw [cF,X1],⟨by simp [cF,X1,maxLen];omega,by simp [cF,X1];omega⟩,?_⟩
   have hnl2:(if p.bare then [] else ndsT X.lev ⟨ae,order,types,.mk rh rp⟩ (.mk uh us) n').length=if p.bare then 0 else (Ty.mk uh us).nn:=by
    split
    ·rfl
    ·exact abl
   have hidx2:n + 1 + (K.length + (if p.bare then 0 else (Ty.mk uh us).nn))=n' + if p.bare then 0 else (Ty.mk uh us).nn:=by rw [TO];omega
   refine ⟨Pl ⟨ae,order,types,.mk rh rp⟩ aF lc m n h ps (n' + (if p.bare then [] else ndsT X.lev ⟨ae,order,types,.mk rh rp⟩ (.mk uh us) n').length) (qO ++ (dq (if p.bare then [] else ndsT X.lev ⟨ae,order,types,.mk rh rp⟩ (.mk uh us) n')).flatten) (Es ++ [wP X.lev p (uT ⟨ae,order,types,.mk rh rp⟩ p (.mk uh us) n')]) h.af.length (e + 1) (e + 1),(dj 3 (by repeat' (first | exact rfl | exact az rfl | exact aD (aN au (by omega)) | exact cy (zY _ _) rfl | refine ⟨_,_,rfl,?_,?_⟩)) (by repeat' (first | exact trivial | exact az rfl | exact aD (aN au (by omega)) | exact cy (zY _ _) rfl | refine ⟨⟨_,rfl,?_⟩,?_⟩))),
    ps.len - (e + 1),by omega,e + 1,_,_,_,K ++ (if p.bare then [] else ndsT X.lev ⟨ae,order,types,.mk rh rp⟩ (.mk uh us) n'),rfl,by omega,?_,?_,?_,?_,?_,?_,Nv,rfl⟩
   ·rw [List.length_append,TO];omega
   ·rw [eo];simp [dq]
   ·simp [X1]
   ·simp_all
   ·simp_all
   ·rw [List.length_append,hnl2];omega
  ·have hge:e=ps.len:=by have:=hL;simp [aH] at this;omega
   subst hge;rw [Pts.dn] at hK Ye;simp only [wQ,List.append_nil] at hK;simp only [edsP,List.append_nil] at Ye;have hKl:K.length=ps.nn:=by rw [hK,wR]
   have LD:(List.replicate n' ([]:List DV)).length=n':=List.length_replicate;refine Ls (kt:=0) ⟨rfl,rfl⟩ ⟨rfl,rfl,rfl⟩ ⟨rfl,rfl,rfl⟩ rfl rfl rfl rfl rfl rfl rfl rfl rfl rfl rfl LD ⟨by omega,by omega⟩ (by decide) ?_;have abm:n + (ndsT X.lev ⟨ae,order,types,.mk rh rp⟩ (.mk h ps) n).length=n':=by rw [LB,List.length_cons,<- hK,TO];omega
   have oY:qO.set ((n:Int).toNat * 7 + 6) (.sl 10 (fN Es) none)=base ++ (dq (ndsT X.lev ⟨ae,order,types,.mk rh rp⟩ (.mk h ps) n)).flatten:=by
    rw [eo,show (n:Int).toNat=n by omega,Sr hbl,LB,Ye,hK];rfl
   refine ⟨.v (.int .i64 n),[bC ⟨ae,order,types,.mk rh rp⟩ (.pt lc 0) (.loc 1 0) m,MT ⟨ae,order,types,.mk rh rp⟩ aF lc n'],ax,fA,?_,?_,?_⟩
   ·rw [Ss]
   ·rw [abm]
   ·rw [abm,<- oY];rfl
end Go.Proofs.YtgjagnmeonoehaaGreat
namespace Go.Proofs.YtgjagnmeonoehaaGreat
namespace Dv
open Go Go.RowKit
section
variable {X:Ctx} {st:St} {k:List It} {E:En} {a:Act} {w:World} {ops:Array Oper} {W:Nat->Bool} {C:World->Prop} {Q:Act->World->Prop} {i:Nat} {r:List Nat} {o:Oper}
theorem dO (hg:o.guard=none):Region.wanted o (yielded ops a.tmps)=true:=by
 unfold Region.wanted;rw [hg]
theorem Su {bx:List (List DV)} {wr:World} (h:Rel X E st a w) (hE:vz E bx wr) (hC:∀ w',C w' -> CC E bx wr w'):Rl E bx C st.sl a where
 tm:=h.tm
 bxs:=fun i cs hi=>by
  by_cases bf:cs=[]
  ·subst bf;have au:i < E.β.length:=by rw [hE.len];exact (gS hi).1
   exact ⟨_,[],gE au,⟨cA _,by simp⟩,fun w' _ j u hj=>by simp at hj⟩
  ·obtain ⟨b,ty,arr,hb,hw,hc⟩:=hE.bxs i cs hi bf;exact ⟨b,arr,hb,hc,fun w' h' j u hj=>by rw [cm (((hC w' h').o i b cs hb hi bf).trans hw)];simpa using hj⟩
 cc:=fun x v hx w' h'=>(hC w' h').c x v hx
theorem Sv {bx:List (List DV)} (h:Env E bx w) (m:List Nat):vz E (maskL m 0 bx) w:=⟨by rw [rQ];exact h.len,fun i cs hi bf=>by
 rcases rR m _ _ _ _ hi with h1 | h1
 ·exact (bf h1).elim
 ·exact h.bxs i cs h1⟩
theorem eL (hR:Rel X E st a w) (ho:ops[i]? = some o) (hE:isE o.op=false) (hL:qa o.op=false) (hg:o.guard=none) {s:DV} (hs:pureT X.P X.T ⟨st.sl,[],[]⟩ [] o.op=some s) (hd:ez X.nt st.sl o.dst=true)
  (hk:∀ a',Rel X E (st.put o.dst ⟨[],s⟩) a' w->runT X.P ops W C Q r a' w):runT X.P ops W C Q (i :: r) a w:=by
 have eM:Rl E [] (fun _=>False) st.sl a:=⟨hR.tm,fun i cs hi=>by simp at hi,fun _ _ _ _ h=>h.elim⟩;obtain ⟨v,hv,cd⟩:=iC (st:=⟨st.sl,[],[]⟩) X.hT eM (bg _) hs;simp only [runT,ho,hE,Bool.false_eq_true,if_false];exact ⟨v,.inl ⟨dO hg,fun w' _=>cd w' fun h=>by rw [hL] at h;cases h⟩,fun h=>(by rw [hL] at h;cases h),hk _ (aX hR hd s v hv)⟩
theorem Sw (hR:Rel X E st a w) (ho:ops[i]? = some o) {bx:List (List DV)} (eM:Rl E bx C st.sl a) (V3:C w) (hE:isE o.op=false) (hg:o.guard=none) {s:DV} (hs:pureT X.P X.T ⟨st.sl,bx,[]⟩ [] o.op=some s) (hd:ez X.nt st.sl o.dst=true)
  (hk:∀ a',Rel X E (st.put o.dst ⟨[],s⟩) a' w->runT X.P ops W C Q r a' w):runT X.P ops W C Q (i :: r) a w:=by
 obtain ⟨v,hv,cd⟩:=iC (st:=⟨st.sl,bx,[]⟩) X.hT eM (bg _) hs;simp only [runT,ho,hE,Bool.false_eq_true,if_false];exact ⟨v,.inl ⟨dO hg,fun w' h=>cd w' h⟩,fun _=>V3,hk _ (aX hR hd s v hv)⟩
theorem Sx (hR:Rel X E st a w) (ho:ops[i]? = some o) {t x d:Nat} {b p j:Nat} {n:Nat} {kd:TK} {z:List Value} (hb:E.β[j]? = some b) (oK:o.op = .load t (.tmp x)) (jm:o.dst=some d) {i2 HE b2:Nat} (gF:E.β[i2]? = some b2) (hx:rv st [] (.tmp x)=some (.loc i2 p)) (hT:X.T.find t=some ⟨n,false,kd,z⟩)
  (hC:∀ w',C w' -> w'.cell? ⟨b2,p,none⟩=some (.pointer (some ⟨b,HE,none⟩))) (V3:C w) (hg:o.guard=none) (hd:ez X.nt st.sl (some d)=true)
  (hk:∀ a',Rel X E ⟨(d,⟨[],.loc j HE⟩) :: st.sl,st.bx,st.tk⟩ a' w->runT X.P ops W C Q r a' w):runT X.P ops W C Q (i :: r) a w:=by
 have hE:isE o.op=false:=by rw [oK];all_goals rfl
 simp only [runT,ho,hE,Bool.false_eq_true,if_false];have hv:Rv E (.loc j HE) (.pointer (some ⟨b,HE,none⟩)):=by unfold Rv;exact ⟨b,hb,rfl⟩
 refine ⟨.pointer (some ⟨b,HE,none⟩),.inl ⟨dO hg,fun w' h=>?_⟩,fun _=>V3,?_⟩
 ·have hC':=hC w' (h (by rw [oK];rfl));have e1:=aR hR.rl hx;unfold Rv at e1;obtain ⟨b3,MI,e1⟩:=e1;rw [gF] at MI;simp only [oI] at MI;subst MI;have M6:=(te_parts X.hT hT).2.1
  have hl:(loadVar t ⟨b2,p,none⟩).run X.P w' = .ok (.pointer (some ⟨b,HE,none⟩)) w':=by
   simp [loadVar,jQ M6,hC']
  simp only [execOp,oK,e1,Sem.run_bind,Instr.loadAt,Instr.sureAddr,Sem.run_pure,Result.andThen_ok,hl]
 ·rw [jm];exact hk _ (aX hR hd (.loc j HE) _ hv)
theorem LF (hR:Rel X E st a w) (ho:ops[i]? = some o) {dst:Option Nat} {f:Operand} {args:Array Operand} {tys:Array TypeId} (oK:o.op = .call ⟨.value f,args,tys⟩) (jm:o.dst=dst) (hg:o.guard=none) {g:FuncId} {ds:List DV} (hf:rv st [] f=some (.fn g [] [])) (hl:argsV st [] args.toList=some ds) (ki:Enters X.P g)
  {K:Value->World->Prop} (hc:∀ vs,RvL E ds vs->Calls X.P g vs.toArray w fun e w'=>∃ v,e = .returned v/\K v w') (hk:∀ v w',K v w' -> (W i=false->C w->C w')/\runT X.P ops W C Q r (a.put dst v) w'):runT X.P ops W C Q (i :: r) a w:=by
 have hE:isE o.op=true:=by rw [oK];all_goals rfl
 have Yf:=dO (ops:=ops) (a:=a) hg;have eM:=hR.rl;have e1:=aR eM hf;unfold Rv at e1;obtain ⟨l1,r1,e1,Dp,hr1⟩:=e1;simp only [RvL] at Dp hr1;subst Dp hr1;have hargs:=iB eM (bg _) _ _ hl;simp only [runT,ho,hE,if_true,eP,Yf];subst jm;obtain ⟨dst,op,ty,pos,after,gu⟩:=o;simp only at oK;subst oK
 have hr:(execOp a.eval ⟨dst,.call ⟨.value f,args,tys⟩,ty,pos,after,gu⟩).run X.P w = .ok (.enter g (args.toList.map a.eval).toArray) w:=by
  have e3:(([]:List Value).toArray ++ args.map a.eval ++ ([]:List Value).toArray)=(args.toList.map a.eval).toArray:=by apply Array.ext';simp
  simp only [execOp,resolve,e1,Deferred.ofValue,Sem.run_bind,Sem.run_pure,Result.andThen_ok,invoke,e3];exact ki _ _
 unfold wq;rw [hr];refine (hc _ hargs).mono ?_;rintro e w' ⟨v,rfl,hK⟩;exact ⟨v,rfl,hk v w' hK⟩
theorem Sy (hR:Rel X E st a w) (ho:ops[i]? = some o) {dst:Option Nat} {f:Operand} {args:Array Operand} {tys:Array TypeId} (oK:o.op = .call ⟨.value f,args,tys⟩) (jm:o.dst=dst) (hg:o.guard=none) {g:FuncId} {ds Wn:List DV} (hf:rv st [] f=some (.fn g [] [])) (hl:argsV st [] args.toList=some ds) (ki:Enters X.P g)
  {os:List (List DV)} (n1 m1:Nat) (Db:Nat.ble n1 st.bx.length=true) (jk:Nat.ble m1 st.tk.length=true) (A7:lM [] n1 n1 m1 os (st.bx.take n1)) (ha:CcL [] n1 n1 m1 Wn ds)
  {Φ:DV->List (List DV)->List TkE->Prop} (hc:Ev X.P g Wn os (st.tk.take m1) Φ) (aW:X.still=false) (hX:X.bt=[])
  (hk:∀ v r' fX bX E' w',Φ r' fX bX -> fX.length=n1->bX.length=m1->Rel X E' ⟨st.sl,fX ++ st.bx.drop n1,bX ++ st.tk.drop m1⟩ a w' -> Rv E' r' v->Ext E E' -> E'.β=E.β->(∀ (i:Nat) b,n1<=i->E.β[i]? = some b->w'.heap[b]? = w.heap[b]?) ->
   (W i=false->C w->C w')/\runT X.P ops W C Q r (a.put dst v) w'):runT X.P ops W C Q (i :: r) a w:=by
 refine LF hR ho oK jm hg hf hl ki (K:=fun v w'=>∃ r' fX bX E',Φ r' fX bX /\ fX.length=n1/\bX.length=m1/\Rel X E' ⟨st.sl,fX ++ st.bx.drop n1,bX ++ st.tk.drop m1⟩ a w' /\ Rv E' r' v/\Ext E E' /\ E'.β=E.β/\∀ (i:Nat) b,n1<=i->E.β[i]? = some b->w'.heap[b]? = w.heap[b]?)
  (fun vs hv=>?_) ?_
 ·refine (Et n1 m1 Db jk A7 ha hc aW hX hR hv).mono ?_
  grind
 ·grind
theorem Sz (h:Rel X E st a w) (j o k:Nat) {n ty e:Nat} {MR:List DV} {es ns:List (List DV)} (hq:st.tk[k]? = some ⟨n,ty,e,some ns.flatten⟩) (uq:∀ x∈ns,x.length=e) (hZ:ns.length=n) (hj:st.bx[j]? = some MR) (ho:MR[o]? = some (.sl 0 es (some k))) (gL:es.length=n) :
  ∃ E',Rel X E' ⟨st.sl,st.bx.set j (MR.set o (.sl e ns none)),st.tk.set k ⟨n,ty,e,none⟩⟩ a w:=WH hq uq hZ hj ho gL E a w h
theorem LG (hR:Rel X E st a w) (ho:ops[i]? = some o) (hE:isE o.op=true) (hg:o.guard=none) (hW:W i=true) (hd:ez X.nt st.sl o.dst=true) {p:Prop} (hp:effC X st o (go X 4000 k)=some p) (h:p):runT X.P ops W C (fun a w=>kq X k .normal a w) [i] a w:=by
 have Yf:=dO (ops:=ops) (a:=a) hg;simp only [runT,ho,hE,if_true,eP,Yf];refine lS ?_ (lT hd hR hp h);rintro a' w' ⟨st',E',nc,hr,_⟩;exact ⟨(fun h=>by rw [hW] at h;cases h),go_sound 4000 _ _ nc _ _ _ hr⟩
mutual
theorem sr {i j:Nat}:∀ d:DV,renD (swp i j) (renD (swp i j) d)=d
 | .v x=>rfl
 | .ud=>rfl
 | .agg l=>by simp only [renD,jL]
 | .tup l=>by simp only [renD,jL]
 | .sl e es tk=>rfl
 | .pt cs o=>rfl
 | .loc k o=>by simp only [renD,lZ]
 | .el k o=>by simp only [renD,lZ]
 | .ms k e o l c=>by simp only [renD,lZ]
 | .fn g l r=>by simp only [renD,jL]
 | .pV t x=>by simp only [renD,sr]
theorem jL {i j:Nat}:∀ l:List DV,renL (swp i j) (renL (swp i j) l)=l
 | []=>rfl
 | d :: r=>by simp only [renL,sr,jL]
end
theorem z6 {i j:Nat}:∀ l:List (Nat × Sl),renS (swp i j) (renS (swp i j) l)=l
 | []=>rfl
 | (k,⟨gs,s⟩) :: r=>by simp only [renS,sr,z6]
theorem z7 {i j:Nat}:∀ l:List (List DV),renO (swp i j) (renO (swp i j) l)=l
 | []=>rfl
 | c :: r=>by simp only [renO,jL,z7]
theorem Pm {i j:Nat} (f:Nat->Nat) (l:List (List DV)) (hi:i < l.length) (hj:j < l.length):renO f (swL i j l)=swL i j (renO f l):=by
 apply List.ext_getElem?
 grind [vF,gj,er]
theorem EK {i j:Nat} {S:St} (hi:i < S.bx.length) (hj:j < S.bx.length):fk i j (fk i j S)=S:=by
 obtain ⟨sl,bx,tk⟩:=S;simp only [fk,z6];rw [Pm _ _ (by rw [er];exact hi) (by rw [er];exact hj),z7];congr 1;apply List.ext_getElem?
 grind [gj,fm,lZ]
theorem CallG.abn {f:FuncId} {args:List DV} {dst:Option Nat} (i j:Nat) (ME:Nat.ble X.n0 i=true) (Di:Nat.ble X.n0 j=true) (hi:Nat.blt i st.bx.length=true) (hj:Nat.blt j st.bx.length=true)
  (h:CallG X f (renL (swp i j) args) dst k (fk i j st)) (hX:X.bt=[]:=by exact rfl):CallG X f args dst k st:=by
 have gK:=hi;have jw:=hj;simp only [Nat.blt_eq] at gK jw;have hl:(fk i j st).bx.length=st.bx.length:=by simp only [fk,fm,er]
 exact CallG.GV i j (EK gK jw).symm (jL args).symm ME Di (by rw [hl];exact hi) (by rw [hl];exact hj) h hX
theorem HF {P:Program} {t e:TypeId} (hu:P.underlying t=some (.slice e)) (d:Nat) (x:Option Addr) (n c:Nat) (w:World):(Op.equalIn (d + 1) t (.slice x n c) (.slice none 0 0)).run P w = .ok x.isNone w:=by
 cases x<;>simp [Op.equalIn,run_underlying hu]
theorem wS {P:Program} {t e:TypeId} (hu:P.underlying t=some (.slice e)) (x:Option Addr) (n c:Nat) (w:World):(Op.equal t (.slice x n c) (.slice none 0 0)).run P w = .ok x.isNone w:=HF hu 9999 x n c w
theorem Pn {t d e:Nat} {x:Operand} {es:List (List DV)} {tk:Option Nat} {n et e' jh:Nat} {bb:Bool} {z:List Value} (oK:∃ t',o.op = .binOp .eql t x (.const (.slice none 0 0)) t') (jm:o.dst=some d) (hx:rv st [] x=some (.sl e es tk)) (hT:X.T.find t=some ⟨n,bb,.sl et e' jh,z⟩) (hd:ez X.nt st.sl (some d)=true)
  (hk:∀ b:Bool,(es ≠ []->b=false)->go X 4000 k ⟨(d,⟨[],.v (.bool b)⟩) :: st.sl,st.bx,st.tk⟩):KO X o k st:=by
 intro E a w h;obtain ⟨t',oK⟩:=oK;have e1:=aR h.rl hx;unfold Rv at e1;obtain ⟨b,m,cap,e1,⟨rfl,_⟩,hr,_⟩:=e1;obtain ⟨hu,_⟩:=eA X.hT hT;have aO:=wS hu b es.length cap w
 have cd:(execOp a.eval o).run X.P w = .ok (.value (.bool b.isNone)) w:=by
  have hc:a.eval (.const (.slice none 0 0)) = .slice none 0 0:=rfl;simp [execOp,oK,e1,hc,eqGuard,binOp,aO]
 refine iW cd ?_;rw [jm];refine go_sound 4000 _ _ (hk b.isNone fun bf=>?_) E _ w (aX h hd (.v (.bool b.isNone)) _ (by unfold Rv;exact ⟨rfl,rfl⟩));have:=lQ (hr bf).1;rw [this];rfl
theorem abo {t d et e jh n:Nat} {bb:Bool} {z:List Value} (oK:o.op = .buildSlice t 0 #[]) (jm:o.dst=some d) (hT:X.T.find t=some ⟨n,bb,.sl et e jh,z⟩) (hd:ez X.nt st.sl (some d)=true) (aW:X.still=false:=by exact rfl) (hX:X.bt=[]:=by exact rfl) :
  OpS X o st ⟨(d,⟨[],.sl e [] (some st.tk.length)⟩) :: st.sl,st.bx,st.tk ++ [⟨0,et,e,none⟩]⟩:=by
 intro E a w h;obtain ⟨hu,ii,zv,yv,hz,bZ,uc,KM⟩:=eA X.hT hT;have mO:iy X.P et=some e:=by rw [fC yv,bZ]
 have cd:(execOp a.eval o).run X.P w = .ok (.value (.slice (some ⟨w.heap.size,0,none⟩) 0 0)) (w.alloc (.cells #[] et)):=by
  have h1:(Instr.buildSlice t 0 #[]).run X.P w = .ok (.slice (some ⟨w.heap.size,0,none⟩) 0 0) (w.alloc (.cells #[] et)):=by
   have h0:Array.range 0 = #[]:=rfl;simp [Instr.buildSlice,run_underlying hu,aM mO,Instr.fill,newRow,h0]
  simp only [execOp,oK,List.map_toArray,List.map_nil,Sem.run_bind,h1,Result.andThen_ok,Sem.run_pure]
 refine eO cd ?_;rw [jm];have pQ:=h.env.kF (w':=w.alloc (.cells #[] et)) fun i hi=>alloc_old w _ hi
 let E2:En:=⟨E.c,E.β,E.tk ++ [⟨0,et,e,none⟩],E.τ ++ [.slice (some ⟨w.heap.size,0,none⟩) 0 0]⟩
 have hext:Ext E E2:=⟨fun _ _ h=>h,fun _ _ h=>h,fun k q' hk=>by
  have au:=(gS hk).1;refine ⟨q',by show (E.tk ++ _)[k]? = _;rw [dC au];exact hk,.inl ⟨rfl,?_⟩⟩;show (E.τ ++ _)[k]? = _
  rw [dC (by rw [h.env.tl];exact au)]⟩
 have hτ:∀ (k:Nat) y,E2.τ[k]? = some y->(k < E.τ.length/\E.τ[k]? = some y)∨(k=E.τ.length/\y = .slice (some ⟨w.heap.size,0,none⟩) 0 0):=fun k y hy=>by grind
 have dc:∀ (k:Nat) y g,E.τ[k]? = some y->y.ownBlock=some g->g < w.heap.size:=fun k y g hy hg=>(h.env.own (mG hy) hg).1
 have cf:Rel X E2 ⟨st.sl,st.bx,st.tk ++ [⟨0,et,e,none⟩]⟩ a (w.alloc (.cells #[] et)):=by
  refine dw h hext ?_ (by show E.tk ++ _=_;rw [h.tk]) ?_ (h.fr.alloc _) (mM aW) (.nil hX)
  ·exact {
    len:=h.env.len
    tl:=by show (E.τ ++ _).length=(E.tk ++ _).length;simp [h.env.tl]
    bxs:=fun i cs hi=>by
     obtain ⟨b,t,arr,hb,hw,hc⟩:=pQ.bxs i cs hi;exact ⟨b,t,arr,hb,hw,hc.mono hext⟩
    inj:=h.env.inj
    sub:=pQ.sub
    pc:=h.env.pc
    bY:=fun k q' y hkq hy=>by
     rcases hτ k y hy with ⟨au,fG⟩ | ⟨rfl,rfl⟩
     ·have gD:(E.tk ++ [⟨0,et,e,none⟩])[k]? = some q':=hkq;rw [dC (by rw [<- h.env.tl];exact au)] at gD;exact pQ.bY k q' y gD fG
     ·have gD:(E.tk ++ [⟨0,et,e,none⟩])[E.τ.length]? = some q':=hkq;rw [List.getElem?_append_right (by rw [h.env.tl];exact aQ _),h.env.tl] at gD;simp only [Nat.sub_self,List.getElem?_cons_zero,oI] at gD;subst gD;refine .inr ⟨w.heap.size,0,#[],rfl,jF w _,⟨by simp,pY.none rfl⟩,aQ _,Nat.zero_le _,fun hm=>?_,fun x v hx Df=>?_⟩
      ·have:=h.env.bi hm;omega
      ·have:=World.block_lt_of_cell? w x (h.env.sub x v hx);omega
    ji:=fun k k' y y' g pN hy fG hg ta=>by
     rcases hτ k y hy with ⟨_,A2⟩ | ⟨rfl,rfl⟩
     ·rcases hτ k' y' fG with ⟨_,mN⟩ | ⟨rfl,rfl⟩
      ·exact h.env.ji k k' y y' g pN A2 mN hg ta
      ·have:=dc k y g A2 hg;simp only [Value.ownBlock,oI] at ta;omega
     ·rcases hτ k' y' fG with ⟨_,mN⟩ | ⟨rfl,rfl⟩
      ·have:=dc k' y' g mN ta;simp only [Value.ownBlock,oI] at hg;omega
      ·exact pN rfl }
  ·exact {
    c:=h.nw.c
    cn:=h.nw.cn
    β:=h.nw.β
    tk:=fun j q0 y0 A3 Dd=>by
     obtain ⟨q',y',h1,h2,h3⟩:=h.nw.tk j q0 y0 A3 Dd
     grind
    tn:=fun j y g hj hy hg=>by
     rcases hτ j y hy with ⟨_,A2⟩ | ⟨_,rfl⟩
     ·exact h.nw.tn j y g hj A2 hg
     ·simp only [Value.ownBlock,oI] at hg;have:=h.fr.size;omega
    l0:=h.nw.l0 }
 refine ⟨E2,aX cf hd (.sl e [] (some st.tk.length)) _ ?_,hext,⟨[],by simp [E2]⟩,fun i b hb _=>alloc_old w _ (h.env.bi (mG hb))⟩;unfold Rv;refine ⟨_,0,0,rfl,⟨rfl,aQ _⟩,fun hn=>(hn rfl).elim,fun k' gD=>?_⟩;cases gD;refine ⟨⟨0,et,e,none⟩,?_,aQ _,fun _=>?_⟩
 ·show (E.tk ++ _)[st.tk.length]? = _;rw [h.tk];simp
 ·show (E.τ ++ _)[st.tk.length]? = _;rw [<- h.tk,<- h.env.tl];simp
theorem EL {t d et e jh n:Nat} {bb:Bool} {z:List Value} (oK:o.op = .buildSlice t 0 #[]) (jm:o.dst=some d) (hT:X.T.find t=some ⟨n,bb,.sl et e jh,z⟩) (hd:ez X.nt st.sl (some d)=true) (aW:X.still=false:=by exact rfl) (hX:X.bt=[]:=by exact rfl)
  (hk:go X 4000 k ⟨(d,⟨[],.sl e [] (some st.tk.length)⟩) :: st.sl,st.bx,st.tk ++ [⟨0,et,e,none⟩]⟩):KO X o k st:=(abo oK jm hT hd aW hX).g hk
theorem Wk.Jv {st':St} (N:Nat) (hN:Nat.ble X.n0 N=true) (hNl:Nat.ble N st.bx.length=true) (kG:lM st.bx N N st.tk.length st'.bx (st.bx.take N)) (ig:st'.tk=st.tk) (mW:NA st.bx N st.tk.length st.sl st'.sl):Wk X st st':=fun _ _ _ h=>
 Jw h N (nL hN) (nL hNl) kG ig mW
theorem KO.wk {st':St} {o:Oper} (hw:Wk X st st') (hd:ez X.nt st'.sl o.dst=true) {p:Prop} (hp:effC X st' o (go X 4000 k)=some p) (h:p):KO X o k st:=fun E a w hr=>by
 obtain ⟨E',mX⟩:=hw _ _ _ hr;refine Dj (lS ?_ (lT hd mX hp h));rintro a' w' ⟨KX,E2,nc,hr2,_⟩;exact go_sound 4000 _ _ nc _ _ _ hr2
theorem SA (h:Rel X E st a w) (aW:X.still=false) (hX:X.bt=[]) {g n ty e cap:Nat} {cur:Array Value} (hw:w.heap[g]? = some (.cells cur ty (0,0))) (bZ:cur.size=cap * e) (hn:n<=cap) (A9:cap<=maxLen) (hb:g ∉ E.β)
  (hc:∀ x v,E.c x=some v->x.block=g->x.off < n * e) (dc:∀ (k:Nat) y,E.τ[k]? = some y->y.ownBlock≠some g) (hg:X.w0.heap.size<=g) :
  Rel X ⟨E.c,E.β,E.tk ++ [⟨n,ty,e,none⟩],E.τ ++ [.slice (some ⟨g,0,none⟩) n cap]⟩ ⟨st.sl,st.bx,st.tk ++ [⟨n,ty,e,none⟩]⟩ a w:=by
 let E2:En:=⟨E.c,E.β,E.tk ++ [⟨n,ty,e,none⟩],E.τ ++ [.slice (some ⟨g,0,none⟩) n cap]⟩
 have hext:Ext E E2:=⟨fun _ _ h=>h,fun _ _ h=>h,fun k q' hk=>by
  have au:=(gS hk).1;refine ⟨q',by show (E.tk ++ _)[k]? = _;rw [dC au];exact hk,.inl ⟨rfl,?_⟩⟩;show (E.τ ++ _)[k]? = _
  rw [dC (by rw [h.env.tl];exact au)]⟩
 have hτ:∀ (k:Nat) y,E2.τ[k]? = some y->(k < E.τ.length/\E.τ[k]? = some y)∨(k=E.τ.length/\y = .slice (some ⟨g,0,none⟩) n cap):=fun k y hy=>by grind
 refine dw h hext ?_ (by show E.tk ++ _=_;rw [h.tk]) ?_ h.fr (mM aW) (.nil hX)
 ·exact {
   len:=h.env.len
   tl:=by show (E.τ ++ _).length=(E.tk ++ _).length;simp [h.env.tl]
   bxs:=fun i cs hi=>by
    obtain ⟨b,t,arr,hb,hw,hc⟩:=h.env.bxs i cs hi;exact ⟨b,t,arr,hb,hw,hc.mono hext⟩
   inj:=h.env.inj
   sub:=h.env.sub
   pc:=h.env.pc
   bY:=fun k q' y hkq hy=>by
    rcases hτ k y hy with ⟨au,fG⟩ | ⟨rfl,rfl⟩
    ·have gD:(E.tk ++ [⟨n,ty,e,none⟩])[k]? = some q':=hkq;rw [dC (by rw [<- h.env.tl];exact au)] at gD;exact h.env.bY k q' y gD fG
    ·have gD:(E.tk ++ [⟨n,ty,e,none⟩])[E.τ.length]? = some q':=hkq;rw [List.getElem?_append_right (by rw [h.env.tl];exact aQ _),h.env.tl] at gD;simp only [Nat.sub_self,List.getElem?_cons_zero,oI] at gD;subst gD;exact .inr ⟨g,cap,cur,rfl,hw,⟨bZ,fun cs h=>by cases h⟩,hn,A9,hb,hc⟩
   ji:=fun k k' y y' g' pN hy fG nb ML=>by
    rcases hτ k y hy with ⟨_,A2⟩ | ⟨rfl,rfl⟩
    ·rcases hτ k' y' fG with ⟨_,mN⟩ | ⟨rfl,rfl⟩
     ·exact h.env.ji k k' y y' g' pN A2 mN nb ML
     ·simp only [Value.ownBlock,oI] at ML;subst ML;exact dc k y A2 nb
    ·rcases hτ k' y' fG with ⟨_,mN⟩ | ⟨rfl,rfl⟩
     ·simp only [Value.ownBlock,oI] at nb;subst nb;exact dc k' y' mN ML
     ·exact pN rfl }
 ·exact {
   c:=h.nw.c
   cn:=h.nw.cn
   β:=h.nw.β
   tk:=fun j q0 y0 A3 Dd=>by
    obtain ⟨q',y',h1,h2,h3⟩:=h.nw.tk j q0 y0 A3 Dd
    grind
   tn:=fun j y g' hj hy ta=>by
    rcases hτ j y hy with ⟨_,A2⟩ | ⟨_,rfl⟩
    ·exact h.nw.tn j y g' hj A2 ta
    ·simp only [Value.ownBlock,oI] at ta;omega
   l0:=h.nw.l0 }
theorem WX {t d et e jh n len:Nat} {bb:Bool} {z:List Value} {parts:Array (Nat × Operand)} {es:List (List DV)} (oK:o.op = .buildSlice t len parts) (jm:o.dst=some d) (hT:X.T.find t=some ⟨n,bb,.sl et e jh,z⟩) (gL:litL e st parts.toList 0=some es)
  (hc:(Nat.beq es.length len && (Nat.blt 0 len && Nat.blt 0 e && Nat.ble (len * e) 16777216))=true) (hd:ez X.nt st.sl (some d)=true) (aW:X.still=false:=by exact rfl) (hX:X.bt=[]:=by exact rfl)
  (hk:go X 4000 k ⟨(d,⟨[],.sl e es (some st.tk.length)⟩) :: st.sl,st.bx,st.tk ++ [⟨len,et,e,none⟩]⟩):KO X o k st:=by
 intro E a w h;simp only [aP,Nat.beq_eq,Nat.ble_eq,Nat.blt_eq] at hc;obtain ⟨hlen,⟨jX,Jl⟩,hsm⟩:=hc;obtain ⟨hu,ii,zv,yv,hz,bZ,uc,KM⟩:=eA X.hT hT;obtain ⟨xs,vs,hp,yw,uJ,jH,VN,oJ⟩:=oX h.rl Jl gL;subst bZ
 have M7:len * ii.size≠0:=by
  have:=Nat.mul_pos jX Jl;omega
 have na:Instr.fill (fun i=>some (i * ii.size,ii.size)) ((Array.range (len * ii.size)).map (zv.cells[·% zv.cells.size]!)) (parts.map fun (i,x)=>(i,a.eval x)).toList=some (cellsL vs).toArray:=by
  have h0:=u9 ii.size vs 0 ((Array.range (len * ii.size)).map (zv.cells[·% zv.cells.size]!)).toList jH (by simp [uJ,hlen])
  have h1:(parts.map fun (i,x)=>(i,a.eval x)).toList=enumF 0 vs:=by
   rw [Array.toList_map,hp,yw,<- rI]
  rw [h1];simp only [Array.toArray_toList] at h0;rw [h0];simp [uJ,hlen]
 have cd:(execOp a.eval o).run X.P w = .ok (.value (.slice (some ⟨w.heap.size,0,none⟩) len len)) (w.alloc (.cells (cellsL vs).toArray et)):=by
  simp only [execOp,oK,Sem.run_bind,run_buildSlice w t et len _ _ ii zv hu yv hz (by omega) M7 na,Result.andThen_ok,Sem.run_pure]
 refine iW cd ?_;rw [jm];have hr:=zb (arr:=cellsL vs) h aW et
 have U1:(cellsL vs).length=len * ii.size:=by
  have:∀ l:List Value,(∀ v∈l,v.cells.toList.length=ii.size)->(cellsL l).length=l.length * ii.size:=by
   intro l
   induction l with
   | nil=>intro _;simp [cellsL]
   | cons v l ih=>grind [cellsL]
  rw [this vs jH,uJ,hlen]
 have hr2:=SA (n:=len) (ty:=et) (e:=ii.size) (cap:=len) hr aW hX (g:=w.heap.size) (cur:=(cellsL vs).toArray) (jF w _) (by simp [U1]) (aQ _) (by
   have:len<=len * ii.size:=Nat.le_mul_of_pos_right _ Jl;unfold maxLen;omega) (fun hm=>by have:=h.env.bi hm;omega) (fun x v hx Df=>by
   have hx:addC E.c (w.alloc (.cells (cellsL vs).toArray et)) w.heap.size (cellsL vs).length x=some v:=hx;unfold addC at hx;split at hx
   ·rename_i hc;rw [<- U1];exact hc.2.2
   ·have:=World.block_lt_of_cell? w x (h.env.sub x v hx);omega) (fun j y hy hg=>by
   have:=(h.env.own (mG hy) hg).1
   omega) (h.fr.size)
 refine go_sound 4000 _ _ hk _ _ _ (aX hr2 hd (.sl ii.size es (some st.tk.length)) _ ?_);unfold Rv;refine ⟨_,_,_,rfl,⟨hlen.symm,aQ _⟩,fun bf=>⟨rfl,?_⟩,fun k' gD=>?_⟩
 ·have fF:∀ x v,E.c x=some v->addC E.c (w.alloc (.cells (cellsL vs).toArray et)) w.heap.size (cellsL vs).length x=some v:=fun x v hx=>by
   have au:=World.block_lt_of_cell? w x (h.env.sub x v hx);unfold addC;rw [aj (by omega)];exact hx
  have hm:RvC (En.cl ⟨addC E.c (w.alloc (.cells (cellsL vs).toArray et)) w.heap.size (cellsL vs).length,E.β,E.tk,E.τ⟩) es.flatten (cellsL vs):=VN.mono (Ext.VA (E:=E) fF);refine rvEs_flat hm oJ fun j u hj=>?_;show addC _ _ _ _ _=_;have jw:=(gS hj).1;simp only [ab,ao,Nat.zero_add];rw [A1 jw,cm (jF w _)];simpa using hj
 ·cases gD;refine ⟨⟨len,et,ii.size,none⟩,?_,aQ _,fun _=>?_⟩
  ·show (E.tk ++ _)[st.tk.length]? = _;rw [h.tk];simp
  ·show (E.τ ++ _)[st.tk.length]? = _;rw [<- h.tk,<- h.env.tl];simp
end
end Dv
end Go.Proofs.YtgjagnmeonoehaaGreat
set_option maxRecDepth 100000
namespace Go.Proofs.YtgjagnmeonoehaaGreat
open Go Go.RowKit Dv Go.Proofs.Tryz
theorem mq {l:List Wd} {o:List (Wd × Wd)} (h:(latF l o).1=0):(fW l o).1=0/\(enumL l 0 l).1=0/\(numF (aA l) o).1=0/\bB (kx l.length (eQ l.length (dz (aA l) o))) l.length=none/\bB (nA (eQ l.length (dz (aA l) o)) l.length) l.length=none:=by grind [latF]
theorem dJ {p:Nat->Bool} {n:Nat} (h:bB p n=none):∀ a,a < n->p a=false:=by grind [bB]
theorem ll {l:List Wd} {o:List (Wd × Wd)} (h:(latF l o).1=0):fY (eQ l.length (dz (aA l) o)) l.length/\l.length<=32:=by
 obtain ⟨h1,h2,h3,h4,h5⟩:=mq h;have hP:=oi h3;rw [dD] at hP
 have CY:l ≠ []:=by
  rintro rfl;simp [fW] at h1
 have Po:l.length<=32:=by grind [fW]
 have Ey:∀ a b,a < l.length->b < l.length->lh (eQ l.length (dz (aA l) o)) l.length a b=false:=by
  have key:∀ a b,a<=b->b < l.length->lh (eQ l.length (dz (aA l) o)) l.length a b=false:=fun a b MO hb=>by grind [dJ,nA]
  intro a b ha hb;rcases Nat.le_total a b with h | h
  ·exact key a b h hb
  ·grind [lh,wE,wF]
 refine ⟨{
  pos:=List.length_pos_iff.2 CY
  rfl':=fun a ha=>r8 hP ha
  tr:=fun a b c ha hb hc=>Ho hP ha hb hc
  Lw:=fun a b ha hb h6 h7=>by grind [dJ,kx]
  jn:=fun a b ha hb=>by
   have:=Ey a b ha hb;unfold lh at this;simp only [Bool.or_eq_false_iff,Option.isNone_eq_false_iff] at this;exact Option.isSome_iff_exists.1 this.1
  mt:=fun a b ha hb=>by
   have:=Ey a b ha hb;unfold lh at this;simp only [Bool.or_eq_false_iff,Option.isNone_eq_false_iff] at this
   exact Option.isSome_iff_exists.1 this.2 },Po⟩
def dB (s:Sch) (aF:List Nat) (js:List Int):Lx:=⟨aA s.ae,aF,closeR (fu s.ae.length (dz (aA s.ae) s.order)) s.ae.length,js,eQ s.ae.length (dz (aA s.ae) s.order)⟩
theorem SB {s:Sch} {d:DV} (h:(latF s.ae s.order).1=0) (hd:WN s.ae s.order d) (hw:s.ae.length<=1099511627776):∃ aF js,(dB s aF js).OK/\d=(dB s aF js).pd:=by
 obtain ⟨aF,js,hT,kZ,pO,Rj,rfl⟩:=hd;obtain ⟨h1,h2⟩:=ll h;refine ⟨aF,js,⟨hT,by show aF.length<=_;omega,?_,?_,?_⟩,rfl⟩
 ·show fY _ (aA s.ae).length;rw [dD];exact h1
 ·show (aA s.ae).length<=32;rw [dD];exact h2
 ·show ∀ x y,x < (aA s.ae).length->y < (aA s.ae).length->JM _ (aA s.ae).length js x y;rw [dD];exact Rj
def iM (s:Sch) (l:List Wd):Int:=BN (eQ s.ae.length (dz (aA s.ae) s.order)) (aA s.ae) l
def lK (s:Sch) (t:Ty):Ft:=knT ⟨aA s.ae,[],[],[],fun _ _=>false⟩ (tL s) t
mutual
theorem z8 {X Y:Lx} (h:X.af=Y.af) (L:List ByteArray):∀ t:Ty,knT X L t=knT Y L t
 | .mk h1 ps=>by rw [knT,knT,Aa h L ps]
theorem Aa {X Y:Lx} (h:X.af=Y.af) (L:List ByteArray):∀ ps:Pts,knP X L ps=knP Y L ps
 | .nil=>by rw [knP,knP]
 | .cons p t r=>by
  rw [knP,knP,Aa h L r,z8 h L t];unfold Lx.bad;rw [h]
end
theorem WY (s:Sch) (aF:List Nat) (js:List Int) (t:Ty):knT (dB s aF js) (tL s) t=lK s t:=z8 (X:=dB s aF js) (Y:=⟨aA s.ae,[],[],[],fun _ _=>false⟩) rfl (tL s) t
def kP (s:Sch):Ft:=
 if (latF s.ae s.order).1≠0 then latF s.ae s.order
 else if (eK s).1≠0 then eK s
 else if (eaR s.root s.types 0).1.1≠0 then (eaR s.root s.types 0).1
 else if (eaL (lK s) (lK s s.root) s.types).1≠0 then eaL (lK s) (lK s s.root) s.types
 else loopF s
def ndsAll (lev:List Wd->Int) (s:Sch):List (Wd × Ty)->Nat->List Nd
 | [],_=>[]
 | x :: r,k=>ndsT lev s x.2 k ++ ndsAll lev s r (k + x.2.nn)
def qP (s:Sch):List Nd:=ndsAll (iM s) s s.types 0
def aS (s:Sch):List Nd:=qP s ++ ndsT (iM s) s s.root (qP s).length
def cr (s:Sch):Int:=nG s s.root (qP s).length
def U2 (s:Sch) (aF kQ:List Nat) (js:List Int):List DV:=
 [(dB s aF js).pd,.sl 7 (dq (aS s)) none,.v (.int .i64 (cr s)),.pt (cQ (tL s) kQ) 0,.sl 1 (dInts (namedL s)) none]
def Pp (s:Sch) (d:DV):Prop:=∃ aF kQ js,(dB s aF js).OK/\ij (tL s) kQ/\kQ.length<=s.types.length/\d = .pt (U2 s aF kQ js) 0
def HG (s:Sch) (r:DV) (_:List (List DV)) (_:List TkE):Prop:=
 if (kP s).1≠0 then r = .tup [.v (.pointer none),(kP s).d] else ∃ d,Pp s d/\r = .tup [d,Ft.d (0,0)]
theorem nH {s:Sch} {f:Ft} {os:List (List DV)} {tk:List TkE} (h:kP s=f) (hf:f.1≠0):HG s (.tup [.v (.pointer none),f.d]) os tk:=by
 unfold HG;rw [h,ap hf]
theorem SD {s:Sch} {d:DV} {os:List (List DV)} {tk:List TkE} (h:(kP s).1=0) (hd:Pp s d):HG s (.tup [d,Ft.d (0,0)]) os tk:=by grind [HG]
theorem Pq {F:Ty->Ft} {z:Ft}:∀ {l:List (Wd × Ty)},(eaL F z l).1=0->z.1=0/\∀ x∈l,(F x.2).1=0
 | [],h=>⟨h,fun x hx=>by cases hx⟩
 | x :: r,h=>by
  rw [eaL] at h;split at h
  ·rename_i h1;exact (h1 h).elim
  ·rename_i h1;obtain ⟨h2,h3⟩:=Pq h
   grind
theorem Pr {z:Ty}:∀ {l:List (Wd × Ty)} {m:Int},0<=m->(eaR z l m).1.1=0->(wrong z 1 0).1.1=0/\(∀ x∈l,(wrong x.2 1 0).1.1=0)/\(eaR z l m).2=m + ((l.map fun x=>x.2.cnt).sum + z.cnt:Nat)/\(eaR z l m).2<=512
 | [],m,_,h=>by grind [eaR,oo]
 | x :: r,m,hm,h=>by
  rw [eaR] at h ⊢;split at h
  ·rename_i h1;exact (h1 h).elim
  ·rename_i h1;rw [aj h1];obtain ⟨g1,g2,g3,_⟩:=oo (sU h1);obtain ⟨h2,h3,h4,h5⟩:=Pr (by omega) h
   grind
theorem wT (lev:List Wd->Int) (s:Sch):∀ (l:List (Wd × Ty)) (k:Nat),(ndsAll lev s l k).length=(l.map fun x=>x.2.nn).sum
 | [],_=>rfl
 | x :: r,k=>by simp only [ndsAll,List.length_append,kb,wT lev s r,List.map_cons,List.sum_cons]
theorem wU:∀ l:List (Wd × Ty),(l.map fun x=>x.2.nn).sum<=(l.map fun x=>x.2.cnt).sum
 | []=>aQ _
 | x :: r=>by
  have:=x.2.gy;have:=wU r
  grind
theorem Ab:∀ l:List Nd,(dq l).flatten.length=l.length * 7
 | []=>rfl
 | a :: r=>by
  have:=Ab r;simp only [dq,List.map_cons,List.flatten_cons,List.length_append,List.length_cons] at this ⊢;rw [this];simp only [kO,List.length_cons,List.length_nil];omega
theorem BT {X:Lx} {s:Sch} {t:Ty} (h:(knT X (tL s) t).1=0):uz s t=true:=by
 obtain ⟨hd,ps⟩:=t;have:=(mn h).1;unfold uz;exact decide_eq_true this
theorem EM {s:Sch} (h:(loopF s).1=0):∀ i,i < s.types.length->∃ k,endI s (s.types.length + 1) i=some k:=by
 intro i hi;unfold loopF at h;split at h
 ·rename_i h1;have:=dJ h1 i hi;simp only [Option.isNone_eq_false_iff] at this;exact Option.isSome_iff_exists.1 this
 ·cases h
end Go.Proofs.YtgjagnmeonoehaaGreat
