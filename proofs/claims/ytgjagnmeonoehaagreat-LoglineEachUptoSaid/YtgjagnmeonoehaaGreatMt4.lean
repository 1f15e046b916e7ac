/- Part 4 of the proof: Rules for the evaluator: a call that is handed the caller's first objects and rows; rows whose cells nobody else knows; lattice.best, and the closures of bounds; lattice.bounds: all joins and meets; lattice.Build; Reading a lattice: Len, has, Name, Find, Join, Meet, Bottom; labels.Of; The checker's part, once check is known for lighter types; The checker's parts, once check is known for lighter types; The checker's one and check, once check is known for lighter types; so check; kinds.Count, resolve.nodes; the builder's level; The builder's end, loops, known; The builder's each, right, called; The builder's each of right; called; places; The builder's places; The builder's edge; The builder's node; Steps of a region that draws its order, one by one; What resolve.Build says of a schema; lattices in which nothing is wrong. No condition. -/
import Derived.Test.YtgjagnmeonoehaaGreatMt2
import Derived.Test.YtgjagnmeonoehaaGreatMt3
set_option linter.all false
namespace Go.Proofs.YtgjagnmeonoehaaGreat
namespace Dv
open Go Go.RowKit
section
variable {X:Ctx} {st:St} {k:List It} {E:En} {a:Act} {w:World}
def Wk (X:Ctx) (st st':St):Prop:=∀ E a w,Rel X E st a w->∃ E',Rel X E' st' a w
theorem Wk.refl (X:Ctx) (st:St):Wk X st st:=fun E _ _ h=>⟨E,h⟩
theorem Wk.trans {X:Ctx} {s1 s2 s3:St} (h1:Wk X s1 s2) (h2:Wk X s2 s3):Wk X s1 s3:=fun _ _ _ h=>by
 obtain ⟨E1,h3⟩:=h1 _ _ _ h;exact h2 _ _ _ h3
theorem Wk.Uf {X:Ctx} {s1 s2:St} (h:pF X.n0 X.m0 s1 s2):Wk X s1 s2:=fun _ _ _ hr=>uU hr h
theorem zj {f:FuncId} {args bo:List DV} {os:List (List DV)} (n1 m1:Nat) (Cd:Nat.ble n1 st.bx.length=true) (iE:Nat.ble m1 st.tk.length=true)
  (Ck:ll [] n1 n1 m1 os (st.bx.take n1)) (ha:CcL [] n1 n1 m1 bo args)
  {Φ:DV->List (List DV)->List TkE->Prop} (hc:Wj false X.P f bo os (st.tk.take m1) X.bt Φ) (aY:X.still=false) {vs:List Value} (h:Rel X E st a w) (hv:RvL E args vs) :
  Calls X.P f vs.toArray w fun e w'=>∃ v r gF bP E',e = .returned v/\Φ r gF bP /\ gF.length=n1/\bP.length=m1/\Rel X E' ⟨st.sl,gF ++ st.bx.drop n1,bP ++ st.tk.drop m1⟩ a w' /\ Rv E' r v/\Ext E E' /\ E'.β=E.β /\
   ∀ (i:Nat) b,n1<=i->E.β[i]? = some b->w'.heap[b]? = w.heap[b]?:=by
 have Cd:=nL Cd;have iE:=nL iE;have hlen:=h.env.len;have eN:=h.env.tl;have iG:=h.tk;have htkl:E.tk.length=st.tk.length:=by rw [iG]
 let E1:En:=⟨E.c,E.β.take n1,E.tk.take m1,E.τ.take m1⟩
 have hfz:Lc E E1 [] n1:=⟨fun _ _ h=>h,fun i cs _ hi=>by simp at hi⟩
 have An:JA E E1 n1 m1:={
  β:=fun i b hi hb=>by show (E.β.take n1)[i]? = _;rw [bY,aj hi];exact hb
  tk:=fun k hk=>⟨by show (E.tk.take m1)[k]? = _;rw [bY,aj hk],by show (E.τ.take m1)[k]? = _;rw [bY,aj hk]⟩ }
 obtain ⟨kB,Wi⟩:=Ck.get;have hosl:os.length=n1:=by rw [kB,dE];omega
 have YA:∀ (j:Nat) y,(E.τ.take m1)[j]? = some y->j < m1/\E.τ[j]? = some y:=fun j y hy=>by
  rw [bY] at hy;split at hy
  ·rename_i hj;exact ⟨hj,hy⟩
  ·cases hy
 have hkg:∀ (j:Nat) q,(E.tk.take m1)[j]? = some q->j < m1/\E.tk[j]? = some q:=fun j y hy=>by
  rw [bY] at hy;split at hy
  ·rename_i hj;exact ⟨hj,hy⟩
  ·cases hy
 have Lg:Env E1 os w:={
  len:=by show (E.β.take n1).length=_;rw [dE,hosl];omega
  tl:=by show (E.τ.take m1).length=(E.tk.take m1).length;rw [dE,dE,eN]
  eo:=fun i cs' hi=>by
   obtain ⟨cs,cx,hcc⟩:=Wi i cs' hi;rw [bY] at cx;split at cx
   ·rename_i al;obtain ⟨b,ty,arr,hb,hw,hc⟩:=h.env.eo i cs cx;exact ⟨b,ty,arr,An.β i b al hb,hw,CcL.sound hfz An hcc hc.1,hc.2⟩
   ·cases cx
  inj:=h.env.inj.sublist (List.take_sublist _ _)
  sub:=h.env.sub
  pc:=fun x v hx hm=>h.env.pc x v hx (List.mem_of_mem_take hm)
  cA:=fun j q y hq hy=>by
   obtain ⟨_,hq⟩:=hkg j q hq;obtain ⟨_,hy⟩:=YA j y hy;rcases h.env.cA j q y hq hy with h1 | ⟨g,cap,cur,rfl,h1,h2,h3,h4,h5,h6⟩
   ·exact .inl h1
   ·exact .inr ⟨g,cap,cur,rfl,h1,h2,h3,h4,fun hm=>h5 (List.mem_of_mem_take hm),h6⟩
  ja:=fun j j' y y' g HM hy gH=>h.env.ja j j' y y' g HM (YA j y hy).2 (YA j' y' gH).2 }
 refine (hc E1 w _ Lg (by show E.tk.take m1=_;rw [iG]) (h.bt.sub n1) (CcL.sound hfz An ha hv)).mono ?_;rintro e w' ⟨v,rfl,⟨hm,_,r,gF,E2,he,hβ,rI,hn,Tp,hΦ⟩,hbt2⟩;have rI:E2.tk.length=E1.tk.length:=rI;have hE1t:E1.tk.length=m1:=by show (E.tk.take m1).length=_;rw [dE];omega
 have hE1τ:E1.τ.length=m1:=by show (E.τ.take m1).length=_;rw [dE];omega
 have hE1β:E1.β.length=n1:=by show (E.β.take n1).length=_;rw [dE];omega
 rw [hE1t] at rI;have Vs:E2.τ.length=m1:=by rw [he.tl,rI]
 have F1:gF.length=n1:=by rw [<- he.len,hβ,hE1β]
 have hS:∀ j,E1.S j->j∈E.β.take n1∨∃ i y,i < m1/\E.τ[i]? = some y/\y.ownBlock=some j:=fun j hj=>by
  rcases hj with h1 | ⟨y,h1,h2⟩
  ·exact .inl h1
  ·obtain ⟨i,hi,he⟩:=List.getElem_of_mem h1;have gk:E1.τ[i]? = some y:=by rw [gE hi,he]
   obtain ⟨h3,h4⟩:=YA i y gk;exact .inr ⟨i,y,h3,h4,h2⟩
 have hh:∀ j,j < w.heap.size->¬ E1.S j->w'.heap[j]? = w.heap[j]?:=fun j hj aT=>hm.block j hj aT;have cL:∀ (i:Nat) y g,E.τ[i]? = some y->y.ownBlock=some g->g < w.heap.size/\g ∉ E.β:=fun i y g hy hg=>h.env.own (mG hy) hg
 have dV:∀ x v,E2.c x=some v->E.c x=some v∨w.heap.size<=x.block∨∃ i y,i < m1/\E.τ[i]? = some y/\y.ownBlock=some x.block:=fun x v hx=>by
  rcases hn.cn x v hx with h1 | h1 | ⟨y,h1,h2⟩
  ·exact .inl h1
  ·exact .inr (.inl h1)
  ·obtain ⟨i,hi,he⟩:=List.getElem_of_mem h1;have gk:E1.τ[i]? = some y:=by rw [gE hi,he]
   obtain ⟨h3,h4⟩:=YA i y gk;exact .inr (.inr ⟨i,y,h3,h4,h2⟩)
 have qZ:∀ (j:Nat) q,j < m1->E.tk[j]? = some q->∃ y q' y',E.τ[j]? = some y/\E2.tk[j]? = some q' /\ E2.τ[j]? = some y' /\ q.ty=q'.ty/\q.e=q'.e/\((q'.n=q.n/\y'=y)∨q.n < q'.n)/\(y'.ownBlock=y.ownBlock∨∀ g,y'.ownBlock=some g->w.heap.size<=g):=fun j q hj hq=>by
  have n8:j < E.τ.length:=by rw [eN];omega
  obtain ⟨q',y',h1,h2,h3⟩:=hn.tk j q E.τ[j] (by show (E.tk.take m1)[j]? = _;rw [bY,aj hj];exact hq) (by show (E.τ.take m1)[j]? = _;rw [bY,aj hj,gE n8]);exact ⟨_,q',y',gE n8,h1,h2,h3⟩
 have IC:∀ (j:Nat) y',j < m1->E2.τ[j]? = some y' -> ∃ y,E.τ[j]? = some y/\(y'.ownBlock=y.ownBlock∨∀ g,y'.ownBlock=some g->w.heap.size<=g):=fun j y' hj hy=>by
  have n8:j < E.tk.length:=by omega
  obtain ⟨y,q1,y1,h1,_,h3,_,_,_,h7⟩:=qZ j _ hj (gE n8);rw [hy] at h3;simp only [oI] at h3;subst h3;exact ⟨y,h1,h7⟩
 let E':En:=⟨E2.c,E.β,E2.tk ++ E.tk.drop m1,E2.τ ++ E.τ.drop m1⟩
 have gB:∀ (j:Nat),m1<=j->E'.tk[j]? = E.tk[j]?:=fun j hj=>by
  show (E2.tk ++ E.tk.drop m1)[j]? = _;rw [List.getElem?_append_right (by omega),List.getElem?_drop,rI];congr 1;omega
 have Ug:∀ (j:Nat),m1<=j->E'.τ[j]? = E.τ[j]?:=fun j hj=>by
  show (E2.τ ++ E.τ.drop m1)[j]? = _;rw [List.getElem?_append_right (by omega),List.getElem?_drop,Vs];congr 1;omega
 have LW:∀ (j:Nat),j < m1->E'.tk[j]? = E2.tk[j]?:=fun j hj=>by
  show (E2.tk ++ E.tk.drop m1)[j]? = _;rw [eF (by omega)]
 have La:∀ (j:Nat),j < m1->E'.τ[j]? = E2.τ[j]?:=fun j hj=>by
  show (E2.τ ++ E.τ.drop m1)[j]? = _;rw [eF (by omega)]
 have hx:Ext E E':=⟨hn.c,fun _ _ h=>h,fun j q hq=>by
  rcases Nat.lt_or_ge j m1 with hj | hj
  ·obtain ⟨y,q',y',h1,h2,h3,_,_,h6,_⟩:=qZ j q hj hq;refine ⟨q',by rw [LW j hj];exact h2,?_⟩;rcases h6 with ⟨h6,rfl⟩ | h6
   ·exact .inl ⟨h6,by rw [La j hj,h3,h1]⟩
   ·exact .inr h6
  ·exact ⟨q,by rw [gB j hj];exact hq,.inl ⟨rfl,Ug j hj⟩⟩⟩
 have JL:Ext E2 E':={
  c:=fun _ _ h=>h
  β:=fun j b hj=>by
   rw [hβ] at hj;have hj:(E.β.take n1)[j]? = some b:=hj;rw [bY] at hj;split at hj
   ·exact hj
   ·cases hj
  tk:=fun j q hq=>by
   have hj:j < m1:=by have:=(gS hq).1;omega
   exact ⟨q,by rw [LW j hj];exact hq,.inl ⟨rfl,La j hj⟩⟩ }
 have R6:∀ (i:Nat) b,n1<=i->E.β[i]? = some b->w'.heap[b]? = w.heap[b]?:=fun i b hi hb=>by
  refine hh b (h.env.aZ (mG hb)) fun hs=>?_;rcases hS b hs with h1 | ⟨i',y,_,h2,h3⟩
  ·obtain ⟨i',gk,JD⟩:=List.getElem_of_mem h1;have h4:(E.β.take n1)[i']? = some b:=by rw [gE gk,JD]
   rw [bY] at h4;split at h4
   ·rename_i al;have:=(List.getElem?_inj (gS hb).1 h.env.inj).1 (hb.trans h4.symm);omega
   ·cases h4
  ·exact (cL i' y b h2 h3).2 (mG hb)
 have hbt':n5 X.bt E.β w':=fun p hp b hb=>by
  rcases Nat.lt_or_ge p.1 n1 with al | aM
  ·exact hbt2 p hp b (by show (E.β.take n1)[p.1]? = _;rw [bY,aj al];exact hb)
  ·obtain ⟨cs,cx⟩:=h.bt p hp b hb;exact ⟨cs,by rw [R6 p.1 b aM hb];exact cx⟩
 have cq:Rel X E' ⟨st.sl,gF ++ st.bx.drop n1,E2.tk ++ st.tk.drop m1⟩ a w':=by
  refine dt h hx ?_ (by show E2.tk ++ E.tk.drop m1=_;rw [iG]) ?_ (h.fr.cg hm.os hm.tape hm.output hm.size fun j hj=>?_) (n7 aY) hbt'
  ·exact {
    len:=by show E.β.length=_;rw [List.length_append,List.length_drop,F1,hlen];omega
    tl:=by show (E2.τ ++ E.τ.drop m1).length=(E2.tk ++ E.tk.drop m1).length;simp only [List.length_append,List.length_drop,Vs,rI,eN]
    eo:=fun i Rc hi=>by
     rcases Nat.lt_or_ge i n1 with ru | ru
     ·rw [eF (by omega)] at hi;obtain ⟨b2,ty2,TD,gg,nG,mE⟩:=he.eo i Rc hi;exact ⟨b2,ty2,TD,JL.β i b2 gg,nG,mE.mono JL⟩
     ·rw [List.getElem?_append_right (by omega),List.getElem?_drop,F1] at hi;rw [show n1 + (i - n1)=i by omega] at hi;obtain ⟨bj,tyj,TF,Re,WC,S7⟩:=h.env.eo i Rc hi;refine ⟨bj,tyj,TF,Re,(hh bj (cy WC) ?_).trans WC,S7.mono hx⟩;intro hs;rcases hS bj hs with h1 | ⟨i',y,_,h2,h3⟩
      ·obtain ⟨i',gk,JD⟩:=List.getElem_of_mem h1;have h4:(E.β.take n1)[i']? = some bj:=by rw [gE gk,JD]
       rw [bY] at h4;split at h4
       ·rename_i al;have:=(List.getElem?_inj (gS Re).1 h.env.inj).1 (Re.trans h4.symm);omega
       ·cases h4
      ·exact (cL i' y bj h2 h3).2 (mG Re)
    inj:=h.env.inj
    sub:=he.sub
    pc:=fun x v hc tD=>by
     rcases dV x v hc with h1 | h1 | ⟨i,y,_,h2,h3⟩
     ·exact h.env.pc x v h1 tD
     ·have:=h.env.aZ tD;omega
     ·exact (cL i y _ h2 h3).2 tD
    cA:=fun j q y hq hy=>by
     rcases Nat.lt_or_ge j m1 with hj | hj
     ·rw [LW j hj] at hq;rw [La j hj] at hy;rcases he.cA j q y hq hy with h1 | ⟨g,cap,cur,rfl,h1,h2,h3,h4,h5,h6⟩
      ·exact .inl h1
      ·refine .inr ⟨g,cap,cur,rfl,h1,h2,h3,h4,fun tD=>?_,h6⟩;obtain ⟨y0,h7,h8⟩:=IC j _ hj hy;rcases h8 with h8 | h8
       ·exact (cL j y0 g h7 (by rw [<- h8];rfl)).2 tD
       ·have:=h8 g rfl;have:=h.env.aZ tD;omega
     ·rw [gB j hj] at hq;rw [Ug j hj] at hy;rcases h.env.cA j q y hq hy with h1 | ⟨g,cap,cur,rfl,h1,h2,h3,h4,h5,h6⟩
      ·exact .inl h1
      ·have aT:∀ i y',i < m1->E.τ[i]? = some y' -> y'.ownBlock≠some g:=fun i y' hi gH=>h.env.ja j i _ y' g (by omega) hy gH rfl
       have x7:¬ E1.S g:=fun hs=>by
        rcases hS g hs with h7 | ⟨i,y',h7,h8,h9⟩
        ·exact h5 (List.mem_of_mem_take h7)
        ·exact aT i y' h7 h8 h9
       refine .inr ⟨g,cap,cur,rfl,by rw [hh g (cy h1) x7];exact h1,⟨h2.1,h2.2.mono hn.c⟩,h3,h4,h5,fun x v hc hg=>?_⟩
       ·rcases dV x v hc with h7 | h7 | ⟨i,y',h7,h8,h9⟩
        ·exact h6 x v h7 hg
        ·have:=cy h1;omega
        ·exact (aT i y' h7 h8 (by rw [h9,hg])).elim
    ja:=fun j j' y y' g HM hy gH hg x4=>by
     rcases Nat.lt_or_ge j m1 with hj | hj
     ·rw [La j hj] at hy;obtain ⟨y0,h7,h8⟩:=IC j _ hj hy;rcases Nat.lt_or_ge j' m1 with jd | jd
      ·rw [La j' jd] at gH;exact he.ja j j' y y' g HM hy gH hg x4
      ·rw [Ug j' jd] at gH;rcases h8 with h8 | h8
       ·exact h.env.ja j j' y0 y' g HM h7 gH (by rw [<- h8];exact hg) x4
       ·have:=h8 g hg;have:=(cL j' y' g gH x4).1;omega
     ·rw [Ug j hj] at hy;rcases Nat.lt_or_ge j' m1 with jd | jd
      ·rw [La j' jd] at gH;obtain ⟨y0,h7,h8⟩:=IC j' _ jd gH;rcases h8 with h8 | h8
       ·exact h.env.ja j j' y y0 g HM hy h7 hg (by rw [<- h8];exact x4)
       ·have:=h8 g x4;have:=(cL j y g hy hg).1;omega
      ·rw [Ug j' jd] at gH
       exact h.env.ja j j' y y' g HM hy gH hg x4 }
  ·exact {
    c:=fun x v hc=>hn.c x v (h.nw.c x v hc)
    cn:=fun x v hc=>by
     rcases dV x v hc with h1 | h1 | ⟨i,y,_,h2,h3⟩
     ·exact h.nw.cn x v h1
     ·have:=h.fr.size;exact .inr (.inl (by omega))
     ·rcases h.nw.own h2 h3 with h4 | h4
      ·exact .inr (.inr h4)
      ·exact .inr (.inl h4)
    β:=h.nw.β
    tk:=fun j q0 y0 tE Fb=>by
     obtain ⟨q1,y1,h1,h2,h3,h4,h5,h6⟩:=h.nw.tk j q0 y0 tE Fb;rcases Nat.lt_or_ge j m1 with hj | hj
     ·obtain ⟨y,q',y',g1,g2,g3,g4,g5,g6,g7⟩:=qZ j q1 hj h1;rw [h2] at g1;simp only [oI] at g1;subst g1;refine ⟨q',y',by rw [LW j hj];exact g2,by rw [La j hj];exact g3,h3.trans g4,h4.trans g5,?_,?_⟩
      ·rcases g6 with ⟨g6,rfl⟩ | g6
       ·rcases h5 with ⟨h5,rfl⟩ | h5
        ·exact .inl ⟨by omega,rfl⟩
        ·exact .inr (by omega)
       ·rcases h5 with ⟨h5,_⟩ | h5
        ·exact .inr (by omega)
        ·exact .inr (by omega)
      ·rcases g7 with g7 | g7
       ·rcases h6 with h6 | h6
        ·exact .inl (g7.trans h6)
        ·exact .inr fun g hg=>h6 g (by rw [<- g7];exact hg)
       ·refine .inr fun g hg=>?_;have:=g7 g hg;have:=h.fr.size;omega
     ·exact ⟨q1,y1,by rw [gB j hj];exact h1,by rw [Ug j hj];exact h2,h3,h4,h5,h6⟩
    tn:=fun j y g Cj hy hg=>by
     rcases Nat.lt_or_ge j m1 with hj | hj
     ·rw [La j hj] at hy;obtain ⟨y0,h7,h8⟩:=IC j _ hj hy;rcases h8 with h8 | h8
      ·exact h.nw.tn j y0 g Cj h7 (by rw [<- h8];exact hg)
      ·have:=h8 g hg;have:=h.fr.size;omega
     ·rw [Ug j hj] at hy;exact h.nw.tn j y g Cj hy hg
    l0:=h.nw.l0 }
  ·by_cases YB:E1.S j
   ·left;rcases hS j YB with h1 | ⟨i,y,_,h2,h3⟩
    ·have yT:=List.mem_of_mem_take h1;obtain ⟨r0,hr0,u4⟩:=h.nw.β;rw [hr0] at yT;rcases List.mem_append.1 yT with yT | yT
     ·exact .inl (.inl yT)
     ·exact .inr (u4 j yT)
    ·rcases h.nw.own h2 h3 with h4 | h4
     ·exact .inl (.inr h4)
     ·exact .inr h4
   ·exact .inr (hh j hj YB)
 exact ⟨v,r,gF,E2.tk,E',rfl,hΦ,F1,rI,cq,Rv.mono JL Tp,hx,rfl,R6⟩
theorem Df {f:FuncId} {args bo:List DV} {os:List (List DV)} (n1 m1:Nat) (Cd:Nat.ble n1 st.bx.length=true) (iE:Nat.ble m1 st.tk.length=true)
  (Ck:ll [] n1 n1 m1 os (st.bx.take n1)) (ha:CcL [] n1 n1 m1 bo args)
  {Φ:DV->List (List DV)->List TkE->Prop} (hc:Ev X.P f bo os (st.tk.take m1) Φ) (aY:X.still=false) (hX:X.bt=[]) {vs:List Value} (h:Rel X E st a w) (hv:RvL E args vs) :
  Calls X.P f vs.toArray w fun e w'=>∃ v r gF bP E',e = .returned v/\Φ r gF bP /\ gF.length=n1/\bP.length=m1/\Rel X E' ⟨st.sl,gF ++ st.bx.drop n1,bP ++ st.tk.drop m1⟩ a w' /\ Rv E' r v/\Ext E E' /\ E'.β=E.β /\
   ∀ (i:Nat) b,n1<=i->E.β[i]? = some b->w'.heap[b]? = w.heap[b]?:=
 zj n1 m1 (by exact Cd) (by exact iE) Ck ha (hc.Wm hX) aY h hv
theorem Nf {f:FuncId} {args bo:List DV} {os:List (List DV)} {d:Nat} (n1 m1:Nat) (jS:Enters X.P f) (hd:e9 X.nt st.sl (some d)=true) (Cd:Nat.ble n1 st.bx.length=true) (iE:Nat.ble m1 st.tk.length=true)
  (Ck:ll [] n1 n1 m1 os (st.bx.take n1)) (ha:CcL [] n1 n1 m1 bo args)
  {Φ:DV->List (List DV)->List TkE->Prop} (hc:Ev X.P f bo os (st.tk.take m1) Φ)
  (hk:∀ r gF bP,Φ r gF bP -> gF.length=n1->bP.length=m1->∃ st',Wk X ⟨(d,⟨[],r⟩) :: st.sl,gF ++ st.bx.drop n1,bP ++ st.tk.drop m1⟩ st' /\ go X 4000 k st') (aY:X.still=false:=by exact rfl) (hX:X.bt=[]:=by exact rfl):CallG X f args (some d) k st:=by
 refine ⟨jS,aY,fun E a w vs h hv=>(Df n1 m1 Cd iE Ck ha hc aY hX h hv).mono ?_⟩;rintro e w' ⟨v,r,gF,bP,E',rfl,hΦ,F1,rI,cq,Ij,_,_,_⟩;obtain ⟨st',Pw,qY⟩:=hk r gF bP hΦ F1 rI;obtain ⟨E3,hr3⟩:=Pw _ _ _ (aV cq hd r v Ij);exact go_sound 4000 _ _ qY E3 _ w' hr3
theorem fK {f:FuncId} {args bo:List DV} {os:List (List DV)} {d:Nat} (n1 m1:Nat) (jS:Enters X.P f) (hd:e9 X.nt st.sl (some d)=true) (Cd:Nat.ble n1 st.bx.length=true) (iE:Nat.ble m1 st.tk.length=true)
  (Ck:ll [] n1 n1 m1 os (st.bx.take n1)) (ha:CcL [] n1 n1 m1 bo args)
  {Φ:DV->List (List DV)->List TkE->Prop} (hc:Ev X.P f bo os (st.tk.take m1) Φ)
  (hk:∀ r gF bP,Φ r gF bP -> gF.length=n1->bP.length=m1->go X 4000 k ⟨(d,⟨[],r⟩) :: st.sl,gF ++ st.bx.drop n1,bP ++ st.tk.drop m1⟩) (aY:X.still=false:=by exact rfl) (hX:X.bt=[]:=by exact rfl):CallG X f args (some d) k st:=
 Nf n1 m1 jS hd Cd iE Ck ha hc (fun r gF bP h1 h2 h3=>⟨_,Wk.refl _ _,hk r gF bP h1 h2 h3⟩) aY hX
theorem kK {f:FuncId} {args bo:List DV} {os:List (List DV)} {d:Nat} (n1 m1:Nat) (jS:Enters X.P f) (hd:e9 X.nt st.sl (some d)=true) (Cd:Nat.ble n1 st.bx.length=true) (iE:Nat.ble m1 st.tk.length=true)
  (Ck:ll [] n1 n1 m1 os (st.bx.take n1)) (ha:CcL [] n1 n1 m1 bo args)
  {Φ:DV->List (List DV)->List TkE->Prop} (hc:Wj false X.P f bo os (st.tk.take m1) X.bt Φ)
  (hk:∀ r gF bP,Φ r gF bP -> gF.length=n1->bP.length=m1->go X 4000 k ⟨(d,⟨[],r⟩) :: st.sl,gF ++ st.bx.drop n1,bP ++ st.tk.drop m1⟩) (aY:X.still=false:=by exact rfl):CallG X f args (some d) k st:=by
 refine ⟨jS,aY,fun E a w vs h hv=>(zj n1 m1 Cd iE Ck ha hc aY h hv).mono ?_⟩;rintro e w' ⟨v,r,gF,bP,E',rfl,hΦ,F1,rI,cq,Ij,_,_,_⟩;exact go_sound 4000 _ _ (hk r gF bP hΦ F1 rI) E' _ w' (aV cq hd r v Ij)
theorem Ke {all:Array Oper} {o1 o2 o3:Oper} {r:List Oper} {d1 d2 kt t sT f off ft ty et e jR m R7 nn:Nat} {bb:Bool} {zz:List Value} {z:Int} {kd:IntKind} {es:List (List DV)} {cs:List DV} {s ix x:Operand} {dv YC:DV}
  (h1:o1.op = .indexAddr t s ix/\o1.dst=some d1) (h2:o2.op = .fieldAddr sT (.tmp d1) f/\o2.dst=some d2/\o2.guard=none) (h3:o3.op = .store ty (.tmp d2) x/\o3.dst=none/\o3.guard=none)
  (EY:e9 X.nt st.sl (some d1)=true) (LS:e9 X.nt ((d1,⟨[],.pt [] 0⟩) :: st.sl) (some d2)=true)
  (hs:rv st [] s=some (.sl 0 es (some kt))) (hi:rv st [] ix=some (.v (.int kd z))) (hx:rv ⟨(d2,⟨[],.pt [] 0⟩) :: (d1,⟨[],.pt [] 0⟩) :: st.sl,st.bx,st.tk⟩ [] x=some dv) (hdv:eraD dv=some YC) (YD:dv.cells=[dv])
  (hT:X.T.find t=some ⟨nn,bb,.sl et e jR,zz⟩) (tG:X.T.off sT f=some (off,ft)) (bM:X.T.sz ty=some 1)
  (hq:st.tk[kt]? = some ⟨m,R7,e,some cs⟩) (iR:es.length=m) (hz:0<=z/\z < m) (eB:off + 1<=e)
  (hk:go X 4000 (.ops all r :: k) ⟨(d2,⟨[],.pt [] 0⟩) :: (d1,⟨[],.pt [] 0⟩) :: st.sl,st.bx,st.tk.set kt ⟨m,R7,e,some (cs.set (z.toNat * e + off) YC)⟩⟩)
  (aY:X.still=false:=by exact rfl):HE X o1 (.ops all (o2 :: o3 :: r) :: k) st:=by
 intro E a w h;have gD:=h.rl;have e1:=aP gD hs;have e2:=bS (aP gD hi);unfold Rv at e1;obtain ⟨bs,ns,mq,e1,⟨x7,Fh⟩,Tf,Al⟩:=e1;subst x7;obtain ⟨q',ml,_,Wa⟩:=Al kt rfl;have kA:E.tk[kt]? = some ⟨m,R7,e,some cs⟩:=by rw [h.tk];exact hq
 rw [kA] at ml;simp only [oI] at ml;subst ml;have hy:=Wa iR;rw [e1,iR] at hy;rw [iR] at e1;have YE:=h.env.cA kt _ _ kA hy;rcases YE with ⟨oh,oe,_⟩ | ⟨g,cap,cur,oh,hw0,⟨Co,LG⟩,Jx,Jy,gI,LH⟩
 ·simp only at oe;omega
 injection oh with i1 i2 i3
 subst i1 i3;obtain ⟨hu,ii,zv,yD,_,F2,_,_⟩:=eC X.hT hT;have oa:iu X.P et=some e:=by rw [gm yD,F2]
 have YF:(execOp a.eval o1).run X.P w = .ok (.value (.pointer (some ⟨g,z.toNat * e,none⟩))) w:=by
  have bU:(Instr.indexAt t (.slice (some ⟨g,0,none⟩) m mq) (.int kd z)).run X.P w = .ok (.pointer (some ⟨g,z.toNat * e,none⟩)) w:=by
   simp [Instr.indexAt,asIntOf,run_underlying hu,hz.1,hz.2,aH oa,Addr.add_lit]
  simp only [execOp,h1.1,e1,e2,Sem.run_bind,bU,Result.andThen_ok,Sem.run_pure]
 refine gn YF ?_;rw [h1.2];have hr1:Rel X E ⟨(d1,⟨[],.pt [] 0⟩) :: st.sl,st.bx,st.tk⟩ (a.put (some d1) (.pointer (some ⟨g,z.toNat * e,none⟩))) w:=aV h EY (.pt [] 0) _ (by unfold Rv;exact ⟨g,z.toNat * e,rfl,by simp only [RvAt]⟩);generalize ha1:a.put (some d1) (.pointer (some ⟨g,z.toNat * e,none⟩))=a1 at hr1
 have ht1:a1.eval (.tmp d1) = .pointer (some ⟨g,z.toNat * e,none⟩):=by
  subst ha1;simp only [e9,aO,Nat.blt_eq] at EY;simp [Act.eval,Act.put,h.sz,EY.1]
 show kq X (.ops all (o2 :: o3 :: r) :: k) .normal a1 w;simp only [kq,wpList,Region.wanted,h2.2.2,h3.2.2,if_true];refine .inl (gn (v:=.pointer (some ⟨g,z.toNat * e + off,none⟩)) (w':=w) ?_ ?_)
 ·simp only [execOp,h2.1,ht1,Sem.run_bind,iO (qU X.hT tG),Result.andThen_ok,Sem.run_pure]
 rw [h2.2.1];have hr2:Rel X E ⟨(d2,⟨[],.pt [] 0⟩) :: (d1,⟨[],.pt [] 0⟩) :: st.sl,st.bx,st.tk⟩ (a1.put (some d2) (.pointer (some ⟨g,z.toNat * e + off,none⟩))) w:=aV hr1 LS (.pt [] 0) _ (by unfold Rv;exact ⟨g,z.toNat * e + off,rfl,by simp only [RvAt]⟩);generalize HO:a1.put (some d2) (.pointer (some ⟨g,z.toNat * e + off,none⟩))=a2 at hr2
 have VH:a2.eval (.tmp d2) = .pointer (some ⟨g,z.toNat * e + off,none⟩):=by
  subst HO;simp only [e9,aO,Nat.blt_eq] at LS;simp [Act.eval,Act.put,hr1.sz,LS.1]
 have e3:=aP hr2.rl hx
 have j1:RvC E [dv] (a2.eval x).cells.toList:=by
  have:=e3.cells (jb (n:=1) (by rw [YD];rfl) (by omega))
  rwa [YD] at this
 have x5:(a2.eval x).cells.toList.length=1:=by rw [j1.1.length];all_goals rfl
 obtain ⟨xv,hxv⟩:∃ xv,(a2.eval x).cells.toList=[xv]:=by
  match hh:(a2.eval x).cells.toList,x5 with
  | [y],_=>exact ⟨y,rfl⟩
 obtain ⟨h5,h6⟩:=LG cs rfl;simp only at h5 h6 Co hw0 Jx;have YG:cur.toList.length=mq * e:=sU Co;have hme:m * e<=mq * e:=Nat.mul_le_mul_right _ Jx
 have kk:z.toNat * e + off + 1<=m * e:=by
  have:(z.toNat + 1) * e<=m * e:=Nat.mul_le_mul_right _ (by omega);rw [Nat.add_mul] at this;omega
 have V6:=lk (P:=X.P) (t:=ty) (off:=z.toNat * e + off) (n:=1) hw0 (HJ X.hT bM) x5 (by rw [Co];omega) (List.all_eq_true.2 j1.2);refine .inl (Pp (w':=World.cS w g (.cells ((cur.toList.take (z.toNat * e + off) ++ (a2.eval x).cells.toList ++ cur.toList.drop (z.toNat * e + off + 1)).toArray) R7 (0,0))) ?_ ?_)
 ·simp only [execOp,h3.1,VH,Instr.storeAt,Instr.sureAddr,Sem.run_bind,Sem.run_pure,Result.andThen_ok,V6]
 rw [h3.2.1]
 have Ti:cur.toList.take (z.toNat * e + off) ++ (a2.eval x).cells.toList ++ cur.toList.drop (z.toNat * e + off + 1)=cur.toList.set (z.toNat * e + off) xv:=by
  rw [hxv,List.set_eq_take_append_cons_drop,aj (by omega)];simp
 rw [Ti]
 have hx1:RvC E.cl [YC] [xv]:=by
  rw [hxv] at j1;have h7:=j1.1;simp only [RvL] at h7;obtain ⟨v,s',h8,h9,sx⟩:=h7;simp only [List.cons.injEq] at h8;obtain ⟨rfl,rfl⟩:=h8;exact ⟨rvL_cons (uN hdv h9) (by simp only [RvL]),j1.2⟩
 have OZ:E6 (World.cS w g (.cells (cur.toList.set (z.toNat * e + off) xv).toArray R7 (0,0))) E.c E.β ⟨m,R7,e,some (cs.set (z.toNat * e + off) YC)⟩ (.slice (some ⟨g,0,none⟩) m mq):=by
  refine .inr ⟨g,mq,_,rfl,dy hw0,⟨by simpa using YG,fun cs' Lz=>?_⟩,Jx,Jy,gI,LH⟩;simp only [oI] at Lz;subst Lz;simp only;refine ⟨by rw [List.length_set];exact h5,?_⟩;rw [List.take_set];have al:z.toNat * e + off < (cur.toList.take (m * e)).length:=by rw [dE];omega
  rw [List.set_eq_take_append_cons_drop,aj (by omega),List.set_eq_take_append_cons_drop,aj al];have h8:=(RvC.take (z.toNat * e + off) h6).append (RvC.append hx1 (RvC.drop (z.toNat * e + off + 1) h6));simpa using h8
 have Ts:some g≠some g->False:=fun h=>h rfl
 obtain ⟨cq,hext⟩:=HN (q':=⟨m,R7,e,some (cs.set (z.toNat * e + off) YC)⟩) (w':=World.cS w g (.cells (cur.toList.set (z.toNat * e + off) xv).toArray R7 (0,0))) hr2 aY kA hy rfl rfl rfl (.inl ⟨rfl,rfl⟩) OZ (.inl rfl) rfl rfl rfl (by rw [fV];exact aJ _) (fun j _ aT=>b9 (by
  rintro rfl
  exact aT rfl))
 exact go_sound 4000 _ _ hk _ _ _ cq
open Classical in
noncomputable def Dg (E:En) (w:World) (y:Value) (n:Nat):Addr->Option Value:=
 fun x=>if y.ownBlock=some x.block/\x.spot=none/\x.off < n then w.cell? x else E.c x
theorem jH {y:Value} {n:Nat} {x:Addr} {v:Value} (h:Dg E w y n x=some v):(y.ownBlock=some x.block/\x.spot=none/\x.off < n/\w.cell? x=some v)∨E.c x=some v:=by
 unfold Dg at h
 grind
theorem P6 (h:Rel X E st a w) {k n ty e:Nat} {cs:List DV} {ns:List (List DV)} (hq:st.tk[k]? = some ⟨n,ty,e,some cs⟩) (cx:cs=ns.flatten) (x7:∀ x∈ns,x.length=e) (gW:ns.length=n) :
  ∃ E',Rel X E' ⟨st.sl,st.bx,st.tk.set k ⟨n,ty,e,none⟩⟩ a w/\Ext E E' /\ ∀ es y,es.length=n->Rv E (.sl 0 es (some k)) y->Rv E' (.sl e ns (some k)) y:=by
 subst cx;have kA:E.tk[k]? = some ⟨n,ty,e,some ns.flatten⟩:=by rw [h.tk];exact hq
 have gC:=(gS kA).1;have V5:k < E.τ.length:=by rw [h.env.tl];exact gC
 have hv:E.τ[k]? = some E.τ[k]:=gE V5;generalize E.τ[k]=v at hv;have YE:=h.env.cA k _ v kA hv
 have fW:∀ x u,E.c x=some u->Dg E w v (n * e) x=some u:=fun x u hx=>by
  unfold Dg;split
  ·exact h.env.sub x u hx
  ·exact hx
 have hext:Ext E ⟨Dg E w v (n * e),E.β,E.tk.set k ⟨n,ty,e,none⟩,E.τ⟩:=⟨fW,fun _ _ h=>h,fun j q hqj=>by
  by_cases hj:j=k
  ·subst hj;rw [kA] at hqj;simp only [oI] at hqj;subst hqj;exact ⟨_,gj gC,.inl ⟨rfl,rfl⟩⟩
  ·exact ⟨q,by rw [List.getElem?_set_ne (Ne.symm hj)];exact hqj,.inl ⟨rfl,rfl⟩⟩⟩
 refine ⟨⟨Dg E w v (n * e),E.β,E.tk.set k ⟨n,ty,e,none⟩,E.τ⟩,dt h hext ?_ (by rw [h.tk]) ?_ h.fr h.sh h.bt,hext,?_⟩
 ·exact {
   len:=h.env.len
   tl:=by simp only [List.length_set];exact h.env.tl
   eo:=fun i cs hi=>by
    obtain ⟨b,t,arr,hb,hw,hc⟩:=h.env.eo i cs hi;exact ⟨b,t,arr,hb,hw,hc.mono hext⟩
   inj:=h.env.inj
   sub:=fun x u hx=>by
    rcases jH hx with ⟨_,_,_,h1⟩ | h1
    ·exact h1
    ·exact h.env.sub x u h1
   pc:=fun x u hx hm=>by
    rcases jH hx with ⟨h1,_⟩ | h1
    ·exact (iF YE h1).2 hm
    ·exact h.env.pc x u h1 hm
   cA:=fun j q y hj hy=>by
    by_cases hjk:j=k
    ·subst hjk;have jd:(E.tk.set j ⟨n,ty,e,none⟩)[j]? = some q:=hj;rw [gj gC] at jd;have gH:E.τ[j]? = some y:=hy;rw [hv] at gH;simp only [oI] at jd gH;subst jd gH;rcases YE with ⟨h1,h2,_⟩ | ⟨g,cap,cur,rfl,h1,h2,h3,h4,h5,h6⟩
     ·exact .inl ⟨h1,h2,fun cs hc=>by cases hc⟩
     ·refine .inr ⟨g,cap,cur,rfl,h1,⟨h2.1,pu.none rfl⟩,h3,h4,h5,fun x u hx Ff=>?_⟩;rcases jH hx with ⟨_,_,h7,_⟩ | h7
      ·exact h7
      ·have:=h6 x u h7 Ff;simp only [TkE.kn] at this;omega
    ·have jd:E.tk[j]? = some q:=by
      have:(E.tk.set k ⟨n,ty,e,none⟩)[j]? = some q:=hj
      rwa [List.getElem?_set_ne (Ne.symm hjk)] at this
     rcases h.env.cA j q y jd hy with h1 | ⟨g,cap,cur,rfl,h1,h2,h3,h4,h5,h6⟩
     ·exact .inl h1
     ·refine .inr ⟨g,cap,cur,rfl,h1,⟨h2.1,h2.2.mono fW⟩,h3,h4,h5,fun x u hx Ff=>?_⟩;rcases jH hx with ⟨h7,_⟩ | h7
      ·exact (h.env.ja j k _ v g hjk hy hv rfl (by rw [h7,Ff])).elim
      ·exact h6 x u h7 Ff
   ja:=h.env.ja }
 ·exact {
   c:=fun x u hx=>fW x u (h.nw.c x u hx)
   cn:=fun x u hx=>by
    rcases jH hx with ⟨h1,_⟩ | h1
    ·rcases h.nw.own hv h1 with h2 | h2
     ·exact .inr (.inr h2)
     ·exact .inr (.inl h2)
    ·exact h.nw.cn x u h1
   β:=h.nw.β
   tk:=fun j q0 y0 tE Fb=>by
    obtain ⟨q1,y1,h1,h2,h3,h4,h5,h6⟩:=h.nw.tk j q0 y0 tE Fb;by_cases hj:j=k
    ·subst hj;rw [kA] at h1;simp only [oI] at h1;subst h1;exact ⟨_,y1,gj gC,h2,h3,h4,h5,h6⟩
    ·exact ⟨q1,y1,by rw [List.getElem?_set_ne (Ne.symm hj)];exact h1,h2,h3,h4,h5,h6⟩
   tn:=fun j y g hj hy=>h.nw.tn j y g hj hy
   l0:=h.nw.l0 }
 ·intro es y iR hy;unfold Rv at hy ⊢;obtain ⟨b,m,cap,rfl,⟨rfl,hmc⟩,hr,aY⟩:=hy;obtain ⟨q',ml,_,hτ⟩:=aY k rfl;rw [kA] at ml;simp only [oI] at ml;subst ml;have hy:=hτ iR;rw [hv] at hy;simp only [oI] at hy;subst hy;refine ⟨b,es.length,cap,rfl,⟨by omega,hmc⟩,fun aT=>?_,fun k' gB=>?_⟩
  ·rcases YE with ⟨h1,h2,h3⟩ | ⟨g,V3,cur,h0,h1,h2,h3,h4,h5,h6⟩
   ·simp only at h2;exact (aT (List.eq_nil_of_length_eq_zero (by omega))).elim
   ·injection h0 with i1 i2 i3
    subst i1;refine ⟨rfl,?_⟩;obtain ⟨h7,h8⟩:=h2.2 _ rfl;refine rvEs_flat (h8.mono (E:=⟨E.c,[],[],[]⟩) ⟨fW,fun _ _ h=>by simp at h,fun _ _ h=>by simp at h⟩) x7 fun j u hj=>?_;rw [bY] at hj;split at hj
    ·rename_i n8;show Dg E w _ (n * e) _=_;unfold Dg;rw [aj ⟨rfl,rfl,by simpa [ao] using n8⟩];simp only [ab,ao,Nat.zero_add];rw [cd h1];simpa using hj
    ·cases hj
  ·cases gB;exact ⟨_,gj gC,by simp only;omega,fun _=>hv⟩
theorem Uh {j o k n ty e:Nat} {Lk:List DV} {es ns:List (List DV)} (hq:st.tk[k]? = some ⟨n,ty,e,some ns.flatten⟩) (x7:∀ x∈ns,x.length=e) (gW:ns.length=n) (hj:st.bx[j]? = some Lk) (ho:Lk[o]? = some (.sl 0 es (some k))) (iR:es.length=n) :
  Wk X st ⟨st.sl,st.bx.set j (Lk.set o (.sl e ns none)),st.tk.set k ⟨n,ty,e,none⟩⟩:=by
 intro E a w h;obtain ⟨E',hr,hx,qZ⟩:=P6 h hq rfl x7 gW;refine ⟨E',{ hr with env:=?_ }⟩
 exact { hr.env with
  len:=by simp only [List.length_set];exact hr.env.len
  eo:=fun i cs' hi=>by
   by_cases BZ:i=j
   ·subst BZ;have al:=(gS hj).1;have gk:(st.bx.set i (Lk.set o (.sl e ns none)))[i]? = some cs':=hi;rw [gj al] at gk;simp only [oI] at gk;subst gk;obtain ⟨b,t,arr,hb,hw,hc⟩:=hr.env.eo i Lk hj;obtain ⟨b0,t0,Jz,gI,hw0,LH⟩:=h.env.eo i Lk hj;have gT:=hx.β i b0 gI;rw [hb] at gT;simp only [oI] at gT;subst gT;rw [hw] at hw0;simp only [oI,Obj.cells.injEq] at hw0
    have FD:arr=Jz:=by
     have:=hw0.1;simpa using this
    subst FD;refine ⟨b,t,arr,hb,hw,?_,hc.2⟩;obtain ⟨v,tY,OW⟩:=LH.1.get ho;have Ij:=qZ es v iR OW;have kB:=(gS ho).1;have Pq:arr.length=Lk.length:=hc.1.length
    have h1:=(RvL.take o hc.1).append (rvL_cons (d:=.sl e ns none) (v:=v) (by
     unfold Rv at Ij ⊢;obtain ⟨b,n,cap,g1,g2,g3,_⟩:=Ij
     exact ⟨b,n,cap,g1,g2,g3,fun k hk=>by cases hk⟩) (RvL.drop (o + 1) hc.1))
    rw [List.set_eq_take_append_cons_drop,aj kB]
    have h2:arr.take o ++ v :: arr.drop (o + 1)=arr:=by
     have hoa:o < arr.length:=by omega
     have:arr[o]=v:=by grind
     rw [<- this];simp
    rwa [h2] at h1
   ·have gk:(st.bx.set j (Lk.set o (.sl e ns none)))[i]? = some cs':=hi;rw [List.getElem?_set_ne (Ne.symm BZ)] at gk
    exact hr.env.eo i cs' gk }
theorem Wk.Fw (i j:Nat) (S S':St) (he:S'=fu i j S) (LA:Nat.ble X.n0 i=true) (Cj:Nat.ble X.n0 j=true) (hi:Nat.blt i S.bx.length=true) (hj:Nat.blt j S.bx.length=true) (hX:X.bt=[]:=by exact rfl):Wk X S' S:=fun E a w h=>by
 subst he;simp only [Nat.blt_eq] at hi hj;exact HZ hX h (nL LA) (nL Cj) hi hj
theorem Ng {c:Code} (I:Nat->St->Prop) (j0:Nat) (lf:St) (hw:Wk X st lf) (h0:I j0 lf)
  (hr:∀ j s,I j s->go X 4000 (.code c :: .HC (fun s'=>∃ Cu,Wk X s' Cu /\ ∃ j',j' < j/\I j' Cu) :: k) s):og X c k st:=by
 intro E a w h;obtain ⟨E0,hr0⟩:=hw _ _ _ h
 classical
 let Inv:Act->World->Prop:=fun a w=>∃ j s E,Rel X E s a w/\I j s
 let μ:Act->World->Nat:=fun a w=>if hI:Inv a w then Classical.choose (least hI) else 0
 refine wp_loop Inv μ ⟨j0,lf,E0,hr0,h0⟩ ?_;intro a1 w1 hI;have yK:=(Classical.choose_spec (least hI)).1;obtain ⟨s,E1,cq,hIs⟩:=yK;have hs:=go_sound 4000 _ _ (hr _ s hIs) E1 a1 w1 cq;rw [eP] at hs;refine wp_mono hs ?_;intro e a2 w2 hq
 cases e with
 | normal=>
  obtain ⟨s',E2,Cv,Cu,Pw,j',jd,Wn⟩:=hq;obtain ⟨E3,Cw⟩:=Pw _ _ _ Cv;have Tq:Inv a2 w2:=⟨j',Cu,E3,Cw,Wn⟩;refine ⟨Tq,?_⟩;simp only [μ,dif_pos hI,dif_pos Tq];exact Nat.lt_of_le_of_lt ((Classical.choose_spec (least Tq)).2 j' ⟨Cu,E3,Cw,Wn⟩) jd
 | exit id=>exact hq
 | goto l=>exact hq
 | ret=>exact hq
 | panic c=>exact hq
 | outgrown=>exact hq
mutual
def flatD:DV->Bool
 | .v _=>true
 | .agg l=>flatL l
 | .tup l=>flatL l
 | _=>false
def flatL:List DV->Bool
 | []=>true
 | d :: r=>flatD d && flatL r
end
mutual
theorem Rv.flat {E E':En}:∀ {d:DV} {v:Value},flatD d=true->Rv E d v->Rv E' d v
 | .v x,v,_,h=>by unfold Rv at h ⊢;exact h
 | .agg l,v,hf,h=>by
  simp only [flatD] at hf;simp only [Rv] at h ⊢;obtain ⟨vs,h1,h2,h3⟩:=h;exact ⟨vs,h1,RvL.flat hf h2,h3⟩
 | .tup l,v,hf,h=>by
  simp only [flatD] at hf;simp only [Rv] at h ⊢;obtain ⟨vs,h1,h2⟩:=h;exact ⟨vs,h1,RvL.flat hf h2⟩
 | .ud,_,hf,_=>by simp [flatD] at hf
 | .sl _ _ _,_,hf,_=>by simp [flatD] at hf
 | .pt _ _,_,hf,_=>by simp [flatD] at hf
 | .loc _ _,_,hf,_=>by simp [flatD] at hf
 | .el _ _,_,hf,_=>by simp [flatD] at hf
 | .ms _ _ _ _ _,_,hf,_=>by simp [flatD] at hf
 | .fn _ _ _,_,hf,_=>by simp [flatD] at hf
 | .su _ _,_,hf,_=>by simp [flatD] at hf
theorem RvL.flat {E E':En}:∀ {l:List DV} {vs:List Value},flatL l=true->RvL E l vs->RvL E' l vs
 | [],vs,_,h=>by simpa only [RvL] using h
 | d :: r,vs,hf,h=>by
  simp only [flatL,aO] at hf;simp only [RvL] at h ⊢;obtain ⟨v,s,h1,h2,h3⟩:=h;exact ⟨v,s,h1,Rv.flat hf.1 h2,RvL.flat hf.2 h3⟩
end
theorem ID {f:FuncId} {args bo:List DV} {d:Nat} {y:DV} (jS:Enters X.P f) (hc:EvP X.P f bo y) (ha:CcL st.bx 0 0 0 bo args) (hy:flatD y=true) (hd:e9 X.nt st.sl (some d)=true)
  (hk:go X 4000 k ⟨(d,⟨[],y⟩) :: st.sl,st.bx,st.tk⟩) (aY:X.still=false:=by exact rfl):CallG X f args (some d) k st:=by
 refine ⟨jS,aY,fun E a w vs h hv=>(iU h.env hc ha hv).mono ?_⟩;rintro e w' ⟨v,E2,rfl,hr,hm,_⟩;have hh:∀ i,i < w.heap.size->w'.heap[i]? = w.heap[i]?:=fun i hi=>hm.block i hi (fun h=>h);have cq:Rel X E st a w':=dt h (Ext.refl E) (h.env.kj hh) h.tk h.nw (h.fr.cg hm.os hm.tape hm.output hm.size fun i hi=>.inr (hh i hi)) (n7 aY) (h.bt.kj fun b hb=>hh b (h.env.aZ hb));exact go_sound 4000 _ _ hk E _ w' (aV cq hd y v (Rv.flat hy hr))
theorem qa {D:Dr} {c:Bool} {i:Nat} {s0:List (Nat × Sl)} {f:FuncId} {args bo:List DV} {d:Nat} {y:DV} {r:List (Nat × Oper)} (jS:Enters X.P f) (hc:EvP X.P f bo y) (ha:CcL st.bx 0 0 0 bo args) (hy:flatD y=true) (hd:(e9 X.nt st.sl (some d) && e9 X.nt s0 (some d))=true)
  (hk:put2 s0 st (some d) true [] y (goD X D 3000 c r)) (aY:X.still=false:=by exact rfl):yQ X D c i r f args (some d) s0 st:=by
 refine ⟨jS,fun hl E0 wr hD E a w vs h hv=>(iU h.rel.env hc ha hv).mono ?_⟩;rintro e w' ⟨v,E2,rfl,hr,hm,_⟩;have hh:∀ i,i < w.heap.size->w'.heap[i]? = w.heap[i]?:=fun i hi=>hm.block i hi (fun h=>h);have cq:Rel X E st a w':=dt h.rel (Ext.refl E) (h.rel.env.kj hh) h.rel.tk h.rel.nw (h.rel.fr.cg hm.os hm.tape hm.output hm.size fun i hi=>.inr (hh i hi)) (n7 aY) (h.rel.bt.kj fun b hb=>hh b (h.rel.env.aZ hb));have hs:K9 none E w E w':=⟨Ext.refl E,⟨[],by simp⟩,fun j b hb _=>hh b (h.rel.env.aZ (mG hb))⟩;have hC:=HU h hs cq (fun j hj=>by cases hj);refine ⟨v,rfl,fun _=>hC,?_⟩;have LV:gh X ⟨D,E0,wr⟩ c E s0 st (a.put none v) w':=uX h hs cq (fun h1=>hC (h.cc h1)) (fun i x hx=>.inr ⟨hx,fun d hd=>by cases hd⟩) rfl;obtain ⟨s1,rc,oi,eI⟩:=jy LV hd true [] y v (fun _ _ p hp=>by cases hp) (fun _=>Rv.flat hy hr) (fun _ _=>Rv.flat hy hr) (fun hn=>(hn (bd _)).elim) hk;exact gV (D:=⟨D,E0,wr⟩) hD 3000 c r _ _ oi hl E _ w' eI
theorem CallG.Fw {S:St} {f:FuncId} {args bo:List DV} {dst:Option Nat} (i j:Nat) (hS:st=fu i j S) (ha:args=renL (swp i j) bo) (LA:Nat.ble X.n0 i=true) (Cj:Nat.ble X.n0 j=true) (hi:Nat.blt i S.bx.length=true) (hj:Nat.blt j S.bx.length=true)
  (h:CallG X f bo dst k S) (hX:X.bt=[]:=by exact rfl):CallG X f args dst k st:=by
 subst hS ha;simp only [Nat.blt_eq] at hi hj;refine ⟨h.1,h.2.1,fun E a w vs hr hv=>?_⟩
 have hlen:E.β.length=S.bx.length:=by
  rw [hr.env.len];simp only [fu,eQ,dQ]
 exact h.2.2 _ a w vs (CB hX hr (nL LA) (nL Cj) hi hj) (RvL.Fw (by rw [hlen];exact hi) (by rw [hlen];exact hj) hv)
end
end Dv
end Go.Proofs.YtgjagnmeonoehaaGreat
set_option maxRecDepth 100000
namespace Go.Proofs.YtgjagnmeonoehaaGreat
open Go Go.RowKit Dv Go.Proofs.Tryz
def cZ (l:List Int):List DV:=l.map fun z=>DV.v (.int .i64 z)
def F3 (af:List ByteArray) (tb lq:DV) (js:List Int):List DV:=.sl 1 (ey af) none :: tb :: lq :: cZ js
def oz:Option Nat->Int
 | none=>-1
 | some k=>(k:Int)
def Dh (pb:Nat->Nat->Bool) (e:Nat):Option Nat->Bool
 | none=>true
 | some o=>pb e o
def bestA (kv:Nat->Bool) (pb:Nat->Nat->Bool):Nat->Option Nat
 | 0=>none
 | e + 1=>if kv e && Dh pb e (bestA kv pb e) then some e else bestA kv pb e
def mY (kv:Nat->Bool) (pb:Nat->Nat->Bool) (n:Nat):Option Nat:=
 match bestA kv pb n with
 | none=>none
 | some o=>if (List.range n).any (fun c=>kv c && !pb o c) then none else some o
theorem mZ {kv:Nat->Bool} {pb:Nat->Nat->Bool}:∀ {e k:Nat},bestA kv pb e=some k->k < e
 | 0,k,h=>by cases h
 | e + 1,k,h=>by
  rw [bestA] at h;split at h
  ·simp only [oI] at h;omega
  ·have:=mZ h;omega
theorem rJ (af:List ByteArray) (tb:DV) (rows:List Nat) (js:List Int) (hr:dL rows) (a b:Nat) (ha:a < rows.length) (hb:b < rows.length) :
  EvP prog 193 [.v (.int .i64 a),.v (.int .i64 b),.pt [.pt (F3 af tb (mw rows) js) 0] 0] (.v (.bool (aN rows a b))):=by
 have h1:=kG rows hr a b;rw [pW ha hb] at h1;refine eG 13 [.tmp 5] func193 rfl ntmps193 rfl fun _ _ _ _=>?_;refine cP CF h1 ?_;exact (rfl:_=_)
theorem rK (af:List ByteArray) (tb:DV) (rows:List Nat) (js:List Int) (hr:dL rows) (a b:Nat) (ha:a < rows.length) (hb:b < rows.length) :
  EvP prog 194 [.v (.int .i64 a),.v (.int .i64 b),.pt [.pt (F3 af tb (mw rows) js) 0] 0] (.v (.bool (aN rows b a))):=by
 have h1:=kG rows hr b a;rw [pW hb ha] at h1;refine eG 13 [.tmp 5] func194 rfl ntmps194 rfl fun _ _ _ _=>?_;refine cP CF h1 ?_;exact (rfl:_=_)
abbrev R8 (L:List DV):DV:=.fn 193 [] [.pt [.pt L 0] 0]
abbrev R9 (L:List DV):DV:=.fn 194 [] [.pt [.pt L 0] 0]
theorem Kf (af:List ByteArray) (tb:DV) (rows:List Nat) (js:List Int) (hr:dL rows) (a b c:Nat) (ha:a < rows.length) (hb:b < rows.length) (hc:c < rows.length) :
  EvP prog 196 [.v (.int .i64 c),.pt [R8 (F3 af tb (mw rows) js)] 0,.pt [.v (.int .i64 a)] 0,.pt [.v (.int .i64 b)] 0] (.v (.bool (aN rows a c && aN rows b c))):=by
 have h1:=rJ af tb rows js hr a c ha hc;have h2:=rJ af tb rows js hr b c hb hc;refine eG 16 [.tmp 5] func196 rfl ntmps196 rfl fun _ _ _ _=>?_;refine cP Mc h1 ?_;refine br ?_ ?_<;>intro g
 ·have g:aN rows a c=true:=sU g;refine cP Mc h2 ?_;refine (bH ?_:);simp [g,pickB]
 ·have g:aN rows a c=false:=sU g;refine (bH ?_:);simp [g,pickB]
theorem Kg (af:List ByteArray) (tb:DV) (rows:List Nat) (js:List Int) (hr:dL rows) (a b c:Nat) (ha:a < rows.length) (hb:b < rows.length) (hc:c < rows.length) :
  EvP prog 197 [.v (.int .i64 c),.pt [R9 (F3 af tb (mw rows) js)] 0,.pt [.v (.int .i64 a)] 0,.pt [.v (.int .i64 b)] 0] (.v (.bool (aN rows c a && aN rows c b))):=by
 have h1:=rK af tb rows js hr a c ha hc;have h2:=rK af tb rows js hr b c hb hc;refine eG 16 [.tmp 5] func197 rfl ntmps197 rfl fun _ _ _ _=>?_;refine cP Md h1 ?_;refine br ?_ ?_<;>intro g
 ·have g:aN rows c a=true:=sU g;refine cP Md h2 ?_;refine (bH ?_:);simp [g,pickB]
 ·have g:aN rows c a=false:=sU g;refine (bH ?_:);simp [g,pickB]
abbrev Ui (L:List DV) (gi gb:Nat) (ci cb:List DV) (n:Nat) (o:Int) (e:Nat):St:=
 ⟨[oJ 0 L,(1,⟨[],.fn gi [] ci⟩),(2,⟨[],.fn gb [] cb⟩),ap 7 o,ap 14 n,ap 15 e],[],[]⟩
abbrev IE (L:List DV) (gi gb:Nat) (ci cb:List DV) (n:Nat) (o:Int) (e:Nat):St:=
 ⟨[oJ 0 L,(1,⟨[],.fn gi [] ci⟩),(2,⟨[],.fn gb [] cb⟩),ap 7 o,ap 37 n,ap 38 e],[],[]⟩
theorem zk (af:List ByteArray) (tb lq:DV) (js:List Int) (gi gb:Nat) (hei:Enters prog gi) (heb:Enters prog gb) (ci cb:List DV) (kv:Nat->Bool) (pb:Nat->Nat->Bool)
  (YH:CcL [] 0 0 0 ci ci) (YI:CcL [] 0 0 0 cb cb) (hcli:clB.clL 0 0 ci=true) (hclb:clB.clL 0 0 cb=true) (hn:af.length<=64)
  (ru:∀ c:Nat,c < af.length->EvP prog gi (.v (.int .i64 c) :: ci) (.v (.bool (kv c))))
  (hpb:∀ a b:Nat,a < af.length->b < af.length->EvP prog gb (.v (.int .i64 a) :: .v (.int .i64 b) :: cb) (.v (.bool (pb a b)))) :
  EvP prog 195 [.pt (F3 af tb lq js) 0,.fn gi [] ci,.fn gb [] cb] (.v (.int .i64 (oz (mY kv pb af.length)))):=by
 have hN:=bL af;have AV:clB 0 0 (.fn gi [] ci)=true:=by simp only [clB,aO];exact ⟨rfl,hcli⟩
 have IF:clB 0 0 (.fn gb [] cb)=true:=by simp only [clB,aO];exact ⟨rfl,hclb⟩
 refine eG 57 [.tmp 6] func195 rfl ntmps195 rfl fun _ _ _ _=>?_;refine lJ (fun e=>Ui (F3 af tb lq js) gi gb ci cb (ey af).length (oz (bestA kv pb e)) e) af.length (wkM (wB2 AV IF)) ?_;intro e he;refine br ?_ ?_<;>intro hL
 ·have al:e < af.length:=by have:=hL;simp [hN] at this;exact this
  have hs:bestA kv pb (e + 1)=if kv e && Dh pb e (bestA kv pb e) then some e else bestA kv pb e:=rfl
  refine cP hei (ru e al) ?_ ⟨_,_,rfl,rfl,YH⟩
  cases hA:bestA kv pb e with
  | none=>
   rw [hA] at hs;refine br ?_ ?_<;>intro g
   ·have g:kv e=true:=by simpa [lastG] using g
    have hz:(e:Int)=oz (bestA kv pb (e + 1)):=by rw [hs,g];all_goals rfl
    exact rE ⟨_,by omega,e + 1,rfl,by omega,rfl⟩ (wkM (Wo AV IF (nxt al (by omega)) hz))
   ·have g:kv e=false:=by simpa [lastG] using g
    have hz:oz none=oz (bestA kv pb (e + 1)):=by rw [hs,g];all_goals rfl
    exact rE ⟨_,by omega,e + 1,rfl,by omega,rfl⟩ (wkM (Wo AV IF (nxt al (by omega)) hz))
  | some k=>
   rw [hA] at hs;have hk:=mZ hA;refine br ?_ ?_<;>intro g
   ·have g:kv e=true:=by simpa [lastG] using g
    refine cP heb (hpb e k al (by omega)) ?_ ⟨_,_,rfl,rfl,_,_,rfl,rfl,YI⟩;refine br ?_ ?_<;>intro g2
    ·have g2:pb e k=true:=by simpa [pickB,g,lastG] using g2
     have hz:(e:Int)=oz (bestA kv pb (e + 1)):=by rw [hs,g,Dh,g2];all_goals rfl
     exact rE ⟨_,by omega,e + 1,rfl,by omega,rfl⟩ (wkM (Wo AV IF (nxt al (by omega)) hz))
    ·have g2:pb e k=false:=by simpa [pickB,g,lastG] using g2
     have hz:oz (some k)=oz (bestA kv pb (e + 1)):=by rw [hs,g,Dh,g2];all_goals rfl
     exact rE ⟨_,by omega,e + 1,rfl,by omega,rfl⟩ (wkM (Wo AV IF (nxt al (by omega)) hz))
   ·have g:kv e=false:=by simpa [lastG] using g
    have hz:oz (some k)=oz (bestA kv pb (e + 1)):=by rw [hs,g];all_goals rfl
    exact rE ⟨_,by omega,e + 1,rfl,by omega,rfl⟩ (wkM (Wo AV IF (nxt al (by omega)) hz))
 ·have aM:e=af.length:=sW hN hL;subst aM;refine lI (fun j st=>∃ e:Nat,st=IE (F3 af tb lq js) gi gb ci cb (ey af).length (oz (bestA kv pb af.length)) e/\e<=af.length/\(∀ o,bestA kv pb af.length=some o->∀ c,c < e->(kv c && !pb o c)=false)/\j=af.length - e) ⟨0,rfl,by omega,fun _ _ c hc=>by omega,rfl⟩ (wkM (wB2 AV IF)) ?_;rintro j st ⟨e,rfl,he,fH,rfl⟩;refine br ?_ ?_<;>intro hL
  ·have al:e < af.length:=by have:=hL;simp [hN] at this;exact this
   cases hA:bestA kv pb af.length with
   | none=>
    exact ⟨IE (F3 af tb lq js) gi gb ci cb (ey af).length (oz none) (e + 1),(wkM (Ra AV IF (nxt al (by omega)))),af.length - (e + 1),by omega,e + 1,rfl,by omega,(fun _ h=>by cases h),rfl⟩
   | some o=>
    have ho:=mZ hA;have fH:=fH o hA;refine cP hei (ru e al) ?_ ⟨_,_,rfl,rfl,YH⟩;refine br ?_ ?_<;>intro g
    ·have g:kv e=true:=by simpa [pickB] using g
     refine cP heb (hpb o e ho al) ?_ ⟨_,_,rfl,rfl,_,_,rfl,rfl,YI⟩;refine br ?_ ?_<;>intro g2
     ·have g2:pb o e=false:=by simpa [pickB,g,lastG] using g2
      have:mY kv pb af.length=none:=by
       rw [mY,hA];simp only;rw [aj];rw [List.any_eq_true];exact ⟨e,by simpa using al,by simp [g,g2]⟩
      rw [this];exact (rfl:_=_)
     ·have g2:pb o e=true:=by simpa [pickB,g,lastG] using g2
      exact rE ⟨_,by omega,e + 1,rfl,by omega,fun o' Q5 c hc=>by
       cases Q5;rcases lh hc with hc | rfl
       ·exact fH c hc
       ·simp [g2],rfl⟩ (wkM (Ra AV IF (nxt al (by omega))))
    ·have g:kv e=false:=by simpa [pickB] using g
     exact rE ⟨_,by omega,e + 1,rfl,by omega,fun o' Q5 c hc=>by
       cases Q5;rcases lh hc with hc | rfl
       ·exact fH c hc
       ·simp [g],rfl⟩ (wkM (Ra AV IF (nxt al (by omega))))
  ·have aM:e=af.length:=sW hN hL;subst aM
   have:mY kv pb af.length=bestA kv pb af.length:=by
    cases hA:bestA kv pb af.length with
    | none=>rw [mY,hA]
    | some o=>
     rw [mY,hA];simp only;rw [ai];rw [List.any_eq_true];rintro ⟨c,hc,h2⟩;rw [fH o hA c (sU hc)] at h2;cases h2
   rw [this];exact (rfl:_=_)
theorem rL (js:List Int) (bx:List (List DV)) (N n m:Nat):CcL bx N n m (cZ js) (cZ js):=by
 induction js with
 | nil=>exact rfl
 | cons z r ih=>exact ⟨_,_,rfl,rfl,ih⟩
theorem q8 {n m:Nat} {tk:List TkE} (js:List Int):WeL n m tk (cZ js) (cZ js):=vD _ fun x hx=>by
 obtain ⟨z,_,rfl⟩:=List.mem_map.1 hx;exact ⟨_,rfl⟩
theorem Uj (f:Nat->Nat) (js:List Int):renL f (cZ js)=cZ js:=by
 induction js with
 | nil=>rfl
 | cons z r ih=>simp only [cZ,List.map_cons,renL,renD] at ih ⊢;rw [ih]
theorem Uk (js:List Int):(cZ js).length=js.length:=by simp [cZ]
theorem Nh (js:List Int) (i:Nat) (z:Int):(cZ js).set i (.v (.int .i64 z))=cZ (js.set i z):=by simp [cZ,List.map_set]
abbrev gL (af:List ByteArray) (tc:List DV) (rows:List Nat) (js:List Int):List DV:=F3 af (.pt tc 0) (mw rows) js
theorem P7 (af:List ByteArray) (tc:List DV) (rows:List Nat) (js:List Int):(gL af tc rows js).length=js.length + 3:=by simp [F3,cZ]
theorem ug {af:List ByteArray} {tc:List DV} {rows:List Nat} {js:List Int} {i k:Nat} {z:Int} (h:k=i + 3):(gL af tc rows js).set k (.v (.int .i64 z))=gL af tc rows (js.set i z):=by grind [F3,Nh]
theorem P8 (f:Nat->Nat) (af:List ByteArray) (tc:List DV) (rows:List Nat) (js:List Int):renL f (gL af tc rows js)=gL af tc rows js:=by
 simp only [F3,renL,Uj];rfl
theorem IG {n m:Nat} {tk:List TkE} {l:List DV} {af:List ByteArray} {tc:List DV} {rows:List Nat} {js:List Int} (h:l=gL af tc rows js):WeL n m tk l (gL af tc rows js):=by
 subst h;exact ⟨_,_,rfl,we_rfl rfl,_,_,rfl,we_rfl rfl,_,_,rfl,we_rfl rfl,q8 js⟩
def eK (f:Nat->Nat->Bool) (n a b:Nat):Option Nat:=mY (fun c=>f a c && f b c) f n
def iz (f:Nat->Nat->Bool) (n a b:Nat):Option Nat:=mY (fun c=>f c a && f c b) (fun x y=>f y x) n
theorem vO (f:Nat->Nat->Bool) (n a b:Nat):eK f n a b=eK f n b a:=by grind [eK]
theorem vP (f:Nat->Nat->Bool) (n a b:Nat):iz f n a b=iz f n b a:=by grind [iz]
def kL (f:Nat->Nat->Bool) (n a b:Nat):Bool:=(eK f n a b).isNone || (iz f n a b).isNone
def na (f:Nat->Nat->Bool) (n b:Nat):Bool:=(List.range (b + 1)).any fun a=>kL f n a b
def JM (f:Nat->Nat->Bool) (n:Nat) (js:List Int) (a b:Nat):Prop:=js[a * 32 + b]? = some (oz (eK f n a b))/\js[1024 + (a * 32 + b)]? = some (oz (iz f n a b))
def yc (js:List Int) (a b:Nat) (j m:Int):List Int:=(((js.set (a * 32 + b) j).set (b * 32 + a) j).set (1024 + (a * 32 + b)) m).set (1024 + (b * 32 + a)) m
theorem Ni (js:List Int) (a b:Nat) (j m:Int):(yc js a b j m).length=js.length:=by simp [yc]
theorem oT {js:List Int} {i k:Nat} {z:Int} (h:k≠i):(js.set k z)[i]? = js[i]?:=List.getElem?_set_ne h
theorem IH {f:Nat->Nat->Bool} {n:Nat} {js:List Int} (hl:js.length=2048) {a b:Nat} (ha:a < 32) (hb:b < 32) {x y:Nat} (hx:x < 32) (hy:y < 32)
  (h:JM f n js x y∨(x=a/\y=b)∨(x=b/\y=a)):JM f n (yc js a b (oz (eK f n a b)) (oz (iz f n a b))) x y:=by
 have key:(x=a/\y=b)∨(x=b/\y=a)∨(JM f n js x y/\¬ (x=a/\y=b)/\¬ (x=b/\y=a)):=by grind
 rcases key with ⟨rfl,rfl⟩ | ⟨rfl,rfl⟩ | ⟨h,h1,h2⟩
 ·grind [JM,yc,oT]
 ·grind [JM,yc,vO,vP,oT]
 ·grind [JM,yc,oT]
abbrev Sa (af:List ByteArray) (tc:List DV) (rows:List Nat) (js:List Int) (e:Nat):St:=
 ⟨[aw 1 1,aw 3 2,aw 4 3,ap 15 ((ey af).length),ap 16 e],
  [gL af tc rows js,[.loc 0 0],[.fn 193 [] [.loc 1 0]],[.fn 194 [] [.loc 1 0]]],[]⟩
abbrev F4 (af:List ByteArray) (tc:List DV) (rows:List Nat) (js:List Int) (e f:Nat):St:=
 ⟨[aw 1 1,aw 3 2,aw 4 3,ap 15 ((ey af).length),ap 16 e,aw 5 4,aw 6 5],
  [gL af tc rows js,[.loc 0 0],[.fn 193 [] [.loc 1 0]],[.fn 194 [] [.loc 1 0]],[.v (.int .i64 e)],[.v (.int .i64 f)]],[]⟩
abbrev Nj (af:List ByteArray) (tc:List DV) (rows:List Nat) (js:List Int) (e f:Nat):St:=
 ⟨[aw 1 1,aw 3 2,aw 4 3,ap 15 ((ey af).length),ap 16 e,aw 5 4,aw 6 6],
  [gL af tc rows js,[.loc 0 0],[.fn 193 [] [.loc 1 0]],[.fn 194 [] [.loc 1 0]],[.v (.int .i64 e)],[.v (.int .i64 f)],[.v (.int .i64 (f + 1:Nat))]],[]⟩
abbrev Nk (af:List ByteArray) (tc:List DV) (rows:List Nat) (js:List Int) (e f:Nat):St:=
 ⟨[aw 1 1,aw 3 2,aw 4 3,ap 15 ((ey af).length),ap 16 e,aw 5 4,aw 6 5],
  [gL af tc rows js,[.loc 0 0],[.fn 193 [] [.loc 1 0]],[.fn 194 [] [.loc 1 0]],[.v (.int .i64 e)],[.v (.int .i64 (f + 1:Nat))],[.v (.int .i64 f)]],[]⟩
theorem P9 (af:List ByteArray) (tc:List DV) (rows:List Nat) (js:List Int) (e f:Nat):Nj af tc rows js e f=fu 5 6 (Nk af tc rows js e f):=by
 simp only [fu,renO,P8];rfl
def BndΦ (af:List ByteArray) (tc:List DV) (rows:List Nat) (r:DV) (os:List (List DV)) (_:List TkE):Prop:=
 ∃ Ul,os=[gL af tc rows Ul]/\Ul.length=2048/\r = .v (.int .i64 (oz (bJ (na (aN rows) af.length) af.length))) /\
  (bJ (na (aN rows) af.length) af.length=none->∀ x y,x < af.length->y < af.length->JM (aN rows) af.length Ul x y)
theorem Di (af:List ByteArray) (tc:List DV) (rows:List Nat) (js:List Int) (hr:dL rows) (hlen:rows.length=af.length) (hn:af.length<=32) (hj:js.length=2048) :
  Ev prog 110 [.loc 0 0] [gL af tc rows js] [] (BndΦ af tc rows):=by
 have hN:=bL af;refine eG 73 [.tmp 2] func110 rfl ntmps110 rfl fun _ _ _ _=>?_;refine lI (fun j st=>∃ (e:Nat) (js:List Int),st=Sa af tc rows js e/\e<=af.length/\js.length=2048/\(∀ b,b < e->na (aN rows) af.length b=false)/\(∀ x y,x < e->y < e->JM (aN rows) af.length js x y)/\j=af.length - e) ⟨0,js,rfl,by omega,hj,fun _ h=>by omega,fun _ _ h=>by omega,rfl⟩ (wkB 4 tH jT) ?_;rintro j st ⟨e,js,rfl,he,hj,fH,O3,rfl⟩;refine br ?_ ?_<;>intro hL
 ·have al:e < af.length:=by have:=hL;simp [hN] at this;exact this
  refine Ng (fun j st=>∃ (f:Nat) (js:List Int),st=F4 af tc rows js e f/\f<=e + 1/\js.length=2048/\(∀ a,a < f->kL (aN rows) af.length a e=false)/\(∀ x y,x < e->y < e->JM (aN rows) af.length js x y)/\(∀ x,x < f->JM (aN rows) af.length js x e/\JM (aN rows) af.length js e x)/\j=e + 1 - f) (e + 1) (F4 af tc rows js e 0) (.Uf (wkB 6 tH jT)) ⟨0,js,rfl,by omega,hj,fun _ h=>by omega,O3,fun _ h=>by omega,by omega⟩ ?_;clear O3 hj;rintro j st ⟨f,js,rfl,hf,hj,hla,O3,hje,rfl⟩;refine br ?_ ?_<;>intro nb
  ·have Q7:f<=e:=by have:=nb;simp at this;exact this
   have gT:=zk af (.pt tc 0) (mw rows) js 196 193 Xh Mc
    [.pt [R8 (gL af tc rows js)] 0,.pt [.v (.int .i64 f)] 0,.pt [.v (.int .i64 e)] 0] [.pt [.pt (gL af tc rows js) 0] 0] (fun c=>aN rows f c && aN rows e c) (aN rows) ax ax rfl rfl (by omega)
    (fun c hc=>Kf af (.pt tc 0) rows js hr f e c (by omega) (by omega) (by omega)) (fun a b ha hb=>rJ af (.pt tc 0) rows js hr a b (by omega) (by omega))
   have gg:=zk af (.pt tc 0) (mw rows) js 197 194 Xi Md
    [.pt [R9 (gL af tc rows js)] 0,.pt [.v (.int .i64 f)] 0,.pt [.v (.int .i64 e)] 0] [.pt [.pt (gL af tc rows js) 0] 0] (fun c=>aN rows c f && aN rows c e) (fun x y=>aN rows y x) ax ax rfl rfl (by omega)
    (fun c hc=>Kg af (.pt tc 0) rows js hr f e c (by omega) (by omega) (by omega)) (fun a b ha hb=>rK af (.pt tc 0) rows js hr a b (by omega) (by omega))
   refine Aw Rp gT (by repeat' (first | exact rfl | exact trivial | exact Or.inr (Or.inl ⟨_,rfl⟩) | exact Or.inr ⟨_,rfl⟩ | exact Or.inl ⟨rfl,rfl⟩ | exact Or.inl rfl | refine Or.inr ⟨_,_,rfl,Nat.zero_le _,rfl,?_⟩ | refine ⟨_,_,rfl,?_,?_⟩ | refine ⟨_,rfl,?_⟩ | exact rL _ _ _ _ _ | refine Or.inr (Or.inr (Or.inr ⟨_,_,rfl,?_⟩)) | exact Or.inl rfl | refine Or.inr ?_)) rfl ?_;refine Aw Rp gg (by repeat' (first | exact rfl | exact trivial | exact Or.inr (Or.inl ⟨_,rfl⟩) | exact Or.inr ⟨_,rfl⟩ | exact Or.inl ⟨rfl,rfl⟩ | exact Or.inl rfl | refine Or.inr ⟨_,_,rfl,Nat.zero_le _,rfl,?_⟩ | refine ⟨_,_,rfl,?_,?_⟩ | refine ⟨_,rfl,?_⟩ | exact rL _ _ _ _ _ | refine Or.inr (Or.inr (Or.inr ⟨_,_,rfl,?_⟩)) | exact Or.inl rfl | refine Or.inr ?_)) rfl ?_
   have AW:pickB (decide (oz (eK (aN rows) af.length f e) = -1)) true (decide (oz (iz (aN rows) af.length f e) = -1))=kL (aN rows) af.length f e:=by
    unfold kL
    cases eK (aN rows) af.length f e with
    | none=>rfl
    | some j=>
     have:decide (oz (some j) = -1)=false:=by simp [oz]
     rw [this]
     cases iz (aN rows) af.length f e with
     | none=>rfl
     | some m=>
      have:decide (oz (some m) = -1)=false:=by simp [oz]
      rw [this];rfl
   refine br ?_ ?_<;>intro g
   ·have g:kL (aN rows) af.length f e=true:=AW.symm.trans g;have hb:na (aN rows) af.length e=true:=by grind [na]
    have B0:=cH (p:=na (aN rows) af.length) al hb fH;refine ⟨.v (.int .i64 e),[gL af tc rows js],ax,(by repeat' (first | exact rfl | exact trivial | exact Or.inr (Or.inl ⟨_,rfl⟩) | exact Or.inr ⟨_,rfl⟩ | exact Or.inl ⟨rfl,rfl⟩ | exact Or.inl rfl | refine Or.inr ⟨_,_,rfl,Nat.zero_le _,rfl,?_⟩ | refine ⟨_,_,rfl,?_,?_⟩ | refine ⟨_,rfl,?_⟩ | exact rL _ _ _ _ _ | refine Or.inr (Or.inr (Or.inr ⟨_,_,rfl,?_⟩)) | exact Or.inl rfl | refine Or.inr ?_)),js,rfl,hj,?_,fun h=>by rw [B0] at h;cases h⟩;rw [B0];rfl
   ·have g:kL (aN rows) af.length f e=false:=AW.symm.trans g;refine ua [0] (fun _=>false) mo (by decide +kernel) ?_;have dc:=P7 af tc rows js;refine ⟨⟨by omega,by omega⟩,?_⟩;refine ⟨⟨by omega,by omega⟩,?_⟩;refine ⟨by rw [dc];omega,?_⟩;refine ⟨⟨by omega,by omega⟩,?_⟩;refine ⟨⟨by omega,by omega⟩,?_⟩;refine ⟨by rw [List.length_set,dc];omega,?_⟩;refine ua [0] (fun _=>false) mo (by decide +kernel) ?_;refine ⟨⟨by omega,by omega⟩,?_⟩;refine ⟨⟨by omega,by omega⟩,?_⟩;refine ⟨by rw [List.length_set,List.length_set,dc];omega,?_⟩;refine ⟨⟨by omega,by omega⟩,?_⟩;refine ⟨⟨by omega,by omega⟩,?_⟩;refine ⟨by rw [List.length_set,List.length_set,List.length_set,dc];omega,?_⟩
    have gI:((((gL af tc rows js).set (0 + 0 + 3 + (f:Int).toNat * 32 + (e:Int).toNat * 1) (DV.v (.int .i64 (oz (eK (aN rows) af.length f e))))).set (0 + 0 + 3 + (e:Int).toNat * 32 + (f:Int).toNat * 1) (DV.v (.int .i64 (oz (eK (aN rows) af.length f e))))).set (0 + 0 + 1027 + (f:Int).toNat * 32 + (e:Int).toNat * 1) (DV.v (.int .i64 (oz (iz (aN rows) af.length f e))))).set (0 + 0 + 1027 + (e:Int).toNat * 32 + (f:Int).toNat * 1) (DV.v (.int .i64 (oz (iz (aN rows) af.length f e))))=gL af tc rows (yc js f e (oz (eK (aN rows) af.length f e)) (oz (iz (aN rows) af.length f e))):=by
     rw [ug (i:=f * 32 + e) (by omega),ug (i:=e * 32 + f) (by omega),ug (i:=1024 + (f * 32 + e)) (by omega),ug (i:=1024 + (e * 32 + f)) (by omega)];rfl
    refine ⟨F4 af tc rows (yc js f e (oz (eK (aN rows) af.length f e)) (oz (iz (aN rows) af.length f e))) e (f + 1),
     .trans (.Uf (s2:=Nj af tc rows (yc js f e (oz (eK (aN rows) af.length f e)) (oz (iz (aN rows) af.length f e))) e f) (wkB 7 (by repeat' (first | exact rfl | exact we_rfl rfl | exact IG gI | exact we_int (nxt (n:=e + 1) (by omega) (by omega)) | refine ⟨_,_,rfl,?_,?_⟩)) (by repeat' (first | exact trivial | exact we_rfl rfl | exact IG gI | exact we_int (nxt (n:=e + 1) (by omega) (by omega)) | refine ⟨⟨_,rfl,?_⟩,?_⟩))))
      (.trans (.Fw 5 6 (Nk af tc rows (yc js f e (oz (eK (aN rows) af.length f e)) (oz (iz (aN rows) af.length f e))) e f) _ (P9 _ _ _ _ _ _) rfl rfl rfl rfl) (.Uf (wkB 6 tH jT))),
     e + 1 - (f + 1),by omega,f + 1,_,rfl,by omega,by rw [Ni];exact hj,fun a ha=>?_,fun x y hx hy=>?_,fun x hx=>?_,rfl⟩
    ·grind
    ·grind [IH]
    ·grind [IH]
  ·have Q7:f=e + 1:=by have:=nb;simp at this;omega
   subst Q7;have hb:na (aN rows) af.length e=false:=by grind [na]
   refine ⟨Sa af tc rows js (e + 1),(wkB 4 (yL (nxt al (by omega))) (wB1 (nxt al (by omega)))),af.length - (e + 1),by omega,e + 1,js,rfl,by omega,hj,fun b ep=>?_,fun x y hx hy=>?_,rfl⟩
   ·grind
   ·grind
 ·have aM:e=af.length:=sW hN hL;subst aM;refine ⟨.v (.int .i64 (-1)),[gL af tc rows js],ax,(by repeat' (first | exact rfl | exact trivial | exact Or.inr (Or.inl ⟨_,rfl⟩) | exact Or.inr ⟨_,rfl⟩ | exact Or.inl ⟨rfl,rfl⟩ | exact Or.inl rfl | refine Or.inr ⟨_,_,rfl,Nat.zero_le _,rfl,?_⟩ | refine ⟨_,_,rfl,?_,?_⟩ | refine ⟨_,rfl,?_⟩ | exact rL _ _ _ _ _ | refine Or.inr (Or.inr (Or.inr ⟨_,_,rfl,?_⟩)) | exact Or.inl rfl | refine Or.inr ?_)),js,rfl,hj,?_,fun _=>O3⟩;rw [dh fH];rfl
def Um (l:List Wd) (k:Nat):Int:=((l[k]?).getD (⟨emptyB,0⟩:Wd)).a
def latF (l:List Wd) (o:List (Wd × Wd)):Ft:=
 if (fw l o).1≠0 then fw l o
 else if (enumL l 0 l).1≠0 then enumL l 0 l
 else if (numF (au l) o).1≠0 then numF (au l) o
 else match bJ (j8 l.length (ee l.length (cW (au l) o))) l.length with
  | some a=>(11,Um l a)
  | none=>
   match bJ (na (ee l.length (cW (au l) o)) l.length) l.length with
   | some b=>(12,Um l b)
   | none=>(0,0)
def Un (l:List Wd) (o:List (Wd × Wd)) (d:DV):Prop:=
 ∃ az js,gJ (au l) az/\az.length<=l.length/\js.length=2048/\(∀ x y,x < l.length->y < l.length->JM (ee l.length (cW (au l) o)) l.length js x y) /\
  d = .pt (gL (au l) (cC (au l) az) (closeR (eV l.length (cW (au l) o)) l.length) js) 0
def F5 (l:List Wd) (o:List (Wd × Wd)) (r:DV) (_:List (List DV)) (_:List TkE):Prop:=
 if (latF l o).1≠0 then r = .tup [.v (.pointer none),(latF l o).d] else ∃ d,Un l o d/\r = .tup [d,(latF l o).d]
theorem nR {L:List ByteArray}:∀ {o:List (Wd × Wd)},(numF L o).1=0->rF L.length (cW L o)
 | [],_=>by intro p hp;simp [cW] at hp
 | q :: r,h=>by
  rw [numF] at h;split at h
  ·cases h
  ·rename_i h1;split at h
   ·cases h
   ·rename_i h2;have ih:=nR (o:=r) h;intro p hp;simp only [cW,List.map_cons,List.mem_cons] at hp;rcases hp with rfl | hp
    ·obtain ⟨a,ha⟩:=Option.ne_none_iff_exists'.1 h1;obtain ⟨b,hb⟩:=Option.ne_none_iff_exists'.1 h2;simp only [Uc,ha,hb,Option.getD_some];exact ⟨(cQ ha).1,(cQ hb).1⟩
    ·exact ih p hp
theorem dq (l:List Wd):(au l).length=l.length:=by simp [au]
theorem vQ {all:List Wd}:∀ {l:List Wd} {i:Nat},(enumL all i l).1=0->enumL all i l=(0,0)
 | [],_,_=>rfl
 | x :: r,i,h=>by
  rw [enumL] at h ⊢;split at h
  ·rename_i h1;exact (h1 h).elim
  ·rename_i h1;rw [ai h1];exact vQ h
theorem zl {L:List ByteArray}:∀ {o:List (Wd × Wd)},(numF L o).1=0->numF L o=(0,0)
 | [],_=>rfl
 | q :: r,h=>by
  rw [numF] at h ⊢;split at h
  ·cases h
  ·rename_i h1;split at h
   ·cases h
   ·rename_i h2;rw [ai h1,ai h2];exact zl h
theorem j9 {l:List Wd} {k:Nat} {w:Wd} (h:l[k]? = some w):Um l k=w.a:=by simp [Um,h]
theorem Uo (n:Nat):vL (List.replicate n (.int .i64 0))=cZ (List.replicate n 0):=by
 induction n with
 | zero=>rfl
 | succ n ih=>simp only [List.replicate_succ,vL,cZ,List.map_cons] at ih ⊢;rw [ih]
theorem nc {l:List Wd} {o:List (Wd × Wd)} {f:Ft} {os:List (List DV)} {tk:List TkE} (h:latF l o=f) (hf:f.1≠0):F5 l o (.tup [.v (.pointer none),f.d]) os tk:=by
 unfold F5;rw [h,aj hf]
theorem Qa {l:List Wd} {o:List (Wd × Wd)} {d:DV} {os:List (List DV)} {tk:List TkE} (h:latF l o=(0,0)) (hd:Un l o d):F5 l o (.tup [d,Ft.d (0,0)]) os tk:=by grind [F5]
theorem Qb (n m:Nat) (af:List ByteArray) (tc:List DV) (rows:List Nat) (js:List Int):clB.clL n m (gL af tc rows js)=true:=by
 have h:∀ l:List Int,clB.clL n m (cZ l)=true:=by
  intro l
  induction l with
  | nil=>rfl
  | cons z r ih=>simp only [cZ,List.map_cons,clB.clL,clB,Bool.true_and] at ih ⊢;exact ih
 simp only [F3,clB.clL,clB,h,mw,Bool.and_self]
theorem Dj (l:List Wd) (o:List (Wd × Wd)) (hs:wdsWt l<=1099511627776) (Fc:prsWt o<=1099511627776) :
  Ev prog 45 [.sl 2 (bq l) none,.sl 4 (mv o) none] [] [] (F5 l o):=by
 have mh:=bi l;have Ts:=ib o;have gW:=dq l;have hF:=latF.eq_1 l o;refine eG 86 [.tmp 4,.cell 5 44] func45 rfl ntmps45 rfl fun _ _ _ _=>?_;refine cP WU (Kd l o) ?_;by_cases hm:(fw l o).1≠0
 ·rw [aj hm] at hF;refine br ?_ ?_<;>intro h
  ·refine dS ?_;exact ⟨_,ax,nc (os:=[]) (tk:=[]) hF hm⟩
  ·exfalso;simp at h;exact hm h
 rw [ai hm] at hF;refine br (fun h=>?_) (fun _=>?_)
 ·exfalso;simp at h;exact hm h
 have u4:l ≠ []:=by
  rintro rfl;simp [fw] at hm
 have hl32:l.length<=32:=by grind [fw]
 have tJ:=Dd l hs;unfold Yv at tJ;by_cases hE:(enumL l 0 l).1≠0
 ·rw [ai hE] at tJ;rw [aj hE] at hF;refine cP Rf tJ ?_;refine br ?_ ?_<;>intro h
  ·refine dS ?_;exact ⟨_,ax,nc (os:=[]) (tk:=[]) hF hE⟩
  ·exfalso;simp at h;exact hE h
 rw [ai hE] at hF;have hE:(enumL l 0 l).1=0:=sU hE;rw [aj hE] at tJ;rw [vQ hE] at tJ;refine cP Rf tJ ?_;refine bp L7 rfl (vf (au l) (by omega)) ax (fun r hr=>?_);obtain ⟨az,hT,kB,rfl⟩:=hr;have F6:=yb (au l) az hT (by omega) o Fc;unfold Yw at F6;by_cases hN:(numF (au l) o).1≠0
 ·rw [ai hN] at F6;rw [aj hN] at hF;refine cP Rg F6 ?_;refine br ?_ ?_<;>intro h
  ·refine dS ?_;exact ⟨_,ax,nc (os:=[]) (tk:=[]) hF hN⟩
  ·exfalso;simp at h;exact hN h
 rw [ai hN] at hF;have hN:(numF (au l) o).1=0:=sU hN;rw [aj hN] at F6;rw [zl hN] at F6;have hP:=nR hN;rw [gW] at hP;have YJ:(cW (au l) o).length=o.length:=by simp [cW]
 generalize hPP:cW (au l) o=P at F6 hF hP YJ;refine cP Rg F6 ?_;have hLn:(ey (au l)).length=l.length:=by rw [bL,gW]
 have hPb:P.length<=1099511627776:=by omega
 have hro:=AO (n:=l.length) (by omega) P hP;have gD:=jE l.length P;have hr0:eV l.length P ≠ []:=fun h=>u4 (List.eq_nil_of_length_eq_zero (by rw [<- gD,h];rfl));refine cP WV (J5 l.length (by omega) P hP hPb) ?_ (ra hLn);have hlo:=FY _ hro hr0;rw [gD,PX (by omega) hP] at hlo
 cases hA:bJ (j8 l.length (ee l.length P)) l.length with
 | some a=>
  rw [hA] at hlo hF;simp only at hF;have Pq:=(dT hA).1;obtain ⟨w,hw⟩:∃ w,l[a]? = some w:=⟨_,gE Pq⟩;rw [j9 hw] at hF;refine cP Rh hlo ?_;refine dS ?_;refine ⟨jA w,⟨by omega,aK hw⟩,?_⟩;exact ⟨_,ax,nc (os:=[]) (tk:=[]) hF (by simp)⟩
 | none=>
 rw [hA] at hlo hF;simp only at hF;refine cP Rh hlo ?_;have j1:=sH _ hro hr0;rw [gD] at j1;have hcok:=kH hro l.length (by omega);have YK:=eW (eV l.length P) l.length;rw [gD] at YK;refine cP Ri j1 ?_;have hrep:(List.replicate 2048 (0:Int)).length=2048:=List.length_replicate
 have cx:CcL [] 0 0 0 (gL (au l) (cC (au l) az) (closeR (eV l.length P) l.length) (List.replicate 2048 0)) (.sl 1 (ey (au l)) none :: .pt (cC (au l) az) 0 :: mw (closeR (eV l.length P) l.length) :: vL (List.replicate 2048 (.int .i64 0))):=by
  refine ⟨_,_,rfl,Or.inr (Or.inl ⟨_,rfl⟩),_,_,rfl,Or.inl rfl,_,_,rfl,Or.inl rfl,?_⟩;rw [Uo];exact rL _ _ _ _ _
 have hbn:=Di (au l) (cC (au l) az) _ (List.replicate 2048 0) hcok (by omega) (by omega) hrep;refine lE WW rfl rfl cx ax hbn (fun r os tk h=>?_) (fun r rk h=>?_)
 ·obtain ⟨Ul,rfl,_,rfl,_⟩:=h;refine ⟨rfl,fun rk h=>?_⟩;rw [List.mem_singleton.1 h];exact Qb _ _ _ _ _ _
 obtain ⟨Ul,h1,hj2,hr,O3⟩:=h;simp only [List.cons.injEq,and_true] at h1;subst h1
 have hB:bJ (na (aN (closeR (eV l.length P) l.length)) (au l).length) (au l).length=bJ (na (ee l.length P) l.length) l.length:=by
  rw [gW];rfl
 rw [hB] at hr O3
 cases hb:bJ (na (ee l.length P) l.length) l.length with
 | some b=>
  rw [hb] at hr hF;subst hr;simp only at hF;have hbl:=(dT hb).1;obtain ⟨w,hw⟩:∃ w,l[b]? = some w:=⟨_,gE hbl⟩;rw [j9 hw] at hF;refine dS ?_;refine ⟨jA w,⟨by simp only [oz];omega,aK hw⟩,?_⟩;exact ⟨_,ax,nc (os:=[]) (tk:=[]) hF (by simp)⟩
 | none=>
  rw [hb] at hr hF;subst hr;simp only at hF;refine ⟨.tup [.pt (gL (au l) (cC (au l) az) (closeR (eV l.length P) l.length) Ul) 0,Ft.d (0,0)],(by repeat' (first | exact rfl | exact trivial | exact Or.inr (Or.inl ⟨_,rfl⟩) | exact Or.inr ⟨_,rfl⟩ | exact Or.inl ⟨rfl,rfl⟩ | exact Or.inl rfl | refine Or.inr ⟨_,_,rfl,Nat.zero_le _,rfl,?_⟩ | refine ⟨_,_,rfl,?_,?_⟩ | refine ⟨_,rfl,?_⟩ | exact rL _ _ _ _ _ | refine Or.inr (Or.inr (Or.inr ⟨_,_,rfl,?_⟩)) | exact Or.inl rfl | refine Or.inr ?_)),Qa (os:=[]) (tk:=[]) hF ⟨az,Ul,hT,by omega,hj2,?_,by rw [hPP]⟩⟩;rw [hPP];rw [gW] at O3;exact O3 hb
section
variable (af:List ByteArray) (tc:List DV) (rows:List Nat) (js:List Int)
theorem rM:EvP prog 73 [.pt (gL af tc rows js) 0] (.v (.int .i64 af.length)):=by
 refine eG 10 [.tmp 2] func73 rfl ntmps73 rfl fun _ _ _ _=>?_;refine (rb ?_:);rw [bL]
theorem rN (i:Int):EvP prog 168 [.pt (gL af tc rows js) 0,.v (.int .i64 i)] (.v (.bool (decide (0<=i) && decide (i < af.length)))):=by
 refine eG 13 [.tmp 4] func168 rfl ntmps168 rfl fun _ _ _ _=>?_;refine br ?_ ?_<;>intro g
 ·have g:decide (0<=i)=true:=sU g;refine cP L6 (rM af tc rows js) ?_;refine (bH ?_:);simp [g,pickB]
 ·have g:decide (0<=i)=false:=sU g;refine (bH ?_:);simp [g,pickB]
theorem qb {a:Nat} (h:a < af.length):EvP prog 168 [.pt (gL af tc rows js) 0,.v (.int .i64 a)] (.v (.bool true)):=by
 have:=rN af tc rows js a;have e:(decide (0<=(a:Int)) && decide ((a:Int) < af.length))=true:=by simp [h]
 rw [e] at this;exact this
theorem F7 (i:Int):EvP prog 157 [.pt (gL af tc rows js) 0,.v (.int .i64 i)] (.v (.string (if 0<=i/\i < af.length then (af[i.toNat]?).getD emptyB else emptyB))):=by
 refine eG 16 [.tmp 4] func157 rfl ntmps157 rfl fun _ _ _ _=>?_;refine cP u5 (rN af tc rows js i) ?_;refine br ?_ ?_<;>intro g
 ·have g:¬ (0<=i/\i < af.length):=by simp at g;omega
  rw [ai g];exact (rfl:_=_)
 ·have g:0<=i/\i < af.length:=by simp at g;omega
  obtain ⟨x,hx⟩:∃ x,af[i.toNat]? = some x:=⟨_,gE (by omega)⟩;refine ⟨_,⟨g.1,eJ hx⟩,?_⟩;rw [aj g,hx];exact (rfl:_=_)
end
theorem F8 (af:List ByteArray) (az rows:List Nat) (js:List Int) (s:ByteArray) (hT:gJ af az) (hl:az.length<=1099511627776) :
  EvP prog 202 [.pt (gL af (cC af az) rows js) 0,.v (.string s)] (M6 (cI af s)):=by
 have h:=ig af az s hT hl;refine eG 16 [.tmp 4,.tmp 5] func202 rfl ntmps202 rfl fun _ _ _ _=>?_
 cases hx:cI af s with
 | none=>
  rw [hx] at h;refine cP mO h ?_;exact ⟨_,ax,rfl⟩
 | some k=>
  rw [hx] at h;refine cP mO h ?_;exact ⟨_,ax,rfl⟩
theorem Dk {l:List DV} {k b:Nat} {x:DV} (hb:b < 32) (h:l[k + b]? = some x):(((l.drop k).take 32).drop b).take 1=[x]:=by
 have h1:((l.drop k).take 32)[b]? = some x:=by grind
 rw [List.drop_eq_getElem_cons (gS h1).1]
 grind
section
variable (af:List ByteArray) (tc:List DV) (rows:List Nat) (js:List Int)
theorem vR (a b:Nat) (z:Int) (ha:a < af.length) (hb:b < af.length) (hn:af.length<=32) (hz:js[a * 32 + b]? = some z) :
  EvP prog 203 [.pt (gL af tc rows js) 0,.v (.int .i64 a),.v (.int .i64 b)] (.v (.int .i64 z)):=by
 refine eG 25 [.tmp 6] func203 rfl ntmps203 rfl fun _ _ _ _=>?_;refine cP u5 (qb af tc rows js ha) ?_;refine cP u5 (qb af tc rows js hb) ?_;refine ⟨_,⟨⟨by omega,by omega⟩,rfl⟩,?_⟩;refine ⟨_,⟨⟨by omega,by omega⟩,Dk (x:=.v (.int .i64 z)) (by omega) ?_⟩,?_⟩
 ·grind [F3,cZ]
 exact (rfl:_=_)
theorem F9 (a b:Nat) (z:Int) (ha:a < af.length) (hb:b < af.length) (hn:af.length<=32) (hz:js[1024 + (a * 32 + b)]? = some z) :
  EvP prog 144 [.pt (gL af tc rows js) 0,.v (.int .i64 a),.v (.int .i64 b)] (.v (.int .i64 z)):=by
 refine eG 25 [.tmp 6] func144 rfl ntmps144 rfl fun _ _ _ _=>?_;refine cP u5 (qb af tc rows js ha) ?_;refine cP u5 (qb af tc rows js hb) ?_;refine ⟨_,⟨⟨by omega,by omega⟩,rfl⟩,?_⟩;refine ⟨_,⟨⟨by omega,by omega⟩,Dk (x:=.v (.int .i64 z)) (by omega) ?_⟩,?_⟩
 ·grind [F3,cZ]
 exact (rfl:_=_)
end
theorem rO {kv:Nat->Bool} {pb:Nat->Nat->Bool}:∀ {e k:Nat},bestA kv pb e=some k->kv k=true
 | 0,k,h=>by cases h
 | e + 1,k,h=>by
  rw [bestA] at h;split at h
  ·grind
  ·exact rO h
theorem vS {kv:Nat->Bool} {pb:Nat->Nat->Bool} {n k:Nat} (h:mY kv pb n=some k):k < n/\kv k=true/\∀ c,c < n->kv c=true->pb k c=true:=by grind [mY,mZ,rO]
structure eY (f:Nat->Nat->Bool) (n:Nat):Prop where
 pos:0 < n
 rfl':∀ a,a < n->f a a=true
 tr:∀ a b c,a < n->b < n->c < n->f a b=true->f b c=true->f a c=true
 Ga:∀ a b,a < n->b < n->f a b=true->f b a=true->a=b
 jn:∀ a b,a < n->b < n->∃ k,eK f n a b=some k
 mt:∀ a b,a < n->b < n->∃ k,iz f n a b=some k
theorem oU {f:Nat->Nat->Bool} {n a b k:Nat} (h:eK f n a b=some k):k < n/\f a k=true/\f b k=true/\∀ c,c < n->f a c=true->f b c=true->f k c=true:=by
 obtain ⟨h1,h2,h3⟩:=vS h
 grind
theorem oV {f:Nat->Nat->Bool} {n a b k:Nat} (h:iz f n a b=some k):k < n/\f k a=true/\f k b=true/\∀ c,c < n->f c a=true->f c b=true->f c k=true:=by
 obtain ⟨h1,h2,h3⟩:=vS h
 grind
def gA (f:Nat->Nat->Bool) (l:List Nat) (c:Nat):Bool:=l.all fun i=>f i c
def rP (f:Nat->Nat->Bool) (n:Nat) (l:List Nat) (c:Nat):Bool:=gA f l c && (List.range n).all fun d=>!gA f l d || f c d
def ei (f:Nat->Nat->Bool) (n:Nat) (l:List Nat):Option Nat:=bJ (rP f n l) n
theorem nd {f:Nat->Nat->Bool} {n:Nat} {l:List Nat} {c:Nat}:rP f n l c=true↔gA f l c=true/\∀ d,d < n->gA f l d=true->f c d=true:=by grind [rP,gA]
theorem zm {f:Nat->Nat->Bool} {n:Nat} (hL:eY f n) {l:List Nat} {c:Nat} (hc:c < n) (h:rP f n l c=true):ei f n l=some c:=by
 refine cH hc h fun a ha=>?_;cases h2:rP f n l a
 ·rfl
 ·obtain ⟨h3,h4⟩:=nd.1 h;obtain ⟨h5,h6⟩:=nd.1 h2;have:=hL.Ga a c (by omega) hc (h6 c hc h3) (h4 a (by omega) h5);omega
theorem oW {f:Nat->Nat->Bool} {n c:Nat} (hL:eY f n) (hc:c < n) (h:∀ d,d < n->f c d=true):ei f n []=some c:=
 zm hL hc (nd.2 ⟨rfl,fun d hd _=>h d hd⟩)
theorem sK {f:Nat->Nat->Bool} {n c k i:Nat} {l:List Nat} (hL:eY f n) (hl:∀ x∈l,x < n) (hi:i < n) (h:ei f n l=some c) (hk:eK f n c i=some k):ei f n (l ++ [i])=some k:=by
 obtain ⟨h1,h2,_⟩:=dT h;obtain ⟨h3,h4⟩:=nd.1 h2;obtain ⟨g1,g2,g3,g4⟩:=oU hk;simp only [gA,List.all_eq_true] at h3;refine zm hL g1 (nd.2 ⟨?_,fun d hd ho=>?_⟩)
 ·simp only [gA,List.all_eq_true,List.mem_append,List.mem_singleton];rintro x (hx | rfl)
  ·exact hL.tr x c k (hl x hx) h1 g1 (h3 x hx) g2
  ·exact g3
 ·grind [gA]
theorem nS {f:Nat->Nat->Bool} {n c:Nat} {l:List Nat} (h:ei f n l=some c):c < n:=(dT h).1
abbrev Sb (L:List DV) (n b e:Nat):St:=
 ⟨[oJ 0 L,ap 3 b,ap 9 n,ap 10 e],[],[]⟩
theorem qc (af:List ByteArray) (tc:List DV) (rows:List Nat) (js:List Int) {f:Nat->Nat->Bool} (hL:eY f af.length) (hn:af.length<=32) (hj:∀ x y,x < af.length->y < af.length->JM f af.length js x y) :
  EvP prog 70 [.pt (gL af tc rows js) 0] (.v (.int .i64 (oz (ei f af.length [])))):=by
 have hlen:=rM af tc rows js;have kk:=hL.pos;refine eG 19 [.tmp 2] func70 rfl ntmps70 rfl fun _ _ _ _=>?_;refine cP L6 hlen ?_;refine br ?_ ?_<;>intro g
 ·exfalso;simp at g;simp [g] at kk
 refine cP L6 hlen ?_;refine lI (fun j st=>∃ e b:Nat,st=Sb (gL af tc rows js) af.length b e/\e<=af.length/\b < af.length/\(∀ x,x < e->f b x=true)/\j=af.length - e) ⟨0,0,rfl,by omega,by omega,fun _ h=>by omega,rfl⟩ (wkM wB) ?_;rintro j st ⟨e,b,rfl,he,hb,fW,rfl⟩;refine br ?_ ?_<;>intro hL'
 ·have al:e < af.length:=by have:=hL';simp at this;exact this
  obtain ⟨k,hk⟩:=hL.mt b e hb al;obtain ⟨g1,g2,g3,g4⟩:=oV hk;have hz:=(hj b e hb al).2;rw [hk] at hz;refine cP W5 (F9 af tc rows js b e k hb al hn hz) ?_;refine ⟨Sb (gL af tc rows js) af.length k (e + 1),(wkM (wB1 (nxt al (by omega)))),af.length - (e + 1),by omega,e + 1,k,rfl,by omega,g1,fun x hx=>?_,rfl⟩;rcases lh hx with hx | rfl
  ·exact hL.tr k b x g1 hb (by omega) g2 (fW x hx)
  ·exact g3
 ·have aM:e=af.length:=by have:=hL';simp at this;omega
  subst aM;rw [oW hL hb fW];exact (rfl:_=_)
def labW (L:List ByteArray):List Wd->Ft
 | []=>(0,0)
 | w :: r=>if cI L w.s=none then (17,w.a) else labW L r
def lV (L:List ByteArray) (l:List Wd):List Nat:=l.map fun w=>(cI L w.s).getD 0
def AX (f:Nat->Nat->Bool) (L:List ByteArray) (l:List Wd):Int:=if (labW L l).1=0 then oz (ei f L.length (lV L l)) else 0
def Kh (f:Nat->Nat->Bool) (L:List ByteArray) (l:List Wd):DV:=.tup [.v (.int .i64 (AX f L l)),(labW L l).d]
theorem rQ {L:List ByteArray} {l:List Wd} {e:Nat} {w:Wd} (h:l[e]? = some w):labW L (l.drop e)=if cI L w.s=none then (17,w.a) else labW L (l.drop (e + 1)):=by
 rw [drop_cons h,labW]
theorem rR {L:List ByteArray} {l:List Wd} {e i:Nat} {w:Wd} (h:l[e]? = some w) (hi:cI L w.s=some i):lV L (l.take (e + 1))=lV L (l.take e) ++ [i]:=by
 rw [List.take_add_one,h];simp [lV,hi]
abbrev Sc (L:List DV) (l:List Wd) (b e:Nat):St:=
 ⟨[oJ 0 L,aw 5 0,ap 6 b,aU 16 2 (bq l),ap 17 ((bq l).length),ap 18 e],[[.v (.int .i64 0),.v (.int .i64 0)]],[]⟩
theorem Nl (af:List ByteArray) (az rows:List Nat) (js:List Int) (hT:gJ af az) (kB:az.length<=1099511627776) {f:Nat->Nat->Bool} (hL:eY f af.length) (hn:af.length<=32) (hj:∀ x y,x < af.length->y < af.length->JM f af.length js x y)
  (l:List Wd) (hs:wdsWt l<=1099511627776) :
  EvP prog 116 [.pt (gL af (cC af az) rows js) 0,.sl 2 (bq l) none] (Kh f af l):=by
 have mh:=bi l;have Dl:=qc af (cC af az) rows js hL hn hj
 have lz:∃ b,ei f af.length []=some b:=by
  have:∀ e,e<=af.length->∃ b,b < af.length/\∀ x,x < e->f b x=true:=by
   intro e
   induction e with
   | zero=>intro _;exact ⟨0,hL.pos,fun _ h=>by omega⟩
   | succ e ih=>
    intro he;obtain ⟨b,hb,fW⟩:=ih (by omega);obtain ⟨k,hk⟩:=hL.mt b e hb (by omega);obtain ⟨g1,g2,g3,_⟩:=oV hk;refine ⟨k,g1,fun x hx=>?_⟩;rcases lh hx with hx | rfl
    ·exact hL.tr k b x g1 hb (by omega) g2 (fW x hx)
    ·exact g3
  obtain ⟨b,hb,fW⟩:=this af.length (aJ _);exact ⟨b,oW hL hb fW⟩
 obtain ⟨b0,gI⟩:=lz;rw [gI] at Dl;refine eG 41 [.tmp 4,.cell 5 44] func116 rfl ntmps116 rfl fun _ _ _ _=>?_;refine cP TM Dl ?_;refine lI (fun j st=>∃ e b:Nat,st=Sc (gL af (cC af az) rows js) l b e/\e<=l.length/\labW af l=labW af (l.drop e)/\ei f af.length (lV af (l.take e))=some b/\(∀ x∈lV af (l.take e),x < af.length)/\j=l.length - e) ⟨0,b0,rfl,by omega,rfl,gI,by simp [lV],rfl⟩ (wkM wB) ?_;rintro j st ⟨e,b,rfl,he,aG,PN,O2,rfl⟩;have hb:=nS PN;refine br ?_ ?_<;>intro qd
 ·have al:e < l.length:=by simpa [av] using qd
  obtain ⟨w,hw⟩:=gX al;have aY:=rQ (L:=af) hw;have AV:=F8 af az rows js w.s hT kB;refine ⟨jA w,⟨by omega,aK hw⟩,?_⟩
  cases hx:cI af w.s with
  | none=>
   rw [hx] at AV;refine cP Rt AV ?_;rw [aj hx] at aY;have h1:labW af l=(17,w.a):=aG.trans aY;refine dS ?_;refine ⟨_,?_,rfl⟩;rw [Kh,AX,h1,ai (by simp)];exact ax
  | some i=>
   rw [hx] at AV;refine cP Rt AV ?_;rw [ai (by rw [hx];simp)] at aY;have hi:=(cQ hx).1;obtain ⟨k,hk⟩:=hL.jn b i hb hi;have hz:=(hj b i hb hi).1;rw [hk] at hz;refine cP Mf (vR af (cC af az) rows js b i k hb hi hn hz) ?_;refine ⟨Sc (gL af (cC af az) rows js) l k (e + 1),(wkM (wB1 (nxt al (by omega)))),l.length - (e + 1),by omega,e + 1,k,rfl,by omega,aG.trans aY,?_,?_,rfl⟩
   ·rw [rR hw hx];exact sK hL O2 hi PN hk
   ·rw [rR hw hx];intro x hm;rcases List.mem_append.1 hm with hm | hm
    ·exact O2 x hm
    ·rw [List.mem_singleton.1 hm];exact hi
 ·have aM:e=l.length:=by
   have:=qd;simp [av] at this;omega
  subst aM;rw [List.drop_length] at aG;rw [List.take_length] at PN;have h1:labW af l=(0,0):=aG;refine ⟨_,?_,rfl⟩;rw [Kh,AX,h1,aj rfl,PN];exact ax
def Gb (x:Ft × Int) (r:DV) (os:List (List DV)) (_:List TkE):Prop:=
 r=x.1.d/\∃ z:Int,os=[[.v (.int .i64 z)]]/\(x.1.1=0->z=x.2)
theorem lW {x:Ft × Int}:∀ r os tk,Gb x r os tk->clB 0 0 r=true/\∀ rk∈os,clB.clL 0 0 rk=true:=by
 rintro r os tk ⟨rfl,z,rfl,_⟩;refine ⟨rfl,fun rk h=>?_⟩;simp only [List.mem_singleton] at h;subst h;rfl
def Nn (k:Nat):Prop:=∀ (t:Ty) (depth m:Int),t.wt<=k->t.wt<=1099511627776->0<=depth->depth<=25->0<=m->m<=512 ->
 Ev prog 199 [.loc 0 0,.agg (dG t),.v (.int .i64 depth)] [[.v (.int .i64 m)]] [] (Gb (wrong t depth m))
def kM (p:Ph) (t:Ty) (un:Bool) (depth m:Int):Ft × Int:=
 if p.bare=true then (if un=false∨cM p t (oR p) cr=false then ((19,p.name.a),m) else ((0,0),m))
 else if (dD p).1≠0 then (dD p,m)
 else wrong t (depth + 1) m
theorem bh {x:Ft × Int} {f:Ft} {m z:Int} (h:x=(f,m)) (hz:f.1=0->z=m) {tk:List TkE}:Gb x f.d [[.v (.int .i64 z)]] tk:=by
 subst h;exact ⟨rfl,z,rfl,hz⟩
theorem Gc (k:Nat) (ih:Nn k) (p:Ph) (t:Ty) (un:Bool) (depth m:Int) (hk:t.wt<=k) (hp:p.wt<=1099511627776) (bW:t.wt<=1099511627776) (yX:0<=depth) (EY:depth<=24) (mz:0<=m) (iE:m<=512) :
  Ev prog 305 [.loc 0 0,.agg (Fz p (dG t)),.v (.bool un),.v (.int .i64 depth)] [[.v (.int .i64 m)]] [] (Gb (kM p t un depth m)):=by
 have x6:=hp;simp only [Ph.wt] at x6;have Ch:=mS p (oR p) t cr hp (by simp only [Ph.wt,oR,wdsWt];omega) (vq t cr bW (by decide));have qO:=ih t (depth + 1) m hk bW (by omega) (by omega) mz iE;obtain ⟨u,us⟩:=t;have hcoa:=AJ p (dG (.mk u us)) (.mk u us) rfl hp;have hS:=kM.eq_def p (.mk u us) un depth m;generalize kM p (.mk u us) un depth m=F at hS ⊢;obtain ⟨nm,bare,lab,wide,ck,cn,ca,cl⟩:=p;simp only at hS x6 Ch
 cases bare with
 | true=>
  rw [aj rfl] at hS
  cases un with
  | true=>
   refine eG 68 [.cell 8 44] func305 rfl ntmps305 rfl fun _ _ _ _=>?_;refine cP Mn Ch ?_;refine br ?_ ?_<;>intro q
   ·have q:cM ⟨nm,true,lab,wide,ck,cn,ca,cl⟩ (.mk u us) (oR ⟨nm,true,lab,wide,ck,cn,ca,cl⟩) cr=false:=by simpa [show (lastG (21,false) [(18,true)]).snd=true from rfl,pickB] using q
    rw [aj (.inr q)] at hS;refine cP dJ (bm 19 nm.a) ?_;exact ⟨_,_,ax,ax,bh (tk:=[]) (f:=(19,nm.a)) hS (fun _=>rfl)⟩
   ·have q:cM ⟨nm,true,lab,wide,ck,cn,ca,cl⟩ (.mk u us) (oR ⟨nm,true,lab,wide,ck,cn,ca,cl⟩) cr=true:=by simpa [show (lastG (21,false) [(18,true)]).snd=true from rfl,pickB] using q
    rw [ai (by simp [q])] at hS;exact ⟨_,_,ax,ax,bh (tk:=[]) (f:=(0,0)) hS (fun _=>rfl)⟩
  | false=>
   refine eG 68 [.cell 8 44] func305 rfl ntmps305 rfl fun _ _ _ _=>?_;rw [aj (.inl rfl)] at hS;refine cP dJ (bm 19 nm.a) ?_;exact ⟨_,_,ax,ax,bh (tk:=[]) (f:=(19,nm.a)) hS (fun _=>rfl)⟩
 | false=>
  rw [ai (by simp)] at hS;refine eG 68 [.cell 8 44] func305 rfl ntmps305 rfl fun _ _ _ _=>?_;refine br ?_ ?_<;>intro hw
  ·have hw:wide < 0∨64 < wide:=by simpa [ak] using hw
   have hP:dD ⟨nm,false,lab,wide,ck,cn,ca,cl⟩=(20,nm.a):=by simp only [dD,aj hw]
   rw [hP,aj (by simp)] at hS;refine cP dJ (bm 20 nm.a) ?_;exact ⟨_,_,ax,ax,bh (tk:=[]) (f:=(20,nm.a)) hS (fun _=>rfl)⟩
  have hw:¬ (wide < 0∨64 < wide):=by simp [ak] at hw;omega
  refine cP CG (iv lab (by omega)) ?_;refine br ?_ ?_<;>intro hb
  ·have hb:(bA lab).1≠0:=sU hb;have hP:dD ⟨nm,false,lab,wide,ck,cn,ca,cl⟩=bA lab:=by simp only [dD,ai hw,aj hb]
   rw [hP,aj hb] at hS;exact ⟨_,_,ax,ax,bh (tk:=[]) (f:=bA lab) hS (fun _=>rfl)⟩
  have hb:(bA lab).1=0:=sU hb;have hP:dD ⟨nm,false,lab,wide,ck,cn,ca,cl⟩=aR ⟨nm,false,lab,wide,ck,cn,ca,cl⟩:=by simp only [dD,ai hw];rw [ai (by simp [hb])]
  rw [hP] at hS;refine cP XL hcoa ?_;refine br ?_ ?_<;>intro hc
  ·have hc:(aR ⟨nm,false,lab,wide,ck,cn,ca,cl⟩).1≠0:=sU hc;rw [aj hc] at hS;exact ⟨_,_,ax,ax,bh (tk:=[]) (f:=aR ⟨nm,false,lab,wide,ck,cn,ca,cl⟩) hS (fun _=>rfl)⟩
  have hc:(aR ⟨nm,false,lab,wide,ck,cn,ca,cl⟩).1=0:=sU hc;rw [ai (by simp [hc])] at hS;refine lE Me rfl rfl ax (by repeat' (first | exact rfl | exact trivial | exact Or.inr (Or.inl ⟨_,rfl⟩) | exact Or.inr ⟨_,rfl⟩ | exact Or.inl ⟨rfl,rfl⟩ | exact Or.inl rfl | refine Or.inr ⟨_,_,rfl,Nat.zero_le _,rfl,?_⟩ | refine ⟨_,_,rfl,?_,?_⟩ | refine ⟨_,rfl,?_⟩ | exact congrArg (fun z=>DV.v (.int .i64 z)) (wrap64 (by omega) (by omega)) | refine Or.inr (Or.inr (Or.inr ⟨_,_,rfl,?_⟩)) | exact Or.inl rfl | refine Or.inr ?_)) qO lW (fun r rk hr=>?_);obtain ⟨rfl,z,hz,Cm⟩:=hr;simp only [List.cons.injEq,and_true] at hz;subst hz;exact ⟨_,_,ax,ax,bh (tk:=[]) (f:=(wrong (.mk u us) (depth + 1) m).1) hS Cm⟩
theorem yd {ag:Int} {all:List Wd} {i:Nat} {p:Ph} {t:Ty} {r:Pts} {depth m:Int} (hk:ag=7∨ag=8) (hl:aA all i p.name=0) :
  wrongPts ag all i (.cons p t r) depth m=if (kM p t (decide (ag=8)) depth m).1.1≠0 then kM p t (decide (ag=8)) depth m else wrongPts ag all (i + 1) r depth (kM p t (decide (ag=8)) depth m).2:=by
 simp only [wrongPts];rw [ai (by simp [hl])];unfold kM;by_cases hb:p.bare=true
 ·grind [P5,sameTy,cr,ch,iH]
 ·grind
theorem Np {p:Ph} {t:Ty} {un:Bool} {depth m:Int} (mz:0<=m) (iE:m<=512) (h:(kM p t un depth m).1.1=0):(kM p t un depth m).1=(0,0)/\0<=(kM p t un depth m).2/\(kM p t un depth m).2<=512:=by grind [pO,kM,dD]
abbrev Dm (h:Hd) (ps:Pts) (n e:Nat) (depth m:Int):St:=
 ⟨[aw 0 0,ap 2 depth,aw 4 1,aw 6 2,aU 38 18 (fm ps),ap 39 ((fm ps).length),ap 40 e,(7,⟨[],.sl 1 (ey (au ((pNames ps).take e))) (some 0)⟩)],
  [[.v (.int .i64 m)],dG (.mk h ps),[.v (.int .i64 0),.v (.int .i64 0)]],[⟨n,9,1,none⟩]⟩
theorem sL (k:Nat) (ih:Nn k) (h:Hd) (ps:Pts) (depth m:Int) (Gd:h.ag=7∨h.ag=8) (hk:ps.wt<=k) (bW:(Ty.mk h ps).wt<=1099511627776) (yX:0<=depth) (EY:depth<=24) (mz:0<=m) (iE:m<=512) :
  Ev prog 256 [.loc 0 0,.agg (dG (.mk h ps)),.v (.int .i64 depth)] [[.v (.int .i64 m)]] [] (Gb (eD h ps depth m)):=by
 simp only [Ty.wt,Hd.wt] at bW;have iP:=ps.fk;have gW:=fN ps;have TY:=ry ps;have hS:=eD.eq_def h ps depth m;generalize eD h ps depth m=F at hS ⊢;refine eG 72 [.cell 6 44] func256 rfl ntmps256 rfl fun _ _ _ _=>?_;refine br ?_ ?_<;>intro c1
 ·have c1:h.ag=8/\ps.len=0:=by grind [pickB_and,aD]
  rw [aj c1] at hS;refine cP dJ (bm 15 h.at') ?_;exact ⟨_,_,ax,ax,bh (tk:=[]) (f:=(15,h.at')) hS (fun _=>rfl)⟩
 have c1:¬ (h.ag=8/\ps.len=0):=by
  simp [pickB_and,aD] at c1;omega
 rw [ai c1] at hS;refine br ?_ ?_<;>intro c2
 ·have al:64 < ps.len:=by simp [aD] at c2;omega
  obtain ⟨p,t,hx⟩:=Pts.dX al;refine iX (bF hx) ?_;refine cP dJ (bm 8 p.name.a) ?_;rw [aj al,fO hx] at hS;exact ⟨_,_,ax,ax,bh (tk:=[]) (f:=(8,p.name.a)) hS (fun _=>rfl)⟩
 have c2:¬ 64 < ps.len:=by simp [aD] at c2;omega
 rw [ai c2] at hS
 refine aQ (fun j st=>∃ (e:Nat) (m':Int),st=Dm h ps e e depth m' /\ e<=ps.len/\0<=m' /\ m' <= 512/\(au ((pNames ps).take e)).Nodup /\
   F=wrongPts h.ag (pNames ps) e (ps.drop e) depth m' /\ j=ps.len - e) ps.len (Dm h ps 0 0 depth m) (fq ⟨0,9,1,none⟩ rfl ⟨_,rfl⟩ rfl wA rfl rfl jT) ⟨0,m,rfl,by omega,mz,iE,by simp [au],hS,by omega⟩ ?_
 rintro j st ⟨e,m',rfl,he,tM,CT,hnd,aG,rfl⟩;refine br ?_ ?_<;>intro hL
 ·have al:e < ps.len:=by simpa [aD] using hL
  obtain ⟨p,t,hx⟩:=Pts.dX al;have CP:=Pts.fM (mG hx);have Ll:=fO hx;have hpw:p.name.s.size + 64<=p.wt:=by simp only [Ph.wt,Wd.wt];omega
  rw [Pts.drop_cons hx] at aG;have MH:(au ((pNames ps).take (e + 1)))[(au ((pNames ps).take (e + 1))).length - 1]? = some p.name.s:=by grind [au,pNames]
  have Tb:=sF (au ((pNames ps).take (e + 1))) p.name.s p.name.a MH (by simp [au];omega) (by omega);have di:=je Ll;rw [zg p.name.a Ll hnd,<- di] at Tb;have Dp:=Gc k ih p t (decide (h.ag=8)) depth m' (by omega) (by omega) (by omega) yX EY tM CT;obtain ⟨u,us⟩:=t;refine iX (bF hx) ?_;refine ⟨by simp [bL,au];omega,⟨by simp [bL,au,maxLen];omega,by simp [bL,au];omega⟩,?_⟩;refine cP RK Tb ?_;by_cases hl:aA (pNames ps) e p.name≠0
  ·rw [aj hl];refine br ?_ ?_<;>intro hf
   ·simp only [wrongPts] at aG;rw [aj hl] at aG;exact ⟨_,_,ax,ax,bh (tk:=[]) (f:=(aA (pNames ps) e p.name,p.name.a)) aG (fun _=>rfl)⟩
   ·exact absurd (sU hf) hl
  have hl:aA (pNames ps) e p.name=0:=sU hl;have hndn:=lU Ll hnd hl;rw [ai (by simp [hl])];rw [yd Gd hl] at aG;have bu:=Np (p:=p) (t:=.mk u us) (un:=decide (h.ag=8)) (depth:=depth) tM CT;generalize kM p (.mk u us) (decide (h.ag=8)) depth m'=r at Dp aG bu;obtain ⟨⟨fe,fa⟩,many⟩:=r;simp only at aG bu;refine lE XD rfl rfl ax ax Dp lW (fun r rk hr=>?_);obtain ⟨rfl,z,hz,Cm⟩:=hr;simp only [List.cons.injEq,and_true] at hz;subst hz;refine br ?_ ?_<;>intro hd
  ·have hd:fe≠0:=sU hd;rw [aj hd] at aG;exact ⟨_,_,ax,ax,bh (tk:=[]) (f:=(fe,fa)) aG (fun h0=>absurd h0 hd)⟩
  ·have hd:fe=0:=sU hd;subst hd;obtain ⟨_,h2,h3⟩:=bu rfl;rw [ai (by simp)] at aG;have Qc:z=many:=Cm rfl;subst Qc;exact rE ⟨_,by omega,e + 1,z,rfl,by omega,h2,h3,hndn,aG,rfl⟩ (wkM (wB2 (nxt al (by omega)) di))
 ·have aM:e=ps.len:=by simp [aD] at hL;omega
  rw [aM,Pts.cV] at aG;simp only [wrongPts] at aG;exact ⟨_,_,ax,ax,bh (tk:=[]) (f:=(0,0)) aG (fun _=>rfl)⟩
theorem zn (k:Nat) (ih:Nn k) (h:Hd) (ps:Pts) (depth m:Int) (hk:ps.wt<=k) (bW:(Ty.mk h ps).wt<=1099511627776) (yX:0<=depth) (EY:depth<=24) (mz:0<=m) (iE:m<=512) :
  Ev prog 255 [.loc 0 0,.agg (dG (.mk h ps)),.v (.int .i64 depth)] [[.v (.int .i64 m)]] [] (Gb (wrongOne h ps depth m)):=by
 simp only [Ty.wt,Hd.wt] at bW
 cases ps with
 | nil=>
  have hS:wrongOne h .nil depth m=((19,h.at'),m):=by simp only [wrongOne]
  generalize wrongOne h .nil depth m=F at hS ⊢;refine eG 44 [.cell 6 44] func255 rfl ntmps255 rfl fun _ _ _ _=>?_;refine cP dJ (bm 19 h.at') ?_;exact ⟨_,_,ax,ax,bh (tk:=[]) (f:=(19,h.at')) hS (fun _=>rfl)⟩
 | cons p t r=>
  cases r with
  | cons p2 t2 r2=>
   have hS:wrongOne h (.cons p t (.cons p2 t2 r2)) depth m=((19,h.at'),m):=by simp only [wrongOne]
   generalize wrongOne h (.cons p t (.cons p2 t2 r2)) depth m=F at hS ⊢;refine eG 44 [.cell 6 44] func255 rfl ntmps255 rfl fun _ _ _ _=>?_;refine cP dJ (bm 19 h.at') ?_;exact ⟨_,_,ax,ax,bh (tk:=[]) (f:=(19,h.at')) hS (fun _=>rfl)⟩
  | nil=>
   simp only [Pts.wt] at bW hk;have hS:wrongOne h (.cons p t .nil) depth m=if p.name.s≠emptyB∨ch p eS=false then ((19,h.at'),m) else if h.most < 0∨1024 < h.most then ((20,h.at'),m) else wrong t (depth + 1) m:=by simp only [wrongOne]
   generalize wrongOne h (.cons p t .nil) depth m=F at hS ⊢;have Tw:=CW p t (by omega);rw [empty_eq] at Tw;have qO:=ih t (depth + 1) m (by omega) (by omega) (by omega) (by omega) mz iE;obtain ⟨u,us⟩:=t;refine eG 44 [.cell 6 44] func255 rfl ntmps255 rfl fun _ _ _ _=>?_;refine ⟨_,⟨by omega,rfl⟩,?_⟩;refine cP XC Tw ?_;refine br ?_ ?_<;>intro q
   ·have q:p.name.s≠emptyB∨ch p eS=false:=by
     have:=q;simp [pickB] at this;exact this
    rw [aj q] at hS;refine cP dJ (bm 19 h.at') ?_;exact ⟨_,_,ax,ax,bh (tk:=[]) (f:=(19,h.at')) hS (fun _=>rfl)⟩
   have q:¬ (p.name.s≠emptyB∨ch p eS=false):=by grind [pickB]
   rw [ai q] at hS;refine br ?_ ?_<;>intro x
   ·have x:h.most < 0∨1024 < h.most:=by simpa [ak] using x
    rw [aj x] at hS;refine cP dJ (bm 20 h.at') ?_;exact ⟨_,_,ax,ax,bh (tk:=[]) (f:=(20,h.at')) hS (fun _=>rfl)⟩
   have x:¬ (h.most < 0∨1024 < h.most):=by simp [ak] at x;omega
   rw [ai x] at hS;refine ⟨_,⟨by omega,rfl⟩,?_⟩;refine lE Me rfl rfl ax (by repeat' (first | exact rfl | exact trivial | exact Or.inr (Or.inl ⟨_,rfl⟩) | exact Or.inr ⟨_,rfl⟩ | exact Or.inl ⟨rfl,rfl⟩ | exact Or.inl rfl | refine Or.inr ⟨_,_,rfl,Nat.zero_le _,rfl,?_⟩ | refine ⟨_,_,rfl,?_,?_⟩ | refine ⟨_,rfl,?_⟩ | exact congrArg (fun z=>DV.v (.int .i64 z)) (wrap64 (by omega) (by omega)) | refine Or.inr (Or.inr (Or.inr ⟨_,_,rfl,?_⟩)) | exact Or.inl rfl | refine Or.inr ?_)) qO lW (fun r rk hr=>?_);obtain ⟨rfl,z,hz,Cm⟩:=hr;simp only [List.cons.injEq,and_true] at hz;subst hz;exact ⟨_,_,ax,ax,bh (tk:=[]) (f:=(wrong (.mk u us) (depth + 1) m).1) hS Cm⟩
theorem Dq (k:Nat) (ih:Nn k) (h:Hd) (ps:Pts) (depth m:Int) (hk:ps.wt<=k) (bW:(Ty.mk h ps).wt<=1099511627776) (yX:0<=depth) (EY:depth<=25) (mz:0<=m) (iE:m<=512) :
  Ev prog 199 [.loc 0 0,.agg (dG (.mk h ps)),.v (.int .i64 depth)] [[.v (.int .i64 m)]] [] (Gb (wrong (.mk h ps) depth m)):=by
 have zo:=bW;simp only [Ty.wt,Hd.wt] at zo;have qP:IntKind.i64.wrap (m + 1)=m + 1:=wrap64 (by omega) (by omega);have hS:=wrong.eq_def (.mk h ps) depth m;simp only at hS;generalize wrong (.mk h ps) depth m=F at hS ⊢;have cL:=JX h ps;rw [Io] at cL;refine eG 103 [.cell 6 44] func199 rfl ntmps199 rfl fun _ _ _ _=>?_;refine br ?_ ?_<;>intro c
 ·have c:24 < depth:=of_decide_eq_true c;rw [aj c] at hS;refine cP dJ (bm 6 h.at') ?_;exact ⟨_,[[.v (.int .i64 (m + 1))]],ax,(ra qP),bh (tk:=[]) (f:=(6,h.at')) hS (fun _=>rfl)⟩
 have c:¬ 24 < depth:=of_decide_eq_false c;rw [ai c] at hS;refine br ?_ ?_<;>intro c
 ·have c:512 < IntKind.i64.wrap (m + 1):=of_decide_eq_true c;rw [qP] at c;rw [aj c] at hS;refine cP dJ (bm 8 h.at') ?_;exact ⟨_,[[.v (.int .i64 (m + 1))]],ax,(ra qP),bh (tk:=[]) (f:=(8,h.at')) hS (fun _=>rfl)⟩
 have c:¬ 512 < IntKind.i64.wrap (m + 1):=of_decide_eq_false c;rw [qP] at c;rw [ai c] at hS;refine br ?_ ?_<;>intro c
 ·have c:h.ag < 1∨9 < h.ag:=by simpa [ak] using c
  rw [aj c] at hS;refine cP dJ (bm 14 h.at') ?_;exact ⟨_,[[.v (.int .i64 (m + 1))]],ax,(ra qP),bh (tk:=[]) (f:=(14,h.at')) hS (fun _=>rfl)⟩
 have ck:¬ (h.ag < 1∨9 < h.ag):=by simp [ak] at c;omega
 rw [ai ck] at hS;refine cP Xs cL ?_;refine br ?_ ?_<;>intro c
 ·have c:vi (.mk h ps)=false:=by simpa [vi] using c
  rw [aj c] at hS;refine cP dJ (bm 19 h.at') ?_;exact ⟨_,[[.v (.int .i64 (m + 1))]],ax,(ra qP),bh (tk:=[]) (f:=(19,h.at')) hS (fun _=>rfl)⟩
 have c:¬ vi (.mk h ps)=false:=by simpa [vi] using c
 rw [ai c] at hS;refine br ?_ ?_<;>intro k2
 ·have k2:h.ag=2:=of_decide_eq_true k2;refine br ?_ ?_<;>intro x
  ·have x:h.hi < h.lo:=of_decide_eq_true x;rw [aj (.inl ⟨k2,x⟩)] at hS;refine cP dJ (bm 20 h.at') ?_;exact ⟨_,[[.v (.int .i64 (m + 1))]],ax,(ra qP),bh (tk:=[]) (f:=(20,h.at')) hS (fun _=>rfl)⟩
  have x:¬ h.hi < h.lo:=of_decide_eq_false x;rw [ai (by omega),ai (by omega),ai (by omega),ai (by omega),ai (by omega)] at hS;exact ⟨_,[[.v (.int .i64 (m + 1))]],ax,(ra qP),bh (tk:=[]) (f:=(0,0)) hS (fun _=>rfl)⟩
 have k2:¬ h.ag=2:=of_decide_eq_false k2;refine br ?_ ?_<;>intro k3
 ·have k3:h.ag=3:=of_decide_eq_true k3;refine br ?_ ?_<;>intro x
  ·have x:h.most < 0∨4096 < h.most:=by simpa [ak] using x
   rw [aj (.inr ⟨k3,x⟩)] at hS;refine cP dJ (bm 20 h.at') ?_;exact ⟨_,[[.v (.int .i64 (m + 1))]],ax,(ra qP),bh (tk:=[]) (f:=(20,h.at')) hS (fun _=>rfl)⟩
  have x:¬ (h.most < 0∨4096 < h.most):=by simp [ak] at x;omega
  rw [ai (by omega),ai (by omega),ai (by omega),ai (by omega),ai (by omega)] at hS;exact ⟨_,[[.v (.int .i64 (m + 1))]],ax,(ra qP),bh (tk:=[]) (f:=(0,0)) hS (fun _=>rfl)⟩
 have k3:¬ h.ag=3:=of_decide_eq_false k3;rw [ai (by omega)] at hS;refine br ?_ ?_<;>intro k4
 ·have k4:h.ag=4:=of_decide_eq_true k4;rw [ai (by omega),aj k4,<- Nb] at hS;refine cP Xt (FK h ps (by omega)) ?_;exact ⟨_,[[.v (.int .i64 (m + 1))]],ax,(ra qP),bh (tk:=[]) (f:=mT h) hS (fun _=>rfl)⟩
 have k4:¬ h.ag=4:=of_decide_eq_false k4;refine br ?_ ?_<;>intro k5
 ·have k5':h.ag=5∨h.ag=6:=.inl (of_decide_eq_true k5);rw [ai (by omega),ai (by omega),aj k5'] at hS;refine br (fun _=>?_) (fun hc=>by rw [k5] at hc;cases hc);refine lE RB rfl rfl (cs':=[.v (.int .i64 (m + 1))]) (ra qP) ax (zn k ih h ps depth (m + 1) hk bW yX (by omega) (by omega) (by omega)) lW (fun r rk hr=>?_);obtain ⟨rfl,z,hz,Cm⟩:=hr;simp only [List.cons.injEq,and_true] at hz;subst hz;exact ⟨_,_,ax,ax,bh (tk:=[]) (f:=(wrongOne h ps depth (m + 1)).1) hS Cm⟩
 have k5:¬ h.ag=5:=of_decide_eq_false k5;refine br ?_ ?_<;>intro k6
 ·have k5':h.ag=5∨h.ag=6:=.inr (of_decide_eq_true k6);rw [ai (by omega),ai (by omega),aj k5'] at hS;refine lE RB rfl rfl (cs':=[.v (.int .i64 (m + 1))]) (ra qP) ax (zn k ih h ps depth (m + 1) hk bW yX (by omega) (by omega) (by omega)) lW (fun r rk hr=>?_);obtain ⟨rfl,z,hz,Cm⟩:=hr;simp only [List.cons.injEq,and_true] at hz;subst hz;exact ⟨_,_,ax,ax,bh (tk:=[]) (f:=(wrongOne h ps depth (m + 1)).1) hS Cm⟩
 have k6:¬ h.ag=6:=of_decide_eq_false k6;have hP:eD h ps depth (m + 1)=eD h ps depth (m + 1):=rfl
 conv at hP=>lhs;unfold eD
 refine br ?_ ?_<;>intro k7
 ·have YL:h.ag=7∨h.ag=8:=.inl (of_decide_eq_true k7);rw [ai (by omega),ai (by omega),ai (by omega),aj YL,hP] at hS;refine br (fun _=>?_) (fun hc=>by rw [k7] at hc;cases hc);refine lE RC rfl rfl (cs':=[.v (.int .i64 (m + 1))]) (ra qP) ax (sL k ih h ps depth (m + 1) YL hk bW yX (by omega) (by omega) (by omega)) lW (fun r rk hr=>?_);obtain ⟨rfl,z,hz,Cm⟩:=hr;simp only [List.cons.injEq,and_true] at hz;subst hz;exact ⟨_,_,ax,ax,bh (tk:=[]) (f:=(eD h ps depth (m + 1)).1) hS Cm⟩
 have k7:¬ h.ag=7:=of_decide_eq_false k7;refine br ?_ ?_<;>intro k8
 ·have YL:h.ag=7∨h.ag=8:=.inr (of_decide_eq_true k8);rw [ai (by omega),ai (by omega),ai (by omega),aj YL,hP] at hS;refine lE RC rfl rfl (cs':=[.v (.int .i64 (m + 1))]) (ra qP) ax (sL k ih h ps depth (m + 1) YL hk bW yX (by omega) (by omega) (by omega)) lW (fun r rk hr=>?_);obtain ⟨rfl,z,hz,Cm⟩:=hr;simp only [List.cons.injEq,and_true] at hz;subst hz;exact ⟨_,_,ax,ax,bh (tk:=[]) (f:=(eD h ps depth (m + 1)).1) hS Cm⟩
 have k8:¬ h.ag=8:=of_decide_eq_false k8;refine br ?_ ?_<;>intro k9
 ·have k9:h.ag=9:=of_decide_eq_true k9;refine cP CD (jB h.name.s (by simp only [Wd.wt] at zo;omega)) ?_;refine br ?_ ?_<;>intro q
  ·have q:bc h.name.s=false:=sU q;rw [aj ⟨k9,q⟩] at hS;refine cP dJ (bm 9 h.name.a) ?_;exact ⟨_,[[.v (.int .i64 (m + 1))]],ax,(ra qP),bh (tk:=[]) (f:=(9,h.name.a)) hS (fun _=>rfl)⟩
  ·have q:bc h.name.s=true:=sU q;rw [ai (by simp [q]),ai (by omega),ai (by omega),ai (by omega)] at hS;exact ⟨_,[[.v (.int .i64 (m + 1))]],ax,(ra qP),bh (tk:=[]) (f:=(0,0)) hS (fun _=>rfl)⟩
 have k9:¬ h.ag=9:=of_decide_eq_false k9;rw [ai (by omega),ai (by omega),ai (by omega),ai (by omega)] at hS;exact ⟨_,[[.v (.int .i64 (m + 1))]],ax,(ra qP),bh (tk:=[]) (f:=(0,0)) hS (fun _=>rfl)⟩
theorem Ds:∀ k,Nn k
 | 0=>fun t depth m hk=>by have:=t.cT;omega
 | k + 1=>fun t depth m hk bW yX EY mz iE=>by
  obtain ⟨h,ps⟩:=t;have gB:=hk;simp only [Ty.wt,Hd.wt] at gB;exact Dq k (Ds k) h ps depth m (by omega) bW yX EY mz iE
theorem Dt (t:Ty) (bW:t.wt<=1099511627776):EvP prog 113 [.agg (dG t)] (wrong t 1 0).1.d:=
 JY t (Ds t.wt t 1 0 (aJ _) bW (by omega) (by omega) (by omega) (by omega))
abbrev Nq (t:Ty) (ps:Pts) (e n:Nat):St:=
 ⟨[aw 1 0,ap 3 n,aU 7 18 (fm ps),ap 8 ((fm ps).length),ap 9 e],[dG t],[]⟩
theorem vT:∀ (k:Nat) (t:Ty),t.wt<=k->t.wt<=1099511627776 ->
  EvP prog 114 [.agg (dG t)] (.v (.int .i64 t.cnt))
 | 0,t,hn,_=>by have:=t.cT;omega
 | k + 1,.mk h ps,hn,bW=>by
  simp only [Ty.wt,Hd.wt] at hn bW;have iP:=ps.fk;have hc:=ps.dY;refine eG 23 [.tmp 2] func114 rfl ntmps114 rfl fun _ _ _ _=>?_
  refine aQ (fun j st=>∃ (e n:Nat),st=Nq (.mk h ps) ps e n/\e<=ps.len/\n + (ps.drop e).cnt=1 + ps.cnt/\j=ps.len - e) ps.len
   (Nq (.mk h ps) ps 0 1) (wkM wB) ⟨0,1,rfl,by omega,rfl,by omega⟩ ?_
  rintro j st ⟨e,n,rfl,he,aT,rfl⟩;refine br ?_ ?_<;>intro hL
  ·have al:e < ps.len:=by simpa [aD] using hL
   obtain ⟨p,t,hx⟩:=Pts.dX al;have CP:=Pts.fM (mG hx);rw [Pts.drop_cons hx] at aT;simp only [Pts.cnt] at aT;have hct:=t.dY;obtain ⟨u,us⟩:=t;refine iX (bF hx) ?_;refine br ?_ ?_<;>intro hB
   ·have hB:p.bare=false:=sU hB;rw [hB] at aT;have aT:n + ((Ty.mk u us).cnt + (ps.drop (e + 1)).cnt)=1 + ps.cnt:=aT;refine cP Rj (vT k (.mk u us) (by omega) (by omega)) ?_;have sE:IntKind.i64.wrap ((n:Int) + (Ty.mk u us).cnt)=((n + (Ty.mk u us).cnt:Nat):Int):=by rw [wrap64 (by omega) (by omega)];omega
    exact ⟨Nq (.mk h ps) ps (e + 1) (n + (Ty.mk u us).cnt),(wkM (wB2 sE (nxt al (by omega)))),ps.len - (e + 1),by omega,e + 1,_,rfl,by omega,by omega,rfl⟩
   ·have hB:p.bare=true:=sU hB;rw [hB] at aT;have aT:n + (0 + (ps.drop (e + 1)).cnt)=1 + ps.cnt:=aT;exact rE ⟨_,by omega,e + 1,n,rfl,by omega,by omega,rfl⟩ (wkM (wB1 (nxt al (by omega))))
  ·have aM:e=ps.len:=by simp [aD] at hL;omega
   rw [aM,Pts.cV] at aT;simp only [Pts.cnt] at aT;have e2:(n:Int)=((Ty.mk h ps).cnt:Int):=by simp only [Ty.cnt];omega
   refine (rb ?_:);exact e2
mutual
def Ty.nn:Ty->Nat
 | .mk h ps=>if h.ag=9 then 0 else 1 + ps.nn
def Pts.nn:Pts->Nat
 | .nil=>0
 | .cons p t r=>(if p.bare then 0 else t.nn) + r.nn
end
mutual
theorem Ty.fT:∀ t:Ty,t.nn<=t.cnt
 | .mk h ps=>by
  have:=Pts.fT ps;simp only [Ty.nn,Ty.cnt];split<;>omega
theorem Pts.fT:∀ ps:Pts,ps.nn<=ps.cnt
 | .nil=>aJ _
 | .cons p t r=>by
  have:=Ty.fT t;have:=Pts.fT r;simp only [Pts.nn,Pts.cnt];split<;>omega
end
abbrev Up (t:Ty) (ps:Pts) (e n:Nat):St:=
 ⟨[aw 1 0,ap 3 n,aU 10 18 (fm ps),ap 11 ((fm ps).length),ap 12 e],[dG t],[]⟩
theorem vU:∀ (k:Nat) (t:Ty),t.wt<=k->t.wt<=1099511627776 ->
  EvP prog 118 [.agg (dG t)] (.v (.int .i64 t.nn))
 | 0,t,hn,_=>by have:=t.cT;omega
 | k + 1,.mk h ps,hn,bW=>by
  simp only [Ty.wt,Hd.wt] at hn bW;have iP:=ps.fk;have hc:=ps.dY;have mE:=ps.fT;refine eG 26 [.tmp 2] func118 rfl ntmps118 rfl fun _ _ _ _=>?_;refine br ?_ ?_<;>intro h9
  ·have h9:h.ag=9:=sU h9;have:(Ty.mk h ps).nn=0:=by simp [Ty.nn,h9]
   rw [this];exact (rfl:_=_)
  have h9:¬ h.ag=9:=sU h9
  refine aQ (fun j st=>∃ (e n:Nat),st=Up (.mk h ps) ps e n/\e<=ps.len/\n + (ps.drop e).nn=1 + ps.nn/\j=ps.len - e) ps.len
   (Up (.mk h ps) ps 0 1) (wkM wB) ⟨0,1,rfl,by omega,rfl,by omega⟩ ?_
  rintro j st ⟨e,n,rfl,he,aT,rfl⟩;refine br ?_ ?_<;>intro hL
  ·have al:e < ps.len:=by simpa [aD] using hL
   obtain ⟨p,t,hx⟩:=Pts.dX al;have CP:=Pts.fM (mG hx);rw [Pts.drop_cons hx] at aT;simp only [Pts.nn] at aT;have hct:=t.dY;have hct2:=t.fT;obtain ⟨u,us⟩:=t;refine iX (bF hx) ?_;refine br ?_ ?_<;>intro hB
   ·have hB:p.bare=false:=sU hB;rw [hB] at aT;have aT:n + ((Ty.mk u us).nn + (ps.drop (e + 1)).nn)=1 + ps.nn:=aT;refine cP Rk (vU k (.mk u us) (by omega) (by omega)) ?_;have sE:IntKind.i64.wrap ((n:Int) + (Ty.mk u us).nn)=((n + (Ty.mk u us).nn:Nat):Int):=by rw [wrap64 (by omega) (by omega)];omega
    exact ⟨Up (.mk h ps) ps (e + 1) (n + (Ty.mk u us).nn),(wkM (wB2 sE (nxt al (by omega)))),ps.len - (e + 1),by omega,e + 1,_,rfl,by omega,by omega,rfl⟩
   ·have hB:p.bare=true:=sU hB;rw [hB] at aT;have aT:n + (0 + (ps.drop (e + 1)).nn)=1 + ps.nn:=aT;exact rE ⟨_,by omega,e + 1,n,rfl,by omega,by omega,rfl⟩ (wkM (wB1 (nxt al (by omega))))
  ·have aM:e=ps.len:=by simp [aD] at hL;omega
   rw [aM,Pts.cV] at aT;simp only [Pts.nn] at aT;have e2:(n:Int)=((Ty.mk h ps).nn:Int):=by simp only [Ty.nn,ai h9];omega
   refine (rb ?_:);exact e2
structure Lx where
 af:List ByteArray
 az:List Nat
 rows:List Nat
 js:List Int
 f:Nat->Nat->Bool
def Lx.pd (X:Lx):DV:=.pt (gL X.af (cC X.af X.az) X.rows X.js) 0
def Lx.lev (X:Lx) (l:List Wd):Int:=AX X.f X.af l
def Lx.bad (X:Lx) (l:List Wd):Ft:=labW X.af l
structure Lx.OK (X:Lx):Prop where
 hT:gJ X.af X.az
 kB:X.az.length<=1099511627776
 hL:eY X.f X.af.length
 hn:X.af.length<=32
 hj:∀ x y,x < X.af.length->y < X.af.length->JM X.f X.af.length X.js x y
theorem Lx.qf {X:Lx} (h:X.OK) (l:List Wd) (hs:wdsWt l<=1099511627776):EvP prog 116 [X.pd,.sl 2 (bq l) none] (.tup [.v (.int .i64 (X.lev l)),(X.bad l).d]):=
 Nl X.af X.az X.rows X.js h.hT h.kB h.hL h.hn h.hj l hs
def bC (s:Sch) (lat out:DV) (m:Int):List DV:=.sl 2 (bq s.ae) none :: .sl 4 (mv s.order) none :: .sl 11 (dNms s.types) none :: (dG s.root ++ [lat,out,.v (.int .i64 m)])
theorem vV {X:Lx} (h:X.OK) (s:Sch) (pc:List DV) (m:Int) (l:List Wd) (hs:wdsWt l<=1099511627776) :
  EvP prog 204 [.pt (bC s X.pd (.pt pc 0) m) 0,.sl 2 (bq l) none] (.v (.int .i64 (X.lev l))):=by
 obtain ⟨ae,order,types,⟨rh,rp⟩⟩:=s;refine eG 17 [.tmp 4] func204 rfl ntmps204 rfl fun _ _ _ _=>?_;refine cP CE (Lx.qf h l hs) ?_;exact (rfl:_=_)
def tO (s:Sch):List Wd:=s.types.map fun x=>x.1
def tL (s:Sch):List ByteArray:=au (tO s)
theorem II (s:Sch):(tO s).length=s.types.length:=by simp [tO]
theorem jI (s:Sch):(tL s).length=s.types.length:=by simp [tL,au,tO]
def pC (s:Sch) (az:List Nat) (a b c e:DV):List DV:=[a,b,c,.pt (cC (tL s) az) 0,e]
def tP (s:Sch) (t:Ty):Bool:=decide (t.h.ag=9->cI (tL s) t.h.name.s≠none)
def endI (s:Sch):Nat->Nat->Option Nat
 | 0,_=>none
 | k + 1,i=>
  match s.types[i]? with
  | none=>none
  | some x=>if x.2.h.ag=9 then endI s k ((cI (tL s) x.2.h.name.s).getD 0) else some i
theorem qg {s:Sch}:∀ {k i j:Nat},endI s k i=some j->j < s.types.length/\∀ x,s.types[j]? = some x->x.2.h.ag≠9
 | 0,i,j,h=>by cases h
 | k + 1,i,j,h=>by
  rw [endI] at h
  cases hx:s.types[i]? with
  | none=>rw [hx] at h;cases h
  | some x=>
   rw [hx] at h;simp only at h;split at h
   ·exact qg h
   all_goals grind
abbrev Sd (B:DV) (n i e:Nat):St:=
 ⟨[(0,⟨[],B⟩),ap 1 i,ap 12 n,ap 13 e],[],[]⟩
theorem Du (s:Sch) (lat:DV) (az:List Nat) (a b c e0:DV) (m:Int) (hT:gJ (tL s) az) (kB:az.length<=1099511627776) (hl:s.types.length<=64) (hr:∀ x∈s.types,tP s x.2=true) (i:Nat) (hi:i < s.types.length) :
  EvP prog 117 [.pt (bC s lat (.pt (pC s az a b c e0) 0) m) 0,.v (.int .i64 i)] (.v (.int .i64 (oz (endI s (s.types.length + 1) i)))):=by
 have eN:=jI s;obtain ⟨ae,order,types,⟨rh,rp⟩⟩:=s;simp only at hl hr hi eN;have hN:=dz types;have hcnt:IntKind.i64.wrap ((((dNms types).length:Nat):Int) + 1)=((types.length + 1:Nat):Int):=by rw [hN,wrap64 (by omega) (by omega)];all_goals rfl
 refine eG 43 [.tmp 4] func117 rfl ntmps117 rfl fun _ _ _ _=>?_
 refine aQ (fun j st=>∃ e q:Nat,st=Sd (.pt (bC ⟨ae,order,types,.mk rh rp⟩ lat (.pt (pC ⟨ae,order,types,.mk rh rp⟩ az a b c e0) 0) m) 0) (types.length + 1) q e/\e<=types.length + 1/\q < types.length/\endI ⟨ae,order,types,.mk rh rp⟩ (types.length + 1) i=endI ⟨ae,order,types,.mk rh rp⟩ (types.length + 1 - e) q/\j=types.length + 1 - e) (types.length + 1)
  (Sd (.pt (bC ⟨ae,order,types,.mk rh rp⟩ lat (.pt (pC ⟨ae,order,types,.mk rh rp⟩ az a b c e0) 0) m) 0) (types.length + 1) i 0) (wkM (wB1 hcnt)) ⟨0,i,rfl,by omega,hi,rfl,by omega⟩ ?_
 rintro j st ⟨e,q,rfl,he,hq,aG,rfl⟩;refine br ?_ ?_<;>intro hL
 ·have al:e < types.length + 1:=by have:=hL;simp at this;omega
  obtain ⟨x,hx⟩:∃ x,types[q]? = some x:=⟨_,gE hq⟩;have mA:=hr x (mG hx);obtain ⟨xw,⟨xh,xp⟩⟩:=x
  have aY:endI ⟨ae,order,types,.mk rh rp⟩ (types.length + 1 - e) q=if xh.ag=9 then endI ⟨ae,order,types,.mk rh rp⟩ (types.length + 1 - (e + 1)) ((cI (tL ⟨ae,order,types,.mk rh rp⟩) xh.name.s).getD 0) else some q:=by
   rw [show types.length + 1 - e=(types.length + 1 - (e + 1)) + 1 by omega,endI];simp only [hx];rfl
  rw [aY] at aG;refine iX (dNms_get hx) ?_;refine br ?_ ?_<;>intro h9
  ·have h9:¬ xh.ag=9:=sU h9;rw [ai h9] at aG;rw [aG];exact (rfl:_=_)
  have h9:xh.ag=9:=sU h9;rw [aj h9] at aG
  have aT:cI (tL ⟨ae,order,types,.mk rh rp⟩) xh.name.s≠none:=by
   have:=of_decide_eq_true mA;exact this h9
  obtain ⟨k,hk⟩:=Option.ne_none_iff_exists'.1 aT;have iT:=(cQ hk).1;rw [hk] at aG;have hf:=ig (tL ⟨ae,order,types,.mk rh rp⟩) az xh.name.s hT kB;rw [hk] at hf;refine dI ?_;refine cD mO hf ?_;exact rE ⟨_,by omega,e + 1,k,rfl,by omega,by omega,aG,rfl⟩ (wkM (wB1 (nxt al (by omega))))
 ·have aM:e=types.length + 1:=by have:=hL;simp at this;omega
  subst aM;rw [Nat.sub_self] at aG;rw [aG];exact (rfl:_=_)
def loopF (s:Sch):Ft:=
 match bJ (fun i=>(endI s (s.types.length + 1) i).isNone) s.types.length with
 | none=>(0,0)
 | some i=>(11,Um (tO s) i)
abbrev AY (B:DV) (s:Sch) (e:Nat):St:=
 ⟨[(0,⟨[],B⟩),aw 2 0,aU 9 11 (dNms s.types),ap 10 ((dNms s.types).length),ap 11 e],[[.v (.int .i64 0),.v (.int .i64 0)]],[]⟩
theorem Ge (s:Sch) (lat:DV) (az:List Nat) (a b c e0:DV) (m:Int) (hT:gJ (tL s) az) (kB:az.length<=1099511627776) (hl:s.types.length<=64) (hr:∀ x∈s.types,tP s x.2=true) :
  EvP prog 50 [.pt (bC s lat (.pt (pC s az a b c e0) 0) m) 0] (loopF s).d:=by
 have fx:=Du s lat az a b c e0 m hT kB hl hr;have hN:=dz s.types;have hF:=loopF.eq_1 s;obtain ⟨ae,order,types,⟨rh,rp⟩⟩:=s;simp only at hl hr fx hN;refine eG 26 [.cell 2 44] func50 rfl ntmps50 rfl fun _ _ _ _=>?_
 refine aQ (fun j st=>∃ e:Nat,st=AY (.pt (bC ⟨ae,order,types,.mk rh rp⟩ lat (.pt (pC ⟨ae,order,types,.mk rh rp⟩ az a b c e0) 0) m) 0) ⟨ae,order,types,.mk rh rp⟩ e/\e<=types.length/\(∀ i,i < e->(endI ⟨ae,order,types,.mk rh rp⟩ (types.length + 1) i).isNone=false)/\j=types.length - e) types.length
  (AY (.pt (bC ⟨ae,order,types,.mk rh rp⟩ lat (.pt (pC ⟨ae,order,types,.mk rh rp⟩ az a b c e0) 0) m) 0) ⟨ae,order,types,.mk rh rp⟩ 0) (wkM wB) ⟨0,rfl,by omega,fun _ h=>by omega,by omega⟩ ?_
 rintro j st ⟨e,rfl,he,fH,rfl⟩;refine br ?_ ?_<;>intro hL
 ·have al:e < types.length:=by have:=hL;simp [hN] at this;exact this
  obtain ⟨x,hx⟩:=gX al;have Uq:(tO ⟨ae,order,types,.mk rh rp⟩)[e]? = some x.1:=by simp [tO,hx]
  have h1:=fx e al;obtain ⟨xw,⟨xh,xp⟩⟩:=x;refine iX (dNms_get hx) ?_;refine cP en117 h1 ?_
  cases hE:endI ⟨ae,order,types,.mk rh rp⟩ (types.length + 1) e with
  | none=>
   have B0:=cH (p:=fun i=>(endI ⟨ae,order,types,.mk rh rp⟩ (types.length + 1) i).isNone) al (by simp only [hE];rfl) fH;simp only [B0] at hF;rw [j9 Uq] at hF;refine ⟨_,?_,rfl⟩;rw [hF];exact ax
  | some k=>
   refine ⟨AY (.pt (bC ⟨ae,order,types,.mk rh rp⟩ lat (.pt (pC ⟨ae,order,types,.mk rh rp⟩ az a b c e0) 0) m) 0) ⟨ae,order,types,.mk rh rp⟩ (e + 1),(wkM (wB1 (nxt al (by omega)))),types.length - (e + 1),by omega,e + 1,rfl,by omega,fun i hi=>?_,rfl⟩;rcases lh hi with hi | rfl
   ·exact fH i hi
   ·rw [hE];all_goals rfl
 ·have aM:e=types.length:=sW hN hL;subst aM;simp only [dh fH] at hF;refine ⟨_,?_,rfl⟩;rw [hF];exact ax
mutual
def knT (X:Lx) (L:List ByteArray):Ty->Ft
 | .mk h ps=>if h.ag=9/\cI L h.name.s=none then (15,h.name.a) else knP X L ps
def knP (X:Lx) (L:List ByteArray):Pts->Ft
 | .nil=>(0,0)
 | .cons p t r=>if (X.bad p.label).1≠0 then X.bad p.label else if (X.bad p.cl).1≠0 then X.bad p.cl else if p.bare then knP X L r else if (knT X L t).1≠0 then knT X L t else knP X L r
end
abbrev YM (B:DV) (t:Ty) (ps:Pts) (e:Nat):St:=
 ⟨[(0,⟨[],B⟩),aw 3 0,aw 4 1,aU 38 18 (fm ps),ap 39 ((fm ps).length),ap 40 e],[dG t,[.v (.int .i64 0),.v (.int .i64 0)]],[]⟩
abbrev zp (B:DV) (t:Ty) (ps:Pts) (p:Ph) (u:Ty) (e q:Nat):St:=
 ⟨[(0,⟨[],B⟩),aw 3 0,aw 4 1,aU 38 18 (fm ps),ap 39 ((fm ps).length),ap 40 e,aw 8 2,aU 49 1 [[.sl 2 (bq p.label) none],[.sl 2 (bq p.cl) none]],ap 50 (2:Nat),ap 51 q],[dG t,[.v (.int .i64 0),.v (.int .i64 0)],Fz p (dG u)],[]⟩
theorem vW {X:Lx} (hX:X.OK) (s:Sch) (az:List Nat) (a b c e0:DV) (m:Int) (hT:gJ (tL s) az) (kB:az.length<=1099511627776):∀ (k:Nat) (t:Ty),t.wt<=k->t.wt<=1099511627776 ->
  EvP prog 49 [.pt (bC s X.pd (.pt (pC s az a b c e0) 0) m) 0,.agg (dG t)] (knT X (tL s) t).d
 | 0,t,hn,_=>by have:=t.cT;omega
 | k + 1,.mk h ps,hn,bW=>by
  have ih:=vW hX s az a b c e0 m hT kB k;simp only [Ty.wt,Hd.wt] at hn bW;have iP:=ps.fk;obtain ⟨ae,order,types,⟨rh,rp⟩⟩:=s;have hf:=ig (tL ⟨ae,order,types,.mk rh rp⟩) az h.name.s hT kB;have hS:knT X (tL ⟨ae,order,types,.mk rh rp⟩) (.mk h ps)=if h.ag=9/\cI (tL ⟨ae,order,types,.mk rh rp⟩) h.name.s=none then (15,h.name.a) else knP X (tL ⟨ae,order,types,.mk rh rp⟩) ps:=by rw [knT]
  refine eG 81 [.cell 4 44] func49 rfl ntmps49 rfl fun _ _ _ _=>?_;generalize knT X (tL ⟨ae,order,types,.mk rh rp⟩) (.mk h ps)=F at hS ⊢;have YN:knP X (tL ⟨ae,order,types,.mk rh rp⟩) ps=knP X (tL ⟨ae,order,types,.mk rh rp⟩) (ps.drop 0):=by rw [Pts.drop]
  refine br ?_ ?_<;>intro h9
  ·have h9:h.ag=9:=sU h9;refine dI ?_
   cases hx:cI (tL ⟨ae,order,types,.mk rh rp⟩) h.name.s with
   | none=>
    rw [aj ⟨h9,hx⟩] at hS;rw [hx] at hf;refine cD mO hf ?_;refine ⟨_,?_,rfl⟩;rw [hS];exact ax
   | some i=>
    rw [ai (by rw [hx];simp),YN] at hS;rw [hx] at hf;refine cD mO hf ?_;refine lI (fun j st=>∃ e:Nat,st=YM (.pt (bC ⟨ae,order,types,.mk rh rp⟩ X.pd (.pt (pC ⟨ae,order,types,.mk rh rp⟩ az a b c e0) 0) m) 0) (.mk h ps) ps e/\e<=ps.len/\F=knP X (tL ⟨ae,order,types,.mk rh rp⟩) (ps.drop e)/\j=ps.len - e) ⟨0,rfl,by omega,hS,rfl⟩ (wkM wB) ?_;rintro j st ⟨e,rfl,he,aG,rfl⟩;refine br ?_ ?_<;>intro hL
    ·have al:e < ps.len:=by simpa [aD] using hL
     obtain ⟨p,t,hx⟩:=Pts.dX al;have CP:=Pts.fM (mG hx);rw [Pts.drop_cons hx] at aG;simp only [knP] at aG;have hw1:wdsWt p.label + wdsWt p.cl<=p.wt:=by simp only [Ph.wt];omega
     obtain ⟨u,us⟩:=t;refine iX (bF hx) ?_;refine lI (fun j st=>∃ q:Nat,st=zp (.pt (bC ⟨ae,order,types,.mk rh rp⟩ X.pd (.pt (pC ⟨ae,order,types,.mk rh rp⟩ az a b c e0) 0) m) 0) (.mk h ps) ps p (.mk u us) e q/\q<=2/\(1<=q->(X.bad p.label).1=0)/\(2<=q->(X.bad p.cl).1=0)/\j=2 - q) ⟨0,rfl,by omega,fun h=>by omega,fun h=>by omega,rfl⟩ (wkM wB) ?_;rintro j st ⟨q,rfl,hq,YO,kA,rfl⟩;refine br ?_ ?_<;>intro nb
     ·have Jw:q=0∨q=1:=by have:=nb;simp at this;omega
      rcases Jw with rfl | rfl
      ·refine ⟨_,⟨by omega,rfl⟩,?_⟩;refine cP CE (Lx.qf hX p.label (by omega)) ?_;refine br ?_ ?_<;>intro hb
       ·have hb:(X.bad p.label).1≠0:=sU hb;rw [aj hb] at aG;refine ⟨_,?_,rfl⟩;rw [aG];exact ax
       ·have hb:(X.bad p.label).1=0:=sU hb;exact ⟨zp (.pt (bC ⟨ae,order,types,.mk rh rp⟩ X.pd (.pt (pC ⟨ae,order,types,.mk rh rp⟩ az a b c e0) 0) m) 0) (.mk h ps) ps p (.mk u us) e 1,(wkM (wB1 (nxt (e:=0) (n:=2) (by omega) (by omega)))),1,by omega,1,rfl,by omega,fun _=>hb,fun h=>by omega,rfl⟩
      ·have gI:=YO (by omega);refine ⟨_,⟨by omega,rfl⟩,?_⟩;refine cP CE (Lx.qf hX p.cl (by omega)) ?_;refine br ?_ ?_<;>intro hb
       ·have hb:(X.bad p.cl).1≠0:=sU hb;rw [ai (by rw [gI];simp),aj hb] at aG;refine ⟨_,?_,rfl⟩;rw [aG];exact ax
       ·have hb:(X.bad p.cl).1=0:=sU hb;exact ⟨zp (.pt (bC ⟨ae,order,types,.mk rh rp⟩ X.pd (.pt (pC ⟨ae,order,types,.mk rh rp⟩ az a b c e0) 0) m) 0) (.mk h ps) ps p (.mk u us) e 2,(wkM (wB1 (nxt (e:=1) (n:=2) (by omega) (by omega)))),0,by omega,2,rfl,by omega,fun _=>gI,fun _=>hb,rfl⟩
     ·have Jw:q=2:=by have:=nb;simp at this;omega
      subst Jw;have gI:=YO (by omega);have gT:=kA (by omega);rw [ai (by rw [gI];simp),ai (by rw [gT];simp)] at aG;refine br ?_ ?_<;>intro hB
      ·have hB:p.bare=true:=hB;rw [aj hB] at aG;exact rE ⟨_,by omega,e + 1,rfl,by omega,aG,rfl⟩ (wkM (wB1 (nxt al (by omega))))
      ·have hB:p.bare=false:=hB;rw [ai (by rw [hB];decide)] at aG;refine cP TH (ih (.mk u us) (by omega) (by omega)) ?_;refine br ?_ ?_<;>intro hb
       ·have hb:(knT X (tL ⟨ae,order,types,.mk rh rp⟩) (.mk u us)).1≠0:=sU hb;rw [aj hb] at aG;refine ⟨_,?_,rfl⟩;rw [aG];exact ax
       ·have hb:(knT X (tL ⟨ae,order,types,.mk rh rp⟩) (.mk u us)).1=0:=sU hb;rw [ai (by rw [hb];simp)] at aG;exact rE ⟨_,by omega,e + 1,rfl,by omega,aG,rfl⟩ (wkM (wB1 (nxt al (by omega))))
    ·have aM:e=ps.len:=by simp [aD] at hL;omega
     rw [aM,Pts.cV] at aG;simp only [knP] at aG;refine ⟨_,?_,rfl⟩;rw [aG];exact ax
  ·have h9:¬ h.ag=9:=sU h9;rw [ai (fun hc=>h9 hc.1),YN] at hS;refine lI (fun j st=>∃ e:Nat,st=YM (.pt (bC ⟨ae,order,types,.mk rh rp⟩ X.pd (.pt (pC ⟨ae,order,types,.mk rh rp⟩ az a b c e0) 0) m) 0) (.mk h ps) ps e/\e<=ps.len/\F=knP X (tL ⟨ae,order,types,.mk rh rp⟩) (ps.drop e)/\j=ps.len - e) ⟨0,rfl,by omega,hS,rfl⟩ (wkM wB) ?_;rintro j st ⟨e,rfl,he,aG,rfl⟩;refine br ?_ ?_<;>intro hL
   ·have al:e < ps.len:=by simpa [aD] using hL
    obtain ⟨p,t,hx⟩:=Pts.dX al;have CP:=Pts.fM (mG hx);rw [Pts.drop_cons hx] at aG;simp only [knP] at aG;have hw1:wdsWt p.label + wdsWt p.cl<=p.wt:=by simp only [Ph.wt];omega
    obtain ⟨u,us⟩:=t;refine iX (bF hx) ?_;refine lI (fun j st=>∃ q:Nat,st=zp (.pt (bC ⟨ae,order,types,.mk rh rp⟩ X.pd (.pt (pC ⟨ae,order,types,.mk rh rp⟩ az a b c e0) 0) m) 0) (.mk h ps) ps p (.mk u us) e q/\q<=2/\(1<=q->(X.bad p.label).1=0)/\(2<=q->(X.bad p.cl).1=0)/\j=2 - q) ⟨0,rfl,by omega,fun h=>by omega,fun h=>by omega,rfl⟩ (wkM wB) ?_;rintro j st ⟨q,rfl,hq,YO,kA,rfl⟩;refine br ?_ ?_<;>intro nb
    ·have Jw:q=0∨q=1:=by have:=nb;simp at this;omega
     rcases Jw with rfl | rfl
     ·refine ⟨_,⟨by omega,rfl⟩,?_⟩;refine cP CE (Lx.qf hX p.label (by omega)) ?_;refine br ?_ ?_<;>intro hb
      ·have hb:(X.bad p.label).1≠0:=sU hb;rw [aj hb] at aG;refine ⟨_,?_,rfl⟩;rw [aG];exact ax
      ·have hb:(X.bad p.label).1=0:=sU hb;exact ⟨zp (.pt (bC ⟨ae,order,types,.mk rh rp⟩ X.pd (.pt (pC ⟨ae,order,types,.mk rh rp⟩ az a b c e0) 0) m) 0) (.mk h ps) ps p (.mk u us) e 1,(wkM (wB1 (nxt (e:=0) (n:=2) (by omega) (by omega)))),1,by omega,1,rfl,by omega,fun _=>hb,fun h=>by omega,rfl⟩
     ·have gI:=YO (by omega);refine ⟨_,⟨by omega,rfl⟩,?_⟩;refine cP CE (Lx.qf hX p.cl (by omega)) ?_;refine br ?_ ?_<;>intro hb
      ·have hb:(X.bad p.cl).1≠0:=sU hb;rw [ai (by rw [gI];simp),aj hb] at aG;refine ⟨_,?_,rfl⟩;rw [aG];exact ax
      ·have hb:(X.bad p.cl).1=0:=sU hb;exact ⟨zp (.pt (bC ⟨ae,order,types,.mk rh rp⟩ X.pd (.pt (pC ⟨ae,order,types,.mk rh rp⟩ az a b c e0) 0) m) 0) (.mk h ps) ps p (.mk u us) e 2,(wkM (wB1 (nxt (e:=1) (n:=2) (by omega) (by omega)))),0,by omega,2,rfl,by omega,fun _=>gI,fun _=>hb,rfl⟩
    ·have Jw:q=2:=by have:=nb;simp at this;omega
     subst Jw;have gI:=YO (by omega);have gT:=kA (by omega);rw [ai (by rw [gI];simp),ai (by rw [gT];simp)] at aG;refine br ?_ ?_<;>intro hB
     ·have hB:p.bare=true:=hB;rw [aj hB] at aG;exact rE ⟨_,by omega,e + 1,rfl,by omega,aG,rfl⟩ (wkM (wB1 (nxt al (by omega))))
     ·have hB:p.bare=false:=hB;rw [ai (by rw [hB];decide)] at aG;refine cP TH (ih (.mk u us) (by omega) (by omega)) ?_;refine br ?_ ?_<;>intro hb
      ·have hb:(knT X (tL ⟨ae,order,types,.mk rh rp⟩) (.mk u us)).1≠0:=sU hb;rw [aj hb] at aG;refine ⟨_,?_,rfl⟩;rw [aG];exact ax
      ·have hb:(knT X (tL ⟨ae,order,types,.mk rh rp⟩) (.mk u us)).1=0:=sU hb;rw [ai (by rw [hb];simp)] at aG;exact rE ⟨_,by omega,e + 1,rfl,by omega,aG,rfl⟩ (wkM (wB1 (nxt al (by omega))))
   ·have aM:e=ps.len:=by simp [aD] at hL;omega
    rw [aM,Pts.cV] at aG;simp only [knP] at aG;refine ⟨_,?_,rfl⟩;rw [aG];exact ax
def eaL (F:Ty->Ft) (z:Ft):List (Wd × Ty)->Ft
 | []=>z
 | x :: r=>if (F x.2).1≠0 then F x.2 else eaL F z r
theorem Nr {F:Ty->Ft} {z:Ft} {l:List (Wd × Ty)} {e:Nat} {x:Wd × Ty} (h:l[e]? = some x):eaL F z (l.drop e)=if (F x.2).1≠0 then F x.2 else eaL F z (l.drop (e + 1)):=by
 rw [drop_cons h,eaL]
abbrev Ns (B:DV) (fn:DV) (types:List (Wd × Ty)) (e:Nat):St:=
 ⟨[(0,⟨[],B⟩),(1,⟨[],fn⟩),aw 4 0,aU 12 11 (dNms types),ap 13 ((dNms types).length),ap 14 e],[[.v (.int .i64 0),.v (.int .i64 0)]],[]⟩
theorem Ki (s:Sch) (lat:DV) (pc:List DV) (m:Int) (hl:s.types.length<=1099511627776) (g:Nat) (hg:Enters prog g) (F:Ty->Ft)
  (hF:∀ t,(t=s.root∨∃ x∈s.types,t=x.2)->EvP prog g [.pt (bC s lat (.pt pc 0) m) 0,.agg (dG t)] (F t).d) :
  EvP prog 47 [.pt (bC s lat (.pt pc 0) m) 0,.fn g [.pt (bC s lat (.pt pc 0) m) 0] []] (eaL F (F s.root) s.types).d:=by
 have hN:=dz s.types;obtain ⟨ae,order,types,⟨rh,rp⟩⟩:=s;simp only at hl hF hN;have fi:=hF (.mk rh rp) (.inl rfl);have Ur:∀ x∈types,_:=fun x hx=>hF x.2 (.inr ⟨x,hx,rfl⟩);clear hF;refine eG 34 [.cell 4 44] func47 rfl ntmps47 rfl fun _ _ _ _=>?_;generalize hG:eaL F (F (.mk rh rp)) types=G;have hG0:G=eaL F (F (.mk rh rp)) (types.drop 0):=by rw [List.drop_zero,hG]
 refine aQ (fun j st=>∃ e:Nat,st=Ns (.pt (bC ⟨ae,order,types,.mk rh rp⟩ lat (.pt pc 0) m) 0) (.fn g [.pt (bC ⟨ae,order,types,.mk rh rp⟩ lat (.pt pc 0) m) 0] []) types e/\e<=types.length/\G=eaL F (F (.mk rh rp)) (types.drop e)/\j=types.length - e) types.length
  (Ns (.pt (bC ⟨ae,order,types,.mk rh rp⟩ lat (.pt pc 0) m) 0) (.fn g [.pt (bC ⟨ae,order,types,.mk rh rp⟩ lat (.pt pc 0) m) 0] []) types 0) (wkM wB) ⟨0,rfl,by omega,hG0,by omega⟩ ?_
 rintro j st ⟨e,rfl,he,aG,rfl⟩;refine br ?_ ?_<;>intro hL
 ·have al:e < types.length:=by have:=hL;simp [hN] at this;exact this
  obtain ⟨x,hx⟩:=gX al;have hp:=Ur x (mG hx);rw [Nr hx] at aG;obtain ⟨xw,⟨xh,xp⟩⟩:=x;refine iX (dNms_get hx) ?_;refine cP hg hp ?_;refine br ?_ ?_<;>intro hf
  ·have hf:(F (.mk xh xp)).1≠0:=sU hf;rw [aj hf] at aG;refine ⟨_,?_,rfl⟩;rw [aG];exact ax
  ·have hf:(F (.mk xh xp)).1=0:=sU hf;rw [ai (by rw [hf];simp)] at aG;exact rE ⟨_,by omega,e + 1,rfl,by omega,aG,rfl⟩ (wkM (wB1 (nxt al (by omega))))
 ·have aM:e=types.length:=sW hN hL;subst aM;rw [List.drop_length,eaL] at aG;refine cP hg fi ?_;refine ⟨_,?_,rfl⟩;rw [aG];exact ax
def bK (t:Ty) (m:Int):Ft × Int:=if (wrong t 1 0).1.1≠0 then ((wrong t 1 0).1,m) else if 512 < m + t.cnt then ((8,t.h.at'),m + t.cnt) else ((0,0),m + t.cnt)
def Nt (s:Sch) (lat:DV) (pc:List DV) (x:Ft × Int) (r:DV) (os:List (List DV)) (_:List TkE):Prop:=r=x.1.d/\os=[bC s lat (.loc 1 0) x.2,pc]
theorem Dx (s:Sch) (lc pc:List DV) (m:Int) (mz:0<=m) (iE:m<=1099511627776) (t:Ty) (bW:t.wt<=1099511627776) (hpc:∀ bx N n0 m0,CcL bx N n0 m0 pc pc) :
  Ev prog 48 [.loc 0 0,.agg (dG t)] [bC s (.pt lc 0) (.loc 1 0) m,pc] [] (Nt s (.pt lc 0) pc (bK t m)):=by
 have hk:=Dt t bW;have hc:=vT t.wt t (aJ _) bW;have O1:=t.dY;have hF:=bK.eq_1 t m;obtain ⟨ae,order,types,⟨rh,rp⟩⟩:=s;obtain ⟨h,ps⟩:=t;generalize bK (.mk h ps) m=R at hF ⊢;refine eG 30 [.cell 4 44] func48 rfl ntmps48 rfl fun _ _ _ _=>?_;refine cP WX hk ?_;refine br ?_ ?_<;>intro hf
 ·have hf:(wrong (.mk h ps) 1 0).1.1≠0:=sU hf;rw [aj hf] at hF;subst hF;exact ⟨Ft.d _,[bC ⟨ae,order,types,.mk rh rp⟩ (.pt lc 0) (.loc 1 0) m,pc],ax,(by repeat' (first | exact rfl | exact trivial | exact Or.inr (Or.inl ⟨_,rfl⟩) | exact Or.inr ⟨_,rfl⟩ | exact Or.inl ⟨rfl,rfl⟩ | exact Or.inl rfl | refine Or.inr ⟨_,_,rfl,Nat.zero_le _,rfl,?_⟩ | refine ⟨_,_,rfl,?_,?_⟩ | refine ⟨_,rfl,?_⟩ | exact hpc _ _ _ _ | exact ⟨nL rfl,rfl⟩ | exact congrArg (fun z=>DV.v (.int .i64 z)) hw | refine Or.inr (Or.inr (Or.inr ⟨_,_,rfl,?_⟩)) | exact Or.inl rfl | refine Or.inr ?_)),rfl,rfl⟩
 have hf:(wrong (.mk h ps) 1 0).1.1=0:=sU hf;rw [ai (by rw [hf];simp)] at hF;have hw:IntKind.i64.wrap (m + ((Ty.mk h ps).cnt:Int))=m + ((Ty.mk h ps).cnt:Int):=wrap64 (by omega) (by omega);refine dS ?_;refine cD Rj hc ?_;refine br ?_ ?_<;>intro hg
 ·have hg:512 < m + ((Ty.mk h ps).cnt:Int):=sV hw hg;rw [aj hg] at hF;subst hF;exact ⟨Ft.d _,[bC ⟨ae,order,types,.mk rh rp⟩ (.pt lc 0) (.loc 1 0) (m + (Ty.mk h ps).cnt),pc],ax,(wC2 hpc hw),rfl,rfl⟩
 ·have hg:¬ 512 < m + ((Ty.mk h ps).cnt:Int):=sV hw hg;rw [ai hg] at hF;subst hF;exact ⟨Ft.d _,[bC ⟨ae,order,types,.mk rh rp⟩ (.pt lc 0) (.loc 1 0) (m + (Ty.mk h ps).cnt),pc],ax,(wC2 hpc hw),rfl,rfl⟩
def eaR (z:Ty):List (Wd × Ty)->Int->Ft × Int
 | [],m=>bK z m
 | x :: r,m=>if (bK x.2 m).1.1≠0 then bK x.2 m else eaR z r (bK x.2 m).2
theorem Nu {z:Ty} {l:List (Wd × Ty)} {e:Nat} {m:Int} {x:Wd × Ty} (h:l[e]? = some x):eaR z (l.drop e) m=if (bK x.2 m).1.1≠0 then bK x.2 m else eaR z (l.drop (e + 1)) (bK x.2 m).2:=by
 rw [drop_cons h,eaR]
theorem nT {t:Ty} {m:Int} (h:(bK t m).1.1=0):(bK t m).2=m + t.cnt/\(bK t m).2<=512/\(wrong t 1 0).1.1=0/\(bK t m).1=(0,0):=by grind [bK]
abbrev Gf (s:Sch) (az:List Nat) (lc:List DV):List DV:=pC s az (.pt lc 0) (.v (.slice none 0 0)) (.v (.int .i64 0)) (.v (.slice none 0 0))
abbrev AZ (s:Sch) (lc pc:List DV) (m:Int) (types:List (Wd × Ty)) (e:Nat):St:=
 ⟨[aw 0 0,(1,⟨[],.fn 48 [.loc 0 0] []⟩),aw 4 2,aU 12 11 (dNms types),ap 13 ((dNms types).length),ap 14 e],
  [bC s (.pt lc 0) (.loc 1 0) m,pc,[.v (.int .i64 0),.v (.int .i64 0)]],[]⟩
theorem Gg (s:Sch) (lc:List DV) (az:List Nat) (m:Int) (mz:0<=m) (iE:m<=512) (hl:s.types.length<=1099511627776) (bW:∀ t,(t=s.root∨∃ x∈s.types,t=x.2)->t.wt<=1099511627776) :
  Ev prog 47 [.loc 0 0,.fn 48 [.loc 0 0] []] [bC s (.pt lc 0) (.loc 1 0) m,Gf s az lc] [] (Nt s (.pt lc 0) (Gf s az lc) (eaR s.root s.types m)):=by
 have hN:=dz s.types;have hR:∀ (m':Int),0<=m' -> m' <= 512->∀ t,(t=s.root∨∃ x∈s.types,t=x.2)->_:=fun m' h0 h1 t ht=>Dx s lc (Gf s az lc) m' h0 (by omega) t (bW t ht) (fun bx N n0 m0=>ax);obtain ⟨ae,order,types,⟨rh,rp⟩⟩:=s;simp only at hl hR hN bW;refine eG 34 [.cell 4 44] func47 rfl ntmps47 rfl fun _ _ _ _=>?_;generalize hG:eaR (.mk rh rp) types m=G;have hG0:G=eaR (.mk rh rp) (types.drop 0) m:=by rw [List.drop_zero,hG]
 refine aQ (fun j st=>∃ (e:Nat) (m':Int),st=AZ ⟨ae,order,types,.mk rh rp⟩ lc (Gf ⟨ae,order,types,.mk rh rp⟩ az lc) m' types e/\e<=types.length/\0<=m' /\ m' <= 512/\G=eaR (.mk rh rp) (types.drop e) m' /\ j=types.length - e) types.length
  (AZ ⟨ae,order,types,.mk rh rp⟩ lc (Gf ⟨ae,order,types,.mk rh rp⟩ az lc) m types 0) (wkB 3 (by repeat' (first | exact rfl | exact we_rfl rfl | exact rfl | refine ⟨_,_,rfl,?_,?_⟩)) (by repeat' (first | exact trivial | exact we_rfl rfl | exact rfl | refine ⟨⟨_,rfl,?_⟩,?_⟩))) ⟨0,m,rfl,by omega,mz,iE,hG0,by omega⟩ ?_
 rintro j st ⟨e,m',rfl,he,tM,CT,aG,rfl⟩;refine br ?_ ?_<;>intro hL
 ·have al:e < types.length:=by have:=hL;simp [hN] at this;exact this
  obtain ⟨x,hx⟩:=gX al;have hp:=hR m' tM CT x.2 (.inr ⟨x,mG hx,rfl⟩);rw [Nu hx] at aG;obtain ⟨xw,⟨xh,xp⟩⟩:=x;refine iX (dNms_get hx) ?_;refine fK 2 0 WJ rfl rfl rfl iq iq hp (fun r gF bP hΦ h1 h2=>?_);obtain ⟨rfl,rfl⟩:=hΦ;have h2:=List.eq_nil_of_length_eq_zero h2;subst h2;refine br ?_ ?_<;>intro hf
  ·have hf:(bK (.mk xh xp) m').1.1≠0:=sU hf;rw [aj hf] at aG;subst aG;exact ⟨Ft.d _,[bC ⟨ae,order,types,.mk rh rp⟩ (.pt lc 0) (.loc 1 0) (bK (.mk xh xp) m').2,Gf ⟨ae,order,types,.mk rh rp⟩ az lc],ax,iq,rfl,rfl⟩
  ·have hf:(bK (.mk xh xp) m').1.1=0:=sU hf;rw [ai (by rw [hf];simp)] at aG;obtain ⟨g1,g2,_,_⟩:=nT hf;exact ⟨AZ ⟨ae,order,types,.mk rh rp⟩ lc (Gf ⟨ae,order,types,.mk rh rp⟩ az lc) (bK (.mk xh xp) m').2 types (e + 1),(wkB 3 (yL (nxt al (by omega))) (wB1 (nxt al (by omega)))),types.length - (e + 1),by omega,e + 1,_,rfl,by omega,by omega,g2,aG,rfl⟩
 ·have aM:e=types.length:=sW hN hL;subst aM;rw [List.drop_length,eaR] at aG;refine fK 2 0 WJ rfl rfl rfl iq iq (hR m' tM CT (.mk rh rp) (.inl rfl)) (fun r gF bP hΦ h1 h2=>?_);obtain ⟨rfl,rfl⟩:=hΦ;have h2:=List.eq_nil_of_length_eq_zero h2;subst h2;subst aG;exact ⟨Ft.d _,[bC ⟨ae,order,types,.mk rh rp⟩ (.pt lc 0) (.loc 1 0) (bK (.mk rh rp) m').2,Gf ⟨ae,order,types,.mk rh rp⟩ az lc],ax,iq,rfl,rfl⟩
def ej (s:Sch):Ft:=if 64 < s.types.length then (8,Um (tO s) 64) else enumL (tO s) 0 (tO s)
def Qd (s:Sch) (lc:List DV) (r:DV) (os:List (List DV)) (_:List TkE):Prop:=
 r=(ej s).d/\((ej s).1=0->∃ az,gJ (tL s) az/\az.length<=s.types.length/\os=[bC s (.pt lc 0) (.loc 1 0) 0,Gf s az lc])
abbrev Nv (s:Sch) (lc:List DV) (n e:Nat):St:=
 ⟨[aw 0 0,aw 2 2,(3,⟨[],.sl 1 (ey (au ((tO s).take e))) (some 0)⟩),aU 27 11 (dNms s.types),ap 28 ((dNms s.types).length),ap 29 e],
  [bC s (.pt lc 0) (.loc 1 0) 0,[.pt lc 0,.v (.slice none 0 0),.v (.int .i64 0),.v (.pointer none),.v (.slice none 0 0)],[.v (.int .i64 0),.v (.int .i64 0)]],[⟨n,9,1,none⟩]⟩
theorem A0 (s:Sch) (lc:List DV) (hs:nmsWt s.types<=1099511627776) :
  Ev prog 46 [.loc 0 0] [bC s (.pt lc 0) (.loc 1 0) 0,[.pt lc 0,.v (.slice none 0 0),.v (.int .i64 0),.v (.pointer none),.v (.slice none 0 0)]] [] (Qd s lc):=by
 have hN:=dz s.types;have gW:=jf s.types;have eN:=II s;have hF:=ej.eq_1 s;have iS:∀ {e:Nat} {x:Wd × Ty},s.types[e]? = some x->(tO s)[e]? = some x.1:=fun h=>by simp [tO,h]
 have dV:=vf (tL s) (by rw [jI];omega);have YP:tL s=au (tO s):=rfl
 have hw:∀ x∈s.types,x.1.s.size<=1099511627776:=fun x hx=>by
  have:=fZ hx;simp only [Wd.wt] at this;omega
 obtain ⟨ae,order,types,⟨rh,rp⟩⟩:=s;simp only at hs hN gW eN iS hw hF;generalize hQ:tO ⟨ae,order,types,.mk rh rp⟩=Q at eN hF iS YP;refine eG 67 [.cell 2 44] func46 rfl ntmps46 rfl fun _ _ _ _=>?_;refine br ?_ ?_<;>intro h
 ·have h:64 < types.length:=by simp [hN] at h;omega
  obtain ⟨x,hx⟩:∃ x,types[64]? = some x:=⟨_,gE h⟩;have Uq:=iS hx;rw [aj h,j9 Uq] at hF;obtain ⟨xw,⟨xh,xp⟩⟩:=x;refine iX (dNms_get hx) ?_;refine ⟨Ft.d (8,xw.a),[bC ⟨ae,order,types,.mk rh rp⟩ (.pt lc 0) (.loc 1 0) 0,[.pt lc 0,.v (.slice none 0 0),.v (.int .i64 0),.v (.pointer none),.v (.slice none 0 0)]],ax,iq,by rw [hF],fun h0=>by rw [hF] at h0;simp at h0⟩
 have h:¬ 64 < types.length:=by simp [hN] at h;omega
 rw [ai h] at hF;refine lI (fun j st=>∃ e:Nat,st=Nv ⟨ae,order,types,.mk rh rp⟩ lc e e/\e<=types.length/\(au (Q.take e)).Nodup/\enumL Q 0 Q=enumL Q e (Q.drop e)/\j=types.length - e) ⟨0,rfl,by omega,by simp [au],rfl,rfl⟩ (de 3 ⟨0,9,1,none⟩ rfl rfl rfl tH rfl rfl jT) ?_;rintro j st ⟨e,rfl,he,hnd,aG,rfl⟩;rw [aG] at hF;refine br ?_ ?_<;>intro hL
 ·have al:e < types.length:=by have:=hL;simp [hN] at this;exact this
  obtain ⟨x,hx⟩:=gX al;have ub:=hw x (mG hx);have hq:=iS hx;have di:=je hq;have aY:=oS hq;have x7:=lT hq hnd;have Nc:=oN (au (Q.take (e + 1))) (by simp [au];omega);rw [<- di] at Nc;obtain ⟨xw,⟨xh,xp⟩⟩:=x;simp only at ub hq di aY x7 Nc;refine iX (dNms_get hx) ?_;rw [hQ];refine ⟨by simp [bL,au];omega,⟨by simp [bL,au,maxLen];omega,by simp [bL,au];omega⟩,?_⟩;refine cP CD (jB xw.s (by omega)) ?_;refine br ?_ ?_<;>intro IJ
  ·have IJ:bc xw.s=false:=sU IJ;have hf:aA Q e xw=9:=by simp [aA,IJ]
   rw [aY,hf,aj (by decide)] at hF;refine ⟨Ft.d (9,xw.a),[bC ⟨ae,order,types,.mk rh rp⟩ (.pt lc 0) (.loc 1 0) 0,[.pt lc 0,.v (.slice none 0 0),.v (.int .i64 0),.v (.pointer none),.v (.slice none 0 0)]],ax,iq,by rw [hF],fun h0=>by rw [hF] at h0;simp at h0⟩
  ·have IJ:bc xw.s=true:=sU IJ;refine bp L8 rfl Nc ax (fun r hr=>?_);obtain ⟨z,rfl,hz⟩:=hr;refine br ?_ ?_<;>intro h2
   ·have h2:0<=z:=sU h2;have hd:cp (Q.take e) xw.s=true:=by grind
    have hf:aA Q e xw=10:=by simp [aA,IJ,hd]
    rw [aY,hf,aj (by decide)] at hF;refine ⟨Ft.d (10,xw.a),[bC ⟨ae,order,types,.mk rh rp⟩ (.pt lc 0) (.loc 1 0) 0,[.pt lc 0,.v (.slice none 0 0),.v (.int .i64 0),.v (.pointer none),.v (.slice none 0 0)]],ax,iq,by rw [hF],fun h0=>by rw [hF] at h0;simp at h0⟩
   ·have h2:¬ 0<=z:=sU h2;have x8:(au (Q.take (e + 1))).Nodup:=Classical.byContradiction fun hn=>h2 (hz.2 hn);have hf:aA Q e xw=0:=by simp [aA,IJ,x7.1 x8]
    rw [hf,ai (by simp)] at aY;have Nx:ey (au (Q.take e)) ++ [[DV.v (.string xw.s)]]=ey (au ((tO ⟨ae,order,types,.mk rh rp⟩).take (e + 1))):=by rw [hQ];exact di
    refine ⟨Nv ⟨ae,order,types,.mk rh rp⟩ lc (e + 1) (e + 1),(wkB 3 (wA2 (nxt al (by omega)) Nx) (wB2 (nxt al (by omega)) Nx)),types.length - (e + 1),by omega,e + 1,rfl,by omega,x8,aG.trans aY,rfl⟩
 ·have aM:e=types.length:=sW hN hL;have h0:enumL Q e (Q.drop e)=(0,0):=by rw [aM,<- eN,List.drop_length];all_goals rfl
  rw [h0] at hF;have ht:Q.take e=Q:=by rw [aM,<- eN,List.take_length]
  have hEq:au ((tO ⟨ae,order,types,.mk rh rp⟩).take e)=tL ⟨ae,order,types,.mk rh rp⟩:=by rw [hQ,ht,YP]
  rw [<- hEq] at dV;refine dS ?_;refine pK L7 rfl dV ax (fun Fu hr=>?_);obtain ⟨az,hT,kB,rfl⟩:=hr;rw [hEq] at hT kB;have hpt:DV.pt (cC (au ((tO ⟨ae,order,types,.mk rh rp⟩).take e)) az) 0=DV.pt (cC (tL ⟨ae,order,types,.mk rh rp⟩) az) 0:=congrArg (fun L=>DV.pt (cC L az) 0) hEq;rw [jI] at kB;exact ⟨Ft.d (0,0),[bC ⟨ae,order,types,.mk rh rp⟩ (.pt lc 0) (.loc 1 0) 0,Gf ⟨ae,order,types,.mk rh rp⟩ az lc],ax,(by repeat' (first | exact rfl | exact trivial | exact Or.inr (Or.inl ⟨_,rfl⟩) | exact Or.inr ⟨_,rfl⟩ | exact Or.inl ⟨rfl,rfl⟩ | exact Or.inl rfl | refine Or.inr ⟨_,_,rfl,Nat.zero_le _,rfl,?_⟩ | refine ⟨_,_,rfl,?_,?_⟩ | refine ⟨_,rfl,?_⟩ | exact ⟨nL rfl,rfl⟩ | exact Or.inl hpt | refine Or.inr (Or.inr (Or.inr ⟨_,_,rfl,?_⟩)) | exact Or.inl rfl | refine Or.inr ?_)),by rw [hF],fun _=>⟨az,hT,kB,rfl⟩⟩
def firstA (s:Sch) (k:Nat):Nat:=((s.types.take k).map fun x=>x.2.nn).sum
theorem nf {s:Sch} {k:Nat} {x:Wd × Ty} (h:s.types[k]? = some x):firstA s (k + 1)=firstA s k + x.2.nn:=by
 unfold firstA;rw [List.take_add_one,h];simp
theorem zq (s:Sch):∀ k,firstA s k<=nmsWt s.types:=by
 intro k;unfold firstA;generalize s.types=l
 induction l generalizing k with
 | nil=>simp
 | cons x r ih=>
  cases k with
  | zero=>simp
  | succ k=>
   have h1:=ih k;have h2:=x.2.fT;have h3:=x.2.dY
   grind [nmsWt]
def namedN (s:Sch) (i:Nat):Nat:=firstA s ((endI s (s.types.length + 1) i).getD 0)
def namedL (s:Sch):List Nat:=(List.range s.types.length).map (namedN s)
theorem YQ (n:Nat):(List.replicate n (vL [Value.int .i64 0])).flatten=cZ (List.replicate n 0):=by
 induction n with
 | zero=>rfl
 | succ n ih=>simp only [List.replicate_succ,List.flatten_cons,ih];rfl
theorem ui {n m:Nat} {tk:List TkE} {l:List DV} {js:List Int} (h:l=cZ js):WeL n m tk l (cZ js):=by rw [h];exact q8 js
abbrev Us (s:Sch) (lc pc:List DV) (m:Int) (l:List Int) (at' e:Nat):St:=
 ⟨[aw 0 0,(2,⟨[],.ms 2 1 0 (dNms s.types).length (dNms s.types).length⟩),ap 3 at',aU 18 11 (dNms s.types),ap 19 ((dNms s.types).length),ap 20 e],
  [bC s (.pt lc 0) (.loc 1 0) m,pc,cZ l],[]⟩
abbrev YR (s:Sch) (az:List Nat) (lc:List DV) (m:Int) (l:List Int) (n e:Nat):St:=
 ⟨[aw 0 0,(2,⟨[],.ms 2 1 0 (dNms s.types).length (dNms s.types).length⟩),ap 40 ((dNms s.types).length),ap 41 e],
  [bC s (.pt lc 0) (.loc 1 0) m,pC s az (.pt lc 0) (.v (.slice none 0 0)) (.v (.int .i64 0)) (.sl 1 (dInts ((namedL s).take e)) (some 0)),cZ l],[⟨n,3,1,none⟩]⟩
def Qe (s:Sch) (az:List Nat) (lc:List DV) (m:Int) (_:DV) (os:List (List DV)) (_:List TkE):Prop:=
 os=[bC s (.pt lc 0) (.loc 1 0) m,pC s az (.pt lc 0) (.v (.slice none 0 0)) (.v (.int .i64 0)) (.sl 1 (dInts (namedL s)) none)]
theorem Ut {l:List Int} {i:Nat} {z:Int} (h:l[i]? = some z):(cZ l)[i]? = some (DV.v (.int .i64 z)):=by simp [cZ,h]
theorem Dy (s:Sch) (lc:List DV) (az:List Nat) (m:Int) (hT:gJ (tL s) az) (kB:az.length<=1099511627776) (hl:s.types.length<=64) (hr:∀ x∈s.types,tP s x.2=true) (hs:nmsWt s.types<=1099511627776)
  (hlo:∀ i,i < s.types.length->∃ k,endI s (s.types.length + 1) i=some k) :
  Ev prog 51 [.loc 0 0] [bC s (.pt lc 0) (.loc 1 0) m,Gf s az lc] [] (Qe s az lc m):=by
 have hN:=dz s.types
 have TY:∀ x∈s.types,x.2.wt<=1099511627776:=fun x hx=>by
  have:=fZ hx;omega
 have YS:=zq s;have Vq:=fun {k:Nat} {x:Wd × Ty}=>@nf s k x;have gW:(namedL s).length=s.types.length:=by simp [namedL]
 have fx:=fun (e0:DV)=>Du s (.pt lc 0) az (.pt lc 0) (.v (.slice none 0 0)) (.v (.int .i64 0)) e0 m hT kB hl hr;obtain ⟨ae,order,types,⟨rh,rp⟩⟩:=s;simp only at hl hr hN hs TY YS Vq gW fx hlo;have hN2:(dNms (⟨ae,order,types,.mk rh rp⟩:Sch).types).length=types.length:=hN;refine eG 66 [] func51 rfl ntmps51 rfl fun _ _ _ _=>?_;refine ⟨⟨rfl,by omega,by omega,by omega⟩,?_⟩
 refine aQ (fun j st=>∃ (e:Nat) (l:List Int),st=Us ⟨ae,order,types,.mk rh rp⟩ lc (Gf ⟨ae,order,types,.mk rh rp⟩ az lc) m l (firstA ⟨ae,order,types,.mk rh rp⟩ e) e/\e<=types.length/\l.length=types.length/\(∀ i:Nat,i < e->l[i]? = some (firstA ⟨ae,order,types,.mk rh rp⟩ i:Int))/\j=types.length - e) types.length
  (Us ⟨ae,order,types,.mk rh rp⟩ lc (Gf ⟨ae,order,types,.mk rh rp⟩ az lc) m (List.replicate ((dNms types).length:Int).toNat 0) (firstA ⟨ae,order,types,.mk rh rp⟩ 0) 0) (wkB 3 (by repeat' (first | exact rfl | exact we_rfl rfl | exact ui (YQ _) | refine ⟨_,_,rfl,?_,?_⟩)) (by repeat' (first | exact trivial | exact we_rfl rfl | exact ui (YQ _) | refine ⟨⟨_,rfl,?_⟩,?_⟩))) ⟨0,_,rfl,by omega,by simp [hN],fun _ h=>by omega,by omega⟩ ?_
 rintro j st ⟨e,l,rfl,he,uj,Se,rfl⟩;refine br ?_ ?_<;>intro hL
 ·have al:e < types.length:=by have:=hL;simp [hN] at this;exact this
  obtain ⟨x,hx⟩:=gX al;have O4:=TY x (mG hx);have Q7:=Vq hx;have J3:=YS (e + 1);obtain ⟨xw,⟨xh,xp⟩⟩:=x;have hnd:=vU (Ty.mk xh xp).wt (.mk xh xp) (aJ _) O4;refine iX (dNms_get hx) ?_;refine ⟨⟨by omega,by omega⟩,?_⟩;refine ⟨by rw [Uk];omega,?_⟩;refine cP Rk hnd ?_;simp only at Q7 J3;have gT:(cZ l).set (0 + (e:Int).toNat * 1) (DV.v (.int .i64 ((firstA ⟨ae,order,types,.mk rh rp⟩ e:Nat):Int)))=cZ (l.set e ((firstA ⟨ae,order,types,.mk rh rp⟩ e:Nat):Int)):=by grind [Nh]
  have sE:IntKind.i64.wrap (((firstA ⟨ae,order,types,.mk rh rp⟩ e:Nat):Int) + (Ty.mk xh xp).nn)=((firstA ⟨ae,order,types,.mk rh rp⟩ (e + 1):Nat):Int):=by grind [wrap64]
  refine ⟨Us ⟨ae,order,types,.mk rh rp⟩ lc (Gf ⟨ae,order,types,.mk rh rp⟩ az lc) m (l.set e ((firstA ⟨ae,order,types,.mk rh rp⟩ e:Nat):Int)) (firstA ⟨ae,order,types,.mk rh rp⟩ (e + 1)) (e + 1),(wkB 3 (by repeat' (first | exact rfl | exact we_rfl rfl | exact ui gT | exact we_int sE | exact we_int (nxt al (by omega)) | refine ⟨_,_,rfl,?_,?_⟩)) (by repeat' (first | exact trivial | exact we_rfl rfl | exact ui gT | exact we_int sE | exact we_int (nxt al (by omega)) | refine ⟨⟨_,rfl,?_⟩,?_⟩))),types.length - (e + 1),by omega,e + 1,_,rfl,by omega,by rw [List.length_set];exact uj,fun i hi=>?_,rfl⟩;by_cases Lh:i=e
  ·grind
  ·grind
 ·have aM:e=types.length:=sW hN hL;subst aM;refine lJ (fun e=>YR ⟨ae,order,types,.mk rh rp⟩ az lc m l e e) types.length (de 3 ⟨0,3,1,none⟩ rfl rfl rfl tH rfl rfl jT) ?_;intro e he;refine br ?_ ?_<;>intro hL
  ·have al:e < types.length:=by have:=hL;simp [hN] at this;exact this
   obtain ⟨k,hk⟩:=hlo e al;have iT:=(qg hk).1;simp only at iT;have hE:=fx (.sl 1 (dInts ((namedL ⟨ae,order,types,.mk rh rp⟩).take e)) none) e al;rw [hk] at hE;have hnn:namedN ⟨ae,order,types,.mk rh rp⟩ e=firstA ⟨ae,order,types,.mk rh rp⟩ k:=by unfold namedN;rw [hk];all_goals rfl
   have iS:(namedL ⟨ae,order,types,.mk rh rp⟩)[e]? = some (firstA ⟨ae,order,types,.mk rh rp⟩ k):=by grind [namedL]
   have di:dInts ((namedL ⟨ae,order,types,.mk rh rp⟩).take e) ++ [[DV.v (.int .i64 ((firstA ⟨ae,order,types,.mk rh rp⟩ k:Nat):Int))]]=dInts ((namedL ⟨ae,order,types,.mk rh rp⟩).take (e + 1)):=by
    rw [List.take_add_one,iS];simp [dInts]
   refine dS ?_;refine qa en117 hE ax rfl rfl ?_;refine ⟨⟨by simp only [oz];omega,by simp only [oz];omega⟩,?_⟩;have Qf:(cZ l)[0 + (oz (some k)).toNat * 1]? = some (DV.v (.int .i64 ((firstA ⟨ae,order,types,.mk rh rp⟩ k:Nat):Int))):=by grind [oz,Ut]
   refine ⟨_,Qf,?_⟩;refine ⟨by simp [bl];omega,⟨by simp [bl,maxLen];omega,by simp [bl];omega⟩,?_⟩;exact rE ⟨_,by omega,e + 1,rfl,by omega,rfl⟩ (wkB 3 (wA2 (nxt al (by omega)) di) (wB2 (nxt al (by omega)) di))
  ·have aM:e=types.length:=sW hN hL;subst aM;have ht:(namedL ⟨ae,order,types,.mk rh rp⟩).take types.length=namedL ⟨ae,order,types,.mk rh rp⟩:=by rw [<- gW,List.take_length]
   rw [ht];exact ⟨.tup [],[bC ⟨ae,order,types,.mk rh rp⟩ (.pt lc 0) (.loc 1 0) m,pC ⟨ae,order,types,.mk rh rp⟩ az (.pt lc 0) (.v (.slice none 0 0)) (.v (.int .i64 0)) (.sl 1 (dInts (namedL ⟨ae,order,types,.mk rh rp⟩)) none)],ax,iq,rfl⟩
structure Ed where
 name:ByteArray
 bare:Bool
 at':Int
 to:Int
 label:Int
 wide:Int
 ck:Int
 cn:Int
 seen:Int
 ca:Int
structure Nd where
 ag:Int
 at':Int
 lo:Int
 hi:Int
 most:Int
 af:List ByteArray
 aq:List Ed
def tQ (e:Ed):List DV:=[.v (.string e.name),.v (.bool e.bare),.v (.int .i64 e.at'),.v (.int .i64 e.to),.v (.int .i64 e.label),.v (.int .i64 e.wide),.v (.int .i64 e.ck),.v (.int .i64 e.cn),.v (.int .i64 e.seen),.v (.int .i64 e.ca)]
def eM (l:List Ed):List (List DV):=l.map tQ
def kN (n:Nd):List DV:=[.v (.int .i64 n.ag),.v (.int .i64 n.at'),.v (.int .i64 n.lo),.v (.int .i64 n.hi),.v (.int .i64 n.most),.sl 1 (ey n.af) none,.sl 10 (eM n.aq) none]
def cX (l:List Nd):List (List DV):=l.map kN
def kO (w:Int):Int:=if w=0 then 3 else w
def vX (lev:List Wd->Int) (p:Ph) (to:Int):Ed:=⟨p.name.s,p.bare,p.name.a,to,lev p.label,kO p.wide,p.ck,p.cn,lev p.cl,p.ca⟩
def Uu (s:Sch) (name:ByteArray):Int:=(namedN s ((cI (tL s) name).getD 0):Int)
def ng (s:Sch) (t:Ty) (k:Nat):Int:=if t.h.ag=9 then Uu s t.h.name.s else (k:Int)
def um (s:Sch) (p:Ph) (u:Ty) (k:Nat):Int:=if p.bare then -1 else ng s u k
mutual
def ndsT (lev:List Wd->Int) (s:Sch):Ty->Nat->List Nd
 | .mk h ps,k=>if h.ag=9 then [] else ⟨h.ag,h.at',h.lo,h.hi,h.most,au h.af,edsP lev s ps (k + 1)⟩ :: vY lev s ps (k + 1)
def edsP (lev:List Wd->Int) (s:Sch):Pts->Nat->List Ed
 | .nil,_=>[]
 | .cons p u r,k=>vX lev p (um s p u k) :: edsP lev s r (k + if p.bare then 0 else u.nn)
def vY (lev:List Wd->Int) (s:Sch):Pts->Nat->List Nd
 | .nil,_=>[]
 | .cons p u r,k=>(if p.bare then [] else ndsT lev s u k) ++ vY lev s r (k + if p.bare then 0 else u.nn)
end
mutual
theorem jJ (lev:List Wd->Int) (s:Sch):∀ (t:Ty) (k:Nat),(ndsT lev s t k).length=t.nn
 | .mk h ps,k=>by
  simp only [ndsT,Ty.nn];split
  ·rfl
  ·rw [List.length_cons,vZ lev s ps];omega
theorem vZ (lev:List Wd->Int) (s:Sch):∀ (ps:Pts) (k:Nat),(vY lev s ps k).length=ps.nn
 | .nil,k=>rfl
 | .cons p u r,k=>by
  simp only [vY,Pts.nn,List.length_append,vZ lev s r];split
  ·rfl
  ·rw [jJ lev s u]
end
abbrev Lm (s:Sch) (az:List Nat) (lc:List DV) (n:Nat):List DV:=pC s az (.pt lc 0) (.sl 0 (List.replicate n []) (some 0)) (.v (.int .i64 0)) (.sl 1 (dInts (namedL s)) none)
abbrev Gh (n:Nat) (base:List DV):TkE:=⟨n,91,7,some base⟩
def Sf (s:Sch) (az:List Nat) (lc:List DV) (m:Int) (n:Nat) (base:List DV) (y:DV) (B2:List Nd) (r:DV) (os:List (List DV)) (tk:List TkE):Prop:=
 r=y/\os=[bC s (.pt lc 0) (.loc 1 0) m,Lm s az lc (n + B2.length)]/\tk=[Gh (n + B2.length) (base ++ (cX B2).flatten)]
def Ny (lev:List Wd->Int) (s:Sch) (az:List Nat) (lc:List DV) (m:Int) (t:Ty):Prop:=
 ∀ (n:Nat) (base:List DV),n + t.nn<=1099511627776->base.length=n * 7 ->
  Ev prog 52 [.loc 0 0,.agg (dG t)] [bC s (.pt lc 0) (.loc 1 0) m,Lm s az lc n] [Gh n base] (Sf s az lc m n base (.v (.int .i64 (ng s t n))) (ndsT lev s t n))
theorem Kj {X:Lx} (hX:X.OK) (s:Sch) (az:List Nat) (m:Int) (p:Ph) (u:Ty) (hp:p.wt<=1099511627776) (dM:p.bare=false->Ny X.lev s az (gL X.af (cC X.af X.az) X.rows X.js) m u)
  (n:Nat) (base:List DV) (hb:p.bare=false->n + u.nn<=1099511627776) (hbl:base.length=n * 7) :
  Ev prog 119 [.loc 0 0,.agg (Fz p (dG u))] [bC s (.pt (gL X.af (cC X.af X.az) X.rows X.js) 0) (.loc 1 0) m,Lm s az (gL X.af (cC X.af X.az) X.rows X.js) n] [Gh n base]
   (Sf s az (gL X.af (cC X.af X.az) X.rows X.js) m n base (.agg (tQ (vX X.lev p (um s p u n)))) (if p.bare then [] else ndsT X.lev s u n)):=by
 have hw1:wdsWt p.label + wdsWt p.cl<=p.wt:=by simp only [Ph.wt];omega
 have EV:X.pd = .pt (gL X.af (cC X.af X.az) X.rows X.js) 0:=rfl;have HR:=fun pc=>vV hX s pc m p.label (by omega);have Sg:=fun pc=>vV hX s pc m p.cl (by omega);rw [EV] at HR Sg;have hE:=fun to=>vX.eq_1 X.lev p to;have ox:=um.eq_1 s p u n;generalize gL X.af (cC X.af X.az) X.rows X.js=lc at HR Sg dM ⊢;obtain ⟨ae,order,types,⟨rh,rp⟩⟩:=s;obtain ⟨uh,us⟩:=u;refine eG 52 [.cell 4 193] func119 rfl ntmps119 rfl fun _ _ _ _=>?_;have Sh:=HR [.pt lc 0,.sl 0 (List.replicate n []) none,.v (.int .i64 0),.pt (cC (tL ⟨ae,order,types,.mk rh rp⟩) az) 0,.sl 1 (dInts (namedL ⟨ae,order,types,.mk rh rp⟩)) none];have Si:=Sg [.pt lc 0,.sl 0 (List.replicate n []) none,.v (.int .i64 0),.pt (cC (tL ⟨ae,order,types,.mk rh rp⟩) az) 0,.sl 1 (dInts (namedL ⟨ae,order,types,.mk rh rp⟩)) none];apply nI (fun _=>false) 11 15 [0,1,2,3,4,5,6,7,8,9,10,11,12,13,14,15,16] [0,1,2,3,4,5,6,7,8,9,10,15,11,12,13,14,16] 4 4 mo (by decide +kernel)
 ·refine qa H9 Sh ax rfl rfl ?_;refine (?_:@Eq St _ _);exact rfl
 ·refine qa H9 Sh ax rfl rfl ?_;refine (⟨rfl,rfl,?_⟩:_/\_/\_)
  repeat' (first | exact trivial | refine ⟨rfl,?_⟩)
 ·rfl
 refine br ?_ ?_<;>intro hw
 ·have hw:p.wide=0:=sU hw;refine ua [4] (fun _=>false) mo (by decide +kernel) ?_;refine qa H9 Si ax rfl rfl ?_;refine br ?_ ?_<;>intro hB
  ·have hB:p.bare=false:=sU hB;refine fK 2 1 PJ rfl rfl rfl iq iq (dM hB n base (hb hB) hbl) (fun r gF bP hΦ h1 h2=>?_);obtain ⟨rfl,rfl,rfl⟩:=hΦ;refine ⟨.agg (tQ ⟨p.name.s,p.bare,p.name.a,ng ⟨ae,order,types,.mk rh rp⟩ (.mk uh us) n,X.lev p.label,3,p.ck,p.cn,X.lev p.cl,p.ca⟩),[bC ⟨ae,order,types,.mk rh rp⟩ (.pt lc 0) (.loc 1 0) m,Lm ⟨ae,order,types,.mk rh rp⟩ az lc (n + (ndsT X.lev ⟨ae,order,types,.mk rh rp⟩ (.mk uh us) n).length)],ax,iq,?_,?_,?_⟩
   ·simp [hE,um,hB,kO,hw]
   ·simp [hB]
   ·simp [hB]
  ·have hB:p.bare=true:=sU hB;refine ⟨.agg (tQ ⟨p.name.s,p.bare,p.name.a,-1,X.lev p.label,3,p.ck,p.cn,X.lev p.cl,p.ca⟩),[bC ⟨ae,order,types,.mk rh rp⟩ (.pt lc 0) (.loc 1 0) m,Lm ⟨ae,order,types,.mk rh rp⟩ az lc n],ax,iq,?_,?_,?_⟩
   ·simp [hE,um,hB,kO,hw]
   ·simp [hB]
   ·simp [hB,cX]
 ·have hw:¬ p.wide=0:=sU hw;refine ua [4] (fun _=>false) mo (by decide +kernel) ?_;refine qa H9 Si ax rfl rfl ?_;refine br ?_ ?_<;>intro hB
  ·have hB:p.bare=false:=sU hB;refine fK 2 1 PJ rfl rfl rfl iq iq (dM hB n base (hb hB) hbl) (fun r gF bP hΦ h1 h2=>?_);obtain ⟨rfl,rfl,rfl⟩:=hΦ;refine ⟨.agg (tQ ⟨p.name.s,p.bare,p.name.a,ng ⟨ae,order,types,.mk rh rp⟩ (.mk uh us) n,X.lev p.label,p.wide,p.ck,p.cn,X.lev p.cl,p.ca⟩),[bC ⟨ae,order,types,.mk rh rp⟩ (.pt lc 0) (.loc 1 0) m,Lm ⟨ae,order,types,.mk rh rp⟩ az lc (n + (ndsT X.lev ⟨ae,order,types,.mk rh rp⟩ (.mk uh us) n).length)],ax,iq,?_,?_,?_⟩
   ·simp [hE,um,hB,kO,hw]
   ·simp [hB]
   ·simp [hB]
  ·have hB:p.bare=true:=sU hB;refine ⟨.agg (tQ ⟨p.name.s,p.bare,p.name.a,-1,X.lev p.label,p.wide,p.ck,p.cn,X.lev p.cl,p.ca⟩),[bC ⟨ae,order,types,.mk rh rp⟩ (.pt lc 0) (.loc 1 0) m,Lm ⟨ae,order,types,.mk rh rp⟩ az lc n],ax,iq,?_,?_,?_⟩
   ·simp [hE,um,hB,kO,hw]
   ·simp [hB]
   ·simp [hB,cX]
def nd0 (h:Hd):List DV:=[.v (.int .i64 h.ag),.v (.int .i64 h.at'),.v (.int .i64 h.lo),.v (.int .i64 h.hi),.v (.int .i64 h.most),.sl 1 (ey (au h.af)) none,.v (.slice none 0 0)]
theorem Qg {h:Hd} {base R:List DV} {n:Nat} {x:DV} (hb:base.length=n * 7):(base ++ (nd0 h ++ R)).set (n * 7 + 6) x=base ++ ([.v (.int .i64 h.ag),.v (.int .i64 h.at'),.v (.int .i64 h.lo),.v (.int .i64 h.hi),.v (.int .i64 h.most),.sl 1 (ey (au h.af)) none,x] ++ R):=by
 rw [List.set_append_right _ _ (by omega),hb,Nat.add_sub_cancel_left];rfl
theorem zr (l:List Ed) (e:Ed):eM l ++ [tQ e]=eM (l ++ [e]):=by simp [eM]
theorem cj (l:List Ed):(eM l).length=l.length:=by simp [eM]
theorem qh (lev:List Wd->Int) (s:Sch):∀ (ps:Pts) (k:Nat),(edsP lev s ps k).length=ps.len
 | .nil,_=>rfl
 | .cons p u r,k=>by simp [edsP,Pts.len,qh lev s r]
abbrev YT (s:Sch) (az:List Nat) (lc:List DV) (m:Int) (n:Nat) (base:List DV) (h:Hd) (ps:Pts) (q e:Nat):St:=
 ⟨[aw 0 0,aw 3 2,ap 7 n,aw 8 3,aU 61 2 (bq h.af),ap 62 ((bq h.af).length),ap 63 e],
  [bC s (.pt lc 0) (.loc 1 0) m,Lm s az lc n,dG (.mk h ps),[.v (.int .i64 h.ag),.v (.int .i64 h.at'),.v (.int .i64 h.lo),.v (.int .i64 h.hi),.v (.int .i64 h.most),.sl 1 (ey (au (h.af.take e))) (some 1),.v (.slice none 0 0)]],
  [Gh n base,⟨q,9,1,none⟩]⟩
abbrev Nz (s:Sch) (az:List Nat) (lc:List DV) (m:Int) (n:Nat) (h:Hd) (ps:Pts) (n':Nat) (qi:List DV) (Es:List Ed) (q1 q2 e:Nat):St:=
 ⟨[aw 0 0,aw 3 2,ap 7 n,(11,⟨[],.sl 10 (eM Es) (some 2)⟩),aU 92 18 (fm ps),ap 93 ((fm ps).length),ap 94 e],
  [bC s (.pt lc 0) (.loc 1 0) m,Lm s az lc n',dG (.mk h ps)],
  [Gh n' qi,⟨q1,9,1,none⟩,⟨q2,193,10,none⟩]⟩
theorem lX {X:Lx} {L:List ByteArray} {h:Hd} {ps:Pts} (hk:(knT X L (.mk h ps)).1=0):(h.ag=9->cI L h.name.s≠none)/\(knP X L ps).1=0:=by grind [knT]
theorem rS {X:Lx} {L:List ByteArray} {p:Ph} {u:Ty} {r:Pts} (hk:(knP X L (.cons p u r)).1=0):(p.bare=false->(knT X L u).1=0)/\(knP X L r).1=0:=by grind [knP]
theorem zs {X:Lx} (hX:X.OK) (s:Sch) (az:List Nat) (m:Int) (hT:gJ (tL s) az) (kB:az.length<=1099511627776):∀ (k:Nat) (t:Ty),t.wt<=k->t.wt<=1099511627776->(knT X (tL s) t).1=0 ->
  Ny X.lev s az (gL X.af (cC X.af X.az) X.rows X.js) m t
 | 0,t,hn,_,_=>by have:=t.cT;omega
 | k + 1,.mk h ps,hn,bW,LN=>by
  have ih:=zs hX s az m hT kB k;intro n base hnb hbl;obtain ⟨hk9,Uv⟩:=lX LN;have kP:=fun (p:Ph) (u:Ty)=>Kj hX s az m p u;generalize gL X.af (cC X.af X.az) X.rows X.js=lc at ih kP ⊢;simp only [Ty.wt,Hd.wt] at hn bW;have iP:=ps.fk;have gW:=bi h.af;have hf:=ig (tL s) az h.name.s hT kB;have eN:=jI s;have hnmL:(namedL s).length=s.types.length:=by simp [namedL]
  have Qh:ng s (.mk h ps) n=if h.ag=9 then Uu s h.name.s else (n:Int):=rfl
  have Kk:ndsT X.lev s (.mk h ps) n=if h.ag=9 then [] else ⟨h.ag,h.at',h.lo,h.hi,h.most,au h.af,edsP X.lev s ps (n + 1)⟩ :: vY X.lev s ps (n + 1):=by rw [ndsT]
  have hnn:(Ty.mk h ps).nn=if h.ag=9 then 0 else 1 + ps.nn:=by rw [Ty.nn]
  generalize hS:s=S at *;subst hS;obtain ⟨ae,order,types,⟨rh,rp⟩⟩:=s;refine eG 117 [.tmp 4] func52 rfl ntmps52 rfl fun _ _ _ _=>?_;refine br ?_ ?_<;>intro h9
  ·have h9:h.ag=9:=sU h9;obtain ⟨i,hi⟩:=Option.ne_none_iff_exists'.1 (hk9 h9);have Li:=(cQ hi).1;rw [hi] at hf;rw [aj h9] at Qh Kk;have iS:(namedL ⟨ae,order,types,.mk rh rp⟩)[i]? = some (namedN ⟨ae,order,types,.mk rh rp⟩ i):=by grind [namedL]
   refine dI ?_;refine cD mO hf ?_;refine iX (dK iS) ?_;refine ⟨.v (.int .i64 (namedN ⟨ae,order,types,.mk rh rp⟩ i:Nat)),[bC ⟨ae,order,types,.mk rh rp⟩ (.pt lc 0) (.loc 1 0) m,Lm ⟨ae,order,types,.mk rh rp⟩ az lc n],ax,iq,?_,?_,?_⟩
   ·rw [Qh,Uu,hi];rfl
   ·rw [Kk];rfl
   ·rw [Kk];simp [cX]
  have h9:¬ h.ag=9:=sU h9;rw [ai h9] at Qh Kk hnn;have gD:(List.replicate n ([]:List DV)).length=n:=List.length_replicate;refine lJ (fun e=>YT ⟨ae,order,types,.mk rh rp⟩ az lc m n base h ps e e) h.af.length (de 4 ⟨0,9,1,none⟩ rfl rfl rfl (yL gD) rfl rfl (wB1 gD)) ?_;intro e he;refine br ?_ ?_<;>intro hL
  ·have al:e < h.af.length:=by simpa [av] using hL
   obtain ⟨w,hw⟩:=gX al;have di:=je hw;refine ⟨jA w,⟨by omega,aK hw⟩,?_⟩;refine ⟨by simp [bL,au];omega,⟨by simp [bL,au,maxLen];omega,by simp [bL,au];omega⟩,?_⟩;exact rE ⟨_,by omega,e + 1,rfl,by omega,rfl⟩ (wkB 4 (wA2 (nxt al (by omega)) di) (wB2 (nxt al (by omega)) di))
  have aM:e=h.af.length:=by have:=hL;simp [av] at this;omega
  subst aM;rw [List.take_length];refine dS ?_;refine ⟨⟨⟨gD,by simp⟩,by simp [maxLen];omega,by simp;omega⟩,?_⟩
  refine aQ (fun j st=>∃ (e n':Nat) (qi:List DV) (Es:List Ed) (K:List Nd),st=Nz ⟨ae,order,types,.mk rh rp⟩ az lc m n h ps n' qi Es h.af.length e e/\e<=ps.len/\n'=n + 1 + K.length/\qi=base ++ (nd0 h ++ (cX K).flatten)/\Es.length=e /\
    K ++ vY X.lev ⟨ae,order,types,.mk rh rp⟩ (ps.drop e) (n + 1 + K.length)=vY X.lev ⟨ae,order,types,.mk rh rp⟩ ps (n + 1)/\Es ++ edsP X.lev ⟨ae,order,types,.mk rh rp⟩ (ps.drop e) (n + 1 + K.length)=edsP X.lev ⟨ae,order,types,.mk rh rp⟩ ps (n + 1)/\K.length + (ps.drop e).nn=ps.nn/\(knP X (tL ⟨ae,order,types,.mk rh rp⟩) (ps.drop e)).1=0/\j=ps.len - e) ps.len
   (Nz ⟨ae,order,types,.mk rh rp⟩ az lc m n h ps (n + 1) (base ++ (nd0 h ++ [])) [] h.af.length 0 0) (de 3 ⟨0,193,10,none⟩ rfl rfl rfl tH rfl rfl jT) ⟨0,n + 1,_,[],[],rfl,by omega,rfl,rfl,rfl,rfl,rfl,by simp [Pts.drop],Uv,by omega⟩ ?_
  rintro j st ⟨e,n',qi,Es,K,rfl,he,Q6,ep,Vu,hK,VI,hKn,Gd,rfl⟩
  have hbl':qi.length=n' * 7:=by
   have:∀ l:List Nd,(cX l).flatten.length=l.length * 7:=by
    intro l
    induction l with
    | nil=>rfl
    | cons a r ih=>simp only [cX,List.map_cons,List.flatten_cons,List.length_append,List.length_cons] at ih ⊢;rw [ih];simp only [kN,List.length_cons,List.length_nil];omega
   rw [ep,List.length_append,List.length_append,this,hbl,Q6];simp only [nd0,List.length_cons,List.length_nil];omega
  refine br ?_ ?_<;>intro hL
  ·have al:e < ps.len:=by simpa [aD] using hL
   obtain ⟨p,u,hx⟩:=Pts.dX al;have CP:=Pts.fM (mG hx);rw [Pts.drop_cons hx] at hK VI hKn Gd;obtain ⟨oi,LW⟩:=rS Gd;simp only [vY] at hK;simp only [edsP] at VI;simp only [Pts.nn] at hKn;rw [<- Q6] at hK VI;have hun:=u.fT;have huc:=u.dY;have du:=kP p u (by omega) (fun hB=>ih u (by omega) (by omega) (oi hB)) n' qi (fun hB=>by rw [hB] at hKn;simp only [Bool.false_eq_true,if_false] at hKn;omega) hbl';have YU:=jJ X.lev ⟨ae,order,types,.mk rh rp⟩ u n';obtain ⟨uh,us⟩:=u;refine iX (bF hx) ?_;refine fK 2 1 WY rfl rfl rfl iq iq du (fun r gF bP hΦ h1 h2=>?_);obtain ⟨rfl,rfl,rfl⟩:=hΦ;refine ⟨by rw [cj,Vu],⟨by simp [cj,Vu,maxLen];omega,by simp [cj,Vu];omega⟩,?_⟩
   have hnl2:(if p.bare then [] else ndsT X.lev ⟨ae,order,types,.mk rh rp⟩ (.mk uh us) n').length=if p.bare then 0 else (Ty.mk uh us).nn:=by
    split
    ·rfl
    ·exact YU
   have hidx2:n + 1 + (K.length + (if p.bare then 0 else (Ty.mk uh us).nn))=n' + if p.bare then 0 else (Ty.mk uh us).nn:=by rw [Q6];omega
   refine ⟨Nz ⟨ae,order,types,.mk rh rp⟩ az lc m n h ps (n' + (if p.bare then [] else ndsT X.lev ⟨ae,order,types,.mk rh rp⟩ (.mk uh us) n').length) (qi ++ (cX (if p.bare then [] else ndsT X.lev ⟨ae,order,types,.mk rh rp⟩ (.mk uh us) n')).flatten) (Es ++ [vX X.lev p (um ⟨ae,order,types,.mk rh rp⟩ p (.mk uh us) n')]) h.af.length (e + 1) (e + 1),(wkB 3 (by repeat' (first | exact rfl | exact we_rfl rfl | exact we_int (nxt al (by omega)) | exact bZ (zr _ _) rfl | refine ⟨_,_,rfl,?_,?_⟩)) (by repeat' (first | exact trivial | exact we_rfl rfl | exact we_int (nxt al (by omega)) | exact bZ (zr _ _) rfl | refine ⟨⟨_,rfl,?_⟩,?_⟩))),
    ps.len - (e + 1),by omega,e + 1,_,_,_,K ++ (if p.bare then [] else ndsT X.lev ⟨ae,order,types,.mk rh rp⟩ (.mk uh us) n'),rfl,by omega,?_,?_,?_,?_,?_,?_,LW,rfl⟩
   ·rw [List.length_append,Q6];omega
   ·rw [ep];simp [cX]
   ·simp [Vu]
   ·simp_all
   ·simp_all
   ·rw [List.length_append,hnl2];omega
  ·have aM:e=ps.len:=by have:=hL;simp [aD] at this;omega
   subst aM;rw [Pts.cV] at hK VI;simp only [vY,List.append_nil] at hK;simp only [edsP,List.append_nil] at VI;have hKl:K.length=ps.nn:=by rw [hK,vZ]
   have hrl2:(List.replicate n' ([]:List DV)).length=n':=List.length_replicate;refine Ke (kt:=0) ⟨rfl,rfl⟩ ⟨rfl,rfl,rfl⟩ ⟨rfl,rfl,rfl⟩ rfl rfl rfl rfl rfl rfl rfl rfl rfl rfl rfl hrl2 ⟨by omega,by omega⟩ (by decide) ?_;have YV:n + (ndsT X.lev ⟨ae,order,types,.mk rh rp⟩ (.mk h ps) n).length=n':=by rw [Kk,List.length_cons,<- hK,Q6];omega
   have qZ:qi.set ((n:Int).toNat * 7 + 6) (.sl 10 (eM Es) none)=base ++ (cX (ndsT X.lev ⟨ae,order,types,.mk rh rp⟩ (.mk h ps) n)).flatten:=by
    rw [ep,show (n:Int).toNat=n by omega,Qg hbl,Kk,VI,hK];rfl
   refine ⟨.v (.int .i64 n),[bC ⟨ae,order,types,.mk rh rp⟩ (.pt lc 0) (.loc 1 0) m,Lm ⟨ae,order,types,.mk rh rp⟩ az lc n'],ax,iq,?_,?_,?_⟩
   ·rw [Qh]
   ·rw [YV]
   ·rw [YV,<- qZ];rfl
end Go.Proofs.YtgjagnmeonoehaaGreat
namespace Go.Proofs.YtgjagnmeonoehaaGreat
namespace Dv
open Go Go.RowKit
section
variable {X:Ctx} {st:St} {k:List It} {E:En} {a:Act} {w:World} {ops:Array Oper} {W:Nat->Bool} {C:World->Prop} {Q:Act->World->Prop} {i:Nat} {r:List Nat} {o:Oper}
theorem iA (hg:o.guard=none):Region.wanted o (yielded ops a.tmps)=true:=by
 unfold Region.wanted;rw [hg]
theorem Qi {bx:List (List DV)} {wr:World} (h:Rel X E st a w) (hE:uW E bx wr) (hC:∀ w',C w' -> CC E bx wr w'):Rl E bx C st.sl a where
 tm:=h.tm
 eo:=fun i cs hi=>by
  by_cases aT:cs=[]
  ·subst aT;have al:i < E.β.length:=by rw [hE.len];exact (gS hi).1
   exact ⟨_,[],gE al,⟨cf _,by simp⟩,fun w' _ j u hj=>by simp at hj⟩
  ·obtain ⟨b,ty,arr,hb,hw,hc⟩:=hE.eo i cs hi aT;exact ⟨b,arr,hb,hc,fun w' h' j u hj=>by rw [cd (((hC w' h').o i b cs hb hi aT).trans hw)];simpa using hj⟩
 cc:=fun x v hx w' h'=>(hC w' h').c x v hx
theorem Qj {bx:List (List DV)} (h:Env E bx w) (m:List Nat):uW E (maskL m 0 bx) w:=⟨by rw [re];exact h.len,fun i cs hi aT=>by
 rcases rf m _ _ _ _ hi with h1 | h1
 ·exact (aT h1).elim
 ·exact h.eo i cs h1⟩
theorem lY (hR:Rel X E st a w) (ho:ops[i]? = some o) (hE:isE o.op=false) (hL:qV o.op=false) (hg:o.guard=none) {s:DV} (hs:pureT X.P X.T ⟨st.sl,[],[]⟩ [] o.op=some s) (hd:e9 X.nt st.sl o.dst=true)
  (hk:∀ a',Rel X E (st.put o.dst ⟨[],s⟩) a' w->runT X.P ops W C Q r a' w):runT X.P ops W C Q (i :: r) a w:=by
 have gD:Rl E [] (fun _=>False) st.sl a:=⟨hR.tm,fun i cs hi=>by simp at hi,fun _ _ _ _ h=>h.elim⟩;obtain ⟨v,hv,bU⟩:=gR (st:=⟨st.sl,[],[]⟩) X.hT gD (bd _) hs;simp only [runT,ho,hE,Bool.false_eq_true,if_false];exact ⟨v,.inl ⟨iA hg,fun w' _=>bU w' fun h=>by rw [hL] at h;cases h⟩,fun h=>(by rw [hL] at h;cases h),hk _ (aV hR hd s v hv)⟩
theorem Qk (hR:Rel X E st a w) (ho:ops[i]? = some o) {bx:List (List DV)} (gD:Rl E bx C st.sl a) (Ws:C w) (hE:isE o.op=false) (hg:o.guard=none) {s:DV} (hs:pureT X.P X.T ⟨st.sl,bx,[]⟩ [] o.op=some s) (hd:e9 X.nt st.sl o.dst=true)
  (hk:∀ a',Rel X E (st.put o.dst ⟨[],s⟩) a' w->runT X.P ops W C Q r a' w):runT X.P ops W C Q (i :: r) a w:=by
 obtain ⟨v,hv,bU⟩:=gR (st:=⟨st.sl,bx,[]⟩) X.hT gD (bd _) hs;simp only [runT,ho,hE,Bool.false_eq_true,if_false];exact ⟨v,.inl ⟨iA hg,fun w' h=>bU w' h⟩,fun _=>Ws,hk _ (aV hR hd s v hv)⟩
theorem Ql (hR:Rel X E st a w) (ho:ops[i]? = some o) {t x d:Nat} {b p j:Nat} {n:Nat} {kd:TK} {z:List Value} (hb:E.β[j]? = some b) (kE:o.op = .load t (.tmp x)) (gU:o.dst=some d) {i2 Gi b2:Nat} (gg:E.β[i2]? = some b2) (hx:rv st [] (.tmp x)=some (.loc i2 p)) (hT:X.T.find t=some ⟨n,false,kd,z⟩)
  (hC:∀ w',C w' -> w'.cell? ⟨b2,p,none⟩=some (.pointer (some ⟨b,Gi,none⟩))) (Ws:C w) (hg:o.guard=none) (hd:e9 X.nt st.sl (some d)=true)
  (hk:∀ a',Rel X E ⟨(d,⟨[],.loc j Gi⟩) :: st.sl,st.bx,st.tk⟩ a' w->runT X.P ops W C Q r a' w):runT X.P ops W C Q (i :: r) a w:=by
 have hE:isE o.op=false:=by rw [kE];all_goals rfl
 simp only [runT,ho,hE,Bool.false_eq_true,if_false];have hv:Rv E (.loc j Gi) (.pointer (some ⟨b,Gi,none⟩)):=by unfold Rv;exact ⟨b,hb,rfl⟩
 refine ⟨.pointer (some ⟨b,Gi,none⟩),.inl ⟨iA hg,fun w' h=>?_⟩,fun _=>Ws,?_⟩
 ·have hC':=hC w' (h (by rw [kE];rfl));have e1:=aP hR.rl hx;unfold Rv at e1;obtain ⟨b3,Lb,e1⟩:=e1;rw [gg] at Lb;simp only [oI] at Lb;subst Lb;have Pg:=(te_parts X.hT hT).2.1
  have hl:(loadVar t ⟨b2,p,none⟩).run X.P w' = .ok (.pointer (some ⟨b,Gi,none⟩)) w':=by
   simp [loadVar,jl Pg,hC']
  simp only [execOp,kE,e1,Sem.run_bind,Instr.loadAt,Instr.sureAddr,Sem.run_pure,Result.andThen_ok,hl]
 ·rw [gU];exact hk _ (aV hR hd (.loc j Gi) _ hv)
theorem Kl (hR:Rel X E st a w) (ho:ops[i]? = some o) {dst:Option Nat} {f:Operand} {args:Array Operand} {tys:Array TypeId} (kE:o.op = .call ⟨.value f,args,tys⟩) (gU:o.dst=dst) (hg:o.guard=none) {g:FuncId} {ds:List DV} (hf:rv st [] f=some (.fn g [] [])) (hl:argsV st [] args.toList=some ds) (jS:Enters X.P g)
  {K:Value->World->Prop} (hc:∀ vs,RvL E ds vs->Calls X.P g vs.toArray w fun e w'=>∃ v,e = .returned v/\K v w') (hk:∀ v w',K v w' -> (W i=false->C w->C w')/\runT X.P ops W C Q r (a.put dst v) w'):runT X.P ops W C Q (i :: r) a w:=by
 have hE:isE o.op=true:=by rw [kE];all_goals rfl
 have hwn:=iA (ops:=ops) (a:=a) hg;have gD:=hR.rl;have e1:=aP gD hf;unfold Rv at e1;obtain ⟨l1,r1,e1,HR,hr1⟩:=e1;simp only [RvL] at HR hr1;subst HR hr1;have hargs:=gQ gD (bd _) _ _ hl;simp only [runT,ho,hE,if_true,eH,hwn];subst gU;obtain ⟨dst,op,ty,pos,after,gu⟩:=o;simp only at kE;subst kE
 have hr:(execOp a.eval ⟨dst,.call ⟨.value f,args,tys⟩,ty,pos,after,gu⟩).run X.P w = .ok (.enter g (args.toList.map a.eval).toArray) w:=by
  have e3:(([]:List Value).toArray ++ args.map a.eval ++ ([]:List Value).toArray)=(args.toList.map a.eval).toArray:=by apply Array.ext';simp
  simp only [execOp,resolve,e1,Deferred.ofValue,Sem.run_bind,Sem.run_pure,Result.andThen_ok,invoke,e3];exact jS _ _
 unfold wq;rw [hr];refine (hc _ hargs).mono ?_;rintro e w' ⟨v,rfl,hK⟩;exact ⟨v,rfl,hk v w' hK⟩
theorem Qm (hR:Rel X E st a w) (ho:ops[i]? = some o) {dst:Option Nat} {f:Operand} {args:Array Operand} {tys:Array TypeId} (kE:o.op = .call ⟨.value f,args,tys⟩) (gU:o.dst=dst) (hg:o.guard=none) {g:FuncId} {ds TP:List DV} (hf:rv st [] f=some (.fn g [] [])) (hl:argsV st [] args.toList=some ds) (jS:Enters X.P g)
  {os:List (List DV)} (n1 m1:Nat) (Cd:Nat.ble n1 st.bx.length=true) (iE:Nat.ble m1 st.tk.length=true) (Ck:ll [] n1 n1 m1 os (st.bx.take n1)) (ha:CcL [] n1 n1 m1 TP ds)
  {Φ:DV->List (List DV)->List TkE->Prop} (hc:Ev X.P g TP os (st.tk.take m1) Φ) (aY:X.still=false) (hX:X.bt=[])
  (hk:∀ v r' gF bP E' w',Φ r' gF bP -> gF.length=n1->bP.length=m1->Rel X E' ⟨st.sl,gF ++ st.bx.drop n1,bP ++ st.tk.drop m1⟩ a w' -> Rv E' r' v->Ext E E' -> E'.β=E.β->(∀ (i:Nat) b,n1<=i->E.β[i]? = some b->w'.heap[b]? = w.heap[b]?) ->
   (W i=false->C w->C w')/\runT X.P ops W C Q r (a.put dst v) w'):runT X.P ops W C Q (i :: r) a w:=by
 refine Kl hR ho kE gU hg hf hl jS (K:=fun v w'=>∃ r' gF bP E',Φ r' gF bP /\ gF.length=n1/\bP.length=m1/\Rel X E' ⟨st.sl,gF ++ st.bx.drop n1,bP ++ st.tk.drop m1⟩ a w' /\ Rv E' r' v/\Ext E E' /\ E'.β=E.β/\∀ (i:Nat) b,n1<=i->E.β[i]? = some b->w'.heap[b]? = w.heap[b]?)
  (fun vs hv=>?_) ?_
 ·refine (Df n1 m1 Cd iE Ck ha hc aY hX hR hv).mono ?_
  grind
 ·grind
theorem Qn (h:Rel X E st a w) (j o k:Nat) {n ty e:Nat} {Lk:List DV} {es ns:List (List DV)} (hq:st.tk[k]? = some ⟨n,ty,e,some ns.flatten⟩) (x7:∀ x∈ns,x.length=e) (gW:ns.length=n) (hj:st.bx[j]? = some Lk) (ho:Lk[o]? = some (.sl 0 es (some k))) (iR:es.length=n) :
  ∃ E',Rel X E' ⟨st.sl,st.bx.set j (Lk.set o (.sl e ns none)),st.tk.set k ⟨n,ty,e,none⟩⟩ a w:=Uh hq x7 gW hj ho iR E a w h
theorem Km (hR:Rel X E st a w) (ho:ops[i]? = some o) (hE:isE o.op=true) (hg:o.guard=none) (hW:W i=true) (hd:e9 X.nt st.sl o.dst=true) {p:Prop} (hp:effC X st o (go X 4000 k)=some p) (h:p):runT X.P ops W C (fun a w=>kq X k .normal a w) [i] a w:=by
 have hwn:=iA (ops:=ops) (a:=a) hg;simp only [runT,ho,hE,if_true,eH,hwn];refine lx ?_ (ly hd hR hp h);rintro a' w' ⟨st',E',qY,hr,_⟩;exact ⟨(fun h=>by rw [hW] at h;cases h),go_sound 4000 _ _ qY _ _ _ hr⟩
mutual
theorem rT {i j:Nat}:∀ d:DV,renD (swp i j) (renD (swp i j) d)=d
 | .v x=>rfl
 | .ud=>rfl
 | .agg l=>by simp only [renD,jh]
 | .tup l=>by simp only [renD,jh]
 | .sl e es tk=>rfl
 | .pt cs o=>rfl
 | .loc k o=>by simp only [renD,lD]
 | .el k o=>by simp only [renD,lD]
 | .ms k e o l c=>by simp only [renD,lD]
 | .fn g l r=>by simp only [renD,jh]
 | .su t x=>by simp only [renD,rT]
theorem jh {i j:Nat}:∀ l:List DV,renL (swp i j) (renL (swp i j) l)=l
 | []=>rfl
 | d :: r=>by simp only [renL,rT,jh]
end
theorem zt {i j:Nat}:∀ l:List (Nat × Sl),renS (swp i j) (renS (swp i j) l)=l
 | []=>rfl
 | (k,⟨gs,s⟩) :: r=>by simp only [renS,rT,zt]
theorem zu {i j:Nat}:∀ l:List (List DV),renO (swp i j) (renO (swp i j) l)=l
 | []=>rfl
 | c :: r=>by simp only [renO,jh,zu]
theorem NA {i j:Nat} (f:Nat->Nat) (l:List (List DV)) (hi:i < l.length) (hj:j < l.length):renO f (swL i j l)=swL i j (renO f l):=by
 apply List.ext_getElem?
 grind [u2,fI,dQ]
theorem Dz {i j:Nat} {S:St} (hi:i < S.bx.length) (hj:j < S.bx.length):fu i j (fu i j S)=S:=by
 obtain ⟨sl,bx,tk⟩:=S;simp only [fu,zt];rw [NA _ _ (by rw [dQ];exact hi) (by rw [dQ];exact hj),zu];congr 1;apply List.ext_getElem?
 grind [fI,eQ,lD]
theorem CallG.YW {f:FuncId} {args:List DV} {dst:Option Nat} (i j:Nat) (LA:Nat.ble X.n0 i=true) (Cj:Nat.ble X.n0 j=true) (hi:Nat.blt i st.bx.length=true) (hj:Nat.blt j st.bx.length=true)
  (h:CallG X f (renL (swp i j) args) dst k (fu i j st)) (hX:X.bt=[]:=by exact rfl):CallG X f args dst k st:=by
 have gk:=hi;have jd:=hj;simp only [Nat.blt_eq] at gk jd;have hl:(fu i j st).bx.length=st.bx.length:=by simp only [fu,eQ,dQ]
 exact CallG.Fw i j (Dz gk jd).symm (jh args).symm LA Cj (by rw [hl];exact hi) (by rw [hl];exact hj) h hX
theorem Gj {P:Program} {t e:TypeId} (hu:P.underlying t=some (.slice e)) (d:Nat) (x:Option Addr) (n c:Nat) (w:World):(Op.equalIn (d + 1) t (.slice x n c) (.slice none 0 0)).run P w = .ok x.isNone w:=by
 cases x<;>simp [Op.equalIn,run_underlying hu]
theorem v7 {P:Program} {t e:TypeId} (hu:P.underlying t=some (.slice e)) (x:Option Addr) (n c:Nat) (w:World):(Op.equal t (.slice x n c) (.slice none 0 0)).run P w = .ok x.isNone w:=Gj hu 9999 x n c w
theorem NB {t d e:Nat} {x:Operand} {es:List (List DV)} {tk:Option Nat} {n et e' jR:Nat} {bb:Bool} {z:List Value} (kE:∃ t',o.op = .binOp .eql t x (.const (.slice none 0 0)) t') (gU:o.dst=some d) (hx:rv st [] x=some (.sl e es tk)) (hT:X.T.find t=some ⟨n,bb,.sl et e' jR,z⟩) (hd:e9 X.nt st.sl (some d)=true)
  (hk:∀ b:Bool,(es ≠ []->b=false)->go X 4000 k ⟨(d,⟨[],.v (.bool b)⟩) :: st.sl,st.bx,st.tk⟩):HE X o k st:=by
 intro E a w h;obtain ⟨t',kE⟩:=kE;have e1:=aP h.rl hx;unfold Rv at e1;obtain ⟨b,m,cap,e1,⟨rfl,_⟩,hr,_⟩:=e1;obtain ⟨hu,_⟩:=eC X.hT hT;have aG:=v7 hu b es.length cap w
 have bU:(execOp a.eval o).run X.P w = .ok (.value (.bool b.isNone)) w:=by
  have hc:a.eval (.const (.slice none 0 0)) = .slice none 0 0:=rfl;simp [execOp,kE,e1,hc,eqGuard,binOp,aG]
 refine gn bU ?_;rw [gU];refine go_sound 4000 _ _ (hk b.isNone fun aT=>?_) E _ w (aV h hd (.v (.bool b.isNone)) _ (by unfold Rv;exact ⟨rfl,rfl⟩));have:=lr (hr aT).1;rw [this];rfl
theorem YX {t d et e jR n:Nat} {bb:Bool} {z:List Value} (kE:o.op = .buildSlice t 0 #[]) (gU:o.dst=some d) (hT:X.T.find t=some ⟨n,bb,.sl et e jR,z⟩) (hd:e9 X.nt st.sl (some d)=true) (aY:X.still=false:=by exact rfl) (hX:X.bt=[]:=by exact rfl) :
  OpS X o st ⟨(d,⟨[],.sl e [] (some st.tk.length)⟩) :: st.sl,st.bx,st.tk ++ [⟨0,et,e,none⟩]⟩:=by
 intro E a w h;obtain ⟨hu,ii,zv,yD,hz,bM,uB,Js⟩:=eC X.hT hT;have oa:iu X.P et=some e:=by rw [gm yD,bM]
 have bU:(execOp a.eval o).run X.P w = .ok (.value (.slice (some ⟨w.heap.size,0,none⟩) 0 0)) (w.alloc (.cells #[] et)):=by
  have h1:(Instr.buildSlice t 0 #[]).run X.P w = .ok (.slice (some ⟨w.heap.size,0,none⟩) 0 0) (w.alloc (.cells #[] et)):=by
   have h0:Array.range 0 = #[]:=rfl;simp [Instr.buildSlice,run_underlying hu,aH oa,Instr.fill,newRow,h0]
  simp only [execOp,kE,List.map_toArray,List.map_nil,Sem.run_bind,h1,Result.andThen_ok,Sem.run_pure]
 refine er bU ?_;rw [gU];have oi:=h.env.kj (w':=w.alloc (.cells #[] et)) fun i hi=>alloc_old w _ hi
 let E2:En:=⟨E.c,E.β,E.tk ++ [⟨0,et,e,none⟩],E.τ ++ [.slice (some ⟨w.heap.size,0,none⟩) 0 0]⟩
 have hext:Ext E E2:=⟨fun _ _ h=>h,fun _ _ h=>h,fun k q' hk=>by
  have al:=(gS hk).1;refine ⟨q',by show (E.tk ++ _)[k]? = _;rw [eF al];exact hk,.inl ⟨rfl,?_⟩⟩;show (E.τ ++ _)[k]? = _
  rw [eF (by rw [h.env.tl];exact al)]⟩
 have hτ:∀ (k:Nat) y,E2.τ[k]? = some y->(k < E.τ.length/\E.τ[k]? = some y)∨(k=E.τ.length/\y = .slice (some ⟨w.heap.size,0,none⟩) 0 0):=fun k y hy=>by grind
 have cL:∀ (k:Nat) y g,E.τ[k]? = some y->y.ownBlock=some g->g < w.heap.size:=fun k y g hy hg=>(h.env.own (mG hy) hg).1
 have cq:Rel X E2 ⟨st.sl,st.bx,st.tk ++ [⟨0,et,e,none⟩]⟩ a (w.alloc (.cells #[] et)):=by
  refine dt h hext ?_ (by show E.tk ++ _=_;rw [h.tk]) ?_ (h.fr.alloc _) (n7 aY) (.nil hX)
  ·exact {
    len:=h.env.len
    tl:=by show (E.τ ++ _).length=(E.tk ++ _).length;simp [h.env.tl]
    eo:=fun i cs hi=>by
     obtain ⟨b,t,arr,hb,hw,hc⟩:=oi.eo i cs hi;exact ⟨b,t,arr,hb,hw,hc.mono hext⟩
    inj:=h.env.inj
    sub:=oi.sub
    pc:=h.env.pc
    cA:=fun k q' y YY hy=>by
     rcases hτ k y hy with ⟨al,gH⟩ | ⟨rfl,rfl⟩
     ·have gB:(E.tk ++ [⟨0,et,e,none⟩])[k]? = some q':=YY;rw [eF (by rw [<- h.env.tl];exact al)] at gB;exact oi.cA k q' y gB gH
     ·have gB:(E.tk ++ [⟨0,et,e,none⟩])[E.τ.length]? = some q':=YY;rw [List.getElem?_append_right (by rw [h.env.tl];exact aJ _),h.env.tl] at gB;simp only [Nat.sub_self,List.getElem?_cons_zero,oI] at gB;subst gB;refine .inr ⟨w.heap.size,0,#[],rfl,iZ w _,⟨by simp,pu.none rfl⟩,aJ _,Nat.zero_le _,fun hm=>?_,fun x v hx Ff=>?_⟩
      ·have:=h.env.aZ hm;omega
      ·have:=World.block_lt_of_cell? w x (h.env.sub x v hx);omega
    ja:=fun k k' y y' g yC hy gH hg x4=>by
     rcases hτ k y hy with ⟨_,Cf⟩ | ⟨rfl,rfl⟩
     ·rcases hτ k' y' gH with ⟨_,mj⟩ | ⟨rfl,rfl⟩
      ·exact h.env.ja k k' y y' g yC Cf mj hg x4
      ·have:=cL k y g Cf hg;simp only [Value.ownBlock,oI] at x4;omega
     ·rcases hτ k' y' gH with ⟨_,mj⟩ | ⟨rfl,rfl⟩
      ·have:=cL k' y' g mj x4;simp only [Value.ownBlock,oI] at hg;omega
      ·exact yC rfl }
  ·exact {
    c:=h.nw.c
    cn:=h.nw.cn
    β:=h.nw.β
    tk:=fun j q0 y0 tE Fb=>by
     obtain ⟨q',y',h1,h2,h3⟩:=h.nw.tk j q0 y0 tE Fb
     grind
    tn:=fun j y g hj hy hg=>by
     rcases hτ j y hy with ⟨_,Cf⟩ | ⟨_,rfl⟩
     ·exact h.nw.tn j y g hj Cf hg
     ·simp only [Value.ownBlock,oI] at hg;have:=h.fr.size;omega
    l0:=h.nw.l0 }
 refine ⟨E2,aV cq hd (.sl e [] (some st.tk.length)) _ ?_,hext,⟨[],by simp [E2]⟩,fun i b hb _=>alloc_old w _ (h.env.aZ (mG hb))⟩;unfold Rv;refine ⟨_,0,0,rfl,⟨rfl,aJ _⟩,fun hn=>(hn rfl).elim,fun k' gB=>?_⟩;cases gB;refine ⟨⟨0,et,e,none⟩,?_,aJ _,fun _=>?_⟩
 ·show (E.tk ++ _)[st.tk.length]? = _;rw [h.tk];simp
 ·show (E.τ ++ _)[st.tk.length]? = _;rw [<- h.tk,<- h.env.tl];simp
theorem DA {t d et e jR n:Nat} {bb:Bool} {z:List Value} (kE:o.op = .buildSlice t 0 #[]) (gU:o.dst=some d) (hT:X.T.find t=some ⟨n,bb,.sl et e jR,z⟩) (hd:e9 X.nt st.sl (some d)=true) (aY:X.still=false:=by exact rfl) (hX:X.bt=[]:=by exact rfl)
  (hk:go X 4000 k ⟨(d,⟨[],.sl e [] (some st.tk.length)⟩) :: st.sl,st.bx,st.tk ++ [⟨0,et,e,none⟩]⟩):HE X o k st:=(YX kE gU hT hd aY hX).g hk
theorem Wk.H3 {st':St} (N:Nat) (hN:Nat.ble X.n0 N=true) (Fx:Nat.ble N st.bx.length=true) (lz:ll st.bx N N st.tk.length st'.bx (st.bx.take N)) (iG:st'.tk=st.tk) (mh:L0 st.bx N st.tk.length st.sl st'.sl):Wk X st st':=fun _ _ _ h=>
 H4 h N (nL hN) (nL Fx) lz iG mh
theorem HE.wk {st':St} {o:Oper} (hw:Wk X st st') (hd:e9 X.nt st'.sl o.dst=true) {p:Prop} (hp:effC X st' o (go X 4000 k)=some p) (h:p):HE X o k st:=fun E a w hr=>by
 obtain ⟨E',nH⟩:=hw _ _ _ hr;refine Cl (lx ?_ (ly hd nH hp h));rintro a' w' ⟨JE,E2,qY,hr2,_⟩;exact go_sound 4000 _ _ qY _ _ _ hr2
theorem Qo (h:Rel X E st a w) (aY:X.still=false) (hX:X.bt=[]) {g n ty e cap:Nat} {cur:Array Value} (hw:w.heap[g]? = some (.cells cur ty (0,0))) (bM:cur.size=cap * e) (hn:n<=cap) (Ak:cap<=maxLen) (hb:g ∉ E.β)
  (hc:∀ x v,E.c x=some v->x.block=g->x.off < n * e) (cL:∀ (k:Nat) y,E.τ[k]? = some y->y.ownBlock≠some g) (hg:X.w0.heap.size<=g) :
  Rel X ⟨E.c,E.β,E.tk ++ [⟨n,ty,e,none⟩],E.τ ++ [.slice (some ⟨g,0,none⟩) n cap]⟩ ⟨st.sl,st.bx,st.tk ++ [⟨n,ty,e,none⟩]⟩ a w:=by
 let E2:En:=⟨E.c,E.β,E.tk ++ [⟨n,ty,e,none⟩],E.τ ++ [.slice (some ⟨g,0,none⟩) n cap]⟩
 have hext:Ext E E2:=⟨fun _ _ h=>h,fun _ _ h=>h,fun k q' hk=>by
  have al:=(gS hk).1;refine ⟨q',by show (E.tk ++ _)[k]? = _;rw [eF al];exact hk,.inl ⟨rfl,?_⟩⟩;show (E.τ ++ _)[k]? = _
  rw [eF (by rw [h.env.tl];exact al)]⟩
 have hτ:∀ (k:Nat) y,E2.τ[k]? = some y->(k < E.τ.length/\E.τ[k]? = some y)∨(k=E.τ.length/\y = .slice (some ⟨g,0,none⟩) n cap):=fun k y hy=>by grind
 refine dt h hext ?_ (by show E.tk ++ _=_;rw [h.tk]) ?_ h.fr (n7 aY) (.nil hX)
 ·exact {
   len:=h.env.len
   tl:=by show (E.τ ++ _).length=(E.tk ++ _).length;simp [h.env.tl]
   eo:=fun i cs hi=>by
    obtain ⟨b,t,arr,hb,hw,hc⟩:=h.env.eo i cs hi;exact ⟨b,t,arr,hb,hw,hc.mono hext⟩
   inj:=h.env.inj
   sub:=h.env.sub
   pc:=h.env.pc
   cA:=fun k q' y YY hy=>by
    rcases hτ k y hy with ⟨al,gH⟩ | ⟨rfl,rfl⟩
    ·have gB:(E.tk ++ [⟨n,ty,e,none⟩])[k]? = some q':=YY;rw [eF (by rw [<- h.env.tl];exact al)] at gB;exact h.env.cA k q' y gB gH
    ·have gB:(E.tk ++ [⟨n,ty,e,none⟩])[E.τ.length]? = some q':=YY;rw [List.getElem?_append_right (by rw [h.env.tl];exact aJ _),h.env.tl] at gB;simp only [Nat.sub_self,List.getElem?_cons_zero,oI] at gB;subst gB;exact .inr ⟨g,cap,cur,rfl,hw,⟨bM,fun cs h=>by cases h⟩,hn,Ak,hb,hc⟩
   ja:=fun k k' y y' g' yC hy gH mI Le=>by
    rcases hτ k y hy with ⟨_,Cf⟩ | ⟨rfl,rfl⟩
    ·rcases hτ k' y' gH with ⟨_,mj⟩ | ⟨rfl,rfl⟩
     ·exact h.env.ja k k' y y' g' yC Cf mj mI Le
     ·simp only [Value.ownBlock,oI] at Le;subst Le;exact cL k y Cf mI
    ·rcases hτ k' y' gH with ⟨_,mj⟩ | ⟨rfl,rfl⟩
     ·simp only [Value.ownBlock,oI] at mI;subst mI;exact cL k' y' mj Le
     ·exact yC rfl }
 ·exact {
   c:=h.nw.c
   cn:=h.nw.cn
   β:=h.nw.β
   tk:=fun j q0 y0 tE Fb=>by
    obtain ⟨q',y',h1,h2,h3⟩:=h.nw.tk j q0 y0 tE Fb
    grind
   tn:=fun j y g' hj hy x4=>by
    rcases hτ j y hy with ⟨_,Cf⟩ | ⟨_,rfl⟩
    ·exact h.nw.tn j y g' hj Cf x4
    ·simp only [Value.ownBlock,oI] at x4;omega
   l0:=h.nw.l0 }
theorem Uw {t d et e jR n len:Nat} {bb:Bool} {z:List Value} {parts:Array (Nat × Operand)} {es:List (List DV)} (kE:o.op = .buildSlice t len parts) (gU:o.dst=some d) (hT:X.T.find t=some ⟨n,bb,.sl et e jR,z⟩) (iR:litL e st parts.toList 0=some es)
  (hc:(Nat.beq es.length len && (Nat.blt 0 len && Nat.blt 0 e && Nat.ble (len * e) 16777216))=true) (hd:e9 X.nt st.sl (some d)=true) (aY:X.still=false:=by exact rfl) (hX:X.bt=[]:=by exact rfl)
  (hk:go X 4000 k ⟨(d,⟨[],.sl e es (some st.tk.length)⟩) :: st.sl,st.bx,st.tk ++ [⟨len,et,e,none⟩]⟩):HE X o k st:=by
 intro E a w h;simp only [aO,Nat.beq_eq,Nat.ble_eq,Nat.blt_eq] at hc;obtain ⟨hlen,⟨kk,HQ⟩,hsm⟩:=hc;obtain ⟨hu,ii,zv,yD,hz,bM,uB,Js⟩:=eC X.hT hT;obtain ⟨xs,vs,hp,xX,x5,j1,V7,mn⟩:=oG h.rl HQ iR;subst bM
 have Ly:len * ii.size≠0:=by
  have:=Nat.mul_pos kk HQ;omega
 have mF:Instr.fill (fun i=>some (i * ii.size,ii.size)) ((Array.range (len * ii.size)).map (zv.cells[·% zv.cells.size]!)) (parts.map fun (i,x)=>(i,a.eval x)).toList=some (cellsL vs).toArray:=by
  have h0:=uD ii.size vs 0 ((Array.range (len * ii.size)).map (zv.cells[·% zv.cells.size]!)).toList j1 (by simp [x5,hlen])
  have h1:(parts.map fun (i,x)=>(i,a.eval x)).toList=enumF 0 vs:=by
   rw [Array.toList_map,hp,xX,<- qT]
  rw [h1];simp only [Array.toArray_toList] at h0;rw [h0];simp [x5,hlen]
 have bU:(execOp a.eval o).run X.P w = .ok (.value (.slice (some ⟨w.heap.size,0,none⟩) len len)) (w.alloc (.cells (cellsL vs).toArray et)):=by
  simp only [execOp,kE,Sem.run_bind,run_buildSlice w t et len _ _ ii zv hu yD hz (by omega) Ly mF,Result.andThen_ok,Sem.run_pure]
 refine gn bU ?_;rw [gU];have hr:=yB (arr:=cellsL vs) h aY et
 have Sj:(cellsL vs).length=len * ii.size:=by
  have:∀ l:List Value,(∀ v∈l,v.cells.toList.length=ii.size)->(cellsL l).length=l.length * ii.size:=by
   intro l
   induction l with
   | nil=>intro _;simp [cellsL]
   | cons v l ih=>grind [cellsL]
  rw [this vs j1,x5,hlen]
 have hr2:=Qo (n:=len) (ty:=et) (e:=ii.size) (cap:=len) hr aY hX (g:=w.heap.size) (cur:=(cellsL vs).toArray) (iZ w _) (by simp [Sj]) (aJ _) (by
   have:len<=len * ii.size:=Nat.le_mul_of_pos_right _ HQ;unfold maxLen;omega) (fun hm=>by have:=h.env.aZ hm;omega) (fun x v hx Ff=>by
   have hx:gl E.c (w.alloc (.cells (cellsL vs).toArray et)) w.heap.size (cellsL vs).length x=some v:=hx;unfold gl at hx;split at hx
   ·rename_i hc;rw [<- Sj];exact hc.2.2
   ·have:=World.block_lt_of_cell? w x (h.env.sub x v hx);omega) (fun j y hy hg=>by
   have:=(h.env.own (mG hy) hg).1
   omega) (h.fr.size)
 refine go_sound 4000 _ _ hk _ _ _ (aV hr2 hd (.sl ii.size es (some st.tk.length)) _ ?_);unfold Rv;refine ⟨_,_,_,rfl,⟨hlen.symm,aJ _⟩,fun aT=>⟨rfl,?_⟩,fun k' gB=>?_⟩
 ·have fW:∀ x v,E.c x=some v->gl E.c (w.alloc (.cells (cellsL vs).toArray et)) w.heap.size (cellsL vs).length x=some v:=fun x v hx=>by
   have al:=World.block_lt_of_cell? w x (h.env.sub x v hx);unfold gl;rw [ai (by omega)];exact hx
  have hm:RvC (En.cl ⟨gl E.c (w.alloc (.cells (cellsL vs).toArray et)) w.heap.size (cellsL vs).length,E.β,E.tk,E.τ⟩) es.flatten (cellsL vs):=V7.mono (Ext.S2 (E:=E) fW);refine rvEs_flat hm mn fun j u hj=>?_;show gl _ _ _ _ _=_;have jd:=(gS hj).1;simp only [ab,ao,Nat.zero_add];rw [Ah jd,cd (iZ w _)];simpa using hj
 ·cases gB;refine ⟨⟨len,et,ii.size,none⟩,?_,aJ _,fun _=>?_⟩
  ·show (E.tk ++ _)[st.tk.length]? = _;rw [h.tk];simp
  ·show (E.τ ++ _)[st.tk.length]? = _;rw [<- h.tk,<- h.env.tl];simp
end
end Dv
end Go.Proofs.YtgjagnmeonoehaaGreat
set_option maxRecDepth 100000
namespace Go.Proofs.YtgjagnmeonoehaaGreat
open Go Go.RowKit Dv Go.Proofs.Tryz
theorem lZ {l:List Wd} {o:List (Wd × Wd)} (h:(latF l o).1=0):(fw l o).1=0/\(enumL l 0 l).1=0/\(numF (au l) o).1=0/\bJ (j8 l.length (ee l.length (cW (au l) o))) l.length=none/\bJ (na (ee l.length (cW (au l) o)) l.length) l.length=none:=by grind [latF]
theorem dx {p:Nat->Bool} {n:Nat} (h:bJ p n=none):∀ a,a < n->p a=false:=by grind [bJ]
theorem kQ {l:List Wd} {o:List (Wd × Wd)} (h:(latF l o).1=0):eY (ee l.length (cW (au l) o)) l.length/\l.length<=32:=by
 obtain ⟨h1,h2,h3,h4,h5⟩:=lZ h;have hP:=nR h3;rw [dq] at hP
 have u4:l ≠ []:=by
  rintro rfl;simp [fw] at h1
 have Kn:l.length<=32:=by grind [fw]
 have AW:∀ a b,a < l.length->b < l.length->kL (ee l.length (cW (au l) o)) l.length a b=false:=by
  have key:∀ a b,a<=b->b < l.length->kL (ee l.length (cW (au l) o)) l.length a b=false:=fun a b CL hb=>by grind [dx,na]
  intro a b ha hb;rcases Nat.le_total a b with h | h
  ·exact key a b h hb
  ·grind [kL,vO,vP]
 refine ⟨{
  pos:=List.length_pos_iff.2 u4
  rfl':=fun a ha=>rG hP ha
  tr:=fun a b c ha hb hc=>F0 hP ha hb hc
  Ga:=fun a b ha hb h6 h7=>by grind [dx,j8]
  jn:=fun a b ha hb=>by
   have:=AW a b ha hb;unfold kL at this;simp only [Bool.or_eq_false_iff,Option.isNone_eq_false_iff] at this;exact Option.isSome_iff_exists.1 this.1
  mt:=fun a b ha hb=>by
   have:=AW a b ha hb;unfold kL at this;simp only [Bool.or_eq_false_iff,Option.isNone_eq_false_iff] at this
   exact Option.isSome_iff_exists.1 this.2 },Kn⟩
def dm (s:Sch) (az:List Nat) (js:List Int):Lx:=⟨au s.ae,az,closeR (eV s.ae.length (cW (au s.ae) s.order)) s.ae.length,js,ee s.ae.length (cW (au s.ae) s.order)⟩
theorem Qp {s:Sch} {d:DV} (h:(latF s.ae s.order).1=0) (hd:Un s.ae s.order d) (hw:s.ae.length<=1099511627776):∃ az js,(dm s az js).OK/\d=(dm s az js).pd:=by
 obtain ⟨az,js,hT,kB,n8,O3,rfl⟩:=hd;obtain ⟨h1,h2⟩:=kQ h;refine ⟨az,js,⟨hT,by show az.length<=_;omega,?_,?_,?_⟩,rfl⟩
 ·show eY _ (au s.ae).length;rw [dq];exact h1
 ·show (au s.ae).length<=32;rw [dq];exact h2
 ·show ∀ x y,x < (au s.ae).length->y < (au s.ae).length->JM _ (au s.ae).length js x y;rw [dq];exact O3
def ij (s:Sch) (l:List Wd):Int:=AX (ee s.ae.length (cW (au s.ae) s.order)) (au s.ae) l
def lg (s:Sch) (t:Ty):Ft:=knT ⟨au s.ae,[],[],[],fun _ _=>false⟩ (tL s) t
mutual
theorem zw {X Y:Lx} (h:X.af=Y.af) (L:List ByteArray):∀ t:Ty,knT X L t=knT Y L t
 | .mk h1 ps=>by rw [knT,knT,zx h L ps]
theorem zx {X Y:Lx} (h:X.af=Y.af) (L:List ByteArray):∀ ps:Pts,knP X L ps=knP Y L ps
 | .nil=>by rw [knP,knP]
 | .cons p t r=>by
  rw [knP,knP,zx h L r,zw h L t];unfold Lx.bad;rw [h]
end
theorem Ux (s:Sch) (az:List Nat) (js:List Int) (t:Ty):knT (dm s az js) (tL s) t=lg s t:=zw (X:=dm s az js) (Y:=⟨au s.ae,[],[],[],fun _ _=>false⟩) rfl (tL s) t
def kx (s:Sch):Ft:=
 if (latF s.ae s.order).1≠0 then latF s.ae s.order
 else if (ej s).1≠0 then ej s
 else if (eaR s.root s.types 0).1.1≠0 then (eaR s.root s.types 0).1
 else if (eaL (lg s) (lg s s.root) s.types).1≠0 then eaL (lg s) (lg s s.root) s.types
 else loopF s
def ndsAll (lev:List Wd->Int) (s:Sch):List (Wd × Ty)->Nat->List Nd
 | [],_=>[]
 | x :: r,k=>ndsT lev s x.2 k ++ ndsAll lev s r (k + x.2.nn)
def qj (s:Sch):List Nd:=ndsAll (ij s) s s.types 0
def ay (s:Sch):List Nd:=qj s ++ ndsT (ij s) s s.root (qj s).length
def bz (s:Sch):Int:=ng s s.root (qj s).length
def Sk (s:Sch) (az ky:List Nat) (js:List Int):List DV:=
 [(dm s az js).pd,.sl 7 (cX (ay s)) none,.v (.int .i64 (bz s)),.pt (cC (tL s) ky) 0,.sl 1 (dInts (namedL s)) none]
def NC (s:Sch) (d:DV):Prop:=∃ az ky js,(dm s az js).OK/\gJ (tL s) ky/\ky.length<=s.types.length/\d = .pt (Sk s az ky js) 0
def Gk (s:Sch) (r:DV) (_:List (List DV)) (_:List TkE):Prop:=
 if (kx s).1≠0 then r = .tup [.v (.pointer none),(kx s).d] else ∃ d,NC s d/\r = .tup [d,Ft.d (0,0)]
theorem nh {s:Sch} {f:Ft} {os:List (List DV)} {tk:List TkE} (h:kx s=f) (hf:f.1≠0):Gk s (.tup [.v (.pointer none),f.d]) os tk:=by
 unfold Gk;rw [h,aj hf]
theorem Qq {s:Sch} {d:DV} {os:List (List DV)} {tk:List TkE} (h:(kx s).1=0) (hd:NC s d):Gk s (.tup [d,Ft.d (0,0)]) os tk:=by grind [Gk]
theorem NE {F:Ty->Ft} {z:Ft}:∀ {l:List (Wd × Ty)},(eaL F z l).1=0->z.1=0/\∀ x∈l,(F x.2).1=0
 | [],h=>⟨h,fun x hx=>by cases hx⟩
 | x :: r,h=>by
  rw [eaL] at h;split at h
  ·rename_i h1;exact (h1 h).elim
  ·rename_i h1;obtain ⟨h2,h3⟩:=NE h
   grind
theorem NF {z:Ty}:∀ {l:List (Wd × Ty)} {m:Int},0<=m->(eaR z l m).1.1=0->(wrong z 1 0).1.1=0/\(∀ x∈l,(wrong x.2 1 0).1.1=0)/\(eaR z l m).2=m + ((l.map fun x=>x.2.cnt).sum + z.cnt:Nat)/\(eaR z l m).2<=512
 | [],m,_,h=>by grind [eaR,nT]
 | x :: r,m,hm,h=>by
  rw [eaR] at h ⊢;split at h
  ·rename_i h1;exact (h1 h).elim
  ·rename_i h1;rw [ai h1];obtain ⟨g1,g2,g3,_⟩:=nT (sU h1);obtain ⟨h2,h3,h4,h5⟩:=NF (by omega) h
   grind
theorem v8 (lev:List Wd->Int) (s:Sch):∀ (l:List (Wd × Ty)) (k:Nat),(ndsAll lev s l k).length=(l.map fun x=>x.2.nn).sum
 | [],_=>rfl
 | x :: r,k=>by simp only [ndsAll,List.length_append,jJ,v8 lev s r,List.map_cons,List.sum_cons]
theorem wb:∀ l:List (Wd × Ty),(l.map fun x=>x.2.nn).sum<=(l.map fun x=>x.2.cnt).sum
 | []=>aJ _
 | x :: r=>by
  have:=x.2.fT;have:=wb r
  grind
theorem zy:∀ l:List Nd,(cX l).flatten.length=l.length * 7
 | []=>rfl
 | a :: r=>by
  have:=zy r;simp only [cX,List.map_cons,List.flatten_cons,List.length_append,List.length_cons] at this ⊢;rw [this];simp only [kN,List.length_cons,List.length_nil];omega
theorem A1 {X:Lx} {s:Sch} {t:Ty} (h:(knT X (tL s) t).1=0):tP s t=true:=by
 obtain ⟨hd,ps⟩:=t;have:=(lX h).1;unfold tP;exact decide_eq_true this
theorem DB {s:Sch} (h:(loopF s).1=0):∀ i,i < s.types.length->∃ k,endI s (s.types.length + 1) i=some k:=by
 intro i hi;unfold loopF at h;split at h
 ·rename_i h1;have:=dx h1 i hi;simp only [Option.isNone_eq_false_iff] at this;exact Option.isSome_iff_exists.1 this
 ·cases h
end Go.Proofs.YtgjagnmeonoehaaGreat
