/- Part 4 of the proof: Rules for the evaluator: a call that is handed the caller's first objects and rows; rows whose cells nobody else knows; lattice.best, and the closures of bounds; lattice.bounds: all joins and meets; lattice.Build; Reading a lattice: Len, has, Name, Find, Join, Meet, Bottom; labels.Of; The checker's part, once check is known for lighter types; The checker's parts, once check is known for lighter types; The checker's one and check, once check is known for lighter types; so check; kinds.Count, resolve.nodes; the builder's level; The builder's end, loops, known; The builder's each, right, called; The builder's each of right; called; places; The builder's places; The builder's edge; The builder's node; Steps of a region that draws its order, one by one; What resolve.Build says of a schema; lattices in which nothing is wrong. No condition. -/
import Derived.Test.YtadhpeooehkklaaGreatMg2
import Derived.Test.YtadhpeooehkklaaGreatMg3
set_option linter.all false
namespace Go.Proofs.YtadhpeooehkklaaGreat
namespace Dv
open Go Go.RowKit
section
variable {X:Ctx} {st:St} {k:List It} {E:En} {a:Act} {w:World}
def Wk (X:Ctx) (st st':St):Prop:=∀ E a w,Rel X E st a w->∃ E',Rel X E' st' a w
theorem Wk.refl (X:Ctx) (st:St):Wk X st st:=fun E _ _ h=>⟨E,h⟩
theorem Wk.trans {X:Ctx} {s1 s2 s3:St} (h1:Wk X s1 s2) (h2:Wk X s2 s3):Wk X s1 s3:=fun _ _ _ h=>by
 obtain ⟨E1,h3⟩:=h1 _ _ _ h;exact h2 _ _ _ h3
theorem Wk.UQ {X:Ctx} {s1 s2:St} (h:sE X.n0 X.m0 s1 s2):Wk X s1 s2:=fun _ _ _ hr=>wb hr h
theorem D9 {f:FuncId} {args bJ:List DV} {os:List (List DV)} (n1 m1:Nat) (zt:Nat.ble n1 st.bx.length=true) (kj:Nat.ble m1 st.tk.length=true)
  (sx:nP [] n1 n1 m1 os (st.bx.take n1)) (ha:CcL [] n1 n1 m1 bJ args)
  {Φ:DV->List (List DV)->List TkE->Prop} (hc:Ev X.P f bJ os (st.tk.take m1) Φ) (aW:X.still=false) (hX:X.bt=[]) {vs:List Value} (h:Rel X E st a w) (hv:RvL E args vs) :
  Calls X.P f vs.toArray w fun e w'=>∃ v r lH dL E',e = .returned v/\Φ r lH dL /\ lH.length=n1/\dL.length=m1/\Rel X E' ⟨st.sl,lH ++ st.bx.drop n1,dL ++ st.tk.drop m1⟩ a w' /\ Rv E' r v/\Ext E E' /\ E'.β=E.β /\
   ∀ (i:Nat) b,n1<=i->E.β[i]? = some b->w'.heap[b]? = w.heap[b]?:=by
 have zt:=nL zt;have kj:=nL kj;have hlen:=h.env.len;have gZ:=h.env.tl;have k0:=h.tk;have htkl:E.tk.length=st.tk.length:=by rw [k0]
 let E1:En:=⟨E.c,E.β.take n1,E.tk.take m1,E.τ.take m1⟩
 have hfz:Lr E E1 [] n1:=⟨fun _ _ h=>h,fun i cs _ hi=>by simp at hi⟩
 have y8:Im E E1 n1 m1:={
  β:=fun i b hi hb=>by show (E.β.take n1)[i]? = _;rw [cf,ai hi];exact hb
  tk:=fun k hk=>⟨by show (E.tk.take m1)[k]? = _;rw [cf,ai hk],by show (E.τ.take m1)[k]? = _;rw [cf,ai hk]⟩ }
 obtain ⟨jQ,WX⟩:=sx.get;have hosl:os.length=n1:=by rw [jQ,zLenT];omega
 have YR:∀ (j:Nat) y,(E.τ.take m1)[j]? = some y->j < m1/\E.τ[j]? = some y:=fun j y hy=>by
  rw [cf] at hy;split at hy
  ·rename_i hj;exact ⟨hj,hy⟩
  ·cases hy
 have hkg:∀ (j:Nat) q,(E.tk.take m1)[j]? = some q->j < m1/\E.tk[j]? = some q:=fun j y hy=>by
  rw [cf] at hy;split at hy
  ·rename_i hj;exact ⟨hj,hy⟩
  ·cases hy
 have Xe:Env E1 os w:={
  len:=by show (E.β.take n1).length=_;rw [zLenT,hosl];omega
  tl:=by show (E.τ.take m1).length=(E.tk.take m1).length;rw [zLenT,zLenT,gZ]
  fk:=fun i cs' hi=>by
   obtain ⟨cs,dr,tX⟩:=WX i cs' hi;rw [cf] at dr;split at dr
   ·rename_i ap;obtain ⟨b,ty,arr,hb,hw,hc⟩:=h.env.fk i cs dr;exact ⟨b,ty,arr,y8.β i b ap hb,hw,CcL.sound hfz y8 tX hc.1,hc.2⟩
   ·cases dr
  inj:=h.env.inj.sublist (List.take_sublist _ _)
  sub:=h.env.sub
  pc:=fun x v hx hm=>h.env.pc x v hx (List.mem_of_mem_take hm)
  cC:=fun j q y hq hy=>by
   obtain ⟨_,hq⟩:=hkg j q hq;obtain ⟨_,hy⟩:=YR j y hy;rcases h.env.cC j q y hq hy with h1 | ⟨g,cap,cur,rfl,h1,h2,h3,h4,h5,h6⟩
   ·exact .inl h1
   ·exact .inr ⟨g,cap,cur,rfl,h1,h2,h3,h4,fun hm=>h5 (List.mem_of_mem_take hm),h6⟩
  jE:=fun j j' y y' g Ij hy fA=>h.env.jE j j' y y' g Ij (YR j y hy).2 (YR j' y' fA).2 }
 refine (hc E1 w _ Xe (by show E.tk.take m1=_;rw [k0]) (CcL.sound hfz y8 ha hv)).mono ?_;rintro e w' ⟨v,rfl,hm,_,r,lH,E2,he,hβ,rr,hn,y9,hΦ⟩;have rr:E2.tk.length=E1.tk.length:=rr;have hE1t:E1.tk.length=m1:=by show (E.tk.take m1).length=_;rw [zLenT];omega
 have hE1τ:E1.τ.length=m1:=by show (E.τ.take m1).length=_;rw [zLenT];omega
 have hE1β:E1.β.length=n1:=by show (E.β.take n1).length=_;rw [zLenT];omega
 rw [hE1t] at rr;have hτ2:E2.τ.length=m1:=by rw [he.tl,rr]
 have Nj:lH.length=n1:=by rw [<- he.len,hβ,hE1β]
 have hS:∀ j,E1.S j->j∈E.β.take n1∨∃ i y,i < m1/\E.τ[i]? = some y/\y.ownBlock=some j:=fun j hj=>by
  rcases hj with h1 | ⟨y,h1,h2⟩
  ·exact .inl h1
  ·obtain ⟨i,hi,he⟩:=List.getElem_of_mem h1;have eQ:E1.τ[i]? = some y:=by rw [gE hi,he]
   obtain ⟨h3,h4⟩:=YR i y eQ;exact .inr ⟨i,y,h3,h4,h2⟩
 have hh:∀ j,j < w.heap.size->¬ E1.S j->w'.heap[j]? = w.heap[j]?:=fun j hj bp=>hm.block j hj bp;have gh:∀ (i:Nat) y g,E.τ[i]? = some y->y.ownBlock=some g->g < w.heap.size/\g ∉ E.β:=fun i y g hy hg=>h.env.own (mG hy) hg
 have bY:∀ x v,E2.c x=some v->E.c x=some v∨w.heap.size<=x.block∨∃ i y,i < m1/\E.τ[i]? = some y/\y.ownBlock=some x.block:=fun x v hx=>by
  rcases hn.cn x v hx with h1 | h1 | ⟨y,h1,h2⟩
  ·exact .inl h1
  ·exact .inr (.inl h1)
  ·obtain ⟨i,hi,he⟩:=List.getElem_of_mem h1;have eQ:E1.τ[i]? = some y:=by rw [gE hi,he]
   obtain ⟨h3,h4⟩:=YR i y eQ;exact .inr (.inr ⟨i,y,h3,h4,h2⟩)
 have sC:∀ (j:Nat) q,j < m1->E.tk[j]? = some q->∃ y q' y',E.τ[j]? = some y/\E2.tk[j]? = some q' /\ E2.τ[j]? = some y' /\ q.ty=q'.ty/\q.e=q'.e/\((q'.n=q.n/\y'=y)∨q.n < q'.n)/\(y'.ownBlock=y.ownBlock∨∀ g,y'.ownBlock=some g->w.heap.size<=g):=fun j q hj hq=>by
  have nS:j < E.τ.length:=by rw [gZ];omega
  obtain ⟨q',y',h1,h2,h3⟩:=hn.tk j q E.τ[j] (by show (E.tk.take m1)[j]? = _;rw [cf,ai hj];exact hq) (by show (E.τ.take m1)[j]? = _;rw [cf,ai hj,gE nS]);exact ⟨_,q',y',gE nS,h1,h2,h3⟩
 have IW:∀ (j:Nat) y',j < m1->E2.τ[j]? = some y' -> ∃ y,E.τ[j]? = some y/\(y'.ownBlock=y.ownBlock∨∀ g,y'.ownBlock=some g->w.heap.size<=g):=fun j y' hj hy=>by
  have nS:j < E.tk.length:=by omega
  obtain ⟨y,q1,y1,h1,_,h3,_,_,_,h7⟩:=sC j _ hj (gE nS);rw [hy] at h3;simp only [oI] at h3;subst h3;exact ⟨y,h1,h7⟩
 let E':En:=⟨E2.c,E.β,E2.tk ++ E.tk.drop m1,E2.τ ++ E.τ.drop m1⟩
 have eX:∀ (j:Nat),m1<=j->E'.tk[j]? = E.tk[j]?:=fun j hj=>by
  show (E2.tk ++ E.tk.drop m1)[j]? = _;rw [List.getElem?_append_right (by omega),List.getElem?_drop,rr];congr 1;omega
 have UR:∀ (j:Nat),m1<=j->E'.τ[j]? = E.τ[j]?:=fun j hj=>by
  show (E2.τ ++ E.τ.drop m1)[j]? = _;rw [List.getElem?_append_right (by omega),List.getElem?_drop,hτ2];congr 1;omega
 have Mc:∀ (j:Nat),j < m1->E'.tk[j]? = E2.tk[j]?:=fun j hj=>by
  show (E2.tk ++ E.tk.drop m1)[j]? = _;rw [cj (by omega)]
 have Pw:∀ (j:Nat),j < m1->E'.τ[j]? = E2.τ[j]?:=fun j hj=>by
  show (E2.τ ++ E.τ.drop m1)[j]? = _;rw [cj (by omega)]
 have hx:Ext E E':=⟨hn.c,fun _ _ h=>h,fun j q hq=>by
  rcases Nat.lt_or_ge j m1 with hj | hj
  ·obtain ⟨y,q',y',h1,h2,h3,_,_,h6,_⟩:=sC j q hj hq;refine ⟨q',by rw [Mc j hj];exact h2,?_⟩;rcases h6 with ⟨h6,rfl⟩ | h6
   ·exact .inl ⟨h6,by rw [Pw j hj,h3,h1]⟩
   ·exact .inr h6
  ·exact ⟨q,by rw [eX j hj];exact hq,.inl ⟨rfl,UR j hj⟩⟩⟩
 have Pz:Ext E2 E':={
  c:=fun _ _ h=>h
  β:=fun j b hj=>by
   rw [hβ] at hj;have hj:(E.β.take n1)[j]? = some b:=hj;rw [cf] at hj;split at hj
   ·exact hj
   ·cases hj
  tk:=fun j q hq=>by
   have hj:j < m1:=by have:=(gS hq).1;omega
   exact ⟨q,by rw [Mc j hj];exact hq,.inl ⟨rfl,Pw j hj⟩⟩ }
 have ch:Rel X E' ⟨st.sl,lH ++ st.bx.drop n1,E2.tk ++ st.tk.drop m1⟩ a w':=by
  refine dB h hx ?_ (by show E2.tk ++ E.tk.drop m1=_;rw [k0]) ?_ (h.fr.dg hm.os hm.tape hm.output hm.size fun j hj=>?_) (nR aW) (.nil hX)
  ·exact {
    len:=by show E.β.length=_;rw [List.length_append,List.length_drop,Nj,hlen];omega
    tl:=by show (E2.τ ++ E.τ.drop m1).length=(E2.tk ++ E.tk.drop m1).length;simp only [List.length_append,List.length_drop,hτ2,rr,gZ]
    fk:=fun i Xf hi=>by
     rcases Nat.lt_or_ge i n1 with uT | uT
     ·rw [cj (by omega)] at hi;obtain ⟨b2,ty2,Un,lh,hw2,lA⟩:=he.fk i Xf hi;exact ⟨b2,ty2,Un,Pz.β i b2 lh,hw2,lA.mono Pz⟩
     ·rw [List.getElem?_append_right (by omega),List.getElem?_drop,Nj] at hi;rw [show n1 + (i - n1)=i by omega] at hi;obtain ⟨bj,tyj,Uo,R8,Xg,LS⟩:=h.env.fk i Xf hi;refine ⟨bj,tyj,Uo,R8,(hh bj (dA Xg) ?_).trans Xg,LS.mono hx⟩;intro hs;rcases hS bj hs with h1 | ⟨i',y,_,h2,h3⟩
      ·obtain ⟨i',eQ,pT⟩:=List.getElem_of_mem h1;have h4:(E.β.take n1)[i']? = some bj:=by rw [gE eQ,pT]
       rw [cf] at h4;split at h4
       ·rename_i ap;have:=(List.getElem?_inj (gS R8).1 h.env.inj).1 (R8.trans h4.symm);omega
       ·cases h4
      ·exact (gh i' y bj h2 h3).2 (mG R8)
    inj:=h.env.inj
    sub:=he.sub
    pc:=fun x v hc lQ=>by
     rcases bY x v hc with h1 | h1 | ⟨i,y,_,h2,h3⟩
     ·exact h.env.pc x v h1 lQ
     ·have:=h.env.bm lQ;omega
     ·exact (gh i y _ h2 h3).2 lQ
    cC:=fun j q y hq hy=>by
     rcases Nat.lt_or_ge j m1 with hj | hj
     ·rw [Mc j hj] at hq;rw [Pw j hj] at hy;rcases he.cC j q y hq hy with h1 | ⟨g,cap,cur,rfl,h1,h2,h3,h4,h5,h6⟩
      ·exact .inl h1
      ·refine .inr ⟨g,cap,cur,rfl,h1,h2,h3,h4,fun lQ=>?_,h6⟩;obtain ⟨y0,h7,h8⟩:=IW j _ hj hy;rcases h8 with h8 | h8
       ·exact (gh j y0 g h7 (by rw [<- h8];rfl)).2 lQ
       ·have:=h8 g rfl;have:=h.env.bm lQ;omega
     ·rw [eX j hj] at hq;rw [UR j hj] at hy;rcases h.env.cC j q y hq hy with h1 | ⟨g,cap,cur,rfl,h1,h2,h3,h4,h5,h6⟩
      ·exact .inl h1
      ·have bp:∀ i y',i < m1->E.τ[i]? = some y' -> y'.ownBlock≠some g:=fun i y' hi fA=>h.env.jE j i _ y' g (by omega) hy fA rfl
       have yM:¬ E1.S g:=fun hs=>by
        rcases hS g hs with h7 | ⟨i,y',h7,h8,h9⟩
        ·exact h5 (List.mem_of_mem_take h7)
        ·exact bp i y' h7 h8 h9
       refine .inr ⟨g,cap,cur,rfl,by rw [hh g (dA h1) yM];exact h1,⟨h2.1,h2.2.mono hn.c⟩,h3,h4,h5,fun x v hc hg=>?_⟩
       ·rcases bY x v hc with h7 | h7 | ⟨i,y',h7,h8,h9⟩
        ·exact h6 x v h7 hg
        ·have:=dA h1;omega
        ·exact (bp i y' h7 h8 (by rw [h9,hg])).elim
    jE:=fun j j' y y' g Ij hy fA hg r7=>by
     rcases Nat.lt_or_ge j m1 with hj | hj
     ·rw [Pw j hj] at hy;obtain ⟨y0,h7,h8⟩:=IW j _ hj hy;rcases Nat.lt_or_ge j' m1 with gw | gw
      ·rw [Pw j' gw] at fA;exact he.jE j j' y y' g Ij hy fA hg r7
      ·rw [UR j' gw] at fA;rcases h8 with h8 | h8
       ·exact h.env.jE j j' y0 y' g Ij h7 fA (by rw [<- h8];exact hg) r7
       ·have:=h8 g hg;have:=(gh j' y' g fA r7).1;omega
     ·rw [UR j hj] at hy;rcases Nat.lt_or_ge j' m1 with gw | gw
      ·rw [Pw j' gw] at fA;obtain ⟨y0,h7,h8⟩:=IW j' _ gw fA;rcases h8 with h8 | h8
       ·exact h.env.jE j j' y y0 g Ij hy h7 hg (by rw [<- h8];exact r7)
       ·have:=h8 g r7;have:=(gh j y g hy hg).1;omega
      ·rw [UR j' gw] at fA
       exact h.env.jE j j' y y' g Ij hy fA hg r7 }
  ·exact {
    c:=fun x v hc=>hn.c x v (h.nw.c x v hc)
    cn:=fun x v hc=>by
     rcases bY x v hc with h1 | h1 | ⟨i,y,_,h2,h3⟩
     ·exact h.nw.cn x v h1
     ·have:=h.fr.size;exact .inr (.inl (by omega))
     ·rcases h.nw.own h2 h3 with h4 | h4
      ·exact .inr (.inr h4)
      ·exact .inr (.inl h4)
    β:=h.nw.β
    tk:=fun j q0 y0 va BA=>by
     obtain ⟨q1,y1,h1,h2,h3,h4,h5,h6⟩:=h.nw.tk j q0 y0 va BA;rcases Nat.lt_or_ge j m1 with hj | hj
     ·obtain ⟨y,q',y',g1,g2,g3,g4,g5,g6,g7⟩:=sC j q1 hj h1;rw [h2] at g1;simp only [oI] at g1;subst g1;refine ⟨q',y',by rw [Mc j hj];exact g2,by rw [Pw j hj];exact g3,h3.trans g4,h4.trans g5,?_,?_⟩
      ·rcases g6 with ⟨g6,rfl⟩ | g6
       ·rcases h5 with ⟨h5,rfl⟩ | h5
        ·exact .inl ⟨by omega,rfl⟩
        ·exact .inr (by omega)
       ·rcases h5 with ⟨h5,_⟩ | h5
        ·exact .inr (by omega)
        ·exact .inr (by omega)
      ·rcases g7 with g7 | g7
       ·rcases h6 with h6 | h6
        ·exact .inl (g7.trans h6)
        ·exact .inr fun g hg=>h6 g (by rw [<- g7];exact hg)
       ·refine .inr fun g hg=>?_;have:=g7 g hg;have:=h.fr.size;omega
     ·exact ⟨q1,y1,by rw [eX j hj];exact h1,by rw [UR j hj];exact h2,h3,h4,h5,h6⟩
    tn:=fun j y g y5 hy hg=>by
     rcases Nat.lt_or_ge j m1 with hj | hj
     ·rw [Pw j hj] at hy;obtain ⟨y0,h7,h8⟩:=IW j _ hj hy;rcases h8 with h8 | h8
      ·exact h.nw.tn j y0 g y5 h7 (by rw [<- h8];exact hg)
      ·have:=h8 g hg;have:=h.fr.size;omega
     ·rw [UR j hj] at hy;exact h.nw.tn j y g y5 hy hg
    l0:=h.nw.l0 }
  ·by_cases hjs:E1.S j
   ·left;rcases hS j hjs with h1 | ⟨i,y,_,h2,h3⟩
    ·have BK:=List.mem_of_mem_take h1;obtain ⟨r0,hr0,Lv⟩:=h.nw.β;rw [hr0] at BK;rcases List.mem_append.1 BK with BK | BK
     ·exact .inl (.inl BK)
     ·exact .inr (Lv j BK)
    ·rcases h.nw.own h2 h3 with h4 | h4
     ·exact .inl (.inr h4)
     ·exact .inr h4
   ·exact .inr (hh j hj hjs)
 refine ⟨v,r,lH,E2.tk,E',rfl,hΦ,Nj,rr,ch,Rv.mono Pz y9,hx,rfl,fun i b hi hb=>?_⟩;refine hh b (h.env.bm (mG hb)) fun hs=>?_;rcases hS b hs with h1 | ⟨i',y,_,h2,h3⟩
 ·obtain ⟨i',eQ,pT⟩:=List.getElem_of_mem h1;have h4:(E.β.take n1)[i']? = some b:=by rw [gE eQ,pT]
  rw [cf] at h4;split at h4
  ·rename_i ap;have:=(List.getElem?_inj (gS hb).1 h.env.inj).1 (hb.trans h4.symm);omega
  ·cases h4
 ·exact (gh i' y b h2 h3).2 (mG hb)
theorem Nk {f:FuncId} {args bJ:List DV} {os:List (List DV)} {d:Nat} (n1 m1:Nat) (mC:Enters X.P f) (hd:gp X.nt st.sl (some d)=true) (zt:Nat.ble n1 st.bx.length=true) (kj:Nat.ble m1 st.tk.length=true)
  (sx:nP [] n1 n1 m1 os (st.bx.take n1)) (ha:CcL [] n1 n1 m1 bJ args)
  {Φ:DV->List (List DV)->List TkE->Prop} (hc:Ev X.P f bJ os (st.tk.take m1) Φ)
  (hk:∀ r lH dL,Φ r lH dL -> lH.length=n1->dL.length=m1->∃ st',Wk X ⟨(d,⟨[],r⟩) :: st.sl,lH ++ st.bx.drop n1,dL ++ st.tk.drop m1⟩ st' /\ go X 4000 k st') (aW:X.still=false:=by exact rfl) (hX:X.bt=[]:=by exact rfl):ie X f args (some d) k st:=by
 refine ⟨mC,aW,fun E a w vs h hv=>(D9 n1 m1 zt kj sx ha hc aW hX h hv).mono ?_⟩;rintro e w' ⟨v,r,lH,dL,E',rfl,hΦ,Nj,rr,ch,SC,_,_,_⟩;obtain ⟨st',T7,iv⟩:=hk r lH dL hΦ Nj rr;obtain ⟨E3,hr3⟩:=T7 _ _ _ (bG ch hd r v SC);exact go_sound 4000 _ _ iv E3 _ w' hr3
theorem ka {f:FuncId} {args bJ:List DV} {os:List (List DV)} {d:Nat} (n1 m1:Nat) (mC:Enters X.P f) (hd:gp X.nt st.sl (some d)=true) (zt:Nat.ble n1 st.bx.length=true) (kj:Nat.ble m1 st.tk.length=true)
  (sx:nP [] n1 n1 m1 os (st.bx.take n1)) (ha:CcL [] n1 n1 m1 bJ args)
  {Φ:DV->List (List DV)->List TkE->Prop} (hc:Ev X.P f bJ os (st.tk.take m1) Φ)
  (hk:∀ r lH dL,Φ r lH dL -> lH.length=n1->dL.length=m1->go X 4000 k ⟨(d,⟨[],r⟩) :: st.sl,lH ++ st.bx.drop n1,dL ++ st.tk.drop m1⟩) (aW:X.still=false:=by exact rfl) (hX:X.bt=[]:=by exact rfl):ie X f args (some d) k st:=
 Nk n1 m1 mC hd zt kj sx ha hc (fun r lH dL h1 h2 h3=>⟨_,Wk.refl _ _,hk r lH dL h1 h2 h3⟩) aW hX
theorem Kq {all:Array Oper} {o1 o2 o3:Oper} {r:List Oper} {d1 d2 kt t sT f off ft ty et e jZ m xg nn:Nat} {bb:Bool} {zz:List Value} {z:Int} {kd:IntKind} {es:List (List DV)} {cs:List DV} {s ix x:Operand} {dv YS:DV}
  (h1:o1.op = .indexAddr t s ix/\o1.dst=some d1) (h2:o2.op = .fieldAddr sT (.tmp d1) f/\o2.dst=some d2/\o2.guard=none) (h3:o3.op = .store ty (.tmp d2) x/\o3.dst=none/\o3.guard=none)
  (zf:gp X.nt st.sl (some d1)=true) (JW:gp X.nt ((d1,⟨[],.pt [] 0⟩) :: st.sl) (some d2)=true)
  (hs:rv st [] s=some (.sl 0 es (some kt))) (hi:rv st [] ix=some (.v (.int kd z))) (hx:rv ⟨(d2,⟨[],.pt [] 0⟩) :: (d1,⟨[],.pt [] 0⟩) :: st.sl,st.bx,st.tk⟩ [] x=some dv) (YT:eraD dv=some YS) (US:dv.cells=[dv])
  (hT:X.T.find t=some ⟨nn,bb,.sl et e jZ,zz⟩) (BB:X.T.off sT f=some (off,ft)) (bQ:X.T.sz ty=some 1)
  (hq:st.tk[kt]? = some ⟨m,xg,e,some cs⟩) (gD:es.length=m) (hz:0<=z/\z < m) (nC:off + 1<=e)
  (hk:go X 4000 (.ops all r :: k) ⟨(d2,⟨[],.pt [] 0⟩) :: (d1,⟨[],.pt [] 0⟩) :: st.sl,st.bx,st.tk.set kt ⟨m,xg,e,some (cs.set (z.toNat * e + off) YS)⟩⟩)
  (aW:X.still=false:=by exact rfl):Lm X o1 (.ops all (o2 :: o3 :: r) :: k) st:=by
 intro E a w h;have eB:=h.rl;have e1:=bh eB hs;have e2:=cz (bh eB hi);unfold Rv at e1;obtain ⟨bs,ns,nT,e1,⟨yM,Gf⟩,TX,Gg⟩:=e1;subst yM;obtain ⟨q',jh,_,TY⟩:=Gg kt rfl;have kh:E.tk[kt]? = some ⟨m,xg,e,some cs⟩:=by rw [h.tk];exact hq
 rw [kh] at jh;simp only [oI] at jh;subst jh;have hy:=TY gD;rw [e1,gD] at hy;rw [gD] at e1;have nF:=h.env.cC kt _ _ kh hy;rcases nF with ⟨r8,kX,_⟩ | ⟨g,cap,cur,r8,hw0,⟨vY,Dl⟩,vZ,y6,iB,JO⟩
 ·simp only at kX;omega
 injection r8 with i1 i2 i3
 subst i1 i3;obtain ⟨hu,ii,zv,qQ,_,UT,_,_⟩:=fu X.hT hT;have qR:iY X.P et=some e:=by rw [gj qQ,UT]
 have YU:(execOp a.eval o1).run X.P w = .ok (.value (.pointer (some ⟨g,z.toNat * e,none⟩))) w:=by
  have cv:(Instr.indexAt t (.slice (some ⟨g,0,none⟩) m nT) (.int kd z)).run X.P w = .ok (.pointer (some ⟨g,z.toNat * e,none⟩)) w:=by
   simp [Instr.indexAt,asIntOf,run_underlying hu,hz.1,hz.2,aS qR,Addr.add_lit]
  simp only [execOp,h1.1,e1,e2,Sem.run_bind,cv,Result.andThen_ok,Sem.run_pure]
 refine lS YU ?_;rw [h1.2];have hr1:Rel X E ⟨(d1,⟨[],.pt [] 0⟩) :: st.sl,st.bx,st.tk⟩ (a.put (some d1) (.pointer (some ⟨g,z.toNat * e,none⟩))) w:=bG h zf (.pt [] 0) _ (by unfold Rv;exact ⟨g,z.toNat * e,rfl,by simp only [RvAt]⟩);generalize ha1:a.put (some d1) (.pointer (some ⟨g,z.toNat * e,none⟩))=a1 at hr1
 have ht1:a1.eval (.tmp d1) = .pointer (some ⟨g,z.toNat * e,none⟩):=by
  subst ha1;simp only [gp,aP,Nat.blt_eq] at zf;simp [Act.eval,Act.put,h.sz,zf.1]
 show kq X (.ops all (o2 :: o3 :: r) :: k) .normal a1 w;simp only [kq,wpList,Region.wanted,h2.2.2,h3.2.2,if_true];refine .inl (lS (v:=.pointer (some ⟨g,z.toNat * e + off,none⟩)) (w':=w) ?_ ?_)
 ·simp only [execOp,h2.1,ht1,Sem.run_bind,j5 (sr X.hT BB),Result.andThen_ok,Sem.run_pure]
 rw [h2.2.1];have hr2:Rel X E ⟨(d2,⟨[],.pt [] 0⟩) :: (d1,⟨[],.pt [] 0⟩) :: st.sl,st.bx,st.tk⟩ (a1.put (some d2) (.pointer (some ⟨g,z.toNat * e + off,none⟩))) w:=bG hr1 JW (.pt [] 0) _ (by unfold Rv;exact ⟨g,z.toNat * e + off,rfl,by simp only [RvAt]⟩);generalize Il:a1.put (some d2) (.pointer (some ⟨g,z.toNat * e + off,none⟩))=a2 at hr2
 have ht2:a2.eval (.tmp d2) = .pointer (some ⟨g,z.toNat * e + off,none⟩):=by
  subst Il;simp only [gp,aP,Nat.blt_eq] at JW;simp [Act.eval,Act.put,hr1.sz,JW.1]
 have e3:=bh hr2.rl hx
 have eS:RvC E [dv] (a2.eval x).cells.toList:=by
  have:=e3.cells (jc (n:=1) (by rw [US];rfl) (by omega))
  rwa [US] at this
 have yK:(a2.eval x).cells.toList.length=1:=by rw [eS.1.length];all_goals rfl
 obtain ⟨xv,Wm⟩:∃ xv,(a2.eval x).cells.toList=[xv]:=by
  match hh:(a2.eval x).cells.toList,yK with
  | [y],_=>exact ⟨y,rfl⟩
 obtain ⟨h5,h6⟩:=Dl cs rfl;simp only at h5 h6 vY hw0 vZ;have Nl:cur.toList.length=nT * e:=sU vY;have UU:m * e<=nT * e:=Nat.mul_le_mul_right _ vZ
 have jT:z.toNat * e + off + 1<=m * e:=by
  have:(z.toNat + 1) * e<=m * e:=Nat.mul_le_mul_right _ (by omega);rw [Nat.add_mul] at this;omega
 have vX:=j6 (P:=X.P) (t:=ty) (off:=z.toNat * e + off) (n:=1) hw0 (Dg X.hT bQ) yK (by rw [vY];omega) (List.all_eq_true.2 eS.2);refine .inl (PU (w':=World.dT w g (.cells ((cur.toList.take (z.toNat * e + off) ++ (a2.eval x).cells.toList ++ cur.toList.drop (z.toNat * e + off + 1)).toArray) xg (0,0))) ?_ ?_)
 ·simp only [execOp,h3.1,ht2,Instr.storeAt,Instr.sureAddr,Sem.run_bind,Sem.run_pure,Result.andThen_ok,vX]
 rw [h3.2.1]
 have pP:cur.toList.take (z.toNat * e + off) ++ (a2.eval x).cells.toList ++ cur.toList.drop (z.toNat * e + off + 1)=cur.toList.set (z.toNat * e + off) xv:=by
  rw [Wm,List.set_eq_take_append_cons_drop,ai (by omega)];simp
 rw [pP]
 have hx1:RvC E.cl [YS] [xv]:=by
  rw [Wm] at eS;have h7:=eS.1;simp only [RvL] at h7;obtain ⟨v,s',h8,h9,zA⟩:=h7;simp only [List.cons.injEq] at h8;obtain ⟨rfl,rfl⟩:=h8;exact ⟨rvL_cons (vW YT h9) (by simp only [RvL]),eS.2⟩
 have nJ:De (World.dT w g (.cells (cur.toList.set (z.toNat * e + off) xv).toArray xg (0,0))) E.c E.β ⟨m,xg,e,some (cs.set (z.toNat * e + off) YS)⟩ (.slice (some ⟨g,0,none⟩) m nT):=by
  refine .inr ⟨g,nT,_,rfl,ib hw0,⟨by simpa using Nl,fun cs' Di=>?_⟩,vZ,y6,iB,JO⟩;simp only [oI] at Di;subst Di;simp only;refine ⟨by rw [List.length_set];exact h5,?_⟩;rw [List.take_set];have ap:z.toNat * e + off < (cur.toList.take (m * e)).length:=by rw [zLenT];omega
  rw [List.set_eq_take_append_cons_drop,ai (by omega),List.set_eq_take_append_cons_drop,ai ap];have h8:=(RvC.take (z.toNat * e + off) h6).append (RvC.append hx1 (RvC.drop (z.toNat * e + off + 1) h6));simpa using h8
 have zK:some g≠some g->False:=fun h=>h rfl
 obtain ⟨ch,hext⟩:=BC (q':=⟨m,xg,e,some (cs.set (z.toNat * e + off) YS)⟩) (w':=World.dT w g (.cells (cur.toList.set (z.toNat * e + off) xv).toArray xg (0,0))) hr2 aW kh hy rfl rfl rfl (.inl ⟨rfl,rfl⟩) nJ (.inl rfl) rfl rfl rfl (by rw [fH];exact aR _) (fun j _ bp=>dp (by
  rintro rfl
  exact bp rfl))
 exact go_sound 4000 _ _ hk _ _ _ ch
open Classical in
noncomputable def s5 (E:En) (w:World) (y:Value) (n:Nat):Addr->Option Value:=
 fun x=>if y.ownBlock=some x.block/\x.spot=none/\x.off < n then w.cell? x else E.c x
theorem fV {y:Value} {n:Nat} {x:Addr} {v:Value} (h:s5 E w y n x=some v):(y.ownBlock=some x.block/\x.spot=none/\x.off < n/\w.cell? x=some v)∨E.c x=some v:=by
 unfold s5 at h;split at h
 ·rename_i hc;exact .inl ⟨hc.1,hc.2.1,hc.2.2,h⟩
 ·exact .inr h
theorem Qz (h:Rel X E st a w) {k n ty e:Nat} {cs:List DV} {ns:List (List DV)} (hq:st.tk[k]? = some ⟨n,ty,e,some cs⟩) (dr:cs=ns.flatten) (yM:∀ x∈ns,x.length=e) (fv:ns.length=n) :
  ∃ E',Rel X E' ⟨st.sl,st.bx,st.tk.set k ⟨n,ty,e,none⟩⟩ a w/\Ext E E' /\ ∀ es y,es.length=n->Rv E (.sl 0 es (some k)) y->Rv E' (.sl e ns (some k)) y:=by
 subst dr;have kh:E.tk[k]? = some ⟨n,ty,e,some ns.flatten⟩:=by rw [h.tk];exact hq
 have jP:=(gS kh).1;have WQ:k < E.τ.length:=by rw [h.env.tl];exact jP
 have hv:E.τ[k]? = some E.τ[k]:=gE WQ;generalize E.τ[k]=v at hv;have nF:=h.env.cC k _ v kh hv
 have dG:∀ x u,E.c x=some u->s5 E w v (n * e) x=some u:=fun x u hx=>by
  unfold s5;split
  ·exact h.env.sub x u hx
  ·exact hx
 have hext:Ext E ⟨s5 E w v (n * e),E.β,E.tk.set k ⟨n,ty,e,none⟩,E.τ⟩:=⟨dG,fun _ _ h=>h,fun j q Nn=>by
  by_cases hj:j=k
  ·subst hj;rw [kh] at Nn;simp only [oI] at Nn;subst Nn;exact ⟨_,cQ jP,.inl ⟨rfl,rfl⟩⟩
  ·exact ⟨q,by rw [List.getElem?_set_ne (Ne.symm hj)];exact Nn,.inl ⟨rfl,rfl⟩⟩⟩
 refine ⟨⟨s5 E w v (n * e),E.β,E.tk.set k ⟨n,ty,e,none⟩,E.τ⟩,dB h hext ?_ (by rw [h.tk]) ?_ h.fr h.sh h.bt,hext,?_⟩
 ·exact {
   len:=h.env.len
   tl:=by simp only [List.length_set];exact h.env.tl
   fk:=fun i cs hi=>by
    obtain ⟨b,t,arr,hb,hw,hc⟩:=h.env.fk i cs hi;exact ⟨b,t,arr,hb,hw,hc.mono hext⟩
   inj:=h.env.inj
   sub:=fun x u hx=>by
    rcases fV hx with ⟨_,_,_,h1⟩ | h1
    ·exact h1
    ·exact h.env.sub x u h1
   pc:=fun x u hx hm=>by
    rcases fV hx with ⟨h1,_⟩ | h1
    ·exact (jg nF h1).2 hm
    ·exact h.env.pc x u h1 hm
   cC:=fun j q y hj hy=>by
    by_cases JU:j=k
    ·subst JU;have gw:(E.tk.set j ⟨n,ty,e,none⟩)[j]? = some q:=hj;rw [cQ jP] at gw;have fA:E.τ[j]? = some y:=hy;rw [hv] at fA;simp only [oI] at gw fA;subst gw fA;rcases nF with ⟨h1,h2,_⟩ | ⟨g,cap,cur,rfl,h1,h2,h3,h4,h5,h6⟩
     ·exact .inl ⟨h1,h2,fun cs hc=>by cases hc⟩
     ·refine .inr ⟨g,cap,cur,rfl,h1,⟨h2.1,qJ.none rfl⟩,h3,h4,h5,fun x u hx F0=>?_⟩;rcases fV hx with ⟨_,_,h7,_⟩ | h7
      ·exact h7
      ·have:=h6 x u h7 F0;simp only [TkE.kn] at this;omega
    ·have gw:E.tk[j]? = some q:=by
      have:(E.tk.set k ⟨n,ty,e,none⟩)[j]? = some q:=hj
      rwa [List.getElem?_set_ne (Ne.symm JU)] at this
     rcases h.env.cC j q y gw hy with h1 | ⟨g,cap,cur,rfl,h1,h2,h3,h4,h5,h6⟩
     ·exact .inl h1
     ·refine .inr ⟨g,cap,cur,rfl,h1,⟨h2.1,h2.2.mono dG⟩,h3,h4,h5,fun x u hx F0=>?_⟩;rcases fV hx with ⟨h7,_⟩ | h7
      ·exact (h.env.jE j k _ v g JU hy hv rfl (by rw [h7,F0])).elim
      ·exact h6 x u h7 F0
   jE:=h.env.jE }
 ·exact {
   c:=fun x u hx=>dG x u (h.nw.c x u hx)
   cn:=fun x u hx=>by
    rcases fV hx with ⟨h1,_⟩ | h1
    ·rcases h.nw.own hv h1 with h2 | h2
     ·exact .inr (.inr h2)
     ·exact .inr (.inl h2)
    ·exact h.nw.cn x u h1
   β:=h.nw.β
   tk:=fun j q0 y0 va BA=>by
    obtain ⟨q1,y1,h1,h2,h3,h4,h5,h6⟩:=h.nw.tk j q0 y0 va BA;by_cases hj:j=k
    ·subst hj;rw [kh] at h1;simp only [oI] at h1;subst h1;exact ⟨_,y1,cQ jP,h2,h3,h4,h5,h6⟩
    ·exact ⟨q1,y1,by rw [List.getElem?_set_ne (Ne.symm hj)];exact h1,h2,h3,h4,h5,h6⟩
   tn:=fun j y g hj hy=>h.nw.tn j y g hj hy
   l0:=h.nw.l0 }
 ·intro es y gD hy;unfold Rv at hy ⊢;obtain ⟨b,m,cap,rfl,⟨rfl,hmc⟩,hr,aW⟩:=hy;obtain ⟨q',jh,_,hτ⟩:=aW k rfl;rw [kh] at jh;simp only [oI] at jh;subst jh;have hy:=hτ gD;rw [hv] at hy;simp only [oI] at hy;subst hy;refine ⟨b,es.length,cap,rfl,⟨by omega,hmc⟩,fun bp=>?_,fun k' eX=>?_⟩
  ·rcases nF with ⟨h1,h2,h3⟩ | ⟨g,TP,cur,h0,h1,h2,h3,h4,h5,h6⟩
   ·simp only at h2;exact (bp (List.eq_nil_of_length_eq_zero (by omega))).elim
   ·injection h0 with i1 i2 i3
    subst i1;refine ⟨rfl,?_⟩;obtain ⟨h7,h8⟩:=h2.2 _ rfl;refine rvEs_flat (h8.mono (E:=⟨E.c,[],[],[]⟩) ⟨dG,fun _ _ h=>by simp at h,fun _ _ h=>by simp at h⟩) yM fun j u hj=>?_;rw [cf] at hj;split at hj
    ·rename_i nS;show s5 E w _ (n * e) _=_;unfold s5;rw [ai ⟨rfl,rfl,by simpa [ao] using nS⟩];simp only [ab,ao,Nat.zero_add];rw [cS h1];simpa using hj
    ·cases hj
  ·cases eX;exact ⟨_,cQ jP,by simp only;omega,fun _=>hv⟩
theorem GY {j o k n ty e:Nat} {ocs:List DV} {es ns:List (List DV)} (hq:st.tk[k]? = some ⟨n,ty,e,some ns.flatten⟩) (yM:∀ x∈ns,x.length=e) (fv:ns.length=n) (hj:st.bx[j]? = some ocs) (ho:ocs[o]? = some (.sl 0 es (some k))) (gD:es.length=n) :
  Wk X st ⟨st.sl,st.bx.set j (ocs.set o (.sl e ns none)),st.tk.set k ⟨n,ty,e,none⟩⟩:=by
 intro E a w h;obtain ⟨E',hr,hx,sC⟩:=Qz h hq rfl yM fv;refine ⟨E',{ hr with env:=?_ }⟩
 exact { hr.env with
  len:=by simp only [List.length_set];exact hr.env.len
  fk:=fun i cs' hi=>by
   by_cases jB:i=j
   ·subst jB;have ap:=(gS hj).1;have eQ:(st.bx.set i (ocs.set o (.sl e ns none)))[i]? = some cs':=hi;rw [cQ ap] at eQ;simp only [oI] at eQ;subst eQ;obtain ⟨b,t,arr,hb,hw,hc⟩:=hr.env.fk i ocs hj;obtain ⟨b0,t0,JP,iB,hw0,JO⟩:=h.env.fk i ocs hj;have py:=hx.β i b0 iB;rw [hb] at py;simp only [oI] at py;subst py;rw [hw] at hw0;simp only [oI,Obj.cells.injEq] at hw0
    have MD:arr=JP:=by
     have:=hw0.1;simpa using this
    subst MD;refine ⟨b,t,arr,hb,hw,?_,hc.2⟩;obtain ⟨v,nI,vR⟩:=JO.1.get ho;have SC:=sC es v gD vR;have jQ:=(gS ho).1;have pu:arr.length=ocs.length:=hc.1.length
    have h1:=(RvL.take o hc.1).append (rvL_cons (d:=.sl e ns none) (v:=v) (by
     unfold Rv at SC ⊢;obtain ⟨b,n,cap,g1,g2,g3,_⟩:=SC
     exact ⟨b,n,cap,g1,g2,g3,fun k hk=>by cases hk⟩) (RvL.drop (o + 1) hc.1))
    rw [List.set_eq_take_append_cons_drop,ai jQ]
    have h2:arr.take o ++ v :: arr.drop (o + 1)=arr:=by
     have hoa:o < arr.length:=by omega
     have:arr[o]=v:=by
      rw [gE hoa] at nI;simpa using nI
     rw [<- this];simp
    rwa [h2] at h1
   ·have eQ:(st.bx.set j (ocs.set o (.sl e ns none)))[i]? = some cs':=hi;rw [List.getElem?_set_ne (Ne.symm jB)] at eQ
    exact hr.env.fk i cs' eQ }
theorem Wk.Gu (i j:Nat) (S S':St) (he:S'=dX i j S) (Ln:Nat.ble X.n0 i=true) (y5:Nat.ble X.n0 j=true) (hi:Nat.blt i S.bx.length=true) (hj:Nat.blt j S.bx.length=true) (hX:X.bt=[]:=by exact rfl):Wk X S' S:=fun E a w h=>by
 subst he;simp only [Nat.blt_eq] at hi hj;exact vf hX h (nL Ln) (nL y5) hi hj
theorem B7 {c:Code} (I:Nat->St->Prop) (j0:Nat) (iC:St) (hw:Wk X st iC) (h0:I j0 iC)
  (hr:∀ j s,I j s->go X 4000 (.code c :: .rZ (fun s'=>∃ Du,Wk X s' Du /\ ∃ j',j' < j/\I j' Du) :: k) s):pw X c k st:=by
 intro E a w h;obtain ⟨E0,hr0⟩:=hw _ _ _ h
 classical
 let Inv:Act->World->Prop:=fun a w=>∃ j s E,Rel X E s a w/\I j s
 let μ:Act->World->Nat:=fun a w=>if hI:Inv a w then Classical.choose (least hI) else 0
 refine wp_loop Inv μ ⟨j0,iC,E0,hr0,h0⟩ ?_;intro a1 w1 hI;have zH:=(Classical.choose_spec (least hI)).1;obtain ⟨s,E1,ch,hIs⟩:=zH;have hs:=go_sound 4000 _ _ (hr _ s hIs) E1 a1 w1 ch;rw [fI] at hs;refine wp_mono hs ?_;intro e a2 w2 hq
 cases e with
 | normal=>
  obtain ⟨s',E2,nV,Du,T7,j',gw,W0⟩:=hq;obtain ⟨E3,Dx⟩:=T7 _ _ _ nV;have T8:Inv a2 w2:=⟨j',Du,E3,Dx,W0⟩;refine ⟨T8,?_⟩;simp only [μ,dif_pos hI,dif_pos T8];exact Nat.lt_of_le_of_lt ((Classical.choose_spec (least T8)).2 j' ⟨Du,E3,Dx,W0⟩) gw
 | exit id=>exact hq
 | goto l=>exact hq
 | ret=>exact hq
 | panic c=>exact hq
 | outgrown=>exact hq
mutual
def flatD:DV->Bool
 | .v _=>true
 | .agg l=>flatL l
 | .tup l=>flatL l
 | _=>false
def flatL:List DV->Bool
 | []=>true
 | d :: r=>flatD d && flatL r
end
mutual
theorem Rv.flat {E E':En}:∀ {d:DV} {v:Value},flatD d=true->Rv E d v->Rv E' d v
 | .v x,v,_,h=>by unfold Rv at h ⊢;exact h
 | .agg l,v,hf,h=>by
  simp only [flatD] at hf;simp only [Rv] at h ⊢;obtain ⟨vs,h1,h2,h3⟩:=h;exact ⟨vs,h1,RvL.flat hf h2,h3⟩
 | .tup l,v,hf,h=>by
  simp only [flatD] at hf;simp only [Rv] at h ⊢;obtain ⟨vs,h1,h2⟩:=h;exact ⟨vs,h1,RvL.flat hf h2⟩
 | .ud,_,hf,_=>by simp [flatD] at hf
 | .sl _ _ _,_,hf,_=>by simp [flatD] at hf
 | .pt _ _,_,hf,_=>by simp [flatD] at hf
 | .loc _ _,_,hf,_=>by simp [flatD] at hf
 | .el _ _,_,hf,_=>by simp [flatD] at hf
 | .ms _ _ _ _ _,_,hf,_=>by simp [flatD] at hf
 | .fn _ _ _,_,hf,_=>by simp [flatD] at hf
 | .sq _ _,_,hf,_=>by simp [flatD] at hf
theorem RvL.flat {E E':En}:∀ {l:List DV} {vs:List Value},flatL l=true->RvL E l vs->RvL E' l vs
 | [],vs,_,h=>by simpa only [RvL] using h
 | d :: r,vs,hf,h=>by
  simp only [flatL,aP] at hf;simp only [RvL] at h ⊢;obtain ⟨v,s,h1,h2,h3⟩:=h;exact ⟨v,s,h1,Rv.flat hf.1 h2,RvL.flat hf.2 h3⟩
end
theorem vo {f:FuncId} {args bJ:List DV} {d:Nat} {y:DV} (mC:Enters X.P f) (hc:aV X.P f bJ y) (ha:CcL st.bx 0 0 0 bJ args) (hy:flatD y=true) (hd:gp X.nt st.sl (some d)=true)
  (hk:go X 4000 k ⟨(d,⟨[],y⟩) :: st.sl,st.bx,st.tk⟩) (aW:X.still=false:=by exact rfl):ie X f args (some d) k st:=by
 refine ⟨mC,aW,fun E a w vs h hv=>(j9 h.env hc ha hv).mono ?_⟩;rintro e w' ⟨v,E2,rfl,hr,hm,_⟩;have hh:∀ i,i < w.heap.size->w'.heap[i]? = w.heap[i]?:=fun i hi=>hm.block i hi (fun h=>h);have ch:Rel X E st a w':=dB h (Ext.refl E) (h.env.j8 hh) h.tk h.nw (h.fr.dg hm.os hm.tape hm.output hm.size fun i hi=>.inr (hh i hi)) (nR aW) (h.bt.j8 fun b hb=>hh b (h.env.bm hb));exact go_sound 4000 _ _ hk E _ w' (bG ch hd y v (Rv.flat hy hr))
theorem kb {D:Dr} {c:Bool} {i:Nat} {s0:List (Nat × Sl)} {f:FuncId} {args bJ:List DV} {d:Nat} {y:DV} {r:List (Nat × Oper)} (mC:Enters X.P f) (hc:aV X.P f bJ y) (ha:CcL st.bx 0 0 0 bJ args) (hy:flatD y=true) (hd:(gp X.nt st.sl (some d) && gp X.nt s0 (some d))=true)
  (hk:put2 s0 st (some d) true [] y (goD X D 3000 c r)) (aW:X.still=false:=by exact rfl):zL X D c i r f args (some d) s0 st:=by
 refine ⟨mC,fun hl E0 wr hD E a w vs h hv=>(j9 h.rel.env hc ha hv).mono ?_⟩;rintro e w' ⟨v,E2,rfl,hr,hm,_⟩;have hh:∀ i,i < w.heap.size->w'.heap[i]? = w.heap[i]?:=fun i hi=>hm.block i hi (fun h=>h);have ch:Rel X E st a w':=dB h.rel (Ext.refl E) (h.rel.env.j8 hh) h.rel.tk h.rel.nw (h.rel.fr.dg hm.os hm.tape hm.output hm.size fun i hi=>.inr (hh i hi)) (nR aW) (h.rel.bt.j8 fun b hb=>hh b (h.rel.env.bm hb));have hs:dj none E w E w':=⟨Ext.refl E,⟨[],by simp⟩,fun j b hb _=>hh b (h.rel.env.bm (mG hb))⟩;have hC:=DC h hs ch (fun j hj=>by cases hj);refine ⟨v,rfl,fun _=>hC,?_⟩;have Mb:fL X ⟨D,E0,wr⟩ c E s0 st (a.put none v) w':=wg h hs ch (fun h1=>hC (h.cc h1)) (fun i x hx=>.inr ⟨hx,fun d hd=>by cases hd⟩) rfl;obtain ⟨s1,qC,jU,fB⟩:=kF Mb hd true [] y v (fun _ _ p hp=>by cases hp) (fun _=>Rv.flat hy hr) (fun _ _=>Rv.flat hy hr) (fun hn=>(hn (bF _)).elim) hk;exact eH (D:=⟨D,E0,wr⟩) hD 3000 c r _ _ jU hl E _ w' fB
theorem ie.Gu {S:St} {f:FuncId} {args bJ:List DV} {dst:Option Nat} (i j:Nat) (hS:st=dX i j S) (ha:args=renL (swp i j) bJ) (Ln:Nat.ble X.n0 i=true) (y5:Nat.ble X.n0 j=true) (hi:Nat.blt i S.bx.length=true) (hj:Nat.blt j S.bx.length=true)
  (h:ie X f bJ dst k S) (hX:X.bt=[]:=by exact rfl):ie X f args dst k st:=by
 subst hS ha;simp only [Nat.blt_eq] at hi hj;refine ⟨h.1,h.2.1,fun E a w vs hr hv=>?_⟩
 have hlen:E.β.length=S.bx.length:=by
  rw [hr.env.len];simp only [dX,dh,cX]
 exact h.2.2 _ a w vs (DF hX hr (nL Ln) (nL y5) hi hj) (RvL.Gu (by rw [hlen];exact hi) (by rw [hlen];exact hj) hv)
end
end Dv
end Go.Proofs.YtadhpeooehkklaaGreat
set_option maxRecDepth 100000
namespace Go.Proofs.YtadhpeooehkklaaGreat
open Go Go.RowKit Dv Go.Proofs.Tryz
def cZ (l:List Int):List DV:=l.map fun z=>DV.v (.int .i64 z)
def GZ (af:List ByteArray) (tb lq:DV) (js:List Int):List DV:=.sl 1 (fl af) none :: tb :: lq :: cZ js
def oz:Option Nat->Int
 | none=>-1
 | some k=>(k:Int)
def Ea (pb:Nat->Nat->Bool) (e:Nat):Option Nat->Bool
 | none=>true
 | some o=>pb e o
def bestA (lK:Nat->Bool) (pb:Nat->Nat->Bool):Nat->Option Nat
 | 0=>none
 | e + 1=>if lK e && Ea pb e (bestA lK pb e) then some e else bestA lK pb e
def oa (lK:Nat->Bool) (pb:Nat->Nat->Bool) (n:Nat):Option Nat:=
 match bestA lK pb n with
 | none=>none
 | some o=>if (List.range n).any (fun c=>lK c && !pb o c) then none else some o
theorem ob {lK:Nat->Bool} {pb:Nat->Nat->Bool}:∀ {e k:Nat},bestA lK pb e=some k->k < e
 | 0,k,h=>by cases h
 | e + 1,k,h=>by
  rw [bestA] at h;split at h
  ·simp only [oI] at h;omega
  ·have:=ob h;omega
theorem s6 (af:List ByteArray) (tb:DV) (rows:List Nat) (js:List Int) (hr:eV rows) (a b:Nat) (ha:a < rows.length) (hb:b < rows.length) :
  aV prog 153 [.v (.int .i64 a),.v (.int .i64 b),.pt [.pt (GZ af tb (nE rows) js) 0] 0] (.v (.bool (bd rows a b))):=by
 have h1:=oS rows hr a b;rw [rf ha hb] at h1;refine eG 13 [.tmp 5] func153 rfl ntmps153 rfl fun _ _ _ _=>?_;refine cP IB h1 ?_;exact (rfl:_=_)
theorem s7 (af:List ByteArray) (tb:DV) (rows:List Nat) (js:List Int) (hr:eV rows) (a b:Nat) (ha:a < rows.length) (hb:b < rows.length) :
  aV prog 155 [.v (.int .i64 a),.v (.int .i64 b),.pt [.pt (GZ af tb (nE rows) js) 0] 0] (.v (.bool (bd rows b a))):=by
 have h1:=oS rows hr b a;rw [rf hb ha] at h1;refine eG 13 [.tmp 5] func155 rfl ntmps155 rfl fun _ _ _ _=>?_;refine cP IB h1 ?_;exact (rfl:_=_)
abbrev SQ (L:List DV):DV:=.fn 153 [] [.pt [.pt L 0] 0]
abbrev SR (L:List DV):DV:=.fn 155 [] [.pt [.pt L 0] 0]
theorem Kr (af:List ByteArray) (tb:DV) (rows:List Nat) (js:List Int) (hr:eV rows) (a b c:Nat) (ha:a < rows.length) (hb:b < rows.length) (hc:c < rows.length) :
  aV prog 157 [.v (.int .i64 c),.pt [SQ (GZ af tb (nE rows) js)] 0,.pt [.v (.int .i64 a)] 0,.pt [.v (.int .i64 b)] 0] (.v (.bool (bd rows a c && bd rows b c))):=by
 have h1:=s6 af tb rows js hr a c ha hc;have h2:=s6 af tb rows js hr b c hb hc;refine eG 16 [.tmp 5] func157 rfl ntmps157 rfl fun _ _ _ _=>?_;refine cP Mp h1 ?_;refine br ?_ ?_<;>intro g
 ·have g:bd rows a c=true:=sU g;refine cP Mp h2 ?_;refine (congrArg (fun b=>DV.v (.bool b)) ?_:_=_);simp [g,pickB]
 ·have g:bd rows a c=false:=sU g;refine (congrArg (fun b=>DV.v (.bool b)) ?_:_=_);simp [g,pickB]
theorem Ks (af:List ByteArray) (tb:DV) (rows:List Nat) (js:List Int) (hr:eV rows) (a b c:Nat) (ha:a < rows.length) (hb:b < rows.length) (hc:c < rows.length) :
  aV prog 158 [.v (.int .i64 c),.pt [SR (GZ af tb (nE rows) js)] 0,.pt [.v (.int .i64 a)] 0,.pt [.v (.int .i64 b)] 0] (.v (.bool (bd rows c a && bd rows c b))):=by
 have h1:=s7 af tb rows js hr a c ha hc;have h2:=s7 af tb rows js hr b c hb hc;refine eG 16 [.tmp 5] func158 rfl ntmps158 rfl fun _ _ _ _=>?_;refine cP Mq h1 ?_;refine br ?_ ?_<;>intro g
 ·have g:bd rows c a=true:=sU g;refine cP Mq h2 ?_;refine (congrArg (fun b=>DV.v (.bool b)) ?_:_=_);simp [g,pickB]
 ·have g:bd rows c a=false:=sU g;refine (congrArg (fun b=>DV.v (.bool b)) ?_:_=_);simp [g,pickB]
abbrev UW (L:List DV) (gi gb:Nat) (ci cb:List DV) (n:Nat) (o:Int) (e:Nat):St:=
 ⟨[(0,⟨[],.pt L 0⟩),(1,⟨[],.fn gi [] ci⟩),(2,⟨[],.fn gb [] cb⟩),(7,⟨[],.v (.int .i64 o)⟩),(14,⟨[],.v (.int .i64 n)⟩),(15,⟨[],.v (.int .i64 e)⟩)],[],[]⟩
abbrev IX (L:List DV) (gi gb:Nat) (ci cb:List DV) (n:Nat) (o:Int) (e:Nat):St:=
 ⟨[(0,⟨[],.pt L 0⟩),(1,⟨[],.fn gi [] ci⟩),(2,⟨[],.fn gb [] cb⟩),(7,⟨[],.v (.int .i64 o)⟩),(37,⟨[],.v (.int .i64 n)⟩),(38,⟨[],.v (.int .i64 e)⟩)],[],[]⟩
theorem Ag (af:List ByteArray) (tb lq:DV) (js:List Int) (gi gb:Nat) (hei:Enters prog gi) (heb:Enters prog gb) (ci cb:List DV) (lK:Nat->Bool) (pb:Nat->Nat->Bool)
  (YV:CcL [] 0 0 0 ci ci) (YW:CcL [] 0 0 0 cb cb) (hcli:clB.clL 0 0 ci=true) (hclb:clB.clL 0 0 cb=true) (hn:af.length<=64)
  (uT:∀ c:Nat,c < af.length->aV prog gi (.v (.int .i64 c) :: ci) (.v (.bool (lK c))))
  (hpb:∀ a b:Nat,a < af.length->b < af.length->aV prog gb (.v (.int .i64 a) :: .v (.int .i64 b) :: cb) (.v (.bool (pb a b)))) :
  aV prog 156 [.pt (GZ af tb lq js) 0,.fn gi [] ci,.fn gb [] cb] (.v (.int .i64 (oz (oa lK pb af.length)))):=by
 have hN:=ct af;have B8:clB 0 0 (.fn gi [] ci)=true:=by simp only [clB,aP];exact ⟨rfl,hcli⟩
 have IY:clB 0 0 (.fn gb [] cb)=true:=by simp only [clB,aP];exact ⟨rfl,hclb⟩
 refine eG 57 [.tmp 6] func156 rfl ntmps156 rfl fun _ _ _ _=>?_;refine lJ (fun e=>UW (GZ af tb lq js) gi gb ci cb (fl af).length (oz (bestA lK pb e)) e) af.length (aj ⟨_,rfl⟩ wA rfl rfl rfl (wB2 B8 IY)) ?_;intro e he;refine br ?_ ?_<;>intro hL
 ·have ap:e < af.length:=by have:=hL;simp [hN] at this;exact this
  have hs:bestA lK pb (e + 1)=if lK e && Ea pb e (bestA lK pb e) then some e else bestA lK pb e:=rfl
  refine cP hei (uT e ap) ?_ ⟨_,_,rfl,rfl,YV⟩
  cases hA:bestA lK pb e with
  | none=>
   rw [hA] at hs;refine br ?_ ?_<;>intro g
   ·have g:lK e=true:=by simpa [lastG] using g
    have hz:(e:Int)=oz (bestA lK pb (e + 1)):=by rw [hs,g];all_goals rfl
    exact rE ⟨_,by omega,e + 1,rfl,by omega,rfl⟩ (aj ⟨_,rfl⟩ wA rfl rfl rfl (W1 B8 IY (aJ ap (by omega)) hz))
   ·have g:lK e=false:=by simpa [lastG] using g
    have hz:oz none=oz (bestA lK pb (e + 1)):=by rw [hs,g];all_goals rfl
    exact rE ⟨_,by omega,e + 1,rfl,by omega,rfl⟩ (aj ⟨_,rfl⟩ wA rfl rfl rfl (W1 B8 IY (aJ ap (by omega)) hz))
  | some k=>
   rw [hA] at hs;have hk:=ob hA;refine br ?_ ?_<;>intro g
   ·have g:lK e=true:=by simpa [lastG] using g
    refine cP heb (hpb e k ap (by omega)) ?_ ⟨_,_,rfl,rfl,_,_,rfl,rfl,YW⟩;refine br ?_ ?_<;>intro g2
    ·have g2:pb e k=true:=by simpa [pickB,g,lastG] using g2
     have hz:(e:Int)=oz (bestA lK pb (e + 1)):=by rw [hs,g,Ea,g2];all_goals rfl
     exact rE ⟨_,by omega,e + 1,rfl,by omega,rfl⟩ (aj ⟨_,rfl⟩ wA rfl rfl rfl (W1 B8 IY (aJ ap (by omega)) hz))
    ·have g2:pb e k=false:=by simpa [pickB,g,lastG] using g2
     have hz:oz (some k)=oz (bestA lK pb (e + 1)):=by rw [hs,g,Ea,g2];all_goals rfl
     exact rE ⟨_,by omega,e + 1,rfl,by omega,rfl⟩ (aj ⟨_,rfl⟩ wA rfl rfl rfl (W1 B8 IY (aJ ap (by omega)) hz))
   ·have g:lK e=false:=by simpa [lastG] using g
    have hz:oz (some k)=oz (bestA lK pb (e + 1)):=by rw [hs,g];all_goals rfl
    exact rE ⟨_,by omega,e + 1,rfl,by omega,rfl⟩ (aj ⟨_,rfl⟩ wA rfl rfl rfl (W1 B8 IY (aJ ap (by omega)) hz))
 ·have aQ:e=af.length:=sW hN hL;subst aQ;refine lI (fun j st=>∃ e:Nat,st=IX (GZ af tb lq js) gi gb ci cb (fl af).length (oz (bestA lK pb af.length)) e/\e<=af.length/\(∀ o,bestA lK pb af.length=some o->∀ c,c < e->(lK c && !pb o c)=false)/\j=af.length - e) ⟨0,rfl,by omega,fun _ _ c hc=>by omega,rfl⟩ (aj ⟨_,rfl⟩ wA rfl rfl rfl (wB2 B8 IY)) ?_;rintro j st ⟨e,rfl,he,fq,rfl⟩;refine br ?_ ?_<;>intro hL
  ·have ap:e < af.length:=by have:=hL;simp [hN] at this;exact this
   cases hA:bestA lK pb af.length with
   | none=>
    exact ⟨IX (GZ af tb lq js) gi gb ci cb (fl af).length (oz none) (e + 1),(aj ⟨_,rfl⟩ wA rfl rfl rfl (zI B8 IY (aJ ap (by omega)))),af.length - (e + 1),by omega,e + 1,rfl,by omega,(fun _ h=>by cases h),rfl⟩
   | some o=>
    have ho:=ob hA;have fq:=fq o hA;refine cP hei (uT e ap) ?_ ⟨_,_,rfl,rfl,YV⟩;refine br ?_ ?_<;>intro g
    ·have g:lK e=true:=by simpa [pickB] using g
     refine cP heb (hpb o e ho ap) ?_ ⟨_,_,rfl,rfl,_,_,rfl,rfl,YW⟩;refine br ?_ ?_<;>intro g2
     ·have g2:pb o e=false:=by simpa [pickB,g,lastG] using g2
      have:oa lK pb af.length=none:=by
       rw [oa,hA];simp only;rw [ai];rw [List.any_eq_true];exact ⟨e,by simpa using ap,by simp [g,g2]⟩
      rw [this];exact (rfl:_=_)
     ·have g2:pb o e=true:=by simpa [pickB,g,lastG] using g2
      exact rE ⟨_,by omega,e + 1,rfl,by omega,fun o' Bw c hc=>by
       cases Bw;rcases eP hc with hc | rfl
       ·exact fq c hc
       ·simp [g2],rfl⟩ (aj ⟨_,rfl⟩ wA rfl rfl rfl (zI B8 IY (aJ ap (by omega))))
    ·have g:lK e=false:=by simpa [pickB] using g
     exact rE ⟨_,by omega,e + 1,rfl,by omega,fun o' Bw c hc=>by
       cases Bw;rcases eP hc with hc | rfl
       ·exact fq c hc
       ·simp [g],rfl⟩ (aj ⟨_,rfl⟩ wA rfl rfl rfl (zI B8 IY (aJ ap (by omega))))
  ·have aQ:e=af.length:=sW hN hL;subst aQ
   have:oa lK pb af.length=bestA lK pb af.length:=by
    cases hA:bestA lK pb af.length with
    | none=>rw [oa,hA]
    | some o=>
     rw [oa,hA];simp only;rw [ah];rw [List.any_eq_true];rintro ⟨c,hc,h2⟩;rw [fq o hA c (sU hc)] at h2;cases h2
   rw [this];exact (rfl:_=_)
theorem s8 (js:List Int) (bx:List (List DV)) (N n m:Nat):CcL bx N n m (cZ js) (cZ js):=by
 induction js with
 | nil=>exact rfl
 | cons z r ih=>exact ⟨_,_,rfl,rfl,ih⟩
theorem sF {n m:Nat} {tk:List TkE} (js:List Int):WeL n m tk (cZ js) (cZ js):=wX _ fun x hx=>by
 obtain ⟨z,_,rfl⟩:=List.mem_map.1 hx;exact ⟨_,rfl⟩
theorem UX (f:Nat->Nat) (js:List Int):renL f (cZ js)=cZ js:=by
 induction js with
 | nil=>rfl
 | cons z r ih=>simp only [cZ,List.map_cons,renL,renD] at ih ⊢;rw [ih]
theorem UY (js:List Int):(cZ js).length=js.length:=by simp [cZ]
theorem Np (js:List Int) (i:Nat) (z:Int):(cZ js).set i (.v (.int .i64 z))=cZ (js.set i z):=by simp [cZ,List.map_set]
abbrev jC (af:List ByteArray) (tc:List DV) (rows:List Nat) (js:List Int):List DV:=GZ af (.pt tc 0) (nE rows) js
theorem QA (af:List ByteArray) (tc:List DV) (rows:List Nat) (js:List Int):(jC af tc rows js).length=js.length + 3:=by simp [GZ,cZ]
theorem vq {af:List ByteArray} {tc:List DV} {rows:List Nat} {js:List Int} {i k:Nat} {z:Int} (h:k=i + 3):(jC af tc rows js).set k (.v (.int .i64 z))=jC af tc rows (js.set i z):=by
 subst h;simp only [GZ,List.set_cons_succ,Np]
theorem QB (f:Nat->Nat) (af:List ByteArray) (tc:List DV) (rows:List Nat) (js:List Int):renL f (jC af tc rows js)=jC af tc rows js:=by
 simp only [GZ,renL,UX];rfl
theorem IZ {n m:Nat} {tk:List TkE} {l:List DV} {af:List ByteArray} {tc:List DV} {rows:List Nat} {js:List Int} (h:l=jC af tc rows js):WeL n m tk l (jC af tc rows js):=by
 subst h;exact ⟨_,_,rfl,az rfl,_,_,rfl,az rfl,_,_,rfl,az rfl,sF js⟩
def fC (f:Nat->Nat->Bool) (n a b:Nat):Option Nat:=oa (fun c=>f a c && f b c) f n
def jL (f:Nat->Nat->Bool) (n a b:Nat):Option Nat:=oa (fun c=>f c a && f c b) (fun x y=>f y x) n
theorem xi (f:Nat->Nat->Bool) (n a b:Nat):fC f n a b=fC f n b a:=by
 unfold fC;congr 1;funext c;exact Bool.and_comm _ _
theorem xj (f:Nat->Nat->Bool) (n a b:Nat):jL f n a b=jL f n b a:=by
 unfold jL;congr 1;funext c;exact Bool.and_comm _ _
def lZ (f:Nat->Nat->Bool) (n a b:Nat):Bool:=(fC f n a b).isNone || (jL f n a b).isNone
def oc (f:Nat->Nat->Bool) (n b:Nat):Bool:=(List.range (b + 1)).any fun a=>lZ f n a b
def JM (f:Nat->Nat->Bool) (n:Nat) (js:List Int) (a b:Nat):Prop:=js[a * 32 + b]? = some (oz (fC f n a b))/\js[1024 + (a * 32 + b)]? = some (oz (jL f n a b))
def zi (js:List Int) (a b:Nat) (j m:Int):List Int:=(((js.set (a * 32 + b) j).set (b * 32 + a) j).set (1024 + (a * 32 + b)) m).set (1024 + (b * 32 + a)) m
theorem Nq (js:List Int) (a b:Nat) (j m:Int):(zi js a b j m).length=js.length:=by simp [zi]
theorem cV {js:List Int} {i k:Nat} {z:Int} (h:k≠i):(js.set k z)[i]? = js[i]?:=List.getElem?_set_ne h
theorem ru {f:Nat->Nat->Bool} {n:Nat} {js:List Int} (hl:js.length=2048) {a b:Nat} (ha:a < 32) (hb:b < 32) {x y:Nat} (hx:x < 32) (hy:y < 32)
  (h:JM f n js x y∨(x=a/\y=b)∨(x=b/\y=a)):JM f n (zi js a b (oz (fC f n a b)) (oz (jL f n a b))) x y:=by
 have key:(x=a/\y=b)∨(x=b/\y=a)∨(JM f n js x y/\¬ (x=a/\y=b)/\¬ (x=b/\y=a)):=by
  by_cases h1:x=a/\y=b
  ·exact .inl h1
  ·by_cases h2:x=b/\y=a
   ·exact .inr (.inl h2)
   ·rcases h with h | h | h
    ·exact .inr (.inr ⟨h,h1,h2⟩)
    ·exact (h1 h).elim
    ·exact (h2 h).elim
 rcases key with ⟨rfl,rfl⟩ | ⟨rfl,rfl⟩ | ⟨h,h1,h2⟩
 ·unfold JM zi;refine ⟨?_,?_⟩
  ·rw [cV (by omega),cV (by omega)];by_cases Gr:x=y
   ·subst Gr;rw [cQ (by simp;omega)]
   ·rw [cV (by omega),cQ (by omega)]
  ·by_cases Gr:x=y
   ·subst Gr;rw [cQ (by simp;omega)]
   ·rw [cV (by omega),cQ (by simp;omega)]
 ·unfold JM zi;rw [xi f n x y,xj f n x y];refine ⟨?_,?_⟩
  ·rw [cV (by omega),cV (by omega),cQ (by simp;omega)]
  ·rw [cQ (by simp;omega)]
 ·unfold JM zi;have g1:a * 32 + b≠x * 32 + y:=fun he=>h1 ⟨by omega,by omega⟩;have g2:b * 32 + a≠x * 32 + y:=fun he=>h2 ⟨by omega,by omega⟩;refine ⟨?_,?_⟩
  ·rw [cV (by omega),cV (by omega),cV g2,cV g1];exact h.1
  ·rw [cV (by omega),cV (by omega),cV (by omega),cV (by omega)];exact h.2
abbrev SS (af:List ByteArray) (tc:List DV) (rows:List Nat) (js:List Int) (e:Nat):St:=
 ⟨[(1,⟨[],.loc 1 0⟩),(3,⟨[],.loc 2 0⟩),(4,⟨[],.loc 3 0⟩),(15,⟨[],.v (.int .i64 (fl af).length)⟩),(16,⟨[],.v (.int .i64 e)⟩)],
  [jC af tc rows js,[.loc 0 0],[.fn 153 [] [.loc 1 0]],[.fn 155 [] [.loc 1 0]]],[]⟩
abbrev G0 (af:List ByteArray) (tc:List DV) (rows:List Nat) (js:List Int) (e f:Nat):St:=
 ⟨[(1,⟨[],.loc 1 0⟩),(3,⟨[],.loc 2 0⟩),(4,⟨[],.loc 3 0⟩),(15,⟨[],.v (.int .i64 (fl af).length)⟩),(16,⟨[],.v (.int .i64 e)⟩),(5,⟨[],.loc 4 0⟩),(6,⟨[],.loc 5 0⟩)],
  [jC af tc rows js,[.loc 0 0],[.fn 153 [] [.loc 1 0]],[.fn 155 [] [.loc 1 0]],[.v (.int .i64 e)],[.v (.int .i64 f)]],[]⟩
abbrev Nr (af:List ByteArray) (tc:List DV) (rows:List Nat) (js:List Int) (e f:Nat):St:=
 ⟨[(1,⟨[],.loc 1 0⟩),(3,⟨[],.loc 2 0⟩),(4,⟨[],.loc 3 0⟩),(15,⟨[],.v (.int .i64 (fl af).length)⟩),(16,⟨[],.v (.int .i64 e)⟩),(5,⟨[],.loc 4 0⟩),(6,⟨[],.loc 6 0⟩)],
  [jC af tc rows js,[.loc 0 0],[.fn 153 [] [.loc 1 0]],[.fn 155 [] [.loc 1 0]],[.v (.int .i64 e)],[.v (.int .i64 f)],[.v (.int .i64 (f + 1:Nat))]],[]⟩
abbrev Ns (af:List ByteArray) (tc:List DV) (rows:List Nat) (js:List Int) (e f:Nat):St:=
 ⟨[(1,⟨[],.loc 1 0⟩),(3,⟨[],.loc 2 0⟩),(4,⟨[],.loc 3 0⟩),(15,⟨[],.v (.int .i64 (fl af).length)⟩),(16,⟨[],.v (.int .i64 e)⟩),(5,⟨[],.loc 4 0⟩),(6,⟨[],.loc 5 0⟩)],
  [jC af tc rows js,[.loc 0 0],[.fn 153 [] [.loc 1 0]],[.fn 155 [] [.loc 1 0]],[.v (.int .i64 e)],[.v (.int .i64 (f + 1:Nat))],[.v (.int .i64 f)]],[]⟩
theorem QC (af:List ByteArray) (tc:List DV) (rows:List Nat) (js:List Int) (e f:Nat):Nr af tc rows js e f=dX 5 6 (Ns af tc rows js e f):=by
 simp only [dX,renO,QB];rfl
def BndΦ (af:List ByteArray) (tc:List DV) (rows:List Nat) (r:DV) (os:List (List DV)) (_:List TkE):Prop:=
 ∃ UZ,os=[jC af tc rows UZ]/\UZ.length=2048/\r = .v (.int .i64 (oz (bN (oc (bd rows) af.length) af.length))) /\
  (bN (oc (bd rows) af.length) af.length=none->∀ x y,x < af.length->y < af.length->JM (bd rows) af.length UZ x y)
theorem Eb (af:List ByteArray) (tc:List DV) (rows:List Nat) (js:List Int) (hr:eV rows) (hlen:rows.length=af.length) (hn:af.length<=32) (hj:js.length=2048) :
  Ev prog 93 [.loc 0 0] [jC af tc rows js] [] (BndΦ af tc rows):=by
 have hN:=ct af;refine eG 73 [.tmp 2] func93 rfl ntmps93 rfl fun _ _ _ _=>?_;refine lI (fun j st=>∃ (e:Nat) (js:List Int),st=SS af tc rows js e/\e<=af.length/\js.length=2048/\(∀ b,b < e->oc (bd rows) af.length b=false)/\(∀ x y,x < e->y < e->JM (bd rows) af.length js x y)/\j=af.length - e) ⟨0,js,rfl,by omega,hj,fun _ h=>by omega,fun _ _ h=>by omega,rfl⟩ (au 4 rfl pS rfl rfl rfl mi) ?_;rintro j st ⟨e,js,rfl,he,hj,fq,vt,rfl⟩;refine br ?_ ?_<;>intro hL
 ·have ap:e < af.length:=by have:=hL;simp [hN] at this;exact this
  refine B7 (fun j st=>∃ (f:Nat) (js:List Int),st=G0 af tc rows js e f/\f<=e + 1/\js.length=2048/\(∀ a,a < f->lZ (bd rows) af.length a e=false)/\(∀ x y,x < e->y < e->JM (bd rows) af.length js x y)/\(∀ x,x < f->JM (bd rows) af.length js x e/\JM (bd rows) af.length js e x)/\j=e + 1 - f) (e + 1) (G0 af tc rows js e 0) (.UQ (au 6 rfl pS rfl rfl rfl mi)) ⟨0,js,rfl,by omega,hj,fun _ h=>by omega,vt,fun _ h=>by omega,by omega⟩ ?_;clear vt hj;rintro j st ⟨f,js,rfl,hf,hj,V4,vt,LD,rfl⟩;refine br ?_ ?_<;>intro kM
  ·have Lq:f<=e:=by have:=kM;simp at this;exact this
   have py:=Ag af (.pt tc 0) (nE rows) js 157 153 XZ Mp
    [.pt [SQ (jC af tc rows js)] 0,.pt [.v (.int .i64 f)] 0,.pt [.v (.int .i64 e)] 0] [.pt [.pt (jC af tc rows js) 0] 0] (fun c=>bd rows f c && bd rows e c) (bd rows) ax ax rfl rfl (by omega)
    (fun c hc=>Kr af (.pt tc 0) rows js hr f e c (by omega) (by omega) (by omega)) (fun a b ha hb=>s6 af (.pt tc 0) rows js hr a b (by omega) (by omega))
   have lh:=Ag af (.pt tc 0) (nE rows) js 158 155 X0 Mq
    [.pt [SR (jC af tc rows js)] 0,.pt [.v (.int .i64 f)] 0,.pt [.v (.int .i64 e)] 0] [.pt [.pt (jC af tc rows js) 0] 0] (fun c=>bd rows c f && bd rows c e) (fun x y=>bd rows y x) ax ax rfl rfl (by omega)
    (fun c hc=>Ks af (.pt tc 0) rows js hr f e c (by omega) (by omega) (by omega)) (fun a b ha hb=>s7 af (.pt tc 0) rows js hr a b (by omega) (by omega))
   refine BJ Sj py (by repeat' (first | exact rfl | exact trivial | exact Or.inr (Or.inl ⟨_,rfl⟩) | exact Or.inr ⟨_,rfl⟩ | exact Or.inl ⟨rfl,rfl⟩ | exact Or.inl rfl | refine Or.inr ⟨_,_,rfl,Nat.zero_le _,rfl,?_⟩ | refine ⟨_,_,rfl,?_,?_⟩ | refine ⟨_,rfl,?_⟩ | exact s8 _ _ _ _ _ | refine Or.inr (Or.inr (Or.inr ⟨_,_,rfl,?_⟩)) | exact Or.inl rfl | refine Or.inr ?_)) rfl ?_;refine BJ Sj lh (by repeat' (first | exact rfl | exact trivial | exact Or.inr (Or.inl ⟨_,rfl⟩) | exact Or.inr ⟨_,rfl⟩ | exact Or.inl ⟨rfl,rfl⟩ | exact Or.inl rfl | refine Or.inr ⟨_,_,rfl,Nat.zero_le _,rfl,?_⟩ | refine ⟨_,_,rfl,?_,?_⟩ | refine ⟨_,rfl,?_⟩ | exact s8 _ _ _ _ _ | refine Or.inr (Or.inr (Or.inr ⟨_,_,rfl,?_⟩)) | exact Or.inl rfl | refine Or.inr ?_)) rfl ?_
   have U0:pickB (decide (oz (fC (bd rows) af.length f e) = -1)) true (decide (oz (jL (bd rows) af.length f e) = -1))=lZ (bd rows) af.length f e:=by
    unfold lZ
    cases fC (bd rows) af.length f e with
    | none=>rfl
    | some j=>
     have:decide (oz (some j) = -1)=false:=by simp [oz]
     rw [this]
     cases jL (bd rows) af.length f e with
     | none=>rfl
     | some m=>
      have:decide (oz (some m) = -1)=false:=by simp [oz]
      rw [this];rfl
   refine br ?_ ?_<;>intro g
   ·have g:lZ (bd rows) af.length f e=true:=U0.symm.trans g
    have hb:oc (bd rows) af.length e=true:=by
     unfold oc;rw [List.any_eq_true];exact ⟨f,by simp;omega,g⟩
    have C5:=bB (p:=oc (bd rows) af.length) ap hb fq;refine ⟨.v (.int .i64 e),[jC af tc rows js],ax,(by repeat' (first | exact rfl | exact trivial | exact Or.inr (Or.inl ⟨_,rfl⟩) | exact Or.inr ⟨_,rfl⟩ | exact Or.inl ⟨rfl,rfl⟩ | exact Or.inl rfl | refine Or.inr ⟨_,_,rfl,Nat.zero_le _,rfl,?_⟩ | refine ⟨_,_,rfl,?_,?_⟩ | refine ⟨_,rfl,?_⟩ | exact s8 _ _ _ _ _ | refine Or.inr (Or.inr (Or.inr ⟨_,_,rfl,?_⟩)) | exact Or.inl rfl | refine Or.inr ?_)),js,rfl,hj,?_,fun h=>by rw [C5] at h;cases h⟩;rw [C5];rfl
   ·have g:lZ (bd rows) af.length f e=false:=U0.symm.trans g;refine ve [0] (fun _=>false) mo (by decide +kernel) ?_;have bH:=QA af tc rows js;refine ⟨⟨by omega,by omega⟩,?_⟩;refine ⟨⟨by omega,by omega⟩,?_⟩;refine ⟨by rw [bH];omega,?_⟩;refine ⟨⟨by omega,by omega⟩,?_⟩;refine ⟨⟨by omega,by omega⟩,?_⟩;refine ⟨by rw [List.length_set,bH];omega,?_⟩;refine ve [0] (fun _=>false) mo (by decide +kernel) ?_;refine ⟨⟨by omega,by omega⟩,?_⟩;refine ⟨⟨by omega,by omega⟩,?_⟩;refine ⟨by rw [List.length_set,List.length_set,bH];omega,?_⟩;refine ⟨⟨by omega,by omega⟩,?_⟩;refine ⟨⟨by omega,by omega⟩,?_⟩;refine ⟨by rw [List.length_set,List.length_set,List.length_set,bH];omega,?_⟩
    have iB:((((jC af tc rows js).set (0 + 0 + 3 + (f:Int).toNat * 32 + (e:Int).toNat * 1) (DV.v (.int .i64 (oz (fC (bd rows) af.length f e))))).set (0 + 0 + 3 + (e:Int).toNat * 32 + (f:Int).toNat * 1) (DV.v (.int .i64 (oz (fC (bd rows) af.length f e))))).set (0 + 0 + 1027 + (f:Int).toNat * 32 + (e:Int).toNat * 1) (DV.v (.int .i64 (oz (jL (bd rows) af.length f e))))).set (0 + 0 + 1027 + (e:Int).toNat * 32 + (f:Int).toNat * 1) (DV.v (.int .i64 (oz (jL (bd rows) af.length f e))))=jC af tc rows (zi js f e (oz (fC (bd rows) af.length f e)) (oz (jL (bd rows) af.length f e))):=by
     rw [vq (i:=f * 32 + e) (by omega),vq (i:=e * 32 + f) (by omega),vq (i:=1024 + (f * 32 + e)) (by omega),vq (i:=1024 + (e * 32 + f)) (by omega)];rfl
    refine ⟨G0 af tc rows (zi js f e (oz (fC (bd rows) af.length f e)) (oz (jL (bd rows) af.length f e))) e (f + 1),
     .trans (.UQ (s2:=Nr af tc rows (zi js f e (oz (fC (bd rows) af.length f e)) (oz (jL (bd rows) af.length f e))) e f) (au 7 rfl (by repeat' (first | exact rfl | exact az rfl | exact IZ iB | exact aD (aJ (n:=e + 1) (by omega) (by omega)) | refine ⟨_,_,rfl,?_,?_⟩)) rfl rfl rfl (by repeat' (first | exact trivial | exact az rfl | exact IZ iB | exact aD (aJ (n:=e + 1) (by omega) (by omega)) | refine ⟨⟨_,rfl,?_⟩,?_⟩))))
      (.trans (.Gu 5 6 (Ns af tc rows (zi js f e (oz (fC (bd rows) af.length f e)) (oz (jL (bd rows) af.length f e))) e f) _ (QC _ _ _ _ _ _) rfl rfl rfl rfl) (.UQ (au 6 rfl pS rfl rfl rfl mi))),
     e + 1 - (f + 1),by omega,f + 1,_,rfl,by omega,by rw [Nq];exact hj,fun a ha=>?_,fun x y hx hy=>?_,fun x hx=>?_,rfl⟩
    ·rcases eP ha with ha | rfl
     ·exact V4 a ha
     ·exact g
    ·exact ru hj (by omega) (by omega) (by omega) (by omega) (.inl (vt x y hx hy))
    ·rcases eP hx with hx | rfl
     ·exact ⟨ru hj (by omega) (by omega) (by omega) (by omega) (.inl (LD x hx).1),ru hj (by omega) (by omega) (by omega) (by omega) (.inl (LD x hx).2)⟩
     ·exact ⟨ru hj (by omega) (by omega) (by omega) (by omega) (.inr (.inl ⟨rfl,rfl⟩)),ru hj (by omega) (by omega) (by omega) (by omega) (.inr (.inr ⟨rfl,rfl⟩))⟩
  ·have Lq:f=e + 1:=by have:=kM;simp at this;omega
   subst Lq
   have hb:oc (bd rows) af.length e=false:=by
    unfold oc;rw [List.any_eq_false];intro a ha;rw [V4 a (sU ha)];decide
   refine ⟨SS af tc rows js (e + 1),(au 4 rfl (ny (aJ ap (by omega))) rfl rfl rfl (dt (aJ ap (by omega)))),af.length - (e + 1),by omega,e + 1,js,rfl,by omega,hj,fun b gv=>?_,fun x y hx hy=>?_,rfl⟩
   ·rcases eP gv with h | rfl
    ·exact fq b h
    ·exact hb
   ·rcases eP hx with hx | rfl
    ·rcases eP hy with hy | rfl
     ·exact vt x y hx hy
     ·exact (LD x (by omega)).1
    ·exact (LD y (by omega)).2
 ·have aQ:e=af.length:=sW hN hL;subst aQ;refine ⟨.v (.int .i64 (-1)),[jC af tc rows js],ax,(by repeat' (first | exact rfl | exact trivial | exact Or.inr (Or.inl ⟨_,rfl⟩) | exact Or.inr ⟨_,rfl⟩ | exact Or.inl ⟨rfl,rfl⟩ | exact Or.inl rfl | refine Or.inr ⟨_,_,rfl,Nat.zero_le _,rfl,?_⟩ | refine ⟨_,_,rfl,?_,?_⟩ | refine ⟨_,rfl,?_⟩ | exact s8 _ _ _ _ _ | refine Or.inr (Or.inr (Or.inr ⟨_,_,rfl,?_⟩)) | exact Or.inl rfl | refine Or.inr ?_)),js,rfl,hj,?_,fun _=>vt⟩;rw [bP fq];rfl
def U1 (l:List Wd) (k:Nat):Int:=((l[k]?).getD (⟨ay,0⟩:Wd)).a
def latF (l:List Wd) (o:List (Wd × Wd)):Ft:=
 if (gK l o).1≠0 then gK l o
 else if (enumL l 0 l).1≠0 then enumL l 0 l
 else if (numF (aC l) o).1≠0 then numF (aC l) o
 else match bN (ln l.length (fy l.length (dQ (aC l) o))) l.length with
  | some a=>(11,U1 l a)
  | none=>
   match bN (oc (fy l.length (dQ (aC l) o)) l.length) l.length with
   | some b=>(12,U1 l b)
   | none=>(0,0)
def U2 (l:List Wd) (o:List (Wd × Wd)) (d:DV):Prop:=
 ∃ aM js,iT (aC l) aM/\aM.length<=l.length/\js.length=2048/\(∀ x y,x < l.length->y < l.length->JM (fy l.length (dQ (aC l) o)) l.length js x y) /\
  d = .pt (jC (aC l) (dz (aC l) aM) (closeR (fO l.length (dQ (aC l) o)) l.length) js) 0
def G1 (l:List Wd) (o:List (Wd × Wd)) (r:DV) (_:List (List DV)) (_:List TkE):Prop:=
 if (latF l o).1≠0 then r = .tup [.v (.pointer none),(latF l o).d] else ∃ d,U2 l o d/\r = .tup [d,(latF l o).d]
theorem oW {L:List ByteArray}:∀ {o:List (Wd × Wd)},(numF L o).1=0->sX L.length (dQ L o)
 | [],_=>by intro p hp;simp [dQ] at hp
 | q :: r,h=>by
  rw [numF] at h;split at h
  ·cases h
  ·rename_i h1;split at h
   ·cases h
   ·rename_i h2;have ih:=oW (o:=r) h;intro p hp;simp only [dQ,List.map_cons,List.mem_cons] at hp;rcases hp with rfl | hp
    ·obtain ⟨a,ha⟩:=Option.ne_none_iff_exists'.1 h1;obtain ⟨b,hb⟩:=Option.ne_none_iff_exists'.1 h2;simp only [UN,ha,hb,Option.getD_some];exact ⟨(dD ha).1,(dD hb).1⟩
    ·exact ih p hp
theorem dW (l:List Wd):(aC l).length=l.length:=by simp [aC]
theorem xm {all:List Wd}:∀ {l:List Wd} {i:Nat},(enumL all i l).1=0->enumL all i l=(0,0)
 | [],_,_=>rfl
 | x :: r,i,h=>by
  rw [enumL] at h ⊢;split at h
  ·rename_i h1;exact (h1 h).elim
  ·rename_i h1;rw [ah h1];exact xm h
theorem Ah {L:List ByteArray}:∀ {o:List (Wd × Wd)},(numF L o).1=0->numF L o=(0,0)
 | [],_=>rfl
 | q :: r,h=>by
  rw [numF] at h ⊢;split at h
  ·cases h
  ·rename_i h1;split at h
   ·cases h
   ·rename_i h2;rw [ah h1,ah h2];exact Ah h
theorem lp {l:List Wd} {k:Nat} {w:Wd} (h:l[k]? = some w):U1 l k=w.a:=by simp [U1,h]
theorem U3 (n:Nat):vL (List.replicate n (.int .i64 0))=cZ (List.replicate n 0):=by
 induction n with
 | zero=>rfl
 | succ n ih=>simp only [List.replicate_succ,vL,cZ,List.map_cons] at ih ⊢;rw [ih]
theorem od {l:List Wd} {o:List (Wd × Wd)} {f:Ft} {os:List (List DV)} {tk:List TkE} (h:latF l o=f) (hf:f.1≠0):G1 l o (.tup [.v (.pointer none),f.d]) os tk:=by
 unfold G1;rw [h,ai hf]
theorem QD {l:List Wd} {o:List (Wd × Wd)} {d:DV} {os:List (List DV)} {tk:List TkE} (h:latF l o=(0,0)) (hd:U2 l o d):G1 l o (.tup [d,Ft.d (0,0)]) os tk:=by
 unfold G1;rw [h,ah (by simp)];exact ⟨d,hd,rfl⟩
theorem QE (n m:Nat) (af:List ByteArray) (tc:List DV) (rows:List Nat) (js:List Int):clB.clL n m (jC af tc rows js)=true:=by
 have h:∀ l:List Int,clB.clL n m (cZ l)=true:=by
  intro l
  induction l with
  | nil=>rfl
  | cons z r ih=>simp only [cZ,List.map_cons,clB.clL,clB,Bool.true_and] at ih ⊢;exact ih
 simp only [GZ,clB.clL,clB,h,nE,Bool.and_self]
theorem Ec (l:List Wd) (o:List (Wd × Wd)) (hs:wdsWt l<=1099511627776) (vT:prsWt o<=1099511627776) :
  Ev prog 36 [.sl 2 (bO l) none,.sl 4 (nD o) none] [] [] (G1 l o):=by
 have nK:=bL l;have zK:=jr o;have fv:=dW l;have hF:=latF.eq_1 l o;refine eG 86 [.tmp 4,.cell 5 45] func36 rfl ntmps36 rfl fun _ _ _ _=>?_;refine cP en86 (Kp l o) ?_;by_cases hm:(gK l o).1≠0
 ·rw [ai hm] at hF;refine br ?_ ?_<;>intro h
  ·refine dS ?_;exact ⟨_,ax,od (os:=[]) (tk:=[]) hF hm⟩
  ·exfalso;simp at h;exact hm h
 rw [ah hm] at hF;refine br (fun h=>?_) (fun _=>?_)
 ·exfalso;simp at h;exact hm h
 have Lv:l ≠ []:=by
  rintro rfl;simp [gK] at hm
 have hl32:l.length<=32:=by
  rcases Nat.lt_or_ge 32 l.length with h | h
  ·simp [gK,Lv,h] at hm
  ·exact h
 have uR:=D7 l hs;unfold YL at uR;by_cases hE:(enumL l 0 l).1≠0
 ·rw [ah hE] at uR;rw [ai hE] at hF;refine cP XA uR ?_;refine br ?_ ?_<;>intro h
  ·refine dS ?_;exact ⟨_,ax,od (os:=[]) (tk:=[]) hF hE⟩
  ·exfalso;simp at h;exact hE h
 rw [ah hE] at hF;have hE:(enumL l 0 l).1=0:=sU hE;rw [ai hE] at uR;rw [xm hE] at uR;refine cP XA uR ?_;refine kD Uu rfl (wJ (aC l) (by omega)) ax (fun r hr=>?_);obtain ⟨aM,hT,jQ,rfl⟩:=hr;have s9:=zh (aC l) aM hT (by omega) o vT;unfold YM at s9;by_cases hN:(numF (aC l) o).1≠0
 ·rw [ah hN] at s9;rw [ai hN] at hF;refine cP XB s9 ?_;refine br ?_ ?_<;>intro h
  ·refine dS ?_;exact ⟨_,ax,od (os:=[]) (tk:=[]) hF hN⟩
  ·exfalso;simp at h;exact hN h
 rw [ah hN] at hF;have hN:(numF (aC l) o).1=0:=sU hN;rw [ai hN] at s9;rw [Ah hN] at s9;have hP:=oW hN;rw [fv] at hP;have hPl:(dQ (aC l) o).length=o.length:=by simp [dQ]
 generalize hPP:dQ (aC l) o=P at s9 hF hP hPl;refine cP XB s9 ?_;have hLn:(fl (aC l)).length=l.length:=by rw [ct,fv]
 have hPb:P.length<=1099511627776:=by omega
 have YX:=B1 (n:=l.length) (by omega) P hP;have eB:=kJ l.length P;have hr0:fO l.length P ≠ []:=fun h=>Lv (List.eq_nil_of_length_eq_zero (by rw [<- eB,h];rfl));refine cP en90 (Kg l.length (by omega) P hP hPb) ?_ (gU hLn);have hlo:=GV _ YX hr0;rw [eB,Qv (by omega) hP] at hlo
 cases hA:bN (ln l.length (fy l.length P)) l.length with
 | some a=>
  rw [hA] at hlo hF;simp only at hF;have pu:=(cJ hA).1;obtain ⟨w,hw⟩:∃ w,l[a]? = some w:=⟨_,gE pu⟩;rw [lp hw] at hF;refine cP XC hlo ?_;refine dS ?_;refine ⟨kH w,⟨by omega,aY hw⟩,?_⟩;exact ⟨_,ax,od (os:=[]) (tk:=[]) hF (by simp)⟩
 | none=>
 rw [hA] at hlo hF;simp only at hF;refine cP XC hlo ?_;have eS:=um _ YX hr0;rw [eB] at eS;have hcok:=lW YX l.length (by omega);have YY:=fQ (fO l.length P) l.length;rw [eB] at YY;refine cP XD eS ?_;have G2:(List.replicate 2048 (0:Int)).length=2048:=List.length_replicate
 have dr:CcL [] 0 0 0 (jC (aC l) (dz (aC l) aM) (closeR (fO l.length P) l.length) (List.replicate 2048 0)) (.sl 1 (fl (aC l)) none :: .pt (dz (aC l) aM) 0 :: nE (closeR (fO l.length P) l.length) :: vL (List.replicate 2048 (.int .i64 0))):=by
  refine ⟨_,_,rfl,Or.inr (Or.inl ⟨_,rfl⟩),_,_,rfl,Or.inl rfl,_,_,rfl,Or.inl rfl,?_⟩;rw [U3];exact s8 _ _ _ _ _
 have hbn:=Eb (aC l) (dz (aC l) aM) _ (List.replicate 2048 0) hcok (by omega) (by omega) G2;refine mJ en93 rfl rfl dr ax hbn (fun r os tk h=>?_) (fun r sc h=>?_)
 ·obtain ⟨UZ,rfl,_,rfl,_⟩:=h;refine ⟨rfl,fun sc h=>?_⟩;rw [List.mem_singleton.1 h];exact QE _ _ _ _ _ _
 obtain ⟨UZ,h1,hj2,hr,vt⟩:=h;simp only [List.cons.injEq,and_true] at h1;subst h1
 have hB:bN (oc (bd (closeR (fO l.length P) l.length)) (aC l).length) (aC l).length=bN (oc (fy l.length P) l.length) l.length:=by
  rw [fv];rfl
 rw [hB] at hr vt
 cases hb:bN (oc (fy l.length P) l.length) l.length with
 | some b=>
  rw [hb] at hr hF;subst hr;simp only at hF;have hbl:=(cJ hb).1;obtain ⟨w,hw⟩:∃ w,l[b]? = some w:=⟨_,gE hbl⟩;rw [lp hw] at hF;refine dS ?_;refine ⟨kH w,⟨by simp only [oz];omega,aY hw⟩,?_⟩;exact ⟨_,ax,od (os:=[]) (tk:=[]) hF (by simp)⟩
 | none=>
  rw [hb] at hr hF;subst hr;simp only at hF;refine ⟨.tup [.pt (jC (aC l) (dz (aC l) aM) (closeR (fO l.length P) l.length) UZ) 0,Ft.d (0,0)],(by repeat' (first | exact rfl | exact trivial | exact Or.inr (Or.inl ⟨_,rfl⟩) | exact Or.inr ⟨_,rfl⟩ | exact Or.inl ⟨rfl,rfl⟩ | exact Or.inl rfl | refine Or.inr ⟨_,_,rfl,Nat.zero_le _,rfl,?_⟩ | refine ⟨_,_,rfl,?_,?_⟩ | refine ⟨_,rfl,?_⟩ | exact s8 _ _ _ _ _ | refine Or.inr (Or.inr (Or.inr ⟨_,_,rfl,?_⟩)) | exact Or.inl rfl | refine Or.inr ?_)),QD (os:=[]) (tk:=[]) hF ⟨aM,UZ,hT,by omega,hj2,?_,by rw [hPP]⟩⟩;rw [hPP];rw [fv] at vt;exact vt hb
section
variable (af:List ByteArray) (tc:List DV) (rows:List Nat) (js:List Int)
theorem ta:aV prog 187 [.pt (jC af tc rows js) 0] (.v (.int .i64 af.length)):=by
 refine eG 10 [.tmp 2] func187 rfl ntmps187 rfl fun _ _ _ _=>?_;refine (congrArg (fun z=>DV.v (.int .i64 z)) ?_:_=_);rw [ct]
theorem Kt (i:Int):aV prog 203 [.pt (jC af tc rows js) 0,.v (.int .i64 i)] (.v (.bool (decide (0<=i) && decide (i < af.length)))):=by
 refine eG 13 [.tmp 4] func203 rfl ntmps203 rfl fun _ _ _ _=>?_;refine br ?_ ?_<;>intro g
 ·have g:decide (0<=i)=true:=sU g;refine cP Mu (ta af tc rows js) ?_;refine (congrArg (fun b=>DV.v (.bool b)) ?_:_=_);simp [g,pickB]
 ·have g:decide (0<=i)=false:=sU g;refine (congrArg (fun b=>DV.v (.bool b)) ?_:_=_);simp [g,pickB]
theorem ry {a:Nat} (h:a < af.length):aV prog 203 [.pt (jC af tc rows js) 0,.v (.int .i64 a)] (.v (.bool true)):=by
 have:=Kt af tc rows js a;have e:(decide (0<=(a:Int)) && decide ((a:Int) < af.length))=true:=by simp [h]
 rw [e] at this;exact this
end
theorem G3 (af:List ByteArray) (aM rows:List Nat) (js:List Int) (s:ByteArray) (hT:iT af aM) (hl:aM.length<=1099511627776) :
  aV prog 163 [.pt (jC af (dz af aM) rows js) 0,.v (.string s)] (M9 (du af s)):=by
 have h:=jv af aM s hT hl;refine eG 16 [.tmp 4,.tmp 5] func163 rfl ntmps163 rfl fun _ _ _ _=>?_
 cases hx:du af s with
 | none=>
  rw [hx] at h;refine cP wu h ?_;exact ⟨_,ax,rfl⟩
 | some k=>
  rw [hx] at h;refine cP wu h ?_;exact ⟨_,ax,rfl⟩
theorem Ee {l:List DV} {k b:Nat} {x:DV} (hb:b < 32) (h:l[k + b]? = some x):(((l.drop k).take 32).drop b).take 1=[x]:=by
 have h1:((l.drop k).take 32)[b]? = some x:=by
  rw [cf,ai hb,List.getElem?_drop];exact h
 rw [List.drop_eq_getElem_cons (gS h1).1];rw [gE (gS h1).1] at h1;simp only [oI] at h1;rw [h1];rfl
section
variable (af:List ByteArray) (tc:List DV) (rows:List Nat) (js:List Int)
theorem xq (a b:Nat) (z:Int) (ha:a < af.length) (hb:b < af.length) (hn:af.length<=32) (hz:js[a * 32 + b]? = some z) :
  aV prog 164 [.pt (jC af tc rows js) 0,.v (.int .i64 a),.v (.int .i64 b)] (.v (.int .i64 z)):=by
 refine eG 25 [.tmp 6] func164 rfl ntmps164 rfl fun _ _ _ _=>?_;refine cP ID (ry af tc rows js ha) ?_;refine cP ID (ry af tc rows js hb) ?_;refine ⟨_,⟨⟨by omega,by omega⟩,rfl⟩,?_⟩;refine ⟨_,⟨⟨by omega,by omega⟩,Ee (x:=.v (.int .i64 z)) (by omega) ?_⟩,?_⟩
 ·rw [show 0 + 3 + (a:Int).toNat * 32 + (0 + (b:Int).toNat * 1)=(a * 32 + b) + 3 by omega];simp only [GZ,List.getElem?_cons_succ,cZ,List.getElem?_map,hz,Option.map_some]
 exact (rfl:_=_)
theorem G4 (a b:Nat) (z:Int) (ha:a < af.length) (hb:b < af.length) (hn:af.length<=32) (hz:js[1024 + (a * 32 + b)]? = some z) :
  aV prog 188 [.pt (jC af tc rows js) 0,.v (.int .i64 a),.v (.int .i64 b)] (.v (.int .i64 z)):=by
 refine eG 25 [.tmp 6] func188 rfl ntmps188 rfl fun _ _ _ _=>?_;refine cP ID (ry af tc rows js ha) ?_;refine cP ID (ry af tc rows js hb) ?_;refine ⟨_,⟨⟨by omega,by omega⟩,rfl⟩,?_⟩;refine ⟨_,⟨⟨by omega,by omega⟩,Ee (x:=.v (.int .i64 z)) (by omega) ?_⟩,?_⟩
 ·rw [show 0 + 1027 + (a:Int).toNat * 32 + (0 + (b:Int).toNat * 1)=(1024 + (a * 32 + b)) + 3 by omega];simp only [GZ,List.getElem?_cons_succ,cZ,List.getElem?_map,hz,Option.map_some]
 exact (rfl:_=_)
end
theorem td {lK:Nat->Bool} {pb:Nat->Nat->Bool}:∀ {e k:Nat},bestA lK pb e=some k->lK k=true
 | 0,k,h=>by cases h
 | e + 1,k,h=>by
  rw [bestA] at h;split at h
  ·rename_i h1;simp only [oI] at h;subst h;simp only [aP] at h1;exact h1.1
  ·exact td h
theorem xr {lK:Nat->Bool} {pb:Nat->Nat->Bool} {n k:Nat} (h:oa lK pb n=some k):k < n/\lK k=true/\∀ c,c < n->lK c=true->pb k c=true:=by
 unfold oa at h;split at h
 ·cases h
 ·rename_i o ho;split at h
  ·cases h
  ·rename_i h1;simp only [oI] at h;subst h;refine ⟨ob ho,td ho,fun c hc hp=>?_⟩;simp only [List.any_eq_true,List.mem_range,aP,Bool.not_eq_true',not_exists,not_and] at h1;have:=h1 c hc hp;simpa using this
structure gm (f:Nat->Nat->Bool) (n:Nat):Prop where
 pos:0 < n
 rfl':∀ a,a < n->f a a=true
 tr:∀ a b c,a < n->b < n->c < n->f a b=true->f b c=true->f a c=true
 G5:∀ a b,a < n->b < n->f a b=true->f b a=true->a=b
 jn:∀ a b,a < n->b < n->∃ k,fC f n a b=some k
 mt:∀ a b,a < n->b < n->∃ k,jL f n a b=some k
theorem p8 {f:Nat->Nat->Bool} {n a b k:Nat} (h:fC f n a b=some k):k < n/\f a k=true/\f b k=true/\∀ c,c < n->f a c=true->f b c=true->f k c=true:=by
 obtain ⟨h1,h2,h3⟩:=xr h;simp only [aP] at h2;exact ⟨h1,h2.1,h2.2,fun c hc ha hb=>h3 c hc (by simp [ha,hb])⟩
theorem p9 {f:Nat->Nat->Bool} {n a b k:Nat} (h:jL f n a b=some k):k < n/\f k a=true/\f k b=true/\∀ c,c < n->f c a=true->f c b=true->f c k=true:=by
 obtain ⟨h1,h2,h3⟩:=xr h;simp only [aP] at h2;exact ⟨h1,h2.1,h2.2,fun c hc ha hb=>h3 c hc (by simp [ha,hb])⟩
def im (f:Nat->Nat->Bool) (l:List Nat) (c:Nat):Bool:=l.all fun i=>f i c
def te (f:Nat->Nat->Bool) (n:Nat) (l:List Nat) (c:Nat):Bool:=im f l c && (List.range n).all fun d=>!im f l d || f c d
def fj (f:Nat->Nat->Bool) (n:Nat) (l:List Nat):Option Nat:=bN (te f n l) n
theorem oe {f:Nat->Nat->Bool} {n:Nat} {l:List Nat} {c:Nat}:te f n l c=true↔im f l c=true/\∀ d,d < n->im f l d=true->f c d=true:=by
 unfold te;simp only [aP,List.all_eq_true,List.mem_range,Bool.or_eq_true,Bool.not_eq_true'];constructor
 ·rintro ⟨h1,h2⟩;refine ⟨h1,fun d hd ho=>?_⟩;rcases h2 d hd with h | h
  ·rw [ho] at h;cases h
  ·exact h
 ·rintro ⟨h1,h2⟩;refine ⟨h1,fun d hd=>?_⟩;cases ho:im f l d
  ·exact .inl rfl
  ·exact .inr (h2 d hd ho)
theorem Ai {f:Nat->Nat->Bool} {n:Nat} (hL:gm f n) {l:List Nat} {c:Nat} (hc:c < n) (h:te f n l c=true):fj f n l=some c:=by
 refine bB hc h fun a ha=>?_;cases h2:te f n l a
 ·rfl
 ·obtain ⟨h3,h4⟩:=oe.1 h;obtain ⟨h5,h6⟩:=oe.1 h2;have:=hL.G5 a c (by omega) hc (h6 c hc h3) (h4 a (by omega) h5);omega
theorem qa {f:Nat->Nat->Bool} {n c:Nat} (hL:gm f n) (hc:c < n) (h:∀ d,d < n->f c d=true):fj f n []=some c:=
 Ai hL hc (oe.2 ⟨rfl,fun d hd _=>h d hd⟩)
theorem ur {f:Nat->Nat->Bool} {n c k i:Nat} {l:List Nat} (hL:gm f n) (hl:∀ x∈l,x < n) (hi:i < n) (h:fj f n l=some c) (hk:fC f n c i=some k):fj f n (l ++ [i])=some k:=by
 obtain ⟨h1,h2,_⟩:=cJ h;obtain ⟨h3,h4⟩:=oe.1 h2;obtain ⟨g1,g2,g3,g4⟩:=p8 hk;simp only [im,List.all_eq_true] at h3;refine Ai hL g1 (oe.2 ⟨?_,fun d hd ho=>?_⟩)
 ·simp only [im,List.all_eq_true,List.mem_append,List.mem_singleton];rintro x (hx | rfl)
  ·exact hL.tr x c k (hl x hx) h1 g1 (h3 x hx) g2
  ·exact g3
 ·simp only [im,List.all_eq_true,List.mem_append,List.mem_singleton] at ho;refine g4 d hd (h4 d hd ?_) (ho i (.inr rfl));simp only [im,List.all_eq_true];exact fun x hx=>ho x (.inl hx)
theorem oX {f:Nat->Nat->Bool} {n c:Nat} {l:List Nat} (h:fj f n l=some c):c < n:=(cJ h).1
abbrev SU (L:List DV) (n b e:Nat):St:=
 ⟨[(0,⟨[],.pt L 0⟩),(3,⟨[],.v (.int .i64 b)⟩),(9,⟨[],.v (.int .i64 n)⟩),(10,⟨[],.v (.int .i64 e)⟩)],[],[]⟩
theorem rz (af:List ByteArray) (tc:List DV) (rows:List Nat) (js:List Int) {f:Nat->Nat->Bool} (hL:gm f af.length) (hn:af.length<=32) (hj:∀ x y,x < af.length->y < af.length->JM f af.length js x y) :
  aV prog 140 [.pt (jC af tc rows js) 0] (.v (.int .i64 (oz (fj f af.length [])))):=by
 have hlen:=ta af tc rows js;have jT:=hL.pos;refine eG 19 [.tmp 2] func140 rfl ntmps140 rfl fun _ _ _ _=>?_;refine cP Mu hlen ?_;refine br ?_ ?_<;>intro g
 ·exfalso;simp at g;simp [g] at jT
 refine cP Mu hlen ?_;refine lI (fun j st=>∃ e b:Nat,st=SU (jC af tc rows js) af.length b e/\e<=af.length/\b < af.length/\(∀ x,x < e->f b x=true)/\j=af.length - e) ⟨0,0,rfl,by omega,by omega,fun _ h=>by omega,rfl⟩ (aj ⟨_,rfl⟩ wA rfl rfl rfl wB) ?_;rintro j st ⟨e,b,rfl,he,hb,dG,rfl⟩;refine br ?_ ?_<;>intro hL'
 ·have ap:e < af.length:=by have:=hL';simp at this;exact this
  obtain ⟨k,hk⟩:=hL.mt b e hb ap;obtain ⟨g1,g2,g3,g4⟩:=p9 hk;have hz:=(hj b e hb ap).2;rw [hk] at hz;refine cP X9 (G4 af tc rows js b e k hb ap hn hz) ?_;refine ⟨SU (jC af tc rows js) af.length k (e + 1),(aj ⟨_,rfl⟩ wA rfl rfl rfl (dt (aJ ap (by omega)))),af.length - (e + 1),by omega,e + 1,k,rfl,by omega,g1,fun x hx=>?_,rfl⟩;rcases eP hx with hx | rfl
  ·exact hL.tr k b x g1 hb (by omega) g2 (dG x hx)
  ·exact g3
 ·have aQ:e=af.length:=by have:=hL';simp at this;omega
  subst aQ;rw [qa hL hb dG];exact (rfl:_=_)
def labW (L:List ByteArray):List Wd->Ft
 | []=>(0,0)
 | w :: r=>if du L w.s=none then (17,w.a) else labW L r
def mU (L:List ByteArray) (l:List Wd):List Nat:=l.map fun w=>(du L w.s).getD 0
def B9 (f:Nat->Nat->Bool) (L:List ByteArray) (l:List Wd):Int:=if (labW L l).1=0 then oz (fj f L.length (mU L l)) else 0
def Ku (f:Nat->Nat->Bool) (L:List ByteArray) (l:List Wd):DV:=.tup [.v (.int .i64 (B9 f L l)),(labW L l).d]
theorem tf {L:List ByteArray} {l:List Wd} {e:Nat} {w:Wd} (h:l[e]? = some w):labW L (l.drop e)=if du L w.s=none then (17,w.a) else labW L (l.drop (e + 1)):=by
 rw [drop_cons h,labW]
theorem tg {L:List ByteArray} {l:List Wd} {e i:Nat} {w:Wd} (h:l[e]? = some w) (hi:du L w.s=some i):mU L (l.take (e + 1))=mU L (l.take e) ++ [i]:=by
 rw [List.take_add_one,h];simp [mU,hi]
abbrev SV (L:List DV) (l:List Wd) (b e:Nat):St:=
 ⟨[(0,⟨[],.pt L 0⟩),(5,⟨[],.loc 0 0⟩),(6,⟨[],.v (.int .i64 b)⟩),(16,⟨[],.sl 2 (bO l) none⟩),(17,⟨[],.v (.int .i64 (bO l).length)⟩),(18,⟨[],.v (.int .i64 e)⟩)],[[.v (.int .i64 0),.v (.int .i64 0)]],[]⟩
theorem Nt (af:List ByteArray) (aM rows:List Nat) (js:List Int) (hT:iT af aM) (jQ:aM.length<=1099511627776) {f:Nat->Nat->Bool} (hL:gm f af.length) (hn:af.length<=32) (hj:∀ x y,x < af.length->y < af.length->JM f af.length js x y)
  (l:List Wd) (hs:wdsWt l<=1099511627776) :
  aV prog 99 [.pt (jC af (dz af aM) rows js) 0,.sl 2 (bO l) none] (Ku f af l):=by
 have nK:=bL l;have Nu:=rz af (dz af aM) rows js hL hn hj
 have uN:∃ b,fj f af.length []=some b:=by
  have:∀ e,e<=af.length->∃ b,b < af.length/\∀ x,x < e->f b x=true:=by
   intro e
   induction e with
   | zero=>intro _;exact ⟨0,hL.pos,fun _ h=>by omega⟩
   | succ e ih=>
    intro he;obtain ⟨b,hb,dG⟩:=ih (by omega);obtain ⟨k,hk⟩:=hL.mt b e hb (by omega);obtain ⟨g1,g2,g3,_⟩:=p9 hk;refine ⟨k,g1,fun x hx=>?_⟩;rcases eP hx with hx | rfl
    ·exact hL.tr k b x g1 hb (by omega) g2 (dG x hx)
    ·exact g3
  obtain ⟨b,hb,dG⟩:=this af.length (aR _);exact ⟨b,qa hL hb dG⟩
 obtain ⟨b0,iB⟩:=uN;rw [iB] at Nu;refine eG 41 [.tmp 4,.cell 5 45] func99 rfl ntmps99 rfl fun _ _ _ _=>?_;refine cP Sg Nu ?_;refine lI (fun j st=>∃ e b:Nat,st=SV (jC af (dz af aM) rows js) l b e/\e<=l.length/\labW af l=labW af (l.drop e)/\fj f af.length (mU af (l.take e))=some b/\(∀ x∈mU af (l.take e),x < af.length)/\j=l.length - e) ⟨0,b0,rfl,by omega,rfl,iB,by simp [mU],rfl⟩ (aj ⟨_,rfl⟩ wA rfl rfl rfl wB) ?_;rintro j st ⟨e,b,rfl,he,aN,Qm,zM,rfl⟩;have hb:=oX Qm;refine br ?_ ?_<;>intro hLt
 ·have ap:e < l.length:=by simpa [aA] using hLt
  obtain ⟨w,hw⟩:=gX ap;have aW:=tf (L:=af) hw;have B8:=G3 af aM rows js w.s hT jQ;refine ⟨kH w,⟨by omega,aY hw⟩,?_⟩
  cases hx:du af w.s with
  | none=>
   rw [hx] at B8;refine cP Sp B8 ?_;rw [ai hx] at aW;have h1:labW af l=(17,w.a):=aN.trans aW;refine dS ?_;refine ⟨_,?_,rfl⟩;rw [Ku,B9,h1,ah (by simp)];exact ax
  | some i=>
   rw [hx] at B8;refine cP Sp B8 ?_;rw [ah (by rw [hx];simp)] at aW;have hi:=(dD hx).1;obtain ⟨k,hk⟩:=hL.jn b i hb hi;have hz:=(hj b i hb hi).1;rw [hk] at hz;refine cP Sq (xq af (dz af aM) rows js b i k hb hi hn hz) ?_;refine ⟨SV (jC af (dz af aM) rows js) l k (e + 1),(aj ⟨_,rfl⟩ wA rfl rfl rfl (dt (aJ ap (by omega)))),l.length - (e + 1),by omega,e + 1,k,rfl,by omega,aN.trans aW,?_,?_,rfl⟩
   ·rw [tg hw hx];exact ur hL zM hi Qm hk
   ·rw [tg hw hx];intro x hm;rcases List.mem_append.1 hm with hm | hm
    ·exact zM x hm
    ·rw [List.mem_singleton.1 hm];exact hi
 ·have aQ:e=l.length:=by
   have:=hLt;simp [aA] at this;omega
  subst aQ;rw [List.drop_length] at aN;rw [List.take_length] at Qm;have h1:labW af l=(0,0):=aN;refine ⟨_,?_,rfl⟩;rw [Ku,B9,h1,ai rfl,Qm];exact ax
def G6 (x:Ft × Int) (r:DV) (os:List (List DV)) (_:List TkE):Prop:=
 r=x.1.d/\∃ z:Int,os=[[.v (.int .i64 z)]]/\(x.1.1=0->z=x.2)
theorem mV {x:Ft × Int}:∀ r os tk,G6 x r os tk->clB 0 0 r=true/\∀ sc∈os,clB.clL 0 0 sc=true:=by
 rintro r os tk ⟨rfl,z,rfl,_⟩;refine ⟨rfl,fun sc h=>?_⟩;simp only [List.mem_singleton] at h;subst h;rfl
def Nv (k:Nat):Prop:=∀ (t:Ty) (depth m:Int),t.wt<=k->t.wt<=1099511627776->0<=depth->depth<=25->0<=m->m<=512 ->
 Ev prog 160 [.loc 0 0,.agg (eE t),.v (.int .i64 depth)] [[.v (.int .i64 m)]] [] (G6 (wrong t depth m))
def l4 (p:Ph) (t:Ty) (un:Bool) (depth m:Int):Ft × Int:=
 if p.bare=true then (if un=false∨dC p t (n9 p) cx=false then ((19,p.name.a),m) else ((0,0),m))
 else if (dY p).1≠0 then (dY p,m)
 else wrong t (depth + 1) m
theorem bK {x:Ft × Int} {f:Ft} {m z:Int} (h:x=(f,m)) (hz:f.1=0->z=m) {tk:List TkE}:G6 x f.d [[.v (.int .i64 z)]] tk:=by
 subst h;exact ⟨rfl,z,rfl,hz⟩
theorem G7 (k:Nat) (ih:Nv k) (p:Ph) (t:Ty) (un:Bool) (depth m:Int) (hk:t.wt<=k) (hp:p.wt<=1099511627776) (cL:t.wt<=1099511627776) (vg:0<=depth) (zf:depth<=24) (pk:0<=m) (kj:m<=512) :
  Ev prog 233 [.loc 0 0,.agg (Gx p (eE t)),.v (.bool un),.v (.int .i64 depth)] [[.v (.int .i64 m)]] [] (G6 (l4 p t un depth m)):=by
 have qX:=hp;simp only [Ph.wt] at qX;have tW:=n5 p (n9 p) t cx hp (by simp only [Ph.wt,n9,wdsWt];omega) (wP t cx cL (by decide));have qW:=ih t (depth + 1) m hk cL (by omega) (by omega) pk kj;obtain ⟨u,us⟩:=t;have hcoa:=BV p (eE (.mk u us)) (.mk u us) rfl hp;have hS:=l4.eq_def p (.mk u us) un depth m;generalize l4 p (.mk u us) un depth m=F at hS ⊢;obtain ⟨nm,bare,lab,wide,ck,cn,ca,cl⟩:=p;simp only at hS qX tW
 cases bare with
 | true=>
  rw [ai rfl] at hS
  cases un with
  | true=>
   refine eG 68 [.cell 8 45] func233 rfl ntmps233 rfl fun _ _ _ _=>?_;refine cP Mw tW ?_;refine br ?_ ?_<;>intro q
   ·have q:dC ⟨nm,true,lab,wide,ck,cn,ca,cl⟩ (.mk u us) (n9 ⟨nm,true,lab,wide,ck,cn,ca,cl⟩) cx=false:=by simpa [show (lastG (21,false) [(18,true)]).snd=true from rfl,pickB] using q
    rw [ai (.inr q)] at hS;refine cP eI (bM 19 nm.a) ?_;exact ⟨_,_,ax,ax,bK (tk:=[]) (f:=(19,nm.a)) hS (fun _=>rfl)⟩
   ·have q:dC ⟨nm,true,lab,wide,ck,cn,ca,cl⟩ (.mk u us) (n9 ⟨nm,true,lab,wide,ck,cn,ca,cl⟩) cx=true:=by simpa [show (lastG (21,false) [(18,true)]).snd=true from rfl,pickB] using q
    rw [ah (by simp [q])] at hS;exact ⟨_,_,ax,ax,bK (tk:=[]) (f:=(0,0)) hS (fun _=>rfl)⟩
  | false=>
   refine eG 68 [.cell 8 45] func233 rfl ntmps233 rfl fun _ _ _ _=>?_;rw [ai (.inl rfl)] at hS;refine cP eI (bM 19 nm.a) ?_;exact ⟨_,_,ax,ax,bK (tk:=[]) (f:=(19,nm.a)) hS (fun _=>rfl)⟩
 | false=>
  rw [ah (by simp)] at hS;refine eG 68 [.cell 8 45] func233 rfl ntmps233 rfl fun _ _ _ _=>?_;refine br ?_ ?_<;>intro hw
  ·have hw:wide < 0∨64 < wide:=by simpa [aw] using hw
   have hP:dY ⟨nm,false,lab,wide,ck,cn,ca,cl⟩=(20,nm.a):=by simp only [dY,ai hw]
   rw [hP,ai (by simp)] at hS;refine cP eI (bM 20 nm.a) ?_;exact ⟨_,_,ax,ax,bK (tk:=[]) (f:=(20,nm.a)) hS (fun _=>rfl)⟩
  have hw:¬ (wide < 0∨64 < wide):=by simp [aw] at hw;omega
  refine cP DJ (jH lab (by omega)) ?_;refine br ?_ ?_<;>intro hb
  ·have hb:(cd lab).1≠0:=sU hb;have hP:dY ⟨nm,false,lab,wide,ck,cn,ca,cl⟩=cd lab:=by simp only [dY,ah hw,ai hb]
   rw [hP,ai hb] at hS;exact ⟨_,_,ax,ax,bK (tk:=[]) (f:=cd lab) hS (fun _=>rfl)⟩
  have hb:(cd lab).1=0:=sU hb;have hP:dY ⟨nm,false,lab,wide,ck,cn,ca,cl⟩=bo ⟨nm,false,lab,wide,ck,cn,ca,cl⟩:=by simp only [dY,ah hw];rw [ah (by simp [hb])]
  rw [hP] at hS;refine cP Yo hcoa ?_;refine br ?_ ?_<;>intro hc
  ·have hc:(bo ⟨nm,false,lab,wide,ck,cn,ca,cl⟩).1≠0:=sU hc;rw [ai hc] at hS;exact ⟨_,_,ax,ax,bK (tk:=[]) (f:=bo ⟨nm,false,lab,wide,ck,cn,ca,cl⟩) hS (fun _=>rfl)⟩
  have hc:(bo ⟨nm,false,lab,wide,ck,cn,ca,cl⟩).1=0:=sU hc;rw [ah (by simp [hc])] at hS;refine mJ Mr rfl rfl ax (by repeat' (first | exact rfl | exact trivial | exact Or.inr (Or.inl ⟨_,rfl⟩) | exact Or.inr ⟨_,rfl⟩ | exact Or.inl ⟨rfl,rfl⟩ | exact Or.inl rfl | refine Or.inr ⟨_,_,rfl,Nat.zero_le _,rfl,?_⟩ | refine ⟨_,_,rfl,?_,?_⟩ | refine ⟨_,rfl,?_⟩ | exact congrArg (fun z=>DV.v (.int .i64 z)) (wrap64 (by omega) (by omega)) | refine Or.inr (Or.inr (Or.inr ⟨_,_,rfl,?_⟩)) | exact Or.inl rfl | refine Or.inr ?_)) qW mV (fun r sc hr=>?_);obtain ⟨rfl,z,hz,sa⟩:=hr;simp only [List.cons.injEq,and_true] at hz;subst hz;exact ⟨_,_,ax,ax,bK (tk:=[]) (f:=(wrong (.mk u us) (depth + 1) m).1) hS sa⟩
theorem zj {ag:Int} {all:List Wd} {i:Nat} {p:Ph} {t:Ty} {r:Pts} {depth m:Int} (hk:ag=7∨ag=8) (hl:aK all i p.name=0) :
  wrongPts ag all i (.cons p t r) depth m=if (l4 p t (decide (ag=8)) depth m).1.1≠0 then l4 p t (decide (ag=8)) depth m else wrongPts ag all (i + 1) r depth (l4 p t (decide (ag=8)) depth m).2:=by
 simp only [wrongPts];rw [ah (by simp [hl])];unfold l4;by_cases hb:p.bare=true
 ·rw [ai hb,ai hb,Qx];by_cases h7:ag=7
  ·subst h7;rw [ai (.inl rfl),ai (c:=decide ((7:Int)=8)=false∨_) (.inl (by simp)),ai (by simp)]
  ·have h8:ag=8:=by omega
   subst h8;by_cases h:sameTy t cx=false∨b9 p fM=false
   ·have h':decide ((8:Int)=8)=false∨(b9 p fM && sameTy t cx)=false:=.inr (by rcases h with h | h<;>simp [h]);rw [ai (.inr h),ai h',ai (by simp)]
   ·have h1:sameTy t cx=true:=by
     cases hc:sameTy t cx
     ·exact absurd (.inl hc) h
     ·rfl
    have h2:b9 p fM=true:=by
     cases hc:b9 p fM
     ·exact absurd (.inr hc) h
     ·rfl
    have h':¬ (decide ((8:Int)=8)=false∨(b9 p fM && sameTy t cx)=false):=by simp [h1,h2]
    rw [ah (by simp [h1,h2]),ah h',ah (by simp)]
 ·rw [ah hb,ah hb];by_cases hP:(dY p).1≠0
  ·rw [ai hP,ai hP,ai hP]
  ·rw [ah hP,ah hP]
theorem Nx {p:Ph} {t:Ty} {un:Bool} {depth m:Int} (pk:0<=m) (kj:m<=512) (h:(l4 p t un depth m).1.1=0):(l4 p t un depth m).1=(0,0)/\0<=(l4 p t un depth m).2/\(l4 p t un depth m).2<=512:=by
 have hw:=rc t (depth + 1) m pk;unfold l4 at h ⊢;by_cases hb:p.bare=true
 ·rw [ai hb] at h ⊢;split at h
  ·simp at h
  ·rename_i hc;rw [ah hc];exact ⟨rfl,pk,kj⟩
 ·rw [ah hb] at h ⊢;by_cases hP:(dY p).1≠0
  ·rw [ai hP] at h;exact absurd h hP
  ·rw [ah hP] at h ⊢;exact hw h
abbrev Ef (h:Hd) (ps:Pts) (n e:Nat) (depth m:Int):St:=
 ⟨[(0,⟨[],.loc 0 0⟩),(2,⟨[],.v (.int .i64 depth)⟩),(4,⟨[],.loc 1 0⟩),(6,⟨[],.loc 2 0⟩),(38,⟨[],.sl 18 (gA ps) none⟩),(39,⟨[],.v (.int .i64 (gA ps).length)⟩),(40,⟨[],.v (.int .i64 e)⟩),(7,⟨[],.sl 1 (fl (aC ((pNames ps).take e))) (some 0)⟩)],
  [[.v (.int .i64 m)],eE (.mk h ps),[.v (.int .i64 0),.v (.int .i64 0)]],[⟨n,9,1,none⟩]⟩
theorem uu (k:Nat) (ih:Nv k) (h:Hd) (ps:Pts) (depth m:Int) (Eg:h.ag=7∨h.ag=8) (hk:ps.wt<=k) (cL:(Ty.mk h ps).wt<=1099511627776) (vg:0<=depth) (zf:depth<=24) (pk:0<=m) (kj:m<=512) :
  Ev prog 202 [.loc 0 0,.agg (eE (.mk h ps)),.v (.int .i64 depth)] [[.v (.int .i64 m)]] [] (G6 (fx h ps depth m)):=by
 simp only [Ty.wt,Hd.wt] at cL;have nv:=ps.gz;have fv:=gW ps;have UD:=sP ps;have hS:=fx.eq_def h ps depth m;generalize fx h ps depth m=F at hS ⊢;refine eG 72 [.cell 6 45] func202 rfl ntmps202 rfl fun _ _ _ _=>?_;refine br ?_ ?_<;>intro c1
 ·have c1:h.ag=8/\ps.len=0:=by
   simp [av,aO] at c1;exact ⟨c1.1,by omega⟩
  rw [ai c1] at hS;refine cP eI (bM 15 h.aX) ?_;exact ⟨_,_,ax,ax,bK (tk:=[]) (f:=(15,h.aX)) hS (fun _=>rfl)⟩
 have c1:¬ (h.ag=8/\ps.len=0):=by
  simp [av,aO] at c1;omega
 rw [ah c1] at hS;refine br ?_ ?_<;>intro c2
 ·have ap:64 < ps.len:=by simp [aO] at c2;omega
  obtain ⟨p,t,hx⟩:=Pts.fc ap;refine iX (cp hx) ?_;refine cP eI (bM 8 p.name.a) ?_;rw [ai ap,gY hx] at hS;exact ⟨_,_,ax,ax,bK (tk:=[]) (f:=(8,p.name.a)) hS (fun _=>rfl)⟩
 have c2:¬ 64 < ps.len:=by simp [aO] at c2;omega
 rw [ah c2] at hS
 refine bz (fun j st=>∃ (e:Nat) (m':Int),st=Ef h ps e e depth m' /\ e<=ps.len/\0<=m' /\ m' <= 512/\(aC ((pNames ps).take e)).Nodup /\
   F=wrongPts h.ag (pNames ps) e (ps.drop e) depth m' /\ j=ps.len - e) ps.len (Ef h ps 0 0 depth m) (fJ ⟨0,9,1,none⟩ rfl ⟨_,rfl⟩ rfl wA rfl rfl mi) ⟨0,m,rfl,by omega,pk,kj,by simp [aC],hS,by omega⟩ ?_
 rintro j st ⟨e,m',rfl,he,BU,DU,hnd,aN,rfl⟩;refine br ?_ ?_<;>intro hL
 ·have ap:e < ps.len:=by simpa [aO] using hL
  obtain ⟨p,t,hx⟩:=Pts.fc ap;have yO:=Pts.gV (mG hx);have eT:=gY hx;have hpw:p.name.s.size + 64<=p.wt:=by simp only [Ph.wt,Wd.wt];omega
  rw [Pts.drop_cons hx] at aN
  have MN:(aC ((pNames ps).take (e + 1)))[(aC ((pNames ps).take (e + 1))).length - 1]? = some p.name.s:=by
   have y7:(aC ((pNames ps).take (e + 1))).length=e + 1:=by simp [aC];omega
   rw [y7];simp [aC,eT]
  have TS:=ui (aC ((pNames ps).take (e + 1))) p.name.s p.name.a MN (by simp [aC];omega) (by omega);have dK:=kk eT;rw [Ad p.name.a eT hnd,<- dK] at TS;have Eh:=G7 k ih p t (decide (h.ag=8)) depth m' (by omega) (by omega) (by omega) vg zf BU DU;obtain ⟨u,us⟩:=t;refine iX (cp hx) ?_;refine ⟨by simp [ct,aC];omega,⟨by simp [ct,aC,maxLen];omega,by simp [ct,aC];omega⟩,?_⟩;refine cP SA TS ?_;by_cases hl:aK (pNames ps) e p.name≠0
  ·rw [ai hl];refine br ?_ ?_<;>intro hf
   ·simp only [wrongPts] at aN;rw [ai hl] at aN;exact ⟨_,_,ax,ax,bK (tk:=[]) (f:=(aK (pNames ps) e p.name,p.name.a)) aN (fun _=>rfl)⟩
   ·exact absurd (sU hf) hl
  have hl:aK (pNames ps) e p.name=0:=sU hl;have hndn:=mT eT hnd hl;rw [ah (by simp [hl])];rw [zj Eg hl] at aN;have bw:=Nx (p:=p) (t:=.mk u us) (un:=decide (h.ag=8)) (depth:=depth) BU DU;generalize l4 p (.mk u us) (decide (h.ag=8)) depth m'=r at Eh aN bw;obtain ⟨⟨fe,fa⟩,many⟩:=r;simp only at aN bw;refine mJ Ym rfl rfl ax ax Eh mV (fun r sc hr=>?_);obtain ⟨rfl,z,hz,sa⟩:=hr;simp only [List.cons.injEq,and_true] at hz;subst hz;refine br ?_ ?_<;>intro hd
  ·have hd:fe≠0:=sU hd;rw [ai hd] at aN;exact ⟨_,_,ax,ax,bK (tk:=[]) (f:=(fe,fa)) aN (fun h0=>absurd h0 hd)⟩
  ·have hd:fe=0:=sU hd;subst hd;obtain ⟨_,h2,h3⟩:=bw rfl;rw [ah (by simp)] at aN;have G8:z=many:=sa rfl;subst G8;exact rE ⟨_,by omega,e + 1,z,rfl,by omega,h2,h3,hndn,aN,rfl⟩ (aj ⟨_,rfl⟩ wA rfl rfl rfl (wB2 (aJ ap (by omega)) dK))
 ·have aQ:e=ps.len:=by simp [aO] at hL;omega
  rw [aQ,Pts.dH] at aN;simp only [wrongPts] at aN;exact ⟨_,_,ax,ax,bK (tk:=[]) (f:=(0,0)) aN (fun _=>rfl)⟩
theorem Aj (k:Nat) (ih:Nv k) (h:Hd) (ps:Pts) (depth m:Int) (hk:ps.wt<=k) (cL:(Ty.mk h ps).wt<=1099511627776) (vg:0<=depth) (zf:depth<=24) (pk:0<=m) (kj:m<=512) :
  Ev prog 201 [.loc 0 0,.agg (eE (.mk h ps)),.v (.int .i64 depth)] [[.v (.int .i64 m)]] [] (G6 (wrongOne h ps depth m)):=by
 simp only [Ty.wt,Hd.wt] at cL
 cases ps with
 | nil=>
  have hS:wrongOne h .nil depth m=((19,h.aX),m):=by simp only [wrongOne]
  generalize wrongOne h .nil depth m=F at hS ⊢;refine eG 44 [.cell 6 45] func201 rfl ntmps201 rfl fun _ _ _ _=>?_;refine cP eI (bM 19 h.aX) ?_;exact ⟨_,_,ax,ax,bK (tk:=[]) (f:=(19,h.aX)) hS (fun _=>rfl)⟩
 | cons p t r=>
  cases r with
  | cons p2 t2 r2=>
   have hS:wrongOne h (.cons p t (.cons p2 t2 r2)) depth m=((19,h.aX),m):=by simp only [wrongOne]
   generalize wrongOne h (.cons p t (.cons p2 t2 r2)) depth m=F at hS ⊢;refine eG 44 [.cell 6 45] func201 rfl ntmps201 rfl fun _ _ _ _=>?_;refine cP eI (bM 19 h.aX) ?_;exact ⟨_,_,ax,ax,bK (tk:=[]) (f:=(19,h.aX)) hS (fun _=>rfl)⟩
  | nil=>
   simp only [Pts.wt] at cL hk;have hS:wrongOne h (.cons p t .nil) depth m=if p.name.s≠ay∨b9 p fw=false then ((19,h.aX),m) else if h.most < 0∨1024 < h.most then ((20,h.aX),m) else wrong t (depth + 1) m:=by simp only [wrongOne]
   generalize wrongOne h (.cons p t .nil) depth m=F at hS ⊢;have Ui:=DY p t (by omega);rw [empty_eq] at Ui;have qW:=ih t (depth + 1) m (by omega) (by omega) (by omega) (by omega) pk kj;obtain ⟨u,us⟩:=t;refine eG 44 [.cell 6 45] func201 rfl ntmps201 rfl fun _ _ _ _=>?_;refine ⟨_,⟨by omega,rfl⟩,?_⟩;refine cP Yj Ui ?_;refine br ?_ ?_<;>intro q
   ·have q:p.name.s≠ay∨b9 p fw=false:=by
     have:=q;simp [pickB] at this;exact this
    rw [ai q] at hS;refine cP eI (bM 19 h.aX) ?_;exact ⟨_,_,ax,ax,bK (tk:=[]) (f:=(19,h.aX)) hS (fun _=>rfl)⟩
   have q:¬ (p.name.s≠ay∨b9 p fw=false):=by
    have:=q;simp [pickB] at this;simp [this.1,this.2]
   rw [ah q] at hS;refine br ?_ ?_<;>intro x
   ·have x:h.most < 0∨1024 < h.most:=by simpa [aw] using x
    rw [ai x] at hS;refine cP eI (bM 20 h.aX) ?_;exact ⟨_,_,ax,ax,bK (tk:=[]) (f:=(20,h.aX)) hS (fun _=>rfl)⟩
   have x:¬ (h.most < 0∨1024 < h.most):=by simp [aw] at x;omega
   rw [ah x] at hS;refine ⟨_,⟨by omega,rfl⟩,?_⟩;refine mJ Mr rfl rfl ax (by repeat' (first | exact rfl | exact trivial | exact Or.inr (Or.inl ⟨_,rfl⟩) | exact Or.inr ⟨_,rfl⟩ | exact Or.inl ⟨rfl,rfl⟩ | exact Or.inl rfl | refine Or.inr ⟨_,_,rfl,Nat.zero_le _,rfl,?_⟩ | refine ⟨_,_,rfl,?_,?_⟩ | refine ⟨_,rfl,?_⟩ | exact congrArg (fun z=>DV.v (.int .i64 z)) (wrap64 (by omega) (by omega)) | refine Or.inr (Or.inr (Or.inr ⟨_,_,rfl,?_⟩)) | exact Or.inl rfl | refine Or.inr ?_)) qW mV (fun r sc hr=>?_);obtain ⟨rfl,z,hz,sa⟩:=hr;simp only [List.cons.injEq,and_true] at hz;subst hz;exact ⟨_,_,ax,ax,bK (tk:=[]) (f:=(wrong (.mk u us) (depth + 1) m).1) hS sa⟩
theorem Ei (k:Nat) (ih:Nv k) (h:Hd) (ps:Pts) (depth m:Int) (hk:ps.wt<=k) (cL:(Ty.mk h ps).wt<=1099511627776) (vg:0<=depth) (zf:depth<=25) (pk:0<=m) (kj:m<=512) :
  Ev prog 160 [.loc 0 0,.agg (eE (.mk h ps)),.v (.int .i64 depth)] [[.v (.int .i64 m)]] [] (G6 (wrong (.mk h ps) depth m)):=by
 have Ak:=cL;simp only [Ty.wt,Hd.wt] at Ak;have se:IntKind.i64.wrap (m + 1)=m + 1:=wrap64 (by omega) (by omega);have hS:=wrong.eq_def (.mk h ps) depth m;simp only at hS;generalize wrong (.mk h ps) depth m=F at hS ⊢;have gh:=Kb h ps;rw [IJ] at gh;refine eG 103 [.cell 6 45] func160 rfl ntmps160 rfl fun _ _ _ _=>?_;refine br ?_ ?_<;>intro c
 ·have c:24 < depth:=of_decide_eq_true c;rw [ai c] at hS;refine cP eI (bM 6 h.aX) ?_;exact ⟨_,[[.v (.int .i64 (m + 1))]],ax,(gU se),bK (tk:=[]) (f:=(6,h.aX)) hS (fun _=>rfl)⟩
 have c:¬ 24 < depth:=of_decide_eq_false c;rw [ah c] at hS;refine br ?_ ?_<;>intro c
 ·have c:512 < IntKind.i64.wrap (m + 1):=of_decide_eq_true c;rw [se] at c;rw [ai c] at hS;refine cP eI (bM 8 h.aX) ?_;exact ⟨_,[[.v (.int .i64 (m + 1))]],ax,(gU se),bK (tk:=[]) (f:=(8,h.aX)) hS (fun _=>rfl)⟩
 have c:¬ 512 < IntKind.i64.wrap (m + 1):=of_decide_eq_false c;rw [se] at c;rw [ah c] at hS;refine br ?_ ?_<;>intro c
 ·have c:h.ag < 1∨9 < h.ag:=by simpa [aw] using c
  rw [ai c] at hS;refine cP eI (bM 14 h.aX) ?_;exact ⟨_,[[.v (.int .i64 (m + 1))]],ax,(gU se),bK (tk:=[]) (f:=(14,h.aX)) hS (fun _=>rfl)⟩
 have ck:¬ (h.ag < 1∨9 < h.ag):=by simp [aw] at c;omega
 rw [ah ck] at hS;refine cP Yc gh ?_;refine br ?_ ?_<;>intro c
 ·have c:uU (.mk h ps)=false:=by simpa [uU] using c
  rw [ai c] at hS;refine cP eI (bM 19 h.aX) ?_;exact ⟨_,[[.v (.int .i64 (m + 1))]],ax,(gU se),bK (tk:=[]) (f:=(19,h.aX)) hS (fun _=>rfl)⟩
 have c:¬ uU (.mk h ps)=false:=by simpa [uU] using c
 rw [ah c] at hS;refine br ?_ ?_<;>intro k2
 ·have k2:h.ag=2:=of_decide_eq_true k2;refine br ?_ ?_<;>intro x
  ·have x:h.hi < h.lo:=of_decide_eq_true x;rw [ai (.inl ⟨k2,x⟩)] at hS;refine cP eI (bM 20 h.aX) ?_;exact ⟨_,[[.v (.int .i64 (m + 1))]],ax,(gU se),bK (tk:=[]) (f:=(20,h.aX)) hS (fun _=>rfl)⟩
  have x:¬ h.hi < h.lo:=of_decide_eq_false x;rw [ah (by omega),ah (by omega),ah (by omega),ah (by omega),ah (by omega)] at hS;exact ⟨_,[[.v (.int .i64 (m + 1))]],ax,(gU se),bK (tk:=[]) (f:=(0,0)) hS (fun _=>rfl)⟩
 have k2:¬ h.ag=2:=of_decide_eq_false k2;refine br ?_ ?_<;>intro k3
 ·have k3:h.ag=3:=of_decide_eq_true k3;refine br ?_ ?_<;>intro x
  ·have x:h.most < 0∨4096 < h.most:=by simpa [aw] using x
   rw [ai (.inr ⟨k3,x⟩)] at hS;refine cP eI (bM 20 h.aX) ?_;exact ⟨_,[[.v (.int .i64 (m + 1))]],ax,(gU se),bK (tk:=[]) (f:=(20,h.aX)) hS (fun _=>rfl)⟩
  have x:¬ (h.most < 0∨4096 < h.most):=by simp [aw] at x;omega
  rw [ah (by omega),ah (by omega),ah (by omega),ah (by omega),ah (by omega)] at hS;exact ⟨_,[[.v (.int .i64 (m + 1))]],ax,(gU se),bK (tk:=[]) (f:=(0,0)) hS (fun _=>rfl)⟩
 have k3:¬ h.ag=3:=of_decide_eq_false k3;rw [ah (by omega)] at hS;refine br ?_ ?_<;>intro k4
 ·have k4:h.ag=4:=of_decide_eq_true k4;rw [ah (by omega),ai k4,<- Nh] at hS;refine cP Yd (GJ h ps (by omega)) ?_;exact ⟨_,[[.v (.int .i64 (m + 1))]],ax,(gU se),bK (tk:=[]) (f:=n7 h) hS (fun _=>rfl)⟩
 have k4:¬ h.ag=4:=of_decide_eq_false k4;refine br ?_ ?_<;>intro k5
 ·have k5':h.ag=5∨h.ag=6:=.inl (of_decide_eq_true k5);rw [ah (by omega),ah (by omega),ai k5'] at hS;refine br (fun _=>?_) (fun hc=>by rw [k5] at hc;cases hc);refine mJ Sx rfl rfl (cs':=[.v (.int .i64 (m + 1))]) (gU se) ax (Aj k ih h ps depth (m + 1) hk cL vg (by omega) (by omega) (by omega)) mV (fun r sc hr=>?_);obtain ⟨rfl,z,hz,sa⟩:=hr;simp only [List.cons.injEq,and_true] at hz;subst hz;exact ⟨_,_,ax,ax,bK (tk:=[]) (f:=(wrongOne h ps depth (m + 1)).1) hS sa⟩
 have k5:¬ h.ag=5:=of_decide_eq_false k5;refine br ?_ ?_<;>intro k6
 ·have k5':h.ag=5∨h.ag=6:=.inr (of_decide_eq_true k6);rw [ah (by omega),ah (by omega),ai k5'] at hS;refine mJ Sx rfl rfl (cs':=[.v (.int .i64 (m + 1))]) (gU se) ax (Aj k ih h ps depth (m + 1) hk cL vg (by omega) (by omega) (by omega)) mV (fun r sc hr=>?_);obtain ⟨rfl,z,hz,sa⟩:=hr;simp only [List.cons.injEq,and_true] at hz;subst hz;exact ⟨_,_,ax,ax,bK (tk:=[]) (f:=(wrongOne h ps depth (m + 1)).1) hS sa⟩
 have k6:¬ h.ag=6:=of_decide_eq_false k6;have hP:fx h ps depth (m + 1)=fx h ps depth (m + 1):=rfl
 conv at hP=>lhs;unfold fx
 refine br ?_ ?_<;>intro k7
 ·have YZ:h.ag=7∨h.ag=8:=.inl (of_decide_eq_true k7);rw [ah (by omega),ah (by omega),ah (by omega),ai YZ,hP] at hS;refine br (fun _=>?_) (fun hc=>by rw [k7] at hc;cases hc);refine mJ Sy rfl rfl (cs':=[.v (.int .i64 (m + 1))]) (gU se) ax (uu k ih h ps depth (m + 1) YZ hk cL vg (by omega) (by omega) (by omega)) mV (fun r sc hr=>?_);obtain ⟨rfl,z,hz,sa⟩:=hr;simp only [List.cons.injEq,and_true] at hz;subst hz;exact ⟨_,_,ax,ax,bK (tk:=[]) (f:=(fx h ps depth (m + 1)).1) hS sa⟩
 have k7:¬ h.ag=7:=of_decide_eq_false k7;refine br ?_ ?_<;>intro k8
 ·have YZ:h.ag=7∨h.ag=8:=.inr (of_decide_eq_true k8);rw [ah (by omega),ah (by omega),ah (by omega),ai YZ,hP] at hS;refine mJ Sy rfl rfl (cs':=[.v (.int .i64 (m + 1))]) (gU se) ax (uu k ih h ps depth (m + 1) YZ hk cL vg (by omega) (by omega) (by omega)) mV (fun r sc hr=>?_);obtain ⟨rfl,z,hz,sa⟩:=hr;simp only [List.cons.injEq,and_true] at hz;subst hz;exact ⟨_,_,ax,ax,bK (tk:=[]) (f:=(fx h ps depth (m + 1)).1) hS sa⟩
 have k8:¬ h.ag=8:=of_decide_eq_false k8;refine br ?_ ?_<;>intro k9
 ·have k9:h.ag=9:=of_decide_eq_true k9;refine cP Gw (jm h.name.s (by simp only [Wd.wt] at Ak;omega)) ?_;refine br ?_ ?_<;>intro q
  ·have q:bi h.name.s=false:=sU q;rw [ai ⟨k9,q⟩] at hS;refine cP eI (bM 9 h.name.a) ?_;exact ⟨_,[[.v (.int .i64 (m + 1))]],ax,(gU se),bK (tk:=[]) (f:=(9,h.name.a)) hS (fun _=>rfl)⟩
  ·have q:bi h.name.s=true:=sU q;rw [ah (by simp [q]),ah (by omega),ah (by omega),ah (by omega)] at hS;exact ⟨_,[[.v (.int .i64 (m + 1))]],ax,(gU se),bK (tk:=[]) (f:=(0,0)) hS (fun _=>rfl)⟩
 have k9:¬ h.ag=9:=of_decide_eq_false k9;rw [ah (by omega),ah (by omega),ah (by omega),ah (by omega)] at hS;exact ⟨_,[[.v (.int .i64 (m + 1))]],ax,(gU se),bK (tk:=[]) (f:=(0,0)) hS (fun _=>rfl)⟩
theorem Ej:∀ k,Nv k
 | 0=>fun t depth m hk=>by have:=t.eJ;omega
 | k + 1=>fun t depth m hk cL vg zf pk kj=>by
  obtain ⟨h,ps⟩:=t;have eX:=hk;simp only [Ty.wt,Hd.wt] at eX;exact Ei k (Ej k) h ps depth m (by omega) cL vg zf pk kj
theorem Ek (t:Ty) (cL:t.wt<=1099511627776):aV prog 96 [.agg (eE t)] (wrong t 1 0).1.d:=
 Kc t (Ej t.wt t 1 0 (aR _) cL (by omega) (by omega) (by omega) (by omega))
abbrev Ny (t:Ty) (ps:Pts) (e n:Nat):St:=
 ⟨[(1,⟨[],.loc 0 0⟩),(3,⟨[],.v (.int .i64 n)⟩),(7,⟨[],.sl 18 (gA ps) none⟩),(8,⟨[],.v (.int .i64 (gA ps).length)⟩),(9,⟨[],.v (.int .i64 e)⟩)],[eE t],[]⟩
theorem xu:∀ (k:Nat) (t:Ty),t.wt<=k->t.wt<=1099511627776 ->
  aV prog 97 [.agg (eE t)] (.v (.int .i64 t.cnt))
 | 0,t,hn,_=>by have:=t.eJ;omega
 | k + 1,.mk h ps,hn,cL=>by
  simp only [Ty.wt,Hd.wt] at hn cL;have nv:=ps.gz;have hc:=ps.ff;refine eG 23 [.tmp 2] func97 rfl ntmps97 rfl fun _ _ _ _=>?_
  refine bz (fun j st=>∃ (e n:Nat),st=Ny (.mk h ps) ps e n/\e<=ps.len/\n + (ps.drop e).cnt=1 + ps.cnt/\j=ps.len - e) ps.len
   (Ny (.mk h ps) ps 0 1) (aj ⟨_,rfl⟩ wA rfl rfl rfl wB) ⟨0,1,rfl,by omega,rfl,by omega⟩ ?_
  rintro j st ⟨e,n,rfl,he,bp,rfl⟩;refine br ?_ ?_<;>intro hL
  ·have ap:e < ps.len:=by simpa [aO] using hL
   obtain ⟨p,t,hx⟩:=Pts.fc ap;have yO:=Pts.gV (mG hx);rw [Pts.drop_cons hx] at bp;simp only [Pts.cnt] at bp;have Ly:=t.ff;obtain ⟨u,us⟩:=t;refine iX (cp hx) ?_;refine br ?_ ?_<;>intro hB
   ·have hB:p.bare=false:=sU hB;rw [hB] at bp;have bp:n + ((Ty.mk u us).cnt + (ps.drop (e + 1)).cnt)=1 + ps.cnt:=bp;refine cP XE (xu k (.mk u us) (by omega) (by omega)) ?_;have C8:IntKind.i64.wrap ((n:Int) + (Ty.mk u us).cnt)=((n + (Ty.mk u us).cnt:Nat):Int):=by rw [wrap64 (by omega) (by omega)];omega
    exact ⟨Ny (.mk h ps) ps (e + 1) (n + (Ty.mk u us).cnt),(aj ⟨_,rfl⟩ wA rfl rfl rfl (wB2 C8 (aJ ap (by omega)))),ps.len - (e + 1),by omega,e + 1,_,rfl,by omega,by omega,rfl⟩
   ·have hB:p.bare=true:=sU hB;rw [hB] at bp;have bp:n + (0 + (ps.drop (e + 1)).cnt)=1 + ps.cnt:=bp;exact rE ⟨_,by omega,e + 1,n,rfl,by omega,by omega,rfl⟩ (aj ⟨_,rfl⟩ wA rfl rfl rfl (dt (aJ ap (by omega))))
  ·have aQ:e=ps.len:=by simp [aO] at hL;omega
   rw [aQ,Pts.dH] at bp;simp only [Pts.cnt] at bp;have e2:(n:Int)=((Ty.mk h ps).cnt:Int):=by simp only [Ty.cnt];omega
   refine (congrArg (fun z=>DV.v (.int .i64 z)) ?_:_=_);exact e2
mutual
def Ty.nn:Ty->Nat
 | .mk h ps=>if h.ag=9 then 0 else 1 + ps.nn
def Pts.nn:Pts->Nat
 | .nil=>0
 | .cons p t r=>(if p.bare then 0 else t.nn) + r.nn
end
mutual
theorem Ty.hU:∀ t:Ty,t.nn<=t.cnt
 | .mk h ps=>by
  have:=Pts.hU ps;simp only [Ty.nn,Ty.cnt];split<;>omega
theorem Pts.hU:∀ ps:Pts,ps.nn<=ps.cnt
 | .nil=>aR _
 | .cons p t r=>by
  have:=Ty.hU t;have:=Pts.hU r;simp only [Pts.nn,Pts.cnt];split<;>omega
end
abbrev U4 (t:Ty) (ps:Pts) (e n:Nat):St:=
 ⟨[(1,⟨[],.loc 0 0⟩),(3,⟨[],.v (.int .i64 n)⟩),(10,⟨[],.sl 18 (gA ps) none⟩),(11,⟨[],.v (.int .i64 (gA ps).length)⟩),(12,⟨[],.v (.int .i64 e)⟩)],[eE t],[]⟩
theorem xx:∀ (k:Nat) (t:Ty),t.wt<=k->t.wt<=1099511627776 ->
  aV prog 101 [.agg (eE t)] (.v (.int .i64 t.nn))
 | 0,t,hn,_=>by have:=t.eJ;omega
 | k + 1,.mk h ps,hn,cL=>by
  simp only [Ty.wt,Hd.wt] at hn cL;have nv:=ps.gz;have hc:=ps.ff;have lA:=ps.hU;refine eG 26 [.tmp 2] func101 rfl ntmps101 rfl fun _ _ _ _=>?_;refine br ?_ ?_<;>intro h9
  ·have h9:h.ag=9:=sU h9;have:(Ty.mk h ps).nn=0:=by simp [Ty.nn,h9]
   rw [this];exact (rfl:_=_)
  have h9:¬ h.ag=9:=sU h9
  refine bz (fun j st=>∃ (e n:Nat),st=U4 (.mk h ps) ps e n/\e<=ps.len/\n + (ps.drop e).nn=1 + ps.nn/\j=ps.len - e) ps.len
   (U4 (.mk h ps) ps 0 1) (aj ⟨_,rfl⟩ wA rfl rfl rfl wB) ⟨0,1,rfl,by omega,rfl,by omega⟩ ?_
  rintro j st ⟨e,n,rfl,he,bp,rfl⟩;refine br ?_ ?_<;>intro hL
  ·have ap:e < ps.len:=by simpa [aO] using hL
   obtain ⟨p,t,hx⟩:=Pts.fc ap;have yO:=Pts.gV (mG hx);rw [Pts.drop_cons hx] at bp;simp only [Pts.nn] at bp;have Ly:=t.ff;have hct2:=t.hU;obtain ⟨u,us⟩:=t;refine iX (cp hx) ?_;refine br ?_ ?_<;>intro hB
   ·have hB:p.bare=false:=sU hB;rw [hB] at bp;have bp:n + ((Ty.mk u us).nn + (ps.drop (e + 1)).nn)=1 + ps.nn:=bp;refine cP R9 (xx k (.mk u us) (by omega) (by omega)) ?_;have C8:IntKind.i64.wrap ((n:Int) + (Ty.mk u us).nn)=((n + (Ty.mk u us).nn:Nat):Int):=by rw [wrap64 (by omega) (by omega)];omega
    exact ⟨U4 (.mk h ps) ps (e + 1) (n + (Ty.mk u us).nn),(aj ⟨_,rfl⟩ wA rfl rfl rfl (wB2 C8 (aJ ap (by omega)))),ps.len - (e + 1),by omega,e + 1,_,rfl,by omega,by omega,rfl⟩
   ·have hB:p.bare=true:=sU hB;rw [hB] at bp;have bp:n + (0 + (ps.drop (e + 1)).nn)=1 + ps.nn:=bp;exact rE ⟨_,by omega,e + 1,n,rfl,by omega,by omega,rfl⟩ (aj ⟨_,rfl⟩ wA rfl rfl rfl (dt (aJ ap (by omega))))
  ·have aQ:e=ps.len:=by simp [aO] at hL;omega
   rw [aQ,Pts.dH] at bp;simp only [Pts.nn] at bp;have e2:(n:Int)=((Ty.mk h ps).nn:Int):=by simp only [Ty.nn,ah h9];omega
   refine (congrArg (fun z=>DV.v (.int .i64 z)) ?_:_=_);exact e2
structure Lx where
 af:List ByteArray
 aM:List Nat
 rows:List Nat
 js:List Int
 f:Nat->Nat->Bool
def Lx.pd (X:Lx):DV:=.pt (jC X.af (dz X.af X.aM) X.rows X.js) 0
def Lx.lev (X:Lx) (l:List Wd):Int:=B9 X.f X.af l
def Lx.bad (X:Lx) (l:List Wd):Ft:=labW X.af l
structure Lx.OK (X:Lx):Prop where
 hT:iT X.af X.aM
 jQ:X.aM.length<=1099511627776
 hL:gm X.f X.af.length
 hn:X.af.length<=32
 hj:∀ x y,x < X.af.length->y < X.af.length->JM X.f X.af.length X.js x y
theorem Lx.rA {X:Lx} (h:X.OK) (l:List Wd) (hs:wdsWt l<=1099511627776):aV prog 99 [X.pd,.sl 2 (bO l) none] (.tup [.v (.int .i64 (X.lev l)),(X.bad l).d]):=
 Nt X.af X.aM X.rows X.js h.hT h.jQ h.hL h.hn h.hj l hs
def bC (s:Sch) (lat out:DV) (m:Int):List DV:=.sl 2 (bO s.ae) none :: .sl 4 (nD s.order) none :: .sl 11 (dNms s.types) none :: (eE s.root ++ [lat,out,.v (.int .i64 m)])
theorem xy {X:Lx} (h:X.OK) (s:Sch) (pc:List DV) (m:Int) (l:List Wd) (hs:wdsWt l<=1099511627776) :
  aV prog 165 [.pt (bC s X.pd (.pt pc 0) m) 0,.sl 2 (bO l) none] (.v (.int .i64 (X.lev l))):=by
 obtain ⟨ae,order,types,⟨rh,rp⟩⟩:=s;refine eG 17 [.tmp 4] func165 rfl ntmps165 rfl fun _ _ _ _=>?_;refine cP Mi (Lx.rA h l hs) ?_;exact (rfl:_=_)
def uW (s:Sch):List Wd:=s.types.map fun x=>x.1
def tL (s:Sch):List ByteArray:=aC (uW s)
theorem I0 (s:Sch):(uW s).length=s.types.length:=by simp [uW]
theorem kN (s:Sch):(tL s).length=s.types.length:=by simp [tL,aC,uW]
def pC (s:Sch) (aM:List Nat) (a b c e:DV):List DV:=[a,b,c,.pt (dz (tL s) aM) 0,e]
def uX (s:Sch) (t:Ty):Bool:=decide (t.h.ag=9->du (tL s) t.h.name.s≠none)
def endI (s:Sch):Nat->Nat->Option Nat
 | 0,_=>none
 | k + 1,i=>
  match s.types[i]? with
  | none=>none
  | some x=>if x.2.h.ag=9 then endI s k ((du (tL s) x.2.h.name.s).getD 0) else some i
theorem rB {s:Sch}:∀ {k i j:Nat},endI s k i=some j->j < s.types.length/\∀ x,s.types[j]? = some x->x.2.h.ag≠9
 | 0,i,j,h=>by cases h
 | k + 1,i,j,h=>by
  rw [endI] at h
  cases hx:s.types[i]? with
  | none=>rw [hx] at h;cases h
  | some x=>
   rw [hx] at h;simp only at h;split at h
   ·exact rB h
   ·rename_i hk;simp only [oI] at h;subst h;refine ⟨(gS hx).1,fun y hy=>?_⟩;rw [hx] at hy;simp only [oI] at hy;subst hy;exact hk
abbrev SX (B:DV) (n i e:Nat):St:=
 ⟨[(0,⟨[],B⟩),(1,⟨[],.v (.int .i64 i)⟩),(12,⟨[],.v (.int .i64 n)⟩),(13,⟨[],.v (.int .i64 e)⟩)],[],[]⟩
theorem El (s:Sch) (lat:DV) (aM:List Nat) (a b c e0:DV) (m:Int) (hT:iT (tL s) aM) (jQ:aM.length<=1099511627776) (hl:s.types.length<=64) (hr:∀ x∈s.types,uX s x.2=true) (i:Nat) (hi:i < s.types.length) :
  aV prog 100 [.pt (bC s lat (.pt (pC s aM a b c e0) 0) m) 0,.v (.int .i64 i)] (.v (.int .i64 (oz (endI s (s.types.length + 1) i)))):=by
 have gZ:=kN s;obtain ⟨ae,order,types,⟨rh,rp⟩⟩:=s;simp only at hl hr hi gZ;have hN:=eo types;have U5:IntKind.i64.wrap ((((dNms types).length:Nat):Int) + 1)=((types.length + 1:Nat):Int):=by rw [hN,wrap64 (by omega) (by omega)];all_goals rfl
 refine eG 43 [.tmp 4] func100 rfl ntmps100 rfl fun _ _ _ _=>?_
 refine bz (fun j st=>∃ e q:Nat,st=SX (.pt (bC ⟨ae,order,types,.mk rh rp⟩ lat (.pt (pC ⟨ae,order,types,.mk rh rp⟩ aM a b c e0) 0) m) 0) (types.length + 1) q e/\e<=types.length + 1/\q < types.length/\endI ⟨ae,order,types,.mk rh rp⟩ (types.length + 1) i=endI ⟨ae,order,types,.mk rh rp⟩ (types.length + 1 - e) q/\j=types.length + 1 - e) (types.length + 1)
  (SX (.pt (bC ⟨ae,order,types,.mk rh rp⟩ lat (.pt (pC ⟨ae,order,types,.mk rh rp⟩ aM a b c e0) 0) m) 0) (types.length + 1) i 0) (aj ⟨_,rfl⟩ wA rfl rfl rfl (dt U5)) ⟨0,i,rfl,by omega,hi,rfl,by omega⟩ ?_
 rintro j st ⟨e,q,rfl,he,hq,aN,rfl⟩;refine br ?_ ?_<;>intro hL
 ·have ap:e < types.length + 1:=by have:=hL;simp at this;omega
  obtain ⟨x,hx⟩:∃ x,types[q]? = some x:=⟨_,gE hq⟩;have QF:=hr x (mG hx);obtain ⟨xw,⟨xh,xp⟩⟩:=x
  have aW:endI ⟨ae,order,types,.mk rh rp⟩ (types.length + 1 - e) q=if xh.ag=9 then endI ⟨ae,order,types,.mk rh rp⟩ (types.length + 1 - (e + 1)) ((du (tL ⟨ae,order,types,.mk rh rp⟩) xh.name.s).getD 0) else some q:=by
   rw [show types.length + 1 - e=(types.length + 1 - (e + 1)) + 1 by omega,endI];simp only [hx];rfl
  rw [aW] at aN;refine iX (dNms_get hx) ?_;refine br ?_ ?_<;>intro h9
  ·have h9:¬ xh.ag=9:=sU h9;rw [ah h9] at aN;rw [aN];exact (rfl:_=_)
  have h9:xh.ag=9:=sU h9;rw [ai h9] at aN
  have bp:du (tL ⟨ae,order,types,.mk rh rp⟩) xh.name.s≠none:=by
   have:=of_decide_eq_true QF;exact this h9
  obtain ⟨k,hk⟩:=Option.ne_none_iff_exists'.1 bp;have eC:=(dD hk).1;rw [hk] at aN;have hf:=jv (tL ⟨ae,order,types,.mk rh rp⟩) aM xh.name.s hT jQ;rw [hk] at hf;refine dI ?_;refine cD wu hf ?_;exact rE ⟨_,by omega,e + 1,k,rfl,by omega,by omega,aN,rfl⟩ (aj ⟨_,rfl⟩ wA rfl rfl rfl (dt (aJ ap (by omega))))
 ·have aQ:e=types.length + 1:=by have:=hL;simp at this;omega
  subst aQ;rw [Nat.sub_self] at aN;rw [aN];exact (rfl:_=_)
def loopF (s:Sch):Ft:=
 match bN (fun i=>(endI s (s.types.length + 1) i).isNone) s.types.length with
 | none=>(0,0)
 | some i=>(11,U1 (uW s) i)
abbrev Ca (B:DV) (s:Sch) (e:Nat):St:=
 ⟨[(0,⟨[],B⟩),(2,⟨[],.loc 0 0⟩),(9,⟨[],.sl 11 (dNms s.types) none⟩),(10,⟨[],.v (.int .i64 (dNms s.types).length)⟩),(11,⟨[],.v (.int .i64 e)⟩)],[[.v (.int .i64 0),.v (.int .i64 0)]],[]⟩
theorem G9 (s:Sch) (lat:DV) (aM:List Nat) (a b c e0:DV) (m:Int) (hT:iT (tL s) aM) (jQ:aM.length<=1099511627776) (hl:s.types.length<=64) (hr:∀ x∈s.types,uX s x.2=true) :
  aV prog 41 [.pt (bC s lat (.pt (pC s aM a b c e0) 0) m) 0] (loopF s).d:=by
 have ld:=El s lat aM a b c e0 m hT jQ hl hr;have hN:=eo s.types;have hF:=loopF.eq_1 s;obtain ⟨ae,order,types,⟨rh,rp⟩⟩:=s;simp only at hl hr ld hN;refine eG 26 [.cell 2 45] func41 rfl ntmps41 rfl fun _ _ _ _=>?_
 refine bz (fun j st=>∃ e:Nat,st=Ca (.pt (bC ⟨ae,order,types,.mk rh rp⟩ lat (.pt (pC ⟨ae,order,types,.mk rh rp⟩ aM a b c e0) 0) m) 0) ⟨ae,order,types,.mk rh rp⟩ e/\e<=types.length/\(∀ i,i < e->(endI ⟨ae,order,types,.mk rh rp⟩ (types.length + 1) i).isNone=false)/\j=types.length - e) types.length
  (Ca (.pt (bC ⟨ae,order,types,.mk rh rp⟩ lat (.pt (pC ⟨ae,order,types,.mk rh rp⟩ aM a b c e0) 0) m) 0) ⟨ae,order,types,.mk rh rp⟩ 0) (aj ⟨_,rfl⟩ wA rfl rfl rfl wB) ⟨0,rfl,by omega,fun _ h=>by omega,by omega⟩ ?_
 rintro j st ⟨e,rfl,he,fq,rfl⟩;refine br ?_ ?_<;>intro hL
 ·have ap:e < types.length:=by have:=hL;simp [hN] at this;exact this
  obtain ⟨x,hx⟩:=gX ap;have Nz:(uW ⟨ae,order,types,.mk rh rp⟩)[e]? = some x.1:=by simp [uW,hx]
  have h1:=ld e ap;obtain ⟨xw,⟨xh,xp⟩⟩:=x;refine iX (dNms_get hx) ?_;refine cP en100 h1 ?_
  cases hE:endI ⟨ae,order,types,.mk rh rp⟩ (types.length + 1) e with
  | none=>
   have C5:=bB (p:=fun i=>(endI ⟨ae,order,types,.mk rh rp⟩ (types.length + 1) i).isNone) ap (by simp only [hE];rfl) fq;simp only [C5] at hF;rw [lp Nz] at hF;refine ⟨_,?_,rfl⟩;rw [hF];exact ax
  | some k=>
   refine ⟨Ca (.pt (bC ⟨ae,order,types,.mk rh rp⟩ lat (.pt (pC ⟨ae,order,types,.mk rh rp⟩ aM a b c e0) 0) m) 0) ⟨ae,order,types,.mk rh rp⟩ (e + 1),(aj ⟨_,rfl⟩ wA rfl rfl rfl (dt (aJ ap (by omega)))),types.length - (e + 1),by omega,e + 1,rfl,by omega,fun i hi=>?_,rfl⟩;rcases eP hi with hi | rfl
   ·exact fq i hi
   ·rw [hE];all_goals rfl
 ·have aQ:e=types.length:=sW hN hL;subst aQ;simp only [bP fq] at hF;refine ⟨_,?_,rfl⟩;rw [hF];exact ax
mutual
def knT (X:Lx) (L:List ByteArray):Ty->Ft
 | .mk h ps=>if h.ag=9/\du L h.name.s=none then (15,h.name.a) else knP X L ps
def knP (X:Lx) (L:List ByteArray):Pts->Ft
 | .nil=>(0,0)
 | .cons p t r=>if (X.bad p.label).1≠0 then X.bad p.label else if (X.bad p.cl).1≠0 then X.bad p.cl else if p.bare then knP X L r else if (knT X L t).1≠0 then knT X L t else knP X L r
end
abbrev Y0 (B:DV) (t:Ty) (ps:Pts) (e:Nat):St:=
 ⟨[(0,⟨[],B⟩),(3,⟨[],.loc 0 0⟩),(4,⟨[],.loc 1 0⟩),(38,⟨[],.sl 18 (gA ps) none⟩),(39,⟨[],.v (.int .i64 (gA ps).length)⟩),(40,⟨[],.v (.int .i64 e)⟩)],[eE t,[.v (.int .i64 0),.v (.int .i64 0)]],[]⟩
abbrev Am (B:DV) (t:Ty) (ps:Pts) (p:Ph) (u:Ty) (e q:Nat):St:=
 ⟨[(0,⟨[],B⟩),(3,⟨[],.loc 0 0⟩),(4,⟨[],.loc 1 0⟩),(38,⟨[],.sl 18 (gA ps) none⟩),(39,⟨[],.v (.int .i64 (gA ps).length)⟩),(40,⟨[],.v (.int .i64 e)⟩),(8,⟨[],.loc 2 0⟩),(49,⟨[],.sl 1 [[.sl 2 (bO p.label) none],[.sl 2 (bO p.cl) none]] none⟩),(50,⟨[],.v (.int .i64 (2:Nat))⟩),(51,⟨[],.v (.int .i64 q)⟩)],[eE t,[.v (.int .i64 0),.v (.int .i64 0)],Gx p (eE u)],[]⟩
theorem xz {X:Lx} (hX:X.OK) (s:Sch) (aM:List Nat) (a b c e0:DV) (m:Int) (hT:iT (tL s) aM) (jQ:aM.length<=1099511627776):∀ (k:Nat) (t:Ty),t.wt<=k->t.wt<=1099511627776 ->
  aV prog 40 [.pt (bC s X.pd (.pt (pC s aM a b c e0) 0) m) 0,.agg (eE t)] (knT X (tL s) t).d
 | 0,t,hn,_=>by have:=t.eJ;omega
 | k + 1,.mk h ps,hn,cL=>by
  have ih:=xz hX s aM a b c e0 m hT jQ k;simp only [Ty.wt,Hd.wt] at hn cL;have nv:=ps.gz;obtain ⟨ae,order,types,⟨rh,rp⟩⟩:=s;have hf:=jv (tL ⟨ae,order,types,.mk rh rp⟩) aM h.name.s hT jQ;have hS:knT X (tL ⟨ae,order,types,.mk rh rp⟩) (.mk h ps)=if h.ag=9/\du (tL ⟨ae,order,types,.mk rh rp⟩) h.name.s=none then (15,h.name.a) else knP X (tL ⟨ae,order,types,.mk rh rp⟩) ps:=by rw [knT]
  refine eG 81 [.cell 4 45] func40 rfl ntmps40 rfl fun _ _ _ _=>?_;generalize knT X (tL ⟨ae,order,types,.mk rh rp⟩) (.mk h ps)=F at hS ⊢;have Wn:knP X (tL ⟨ae,order,types,.mk rh rp⟩) ps=knP X (tL ⟨ae,order,types,.mk rh rp⟩) (ps.drop 0):=by rw [Pts.drop]
  refine br ?_ ?_<;>intro h9
  ·have h9:h.ag=9:=sU h9;refine dI ?_
   cases hx:du (tL ⟨ae,order,types,.mk rh rp⟩) h.name.s with
   | none=>
    rw [ai ⟨h9,hx⟩] at hS;rw [hx] at hf;refine cD wu hf ?_;refine ⟨_,?_,rfl⟩;rw [hS];exact ax
   | some i=>
    rw [ah (by rw [hx];simp),Wn] at hS;rw [hx] at hf;refine cD wu hf ?_;refine lI (fun j st=>∃ e:Nat,st=Y0 (.pt (bC ⟨ae,order,types,.mk rh rp⟩ X.pd (.pt (pC ⟨ae,order,types,.mk rh rp⟩ aM a b c e0) 0) m) 0) (.mk h ps) ps e/\e<=ps.len/\F=knP X (tL ⟨ae,order,types,.mk rh rp⟩) (ps.drop e)/\j=ps.len - e) ⟨0,rfl,by omega,hS,rfl⟩ (aj ⟨_,rfl⟩ wA rfl rfl rfl wB) ?_;rintro j st ⟨e,rfl,he,aN,rfl⟩;refine br ?_ ?_<;>intro hL
    ·have ap:e < ps.len:=by simpa [aO] using hL
     obtain ⟨p,t,hx⟩:=Pts.fc ap;have yO:=Pts.gV (mG hx);rw [Pts.drop_cons hx] at aN;simp only [knP] at aN;have hw1:wdsWt p.label + wdsWt p.cl<=p.wt:=by simp only [Ph.wt];omega
     obtain ⟨u,us⟩:=t;refine iX (cp hx) ?_;refine lI (fun j st=>∃ q:Nat,st=Am (.pt (bC ⟨ae,order,types,.mk rh rp⟩ X.pd (.pt (pC ⟨ae,order,types,.mk rh rp⟩ aM a b c e0) 0) m) 0) (.mk h ps) ps p (.mk u us) e q/\q<=2/\(1<=q->(X.bad p.label).1=0)/\(2<=q->(X.bad p.cl).1=0)/\j=2 - q) ⟨0,rfl,by omega,fun h=>by omega,fun h=>by omega,rfl⟩ (aj ⟨_,rfl⟩ wA rfl rfl rfl wB) ?_;rintro j st ⟨q,rfl,hq,Y1,kh,rfl⟩;refine br ?_ ?_<;>intro kM
     ·have JL:q=0∨q=1:=by have:=kM;simp at this;omega
      rcases JL with rfl | rfl
      ·refine ⟨_,⟨by omega,rfl⟩,?_⟩;refine cP Mi (Lx.rA hX p.label (by omega)) ?_;refine br ?_ ?_<;>intro hb
       ·have hb:(X.bad p.label).1≠0:=sU hb;rw [ai hb] at aN;refine ⟨_,?_,rfl⟩;rw [aN];exact ax
       ·have hb:(X.bad p.label).1=0:=sU hb;exact ⟨Am (.pt (bC ⟨ae,order,types,.mk rh rp⟩ X.pd (.pt (pC ⟨ae,order,types,.mk rh rp⟩ aM a b c e0) 0) m) 0) (.mk h ps) ps p (.mk u us) e 1,(aj ⟨_,rfl⟩ wA rfl rfl rfl (dt (aJ (e:=0) (n:=2) (by omega) (by omega)))),1,by omega,1,rfl,by omega,fun _=>hb,fun h=>by omega,rfl⟩
      ·have iB:=Y1 (by omega);refine ⟨_,⟨by omega,rfl⟩,?_⟩;refine cP Mi (Lx.rA hX p.cl (by omega)) ?_;refine br ?_ ?_<;>intro hb
       ·have hb:(X.bad p.cl).1≠0:=sU hb;rw [ah (by rw [iB];simp),ai hb] at aN;refine ⟨_,?_,rfl⟩;rw [aN];exact ax
       ·have hb:(X.bad p.cl).1=0:=sU hb;exact ⟨Am (.pt (bC ⟨ae,order,types,.mk rh rp⟩ X.pd (.pt (pC ⟨ae,order,types,.mk rh rp⟩ aM a b c e0) 0) m) 0) (.mk h ps) ps p (.mk u us) e 2,(aj ⟨_,rfl⟩ wA rfl rfl rfl (dt (aJ (e:=1) (n:=2) (by omega) (by omega)))),0,by omega,2,rfl,by omega,fun _=>iB,fun _=>hb,rfl⟩
     ·have JL:q=2:=by have:=kM;simp at this;omega
      subst JL;have iB:=Y1 (by omega);have py:=kh (by omega);rw [ah (by rw [iB];simp),ah (by rw [py];simp)] at aN;refine br ?_ ?_<;>intro hB
      ·have hB:p.bare=true:=hB;rw [ai hB] at aN;exact rE ⟨_,by omega,e + 1,rfl,by omega,aN,rfl⟩ (aj ⟨_,rfl⟩ wA rfl rfl rfl (dt (aJ ap (by omega))))
      ·have hB:p.bare=false:=hB;rw [ah (by rw [hB];decide)] at aN;refine cP Up (ih (.mk u us) (by omega) (by omega)) ?_;refine br ?_ ?_<;>intro hb
       ·have hb:(knT X (tL ⟨ae,order,types,.mk rh rp⟩) (.mk u us)).1≠0:=sU hb;rw [ai hb] at aN;refine ⟨_,?_,rfl⟩;rw [aN];exact ax
       ·have hb:(knT X (tL ⟨ae,order,types,.mk rh rp⟩) (.mk u us)).1=0:=sU hb;rw [ah (by rw [hb];simp)] at aN;exact rE ⟨_,by omega,e + 1,rfl,by omega,aN,rfl⟩ (aj ⟨_,rfl⟩ wA rfl rfl rfl (dt (aJ ap (by omega))))
    ·have aQ:e=ps.len:=by simp [aO] at hL;omega
     rw [aQ,Pts.dH] at aN;simp only [knP] at aN;refine ⟨_,?_,rfl⟩;rw [aN];exact ax
  ·have h9:¬ h.ag=9:=sU h9;rw [ah (fun hc=>h9 hc.1),Wn] at hS;refine lI (fun j st=>∃ e:Nat,st=Y0 (.pt (bC ⟨ae,order,types,.mk rh rp⟩ X.pd (.pt (pC ⟨ae,order,types,.mk rh rp⟩ aM a b c e0) 0) m) 0) (.mk h ps) ps e/\e<=ps.len/\F=knP X (tL ⟨ae,order,types,.mk rh rp⟩) (ps.drop e)/\j=ps.len - e) ⟨0,rfl,by omega,hS,rfl⟩ (aj ⟨_,rfl⟩ wA rfl rfl rfl wB) ?_;rintro j st ⟨e,rfl,he,aN,rfl⟩;refine br ?_ ?_<;>intro hL
   ·have ap:e < ps.len:=by simpa [aO] using hL
    obtain ⟨p,t,hx⟩:=Pts.fc ap;have yO:=Pts.gV (mG hx);rw [Pts.drop_cons hx] at aN;simp only [knP] at aN;have hw1:wdsWt p.label + wdsWt p.cl<=p.wt:=by simp only [Ph.wt];omega
    obtain ⟨u,us⟩:=t;refine iX (cp hx) ?_;refine lI (fun j st=>∃ q:Nat,st=Am (.pt (bC ⟨ae,order,types,.mk rh rp⟩ X.pd (.pt (pC ⟨ae,order,types,.mk rh rp⟩ aM a b c e0) 0) m) 0) (.mk h ps) ps p (.mk u us) e q/\q<=2/\(1<=q->(X.bad p.label).1=0)/\(2<=q->(X.bad p.cl).1=0)/\j=2 - q) ⟨0,rfl,by omega,fun h=>by omega,fun h=>by omega,rfl⟩ (aj ⟨_,rfl⟩ wA rfl rfl rfl wB) ?_;rintro j st ⟨q,rfl,hq,Y1,kh,rfl⟩;refine br ?_ ?_<;>intro kM
    ·have JL:q=0∨q=1:=by have:=kM;simp at this;omega
     rcases JL with rfl | rfl
     ·refine ⟨_,⟨by omega,rfl⟩,?_⟩;refine cP Mi (Lx.rA hX p.label (by omega)) ?_;refine br ?_ ?_<;>intro hb
      ·have hb:(X.bad p.label).1≠0:=sU hb;rw [ai hb] at aN;refine ⟨_,?_,rfl⟩;rw [aN];exact ax
      ·have hb:(X.bad p.label).1=0:=sU hb;exact ⟨Am (.pt (bC ⟨ae,order,types,.mk rh rp⟩ X.pd (.pt (pC ⟨ae,order,types,.mk rh rp⟩ aM a b c e0) 0) m) 0) (.mk h ps) ps p (.mk u us) e 1,(aj ⟨_,rfl⟩ wA rfl rfl rfl (dt (aJ (e:=0) (n:=2) (by omega) (by omega)))),1,by omega,1,rfl,by omega,fun _=>hb,fun h=>by omega,rfl⟩
     ·have iB:=Y1 (by omega);refine ⟨_,⟨by omega,rfl⟩,?_⟩;refine cP Mi (Lx.rA hX p.cl (by omega)) ?_;refine br ?_ ?_<;>intro hb
      ·have hb:(X.bad p.cl).1≠0:=sU hb;rw [ah (by rw [iB];simp),ai hb] at aN;refine ⟨_,?_,rfl⟩;rw [aN];exact ax
      ·have hb:(X.bad p.cl).1=0:=sU hb;exact ⟨Am (.pt (bC ⟨ae,order,types,.mk rh rp⟩ X.pd (.pt (pC ⟨ae,order,types,.mk rh rp⟩ aM a b c e0) 0) m) 0) (.mk h ps) ps p (.mk u us) e 2,(aj ⟨_,rfl⟩ wA rfl rfl rfl (dt (aJ (e:=1) (n:=2) (by omega) (by omega)))),0,by omega,2,rfl,by omega,fun _=>iB,fun _=>hb,rfl⟩
    ·have JL:q=2:=by have:=kM;simp at this;omega
     subst JL;have iB:=Y1 (by omega);have py:=kh (by omega);rw [ah (by rw [iB];simp),ah (by rw [py];simp)] at aN;refine br ?_ ?_<;>intro hB
     ·have hB:p.bare=true:=hB;rw [ai hB] at aN;exact rE ⟨_,by omega,e + 1,rfl,by omega,aN,rfl⟩ (aj ⟨_,rfl⟩ wA rfl rfl rfl (dt (aJ ap (by omega))))
     ·have hB:p.bare=false:=hB;rw [ah (by rw [hB];decide)] at aN;refine cP Up (ih (.mk u us) (by omega) (by omega)) ?_;refine br ?_ ?_<;>intro hb
      ·have hb:(knT X (tL ⟨ae,order,types,.mk rh rp⟩) (.mk u us)).1≠0:=sU hb;rw [ai hb] at aN;refine ⟨_,?_,rfl⟩;rw [aN];exact ax
      ·have hb:(knT X (tL ⟨ae,order,types,.mk rh rp⟩) (.mk u us)).1=0:=sU hb;rw [ah (by rw [hb];simp)] at aN;exact rE ⟨_,by omega,e + 1,rfl,by omega,aN,rfl⟩ (aj ⟨_,rfl⟩ wA rfl rfl rfl (dt (aJ ap (by omega))))
   ·have aQ:e=ps.len:=by simp [aO] at hL;omega
    rw [aQ,Pts.dH] at aN;simp only [knP] at aN;refine ⟨_,?_,rfl⟩;rw [aN];exact ax
def eaL (F:Ty->Ft) (z:Ft):List (Wd × Ty)->Ft
 | []=>z
 | x :: r=>if (F x.2).1≠0 then F x.2 else eaL F z r
theorem NA {F:Ty->Ft} {z:Ft} {l:List (Wd × Ty)} {e:Nat} {x:Wd × Ty} (h:l[e]? = some x):eaL F z (l.drop e)=if (F x.2).1≠0 then F x.2 else eaL F z (l.drop (e + 1)):=by
 rw [drop_cons h,eaL]
abbrev NB (B:DV) (fn:DV) (types:List (Wd × Ty)) (e:Nat):St:=
 ⟨[(0,⟨[],B⟩),(1,⟨[],fn⟩),(4,⟨[],.loc 0 0⟩),(12,⟨[],.sl 11 (dNms types) none⟩),(13,⟨[],.v (.int .i64 (dNms types).length)⟩),(14,⟨[],.v (.int .i64 e)⟩)],[[.v (.int .i64 0),.v (.int .i64 0)]],[]⟩
theorem Kv (s:Sch) (lat:DV) (pc:List DV) (m:Int) (hl:s.types.length<=1099511627776) (g:Nat) (hg:Enters prog g) (F:Ty->Ft)
  (hF:∀ t,(t=s.root∨∃ x∈s.types,t=x.2)->aV prog g [.pt (bC s lat (.pt pc 0) m) 0,.agg (eE t)] (F t).d) :
  aV prog 38 [.pt (bC s lat (.pt pc 0) m) 0,.fn g [.pt (bC s lat (.pt pc 0) m) 0] []] (eaL F (F s.root) s.types).d:=by
 have hN:=eo s.types;obtain ⟨ae,order,types,⟨rh,rp⟩⟩:=s;simp only at hl hF hN;have og:=hF (.mk rh rp) (.inl rfl);have U6:∀ x∈types,_:=fun x hx=>hF x.2 (.inr ⟨x,hx,rfl⟩);clear hF;refine eG 34 [.cell 4 45] func38 rfl ntmps38 rfl fun _ _ _ _=>?_;generalize hG:eaL F (F (.mk rh rp)) types=G;have hG0:G=eaL F (F (.mk rh rp)) (types.drop 0):=by rw [List.drop_zero,hG]
 refine bz (fun j st=>∃ e:Nat,st=NB (.pt (bC ⟨ae,order,types,.mk rh rp⟩ lat (.pt pc 0) m) 0) (.fn g [.pt (bC ⟨ae,order,types,.mk rh rp⟩ lat (.pt pc 0) m) 0] []) types e/\e<=types.length/\G=eaL F (F (.mk rh rp)) (types.drop e)/\j=types.length - e) types.length
  (NB (.pt (bC ⟨ae,order,types,.mk rh rp⟩ lat (.pt pc 0) m) 0) (.fn g [.pt (bC ⟨ae,order,types,.mk rh rp⟩ lat (.pt pc 0) m) 0] []) types 0) (aj ⟨_,rfl⟩ wA rfl rfl rfl wB) ⟨0,rfl,by omega,hG0,by omega⟩ ?_
 rintro j st ⟨e,rfl,he,aN,rfl⟩;refine br ?_ ?_<;>intro hL
 ·have ap:e < types.length:=by have:=hL;simp [hN] at this;exact this
  obtain ⟨x,hx⟩:=gX ap;have hp:=U6 x (mG hx);rw [NA hx] at aN;obtain ⟨xw,⟨xh,xp⟩⟩:=x;refine iX (dNms_get hx) ?_;refine cP hg hp ?_;refine br ?_ ?_<;>intro hf
  ·have hf:(F (.mk xh xp)).1≠0:=sU hf;rw [ai hf] at aN;refine ⟨_,?_,rfl⟩;rw [aN];exact ax
  ·have hf:(F (.mk xh xp)).1=0:=sU hf;rw [ah (by rw [hf];simp)] at aN;exact rE ⟨_,by omega,e + 1,rfl,by omega,aN,rfl⟩ (aj ⟨_,rfl⟩ wA rfl rfl rfl (dt (aJ ap (by omega))))
 ·have aQ:e=types.length:=sW hN hL;subst aQ;rw [List.drop_length,eaL] at aN;refine cP hg og ?_;refine ⟨_,?_,rfl⟩;rw [aN];exact ax
def cy (t:Ty) (m:Int):Ft × Int:=if (wrong t 1 0).1.1≠0 then ((wrong t 1 0).1,m) else if 512 < m + t.cnt then ((8,t.h.aX),m + t.cnt) else ((0,0),m + t.cnt)
def NC (s:Sch) (lat:DV) (pc:List DV) (x:Ft × Int) (r:DV) (os:List (List DV)) (_:List TkE):Prop:=r=x.1.d/\os=[bC s lat (.loc 1 0) x.2,pc]
theorem Em (s:Sch) (lc pc:List DV) (m:Int) (pk:0<=m) (kj:m<=1099511627776) (t:Ty) (cL:t.wt<=1099511627776) (hpc:∀ bx N n0 m0,CcL bx N n0 m0 pc pc) :
  Ev prog 39 [.loc 0 0,.agg (eE t)] [bC s (.pt lc 0) (.loc 1 0) m,pc] [] (NC s (.pt lc 0) pc (cy t m)):=by
 have hk:=Ek t cL;have hc:=xu t.wt t (aR _) cL;have oM:=t.ff;have hF:=cy.eq_1 t m;obtain ⟨ae,order,types,⟨rh,rp⟩⟩:=s;obtain ⟨h,ps⟩:=t;generalize cy (.mk h ps) m=R at hF ⊢;refine eG 30 [.cell 4 45] func39 rfl ntmps39 rfl fun _ _ _ _=>?_;refine cP en96 hk ?_;refine br ?_ ?_<;>intro hf
 ·have hf:(wrong (.mk h ps) 1 0).1.1≠0:=sU hf;rw [ai hf] at hF;subst hF;exact ⟨Ft.d _,[bC ⟨ae,order,types,.mk rh rp⟩ (.pt lc 0) (.loc 1 0) m,pc],ax,(by repeat' (first | exact rfl | exact trivial | exact Or.inr (Or.inl ⟨_,rfl⟩) | exact Or.inr ⟨_,rfl⟩ | exact Or.inl ⟨rfl,rfl⟩ | exact Or.inl rfl | refine Or.inr ⟨_,_,rfl,Nat.zero_le _,rfl,?_⟩ | refine ⟨_,_,rfl,?_,?_⟩ | refine ⟨_,rfl,?_⟩ | exact hpc _ _ _ _ | exact ⟨nL rfl,rfl⟩ | exact congrArg (fun z=>DV.v (.int .i64 z)) hw | refine Or.inr (Or.inr (Or.inr ⟨_,_,rfl,?_⟩)) | exact Or.inl rfl | refine Or.inr ?_)),rfl,rfl⟩
 have hf:(wrong (.mk h ps) 1 0).1.1=0:=sU hf;rw [ah (by rw [hf];simp)] at hF;have hw:IntKind.i64.wrap (m + ((Ty.mk h ps).cnt:Int))=m + ((Ty.mk h ps).cnt:Int):=wrap64 (by omega) (by omega);refine dS ?_;refine cD XE hc ?_;refine br ?_ ?_<;>intro hg
 ·have hg:512 < m + ((Ty.mk h ps).cnt:Int):=sV hw hg;rw [ai hg] at hF;subst hF;exact ⟨Ft.d _,[bC ⟨ae,order,types,.mk rh rp⟩ (.pt lc 0) (.loc 1 0) (m + (Ty.mk h ps).cnt),pc],ax,(wC2 hpc hw),rfl,rfl⟩
 ·have hg:¬ 512 < m + ((Ty.mk h ps).cnt:Int):=sV hw hg;rw [ah hg] at hF;subst hF;exact ⟨Ft.d _,[bC ⟨ae,order,types,.mk rh rp⟩ (.pt lc 0) (.loc 1 0) (m + (Ty.mk h ps).cnt),pc],ax,(wC2 hpc hw),rfl,rfl⟩
def eaR (z:Ty):List (Wd × Ty)->Int->Ft × Int
 | [],m=>cy z m
 | x :: r,m=>if (cy x.2 m).1.1≠0 then cy x.2 m else eaR z r (cy x.2 m).2
theorem NE {z:Ty} {l:List (Wd × Ty)} {e:Nat} {m:Int} {x:Wd × Ty} (h:l[e]? = some x):eaR z (l.drop e) m=if (cy x.2 m).1.1≠0 then cy x.2 m else eaR z (l.drop (e + 1)) (cy x.2 m).2:=by
 rw [drop_cons h,eaR]
theorem oY {t:Ty} {m:Int} (h:(cy t m).1.1=0):(cy t m).2=m + t.cnt/\(cy t m).2<=512/\(wrong t 1 0).1.1=0/\(cy t m).1=(0,0):=by
 unfold cy at h ⊢;split
 ·rename_i h1;rw [ai h1] at h;exact (h1 h).elim
 ·rename_i h1;rw [ah h1] at h;split
  ·rename_i h2;rw [ai h2] at h;cases h
  ·rename_i h2;refine ⟨rfl,by simpa using h2,by simpa using h1,rfl⟩
abbrev Ha (s:Sch) (aM:List Nat) (lc:List DV):List DV:=pC s aM (.pt lc 0) (.v (.slice none 0 0)) (.v (.int .i64 0)) (.v (.slice none 0 0))
abbrev Cb (s:Sch) (lc pc:List DV) (m:Int) (types:List (Wd × Ty)) (e:Nat):St:=
 ⟨[(0,⟨[],.loc 0 0⟩),(1,⟨[],.fn 39 [.loc 0 0] []⟩),(4,⟨[],.loc 2 0⟩),(12,⟨[],.sl 11 (dNms types) none⟩),(13,⟨[],.v (.int .i64 (dNms types).length)⟩),(14,⟨[],.v (.int .i64 e)⟩)],
  [bC s (.pt lc 0) (.loc 1 0) m,pc,[.v (.int .i64 0),.v (.int .i64 0)]],[]⟩
theorem Hb (s:Sch) (lc:List DV) (aM:List Nat) (m:Int) (pk:0<=m) (kj:m<=512) (hl:s.types.length<=1099511627776) (cL:∀ t,(t=s.root∨∃ x∈s.types,t=x.2)->t.wt<=1099511627776) :
  Ev prog 38 [.loc 0 0,.fn 39 [.loc 0 0] []] [bC s (.pt lc 0) (.loc 1 0) m,Ha s aM lc] [] (NC s (.pt lc 0) (Ha s aM lc) (eaR s.root s.types m)):=by
 have hN:=eo s.types;have hR:∀ (m':Int),0<=m' -> m' <= 512->∀ t,(t=s.root∨∃ x∈s.types,t=x.2)->_:=fun m' h0 h1 t ht=>Em s lc (Ha s aM lc) m' h0 (by omega) t (cL t ht) (fun bx N n0 m0=>ax);obtain ⟨ae,order,types,⟨rh,rp⟩⟩:=s;simp only at hl hR hN cL;refine eG 34 [.cell 4 45] func38 rfl ntmps38 rfl fun _ _ _ _=>?_;generalize hG:eaR (.mk rh rp) types m=G;have hG0:G=eaR (.mk rh rp) (types.drop 0) m:=by rw [List.drop_zero,hG]
 refine bz (fun j st=>∃ (e:Nat) (m':Int),st=Cb ⟨ae,order,types,.mk rh rp⟩ lc (Ha ⟨ae,order,types,.mk rh rp⟩ aM lc) m' types e/\e<=types.length/\0<=m' /\ m' <= 512/\G=eaR (.mk rh rp) (types.drop e) m' /\ j=types.length - e) types.length
  (Cb ⟨ae,order,types,.mk rh rp⟩ lc (Ha ⟨ae,order,types,.mk rh rp⟩ aM lc) m types 0) (au 3 rfl (by repeat' (first | exact rfl | exact az rfl | exact rfl | refine ⟨_,_,rfl,?_,?_⟩)) rfl rfl rfl (by repeat' (first | exact trivial | exact az rfl | exact rfl | refine ⟨⟨_,rfl,?_⟩,?_⟩))) ⟨0,m,rfl,by omega,pk,kj,hG0,by omega⟩ ?_
 rintro j st ⟨e,m',rfl,he,BU,DU,aN,rfl⟩;refine br ?_ ?_<;>intro hL
 ·have ap:e < types.length:=by have:=hL;simp [hN] at this;exact this
  obtain ⟨x,hx⟩:=gX ap;have hp:=hR m' BU DU x.2 (.inr ⟨x,mG hx,rfl⟩);rw [NE hx] at aN;obtain ⟨xw,⟨xh,xp⟩⟩:=x;refine iX (dNms_get hx) ?_;refine ka 2 0 Xq rfl rfl rfl mj mj hp (fun r lH dL hΦ h1 h2=>?_);obtain ⟨rfl,rfl⟩:=hΦ;have h2:=List.eq_nil_of_length_eq_zero h2;subst h2;refine br ?_ ?_<;>intro hf
  ·have hf:(cy (.mk xh xp) m').1.1≠0:=sU hf;rw [ai hf] at aN;subst aN;exact ⟨Ft.d _,[bC ⟨ae,order,types,.mk rh rp⟩ (.pt lc 0) (.loc 1 0) (cy (.mk xh xp) m').2,Ha ⟨ae,order,types,.mk rh rp⟩ aM lc],ax,mj,rfl,rfl⟩
  ·have hf:(cy (.mk xh xp) m').1.1=0:=sU hf;rw [ah (by rw [hf];simp)] at aN;obtain ⟨g1,g2,_,_⟩:=oY hf;exact ⟨Cb ⟨ae,order,types,.mk rh rp⟩ lc (Ha ⟨ae,order,types,.mk rh rp⟩ aM lc) (cy (.mk xh xp) m').2 types (e + 1),(au 3 rfl (ny (aJ ap (by omega))) rfl rfl rfl (dt (aJ ap (by omega)))),types.length - (e + 1),by omega,e + 1,_,rfl,by omega,by omega,g2,aN,rfl⟩
 ·have aQ:e=types.length:=sW hN hL;subst aQ;rw [List.drop_length,eaR] at aN;refine ka 2 0 Xq rfl rfl rfl mj mj (hR m' BU DU (.mk rh rp) (.inl rfl)) (fun r lH dL hΦ h1 h2=>?_);obtain ⟨rfl,rfl⟩:=hΦ;have h2:=List.eq_nil_of_length_eq_zero h2;subst h2;subst aN;exact ⟨Ft.d _,[bC ⟨ae,order,types,.mk rh rp⟩ (.pt lc 0) (.loc 1 0) (cy (.mk rh rp) m').2,Ha ⟨ae,order,types,.mk rh rp⟩ aM lc],ax,mj,rfl,rfl⟩
def eK (s:Sch):Ft:=if 64 < s.types.length then (8,U1 (uW s) 64) else enumL (uW s) 0 (uW s)
def QG (s:Sch) (lc:List DV) (r:DV) (os:List (List DV)) (_:List TkE):Prop:=
 r=(eK s).d/\((eK s).1=0->∃ aM,iT (tL s) aM/\aM.length<=s.types.length/\os=[bC s (.pt lc 0) (.loc 1 0) 0,Ha s aM lc])
abbrev NF (s:Sch) (lc:List DV) (n e:Nat):St:=
 ⟨[(0,⟨[],.loc 0 0⟩),(2,⟨[],.loc 2 0⟩),(3,⟨[],.sl 1 (fl (aC ((uW s).take e))) (some 0)⟩),(27,⟨[],.sl 11 (dNms s.types) none⟩),(28,⟨[],.v (.int .i64 (dNms s.types).length)⟩),(29,⟨[],.v (.int .i64 e)⟩)],
  [bC s (.pt lc 0) (.loc 1 0) 0,[.pt lc 0,.v (.slice none 0 0),.v (.int .i64 0),.v (.pointer none),.v (.slice none 0 0)],[.v (.int .i64 0),.v (.int .i64 0)]],[⟨n,9,1,none⟩]⟩
theorem Cd (s:Sch) (lc:List DV) (hs:nmsWt s.types<=1099511627776) :
  Ev prog 37 [.loc 0 0] [bC s (.pt lc 0) (.loc 1 0) 0,[.pt lc 0,.v (.slice none 0 0),.v (.int .i64 0),.v (.pointer none),.v (.slice none 0 0)]] [] (QG s lc):=by
 have hN:=eo s.types;have fv:=km s.types;have gZ:=I0 s;have hF:=eK.eq_1 s;have eZ:∀ {e:Nat} {x:Wd × Ty},s.types[e]? = some x->(uW s)[e]? = some x.1:=fun h=>by simp [uW,h]
 have bY:=wJ (tL s) (by rw [kN];omega);have Y2:tL s=aC (uW s):=rfl
 have hw:∀ x∈s.types,x.1.s.size<=1099511627776:=fun x hx=>by
  have:=il hx;simp only [Wd.wt] at this;omega
 obtain ⟨ae,order,types,⟨rh,rp⟩⟩:=s;simp only at hs hN fv gZ eZ hw hF;generalize hQ:uW ⟨ae,order,types,.mk rh rp⟩=Q at gZ hF eZ Y2;refine eG 67 [.cell 2 45] func37 rfl ntmps37 rfl fun _ _ _ _=>?_;refine br ?_ ?_<;>intro h
 ·have h:64 < types.length:=by simp [hN] at h;omega
  obtain ⟨x,hx⟩:∃ x,types[64]? = some x:=⟨_,gE h⟩;have Nz:=eZ hx;rw [ai h,lp Nz] at hF;obtain ⟨xw,⟨xh,xp⟩⟩:=x;refine iX (dNms_get hx) ?_;refine ⟨Ft.d (8,xw.a),[bC ⟨ae,order,types,.mk rh rp⟩ (.pt lc 0) (.loc 1 0) 0,[.pt lc 0,.v (.slice none 0 0),.v (.int .i64 0),.v (.pointer none),.v (.slice none 0 0)]],ax,mj,by rw [hF],fun h0=>by rw [hF] at h0;simp at h0⟩
 have h:¬ 64 < types.length:=by simp [hN] at h;omega
 rw [ah h] at hF;refine lI (fun j st=>∃ e:Nat,st=NF ⟨ae,order,types,.mk rh rp⟩ lc e e/\e<=types.length/\(aC (Q.take e)).Nodup/\enumL Q 0 Q=enumL Q e (Q.drop e)/\j=types.length - e) ⟨0,rfl,by omega,by simp [aC],rfl,rfl⟩ (dc 3 ⟨0,9,1,none⟩ rfl rfl rfl pS rfl rfl mi) ?_;rintro j st ⟨e,rfl,he,hnd,aN,rfl⟩;rw [aN] at hF;refine br ?_ ?_<;>intro hL
 ·have ap:e < types.length:=by have:=hL;simp [hN] at this;exact this
  obtain ⟨x,hx⟩:=gX ap;have SM:=hw x (mG hx);have hq:=eZ hx;have dK:=kk hq;have aW:=pZ hq;have yM:=mS hq hnd;have Ni:=pU (aC (Q.take (e + 1))) (by simp [aC];omega);rw [<- dK] at Ni;obtain ⟨xw,⟨xh,xp⟩⟩:=x;simp only at SM hq dK aW yM Ni;refine iX (dNms_get hx) ?_;rw [hQ];refine ⟨by simp [ct,aC];omega,⟨by simp [ct,aC,maxLen];omega,by simp [ct,aC];omega⟩,?_⟩;refine cP Gw (jm xw.s (by omega)) ?_;refine br ?_ ?_<;>intro I1
  ·have I1:bi xw.s=false:=sU I1;have hf:aK Q e xw=9:=by simp [aK,I1]
   rw [aW,hf,ai (by decide)] at hF;refine ⟨Ft.d (9,xw.a),[bC ⟨ae,order,types,.mk rh rp⟩ (.pt lc 0) (.loc 1 0) 0,[.pt lc 0,.v (.slice none 0 0),.v (.int .i64 0),.v (.pointer none),.v (.slice none 0 0)]],ax,mj,by rw [hF],fun h0=>by rw [hF] at h0;simp at h0⟩
  ·have I1:bi xw.s=true:=sU I1;refine kD Uv rfl Ni ax (fun r hr=>?_);obtain ⟨z,rfl,hz⟩:=hr;refine br ?_ ?_<;>intro h2
   ·have h2:0<=z:=sU h2
    have hd:bT (Q.take e) xw.s=true:=by
     cases hd:bT (Q.take e) xw.s
     ·exact absurd (yM.2 hd) (hz.1 h2)
     ·rfl
    have hf:aK Q e xw=10:=by simp [aK,I1,hd]
    rw [aW,hf,ai (by decide)] at hF;refine ⟨Ft.d (10,xw.a),[bC ⟨ae,order,types,.mk rh rp⟩ (.pt lc 0) (.loc 1 0) 0,[.pt lc 0,.v (.slice none 0 0),.v (.int .i64 0),.v (.pointer none),.v (.slice none 0 0)]],ax,mj,by rw [hF],fun h0=>by rw [hF] at h0;simp at h0⟩
   ·have h2:¬ 0<=z:=sU h2;have wj:(aC (Q.take (e + 1))).Nodup:=Classical.byContradiction fun hn=>h2 (hz.2 hn);have hf:aK Q e xw=0:=by simp [aK,I1,yM.1 wj]
    rw [hf,ah (by simp)] at aW;have Y3:fl (aC (Q.take e)) ++ [[DV.v (.string xw.s)]]=fl (aC ((uW ⟨ae,order,types,.mk rh rp⟩).take (e + 1))):=by rw [hQ];exact dK
    refine ⟨NF ⟨ae,order,types,.mk rh rp⟩ lc (e + 1) (e + 1),(au 3 rfl (gF (aJ ap (by omega)) Y3) rfl rfl rfl (wB2 (aJ ap (by omega)) Y3)),types.length - (e + 1),by omega,e + 1,rfl,by omega,wj,aN.trans aW,rfl⟩
 ·have aQ:e=types.length:=sW hN hL;have h0:enumL Q e (Q.drop e)=(0,0):=by rw [aQ,<- gZ,List.drop_length];all_goals rfl
  rw [h0] at hF;have ht:Q.take e=Q:=by rw [aQ,<- gZ,List.take_length]
  have hEq:aC ((uW ⟨ae,order,types,.mk rh rp⟩).take e)=tL ⟨ae,order,types,.mk rh rp⟩:=by rw [hQ,ht,Y2]
  rw [<- hEq] at bY;refine dS ?_;refine q6 Uu rfl bY ax (fun BI hr=>?_);obtain ⟨aM,hT,jQ,rfl⟩:=hr;rw [hEq] at hT jQ;have hpt:DV.pt (dz (aC ((uW ⟨ae,order,types,.mk rh rp⟩).take e)) aM) 0=DV.pt (dz (tL ⟨ae,order,types,.mk rh rp⟩) aM) 0:=congrArg (fun L=>DV.pt (dz L aM) 0) hEq;rw [kN] at jQ;exact ⟨Ft.d (0,0),[bC ⟨ae,order,types,.mk rh rp⟩ (.pt lc 0) (.loc 1 0) 0,Ha ⟨ae,order,types,.mk rh rp⟩ aM lc],ax,(by repeat' (first | exact rfl | exact trivial | exact Or.inr (Or.inl ⟨_,rfl⟩) | exact Or.inr ⟨_,rfl⟩ | exact Or.inl ⟨rfl,rfl⟩ | exact Or.inl rfl | refine Or.inr ⟨_,_,rfl,Nat.zero_le _,rfl,?_⟩ | refine ⟨_,_,rfl,?_,?_⟩ | refine ⟨_,rfl,?_⟩ | exact ⟨nL rfl,rfl⟩ | exact Or.inl hpt | refine Or.inr (Or.inr (Or.inr ⟨_,_,rfl,?_⟩)) | exact Or.inl rfl | refine Or.inr ?_)),by rw [hF],fun _=>⟨aM,hT,jQ,rfl⟩⟩
def firstA (s:Sch) (k:Nat):Nat:=((s.types.take k).map fun x=>x.2.nn).sum
theorem oh {s:Sch} {k:Nat} {x:Wd × Ty} (h:s.types[k]? = some x):firstA s (k + 1)=firstA s k + x.2.nn:=by
 unfold firstA;rw [List.take_add_one,h];simp
theorem An (s:Sch):∀ k,firstA s k<=nmsWt s.types:=by
 intro k;unfold firstA;generalize s.types=l
 induction l generalizing k with
 | nil=>simp
 | cons x r ih=>
  cases k with
  | zero=>simp
  | succ k=>
   have h1:=ih k;have h2:=x.2.hU;have h3:=x.2.ff;simp only [List.take_succ_cons,List.map_cons,List.sum_cons,nmsWt];omega
def namedN (s:Sch) (i:Nat):Nat:=firstA s ((endI s (s.types.length + 1) i).getD 0)
def namedL (s:Sch):List Nat:=(List.range s.types.length).map (namedN s)
theorem Y4 (n:Nat):(List.replicate n (vL [Value.int .i64 0])).flatten=cZ (List.replicate n 0):=by
 induction n with
 | zero=>rfl
 | succ n ih=>simp only [List.replicate_succ,List.flatten_cons,ih];rfl
theorem vu {n m:Nat} {tk:List TkE} {l:List DV} {js:List Int} (h:l=cZ js):WeL n m tk l (cZ js):=by rw [h];exact sF js
abbrev U7 (s:Sch) (lc pc:List DV) (m:Int) (l:List Int) (aX e:Nat):St:=
 ⟨[(0,⟨[],.loc 0 0⟩),(2,⟨[],.ms 2 1 0 (dNms s.types).length (dNms s.types).length⟩),(3,⟨[],.v (.int .i64 aX)⟩),(18,⟨[],.sl 11 (dNms s.types) none⟩),(19,⟨[],.v (.int .i64 (dNms s.types).length)⟩),(20,⟨[],.v (.int .i64 e)⟩)],
  [bC s (.pt lc 0) (.loc 1 0) m,pc,cZ l],[]⟩
abbrev Y5 (s:Sch) (aM:List Nat) (lc:List DV) (m:Int) (l:List Int) (n e:Nat):St:=
 ⟨[(0,⟨[],.loc 0 0⟩),(2,⟨[],.ms 2 1 0 (dNms s.types).length (dNms s.types).length⟩),(40,⟨[],.v (.int .i64 (dNms s.types).length)⟩),(41,⟨[],.v (.int .i64 e)⟩)],
  [bC s (.pt lc 0) (.loc 1 0) m,pC s aM (.pt lc 0) (.v (.slice none 0 0)) (.v (.int .i64 0)) (.sl 1 (dInts ((namedL s).take e)) (some 0)),cZ l],[⟨n,3,1,none⟩]⟩
def QH (s:Sch) (aM:List Nat) (lc:List DV) (m:Int) (_:DV) (os:List (List DV)) (_:List TkE):Prop:=
 os=[bC s (.pt lc 0) (.loc 1 0) m,pC s aM (.pt lc 0) (.v (.slice none 0 0)) (.v (.int .i64 0)) (.sl 1 (dInts (namedL s)) none)]
theorem U8 {l:List Int} {i:Nat} {z:Int} (h:l[i]? = some z):(cZ l)[i]? = some (DV.v (.int .i64 z)):=by simp [cZ,h]
theorem Eo (s:Sch) (lc:List DV) (aM:List Nat) (m:Int) (hT:iT (tL s) aM) (jQ:aM.length<=1099511627776) (hl:s.types.length<=64) (hr:∀ x∈s.types,uX s x.2=true) (hs:nmsWt s.types<=1099511627776)
  (hlo:∀ i,i < s.types.length->∃ k,endI s (s.types.length + 1) i=some k) :
  Ev prog 42 [.loc 0 0] [bC s (.pt lc 0) (.loc 1 0) m,Ha s aM lc] [] (QH s aM lc m):=by
 have hN:=eo s.types
 have UD:∀ x∈s.types,x.2.wt<=1099511627776:=fun x hx=>by
  have:=il hx;omega
 have Y6:=An s;have BE:=fun {k:Nat} {x:Wd × Ty}=>@oh s k x;have fv:(namedL s).length=s.types.length:=by simp [namedL]
 have ld:=fun (e0:DV)=>El s (.pt lc 0) aM (.pt lc 0) (.v (.slice none 0 0)) (.v (.int .i64 0)) e0 m hT jQ hl hr;obtain ⟨ae,order,types,⟨rh,rp⟩⟩:=s;simp only at hl hr hN hs UD Y6 BE fv ld hlo;have hN2:(dNms (⟨ae,order,types,.mk rh rp⟩:Sch).types).length=types.length:=hN;refine eG 66 [] func42 rfl ntmps42 rfl fun _ _ _ _=>?_;refine ⟨⟨rfl,by omega,by omega,by omega⟩,?_⟩
 refine bz (fun j st=>∃ (e:Nat) (l:List Int),st=U7 ⟨ae,order,types,.mk rh rp⟩ lc (Ha ⟨ae,order,types,.mk rh rp⟩ aM lc) m l (firstA ⟨ae,order,types,.mk rh rp⟩ e) e/\e<=types.length/\l.length=types.length/\(∀ i:Nat,i < e->l[i]? = some (firstA ⟨ae,order,types,.mk rh rp⟩ i:Int))/\j=types.length - e) types.length
  (U7 ⟨ae,order,types,.mk rh rp⟩ lc (Ha ⟨ae,order,types,.mk rh rp⟩ aM lc) m (List.replicate ((dNms types).length:Int).toNat 0) (firstA ⟨ae,order,types,.mk rh rp⟩ 0) 0) (au 3 rfl (by repeat' (first | exact rfl | exact az rfl | exact vu (Y4 _) | refine ⟨_,_,rfl,?_,?_⟩)) rfl rfl rfl (by repeat' (first | exact trivial | exact az rfl | exact vu (Y4 _) | refine ⟨⟨_,rfl,?_⟩,?_⟩))) ⟨0,_,rfl,by omega,by simp [hN],fun _ h=>by omega,by omega⟩ ?_
 rintro j st ⟨e,l,rfl,he,xA,Wo,rfl⟩;refine br ?_ ?_<;>intro hL
 ·have ap:e < types.length:=by have:=hL;simp [hN] at this;exact this
  obtain ⟨x,hx⟩:=gX ap;have SY:=UD x (mG hx);have Lq:=BE hx;have LA:=Y6 (e + 1);obtain ⟨xw,⟨xh,xp⟩⟩:=x;have hnd:=xx (Ty.mk xh xp).wt (.mk xh xp) (aR _) SY;refine iX (dNms_get hx) ?_;refine ⟨⟨by omega,by omega⟩,?_⟩;refine ⟨by rw [UY];omega,?_⟩;refine cP R9 hnd ?_;simp only at Lq LA
  have py:(cZ l).set (0 + (e:Int).toNat * 1) (DV.v (.int .i64 ((firstA ⟨ae,order,types,.mk rh rp⟩ e:Nat):Int)))=cZ (l.set e ((firstA ⟨ae,order,types,.mk rh rp⟩ e:Nat):Int)):=by
   rw [show 0 + (e:Int).toNat * 1=e by omega,Np]
  have C8:IntKind.i64.wrap (((firstA ⟨ae,order,types,.mk rh rp⟩ e:Nat):Int) + (Ty.mk xh xp).nn)=((firstA ⟨ae,order,types,.mk rh rp⟩ (e + 1):Nat):Int):=by
   rw [Lq,wrap64 (by omega) (by omega)];omega
  refine ⟨U7 ⟨ae,order,types,.mk rh rp⟩ lc (Ha ⟨ae,order,types,.mk rh rp⟩ aM lc) m (l.set e ((firstA ⟨ae,order,types,.mk rh rp⟩ e:Nat):Int)) (firstA ⟨ae,order,types,.mk rh rp⟩ (e + 1)) (e + 1),(au 3 rfl (by repeat' (first | exact rfl | exact az rfl | exact vu py | exact aD C8 | exact aD (aJ ap (by omega)) | refine ⟨_,_,rfl,?_,?_⟩)) rfl rfl rfl (by repeat' (first | exact trivial | exact az rfl | exact vu py | exact aD C8 | exact aD (aJ ap (by omega)) | refine ⟨⟨_,rfl,?_⟩,?_⟩))),types.length - (e + 1),by omega,e + 1,_,rfl,by omega,by rw [List.length_set];exact xA,fun i hi=>?_,rfl⟩;by_cases yN:i=e
  ·subst yN;rw [cQ (by omega)]
  ·rw [List.getElem?_set_ne (Ne.symm yN)];exact Wo i (by omega)
 ·have aQ:e=types.length:=sW hN hL;subst aQ;refine lJ (fun e=>Y5 ⟨ae,order,types,.mk rh rp⟩ aM lc m l e e) types.length (dc 3 ⟨0,3,1,none⟩ rfl rfl rfl pS rfl rfl mi) ?_;intro e he;refine br ?_ ?_<;>intro hL
  ·have ap:e < types.length:=by have:=hL;simp [hN] at this;exact this
   obtain ⟨k,hk⟩:=hlo e ap;have eC:=(rB hk).1;simp only at eC;have hE:=ld (.sl 1 (dInts ((namedL ⟨ae,order,types,.mk rh rp⟩).take e)) none) e ap;rw [hk] at hE;have hnn:namedN ⟨ae,order,types,.mk rh rp⟩ e=firstA ⟨ae,order,types,.mk rh rp⟩ k:=by unfold namedN;rw [hk];all_goals rfl
   have eZ:(namedL ⟨ae,order,types,.mk rh rp⟩)[e]? = some (firstA ⟨ae,order,types,.mk rh rp⟩ k):=by
    unfold namedL;rw [List.getElem?_map,List.getElem?_range ap,Option.map_some,hnn]
   have dK:dInts ((namedL ⟨ae,order,types,.mk rh rp⟩).take e) ++ [[DV.v (.int .i64 ((firstA ⟨ae,order,types,.mk rh rp⟩ k:Nat):Int))]]=dInts ((namedL ⟨ae,order,types,.mk rh rp⟩).take (e + 1)):=by
    rw [List.take_add_one,eZ];simp [dInts]
   refine dS ?_;refine kb en100 hE ax rfl rfl ?_;refine ⟨⟨by simp only [oz];omega,by simp only [oz];omega⟩,?_⟩
   have QI:(cZ l)[0 + (oz (some k)).toNat * 1]? = some (DV.v (.int .i64 ((firstA ⟨ae,order,types,.mk rh rp⟩ k:Nat):Int))):=by
    rw [show 0 + (oz (some k)).toNat * 1=k by simp only [oz];omega];exact U8 (Wo k eC)
   refine ⟨_,QI,?_⟩;refine ⟨by simp [bg];omega,⟨by simp [bg,maxLen];omega,by simp [bg];omega⟩,?_⟩;exact rE ⟨_,by omega,e + 1,rfl,by omega,rfl⟩ (au 3 rfl (gF (aJ ap (by omega)) dK) rfl rfl rfl (wB2 (aJ ap (by omega)) dK))
  ·have aQ:e=types.length:=sW hN hL;subst aQ;have ht:(namedL ⟨ae,order,types,.mk rh rp⟩).take types.length=namedL ⟨ae,order,types,.mk rh rp⟩:=by rw [<- fv,List.take_length]
   rw [ht];exact ⟨.tup [],[bC ⟨ae,order,types,.mk rh rp⟩ (.pt lc 0) (.loc 1 0) m,pC ⟨ae,order,types,.mk rh rp⟩ aM (.pt lc 0) (.v (.slice none 0 0)) (.v (.int .i64 0)) (.sl 1 (dInts (namedL ⟨ae,order,types,.mk rh rp⟩)) none)],ax,mj,rfl⟩
structure Ed where
 name:ByteArray
 bare:Bool
 aX:Int
 to:Int
 label:Int
 wide:Int
 ck:Int
 cn:Int
 seen:Int
 ca:Int
structure Nd where
 ag:Int
 aX:Int
 lo:Int
 hi:Int
 most:Int
 af:List ByteArray
 ak:List Ed
def Ce (e:Ed):List DV:=[.v (.string e.name),.v (.bool e.bare),.v (.int .i64 e.aX),.v (.int .i64 e.to),.v (.int .i64 e.label),.v (.int .i64 e.wide),.v (.int .i64 e.ck),.v (.int .i64 e.cn),.v (.int .i64 e.seen),.v (.int .i64 e.ca)]
def cG (l:List Ed):List (List DV):=l.map Ce
def gL (n:Nd):List DV:=[.v (.int .i64 n.ag),.v (.int .i64 n.aX),.v (.int .i64 n.lo),.v (.int .i64 n.hi),.v (.int .i64 n.most),.sl 1 (fl n.af) none,.sl 10 (cG n.ak) none]
def bq (l:List Nd):List (List DV):=l.map gL
def l5 (w:Int):Int:=if w=0 then 3 else w
def xB (lev:List Wd->Int) (p:Ph) (to:Int):Ed:=⟨p.name.s,p.bare,p.name.a,to,lev p.label,l5 p.wide,p.ck,p.cn,lev p.cl,p.ca⟩
def U9 (s:Sch) (name:ByteArray):Int:=(namedN s ((du (tL s) name).getD 0):Int)
def oi (s:Sch) (t:Ty) (k:Nat):Int:=if t.h.ag=9 then U9 s t.h.name.s else (k:Int)
def vv (s:Sch) (p:Ph) (u:Ty) (k:Nat):Int:=if p.bare then -1 else oi s u k
mutual
def ndsT (lev:List Wd->Int) (s:Sch):Ty->Nat->List Nd
 | .mk h ps,k=>if h.ag=9 then [] else ⟨h.ag,h.aX,h.lo,h.hi,h.most,aC h.af,edsP lev s ps (k + 1)⟩ :: xC lev s ps (k + 1)
def edsP (lev:List Wd->Int) (s:Sch):Pts->Nat->List Ed
 | .nil,_=>[]
 | .cons p u r,k=>xB lev p (vv s p u k) :: edsP lev s r (k + if p.bare then 0 else u.nn)
def xC (lev:List Wd->Int) (s:Sch):Pts->Nat->List Nd
 | .nil,_=>[]
 | .cons p u r,k=>(if p.bare then [] else ndsT lev s u k) ++ xC lev s r (k + if p.bare then 0 else u.nn)
end
mutual
theorem kO (lev:List Wd->Int) (s:Sch):∀ (t:Ty) (k:Nat),(ndsT lev s t k).length=t.nn
 | .mk h ps,k=>by
  simp only [ndsT,Ty.nn];split
  ·rfl
  ·rw [List.length_cons,xD lev s ps];omega
theorem xD (lev:List Wd->Int) (s:Sch):∀ (ps:Pts) (k:Nat),(xC lev s ps k).length=ps.nn
 | .nil,k=>rfl
 | .cons p u r,k=>by
  simp only [xC,Pts.nn,List.length_append,xD lev s r];split
  ·rfl
  ·rw [kO lev s u]
end
abbrev LF (s:Sch) (aM:List Nat) (lc:List DV) (n:Nat):List DV:=pC s aM (.pt lc 0) (.sl 0 (List.replicate n []) (some 0)) (.v (.int .i64 0)) (.sl 1 (dInts (namedL s)) none)
abbrev Hc (n:Nat) (base:List DV):TkE:=⟨n,105,7,some base⟩
def SZ (s:Sch) (aM:List Nat) (lc:List DV) (m:Int) (n:Nat) (base:List DV) (y:DV) (Ao:List Nd) (r:DV) (os:List (List DV)) (tk:List TkE):Prop:=
 r=y/\os=[bC s (.pt lc 0) (.loc 1 0) m,LF s aM lc (n + Ao.length)]/\tk=[Hc (n + Ao.length) (base ++ (bq Ao).flatten)]
def NG (lev:List Wd->Int) (s:Sch) (aM:List Nat) (lc:List DV) (m:Int) (t:Ty):Prop:=
 ∀ (n:Nat) (base:List DV),n + t.nn<=1099511627776->base.length=n * 7 ->
  Ev prog 43 [.loc 0 0,.agg (eE t)] [bC s (.pt lc 0) (.loc 1 0) m,LF s aM lc n] [Hc n base] (SZ s aM lc m n base (.v (.int .i64 (oi s t n))) (ndsT lev s t n))
theorem Kw {X:Lx} (hX:X.OK) (s:Sch) (aM:List Nat) (m:Int) (p:Ph) (u:Ty) (hp:p.wt<=1099511627776) (eW:p.bare=false->NG X.lev s aM (jC X.af (dz X.af X.aM) X.rows X.js) m u)
  (n:Nat) (base:List DV) (hb:p.bare=false->n + u.nn<=1099511627776) (hbl:base.length=n * 7) :
  Ev prog 102 [.loc 0 0,.agg (Gx p (eE u))] [bC s (.pt (jC X.af (dz X.af X.aM) X.rows X.js) 0) (.loc 1 0) m,LF s aM (jC X.af (dz X.af X.aM) X.rows X.js) n] [Hc n base]
   (SZ s aM (jC X.af (dz X.af X.aM) X.rows X.js) m n base (.agg (Ce (xB X.lev p (vv s p u n)))) (if p.bare then [] else ndsT X.lev s u n)):=by
 have hw1:wdsWt p.label + wdsWt p.cl<=p.wt:=by simp only [Ph.wt];omega
 have Ig:X.pd = .pt (jC X.af (dz X.af X.aM) X.rows X.js) 0:=rfl;have y7:=fun pc=>xy hX s pc m p.label (by omega);have QJ:=fun pc=>xy hX s pc m p.cl (by omega);rw [Ig] at y7 QJ;have hE:=fun to=>xB.eq_1 X.lev p to;have sf:=vv.eq_1 s p u n;generalize jC X.af (dz X.af X.aM) X.rows X.js=lc at y7 QJ eW ⊢;obtain ⟨ae,order,types,⟨rh,rp⟩⟩:=s;obtain ⟨uh,us⟩:=u;refine eG 52 [.cell 4 178] func102 rfl ntmps102 rfl fun _ _ _ _=>?_;have S0:=y7 [.pt lc 0,.sl 0 (List.replicate n []) none,.v (.int .i64 0),.pt (dz (tL ⟨ae,order,types,.mk rh rp⟩) aM) 0,.sl 1 (dInts (namedL ⟨ae,order,types,.mk rh rp⟩)) none];have S1:=QJ [.pt lc 0,.sl 0 (List.replicate n []) none,.v (.int .i64 0),.pt (dz (tL ⟨ae,order,types,.mk rh rp⟩) aM) 0,.sl 1 (dInts (namedL ⟨ae,order,types,.mk rh rp⟩)) none];apply oN (fun _=>false) 11 15 [0,1,2,3,4,5,6,7,8,9,10,11,12,13,14,15,16] [0,1,2,3,4,5,6,7,8,9,10,15,11,12,13,14,16] 4 4 mo (by decide +kernel)
 ·refine kb IC S0 ax rfl rfl ?_;refine (?_:@Eq St _ _);exact rfl
 ·refine kb IC S0 ax rfl rfl ?_;refine (⟨rfl,rfl,?_⟩:_/\_/\_)
  repeat' (first | exact trivial | refine ⟨rfl,?_⟩)
 ·rfl
 refine br ?_ ?_<;>intro hw
 ·have hw:p.wide=0:=sU hw;refine ve [4] (fun _=>false) mo (by decide +kernel) ?_;refine kb IC S1 ax rfl rfl ?_;refine br ?_ ?_<;>intro hB
  ·have hB:p.bare=false:=sU hB;refine ka 2 1 Qh rfl rfl rfl mj mj (eW hB n base (hb hB) hbl) (fun r lH dL hΦ h1 h2=>?_);obtain ⟨rfl,rfl,rfl⟩:=hΦ;refine ⟨.agg (Ce ⟨p.name.s,p.bare,p.name.a,oi ⟨ae,order,types,.mk rh rp⟩ (.mk uh us) n,X.lev p.label,3,p.ck,p.cn,X.lev p.cl,p.ca⟩),[bC ⟨ae,order,types,.mk rh rp⟩ (.pt lc 0) (.loc 1 0) m,LF ⟨ae,order,types,.mk rh rp⟩ aM lc (n + (ndsT X.lev ⟨ae,order,types,.mk rh rp⟩ (.mk uh us) n).length)],ax,mj,?_,?_,?_⟩
   ·simp [hE,vv,hB,l5,hw]
   ·simp [hB]
   ·simp [hB]
  ·have hB:p.bare=true:=sU hB;refine ⟨.agg (Ce ⟨p.name.s,p.bare,p.name.a,-1,X.lev p.label,3,p.ck,p.cn,X.lev p.cl,p.ca⟩),[bC ⟨ae,order,types,.mk rh rp⟩ (.pt lc 0) (.loc 1 0) m,LF ⟨ae,order,types,.mk rh rp⟩ aM lc n],ax,mj,?_,?_,?_⟩
   ·simp [hE,vv,hB,l5,hw]
   ·simp [hB]
   ·simp [hB,bq]
 ·have hw:¬ p.wide=0:=sU hw;refine ve [4] (fun _=>false) mo (by decide +kernel) ?_;refine kb IC S1 ax rfl rfl ?_;refine br ?_ ?_<;>intro hB
  ·have hB:p.bare=false:=sU hB;refine ka 2 1 Qh rfl rfl rfl mj mj (eW hB n base (hb hB) hbl) (fun r lH dL hΦ h1 h2=>?_);obtain ⟨rfl,rfl,rfl⟩:=hΦ;refine ⟨.agg (Ce ⟨p.name.s,p.bare,p.name.a,oi ⟨ae,order,types,.mk rh rp⟩ (.mk uh us) n,X.lev p.label,p.wide,p.ck,p.cn,X.lev p.cl,p.ca⟩),[bC ⟨ae,order,types,.mk rh rp⟩ (.pt lc 0) (.loc 1 0) m,LF ⟨ae,order,types,.mk rh rp⟩ aM lc (n + (ndsT X.lev ⟨ae,order,types,.mk rh rp⟩ (.mk uh us) n).length)],ax,mj,?_,?_,?_⟩
   ·simp [hE,vv,hB,l5,hw]
   ·simp [hB]
   ·simp [hB]
  ·have hB:p.bare=true:=sU hB;refine ⟨.agg (Ce ⟨p.name.s,p.bare,p.name.a,-1,X.lev p.label,p.wide,p.ck,p.cn,X.lev p.cl,p.ca⟩),[bC ⟨ae,order,types,.mk rh rp⟩ (.pt lc 0) (.loc 1 0) m,LF ⟨ae,order,types,.mk rh rp⟩ aM lc n],ax,mj,?_,?_,?_⟩
   ·simp [hE,vv,hB,l5,hw]
   ·simp [hB]
   ·simp [hB,bq]
def nd0 (h:Hd):List DV:=[.v (.int .i64 h.ag),.v (.int .i64 h.aX),.v (.int .i64 h.lo),.v (.int .i64 h.hi),.v (.int .i64 h.most),.sl 1 (fl (aC h.af)) none,.v (.slice none 0 0)]
theorem QK {h:Hd} {base R:List DV} {n:Nat} {x:DV} (hb:base.length=n * 7):(base ++ (nd0 h ++ R)).set (n * 7 + 6) x=base ++ ([.v (.int .i64 h.ag),.v (.int .i64 h.aX),.v (.int .i64 h.lo),.v (.int .i64 h.hi),.v (.int .i64 h.most),.sl 1 (fl (aC h.af)) none,x] ++ R):=by
 rw [List.set_append_right _ _ (by omega),hb,Nat.add_sub_cancel_left];rfl
theorem Ap (l:List Ed) (e:Ed):cG l ++ [Ce e]=cG (l ++ [e]):=by simp [cG]
theorem aT (l:List Ed):(cG l).length=l.length:=by simp [cG]
theorem rC (lev:List Wd->Int) (s:Sch):∀ (ps:Pts) (k:Nat),(edsP lev s ps k).length=ps.len
 | .nil,_=>rfl
 | .cons p u r,k=>by simp [edsP,Pts.len,rC lev s r]
abbrev Y7 (s:Sch) (aM:List Nat) (lc:List DV) (m:Int) (n:Nat) (base:List DV) (h:Hd) (ps:Pts) (q e:Nat):St:=
 ⟨[(0,⟨[],.loc 0 0⟩),(3,⟨[],.loc 2 0⟩),(7,⟨[],.v (.int .i64 n)⟩),(8,⟨[],.loc 3 0⟩),(61,⟨[],.sl 2 (bO h.af) none⟩),(62,⟨[],.v (.int .i64 (bO h.af).length)⟩),(63,⟨[],.v (.int .i64 e)⟩)],
  [bC s (.pt lc 0) (.loc 1 0) m,LF s aM lc n,eE (.mk h ps),[.v (.int .i64 h.ag),.v (.int .i64 h.aX),.v (.int .i64 h.lo),.v (.int .i64 h.hi),.v (.int .i64 h.most),.sl 1 (fl (aC (h.af.take e))) (some 1),.v (.slice none 0 0)]],
  [Hc n base,⟨q,9,1,none⟩]⟩
abbrev NH (s:Sch) (aM:List Nat) (lc:List DV) (m:Int) (n:Nat) (h:Hd) (ps:Pts) (n':Nat) (rD:List DV) (Es:List Ed) (q1 q2 e:Nat):St:=
 ⟨[(0,⟨[],.loc 0 0⟩),(3,⟨[],.loc 2 0⟩),(7,⟨[],.v (.int .i64 n)⟩),(11,⟨[],.sl 10 (cG Es) (some 2)⟩),(92,⟨[],.sl 18 (gA ps) none⟩),(93,⟨[],.v (.int .i64 (gA ps).length)⟩),(94,⟨[],.v (.int .i64 e)⟩)],
  [bC s (.pt lc 0) (.loc 1 0) m,LF s aM lc n',eE (.mk h ps)],
  [Hc n' rD,⟨q1,9,1,none⟩,⟨q2,178,10,none⟩]⟩
theorem mW {X:Lx} {L:List ByteArray} {h:Hd} {ps:Pts} (hk:(knT X L (.mk h ps)).1=0):(h.ag=9->du L h.name.s≠none)/\(knP X L ps).1=0:=by
 rw [knT] at hk;split at hk
 ·cases hk
 ·rename_i h1;exact ⟨fun h9 hn=>h1 ⟨h9,hn⟩,hk⟩
theorem ti {X:Lx} {L:List ByteArray} {p:Ph} {u:Ty} {r:Pts} (hk:(knP X L (.cons p u r)).1=0):(p.bare=false->(knT X L u).1=0)/\(knP X L r).1=0:=by
 rw [knP] at hk;split at hk
 ·rename_i h1;exact (h1 hk).elim
 ·split at hk
  ·rename_i h1;exact (h1 hk).elim
  ·split at hk
   ·rename_i h1;exact ⟨(fun h2=>by rw [h1] at h2;cases h2),hk⟩
   ·split at hk
    ·rename_i h1;exact (h1 hk).elim
    ·rename_i h1;exact ⟨fun _=>by simpa using h1,hk⟩
theorem Aq {X:Lx} (hX:X.OK) (s:Sch) (aM:List Nat) (m:Int) (hT:iT (tL s) aM) (jQ:aM.length<=1099511627776):∀ (k:Nat) (t:Ty),t.wt<=k->t.wt<=1099511627776->(knT X (tL s) t).1=0 ->
  NG X.lev s aM (jC X.af (dz X.af X.aM) X.rows X.js) m t
 | 0,t,hn,_,_=>by have:=t.eJ;omega
 | k + 1,.mk h ps,hn,cL,Io=>by
  have ih:=Aq hX s aM m hT jQ k;intro n base hnb hbl;obtain ⟨hk9,Va⟩:=mW Io;have aZ:=fun (p:Ph) (u:Ty)=>Kw hX s aM m p u;generalize jC X.af (dz X.af X.aM) X.rows X.js=lc at ih aZ ⊢;simp only [Ty.wt,Hd.wt] at hn cL;have nv:=ps.gz;have fv:=bL h.af;have hf:=jv (tL s) aM h.name.s hT jQ;have gZ:=kN s;have hnmL:(namedL s).length=s.types.length:=by simp [namedL]
  have QL:oi s (.mk h ps) n=if h.ag=9 then U9 s h.name.s else (n:Int):=rfl
  have Kx:ndsT X.lev s (.mk h ps) n=if h.ag=9 then [] else ⟨h.ag,h.aX,h.lo,h.hi,h.most,aC h.af,edsP X.lev s ps (n + 1)⟩ :: xC X.lev s ps (n + 1):=by rw [ndsT]
  have hnn:(Ty.mk h ps).nn=if h.ag=9 then 0 else 1 + ps.nn:=by rw [Ty.nn]
  generalize hS:s=S at *;subst hS;obtain ⟨ae,order,types,⟨rh,rp⟩⟩:=s;refine eG 117 [.tmp 4] func43 rfl ntmps43 rfl fun _ _ _ _=>?_;refine br ?_ ?_<;>intro h9
  ·have h9:h.ag=9:=sU h9;obtain ⟨i,hi⟩:=Option.ne_none_iff_exists'.1 (hk9 h9);have DP:=(dD hi).1;rw [hi] at hf;rw [ai h9] at QL Kx
   have eZ:(namedL ⟨ae,order,types,.mk rh rp⟩)[i]? = some (namedN ⟨ae,order,types,.mk rh rp⟩ i):=by
    unfold namedL;rw [List.getElem?_map,List.getElem?_range (by omega)];rfl
   refine dI ?_;refine cD wu hf ?_;refine iX (aG eZ) ?_;refine ⟨.v (.int .i64 (namedN ⟨ae,order,types,.mk rh rp⟩ i:Nat)),[bC ⟨ae,order,types,.mk rh rp⟩ (.pt lc 0) (.loc 1 0) m,LF ⟨ae,order,types,.mk rh rp⟩ aM lc n],ax,mj,?_,?_,?_⟩
   ·rw [QL,U9,hi];rfl
   ·rw [Kx];rfl
   ·rw [Kx];simp [bq]
  have h9:¬ h.ag=9:=sU h9;rw [ah h9] at QL Kx hnn;have eB:(List.replicate n ([]:List DV)).length=n:=List.length_replicate;refine lJ (fun e=>Y7 ⟨ae,order,types,.mk rh rp⟩ aM lc m n base h ps e e) h.af.length (dc 4 ⟨0,9,1,none⟩ rfl rfl rfl (ny eB) rfl rfl (dt eB)) ?_;intro e he;refine br ?_ ?_<;>intro hL
  ·have ap:e < h.af.length:=by simpa [aA] using hL
   obtain ⟨w,hw⟩:=gX ap;have dK:=kk hw;refine ⟨kH w,⟨by omega,aY hw⟩,?_⟩;refine ⟨by simp [ct,aC];omega,⟨by simp [ct,aC,maxLen];omega,by simp [ct,aC];omega⟩,?_⟩;exact rE ⟨_,by omega,e + 1,rfl,by omega,rfl⟩ (au 4 rfl (gF (aJ ap (by omega)) dK) rfl rfl rfl (wB2 (aJ ap (by omega)) dK))
  have aQ:e=h.af.length:=by have:=hL;simp [aA] at this;omega
  subst aQ;rw [List.take_length];refine dS ?_;refine ⟨⟨⟨eB,by simp⟩,by simp [maxLen];omega,by simp;omega⟩,?_⟩
  refine bz (fun j st=>∃ (e n':Nat) (rD:List DV) (Es:List Ed) (K:List Nd),st=NH ⟨ae,order,types,.mk rh rp⟩ aM lc m n h ps n' rD Es h.af.length e e/\e<=ps.len/\n'=n + 1 + K.length/\rD=base ++ (nd0 h ++ (bq K).flatten)/\Es.length=e /\
    K ++ xC X.lev ⟨ae,order,types,.mk rh rp⟩ (ps.drop e) (n + 1 + K.length)=xC X.lev ⟨ae,order,types,.mk rh rp⟩ ps (n + 1)/\Es ++ edsP X.lev ⟨ae,order,types,.mk rh rp⟩ (ps.drop e) (n + 1 + K.length)=edsP X.lev ⟨ae,order,types,.mk rh rp⟩ ps (n + 1)/\K.length + (ps.drop e).nn=ps.nn/\(knP X (tL ⟨ae,order,types,.mk rh rp⟩) (ps.drop e)).1=0/\j=ps.len - e) ps.len
   (NH ⟨ae,order,types,.mk rh rp⟩ aM lc m n h ps (n + 1) (base ++ (nd0 h ++ [])) [] h.af.length 0 0) (dc 3 ⟨0,178,10,none⟩ rfl rfl rfl pS rfl rfl mi) ⟨0,n + 1,_,[],[],rfl,by omega,rfl,rfl,rfl,rfl,rfl,by simp [Pts.drop],Va,by omega⟩ ?_
  rintro j st ⟨e,n',rD,Es,K,rfl,he,RZ,gv,V8,hK,Vb,hKn,Eg,rfl⟩
  have hbl':rD.length=n' * 7:=by
   have:∀ l:List Nd,(bq l).flatten.length=l.length * 7:=by
    intro l
    induction l with
    | nil=>rfl
    | cons a r ih=>simp only [bq,List.map_cons,List.flatten_cons,List.length_append,List.length_cons] at ih ⊢;rw [ih];simp only [gL,List.length_cons,List.length_nil];omega
   rw [gv,List.length_append,List.length_append,this,hbl,RZ];simp only [nd0,List.length_cons,List.length_nil];omega
  refine br ?_ ?_<;>intro hL
  ·have ap:e < ps.len:=by simpa [aO] using hL
   obtain ⟨p,u,hx⟩:=Pts.fc ap;have yO:=Pts.gV (mG hx);rw [Pts.drop_cons hx] at hK Vb hKn Eg;obtain ⟨jU,Mc⟩:=ti Eg;simp only [xC] at hK;simp only [edsP] at Vb;simp only [Pts.nn] at hKn;rw [<- RZ] at hK Vb;have Gl:=u.hU;have huc:=u.ff;have dO:=aZ p u (by omega) (fun hB=>ih u (by omega) (by omega) (jU hB)) n' rD (fun hB=>by rw [hB] at hKn;simp only [Bool.false_eq_true,if_false] at hKn;omega) hbl';have Y8:=kO X.lev ⟨ae,order,types,.mk rh rp⟩ u n';obtain ⟨uh,us⟩:=u;refine iX (cp hx) ?_;refine ka 2 1 XF rfl rfl rfl mj mj dO (fun r lH dL hΦ h1 h2=>?_);obtain ⟨rfl,rfl,rfl⟩:=hΦ;refine ⟨by rw [aT,V8],⟨by simp [aT,V8,maxLen];omega,by simp [aT,V8];omega⟩,?_⟩
   have Vc:(if p.bare then [] else ndsT X.lev ⟨ae,order,types,.mk rh rp⟩ (.mk uh us) n').length=if p.bare then 0 else (Ty.mk uh us).nn:=by
    split
    ·rfl
    ·exact Y8
   have S2:n + 1 + (K.length + (if p.bare then 0 else (Ty.mk uh us).nn))=n' + if p.bare then 0 else (Ty.mk uh us).nn:=by rw [RZ];omega
   refine ⟨NH ⟨ae,order,types,.mk rh rp⟩ aM lc m n h ps (n' + (if p.bare then [] else ndsT X.lev ⟨ae,order,types,.mk rh rp⟩ (.mk uh us) n').length) (rD ++ (bq (if p.bare then [] else ndsT X.lev ⟨ae,order,types,.mk rh rp⟩ (.mk uh us) n')).flatten) (Es ++ [xB X.lev p (vv ⟨ae,order,types,.mk rh rp⟩ p (.mk uh us) n')]) h.af.length (e + 1) (e + 1),(au 3 rfl (by repeat' (first | exact rfl | exact az rfl | exact aD (aJ ap (by omega)) | exact cO (Ap _ _) rfl | refine ⟨_,_,rfl,?_,?_⟩)) rfl rfl rfl (by repeat' (first | exact trivial | exact az rfl | exact aD (aJ ap (by omega)) | exact cO (Ap _ _) rfl | refine ⟨⟨_,rfl,?_⟩,?_⟩))),
    ps.len - (e + 1),by omega,e + 1,_,_,_,K ++ (if p.bare then [] else ndsT X.lev ⟨ae,order,types,.mk rh rp⟩ (.mk uh us) n'),rfl,by omega,?_,?_,?_,?_,?_,?_,Mc,rfl⟩
   ·rw [List.length_append,RZ];omega
   ·rw [gv];simp [bq]
   ·simp [V8]
   ·rw [List.length_append,Vc,List.append_assoc,S2];exact hK
   ·rw [List.length_append,Vc,List.append_assoc,S2];exact Vb
   ·rw [List.length_append,Vc];omega
  ·have aQ:e=ps.len:=by have:=hL;simp [aO] at this;omega
   subst aQ;rw [Pts.dH] at hK Vb;simp only [xC,List.append_nil] at hK;simp only [edsP,List.append_nil] at Vb;have hKl:K.length=ps.nn:=by rw [hK,xD]
   have Vd:(List.replicate n' ([]:List DV)).length=n':=List.length_replicate;refine Kq (kt:=0) ⟨rfl,rfl⟩ ⟨rfl,rfl,rfl⟩ ⟨rfl,rfl,rfl⟩ rfl rfl rfl rfl rfl rfl rfl rfl rfl rfl rfl Vd ⟨by omega,by omega⟩ (by decide) ?_;have Y9:n + (ndsT X.lev ⟨ae,order,types,.mk rh rp⟩ (.mk h ps) n).length=n':=by rw [Kx,List.length_cons,<- hK,RZ];omega
   have sC:rD.set ((n:Int).toNat * 7 + 6) (.sl 10 (cG Es) none)=base ++ (bq (ndsT X.lev ⟨ae,order,types,.mk rh rp⟩ (.mk h ps) n)).flatten:=by
    rw [gv,show (n:Int).toNat=n by omega,QK hbl,Kx,Vb,hK];rfl
   refine ⟨.v (.int .i64 n),[bC ⟨ae,order,types,.mk rh rp⟩ (.pt lc 0) (.loc 1 0) m,LF ⟨ae,order,types,.mk rh rp⟩ aM lc n'],ax,mj,?_,?_,?_⟩
   ·rw [QL]
   ·rw [Y9]
   ·rw [Y9,<- sC];rfl
end Go.Proofs.YtadhpeooehkklaaGreat
namespace Go.Proofs.YtadhpeooehkklaaGreat
namespace Dv
open Go Go.RowKit
section
variable {X:Ctx} {st:St} {k:List It} {E:En} {a:Act} {w:World} {ops:Array Oper} {W:Nat->Bool} {C:World->Prop} {Q:Act->World->Prop} {i:Nat} {r:List Nat} {o:Oper}
theorem fW (hg:o.guard=none):Region.wanted o (yielded ops a.tmps)=true:=by
 unfold Region.wanted;rw [hg]
theorem QM {bx:List (List DV)} {wr:World} (h:Rel X E st a w) (hE:sH E bx wr) (hC:∀ w',C w' -> CC E bx wr w'):Rl E bx C st.sl a where
 tm:=h.tm
 fk:=fun i cs hi=>by
  by_cases bp:cs=[]
  ·subst bp;have ap:i < E.β.length:=by rw [hE.len];exact (gS hi).1
   exact ⟨_,[],gE ap,⟨c9 _,by simp⟩,fun w' _ j u hj=>by simp at hj⟩
  ·obtain ⟨b,ty,arr,hb,hw,hc⟩:=hE.fk i cs hi bp;exact ⟨b,arr,hb,hc,fun w' h' j u hj=>by rw [cS (((hC w' h').o i b cs hb hi bp).trans hw)];simpa using hj⟩
 cc:=fun x v hx w' h'=>(hC w' h').c x v hx
theorem QN {bx:List (List DV)} (h:Env E bx w) (m:List Nat):sH E (maskL m 0 bx) w:=⟨by rw [sI];exact h.len,fun i cs hi bp=>by
 rcases sJ m _ _ _ _ hi with h1 | h1
 ·exact (bp h1).elim
 ·exact h.fk i cs h1⟩
theorem mX (hR:Rel X E st a w) (ho:ops[i]? = some o) (hE:gq o.op=false) (hL:j7 o.op=false) (hg:o.guard=none) {s:DV} (hs:pureT X.P X.T ⟨st.sl,[],[]⟩ [] o.op=some s) (hd:gp X.nt st.sl o.dst=true)
  (hk:∀ a',Rel X E (st.put o.dst ⟨[],s⟩) a' w->runT X.P ops W C Q r a' w):runT X.P ops W C Q (i :: r) a w:=by
 have eB:Rl E [] (fun _=>False) st.sl a:=⟨hR.tm,fun i cs hi=>by simp at hi,fun _ _ _ _ h=>h.elim⟩;obtain ⟨v,hv,cv⟩:=jf (st:=⟨st.sl,[],[]⟩) X.hT eB (bF _) hs;simp only [runT,ho,hE,Bool.false_eq_true,if_false];exact ⟨v,.inl ⟨fW hg,fun w' _=>cv w' fun h=>by rw [hL] at h;cases h⟩,fun h=>(by rw [hL] at h;cases h),hk _ (bG hR hd s v hv)⟩
theorem QO (hR:Rel X E st a w) (ho:ops[i]? = some o) {bx:List (List DV)} (eB:Rl E bx C st.sl a) (Uf:C w) (hE:gq o.op=false) (hg:o.guard=none) {s:DV} (hs:pureT X.P X.T ⟨st.sl,bx,[]⟩ [] o.op=some s) (hd:gp X.nt st.sl o.dst=true)
  (hk:∀ a',Rel X E (st.put o.dst ⟨[],s⟩) a' w->runT X.P ops W C Q r a' w):runT X.P ops W C Q (i :: r) a w:=by
 obtain ⟨v,hv,cv⟩:=jf (st:=⟨st.sl,bx,[]⟩) X.hT eB (bF _) hs;simp only [runT,ho,hE,Bool.false_eq_true,if_false];exact ⟨v,.inl ⟨fW hg,fun w' h=>cv w' h⟩,fun _=>Uf,hk _ (bG hR hd s v hv)⟩
theorem QP (hR:Rel X E st a w) (ho:ops[i]? = some o) {t x d:Nat} {b p j:Nat} {n:Nat} {kd:TK} {z:List Value} (hb:E.β[j]? = some b) (qB:o.op = .load t (.tmp x)) (jj:o.dst=some d) {i2 He b2:Nat} (lh:E.β[i2]? = some b2) (hx:rv st [] (.tmp x)=some (.loc i2 p)) (hT:X.T.find t=some ⟨n,false,kd,z⟩)
  (hC:∀ w',C w' -> w'.cell? ⟨b2,p,none⟩=some (.pointer (some ⟨b,He,none⟩))) (Uf:C w) (hg:o.guard=none) (hd:gp X.nt st.sl (some d)=true)
  (hk:∀ a',Rel X E ⟨(d,⟨[],.loc j He⟩) :: st.sl,st.bx,st.tk⟩ a' w->runT X.P ops W C Q r a' w):runT X.P ops W C Q (i :: r) a w:=by
 have hE:gq o.op=false:=by rw [qB];all_goals rfl
 simp only [runT,ho,hE,Bool.false_eq_true,if_false];have hv:Rv E (.loc j He) (.pointer (some ⟨b,He,none⟩)):=by unfold Rv;exact ⟨b,hb,rfl⟩
 refine ⟨.pointer (some ⟨b,He,none⟩),.inl ⟨fW hg,fun w' h=>?_⟩,fun _=>Uf,?_⟩
 ·have Uc:=hC w' (h (by rw [qB];rfl));have e1:=bh hR.rl hx;unfold Rv at e1;obtain ⟨b3,R1,e1⟩:=e1;rw [lh] at R1;simp only [oI] at R1;subst R1;have PO:=(te_parts X.hT hT).2.1
  have hl:(loadVar t ⟨b2,p,none⟩).run X.P w' = .ok (.pointer (some ⟨b,He,none⟩)) w':=by
   simp [loadVar,ku PO,Uc]
  simp only [execOp,qB,e1,Sem.run_bind,Instr.loadAt,Instr.sureAddr,Sem.run_pure,Result.andThen_ok,hl]
 ·rw [jj];exact hk _ (bG hR hd (.loc j He) _ hv)
theorem Ky (hR:Rel X E st a w) (ho:ops[i]? = some o) {dst:Option Nat} {f:Operand} {args:Array Operand} {tys:Array TypeId} (qB:o.op = .call ⟨.value f,args,tys⟩) (jj:o.dst=dst) (hg:o.guard=none) {g:FuncId} {ds:List DV} (hf:rv st [] f=some (.fn g [] [])) (hl:argsV st [] args.toList=some ds) (mC:Enters X.P g)
  {K:Value->World->Prop} (hc:∀ vs,RvL E ds vs->Calls X.P g vs.toArray w fun e w'=>∃ v,e = .returned v/\K v w') (hk:∀ v w',K v w' -> (W i=false->C w->C w')/\runT X.P ops W C Q r (a.put dst v) w'):runT X.P ops W C Q (i :: r) a w:=by
 have hE:gq o.op=true:=by rw [qB];all_goals rfl
 have Wp:=fW (ops:=ops) (a:=a) hg;have eB:=hR.rl;have e1:=bh eB hf;unfold Rv at e1;obtain ⟨l1,r1,e1,y7,hr1⟩:=e1;simp only [RvL] at y7 hr1;subst y7 hr1;have hargs:=je eB (bF _) _ _ hl;simp only [runT,ho,hE,if_true,dP,Wp];subst jj;obtain ⟨dst,op,ty,pos,after,gu⟩:=o;simp only at qB;subst qB
 have hr:(execOp a.eval ⟨dst,.call ⟨.value f,args,tys⟩,ty,pos,after,gu⟩).run X.P w = .ok (.enter g (args.toList.map a.eval).toArray) w:=by
  have e3:(([]:List Value).toArray ++ args.map a.eval ++ ([]:List Value).toArray)=(args.toList.map a.eval).toArray:=by apply Array.ext';simp
  simp only [execOp,resolve,e1,Deferred.ofValue,Sem.run_bind,Sem.run_pure,Result.andThen_ok,invoke,e3];exact mC _ _
 unfold wq;rw [hr];refine (hc _ hargs).mono ?_;rintro e w' ⟨v,rfl,hK⟩;exact ⟨v,rfl,hk v w' hK⟩
theorem QQ (hR:Rel X E st a w) (ho:ops[i]? = some o) {dst:Option Nat} {f:Operand} {args:Array Operand} {tys:Array TypeId} (qB:o.op = .call ⟨.value f,args,tys⟩) (jj:o.dst=dst) (hg:o.guard=none) {g:FuncId} {ds Ux:List DV} (hf:rv st [] f=some (.fn g [] [])) (hl:argsV st [] args.toList=some ds) (mC:Enters X.P g)
  {os:List (List DV)} (n1 m1:Nat) (zt:Nat.ble n1 st.bx.length=true) (kj:Nat.ble m1 st.tk.length=true) (sx:nP [] n1 n1 m1 os (st.bx.take n1)) (ha:CcL [] n1 n1 m1 Ux ds)
  {Φ:DV->List (List DV)->List TkE->Prop} (hc:Ev X.P g Ux os (st.tk.take m1) Φ) (aW:X.still=false) (hX:X.bt=[])
  (hk:∀ v r' lH dL E' w',Φ r' lH dL -> lH.length=n1->dL.length=m1->Rel X E' ⟨st.sl,lH ++ st.bx.drop n1,dL ++ st.tk.drop m1⟩ a w' -> Rv E' r' v->Ext E E' -> E'.β=E.β->(∀ (i:Nat) b,n1<=i->E.β[i]? = some b->w'.heap[b]? = w.heap[b]?) ->
   (W i=false->C w->C w')/\runT X.P ops W C Q r (a.put dst v) w'):runT X.P ops W C Q (i :: r) a w:=by
 refine Ky hR ho qB jj hg hf hl mC (K:=fun v w'=>∃ r' lH dL E',Φ r' lH dL /\ lH.length=n1/\dL.length=m1/\Rel X E' ⟨st.sl,lH ++ st.bx.drop n1,dL ++ st.tk.drop m1⟩ a w' /\ Rv E' r' v/\Ext E E' /\ E'.β=E.β/\∀ (i:Nat) b,n1<=i->E.β[i]? = some b->w'.heap[b]? = w.heap[b]?)
  (fun vs hv=>?_) ?_
 ·refine (D9 n1 m1 zt kj sx ha hc aW hX hR hv).mono ?_;rintro e w' ⟨v,r',lH,dL,E',rfl,h⟩;exact ⟨v,rfl,r',lH,dL,E',h⟩
 ·rintro v w' ⟨r',lH,dL,E',h1,h2,h3,h4,h5,h6,h7,h8⟩;exact hk v r' lH dL E' w' h1 h2 h3 h4 h5 h6 h7 h8
theorem QR (h:Rel X E st a w) (j o k:Nat) {n ty e:Nat} {ocs:List DV} {es ns:List (List DV)} (hq:st.tk[k]? = some ⟨n,ty,e,some ns.flatten⟩) (yM:∀ x∈ns,x.length=e) (fv:ns.length=n) (hj:st.bx[j]? = some ocs) (ho:ocs[o]? = some (.sl 0 es (some k))) (gD:es.length=n) :
  ∃ E',Rel X E' ⟨st.sl,st.bx.set j (ocs.set o (.sl e ns none)),st.tk.set k ⟨n,ty,e,none⟩⟩ a w:=GY hq yM fv hj ho gD E a w h
theorem Kz (hR:Rel X E st a w) (ho:ops[i]? = some o) (hE:gq o.op=true) (hg:o.guard=none) (hW:W i=true) (hd:gp X.nt st.sl o.dst=true) {p:Prop} (hp:effC X st o (go X 4000 k)=some p) (h:p):runT X.P ops W C (fun a w=>kq X k .normal a w) [i] a w:=by
 have Wp:=fW (ops:=ops) (a:=a) hg;simp only [runT,ho,hE,if_true,dP,Wp];refine mA ?_ (mB hd hR hp h);rintro a' w' ⟨st',E',iv,hr,_⟩;exact ⟨(fun h=>by rw [hW] at h;cases h),go_sound 4000 _ _ iv _ _ _ hr⟩
mutual
theorem tj {i j:Nat}:∀ d:DV,renD (swp i j) (renD (swp i j) d)=d
 | .v x=>rfl
 | .ud=>rfl
 | .agg l=>by simp only [renD,kp]
 | .tup l=>by simp only [renD,kp]
 | .sl e es tk=>rfl
 | .pt cs o=>rfl
 | .loc k o=>by simp only [renD,lk]
 | .el k o=>by simp only [renD,lk]
 | .ms k e o l c=>by simp only [renD,lk]
 | .fn g l r=>by simp only [renD,kp]
 | .sq t x=>by simp only [renD,tj]
theorem kp {i j:Nat}:∀ l:List DV,renL (swp i j) (renL (swp i j) l)=l
 | []=>rfl
 | d :: r=>by simp only [renL,tj,kp]
end
theorem Ar {i j:Nat}:∀ l:List (Nat × Sl),renS (swp i j) (renS (swp i j) l)=l
 | []=>rfl
 | (k,⟨gs,s⟩) :: r=>by simp only [renS,tj,Ar]
theorem As {i j:Nat}:∀ l:List (List DV),renO (swp i j) (renO (swp i j) l)=l
 | []=>rfl
 | c :: r=>by simp only [renO,kp,As]
theorem NI {i j:Nat} (f:Nat->Nat) (l:List (List DV)) (hi:i < l.length) (hj:j < l.length):renO f (swL i j l)=swL i j (renO f l):=by
 apply List.ext_getElem?;intro k;rw [q8,fb hi hj,fb (by rw [cX];exact hi) (by rw [cX];exact hj),q8]
theorem Ep {i j:Nat} {S:St} (hi:i < S.bx.length) (hj:j < S.bx.length):dX i j (dX i j S)=S:=by
 obtain ⟨sl,bx,tk⟩:=S;simp only [dX,Ar];rw [NI _ _ (by rw [cX];exact hi) (by rw [cX];exact hj),As];congr 1;apply List.ext_getElem?;intro k;rw [fb (by rw [dh];exact hi) (by rw [dh];exact hj),fb hi hj,lk]
theorem ie.Za {f:FuncId} {args:List DV} {dst:Option Nat} (i j:Nat) (Ln:Nat.ble X.n0 i=true) (y5:Nat.ble X.n0 j=true) (hi:Nat.blt i st.bx.length=true) (hj:Nat.blt j st.bx.length=true)
  (h:ie X f (renL (swp i j) args) dst k (dX i j st)) (hX:X.bt=[]:=by exact rfl):ie X f args dst k st:=by
 have eQ:=hi;have gw:=hj;simp only [Nat.blt_eq] at eQ gw;have hl:(dX i j st).bx.length=st.bx.length:=by simp only [dX,dh,cX]
 exact ie.Gu i j (Ep eQ gw).symm (kp args).symm Ln y5 (by rw [hl];exact hi) (by rw [hl];exact hj) h hX
theorem Hf {P:Program} {t e:TypeId} (hu:P.underlying t=some (.slice e)) (d:Nat) (x:Option Addr) (n c:Nat) (w:World):(Op.equalIn (d + 1) t (.slice x n c) (.slice none 0 0)).run P w = .ok x.isNone w:=by
 cases x<;>simp [Op.equalIn,run_underlying hu]
theorem NJ {P:Program} {t e:TypeId} (hu:P.underlying t=some (.slice e)) (x:Option Addr) (n c:Nat) (w:World):(Op.equal t (.slice x n c) (.slice none 0 0)).run P w = .ok x.isNone w:=Hf hu 9999 x n c w
theorem NK {t d e:Nat} {x:Operand} {es:List (List DV)} {tk:Option Nat} {n et e' jZ:Nat} {bb:Bool} {z:List Value} (qB:∃ t',o.op = .binOp .eql t x (.const (.slice none 0 0)) t') (jj:o.dst=some d) (hx:rv st [] x=some (.sl e es tk)) (hT:X.T.find t=some ⟨n,bb,.sl et e' jZ,z⟩) (hd:gp X.nt st.sl (some d)=true)
  (hk:∀ b:Bool,(es ≠ []->b=false)->go X 4000 k ⟨(d,⟨[],.v (.bool b)⟩) :: st.sl,st.bx,st.tk⟩):Lm X o k st:=by
 intro E a w h;obtain ⟨t',qB⟩:=qB;have e1:=bh h.rl hx;unfold Rv at e1;obtain ⟨b,m,cap,e1,⟨rfl,_⟩,hr,_⟩:=e1;obtain ⟨hu,_⟩:=fu X.hT hT;have aN:=NJ hu b es.length cap w
 have cv:(execOp a.eval o).run X.P w = .ok (.value (.bool b.isNone)) w:=by
  have hc:a.eval (.const (.slice none 0 0)) = .slice none 0 0:=rfl;simp [execOp,qB,e1,hc,eqGuard,binOp,aN]
 refine lS cv ?_;rw [jj];refine go_sound 4000 _ _ (hk b.isNone fun bp=>?_) E _ w (bG h hd (.v (.bool b.isNone)) _ (by unfold Rv;exact ⟨rfl,rfl⟩));have:=pN (hr bp).1;rw [this];rfl
theorem Zb {t d et e jZ n:Nat} {bb:Bool} {z:List Value} (qB:o.op = .buildSlice t 0 #[]) (jj:o.dst=some d) (hT:X.T.find t=some ⟨n,bb,.sl et e jZ,z⟩) (hd:gp X.nt st.sl (some d)=true) (aW:X.still=false:=by exact rfl) (hX:X.bt=[]:=by exact rfl) :
  OpS X o st ⟨(d,⟨[],.sl e [] (some st.tk.length)⟩) :: st.sl,st.bx,st.tk ++ [⟨0,et,e,none⟩]⟩:=by
 intro E a w h;obtain ⟨hu,ii,zv,qQ,hz,bQ,FX,JG⟩:=fu X.hT hT;have qR:iY X.P et=some e:=by rw [gj qQ,bQ]
 have cv:(execOp a.eval o).run X.P w = .ok (.value (.slice (some ⟨w.heap.size,0,none⟩) 0 0)) (w.alloc (.cells #[] et)):=by
  have h1:(Instr.buildSlice t 0 #[]).run X.P w = .ok (.slice (some ⟨w.heap.size,0,none⟩) 0 0) (w.alloc (.cells #[] et)):=by
   have h0:Array.range 0 = #[]:=rfl;simp [Instr.buildSlice,run_underlying hu,aS qR,Instr.fill,newRow,h0]
  simp only [execOp,qB,List.map_toArray,List.map_nil,Sem.run_bind,h1,Result.andThen_ok,Sem.run_pure]
 refine eF cv ?_;rw [jj];have jU:=h.env.j8 (w':=w.alloc (.cells #[] et)) fun i hi=>alloc_old w _ hi
 let E2:En:=⟨E.c,E.β,E.tk ++ [⟨0,et,e,none⟩],E.τ ++ [.slice (some ⟨w.heap.size,0,none⟩) 0 0]⟩
 have hext:Ext E E2:=⟨fun _ _ h=>h,fun _ _ h=>h,fun k q' hk=>by
  have ap:=(gS hk).1;refine ⟨q',by show (E.tk ++ _)[k]? = _;rw [cj ap];exact hk,.inl ⟨rfl,?_⟩⟩;show (E.τ ++ _)[k]? = _
  rw [cj (by rw [h.env.tl];exact ap)]⟩
 have hτ:∀ (k:Nat) y,E2.τ[k]? = some y->(k < E.τ.length/\E.τ[k]? = some y)∨(k=E.τ.length/\y = .slice (some ⟨w.heap.size,0,none⟩) 0 0):=fun k y hy=>by
  have hy:(E.τ ++ [Value.slice (some ⟨w.heap.size,0,none⟩) 0 0])[k]? = some y:=hy;rw [List.getElem?_append] at hy;split at hy
  ·rename_i hk;exact .inl ⟨hk,hy⟩
  ·rename_i hk
   have h0:k - E.τ.length=0:=by
    rcases Nat.eq_zero_or_pos (k - E.τ.length) with h0 | h0
    ·exact h0
    ·rw [cR (by simp;omega)] at hy;cases hy
   rw [h0] at hy;simp only [List.getElem?_cons_zero,oI] at hy;exact .inr ⟨by omega,hy.symm⟩
 have gh:∀ (k:Nat) y g,E.τ[k]? = some y->y.ownBlock=some g->g < w.heap.size:=fun k y g hy hg=>(h.env.own (mG hy) hg).1
 have ch:Rel X E2 ⟨st.sl,st.bx,st.tk ++ [⟨0,et,e,none⟩]⟩ a (w.alloc (.cells #[] et)):=by
  refine dB h hext ?_ (by show E.tk ++ _=_;rw [h.tk]) ?_ (h.fr.alloc _) (nR aW) (.nil hX)
  ·exact {
    len:=h.env.len
    tl:=by show (E.τ ++ _).length=(E.tk ++ _).length;simp [h.env.tl]
    fk:=fun i cs hi=>by
     obtain ⟨b,t,arr,hb,hw,hc⟩:=jU.fk i cs hi;exact ⟨b,t,arr,hb,hw,hc.mono hext⟩
    inj:=h.env.inj
    sub:=jU.sub
    pc:=h.env.pc
    cC:=fun k q' y S3 hy=>by
     rcases hτ k y hy with ⟨ap,fA⟩ | ⟨rfl,rfl⟩
     ·have eX:(E.tk ++ [⟨0,et,e,none⟩])[k]? = some q':=S3;rw [cj (by rw [<- h.env.tl];exact ap)] at eX;exact jU.cC k q' y eX fA
     ·have eX:(E.tk ++ [⟨0,et,e,none⟩])[E.τ.length]? = some q':=S3;rw [List.getElem?_append_right (by rw [h.env.tl];exact aR _),h.env.tl] at eX;simp only [Nat.sub_self,List.getElem?_cons_zero,oI] at eX;subst eX;refine .inr ⟨w.heap.size,0,#[],rfl,ja w _,⟨by simp,qJ.none rfl⟩,aR _,Nat.zero_le _,fun hm=>?_,fun x v hx F0=>?_⟩
      ·have:=h.env.bm hm;omega
      ·have:=World.block_lt_of_cell? w x (h.env.sub x v hx);omega
    jE:=fun k k' y y' g C1 hy fA hg r7=>by
     rcases hτ k y hy with ⟨_,u9⟩ | ⟨rfl,rfl⟩
     ·rcases hτ k' y' fA with ⟨_,kZ⟩ | ⟨rfl,rfl⟩
      ·exact h.env.jE k k' y y' g C1 u9 kZ hg r7
      ·have:=gh k y g u9 hg;simp only [Value.ownBlock,oI] at r7;omega
     ·rcases hτ k' y' fA with ⟨_,kZ⟩ | ⟨rfl,rfl⟩
      ·have:=gh k' y' g kZ r7;simp only [Value.ownBlock,oI] at hg;omega
      ·exact C1 rfl }
  ·exact {
    c:=h.nw.c
    cn:=h.nw.cn
    β:=h.nw.β
    tk:=fun j q0 y0 va BA=>by
     obtain ⟨q',y',h1,h2,h3⟩:=h.nw.tk j q0 y0 va BA;exact ⟨q',y',by show (E.tk ++ _)[j]? = _;rw [cj (gS h1).1];exact h1,by show (E.τ ++ _)[j]? = _;rw [cj (gS h2).1];exact h2,h3⟩
    tn:=fun j y g hj hy hg=>by
     rcases hτ j y hy with ⟨_,u9⟩ | ⟨_,rfl⟩
     ·exact h.nw.tn j y g hj u9 hg
     ·simp only [Value.ownBlock,oI] at hg;have:=h.fr.size;omega
    l0:=h.nw.l0 }
 refine ⟨E2,bG ch hd (.sl e [] (some st.tk.length)) _ ?_,hext,⟨[],by simp [E2]⟩,fun i b hb _=>alloc_old w _ (h.env.bm (mG hb))⟩;unfold Rv;refine ⟨_,0,0,rfl,⟨rfl,aR _⟩,fun hn=>(hn rfl).elim,fun k' eX=>?_⟩;cases eX;refine ⟨⟨0,et,e,none⟩,?_,aR _,fun _=>?_⟩
 ·show (E.tk ++ _)[st.tk.length]? = _;rw [h.tk];simp
 ·show (E.τ ++ _)[st.tk.length]? = _;rw [<- h.tk,<- h.env.tl];simp
theorem Er {t d et e jZ n:Nat} {bb:Bool} {z:List Value} (qB:o.op = .buildSlice t 0 #[]) (jj:o.dst=some d) (hT:X.T.find t=some ⟨n,bb,.sl et e jZ,z⟩) (hd:gp X.nt st.sl (some d)=true) (aW:X.still=false:=by exact rfl) (hX:X.bt=[]:=by exact rfl)
  (hk:go X 4000 k ⟨(d,⟨[],.sl e [] (some st.tk.length)⟩) :: st.sl,st.bx,st.tk ++ [⟨0,et,e,none⟩]⟩):Lm X o k st:=(Zb qB jj hT hd aW hX).g hk
theorem Wk.C6 {st':St} (N:Nat) (hN:Nat.ble X.n0 N=true) (hNl:Nat.ble N st.bx.length=true) (uN:nP st.bx N N st.tk.length st'.bx (st.bx.take N)) (k0:st'.tk=st.tk) (nK:Md st.bx N st.tk.length st.sl st'.sl):Wk X st st':=fun _ _ _ h=>
 Iw h N (nL hN) (nL hNl) uN k0 nK
theorem Lm.wk {st':St} {o:Oper} (hw:Wk X st st') (hd:gp X.nt st'.sl o.dst=true) {p:Prop} (hp:effC X st' o (go X 4000 k)=some p) (h:p):Lm X o k st:=fun E a w hr=>by
 obtain ⟨E',iw⟩:=hw _ _ _ hr;refine Dk (mA ?_ (mB hd iw hp h));rintro a' w' ⟨DA,E2,iv,hr2,_⟩;exact go_sound 4000 _ _ iv _ _ _ hr2
theorem QS (h:Rel X E st a w) (aW:X.still=false) (hX:X.bt=[]) {g n ty e cap:Nat} {cur:Array Value} (hw:w.heap[g]? = some (.cells cur ty (0,0))) (bQ:cur.size=cap * e) (hn:n<=cap) (JN:cap<=maxLen) (hb:g ∉ E.β)
  (hc:∀ x v,E.c x=some v->x.block=g->x.off < n * e) (gh:∀ (k:Nat) y,E.τ[k]? = some y->y.ownBlock≠some g) (hg:X.w0.heap.size<=g) :
  Rel X ⟨E.c,E.β,E.tk ++ [⟨n,ty,e,none⟩],E.τ ++ [.slice (some ⟨g,0,none⟩) n cap]⟩ ⟨st.sl,st.bx,st.tk ++ [⟨n,ty,e,none⟩]⟩ a w:=by
 let E2:En:=⟨E.c,E.β,E.tk ++ [⟨n,ty,e,none⟩],E.τ ++ [.slice (some ⟨g,0,none⟩) n cap]⟩
 have hext:Ext E E2:=⟨fun _ _ h=>h,fun _ _ h=>h,fun k q' hk=>by
  have ap:=(gS hk).1;refine ⟨q',by show (E.tk ++ _)[k]? = _;rw [cj ap];exact hk,.inl ⟨rfl,?_⟩⟩;show (E.τ ++ _)[k]? = _
  rw [cj (by rw [h.env.tl];exact ap)]⟩
 have hτ:∀ (k:Nat) y,E2.τ[k]? = some y->(k < E.τ.length/\E.τ[k]? = some y)∨(k=E.τ.length/\y = .slice (some ⟨g,0,none⟩) n cap):=fun k y hy=>by
  have hy:(E.τ ++ [Value.slice (some ⟨g,0,none⟩) n cap])[k]? = some y:=hy;rw [List.getElem?_append] at hy;split at hy
  ·rename_i hk;exact .inl ⟨hk,hy⟩
  ·rename_i hk
   have h0:k - E.τ.length=0:=by
    rcases Nat.eq_zero_or_pos (k - E.τ.length) with h0 | h0
    ·exact h0
    ·rw [cR (by simp;omega)] at hy;cases hy
   rw [h0] at hy;simp only [List.getElem?_cons_zero,oI] at hy;exact .inr ⟨by omega,hy.symm⟩
 refine dB h hext ?_ (by show E.tk ++ _=_;rw [h.tk]) ?_ h.fr (nR aW) (.nil hX)
 ·exact {
   len:=h.env.len
   tl:=by show (E.τ ++ _).length=(E.tk ++ _).length;simp [h.env.tl]
   fk:=fun i cs hi=>by
    obtain ⟨b,t,arr,hb,hw,hc⟩:=h.env.fk i cs hi;exact ⟨b,t,arr,hb,hw,hc.mono hext⟩
   inj:=h.env.inj
   sub:=h.env.sub
   pc:=h.env.pc
   cC:=fun k q' y S3 hy=>by
    rcases hτ k y hy with ⟨ap,fA⟩ | ⟨rfl,rfl⟩
    ·have eX:(E.tk ++ [⟨n,ty,e,none⟩])[k]? = some q':=S3;rw [cj (by rw [<- h.env.tl];exact ap)] at eX;exact h.env.cC k q' y eX fA
    ·have eX:(E.tk ++ [⟨n,ty,e,none⟩])[E.τ.length]? = some q':=S3;rw [List.getElem?_append_right (by rw [h.env.tl];exact aR _),h.env.tl] at eX;simp only [Nat.sub_self,List.getElem?_cons_zero,oI] at eX;subst eX;exact .inr ⟨g,cap,cur,rfl,hw,⟨bQ,fun cs h=>by cases h⟩,hn,JN,hb,hc⟩
   jE:=fun k k' y y' g' C1 hy fA px Py=>by
    rcases hτ k y hy with ⟨_,u9⟩ | ⟨rfl,rfl⟩
    ·rcases hτ k' y' fA with ⟨_,kZ⟩ | ⟨rfl,rfl⟩
     ·exact h.env.jE k k' y y' g' C1 u9 kZ px Py
     ·simp only [Value.ownBlock,oI] at Py;subst Py;exact gh k y u9 px
    ·rcases hτ k' y' fA with ⟨_,kZ⟩ | ⟨rfl,rfl⟩
     ·simp only [Value.ownBlock,oI] at px;subst px;exact gh k' y' kZ Py
     ·exact C1 rfl }
 ·exact {
   c:=h.nw.c
   cn:=h.nw.cn
   β:=h.nw.β
   tk:=fun j q0 y0 va BA=>by
    obtain ⟨q',y',h1,h2,h3⟩:=h.nw.tk j q0 y0 va BA;exact ⟨q',y',by show (E.tk ++ _)[j]? = _;rw [cj (gS h1).1];exact h1,by show (E.τ ++ _)[j]? = _;rw [cj (gS h2).1];exact h2,h3⟩
   tn:=fun j y g' hj hy r7=>by
    rcases hτ j y hy with ⟨_,u9⟩ | ⟨_,rfl⟩
    ·exact h.nw.tn j y g' hj u9 r7
    ·simp only [Value.ownBlock,oI] at r7;omega
   l0:=h.nw.l0 }
theorem Ve {t d et e jZ n len:Nat} {bb:Bool} {z:List Value} {parts:Array (Nat × Operand)} {es:List (List DV)} (qB:o.op = .buildSlice t len parts) (jj:o.dst=some d) (hT:X.T.find t=some ⟨n,bb,.sl et e jZ,z⟩) (gD:litL e st parts.toList 0=some es)
  (hc:(Nat.beq es.length len && (Nat.blt 0 len && Nat.blt 0 e && Nat.ble (len * e) 16777216))=true) (hd:gp X.nt st.sl (some d)=true) (aW:X.still=false:=by exact rfl) (hX:X.bt=[]:=by exact rfl)
  (hk:go X 4000 k ⟨(d,⟨[],.sl e es (some st.tk.length)⟩) :: st.sl,st.bx,st.tk ++ [⟨len,et,e,none⟩]⟩):Lm X o k st:=by
 intro E a w h;simp only [aP,Nat.beq_eq,Nat.ble_eq,Nat.blt_eq] at hc;obtain ⟨hlen,⟨jT,C3⟩,hsm⟩:=hc;obtain ⟨hu,ii,zv,qQ,hz,bQ,FX,JG⟩:=fu X.hT hT;obtain ⟨xs,vs,hp,vV,yK,eS,zB,ez⟩:=mz h.rl C3 gD;subst bQ
 have F9:len * ii.size≠0:=by
  have:=Nat.mul_pos jT C3;omega
 have lP:Instr.fill (fun i=>some (i * ii.size,ii.size)) ((Array.range (len * ii.size)).map (zv.cells[·% zv.cells.size]!)) (parts.map fun (i,x)=>(i,a.eval x)).toList=some (cellsL vs).toArray:=by
  have h0:=qH ii.size vs 0 ((Array.range (len * ii.size)).map (zv.cells[·% zv.cells.size]!)).toList eS (by simp [yK,hlen])
  have h1:(parts.map fun (i,x)=>(i,a.eval x)).toList=enumF 0 vs:=by
   rw [Array.toList_map,hp,vV,<- oH]
  rw [h1];simp only [Array.toArray_toList] at h0;rw [h0];simp [yK,hlen]
 have cv:(execOp a.eval o).run X.P w = .ok (.value (.slice (some ⟨w.heap.size,0,none⟩) len len)) (w.alloc (.cells (cellsL vs).toArray et)):=by
  simp only [execOp,qB,Sem.run_bind,run_buildSlice w t et len _ _ ii zv hu qQ hz (by omega) F9 lP,Result.andThen_ok,Sem.run_pure]
 refine lS cv ?_;rw [jj];have hr:=zx (arr:=cellsL vs) h aW et
 have Au:(cellsL vs).length=len * ii.size:=by
  have:∀ l:List Value,(∀ v∈l,v.cells.toList.length=ii.size)->(cellsL l).length=l.length * ii.size:=by
   intro l
   induction l with
   | nil=>intro _;simp [cellsL]
   | cons v l ih=>
    intro hl;simp only [cellsL,List.length_append,List.length_cons];rw [ih fun x hx=>hl x (de _ hx),hl v List.mem_cons_self,Nat.succ_mul];omega
  rw [this vs eS,yK,hlen]
 have hr2:=QS (n:=len) (ty:=et) (e:=ii.size) (cap:=len) hr aW hX (g:=w.heap.size) (cur:=(cellsL vs).toArray) (ja w _) (by simp [Au]) (aR _) (by
   have:len<=len * ii.size:=Nat.le_mul_of_pos_right _ C3;unfold maxLen;omega) (fun hm=>by have:=h.env.bm hm;omega) (fun x v hx F0=>by
   have hx:iP E.c (w.alloc (.cells (cellsL vs).toArray et)) w.heap.size (cellsL vs).length x=some v:=hx;unfold iP at hx;split at hx
   ·rename_i hc;rw [<- Au];exact hc.2.2
   ·have:=World.block_lt_of_cell? w x (h.env.sub x v hx);omega) (fun j y hy hg=>by
   have:=(h.env.own (mG hy) hg).1
   omega) (h.fr.size)
 refine go_sound 4000 _ _ hk _ _ _ (bG hr2 hd (.sl ii.size es (some st.tk.length)) _ ?_);unfold Rv;refine ⟨_,_,_,rfl,⟨hlen.symm,aR _⟩,fun bp=>⟨rfl,?_⟩,fun k' eX=>?_⟩
 ·have dG:∀ x v,E.c x=some v->iP E.c (w.alloc (.cells (cellsL vs).toArray et)) w.heap.size (cellsL vs).length x=some v:=fun x v hx=>by
   have ap:=World.block_lt_of_cell? w x (h.env.sub x v hx);unfold iP;rw [ah (by omega)];exact hx
  have hm:RvC (En.cl ⟨iP E.c (w.alloc (.cells (cellsL vs).toArray et)) w.heap.size (cellsL vs).length,E.β,E.tk,E.τ⟩) es.flatten (cellsL vs):=zB.mono (Ext.TJ (E:=E) dG);refine rvEs_flat hm ez fun j u hj=>?_;show iP _ _ _ _ _=_;have gw:=(gS hj).1;simp only [ab,ao,Nat.zero_add];rw [Bz gw,cS (ja w _)];simpa using hj
 ·cases eX;refine ⟨⟨len,et,ii.size,none⟩,?_,aR _,fun _=>?_⟩
  ·show (E.tk ++ _)[st.tk.length]? = _;rw [h.tk];simp
  ·show (E.τ ++ _)[st.tk.length]? = _;rw [<- h.tk,<- h.env.tl];simp
end
end Dv
end Go.Proofs.YtadhpeooehkklaaGreat
set_option maxRecDepth 100000
namespace Go.Proofs.YtadhpeooehkklaaGreat
open Go Go.RowKit Dv Go.Proofs.Tryz
theorem qb {l:List Wd} {o:List (Wd × Wd)} (h:(latF l o).1=0):(gK l o).1=0/\(enumL l 0 l).1=0/\(numF (aC l) o).1=0/\bN (ln l.length (fy l.length (dQ (aC l) o))) l.length=none/\bN (oc (fy l.length (dQ (aC l) o)) l.length) l.length=none:=by
 unfold latF at h;split at h
 ·rename_i h1;exact (h1 h).elim
 ·rename_i h1;split at h
  ·rename_i h2;exact (h2 h).elim
  ·rename_i h2;split at h
   ·rename_i h3;exact (h3 h).elim
   ·rename_i h3;refine ⟨by simpa using h1,by simpa using h2,by simpa using h3,?_⟩;split at h
    ·cases h
    ·rename_i h4;refine ⟨h4,?_⟩;split at h
     ·cases h
     ·rename_i h5;exact h5
theorem cr {p:Nat->Bool} {n:Nat} (h:bN p n=none):∀ a,a < n->p a=false:=by
 intro a ha;unfold bN at h;rw [List.find?_eq_none] at h;have:=h a (sU ha);simpa using this
theorem om {l:List Wd} {o:List (Wd × Wd)} (h:(latF l o).1=0):gm (fy l.length (dQ (aC l) o)) l.length/\l.length<=32:=by
 obtain ⟨h1,h2,h3,h4,h5⟩:=qb h;have hP:=oW h3;rw [dW] at hP
 have Lv:l ≠ []:=by
  rintro rfl;simp [gK] at h1
 have Vf:l.length<=32:=by
  rcases Nat.lt_or_ge 32 l.length with h | h
  ·simp [gK,Lv,h] at h1
  ·exact h
 have U0:∀ a b,a < l.length->b < l.length->lZ (fy l.length (dQ (aC l) o)) l.length a b=false:=by
  have key:∀ a b,a<=b->b < l.length->lZ (fy l.length (dQ (aC l) o)) l.length a b=false:=fun a b zb hb=>by
   have:=cr h5 b hb;unfold oc at this;rw [List.any_eq_false] at this;have:=this a (by simp;omega);simpa using this
  intro a b ha hb;rcases Nat.le_total a b with h | h
  ·exact key a b h hb
  ·have:=key b a h ha;unfold lZ at this ⊢;rw [xi,xj];exact this
 refine ⟨{
  pos:=List.length_pos_iff.2 Lv
  rfl':=fun a ha=>sY hP ha
  tr:=fun a b c ha hb hc=>GX hP ha hb hc
  G5:=fun a b ha hb h6 h7=>by
   have:=cr h4 a ha;unfold ln at this;rw [List.any_eq_false] at this;have:=this b (sU hb);simp only [aP,decide_eq_true_eq,not_and] at this;rcases Nat.lt_trichotomy a b with h8 | h8 | h8
   ·exact (this (by omega) h6 h7).elim
   ·exact h8
   ·exact (this (by omega) h6 h7).elim
  jn:=fun a b ha hb=>by
   have:=U0 a b ha hb;unfold lZ at this;simp only [Bool.or_eq_false_iff,Option.isNone_eq_false_iff] at this;exact Option.isSome_iff_exists.1 this.1
  mt:=fun a b ha hb=>by
   have:=U0 a b ha hb;unfold lZ at this;simp only [Bool.or_eq_false_iff,Option.isNone_eq_false_iff] at this
   exact Option.isSome_iff_exists.1 this.2 },Vf⟩
def fX (s:Sch) (aM:List Nat) (js:List Int):Lx:=⟨aC s.ae,aM,closeR (fO s.ae.length (dQ (aC s.ae) s.order)) s.ae.length,js,fy s.ae.length (dQ (aC s.ae) s.order)⟩
theorem QT {s:Sch} {d:DV} (h:(latF s.ae s.order).1=0) (hd:U2 s.ae s.order d) (hw:s.ae.length<=1099511627776):∃ aM js,(fX s aM js).OK/\d=(fX s aM js).pd:=by
 obtain ⟨aM,js,hT,jQ,nS,vt,rfl⟩:=hd;obtain ⟨h1,h2⟩:=om h;refine ⟨aM,js,⟨hT,by show aM.length<=_;omega,?_,?_,?_⟩,rfl⟩
 ·show gm _ (aC s.ae).length;rw [dW];exact h1
 ·show (aC s.ae).length<=32;rw [dW];exact h2
 ·show ∀ x y,x < (aC s.ae).length->y < (aC s.ae).length->JM _ (aC s.ae).length js x y;rw [dW];exact vt
def jx (s:Sch) (l:List Wd):Int:=B9 (fy s.ae.length (dQ (aC s.ae) s.order)) (aC s.ae) l
def lr (s:Sch) (t:Ty):Ft:=knT ⟨aC s.ae,[],[],[],fun _ _=>false⟩ (tL s) t
mutual
theorem Av {X Y:Lx} (h:X.af=Y.af) (L:List ByteArray):∀ t:Ty,knT X L t=knT Y L t
 | .mk h1 ps=>by rw [knT,knT,Aw h L ps]
theorem Aw {X Y:Lx} (h:X.af=Y.af) (L:List ByteArray):∀ ps:Pts,knP X L ps=knP Y L ps
 | .nil=>by rw [knP,knP]
 | .cons p t r=>by
  rw [knP,knP,Aw h L r,Av h L t];unfold Lx.bad;rw [h]
end
theorem Vg (s:Sch) (aM:List Nat) (js:List Int) (t:Ty):knT (fX s aM js) (tL s) t=lr s t:=Av (X:=fX s aM js) (Y:=⟨aC s.ae,[],[],[],fun _ _=>false⟩) rfl (tL s) t
def l6 (s:Sch):Ft:=
 if (latF s.ae s.order).1≠0 then latF s.ae s.order
 else if (eK s).1≠0 then eK s
 else if (eaR s.root s.types 0).1.1≠0 then (eaR s.root s.types 0).1
 else if (eaL (lr s) (lr s s.root) s.types).1≠0 then eaL (lr s) (lr s s.root) s.types
 else loopF s
def ndsAll (lev:List Wd->Int) (s:Sch):List (Wd × Ty)->Nat->List Nd
 | [],_=>[]
 | x :: r,k=>ndsT lev s x.2 k ++ ndsAll lev s r (k + x.2.nn)
def rF (s:Sch):List Nd:=ndsAll (jx s) s s.types 0
def ba (s:Sch):List Nd:=rF s ++ ndsT (jx s) s s.root (rF s).length
def gl (s:Sch):Int:=oi s s.root (rF s).length
def S4 (s:Sch) (aM lL:List Nat) (js:List Int):List DV:=
 [(fX s aM js).pd,.sl 7 (bq (ba s)) none,.v (.int .i64 (gl s)),.pt (dz (tL s) lL) 0,.sl 1 (dInts (namedL s)) none]
def NL (s:Sch) (d:DV):Prop:=∃ aM lL js,(fX s aM js).OK/\iT (tL s) lL/\lL.length<=s.types.length/\d = .pt (S4 s aM lL js) 0
def Hg (s:Sch) (r:DV) (_:List (List DV)) (_:List TkE):Prop:=
 if (l6 s).1≠0 then r = .tup [.v (.pointer none),(l6 s).d] else ∃ d,NL s d/\r = .tup [d,Ft.d (0,0)]
theorem oo {s:Sch} {f:Ft} {os:List (List DV)} {tk:List TkE} (h:l6 s=f) (hf:f.1≠0):Hg s (.tup [.v (.pointer none),f.d]) os tk:=by
 unfold Hg;rw [h,ai hf]
theorem QU {s:Sch} {d:DV} {os:List (List DV)} {tk:List TkE} (h:(l6 s).1=0) (hd:NL s d):Hg s (.tup [d,Ft.d (0,0)]) os tk:=by
 unfold Hg;rw [ah (by rw [h];simp)];exact ⟨d,hd,rfl⟩
theorem NM {F:Ty->Ft} {z:Ft}:∀ {l:List (Wd × Ty)},(eaL F z l).1=0->z.1=0/\∀ x∈l,(F x.2).1=0
 | [],h=>⟨h,fun x hx=>by cases hx⟩
 | x :: r,h=>by
  rw [eaL] at h;split at h
  ·rename_i h1;exact (h1 h).elim
  ·rename_i h1;obtain ⟨h2,h3⟩:=NM h;refine ⟨h2,fun y hy=>?_⟩;rcases bI hy with rfl | hy
   ·simpa using h1
   ·exact h3 y hy
theorem NN {z:Ty}:∀ {l:List (Wd × Ty)} {m:Int},0<=m->(eaR z l m).1.1=0->(wrong z 1 0).1.1=0/\(∀ x∈l,(wrong x.2 1 0).1.1=0)/\(eaR z l m).2=m + ((l.map fun x=>x.2.cnt).sum + z.cnt:Nat)/\(eaR z l m).2<=512
 | [],m,_,h=>by
  rw [eaR] at h ⊢;obtain ⟨h1,h2,h3,_⟩:=oY h;exact ⟨h3,(fun x hx=>by cases hx),(by simp [h1]),h2⟩
 | x :: r,m,hm,h=>by
  rw [eaR] at h ⊢;split at h
  ·rename_i h1;exact (h1 h).elim
  ·rename_i h1;rw [ah h1];obtain ⟨g1,g2,g3,_⟩:=oY (sU h1);obtain ⟨h2,h3,h4,h5⟩:=NN (by omega) h;refine ⟨h2,fun y hy=>?_,(by rw [h4,g1];simp only [List.map_cons,List.sum_cons];omega),h5⟩;rcases bI hy with rfl | hy
   ·exact g3
   ·exact h3 y hy
theorem xE (lev:List Wd->Int) (s:Sch):∀ (l:List (Wd × Ty)) (k:Nat),(ndsAll lev s l k).length=(l.map fun x=>x.2.nn).sum
 | [],_=>rfl
 | x :: r,k=>by simp only [ndsAll,List.length_append,kO,xE lev s r,List.map_cons,List.sum_cons]
theorem xF:∀ l:List (Wd × Ty),(l.map fun x=>x.2.nn).sum<=(l.map fun x=>x.2.cnt).sum
 | []=>aR _
 | x :: r=>by
  have:=x.2.hU;have:=xF r;simp only [List.map_cons,List.sum_cons];omega
theorem Ax:∀ l:List Nd,(bq l).flatten.length=l.length * 7
 | []=>rfl
 | a :: r=>by
  have:=Ax r;simp only [bq,List.map_cons,List.flatten_cons,List.length_append,List.length_cons] at this ⊢;rw [this];simp only [gL,List.length_cons,List.length_nil];omega
theorem Cf {X:Lx} {s:Sch} {t:Ty} (h:(knT X (tL s) t).1=0):uX s t=true:=by
 obtain ⟨hd,ps⟩:=t;have:=(mW h).1;unfold uX;exact decide_eq_true this
theorem Et {s:Sch} (h:(loopF s).1=0):∀ i,i < s.types.length->∃ k,endI s (s.types.length + 1) i=some k:=by
 intro i hi;unfold loopF at h;split at h
 ·rename_i h1;have:=cr h1 i hi;simp only [Option.isNone_eq_false_iff] at this;exact Option.isSome_iff_exists.1 this
 ·cases h
end Go.Proofs.YtadhpeooehkklaaGreat
