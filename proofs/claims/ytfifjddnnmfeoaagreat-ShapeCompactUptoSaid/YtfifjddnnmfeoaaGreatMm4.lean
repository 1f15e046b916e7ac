/- Part 4 of the proof: Rules for the evaluator: a call that is handed the caller's first objects and rows; rows whose cells nobody else knows; lattice.best, and the closures of bounds; lattice.bounds: all joins and meets; lattice.Build; Reading a lattice: Len, has, Name, Find, Join, Meet, Bottom; labels.Of; The checker's part, once check is known for lighter types; The checker's parts, once check is known for lighter types; The checker's one and check, once check is known for lighter types; so check; kinds.Count, resolve.nodes; the builder's level; The builder's end, loops, known; The builder's each, right, called; The builder's each of right; called; places; The builder's places; The builder's edge; The builder's node; Steps of a region that draws its order, one by one. No condition. -/
import Derived.Test.YtfifjddnnmfeoaaGreatMm2
import Derived.Test.YtfifjddnnmfeoaaGreatMm3
set_option linter.all false
namespace Go.Proofs.YtfifjddnnmfeoaaGreat
namespace Dv
open Go Go.RowKit
section
variable {X:Ctx} {st:St} {k:List It} {E:En} {a:Act} {w:World}
def Wk (X:Ctx) (st st':St):Prop:=∀ E a w,Rel X E st a w->∃ E',Rel X E' st' a w
theorem Wk.refl (X:Ctx) (st:St):Wk X st st:=fun E _ _ h=>⟨E,h⟩
theorem Wk.trans {X:Ctx} {s1 s2 s3:St} (h1:Wk X s1 s2) (h2:Wk X s2 s3):Wk X s1 s3:=fun _ _ _ h=>by
 obtain ⟨E1,h3⟩:=h1 _ _ _ h;exact h2 _ _ _ h3
theorem Wk.Sq {X:Ctx} {s1 s2:St} (h:AL X.n0 X.m0 s1 s2):Wk X s1 s2:=fun _ _ _ hr=>tj hr h
theorem xD {f:FuncId} {args bB:List DV} {os:List (List DV)} (n1 m1:Nat) (Ax:Nat.ble n1 st.bx.length=true) (fg:Nat.ble m1 st.tk.length=true)
  (vT:kx [] n1 n1 m1 os (st.bx.take n1)) (ha:CcL [] n1 n1 m1 bB args)
  {Φ:DV->List (List DV)->List TkE->Prop} (hc:UK false X.P f bB os (st.tk.take m1) X.bt Φ) (aS:X.still=false) {vs:List Value} (h:Rel X E st a w) (hv:RvL E args vs) :
  Calls X.P f vs.toArray w fun e w'=>∃ v r fZ bR E',e = .returned v/\Φ r fZ bR /\ fZ.length=n1/\bR.length=m1/\Rel X E' ⟨st.sl,fZ ++ st.bx.drop n1,bR ++ st.tk.drop m1⟩ a w' /\ Rv E' r v/\Ext E E' /\ E'.β=E.β /\
   ∀ (i:Nat) b,n1<=i->E.β[i]? = some b->w'.heap[b]? = w.heap[b]?:=by
 have Ax:=nL Ax;have fg:=nL fg;have hlen:=h.env.len;have eM:=h.env.tl;have ia:=h.tk;have htkl:E.tk.length=st.tk.length:=by rw [ia]
 let E1:En:=⟨E.c,E.β.take n1,E.tk.take m1,E.τ.take m1⟩
 have hfz:Jx E E1 [] n1:=⟨fun _ _ h=>h,fun i cs _ hi=>by simp at hi⟩
 have vV:HC E E1 n1 m1:={
  β:=fun i b hi hb=>by show (E.β.take n1)[i]? = _;rw [List.getElem?_take,if_pos hi];exact hb
  tk:=fun k hk=>⟨by show (E.tk.take m1)[k]? = _;rw [List.getElem?_take,if_pos hk],by show (E.τ.take m1)[k]? = _;rw [List.getElem?_take,if_pos hk]⟩ }
 obtain ⟨jN,UJ⟩:=vT.get;have hosl:os.length=n1:=by rw [jN,List.length_take];omega
 have W3:∀ (j:Nat) y,(E.τ.take m1)[j]? = some y->j < m1/\E.τ[j]? = some y:=fun j y hy=>by
  rw [List.getElem?_take] at hy;split at hy
  ·rename_i hj;exact ⟨hj,hy⟩
  ·cases hy
 have hkg:∀ (j:Nat) q,(E.tk.take m1)[j]? = some q->j < m1/\E.tk[j]? = some q:=fun j y hy=>by
  rw [List.getElem?_take] at hy;split at hy
  ·rename_i hj;exact ⟨hj,hy⟩
  ·cases hy
 have ZI:Env E1 os w:={
  len:=by show (E.β.take n1).length=_;rw [List.length_take,hosl];omega
  tl:=by show (E.τ.take m1).length=(E.tk.take m1).length;rw [List.length_take,List.length_take,eM]
  dW:=fun i cs' hi=>by
   obtain ⟨cs,cm,vM⟩:=UJ i cs' hi;rw [List.getElem?_take] at cm;split at cm
   ·rename_i al;obtain ⟨b,ty,arr,hb,hw,hc⟩:=h.env.dW i cs cm;exact ⟨b,ty,arr,vV.β i b al hb,hw,CcL.sound hfz vV vM hc.1,hc.2⟩
   ·cases cm
  inj:=h.env.inj.sublist (List.take_sublist _ _)
  sub:=h.env.sub
  pc:=fun x v hx hm=>h.env.pc x v hx (List.mem_of_mem_take hm)
  cD:=fun j q y hq hy=>by
   obtain ⟨_,hq⟩:=hkg j q hq;obtain ⟨_,hy⟩:=W3 j y hy;rcases h.env.cD j q y hq hy with h1 | ⟨g,cap,cur,rfl,h1,h2,h3,h4,h5,h6⟩
   ·exact .inl h1
   ·exact .inr ⟨g,cap,cur,rfl,h1,h2,h3,h4,fun hm=>h5 (List.mem_of_mem_take hm),h6⟩
  iy:=fun j j' y y' g FX hy gf=>h.env.iy j j' y y' g FX (W3 j y hy).2 (W3 j' y' gf).2 }
 refine (hc E1 w _ ZI (by show E.tk.take m1=_;rw [ia]) (h.bt.sub n1) (CcL.sound hfz vV ha hv)).mono ?_;rintro e w' ⟨v,rfl,⟨hm,_,r,fZ,E2,he,hβ,qA,hn,RA,hΦ⟩,hbt2⟩;have qA:E2.tk.length=E1.tk.length:=qA;have hE1t:E1.tk.length=m1:=by show (E.tk.take m1).length=_;rw [List.length_take];omega
 have hE1τ:E1.τ.length=m1:=by show (E.τ.take m1).length=_;rw [List.length_take];omega
 have hE1β:E1.β.length=n1:=by show (E.β.take n1).length=_;rw [List.length_take];omega
 rw [hE1t] at qA;have TM:E2.τ.length=m1:=by rw [he.tl,qA]
 have D5:fZ.length=n1:=by rw [<- he.len,hβ,hE1β]
 have hS:∀ j,E1.S j->j∈E.β.take n1∨∃ i y,i < m1/\E.τ[i]? = some y/\y.ownBlock=some j:=fun j hj=>by
  rcases hj with h1 | ⟨y,h1,h2⟩
  ·exact .inl h1
  ·obtain ⟨i,hi,he⟩:=List.getElem_of_mem h1;have dF:E1.τ[i]? = some y:=by rw [gE hi,he]
   obtain ⟨h3,h4⟩:=W3 i y dF;exact .inr ⟨i,y,h3,h4,h2⟩
 have hh:∀ j,j < w.heap.size->¬ E1.S j->w'.heap[j]? = w.heap[j]?:=fun j hj aR=>hm.block j hj aR;have cC:∀ (i:Nat) y g,E.τ[i]? = some y->y.ownBlock=some g->g < w.heap.size/\g ∉ E.β:=fun i y g hy hg=>h.env.own (mG hy) hg
 have dH:∀ x v,E2.c x=some v->E.c x=some v∨w.heap.size<=x.block∨∃ i y,i < m1/\E.τ[i]? = some y/\y.ownBlock=some x.block:=fun x v hx=>by
  rcases hn.cn x v hx with h1 | h1 | ⟨y,h1,h2⟩
  ·exact .inl h1
  ·exact .inr (.inl h1)
  ·obtain ⟨i,hi,he⟩:=List.getElem_of_mem h1;have dF:E1.τ[i]? = some y:=by rw [gE hi,he]
   obtain ⟨h3,h4⟩:=W3 i y dF;exact .inr (.inr ⟨i,y,h3,h4,h2⟩)
 have qa:∀ (j:Nat) q,j < m1->E.tk[j]? = some q->∃ y q' y',E.τ[j]? = some y/\E2.tk[j]? = some q' /\ E2.τ[j]? = some y' /\ q.ty=q'.ty/\q.e=q'.e/\((q'.n=q.n/\y'=y)∨q.n < q'.n)/\(y'.ownBlock=y.ownBlock∨∀ g,y'.ownBlock=some g->w.heap.size<=g):=fun j q hj hq=>by
  have ng:j < E.τ.length:=by rw [eM];omega
  obtain ⟨q',y',h1,h2,h3⟩:=hn.tk j q E.τ[j] (by show (E.tk.take m1)[j]? = _;rw [List.getElem?_take,if_pos hj];exact hq) (by show (E.τ.take m1)[j]? = _;rw [List.getElem?_take,if_pos hj,gE ng]);exact ⟨_,q',y',gE ng,h1,h2,h3⟩
 have GF:∀ (j:Nat) y',j < m1->E2.τ[j]? = some y' -> ∃ y,E.τ[j]? = some y/\(y'.ownBlock=y.ownBlock∨∀ g,y'.ownBlock=some g->w.heap.size<=g):=fun j y' hj hy=>by
  have ng:j < E.tk.length:=by omega
  obtain ⟨y,q1,y1,h1,_,h3,_,_,_,h7⟩:=qa j _ hj (gE ng);rw [hy] at h3;simp only [oI] at h3;subst h3;exact ⟨y,h1,h7⟩
 let E':En:=⟨E2.c,E.β,E2.tk ++ E.tk.drop m1,E2.τ ++ E.τ.drop m1⟩
 have fI:∀ (j:Nat),m1<=j->E'.tk[j]? = E.tk[j]?:=fun j hj=>by
  show (E2.tk ++ E.tk.drop m1)[j]? = _;rw [List.getElem?_append_right (by omega),List.getElem?_drop,qA];congr 1;omega
 have Sr:∀ (j:Nat),m1<=j->E'.τ[j]? = E.τ[j]?:=fun j hj=>by
  show (E2.τ ++ E.τ.drop m1)[j]? = _;rw [List.getElem?_append_right (by omega),List.getElem?_drop,TM];congr 1;omega
 have Ki:∀ (j:Nat),j < m1->E'.tk[j]? = E2.tk[j]?:=fun j hj=>by
  show (E2.tk ++ E.tk.drop m1)[j]? = _;rw [List.getElem?_append_left (by omega)]
 have Jv:∀ (j:Nat),j < m1->E'.τ[j]? = E2.τ[j]?:=fun j hj=>by
  show (E2.τ ++ E.τ.drop m1)[j]? = _;rw [List.getElem?_append_left (by omega)]
 have hx:Ext E E':=⟨hn.c,fun _ _ h=>h,fun j q hq=>by
  rcases Nat.lt_or_ge j m1 with hj | hj
  ·obtain ⟨y,q',y',h1,h2,h3,_,_,h6,_⟩:=qa j q hj hq;refine ⟨q',by rw [Ki j hj];exact h2,?_⟩;rcases h6 with ⟨h6,rfl⟩ | h6
   ·exact .inl ⟨h6,by rw [Jv j hj,h3,h1]⟩
   ·exact .inr h6
  ·exact ⟨q,by rw [fI j hj];exact hq,.inl ⟨rfl,Sr j hj⟩⟩⟩
 have HN:Ext E2 E':={
  c:=fun _ _ h=>h
  β:=fun j b hj=>by
   rw [hβ] at hj;have hj:(E.β.take n1)[j]? = some b:=hj;rw [List.getElem?_take] at hj;split at hj
   ·exact hj
   ·cases hj
  tk:=fun j q hq=>by
   have hj:j < m1:=by have:=(gS hq).1;omega
   exact ⟨q,by rw [Ki j hj];exact hq,.inl ⟨rfl,Jv j hj⟩⟩ }
 have Qz:∀ (i:Nat) b,n1<=i->E.β[i]? = some b->w'.heap[b]? = w.heap[b]?:=fun i b hi hb=>by
  refine hh b (h.env.aV (mG hb)) fun hs=>?_;rcases hS b hs with h1 | ⟨i',y,_,h2,h3⟩
  ·obtain ⟨i',dF,Ob⟩:=List.getElem_of_mem h1;have h4:(E.β.take n1)[i']? = some b:=by rw [gE dF,Ob]
   rw [List.getElem?_take] at h4;split at h4
   ·rename_i al;have:=(List.getElem?_inj (gS hb).1 h.env.inj).1 (hb.trans h4.symm);omega
   ·cases h4
  ·exact (cC i' y b h2 h3).2 (mG hb)
 have hbt':mX X.bt E.β w':=fun p hp b hb=>by
  rcases Nat.lt_or_ge p.1 n1 with al | aN
  ·exact hbt2 p hp b (by show (E.β.take n1)[p.1]? = _;rw [List.getElem?_take,if_pos al];exact hb)
  ·obtain ⟨cs,cm⟩:=h.bt p hp b hb;exact ⟨cs,by rw [Qz p.1 b aN hb];exact cm⟩
 have cj:Rel X E' ⟨st.sl,fZ ++ st.bx.drop n1,E2.tk ++ st.tk.drop m1⟩ a w':=by
  refine cV h hx ?_ (by show E2.tk ++ E.tk.drop m1=_;rw [ia]) ?_ (h.fr.b9 hm.os hm.tape hm.output hm.size fun j hj=>?_) (mY aS) hbt'
  ·exact {
    len:=by show E.β.length=_;rw [List.length_append,List.length_drop,D5,hlen];omega
    tl:=by show (E2.τ ++ E.τ.drop m1).length=(E2.tk ++ E.tk.drop m1).length;simp only [List.length_append,List.length_drop,TM,qA,eM]
    dW:=fun i PO hi=>by
     rcases Nat.lt_or_ge i n1 with qm | qm
     ·rw [List.getElem?_append_left (by omega)] at hi;obtain ⟨b2,ZL,RQ,fj,nC,lF⟩:=he.dW i PO hi;exact ⟨b2,ZL,RQ,HN.β i b2 fj,nC,lF.mono HN⟩
     ·rw [List.getElem?_append_right (by omega),List.getElem?_drop,D5] at hi;rw [show n1 + (i - n1)=i by omega] at hi;obtain ⟨bj,ZM,RR,PQ,U2,JW⟩:=h.env.dW i PO hi;refine ⟨bj,ZM,RR,PQ,(hh bj (bP U2) ?_).trans U2,JW.mono hx⟩;intro hs;rcases hS bj hs with h1 | ⟨i',y,_,h2,h3⟩
      ·obtain ⟨i',dF,Ob⟩:=List.getElem_of_mem h1;have h4:(E.β.take n1)[i']? = some bj:=by rw [gE dF,Ob]
       rw [List.getElem?_take] at h4;split at h4
       ·rename_i al;have:=(List.getElem?_inj (gS PQ).1 h.env.inj).1 (PQ.trans h4.symm);omega
       ·cases h4
      ·exact (cC i' y bj h2 h3).2 (mG PQ)
    inj:=h.env.inj
    sub:=he.sub
    pc:=fun x v hc rk=>by
     rcases dH x v hc with h1 | h1 | ⟨i,y,_,h2,h3⟩
     ·exact h.env.pc x v h1 rk
     ·have:=h.env.aV rk;omega
     ·exact (cC i y _ h2 h3).2 rk
    cD:=fun j q y hq hy=>by
     rcases Nat.lt_or_ge j m1 with hj | hj
     ·rw [Ki j hj] at hq;rw [Jv j hj] at hy;rcases he.cD j q y hq hy with h1 | ⟨g,cap,cur,rfl,h1,h2,h3,h4,h5,h6⟩
      ·exact .inl h1
      ·refine .inr ⟨g,cap,cur,rfl,h1,h2,h3,h4,fun rk=>?_,h6⟩;obtain ⟨y0,h7,h8⟩:=GF j _ hj hy;rcases h8 with h8 | h8
       ·exact (cC j y0 g h7 (by rw [<- h8];rfl)).2 rk
       ·have:=h8 g rfl;have:=h.env.aV rk;omega
     ·rw [fI j hj] at hq;rw [Sr j hj] at hy;rcases h.env.cD j q y hq hy with h1 | ⟨g,cap,cur,rfl,h1,h2,h3,h4,h5,h6⟩
      ·exact .inl h1
      ·have aR:∀ i y',i < m1->E.τ[i]? = some y' -> y'.ownBlock≠some g:=fun i y' hi gf=>h.env.iy j i _ y' g (by omega) hy gf rfl
       have sC:¬ E1.S g:=fun hs=>by
        rcases hS g hs with h7 | ⟨i,y',h7,h8,h9⟩
        ·exact h5 (List.mem_of_mem_take h7)
        ·exact aR i y' h7 h8 h9
       refine .inr ⟨g,cap,cur,rfl,by rw [hh g (bP h1) sC];exact h1,⟨h2.1,h2.2.mono hn.c⟩,h3,h4,h5,fun x v hc hg=>?_⟩
       ·rcases dH x v hc with h7 | h7 | ⟨i,y',h7,h8,h9⟩
        ·exact h6 x v h7 hg
        ·have:=bP h1;omega
        ·exact (aR i y' h7 h8 (by rw [h9,hg])).elim
    iy:=fun j j' y y' g FX hy gf hg vS=>by
     rcases Nat.lt_or_ge j m1 with hj | hj
     ·rw [Jv j hj] at hy;obtain ⟨y0,h7,h8⟩:=GF j _ hj hy;rcases Nat.lt_or_ge j' m1 with gM | gM
      ·rw [Jv j' gM] at gf;exact he.iy j j' y y' g FX hy gf hg vS
      ·rw [Sr j' gM] at gf;rcases h8 with h8 | h8
       ·exact h.env.iy j j' y0 y' g FX h7 gf (by rw [<- h8];exact hg) vS
       ·have:=h8 g hg;have:=(cC j' y' g gf vS).1;omega
     ·rw [Sr j hj] at hy;rcases Nat.lt_or_ge j' m1 with gM | gM
      ·rw [Jv j' gM] at gf;obtain ⟨y0,h7,h8⟩:=GF j' _ gM gf;rcases h8 with h8 | h8
       ·exact h.env.iy j j' y y0 g FX hy h7 hg (by rw [<- h8];exact vS)
       ·have:=h8 g vS;have:=(cC j y g hy hg).1;omega
      ·rw [Sr j' gM] at gf
       exact h.env.iy j j' y y' g FX hy gf hg vS }
  ·exact {
    c:=fun x v hc=>hn.c x v (h.nw.c x v hc)
    cn:=fun x v hc=>by
     rcases dH x v hc with h1 | h1 | ⟨i,y,_,h2,h3⟩
     ·exact h.nw.cn x v h1
     ·have:=h.fr.size;exact .inr (.inl (by omega))
     ·rcases h.nw.own h2 h3 with h4 | h4
      ·exact .inr (.inr h4)
      ·exact .inr (.inl h4)
    β:=h.nw.β
    tk:=fun j q0 y0 r8 Df=>by
     obtain ⟨q1,y1,h1,h2,h3,h4,h5,h6⟩:=h.nw.tk j q0 y0 r8 Df;rcases Nat.lt_or_ge j m1 with hj | hj
     ·obtain ⟨y,q',y',g1,g2,g3,g4,g5,g6,g7⟩:=qa j q1 hj h1;rw [h2] at g1;simp only [oI] at g1;subst g1;refine ⟨q',y',by rw [Ki j hj];exact g2,by rw [Jv j hj];exact g3,h3.trans g4,h4.trans g5,?_,?_⟩
      ·rcases g6 with ⟨g6,rfl⟩ | g6
       ·rcases h5 with ⟨h5,rfl⟩ | h5
        ·exact .inl ⟨by omega,rfl⟩
        ·exact .inr (by omega)
       ·rcases h5 with ⟨h5,_⟩ | h5
        ·exact .inr (by omega)
        ·exact .inr (by omega)
      ·rcases g7 with g7 | g7
       ·rcases h6 with h6 | h6
        ·exact .inl (g7.trans h6)
        ·exact .inr fun g hg=>h6 g (by rw [<- g7];exact hg)
       ·refine .inr fun g hg=>?_;have:=g7 g hg;have:=h.fr.size;omega
     ·exact ⟨q1,y1,by rw [fI j hj];exact h1,by rw [Sr j hj];exact h2,h3,h4,h5,h6⟩
    tn:=fun j y g Ae hy hg=>by
     rcases Nat.lt_or_ge j m1 with hj | hj
     ·rw [Jv j hj] at hy;obtain ⟨y0,h7,h8⟩:=GF j _ hj hy;rcases h8 with h8 | h8
      ·exact h.nw.tn j y0 g Ae h7 (by rw [<- h8];exact hg)
      ·have:=h8 g hg;have:=h.fr.size;omega
     ·rw [Sr j hj] at hy;exact h.nw.tn j y g Ae hy hg
    l0:=h.nw.l0 }
  ·by_cases hjs:E1.S j
   ·left;rcases hS j hjs with h1 | ⟨i,y,_,h2,h3⟩
    ·have vW:=List.mem_of_mem_take h1;obtain ⟨r0,hr0,DB⟩:=h.nw.β;rw [hr0] at vW;rcases List.mem_append.1 vW with vW | vW
     ·exact .inl (.inl vW)
     ·exact .inr (DB j vW)
    ·rcases h.nw.own h2 h3 with h4 | h4
     ·exact .inl (.inr h4)
     ·exact .inr h4
   ·exact .inr (hh j hj hjs)
 exact ⟨v,r,fZ,E2.tk,E',rfl,hΦ,D5,qA,cj,Rv.mono HN RA,hx,rfl,Qz⟩
theorem BD {f:FuncId} {args bB:List DV} {os:List (List DV)} (n1 m1:Nat) (Ax:Nat.ble n1 st.bx.length=true) (fg:Nat.ble m1 st.tk.length=true)
  (vT:kx [] n1 n1 m1 os (st.bx.take n1)) (ha:CcL [] n1 n1 m1 bB args)
  {Φ:DV->List (List DV)->List TkE->Prop} (hc:Ev X.P f bB os (st.tk.take m1) Φ) (aS:X.still=false) (hX:X.bt=[]) {vs:List Value} (h:Rel X E st a w) (hv:RvL E args vs) :
  Calls X.P f vs.toArray w fun e w'=>∃ v r fZ bR E',e = .returned v/\Φ r fZ bR /\ fZ.length=n1/\bR.length=m1/\Rel X E' ⟨st.sl,fZ ++ st.bx.drop n1,bR ++ st.tk.drop m1⟩ a w' /\ Rv E' r v/\Ext E E' /\ E'.β=E.β /\
   ∀ (i:Nat) b,n1<=i->E.β[i]? = some b->w'.heap[b]? = w.heap[b]?:=
 xD n1 m1 (by exact Ax) (by exact fg) vT ha (hc.UL hX) aS h hv
theorem Lw {f:FuncId} {args bB:List DV} {os:List (List DV)} {d:Nat} (n1 m1:Nat) (j2:Enters X.P f) (hd:eT X.nt st.sl (some d)=true) (Ax:Nat.ble n1 st.bx.length=true) (fg:Nat.ble m1 st.tk.length=true)
  (vT:kx [] n1 n1 m1 os (st.bx.take n1)) (ha:CcL [] n1 n1 m1 bB args)
  {Φ:DV->List (List DV)->List TkE->Prop} (hc:Ev X.P f bB os (st.tk.take m1) Φ)
  (hk:∀ r fZ bR,Φ r fZ bR -> fZ.length=n1->bR.length=m1->∃ st',Wk X ⟨(d,⟨[],r⟩) :: st.sl,fZ ++ st.bx.drop n1,bR ++ st.tk.drop m1⟩ st' /\ go X 4000 k st') (aS:X.still=false:=by exact rfl) (hX:X.bt=[]:=by exact rfl):dy X f args (some d) k st:=by
 refine ⟨j2,aS,fun E a w vs h hv=>(BD n1 m1 Ax fg vT ha hc aS hX h hv).mono ?_⟩;rintro e w' ⟨v,r,fZ,bR,E',rfl,hΦ,D5,qA,cj,Gm,_,_,_⟩;obtain ⟨st',N9,nF⟩:=hk r fZ bR hΦ D5 qA;obtain ⟨E3,hr3⟩:=N9 _ _ _ (aT cj hd r v Gm);exact go_sound 4000 _ _ nF E3 _ w' hr3
theorem iu {f:FuncId} {args bB:List DV} {os:List (List DV)} {d:Nat} (n1 m1:Nat) (j2:Enters X.P f) (hd:eT X.nt st.sl (some d)=true) (Ax:Nat.ble n1 st.bx.length=true) (fg:Nat.ble m1 st.tk.length=true)
  (vT:kx [] n1 n1 m1 os (st.bx.take n1)) (ha:CcL [] n1 n1 m1 bB args)
  {Φ:DV->List (List DV)->List TkE->Prop} (hc:Ev X.P f bB os (st.tk.take m1) Φ)
  (hk:∀ r fZ bR,Φ r fZ bR -> fZ.length=n1->bR.length=m1->go X 4000 k ⟨(d,⟨[],r⟩) :: st.sl,fZ ++ st.bx.drop n1,bR ++ st.tk.drop m1⟩) (aS:X.still=false:=by exact rfl) (hX:X.bt=[]:=by exact rfl):dy X f args (some d) k st:=
 Lw n1 m1 j2 hd Ax fg vT ha hc (fun r fZ bR h1 h2 h3=>⟨_,Wk.refl _ _,hk r fZ bR h1 h2 h3⟩) aS hX
theorem l4 {f:FuncId} {args bB:List DV} {os:List (List DV)} {d:Nat} (n1 m1:Nat) (j2:Enters X.P f) (hd:eT X.nt st.sl (some d)=true) (Ax:Nat.ble n1 st.bx.length=true) (fg:Nat.ble m1 st.tk.length=true)
  (vT:kx [] n1 n1 m1 os (st.bx.take n1)) (ha:CcL [] n1 n1 m1 bB args)
  {Φ:DV->List (List DV)->List TkE->Prop} (hc:UK false X.P f bB os (st.tk.take m1) X.bt Φ)
  (hk:∀ r fZ bR,Φ r fZ bR -> fZ.length=n1->bR.length=m1->go X 4000 k ⟨(d,⟨[],r⟩) :: st.sl,fZ ++ st.bx.drop n1,bR ++ st.tk.drop m1⟩) (aS:X.still=false:=by exact rfl):dy X f args (some d) k st:=by
 refine ⟨j2,aS,fun E a w vs h hv=>(xD n1 m1 Ax fg vT ha hc aS h hv).mono ?_⟩;rintro e w' ⟨v,r,fZ,bR,E',rfl,hΦ,D5,qA,cj,Gm,_,_,_⟩;exact go_sound 4000 _ _ (hk r fZ bR hΦ D5 qA) E' _ w' (aT cj hd r v Gm)
theorem Il {all:Array Oper} {o1 o2 o3:Oper} {r:List Oper} {d1 d2 kt t sT f off ft ty et e jo m QA nn:Nat} {bb:Bool} {zz:List Value} {z:Int} {kd:IntKind} {es:List (List DV)} {cs:List DV} {s ix x:Operand} {dv W4:DV}
  (h1:o1.op = .indexAddr t s ix/\o1.dst=some d1) (h2:o2.op = .fieldAddr sT (.tmp d1) f/\o2.dst=some d2/\o2.guard=none) (h3:o3.op = .store ty (.tmp d2) x/\o3.dst=none/\o3.guard=none)
  (C8:eT X.nt st.sl (some d1)=true) (Ke:eT X.nt ((d1,⟨[],.pt [] 0⟩) :: st.sl) (some d2)=true)
  (hs:rv st [] s=some (.sl 0 es (some kt))) (hi:rv st [] ix=some (.v (.int kd z))) (hx:rv ⟨(d2,⟨[],.pt [] 0⟩) :: (d1,⟨[],.pt [] 0⟩) :: st.sl,st.bx,st.tk⟩ [] x=some dv) (hdv:eraD dv=some W4) (hdc:dv.cells=[dv])
  (hT:X.T.find t=some ⟨nn,bb,.sl et e jo,zz⟩) (sc:X.T.off sT f=some (off,ft)) (bI:X.T.sz ty=some 1)
  (hq:st.tk[kt]? = some ⟨m,QA,e,some cs⟩) (jq:es.length=m) (hz:0<=z/\z < m) (NQ:off + 1<=e)
  (hk:go X 4000 (.ops all r :: k) ⟨(d2,⟨[],.pt [] 0⟩) :: (d1,⟨[],.pt [] 0⟩) :: st.sl,st.bx,st.tk.set kt ⟨m,QA,e,some (cs.set (z.toNat * e + off) W4)⟩⟩)
  (aS:X.still=false:=by exact rfl):Ht X o1 (.ops all (o2 :: o3 :: r) :: k) st:=by
 intro E a w h;have fH:=h.rl;have e1:=aO fH hs;have e2:=bQ (aO fH hi);unfold Rv at e1;obtain ⟨bs,ns,lu,e1,⟨sC,C5⟩,Rp,yA⟩:=e1;subst sC;obtain ⟨q',kA,_,UE⟩:=yA kt rfl;have jZ:E.tk[kt]? = some ⟨m,QA,e,some cs⟩:=by rw [h.tk];exact hq
 rw [jZ] at kA;simp only [oI] at kA;subst kA;have hy:=UE jq;rw [e1,jq] at hy;rw [jq] at e1;have W5:=h.env.cD kt _ _ jZ hy;rcases W5 with ⟨mZ,jr,_⟩ | ⟨g,cap,cur,mZ,hw0,⟨AE,J1⟩,HA,HB,fF,J2⟩
 ·simp only at jr;omega
 injection mZ with i1 i2 i3
 subst i1 i3;obtain ⟨hu,ii,zv,rn,_,hsz2,_,_⟩:=ef X.hT hT;have na:gN X.P et=some e:=by rw [fK rn,hsz2]
 have W6:(execOp a.eval o1).run X.P w = .ok (.value (.pointer (some ⟨g,z.toNat * e,none⟩))) w:=by
  have bW:(Instr.indexAt t (.slice (some ⟨g,0,none⟩) m lu) (.int kd z)).run X.P w = .ok (.pointer (some ⟨g,z.toNat * e,none⟩)) w:=by
   simp [Instr.indexAt,asIntOf,run_underlying hu,hz.1,hz.2,aJ na,Addr.add_lit]
  simp only [execOp,h1.1,e1,e2,Sem.run_bind,bW,Result.andThen_ok,Sem.run_pure]
 refine gO W6 ?_;rw [h1.2];have hr1:Rel X E ⟨(d1,⟨[],.pt [] 0⟩) :: st.sl,st.bx,st.tk⟩ (a.put (some d1) (.pointer (some ⟨g,z.toNat * e,none⟩))) w:=aT h C8 (.pt [] 0) _ (by unfold Rv;exact ⟨g,z.toNat * e,rfl,by simp only [RvAt]⟩);generalize ha1:a.put (some d1) (.pointer (some ⟨g,z.toNat * e,none⟩))=a1 at hr1
 have ht1:a1.eval (.tmp d1) = .pointer (some ⟨g,z.toNat * e,none⟩):=by
  subst ha1;simp only [eT,Bool.and_eq_true,Nat.blt_eq] at C8;simp [Act.eval,Act.put,h.sz,C8.1]
 show kq X (.ops all (o2 :: o3 :: r) :: k) .normal a1 w;simp only [kq,wpList,Region.wanted,h2.2.2,h3.2.2,if_true];refine .inl (gO (v:=.pointer (some ⟨g,z.toNat * e + off,none⟩)) (w':=w) ?_ ?_)
 ·simp only [execOp,h2.1,ht1,Sem.run_bind,il (pW X.hT sc),Result.andThen_ok,Sem.run_pure]
 rw [h2.2.1];have ko:Rel X E ⟨(d2,⟨[],.pt [] 0⟩) :: (d1,⟨[],.pt [] 0⟩) :: st.sl,st.bx,st.tk⟩ (a1.put (some d2) (.pointer (some ⟨g,z.toNat * e + off,none⟩))) w:=aT hr1 Ke (.pt [] 0) _ (by unfold Rv;exact ⟨g,z.toNat * e + off,rfl,by simp only [RvAt]⟩);generalize N1:a1.put (some d2) (.pointer (some ⟨g,z.toNat * e + off,none⟩))=a2 at ko
 have TX:a2.eval (.tmp d2) = .pointer (some ⟨g,z.toNat * e + off,none⟩):=by
  subst N1;simp only [eT,Bool.and_eq_true,Nat.blt_eq] at Ke;simp [Act.eval,Act.put,hr1.sz,Ke.1]
 have e3:=aO ko.rl hx
 have ju:RvC E [dv] (a2.eval x).cells.toList:=by
  have:=e3.cells (iz (n:=1) (by rw [hdc];rfl) (by omega))
  rwa [hdc] at this
 have Hz:(a2.eval x).cells.toList.length=1:=by rw [ju.1.length];all_goals rfl
 obtain ⟨xv,YG⟩:∃ xv,(a2.eval x).cells.toList=[xv]:=by
  match hh:(a2.eval x).cells.toList,Hz with
  | [y],_=>exact ⟨y,rfl⟩
 obtain ⟨h5,h6⟩:=J1 cs rfl;simp only at h5 h6 AE hw0 HA;have W7:cur.toList.length=lu * e:=by simpa using AE
 have hme:m * e<=lu * e:=Nat.mul_le_mul_right _ HA
 have jM:z.toNat * e + off + 1<=m * e:=by
  have:(z.toNat + 1) * e<=m * e:=Nat.mul_le_mul_right _ (by omega);rw [Nat.add_mul] at this;omega
 have UA:=kv (P:=X.P) (t:=ty) (off:=z.toNat * e + off) (n:=1) hw0 (FU X.hT bI) Hz (by rw [AE];omega) (List.all_eq_true.2 ju.2);refine .inl (N2 (w':=World.cH w g (.cells ((cur.toList.take (z.toNat * e + off) ++ (a2.eval x).cells.toList ++ cur.toList.drop (z.toNat * e + off + 1)).toArray) QA (0,0))) ?_ ?_)
 ·simp only [execOp,h3.1,TX,Instr.storeAt,Instr.sureAddr,Sem.run_bind,Sem.run_pure,Result.andThen_ok,UA]
 rw [h3.2.1]
 have Ru:cur.toList.take (z.toNat * e + off) ++ (a2.eval x).cells.toList ++ cur.toList.drop (z.toNat * e + off + 1)=cur.toList.set (z.toNat * e + off) xv:=by
  rw [YG,List.set_eq_take_append_cons_drop,if_pos (by omega)];simp
 rw [Ru]
 have hx1:RvC E.cl [W4] [xv]:=by
  rw [YG] at ju;have h7:=ju.1;simp only [RvL] at h7;obtain ⟨v,s',h8,h9,oB⟩:=h7;simp only [List.cons.injEq] at h8;obtain ⟨rfl,rfl⟩:=h8;exact ⟨rvL_cons (td hdv h9) (by simp only [RvL]),ju.2⟩
 have NG:Da (World.cH w g (.cells (cur.toList.set (z.toNat * e + off) xv).toArray QA (0,0))) E.c E.β ⟨m,QA,e,some (cs.set (z.toNat * e + off) W4)⟩ (.slice (some ⟨g,0,none⟩) m lu):=by
  refine .inr ⟨g,lu,_,rfl,di hw0,⟨by simpa using W7,fun cs' JV=>?_⟩,HA,HB,fF,J2⟩;simp only [oI] at JV;subst JV;simp only;refine ⟨by rw [List.length_set];exact h5,?_⟩;rw [List.take_set];have al:z.toNat * e + off < (cur.toList.take (m * e)).length:=by rw [List.length_take];omega
  rw [List.set_eq_take_append_cons_drop,if_pos (by omega),List.set_eq_take_append_cons_drop,if_pos al];have h8:=(RvC.take (z.toNat * e + off) h6).append (RvC.append hx1 (RvC.drop (z.toNat * e + off + 1) h6));simpa using h8
 have RE:some g≠some g->False:=fun h=>h rfl
 obtain ⟨cj,hext⟩:=FY (q':=⟨m,QA,e,some (cs.set (z.toNat * e + off) W4)⟩) (w':=World.cH w g (.cells (cur.toList.set (z.toNat * e + off) xv).toArray QA (0,0))) ko aS jZ hy rfl rfl rfl (.inl ⟨rfl,rfl⟩) NG (.inl rfl) rfl rfl rfl (by rw [fu];exact Nat.le_refl _) (fun j _ aR=>bX (by
  rintro rfl
  exact aR rfl))
 exact go_sound 4000 _ _ hk _ _ _ cj
open Classical in
noncomputable def BE (E:En) (w:World) (y:Value) (n:Nat):Addr->Option Value:=
 fun x=>if y.ownBlock=some x.block/\x.spot=none/\x.off < n then w.cell? x else E.c x
theorem ja {y:Value} {n:Nat} {x:Addr} {v:Value} (h:BE E w y n x=some v):(y.ownBlock=some x.block/\x.spot=none/\x.off < n/\w.cell? x=some v)∨E.c x=some v:=by
 unfold BE at h;split at h
 ·rename_i hc;exact .inl ⟨hc.1,hc.2.1,hc.2.2,h⟩
 ·exact .inr h
theorem OG (h:Rel X E st a w) {k n ty e:Nat} {cs:List DV} {ns:List (List DV)} (hq:st.tk[k]? = some ⟨n,ty,e,some cs⟩) (cm:cs=ns.flatten) (sC:∀ x∈ns,x.length=e) (gj:ns.length=n) :
  ∃ E',Rel X E' ⟨st.sl,st.bx,st.tk.set k ⟨n,ty,e,none⟩⟩ a w/\Ext E E' /\ ∀ es y,es.length=n->Rv E (.sl 0 es (some k)) y->Rv E' (.sl e ns (some k)) y:=by
 subst cm;have jZ:E.tk[k]? = some ⟨n,ty,e,some ns.flatten⟩:=by rw [h.tk];exact hq
 have fY:=(gS jZ).1;have Uz:k < E.τ.length:=by rw [h.env.tl];exact fY
 have hv:E.τ[k]? = some E.τ[k]:=gE Uz;generalize E.τ[k]=v at hv;have W5:=h.env.cD k _ v jZ hv
 have fv:∀ x u,E.c x=some u->BE E w v (n * e) x=some u:=fun x u hx=>by
  unfold BE;split
  ·exact h.env.sub x u hx
  ·exact hx
 have hext:Ext E ⟨BE E w v (n * e),E.β,E.tk.set k ⟨n,ty,e,none⟩,E.τ⟩:=⟨fv,fun _ _ h=>h,fun j q YH=>by
  by_cases hj:j=k
  ·subst hj;rw [jZ] at YH;simp only [oI] at YH;subst YH;exact ⟨_,List.getElem?_set_self fY,.inl ⟨rfl,rfl⟩⟩
  ·exact ⟨q,by rw [List.getElem?_set_ne (Ne.symm hj)];exact YH,.inl ⟨rfl,rfl⟩⟩⟩
 refine ⟨⟨BE E w v (n * e),E.β,E.tk.set k ⟨n,ty,e,none⟩,E.τ⟩,cV h hext ?_ (by rw [h.tk]) ?_ h.fr h.sh h.bt,hext,?_⟩
 ·exact {
   len:=h.env.len
   tl:=by simp only [List.length_set];exact h.env.tl
   dW:=fun i cs hi=>by
    obtain ⟨b,t,arr,hb,hw,hc⟩:=h.env.dW i cs hi;exact ⟨b,t,arr,hb,hw,hc.mono hext⟩
   inj:=h.env.inj
   sub:=fun x u hx=>by
    rcases ja hx with ⟨_,_,_,h1⟩ | h1
    ·exact h1
    ·exact h.env.sub x u h1
   pc:=fun x u hx hm=>by
    rcases ja hx with ⟨h1,_⟩ | h1
    ·exact (hZ W5 h1).2 hm
    ·exact h.env.pc x u h1 hm
   cD:=fun j q y hj hy=>by
    by_cases RB:j=k
    ·subst RB;have gM:(E.tk.set j ⟨n,ty,e,none⟩)[j]? = some q:=hj;rw [List.getElem?_set_self fY] at gM;have gf:E.τ[j]? = some y:=hy;rw [hv] at gf;simp only [oI] at gM gf;subst gM gf;rcases W5 with ⟨h1,h2,_⟩ | ⟨g,cap,cur,rfl,h1,h2,h3,h4,h5,h6⟩
     ·exact .inl ⟨h1,h2,fun cs hc=>by cases hc⟩
     ·refine .inr ⟨g,cap,cur,rfl,h1,⟨h2.1,oo.none rfl⟩,h3,h4,h5,fun x u hx Di=>?_⟩;rcases ja hx with ⟨_,_,h7,_⟩ | h7
      ·exact h7
      ·have:=h6 x u h7 Di;simp only [TkE.kn] at this;omega
    ·have gM:E.tk[j]? = some q:=by
      have:(E.tk.set k ⟨n,ty,e,none⟩)[j]? = some q:=hj
      rwa [List.getElem?_set_ne (Ne.symm RB)] at this
     rcases h.env.cD j q y gM hy with h1 | ⟨g,cap,cur,rfl,h1,h2,h3,h4,h5,h6⟩
     ·exact .inl h1
     ·refine .inr ⟨g,cap,cur,rfl,h1,⟨h2.1,h2.2.mono fv⟩,h3,h4,h5,fun x u hx Di=>?_⟩;rcases ja hx with ⟨h7,_⟩ | h7
      ·exact (h.env.iy j k _ v g RB hy hv rfl (by rw [h7,Di])).elim
      ·exact h6 x u h7 Di
   iy:=h.env.iy }
 ·exact {
   c:=fun x u hx=>fv x u (h.nw.c x u hx)
   cn:=fun x u hx=>by
    rcases ja hx with ⟨h1,_⟩ | h1
    ·rcases h.nw.own hv h1 with h2 | h2
     ·exact .inr (.inr h2)
     ·exact .inr (.inl h2)
    ·exact h.nw.cn x u h1
   β:=h.nw.β
   tk:=fun j q0 y0 r8 Df=>by
    obtain ⟨q1,y1,h1,h2,h3,h4,h5,h6⟩:=h.nw.tk j q0 y0 r8 Df;by_cases hj:j=k
    ·subst hj;rw [jZ] at h1;simp only [oI] at h1;subst h1;exact ⟨_,y1,List.getElem?_set_self fY,h2,h3,h4,h5,h6⟩
    ·exact ⟨q1,y1,by rw [List.getElem?_set_ne (Ne.symm hj)];exact h1,h2,h3,h4,h5,h6⟩
   tn:=fun j y g hj hy=>h.nw.tn j y g hj hy
   l0:=h.nw.l0 }
 ·intro es y jq hy;unfold Rv at hy ⊢;obtain ⟨b,m,cap,rfl,⟨rfl,hmc⟩,hr,aS⟩:=hy;obtain ⟨q',kA,_,hτ⟩:=aS k rfl;rw [jZ] at kA;simp only [oI] at kA;subst kA;have hy:=hτ jq;rw [hv] at hy;simp only [oI] at hy;subst hy;refine ⟨b,es.length,cap,rfl,⟨by omega,hmc⟩,fun aR=>?_,fun k' fI=>?_⟩
  ·rcases W5 with ⟨h1,h2,h3⟩ | ⟨g,Ux,cur,h0,h1,h2,h3,h4,h5,h6⟩
   ·simp only at h2;exact (aR (List.eq_nil_of_length_eq_zero (by omega))).elim
   ·injection h0 with i1 i2 i3
    subst i1;refine ⟨rfl,?_⟩;obtain ⟨h7,h8⟩:=h2.2 _ rfl;refine rvEs_flat (h8.mono (E:=⟨E.c,[],[],[]⟩) ⟨fv,fun _ _ h=>by simp at h,fun _ _ h=>by simp at h⟩) sC fun j u hj=>?_;rw [List.getElem?_take] at hj;split at hj
    ·rename_i ng;show BE E w _ (n * e) _=_;unfold BE;rw [if_pos ⟨rfl,rfl,by simpa [ao] using ng⟩];simp only [ab,ao,Nat.zero_add];rw [bY h1];simpa using hj
    ·cases hj
  ·cases fI;exact ⟨_,List.getElem?_set_self fY,by simp only;omega,fun _=>hv⟩
theorem Ss {j o k n ty e:Nat} {JD:List DV} {es ns:List (List DV)} (hq:st.tk[k]? = some ⟨n,ty,e,some ns.flatten⟩) (sC:∀ x∈ns,x.length=e) (gj:ns.length=n) (hj:st.bx[j]? = some JD) (ho:JD[o]? = some (.sl 0 es (some k))) (jq:es.length=n) :
  Wk X st ⟨st.sl,st.bx.set j (JD.set o (.sl e ns none)),st.tk.set k ⟨n,ty,e,none⟩⟩:=by
 intro E a w h;obtain ⟨E',hr,hx,qa⟩:=OG h hq rfl sC gj;refine ⟨E',{ hr with env:=?_ }⟩
 exact { hr.env with
  len:=by simp only [List.length_set];exact hr.env.len
  dW:=fun i cs' hi=>by
   by_cases sA:i=j
   ·subst sA;have al:=(gS hj).1;have dF:(st.bx.set i (JD.set o (.sl e ns none)))[i]? = some cs':=hi;rw [List.getElem?_set_self al] at dF;simp only [oI] at dF;subst dF;obtain ⟨b,t,arr,hb,hw,hc⟩:=hr.env.dW i JD hj;obtain ⟨b0,t0,Dk,fF,hw0,J2⟩:=h.env.dW i JD hj;have gP:=hx.β i b0 fF;rw [hb] at gP;simp only [oI] at gP;subst gP;rw [hw] at hw0;simp only [oI,Obj.cells.injEq] at hw0
    have KR:arr=Dk:=by
     have:=hw0.1;simpa using this
    subst KR;refine ⟨b,t,arr,hb,hw,?_,hc.2⟩;obtain ⟨v,oe,Hw⟩:=J2.1.get ho;have Gm:=qa es v jq Hw;have jN:=(gS ho).1;have N3:arr.length=JD.length:=hc.1.length
    have h1:=(RvL.take o hc.1).append (rvL_cons (d:=.sl e ns none) (v:=v) (by
     unfold Rv at Gm ⊢;obtain ⟨b,n,cap,g1,g2,g3,_⟩:=Gm
     exact ⟨b,n,cap,g1,g2,g3,fun k hk=>by cases hk⟩) (RvL.drop (o + 1) hc.1))
    rw [List.set_eq_take_append_cons_drop,if_pos jN]
    have h2:arr.take o ++ v :: arr.drop (o + 1)=arr:=by
     have hoa:o < arr.length:=by omega
     have:arr[o]=v:=by
      rw [gE hoa] at oe;simpa using oe
     rw [<- this];simp
    rwa [h2] at h1
   ·have dF:(st.bx.set j (JD.set o (.sl e ns none)))[i]? = some cs':=hi;rw [List.getElem?_set_ne (Ne.symm sA)] at dF
    exact hr.env.dW i cs' dF }
theorem Wk.DA (i j:Nat) (S S':St) (he:S'=eW i j S) (Js:Nat.ble X.n0 i=true) (Ae:Nat.ble X.n0 j=true) (hi:Nat.blt i S.bx.length=true) (hj:Nat.blt j S.bx.length=true) (hX:X.bt=[]:=by exact rfl):Wk X S' S:=fun E a w h=>by
 subst he;simp only [Nat.blt_eq] at hi hj;exact F8 hX h (nL Js) (nL Ae) hi hj
theorem Ly {c:Code} (I:Nat->St->Prop) (j0:Nat) (lC:St) (hw:Wk X st lC) (h0:I j0 lC)
  (hr:∀ j s,I j s->go X 4000 (.code c :: .Jq (fun s'=>∃ J9,Wk X s' J9 /\ ∃ j',j' < j/\I j' J9) :: k) s):rf X c k st:=by
 intro E a w h;obtain ⟨E0,hr0⟩:=hw _ _ _ h
 classical
 let Inv:Act->World->Prop:=fun a w=>∃ j s E,Rel X E s a w/\I j s
 let μ:Act->World->Nat:=fun a w=>if hI:Inv a w then Classical.choose (least hI) else 0
 refine wp_loop Inv μ ⟨j0,lC,E0,hr0,h0⟩ ?_;intro a1 w1 hI;have wR:=(Classical.choose_spec (least hI)).1;obtain ⟨s,E1,cj,Zu⟩:=wR;have hs:=go_sound 4000 _ _ (hr _ s Zu) E1 a1 w1 cj;rw [eB] at hs;refine wp_mono hs ?_;intro e a2 w2 hq
 cases e with
 | normal=>
  obtain ⟨s',E2,AN,J9,N9,j',gM,UN⟩:=hq;obtain ⟨E3,AO⟩:=N9 _ _ _ AN;have RC:Inv a2 w2:=⟨j',J9,E3,AO,UN⟩;refine ⟨RC,?_⟩;simp only [μ,dif_pos hI,dif_pos RC];exact Nat.lt_of_le_of_lt ((Classical.choose_spec (least RC)).2 j' ⟨J9,E3,AO,UN⟩) gM
 | exit id=>exact hq
 | goto l=>exact hq
 | ret=>exact hq
 | panic c=>exact hq
 | outgrown=>exact hq
mutual
def flatD:DV->Bool
 | .v _=>true
 | .agg l=>flatL l
 | .tup l=>flatL l
 | _=>false
def flatL:List DV->Bool
 | []=>true
 | d :: r=>flatD d && flatL r
end
mutual
theorem Rv.flat {E E':En}:∀ {d:DV} {v:Value},flatD d=true->Rv E d v->Rv E' d v
 | .v x,v,_,h=>by unfold Rv at h ⊢;exact h
 | .agg l,v,hf,h=>by
  simp only [flatD] at hf;simp only [Rv] at h ⊢;obtain ⟨vs,h1,h2,h3⟩:=h;exact ⟨vs,h1,RvL.flat hf h2,h3⟩
 | .tup l,v,hf,h=>by
  simp only [flatD] at hf;simp only [Rv] at h ⊢;obtain ⟨vs,h1,h2⟩:=h;exact ⟨vs,h1,RvL.flat hf h2⟩
 | .ud,_,hf,_=>by simp [flatD] at hf
 | .sl _ _ _,_,hf,_=>by simp [flatD] at hf
 | .pt _ _,_,hf,_=>by simp [flatD] at hf
 | .loc _ _,_,hf,_=>by simp [flatD] at hf
 | .el _ _,_,hf,_=>by simp [flatD] at hf
 | .ms _ _ _ _ _,_,hf,_=>by simp [flatD] at hf
 | .fn _ _ _,_,hf,_=>by simp [flatD] at hf
 | .re _ _,_,hf,_=>by simp [flatD] at hf
theorem RvL.flat {E E':En}:∀ {l:List DV} {vs:List Value},flatL l=true->RvL E l vs->RvL E' l vs
 | [],vs,_,h=>by simpa only [RvL] using h
 | d :: r,vs,hf,h=>by
  simp only [flatL,Bool.and_eq_true] at hf;simp only [RvL] at h ⊢;obtain ⟨v,s,h1,h2,h3⟩:=h;exact ⟨v,s,h1,Rv.flat hf.1 h2,RvL.flat hf.2 h3⟩
end
theorem GG {f:FuncId} {args bB:List DV} {d:Nat} {y:DV} (j2:Enters X.P f) (hc:EvP X.P f bB y) (ha:CcL st.bx 0 0 0 bB args) (hy:flatD y=true) (hd:eT X.nt st.sl (some d)=true)
  (hk:go X 4000 k ⟨(d,⟨[],y⟩) :: st.sl,st.bx,st.tk⟩) (aS:X.still=false:=by exact rfl):dy X f args (some d) k st:=by
 refine ⟨j2,aS,fun E a w vs h hv=>(iq h.env hc ha hv).mono ?_⟩;rintro e w' ⟨v,E2,rfl,hr,hm,_⟩;have hh:∀ i,i < w.heap.size->w'.heap[i]? = w.heap[i]?:=fun i hi=>hm.block i hi (fun h=>h);have cj:Rel X E st a w':=cV h (Ext.refl E) (h.env.jL hh) h.tk h.nw (h.fr.b9 hm.os hm.tape hm.output hm.size fun i hi=>.inr (hh i hi)) (mY aS) (h.bt.jL fun b hb=>hh b (h.env.aV hb));exact go_sound 4000 _ _ hk E _ w' (aT cj hd y v (Rv.flat hy hr))
theorem o0 {D:Dr} {c:Bool} {i:Nat} {s0:List (Nat × Sl)} {f:FuncId} {args bB:List DV} {d:Nat} {y:DV} {r:List (Nat × Oper)} (j2:Enters X.P f) (hc:EvP X.P f bB y) (ha:CcL st.bx 0 0 0 bB args) (hy:flatD y=true) (hd:(eT X.nt st.sl (some d) && eT X.nt s0 (some d))=true)
  (hk:put2 s0 st (some d) true [] y (goD X D 3000 c r)) (aS:X.still=false:=by exact rfl):AR X D c i r f args (some d) s0 st:=by
 refine ⟨j2,fun hl E0 wr hD E a w vs h hv=>(iq h.rel.env hc ha hv).mono ?_⟩;rintro e w' ⟨v,E2,rfl,hr,hm,_⟩;have hh:∀ i,i < w.heap.size->w'.heap[i]? = w.heap[i]?:=fun i hi=>hm.block i hi (fun h=>h);have cj:Rel X E st a w':=cV h.rel (Ext.refl E) (h.rel.env.jL hh) h.rel.tk h.rel.nw (h.rel.fr.b9 hm.os hm.tape hm.output hm.size fun i hi=>.inr (hh i hi)) (mY aS) (h.rel.bt.jL fun b hb=>hh b (h.rel.env.aV hb));have hs:Ju none E w E w':=⟨Ext.refl E,⟨[],by simp⟩,fun j b hb _=>hh b (h.rel.env.aV (mG hb))⟩;have hC:=F5 h hs cj (fun j hj=>by cases hj);refine ⟨v,rfl,fun _=>hC,?_⟩;have Kg:fG X ⟨D,E0,wr⟩ c E s0 st (a.put none v) w':=tv h hs cj (fun h1=>hC (h.cc h1)) (fun i x hx=>.inr ⟨hx,fun d hd=>by cases hd⟩) rfl;obtain ⟨s1,qd,ni,eo⟩:=iT Kg hd true [] y v (fun _ _ p hp=>by cases hp) (fun _=>Rv.flat hy hr) (fun _ _=>Rv.flat hy hr) (fun hn=>(hn (aW _)).elim) hk;exact gx (D:=⟨D,E0,wr⟩) hD 3000 c r _ _ ni hl E _ w' eo
theorem dy.DA {S:St} {f:FuncId} {args bB:List DV} {dst:Option Nat} (i j:Nat) (hS:st=eW i j S) (ha:args=renL (swp i j) bB) (Js:Nat.ble X.n0 i=true) (Ae:Nat.ble X.n0 j=true) (hi:Nat.blt i S.bx.length=true) (hj:Nat.blt j S.bx.length=true)
  (h:dy X f bB dst k S) (hX:X.bt=[]:=by exact rfl):dy X f args dst k st:=by
 subst hS ha;simp only [Nat.blt_eq] at hi hj;refine ⟨h.1,h.2.1,fun E a w vs hr hv=>?_⟩
 have hlen:E.β.length=S.bx.length:=by
  rw [hr.env.len];simp only [eW,cp,cM]
 exact h.2.2 _ a w vs (AW hX hr (nL Js) (nL Ae) hi hj) (RvL.DA (by rw [hlen];exact hi) (by rw [hlen];exact hj) hv)
end
end Dv
end Go.Proofs.YtfifjddnnmfeoaaGreat
set_option maxRecDepth 100000
namespace Go.Proofs.YtfifjddnnmfeoaaGreat
open Go Go.RowKit Dv Tryz
def cZ (l:List Int):List DV:=l.map fun z=>DV.v (.int .i64 z)
def sH (af:List ByteArray) (tb lq:DV) (js:List Int):List DV:=.sl 1 (dt af) none :: tb :: lq :: cZ js
def oz:Option Nat->Int
 | none=>-1
 | some k=>(k:Int)
def BF (pb:Nat->Nat->Bool) (e:Nat):Option Nat->Bool
 | none=>true
 | some o=>pb e o
def bestA (ig:Nat->Bool) (pb:Nat->Nat->Bool):Nat->Option Nat
 | 0=>none
 | e + 1=>if ig e && BF pb e (bestA ig pb e) then some e else bestA ig pb e
def l5 (ig:Nat->Bool) (pb:Nat->Nat->Bool) (n:Nat):Option Nat:=
 match bestA ig pb n with
 | none=>none
 | some o=>if (List.range n).any (fun c=>ig c && !pb o c) then none else some o
theorem l6 {ig:Nat->Bool} {pb:Nat->Nat->Bool}:∀ {e k:Nat},bestA ig pb e=some k->k < e
 | 0,k,h=>by cases h
 | e + 1,k,h=>by
  rw [bestA] at h;split at h
  ·simp only [oI] at h;omega
  ·have:=l6 h;omega
theorem qB (af:List ByteArray) (tb:DV) (rows:List Nat) (js:List Int) (hr:dB rows) (a b:Nat) (ha:a < rows.length) (hb:b < rows.length) :
  EvP Tryz.prog 166 [.v (.int .i64 a),.v (.int .i64 b),.pt [.pt (sH af tb (ly rows) js) 0] 0] (.v (.bool (aM rows a b))):=by
 have h1:=j6 rows hr a b;rw [oU ha hb] at h1;refine ev_go (P:=Tryz.prog) tt tt_ok 5000 13 [.tmp 5] Tryz.func166 rfl Tryz.ntmps166 rfl (nL rfl) (fun E9 w9 hn9 hm9=>?_);refine call_p A1 (h1) ax rfl ?_;exact (rfl:_=_)
theorem qC (af:List ByteArray) (tb:DV) (rows:List Nat) (js:List Int) (hr:dB rows) (a b:Nat) (ha:a < rows.length) (hb:b < rows.length) :
  EvP Tryz.prog 167 [.v (.int .i64 a),.v (.int .i64 b),.pt [.pt (sH af tb (ly rows) js) 0] 0] (.v (.bool (aM rows b a))):=by
 have h1:=j6 rows hr b a;rw [oU hb ha] at h1;refine ev_go (P:=Tryz.prog) tt tt_ok 5000 13 [.tmp 5] Tryz.func167 rfl Tryz.ntmps167 rfl (nL rfl) (fun E9 w9 hn9 hm9=>?_);refine call_p A1 (h1) ax rfl ?_;exact (rfl:_=_)
abbrev QB (L:List DV):DV:=.fn 166 [] [.pt [.pt L 0] 0]
abbrev QC (L:List DV):DV:=.fn 167 [] [.pt [.pt L 0] 0]
theorem Im (af:List ByteArray) (tb:DV) (rows:List Nat) (js:List Int) (hr:dB rows) (a b c:Nat) (ha:a < rows.length) (hb:b < rows.length) (hc:c < rows.length) :
  EvP Tryz.prog 169 [.v (.int .i64 c),.pt [QB (sH af tb (ly rows) js)] 0,.pt [.v (.int .i64 a)] 0,.pt [.v (.int .i64 b)] 0] (.v (.bool (aM rows a c && aM rows b c))):=by
 have h1:=qB af tb rows js hr a c ha hc;have h2:=qB af tb rows js hr b c hb hc;refine ev_go (P:=Tryz.prog) tt tt_ok 5000 16 [.tmp 5] Tryz.func169 rfl Tryz.ntmps169 rfl (nL rfl) (fun E9 w9 hn9 hm9=>?_);refine call_p Kv (h1) ax rfl ?_;refine br (fun g=>?_) (fun g=>?_)
 ·have g:aM rows a c=true:=by simpa using g
  refine call_p Kv (h2) ax rfl ?_;refine (congrArg (fun b=>DV.v (.bool b)) ?_:_=_);simp [g,pickB]
 ·have g:aM rows a c=false:=by simpa using g
  refine (congrArg (fun b=>DV.v (.bool b)) ?_:_=_);simp [g,pickB]
theorem Io (af:List ByteArray) (tb:DV) (rows:List Nat) (js:List Int) (hr:dB rows) (a b c:Nat) (ha:a < rows.length) (hb:b < rows.length) (hc:c < rows.length) :
  EvP Tryz.prog 170 [.v (.int .i64 c),.pt [QC (sH af tb (ly rows) js)] 0,.pt [.v (.int .i64 a)] 0,.pt [.v (.int .i64 b)] 0] (.v (.bool (aM rows c a && aM rows c b))):=by
 have h1:=qC af tb rows js hr a c ha hc;have h2:=qC af tb rows js hr b c hb hc;refine ev_go (P:=Tryz.prog) tt tt_ok 5000 16 [.tmp 5] Tryz.func170 rfl Tryz.ntmps170 rfl (nL rfl) (fun E9 w9 hn9 hm9=>?_);refine call_p Kw (h1) ax rfl ?_;refine br (fun g=>?_) (fun g=>?_)
 ·have g:aM rows c a=true:=by simpa using g
  refine call_p Kw (h2) ax rfl ?_;refine (congrArg (fun b=>DV.v (.bool b)) ?_:_=_);simp [g,pickB]
 ·have g:aM rows c a=false:=by simpa using g
  refine (congrArg (fun b=>DV.v (.bool b)) ?_:_=_);simp [g,pickB]
abbrev nS (L:List DV) (gi gb:Nat) (ci cb:List DV) (n:Nat) (o:Int) (e:Nat):St:=
 ⟨[(0,⟨[],.pt L 0⟩),(1,⟨[],.fn gi [] ci⟩),(2,⟨[],.fn gb [] cb⟩),(7,⟨[],.v (.int .i64 o)⟩),(14,⟨[],.v (.int .i64 n)⟩),(15,⟨[],.v (.int .i64 e)⟩)],[],[]⟩
abbrev o6 (L:List DV) (gi gb:Nat) (ci cb:List DV) (n:Nat) (o:Int) (e:Nat):St:=
 ⟨[(0,⟨[],.pt L 0⟩),(1,⟨[],.fn gi [] ci⟩),(2,⟨[],.fn gb [] cb⟩),(7,⟨[],.v (.int .i64 o)⟩),(37,⟨[],.v (.int .i64 n)⟩),(38,⟨[],.v (.int .i64 e)⟩)],[],[]⟩
theorem xE (af:List ByteArray) (tb lq:DV) (js:List Int) (gi gb:Nat) (hei:Enters Tryz.prog gi) (heb:Enters Tryz.prog gb) (ci cb:List DV) (ig:Nat->Bool) (pb:Nat->Nat->Bool)
  (W8:CcL [] 0 0 0 ci ci) (W9:CcL [] 0 0 0 cb cb) (hcli:clB.clL 0 0 ci=true) (hclb:clB.clL 0 0 cb=true) (hn:af.length<=64)
  (qm:∀ c:Nat,c < af.length->EvP Tryz.prog gi (.v (.int .i64 c) :: ci) (.v (.bool (ig c))))
  (hpb:∀ a b:Nat,a < af.length->b < af.length->EvP Tryz.prog gb (.v (.int .i64 a) :: .v (.int .i64 b) :: cb) (.v (.bool (pb a b)))) :
  EvP Tryz.prog 168 [.pt (sH af tb lq js) 0,.fn gi [] ci,.fn gb [] cb] (.v (.int .i64 (oz (l5 ig pb af.length)))):=by
 have hN:=bK af;have za:clB 0 0 (.fn gi [] ci)=true:=by simp only [clB,Bool.and_eq_true];exact ⟨rfl,hcli⟩
 have GH:clB 0 0 (.fn gb [] cb)=true:=by simp only [clB,Bool.and_eq_true];exact ⟨rfl,hclb⟩
 refine ev_go (P:=Tryz.prog) tt tt_ok 5000 57 [.tmp 6] Tryz.func168 rfl Tryz.ntmps168 rfl (nL rfl) (fun E9 w9 hn9 hm9=>?_);refine aq (fun j st=>∃ e:Nat,st=nS (sH af tb lq js) gi gb ci cb (dt af).length (oz (bestA ig pb e)) e/\e<=af.length/\j=af.length - e) af.length (nS (sH af tb lq js) gi gb ci cb (dt af).length (oz (bestA ig pb 0)) 0) (weak_mk ⟨_,rfl⟩ wA rfl rfl rfl (by repeat' (first | exact trivial | exact ah rfl | exact ah za | exact ah GH | refine ⟨⟨_,rfl,?_⟩,?_⟩))) ⟨0,rfl,by omega,by omega⟩ ?_;rintro j st ⟨e,rfl,he,rfl⟩;refine br (fun hL=>?_) (fun hL=>?_)
 ·have al:e < af.length:=by have:=hL;simp [hN] at this;exact this
  have hs:bestA ig pb (e + 1)=if ig e && BF pb e (bestA ig pb e) then some e else bestA ig pb e:=rfl
  refine call_p hei (qm e al) ⟨_,_,rfl,rfl,W8⟩ rfl ?_
  cases hA:bestA ig pb e with
  | none=>
   rw [hA] at hs;refine br (fun g=>?_) (fun g=>?_)
   ·have g:ig e=true:=by simpa [lastG] using g
    have hz:(e:Int)=oz (bestA ig pb (e + 1)):=by rw [hs,g];all_goals rfl
    exact ⟨nS (sH af tb lq js) gi gb ci cb (dt af).length (oz (bestA ig pb (e + 1))) (e + 1),(weak_mk ⟨_,rfl⟩ wA rfl rfl rfl (by repeat' (first | exact trivial | exact ah rfl | exact ah za | exact ah GH | exact ak (cA al (by omega)) | exact ak hz | refine ⟨⟨_,rfl,?_⟩,?_⟩))),af.length - (e + 1),by omega,e + 1,rfl,by omega,rfl⟩
   ·have g:ig e=false:=by simpa [lastG] using g
    have hz:oz none=oz (bestA ig pb (e + 1)):=by rw [hs,g];all_goals rfl
    exact ⟨nS (sH af tb lq js) gi gb ci cb (dt af).length (oz (bestA ig pb (e + 1))) (e + 1),(weak_mk ⟨_,rfl⟩ wA rfl rfl rfl (by repeat' (first | exact trivial | exact ah rfl | exact ah za | exact ah GH | exact ak (cA al (by omega)) | exact ak hz | refine ⟨⟨_,rfl,?_⟩,?_⟩))),af.length - (e + 1),by omega,e + 1,rfl,by omega,rfl⟩
  | some k=>
   rw [hA] at hs;have hk:=l6 hA;refine br (fun g=>?_) (fun g=>?_)
   ·have g:ig e=true:=by simpa [lastG] using g
    refine call_p heb (hpb e k al (by omega)) ⟨_,_,rfl,rfl,_,_,rfl,rfl,W9⟩ rfl ?_;refine br (fun g2=>?_) (fun g2=>?_)
    ·have g2:pb e k=true:=by simpa [pickB,g,lastG] using g2
     have hz:(e:Int)=oz (bestA ig pb (e + 1)):=by rw [hs,g,BF,g2];all_goals rfl
     exact ⟨nS (sH af tb lq js) gi gb ci cb (dt af).length (oz (bestA ig pb (e + 1))) (e + 1),(weak_mk ⟨_,rfl⟩ wA rfl rfl rfl (by repeat' (first | exact trivial | exact ah rfl | exact ah za | exact ah GH | exact ak (cA al (by omega)) | exact ak hz | refine ⟨⟨_,rfl,?_⟩,?_⟩))),af.length - (e + 1),by omega,e + 1,rfl,by omega,rfl⟩
    ·have g2:pb e k=false:=by simpa [pickB,g,lastG] using g2
     have hz:oz (some k)=oz (bestA ig pb (e + 1)):=by rw [hs,g,BF,g2];all_goals rfl
     exact ⟨nS (sH af tb lq js) gi gb ci cb (dt af).length (oz (bestA ig pb (e + 1))) (e + 1),(weak_mk ⟨_,rfl⟩ wA rfl rfl rfl (by repeat' (first | exact trivial | exact ah rfl | exact ah za | exact ah GH | exact ak (cA al (by omega)) | exact ak hz | refine ⟨⟨_,rfl,?_⟩,?_⟩))),af.length - (e + 1),by omega,e + 1,rfl,by omega,rfl⟩
   ·have g:ig e=false:=by simpa [lastG] using g
    have hz:oz (some k)=oz (bestA ig pb (e + 1)):=by rw [hs,g];all_goals rfl
    exact ⟨nS (sH af tb lq js) gi gb ci cb (dt af).length (oz (bestA ig pb (e + 1))) (e + 1),(weak_mk ⟨_,rfl⟩ wA rfl rfl rfl (by repeat' (first | exact trivial | exact ah rfl | exact ah za | exact ah GH | exact ak (cA al (by omega)) | exact ak hz | refine ⟨⟨_,rfl,?_⟩,?_⟩))),af.length - (e + 1),by omega,e + 1,rfl,by omega,rfl⟩
 ·have aN:e=af.length:=by have:=hL;simp [hN] at this;omega
  subst aN;refine aq (fun j st=>∃ e:Nat,st=o6 (sH af tb lq js) gi gb ci cb (dt af).length (oz (bestA ig pb af.length)) e/\e<=af.length/\(∀ o,bestA ig pb af.length=some o->∀ c,c < e->(ig c && !pb o c)=false)/\j=af.length - e) af.length (o6 (sH af tb lq js) gi gb ci cb (dt af).length (oz (bestA ig pb af.length)) 0) (weak_mk ⟨_,rfl⟩ wA rfl rfl rfl (by repeat' (first | exact trivial | exact ah rfl | exact ah za | exact ah GH | refine ⟨⟨_,rfl,?_⟩,?_⟩))) ⟨0,rfl,by omega,fun _ _ c hc=>by omega,by omega⟩ ?_;rintro j st ⟨e,rfl,he,eu,rfl⟩;refine br (fun hL=>?_) (fun hL=>?_)
  ·have al:e < af.length:=by have:=hL;simp [hN] at this;exact this
   cases hA:bestA ig pb af.length with
   | none=>
    exact ⟨o6 (sH af tb lq js) gi gb ci cb (dt af).length (oz none) (e + 1),(weak_mk ⟨_,rfl⟩ wA rfl rfl rfl (by repeat' (first | exact trivial | exact ah rfl | exact ah za | exact ah GH | exact ak (cA al (by omega)) | refine ⟨⟨_,rfl,?_⟩,?_⟩))),af.length - (e + 1),by omega,e + 1,rfl,by omega,(fun _ h=>by cases h),rfl⟩
   | some o=>
    have ho:=l6 hA;have eu:=eu o hA;refine call_p hei (qm e al) ⟨_,_,rfl,rfl,W8⟩ rfl ?_;refine br (fun g=>?_) (fun g=>?_)
    ·have g:ig e=true:=by simpa [pickB] using g
     refine call_p heb (hpb o e ho al) ⟨_,_,rfl,rfl,_,_,rfl,rfl,W9⟩ rfl ?_;refine br (fun g2=>?_) (fun g2=>?_)
     ·have g2:pb o e=false:=by simpa [pickB,g,lastG] using g2
      have:l5 ig pb af.length=none:=by
       rw [l5,hA];simp only;rw [if_pos];rw [List.any_eq_true];exact ⟨e,by simpa using al,by simp [g,g2]⟩
      rw [this];exact (rfl:_=_)
     ·have g2:pb o e=true:=by simpa [pickB,g,lastG] using g2
      exact ⟨o6 (sH af tb lq js) gi gb ci cb (dt af).length (oz (some o)) (e + 1),(weak_mk ⟨_,rfl⟩ wA rfl rfl rfl (by repeat' (first | exact trivial | exact ah rfl | exact ah za | exact ah GH | exact ak (cA al (by omega)) | refine ⟨⟨_,rfl,?_⟩,?_⟩))),af.length - (e + 1),by omega,e + 1,rfl,by omega,fun o' PG c hc=>by
       cases PG;rcases Nat.lt_succ_iff_lt_or_eq.1 hc with hc | rfl
       ·exact eu c hc
       ·simp [g2],rfl⟩
    ·have g:ig e=false:=by simpa [pickB] using g
     exact ⟨o6 (sH af tb lq js) gi gb ci cb (dt af).length (oz (some o)) (e + 1),(weak_mk ⟨_,rfl⟩ wA rfl rfl rfl (by repeat' (first | exact trivial | exact ah rfl | exact ah za | exact ah GH | exact ak (cA al (by omega)) | refine ⟨⟨_,rfl,?_⟩,?_⟩))),af.length - (e + 1),by omega,e + 1,rfl,by omega,fun o' PG c hc=>by
       cases PG;rcases Nat.lt_succ_iff_lt_or_eq.1 hc with hc | rfl
       ·exact eu c hc
       ·simp [g],rfl⟩
  ·have aN:e=af.length:=by have:=hL;simp [hN] at this;omega
   subst aN
   have:l5 ig pb af.length=bestA ig pb af.length:=by
    cases hA:bestA ig pb af.length with
    | none=>rw [l5,hA]
    | some o=>
     rw [l5,hA];simp only;rw [if_neg];rw [List.any_eq_true];rintro ⟨c,hc,h2⟩;rw [eu o hA c (by simpa using hc)] at h2;cases h2
   rw [this];exact (rfl:_=_)
theorem qD (js:List Int) (bx:List (List DV)) (N n m:Nat):CcL bx N n m (cZ js) (cZ js):=by
 induction js with
 | nil=>exact rfl
 | cons z r ih=>exact ⟨_,_,rfl,rfl,ih⟩
theorem fU {n m:Nat} {tk:List TkE} (js:List Int):WeL n m tk (cZ js) (cZ js):=uf _ fun x hx=>by
 obtain ⟨z,_,rfl⟩:=List.mem_map.1 hx;exact ⟨_,rfl⟩
theorem Su (f:Nat->Nat) (js:List Int):renL f (cZ js)=cZ js:=by
 induction js with
 | nil=>rfl
 | cons z r ih=>simp only [cZ,List.map_cons,renL,renD] at ih ⊢;rw [ih]
theorem Sv (js:List Int):(cZ js).length=js.length:=by simp [cZ]
theorem Lz (js:List Int) (i:Nat) (z:Int):(cZ js).set i (.v (.int .i64 z))=cZ (js.set i z):=by simp [cZ,List.map_set]
abbrev gg (af:List ByteArray) (tc:List DV) (rows:List Nat) (js:List Int):List DV:=sH af (.pt tc 0) (ly rows) js
theorem OH (af:List ByteArray) (tc:List DV) (rows:List Nat) (js:List Int):(gg af tc rows js).length=js.length + 3:=by simp [sH,cZ]
theorem sI {af:List ByteArray} {tc:List DV} {rows:List Nat} {js:List Int} {i k:Nat} {z:Int} (h:k=i + 3):(gg af tc rows js).set k (.v (.int .i64 z))=gg af tc rows (js.set i z):=by
 subst h;simp only [sH,List.set_cons_succ,Lz]
theorem OI (f:Nat->Nat) (af:List ByteArray) (tc:List DV) (rows:List Nat) (js:List Int):renL f (gg af tc rows js)=gg af tc rows js:=by
 simp only [sH,renL,Su];rfl
theorem GI {n m:Nat} {tk:List TkE} {l:List DV} {af:List ByteArray} {tc:List DV} {rows:List Nat} {js:List Int} (h:l=gg af tc rows js):WeL n m tk l (gg af tc rows js):=by
 subst h;exact ⟨_,_,rfl,ah rfl,_,_,rfl,ah rfl,_,_,rfl,ah rfl,fU js⟩
def ep (f:Nat->Nat->Bool) (n a b:Nat):Option Nat:=l5 (fun c=>f a c && f b c) f n
def gV (f:Nat->Nat->Bool) (n a b:Nat):Option Nat:=l5 (fun c=>f c a && f c b) (fun x y=>f y x) n
theorem uw (f:Nat->Nat->Bool) (n a b:Nat):ep f n a b=ep f n b a:=by
 unfold ep;congr 1;funext c;exact Bool.and_comm _ _
theorem ux (f:Nat->Nat->Bool) (n a b:Nat):gV f n a b=gV f n b a:=by
 unfold gV;congr 1;funext c;exact Bool.and_comm _ _
def ka (f:Nat->Nat->Bool) (n a b:Nat):Bool:=(ep f n a b).isNone || (gV f n a b).isNone
def l7 (f:Nat->Nat->Bool) (n b:Nat):Bool:=(List.range (b + 1)).any fun a=>ka f n a b
def JM (f:Nat->Nat->Bool) (n:Nat) (js:List Int) (a b:Nat):Prop:=js[a * 32 + b]? = some (oz (ep f n a b))/\js[1024 + (a * 32 + b)]? = some (oz (gV f n a b))
def v8 (js:List Int) (a b:Nat) (j m:Int):List Int:=(((js.set (a * 32 + b) j).set (b * 32 + a) j).set (1024 + (a * 32 + b)) m).set (1024 + (b * 32 + a)) m
theorem LA (js:List Int) (a b:Nat) (j m:Int):(v8 js a b j m).length=js.length:=by simp [v8]
theorem cf {js:List Int} {i k:Nat} {z:Int} (h:k≠i):(js.set k z)[i]? = js[i]?:=List.getElem?_set_ne h
theorem o8 {f:Nat->Nat->Bool} {n:Nat} {js:List Int} (hl:js.length=2048) {a b:Nat} (ha:a < 32) (hb:b < 32) {x y:Nat} (hx:x < 32) (hy:y < 32)
  (h:JM f n js x y∨(x=a/\y=b)∨(x=b/\y=a)):JM f n (v8 js a b (oz (ep f n a b)) (oz (gV f n a b))) x y:=by
 have key:(x=a/\y=b)∨(x=b/\y=a)∨(JM f n js x y/\¬ (x=a/\y=b)/\¬ (x=b/\y=a)):=by
  by_cases h1:x=a/\y=b
  ·exact .inl h1
  ·by_cases h2:x=b/\y=a
   ·exact .inr (.inl h2)
   ·rcases h with h | h | h
    ·exact .inr (.inr ⟨h,h1,h2⟩)
    ·exact (h1 h).elim
    ·exact (h2 h).elim
 rcases key with ⟨rfl,rfl⟩ | ⟨rfl,rfl⟩ | ⟨h,h1,h2⟩
 ·unfold JM v8;refine ⟨?_,?_⟩
  ·rw [cf (by omega),cf (by omega)];by_cases Dy:x=y
   ·subst Dy;rw [List.getElem?_set_self (by simp;omega)]
   ·rw [cf (by omega),List.getElem?_set_self (by omega)]
  ·by_cases Dy:x=y
   ·subst Dy;rw [List.getElem?_set_self (by simp;omega)]
   ·rw [cf (by omega),List.getElem?_set_self (by simp;omega)]
 ·unfold JM v8;rw [uw f n x y,ux f n x y];refine ⟨?_,?_⟩
  ·rw [cf (by omega),cf (by omega),List.getElem?_set_self (by simp;omega)]
  ·rw [List.getElem?_set_self (by simp;omega)]
 ·unfold JM v8;have g1:a * 32 + b≠x * 32 + y:=fun he=>h1 ⟨by omega,by omega⟩;have g2:b * 32 + a≠x * 32 + y:=fun he=>h2 ⟨by omega,by omega⟩;refine ⟨?_,?_⟩
  ·rw [cf (by omega),cf (by omega),cf g2,cf g1];exact h.1
  ·rw [cf (by omega),cf (by omega),cf (by omega),cf (by omega)];exact h.2
abbrev LB (af:List ByteArray) (tc:List DV) (rows:List Nat) (js:List Int) (e:Nat):St:=
 ⟨[(1,⟨[],.loc 1 0⟩),(3,⟨[],.loc 2 0⟩),(4,⟨[],.loc 3 0⟩),(15,⟨[],.v (.int .i64 (dt af).length)⟩),(16,⟨[],.v (.int .i64 e)⟩)],
  [gg af tc rows js,[.loc 0 0],[.fn 166 [] [.loc 1 0]],[.fn 167 [] [.loc 1 0]]],[]⟩
abbrev D6 (af:List ByteArray) (tc:List DV) (rows:List Nat) (js:List Int) (e f:Nat):St:=
 ⟨[(1,⟨[],.loc 1 0⟩),(3,⟨[],.loc 2 0⟩),(4,⟨[],.loc 3 0⟩),(15,⟨[],.v (.int .i64 (dt af).length)⟩),(16,⟨[],.v (.int .i64 e)⟩),(5,⟨[],.loc 4 0⟩),(6,⟨[],.loc 5 0⟩)],
  [gg af tc rows js,[.loc 0 0],[.fn 166 [] [.loc 1 0]],[.fn 167 [] [.loc 1 0]],[.v (.int .i64 e)],[.v (.int .i64 f)]],[]⟩
abbrev LD (af:List ByteArray) (tc:List DV) (rows:List Nat) (js:List Int) (e f:Nat):St:=
 ⟨[(1,⟨[],.loc 1 0⟩),(3,⟨[],.loc 2 0⟩),(4,⟨[],.loc 3 0⟩),(15,⟨[],.v (.int .i64 (dt af).length)⟩),(16,⟨[],.v (.int .i64 e)⟩),(5,⟨[],.loc 4 0⟩),(6,⟨[],.loc 6 0⟩)],
  [gg af tc rows js,[.loc 0 0],[.fn 166 [] [.loc 1 0]],[.fn 167 [] [.loc 1 0]],[.v (.int .i64 e)],[.v (.int .i64 f)],[.v (.int .i64 (f + 1:Nat))]],[]⟩
abbrev LF (af:List ByteArray) (tc:List DV) (rows:List Nat) (js:List Int) (e f:Nat):St:=
 ⟨[(1,⟨[],.loc 1 0⟩),(3,⟨[],.loc 2 0⟩),(4,⟨[],.loc 3 0⟩),(15,⟨[],.v (.int .i64 (dt af).length)⟩),(16,⟨[],.v (.int .i64 e)⟩),(5,⟨[],.loc 4 0⟩),(6,⟨[],.loc 5 0⟩)],
  [gg af tc rows js,[.loc 0 0],[.fn 166 [] [.loc 1 0]],[.fn 167 [] [.loc 1 0]],[.v (.int .i64 e)],[.v (.int .i64 (f + 1:Nat))],[.v (.int .i64 f)]],[]⟩
theorem OJ (af:List ByteArray) (tc:List DV) (rows:List Nat) (js:List Int) (e f:Nat):LD af tc rows js e f=eW 5 6 (LF af tc rows js e f):=by
 simp only [eW,renO,OI];rfl
def BndΦ (af:List ByteArray) (tc:List DV) (rows:List Nat) (r:DV) (os:List (List DV)) (_:List TkE):Prop:=
 ∃ Sw,os=[gg af tc rows Sw]/\Sw.length=2048/\r = .v (.int .i64 (oz (bG (l7 (aM rows) af.length) af.length))) /\
  (bG (l7 (aM rows) af.length) af.length=none->∀ x y,x < af.length->y < af.length->JM (aM rows) af.length Sw x y)
theorem BG (af:List ByteArray) (tc:List DV) (rows:List Nat) (js:List Int) (hr:dB rows) (hlen:rows.length=af.length) (hn:af.length<=32) (hj:js.length=2048) :
  Ev Tryz.prog 101 [.loc 0 0] [gg af tc rows js] [] (BndΦ af tc rows):=by
 have hN:=bK af;refine ev_go (P:=Tryz.prog) tt tt_ok 5000 73 [.tmp 2] Tryz.func101 rfl Tryz.ntmps101 rfl (nL rfl) (fun E9 w9 hn9 hm9=>?_);refine aq (fun j st=>∃ (e:Nat) (js:List Int),st=LB af tc rows js e/\e<=af.length/\js.length=2048/\(∀ b,b < e->l7 (aM rows) af.length b=false)/\(∀ x y,x < e->y < e->JM (aM rows) af.length js x y)/\j=af.length - e) af.length (LB af tc rows js 0) (ay 4 rfl (by repeat' (first | exact rfl | exact ah rfl | exact fU _ | refine ⟨_,_,rfl,?_,?_⟩)) rfl rfl rfl (by repeat' (first | exact trivial | exact ah rfl | exact fU _ | refine ⟨⟨_,rfl,?_⟩,?_⟩))) ⟨0,js,rfl,by omega,hj,fun _ h=>by omega,fun _ _ h=>by omega,by omega⟩ ?_;rintro j st ⟨e,js,rfl,he,hj,eu,JE,rfl⟩;refine br (fun hL=>?_) (fun hL=>?_)
 ·have al:e < af.length:=by have:=hL;simp [hN] at this;exact this
  refine Ly (fun j st=>∃ (f:Nat) (js:List Int),st=D6 af tc rows js e f/\f<=e + 1/\js.length=2048/\(∀ a,a < f->ka (aM rows) af.length a e=false)/\(∀ x y,x < e->y < e->JM (aM rows) af.length js x y)/\(∀ x,x < f->JM (aM rows) af.length js x e/\JM (aM rows) af.length js e x)/\j=e + 1 - f) (e + 1) (D6 af tc rows js e 0) (.Sq (ay 6 rfl (by repeat' (first | exact rfl | exact ah rfl | exact fU _ | refine ⟨_,_,rfl,?_,?_⟩)) rfl rfl rfl (by repeat' (first | exact trivial | exact ah rfl | exact fU _ | refine ⟨⟨_,rfl,?_⟩,?_⟩)))) ⟨0,js,rfl,by omega,hj,fun _ h=>by omega,JE,fun _ h=>by omega,by omega⟩ ?_;clear JE hj;rintro j st ⟨f,js,rfl,hf,hj,TH,JE,YI,rfl⟩;refine br (fun jb=>?_) (fun jb=>?_)
  ·have NZ:f<=e:=by have:=jb;simp at this;exact this
   have gP:=xE af (.pt tc 0) (ly rows) js 169 166 VF Kv
    [.pt [QB (gg af tc rows js)] 0,.pt [.v (.int .i64 f)] 0,.pt [.v (.int .i64 e)] 0] [.pt [.pt (gg af tc rows js) 0] 0] (fun c=>aM rows f c && aM rows e c) (aM rows) ax ax rfl rfl (by omega)
    (fun c hc=>Im af (.pt tc 0) rows js hr f e c (by omega) (by omega) (by omega)) (fun a b ha hb=>qB af (.pt tc 0) rows js hr a b (by omega) (by omega))
   have fj:=xE af (.pt tc 0) (ly rows) js 170 167 VG Kw
    [.pt [QC (gg af tc rows js)] 0,.pt [.v (.int .i64 f)] 0,.pt [.v (.int .i64 e)] 0] [.pt [.pt (gg af tc rows js) 0] 0] (fun c=>aM rows c f && aM rows c e) (fun x y=>aM rows y x) ax ax rfl rfl (by omega)
    (fun c hc=>Io af (.pt tc 0) rows js hr f e c (by omega) (by omega) (by omega)) (fun a b ha hb=>qC af (.pt tc 0) rows js hr a b (by omega) (by omega))
   refine yJ P5 gP (by repeat' (first | exact rfl | exact trivial | exact Or.inr (Or.inl ⟨_,rfl⟩) | exact Or.inr ⟨_,rfl⟩ | exact Or.inl ⟨rfl,rfl⟩ | exact Or.inl rfl | refine Or.inr ⟨_,_,rfl,Nat.zero_le _,rfl,?_⟩ | refine ⟨_,_,rfl,?_,?_⟩ | refine ⟨_,rfl,?_⟩ | exact qD _ _ _ _ _ | refine Or.inr (Or.inr (Or.inr ⟨_,_,rfl,?_⟩)) | exact Or.inl rfl | refine Or.inr ?_)) rfl ?_;refine yJ P5 fj (by repeat' (first | exact rfl | exact trivial | exact Or.inr (Or.inl ⟨_,rfl⟩) | exact Or.inr ⟨_,rfl⟩ | exact Or.inl ⟨rfl,rfl⟩ | exact Or.inl rfl | refine Or.inr ⟨_,_,rfl,Nat.zero_le _,rfl,?_⟩ | refine ⟨_,_,rfl,?_,?_⟩ | refine ⟨_,rfl,?_⟩ | exact qD _ _ _ _ _ | refine Or.inr (Or.inr (Or.inr ⟨_,_,rfl,?_⟩)) | exact Or.inl rfl | refine Or.inr ?_)) rfl ?_
   have GJ:pickB (decide (oz (ep (aM rows) af.length f e) = -1)) true (decide (oz (gV (aM rows) af.length f e) = -1))=ka (aM rows) af.length f e:=by
    unfold ka
    cases ep (aM rows) af.length f e with
    | none=>rfl
    | some j=>
     have:decide (oz (some j) = -1)=false:=by simp [oz]
     rw [this]
     cases gV (aM rows) af.length f e with
     | none=>rfl
     | some m=>
      have:decide (oz (some m) = -1)=false:=by simp [oz]
      rw [this];rfl
   refine br (fun g=>?_) (fun g=>?_)
   ·have g:ka (aM rows) af.length f e=true:=GJ.symm.trans g
    have hb:l7 (aM rows) af.length e=true:=by
     unfold l7;rw [List.any_eq_true];exact ⟨f,by simp;omega,g⟩
    have Ag:=cw (p:=l7 (aM rows) af.length) al hb eu;refine ⟨.v (.int .i64 e),[gg af tc rows js],ax,(by repeat' (first | exact rfl | exact trivial | exact Or.inr (Or.inl ⟨_,rfl⟩) | exact Or.inr ⟨_,rfl⟩ | exact Or.inl ⟨rfl,rfl⟩ | exact Or.inl rfl | refine Or.inr ⟨_,_,rfl,Nat.zero_le _,rfl,?_⟩ | refine ⟨_,_,rfl,?_,?_⟩ | refine ⟨_,rfl,?_⟩ | exact qD _ _ _ _ _ | refine Or.inr (Or.inr (Or.inr ⟨_,_,rfl,?_⟩)) | exact Or.inl rfl | refine Or.inr ?_)),js,rfl,hj,?_,fun h=>by rw [Ag] at h;cases h⟩;rw [Ag];rfl
   ·have g:ka (aM rows) af.length f e=false:=GJ.symm.trans g;refine sD [0] (fun _=>false) mo (by decide +kernel) ?_;have cR:=OH af tc rows js;refine ⟨⟨by omega,by omega⟩,?_⟩;refine ⟨⟨by omega,by omega⟩,?_⟩;refine ⟨by rw [cR];omega,?_⟩;refine ⟨⟨by omega,by omega⟩,?_⟩;refine ⟨⟨by omega,by omega⟩,?_⟩;refine ⟨by rw [List.length_set,cR];omega,?_⟩;refine sD [0] (fun _=>false) mo (by decide +kernel) ?_;refine ⟨⟨by omega,by omega⟩,?_⟩;refine ⟨⟨by omega,by omega⟩,?_⟩;refine ⟨by rw [List.length_set,List.length_set,cR];omega,?_⟩;refine ⟨⟨by omega,by omega⟩,?_⟩;refine ⟨⟨by omega,by omega⟩,?_⟩;refine ⟨by rw [List.length_set,List.length_set,List.length_set,cR];omega,?_⟩
    have fF:((((gg af tc rows js).set (0 + 0 + 3 + (f:Int).toNat * 32 + (e:Int).toNat * 1) (DV.v (.int .i64 (oz (ep (aM rows) af.length f e))))).set (0 + 0 + 3 + (e:Int).toNat * 32 + (f:Int).toNat * 1) (DV.v (.int .i64 (oz (ep (aM rows) af.length f e))))).set (0 + 0 + 1027 + (f:Int).toNat * 32 + (e:Int).toNat * 1) (DV.v (.int .i64 (oz (gV (aM rows) af.length f e))))).set (0 + 0 + 1027 + (e:Int).toNat * 32 + (f:Int).toNat * 1) (DV.v (.int .i64 (oz (gV (aM rows) af.length f e))))=gg af tc rows (v8 js f e (oz (ep (aM rows) af.length f e)) (oz (gV (aM rows) af.length f e))):=by
     rw [sI (i:=f * 32 + e) (by omega),sI (i:=e * 32 + f) (by omega),sI (i:=1024 + (f * 32 + e)) (by omega),sI (i:=1024 + (e * 32 + f)) (by omega)];rfl
    refine ⟨D6 af tc rows (v8 js f e (oz (ep (aM rows) af.length f e)) (oz (gV (aM rows) af.length f e))) e (f + 1),
     .trans (.Sq (s2:=LD af tc rows (v8 js f e (oz (ep (aM rows) af.length f e)) (oz (gV (aM rows) af.length f e))) e f) (ay 7 rfl (by repeat' (first | exact rfl | exact ah rfl | exact GI fF | exact ak (cA (n:=e + 1) (by omega) (by omega)) | refine ⟨_,_,rfl,?_,?_⟩)) rfl rfl rfl (by repeat' (first | exact trivial | exact ah rfl | exact GI fF | exact ak (cA (n:=e + 1) (by omega) (by omega)) | refine ⟨⟨_,rfl,?_⟩,?_⟩))))
      (.trans (.DA 5 6 (LF af tc rows (v8 js f e (oz (ep (aM rows) af.length f e)) (oz (gV (aM rows) af.length f e))) e f) _ (OJ _ _ _ _ _ _) rfl rfl rfl rfl) (.Sq (ay 6 rfl (by repeat' (first | exact rfl | exact ah rfl | exact fU _ | refine ⟨_,_,rfl,?_,?_⟩)) rfl rfl rfl (by repeat' (first | exact trivial | exact ah rfl | exact fU _ | refine ⟨⟨_,rfl,?_⟩,?_⟩))))),
     e + 1 - (f + 1),by omega,f + 1,_,rfl,by omega,by rw [LA];exact hj,fun a ha=>?_,fun x y hx hy=>?_,fun x hx=>?_,rfl⟩
    ·rcases Nat.lt_succ_iff_lt_or_eq.1 ha with ha | rfl
     ·exact TH a ha
     ·exact g
    ·exact o8 hj (by omega) (by omega) (by omega) (by omega) (.inl (JE x y hx hy))
    ·rcases Nat.lt_succ_iff_lt_or_eq.1 hx with hx | rfl
     ·exact ⟨o8 hj (by omega) (by omega) (by omega) (by omega) (.inl (YI x hx).1),o8 hj (by omega) (by omega) (by omega) (by omega) (.inl (YI x hx).2)⟩
     ·exact ⟨o8 hj (by omega) (by omega) (by omega) (by omega) (.inr (.inl ⟨rfl,rfl⟩)),o8 hj (by omega) (by omega) (by omega) (by omega) (.inr (.inr ⟨rfl,rfl⟩))⟩
  ·have NZ:f=e + 1:=by have:=jb;simp at this;omega
   subst NZ
   have hb:l7 (aM rows) af.length e=false:=by
    unfold l7;rw [List.any_eq_false];intro a ha;rw [TH a (by simpa using ha)];decide
   refine ⟨LB af tc rows js (e + 1),(ay 4 rfl (by repeat' (first | exact rfl | exact ah rfl | exact fU _ | exact ak (cA al (by omega)) | refine ⟨_,_,rfl,?_,?_⟩)) rfl rfl rfl (by repeat' (first | exact trivial | exact ah rfl | exact fU _ | exact ak (cA al (by omega)) | refine ⟨⟨_,rfl,?_⟩,?_⟩))),af.length - (e + 1),by omega,e + 1,js,rfl,by omega,hj,fun b dG=>?_,fun x y hx hy=>?_,rfl⟩
   ·rcases Nat.lt_succ_iff_lt_or_eq.1 dG with h | rfl
    ·exact eu b h
    ·exact hb
   ·rcases Nat.lt_succ_iff_lt_or_eq.1 hx with hx | rfl
    ·rcases Nat.lt_succ_iff_lt_or_eq.1 hy with hy | rfl
     ·exact JE x y hx hy
     ·exact (YI x (by omega)).1
    ·exact (YI y (by omega)).2
 ·have aN:e=af.length:=by have:=hL;simp [hN] at this;omega
  subst aN;refine ⟨.v (.int .i64 (-1)),[gg af tc rows js],ax,(by repeat' (first | exact rfl | exact trivial | exact Or.inr (Or.inl ⟨_,rfl⟩) | exact Or.inr ⟨_,rfl⟩ | exact Or.inl ⟨rfl,rfl⟩ | exact Or.inl rfl | refine Or.inr ⟨_,_,rfl,Nat.zero_le _,rfl,?_⟩ | refine ⟨_,_,rfl,?_,?_⟩ | refine ⟨_,rfl,?_⟩ | exact qD _ _ _ _ _ | refine Or.inr (Or.inr (Or.inr ⟨_,_,rfl,?_⟩)) | exact Or.inl rfl | refine Or.inr ?_)),js,rfl,hj,?_,fun _=>JE⟩;rw [cO eu];rfl
def Sx (l:List Wd) (k:Nat):Int:=((l[k]?).getD (⟨ap,0⟩:Wd)).a
def latF (l:List Wd) (o:List (Wd × Wd)):Ft:=
 if (eZ l o).1≠0 then eZ l o
 else if (enumL l 0 l).1≠0 then enumL l 0 l
 else if (numF (av l) o).1≠0 then numF (av l) o
 else match bG (jE l.length (dY l.length (cL (av l) o))) l.length with
  | some a=>(11,Sx l a)
  | none=>
   match bG (l7 (dY l.length (cL (av l) o)) l.length) l.length with
   | some b=>(12,Sx l b)
   | none=>(0,0)
def Sy (l:List Wd) (o:List (Wd × Wd)) (d:DV):Prop:=
 ∃ az js,gk (av l) az/\az.length<=l.length/\js.length=2048/\(∀ x y,x < l.length->y < l.length->JM (dY l.length (cL (av l) o)) l.length js x y) /\
  d = .pt (gg (av l) (cr (av l) az) (closeR (ez l.length (cL (av l) o)) l.length) js) 0
def D7 (l:List Wd) (o:List (Wd × Wd)) (r:DV) (_:List (List DV)) (_:List TkE):Prop:=
 if (latF l o).1≠0 then r = .tup [.v (.pointer none),(latF l o).d] else ∃ d,Sy l o d/\r = .tup [d,(latF l o).d]
theorem mM {L:List ByteArray}:∀ {o:List (Wd × Wd)},(numF L o).1=0->qx L.length (cL L o)
 | [],_=>by intro p hp;simp [cL] at hp
 | q :: r,h=>by
  rw [numF] at h;split at h
  ·cases h
  ·rename_i h1;split at h
   ·cases h
   ·rename_i h2;have ih:=mM (o:=r) h;intro p hp;simp only [cL,List.map_cons,List.mem_cons] at hp;rcases hp with rfl | hp
    ·obtain ⟨a,ha⟩:=Option.ne_none_iff_exists'.1 h1;obtain ⟨b,hb⟩:=Option.ne_none_iff_exists'.1 h2;simp only [Sm,ha,hb,Option.getD_some];exact ⟨(cF ha).1,(cF hb).1⟩
    ·exact ih p hp
theorem cS (l:List Wd):(av l).length=l.length:=by simp [av]
theorem uy {all:List Wd}:∀ {l:List Wd} {i:Nat},(enumL all i l).1=0->enumL all i l=(0,0)
 | [],_,_=>rfl
 | x :: r,i,h=>by
  rw [enumL] at h ⊢;split at h
  ·rename_i h1;exact (h1 h).elim
  ·rename_i h1;rw [if_neg h1];exact uy h
theorem xF {L:List ByteArray}:∀ {o:List (Wd × Wd)},(numF L o).1=0->numF L o=(0,0)
 | [],_=>rfl
 | q :: r,h=>by
  rw [numF] at h ⊢;split at h
  ·cases h
  ·rename_i h1;split at h
   ·cases h
   ·rename_i h2;rw [if_neg h1,if_neg h2];exact xF h
theorem jF {l:List Wd} {k:Nat} {w:Wd} (h:l[k]? = some w):Sx l k=w.a:=by simp [Sx,h]
theorem Sz (n:Nat):vL (List.replicate n (.int .i64 0))=cZ (List.replicate n 0):=by
 induction n with
 | zero=>rfl
 | succ n ih=>simp only [List.replicate_succ,vL,cZ,List.map_cons] at ih ⊢;rw [ih]
theorem l8 {l:List Wd} {o:List (Wd × Wd)} {f:Ft} {os:List (List DV)} {tk:List TkE} (h:latF l o=f) (hf:f.1≠0):D7 l o (.tup [.v (.pointer none),f.d]) os tk:=by
 unfold D7;rw [h,if_pos hf]
theorem OL {l:List Wd} {o:List (Wd × Wd)} {d:DV} {os:List (List DV)} {tk:List TkE} (h:latF l o=(0,0)) (hd:Sy l o d):D7 l o (.tup [d,Ft.d (0,0)]) os tk:=by
 unfold D7;rw [h,if_neg (by simp)];exact ⟨d,hd,rfl⟩
theorem OM (n m:Nat) (af:List ByteArray) (tc:List DV) (rows:List Nat) (js:List Int):clB.clL n m (gg af tc rows js)=true:=by
 have h:∀ l:List Int,clB.clL n m (cZ l)=true:=by
  intro l
  induction l with
  | nil=>rfl
  | cons z r ih=>simp only [cZ,List.map_cons,clB.clL,clB,Bool.true_and] at ih ⊢;exact ih
 simp only [sH,clB.clL,clB,h,ly,Bool.and_self]
theorem BH (l:List Wd) (o:List (Wd × Wd)) (hs:wdsWt l<=1099511627776) (Dg:prsWt o<=1099511627776) :
  Ev Tryz.prog 43 [.sl 2 (bn l) none,.sl 4 (lx o) none] [] [] (D7 l o):=by
 have ll:=bd l;have RE:=gC o;have gj:=cS l;have hF:=latF.eq_1 l o;refine ev_go (P:=Tryz.prog) tt tt_ok 5000 86 [.tmp 4,.cell 5 54] Tryz.func43 rfl Tryz.ntmps43 rfl (nL rfl) (fun E9 w9 hn9 hm9=>?_);refine call_p Z4 (Ik l o) ax rfl ?_;by_cases hm:(eZ l o).1≠0
 ·rw [if_pos hm] at hF;refine br (fun h=>?_) (fun h=>?_)
  ·refine aX mo (by decide +kernel) ?_;exact ⟨_,ax,l8 (os:=[]) (tk:=[]) hF hm⟩
  ·exfalso;simp at h;exact hm h
 rw [if_neg hm] at hF;refine br (fun h=>?_) (fun _=>?_)
 ·exfalso;simp at h;exact hm h
 have DB:l ≠ []:=by
  rintro rfl;simp [eZ] at hm
 have hl32:l.length<=32:=by
  rcases Nat.lt_or_ge 32 l.length with h | h
  ·simp [eZ,DB,h] at hm
  ·exact h
 have sg:=BC l hs;unfold WX at sg;by_cases hE:(enumL l 0 l).1≠0
 ·rw [if_neg hE] at sg;rw [if_pos hE] at hF;refine call_p Vk (sg) ax rfl ?_;refine br (fun h=>?_) (fun h=>?_)
  ·refine aX mo (by decide +kernel) ?_;exact ⟨_,ax,l8 (os:=[]) (tk:=[]) hF hE⟩
  ·exfalso;simp at h;exact hE h
 rw [if_neg hE] at hF;have hE:(enumL l 0 l).1=0:=by simpa using hE
 rw [if_pos hE] at sg;rw [uy hE] at sg;refine call_p Vk (sg) ax rfl ?_;refine bl RY rfl (tN (av l) (by omega)) ax (fun r hr=>?_);obtain ⟨az,hT,jN,rfl⟩:=hr;have D8:=v7 (av l) az hT (by omega) o Dg;unfold WY at D8;by_cases hN:(numF (av l) o).1≠0
 ·rw [if_neg hN] at D8;rw [if_pos hN] at hF;refine call_p Vl (D8) ax rfl ?_;refine br (fun h=>?_) (fun h=>?_)
  ·refine aX mo (by decide +kernel) ?_;exact ⟨_,ax,l8 (os:=[]) (tk:=[]) hF hN⟩
  ·exfalso;simp at h;exact hN h
 rw [if_neg hN] at hF;have hN:(numF (av l) o).1=0:=by simpa using hN
 rw [if_pos hN] at D8;rw [xF hN] at D8;have hP:=mM hN;rw [gj] at hP;have hPl:(cL (av l) o).length=o.length:=by simp [cL]
 generalize hPP:cL (av l) o=P at D8 hF hP hPl;refine call_p Vl (D8) ax rfl ?_;have hLn:(dt (av l)).length=l.length:=by rw [bK,gj]
 have hPb:P.length<=1099511627776:=by omega
 have hro:=yZ (n:=l.length) (by omega) P hP;have fH:=iY l.length P;have hr0:ez l.length P ≠ []:=fun h=>DB (List.eq_nil_of_length_eq_zero (by rw [<- fH,h];rfl));refine call_p Z5 (Ia l.length (by omega) P hP hPb) (by repeat' (first | exact rfl | exact trivial | exact Or.inr (Or.inl ⟨_,rfl⟩) | exact Or.inr ⟨_,rfl⟩ | exact Or.inl ⟨rfl,rfl⟩ | exact Or.inl rfl | refine Or.inr ⟨_,_,rfl,Nat.zero_le _,rfl,?_⟩ | refine ⟨_,_,rfl,?_,?_⟩ | refine ⟨_,rfl,?_⟩ | exact congrArg (fun z=>DV.v (.int .i64 z)) (congrArg Nat.cast hLn)| refine Or.inr (Or.inr (Or.inr ⟨_,_,rfl,?_⟩)) | exact Or.inl rfl | refine Or.inr ?_)) rfl ?_;have hlo:=D2 _ hro hr0;rw [fH,OB (by omega) hP] at hlo
 cases hA:bG (jE l.length (dY l.length P)) l.length with
 | some a=>
  rw [hA] at hlo hF;simp only at hF;have N3:=(dK hA).1;obtain ⟨w,hw⟩:∃ w,l[a]? = some w:=⟨_,gE N3⟩;rw [jF hw] at hF;refine call_p Vm (hlo) ax rfl ?_;refine aX mo (by decide +kernel) ?_;refine ⟨iV w,⟨by omega,aK hw⟩,?_⟩;exact ⟨_,ax,l8 (os:=[]) (tk:=[]) hF (by simp)⟩
 | none=>
 rw [hA] at hlo hF;simp only at hF;refine call_p Vm (hlo) ax rfl ?_;have ju:=rD _ hro hr0;rw [fH] at ju;have hcok:=j7 hro l.length (by omega);have Xa:=eG (ez l.length P) l.length;rw [fH] at Xa;refine call_p PR (ju) ax rfl ?_;have hrep:(List.replicate 2048 (0:Int)).length=2048:=List.length_replicate
 have cm:CcL [] 0 0 0 (gg (av l) (cr (av l) az) (closeR (ez l.length P) l.length) (List.replicate 2048 0)) (.sl 1 (dt (av l)) none :: .pt (cr (av l) az) 0 :: ly (closeR (ez l.length P) l.length) :: vL (List.replicate 2048 (.int .i64 0))):=by
  refine ⟨_,_,rfl,Or.inr (Or.inl ⟨_,rfl⟩),_,_,rfl,Or.inl rfl,_,_,rfl,Or.inl rfl,?_⟩;rw [Sz];exact qD _ _ _ _ _
 have hbn:=BG (av l) (cr (av l) az) _ (List.replicate 2048 0) hcok (by omega) (by omega) hrep;refine kK Vn rfl rfl cm ax hbn (fun r os tk h=>?_) (fun r qj h=>?_)
 ·obtain ⟨Sw,rfl,_,rfl,_⟩:=h;refine ⟨rfl,fun qj h=>?_⟩;rw [List.mem_singleton.1 h];exact OM _ _ _ _ _ _
 obtain ⟨Sw,h1,hj2,hr,JE⟩:=h;simp only [List.cons.injEq,and_true] at h1;subst h1
 have hB:bG (l7 (aM (closeR (ez l.length P) l.length)) (av l).length) (av l).length=bG (l7 (dY l.length P) l.length) l.length:=by
  rw [gj];rfl
 rw [hB] at hr JE
 cases hb:bG (l7 (dY l.length P) l.length) l.length with
 | some b=>
  rw [hb] at hr hF;subst hr;simp only at hF;have hbl:=(dK hb).1;obtain ⟨w,hw⟩:∃ w,l[b]? = some w:=⟨_,gE hbl⟩;rw [jF hw] at hF;refine aX mo (by decide +kernel) ?_;refine ⟨iV w,⟨by simp only [oz];omega,aK hw⟩,?_⟩;exact ⟨_,ax,l8 (os:=[]) (tk:=[]) hF (by simp)⟩
 | none=>
  rw [hb] at hr hF;subst hr;simp only at hF;refine ⟨.tup [.pt (gg (av l) (cr (av l) az) (closeR (ez l.length P) l.length) Sw) 0,Ft.d (0,0)],(by repeat' (first | exact rfl | exact trivial | exact Or.inr (Or.inl ⟨_,rfl⟩) | exact Or.inr ⟨_,rfl⟩ | exact Or.inl ⟨rfl,rfl⟩ | exact Or.inl rfl | refine Or.inr ⟨_,_,rfl,Nat.zero_le _,rfl,?_⟩ | refine ⟨_,_,rfl,?_,?_⟩ | refine ⟨_,rfl,?_⟩ | exact qD _ _ _ _ _ | refine Or.inr (Or.inr (Or.inr ⟨_,_,rfl,?_⟩)) | exact Or.inl rfl | refine Or.inr ?_)),OL (os:=[]) (tk:=[]) hF ⟨az,Sw,hT,by omega,hj2,?_,by rw [hPP]⟩⟩;rw [hPP];rw [gj] at JE;exact JE hb
section
variable (af:List ByteArray) (tc:List DV) (rows:List Nat) (js:List Int)
theorem qE:EvP Tryz.prog 195 [.pt (gg af tc rows js) 0] (.v (.int .i64 af.length)):=by
 refine ev_go (P:=Tryz.prog) tt tt_ok 5000 10 [.tmp 2] Tryz.func195 rfl Tryz.ntmps195 rfl (nL rfl) (fun E9 w9 hn9 hm9=>?_);refine (congrArg (fun z=>DV.v (.int .i64 z)) ?_:_=_);rw [bK]
theorem xG (i:Int):EvP Tryz.prog 155 [.pt (gg af tc rows js) 0,.v (.int .i64 i)] (.v (.bool (decide (0<=i) && decide (i < af.length)))):=by
 refine ev_go (P:=Tryz.prog) tt tt_ok 5000 13 [.tmp 4] Tryz.func155 rfl Tryz.ntmps155 rfl (nL rfl) (fun E9 w9 hn9 hm9=>?_);refine br (fun g=>?_) (fun g=>?_)
 ·have g:decide (0<=i)=true:=by simpa using g
  refine call_p A2 (qE af tc rows js) ax rfl ?_;refine (congrArg (fun b=>DV.v (.bool b)) ?_:_=_);simp [g,pickB]
 ·have g:decide (0<=i)=false:=by simpa using g
  refine (congrArg (fun b=>DV.v (.bool b)) ?_:_=_);simp [g,pickB]
theorem o9 {a:Nat} (h:a < af.length):EvP Tryz.prog 155 [.pt (gg af tc rows js) 0,.v (.int .i64 a)] (.v (.bool true)):=by
 have:=xG af tc rows js a;have e:(decide (0<=(a:Int)) && decide ((a:Int) < af.length))=true:=by simp [h]
 rw [e] at this;exact this
end
theorem D9 (af:List ByteArray) (az rows:List Nat) (js:List Int) (s:ByteArray) (hT:gk af az) (hl:az.length<=1099511627776) :
  EvP Tryz.prog 41 [.pt (gg af (cr af az) rows js) 0,.v (.string s)] (Ln (cx af s)):=by
 have h:=gG af az s hT hl;refine ev_go (P:=Tryz.prog) tt tt_ok 5000 16 [.tmp 4,.tmp 5] Tryz.func41 rfl Tryz.ntmps41 rfl (nL rfl) (fun E9 w9 hn9 hm9=>?_)
 cases hx:cx af s with
 | none=>
  rw [hx] at h;refine call_p tE (h) ax rfl ?_;exact ⟨_,ax,rfl⟩
 | some k=>
  rw [hx] at h;refine call_p tE (h) ax rfl ?_;exact ⟨_,ax,rfl⟩
theorem BI {l:List DV} {k b:Nat} {x:DV} (hb:b < 32) (h:l[k + b]? = some x):(((l.drop k).take 32).drop b).take 1=[x]:=by
 have h1:((l.drop k).take 32)[b]? = some x:=by
  rw [List.getElem?_take,if_pos hb,List.getElem?_drop];exact h
 rw [List.drop_eq_getElem_cons (gS h1).1];rw [gE (gS h1).1] at h1;simp only [oI] at h1;rw [h1];rfl
section
variable (af:List ByteArray) (tc:List DV) (rows:List Nat) (js:List Int)
theorem uz (a b:Nat) (z:Int) (ha:a < af.length) (hb:b < af.length) (hn:af.length<=32) (hz:js[a * 32 + b]? = some z) :
  EvP Tryz.prog 173 [.pt (gg af tc rows js) 0,.v (.int .i64 a),.v (.int .i64 b)] (.v (.int .i64 z)):=by
 refine ev_go (P:=Tryz.prog) tt tt_ok 5000 25 [.tmp 6] Tryz.func173 rfl Tryz.ntmps173 rfl (nL rfl) (fun E9 w9 hn9 hm9=>?_);refine call_p wY (o9 af tc rows js ha) ax rfl ?_;refine call_p wY (o9 af tc rows js hb) ax rfl ?_;refine ⟨_,⟨⟨by omega,by omega⟩,rfl⟩,?_⟩;refine ⟨_,⟨⟨by omega,by omega⟩,BI (x:=.v (.int .i64 z)) (by omega) ?_⟩,?_⟩
 ·rw [show 0 + 3 + (a:Int).toNat * 32 + (0 + (b:Int).toNat * 1)=(a * 32 + b) + 3 by omega];simp only [sH,List.getElem?_cons_succ,cZ,List.getElem?_map,hz,Option.map_some]
 exact (rfl:_=_)
theorem Ea (a b:Nat) (z:Int) (ha:a < af.length) (hb:b < af.length) (hn:af.length<=32) (hz:js[1024 + (a * 32 + b)]? = some z) :
  EvP Tryz.prog 201 [.pt (gg af tc rows js) 0,.v (.int .i64 a),.v (.int .i64 b)] (.v (.int .i64 z)):=by
 refine ev_go (P:=Tryz.prog) tt tt_ok 5000 25 [.tmp 6] Tryz.func201 rfl Tryz.ntmps201 rfl (nL rfl) (fun E9 w9 hn9 hm9=>?_);refine call_p wY (o9 af tc rows js ha) ax rfl ?_;refine call_p wY (o9 af tc rows js hb) ax rfl ?_;refine ⟨_,⟨⟨by omega,by omega⟩,rfl⟩,?_⟩;refine ⟨_,⟨⟨by omega,by omega⟩,BI (x:=.v (.int .i64 z)) (by omega) ?_⟩,?_⟩
 ·rw [show 0 + 1027 + (a:Int).toNat * 32 + (0 + (b:Int).toNat * 1)=(1024 + (a * 32 + b)) + 3 by omega];simp only [sH,List.getElem?_cons_succ,cZ,List.getElem?_map,hz,Option.map_some]
 exact (rfl:_=_)
end
theorem qF {ig:Nat->Bool} {pb:Nat->Nat->Bool}:∀ {e k:Nat},bestA ig pb e=some k->ig k=true
 | 0,k,h=>by cases h
 | e + 1,k,h=>by
  rw [bestA] at h;split at h
  ·rename_i h1;simp only [oI] at h;subst h;simp only [Bool.and_eq_true] at h1;exact h1.1
  ·exact qF h
theorem uA {ig:Nat->Bool} {pb:Nat->Nat->Bool} {n k:Nat} (h:l5 ig pb n=some k):k < n/\ig k=true/\∀ c,c < n->ig c=true->pb k c=true:=by
 unfold l5 at h;split at h
 ·cases h
 ·rename_i o ho;split at h
  ·cases h
  ·rename_i h1;simp only [oI] at h;subst h;refine ⟨l6 ho,qF ho,fun c hc hp=>?_⟩;simp only [List.any_eq_true,List.mem_range,Bool.and_eq_true,Bool.not_eq_true',not_exists,not_and] at h1;have:=h1 c hc hp;simpa using this
structure dL (f:Nat->Nat->Bool) (n:Nat):Prop where
 pos:0 < n
 rfl':∀ a,a < n->f a a=true
 tr:∀ a b c,a < n->b < n->c < n->f a b=true->f b c=true->f a c=true
 Eb:∀ a b,a < n->b < n->f a b=true->f b a=true->a=b
 jn:∀ a b,a < n->b < n->∃ k,ep f n a b=some k
 mt:∀ a b,a < n->b < n->∃ k,gV f n a b=some k
theorem nT {f:Nat->Nat->Bool} {n a b k:Nat} (h:ep f n a b=some k):k < n/\f a k=true/\f b k=true/\∀ c,c < n->f a c=true->f b c=true->f k c=true:=by
 obtain ⟨h1,h2,h3⟩:=uA h;simp only [Bool.and_eq_true] at h2;exact ⟨h1,h2.1,h2.2,fun c hc ha hb=>h3 c hc (by simp [ha,hb])⟩
theorem nU {f:Nat->Nat->Bool} {n a b k:Nat} (h:gV f n a b=some k):k < n/\f k a=true/\f k b=true/\∀ c,c < n->f c a=true->f c b=true->f c k=true:=by
 obtain ⟨h1,h2,h3⟩:=uA h;simp only [Bool.and_eq_true] at h2;exact ⟨h1,h2.1,h2.2,fun c hc ha hb=>h3 c hc (by simp [ha,hb])⟩
def fy (f:Nat->Nat->Bool) (l:List Nat) (c:Nat):Bool:=l.all fun i=>f i c
def qG (f:Nat->Nat->Bool) (n:Nat) (l:List Nat) (c:Nat):Bool:=fy f l c && (List.range n).all fun d=>!fy f l d || f c d
def dT (f:Nat->Nat->Bool) (n:Nat) (l:List Nat):Option Nat:=bG (qG f n l) n
theorem l9 {f:Nat->Nat->Bool} {n:Nat} {l:List Nat} {c:Nat}:qG f n l c=true↔fy f l c=true/\∀ d,d < n->fy f l d=true->f c d=true:=by
 unfold qG;simp only [Bool.and_eq_true,List.all_eq_true,List.mem_range,Bool.or_eq_true,Bool.not_eq_true'];constructor
 ·rintro ⟨h1,h2⟩;refine ⟨h1,fun d hd ho=>?_⟩;rcases h2 d hd with h | h
  ·rw [ho] at h;cases h
  ·exact h
 ·rintro ⟨h1,h2⟩;refine ⟨h1,fun d hd=>?_⟩;cases ho:fy f l d
  ·exact .inl rfl
  ·exact .inr (h2 d hd ho)
theorem xH {f:Nat->Nat->Bool} {n:Nat} (hL:dL f n) {l:List Nat} {c:Nat} (hc:c < n) (h:qG f n l c=true):dT f n l=some c:=by
 refine cw hc h fun a ha=>?_;cases h2:qG f n l a
 ·rfl
 ·obtain ⟨h3,h4⟩:=l9.1 h;obtain ⟨h5,h6⟩:=l9.1 h2;have:=hL.Eb a c (by omega) hc (h6 c hc h3) (h4 a (by omega) h5);omega
theorem nV {f:Nat->Nat->Bool} {n c:Nat} (hL:dL f n) (hc:c < n) (h:∀ d,d < n->f c d=true):dT f n []=some c:=
 xH hL hc (l9.2 ⟨rfl,fun d hd _=>h d hd⟩)
theorem rG {f:Nat->Nat->Bool} {n c k i:Nat} {l:List Nat} (hL:dL f n) (hl:∀ x∈l,x < n) (hi:i < n) (h:dT f n l=some c) (hk:ep f n c i=some k):dT f n (l ++ [i])=some k:=by
 obtain ⟨h1,h2,_⟩:=dK h;obtain ⟨h3,h4⟩:=l9.1 h2;obtain ⟨g1,g2,g3,g4⟩:=nT hk;simp only [fy,List.all_eq_true] at h3;refine xH hL g1 (l9.2 ⟨?_,fun d hd ho=>?_⟩)
 ·simp only [fy,List.all_eq_true,List.mem_append,List.mem_singleton];rintro x (hx | rfl)
  ·exact hL.tr x c k (hl x hx) h1 g1 (h3 x hx) g2
  ·exact g3
 ·simp only [fy,List.all_eq_true,List.mem_append,List.mem_singleton] at ho;refine g4 d hd (h4 d hd ?_) (ho i (.inr rfl));simp only [fy,List.all_eq_true];exact fun x hx=>ho x (.inl hx)
theorem mN {f:Nat->Nat->Bool} {n c:Nat} {l:List Nat} (h:dT f n l=some c):c < n:=(dK h).1
abbrev LG (L:List DV) (n b e:Nat):St:=
 ⟨[(0,⟨[],.pt L 0⟩),(3,⟨[],.v (.int .i64 b)⟩),(9,⟨[],.v (.int .i64 n)⟩),(10,⟨[],.v (.int .i64 e)⟩)],[],[]⟩
theorem pa (af:List ByteArray) (tc:List DV) (rows:List Nat) (js:List Int) {f:Nat->Nat->Bool} (hL:dL f af.length) (hn:af.length<=32) (hj:∀ x y,x < af.length->y < af.length->JM f af.length js x y) :
  EvP Tryz.prog 138 [.pt (gg af tc rows js) 0] (.v (.int .i64 (oz (dT f af.length [])))):=by
 have hlen:=qE af tc rows js;have jM:=hL.pos;refine ev_go (P:=Tryz.prog) tt tt_ok 5000 19 [.tmp 2] Tryz.func138 rfl Tryz.ntmps138 rfl (nL rfl) (fun E9 w9 hn9 hm9=>?_);refine call_p A2 (hlen) ax rfl ?_;refine br (fun g=>?_) (fun g=>?_)
 ·exfalso;simp at g;simp [g] at jM
 refine call_p A2 (hlen) ax rfl ?_;refine aq (fun j st=>∃ e b:Nat,st=LG (gg af tc rows js) af.length b e/\e<=af.length/\b < af.length/\(∀ x,x < e->f b x=true)/\j=af.length - e) af.length (LG (gg af tc rows js) af.length 0 0) (weak_mk ⟨_,rfl⟩ wA rfl rfl rfl wB) ⟨0,0,rfl,by omega,by omega,fun _ h=>by omega,by omega⟩ ?_;rintro j st ⟨e,b,rfl,he,hb,fv,rfl⟩;refine br (fun YJ=>?_) (fun YJ=>?_)
 ·have al:e < af.length:=by have:=YJ;simp at this;exact this
  obtain ⟨k,hk⟩:=hL.mt b e hb al;obtain ⟨g1,g2,g3,g4⟩:=nU hk;have hz:=(hj b e hb al).2;rw [hk] at hz;refine call_p VS (Ea af tc rows js b e k hb al hn hz) ax rfl ?_;refine ⟨LG (gg af tc rows js) af.length k (e + 1),(weak_mk ⟨_,rfl⟩ wA rfl rfl rfl (wNB al)),af.length - (e + 1),by omega,e + 1,k,rfl,by omega,g1,fun x hx=>?_,rfl⟩;rcases Nat.lt_succ_iff_lt_or_eq.1 hx with hx | rfl
  ·exact hL.tr k b x g1 hb (by omega) g2 (fv x hx)
  ·exact g3
 ·have aN:e=af.length:=by have:=YJ;simp at this;omega
  subst aN;rw [nV hL hb fv];exact (rfl:_=_)
def labW (L:List ByteArray):List Wd->Ft
 | []=>(0,0)
 | w :: r=>if cx L w.s=none then (17,w.a) else labW L r
def kW (L:List ByteArray) (l:List Wd):List Nat:=l.map fun w=>(cx L w.s).getD 0
def zb (f:Nat->Nat->Bool) (L:List ByteArray) (l:List Wd):Int:=if (labW L l).1=0 then oz (dT f L.length (kW L l)) else 0
def Ip (f:Nat->Nat->Bool) (L:List ByteArray) (l:List Wd):DV:=.tup [.v (.int .i64 (zb f L l)),(labW L l).d]
theorem qH {L:List ByteArray} {l:List Wd} {e:Nat} {w:Wd} (h:l[e]? = some w):labW L (l.drop e)=if cx L w.s=none then (17,w.a) else labW L (l.drop (e + 1)):=by
 rw [drop_cons h,labW]
theorem qI {L:List ByteArray} {l:List Wd} {e i:Nat} {w:Wd} (h:l[e]? = some w) (hi:cx L w.s=some i):kW L (l.take (e + 1))=kW L (l.take e) ++ [i]:=by
 rw [List.take_add_one,h];simp [kW,hi]
abbrev LH (L:List DV) (l:List Wd) (b e:Nat):St:=
 ⟨[(0,⟨[],.pt L 0⟩),(5,⟨[],.loc 0 0⟩),(6,⟨[],.v (.int .i64 b)⟩),(16,⟨[],.sl 2 (bn l) none⟩),(17,⟨[],.v (.int .i64 (bn l).length)⟩),(18,⟨[],.v (.int .i64 e)⟩)],[[.v (.int .i64 0),.v (.int .i64 0)]],[]⟩
theorem LI (af:List ByteArray) (az rows:List Nat) (js:List Int) (hT:gk af az) (jN:az.length<=1099511627776) {f:Nat->Nat->Bool} (hL:dL f af.length) (hn:af.length<=32) (hj:∀ x y,x < af.length->y < af.length->JM f af.length js x y)
  (l:List Wd) (hs:wdsWt l<=1099511627776) :
  EvP Tryz.prog 106 [.pt (gg af (cr af az) rows js) 0,.sl 2 (bn l) none] (Ip f af l):=by
 have ll:=bd l;have LJ:=pa af (cr af az) rows js hL hn hj
 have kE:∃ b,dT f af.length []=some b:=by
  have:∀ e,e<=af.length->∃ b,b < af.length/\∀ x,x < e->f b x=true:=by
   intro e
   induction e with
   | zero=>intro _;exact ⟨0,hL.pos,fun _ h=>by omega⟩
   | succ e ih=>
    intro he;obtain ⟨b,hb,fv⟩:=ih (by omega);obtain ⟨k,hk⟩:=hL.mt b e hb (by omega);obtain ⟨g1,g2,g3,_⟩:=nU hk;refine ⟨k,g1,fun x hx=>?_⟩;rcases Nat.lt_succ_iff_lt_or_eq.1 hx with hx | rfl
    ·exact hL.tr k b x g1 hb (by omega) g2 (fv x hx)
    ·exact g3
  obtain ⟨b,hb,fv⟩:=this af.length (Nat.le_refl _);exact ⟨b,nV hL hb fv⟩
 obtain ⟨b0,fF⟩:=kE;rw [fF] at LJ;refine ev_go (P:=Tryz.prog) tt tt_ok 5000 41 [.tmp 4,.cell 5 54] Tryz.func106 rfl Tryz.ntmps106 rfl (nL rfl) (fun E9 w9 hn9 hm9=>?_);refine call_p PZ (LJ) ax rfl ?_;refine aq (fun j st=>∃ e b:Nat,st=LH (gg af (cr af az) rows js) l b e/\e<=l.length/\labW af l=labW af (l.drop e)/\dT f af.length (kW af (l.take e))=some b/\(∀ x∈kW af (l.take e),x < af.length)/\j=l.length - e) l.length (LH (gg af (cr af az) rows js) l b0 0) (weak_mk ⟨_,rfl⟩ wA rfl rfl rfl wB) ⟨0,b0,rfl,by omega,rfl,fF,by simp [kW],by omega⟩ ?_;rintro j st ⟨e,b,rfl,he,aH,Ou,Kh,rfl⟩;have hb:=mN Ou;refine br (fun LK=>?_) (fun LK=>?_)
 ·have al:e < l.length:=by simpa [aw] using LK
  obtain ⟨w,hw⟩:∃ w,l[e]? = some w:=⟨_,gE al⟩;have aS:=qH (L:=af) hw;have za:=D9 af az rows js w.s hT jN;refine ⟨iV w,⟨by omega,aK hw⟩,?_⟩
  cases hx:cx af w.s with
  | none=>
   rw [hx] at za;refine call_p U9 (za) ax rfl ?_;rw [if_pos hx] at aS;have h1:labW af l=(17,w.a):=aH.trans aS;refine aX mo (by decide +kernel) ?_;refine ⟨_,?_,rfl⟩;rw [Ip,zb,h1,if_neg (by simp)];exact ax
  | some i=>
   rw [hx] at za;refine call_p U9 (za) ax rfl ?_;rw [if_neg (by rw [hx];simp)] at aS;have hi:=(cF hx).1;obtain ⟨k,hk⟩:=hL.jn b i hb hi;have hz:=(hj b i hb hi).1;rw [hk] at hz;refine call_p Ky (uz af (cr af az) rows js b i k hb hi hn hz) ax rfl ?_;refine ⟨LH (gg af (cr af az) rows js) l k (e + 1),(weak_mk ⟨_,rfl⟩ wA rfl rfl rfl (wNB al)),l.length - (e + 1),by omega,e + 1,k,rfl,by omega,aH.trans aS,?_,?_,rfl⟩
   ·rw [qI hw hx];exact rG hL Kh hi Ou hk
   ·rw [qI hw hx];intro x hm;rcases List.mem_append.1 hm with hm | hm
    ·exact Kh x hm
    ·rw [List.mem_singleton.1 hm];exact hi
 ·have aN:e=l.length:=by
   have:=LK;simp [aw] at this;omega
  subst aN;rw [List.drop_length] at aH;rw [List.take_length] at Ou;have h1:labW af l=(0,0):=aH;refine ⟨_,?_,rfl⟩;rw [Ip,zb,h1,if_pos rfl,Ou];exact ax
def Ec (x:Ft × Int) (r:DV) (os:List (List DV)) (_:List TkE):Prop:=
 r=x.1.d/\∃ z:Int,os=[[.v (.int .i64 z)]]/\(x.1.1=0->z=x.2)
theorem kX {x:Ft × Int}:∀ r os tk,Ec x r os tk->clB 0 0 r=true/\∀ qj∈os,clB.clL 0 0 qj=true:=by
 rintro r os tk ⟨rfl,z,rfl,_⟩;refine ⟨rfl,fun qj h=>?_⟩;simp only [List.mem_singleton] at h;subst h;rfl
def LL (k:Nat):Prop:=∀ (t:Ty) (depth m:Int),t.wt<=k->t.wt<=1099511627776->0<=depth->depth<=25->0<=m->m<=512 ->
 Ev Tryz.prog 172 [.loc 0 0,.agg (dx t),.v (.int .i64 depth)] [[.v (.int .i64 m)]] [] (Ec (wrong t depth m))
def kb (p:Ph) (t:Ty) (un:Bool) (depth m:Int):Ft × Int:=
 if p.bare=true then (if un=false∨cE p t (lY p) bF=false then ((19,p.name.a),m) else ((0,0),m))
 else if (cY p).1≠0 then (cY p,m)
 else wrong t (depth + 1) m
theorem aZ {x:Ft × Int} {f:Ft} {m z:Int} (h:x=(f,m)) (hz:f.1=0->z=m) {tk:List TkE}:Ec x f.d [[.v (.int .i64 z)]] tk:=by
 subst h;exact ⟨rfl,z,rfl,hz⟩
theorem Ee (k:Nat) (ih:LL k) (p:Ph) (t:Ty) (un:Bool) (depth m:Int) (hk:t.wt<=k) (hp:p.wt<=1099511627776) (bS:t.wt<=1099511627776) (xa:0<=depth) (C8:depth<=24) (jx:0<=m) (fg:m<=512) :
  Ev Tryz.prog 262 [.loc 0 0,.agg (DC p (dx t)),.v (.bool un),.v (.int .i64 depth)] [[.v (.int .i64 m)]] [] (Ec (kb p t un depth m)):=by
 have oG:=hp;simp only [Ph.wt] at oG;have rm:=lS p (lY p) t bF hp (by simp only [Ph.wt,lY,wdsWt];omega) (tT t bF bS (by decide));have nh:=ih t (depth + 1) m hk bS (by omega) (by omega) jx fg;obtain ⟨u,us⟩:=t;have hcoa:=yT p (dx (.mk u us)) (.mk u us) rfl hp;have hS:=kb.eq_def p (.mk u us) un depth m;generalize kb p (.mk u us) un depth m=F at hS ⊢;obtain ⟨nm,bare,lab,wide,ck,cn,ca,cl⟩:=p;simp only at hS oG rm
 cases bare with
 | true=>
  rw [if_pos rfl] at hS
  cases un with
  | true=>
   refine ev_go (P:=Tryz.prog) tt tt_ok 5000 68 [.cell 8 54] Tryz.func262 rfl Tryz.ntmps262 rfl (nL rfl) (fun E9 w9 hn9 hm9=>?_);refine call_p KG (rm) ax rfl ?_;refine br (fun q=>?_) (fun q=>?_)
   ·have q:cE ⟨nm,true,lab,wide,ck,cn,ca,cl⟩ (.mk u us) (lY ⟨nm,true,lab,wide,ck,cn,ca,cl⟩) bF=false:=by simpa [show (lastG (21,false) [(18,true)]).snd=true from rfl,pickB] using q
    rw [if_pos (.inr q)] at hS;refine call_p dz (bg 19 nm.a) ax rfl ?_;exact ⟨_,_,ax,ax,aZ (tk:=[]) (f:=(19,nm.a)) hS (fun _=>rfl)⟩
   ·have q:cE ⟨nm,true,lab,wide,ck,cn,ca,cl⟩ (.mk u us) (lY ⟨nm,true,lab,wide,ck,cn,ca,cl⟩) bF=true:=by simpa [show (lastG (21,false) [(18,true)]).snd=true from rfl,pickB] using q
    rw [if_neg (by simp [q])] at hS;exact ⟨_,_,ax,ax,aZ (tk:=[]) (f:=(0,0)) hS (fun _=>rfl)⟩
  | false=>
   refine ev_go (P:=Tryz.prog) tt tt_ok 5000 68 [.cell 8 54] Tryz.func262 rfl Tryz.ntmps262 rfl (nL rfl) (fun E9 w9 hn9 hm9=>?_);rw [if_pos (.inl rfl)] at hS;refine call_p dz (bg 19 nm.a) ax rfl ?_;exact ⟨_,_,ax,ax,aZ (tk:=[]) (f:=(19,nm.a)) hS (fun _=>rfl)⟩
 | false=>
  rw [if_neg (by simp)] at hS;refine ev_go (P:=Tryz.prog) tt tt_ok 5000 68 [.cell 8 54] Tryz.func262 rfl Tryz.ntmps262 rfl (nL rfl) (fun E9 w9 hn9 hm9=>?_);refine br (fun hw=>?_) (fun hw=>?_)
  ·have hw:wide < 0∨64 < wide:=by simpa [aj] using hw
   have hP:cY ⟨nm,false,lab,wide,ck,cn,ca,cl⟩=(20,nm.a):=by simp only [cY,if_pos hw]
   rw [hP,if_pos (by simp)] at hS;refine call_p dz (bg 20 nm.a) ax rfl ?_;exact ⟨_,_,ax,ax,aZ (tk:=[]) (f:=(20,nm.a)) hS (fun _=>rfl)⟩
  have hw:¬ (wide < 0∨64 < wide):=by simp [aj] at hw;omega
  refine call_p A3 (gQ lab (by omega)) ax rfl ?_;refine br (fun hb=>?_) (fun hb=>?_)
  ·have hb:(bu lab).1≠0:=by simpa using hb
   have hP:cY ⟨nm,false,lab,wide,ck,cn,ca,cl⟩=bu lab:=by simp only [cY,if_neg hw,if_pos hb]
   rw [hP,if_pos hb] at hS;exact ⟨_,_,ax,ax,aZ (tk:=[]) (f:=bu lab) hS (fun _=>rfl)⟩
  have hb:(bu lab).1=0:=by simpa using hb
  have hP:cY ⟨nm,false,lab,wide,ck,cn,ca,cl⟩=aP ⟨nm,false,lab,wide,ck,cn,ca,cl⟩:=by simp only [cY,if_neg hw];rw [if_neg (by simp [hb])]
  rw [hP] at hS;refine call_p Wo (hcoa) ax rfl ?_;refine br (fun hc=>?_) (fun hc=>?_)
  ·have hc:(aP ⟨nm,false,lab,wide,ck,cn,ca,cl⟩).1≠0:=by simpa using hc
   rw [if_pos hc] at hS;exact ⟨_,_,ax,ax,aZ (tk:=[]) (f:=aP ⟨nm,false,lab,wide,ck,cn,ca,cl⟩) hS (fun _=>rfl)⟩
  have hc:(aP ⟨nm,false,lab,wide,ck,cn,ca,cl⟩).1=0:=by simpa using hc
  rw [if_neg (by simp [hc])] at hS;refine kK Kx rfl rfl ax (by repeat' (first | exact rfl | exact trivial | exact Or.inr (Or.inl ⟨_,rfl⟩) | exact Or.inr ⟨_,rfl⟩ | exact Or.inl ⟨rfl,rfl⟩ | exact Or.inl rfl | refine Or.inr ⟨_,_,rfl,Nat.zero_le _,rfl,?_⟩ | refine ⟨_,_,rfl,?_,?_⟩ | refine ⟨_,rfl,?_⟩ | exact congrArg (fun z=>DV.v (.int .i64 z)) (wrap64 (by omega) (by omega)) | refine Or.inr (Or.inr (Or.inr ⟨_,_,rfl,?_⟩)) | exact Or.inl rfl | refine Or.inr ?_)) nh kX (fun r qj hr=>?_);obtain ⟨rfl,z,hz,AD⟩:=hr;simp only [List.cons.injEq,and_true] at hz;subst hz;exact ⟨_,_,ax,ax,aZ (tk:=[]) (f:=(wrong (.mk u us) (depth + 1) m).1) hS AD⟩
theorem wa {ag:Int} {all:List Wd} {i:Nat} {p:Ph} {t:Ty} {r:Pts} {depth m:Int} (hk:ag=7∨ag=8) (hl:aA all i p.name=0) :
  wrongPts ag all i (.cons p t r) depth m=if (kb p t (decide (ag=8)) depth m).1.1≠0 then kb p t (decide (ag=8)) depth m else wrongPts ag all (i + 1) r depth (kb p t (decide (ag=8)) depth m).2:=by
 simp only [wrongPts];rw [if_neg (by simp [hl])];unfold kb;by_cases hb:p.bare=true
 ·rw [if_pos hb,if_pos hb,OE];by_cases h7:ag=7
  ·subst h7;rw [if_pos (.inl rfl),if_pos (c:=decide ((7:Int)=8)=false∨_) (.inl (by simp)),if_pos (by simp)]
  ·have h8:ag=8:=by omega
   subst h8;by_cases h:sameTy t bF=false∨bq p eC=false
   ·have h':decide ((8:Int)=8)=false∨(bq p eC && sameTy t bF)=false:=.inr (by rcases h with h | h<;>simp [h]);rw [if_pos (.inr h),if_pos h',if_pos (by simp)]
   ·have h1:sameTy t bF=true:=by
     cases hc:sameTy t bF
     ·exact absurd (.inl hc) h
     ·rfl
    have h2:bq p eC=true:=by
     cases hc:bq p eC
     ·exact absurd (.inr hc) h
     ·rfl
    have h':¬ (decide ((8:Int)=8)=false∨(bq p eC && sameTy t bF)=false):=by simp [h1,h2]
    rw [if_neg (by simp [h1,h2]),if_neg h',if_neg (by simp)]
 ·rw [if_neg hb,if_neg hb];by_cases hP:(cY p).1≠0
  ·rw [if_pos hP,if_pos hP,if_pos hP]
  ·rw [if_neg hP,if_neg hP]
theorem LM {p:Ph} {t:Ty} {un:Bool} {depth m:Int} (jx:0<=m) (fg:m<=512) (h:(kb p t un depth m).1.1=0):(kb p t un depth m).1=(0,0)/\0<=(kb p t un depth m).2/\(kb p t un depth m).2<=512:=by
 have hw:=oO t (depth + 1) m jx;unfold kb at h ⊢;by_cases hb:p.bare=true
 ·rw [if_pos hb] at h ⊢;split at h
  ·simp at h
  ·rename_i hc;rw [if_neg hc];exact ⟨rfl,jx,fg⟩
 ·rw [if_neg hb] at h ⊢;by_cases hP:(cY p).1≠0
  ·rw [if_pos hP] at h;exact absurd h hP
  ·rw [if_neg hP] at h ⊢;exact hw h
abbrev uB (h:Hd) (ps:Pts) (n e:Nat) (depth m:Int):St:=
 ⟨[(0,⟨[],.loc 0 0⟩),(2,⟨[],.v (.int .i64 depth)⟩),(4,⟨[],.loc 1 0⟩),(6,⟨[],.loc 2 0⟩),(38,⟨[],.sl 18 (eP ps) none⟩),(39,⟨[],.v (.int .i64 (eP ps).length)⟩),(40,⟨[],.v (.int .i64 e)⟩),(7,⟨[],.sl 1 (dt (av ((pNames ps).take e))) (some 0)⟩)],
  [[.v (.int .i64 m)],dx (.mk h ps),[.v (.int .i64 0),.v (.int .i64 0)]],[⟨n,9,1,none⟩]⟩
theorem rH (k:Nat) (ih:LL k) (h:Hd) (ps:Pts) (depth m:Int) (NK:h.ag=7∨h.ag=8) (hk:ps.wt<=k) (bS:(Ty.mk h ps).wt<=1099511627776) (xa:0<=depth) (C8:depth<=24) (jx:0<=m) (fg:m<=512) :
  Ev Tryz.prog 218 [.loc 0 0,.agg (dx (.mk h ps)),.v (.int .i64 depth)] [[.v (.int .i64 m)]] [] (Ec (ej h ps depth m)):=by
 simp only [Ty.wt,Hd.wt] at bS;have jt:=ps.eO;have gj:=fl ps;have Sa:=qp ps;have hS:=ej.eq_def h ps depth m;generalize ej h ps depth m=F at hS ⊢;refine ev_go (P:=Tryz.prog) tt tt_ok 5000 72 [.cell 6 54] Tryz.func218 rfl Tryz.ntmps218 rfl (nL rfl) (fun E9 w9 hn9 hm9=>?_);refine br (fun c1=>?_) (fun c1=>?_)
 ·have c1:h.ag=8/\ps.len=0:=by
   simp [pickB_and,aE] at c1;exact ⟨c1.1,by omega⟩
  rw [if_pos c1] at hS;refine call_p dz (bg 15 h.aC) ax rfl ?_;exact ⟨_,_,ax,ax,aZ (tk:=[]) (f:=(15,h.aC)) hS (fun _=>rfl)⟩
 have c1:¬ (h.ag=8/\ps.len=0):=by
  simp [pickB_and,aE] at c1;omega
 rw [if_neg c1] at hS;refine br (fun c2=>?_) (fun c2=>?_)
 ·have al:64 < ps.len:=by simp [aE] at c2;omega
  obtain ⟨p,t,hx⟩:=Pts.dP al;refine ⟨_,⟨by omega,bz hx⟩,?_⟩;refine call_p dz (bg 8 p.name.a) ax rfl ?_;rw [if_pos al,fm hx] at hS;exact ⟨_,_,ax,ax,aZ (tk:=[]) (f:=(8,p.name.a)) hS (fun _=>rfl)⟩
 have c2:¬ 64 < ps.len:=by simp [aE] at c2;omega
 rw [if_neg c2] at hS
 refine aq (fun j st=>∃ (e:Nat) (m':Int),st=uB h ps e e depth m' /\ e<=ps.len/\0<=m' /\ m' <= 512/\(av ((pNames ps).take e)).Nodup /\
   F=wrongPts h.ag (pNames ps) e (ps.drop e) depth m' /\ j=ps.len - e) ps.len (uB h ps 0 0 depth m) (eV ⟨0,9,1,none⟩ rfl ⟨_,rfl⟩ rfl wA rfl rfl Ah) ⟨0,m,rfl,by omega,jx,fg,by simp [av],hS,by omega⟩ ?_
 rintro j st ⟨e,m',rfl,he,sk,Be,hnd,aH,rfl⟩;refine br (fun hL=>?_) (fun hL=>?_)
 ·have al:e < ps.len:=by simpa [aE] using hL
  obtain ⟨p,t,hx⟩:=Pts.dP al;have Ba:=Pts.fk (mG hx);have Iq:=fm hx;have hpw:p.name.s.size + 64<=p.wt:=by simp only [Ph.wt,Wd.wt];omega
  rw [Pts.drop_cons hx] at aH
  have KZ:(av ((pNames ps).take (e + 1)))[(av ((pNames ps).take (e + 1))).length - 1]? = some p.name.s:=by
   have Af:(av ((pNames ps).take (e + 1))).length=e + 1:=by simp [av];omega
   rw [Af];simp [av,Iq]
  have Rk:=rB (av ((pNames ps).take (e + 1))) p.name.s p.name.a KZ (by simp [av];omega) (by omega);have gR:=iB Iq;rw [xA p.name.a Iq hnd,<- gR] at Rk;have BJ:=Ee k ih p t (decide (h.ag=8)) depth m' (by omega) (by omega) (by omega) xa C8 sk Be;obtain ⟨u,us⟩:=t;refine ⟨_,⟨by omega,bz hx⟩,?_⟩;refine ⟨by simp [bK,av];omega,⟨by simp [bK,av,maxLen];omega,by simp [bK,av];omega⟩,?_⟩;refine call_p Qk (Rk) ax rfl ?_;by_cases hl:aA (pNames ps) e p.name≠0
  ·rw [if_pos hl];refine br (fun hf=>?_) (fun hf=>?_)
   ·simp only [wrongPts] at aH;rw [if_pos hl] at aH;exact ⟨_,_,ax,ax,aZ (tk:=[]) (f:=(aA (pNames ps) e p.name,p.name.a)) aH (fun _=>rfl)⟩
   ·exact absurd (by simpa using hf) hl
  have hl:aA (pNames ps) e p.name=0:=by simpa using hl
  have hndn:=kV Iq hnd hl;rw [if_neg (by simp [hl])];rw [wa NK hl] at aH;have bE:=LM (p:=p) (t:=.mk u us) (un:=decide (h.ag=8)) (depth:=depth) sk Be;generalize kb p (.mk u us) (decide (h.ag=8)) depth m'=r at BJ aH bE;obtain ⟨⟨fe,fa⟩,many⟩:=r;simp only at aH bE;refine kK Wa rfl rfl ax ax BJ kX (fun r qj hr=>?_);obtain ⟨rfl,z,hz,AD⟩:=hr;simp only [List.cons.injEq,and_true] at hz;subst hz;refine br (fun hd=>?_) (fun hd=>?_)
  ·have hd:fe≠0:=by simpa using hd
   rw [if_pos hd] at aH;exact ⟨_,_,ax,ax,aZ (tk:=[]) (f:=(fe,fa)) aH (fun h0=>absurd h0 hd)⟩
  ·have hd:fe=0:=by simpa using hd
   subst hd;obtain ⟨_,h2,h3⟩:=bE rfl;rw [if_neg (by simp)] at aH;have TY:z=many:=AD rfl;subst TY;exact ⟨uB h ps (e + 1) (e + 1) depth z,(weak_mk ⟨_,rfl⟩ wA rfl rfl rfl (yF al gR)),ps.len - (e + 1),by omega,e + 1,z,rfl,by omega,h2,h3,hndn,aH,rfl⟩
 ·have aN:e=ps.len:=by simp [aE] at hL;omega
  rw [aN,Pts.cJ] at aH;simp only [wrongPts] at aH;exact ⟨_,_,ax,ax,aZ (tk:=[]) (f:=(0,0)) aH (fun _=>rfl)⟩
theorem xI (k:Nat) (ih:LL k) (h:Hd) (ps:Pts) (depth m:Int) (hk:ps.wt<=k) (bS:(Ty.mk h ps).wt<=1099511627776) (xa:0<=depth) (C8:depth<=24) (jx:0<=m) (fg:m<=512) :
  Ev Tryz.prog 217 [.loc 0 0,.agg (dx (.mk h ps)),.v (.int .i64 depth)] [[.v (.int .i64 m)]] [] (Ec (wrongOne h ps depth m)):=by
 simp only [Ty.wt,Hd.wt] at bS
 cases ps with
 | nil=>
  have hS:wrongOne h .nil depth m=((19,h.aC),m):=by simp only [wrongOne]
  generalize wrongOne h .nil depth m=F at hS ⊢;refine ev_go (P:=Tryz.prog) tt tt_ok 5000 44 [.cell 6 54] Tryz.func217 rfl Tryz.ntmps217 rfl (nL rfl) (fun E9 w9 hn9 hm9=>?_);refine call_p dz (bg 19 h.aC) ax rfl ?_;exact ⟨_,_,ax,ax,aZ (tk:=[]) (f:=(19,h.aC)) hS (fun _=>rfl)⟩
 | cons p t r=>
  cases r with
  | cons p2 t2 r2=>
   have hS:wrongOne h (.cons p t (.cons p2 t2 r2)) depth m=((19,h.aC),m):=by simp only [wrongOne]
   generalize wrongOne h (.cons p t (.cons p2 t2 r2)) depth m=F at hS ⊢;refine ev_go (P:=Tryz.prog) tt tt_ok 5000 44 [.cell 6 54] Tryz.func217 rfl Tryz.ntmps217 rfl (nL rfl) (fun E9 w9 hn9 hm9=>?_);refine call_p dz (bg 19 h.aC) ax rfl ?_;exact ⟨_,_,ax,ax,aZ (tk:=[]) (f:=(19,h.aC)) hS (fun _=>rfl)⟩
  | nil=>
   simp only [Pts.wt] at bS hk;have hS:wrongOne h (.cons p t .nil) depth m=if p.name.s≠ap∨bq p ei=false then ((19,h.aC),m) else if h.most < 0∨1024 < h.most then ((20,h.aC),m) else wrong t (depth + 1) m:=by simp only [wrongOne]
   generalize wrongOne h (.cons p t .nil) depth m=F at hS ⊢;have RJ:=Bh p t (by omega);rw [empty_eq] at RJ;have nh:=ih t (depth + 1) m (by omega) (by omega) (by omega) (by omega) jx fg;obtain ⟨u,us⟩:=t;refine ev_go (P:=Tryz.prog) tt tt_ok 5000 44 [.cell 6 54] Tryz.func217 rfl Tryz.ntmps217 rfl (nL rfl) (fun E9 w9 hn9 hm9=>?_);refine ⟨_,⟨by omega,rfl⟩,?_⟩;refine call_p V9 (RJ) ax rfl ?_;refine br (fun q=>?_) (fun q=>?_)
   ·have q:p.name.s≠ap∨bq p ei=false:=by
     have:=q;simp [pickB] at this;exact this
    rw [if_pos q] at hS;refine call_p dz (bg 19 h.aC) ax rfl ?_;exact ⟨_,_,ax,ax,aZ (tk:=[]) (f:=(19,h.aC)) hS (fun _=>rfl)⟩
   have q:¬ (p.name.s≠ap∨bq p ei=false):=by
    have:=q;simp [pickB] at this;simp [this.1,this.2]
   rw [if_neg q] at hS;refine br (fun x=>?_) (fun x=>?_)
   ·have x:h.most < 0∨1024 < h.most:=by simpa [aj] using x
    rw [if_pos x] at hS;refine call_p dz (bg 20 h.aC) ax rfl ?_;exact ⟨_,_,ax,ax,aZ (tk:=[]) (f:=(20,h.aC)) hS (fun _=>rfl)⟩
   have x:¬ (h.most < 0∨1024 < h.most):=by simp [aj] at x;omega
   rw [if_neg x] at hS;refine ⟨_,⟨by omega,rfl⟩,?_⟩;refine kK Kx rfl rfl ax (by repeat' (first | exact rfl | exact trivial | exact Or.inr (Or.inl ⟨_,rfl⟩) | exact Or.inr ⟨_,rfl⟩ | exact Or.inl ⟨rfl,rfl⟩ | exact Or.inl rfl | refine Or.inr ⟨_,_,rfl,Nat.zero_le _,rfl,?_⟩ | refine ⟨_,_,rfl,?_,?_⟩ | refine ⟨_,rfl,?_⟩ | exact congrArg (fun z=>DV.v (.int .i64 z)) (wrap64 (by omega) (by omega)) | refine Or.inr (Or.inr (Or.inr ⟨_,_,rfl,?_⟩)) | exact Or.inl rfl | refine Or.inr ?_)) nh kX (fun r qj hr=>?_);obtain ⟨rfl,z,hz,AD⟩:=hr;simp only [List.cons.injEq,and_true] at hz;subst hz;exact ⟨_,_,ax,ax,aZ (tk:=[]) (f:=(wrong (.mk u us) (depth + 1) m).1) hS AD⟩
theorem BK (k:Nat) (ih:LL k) (h:Hd) (ps:Pts) (depth m:Int) (hk:ps.wt<=k) (bS:(Ty.mk h ps).wt<=1099511627776) (xa:0<=depth) (C8:depth<=25) (jx:0<=m) (fg:m<=512) :
  Ev Tryz.prog 172 [.loc 0 0,.agg (dx (.mk h ps)),.v (.int .i64 depth)] [[.v (.int .i64 m)]] [] (Ec (wrong (.mk h ps) depth m)):=by
 have xJ:=bS;simp only [Ty.wt,Hd.wt] at xJ;have pQ:IntKind.i64.wrap (m + 1)=m + 1:=wrap64 (by omega) (by omega);have hS:=wrong.eq_def (.mk h ps) depth m;simp only at hS;generalize wrong (.mk h ps) depth m=F at hS ⊢;have cC:=H3 h ps;rw [Gp] at cC;refine ev_go (P:=Tryz.prog) tt tt_ok 5000 103 [.cell 6 54] Tryz.func172 rfl Tryz.ntmps172 rfl (nL rfl) (fun E9 w9 hn9 hm9=>?_);refine br (fun c=>?_) (fun c=>?_)
 ·have c:24 < depth:=of_decide_eq_true c;rw [if_pos c] at hS;refine call_p dz (bg 6 h.aC) ax rfl ?_;exact ⟨_,[[.v (.int .i64 (m + 1))]],ax,(aI pQ),aZ (tk:=[]) (f:=(6,h.aC)) hS (fun _=>rfl)⟩
 have c:¬ 24 < depth:=of_decide_eq_false c;rw [if_neg c] at hS;refine br (fun c=>?_) (fun c=>?_)
 ·have c:512 < IntKind.i64.wrap (m + 1):=of_decide_eq_true c;rw [pQ] at c;rw [if_pos c] at hS;refine call_p dz (bg 8 h.aC) ax rfl ?_;exact ⟨_,[[.v (.int .i64 (m + 1))]],ax,(aI pQ),aZ (tk:=[]) (f:=(8,h.aC)) hS (fun _=>rfl)⟩
 have c:¬ 512 < IntKind.i64.wrap (m + 1):=of_decide_eq_false c;rw [pQ] at c;rw [if_neg c] at hS;refine br (fun c=>?_) (fun c=>?_)
 ·have c:h.ag < 1∨9 < h.ag:=by simpa [aj] using c
  rw [if_pos c] at hS;refine call_p dz (bg 14 h.aC) ax rfl ?_;exact ⟨_,[[.v (.int .i64 (m + 1))]],ax,(aI pQ),aZ (tk:=[]) (f:=(14,h.aC)) hS (fun _=>rfl)⟩
 have ck:¬ (h.ag < 1∨9 < h.ag):=by simp [aj] at c;omega
 rw [if_neg ck] at hS;refine call_p VV (cC) ax rfl ?_;refine br (fun c=>?_) (fun c=>?_)
 ·have c:sj (.mk h ps)=false:=by simpa [sj] using c
  rw [if_pos c] at hS;refine call_p dz (bg 19 h.aC) ax rfl ?_;exact ⟨_,[[.v (.int .i64 (m + 1))]],ax,(aI pQ),aZ (tk:=[]) (f:=(19,h.aC)) hS (fun _=>rfl)⟩
 have c:¬ sj (.mk h ps)=false:=by simpa [sj] using c
 rw [if_neg c] at hS;refine br (fun k2=>?_) (fun k2=>?_)
 ·have k2:h.ag=2:=of_decide_eq_true k2;refine br (fun x=>?_) (fun x=>?_)
  ·have x:h.hi < h.lo:=of_decide_eq_true x;rw [if_pos (.inl ⟨k2,x⟩)] at hS;refine call_p dz (bg 20 h.aC) ax rfl ?_;exact ⟨_,[[.v (.int .i64 (m + 1))]],ax,(aI pQ),aZ (tk:=[]) (f:=(20,h.aC)) hS (fun _=>rfl)⟩
  have x:¬ h.hi < h.lo:=of_decide_eq_false x;rw [if_neg (by omega),if_neg (by omega),if_neg (by omega),if_neg (by omega),if_neg (by omega)] at hS;exact ⟨_,[[.v (.int .i64 (m + 1))]],ax,(aI pQ),aZ (tk:=[]) (f:=(0,0)) hS (fun _=>rfl)⟩
 have k2:¬ h.ag=2:=of_decide_eq_false k2;refine br (fun k3=>?_) (fun k3=>?_)
 ·have k3:h.ag=3:=of_decide_eq_true k3;refine br (fun x=>?_) (fun x=>?_)
  ·have x:h.most < 0∨4096 < h.most:=by simpa [aj] using x
   rw [if_pos (.inr ⟨k3,x⟩)] at hS;refine call_p dz (bg 20 h.aC) ax rfl ?_;exact ⟨_,[[.v (.int .i64 (m + 1))]],ax,(aI pQ),aZ (tk:=[]) (f:=(20,h.aC)) hS (fun _=>rfl)⟩
  have x:¬ (h.most < 0∨4096 < h.most):=by simp [aj] at x;omega
  rw [if_neg (by omega),if_neg (by omega),if_neg (by omega),if_neg (by omega),if_neg (by omega)] at hS;exact ⟨_,[[.v (.int .i64 (m + 1))]],ax,(aI pQ),aZ (tk:=[]) (f:=(0,0)) hS (fun _=>rfl)⟩
 have k3:¬ h.ag=3:=of_decide_eq_false k3;rw [if_neg (by omega)] at hS;refine br (fun k4=>?_) (fun k4=>?_)
 ·have k4:h.ag=4:=of_decide_eq_true k4;rw [if_neg (by omega),if_pos k4,<- Ls] at hS;refine call_p VW (DN h ps (by omega)) ax rfl ?_;exact ⟨_,[[.v (.int .i64 (m + 1))]],ax,(aI pQ),aZ (tk:=[]) (f:=lT h) hS (fun _=>rfl)⟩
 have k4:¬ h.ag=4:=of_decide_eq_false k4;refine br (fun k5=>?_) (fun k5=>?_)
 ·have k5':h.ag=5∨h.ag=6:=.inl (of_decide_eq_true k5);rw [if_neg (by omega),if_neg (by omega),if_pos k5'] at hS;refine br (fun _=>?_) (fun hc=>by rw [k5] at hc;cases hc);refine kK Qe rfl rfl (cs':=[.v (.int .i64 (m + 1))]) (aI pQ) ax (xI k ih h ps depth (m + 1) hk bS xa (by omega) (by omega) (by omega)) kX (fun r qj hr=>?_);obtain ⟨rfl,z,hz,AD⟩:=hr;simp only [List.cons.injEq,and_true] at hz;subst hz;exact ⟨_,_,ax,ax,aZ (tk:=[]) (f:=(wrongOne h ps depth (m + 1)).1) hS AD⟩
 have k5:¬ h.ag=5:=of_decide_eq_false k5;refine br (fun k6=>?_) (fun k6=>?_)
 ·have k5':h.ag=5∨h.ag=6:=.inr (of_decide_eq_true k6);rw [if_neg (by omega),if_neg (by omega),if_pos k5'] at hS;refine kK Qe rfl rfl (cs':=[.v (.int .i64 (m + 1))]) (aI pQ) ax (xI k ih h ps depth (m + 1) hk bS xa (by omega) (by omega) (by omega)) kX (fun r qj hr=>?_);obtain ⟨rfl,z,hz,AD⟩:=hr;simp only [List.cons.injEq,and_true] at hz;subst hz;exact ⟨_,_,ax,ax,aZ (tk:=[]) (f:=(wrongOne h ps depth (m + 1)).1) hS AD⟩
 have k6:¬ h.ag=6:=of_decide_eq_false k6;have hP:ej h ps depth (m + 1)=ej h ps depth (m + 1):=rfl
 conv at hP=>lhs;unfold ej
 refine br (fun k7=>?_) (fun k7=>?_)
 ·have Xb:h.ag=7∨h.ag=8:=.inl (of_decide_eq_true k7);rw [if_neg (by omega),if_neg (by omega),if_neg (by omega),if_pos Xb,hP] at hS;refine br (fun _=>?_) (fun hc=>by rw [k7] at hc;cases hc);refine kK Qf rfl rfl (cs':=[.v (.int .i64 (m + 1))]) (aI pQ) ax (rH k ih h ps depth (m + 1) Xb hk bS xa (by omega) (by omega) (by omega)) kX (fun r qj hr=>?_);obtain ⟨rfl,z,hz,AD⟩:=hr;simp only [List.cons.injEq,and_true] at hz;subst hz;exact ⟨_,_,ax,ax,aZ (tk:=[]) (f:=(ej h ps depth (m + 1)).1) hS AD⟩
 have k7:¬ h.ag=7:=of_decide_eq_false k7;refine br (fun k8=>?_) (fun k8=>?_)
 ·have Xb:h.ag=7∨h.ag=8:=.inr (of_decide_eq_true k8);rw [if_neg (by omega),if_neg (by omega),if_neg (by omega),if_pos Xb,hP] at hS;refine kK Qf rfl rfl (cs':=[.v (.int .i64 (m + 1))]) (aI pQ) ax (rH k ih h ps depth (m + 1) Xb hk bS xa (by omega) (by omega) (by omega)) kX (fun r qj hr=>?_);obtain ⟨rfl,z,hz,AD⟩:=hr;simp only [List.cons.injEq,and_true] at hz;subst hz;exact ⟨_,_,ax,ax,aZ (tk:=[]) (f:=(ej h ps depth (m + 1)).1) hS AD⟩
 have k8:¬ h.ag=8:=of_decide_eq_false k8;refine br (fun k9=>?_) (fun k9=>?_)
 ·have k9:h.ag=9:=of_decide_eq_true k9;refine call_p AZ (iW h.name.s (by simp only [Wd.wt] at xJ;omega)) ax rfl ?_;refine br (fun q=>?_) (fun q=>?_)
  ·have q:aU h.name.s=false:=by simpa using q
   rw [if_pos ⟨k9,q⟩] at hS;refine call_p dz (bg 9 h.name.a) ax rfl ?_;exact ⟨_,[[.v (.int .i64 (m + 1))]],ax,(aI pQ),aZ (tk:=[]) (f:=(9,h.name.a)) hS (fun _=>rfl)⟩
  ·have q:aU h.name.s=true:=by simpa using q
   rw [if_neg (by simp [q]),if_neg (by omega),if_neg (by omega),if_neg (by omega)] at hS;exact ⟨_,[[.v (.int .i64 (m + 1))]],ax,(aI pQ),aZ (tk:=[]) (f:=(0,0)) hS (fun _=>rfl)⟩
 have k9:¬ h.ag=9:=of_decide_eq_false k9;rw [if_neg (by omega),if_neg (by omega),if_neg (by omega),if_neg (by omega)] at hS;exact ⟨_,[[.v (.int .i64 (m + 1))]],ax,(aI pQ),aZ (tk:=[]) (f:=(0,0)) hS (fun _=>rfl)⟩
theorem BL:∀ k,LL k
 | 0=>fun t depth m hk=>by have:=t.dr;omega
 | k + 1=>fun t depth m hk bS xa C8 jx fg=>by
  obtain ⟨h,ps⟩:=t;have fI:=hk;simp only [Ty.wt,Hd.wt] at fI;exact BK k (BL k) h ps depth m (by omega) bS xa C8 jx fg
theorem BM (t:Ty) (bS:t.wt<=1099511627776):EvP Tryz.prog 104 [.agg (dx t)] (wrong t 1 0).1.d:=
 H4 t (BL t.wt t 1 0 (Nat.le_refl _) bS (by omega) (by omega) (by omega) (by omega))
abbrev GK (t:Ty) (ps:Pts) (e n:Nat):St:=
 ⟨[(1,⟨[],.loc 0 0⟩),(3,⟨[],.v (.int .i64 n)⟩),(7,⟨[],.sl 18 (eP ps) none⟩),(8,⟨[],.v (.int .i64 (eP ps).length)⟩),(9,⟨[],.v (.int .i64 e)⟩)],[dx t],[]⟩
theorem uC:∀ (k:Nat) (t:Ty),t.wt<=k->t.wt<=1099511627776 ->
  EvP Tryz.prog 105 [.agg (dx t)] (.v (.int .i64 t.cnt))
 | 0,t,hn,_=>by have:=t.dr;omega
 | k + 1,.mk h ps,hn,bS=>by
  simp only [Ty.wt,Hd.wt] at hn bS;have jt:=ps.eO;have hc:=ps.dQ;refine ev_go (P:=Tryz.prog) tt tt_ok 5000 23 [.tmp 2] Tryz.func105 rfl Tryz.ntmps105 rfl (nL rfl) (fun E9 w9 hn9 hm9=>?_)
  refine aq (fun j st=>∃ (e n:Nat),st=GK (.mk h ps) ps e n/\e<=ps.len/\n + (ps.drop e).cnt=1 + ps.cnt/\j=ps.len - e) ps.len
   (GK (.mk h ps) ps 0 1) (weak_mk ⟨_,rfl⟩ wA rfl rfl rfl wB) ⟨0,1,rfl,by omega,rfl,by omega⟩ ?_
  rintro j st ⟨e,n,rfl,he,aR,rfl⟩;refine br (fun hL=>?_) (fun hL=>?_)
  ·have al:e < ps.len:=by simpa [aE] using hL
   obtain ⟨p,t,hx⟩:=Pts.dP al;have Ba:=Pts.fk (mG hx);rw [Pts.drop_cons hx] at aR;simp only [Pts.cnt] at aR;have hct:=t.dQ;obtain ⟨u,us⟩:=t;refine ⟨_,⟨by omega,bz hx⟩,?_⟩;refine br (fun hB=>?_) (fun hB=>?_)
   ·have hB:p.bare=false:=by simpa using hB
    rw [hB] at aR;have aR:n + ((Ty.mk u us).cnt + (ps.drop (e + 1)).cnt)=1 + ps.cnt:=aR;refine call_p PS (uC k (.mk u us) (by omega) (by omega)) ax rfl ?_;have rA:IntKind.i64.wrap ((n:Int) + (Ty.mk u us).cnt)=((n + (Ty.mk u us).cnt:Nat):Int):=by rw [wrap64 (by omega) (by omega)];omega
    exact ⟨GK (.mk h ps) ps (e + 1) (n + (Ty.mk u us).cnt),(weak_mk ⟨_,rfl⟩ wA rfl rfl rfl (by repeat' (first | exact trivial | exact ah rfl | exact ak rA | exact ak (cA al (by omega)) | refine ⟨⟨_,rfl,?_⟩,?_⟩))),ps.len - (e + 1),by omega,e + 1,_,rfl,by omega,by omega,rfl⟩
   ·have hB:p.bare=true:=by simpa using hB
    rw [hB] at aR;have aR:n + (0 + (ps.drop (e + 1)).cnt)=1 + ps.cnt:=aR;exact ⟨GK (.mk h ps) ps (e + 1) n,(weak_mk ⟨_,rfl⟩ wA rfl rfl rfl (wNB al)),ps.len - (e + 1),by omega,e + 1,n,rfl,by omega,by omega,rfl⟩
  ·have aN:e=ps.len:=by simp [aE] at hL;omega
   rw [aN,Pts.cJ] at aR;simp only [Pts.cnt] at aR;have e2:(n:Int)=((Ty.mk h ps).cnt:Int):=by simp only [Ty.cnt];omega
   refine (congrArg (fun z=>DV.v (.int .i64 z)) ?_:_=_);exact e2
mutual
def Ty.nn:Ty->Nat
 | .mk h ps=>if h.ag=9 then 0 else 1 + ps.nn
def Pts.nn:Pts->Nat
 | .nil=>0
 | .cons p t r=>(if p.bare then 0 else t.nn) + r.nn
end
mutual
theorem Ty.fo:∀ t:Ty,t.nn<=t.cnt
 | .mk h ps=>by
  have:=Pts.fo ps;simp only [Ty.nn,Ty.cnt];split<;>omega
theorem Pts.fo:∀ ps:Pts,ps.nn<=ps.cnt
 | .nil=>Nat.le_refl _
 | .cons p t r=>by
  have:=Ty.fo t;have:=Pts.fo r;simp only [Pts.nn,Pts.cnt];split<;>omega
end
abbrev ON (t:Ty) (ps:Pts) (e n:Nat):St:=
 ⟨[(1,⟨[],.loc 0 0⟩),(3,⟨[],.v (.int .i64 n)⟩),(10,⟨[],.sl 18 (eP ps) none⟩),(11,⟨[],.v (.int .i64 (eP ps).length)⟩),(12,⟨[],.v (.int .i64 e)⟩)],[dx t],[]⟩
theorem uD:∀ (k:Nat) (t:Ty),t.wt<=k->t.wt<=1099511627776 ->
  EvP Tryz.prog 108 [.agg (dx t)] (.v (.int .i64 t.nn))
 | 0,t,hn,_=>by have:=t.dr;omega
 | k + 1,.mk h ps,hn,bS=>by
  simp only [Ty.wt,Hd.wt] at hn bS;have jt:=ps.eO;have hc:=ps.dQ;have lF:=ps.fo;refine ev_go (P:=Tryz.prog) tt tt_ok 5000 26 [.tmp 2] Tryz.func108 rfl Tryz.ntmps108 rfl (nL rfl) (fun E9 w9 hn9 hm9=>?_);refine br (fun h9=>?_) (fun h9=>?_)
  ·have h9:h.ag=9:=by simpa using h9
   have:(Ty.mk h ps).nn=0:=by simp [Ty.nn,h9]
   rw [this];exact (rfl:_=_)
  have h9:¬ h.ag=9:=by simpa using h9
  refine aq (fun j st=>∃ (e n:Nat),st=ON (.mk h ps) ps e n/\e<=ps.len/\n + (ps.drop e).nn=1 + ps.nn/\j=ps.len - e) ps.len
   (ON (.mk h ps) ps 0 1) (weak_mk ⟨_,rfl⟩ wA rfl rfl rfl wB) ⟨0,1,rfl,by omega,rfl,by omega⟩ ?_
  rintro j st ⟨e,n,rfl,he,aR,rfl⟩;refine br (fun hL=>?_) (fun hL=>?_)
  ·have al:e < ps.len:=by simpa [aE] using hL
   obtain ⟨p,t,hx⟩:=Pts.dP al;have Ba:=Pts.fk (mG hx);rw [Pts.drop_cons hx] at aR;simp only [Pts.nn] at aR;have hct:=t.dQ;have hct2:=t.fo;obtain ⟨u,us⟩:=t;refine ⟨_,⟨by omega,bz hx⟩,?_⟩;refine br (fun hB=>?_) (fun hB=>?_)
   ·have hB:p.bare=false:=by simpa using hB
    rw [hB] at aR;have aR:n + ((Ty.mk u us).nn + (ps.drop (e + 1)).nn)=1 + ps.nn:=aR;refine call_p PT (uD k (.mk u us) (by omega) (by omega)) ax rfl ?_;have rA:IntKind.i64.wrap ((n:Int) + (Ty.mk u us).nn)=((n + (Ty.mk u us).nn:Nat):Int):=by rw [wrap64 (by omega) (by omega)];omega
    exact ⟨ON (.mk h ps) ps (e + 1) (n + (Ty.mk u us).nn),(weak_mk ⟨_,rfl⟩ wA rfl rfl rfl (by repeat' (first | exact trivial | exact ah rfl | exact ak rA | exact ak (cA al (by omega)) | refine ⟨⟨_,rfl,?_⟩,?_⟩))),ps.len - (e + 1),by omega,e + 1,_,rfl,by omega,by omega,rfl⟩
   ·have hB:p.bare=true:=by simpa using hB
    rw [hB] at aR;have aR:n + (0 + (ps.drop (e + 1)).nn)=1 + ps.nn:=aR;exact ⟨ON (.mk h ps) ps (e + 1) n,(weak_mk ⟨_,rfl⟩ wA rfl rfl rfl (wNB al)),ps.len - (e + 1),by omega,e + 1,n,rfl,by omega,by omega,rfl⟩
  ·have aN:e=ps.len:=by simp [aE] at hL;omega
   rw [aN,Pts.cJ] at aR;simp only [Pts.nn] at aR;have e2:(n:Int)=((Ty.mk h ps).nn:Int):=by simp only [Ty.nn,if_neg h9];omega
   refine (congrArg (fun z=>DV.v (.int .i64 z)) ?_:_=_);exact e2
structure Lx where
 af:List ByteArray
 az:List Nat
 rows:List Nat
 js:List Int
 f:Nat->Nat->Bool
def Lx.pd (X:Lx):DV:=.pt (gg X.af (cr X.af X.az) X.rows X.js) 0
def Lx.lev (X:Lx) (l:List Wd):Int:=zb X.f X.af l
def Lx.bad (X:Lx) (l:List Wd):Ft:=labW X.af l
structure Lx.OK (X:Lx):Prop where
 hT:gk X.af X.az
 jN:X.az.length<=1099511627776
 hL:dL X.f X.af.length
 hn:X.af.length<=32
 hj:∀ x y,x < X.af.length->y < X.af.length->JM X.f X.af.length X.js x y
theorem Lx.pe {X:Lx} (h:X.OK) (l:List Wd) (hs:wdsWt l<=1099511627776):EvP Tryz.prog 106 [X.pd,.sl 2 (bn l) none] (.tup [.v (.int .i64 (X.lev l)),(X.bad l).d]):=
 LI X.af X.az X.rows X.js h.hT h.jN h.hL h.hn h.hj l hs
def bC (s:Sch) (lat out:DV) (m:Int):List DV:=.sl 2 (bn s.ae) none :: .sl 4 (lx s.order) none :: .sl 11 (dNms s.types) none :: (dx s.root ++ [lat,out,.v (.int .i64 m)])
theorem uE {X:Lx} (h:X.OK) (s:Sch) (pc:List DV) (m:Int) (l:List Wd) (hs:wdsWt l<=1099511627776) :
  EvP Tryz.prog 174 [.pt (bC s X.pd (.pt pc 0) m) 0,.sl 2 (bn l) none] (.v (.int .i64 (X.lev l))):=by
 obtain ⟨ae,order,types,⟨rh,rp⟩⟩:=s;refine ev_go (P:=Tryz.prog) tt tt_ok 5000 17 [.tmp 4] Tryz.func174 rfl Tryz.ntmps174 rfl (nL rfl) (fun E9 w9 hn9 hm9=>?_);refine call_p A0 (Lx.pe h l hs) ax rfl ?_;exact (rfl:_=_)
def sr (s:Sch):List Wd:=s.types.map fun x=>x.1
def tL (s:Sch):List ByteArray:=av (sr s)
theorem GL (s:Sch):(sr s).length=s.types.length:=by simp [sr]
theorem jc (s:Sch):(tL s).length=s.types.length:=by simp [tL,av,sr]
def pC (s:Sch) (az:List Nat) (a b c e:DV):List DV:=[a,b,c,.pt (cr (tL s) az) 0,e]
def ss (s:Sch) (t:Ty):Bool:=decide (t.h.ag=9->cx (tL s) t.h.name.s≠none)
def endI (s:Sch):Nat->Nat->Option Nat
 | 0,_=>none
 | k + 1,i=>
  match s.types[i]? with
  | none=>none
  | some x=>if x.2.h.ag=9 then endI s k ((cx (tL s) x.2.h.name.s).getD 0) else some i
theorem pf {s:Sch}:∀ {k i j:Nat},endI s k i=some j->j < s.types.length/\∀ x,s.types[j]? = some x->x.2.h.ag≠9
 | 0,i,j,h=>by cases h
 | k + 1,i,j,h=>by
  rw [endI] at h
  cases hx:s.types[i]? with
  | none=>rw [hx] at h;cases h
  | some x=>
   rw [hx] at h;simp only at h;split at h
   ·exact pf h
   ·rename_i hk;simp only [oI] at h;subst h;refine ⟨(gS hx).1,fun y hy=>?_⟩;rw [hx] at hy;simp only [oI] at hy;subst hy;exact hk
abbrev LN (B:DV) (n i e:Nat):St:=
 ⟨[(0,⟨[],B⟩),(1,⟨[],.v (.int .i64 i)⟩),(12,⟨[],.v (.int .i64 n)⟩),(13,⟨[],.v (.int .i64 e)⟩)],[],[]⟩
theorem BN (s:Sch) (lat:DV) (az:List Nat) (a b c e0:DV) (m:Int) (hT:gk (tL s) az) (jN:az.length<=1099511627776) (hl:s.types.length<=64) (hr:∀ x∈s.types,ss s x.2=true) (i:Nat) (hi:i < s.types.length) :
  EvP Tryz.prog 107 [.pt (bC s lat (.pt (pC s az a b c e0) 0) m) 0,.v (.int .i64 i)] (.v (.int .i64 (oz (endI s (s.types.length + 1) i)))):=by
 have eM:=jc s;obtain ⟨ae,order,types,⟨rh,rp⟩⟩:=s;simp only at hl hr hi eM;have hN:=dm types;have hcnt:IntKind.i64.wrap ((((dNms types).length:Nat):Int) + 1)=((types.length + 1:Nat):Int):=by rw [hN,wrap64 (by omega) (by omega)];all_goals rfl
 refine ev_go (P:=Tryz.prog) tt tt_ok 5000 43 [.tmp 4] Tryz.func107 rfl Tryz.ntmps107 rfl (nL rfl) (fun E9 w9 hn9 hm9=>?_)
 refine aq (fun j st=>∃ e q:Nat,st=LN (.pt (bC ⟨ae,order,types,.mk rh rp⟩ lat (.pt (pC ⟨ae,order,types,.mk rh rp⟩ az a b c e0) 0) m) 0) (types.length + 1) q e/\e<=types.length + 1/\q < types.length/\endI ⟨ae,order,types,.mk rh rp⟩ (types.length + 1) i=endI ⟨ae,order,types,.mk rh rp⟩ (types.length + 1 - e) q/\j=types.length + 1 - e) (types.length + 1)
  (LN (.pt (bC ⟨ae,order,types,.mk rh rp⟩ lat (.pt (pC ⟨ae,order,types,.mk rh rp⟩ az a b c e0) 0) m) 0) (types.length + 1) i 0) (weak_mk ⟨_,rfl⟩ wA rfl rfl rfl (by repeat' (first | exact trivial | exact ah rfl | exact ak hcnt | refine ⟨⟨_,rfl,?_⟩,?_⟩))) ⟨0,i,rfl,by omega,hi,rfl,by omega⟩ ?_
 rintro j st ⟨e,q,rfl,he,hq,aH,rfl⟩;refine br (fun hL=>?_) (fun hL=>?_)
 ·have al:e < types.length + 1:=by have:=hL;simp at this;omega
  obtain ⟨x,hx⟩:∃ x,types[q]? = some x:=⟨_,gE hq⟩;have wb:=hr x (mG hx);obtain ⟨xw,⟨xh,xp⟩⟩:=x
  have aS:endI ⟨ae,order,types,.mk rh rp⟩ (types.length + 1 - e) q=if xh.ag=9 then endI ⟨ae,order,types,.mk rh rp⟩ (types.length + 1 - (e + 1)) ((cx (tL ⟨ae,order,types,.mk rh rp⟩) xh.name.s).getD 0) else some q:=by
   rw [show types.length + 1 - e=(types.length + 1 - (e + 1)) + 1 by omega,endI];simp only [hx];rfl
  rw [aS] at aH;refine ⟨_,⟨by omega,dNms_get hx⟩,?_⟩;refine br (fun h9=>?_) (fun h9=>?_)
  ·have h9:¬ xh.ag=9:=by simpa using h9
   rw [if_neg h9] at aH;rw [aH];exact (rfl:_=_)
  have h9:xh.ag=9:=by simpa using h9
  rw [if_pos h9] at aH
  have aR:cx (tL ⟨ae,order,types,.mk rh rp⟩) xh.name.s≠none:=by
   have:=of_decide_eq_true wb;exact this h9
  obtain ⟨k,hk⟩:=Option.ne_none_iff_exists'.1 aR;have iP:=(cF hk).1;rw [hk] at aH;have hf:=gG (tL ⟨ae,order,types,.mk rh rp⟩) az xh.name.s hT jN;rw [hk] at hf;refine aD (fun _=>false) mo (by decide +kernel) ?_;refine aG tE (hf) ax rfl ?_;exact ⟨LN (.pt (bC ⟨ae,order,types,.mk rh rp⟩ lat (.pt (pC ⟨ae,order,types,.mk rh rp⟩ az a b c e0) 0) m) 0) (types.length + 1) k (e + 1),(weak_mk ⟨_,rfl⟩ wA rfl rfl rfl (wNB al)),types.length + 1 - (e + 1),by omega,e + 1,k,rfl,by omega,by omega,aH,rfl⟩
 ·have aN:e=types.length + 1:=by have:=hL;simp at this;omega
  subst aN;rw [Nat.sub_self] at aH;rw [aH];exact (rfl:_=_)
def loopF (s:Sch):Ft:=
 match bG (fun i=>(endI s (s.types.length + 1) i).isNone) s.types.length with
 | none=>(0,0)
 | some i=>(11,Sx (sr s) i)
abbrev zc (B:DV) (s:Sch) (e:Nat):St:=
 ⟨[(0,⟨[],B⟩),(2,⟨[],.loc 0 0⟩),(9,⟨[],.sl 11 (dNms s.types) none⟩),(10,⟨[],.v (.int .i64 (dNms s.types).length)⟩),(11,⟨[],.v (.int .i64 e)⟩)],[[.v (.int .i64 0),.v (.int .i64 0)]],[]⟩
theorem Ef (s:Sch) (lat:DV) (az:List Nat) (a b c e0:DV) (m:Int) (hT:gk (tL s) az) (jN:az.length<=1099511627776) (hl:s.types.length<=64) (hr:∀ x∈s.types,ss s x.2=true) :
  EvP Tryz.prog 48 [.pt (bC s lat (.pt (pC s az a b c e0) 0) m) 0] (loopF s).d:=by
 have jd:=BN s lat az a b c e0 m hT jN hl hr;have hN:=dm s.types;have hF:=loopF.eq_1 s;obtain ⟨ae,order,types,⟨rh,rp⟩⟩:=s;simp only at hl hr jd hN;refine ev_go (P:=Tryz.prog) tt tt_ok 5000 26 [.cell 2 54] Tryz.func48 rfl Tryz.ntmps48 rfl (nL rfl) (fun E9 w9 hn9 hm9=>?_)
 refine aq (fun j st=>∃ e:Nat,st=zc (.pt (bC ⟨ae,order,types,.mk rh rp⟩ lat (.pt (pC ⟨ae,order,types,.mk rh rp⟩ az a b c e0) 0) m) 0) ⟨ae,order,types,.mk rh rp⟩ e/\e<=types.length/\(∀ i,i < e->(endI ⟨ae,order,types,.mk rh rp⟩ (types.length + 1) i).isNone=false)/\j=types.length - e) types.length
  (zc (.pt (bC ⟨ae,order,types,.mk rh rp⟩ lat (.pt (pC ⟨ae,order,types,.mk rh rp⟩ az a b c e0) 0) m) 0) ⟨ae,order,types,.mk rh rp⟩ 0) (weak_mk ⟨_,rfl⟩ wA rfl rfl rfl wB) ⟨0,rfl,by omega,fun _ h=>by omega,by omega⟩ ?_
 rintro j st ⟨e,rfl,he,eu,rfl⟩;refine br (fun hL=>?_) (fun hL=>?_)
 ·have al:e < types.length:=by have:=hL;simp [hN] at this;exact this
  obtain ⟨x,hx⟩:∃ x,types[e]? = some x:=⟨_,gE al⟩;have SA:(sr ⟨ae,order,types,.mk rh rp⟩)[e]? = some x.1:=by simp [sr,hx]
  have h1:=jd e al;obtain ⟨xw,⟨xh,xp⟩⟩:=x;refine ⟨_,⟨by omega,dNms_get hx⟩,?_⟩;refine call_p en107 (h1) ax rfl ?_
  cases hE:endI ⟨ae,order,types,.mk rh rp⟩ (types.length + 1) e with
  | none=>
   have Ag:=cw (p:=fun i=>(endI ⟨ae,order,types,.mk rh rp⟩ (types.length + 1) i).isNone) al (by simp only [hE];rfl) eu;simp only [Ag] at hF;rw [jF SA] at hF;refine ⟨_,?_,rfl⟩;rw [hF];exact ax
  | some k=>
   refine ⟨zc (.pt (bC ⟨ae,order,types,.mk rh rp⟩ lat (.pt (pC ⟨ae,order,types,.mk rh rp⟩ az a b c e0) 0) m) 0) ⟨ae,order,types,.mk rh rp⟩ (e + 1),(weak_mk ⟨_,rfl⟩ wA rfl rfl rfl (wNB al)),types.length - (e + 1),by omega,e + 1,rfl,by omega,fun i hi=>?_,rfl⟩;rcases Nat.lt_succ_iff_lt_or_eq.1 hi with hi | rfl
   ·exact eu i hi
   ·rw [hE];all_goals rfl
 ·have aN:e=types.length:=by have:=hL;simp [hN] at this;omega
  subst aN;simp only [cO eu] at hF;refine ⟨_,?_,rfl⟩;rw [hF];exact ax
mutual
def knT (X:Lx) (L:List ByteArray):Ty->Ft
 | .mk h ps=>if h.ag=9/\cx L h.name.s=none then (15,h.name.a) else knP X L ps
def knP (X:Lx) (L:List ByteArray):Pts->Ft
 | .nil=>(0,0)
 | .cons p t r=>if (X.bad p.label).1≠0 then X.bad p.label else if (X.bad p.cl).1≠0 then X.bad p.cl else if p.bare then knP X L r else if (knT X L t).1≠0 then knT X L t else knP X L r
end
abbrev BO (B:DV) (t:Ty) (ps:Pts) (e:Nat):St:=
 ⟨[(0,⟨[],B⟩),(3,⟨[],.loc 0 0⟩),(4,⟨[],.loc 1 0⟩),(38,⟨[],.sl 18 (eP ps) none⟩),(39,⟨[],.v (.int .i64 (eP ps).length)⟩),(40,⟨[],.v (.int .i64 e)⟩)],[dx t,[.v (.int .i64 0),.v (.int .i64 0)]],[]⟩
abbrev rI (B:DV) (t:Ty) (ps:Pts) (p:Ph) (u:Ty) (e q:Nat):St:=
 ⟨[(0,⟨[],B⟩),(3,⟨[],.loc 0 0⟩),(4,⟨[],.loc 1 0⟩),(38,⟨[],.sl 18 (eP ps) none⟩),(39,⟨[],.v (.int .i64 (eP ps).length)⟩),(40,⟨[],.v (.int .i64 e)⟩),(8,⟨[],.loc 2 0⟩),(49,⟨[],.sl 1 [[.sl 2 (bn p.label) none],[.sl 2 (bn p.cl) none]] none⟩),(50,⟨[],.v (.int .i64 (2:Nat))⟩),(51,⟨[],.v (.int .i64 q)⟩)],[dx t,[.v (.int .i64 0),.v (.int .i64 0)],DC p (dx u)],[]⟩
theorem uF {X:Lx} (hX:X.OK) (s:Sch) (az:List Nat) (a b c e0:DV) (m:Int) (hT:gk (tL s) az) (jN:az.length<=1099511627776):∀ (k:Nat) (t:Ty),t.wt<=k->t.wt<=1099511627776 ->
  EvP Tryz.prog 47 [.pt (bC s X.pd (.pt (pC s az a b c e0) 0) m) 0,.agg (dx t)] (knT X (tL s) t).d
 | 0,t,hn,_=>by have:=t.dr;omega
 | k + 1,.mk h ps,hn,bS=>by
  have ih:=uF hX s az a b c e0 m hT jN k;simp only [Ty.wt,Hd.wt] at hn bS;have jt:=ps.eO;obtain ⟨ae,order,types,⟨rh,rp⟩⟩:=s;have hf:=gG (tL ⟨ae,order,types,.mk rh rp⟩) az h.name.s hT jN;have hS:knT X (tL ⟨ae,order,types,.mk rh rp⟩) (.mk h ps)=if h.ag=9/\cx (tL ⟨ae,order,types,.mk rh rp⟩) h.name.s=none then (15,h.name.a) else knP X (tL ⟨ae,order,types,.mk rh rp⟩) ps:=by rw [knT]
  refine ev_go (P:=Tryz.prog) tt tt_ok 5000 81 [.cell 4 54] Tryz.func47 rfl Tryz.ntmps47 rfl (nL rfl) (fun E9 w9 hn9 hm9=>?_);generalize knT X (tL ⟨ae,order,types,.mk rh rp⟩) (.mk h ps)=F at hS ⊢;have TZ:knP X (tL ⟨ae,order,types,.mk rh rp⟩) ps=knP X (tL ⟨ae,order,types,.mk rh rp⟩) (ps.drop 0):=by rw [Pts.drop]
  refine br (fun h9=>?_) (fun h9=>?_)
  ·have h9:h.ag=9:=by simpa using h9
   refine aD (fun _=>false) mo (by decide +kernel) ?_
   cases hx:cx (tL ⟨ae,order,types,.mk rh rp⟩) h.name.s with
   | none=>
    rw [if_pos ⟨h9,hx⟩] at hS;rw [hx] at hf;refine aG tE (hf) ax rfl ?_;refine ⟨_,?_,rfl⟩;rw [hS];exact ax
   | some i=>
    rw [if_neg (by rw [hx];simp),TZ] at hS;rw [hx] at hf;refine aG tE (hf) ax rfl ?_;refine aq (fun j st=>∃ e:Nat,st=BO (.pt (bC ⟨ae,order,types,.mk rh rp⟩ X.pd (.pt (pC ⟨ae,order,types,.mk rh rp⟩ az a b c e0) 0) m) 0) (.mk h ps) ps e/\e<=ps.len/\F=knP X (tL ⟨ae,order,types,.mk rh rp⟩) (ps.drop e)/\j=ps.len - e) ps.len (BO (.pt (bC ⟨ae,order,types,.mk rh rp⟩ X.pd (.pt (pC ⟨ae,order,types,.mk rh rp⟩ az a b c e0) 0) m) 0) (.mk h ps) ps 0) (weak_mk ⟨_,rfl⟩ wA rfl rfl rfl wB) ⟨0,rfl,by omega,hS,by omega⟩ ?_;rintro j st ⟨e,rfl,he,aH,rfl⟩;refine br (fun hL=>?_) (fun hL=>?_)
    ·have al:e < ps.len:=by simpa [aE] using hL
     obtain ⟨p,t,hx⟩:=Pts.dP al;have Ba:=Pts.fk (mG hx);rw [Pts.drop_cons hx] at aH;simp only [knP] at aH;have hw1:wdsWt p.label + wdsWt p.cl<=p.wt:=by simp only [Ph.wt];omega
     obtain ⟨u,us⟩:=t;refine ⟨_,⟨by omega,bz hx⟩,?_⟩;refine aq (fun j st=>∃ q:Nat,st=rI (.pt (bC ⟨ae,order,types,.mk rh rp⟩ X.pd (.pt (pC ⟨ae,order,types,.mk rh rp⟩ az a b c e0) 0) m) 0) (.mk h ps) ps p (.mk u us) e q/\q<=2/\(1<=q->(X.bad p.label).1=0)/\(2<=q->(X.bad p.cl).1=0)/\j=2 - q) 2 (rI (.pt (bC ⟨ae,order,types,.mk rh rp⟩ X.pd (.pt (pC ⟨ae,order,types,.mk rh rp⟩ az a b c e0) 0) m) 0) (.mk h ps) ps p (.mk u us) e 0) (weak_mk ⟨_,rfl⟩ wA rfl rfl rfl wB) ⟨0,rfl,by omega,fun h=>by omega,fun h=>by omega,by omega⟩ ?_;rintro j st ⟨q,rfl,hq,Xc,jZ,rfl⟩;refine br (fun jb=>?_) (fun jb=>?_)
     ·have Hx:q=0∨q=1:=by have:=jb;simp at this;omega
      rcases Hx with rfl | rfl
      ·refine ⟨_,⟨by omega,rfl⟩,?_⟩;refine call_p A0 (Lx.pe hX p.label (by omega)) ax rfl ?_;refine br (fun hb=>?_) (fun hb=>?_)
       ·have hb:(X.bad p.label).1≠0:=by simpa using hb
        rw [if_pos hb] at aH;refine ⟨_,?_,rfl⟩;rw [aH];exact ax
       ·have hb:(X.bad p.label).1=0:=by simpa using hb
        exact ⟨rI (.pt (bC ⟨ae,order,types,.mk rh rp⟩ X.pd (.pt (pC ⟨ae,order,types,.mk rh rp⟩ az a b c e0) 0) m) 0) (.mk h ps) ps p (.mk u us) e 1,(weak_mk ⟨_,rfl⟩ wA rfl rfl rfl (by repeat' (first | exact trivial | exact ah rfl | exact ak (cA (e:=0) (n:=2) (by omega) (by omega)) | refine ⟨⟨_,rfl,?_⟩,?_⟩))),1,by omega,1,rfl,by omega,fun _=>hb,fun h=>by omega,rfl⟩
      ·have fF:=Xc (by omega);refine ⟨_,⟨by omega,rfl⟩,?_⟩;refine call_p A0 (Lx.pe hX p.cl (by omega)) ax rfl ?_;refine br (fun hb=>?_) (fun hb=>?_)
       ·have hb:(X.bad p.cl).1≠0:=by simpa using hb
        rw [if_neg (by rw [fF];simp),if_pos hb] at aH;refine ⟨_,?_,rfl⟩;rw [aH];exact ax
       ·have hb:(X.bad p.cl).1=0:=by simpa using hb
        exact ⟨rI (.pt (bC ⟨ae,order,types,.mk rh rp⟩ X.pd (.pt (pC ⟨ae,order,types,.mk rh rp⟩ az a b c e0) 0) m) 0) (.mk h ps) ps p (.mk u us) e 2,(weak_mk ⟨_,rfl⟩ wA rfl rfl rfl (by repeat' (first | exact trivial | exact ah rfl | exact ak (cA (e:=1) (n:=2) (by omega) (by omega)) | refine ⟨⟨_,rfl,?_⟩,?_⟩))),0,by omega,2,rfl,by omega,fun _=>fF,fun _=>hb,rfl⟩
     ·have Hx:q=2:=by have:=jb;simp at this;omega
      subst Hx;have fF:=Xc (by omega);have gP:=jZ (by omega);rw [if_neg (by rw [fF];simp),if_neg (by rw [gP];simp)] at aH;refine br (fun hB=>?_) (fun hB=>?_)
      ·have hB:p.bare=true:=hB;rw [if_pos hB] at aH;exact ⟨BO (.pt (bC ⟨ae,order,types,.mk rh rp⟩ X.pd (.pt (pC ⟨ae,order,types,.mk rh rp⟩ az a b c e0) 0) m) 0) (.mk h ps) ps (e + 1),(weak_mk ⟨_,rfl⟩ wA rfl rfl rfl (wNB al)),ps.len - (e + 1),by omega,e + 1,rfl,by omega,aH,rfl⟩
      ·have hB:p.bare=false:=hB;rw [if_neg (by rw [hB];decide)] at aH;refine call_p RU (ih (.mk u us) (by omega) (by omega)) ax rfl ?_;refine br (fun hb=>?_) (fun hb=>?_)
       ·have hb:(knT X (tL ⟨ae,order,types,.mk rh rp⟩) (.mk u us)).1≠0:=by simpa using hb
        rw [if_pos hb] at aH;refine ⟨_,?_,rfl⟩;rw [aH];exact ax
       ·have hb:(knT X (tL ⟨ae,order,types,.mk rh rp⟩) (.mk u us)).1=0:=by simpa using hb
        rw [if_neg (by rw [hb];simp)] at aH;exact ⟨BO (.pt (bC ⟨ae,order,types,.mk rh rp⟩ X.pd (.pt (pC ⟨ae,order,types,.mk rh rp⟩ az a b c e0) 0) m) 0) (.mk h ps) ps (e + 1),(weak_mk ⟨_,rfl⟩ wA rfl rfl rfl (wNB al)),ps.len - (e + 1),by omega,e + 1,rfl,by omega,aH,rfl⟩
    ·have aN:e=ps.len:=by simp [aE] at hL;omega
     rw [aN,Pts.cJ] at aH;simp only [knP] at aH;refine ⟨_,?_,rfl⟩;rw [aH];exact ax
  ·have h9:¬ h.ag=9:=by simpa using h9
   rw [if_neg (fun hc=>h9 hc.1),TZ] at hS;refine aq (fun j st=>∃ e:Nat,st=BO (.pt (bC ⟨ae,order,types,.mk rh rp⟩ X.pd (.pt (pC ⟨ae,order,types,.mk rh rp⟩ az a b c e0) 0) m) 0) (.mk h ps) ps e/\e<=ps.len/\F=knP X (tL ⟨ae,order,types,.mk rh rp⟩) (ps.drop e)/\j=ps.len - e) ps.len (BO (.pt (bC ⟨ae,order,types,.mk rh rp⟩ X.pd (.pt (pC ⟨ae,order,types,.mk rh rp⟩ az a b c e0) 0) m) 0) (.mk h ps) ps 0) (weak_mk ⟨_,rfl⟩ wA rfl rfl rfl wB) ⟨0,rfl,by omega,hS,by omega⟩ ?_;rintro j st ⟨e,rfl,he,aH,rfl⟩;refine br (fun hL=>?_) (fun hL=>?_)
   ·have al:e < ps.len:=by simpa [aE] using hL
    obtain ⟨p,t,hx⟩:=Pts.dP al;have Ba:=Pts.fk (mG hx);rw [Pts.drop_cons hx] at aH;simp only [knP] at aH;have hw1:wdsWt p.label + wdsWt p.cl<=p.wt:=by simp only [Ph.wt];omega
    obtain ⟨u,us⟩:=t;refine ⟨_,⟨by omega,bz hx⟩,?_⟩;refine aq (fun j st=>∃ q:Nat,st=rI (.pt (bC ⟨ae,order,types,.mk rh rp⟩ X.pd (.pt (pC ⟨ae,order,types,.mk rh rp⟩ az a b c e0) 0) m) 0) (.mk h ps) ps p (.mk u us) e q/\q<=2/\(1<=q->(X.bad p.label).1=0)/\(2<=q->(X.bad p.cl).1=0)/\j=2 - q) 2 (rI (.pt (bC ⟨ae,order,types,.mk rh rp⟩ X.pd (.pt (pC ⟨ae,order,types,.mk rh rp⟩ az a b c e0) 0) m) 0) (.mk h ps) ps p (.mk u us) e 0) (weak_mk ⟨_,rfl⟩ wA rfl rfl rfl wB) ⟨0,rfl,by omega,fun h=>by omega,fun h=>by omega,by omega⟩ ?_;rintro j st ⟨q,rfl,hq,Xc,jZ,rfl⟩;refine br (fun jb=>?_) (fun jb=>?_)
    ·have Hx:q=0∨q=1:=by have:=jb;simp at this;omega
     rcases Hx with rfl | rfl
     ·refine ⟨_,⟨by omega,rfl⟩,?_⟩;refine call_p A0 (Lx.pe hX p.label (by omega)) ax rfl ?_;refine br (fun hb=>?_) (fun hb=>?_)
      ·have hb:(X.bad p.label).1≠0:=by simpa using hb
       rw [if_pos hb] at aH;refine ⟨_,?_,rfl⟩;rw [aH];exact ax
      ·have hb:(X.bad p.label).1=0:=by simpa using hb
       exact ⟨rI (.pt (bC ⟨ae,order,types,.mk rh rp⟩ X.pd (.pt (pC ⟨ae,order,types,.mk rh rp⟩ az a b c e0) 0) m) 0) (.mk h ps) ps p (.mk u us) e 1,(weak_mk ⟨_,rfl⟩ wA rfl rfl rfl (by repeat' (first | exact trivial | exact ah rfl | exact ak (cA (e:=0) (n:=2) (by omega) (by omega)) | refine ⟨⟨_,rfl,?_⟩,?_⟩))),1,by omega,1,rfl,by omega,fun _=>hb,fun h=>by omega,rfl⟩
     ·have fF:=Xc (by omega);refine ⟨_,⟨by omega,rfl⟩,?_⟩;refine call_p A0 (Lx.pe hX p.cl (by omega)) ax rfl ?_;refine br (fun hb=>?_) (fun hb=>?_)
      ·have hb:(X.bad p.cl).1≠0:=by simpa using hb
       rw [if_neg (by rw [fF];simp),if_pos hb] at aH;refine ⟨_,?_,rfl⟩;rw [aH];exact ax
      ·have hb:(X.bad p.cl).1=0:=by simpa using hb
       exact ⟨rI (.pt (bC ⟨ae,order,types,.mk rh rp⟩ X.pd (.pt (pC ⟨ae,order,types,.mk rh rp⟩ az a b c e0) 0) m) 0) (.mk h ps) ps p (.mk u us) e 2,(weak_mk ⟨_,rfl⟩ wA rfl rfl rfl (by repeat' (first | exact trivial | exact ah rfl | exact ak (cA (e:=1) (n:=2) (by omega) (by omega)) | refine ⟨⟨_,rfl,?_⟩,?_⟩))),0,by omega,2,rfl,by omega,fun _=>fF,fun _=>hb,rfl⟩
    ·have Hx:q=2:=by have:=jb;simp at this;omega
     subst Hx;have fF:=Xc (by omega);have gP:=jZ (by omega);rw [if_neg (by rw [fF];simp),if_neg (by rw [gP];simp)] at aH;refine br (fun hB=>?_) (fun hB=>?_)
     ·have hB:p.bare=true:=hB;rw [if_pos hB] at aH;exact ⟨BO (.pt (bC ⟨ae,order,types,.mk rh rp⟩ X.pd (.pt (pC ⟨ae,order,types,.mk rh rp⟩ az a b c e0) 0) m) 0) (.mk h ps) ps (e + 1),(weak_mk ⟨_,rfl⟩ wA rfl rfl rfl (wNB al)),ps.len - (e + 1),by omega,e + 1,rfl,by omega,aH,rfl⟩
     ·have hB:p.bare=false:=hB;rw [if_neg (by rw [hB];decide)] at aH;refine call_p RU (ih (.mk u us) (by omega) (by omega)) ax rfl ?_;refine br (fun hb=>?_) (fun hb=>?_)
      ·have hb:(knT X (tL ⟨ae,order,types,.mk rh rp⟩) (.mk u us)).1≠0:=by simpa using hb
       rw [if_pos hb] at aH;refine ⟨_,?_,rfl⟩;rw [aH];exact ax
      ·have hb:(knT X (tL ⟨ae,order,types,.mk rh rp⟩) (.mk u us)).1=0:=by simpa using hb
       rw [if_neg (by rw [hb];simp)] at aH;exact ⟨BO (.pt (bC ⟨ae,order,types,.mk rh rp⟩ X.pd (.pt (pC ⟨ae,order,types,.mk rh rp⟩ az a b c e0) 0) m) 0) (.mk h ps) ps (e + 1),(weak_mk ⟨_,rfl⟩ wA rfl rfl rfl (wNB al)),ps.len - (e + 1),by omega,e + 1,rfl,by omega,aH,rfl⟩
   ·have aN:e=ps.len:=by simp [aE] at hL;omega
    rw [aN,Pts.cJ] at aH;simp only [knP] at aH;refine ⟨_,?_,rfl⟩;rw [aH];exact ax
def eaL (F:Ty->Ft) (z:Ft):List (Wd × Ty)->Ft
 | []=>z
 | x :: r=>if (F x.2).1≠0 then F x.2 else eaL F z r
theorem LO {F:Ty->Ft} {z:Ft} {l:List (Wd × Ty)} {e:Nat} {x:Wd × Ty} (h:l[e]? = some x):eaL F z (l.drop e)=if (F x.2).1≠0 then F x.2 else eaL F z (l.drop (e + 1)):=by
 rw [drop_cons h,eaL]
abbrev Eg (B:DV) (fn:DV) (types:List (Wd × Ty)) (e:Nat):St:=
 ⟨[(0,⟨[],B⟩),(1,⟨[],fn⟩),(4,⟨[],.loc 0 0⟩),(12,⟨[],.sl 11 (dNms types) none⟩),(13,⟨[],.v (.int .i64 (dNms types).length)⟩),(14,⟨[],.v (.int .i64 e)⟩)],[[.v (.int .i64 0),.v (.int .i64 0)]],[]⟩
theorem Ir (s:Sch) (lat:DV) (pc:List DV) (m:Int) (hl:s.types.length<=1099511627776) (g:Nat) (hg:Enters Tryz.prog g) (F:Ty->Ft)
  (hF:∀ t,(t=s.root∨∃ x∈s.types,t=x.2)->EvP Tryz.prog g [.pt (bC s lat (.pt pc 0) m) 0,.agg (dx t)] (F t).d) :
  EvP Tryz.prog 45 [.pt (bC s lat (.pt pc 0) m) 0,.fn g [.pt (bC s lat (.pt pc 0) m) 0] []] (eaL F (F s.root) s.types).d:=by
 have hN:=dm s.types;obtain ⟨ae,order,types,⟨rh,rp⟩⟩:=s;simp only at hl hF hN;have je:=hF (.mk rh rp) (.inl rfl);have SB:∀ x∈types,_:=fun x hx=>hF x.2 (.inr ⟨x,hx,rfl⟩);clear hF;refine ev_go (P:=Tryz.prog) tt tt_ok 5000 34 [.cell 4 54] Tryz.func45 rfl Tryz.ntmps45 rfl (nL rfl) (fun E9 w9 hn9 hm9=>?_);generalize hG:eaL F (F (.mk rh rp)) types=G;have hG0:G=eaL F (F (.mk rh rp)) (types.drop 0):=by rw [List.drop_zero,hG]
 refine aq (fun j st=>∃ e:Nat,st=Eg (.pt (bC ⟨ae,order,types,.mk rh rp⟩ lat (.pt pc 0) m) 0) (.fn g [.pt (bC ⟨ae,order,types,.mk rh rp⟩ lat (.pt pc 0) m) 0] []) types e/\e<=types.length/\G=eaL F (F (.mk rh rp)) (types.drop e)/\j=types.length - e) types.length
  (Eg (.pt (bC ⟨ae,order,types,.mk rh rp⟩ lat (.pt pc 0) m) 0) (.fn g [.pt (bC ⟨ae,order,types,.mk rh rp⟩ lat (.pt pc 0) m) 0] []) types 0) (weak_mk ⟨_,rfl⟩ wA rfl rfl rfl wB) ⟨0,rfl,by omega,hG0,by omega⟩ ?_
 rintro j st ⟨e,rfl,he,aH,rfl⟩;refine br (fun hL=>?_) (fun hL=>?_)
 ·have al:e < types.length:=by have:=hL;simp [hN] at this;exact this
  obtain ⟨x,hx⟩:∃ x,types[e]? = some x:=⟨_,gE al⟩;have hp:=SB x (mG hx);rw [LO hx] at aH;obtain ⟨xw,⟨xh,xp⟩⟩:=x;refine ⟨_,⟨by omega,dNms_get hx⟩,?_⟩;refine call_p hg hp ax rfl ?_;refine br (fun hf=>?_) (fun hf=>?_)
  ·have hf:(F (.mk xh xp)).1≠0:=by simpa using hf
   rw [if_pos hf] at aH;refine ⟨_,?_,rfl⟩;rw [aH];exact ax
  ·have hf:(F (.mk xh xp)).1=0:=by simpa using hf
   rw [if_neg (by rw [hf];simp)] at aH;exact ⟨Eg (.pt (bC ⟨ae,order,types,.mk rh rp⟩ lat (.pt pc 0) m) 0) (.fn g [.pt (bC ⟨ae,order,types,.mk rh rp⟩ lat (.pt pc 0) m) 0] []) types (e + 1),(weak_mk ⟨_,rfl⟩ wA rfl rfl rfl (wNB al)),types.length - (e + 1),by omega,e + 1,rfl,by omega,aH,rfl⟩
 ·have aN:e=types.length:=by have:=hL;simp [hN] at this;omega
  subst aN;rw [List.drop_length,eaL] at aH;refine call_p hg je ax rfl ?_;refine ⟨_,?_,rfl⟩;rw [aH];exact ax
def bH (t:Ty) (m:Int):Ft × Int:=if (wrong t 1 0).1.1≠0 then ((wrong t 1 0).1,m) else if 512 < m + t.cnt then ((8,t.h.aC),m + t.cnt) else ((0,0),m + t.cnt)
def LP (s:Sch) (lat:DV) (pc:List DV) (x:Ft × Int) (r:DV) (os:List (List DV)) (_:List TkE):Prop:=r=x.1.d/\os=[bC s lat (.loc 1 0) x.2,pc]
theorem BP (s:Sch) (lc pc:List DV) (m:Int) (jx:0<=m) (fg:m<=1099511627776) (t:Ty) (bS:t.wt<=1099511627776) (hpc:∀ bx N n0 m0,CcL bx N n0 m0 pc pc) :
  Ev Tryz.prog 46 [.loc 0 0,.agg (dx t)] [bC s (.pt lc 0) (.loc 1 0) m,pc] [] (LP s (.pt lc 0) pc (bH t m)):=by
 have hk:=BM t bS;have hc:=uC t.wt t (Nat.le_refl _) bS;have HI:=t.dQ;have hF:=bH.eq_1 t m;obtain ⟨ae,order,types,⟨rh,rp⟩⟩:=s;obtain ⟨h,ps⟩:=t;generalize bH (.mk h ps) m=R at hF ⊢;refine ev_go (P:=Tryz.prog) tt tt_ok 5000 30 [.cell 4 54] Tryz.func46 rfl Tryz.ntmps46 rfl (nL rfl) (fun E9 w9 hn9 hm9=>?_);refine call_p Vo (hk) ax rfl ?_;refine br (fun hf=>?_) (fun hf=>?_)
 ·have hf:(wrong (.mk h ps) 1 0).1.1≠0:=by simpa using hf
  rw [if_pos hf] at hF;subst hF;exact ⟨Ft.d _,[bC ⟨ae,order,types,.mk rh rp⟩ (.pt lc 0) (.loc 1 0) m,pc],ax,(by repeat' (first | exact rfl | exact trivial | exact Or.inr (Or.inl ⟨_,rfl⟩) | exact Or.inr ⟨_,rfl⟩ | exact Or.inl ⟨rfl,rfl⟩ | exact Or.inl rfl | refine Or.inr ⟨_,_,rfl,Nat.zero_le _,rfl,?_⟩ | refine ⟨_,_,rfl,?_,?_⟩ | refine ⟨_,rfl,?_⟩ | exact hpc _ _ _ _ | exact ⟨nL rfl,rfl⟩ | exact congrArg (fun z=>DV.v (.int .i64 z)) hw | refine Or.inr (Or.inr (Or.inr ⟨_,_,rfl,?_⟩)) | exact Or.inl rfl | refine Or.inr ?_)),rfl,rfl⟩
 have hf:(wrong (.mk h ps) 1 0).1.1=0:=by simpa using hf
 rw [if_neg (by rw [hf];simp)] at hF;have hw:IntKind.i64.wrap (m + ((Ty.mk h ps).cnt:Int))=m + ((Ty.mk h ps).cnt:Int):=wrap64 (by omega) (by omega);refine aX mo (by decide +kernel) ?_;refine aG PS (hc) ax rfl ?_;refine br (fun hg=>?_) (fun hg=>?_)
 ·have hg:512 < m + ((Ty.mk h ps).cnt:Int):=by simpa [hw] using hg
  rw [if_pos hg] at hF;subst hF;exact ⟨Ft.d _,[bC ⟨ae,order,types,.mk rh rp⟩ (.pt lc 0) (.loc 1 0) (m + (Ty.mk h ps).cnt),pc],ax,(by repeat' (first | exact rfl | exact trivial | exact Or.inr (Or.inl ⟨_,rfl⟩) | exact Or.inr ⟨_,rfl⟩ | exact Or.inl ⟨rfl,rfl⟩ | exact Or.inl rfl | refine Or.inr ⟨_,_,rfl,Nat.zero_le _,rfl,?_⟩ | refine ⟨_,_,rfl,?_,?_⟩ | refine ⟨_,rfl,?_⟩ | exact hpc _ _ _ _ | exact ⟨nL rfl,rfl⟩ | exact congrArg (fun z=>DV.v (.int .i64 z)) hw | refine Or.inr (Or.inr (Or.inr ⟨_,_,rfl,?_⟩)) | exact Or.inl rfl | refine Or.inr ?_)),rfl,rfl⟩
 ·have hg:¬ 512 < m + ((Ty.mk h ps).cnt:Int):=by simpa [hw] using hg
  rw [if_neg hg] at hF;subst hF;exact ⟨Ft.d _,[bC ⟨ae,order,types,.mk rh rp⟩ (.pt lc 0) (.loc 1 0) (m + (Ty.mk h ps).cnt),pc],ax,(by repeat' (first | exact rfl | exact trivial | exact Or.inr (Or.inl ⟨_,rfl⟩) | exact Or.inr ⟨_,rfl⟩ | exact Or.inl ⟨rfl,rfl⟩ | exact Or.inl rfl | refine Or.inr ⟨_,_,rfl,Nat.zero_le _,rfl,?_⟩ | refine ⟨_,_,rfl,?_,?_⟩ | refine ⟨_,rfl,?_⟩ | exact hpc _ _ _ _ | exact ⟨nL rfl,rfl⟩ | exact congrArg (fun z=>DV.v (.int .i64 z)) hw | refine Or.inr (Or.inr (Or.inr ⟨_,_,rfl,?_⟩)) | exact Or.inl rfl | refine Or.inr ?_)),rfl,rfl⟩
def eaR (z:Ty):List (Wd × Ty)->Int->Ft × Int
 | [],m=>bH z m
 | x :: r,m=>if (bH x.2 m).1.1≠0 then bH x.2 m else eaR z r (bH x.2 m).2
theorem LQ {z:Ty} {l:List (Wd × Ty)} {e:Nat} {m:Int} {x:Wd × Ty} (h:l[e]? = some x):eaR z (l.drop e) m=if (bH x.2 m).1.1≠0 then bH x.2 m else eaR z (l.drop (e + 1)) (bH x.2 m).2:=by
 rw [drop_cons h,eaR]
theorem mO {t:Ty} {m:Int} (h:(bH t m).1.1=0):(bH t m).2=m + t.cnt/\(bH t m).2<=512/\(wrong t 1 0).1.1=0/\(bH t m).1=(0,0):=by
 unfold bH at h ⊢;split
 ·rename_i h1;rw [if_pos h1] at h;exact (h1 h).elim
 ·rename_i h1;rw [if_neg h1] at h;split
  ·rename_i h2;rw [if_pos h2] at h;cases h
  ·rename_i h2;refine ⟨rfl,by simpa using h2,by simpa using h1,rfl⟩
abbrev Eh (s:Sch) (az:List Nat) (lc:List DV):List DV:=pC s az (.pt lc 0) (.v (.slice none 0 0)) (.v (.int .i64 0)) (.v (.slice none 0 0))
abbrev zd (s:Sch) (lc pc:List DV) (m:Int) (types:List (Wd × Ty)) (e:Nat):St:=
 ⟨[(0,⟨[],.loc 0 0⟩),(1,⟨[],.fn 46 [.loc 0 0] []⟩),(4,⟨[],.loc 2 0⟩),(12,⟨[],.sl 11 (dNms types) none⟩),(13,⟨[],.v (.int .i64 (dNms types).length)⟩),(14,⟨[],.v (.int .i64 e)⟩)],
  [bC s (.pt lc 0) (.loc 1 0) m,pc,[.v (.int .i64 0),.v (.int .i64 0)]],[]⟩
theorem Ei (s:Sch) (lc:List DV) (az:List Nat) (m:Int) (jx:0<=m) (fg:m<=512) (hl:s.types.length<=1099511627776) (bS:∀ t,(t=s.root∨∃ x∈s.types,t=x.2)->t.wt<=1099511627776) :
  Ev Tryz.prog 45 [.loc 0 0,.fn 46 [.loc 0 0] []] [bC s (.pt lc 0) (.loc 1 0) m,Eh s az lc] [] (LP s (.pt lc 0) (Eh s az lc) (eaR s.root s.types m)):=by
 have hN:=dm s.types;have hR:∀ (m':Int),0<=m' -> m' <= 512->∀ t,(t=s.root∨∃ x∈s.types,t=x.2)->_:=fun m' h0 h1 t ht=>BP s lc (Eh s az lc) m' h0 (by omega) t (bS t ht) (fun bx N n0 m0=>ax);obtain ⟨ae,order,types,⟨rh,rp⟩⟩:=s;simp only at hl hR hN bS;refine ev_go (P:=Tryz.prog) tt tt_ok 5000 34 [.cell 4 54] Tryz.func45 rfl Tryz.ntmps45 rfl (nL rfl) (fun E9 w9 hn9 hm9=>?_);generalize hG:eaR (.mk rh rp) types m=G;have hG0:G=eaR (.mk rh rp) (types.drop 0) m:=by rw [List.drop_zero,hG]
 refine aq (fun j st=>∃ (e:Nat) (m':Int),st=zd ⟨ae,order,types,.mk rh rp⟩ lc (Eh ⟨ae,order,types,.mk rh rp⟩ az lc) m' types e/\e<=types.length/\0<=m' /\ m' <= 512/\G=eaR (.mk rh rp) (types.drop e) m' /\ j=types.length - e) types.length
  (zd ⟨ae,order,types,.mk rh rp⟩ lc (Eh ⟨ae,order,types,.mk rh rp⟩ az lc) m types 0) (ay 3 rfl (by repeat' (first | exact rfl | exact ah rfl | exact rfl | refine ⟨_,_,rfl,?_,?_⟩)) rfl rfl rfl (by repeat' (first | exact trivial | exact ah rfl | exact rfl | refine ⟨⟨_,rfl,?_⟩,?_⟩))) ⟨0,m,rfl,by omega,jx,fg,hG0,by omega⟩ ?_
 rintro j st ⟨e,m',rfl,he,sk,Be,aH,rfl⟩;refine br (fun hL=>?_) (fun hL=>?_)
 ·have al:e < types.length:=by have:=hL;simp [hN] at this;exact this
  obtain ⟨x,hx⟩:∃ x,types[e]? = some x:=⟨_,gE al⟩;have hp:=hR m' sk Be x.2 (.inr ⟨x,mG hx,rfl⟩);rw [LQ hx] at aH;obtain ⟨xw,⟨xh,xp⟩⟩:=x;refine ⟨_,⟨by omega,dNms_get hx⟩,?_⟩;refine iu 2 0 Vb rfl rfl rfl aL aL hp (fun r fZ bR hΦ h1 h2=>?_);obtain ⟨rfl,rfl⟩:=hΦ;have h2:=List.eq_nil_of_length_eq_zero h2;subst h2;refine br (fun hf=>?_) (fun hf=>?_)
  ·have hf:(bH (.mk xh xp) m').1.1≠0:=by simpa using hf
   rw [if_pos hf] at aH;subst aH;exact ⟨Ft.d _,[bC ⟨ae,order,types,.mk rh rp⟩ (.pt lc 0) (.loc 1 0) (bH (.mk xh xp) m').2,Eh ⟨ae,order,types,.mk rh rp⟩ az lc],ax,aL,rfl,rfl⟩
  ·have hf:(bH (.mk xh xp) m').1.1=0:=by simpa using hf
   rw [if_neg (by rw [hf];simp)] at aH;obtain ⟨g1,g2,_,_⟩:=mO hf;exact ⟨zd ⟨ae,order,types,.mk rh rp⟩ lc (Eh ⟨ae,order,types,.mk rh rp⟩ az lc) (bH (.mk xh xp) m').2 types (e + 1),(ay 3 rfl (C6 al) rfl rfl rfl (wNB al)),types.length - (e + 1),by omega,e + 1,_,rfl,by omega,by omega,g2,aH,rfl⟩
 ·have aN:e=types.length:=by have:=hL;simp [hN] at this;omega
  subst aN;rw [List.drop_length,eaR] at aH;refine iu 2 0 Vb rfl rfl rfl aL aL (hR m' sk Be (.mk rh rp) (.inl rfl)) (fun r fZ bR hΦ h1 h2=>?_);obtain ⟨rfl,rfl⟩:=hΦ;have h2:=List.eq_nil_of_length_eq_zero h2;subst h2;subst aH;exact ⟨Ft.d _,[bC ⟨ae,order,types,.mk rh rp⟩ (.pt lc 0) (.loc 1 0) (bH (.mk rh rp) m').2,Eh ⟨ae,order,types,.mk rh rp⟩ az lc],ax,aL,rfl,rfl⟩
def dC (s:Sch):Ft:=if 64 < s.types.length then (8,Sx (sr s) 64) else enumL (sr s) 0 (sr s)
def OO (s:Sch) (lc:List DV) (r:DV) (os:List (List DV)) (_:List TkE):Prop:=
 r=(dC s).d/\((dC s).1=0->∃ az,gk (tL s) az/\az.length<=s.types.length/\os=[bC s (.pt lc 0) (.loc 1 0) 0,Eh s az lc])
abbrev Ej (s:Sch) (lc:List DV) (n e:Nat):St:=
 ⟨[(0,⟨[],.loc 0 0⟩),(2,⟨[],.loc 2 0⟩),(3,⟨[],.sl 1 (dt (av ((sr s).take e))) (some 0)⟩),(27,⟨[],.sl 11 (dNms s.types) none⟩),(28,⟨[],.v (.int .i64 (dNms s.types).length)⟩),(29,⟨[],.v (.int .i64 e)⟩)],
  [bC s (.pt lc 0) (.loc 1 0) 0,[.pt lc 0,.v (.slice none 0 0),.v (.int .i64 0),.v (.pointer none),.v (.slice none 0 0)],[.v (.int .i64 0),.v (.int .i64 0)]],[⟨n,9,1,none⟩]⟩
theorem ze (s:Sch) (lc:List DV) (hs:nmsWt s.types<=1099511627776) :
  Ev Tryz.prog 44 [.loc 0 0] [bC s (.pt lc 0) (.loc 1 0) 0,[.pt lc 0,.v (.slice none 0 0),.v (.int .i64 0),.v (.pointer none),.v (.slice none 0 0)]] [] (OO s lc):=by
 have hN:=dm s.types;have gj:=iC s.types;have eM:=GL s;have hF:=dC.eq_1 s;have im:∀ {e:Nat} {x:Wd × Ty},s.types[e]? = some x->(sr s)[e]? = some x.1:=fun h=>by simp [sr,h]
 have dH:=tN (tL s) (by rw [jc];omega);have Xd:tL s=av (sr s):=rfl
 have hw:∀ x∈s.types,x.1.s.size<=1099511627776:=fun x hx=>by
  have:=fx hx;simp only [Wd.wt] at this;omega
 obtain ⟨ae,order,types,⟨rh,rp⟩⟩:=s;simp only at hs hN gj eM im hw hF;generalize hQ:sr ⟨ae,order,types,.mk rh rp⟩=Q at eM hF im Xd;refine ev_go (P:=Tryz.prog) tt tt_ok 5000 67 [.cell 2 54] Tryz.func44 rfl Tryz.ntmps44 rfl (nL rfl) (fun E9 w9 hn9 hm9=>?_);refine br (fun h=>?_) (fun h=>?_)
 ·have h:64 < types.length:=by simp [hN] at h;omega
  obtain ⟨x,hx⟩:∃ x,types[64]? = some x:=⟨_,gE h⟩;have SA:=im hx;rw [if_pos h,jF SA] at hF;obtain ⟨xw,⟨xh,xp⟩⟩:=x;refine ⟨_,⟨by omega,dNms_get hx⟩,?_⟩;refine ⟨Ft.d (8,xw.a),[bC ⟨ae,order,types,.mk rh rp⟩ (.pt lc 0) (.loc 1 0) 0,[.pt lc 0,.v (.slice none 0 0),.v (.int .i64 0),.v (.pointer none),.v (.slice none 0 0)]],ax,aL,by rw [hF],fun h0=>by rw [hF] at h0;simp at h0⟩
 have h:¬ 64 < types.length:=by simp [hN] at h;omega
 rw [if_neg h] at hF;refine aq (fun j st=>∃ e:Nat,st=Ej ⟨ae,order,types,.mk rh rp⟩ lc e e/\e<=types.length/\(av (Q.take e)).Nodup/\enumL Q 0 Q=enumL Q e (Q.drop e)/\j=types.length - e) types.length (Ej ⟨ae,order,types,.mk rh rp⟩ lc 0 0) (dO 3 ⟨0,9,1,none⟩ rfl rfl rfl (by repeat' (first | exact rfl | exact ah rfl | exact bm (Nat.le_refl _) rfl | exact bm (Nat.le_refl _) rfl | refine ⟨_,_,rfl,?_,?_⟩)) rfl rfl Ah) ⟨0,rfl,by omega,by simp [av],rfl,by omega⟩ ?_;rintro j st ⟨e,rfl,he,hnd,aH,rfl⟩;rw [aH] at hF;refine br (fun hL=>?_) (fun hL=>?_)
 ·have al:e < types.length:=by have:=hL;simp [hN] at this;exact this
  obtain ⟨x,hx⟩:∃ x,types[e]? = some x:=⟨_,gE al⟩;have Qw:=hw x (mG hx);have hq:=im hx;have gR:=iB hq;have aS:=nR hq;have sC:=kU hq hnd;have Lu:=nK (av (Q.take (e + 1))) (by simp [av];omega);rw [<- gR] at Lu;obtain ⟨xw,⟨xh,xp⟩⟩:=x;simp only at Qw hq gR aS sC Lu;refine ⟨_,⟨by omega,dNms_get hx⟩,?_⟩;rw [hQ];refine ⟨by simp [bK,av];omega,⟨by simp [bK,av,maxLen];omega,by simp [bK,av];omega⟩,?_⟩;refine call_p AZ (iW xw.s (by omega)) ax rfl ?_;refine br (fun Ek=>?_) (fun Ek=>?_)
  ·have Ek:aU xw.s=false:=by simpa using Ek
   have hf:aA Q e xw=9:=by simp [aA,Ek]
   rw [aS,hf,if_pos (by decide)] at hF;refine ⟨Ft.d (9,xw.a),[bC ⟨ae,order,types,.mk rh rp⟩ (.pt lc 0) (.loc 1 0) 0,[.pt lc 0,.v (.slice none 0 0),.v (.int .i64 0),.v (.pointer none),.v (.slice none 0 0)]],ax,aL,by rw [hF],fun h0=>by rw [hF] at h0;simp at h0⟩
  ·have Ek:aU xw.s=true:=by simpa using Ek
   refine bl Kr rfl Lu ax (fun r hr=>?_);obtain ⟨z,rfl,hz⟩:=hr;refine br (fun h2=>?_) (fun h2=>?_)
   ·have h2:0<=z:=by simpa using h2
    have hd:bp (Q.take e) xw.s=true:=by
     cases hd:bp (Q.take e) xw.s
     ·exact absurd (sC.2 hd) (hz.1 h2)
     ·rfl
    have hf:aA Q e xw=10:=by simp [aA,Ek,hd]
    rw [aS,hf,if_pos (by decide)] at hF;refine ⟨Ft.d (10,xw.a),[bC ⟨ae,order,types,.mk rh rp⟩ (.pt lc 0) (.loc 1 0) 0,[.pt lc 0,.v (.slice none 0 0),.v (.int .i64 0),.v (.pointer none),.v (.slice none 0 0)]],ax,aL,by rw [hF],fun h0=>by rw [hF] at h0;simp at h0⟩
   ·have h2:¬ 0<=z:=by simpa using h2
    have tB:(av (Q.take (e + 1))).Nodup:=Classical.byContradiction fun hn=>h2 (hz.2 hn);have hf:aA Q e xw=0:=by simp [aA,Ek,sC.1 tB]
    rw [hf,if_neg (by simp)] at aS;have Xe:dt (av (Q.take e)) ++ [[DV.v (.string xw.s)]]=dt (av ((sr ⟨ae,order,types,.mk rh rp⟩).take (e + 1))):=by rw [hQ];exact gR
    refine ⟨Ej ⟨ae,order,types,.mk rh rp⟩ lc (e + 1) (e + 1),(ay 3 rfl (F1 al Xe) rfl rfl rfl (yF al Xe)),types.length - (e + 1),by omega,e + 1,rfl,by omega,tB,aH.trans aS,rfl⟩
 ·have aN:e=types.length:=by have:=hL;simp [hN] at this;omega
  have h0:enumL Q e (Q.drop e)=(0,0):=by rw [aN,<- eM,List.drop_length];all_goals rfl
  rw [h0] at hF;have ht:Q.take e=Q:=by rw [aN,<- eM,List.take_length]
  have hEq:av ((sr ⟨ae,order,types,.mk rh rp⟩).take e)=tL ⟨ae,order,types,.mk rh rp⟩:=by rw [hQ,ht,Xd]
  rw [<- hEq] at dH;refine aX mo (by decide +kernel) ?_;refine oK RY rfl dH ax (fun Jz hr=>?_);obtain ⟨az,hT,jN,rfl⟩:=hr;rw [hEq] at hT jN;have Yi:DV.pt (cr (av ((sr ⟨ae,order,types,.mk rh rp⟩).take e)) az) 0=DV.pt (cr (tL ⟨ae,order,types,.mk rh rp⟩) az) 0:=congrArg (fun L=>DV.pt (cr L az) 0) hEq;rw [jc] at jN;exact ⟨Ft.d (0,0),[bC ⟨ae,order,types,.mk rh rp⟩ (.pt lc 0) (.loc 1 0) 0,Eh ⟨ae,order,types,.mk rh rp⟩ az lc],ax,(by repeat' (first | exact rfl | exact trivial | exact Or.inr (Or.inl ⟨_,rfl⟩) | exact Or.inr ⟨_,rfl⟩ | exact Or.inl ⟨rfl,rfl⟩ | exact Or.inl rfl | refine Or.inr ⟨_,_,rfl,Nat.zero_le _,rfl,?_⟩ | refine ⟨_,_,rfl,?_,?_⟩ | refine ⟨_,rfl,?_⟩ | exact ⟨nL rfl,rfl⟩ | exact Or.inl Yi | refine Or.inr (Or.inr (Or.inr ⟨_,_,rfl,?_⟩)) | exact Or.inl rfl | refine Or.inr ?_)),by rw [hF],fun _=>⟨az,hT,jN,rfl⟩⟩
def firstA (s:Sch) (k:Nat):Nat:=((s.types.take k).map fun x=>x.2.nn).sum
theorem ma {s:Sch} {k:Nat} {x:Wd × Ty} (h:s.types[k]? = some x):firstA s (k + 1)=firstA s k + x.2.nn:=by
 unfold firstA;rw [List.take_add_one,h];simp
theorem xK (s:Sch):∀ k,firstA s k<=nmsWt s.types:=by
 intro k;unfold firstA;generalize s.types=l
 induction l generalizing k with
 | nil=>simp
 | cons x r ih=>
  cases k with
  | zero=>simp
  | succ k=>
   have h1:=ih k;have h2:=x.2.fo;have h3:=x.2.dQ;simp only [List.take_succ_cons,List.map_cons,List.sum_cons,nmsWt];omega
def namedN (s:Sch) (i:Nat):Nat:=firstA s ((endI s (s.types.length + 1) i).getD 0)
def namedL (s:Sch):List Nat:=(List.range s.types.length).map (namedN s)
theorem Xf (n:Nat):(List.replicate n (vL [Value.int .i64 0])).flatten=cZ (List.replicate n 0):=by
 induction n with
 | zero=>rfl
 | succ n ih=>simp only [List.replicate_succ,List.flatten_cons,ih];rfl
theorem sJ {n m:Nat} {tk:List TkE} {l:List DV} {js:List Int} (h:l=cZ js):WeL n m tk l (cZ js):=by rw [h];exact fU js
abbrev SC (s:Sch) (lc pc:List DV) (m:Int) (l:List Int) (aC e:Nat):St:=
 ⟨[(0,⟨[],.loc 0 0⟩),(2,⟨[],.ms 2 1 0 (dNms s.types).length (dNms s.types).length⟩),(3,⟨[],.v (.int .i64 aC)⟩),(18,⟨[],.sl 11 (dNms s.types) none⟩),(19,⟨[],.v (.int .i64 (dNms s.types).length)⟩),(20,⟨[],.v (.int .i64 e)⟩)],
  [bC s (.pt lc 0) (.loc 1 0) m,pc,cZ l],[]⟩
abbrev LR (s:Sch) (az:List Nat) (lc:List DV) (m:Int) (l:List Int) (n e:Nat):St:=
 ⟨[(0,⟨[],.loc 0 0⟩),(2,⟨[],.ms 2 1 0 (dNms s.types).length (dNms s.types).length⟩),(40,⟨[],.v (.int .i64 (dNms s.types).length)⟩),(41,⟨[],.v (.int .i64 e)⟩)],
  [bC s (.pt lc 0) (.loc 1 0) m,pC s az (.pt lc 0) (.v (.slice none 0 0)) (.v (.int .i64 0)) (.sl 1 (dInts ((namedL s).take e)) (some 0)),cZ l],[⟨n,3,1,none⟩]⟩
def OP (s:Sch) (az:List Nat) (lc:List DV) (m:Int) (_:DV) (os:List (List DV)) (_:List TkE):Prop:=
 os=[bC s (.pt lc 0) (.loc 1 0) m,pC s az (.pt lc 0) (.v (.slice none 0 0)) (.v (.int .i64 0)) (.sl 1 (dInts (namedL s)) none)]
theorem SD {l:List Int} {i:Nat} {z:Int} (h:l[i]? = some z):(cZ l)[i]? = some (DV.v (.int .i64 z)):=by simp [cZ,h]
theorem BQ (s:Sch) (lc:List DV) (az:List Nat) (m:Int) (hT:gk (tL s) az) (jN:az.length<=1099511627776) (hl:s.types.length<=64) (hr:∀ x∈s.types,ss s x.2=true) (hs:nmsWt s.types<=1099511627776)
  (hlo:∀ i,i < s.types.length->∃ k,endI s (s.types.length + 1) i=some k) :
  Ev Tryz.prog 49 [.loc 0 0] [bC s (.pt lc 0) (.loc 1 0) m,Eh s az lc] [] (OP s az lc m):=by
 have hN:=dm s.types
 have Sa:∀ x∈s.types,x.2.wt<=1099511627776:=fun x hx=>by
  have:=fx hx;omega
 have Xg:=xK s;have TJ:=fun {k:Nat} {x:Wd × Ty}=>@ma s k x;have gj:(namedL s).length=s.types.length:=by simp [namedL]
 have jd:=fun (e0:DV)=>BN s (.pt lc 0) az (.pt lc 0) (.v (.slice none 0 0)) (.v (.int .i64 0)) e0 m hT jN hl hr;obtain ⟨ae,order,types,⟨rh,rp⟩⟩:=s;simp only at hl hr hN hs Sa Xg TJ gj jd hlo;have hN2:(dNms (⟨ae,order,types,.mk rh rp⟩:Sch).types).length=types.length:=hN;refine ev_go (P:=Tryz.prog) tt tt_ok 5000 66 [] Tryz.func49 rfl Tryz.ntmps49 rfl (nL rfl) (fun E9 w9 hn9 hm9=>?_);refine ⟨⟨rfl,by omega,by omega,by omega⟩,?_⟩
 refine aq (fun j st=>∃ (e:Nat) (l:List Int),st=SC ⟨ae,order,types,.mk rh rp⟩ lc (Eh ⟨ae,order,types,.mk rh rp⟩ az lc) m l (firstA ⟨ae,order,types,.mk rh rp⟩ e) e/\e<=types.length/\l.length=types.length/\(∀ i:Nat,i < e->l[i]? = some (firstA ⟨ae,order,types,.mk rh rp⟩ i:Int))/\j=types.length - e) types.length
  (SC ⟨ae,order,types,.mk rh rp⟩ lc (Eh ⟨ae,order,types,.mk rh rp⟩ az lc) m (List.replicate ((dNms types).length:Int).toNat 0) (firstA ⟨ae,order,types,.mk rh rp⟩ 0) 0) (ay 3 rfl (by repeat' (first | exact rfl | exact ah rfl | exact sJ (Xf _) | refine ⟨_,_,rfl,?_,?_⟩)) rfl rfl rfl (by repeat' (first | exact trivial | exact ah rfl | exact sJ (Xf _) | refine ⟨⟨_,rfl,?_⟩,?_⟩))) ⟨0,_,rfl,by omega,by simp [hN],fun _ h=>by omega,by omega⟩ ?_
 rintro j st ⟨e,l,rfl,he,vO,T0,rfl⟩;refine br (fun hL=>?_) (fun hL=>?_)
 ·have al:e < types.length:=by have:=hL;simp [hN] at this;exact this
  obtain ⟨x,hx⟩:∃ x,types[e]? = some x:=⟨_,gE al⟩;have T5:=Sa x (mG hx);have NZ:=TJ hx;have JB:=Xg (e + 1);obtain ⟨xw,⟨xh,xp⟩⟩:=x;have hnd:=uD (Ty.mk xh xp).wt (.mk xh xp) (Nat.le_refl _) T5;refine ⟨_,⟨by omega,dNms_get hx⟩,?_⟩;refine ⟨⟨by omega,by omega⟩,?_⟩;refine ⟨by rw [Sv];omega,?_⟩;refine call_p PT (hnd) ax rfl ?_;simp only at NZ JB
  have gP:(cZ l).set (0 + (e:Int).toNat * 1) (DV.v (.int .i64 ((firstA ⟨ae,order,types,.mk rh rp⟩ e:Nat):Int)))=cZ (l.set e ((firstA ⟨ae,order,types,.mk rh rp⟩ e:Nat):Int)):=by
   rw [show 0 + (e:Int).toNat * 1=e by omega,Lz]
  have rA:IntKind.i64.wrap (((firstA ⟨ae,order,types,.mk rh rp⟩ e:Nat):Int) + (Ty.mk xh xp).nn)=((firstA ⟨ae,order,types,.mk rh rp⟩ (e + 1):Nat):Int):=by
   rw [NZ,wrap64 (by omega) (by omega)];omega
  refine ⟨SC ⟨ae,order,types,.mk rh rp⟩ lc (Eh ⟨ae,order,types,.mk rh rp⟩ az lc) m (l.set e ((firstA ⟨ae,order,types,.mk rh rp⟩ e:Nat):Int)) (firstA ⟨ae,order,types,.mk rh rp⟩ (e + 1)) (e + 1),(ay 3 rfl (by repeat' (first | exact rfl | exact ah rfl | exact sJ gP | exact ak rA | exact ak (cA al (by omega)) | refine ⟨_,_,rfl,?_,?_⟩)) rfl rfl rfl (by repeat' (first | exact trivial | exact ah rfl | exact sJ gP | exact ak rA | exact ak (cA al (by omega)) | refine ⟨⟨_,rfl,?_⟩,?_⟩))),types.length - (e + 1),by omega,e + 1,_,rfl,by omega,by rw [List.length_set];exact vO,fun i hi=>?_,rfl⟩;by_cases Gj:i=e
  ·subst Gj;rw [List.getElem?_set_self (by omega)]
  ·rw [List.getElem?_set_ne (Ne.symm Gj)];exact T0 i (by omega)
 ·have aN:e=types.length:=by have:=hL;simp [hN] at this;omega
  subst aN;refine aq (fun j st=>∃ e:Nat,st=LR ⟨ae,order,types,.mk rh rp⟩ az lc m l e e/\e<=types.length/\j=types.length - e) types.length (LR ⟨ae,order,types,.mk rh rp⟩ az lc m l 0 0) (dO 3 ⟨0,3,1,none⟩ rfl rfl rfl (by repeat' (first | exact rfl | exact ah rfl | exact fU _ | exact bm (Nat.le_refl _) rfl | exact bm (Nat.le_refl _) rfl | refine ⟨_,_,rfl,?_,?_⟩)) rfl rfl (by repeat' (first | exact trivial | exact ah rfl | exact fU _ | exact bm (Nat.le_refl _) rfl | refine ⟨⟨_,rfl,?_⟩,?_⟩))) ⟨0,rfl,by omega,by omega⟩ ?_;rintro j st ⟨e,rfl,he,rfl⟩;refine br (fun hL=>?_) (fun hL=>?_)
  ·have al:e < types.length:=by have:=hL;simp [hN] at this;exact this
   obtain ⟨k,hk⟩:=hlo e al;have iP:=(pf hk).1;simp only at iP;have hE:=jd (.sl 1 (dInts ((namedL ⟨ae,order,types,.mk rh rp⟩).take e)) none) e al;rw [hk] at hE;have hnn:namedN ⟨ae,order,types,.mk rh rp⟩ e=firstA ⟨ae,order,types,.mk rh rp⟩ k:=by unfold namedN;rw [hk];all_goals rfl
   have im:(namedL ⟨ae,order,types,.mk rh rp⟩)[e]? = some (firstA ⟨ae,order,types,.mk rh rp⟩ k):=by
    unfold namedL;rw [List.getElem?_map,List.getElem?_range al,Option.map_some,hnn]
   have gR:dInts ((namedL ⟨ae,order,types,.mk rh rp⟩).take e) ++ [[DV.v (.int .i64 ((firstA ⟨ae,order,types,.mk rh rp⟩ k:Nat):Int))]]=dInts ((namedL ⟨ae,order,types,.mk rh rp⟩).take (e + 1)):=by
    rw [List.take_add_one,im];simp [dInts]
   refine aX mo (by decide +kernel) ?_;refine o0 en107 hE ax rfl rfl ?_;refine ⟨⟨by simp only [oz];omega,by simp only [oz];omega⟩,?_⟩
   have OQ:(cZ l)[0 + (oz (some k)).toNat * 1]? = some (DV.v (.int .i64 ((firstA ⟨ae,order,types,.mk rh rp⟩ k:Nat):Int))):=by
    rw [show 0 + (oz (some k)).toNat * 1=k by simp only [oz];omega];exact SD (T0 k iP)
   refine ⟨_,OQ,?_⟩;refine ⟨by simp [bf];omega,⟨by simp [bf,maxLen];omega,by simp [bf];omega⟩,?_⟩;exact ⟨LR ⟨ae,order,types,.mk rh rp⟩ az lc m l (e + 1) (e + 1),(ay 3 rfl (by repeat' (first | exact rfl | exact ah rfl | exact fU _ | exact ak (cA al (by omega)) | exact cI gR rfl | refine ⟨_,_,rfl,?_,?_⟩)) rfl rfl rfl (by repeat' (first | exact trivial | exact ah rfl | exact fU _ | exact ak (cA al (by omega)) | exact cI gR rfl | refine ⟨⟨_,rfl,?_⟩,?_⟩))),types.length - (e + 1),by omega,e + 1,rfl,by omega,rfl⟩
  ·have aN:e=types.length:=by have:=hL;simp [hN] at this;omega
   subst aN;have ht:(namedL ⟨ae,order,types,.mk rh rp⟩).take types.length=namedL ⟨ae,order,types,.mk rh rp⟩:=by rw [<- gj,List.take_length]
   rw [ht];exact ⟨.tup [],[bC ⟨ae,order,types,.mk rh rp⟩ (.pt lc 0) (.loc 1 0) m,pC ⟨ae,order,types,.mk rh rp⟩ az (.pt lc 0) (.v (.slice none 0 0)) (.v (.int .i64 0)) (.sl 1 (dInts (namedL ⟨ae,order,types,.mk rh rp⟩)) none)],ax,aL,rfl⟩
structure Ed where
 name:ByteArray
 bare:Bool
 aC:Int
 to:Int
 label:Int
 wide:Int
 ck:Int
 cn:Int
 seen:Int
 ca:Int
structure Nd where
 ag:Int
 aC:Int
 lo:Int
 hi:Int
 most:Int
 af:List ByteArray
 au:List Ed
def uG (e:Ed):List DV:=[.v (.string e.name),.v (.bool e.bare),.v (.int .i64 e.aC),.v (.int .i64 e.to),.v (.int .i64 e.label),.v (.int .i64 e.wide),.v (.int .i64 e.ck),.v (.int .i64 e.cn),.v (.int .i64 e.seen),.v (.int .i64 e.ca)]
def e9 (l:List Ed):List (List DV):=l.map uG
def jG (n:Nd):List DV:=[.v (.int .i64 n.ag),.v (.int .i64 n.aC),.v (.int .i64 n.lo),.v (.int .i64 n.hi),.v (.int .i64 n.most),.sl 1 (dt n.af) none,.sl 10 (e9 n.au) none]
def cK (l:List Nd):List (List DV):=l.map jG
def ke (w:Int):Int:=if w=0 then 3 else w
def uH (lev:List Wd->Int) (p:Ph) (to:Int):Ed:=⟨p.name.s,p.bare,p.name.a,to,lev p.label,ke p.wide,p.ck,p.cn,lev p.cl,p.ca⟩
def SE (s:Sch) (name:ByteArray):Int:=(namedN s ((cx (tL s) name).getD 0):Int)
def mb (s:Sch) (t:Ty) (k:Nat):Int:=if t.h.ag=9 then SE s t.h.name.s else (k:Int)
def sK (s:Sch) (p:Ph) (u:Ty) (k:Nat):Int:=if p.bare then -1 else mb s u k
mutual
def ndsT (lev:List Wd->Int) (s:Sch):Ty->Nat->List Nd
 | .mk h ps,k=>if h.ag=9 then [] else ⟨h.ag,h.aC,h.lo,h.hi,h.most,av h.af,edsP lev s ps (k + 1)⟩ :: uI lev s ps (k + 1)
def edsP (lev:List Wd->Int) (s:Sch):Pts->Nat->List Ed
 | .nil,_=>[]
 | .cons p u r,k=>uH lev p (sK s p u k) :: edsP lev s r (k + if p.bare then 0 else u.nn)
def uI (lev:List Wd->Int) (s:Sch):Pts->Nat->List Nd
 | .nil,_=>[]
 | .cons p u r,k=>(if p.bare then [] else ndsT lev s u k) ++ uI lev s r (k + if p.bare then 0 else u.nn)
end
mutual
theorem jf (lev:List Wd->Int) (s:Sch):∀ (t:Ty) (k:Nat),(ndsT lev s t k).length=t.nn
 | .mk h ps,k=>by
  simp only [ndsT,Ty.nn];split
  ·rfl
  ·rw [List.length_cons,uJ lev s ps];omega
theorem uJ (lev:List Wd->Int) (s:Sch):∀ (ps:Pts) (k:Nat),(uI lev s ps k).length=ps.nn
 | .nil,k=>rfl
 | .cons p u r,k=>by
  simp only [uI,Pts.nn,List.length_append,uJ lev s r];split
  ·rfl
  ·rw [jf lev s u]
end
abbrev JF (s:Sch) (az:List Nat) (lc:List DV) (n:Nat):List DV:=pC s az (.pt lc 0) (.sl 0 (List.replicate n []) (some 0)) (.v (.int .i64 0)) (.sl 1 (dInts (namedL s)) none)
abbrev El (n:Nat) (base:List DV):TkE:=⟨n,125,7,some base⟩
def QD (s:Sch) (az:List Nat) (lc:List DV) (m:Int) (n:Nat) (base:List DV) (y:DV) (Al:List Nd) (r:DV) (os:List (List DV)) (tk:List TkE):Prop:=
 r=y/\os=[bC s (.pt lc 0) (.loc 1 0) m,JF s az lc (n + Al.length)]/\tk=[El (n + Al.length) (base ++ (cK Al).flatten)]
def LS (lev:List Wd->Int) (s:Sch) (az:List Nat) (lc:List DV) (m:Int) (t:Ty):Prop:=
 ∀ (n:Nat) (base:List DV),n + t.nn<=1099511627776->base.length=n * 7 ->
  Ev Tryz.prog 50 [.loc 0 0,.agg (dx t)] [bC s (.pt lc 0) (.loc 1 0) m,JF s az lc n] [El n base] (QD s az lc m n base (.v (.int .i64 (mb s t n))) (ndsT lev s t n))
theorem Is {X:Lx} (hX:X.OK) (s:Sch) (az:List Nat) (m:Int) (p:Ph) (u:Ty) (hp:p.wt<=1099511627776) (gW:p.bare=false->LS X.lev s az (gg X.af (cr X.af X.az) X.rows X.js) m u)
  (n:Nat) (base:List DV) (hb:p.bare=false->n + u.nn<=1099511627776) (hbl:base.length=n * 7) :
  Ev Tryz.prog 109 [.loc 0 0,.agg (DC p (dx u))] [bC s (.pt (gg X.af (cr X.af X.az) X.rows X.js) 0) (.loc 1 0) m,JF s az (gg X.af (cr X.af X.az) X.rows X.js) n] [El n base]
   (QD s az (gg X.af (cr X.af X.az) X.rows X.js) m n base (.agg (uG (uH X.lev p (sK s p u n)))) (if p.bare then [] else ndsT X.lev s u n)):=by
 have hw1:wdsWt p.label + wdsWt p.cl<=p.wt:=by simp only [Ph.wt];omega
 have FV:X.pd = .pt (gg X.af (cr X.af X.az) X.rows X.js) 0:=rfl;have Af:=fun pc=>uE hX s pc m p.label (by omega);have QE:=fun pc=>uE hX s pc m p.cl (by omega);rw [FV] at Af QE;have hE:=fun to=>uH.eq_1 X.lev p to;have mP:=sK.eq_1 s p u n;generalize gg X.af (cr X.af X.az) X.rows X.js=lc at Af QE gW ⊢;obtain ⟨ae,order,types,⟨rh,rp⟩⟩:=s;obtain ⟨uh,us⟩:=u;refine ev_go (P:=Tryz.prog) tt tt_ok 5000 52 [.cell 4 176] Tryz.func109 rfl Tryz.ntmps109 rfl (nL rfl) (fun E9 w9 hn9 hm9=>?_);have QF:=Af [.pt lc 0,.sl 0 (List.replicate n []) none,.v (.int .i64 0),.pt (cr (tL ⟨ae,order,types,.mk rh rp⟩) az) 0,.sl 1 (dInts (namedL ⟨ae,order,types,.mk rh rp⟩)) none];have QG:=QE [.pt lc 0,.sl 0 (List.replicate n []) none,.v (.int .i64 0),.pt (cr (tL ⟨ae,order,types,.mk rh rp⟩) az) 0,.sl 1 (dInts (namedL ⟨ae,order,types,.mk rh rp⟩)) none];apply mD (fun _=>false) 11 15 [0,1,2,3,4,5,6,7,8,9,10,11,12,13,14,15,16] [0,1,2,3,4,5,6,7,8,9,10,15,11,12,13,14,16] 4 4 mo (by decide +kernel)
 ·refine o0 Gd QF ax rfl rfl ?_;refine (?_:@Eq St _ _);exact rfl
 ·refine o0 Gd QF ax rfl rfl ?_;refine (⟨rfl,rfl,?_⟩:_/\_/\_)
  repeat' (first | exact trivial | refine ⟨rfl,?_⟩)
 ·rfl
 refine br (fun hw=>?_) (fun hw=>?_)
 ·have hw:p.wide=0:=by simpa using hw
  refine sD [4] (fun _=>false) mo (by decide +kernel) ?_;refine o0 Gd QG ax rfl rfl ?_;refine br (fun hB=>?_) (fun hB=>?_)
  ·have hB:p.bare=false:=by simpa using hB
   refine iu 2 1 Om rfl rfl rfl aL aL (gW hB n base (hb hB) hbl) (fun r fZ bR hΦ h1 h2=>?_);obtain ⟨rfl,rfl,rfl⟩:=hΦ;refine ⟨.agg (uG ⟨p.name.s,p.bare,p.name.a,mb ⟨ae,order,types,.mk rh rp⟩ (.mk uh us) n,X.lev p.label,3,p.ck,p.cn,X.lev p.cl,p.ca⟩),[bC ⟨ae,order,types,.mk rh rp⟩ (.pt lc 0) (.loc 1 0) m,JF ⟨ae,order,types,.mk rh rp⟩ az lc (n + (ndsT X.lev ⟨ae,order,types,.mk rh rp⟩ (.mk uh us) n).length)],ax,aL,?_,?_,?_⟩
   ·simp [hE,sK,hB,ke,hw]
   ·simp [hB]
   ·simp [hB]
  ·have hB:p.bare=true:=by simpa using hB
   refine ⟨.agg (uG ⟨p.name.s,p.bare,p.name.a,-1,X.lev p.label,3,p.ck,p.cn,X.lev p.cl,p.ca⟩),[bC ⟨ae,order,types,.mk rh rp⟩ (.pt lc 0) (.loc 1 0) m,JF ⟨ae,order,types,.mk rh rp⟩ az lc n],ax,aL,?_,?_,?_⟩
   ·simp [hE,sK,hB,ke,hw]
   ·simp [hB]
   ·simp [hB,cK]
 ·have hw:¬ p.wide=0:=by simpa using hw
  refine sD [4] (fun _=>false) mo (by decide +kernel) ?_;refine o0 Gd QG ax rfl rfl ?_;refine br (fun hB=>?_) (fun hB=>?_)
  ·have hB:p.bare=false:=by simpa using hB
   refine iu 2 1 Om rfl rfl rfl aL aL (gW hB n base (hb hB) hbl) (fun r fZ bR hΦ h1 h2=>?_);obtain ⟨rfl,rfl,rfl⟩:=hΦ;refine ⟨.agg (uG ⟨p.name.s,p.bare,p.name.a,mb ⟨ae,order,types,.mk rh rp⟩ (.mk uh us) n,X.lev p.label,p.wide,p.ck,p.cn,X.lev p.cl,p.ca⟩),[bC ⟨ae,order,types,.mk rh rp⟩ (.pt lc 0) (.loc 1 0) m,JF ⟨ae,order,types,.mk rh rp⟩ az lc (n + (ndsT X.lev ⟨ae,order,types,.mk rh rp⟩ (.mk uh us) n).length)],ax,aL,?_,?_,?_⟩
   ·simp [hE,sK,hB,ke,hw]
   ·simp [hB]
   ·simp [hB]
  ·have hB:p.bare=true:=by simpa using hB
   refine ⟨.agg (uG ⟨p.name.s,p.bare,p.name.a,-1,X.lev p.label,p.wide,p.ck,p.cn,X.lev p.cl,p.ca⟩),[bC ⟨ae,order,types,.mk rh rp⟩ (.pt lc 0) (.loc 1 0) m,JF ⟨ae,order,types,.mk rh rp⟩ az lc n],ax,aL,?_,?_,?_⟩
   ·simp [hE,sK,hB,ke,hw]
   ·simp [hB]
   ·simp [hB,cK]
def YK (h:Hd):List DV:=[.v (.int .i64 h.ag),.v (.int .i64 h.aC),.v (.int .i64 h.lo),.v (.int .i64 h.hi),.v (.int .i64 h.most),.sl 1 (dt (av h.af)) none,.v (.slice none 0 0)]
theorem OR {h:Hd} {base R:List DV} {n:Nat} {x:DV} (hb:base.length=n * 7):(base ++ (YK h ++ R)).set (n * 7 + 6) x=base ++ ([.v (.int .i64 h.ag),.v (.int .i64 h.aC),.v (.int .i64 h.lo),.v (.int .i64 h.hi),.v (.int .i64 h.most),.sl 1 (dt (av h.af)) none,x] ++ R):=by
 rw [List.set_append_right _ _ (by omega),hb,Nat.add_sub_cancel_left];rfl
theorem xL (l:List Ed) (e:Ed):e9 l ++ [uG e]=e9 (l ++ [e]):=by simp [e9]
theorem cy (l:List Ed):(e9 l).length=l.length:=by simp [e9]
theorem pg (lev:List Wd->Int) (s:Sch):∀ (ps:Pts) (k:Nat),(edsP lev s ps k).length=ps.len
 | .nil,_=>rfl
 | .cons p u r,k=>by simp [edsP,Pts.len,pg lev s r]
abbrev LU (s:Sch) (az:List Nat) (lc:List DV) (m:Int) (n:Nat) (base:List DV) (h:Hd) (ps:Pts) (q e:Nat):St:=
 ⟨[(0,⟨[],.loc 0 0⟩),(3,⟨[],.loc 2 0⟩),(7,⟨[],.v (.int .i64 n)⟩),(8,⟨[],.loc 3 0⟩),(61,⟨[],.sl 2 (bn h.af) none⟩),(62,⟨[],.v (.int .i64 (bn h.af).length)⟩),(63,⟨[],.v (.int .i64 e)⟩)],
  [bC s (.pt lc 0) (.loc 1 0) m,JF s az lc n,dx (.mk h ps),[.v (.int .i64 h.ag),.v (.int .i64 h.aC),.v (.int .i64 h.lo),.v (.int .i64 h.hi),.v (.int .i64 h.most),.sl 1 (dt (av (h.af.take e))) (some 1),.v (.slice none 0 0)]],
  [El n base,⟨q,9,1,none⟩]⟩
abbrev LV (s:Sch) (az:List Nat) (lc:List DV) (m:Int) (n:Nat) (h:Hd) (ps:Pts) (n':Nat) (ph:List DV) (Es:List Ed) (q1 q2 e:Nat):St:=
 ⟨[(0,⟨[],.loc 0 0⟩),(3,⟨[],.loc 2 0⟩),(7,⟨[],.v (.int .i64 n)⟩),(11,⟨[],.sl 10 (e9 Es) (some 2)⟩),(92,⟨[],.sl 18 (eP ps) none⟩),(93,⟨[],.v (.int .i64 (eP ps).length)⟩),(94,⟨[],.v (.int .i64 e)⟩)],
  [bC s (.pt lc 0) (.loc 1 0) m,JF s az lc n',dx (.mk h ps)],
  [El n' ph,⟨q1,9,1,none⟩,⟨q2,176,10,none⟩]⟩
theorem kY {X:Lx} {L:List ByteArray} {h:Hd} {ps:Pts} (hk:(knT X L (.mk h ps)).1=0):(h.ag=9->cx L h.name.s≠none)/\(knP X L ps).1=0:=by
 rw [knT] at hk;split at hk
 ·cases hk
 ·rename_i h1;exact ⟨fun h9 hn=>h1 ⟨h9,hn⟩,hk⟩
theorem qJ {X:Lx} {L:List ByteArray} {p:Ph} {u:Ty} {r:Pts} (hk:(knP X L (.cons p u r)).1=0):(p.bare=false->(knT X L u).1=0)/\(knP X L r).1=0:=by
 rw [knP] at hk;split at hk
 ·rename_i h1;exact (h1 hk).elim
 ·split at hk
  ·rename_i h1;exact (h1 hk).elim
  ·split at hk
   ·rename_i h1;exact ⟨(fun h2=>by rw [h1] at h2;cases h2),hk⟩
   ·split at hk
    ·rename_i h1;exact (h1 hk).elim
    ·rename_i h1;exact ⟨fun _=>by simpa using h1,hk⟩
theorem xM {X:Lx} (hX:X.OK) (s:Sch) (az:List Nat) (m:Int) (hT:gk (tL s) az) (jN:az.length<=1099511627776):∀ (k:Nat) (t:Ty),t.wt<=k->t.wt<=1099511627776->(knT X (tL s) t).1=0 ->
  LS X.lev s az (gg X.af (cr X.af X.az) X.rows X.js) m t
 | 0,t,hn,_,_=>by have:=t.dr;omega
 | k + 1,.mk h ps,hn,bS,J8=>by
  have ih:=xM hX s az m hT jN k;intro n base hnb hbl;obtain ⟨YL,SG⟩:=kY J8;have nv:=fun (p:Ph) (u:Ty)=>Is hX s az m p u;generalize gg X.af (cr X.af X.az) X.rows X.js=lc at ih nv ⊢;simp only [Ty.wt,Hd.wt] at hn bS;have jt:=ps.eO;have gj:=bd h.af;have hf:=gG (tL s) az h.name.s hT jN;have eM:=jc s;have hnmL:(namedL s).length=s.types.length:=by simp [namedL]
  have OS:mb s (.mk h ps) n=if h.ag=9 then SE s h.name.s else (n:Int):=rfl
  have Iu:ndsT X.lev s (.mk h ps) n=if h.ag=9 then [] else ⟨h.ag,h.aC,h.lo,h.hi,h.most,av h.af,edsP X.lev s ps (n + 1)⟩ :: uI X.lev s ps (n + 1):=by rw [ndsT]
  have hnn:(Ty.mk h ps).nn=if h.ag=9 then 0 else 1 + ps.nn:=by rw [Ty.nn]
  generalize hS:s=S at *;subst hS;obtain ⟨ae,order,types,⟨rh,rp⟩⟩:=s;refine ev_go (P:=Tryz.prog) tt tt_ok 5000 117 [.tmp 4] Tryz.func50 rfl Tryz.ntmps50 rfl (nL rfl) (fun E9 w9 hn9 hm9=>?_);refine br (fun h9=>?_) (fun h9=>?_)
  ·have h9:h.ag=9:=by simpa using h9
   obtain ⟨i,hi⟩:=Option.ne_none_iff_exists'.1 (YL h9);have JA:=(cF hi).1;rw [hi] at hf;rw [if_pos h9] at OS Iu
   have im:(namedL ⟨ae,order,types,.mk rh rp⟩)[i]? = some (namedN ⟨ae,order,types,.mk rh rp⟩ i):=by
    unfold namedL;rw [List.getElem?_map,List.getElem?_range (by omega)];rfl
   refine aD (fun _=>false) mo (by decide +kernel) ?_;refine aG tE (hf) ax rfl ?_;refine ⟨_,⟨by omega,dA im⟩,?_⟩;refine ⟨.v (.int .i64 (namedN ⟨ae,order,types,.mk rh rp⟩ i:Nat)),[bC ⟨ae,order,types,.mk rh rp⟩ (.pt lc 0) (.loc 1 0) m,JF ⟨ae,order,types,.mk rh rp⟩ az lc n],ax,aL,?_,?_,?_⟩
   ·rw [OS,SE,hi];rfl
   ·rw [Iu];rfl
   ·rw [Iu];simp [cK]
  have h9:¬ h.ag=9:=by simpa using h9
  rw [if_neg h9] at OS Iu hnn;have fH:(List.replicate n ([]:List DV)).length=n:=List.length_replicate;refine aq (fun j st=>∃ e:Nat,st=LU ⟨ae,order,types,.mk rh rp⟩ az lc m n base h ps e e/\e<=h.af.length/\j=h.af.length - e) h.af.length (LU ⟨ae,order,types,.mk rh rp⟩ az lc m n base h ps 0 0) (dO 4 ⟨0,9,1,none⟩ rfl rfl rfl (by repeat' (first | exact rfl | exact ah rfl | exact ak (congrArg Nat.cast fH) | exact bm (Nat.le_refl _) rfl | exact bm (Nat.le_refl _) rfl | refine ⟨_,_,rfl,?_,?_⟩)) rfl rfl (by repeat' (first | exact trivial | exact ah rfl | exact ak (congrArg Nat.cast fH) | exact bm (Nat.le_refl _) rfl | refine ⟨⟨_,rfl,?_⟩,?_⟩))) ⟨0,rfl,by omega,by omega⟩ ?_;rintro j st ⟨e,rfl,he,rfl⟩;refine br (fun hL=>?_) (fun hL=>?_)
  ·have al:e < h.af.length:=by simpa [aw] using hL
   obtain ⟨w,hw⟩:∃ w,h.af[e]? = some w:=⟨_,gE al⟩;have gR:=iB hw;refine ⟨iV w,⟨by omega,aK hw⟩,?_⟩;refine ⟨by simp [bK,av];omega,⟨by simp [bK,av,maxLen];omega,by simp [bK,av];omega⟩,?_⟩;exact ⟨LU ⟨ae,order,types,.mk rh rp⟩ az lc m n base h ps (e + 1) (e + 1),(ay 4 rfl (F1 al gR) rfl rfl rfl (yF al gR)),h.af.length - (e + 1),by omega,e + 1,rfl,by omega,rfl⟩
  have aN:e=h.af.length:=by have:=hL;simp [aw] at this;omega
  subst aN;rw [List.take_length];refine aX mo (by decide +kernel) ?_;refine ⟨⟨⟨fH,by simp⟩,by simp [maxLen];omega,by simp;omega⟩,?_⟩
  refine aq (fun j st=>∃ (e n':Nat) (ph:List DV) (Es:List Ed) (K:List Nd),st=LV ⟨ae,order,types,.mk rh rp⟩ az lc m n h ps n' ph Es h.af.length e e/\e<=ps.len/\n'=n + 1 + K.length/\ph=base ++ (YK h ++ (cK K).flatten)/\Es.length=e /\
    K ++ uI X.lev ⟨ae,order,types,.mk rh rp⟩ (ps.drop e) (n + 1 + K.length)=uI X.lev ⟨ae,order,types,.mk rh rp⟩ ps (n + 1)/\Es ++ edsP X.lev ⟨ae,order,types,.mk rh rp⟩ (ps.drop e) (n + 1 + K.length)=edsP X.lev ⟨ae,order,types,.mk rh rp⟩ ps (n + 1)/\K.length + (ps.drop e).nn=ps.nn/\(knP X (tL ⟨ae,order,types,.mk rh rp⟩) (ps.drop e)).1=0/\j=ps.len - e) ps.len
   (LV ⟨ae,order,types,.mk rh rp⟩ az lc m n h ps (n + 1) (base ++ (YK h ++ [])) [] h.af.length 0 0) (dO 3 ⟨0,176,10,none⟩ rfl rfl rfl (by repeat' (first | exact rfl | exact ah rfl | exact bm (Nat.le_refl _) rfl | exact bm (Nat.le_refl _) rfl | refine ⟨_,_,rfl,?_,?_⟩)) rfl rfl Ah) ⟨0,n + 1,_,[],[],rfl,by omega,rfl,rfl,rfl,rfl,rfl,by simp [Pts.drop],SG,by omega⟩ ?_
  rintro j st ⟨e,n',ph,Es,K,rfl,he,PH,dG,TO,hK,SI,YM,NK,rfl⟩
  have hbl':ph.length=n' * 7:=by
   have:∀ l:List Nd,(cK l).flatten.length=l.length * 7:=by
    intro l
    induction l with
    | nil=>rfl
    | cons a r ih=>simp only [cK,List.map_cons,List.flatten_cons,List.length_append,List.length_cons] at ih ⊢;rw [ih];simp only [jG,List.length_cons,List.length_nil];omega
   rw [dG,List.length_append,List.length_append,this,hbl,PH];simp only [YK,List.length_cons,List.length_nil];omega
  refine br (fun hL=>?_) (fun hL=>?_)
  ·have al:e < ps.len:=by simpa [aE] using hL
   obtain ⟨p,u,hx⟩:=Pts.dP al;have Ba:=Pts.fk (mG hx);rw [Pts.drop_cons hx] at hK SI YM NK;obtain ⟨ni,Ki⟩:=qJ NK;simp only [uI] at hK;simp only [edsP] at SI;simp only [Pts.nn] at YM;rw [<- PH] at hK SI;have Ai:=u.fo;have huc:=u.dQ;have cX:=nv p u (by omega) (fun hB=>ih u (by omega) (by omega) (ni hB)) n' ph (fun hB=>by rw [hB] at YM;simp only [Bool.false_eq_true,if_false] at YM;omega) hbl';have Xh:=jf X.lev ⟨ae,order,types,.mk rh rp⟩ u n';obtain ⟨uh,us⟩:=u;refine ⟨_,⟨by omega,bz hx⟩,?_⟩;refine iu 2 1 Vp rfl rfl rfl aL aL cX (fun r fZ bR hΦ h1 h2=>?_);obtain ⟨rfl,rfl,rfl⟩:=hΦ;refine ⟨by rw [cy,TO],⟨by simp [cy,TO,maxLen];omega,by simp [cy,TO];omega⟩,?_⟩
   have SJ:(if p.bare then [] else ndsT X.lev ⟨ae,order,types,.mk rh rp⟩ (.mk uh us) n').length=if p.bare then 0 else (Ty.mk uh us).nn:=by
    split
    ·rfl
    ·exact Xh
   have QH:n + 1 + (K.length + (if p.bare then 0 else (Ty.mk uh us).nn))=n' + if p.bare then 0 else (Ty.mk uh us).nn:=by rw [PH];omega
   refine ⟨LV ⟨ae,order,types,.mk rh rp⟩ az lc m n h ps (n' + (if p.bare then [] else ndsT X.lev ⟨ae,order,types,.mk rh rp⟩ (.mk uh us) n').length) (ph ++ (cK (if p.bare then [] else ndsT X.lev ⟨ae,order,types,.mk rh rp⟩ (.mk uh us) n')).flatten) (Es ++ [uH X.lev p (sK ⟨ae,order,types,.mk rh rp⟩ p (.mk uh us) n')]) h.af.length (e + 1) (e + 1),(ay 3 rfl (by repeat' (first | exact rfl | exact ah rfl | exact ak (cA al (by omega)) | exact cI (xL _ _) rfl | refine ⟨_,_,rfl,?_,?_⟩)) rfl rfl rfl (by repeat' (first | exact trivial | exact ah rfl | exact ak (cA al (by omega)) | exact cI (xL _ _) rfl | refine ⟨⟨_,rfl,?_⟩,?_⟩))),
    ps.len - (e + 1),by omega,e + 1,_,_,_,K ++ (if p.bare then [] else ndsT X.lev ⟨ae,order,types,.mk rh rp⟩ (.mk uh us) n'),rfl,by omega,?_,?_,?_,?_,?_,?_,Ki,rfl⟩
   ·rw [List.length_append,PH];omega
   ·rw [dG];simp [cK]
   ·simp [TO]
   ·rw [List.length_append,SJ,List.append_assoc,QH];exact hK
   ·rw [List.length_append,SJ,List.append_assoc,QH];exact SI
   ·rw [List.length_append,SJ];omega
  ·have aN:e=ps.len:=by have:=hL;simp [aE] at this;omega
   subst aN;rw [Pts.cJ] at hK SI;simp only [uI,List.append_nil] at hK;simp only [edsP,List.append_nil] at SI;have hKl:K.length=ps.nn:=by rw [hK,uJ]
   have hrl2:(List.replicate n' ([]:List DV)).length=n':=List.length_replicate;refine Il (kt:=0) ⟨rfl,rfl⟩ ⟨rfl,rfl,rfl⟩ ⟨rfl,rfl,rfl⟩ rfl rfl rfl rfl rfl rfl rfl rfl rfl rfl rfl hrl2 ⟨by omega,by omega⟩ (by decide) ?_;have Xi:n + (ndsT X.lev ⟨ae,order,types,.mk rh rp⟩ (.mk h ps) n).length=n':=by rw [Iu,List.length_cons,<- hK,PH];omega
   have qa:ph.set ((n:Int).toNat * 7 + 6) (.sl 10 (e9 Es) none)=base ++ (cK (ndsT X.lev ⟨ae,order,types,.mk rh rp⟩ (.mk h ps) n)).flatten:=by
    rw [dG,show (n:Int).toNat=n by omega,OR hbl,Iu,SI,hK];rfl
   refine ⟨.v (.int .i64 n),[bC ⟨ae,order,types,.mk rh rp⟩ (.pt lc 0) (.loc 1 0) m,JF ⟨ae,order,types,.mk rh rp⟩ az lc n'],ax,aL,?_,?_,?_⟩
   ·rw [OS]
   ·rw [Xi]
   ·rw [Xi,<- qa];rfl
end Go.Proofs.YtfifjddnnmfeoaaGreat
namespace Go.Proofs.YtfifjddnnmfeoaaGreat
namespace Dv
open Go Go.RowKit
section
variable {X:Ctx} {st:St} {k:List It} {E:En} {a:Act} {w:World} {ops:Array Oper} {W:Nat->Bool} {C:World->Prop} {Q:Act->World->Prop} {i:Nat} {r:List Nat} {o:Oper}
theorem gX (hg:o.guard=none):Region.wanted o (yielded ops a.tmps)=true:=by
 unfold Region.wanted;rw [hg]
theorem OT {bx:List (List DV)} {wr:World} (h:Rel X E st a w) (hE:tu E bx wr) (hC:∀ w',C w' -> CC E bx wr w'):Rl E bx C st.sl a where
 tm:=h.tm
 dW:=fun i cs hi=>by
  by_cases aR:cs=[]
  ·subst aR;have al:i < E.β.length:=by rw [hE.len];exact (gS hi).1
   exact ⟨_,[],gE al,⟨bZ _,by simp⟩,fun w' _ j u hj=>by simp at hj⟩
  ·obtain ⟨b,ty,arr,hb,hw,hc⟩:=hE.dW i cs hi aR;exact ⟨b,arr,hb,hc,fun w' h' j u hj=>by rw [bY (((hC w' h').o i b cs hb hi aR).trans hw)];simpa using hj⟩
 cc:=fun x v hx w' h'=>(hC w' h').c x v hx
theorem OU {bx:List (List DV)} (h:Env E bx w) (m:List Nat):tu E (maskL m 0 bx) w:=⟨by rw [qf];exact h.len,fun i cs hi aR=>by
 rcases qg m _ _ _ _ hi with h1 | h1
 ·exact (aR h1).elim
 ·exact h.dW i cs h1⟩
theorem kZ (hR:Rel X E st a w) (ho:ops[i]? = some o) (hE:pX o.op=false) (hL:pY o.op=false) (hg:o.guard=none) {s:DV} (hs:pureT X.P X.T ⟨st.sl,[],[]⟩ [] o.op=some s) (hd:eT X.nt st.sl o.dst=true)
  (hk:∀ a',Rel X E (st.put o.dst ⟨[],s⟩) a' w->runT X.P ops W C Q r a' w):runT X.P ops W C Q (i :: r) a w:=by
 have fH:Rl E [] (fun _=>False) st.sl a:=⟨hR.tm,fun i cs hi=>by simp at hi,fun _ _ _ _ h=>h.elim⟩;obtain ⟨v,hv,bW⟩:=gv (st:=⟨st.sl,[],[]⟩) X.hT fH (aW _) hs;simp only [runT,ho,hE,Bool.false_eq_true,if_false];exact ⟨v,.inl ⟨gX hg,fun w' _=>bW w' fun h=>by rw [hL] at h;cases h⟩,fun h=>(by rw [hL] at h;cases h),hk _ (aT hR hd s v hv)⟩
theorem OV (hR:Rel X E st a w) (ho:ops[i]? = some o) {bx:List (List DV)} (fH:Rl E bx C st.sl a) (US:C w) (hE:pX o.op=false) (hg:o.guard=none) {s:DV} (hs:pureT X.P X.T ⟨st.sl,bx,[]⟩ [] o.op=some s) (hd:eT X.nt st.sl o.dst=true)
  (hk:∀ a',Rel X E (st.put o.dst ⟨[],s⟩) a' w->runT X.P ops W C Q r a' w):runT X.P ops W C Q (i :: r) a w:=by
 obtain ⟨v,hv,bW⟩:=gv (st:=⟨st.sl,bx,[]⟩) X.hT fH (aW _) hs;simp only [runT,ho,hE,Bool.false_eq_true,if_false];exact ⟨v,.inl ⟨gX hg,fun w' h=>bW w' h⟩,fun _=>US,hk _ (aT hR hd s v hv)⟩
theorem OW (hR:Rel X E st a w) (ho:ops[i]? = some o) {t x d:Nat} {b p j:Nat} {n:Nat} {kd:TK} {z:List Value} (hb:E.β[j]? = some b) (kJ:o.op = .load t (.tmp x)) (gw:o.dst=some d) {i2 Em b2:Nat} (fj:E.β[i2]? = some b2) (hx:rv st [] (.tmp x)=some (.loc i2 p)) (hT:X.T.find t=some ⟨n,false,kd,z⟩)
  (hC:∀ w',C w' -> w'.cell? ⟨b2,p,none⟩=some (.pointer (some ⟨b,Em,none⟩))) (US:C w) (hg:o.guard=none) (hd:eT X.nt st.sl (some d)=true)
  (hk:∀ a',Rel X E ⟨(d,⟨[],.loc j Em⟩) :: st.sl,st.bx,st.tk⟩ a' w->runT X.P ops W C Q r a' w):runT X.P ops W C Q (i :: r) a w:=by
 have hE:pX o.op=false:=by rw [kJ];all_goals rfl
 simp only [runT,ho,hE,Bool.false_eq_true,if_false];have hv:Rv E (.loc j Em) (.pointer (some ⟨b,Em,none⟩)):=by unfold Rv;exact ⟨b,hb,rfl⟩
 refine ⟨.pointer (some ⟨b,Em,none⟩),.inl ⟨gX hg,fun w' h=>?_⟩,fun _=>US,?_⟩
 ·have Yq:=hC w' (h (by rw [kJ];rfl));have e1:=aO hR.rl hx;unfold Rv at e1;obtain ⟨b3,Jw,e1⟩:=e1;rw [fj] at Jw;simp only [oI] at Jw;subst Jw;have NV:=(te_parts X.hT hT).2.1
  have hl:(loadVar t ⟨b2,p,none⟩).run X.P w' = .ok (.pointer (some ⟨b,Em,none⟩)) w':=by
   simp [loadVar,iH NV,Yq]
  simp only [execOp,kJ,e1,Sem.run_bind,Instr.loadAt,Instr.sureAddr,Sem.run_pure,Result.andThen_ok,hl]
 ·rw [gw];exact hk _ (aT hR hd (.loc j Em) _ hv)
theorem Iv (hR:Rel X E st a w) (ho:ops[i]? = some o) {dst:Option Nat} {f:Operand} {args:Array Operand} {YN:Array TypeId} (kJ:o.op = .call ⟨.value f,args,YN⟩) (gw:o.dst=dst) (hg:o.guard=none) {g:FuncId} {ds:List DV} (hf:rv st [] f=some (.fn g [] [])) (hl:argsV st [] args.toList=some ds) (j2:Enters X.P g)
  {K:Value->World->Prop} (hc:∀ vs,RvL E ds vs->Calls X.P g vs.toArray w fun e w'=>∃ v,e = .returned v/\K v w') (hk:∀ v w',K v w' -> (W i=false->C w->C w')/\runT X.P ops W C Q r (a.put dst v) w'):runT X.P ops W C Q (i :: r) a w:=by
 have hE:pX o.op=true:=by rw [kJ];all_goals rfl
 have YO:=gX (ops:=ops) (a:=a) hg;have fH:=hR.rl;have e1:=aO fH hf;unfold Rv at e1;obtain ⟨l1,r1,e1,Af,hr1⟩:=e1;simp only [RvL] at Af hr1;subst Af hr1;have hargs:=gq fH (aW _) _ _ hl;simp only [runT,ho,hE,if_true,ek,YO];subst gw;obtain ⟨dst,op,ty,pos,after,gu⟩:=o;simp only at kJ;subst kJ
 have hr:(execOp a.eval ⟨dst,.call ⟨.value f,args,YN⟩,ty,pos,after,gu⟩).run X.P w = .ok (.enter g (args.toList.map a.eval).toArray) w:=by
  have e3:(([]:List Value).toArray ++ args.map a.eval ++ ([]:List Value).toArray)=(args.toList.map a.eval).toArray:=by apply Array.ext';simp
  simp only [execOp,resolve,e1,Deferred.ofValue,Sem.run_bind,Sem.run_pure,Result.andThen_ok,invoke,e3];exact j2 _ _
 unfold wq;rw [hr];refine (hc _ hargs).mono ?_;rintro e w' ⟨v,rfl,hK⟩;exact ⟨v,rfl,hk v w' hK⟩
theorem OX (hR:Rel X E st a w) (ho:ops[i]? = some o) {dst:Option Nat} {f:Operand} {args:Array Operand} {YN:Array TypeId} (kJ:o.op = .call ⟨.value f,args,YN⟩) (gw:o.dst=dst) (hg:o.guard=none) {g:FuncId} {ds R6:List DV} (hf:rv st [] f=some (.fn g [] [])) (hl:argsV st [] args.toList=some ds) (j2:Enters X.P g)
  {os:List (List DV)} (n1 m1:Nat) (Ax:Nat.ble n1 st.bx.length=true) (fg:Nat.ble m1 st.tk.length=true) (vT:kx [] n1 n1 m1 os (st.bx.take n1)) (ha:CcL [] n1 n1 m1 R6 ds)
  {Φ:DV->List (List DV)->List TkE->Prop} (hc:Ev X.P g R6 os (st.tk.take m1) Φ) (aS:X.still=false) (hX:X.bt=[])
  (hk:∀ v r' fZ bR E' w',Φ r' fZ bR -> fZ.length=n1->bR.length=m1->Rel X E' ⟨st.sl,fZ ++ st.bx.drop n1,bR ++ st.tk.drop m1⟩ a w' -> Rv E' r' v->Ext E E' -> E'.β=E.β->(∀ (i:Nat) b,n1<=i->E.β[i]? = some b->w'.heap[b]? = w.heap[b]?) ->
   (W i=false->C w->C w')/\runT X.P ops W C Q r (a.put dst v) w'):runT X.P ops W C Q (i :: r) a w:=by
 refine Iv hR ho kJ gw hg hf hl j2 (K:=fun v w'=>∃ r' fZ bR E',Φ r' fZ bR /\ fZ.length=n1/\bR.length=m1/\Rel X E' ⟨st.sl,fZ ++ st.bx.drop n1,bR ++ st.tk.drop m1⟩ a w' /\ Rv E' r' v/\Ext E E' /\ E'.β=E.β/\∀ (i:Nat) b,n1<=i->E.β[i]? = some b->w'.heap[b]? = w.heap[b]?)
  (fun vs hv=>?_) ?_
 ·refine (BD n1 m1 Ax fg vT ha hc aS hX hR hv).mono ?_;rintro e w' ⟨v,r',fZ,bR,E',rfl,h⟩;exact ⟨v,rfl,r',fZ,bR,E',h⟩
 ·rintro v w' ⟨r',fZ,bR,E',h1,h2,h3,h4,h5,h6,h7,h8⟩;exact hk v r' fZ bR E' w' h1 h2 h3 h4 h5 h6 h7 h8
theorem OY (h:Rel X E st a w) (j o k:Nat) {n ty e:Nat} {JD:List DV} {es ns:List (List DV)} (hq:st.tk[k]? = some ⟨n,ty,e,some ns.flatten⟩) (sC:∀ x∈ns,x.length=e) (gj:ns.length=n) (hj:st.bx[j]? = some JD) (ho:JD[o]? = some (.sl 0 es (some k))) (jq:es.length=n) :
  ∃ E',Rel X E' ⟨st.sl,st.bx.set j (JD.set o (.sl e ns none)),st.tk.set k ⟨n,ty,e,none⟩⟩ a w:=Ss hq sC gj hj ho jq E a w h
theorem Iw (hR:Rel X E st a w) (ho:ops[i]? = some o) (hE:pX o.op=true) (hg:o.guard=none) (hW:W i=true) (hd:eT X.nt st.sl o.dst=true) {p:Prop} (hp:effC X st o (go X 4000 k)=some p) (h:p):runT X.P ops W C (fun a w=>kq X k .normal a w) [i] a w:=by
 have YO:=gX (ops:=ops) (a:=a) hg;simp only [runT,ho,hE,if_true,ek,YO];refine kC ?_ (kD hd hR hp h);rintro a' w' ⟨st',E',nF,hr,_⟩;exact ⟨(fun h=>by rw [hW] at h;cases h),go_sound 4000 _ _ nF _ _ _ hr⟩
mutual
theorem qK {i j:Nat}:∀ d:DV,renD (swp i j) (renD (swp i j) d)=d
 | .v x=>rfl
 | .ud=>rfl
 | .agg l=>by simp only [renD,iE]
 | .tup l=>by simp only [renD,iE]
 | .sl e es tk=>rfl
 | .pt cs o=>rfl
 | .loc k o=>by simp only [renD,jA]
 | .el k o=>by simp only [renD,jA]
 | .ms k e o l c=>by simp only [renD,jA]
 | .fn g l r=>by simp only [renD,iE]
 | .re t x=>by simp only [renD,qK]
theorem iE {i j:Nat}:∀ l:List DV,renL (swp i j) (renL (swp i j) l)=l
 | []=>rfl
 | d :: r=>by simp only [renL,qK,iE]
end
theorem xN {i j:Nat}:∀ l:List (Nat × Sl),renS (swp i j) (renS (swp i j) l)=l
 | []=>rfl
 | (k,⟨gs,s⟩) :: r=>by simp only [renS,qK,xN]
theorem xO {i j:Nat}:∀ l:List (List DV),renO (swp i j) (renO (swp i j) l)=l
 | []=>rfl
 | c :: r=>by simp only [renO,iE,xO]
theorem LW {i j:Nat} (f:Nat->Nat) (l:List (List DV)) (hi:i < l.length) (hj:j < l.length):renO f (swL i j l)=swL i j (renO f l):=by
 apply List.ext_getElem?;intro k;rw [oL,dN hi hj,dN (by rw [cM];exact hi) (by rw [cM];exact hj),oL]
theorem BR {i j:Nat} {S:St} (hi:i < S.bx.length) (hj:j < S.bx.length):eW i j (eW i j S)=S:=by
 obtain ⟨sl,bx,tk⟩:=S;simp only [eW,xN];rw [LW _ _ (by rw [cM];exact hi) (by rw [cM];exact hj),xO];congr 1;apply List.ext_getElem?;intro k;rw [dN (by rw [cp];exact hi) (by rw [cp];exact hj),dN hi hj,jA]
theorem dy.Xj {f:FuncId} {args:List DV} {dst:Option Nat} (i j:Nat) (Js:Nat.ble X.n0 i=true) (Ae:Nat.ble X.n0 j=true) (hi:Nat.blt i st.bx.length=true) (hj:Nat.blt j st.bx.length=true)
  (h:dy X f (renL (swp i j) args) dst k (eW i j st)) (hX:X.bt=[]:=by exact rfl):dy X f args dst k st:=by
 have dF:=hi;have gM:=hj;simp only [Nat.blt_eq] at dF gM;have hl:(eW i j st).bx.length=st.bx.length:=by simp only [eW,cp,cM]
 exact dy.DA i j (BR dF gM).symm (iE args).symm Js Ae (by rw [hl];exact hi) (by rw [hl];exact hj) h hX
theorem Eo {P:Program} {t e:TypeId} (hu:P.underlying t=some (.slice e)) (d:Nat) (x:Option Addr) (n c:Nat) (w:World):(Op.equalIn (d + 1) t (.slice x n c) (.slice none 0 0)).run P w = .ok x.isNone w:=by
 cases x<;>simp [Op.equalIn,run_underlying hu]
theorem uK {P:Program} {t e:TypeId} (hu:P.underlying t=some (.slice e)) (x:Option Addr) (n c:Nat) (w:World):(Op.equal t (.slice x n c) (.slice none 0 0)).run P w = .ok x.isNone w:=Eo hu 9999 x n c w
theorem LX {t d e:Nat} {x:Operand} {es:List (List DV)} {tk:Option Nat} {n et e' jo:Nat} {bb:Bool} {z:List Value} (kJ:∃ t',o.op = .binOp .eql t x (.const (.slice none 0 0)) t') (gw:o.dst=some d) (hx:rv st [] x=some (.sl e es tk)) (hT:X.T.find t=some ⟨n,bb,.sl et e' jo,z⟩) (hd:eT X.nt st.sl (some d)=true)
  (hk:∀ b:Bool,(es ≠ []->b=false)->go X 4000 k ⟨(d,⟨[],.v (.bool b)⟩) :: st.sl,st.bx,st.tk⟩):Ht X o k st:=by
 intro E a w h;obtain ⟨t',kJ⟩:=kJ;have e1:=aO h.rl hx;unfold Rv at e1;obtain ⟨b,m,cap,e1,⟨rfl,_⟩,hr,_⟩:=e1;obtain ⟨hu,_⟩:=ef X.hT hT;have aH:=uK hu b es.length cap w
 have bW:(execOp a.eval o).run X.P w = .ok (.value (.bool b.isNone)) w:=by
  have hc:a.eval (.const (.slice none 0 0)) = .slice none 0 0:=rfl;simp [execOp,kJ,e1,hc,eqGuard,binOp,aH]
 refine gO bW ?_;rw [gw];refine go_sound 4000 _ _ (hk b.isNone fun aR=>?_) E _ w (aT h hd (.v (.bool b.isNone)) _ (by unfold Rv;exact ⟨rfl,rfl⟩));have:=lJ (hr aR).1;rw [this];rfl
theorem Xk {t d et e jo n:Nat} {bb:Bool} {z:List Value} (kJ:o.op = .buildSlice t 0 #[]) (gw:o.dst=some d) (hT:X.T.find t=some ⟨n,bb,.sl et e jo,z⟩) (hd:eT X.nt st.sl (some d)=true) (aS:X.still=false:=by exact rfl) (hX:X.bt=[]:=by exact rfl) :
  ZA X o st ⟨(d,⟨[],.sl e [] (some st.tk.length)⟩) :: st.sl,st.bx,st.tk ++ [⟨0,et,e,none⟩]⟩:=by
 intro E a w h;obtain ⟨hu,ii,zv,rn,hz,bI,sV,FL⟩:=ef X.hT hT;have na:gN X.P et=some e:=by rw [fK rn,bI]
 have bW:(execOp a.eval o).run X.P w = .ok (.value (.slice (some ⟨w.heap.size,0,none⟩) 0 0)) (w.alloc (.cells #[] et)):=by
  have h1:(Instr.buildSlice t 0 #[]).run X.P w = .ok (.slice (some ⟨w.heap.size,0,none⟩) 0 0) (w.alloc (.cells #[] et)):=by
   have h0:Array.range 0 = #[]:=rfl;simp [Instr.buildSlice,run_underlying hu,aJ na,Instr.fill,newRow,h0]
  simp only [execOp,kJ,List.map_toArray,List.map_nil,Sem.run_bind,h1,Result.andThen_ok,Sem.run_pure]
 refine dX bW ?_;rw [gw];have ni:=h.env.jL (w':=w.alloc (.cells #[] et)) fun i hi=>alloc_old w _ hi
 let E2:En:=⟨E.c,E.β,E.tk ++ [⟨0,et,e,none⟩],E.τ ++ [.slice (some ⟨w.heap.size,0,none⟩) 0 0]⟩
 have hext:Ext E E2:=⟨fun _ _ h=>h,fun _ _ h=>h,fun k q' hk=>by
  have al:=(gS hk).1;refine ⟨q',by show (E.tk ++ _)[k]? = _;rw [List.getElem?_append_left al];exact hk,.inl ⟨rfl,?_⟩⟩;show (E.τ ++ _)[k]? = _
  rw [List.getElem?_append_left (by rw [h.env.tl];exact al)]⟩
 have hτ:∀ (k:Nat) y,E2.τ[k]? = some y->(k < E.τ.length/\E.τ[k]? = some y)∨(k=E.τ.length/\y = .slice (some ⟨w.heap.size,0,none⟩) 0 0):=fun k y hy=>by
  have hy:(E.τ ++ [Value.slice (some ⟨w.heap.size,0,none⟩) 0 0])[k]? = some y:=hy;rw [List.getElem?_append] at hy;split at hy
  ·rename_i hk;exact .inl ⟨hk,hy⟩
  ·rename_i hk
   have h0:k - E.τ.length=0:=by
    rcases Nat.eq_zero_or_pos (k - E.τ.length) with h0 | h0
    ·exact h0
    ·rw [List.getElem?_eq_none (by simp;omega)] at hy;cases hy
   rw [h0] at hy;simp only [List.getElem?_cons_zero,oI] at hy;exact .inr ⟨by omega,hy.symm⟩
 have cC:∀ (k:Nat) y g,E.τ[k]? = some y->y.ownBlock=some g->g < w.heap.size:=fun k y g hy hg=>(h.env.own (mG hy) hg).1
 have cj:Rel X E2 ⟨st.sl,st.bx,st.tk ++ [⟨0,et,e,none⟩]⟩ a (w.alloc (.cells #[] et)):=by
  refine cV h hext ?_ (by show E.tk ++ _=_;rw [h.tk]) ?_ (h.fr.alloc _) (mY aS) (.nil hX)
  ·exact {
    len:=h.env.len
    tl:=by show (E.τ ++ _).length=(E.tk ++ _).length;simp [h.env.tl]
    dW:=fun i cs hi=>by
     obtain ⟨b,t,arr,hb,hw,hc⟩:=ni.dW i cs hi;exact ⟨b,t,arr,hb,hw,hc.mono hext⟩
    inj:=h.env.inj
    sub:=ni.sub
    pc:=h.env.pc
    cD:=fun k q' y Xl hy=>by
     rcases hτ k y hy with ⟨al,gf⟩ | ⟨rfl,rfl⟩
     ·have fI:(E.tk ++ [⟨0,et,e,none⟩])[k]? = some q':=Xl;rw [List.getElem?_append_left (by rw [<- h.env.tl];exact al)] at fI;exact ni.cD k q' y fI gf
     ·have fI:(E.tk ++ [⟨0,et,e,none⟩])[E.τ.length]? = some q':=Xl;rw [List.getElem?_append_right (by rw [h.env.tl];exact Nat.le_refl _),h.env.tl] at fI;simp only [Nat.sub_self,List.getElem?_cons_zero,oI] at fI;subst fI;refine .inr ⟨w.heap.size,0,#[],rfl,iw w _,⟨by simp,oo.none rfl⟩,Nat.le_refl _,Nat.zero_le _,fun hm=>?_,fun x v hx Di=>?_⟩
      ·have:=h.env.aV hm;omega
      ·have:=World.block_lt_of_cell? w x (h.env.sub x v hx);omega
    iy:=fun k k' y y' g Ad hy gf hg vS=>by
     rcases hτ k y hy with ⟨_,Ay⟩ | ⟨rfl,rfl⟩
     ·rcases hτ k' y' gf with ⟨_,lr⟩ | ⟨rfl,rfl⟩
      ·exact h.env.iy k k' y y' g Ad Ay lr hg vS
      ·have:=cC k y g Ay hg;simp only [Value.ownBlock,oI] at vS;omega
     ·rcases hτ k' y' gf with ⟨_,lr⟩ | ⟨rfl,rfl⟩
      ·have:=cC k' y' g lr vS;simp only [Value.ownBlock,oI] at hg;omega
      ·exact Ad rfl }
  ·exact {
    c:=h.nw.c
    cn:=h.nw.cn
    β:=h.nw.β
    tk:=fun j q0 y0 r8 Df=>by
     obtain ⟨q',y',h1,h2,h3⟩:=h.nw.tk j q0 y0 r8 Df;exact ⟨q',y',by show (E.tk ++ _)[j]? = _;rw [List.getElem?_append_left (gS h1).1];exact h1,by show (E.τ ++ _)[j]? = _;rw [List.getElem?_append_left (gS h2).1];exact h2,h3⟩
    tn:=fun j y g hj hy hg=>by
     rcases hτ j y hy with ⟨_,Ay⟩ | ⟨_,rfl⟩
     ·exact h.nw.tn j y g hj Ay hg
     ·simp only [Value.ownBlock,oI] at hg;have:=h.fr.size;omega
    l0:=h.nw.l0 }
 refine ⟨E2,aT cj hd (.sl e [] (some st.tk.length)) _ ?_,hext,⟨[],by simp [E2]⟩,fun i b hb _=>alloc_old w _ (h.env.aV (mG hb))⟩;unfold Rv;refine ⟨_,0,0,rfl,⟨rfl,Nat.le_refl _⟩,fun hn=>(hn rfl).elim,fun k' fI=>?_⟩;cases fI;refine ⟨⟨0,et,e,none⟩,?_,Nat.le_refl _,fun _=>?_⟩
 ·show (E.tk ++ _)[st.tk.length]? = _;rw [h.tk];simp
 ·show (E.τ ++ _)[st.tk.length]? = _;rw [<- h.tk,<- h.env.tl];simp
theorem BS {t d et e jo n:Nat} {bb:Bool} {z:List Value} (kJ:o.op = .buildSlice t 0 #[]) (gw:o.dst=some d) (hT:X.T.find t=some ⟨n,bb,.sl et e jo,z⟩) (hd:eT X.nt st.sl (some d)=true) (aS:X.still=false:=by exact rfl) (hX:X.bt=[]:=by exact rfl)
  (hk:go X 4000 k ⟨(d,⟨[],.sl e [] (some st.tk.length)⟩) :: st.sl,st.bx,st.tk ++ [⟨0,et,e,none⟩]⟩):Ht X o k st:=(Xk kJ gw hT hd aS hX).g hk
theorem Wk.Ga {st':St} (N:Nat) (hN:Nat.ble X.n0 N=true) (AX:Nat.ble N st.bx.length=true) (kE:kx st.bx N N st.tk.length st'.bx (st.bx.take N)) (ia:st'.tk=st.tk) (ll:Km st.bx N st.tk.length st.sl st'.sl):Wk X st st':=fun _ _ _ h=>
 Gb h N (nL hN) (nL AX) kE ia ll
theorem Ht.wk {st':St} {o:Oper} (hw:Wk X st st') (hd:eT X.nt st'.sl o.dst=true) {p:Prop} (hp:effC X st' o (go X 4000 k)=some p) (h:p):Ht X o k st:=fun E a w hr=>by
 obtain ⟨E',kr⟩:=hw _ _ _ hr;refine AB (kC ?_ (kD hd kr hp h));rintro a' w' ⟨HJ,E2,nF,ko,_⟩;exact go_sound 4000 _ _ nF _ _ _ ko
theorem OZ (h:Rel X E st a w) (aS:X.still=false) (hX:X.bt=[]) {g n ty e cap:Nat} {cur:Array Value} (hw:w.heap[g]? = some (.cells cur ty (0,0))) (bI:cur.size=cap * e) (hn:n<=cap) (Hy:cap<=maxLen) (hb:g ∉ E.β)
  (hc:∀ x v,E.c x=some v->x.block=g->x.off < n * e) (cC:∀ (k:Nat) y,E.τ[k]? = some y->y.ownBlock≠some g) (hg:X.w0.heap.size<=g) :
  Rel X ⟨E.c,E.β,E.tk ++ [⟨n,ty,e,none⟩],E.τ ++ [.slice (some ⟨g,0,none⟩) n cap]⟩ ⟨st.sl,st.bx,st.tk ++ [⟨n,ty,e,none⟩]⟩ a w:=by
 let E2:En:=⟨E.c,E.β,E.tk ++ [⟨n,ty,e,none⟩],E.τ ++ [.slice (some ⟨g,0,none⟩) n cap]⟩
 have hext:Ext E E2:=⟨fun _ _ h=>h,fun _ _ h=>h,fun k q' hk=>by
  have al:=(gS hk).1;refine ⟨q',by show (E.tk ++ _)[k]? = _;rw [List.getElem?_append_left al];exact hk,.inl ⟨rfl,?_⟩⟩;show (E.τ ++ _)[k]? = _
  rw [List.getElem?_append_left (by rw [h.env.tl];exact al)]⟩
 have hτ:∀ (k:Nat) y,E2.τ[k]? = some y->(k < E.τ.length/\E.τ[k]? = some y)∨(k=E.τ.length/\y = .slice (some ⟨g,0,none⟩) n cap):=fun k y hy=>by
  have hy:(E.τ ++ [Value.slice (some ⟨g,0,none⟩) n cap])[k]? = some y:=hy;rw [List.getElem?_append] at hy;split at hy
  ·rename_i hk;exact .inl ⟨hk,hy⟩
  ·rename_i hk
   have h0:k - E.τ.length=0:=by
    rcases Nat.eq_zero_or_pos (k - E.τ.length) with h0 | h0
    ·exact h0
    ·rw [List.getElem?_eq_none (by simp;omega)] at hy;cases hy
   rw [h0] at hy;simp only [List.getElem?_cons_zero,oI] at hy;exact .inr ⟨by omega,hy.symm⟩
 refine cV h hext ?_ (by show E.tk ++ _=_;rw [h.tk]) ?_ h.fr (mY aS) (.nil hX)
 ·exact {
   len:=h.env.len
   tl:=by show (E.τ ++ _).length=(E.tk ++ _).length;simp [h.env.tl]
   dW:=fun i cs hi=>by
    obtain ⟨b,t,arr,hb,hw,hc⟩:=h.env.dW i cs hi;exact ⟨b,t,arr,hb,hw,hc.mono hext⟩
   inj:=h.env.inj
   sub:=h.env.sub
   pc:=h.env.pc
   cD:=fun k q' y Xl hy=>by
    rcases hτ k y hy with ⟨al,gf⟩ | ⟨rfl,rfl⟩
    ·have fI:(E.tk ++ [⟨n,ty,e,none⟩])[k]? = some q':=Xl;rw [List.getElem?_append_left (by rw [<- h.env.tl];exact al)] at fI;exact h.env.cD k q' y fI gf
    ·have fI:(E.tk ++ [⟨n,ty,e,none⟩])[E.τ.length]? = some q':=Xl;rw [List.getElem?_append_right (by rw [h.env.tl];exact Nat.le_refl _),h.env.tl] at fI;simp only [Nat.sub_self,List.getElem?_cons_zero,oI] at fI;subst fI;exact .inr ⟨g,cap,cur,rfl,hw,⟨bI,fun cs h=>by cases h⟩,hn,Hy,hb,hc⟩
   iy:=fun k k' y y' g' Ad hy gf lI C7=>by
    rcases hτ k y hy with ⟨_,Ay⟩ | ⟨rfl,rfl⟩
    ·rcases hτ k' y' gf with ⟨_,lr⟩ | ⟨rfl,rfl⟩
     ·exact h.env.iy k k' y y' g' Ad Ay lr lI C7
     ·simp only [Value.ownBlock,oI] at C7;subst C7;exact cC k y Ay lI
    ·rcases hτ k' y' gf with ⟨_,lr⟩ | ⟨rfl,rfl⟩
     ·simp only [Value.ownBlock,oI] at lI;subst lI;exact cC k' y' lr C7
     ·exact Ad rfl }
 ·exact {
   c:=h.nw.c
   cn:=h.nw.cn
   β:=h.nw.β
   tk:=fun j q0 y0 r8 Df=>by
    obtain ⟨q',y',h1,h2,h3⟩:=h.nw.tk j q0 y0 r8 Df;exact ⟨q',y',by show (E.tk ++ _)[j]? = _;rw [List.getElem?_append_left (gS h1).1];exact h1,by show (E.τ ++ _)[j]? = _;rw [List.getElem?_append_left (gS h2).1];exact h2,h3⟩
   tn:=fun j y g' hj hy vS=>by
    rcases hτ j y hy with ⟨_,Ay⟩ | ⟨_,rfl⟩
    ·exact h.nw.tn j y g' hj Ay vS
    ·simp only [Value.ownBlock,oI] at vS;omega
   l0:=h.nw.l0 }
theorem SK {t d et e jo n len:Nat} {bb:Bool} {z:List Value} {parts:Array (Nat × Operand)} {es:List (List DV)} (kJ:o.op = .buildSlice t len parts) (gw:o.dst=some d) (hT:X.T.find t=some ⟨n,bb,.sl et e jo,z⟩) (jq:litL e st parts.toList 0=some es)
  (hc:(Nat.beq es.length len && (Nat.blt 0 len && Nat.blt 0 e && Nat.ble (len * e) 16777216))=true) (hd:eT X.nt st.sl (some d)=true) (aS:X.still=false:=by exact rfl) (hX:X.bt=[]:=by exact rfl)
  (hk:go X 4000 k ⟨(d,⟨[],.sl e es (some st.tk.length)⟩) :: st.sl,st.bx,st.tk ++ [⟨len,et,e,none⟩]⟩):Ht X o k st:=by
 intro E a w h;simp only [Bool.and_eq_true,Nat.beq_eq,Nat.ble_eq,Nat.blt_eq] at hc;obtain ⟨hlen,⟨jM,F0⟩,hsm⟩:=hc;obtain ⟨hu,ii,zv,rn,hz,bI,sV,FL⟩:=ef X.hT hT;obtain ⟨xs,vs,hp,vU,Hz,ju,UB,j1⟩:=nE h.rl F0 jq;subst bI
 have Hv:len * ii.size≠0:=by
  have:=Nat.mul_pos jM F0;omega
 have lG:Instr.fill (fun i=>some (i * ii.size,ii.size)) ((Array.range (len * ii.size)).map (zv.cells[·% zv.cells.size]!)) (parts.map fun (i,x)=>(i,a.eval x)).toList=some (cellsL vs).toArray:=by
  have h0:=sX ii.size vs 0 ((Array.range (len * ii.size)).map (zv.cells[·% zv.cells.size]!)).toList ju (by simp [Hz,hlen])
  have h1:(parts.map fun (i,x)=>(i,a.eval x)).toList=enumF 0 vs:=by
   rw [Array.toList_map,hp,vU,<- pV]
  rw [h1];simp only [Array.toArray_toList] at h0;rw [h0];simp [Hz,hlen]
 have bW:(execOp a.eval o).run X.P w = .ok (.value (.slice (some ⟨w.heap.size,0,none⟩) len len)) (w.alloc (.cells (cellsL vs).toArray et)):=by
  simp only [execOp,kJ,Sem.run_bind,run_buildSlice w t et len _ _ ii zv hu rn hz (by omega) Hv lG,Result.andThen_ok,Sem.run_pure]
 refine gO bW ?_;rw [gw];have hr:=wJ (arr:=cellsL vs) h aS et
 have QI:(cellsL vs).length=len * ii.size:=by
  have:∀ l:List Value,(∀ v∈l,v.cells.toList.length=ii.size)->(cellsL l).length=l.length * ii.size:=by
   intro l
   induction l with
   | nil=>intro _;simp [cellsL]
   | cons v l ih=>
    intro hl;simp only [cellsL,List.length_append,List.length_cons];rw [ih fun x hx=>hl x (List.mem_cons_of_mem _ hx),hl v List.mem_cons_self,Nat.succ_mul];omega
  rw [this vs ju,Hz,hlen]
 have ko:=OZ (n:=len) (ty:=et) (e:=ii.size) (cap:=len) hr aS hX (g:=w.heap.size) (cur:=(cellsL vs).toArray) (iw w _) (by simp [QI]) (Nat.le_refl _) (by
   have:len<=len * ii.size:=Nat.le_mul_of_pos_right _ F0;unfold maxLen;omega) (fun hm=>by have:=h.env.aV hm;omega) (fun x v hx Di=>by
   have hx:fJ E.c (w.alloc (.cells (cellsL vs).toArray et)) w.heap.size (cellsL vs).length x=some v:=hx;unfold fJ at hx;split at hx
   ·rename_i hc;rw [<- QI];exact hc.2.2
   ·have:=World.block_lt_of_cell? w x (h.env.sub x v hx);omega) (fun j y hy hg=>by
   have:=(h.env.own (mG hy) hg).1
   omega) (h.fr.size)
 refine go_sound 4000 _ _ hk _ _ _ (aT ko hd (.sl ii.size es (some st.tk.length)) _ ?_);unfold Rv;refine ⟨_,_,_,rfl,⟨hlen.symm,Nat.le_refl _⟩,fun aR=>⟨rfl,?_⟩,fun k' fI=>?_⟩
 ·have fv:∀ x v,E.c x=some v->fJ E.c (w.alloc (.cells (cellsL vs).toArray et)) w.heap.size (cellsL vs).length x=some v:=fun x v hx=>by
   have al:=World.block_lt_of_cell? w x (h.env.sub x v hx);unfold fJ;rw [if_neg (by omega)];exact hx
  have hm:RvC (En.cl ⟨fJ E.c (w.alloc (.cells (cellsL vs).toArray et)) w.heap.size (cellsL vs).length,E.β,E.tk,E.τ⟩) es.flatten (cellsL vs):=UB.mono (Ext.Rb (E:=E) fv);refine rvEs_flat hm j1 fun j u hj=>?_;show fJ _ _ _ _ _=_;have gM:=(gS hj).1;simp only [ab,ao,Nat.zero_add];rw [yx gM,bY (iw w _)];simpa using hj
 ·cases fI;refine ⟨⟨len,et,ii.size,none⟩,?_,Nat.le_refl _,fun _=>?_⟩
  ·show (E.tk ++ _)[st.tk.length]? = _;rw [h.tk];simp
  ·show (E.τ ++ _)[st.tk.length]? = _;rw [<- h.tk,<- h.env.tl];simp
end
end Dv
end Go.Proofs.YtfifjddnnmfeoaaGreat
