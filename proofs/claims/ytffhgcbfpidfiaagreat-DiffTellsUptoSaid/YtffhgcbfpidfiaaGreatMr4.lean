/- Part 4 of the proof: Rules for the evaluator: a call that is handed the caller's first objects and rows; rows whose cells nobody else knows; lattice.best, and the closures of bounds; lattice.bounds: all joins and meets; lattice.Build; Reading a lattice: Len, has, Name, Find, Join, Meet, Bottom; labels.Of; The checker's part, once check is known for lighter types; The checker's parts, once check is known for lighter types; The checker's one and check, once check is known for lighter types; so check; kinds.Count, resolve.nodes; the builder's level; The builder's end, loops, known; The builder's each, right, called; The builder's each of right; called; places; The builder's places; The builder's edge; The builder's node; Steps of a region that draws its order, one by one. No condition. -/
import Derived.Test.YtffhgcbfpidfiaaGreatMr2
import Derived.Test.YtffhgcbfpidfiaaGreatMr3
set_option linter.all false
namespace Go.Proofs.YtffhgcbfpidfiaaGreat
namespace Dv
open Go Go.RowKit
section
variable {X:Ctx} {st:St} {k:List It} {E:En} {a:Act} {w:World}
def Wk (X:Ctx) (st st':St):Prop:=∀ E a w,Rel X E st a w->∃ E',Rel X E' st' a w
theorem Wk.refl (X:Ctx) (st:St):Wk X st st:=fun E _ _ h=>⟨E,h⟩
theorem Wk.trans {X:Ctx} {s1 s2 s3:St} (h1:Wk X s1 s2) (h2:Wk X s2 s3):Wk X s1 s3:=fun _ _ _ h=>by
 obtain ⟨E1,h3⟩:=h1 _ _ _ h;exact h2 _ _ _ h3
theorem Wk.RE {X:Ctx} {s1 s2:St} (h:Ay X.n0 X.m0 s1 s2):Wk X s1 s2:=fun _ _ _ hr=>uZ hr h
theorem zh {f:FuncId} {args bE:List DV} {os:List (List DV)} (n1 m1:Nat) (Ch:Nat.ble n1 st.bx.length=true) (fH:Nat.ble m1 st.tk.length=true)
  (uQ:lB [] n1 n1 m1 os (st.bx.take n1)) (ha:CcL [] n1 n1 m1 bE args)
  {Φ:DV->List (List DV)->List TkE->Prop} (hc:Yw false X.P f bE os (st.tk.take m1) X.bt Φ) (aU:X.still=false) {vs:List Value} (h:Rel X E st a w) (hv:RvL E args vs) :
  Calls X.P f vs.toArray w fun e w'=>∃ v r gI bU E',e = .returned v/\Φ r gI bU /\ gI.length=n1/\bU.length=m1/\Rel X E' ⟨st.sl,gI ++ st.bx.drop n1,bU ++ st.tk.drop m1⟩ a w' /\ Rv E' r v/\Ext E E' /\ E'.β=E.β /\
   ∀ (i:Nat) b,n1<=i->E.β[i]? = some b->w'.heap[b]? = w.heap[b]?:=by
 have Ch:=nL Ch;have fH:=nL fH;have hlen:=h.env.len;have eZ:=h.env.tl;have iZ:=h.tk;have htkl:E.tk.length=st.tk.length:=by rw [iZ]
 let E1:En:=⟨E.c,E.β.take n1,E.tk.take m1,E.τ.take m1⟩
 have hfz:LV E E1 [] n1:=⟨fun _ _ h=>h,fun i cs _ hi=>by simp at hi⟩
 have yc:H9 E E1 n1 m1:={
  β:=fun i b hi hb=>by show (E.β.take n1)[i]? = _;rw [List.getElem?_take,if_pos hi];exact hb
  tk:=fun k hk=>⟨by show (E.tk.take m1)[k]? = _;rw [List.getElem?_take,if_pos hk],by show (E.τ.take m1)[k]? = _;rw [List.getElem?_take,if_pos hk]⟩ }
 obtain ⟨kK,Yv⟩:=uQ.get;have hosl:os.length=n1:=by rw [kK,List.length_take];omega
 have hτg:∀ (j:Nat) y,(E.τ.take m1)[j]? = some y->j < m1/\E.τ[j]? = some y:=fun j y hy=>by
  rw [List.getElem?_take] at hy;split at hy
  ·rename_i hj;exact ⟨hj,hy⟩
  ·cases hy
 have hkg:∀ (j:Nat) q,(E.tk.take m1)[j]? = some q->j < m1/\E.tk[j]? = some q:=fun j y hy=>by
  rw [List.getElem?_take] at hy;split at hy
  ·rename_i hj;exact ⟨hj,hy⟩
  ·cases hy
 have hE1:Env E1 os w:={
  len:=by show (E.β.take n1).length=_;rw [List.length_take,hosl];omega
  tl:=by show (E.τ.take m1).length=(E.tk.take m1).length;rw [List.length_take,List.length_take,eZ]
  ek:=fun i cs' hi=>by
   obtain ⟨cs,cG,q7⟩:=Yv i cs' hi;rw [List.getElem?_take] at cG;split at cG
   ·rename_i au;obtain ⟨b,ty,arr,hb,hw,hc⟩:=h.env.ek i cs cG;exact ⟨b,ty,arr,yc.β i b au hb,hw,CcL.sound hfz yc q7 hc.1,hc.2⟩
   ·cases cG
  inj:=h.env.inj.sublist (List.take_sublist _ _)
  sub:=h.env.sub
  pc:=fun x v hx hm=>h.env.pc x v hx (List.mem_of_mem_take hm)
  ct:=fun j q y hq hy=>by
   obtain ⟨_,hq⟩:=hkg j q hq;obtain ⟨_,hy⟩:=hτg j y hy;rcases h.env.ct j q y hq hy with h1 | ⟨g,cap,cur,rfl,h1,h2,h3,h4,h5,h6⟩
   ·exact .inl h1
   ·exact .inr ⟨g,cap,cur,rfl,h1,h2,h3,h4,fun hm=>h5 (List.mem_of_mem_take hm),h6⟩
  iW:=fun j j' y y' g H3 hy fG=>h.env.iW j j' y y' g H3 (hτg j y hy).2 (hτg j' y' fG).2 }
 refine (hc E1 w _ hE1 (by show E.tk.take m1=_;rw [iZ]) (h.bt.sub n1) (CcL.sound hfz yc ha hv)).mono ?_;rintro e w' ⟨v,rfl,⟨hm,_,r,gI,E2,he,hβ,rQ,hn,Q9,hΦ⟩,hbt2⟩;have rQ:E2.tk.length=E1.tk.length:=rQ;have hE1t:E1.tk.length=m1:=by show (E.tk.take m1).length=_;rw [List.length_take];omega
 have hE1τ:E1.τ.length=m1:=by show (E.τ.take m1).length=_;rw [List.length_take];omega
 have hE1β:E1.β.length=n1:=by show (E.β.take n1).length=_;rw [List.length_take];omega
 rw [hE1t] at rQ;have Xz:E2.τ.length=m1:=by rw [he.tl,rQ]
 have F6:gI.length=n1:=by rw [<- he.len,hβ,hE1β]
 have hS:∀ j,E1.S j->j∈E.β.take n1∨∃ i y,i < m1/\E.τ[i]? = some y/\y.ownBlock=some j:=fun j hj=>by
  rcases hj with h1 | ⟨y,h1,h2⟩
  ·exact .inl h1
  ·obtain ⟨i,hi,he⟩:=List.getElem_of_mem h1;have dF:E1.τ[i]? = some y:=by rw [gE hi,he]
   obtain ⟨h3,h4⟩:=hτg i y dF;exact .inr ⟨i,y,h3,h4,h2⟩
 have hh:∀ j,j < w.heap.size->¬ E1.S j->w'.heap[j]? = w.heap[j]?:=fun j hj aT=>hm.block j hj aT;have E9:∀ (i:Nat) y g,E.τ[i]? = some y->y.ownBlock=some g->g < w.heap.size/\g ∉ E.β:=fun i y g hy hg=>h.env.own (mG hy) hg
 have eo:∀ x v,E2.c x=some v->E.c x=some v∨w.heap.size<=x.block∨∃ i y,i < m1/\E.τ[i]? = some y/\y.ownBlock=some x.block:=fun x v hx=>by
  rcases hn.cn x v hx with h1 | h1 | ⟨y,h1,h2⟩
  ·exact .inl h1
  ·exact .inr (.inl h1)
  ·obtain ⟨i,hi,he⟩:=List.getElem_of_mem h1;have dF:E1.τ[i]? = some y:=by rw [gE hi,he]
   obtain ⟨h3,h4⟩:=hτg i y dF;exact .inr (.inr ⟨i,y,h3,h4,h2⟩)
 have ry:∀ (j:Nat) q,j < m1->E.tk[j]? = some q->∃ y q' y',E.τ[j]? = some y/\E2.tk[j]? = some q' /\ E2.τ[j]? = some y' /\ q.ty=q'.ty/\q.e=q'.e/\((q'.n=q.n/\y'=y)∨q.n < q'.n)/\(y'.ownBlock=y.ownBlock∨∀ g,y'.ownBlock=some g->w.heap.size<=g):=fun j q hj hq=>by
  have oM:j < E.τ.length:=by rw [eZ];omega
  obtain ⟨q',y',h1,h2,h3⟩:=hn.tk j q E.τ[j] (by show (E.tk.take m1)[j]? = _;rw [List.getElem?_take,if_pos hj];exact hq) (by show (E.τ.take m1)[j]? = _;rw [List.getElem?_take,if_pos hj,gE oM]);exact ⟨_,q',y',gE oM,h1,h2,h3⟩
 have IQ:∀ (j:Nat) y',j < m1->E2.τ[j]? = some y' -> ∃ y,E.τ[j]? = some y/\(y'.ownBlock=y.ownBlock∨∀ g,y'.ownBlock=some g->w.heap.size<=g):=fun j y' hj hy=>by
  have oM:j < E.tk.length:=by omega
  obtain ⟨y,q1,y1,h1,_,h3,_,_,_,h7⟩:=ry j _ hj (gE oM);rw [hy] at h3;simp only [oI] at h3;subst h3;exact ⟨y,h1,h7⟩
 let E':En:=⟨E2.c,E.β,E2.tk ++ E.tk.drop m1,E2.τ ++ E.τ.drop m1⟩
 have fF:∀ (j:Nat),m1<=j->E'.tk[j]? = E.tk[j]?:=fun j hj=>by
  show (E2.tk ++ E.tk.drop m1)[j]? = _;rw [List.getElem?_append_right (by omega),List.getElem?_drop,rQ];congr 1;omega
 have V2:∀ (j:Nat),m1<=j->E'.τ[j]? = E.τ[j]?:=fun j hj=>by
  show (E2.τ ++ E.τ.drop m1)[j]? = _;rw [List.getElem?_append_right (by omega),List.getElem?_drop,Xz];congr 1;omega
 have MD:∀ (j:Nat),j < m1->E'.tk[j]? = E2.tk[j]?:=fun j hj=>by
  show (E2.tk ++ E.tk.drop m1)[j]? = _;rw [List.getElem?_append_left (by omega)]
 have LU:∀ (j:Nat),j < m1->E'.τ[j]? = E2.τ[j]?:=fun j hj=>by
  show (E2.τ ++ E.τ.drop m1)[j]? = _;rw [List.getElem?_append_left (by omega)]
 have hx:Ext E E':=⟨hn.c,fun _ _ h=>h,fun j q hq=>by
  rcases Nat.lt_or_ge j m1 with hj | hj
  ·obtain ⟨y,q',y',h1,h2,h3,_,_,h6,_⟩:=ry j q hj hq;refine ⟨q',by rw [MD j hj];exact h2,?_⟩;rcases h6 with ⟨h6,rfl⟩ | h6
   ·exact .inl ⟨h6,by rw [LU j hj,h3,h1]⟩
   ·exact .inr h6
  ·exact ⟨q,by rw [fF j hj];exact hq,.inl ⟨rfl,V2 j hj⟩⟩⟩
 have QG:Ext E2 E':={
  c:=fun _ _ h=>h
  β:=fun j b hj=>by
   rw [hβ] at hj;have hj:(E.β.take n1)[j]? = some b:=hj;rw [List.getElem?_take] at hj;split at hj
   ·exact hj
   ·cases hj
  tk:=fun j q hq=>by
   have hj:j < m1:=by have:=(gS hq).1;omega
   exact ⟨q,by rw [MD j hj];exact hq,.inl ⟨rfl,LU j hj⟩⟩ }
 have T9:∀ (i:Nat) b,n1<=i->E.β[i]? = some b->w'.heap[b]? = w.heap[b]?:=fun i b hi hb=>by
  refine hh b (h.env.bc (mG hb)) fun hs=>?_;rcases hS b hs with h1 | ⟨i',y,_,h2,h3⟩
  ·obtain ⟨i',dF,Ia⟩:=List.getElem_of_mem h1;have h4:(E.β.take n1)[i']? = some b:=by rw [gE dF,Ia]
   rw [List.getElem?_take] at h4;split at h4
   ·rename_i au;have:=(List.getElem?_inj (gS hb).1 h.env.inj).1 (hb.trans h4.symm);omega
   ·cases h4
  ·exact (E9 i' y b h2 h3).2 (mG hb)
 have hbt':oe X.bt E.β w':=fun p hp b hb=>by
  rcases Nat.lt_or_ge p.1 n1 with au | aN
  ·exact hbt2 p hp b (by show (E.β.take n1)[p.1]? = _;rw [List.getElem?_take,if_pos au];exact hb)
  ·obtain ⟨cs,cG⟩:=h.bt p hp b hb;exact ⟨cs,by rw [T9 p.1 b aN hb];exact cG⟩
 have bY:Rel X E' ⟨st.sl,gI ++ st.bx.drop n1,E2.tk ++ st.tk.drop m1⟩ a w':=by
  refine dg h hx ?_ (by show E2.tk ++ E.tk.drop m1=_;rw [iZ]) ?_ (h.fr.cj hm.os hm.tape hm.output hm.size fun j hj=>?_) (mh aU) hbt'
  ·exact {
    len:=by show E.β.length=_;rw [List.length_append,List.length_drop,F6,hlen];omega
    tl:=by show (E2.τ ++ E.τ.drop m1).length=(E2.tk ++ E.tk.drop m1).length;simp only [List.length_append,List.length_drop,Xz,rQ,eZ]
    ek:=fun i Rh hi=>by
     rcases Nat.lt_or_ge i n1 with uf | uf
     ·rw [List.getElem?_append_left (by omega)] at hi;obtain ⟨b2,ty2,Vn,dQ,kv,nK⟩:=he.ek i Rh hi;exact ⟨b2,ty2,Vn,QG.β i b2 dQ,kv,nK.mono QG⟩
     ·rw [List.getElem?_append_right (by omega),List.getElem?_drop,F6] at hi;rw [show n1 + (i - n1)=i by omega] at hi;obtain ⟨bj,tyj,Vo,Tk,YP,Mf⟩:=h.env.ek i Rh hi;refine ⟨bj,tyj,Vo,Tk,(hh bj (cp YP) ?_).trans YP,Mf.mono hx⟩;intro hs;rcases hS bj hs with h1 | ⟨i',y,_,h2,h3⟩
      ·obtain ⟨i',dF,Ia⟩:=List.getElem_of_mem h1;have h4:(E.β.take n1)[i']? = some bj:=by rw [gE dF,Ia]
       rw [List.getElem?_take] at h4;split at h4
       ·rename_i au;have:=(List.getElem?_inj (gS Tk).1 h.env.inj).1 (Tk.trans h4.symm);omega
       ·cases h4
      ·exact (E9 i' y bj h2 h3).2 (mG Tk)
    inj:=h.env.inj
    sub:=he.sub
    pc:=fun x v hc oK=>by
     rcases eo x v hc with h1 | h1 | ⟨i,y,_,h2,h3⟩
     ·exact h.env.pc x v h1 oK
     ·have:=h.env.bc oK;omega
     ·exact (E9 i y _ h2 h3).2 oK
    ct:=fun j q y hq hy=>by
     rcases Nat.lt_or_ge j m1 with hj | hj
     ·rw [MD j hj] at hq;rw [LU j hj] at hy;rcases he.ct j q y hq hy with h1 | ⟨g,cap,cur,rfl,h1,h2,h3,h4,h5,h6⟩
      ·exact .inl h1
      ·refine .inr ⟨g,cap,cur,rfl,h1,h2,h3,h4,fun oK=>?_,h6⟩;obtain ⟨y0,h7,h8⟩:=IQ j _ hj hy;rcases h8 with h8 | h8
       ·exact (E9 j y0 g h7 (by rw [<- h8];rfl)).2 oK
       ·have:=h8 g rfl;have:=h.env.bc oK;omega
     ·rw [fF j hj] at hq;rw [V2 j hj] at hy;rcases h.env.ct j q y hq hy with h1 | ⟨g,cap,cur,rfl,h1,h2,h3,h4,h5,h6⟩
      ·exact .inl h1
      ·have aT:∀ i y',i < m1->E.τ[i]? = some y' -> y'.ownBlock≠some g:=fun i y' hi fG=>h.env.iW j i _ y' g (by omega) hy fG rfl
       have hns:¬ E1.S g:=fun hs=>by
        rcases hS g hs with h7 | ⟨i,y',h7,h8,h9⟩
        ·exact h5 (List.mem_of_mem_take h7)
        ·exact aT i y' h7 h8 h9
       refine .inr ⟨g,cap,cur,rfl,by rw [hh g (cp h1) hns];exact h1,⟨h2.1,h2.2.mono hn.c⟩,h3,h4,h5,fun x v hc hg=>?_⟩
       ·rcases eo x v hc with h7 | h7 | ⟨i,y',h7,h8,h9⟩
        ·exact h6 x v h7 hg
        ·have:=cp h1;omega
        ·exact (aT i y' h7 h8 (by rw [h9,hg])).elim
    iW:=fun j j' y y' g H3 hy fG hg sG=>by
     rcases Nat.lt_or_ge j m1 with hj | hj
     ·rw [LU j hj] at hy;obtain ⟨y0,h7,h8⟩:=IQ j _ hj hy;rcases Nat.lt_or_ge j' m1 with iN | iN
      ·rw [LU j' iN] at fG;exact he.iW j j' y y' g H3 hy fG hg sG
      ·rw [V2 j' iN] at fG;rcases h8 with h8 | h8
       ·exact h.env.iW j j' y0 y' g H3 h7 fG (by rw [<- h8];exact hg) sG
       ·have:=h8 g hg;have:=(E9 j' y' g fG sG).1;omega
     ·rw [V2 j hj] at hy;rcases Nat.lt_or_ge j' m1 with iN | iN
      ·rw [LU j' iN] at fG;obtain ⟨y0,h7,h8⟩:=IQ j' _ iN fG;rcases h8 with h8 | h8
       ·exact h.env.iW j j' y y0 g H3 hy h7 hg (by rw [<- h8];exact sG)
       ·have:=h8 g sG;have:=(E9 j y g hy hg).1;omega
      ·rw [V2 j' iN] at fG
       exact h.env.iW j j' y y' g H3 hy fG hg sG }
  ·exact {
    c:=fun x v hc=>hn.c x v (h.nw.c x v hc)
    cn:=fun x v hc=>by
     rcases eo x v hc with h1 | h1 | ⟨i,y,_,h2,h3⟩
     ·exact h.nw.cn x v h1
     ·have:=h.fr.size;exact .inr (.inl (by omega))
     ·rcases h.nw.own h2 h3 with h4 | h4
      ·exact .inr (.inr h4)
      ·exact .inr (.inl h4)
    β:=h.nw.β
    tk:=fun j q0 y0 rr Cj=>by
     obtain ⟨q1,y1,h1,h2,h3,h4,h5,h6⟩:=h.nw.tk j q0 y0 rr Cj;rcases Nat.lt_or_ge j m1 with hj | hj
     ·obtain ⟨y,q',y',g1,g2,g3,g4,g5,g6,g7⟩:=ry j q1 hj h1;rw [h2] at g1;simp only [oI] at g1;subst g1;refine ⟨q',y',by rw [MD j hj];exact g2,by rw [LU j hj];exact g3,h3.trans g4,h4.trans g5,?_,?_⟩
      ·rcases g6 with ⟨g6,rfl⟩ | g6
       ·rcases h5 with ⟨h5,rfl⟩ | h5
        ·exact .inl ⟨by omega,rfl⟩
        ·exact .inr (by omega)
       ·rcases h5 with ⟨h5,_⟩ | h5
        ·exact .inr (by omega)
        ·exact .inr (by omega)
      ·rcases g7 with g7 | g7
       ·rcases h6 with h6 | h6
        ·exact .inl (g7.trans h6)
        ·exact .inr fun g hg=>h6 g (by rw [<- g7];exact hg)
       ·refine .inr fun g hg=>?_;have:=g7 g hg;have:=h.fr.size;omega
     ·exact ⟨q1,y1,by rw [fF j hj];exact h1,by rw [V2 j hj];exact h2,h3,h4,h5,h6⟩
    tn:=fun j y g BZ hy hg=>by
     rcases Nat.lt_or_ge j m1 with hj | hj
     ·rw [LU j hj] at hy;obtain ⟨y0,h7,h8⟩:=IQ j _ hj hy;rcases h8 with h8 | h8
      ·exact h.nw.tn j y0 g BZ h7 (by rw [<- h8];exact hg)
      ·have:=h8 g hg;have:=h.fr.size;omega
     ·rw [V2 j hj] at hy;exact h.nw.tn j y g BZ hy hg
    l0:=h.nw.l0 }
  ·by_cases hjs:E1.S j
   ·left;rcases hS j hjs with h1 | ⟨i,y,_,h2,h3⟩
    ·have yd:=List.mem_of_mem_take h1;obtain ⟨r0,hr0,FC⟩:=h.nw.β;rw [hr0] at yd;rcases List.mem_append.1 yd with yd | yd
     ·exact .inl (.inl yd)
     ·exact .inr (FC j yd)
    ·rcases h.nw.own h2 h3 with h4 | h4
     ·exact .inl (.inr h4)
     ·exact .inr h4
   ·exact .inr (hh j hj hjs)
 exact ⟨v,r,gI,E2.tk,E',rfl,hΦ,F6,rQ,bY,Rv.mono QG Q9,hx,rfl,T9⟩
theorem Dd {f:FuncId} {args bE:List DV} {os:List (List DV)} (n1 m1:Nat) (Ch:Nat.ble n1 st.bx.length=true) (fH:Nat.ble m1 st.tk.length=true)
  (uQ:lB [] n1 n1 m1 os (st.bx.take n1)) (ha:CcL [] n1 n1 m1 bE args)
  {Φ:DV->List (List DV)->List TkE->Prop} (hc:Ev X.P f bE os (st.tk.take m1) Φ) (aU:X.still=false) (hX:X.bt=[]) {vs:List Value} (h:Rel X E st a w) (hv:RvL E args vs) :
  Calls X.P f vs.toArray w fun e w'=>∃ v r gI bU E',e = .returned v/\Φ r gI bU /\ gI.length=n1/\bU.length=m1/\Rel X E' ⟨st.sl,gI ++ st.bx.drop n1,bU ++ st.tk.drop m1⟩ a w' /\ Rv E' r v/\Ext E E' /\ E'.β=E.β /\
   ∀ (i:Nat) b,n1<=i->E.β[i]? = some b->w'.heap[b]? = w.heap[b]?:=
 zh n1 m1 (by exact Ch) (by exact fH) uQ ha (hc.Yx hX) aU h hv
theorem NW {f:FuncId} {args bE:List DV} {os:List (List DV)} {d:Nat} (n1 m1:Nat) (lx:Enters X.P f) (hd:eL X.nt st.sl (some d)=true) (Ch:Nat.ble n1 st.bx.length=true) (fH:Nat.ble m1 st.tk.length=true)
  (uQ:lB [] n1 n1 m1 os (st.bx.take n1)) (ha:CcL [] n1 n1 m1 bE args)
  {Φ:DV->List (List DV)->List TkE->Prop} (hc:Ev X.P f bE os (st.tk.take m1) Φ)
  (hk:∀ r gI bU,Φ r gI bU -> gI.length=n1->bU.length=m1->∃ st',Wk X ⟨(d,⟨[],r⟩) :: st.sl,gI ++ st.bx.drop n1,bU ++ st.tk.drop m1⟩ st' /\ go X 4000 k st') (aU:X.still=false:=by exact rfl) (hX:X.bt=[]:=by exact rfl):dx X f args (some d) k st:=by
 refine ⟨lx,aU,fun E a w vs h hv=>(Dd n1 m1 Ch fH uQ ha hc aU hX h hv).mono ?_⟩;rintro e w' ⟨v,r,gI,bU,E',rfl,hΦ,F6,rQ,bY,Iy,_,_,_⟩;obtain ⟨st',Mu,mw⟩:=hk r gI bU hΦ F6 rQ;obtain ⟨E3,hr3⟩:=Mu _ _ _ (aZ bY hd r v Iy);exact go_sound 4000 _ _ mw E3 _ w' hr3
theorem fY {f:FuncId} {args bE:List DV} {os:List (List DV)} {d:Nat} (n1 m1:Nat) (lx:Enters X.P f) (hd:eL X.nt st.sl (some d)=true) (Ch:Nat.ble n1 st.bx.length=true) (fH:Nat.ble m1 st.tk.length=true)
  (uQ:lB [] n1 n1 m1 os (st.bx.take n1)) (ha:CcL [] n1 n1 m1 bE args)
  {Φ:DV->List (List DV)->List TkE->Prop} (hc:Ev X.P f bE os (st.tk.take m1) Φ)
  (hk:∀ r gI bU,Φ r gI bU -> gI.length=n1->bU.length=m1->go X 4000 k ⟨(d,⟨[],r⟩) :: st.sl,gI ++ st.bx.drop n1,bU ++ st.tk.drop m1⟩) (aU:X.still=false:=by exact rfl) (hX:X.bt=[]:=by exact rfl):dx X f args (some d) k st:=
 NW n1 m1 lx hd Ch fH uQ ha hc (fun r gI bU h1 h2 h3=>⟨_,Wk.refl _ _,hk r gI bU h1 h2 h3⟩) aU hX
theorem mZ {f:FuncId} {args bE:List DV} {os:List (List DV)} {d:Nat} (n1 m1:Nat) (lx:Enters X.P f) (hd:eL X.nt st.sl (some d)=true) (Ch:Nat.ble n1 st.bx.length=true) (fH:Nat.ble m1 st.tk.length=true)
  (uQ:lB [] n1 n1 m1 os (st.bx.take n1)) (ha:CcL [] n1 n1 m1 bE args)
  {Φ:DV->List (List DV)->List TkE->Prop} (hc:Yw false X.P f bE os (st.tk.take m1) X.bt Φ)
  (hk:∀ r gI bU,Φ r gI bU -> gI.length=n1->bU.length=m1->go X 4000 k ⟨(d,⟨[],r⟩) :: st.sl,gI ++ st.bx.drop n1,bU ++ st.tk.drop m1⟩) (aU:X.still=false:=by exact rfl):dx X f args (some d) k st:=by
 refine ⟨lx,aU,fun E a w vs h hv=>(zh n1 m1 Ch fH uQ ha hc aU h hv).mono ?_⟩;rintro e w' ⟨v,r,gI,bU,E',rfl,hΦ,F6,rQ,bY,Iy,_,_,_⟩;exact go_sound 4000 _ _ (hk r gI bU hΦ F6 rQ) E' _ w' (aZ bY hd r v Iy)
theorem Kt {all:Array Oper} {o1 o2 o3:Oper} {r:List Oper} {d1 d2 kt t sT f off ft ty et e je m Ua nn:Nat} {bb:Bool} {zz:List Value} {z:Int} {kd:IntKind} {es:List (List DV)} {cs:List DV} {s ix x:Operand} {dv dv':DV}
  (h1:o1.op = .indexAddr t s ix/\o1.dst=some d1) (h2:o2.op = .fieldAddr sT (.tmp d1) f/\o2.dst=some d2/\o2.guard=none) (h3:o3.op = .store ty (.tmp d2) x/\o3.dst=none/\o3.guard=none)
  (E5:eL X.nt st.sl (some d1)=true) (MA:eL X.nt ((d1,⟨[],.pt [] 0⟩) :: st.sl) (some d2)=true)
  (hs:rv st [] s=some (.sl 0 es (some kt))) (hi:rv st [] ix=some (.v (.int kd z))) (hx:rv ⟨(d2,⟨[],.pt [] 0⟩) :: (d1,⟨[],.pt [] 0⟩) :: st.sl,st.bx,st.tk⟩ [] x=some dv) (hdv:eraD dv=some dv') (hdc:dv.cells=[dv])
  (hT:X.T.find t=some ⟨nn,bb,.sl et e je,zz⟩) (tE:X.T.off sT f=some (off,ft)) (bJ:X.T.sz ty=some 1)
  (hq:st.tk[kt]? = some ⟨m,Ua,e,some cs⟩) (jk:es.length=m) (hz:0<=z/\z < m) (Ya:off + 1<=e)
  (hk:go X 4000 (.ops all r :: k) ⟨(d2,⟨[],.pt [] 0⟩) :: (d1,⟨[],.pt [] 0⟩) :: st.sl,st.bx,st.tk.set kt ⟨m,Ua,e,some (cs.set (z.toNat * e + off) dv')⟩⟩)
  (aU:X.still=false:=by exact rfl):HS X o1 (.ops all (o2 :: o3 :: r) :: k) st:=by
 intro E a w h;have gG:=h.rl;have e1:=aW gG hs;have e2:=cq (aW gG hi);unfold Rv at e1;obtain ⟨bs,ns,ml,e1,⟨hns,H7⟩,Q2,Av⟩:=e1;subst hns;obtain ⟨q',lE,_,Yq⟩:=Av kt rfl;have kJ:E.tk[kt]? = some ⟨m,Ua,e,some cs⟩:=by rw [h.tk];exact hq
 rw [kJ] at lE;simp only [oI] at lE;subst lE;have hy:=Yq jk;rw [e1,jk] at hy;rw [jk] at e1;have hot:=h.env.ct kt _ _ kJ hy;rcases hot with ⟨og,jt,_⟩ | ⟨g,cap,cur,og,hw0,⟨uU,Mk⟩,JL,JN,gH,Ml⟩
 ·simp only at jt;omega
 injection og with i1 i2 i3
 subst i1 i3;obtain ⟨hu,ii,zv,sI,_,hsz2,_,_⟩:=eA X.hT hT;have oh:iO X.P et=some e:=by rw [gJ sI,hsz2]
 have aaJ:(execOp a.eval o1).run X.P w = .ok (.value (.pointer (some ⟨g,z.toNat * e,none⟩))) w:=by
  have cf:(Instr.indexAt t (.slice (some ⟨g,0,none⟩) m ml) (.int kd z)).run X.P w = .ok (.pointer (some ⟨g,z.toNat * e,none⟩)) w:=by
   simp [Instr.indexAt,asIntOf,run_underlying hu,hz.1,hz.2,aP oh,Addr.add_lit]
  simp only [execOp,h1.1,e1,e2,Sem.run_bind,cf,Result.andThen_ok,Sem.run_pure]
 refine gK aaJ ?_;rw [h1.2];have hr1:Rel X E ⟨(d1,⟨[],.pt [] 0⟩) :: st.sl,st.bx,st.tk⟩ (a.put (some d1) (.pointer (some ⟨g,z.toNat * e,none⟩))) w:=aZ h E5 (.pt [] 0) _ (by unfold Rv;exact ⟨g,z.toNat * e,rfl,by simp only [RvAt]⟩);generalize ha1:a.put (some d1) (.pointer (some ⟨g,z.toNat * e,none⟩))=a1 at hr1
 have ht1:a1.eval (.tmp d1) = .pointer (some ⟨g,z.toNat * e,none⟩):=by
  subst ha1;simp only [eL,Bool.and_eq_true,Nat.blt_eq] at E5;simp [Act.eval,Act.put,h.sz,E5.1]
 show kq X (.ops all (o2 :: o3 :: r) :: k) .normal a1 w;simp only [kq,wpList,Region.wanted,h2.2.2,h3.2.2,if_true];refine .inl (gK (v:=.pointer (some ⟨g,z.toNat * e + off,none⟩)) (w':=w) ?_ ?_)
 ·simp only [execOp,h2.1,ht1,Sem.run_bind,jj (rm X.hT tE),Result.andThen_ok,Sem.run_pure]
 rw [h2.2.1];have lp:Rel X E ⟨(d2,⟨[],.pt [] 0⟩) :: (d1,⟨[],.pt [] 0⟩) :: st.sl,st.bx,st.tk⟩ (a1.put (some d2) (.pointer (some ⟨g,z.toNat * e + off,none⟩))) w:=aZ hr1 MA (.pt [] 0) _ (by unfold Rv;exact ⟨g,z.toNat * e + off,rfl,by simp only [RvAt]⟩);generalize Q0:a1.put (some d2) (.pointer (some ⟨g,z.toNat * e + off,none⟩))=a2 at lp
 have XK:a2.eval (.tmp d2) = .pointer (some ⟨g,z.toNat * e + off,none⟩):=by
  subst Q0;simp only [eL,Bool.and_eq_true,Nat.blt_eq] at MA;simp [Act.eval,Act.put,hr1.sz,MA.1]
 have e3:=aW lp.rl hx
 have hY:RvC E [dv] (a2.eval x).cells.toList:=by
  have:=e3.cells (ju (n:=1) (by rw [hdc];rfl) (by omega))
  rwa [hdc] at this
 have JK:(a2.eval x).cells.toList.length=1:=by rw [hY.1.length];all_goals rfl
 obtain ⟨xv,hxv⟩:∃ xv,(a2.eval x).cells.toList=[xv]:=by
  match hh:(a2.eval x).cells.toList,JK with
  | [y],_=>exact ⟨y,rfl⟩
 obtain ⟨h5,h6⟩:=Mk cs rfl;simp only at h5 h6 uU hw0 JL;have aaK:cur.toList.length=ml * e:=sU uU;have hme:m * e<=ml * e:=Nat.mul_le_mul_right _ JL
 have kx:z.toNat * e + off + 1<=m * e:=by
  have:(z.toNat + 1) * e<=m * e:=Nat.mul_le_mul_right _ (by omega);rw [Nat.add_mul] at this;omega
 have Yk:=lA (P:=X.P) (t:=ty) (off:=z.toNat * e + off) (n:=1) hw0 (HY X.hT bJ) JK (by rw [uU];omega) (List.all_eq_true.2 hY.2);refine .inl (Q1 (w':=World.cW w g (.cells ((cur.toList.take (z.toNat * e + off) ++ (a2.eval x).cells.toList ++ cur.toList.drop (z.toNat * e + off + 1)).toArray) Ua (0,0))) ?_ ?_)
 ·simp only [execOp,h3.1,XK,Instr.storeAt,Instr.sureAddr,Sem.run_bind,Sem.run_pure,Result.andThen_ok,Yk]
 rw [h3.2.1]
 have U3:cur.toList.take (z.toNat * e + off) ++ (a2.eval x).cells.toList ++ cur.toList.drop (z.toNat * e + off + 1)=cur.toList.set (z.toNat * e + off) xv:=by
  rw [hxv,List.set_eq_take_append_cons_drop,if_pos (by omega)];simp
 rw [U3]
 have hx1:RvC E.cl [dv'] [xv]:=by
  rw [hxv] at hY;have h7:=hY.1;simp only [RvL] at h7;obtain ⟨v,s',h8,h9,ru⟩:=h7;simp only [List.cons.injEq] at h8;obtain ⟨rfl,rfl⟩:=h8;exact ⟨rvL_cons (uS hdv h9) (by simp only [RvL]),hY.2⟩
 have Qz:Fc (World.cW w g (.cells (cur.toList.set (z.toNat * e + off) xv).toArray Ua (0,0))) E.c E.β ⟨m,Ua,e,some (cs.set (z.toNat * e + off) dv')⟩ (.slice (some ⟨g,0,none⟩) m ml):=by
  refine .inr ⟨g,ml,_,rfl,dE hw0,⟨by simpa using aaK,fun cs' Me=>?_⟩,JL,JN,gH,Ml⟩;simp only [oI] at Me;subst Me;simp only;refine ⟨by rw [List.length_set];exact h5,?_⟩;rw [List.take_set];have au:z.toNat * e + off < (cur.toList.take (m * e)).length:=by rw [List.length_take];omega
  rw [List.set_eq_take_append_cons_drop,if_pos (by omega),List.set_eq_take_append_cons_drop,if_pos au];have h8:=(RvC.take (z.toNat * e + off) h6).append (RvC.append hx1 (RvC.drop (z.toNat * e + off + 1) h6));simpa using h8
 have Mx:some g≠some g->False:=fun h=>h rfl
 obtain ⟨bY,hext⟩:=H4 (q':=⟨m,Ua,e,some (cs.set (z.toNat * e + off) dv')⟩) (w':=World.cW w g (.cells (cur.toList.set (z.toNat * e + off) xv).toArray Ua (0,0))) lp aU kJ hy rfl rfl rfl (.inl ⟨rfl,rfl⟩) Qz (.inl rfl) rfl rfl rfl (by rw [gv];exact Nat.le_refl _) (fun j _ aT=>cx (by
  rintro rfl
  exact aT rfl))
 exact go_sound 4000 _ _ hk _ _ _ bY
open Classical in
noncomputable def De (E:En) (w:World) (y:Value) (n:Nat):Addr->Option Value:=
 fun x=>if y.ownBlock=some x.block/\x.spot=none/\x.off < n then w.cell? x else E.c x
theorem jR {y:Value} {n:Nat} {x:Addr} {v:Value} (h:De E w y n x=some v):(y.ownBlock=some x.block/\x.spot=none/\x.off < n/\w.cell? x=some v)∨E.c x=some v:=by
 unfold De at h;split at h
 ·rename_i hc;exact .inl ⟨hc.1,hc.2.1,hc.2.2,h⟩
 ·exact .inr h
theorem RF (h:Rel X E st a w) {k n ty e:Nat} {cs:List DV} {ns:List (List DV)} (hq:st.tk[k]? = some ⟨n,ty,e,some cs⟩) (cG:cs=ns.flatten) (hns:∀ x∈ns,x.length=e) (fV:ns.length=n) :
  ∃ E',Rel X E' ⟨st.sl,st.bx,st.tk.set k ⟨n,ty,e,none⟩⟩ a w/\Ext E E' /\ ∀ es y,es.length=n->Rv E (.sl 0 es (some k)) y->Rv E' (.sl e ns (some k)) y:=by
 subst cG;have kJ:E.tk[k]? = some ⟨n,ty,e,some ns.flatten⟩:=by rw [h.tk];exact hq
 have gZ:=(gS kJ).1;have Yj:k < E.τ.length:=by rw [h.env.tl];exact gZ
 have hv:E.τ[k]? = some E.τ[k]:=gE Yj;generalize E.τ[k]=v at hv;have hot:=h.env.ct k _ v kJ hv
 have eV:∀ x u,E.c x=some u->De E w v (n * e) x=some u:=fun x u hx=>by
  unfold De;split
  ·exact h.env.sub x u hx
  ·exact hx
 have hext:Ext E ⟨De E w v (n * e),E.β,E.tk.set k ⟨n,ty,e,none⟩,E.τ⟩:=⟨eV,fun _ _ h=>h,fun j q NX=>by
  by_cases hj:j=k
  ·subst hj;rw [kJ] at NX;simp only [oI] at NX;subst NX;exact ⟨_,List.getElem?_set_self gZ,.inl ⟨rfl,rfl⟩⟩
  ·exact ⟨q,by rw [List.getElem?_set_ne (Ne.symm hj)];exact NX,.inl ⟨rfl,rfl⟩⟩⟩
 refine ⟨⟨De E w v (n * e),E.β,E.tk.set k ⟨n,ty,e,none⟩,E.τ⟩,dg h hext ?_ (by rw [h.tk]) ?_ h.fr h.sh h.bt,hext,?_⟩
 ·exact {
   len:=h.env.len
   tl:=by simp only [List.length_set];exact h.env.tl
   ek:=fun i cs hi=>by
    obtain ⟨b,t,arr,hb,hw,hc⟩:=h.env.ek i cs hi;exact ⟨b,t,arr,hb,hw,hc.mono hext⟩
   inj:=h.env.inj
   sub:=fun x u hx=>by
    rcases jR hx with ⟨_,_,_,h1⟩ | h1
    ·exact h1
    ·exact h.env.sub x u h1
   pc:=fun x u hx hm=>by
    rcases jR hx with ⟨h1,_⟩ | h1
    ·exact (iY hot h1).2 hm
    ·exact h.env.pc x u h1 hm
   ct:=fun j q y hj hy=>by
    by_cases U8:j=k
    ·subst U8;have iN:(E.tk.set j ⟨n,ty,e,none⟩)[j]? = some q:=hj;rw [List.getElem?_set_self gZ] at iN;have fG:E.τ[j]? = some y:=hy;rw [hv] at fG;simp only [oI] at iN fG;subst iN fG;rcases hot with ⟨h1,h2,_⟩ | ⟨g,cap,cur,rfl,h1,h2,h3,h4,h5,h6⟩
     ·exact .inl ⟨h1,h2,fun cs hc=>by cases hc⟩
     ·refine .inr ⟨g,cap,cur,rfl,h1,⟨h2.1,pK.none rfl⟩,h3,h4,h5,fun x u hx Fk=>?_⟩;rcases jR hx with ⟨_,_,h7,_⟩ | h7
      ·exact h7
      ·have:=h6 x u h7 Fk;simp only [TkE.kn] at this;omega
    ·have iN:E.tk[j]? = some q:=by
      have:(E.tk.set k ⟨n,ty,e,none⟩)[j]? = some q:=hj
      rwa [List.getElem?_set_ne (Ne.symm U8)] at this
     rcases h.env.ct j q y iN hy with h1 | ⟨g,cap,cur,rfl,h1,h2,h3,h4,h5,h6⟩
     ·exact .inl h1
     ·refine .inr ⟨g,cap,cur,rfl,h1,⟨h2.1,h2.2.mono eV⟩,h3,h4,h5,fun x u hx Fk=>?_⟩;rcases jR hx with ⟨h7,_⟩ | h7
      ·exact (h.env.iW j k _ v g U8 hy hv rfl (by rw [h7,Fk])).elim
      ·exact h6 x u h7 Fk
   iW:=h.env.iW }
 ·exact {
   c:=fun x u hx=>eV x u (h.nw.c x u hx)
   cn:=fun x u hx=>by
    rcases jR hx with ⟨h1,_⟩ | h1
    ·rcases h.nw.own hv h1 with h2 | h2
     ·exact .inr (.inr h2)
     ·exact .inr (.inl h2)
    ·exact h.nw.cn x u h1
   β:=h.nw.β
   tk:=fun j q0 y0 rr Cj=>by
    obtain ⟨q1,y1,h1,h2,h3,h4,h5,h6⟩:=h.nw.tk j q0 y0 rr Cj;by_cases hj:j=k
    ·subst hj;rw [kJ] at h1;simp only [oI] at h1;subst h1;exact ⟨_,y1,List.getElem?_set_self gZ,h2,h3,h4,h5,h6⟩
    ·exact ⟨q1,y1,by rw [List.getElem?_set_ne (Ne.symm hj)];exact h1,h2,h3,h4,h5,h6⟩
   tn:=fun j y g hj hy=>h.nw.tn j y g hj hy
   l0:=h.nw.l0 }
 ·intro es y jk hy;unfold Rv at hy ⊢;obtain ⟨b,m,cap,rfl,⟨rfl,hmc⟩,hr,aU⟩:=hy;obtain ⟨q',lE,_,hτ⟩:=aU k rfl;rw [kJ] at lE;simp only [oI] at lE;subst lE;have hy:=hτ jk;rw [hv] at hy;simp only [oI] at hy;subst hy;refine ⟨b,es.length,cap,rfl,⟨by omega,hmc⟩,fun aT=>?_,fun k' fF=>?_⟩
  ·rcases hot with ⟨h1,h2,h3⟩ | ⟨g,Yh,cur,h0,h1,h2,h3,h4,h5,h6⟩
   ·simp only at h2;exact (aT (List.eq_nil_of_length_eq_zero (by omega))).elim
   ·injection h0 with i1 i2 i3
    subst i1;refine ⟨rfl,?_⟩;obtain ⟨h7,h8⟩:=h2.2 _ rfl;refine rvEs_flat (h8.mono (E:=⟨E.c,[],[],[]⟩) ⟨eV,fun _ _ h=>by simp at h,fun _ _ h=>by simp at h⟩) hns fun j u hj=>?_;rw [List.getElem?_take] at hj;split at hj
    ·rename_i oM;show De E w _ (n * e) _=_;unfold De;rw [if_pos ⟨rfl,rfl,by simpa [ao] using oM⟩];simp only [ab,ao,Nat.zero_add];rw [cy h1];simpa using hj
    ·cases hj
  ·cases fF;exact ⟨_,List.getElem?_set_self gZ,by simp only;omega,fun _=>hv⟩
theorem V3 {j o k n ty e:Nat} {LY:List DV} {es ns:List (List DV)} (hq:st.tk[k]? = some ⟨n,ty,e,some ns.flatten⟩) (hns:∀ x∈ns,x.length=e) (fV:ns.length=n) (hj:st.bx[j]? = some LY) (ho:LY[o]? = some (.sl 0 es (some k))) (jk:es.length=n) :
  Wk X st ⟨st.sl,st.bx.set j (LY.set o (.sl e ns none)),st.tk.set k ⟨n,ty,e,none⟩⟩:=by
 intro E a w h;obtain ⟨E',hr,hx,ry⟩:=RF h hq rfl hns fV;refine ⟨E',{ hr with env:=?_ }⟩
 exact { hr.env with
  len:=by simp only [List.length_set];exact hr.env.len
  ek:=fun i cs' hi=>by
   by_cases lu:i=j
   ·subst lu;have au:=(gS hj).1;have dF:(st.bx.set i (LY.set o (.sl e ns none)))[i]? = some cs':=hi;rw [List.getElem?_set_self au] at dF;simp only [oI] at dF;subst dF;obtain ⟨b,t,arr,hb,hw,hc⟩:=hr.env.ek i LY hj;obtain ⟨b0,t0,Fm,gH,hw0,Ml⟩:=h.env.ek i LY hj;have eN:=hx.β i b0 gH;rw [hb] at eN;simp only [oI] at eN;subst eN;rw [hw] at hw0;simp only [oI,Obj.cells.injEq] at hw0
    have Nc:arr=Fm:=by
     have:=hw0.1;simpa using this
    subst Nc;refine ⟨b,t,arr,hb,hw,?_,hc.2⟩;obtain ⟨v,pB,JH⟩:=Ml.1.get ho;have Iy:=ry es v jk JH;have kK:=(gS ho).1;have QC:arr.length=LY.length:=hc.1.length
    have h1:=(RvL.take o hc.1).append (rvL_cons (d:=.sl e ns none) (v:=v) (by
     unfold Rv at Iy ⊢;obtain ⟨b,n,cap,g1,g2,g3,_⟩:=Iy
     exact ⟨b,n,cap,g1,g2,g3,fun k hk=>by cases hk⟩) (RvL.drop (o + 1) hc.1))
    rw [List.set_eq_take_append_cons_drop,if_pos kK]
    have h2:arr.take o ++ v :: arr.drop (o + 1)=arr:=by
     have hoa:o < arr.length:=by omega
     have:arr[o]=v:=by
      rw [gE hoa] at pB;simpa using pB
     rw [<- this];simp
    rwa [h2] at h1
   ·have dF:(st.bx.set j (LY.set o (.sl e ns none)))[i]? = some cs':=hi;rw [List.getElem?_set_ne (Ne.symm lu)] at dF
    exact hr.env.ek i cs' dF }
theorem Wk.FB (i j:Nat) (S S':St) (he:S'=fh i j S) (LQ:Nat.ble X.n0 i=true) (BZ:Nat.ble X.n0 j=true) (hi:Nat.blt i S.bx.length=true) (hj:Nat.blt j S.bx.length=true) (hX:X.bt=[]:=by exact rfl):Wk X S' S:=fun E a w h=>by
 subst he;simp only [Nat.blt_eq] at hi hj;exact Ii hX h (nL LQ) (nL BZ) hi hj
theorem NY {c:Code} (I:Nat->St->Prop) (j0:Nat) (kP:St) (hw:Wk X st kP) (h0:I j0 kP)
  (hr:∀ j s,I j s->go X 4000 (.code c :: .Cd (fun s'=>∃ Mt,Wk X s' Mt /\ ∃ j',j' < j/\I j' Mt) :: k) s):sD X c k st:=by
 intro E a w h;obtain ⟨E0,hr0⟩:=hw _ _ _ h
 classical
 let Inv:Act->World->Prop:=fun a w=>∃ j s E,Rel X E s a w/\I j s
 let μ:Act->World->Nat:=fun a w=>if hI:Inv a w then Classical.choose (least hI) else 0
 refine wp_loop Inv μ ⟨j0,kP,E0,hr0,h0⟩ ?_;intro a1 w1 hI;have yJ:=(Classical.choose_spec (least hI)).1;obtain ⟨s,E1,bY,hIs⟩:=yJ;have hs:=go_sound 4000 _ _ (hr _ s hIs) E1 a1 w1 bY;rw [ff] at hs;refine wp_mono hs ?_;intro e a2 w2 hq
 cases e with
 | normal=>
  obtain ⟨s',E2,Ct,Mt,Mu,j',iN,Yz⟩:=hq;obtain ⟨E3,Cu⟩:=Mu _ _ _ Ct;have U9:Inv a2 w2:=⟨j',Mt,E3,Cu,Yz⟩;refine ⟨U9,?_⟩;simp only [μ,dif_pos hI,dif_pos U9];exact Nat.lt_of_le_of_lt ((Classical.choose_spec (least U9)).2 j' ⟨Mt,E3,Cu,Yz⟩) iN
 | exit id=>exact hq
 | goto l=>exact hq
 | ret=>exact hq
 | panic c=>exact hq
 | outgrown=>exact hq
mutual
def flatD:DV->Bool
 | .v _=>true
 | .agg l=>flatL l
 | .tup l=>flatL l
 | _=>false
def flatL:List DV->Bool
 | []=>true
 | d :: r=>flatD d && flatL r
end
mutual
theorem Rv.flat {E E':En}:∀ {d:DV} {v:Value},flatD d=true->Rv E d v->Rv E' d v
 | .v x,v,_,h=>by unfold Rv at h ⊢;exact h
 | .agg l,v,hf,h=>by
  simp only [flatD] at hf;simp only [Rv] at h ⊢;obtain ⟨vs,h1,h2,h3⟩:=h;exact ⟨vs,h1,RvL.flat hf h2,h3⟩
 | .tup l,v,hf,h=>by
  simp only [flatD] at hf;simp only [Rv] at h ⊢;obtain ⟨vs,h1,h2⟩:=h;exact ⟨vs,h1,RvL.flat hf h2⟩
 | .ud,_,hf,_=>by simp [flatD] at hf
 | .sl _ _ _,_,hf,_=>by simp [flatD] at hf
 | .pt _ _,_,hf,_=>by simp [flatD] at hf
 | .loc _ _,_,hf,_=>by simp [flatD] at hf
 | .el _ _,_,hf,_=>by simp [flatD] at hf
 | .ms _ _ _ _ _,_,hf,_=>by simp [flatD] at hf
 | .fn _ _ _,_,hf,_=>by simp [flatD] at hf
 | .pI _ _,_,hf,_=>by simp [flatD] at hf
theorem RvL.flat {E E':En}:∀ {l:List DV} {vs:List Value},flatL l=true->RvL E l vs->RvL E' l vs
 | [],vs,_,h=>by simpa only [RvL] using h
 | d :: r,vs,hf,h=>by
  simp only [flatL,Bool.and_eq_true] at hf;simp only [RvL] at h ⊢;obtain ⟨v,s,h1,h2,h3⟩:=h;exact ⟨v,s,h1,Rv.flat hf.1 h2,RvL.flat hf.2 h3⟩
end
theorem IU {f:FuncId} {args bE:List DV} {d:Nat} {y:DV} (lx:Enters X.P f) (hc:EvP X.P f bE y) (ha:CcL st.bx 0 0 0 bE args) (hy:flatD y=true) (hd:eL X.nt st.sl (some d)=true)
  (hk:go X 4000 k ⟨(d,⟨[],y⟩) :: st.sl,st.bx,st.tk⟩) (aU:X.still=false:=by exact rfl):dx X f args (some d) k st:=by
 refine ⟨lx,aU,fun E a w vs h hv=>(jo h.env hc ha hv).mono ?_⟩;rintro e w' ⟨v,E2,rfl,hr,hm,_⟩;have hh:∀ i,i < w.heap.size->w'.heap[i]? = w.heap[i]?:=fun i hi=>hm.block i hi (fun h=>h);have bY:Rel X E st a w':=dg h (Ext.refl E) (h.env.ku hh) h.tk h.nw (h.fr.cj hm.os hm.tape hm.output hm.size fun i hi=>.inr (hh i hi)) (mh aU) (h.bt.ku fun b hb=>hh b (h.env.bc hb));exact go_sound 4000 _ _ hk E _ w' (aZ bY hd y v (Rv.flat hy hr))
theorem qp {D:Dr} {c:Bool} {i:Nat} {s0:List (Nat × Sl)} {f:FuncId} {args bE:List DV} {d:Nat} {y:DV} {r:List (Nat × Oper)} (lx:Enters X.P f) (hc:EvP X.P f bE y) (ha:CcL st.bx 0 0 0 bE args) (hy:flatD y=true) (hd:(eL X.nt st.sl (some d) && eL X.nt s0 (some d))=true)
  (hk:put2 s0 st (some d) true [] y (goD X D 3000 c r)) (aU:X.still=false:=by exact rfl):yM X D c i r f args (some d) s0 st:=by
 refine ⟨lx,fun hl E0 wr hD E a w vs h hv=>(jo h.rel.env hc ha hv).mono ?_⟩;rintro e w' ⟨v,E2,rfl,hr,hm,_⟩;have hh:∀ i,i < w.heap.size->w'.heap[i]? = w.heap[i]?:=fun i hi=>hm.block i hi (fun h=>h);have bY:Rel X E st a w':=dg h.rel (Ext.refl E) (h.rel.env.ku hh) h.rel.tk h.rel.nw (h.rel.fr.cj hm.os hm.tape hm.output hm.size fun i hi=>.inr (hh i hi)) (mh aU) (h.rel.bt.ku fun b hb=>hh b (h.rel.env.bc hb));have hs:bV none E w E w':=⟨Ext.refl E,⟨[],by simp⟩,fun j b hb _=>hh b (h.rel.env.bc (mG hb))⟩;have hC:=yN h hs bY (fun j hj=>by cases hj);refine ⟨v,rfl,fun _=>hC,?_⟩;have Cz:fq X ⟨D,E0,wr⟩ c E s0 st (a.put none v) w':=mL h hs bY (fun h1=>hC (h.cc h1)) (fun i x hx=>.inr ⟨hx,fun d hd=>by cases hd⟩) rfl;obtain ⟨s1,p8,om,er⟩:=iP Cz hd true [] y v (fun _ _ p hp=>by cases hp) (fun _=>Rv.flat hy hr) (fun _ _=>Rv.flat hy hr) (fun hn=>(hn (bh _)).elim) hk;exact eQ (D:=⟨D,E0,wr⟩) hD 3000 c r _ _ om hl E _ w' er
theorem dx.FB {S:St} {f:FuncId} {args bE:List DV} {dst:Option Nat} (i j:Nat) (hS:st=fh i j S) (ha:args=renL (swp i j) bE) (LQ:Nat.ble X.n0 i=true) (BZ:Nat.ble X.n0 j=true) (hi:Nat.blt i S.bx.length=true) (hj:Nat.blt j S.bx.length=true)
  (h:dx X f bE dst k S) (hX:X.bt=[]:=by exact rfl):dx X f args dst k st:=by
 subst hS ha;simp only [Nat.blt_eq] at hi hj;refine ⟨h.1,h.2.1,fun E a w vs hr hv=>?_⟩
 have hlen:E.β.length=S.bx.length:=by
  rw [hr.env.len];simp only [fh,cH,dj]
 exact h.2.2 _ a w vs (CB hX hr (nL LQ) (nL BZ) hi hj) (RvL.FB (by rw [hlen];exact hi) (by rw [hlen];exact hj) hv)
end
end Dv
end Go.Proofs.YtffhgcbfpidfiaaGreat
set_option maxRecDepth 100000
namespace Go.Proofs.YtffhgcbfpidfiaaGreat
open Go Go.RowKit Dv Go.Proofs.Tryz
def cZ (l:List Int):List DV:=l.map fun z=>DV.v (.int .i64 z)
def uo (af:List ByteArray) (tb lq:DV) (js:List Int):List DV:=.sl 1 (dM af) none :: tb :: lq :: cZ js
def oz:Option Nat->Int
 | none=>-1
 | some k=>(k:Int)
def Df (pb:Nat->Nat->Bool) (e:Nat):Option Nat->Bool
 | none=>true
 | some o=>pb e o
def bestA (jg:Nat->Bool) (pb:Nat->Nat->Bool):Nat->Option Nat
 | 0=>none
 | e + 1=>if jg e && Df pb e (bestA jg pb e) then some e else bestA jg pb e
def na (jg:Nat->Bool) (pb:Nat->Nat->Bool) (n:Nat):Option Nat:=
 match bestA jg pb n with
 | none=>none
 | some o=>if (List.range n).any (fun c=>jg c && !pb o c) then none else some o
theorem nb {jg:Nat->Bool} {pb:Nat->Nat->Bool}:∀ {e k:Nat},bestA jg pb e=some k->k < e
 | 0,k,h=>by cases h
 | e + 1,k,h=>by
  rw [bestA] at h;split at h
  ·simp only [oI] at h;omega
  ·have:=nb h;omega
theorem rR (af:List ByteArray) (tb:DV) (rows:List Nat) (js:List Int) (hr:ef rows) (a b:Nat) (ha:a < rows.length) (hb:b < rows.length) :
  EvP prog 130 [.v (.int .i64 a),.v (.int .i64 b),.pt [.pt (uo af tb (mq rows) js) 0] 0] (.v (.bool (aV rows a b))):=by
 have h1:=kQ rows hr a b;rw [qh ha hb] at h1;refine eG 13 [.tmp 5] func130 rfl ntmps130 rfl fun _ _ _ _=>?_;refine cP CF h1 ?_;exact (rfl:_=_)
theorem rS (af:List ByteArray) (tb:DV) (rows:List Nat) (js:List Int) (hr:ef rows) (a b:Nat) (ha:a < rows.length) (hb:b < rows.length) :
  EvP prog 132 [.v (.int .i64 a),.v (.int .i64 b),.pt [.pt (uo af tb (mq rows) js) 0] 0] (.v (.bool (aV rows b a))):=by
 have h1:=kQ rows hr b a;rw [qh hb ha] at h1;refine eG 13 [.tmp 5] func132 rfl ntmps132 rfl fun _ _ _ _=>?_;refine cP CF h1 ?_;exact (rfl:_=_)
abbrev Ub (L:List DV):DV:=.fn 130 [] [.pt [.pt L 0] 0]
abbrev Uc (L:List DV):DV:=.fn 132 [] [.pt [.pt L 0] 0]
theorem Ku (af:List ByteArray) (tb:DV) (rows:List Nat) (js:List Int) (hr:ef rows) (a b c:Nat) (ha:a < rows.length) (hb:b < rows.length) (hc:c < rows.length) :
  EvP prog 134 [.v (.int .i64 c),.pt [Ub (uo af tb (mq rows) js)] 0,.pt [.v (.int .i64 a)] 0,.pt [.v (.int .i64 b)] 0] (.v (.bool (aV rows a c && aV rows b c))):=by
 have h1:=rR af tb rows js hr a c ha hc;have h2:=rR af tb rows js hr b c hb hc;refine eG 16 [.tmp 5] func134 rfl ntmps134 rfl fun _ _ _ _=>?_;refine cP MN h1 ?_;refine br ?_ ?_<;>intro g
 ·have g:aV rows a c=true:=sU g;refine cP MN h2 ?_;refine (congrArg (fun b=>DV.v (.bool b)) ?_:_=_);simp [g,pickB]
 ·have g:aV rows a c=false:=sU g;refine (congrArg (fun b=>DV.v (.bool b)) ?_:_=_);simp [g,pickB]
theorem Kv (af:List ByteArray) (tb:DV) (rows:List Nat) (js:List Int) (hr:ef rows) (a b c:Nat) (ha:a < rows.length) (hb:b < rows.length) (hc:c < rows.length) :
  EvP prog 135 [.v (.int .i64 c),.pt [Uc (uo af tb (mq rows) js)] 0,.pt [.v (.int .i64 a)] 0,.pt [.v (.int .i64 b)] 0] (.v (.bool (aV rows c a && aV rows c b))):=by
 have h1:=rS af tb rows js hr a c ha hc;have h2:=rS af tb rows js hr b c hb hc;refine eG 16 [.tmp 5] func135 rfl ntmps135 rfl fun _ _ _ _=>?_;refine cP MO h1 ?_;refine br ?_ ?_<;>intro g
 ·have g:aV rows c a=true:=sU g;refine cP MO h2 ?_;refine (congrArg (fun b=>DV.v (.bool b)) ?_:_=_);simp [g,pickB]
 ·have g:aV rows c a=false:=sU g;refine (congrArg (fun b=>DV.v (.bool b)) ?_:_=_);simp [g,pickB]
abbrev o0 (L:List DV) (gi gb:Nat) (ci cb:List DV) (n:Nat) (o:Int) (e:Nat):St:=
 ⟨[(0,⟨[],.pt L 0⟩),(1,⟨[],.fn gi [] ci⟩),(2,⟨[],.fn gb [] cb⟩),(7,⟨[],.v (.int .i64 o)⟩),(14,⟨[],.v (.int .i64 n)⟩),(15,⟨[],.v (.int .i64 e)⟩)],[],[]⟩
abbrev qq (L:List DV) (gi gb:Nat) (ci cb:List DV) (n:Nat) (o:Int) (e:Nat):St:=
 ⟨[(0,⟨[],.pt L 0⟩),(1,⟨[],.fn gi [] ci⟩),(2,⟨[],.fn gb [] cb⟩),(7,⟨[],.v (.int .i64 o)⟩),(37,⟨[],.v (.int .i64 n)⟩),(38,⟨[],.v (.int .i64 e)⟩)],[],[]⟩
theorem zi (af:List ByteArray) (tb lq:DV) (js:List Int) (gi gb:Nat) (hei:Enters prog gi) (heb:Enters prog gb) (ci cb:List DV) (jg:Nat->Bool) (pb:Nat->Nat->Bool)
  (aaL:CcL [] 0 0 0 ci ci) (aaM:CcL [] 0 0 0 cb cb) (hcli:clB.clL 0 0 ci=true) (hclb:clB.clL 0 0 cb=true) (hn:af.length<=64)
  (uf:∀ c:Nat,c < af.length->EvP prog gi (.v (.int .i64 c) :: ci) (.v (.bool (jg c))))
  (hpb:∀ a b:Nat,a < af.length->b < af.length->EvP prog gb (.v (.int .i64 a) :: .v (.int .i64 b) :: cb) (.v (.bool (pb a b)))) :
  EvP prog 133 [.pt (uo af tb lq js) 0,.fn gi [] ci,.fn gb [] cb] (.v (.int .i64 (oz (na jg pb af.length)))):=by
 have hN:=cg af;have A4:clB 0 0 (.fn gi [] ci)=true:=by simp only [clB,Bool.and_eq_true];exact ⟨rfl,hcli⟩
 have IV:clB 0 0 (.fn gb [] cb)=true:=by simp only [clB,Bool.and_eq_true];exact ⟨rfl,hclb⟩
 refine eG 57 [.tmp 6] func133 rfl ntmps133 rfl fun _ _ _ _=>?_;refine lJ (fun e=>o0 (uo af tb lq js) gi gb ci cb (dM af).length (oz (bestA jg pb e)) e) af.length (weak_mk ⟨_,rfl⟩ wA rfl rfl rfl (dm A4 IV)) ?_;intro e he;refine br ?_ ?_<;>intro hL
 ·have au:e < af.length:=by have:=hL;simp [hN] at this;exact this
  have hs:bestA jg pb (e + 1)=if jg e && Df pb e (bestA jg pb e) then some e else bestA jg pb e:=rfl
  refine cP hei (uf e au) ?_ ⟨_,_,rfl,rfl,aaL⟩
  cases hA:bestA jg pb e with
  | none=>
   rw [hA] at hs;refine br ?_ ?_<;>intro g
   ·have g:jg e=true:=by simpa [lastG] using g
    have hz:(e:Int)=oz (bestA jg pb (e + 1)):=by rw [hs,g];all_goals rfl
    exact rE ⟨_,by omega,e + 1,rfl,by omega,rfl⟩ (weak_mk ⟨_,rfl⟩ wA rfl rfl rfl (wB4 A4 IV (nxt au (by omega)) hz))
   ·have g:jg e=false:=by simpa [lastG] using g
    have hz:oz none=oz (bestA jg pb (e + 1)):=by rw [hs,g];all_goals rfl
    exact rE ⟨_,by omega,e + 1,rfl,by omega,rfl⟩ (weak_mk ⟨_,rfl⟩ wA rfl rfl rfl (wB4 A4 IV (nxt au (by omega)) hz))
  | some k=>
   rw [hA] at hs;have hk:=nb hA;refine br ?_ ?_<;>intro g
   ·have g:jg e=true:=by simpa [lastG] using g
    refine cP heb (hpb e k au (by omega)) ?_ ⟨_,_,rfl,rfl,_,_,rfl,rfl,aaM⟩;refine br ?_ ?_<;>intro g2
    ·have g2:pb e k=true:=by simpa [pickB,g,lastG] using g2
     have hz:(e:Int)=oz (bestA jg pb (e + 1)):=by rw [hs,g,Df,g2];all_goals rfl
     exact rE ⟨_,by omega,e + 1,rfl,by omega,rfl⟩ (weak_mk ⟨_,rfl⟩ wA rfl rfl rfl (wB4 A4 IV (nxt au (by omega)) hz))
    ·have g2:pb e k=false:=by simpa [pickB,g,lastG] using g2
     have hz:oz (some k)=oz (bestA jg pb (e + 1)):=by rw [hs,g,Df,g2];all_goals rfl
     exact rE ⟨_,by omega,e + 1,rfl,by omega,rfl⟩ (weak_mk ⟨_,rfl⟩ wA rfl rfl rfl (wB4 A4 IV (nxt au (by omega)) hz))
   ·have g:jg e=false:=by simpa [lastG] using g
    have hz:oz (some k)=oz (bestA jg pb (e + 1)):=by rw [hs,g];all_goals rfl
    exact rE ⟨_,by omega,e + 1,rfl,by omega,rfl⟩ (weak_mk ⟨_,rfl⟩ wA rfl rfl rfl (wB4 A4 IV (nxt au (by omega)) hz))
 ·have aN:e=af.length:=sW hN hL;subst aN;refine lI (fun j st=>∃ e:Nat,st=qq (uo af tb lq js) gi gb ci cb (dM af).length (oz (bestA jg pb af.length)) e/\e<=af.length/\(∀ o,bestA jg pb af.length=some o->∀ c,c < e->(jg c && !pb o c)=false)/\j=af.length - e) ⟨0,rfl,by omega,fun _ _ c hc=>by omega,rfl⟩ (weak_mk ⟨_,rfl⟩ wA rfl rfl rfl (dm A4 IV)) ?_;rintro j st ⟨e,rfl,he,eS,rfl⟩;refine br ?_ ?_<;>intro hL
  ·have au:e < af.length:=by have:=hL;simp [hN] at this;exact this
   cases hA:bestA jg pb af.length with
   | none=>
    exact ⟨qq (uo af tb lq js) gi gb ci cb (dM af).length (oz none) (e + 1),(weak_mk ⟨_,rfl⟩ wA rfl rfl rfl (wB3 A4 IV (nxt au (by omega)))),af.length - (e + 1),by omega,e + 1,rfl,by omega,(fun _ h=>by cases h),rfl⟩
   | some o=>
    have ho:=nb hA;have eS:=eS o hA;refine cP hei (uf e au) ?_ ⟨_,_,rfl,rfl,aaL⟩;refine br ?_ ?_<;>intro g
    ·have g:jg e=true:=by simpa [pickB] using g
     refine cP heb (hpb o e ho au) ?_ ⟨_,_,rfl,rfl,_,_,rfl,rfl,aaM⟩;refine br ?_ ?_<;>intro g2
     ·have g2:pb o e=false:=by simpa [pickB,g,lastG] using g2
      have:na jg pb af.length=none:=by
       rw [na,hA];simp only;rw [if_pos];rw [List.any_eq_true];exact ⟨e,by simpa using au,by simp [g,g2]⟩
      rw [this];exact (rfl:_=_)
     ·have g2:pb o e=true:=by simpa [pickB,g,lastG] using g2
      exact rE ⟨_,by omega,e + 1,rfl,by omega,fun o' Ar c hc=>by
       cases Ar;rcases Nat.lt_succ_iff_lt_or_eq.1 hc with hc | rfl
       ·exact eS c hc
       ·simp [g2],rfl⟩ (weak_mk ⟨_,rfl⟩ wA rfl rfl rfl (wB3 A4 IV (nxt au (by omega))))
    ·have g:jg e=false:=by simpa [pickB] using g
     exact rE ⟨_,by omega,e + 1,rfl,by omega,fun o' Ar c hc=>by
       cases Ar;rcases Nat.lt_succ_iff_lt_or_eq.1 hc with hc | rfl
       ·exact eS c hc
       ·simp [g],rfl⟩ (weak_mk ⟨_,rfl⟩ wA rfl rfl rfl (wB3 A4 IV (nxt au (by omega))))
  ·have aN:e=af.length:=sW hN hL;subst aN
   have:na jg pb af.length=bestA jg pb af.length:=by
    cases hA:bestA jg pb af.length with
    | none=>rw [na,hA]
    | some o=>
     rw [na,hA];simp only;rw [if_neg];rw [List.any_eq_true];rintro ⟨c,hc,h2⟩;rw [eS o hA c (sU hc)] at h2;cases h2
   rw [this];exact (rfl:_=_)
theorem rT (js:List Int) (bx:List (List DV)) (N n m:Nat):CcL bx N n m (cZ js) (cZ js):=by
 induction js with
 | nil=>exact rfl
 | cons z r ih=>exact ⟨_,_,rfl,rfl,ih⟩
theorem gU {n m:Nat} {tk:List TkE} (js:List Int):WeL n m tk (cZ js) (cZ js):=vJ _ fun x hx=>by
 obtain ⟨z,_,rfl⟩:=List.mem_map.1 hx;exact ⟨_,rfl⟩
theorem V4 (f:Nat->Nat) (js:List Int):renL f (cZ js)=cZ js:=by
 induction js with
 | nil=>rfl
 | cons z r ih=>simp only [cZ,List.map_cons,renL,renD] at ih ⊢;rw [ih]
theorem V5 (js:List Int):(cZ js).length=js.length:=by simp [cZ]
theorem NZ (js:List Int) (i:Nat) (z:Int):(cZ js).set i (.v (.int .i64 z))=cZ (js.set i z):=by simp [cZ,List.map_set]
abbrev ia (af:List ByteArray) (tc:List DV) (rows:List Nat) (js:List Int):List DV:=uo af (.pt tc 0) (mq rows) js
theorem RG (af:List ByteArray) (tc:List DV) (rows:List Nat) (js:List Int):(ia af tc rows js).length=js.length + 3:=by simp [uo,cZ]
theorem uq {af:List ByteArray} {tc:List DV} {rows:List Nat} {js:List Int} {i k:Nat} {z:Int} (h:k=i + 3):(ia af tc rows js).set k (.v (.int .i64 z))=ia af tc rows (js.set i z):=by
 subst h;simp only [uo,List.set_cons_succ,NZ]
theorem RH (f:Nat->Nat) (af:List ByteArray) (tc:List DV) (rows:List Nat) (js:List Int):renL f (ia af tc rows js)=ia af tc rows js:=by
 simp only [uo,renL,V4];rfl
theorem IW {n m:Nat} {tk:List TkE} {l:List DV} {af:List ByteArray} {tc:List DV} {rows:List Nat} {js:List Int} (h:l=ia af tc rows js):WeL n m tk l (ia af tc rows js):=by
 subst h;exact ⟨_,_,rfl,ah rfl,_,_,rfl,ah rfl,_,_,rfl,ah rfl,gU js⟩
def eW (f:Nat->Nat->Bool) (n a b:Nat):Option Nat:=na (fun c=>f a c && f b c) f n
def iT (f:Nat->Nat->Bool) (n a b:Nat):Option Nat:=na (fun c=>f c a && f c b) (fun x y=>f y x) n
theorem vV (f:Nat->Nat->Bool) (n a b:Nat):eW f n a b=eW f n b a:=by
 unfold eW;congr 1;funext c;exact Bool.and_comm _ _
theorem vW (f:Nat->Nat->Bool) (n a b:Nat):iT f n a b=iT f n b a:=by
 unfold iT;congr 1;funext c;exact Bool.and_comm _ _
def kU (f:Nat->Nat->Bool) (n a b:Nat):Bool:=(eW f n a b).isNone || (iT f n a b).isNone
def nc (f:Nat->Nat->Bool) (n b:Nat):Bool:=(List.range (b + 1)).any fun a=>kU f n a b
def JM (f:Nat->Nat->Bool) (n:Nat) (js:List Int) (a b:Nat):Prop:=js[a * 32 + b]? = some (oz (eW f n a b))/\js[1024 + (a * 32 + b)]? = some (oz (iT f n a b))
def yi (js:List Int) (a b:Nat) (j m:Int):List Int:=(((js.set (a * 32 + b) j).set (b * 32 + a) j).set (1024 + (a * 32 + b)) m).set (1024 + (b * 32 + a)) m
theorem N1 (js:List Int) (a b:Nat) (j m:Int):(yi js a b j m).length=js.length:=by simp [yi]
theorem cC {js:List Int} {i k:Nat} {z:Int} (h:k≠i):(js.set k z)[i]? = js[i]?:=List.getElem?_set_ne h
theorem qu {f:Nat->Nat->Bool} {n:Nat} {js:List Int} (hl:js.length=2048) {a b:Nat} (ha:a < 32) (hb:b < 32) {x y:Nat} (hx:x < 32) (hy:y < 32)
  (h:JM f n js x y∨(x=a/\y=b)∨(x=b/\y=a)):JM f n (yi js a b (oz (eW f n a b)) (oz (iT f n a b))) x y:=by
 have key:(x=a/\y=b)∨(x=b/\y=a)∨(JM f n js x y/\¬ (x=a/\y=b)/\¬ (x=b/\y=a)):=by
  by_cases h1:x=a/\y=b
  ·exact .inl h1
  ·by_cases h2:x=b/\y=a
   ·exact .inr (.inl h2)
   ·rcases h with h | h | h
    ·exact .inr (.inr ⟨h,h1,h2⟩)
    ·exact (h1 h).elim
    ·exact (h2 h).elim
 rcases key with ⟨rfl,rfl⟩ | ⟨rfl,rfl⟩ | ⟨h,h1,h2⟩
 ·unfold JM yi;refine ⟨?_,?_⟩
  ·rw [cC (by omega),cC (by omega)];by_cases Fz:x=y
   ·subst Fz;rw [List.getElem?_set_self (by simp;omega)]
   ·rw [cC (by omega),List.getElem?_set_self (by omega)]
  ·by_cases Fz:x=y
   ·subst Fz;rw [List.getElem?_set_self (by simp;omega)]
   ·rw [cC (by omega),List.getElem?_set_self (by simp;omega)]
 ·unfold JM yi;rw [vV f n x y,vW f n x y];refine ⟨?_,?_⟩
  ·rw [cC (by omega),cC (by omega),List.getElem?_set_self (by simp;omega)]
  ·rw [List.getElem?_set_self (by simp;omega)]
 ·unfold JM yi;have g1:a * 32 + b≠x * 32 + y:=fun he=>h1 ⟨by omega,by omega⟩;have g2:b * 32 + a≠x * 32 + y:=fun he=>h2 ⟨by omega,by omega⟩;refine ⟨?_,?_⟩
  ·rw [cC (by omega),cC (by omega),cC g2,cC g1];exact h.1
  ·rw [cC (by omega),cC (by omega),cC (by omega),cC (by omega)];exact h.2
abbrev N2 (af:List ByteArray) (tc:List DV) (rows:List Nat) (js:List Int) (e:Nat):St:=
 ⟨[(1,⟨[],.loc 1 0⟩),(3,⟨[],.loc 2 0⟩),(4,⟨[],.loc 3 0⟩),(15,⟨[],.v (.int .i64 (dM af).length)⟩),(16,⟨[],.v (.int .i64 e)⟩)],
  [ia af tc rows js,[.loc 0 0],[.fn 130 [] [.loc 1 0]],[.fn 132 [] [.loc 1 0]]],[]⟩
abbrev F7 (af:List ByteArray) (tc:List DV) (rows:List Nat) (js:List Int) (e f:Nat):St:=
 ⟨[(1,⟨[],.loc 1 0⟩),(3,⟨[],.loc 2 0⟩),(4,⟨[],.loc 3 0⟩),(15,⟨[],.v (.int .i64 (dM af).length)⟩),(16,⟨[],.v (.int .i64 e)⟩),(5,⟨[],.loc 4 0⟩),(6,⟨[],.loc 5 0⟩)],
  [ia af tc rows js,[.loc 0 0],[.fn 130 [] [.loc 1 0]],[.fn 132 [] [.loc 1 0]],[.v (.int .i64 e)],[.v (.int .i64 f)]],[]⟩
abbrev N3 (af:List ByteArray) (tc:List DV) (rows:List Nat) (js:List Int) (e f:Nat):St:=
 ⟨[(1,⟨[],.loc 1 0⟩),(3,⟨[],.loc 2 0⟩),(4,⟨[],.loc 3 0⟩),(15,⟨[],.v (.int .i64 (dM af).length)⟩),(16,⟨[],.v (.int .i64 e)⟩),(5,⟨[],.loc 4 0⟩),(6,⟨[],.loc 6 0⟩)],
  [ia af tc rows js,[.loc 0 0],[.fn 130 [] [.loc 1 0]],[.fn 132 [] [.loc 1 0]],[.v (.int .i64 e)],[.v (.int .i64 f)],[.v (.int .i64 (f + 1:Nat))]],[]⟩
abbrev N4 (af:List ByteArray) (tc:List DV) (rows:List Nat) (js:List Int) (e f:Nat):St:=
 ⟨[(1,⟨[],.loc 1 0⟩),(3,⟨[],.loc 2 0⟩),(4,⟨[],.loc 3 0⟩),(15,⟨[],.v (.int .i64 (dM af).length)⟩),(16,⟨[],.v (.int .i64 e)⟩),(5,⟨[],.loc 4 0⟩),(6,⟨[],.loc 5 0⟩)],
  [ia af tc rows js,[.loc 0 0],[.fn 130 [] [.loc 1 0]],[.fn 132 [] [.loc 1 0]],[.v (.int .i64 e)],[.v (.int .i64 (f + 1:Nat))],[.v (.int .i64 f)]],[]⟩
theorem RI (af:List ByteArray) (tc:List DV) (rows:List Nat) (js:List Int) (e f:Nat):N3 af tc rows js e f=fh 5 6 (N4 af tc rows js e f):=by
 simp only [fh,renO,RH];rfl
def BndΦ (af:List ByteArray) (tc:List DV) (rows:List Nat) (r:DV) (os:List (List DV)) (_:List TkE):Prop:=
 ∃ V6,os=[ia af tc rows V6]/\V6.length=2048/\r = .v (.int .i64 (oz (bR (nc (aV rows) af.length) af.length))) /\
  (bR (nc (aV rows) af.length) af.length=none->∀ x y,x < af.length->y < af.length->JM (aV rows) af.length V6 x y)
theorem Dg (af:List ByteArray) (tc:List DV) (rows:List Nat) (js:List Int) (hr:ef rows) (hlen:rows.length=af.length) (hn:af.length<=32) (hj:js.length=2048) :
  Ev prog 73 [.loc 0 0] [ia af tc rows js] [] (BndΦ af tc rows):=by
 have hN:=cg af;refine eG 73 [.tmp 2] func73 rfl ntmps73 rfl fun _ _ _ _=>?_;refine lI (fun j st=>∃ (e:Nat) (js:List Int),st=N2 af tc rows js e/\e<=af.length/\js.length=2048/\(∀ b,b < e->nc (aV rows) af.length b=false)/\(∀ x y,x < e->y < e->JM (aV rows) af.length js x y)/\j=af.length - e) ⟨0,js,rfl,by omega,hj,fun _ h=>by omega,fun _ _ h=>by omega,rfl⟩ (az 4 rfl wA0 rfl rfl rfl wB0) ?_;rintro j st ⟨e,js,rfl,he,hj,eS,ur,rfl⟩;refine br ?_ ?_<;>intro hL
 ·have au:e < af.length:=by have:=hL;simp [hN] at this;exact this
  refine NY (fun j st=>∃ (f:Nat) (js:List Int),st=F7 af tc rows js e f/\f<=e + 1/\js.length=2048/\(∀ a,a < f->kU (aV rows) af.length a e=false)/\(∀ x y,x < e->y < e->JM (aV rows) af.length js x y)/\(∀ x,x < f->JM (aV rows) af.length js x e/\JM (aV rows) af.length js e x)/\j=e + 1 - f) (e + 1) (F7 af tc rows js e 0) (.RE (az 6 rfl wA0 rfl rfl rfl wB0)) ⟨0,js,rfl,by omega,hj,fun _ h=>by omega,ur,fun _ h=>by omega,by omega⟩ ?_;clear ur hj;rintro j st ⟨f,js,rfl,hf,hj,Xw,ur,LZ,rfl⟩;refine br ?_ ?_<;>intro jS
  ·have LS:f<=e:=by have:=jS;simp at this;exact this
   have eN:=zi af (.pt tc 0) (mq rows) js 134 130 Zo MN
    [.pt [Ub (ia af tc rows js)] 0,.pt [.v (.int .i64 f)] 0,.pt [.v (.int .i64 e)] 0] [.pt [.pt (ia af tc rows js) 0] 0] (fun c=>aV rows f c && aV rows e c) (aV rows) ax ax rfl rfl (by omega)
    (fun c hc=>Ku af (.pt tc 0) rows js hr f e c (by omega) (by omega) (by omega)) (fun a b ha hb=>rR af (.pt tc 0) rows js hr a b (by omega) (by omega))
   have dQ:=zi af (.pt tc 0) (mq rows) js 135 132 Zp MO
    [.pt [Uc (ia af tc rows js)] 0,.pt [.v (.int .i64 f)] 0,.pt [.v (.int .i64 e)] 0] [.pt [.pt (ia af tc rows js) 0] 0] (fun c=>aV rows c f && aV rows c e) (fun x y=>aV rows y x) ax ax rfl rfl (by omega)
    (fun c hc=>Kv af (.pt tc 0) rows js hr f e c (by omega) (by omega) (by omega)) (fun a b ha hb=>rS af (.pt tc 0) rows js hr a b (by omega) (by omega))
   refine AE Tp eN (by repeat' (first | exact rfl | exact trivial | exact Or.inr (Or.inl ⟨_,rfl⟩) | exact Or.inr ⟨_,rfl⟩ | exact Or.inl ⟨rfl,rfl⟩ | exact Or.inl rfl | refine Or.inr ⟨_,_,rfl,Nat.zero_le _,rfl,?_⟩ | refine ⟨_,_,rfl,?_,?_⟩ | refine ⟨_,rfl,?_⟩ | exact rT _ _ _ _ _ | refine Or.inr (Or.inr (Or.inr ⟨_,_,rfl,?_⟩)) | exact Or.inl rfl | refine Or.inr ?_)) rfl ?_;refine AE Tp dQ (by repeat' (first | exact rfl | exact trivial | exact Or.inr (Or.inl ⟨_,rfl⟩) | exact Or.inr ⟨_,rfl⟩ | exact Or.inl ⟨rfl,rfl⟩ | exact Or.inl rfl | refine Or.inr ⟨_,_,rfl,Nat.zero_le _,rfl,?_⟩ | refine ⟨_,_,rfl,?_,?_⟩ | refine ⟨_,rfl,?_⟩ | exact rT _ _ _ _ _ | refine Or.inr (Or.inr (Or.inr ⟨_,_,rfl,?_⟩)) | exact Or.inl rfl | refine Or.inr ?_)) rfl ?_
   have IX:pickB (decide (oz (eW (aV rows) af.length f e) = -1)) true (decide (oz (iT (aV rows) af.length f e) = -1))=kU (aV rows) af.length f e:=by
    unfold kU
    cases eW (aV rows) af.length f e with
    | none=>rfl
    | some j=>
     have:decide (oz (some j) = -1)=false:=by simp [oz]
     rw [this]
     cases iT (aV rows) af.length f e with
     | none=>rfl
     | some m=>
      have:decide (oz (some m) = -1)=false:=by simp [oz]
      rw [this];rfl
   refine br ?_ ?_<;>intro g
   ·have g:kU (aV rows) af.length f e=true:=IX.symm.trans g
    have hb:nc (aV rows) af.length e=true:=by
     unfold nc;rw [List.any_eq_true];exact ⟨f,by simp;omega,g⟩
    have B0:=cF (p:=nc (aV rows) af.length) au hb eS;refine ⟨.v (.int .i64 e),[ia af tc rows js],ax,(by repeat' (first | exact rfl | exact trivial | exact Or.inr (Or.inl ⟨_,rfl⟩) | exact Or.inr ⟨_,rfl⟩ | exact Or.inl ⟨rfl,rfl⟩ | exact Or.inl rfl | refine Or.inr ⟨_,_,rfl,Nat.zero_le _,rfl,?_⟩ | refine ⟨_,_,rfl,?_,?_⟩ | refine ⟨_,rfl,?_⟩ | exact rT _ _ _ _ _ | refine Or.inr (Or.inr (Or.inr ⟨_,_,rfl,?_⟩)) | exact Or.inl rfl | refine Or.inr ?_)),js,rfl,hj,?_,fun h=>by rw [B0] at h;cases h⟩;rw [B0];rfl
   ·have g:kU (aV rows) af.length f e=false:=IX.symm.trans g;refine ue [0] (fun _=>false) mo (by decide +kernel) ?_;have cu:=RG af tc rows js;refine ⟨⟨by omega,by omega⟩,?_⟩;refine ⟨⟨by omega,by omega⟩,?_⟩;refine ⟨by rw [cu];omega,?_⟩;refine ⟨⟨by omega,by omega⟩,?_⟩;refine ⟨⟨by omega,by omega⟩,?_⟩;refine ⟨by rw [List.length_set,cu];omega,?_⟩;refine ue [0] (fun _=>false) mo (by decide +kernel) ?_;refine ⟨⟨by omega,by omega⟩,?_⟩;refine ⟨⟨by omega,by omega⟩,?_⟩;refine ⟨by rw [List.length_set,List.length_set,cu];omega,?_⟩;refine ⟨⟨by omega,by omega⟩,?_⟩;refine ⟨⟨by omega,by omega⟩,?_⟩;refine ⟨by rw [List.length_set,List.length_set,List.length_set,cu];omega,?_⟩
    have gH:((((ia af tc rows js).set (0 + 0 + 3 + (f:Int).toNat * 32 + (e:Int).toNat * 1) (DV.v (.int .i64 (oz (eW (aV rows) af.length f e))))).set (0 + 0 + 3 + (e:Int).toNat * 32 + (f:Int).toNat * 1) (DV.v (.int .i64 (oz (eW (aV rows) af.length f e))))).set (0 + 0 + 1027 + (f:Int).toNat * 32 + (e:Int).toNat * 1) (DV.v (.int .i64 (oz (iT (aV rows) af.length f e))))).set (0 + 0 + 1027 + (e:Int).toNat * 32 + (f:Int).toNat * 1) (DV.v (.int .i64 (oz (iT (aV rows) af.length f e))))=ia af tc rows (yi js f e (oz (eW (aV rows) af.length f e)) (oz (iT (aV rows) af.length f e))):=by
     rw [uq (i:=f * 32 + e) (by omega),uq (i:=e * 32 + f) (by omega),uq (i:=1024 + (f * 32 + e)) (by omega),uq (i:=1024 + (e * 32 + f)) (by omega)];rfl
    refine ⟨F7 af tc rows (yi js f e (oz (eW (aV rows) af.length f e)) (oz (iT (aV rows) af.length f e))) e (f + 1),
     .trans (.RE (s2:=N3 af tc rows (yi js f e (oz (eW (aV rows) af.length f e)) (oz (iT (aV rows) af.length f e))) e f) (az 7 rfl (by repeat' (first | exact rfl | exact ah rfl | exact IW gH | exact ai (nxt (n:=e + 1) (by omega) (by omega)) | refine ⟨_,_,rfl,?_,?_⟩)) rfl rfl rfl (by repeat' (first | exact trivial | exact ah rfl | exact IW gH | exact ai (nxt (n:=e + 1) (by omega) (by omega)) | refine ⟨⟨_,rfl,?_⟩,?_⟩))))
      (.trans (.FB 5 6 (N4 af tc rows (yi js f e (oz (eW (aV rows) af.length f e)) (oz (iT (aV rows) af.length f e))) e f) _ (RI _ _ _ _ _ _) rfl rfl rfl rfl) (.RE (az 6 rfl wA0 rfl rfl rfl wB0))),
     e + 1 - (f + 1),by omega,f + 1,_,rfl,by omega,by rw [N1];exact hj,fun a ha=>?_,fun x y hx hy=>?_,fun x hx=>?_,rfl⟩
    ·rcases Nat.lt_succ_iff_lt_or_eq.1 ha with ha | rfl
     ·exact Xw a ha
     ·exact g
    ·exact qu hj (by omega) (by omega) (by omega) (by omega) (.inl (ur x y hx hy))
    ·rcases Nat.lt_succ_iff_lt_or_eq.1 hx with hx | rfl
     ·exact ⟨qu hj (by omega) (by omega) (by omega) (by omega) (.inl (LZ x hx).1),qu hj (by omega) (by omega) (by omega) (by omega) (.inl (LZ x hx).2)⟩
     ·exact ⟨qu hj (by omega) (by omega) (by omega) (by omega) (.inr (.inl ⟨rfl,rfl⟩)),qu hj (by omega) (by omega) (by omega) (by omega) (.inr (.inr ⟨rfl,rfl⟩))⟩
  ·have LS:f=e + 1:=by have:=jS;simp at this;omega
   subst LS
   have hb:nc (aV rows) af.length e=false:=by
    unfold nc;rw [List.any_eq_false];intro a ha;rw [Xw a (sU ha)];decide
   refine ⟨N2 af tc rows js (e + 1),(az 4 rfl (wA1 (nxt au (by omega))) rfl rfl rfl (wB1 (nxt au (by omega)))),af.length - (e + 1),by omega,e + 1,js,rfl,by omega,hj,fun b dO=>?_,fun x y hx hy=>?_,rfl⟩
   ·rcases Nat.lt_succ_iff_lt_or_eq.1 dO with h | rfl
    ·exact eS b h
    ·exact hb
   ·rcases Nat.lt_succ_iff_lt_or_eq.1 hx with hx | rfl
    ·rcases Nat.lt_succ_iff_lt_or_eq.1 hy with hy | rfl
     ·exact ur x y hx hy
     ·exact (LZ x (by omega)).1
    ·exact (LZ y (by omega)).2
 ·have aN:e=af.length:=sW hN hL;subst aN;refine ⟨.v (.int .i64 (-1)),[ia af tc rows js],ax,(by repeat' (first | exact rfl | exact trivial | exact Or.inr (Or.inl ⟨_,rfl⟩) | exact Or.inr ⟨_,rfl⟩ | exact Or.inl ⟨rfl,rfl⟩ | exact Or.inl rfl | refine Or.inr ⟨_,_,rfl,Nat.zero_le _,rfl,?_⟩ | refine ⟨_,_,rfl,?_,?_⟩ | refine ⟨_,rfl,?_⟩ | exact rT _ _ _ _ _ | refine Or.inr (Or.inr (Or.inr ⟨_,_,rfl,?_⟩)) | exact Or.inl rfl | refine Or.inr ?_)),js,rfl,hj,?_,fun _=>ur⟩;rw [cL eS];rfl
def V7 (l:List Wd) (k:Nat):Int:=((l[k]?).getD (⟨aq,0⟩:Wd)).a
def latF (l:List Wd) (o:List (Wd × Wd)):Ft:=
 if (fK l o).1≠0 then fK l o
 else if (enumL l 0 l).1≠0 then enumL l 0 l
 else if (numF (ay l) o).1≠0 then numF (ay l) o
 else match bR (kf l.length (eO l.length (di (ay l) o))) l.length with
  | some a=>(11,V7 l a)
  | none=>
   match bR (nc (eO l.length (di (ay l) o)) l.length) l.length with
   | some b=>(12,V7 l b)
   | none=>(0,0)
def V8 (l:List Wd) (o:List (Wd × Wd)) (d:DV):Prop:=
 ∃ aE js,ie (ay l) aE/\aE.length<=l.length/\js.length=2048/\(∀ x y,x < l.length->y < l.length->JM (eO l.length (di (ay l) o)) l.length js x y) /\
  d = .pt (ia (ay l) (cJ (ay l) aE) (closeR (fb l.length (di (ay l) o)) l.length) js) 0
def F8 (l:List Wd) (o:List (Wd × Wd)) (r:DV) (_:List (List DV)) (_:List TkE):Prop:=
 if (latF l o).1≠0 then r = .tup [.v (.pointer none),(latF l o).d] else ∃ d,V8 l o d/\r = .tup [d,(latF l o).d]
theorem nX {L:List ByteArray}:∀ {o:List (Wd × Wd)},(numF L o).1=0->rN L.length (di L o)
 | [],_=>by intro p hp;simp [di] at hp
 | q :: r,h=>by
  rw [numF] at h;split at h
  ·cases h
  ·rename_i h1;split at h
   ·cases h
   ·rename_i h2;have ih:=nX (o:=r) h;intro p hp;simp only [di,List.map_cons,List.mem_cons] at hp;rcases hp with rfl | hp
    ·obtain ⟨a,ha⟩:=Option.ne_none_iff_exists'.1 h1;obtain ⟨b,hb⟩:=Option.ne_none_iff_exists'.1 h2;simp only [VZ,ha,hb,Option.getD_some];exact ⟨(cR ha).1,(cR hb).1⟩
    ·exact ih p hp
theorem dq (l:List Wd):(ay l).length=l.length:=by simp [ay]
theorem vX {all:List Wd}:∀ {l:List Wd} {i:Nat},(enumL all i l).1=0->enumL all i l=(0,0)
 | [],_,_=>rfl
 | x :: r,i,h=>by
  rw [enumL] at h ⊢;split at h
  ·rename_i h1;exact (h1 h).elim
  ·rename_i h1;rw [if_neg h1];exact vX h
theorem zj {L:List ByteArray}:∀ {o:List (Wd × Wd)},(numF L o).1=0->numF L o=(0,0)
 | [],_=>rfl
 | q :: r,h=>by
  rw [numF] at h ⊢;split at h
  ·cases h
  ·rename_i h1;split at h
   ·cases h
   ·rename_i h2;rw [if_neg h1,if_neg h2];exact zj h
theorem kg {l:List Wd} {k:Nat} {w:Wd} (h:l[k]? = some w):V7 l k=w.a:=by simp [V7,h]
theorem V9 (n:Nat):vL (List.replicate n (.int .i64 0))=cZ (List.replicate n 0):=by
 induction n with
 | zero=>rfl
 | succ n ih=>simp only [List.replicate_succ,vL,cZ,List.map_cons] at ih ⊢;rw [ih]
theorem nd {l:List Wd} {o:List (Wd × Wd)} {f:Ft} {os:List (List DV)} {tk:List TkE} (h:latF l o=f) (hf:f.1≠0):F8 l o (.tup [.v (.pointer none),f.d]) os tk:=by
 unfold F8;rw [h,if_pos hf]
theorem RJ {l:List Wd} {o:List (Wd × Wd)} {d:DV} {os:List (List DV)} {tk:List TkE} (h:latF l o=(0,0)) (hd:V8 l o d):F8 l o (.tup [d,Ft.d (0,0)]) os tk:=by
 unfold F8;rw [h,if_neg (by simp)];exact ⟨d,hd,rfl⟩
theorem RK (n m:Nat) (af:List ByteArray) (tc:List DV) (rows:List Nat) (js:List Int):clB.clL n m (ia af tc rows js)=true:=by
 have h:∀ l:List Int,clB.clL n m (cZ l)=true:=by
  intro l
  induction l with
  | nil=>rfl
  | cons z r ih=>simp only [cZ,List.map_cons,clB.clL,clB,Bool.true_and] at ih ⊢;exact ih
 simp only [uo,clB.clL,clB,h,mq,Bool.and_self]
theorem Dh (l:List Wd) (o:List (Wd × Wd)) (hs:wdsWt l<=1099511627776) (tD:prsWt o<=1099511627776) :
  Ev prog 26 [.sl 2 (bG l) none,.sl 4 (mn o) none] [] [] (F8 l o):=by
 have mF:=bw l;have Mx:=iA o;have fV:=dq l;have hF:=latF.eq_1 l o;refine eG 86 [.tmp 4,.cell 5 41] func26 rfl ntmps26 rfl fun _ _ _ _=>?_;refine cP en66 (Ks l o) ?_;by_cases hm:(fK l o).1≠0
 ·rw [if_pos hm] at hF;refine br ?_ ?_<;>intro h
  ·refine dS ?_;exact ⟨_,ax,nd (os:=[]) (tk:=[]) hF hm⟩
  ·exfalso;simp at h;exact hm h
 rw [if_neg hm] at hF;refine br (fun h=>?_) (fun _=>?_)
 ·exfalso;simp at h;exact hm h
 have FC:l ≠ []:=by
  rintro rfl;simp [fK] at hm
 have hl32:l.length<=32:=by
  rcases Nat.lt_or_ge 32 l.length with h | h
  ·simp [fK,FC,h] at hm
  ·exact h
 have tH:=Dc l hs;unfold aaB at tH;by_cases hE:(enumL l 0 l).1≠0
 ·rw [if_neg hE] at tH;rw [if_pos hE] at hF;refine cP Y1 tH ?_;refine br ?_ ?_<;>intro h
  ·refine dS ?_;exact ⟨_,ax,nd (os:=[]) (tk:=[]) hF hE⟩
  ·exfalso;simp at h;exact hE h
 rw [if_neg hE] at hF;have hE:(enumL l 0 l).1=0:=sU hE;rw [if_pos hE] at tH;rw [vX hE] at tH;refine cP Y1 tH ?_;refine bL VA rfl (vj (ay l) (by omega)) ax (fun r hr=>?_);obtain ⟨aE,hT,kK,rfl⟩:=hr;have yj:=yh (ay l) aE hT (by omega) o tD;unfold aaC at yj;by_cases hN:(numF (ay l) o).1≠0
 ·rw [if_neg hN] at yj;rw [if_pos hN] at hF;refine cP Y2 yj ?_;refine br ?_ ?_<;>intro h
  ·refine dS ?_;exact ⟨_,ax,nd (os:=[]) (tk:=[]) hF hN⟩
  ·exfalso;simp at h;exact hN h
 rw [if_neg hN] at hF;have hN:(numF (ay l) o).1=0:=sU hN;rw [if_pos hN] at yj;rw [zj hN] at yj;have hP:=nX hN;rw [fV] at hP;have hPl:(di (ay l) o).length=o.length:=by simp [di]
 generalize hPP:di (ay l) o=P at yj hF hP hPl;refine cP Y2 yj ?_;have hLn:(dM (ay l)).length=l.length:=by rw [cg,fV]
 have hPb:P.length<=1099511627776:=by omega
 have hro:=AX (n:=l.length) (by omega) P hP;have gG:=jP l.length P;have hr0:fb l.length P ≠ []:=fun h=>FC (List.eq_nil_of_length_eq_zero (by rw [<- gG,h];rfl));refine cP en70 (Kk l.length (by omega) P hP hPb) ?_ (wC1 hLn);have hlo:=F3 _ hro hr0;rw [gG,RA (by omega) hP] at hlo
 cases hA:bR (kf l.length (eO l.length P)) l.length with
 | some a=>
  rw [hA] at hlo hF;simp only at hF;have QC:=(dJ hA).1;obtain ⟨w,hw⟩:∃ w,l[a]? = some w:=⟨_,gE QC⟩;rw [kg hw] at hF;refine cP Y3 hlo ?_;refine dS ?_;refine ⟨jN w,⟨by omega,aS hw⟩,?_⟩;exact ⟨_,ax,nd (os:=[]) (tk:=[]) hF (by simp)⟩
 | none=>
 rw [hA] at hlo hF;simp only at hF;refine cP Y3 hlo ?_;have hY:=abJ _ hro hr0;rw [gG] at hY;have hcok:=kR hro l.length (by omega);have aaN:=fl (fb l.length P) l.length;rw [gG] at aaN;refine cP Y4 hY ?_;have hrep:(List.replicate 2048 (0:Int)).length=2048:=List.length_replicate
 have cG:CcL [] 0 0 0 (ia (ay l) (cJ (ay l) aE) (closeR (fb l.length P) l.length) (List.replicate 2048 0)) (.sl 1 (dM (ay l)) none :: .pt (cJ (ay l) aE) 0 :: mq (closeR (fb l.length P) l.length) :: vL (List.replicate 2048 (.int .i64 0))):=by
  refine ⟨_,_,rfl,Or.inr (Or.inl ⟨_,rfl⟩),_,_,rfl,Or.inl rfl,_,_,rfl,Or.inl rfl,?_⟩;rw [V9];exact rT _ _ _ _ _
 have hbn:=Dg (ay l) (cJ (ay l) aE) _ (List.replicate 2048 0) hcok (by omega) (by omega) hrep;refine lM en73 rfl rfl cG ax hbn (fun r os tk h=>?_) (fun r rF h=>?_)
 ·obtain ⟨V6,rfl,_,rfl,_⟩:=h;refine ⟨rfl,fun rF h=>?_⟩;rw [List.mem_singleton.1 h];exact RK _ _ _ _ _ _
 obtain ⟨V6,h1,hj2,hr,ur⟩:=h;simp only [List.cons.injEq,and_true] at h1;subst h1
 have hB:bR (nc (aV (closeR (fb l.length P) l.length)) (ay l).length) (ay l).length=bR (nc (eO l.length P) l.length) l.length:=by
  rw [fV];rfl
 rw [hB] at hr ur
 cases hb:bR (nc (eO l.length P) l.length) l.length with
 | some b=>
  rw [hb] at hr hF;subst hr;simp only at hF;have hbl:=(dJ hb).1;obtain ⟨w,hw⟩:∃ w,l[b]? = some w:=⟨_,gE hbl⟩;rw [kg hw] at hF;refine dS ?_;refine ⟨jN w,⟨by simp only [oz];omega,aS hw⟩,?_⟩;exact ⟨_,ax,nd (os:=[]) (tk:=[]) hF (by simp)⟩
 | none=>
  rw [hb] at hr hF;subst hr;simp only at hF;refine ⟨.tup [.pt (ia (ay l) (cJ (ay l) aE) (closeR (fb l.length P) l.length) V6) 0,Ft.d (0,0)],(by repeat' (first | exact rfl | exact trivial | exact Or.inr (Or.inl ⟨_,rfl⟩) | exact Or.inr ⟨_,rfl⟩ | exact Or.inl ⟨rfl,rfl⟩ | exact Or.inl rfl | refine Or.inr ⟨_,_,rfl,Nat.zero_le _,rfl,?_⟩ | refine ⟨_,_,rfl,?_,?_⟩ | refine ⟨_,rfl,?_⟩ | exact rT _ _ _ _ _ | refine Or.inr (Or.inr (Or.inr ⟨_,_,rfl,?_⟩)) | exact Or.inl rfl | refine Or.inr ?_)),RJ (os:=[]) (tk:=[]) hF ⟨aE,V6,hT,by omega,hj2,?_,by rw [hPP]⟩⟩;rw [hPP];rw [fV] at ur;exact ur hb
section
variable (af:List ByteArray) (tc:List DV) (rows:List Nat) (js:List Int)
theorem rU:EvP prog 57 [.pt (ia af tc rows js) 0] (.v (.int .i64 af.length)):=by
 refine eG 10 [.tmp 2] func57 rfl ntmps57 rfl fun _ _ _ _=>?_;refine (congrArg (fun z=>DV.v (.int .i64 z)) ?_:_=_);rw [cg]
theorem zk (i:Int):EvP prog 160 [.pt (ia af tc rows js) 0,.v (.int .i64 i)] (.v (.bool (decide (0<=i) && decide (i < af.length)))):=by
 refine eG 13 [.tmp 4] func160 rfl ntmps160 rfl fun _ _ _ _=>?_;refine br ?_ ?_<;>intro g
 ·have g:decide (0<=i)=true:=sU g;refine cP JW (rU af tc rows js) ?_;refine (congrArg (fun b=>DV.v (.bool b)) ?_:_=_);simp [g,pickB]
 ·have g:decide (0<=i)=false:=sU g;refine (congrArg (fun b=>DV.v (.bool b)) ?_:_=_);simp [g,pickB]
theorem qv {a:Nat} (h:a < af.length):EvP prog 160 [.pt (ia af tc rows js) 0,.v (.int .i64 a)] (.v (.bool true)):=by
 have:=zk af tc rows js a;have e:(decide (0<=(a:Int)) && decide ((a:Int) < af.length))=true:=by simp [h]
 rw [e] at this;exact this
end
theorem F9 (af:List ByteArray) (aE rows:List Nat) (js:List Int) (s:ByteArray) (hT:ie af aE) (hl:aE.length<=1099511627776) :
  EvP prog 140 [.pt (ia af (cJ af aE) rows js) 0,.v (.string s)] (NN (cM af s)):=by
 have h:=iD af aE s hT hl;refine eG 16 [.tmp 4,.tmp 5] func140 rfl ntmps140 rfl fun _ _ _ _=>?_
 cases hx:cM af s with
 | none=>
  rw [hx] at h;refine cP u9 h ?_;exact ⟨_,ax,rfl⟩
 | some k=>
  rw [hx] at h;refine cP u9 h ?_;exact ⟨_,ax,rfl⟩
theorem Di {l:List DV} {k b:Nat} {x:DV} (hb:b < 32) (h:l[k + b]? = some x):(((l.drop k).take 32).drop b).take 1=[x]:=by
 have h1:((l.drop k).take 32)[b]? = some x:=by
  rw [List.getElem?_take,if_pos hb,List.getElem?_drop];exact h
 rw [List.drop_eq_getElem_cons (gS h1).1];rw [gE (gS h1).1] at h1;simp only [oI] at h1;rw [h1];rfl
section
variable (af:List ByteArray) (tc:List DV) (rows:List Nat) (js:List Int)
theorem vY (a b:Nat) (z:Int) (ha:a < af.length) (hb:b < af.length) (hn:af.length<=32) (hz:js[a * 32 + b]? = some z) :
  EvP prog 141 [.pt (ia af tc rows js) 0,.v (.int .i64 a),.v (.int .i64 b)] (.v (.int .i64 z)):=by
 refine eG 25 [.tmp 6] func141 rfl ntmps141 rfl fun _ _ _ _=>?_;refine cP yS (qv af tc rows js ha) ?_;refine cP yS (qv af tc rows js hb) ?_;refine ⟨_,⟨⟨by omega,by omega⟩,rfl⟩,?_⟩;refine ⟨_,⟨⟨by omega,by omega⟩,Di (x:=.v (.int .i64 z)) (by omega) ?_⟩,?_⟩
 ·rw [show 0 + 3 + (a:Int).toNat * 32 + (0 + (b:Int).toNat * 1)=(a * 32 + b) + 3 by omega];simp only [uo,List.getElem?_cons_succ,cZ,List.getElem?_map,hz,Option.map_some]
 exact (rfl:_=_)
theorem Ga (a b:Nat) (z:Int) (ha:a < af.length) (hb:b < af.length) (hn:af.length<=32) (hz:js[1024 + (a * 32 + b)]? = some z) :
  EvP prog 114 [.pt (ia af tc rows js) 0,.v (.int .i64 a),.v (.int .i64 b)] (.v (.int .i64 z)):=by
 refine eG 25 [.tmp 6] func114 rfl ntmps114 rfl fun _ _ _ _=>?_;refine cP yS (qv af tc rows js ha) ?_;refine cP yS (qv af tc rows js hb) ?_;refine ⟨_,⟨⟨by omega,by omega⟩,rfl⟩,?_⟩;refine ⟨_,⟨⟨by omega,by omega⟩,Di (x:=.v (.int .i64 z)) (by omega) ?_⟩,?_⟩
 ·rw [show 0 + 1027 + (a:Int).toNat * 32 + (0 + (b:Int).toNat * 1)=(1024 + (a * 32 + b)) + 3 by omega];simp only [uo,List.getElem?_cons_succ,cZ,List.getElem?_map,hz,Option.map_some]
 exact (rfl:_=_)
end
theorem rV {jg:Nat->Bool} {pb:Nat->Nat->Bool}:∀ {e k:Nat},bestA jg pb e=some k->jg k=true
 | 0,k,h=>by cases h
 | e + 1,k,h=>by
  rw [bestA] at h;split at h
  ·rename_i h1;simp only [oI] at h;subst h;simp only [Bool.and_eq_true] at h1;exact h1.1
  ·exact rV h
theorem vZ {jg:Nat->Bool} {pb:Nat->Nat->Bool} {n k:Nat} (h:na jg pb n=some k):k < n/\jg k=true/\∀ c,c < n->jg c=true->pb k c=true:=by
 unfold na at h;split at h
 ·cases h
 ·rename_i o ho;split at h
  ·cases h
  ·rename_i h1;simp only [oI] at h;subst h;refine ⟨nb ho,rV ho,fun c hc hp=>?_⟩;simp only [List.any_eq_true,List.mem_range,Bool.and_eq_true,Bool.not_eq_true',not_exists,not_and] at h1;have:=h1 c hc hp;simpa using this
structure dN (f:Nat->Nat->Bool) (n:Nat):Prop where
 pos:0 < n
 rfl':∀ a,a < n->f a a=true
 tr:∀ a b c,a < n->b < n->c < n->f a b=true->f b c=true->f a c=true
 Gb:∀ a b,a < n->b < n->f a b=true->f b a=true->a=b
 jn:∀ a b,a < n->b < n->∃ k,eW f n a b=some k
 mt:∀ a b,a < n->b < n->∃ k,iT f n a b=some k
theorem o6 {f:Nat->Nat->Bool} {n a b k:Nat} (h:eW f n a b=some k):k < n/\f a k=true/\f b k=true/\∀ c,c < n->f a c=true->f b c=true->f k c=true:=by
 obtain ⟨h1,h2,h3⟩:=vZ h;simp only [Bool.and_eq_true] at h2;exact ⟨h1,h2.1,h2.2,fun c hc ha hb=>h3 c hc (by simp [ha,hb])⟩
theorem o8 {f:Nat->Nat->Bool} {n a b k:Nat} (h:iT f n a b=some k):k < n/\f k a=true/\f k b=true/\∀ c,c < n->f c a=true->f c b=true->f c k=true:=by
 obtain ⟨h1,h2,h3⟩:=vZ h;simp only [Bool.and_eq_true] at h2;exact ⟨h1,h2.1,h2.2,fun c hc ha hb=>h3 c hc (by simp [ha,hb])⟩
def gy (f:Nat->Nat->Bool) (l:List Nat) (c:Nat):Bool:=l.all fun i=>f i c
def rW (f:Nat->Nat->Bool) (n:Nat) (l:List Nat) (c:Nat):Bool:=gy f l c && (List.range n).all fun d=>!gy f l d || f c d
def eI (f:Nat->Nat->Bool) (n:Nat) (l:List Nat):Option Nat:=bR (rW f n l) n
theorem nf {f:Nat->Nat->Bool} {n:Nat} {l:List Nat} {c:Nat}:rW f n l c=true↔gy f l c=true/\∀ d,d < n->gy f l d=true->f c d=true:=by
 unfold rW;simp only [Bool.and_eq_true,List.all_eq_true,List.mem_range,Bool.or_eq_true,Bool.not_eq_true'];constructor
 ·rintro ⟨h1,h2⟩;refine ⟨h1,fun d hd ho=>?_⟩;rcases h2 d hd with h | h
  ·rw [ho] at h;cases h
  ·exact h
 ·rintro ⟨h1,h2⟩;refine ⟨h1,fun d hd=>?_⟩;cases ho:gy f l d
  ·exact .inl rfl
  ·exact .inr (h2 d hd ho)
theorem zl {f:Nat->Nat->Bool} {n:Nat} (hL:dN f n) {l:List Nat} {c:Nat} (hc:c < n) (h:rW f n l c=true):eI f n l=some c:=by
 refine cF hc h fun a ha=>?_;cases h2:rW f n l a
 ·rfl
 ·obtain ⟨h3,h4⟩:=nf.1 h;obtain ⟨h5,h6⟩:=nf.1 h2;have:=hL.Gb a c (by omega) hc (h6 c hc h3) (h4 a (by omega) h5);omega
theorem o9 {f:Nat->Nat->Bool} {n c:Nat} (hL:dN f n) (hc:c < n) (h:∀ d,d < n->f c d=true):eI f n []=some c:=
 zl hL hc (nf.2 ⟨rfl,fun d hd _=>h d hd⟩)
theorem sX {f:Nat->Nat->Bool} {n c k i:Nat} {l:List Nat} (hL:dN f n) (hl:∀ x∈l,x < n) (hi:i < n) (h:eI f n l=some c) (hk:eW f n c i=some k):eI f n (l ++ [i])=some k:=by
 obtain ⟨h1,h2,_⟩:=dJ h;obtain ⟨h3,h4⟩:=nf.1 h2;obtain ⟨g1,g2,g3,g4⟩:=o6 hk;simp only [gy,List.all_eq_true] at h3;refine zl hL g1 (nf.2 ⟨?_,fun d hd ho=>?_⟩)
 ·simp only [gy,List.all_eq_true,List.mem_append,List.mem_singleton];rintro x (hx | rfl)
  ·exact hL.tr x c k (hl x hx) h1 g1 (h3 x hx) g2
  ·exact g3
 ·simp only [gy,List.all_eq_true,List.mem_append,List.mem_singleton] at ho;refine g4 d hd (h4 d hd ?_) (ho i (.inr rfl));simp only [gy,List.all_eq_true];exact fun x hx=>ho x (.inl hx)
theorem nY {f:Nat->Nat->Bool} {n c:Nat} {l:List Nat} (h:eI f n l=some c):c < n:=(dJ h).1
abbrev N5 (L:List DV) (n b e:Nat):St:=
 ⟨[(0,⟨[],.pt L 0⟩),(3,⟨[],.v (.int .i64 b)⟩),(9,⟨[],.v (.int .i64 n)⟩),(10,⟨[],.v (.int .i64 e)⟩)],[],[]⟩
theorem qw (af:List ByteArray) (tc:List DV) (rows:List Nat) (js:List Int) {f:Nat->Nat->Bool} (hL:dN f af.length) (hn:af.length<=32) (hj:∀ x y,x < af.length->y < af.length->JM f af.length js x y) :
  EvP prog 55 [.pt (ia af tc rows js) 0] (.v (.int .i64 (oz (eI f af.length [])))):=by
 have hlen:=rU af tc rows js;have kx:=hL.pos;refine eG 19 [.tmp 2] func55 rfl ntmps55 rfl fun _ _ _ _=>?_;refine cP JW hlen ?_;refine br ?_ ?_<;>intro g
 ·exfalso;simp at g;simp [g] at kx
 refine cP JW hlen ?_;refine lI (fun j st=>∃ e b:Nat,st=N5 (ia af tc rows js) af.length b e/\e<=af.length/\b < af.length/\(∀ x,x < e->f b x=true)/\j=af.length - e) ⟨0,0,rfl,by omega,by omega,fun _ h=>by omega,rfl⟩ (weak_mk ⟨_,rfl⟩ wA rfl rfl rfl wB) ?_;rintro j st ⟨e,b,rfl,he,hb,eV,rfl⟩;refine br ?_ ?_<;>intro hL'
 ·have au:e < af.length:=by have:=hL';simp at this;exact this
  obtain ⟨k,hk⟩:=hL.mt b e hb au;obtain ⟨g1,g2,g3,g4⟩:=o8 hk;have hz:=(hj b e hb au).2;rw [hk] at hz;refine cP Zh (Ga af tc rows js b e k hb au hn hz) ?_;refine ⟨N5 (ia af tc rows js) af.length k (e + 1),(weak_mk ⟨_,rfl⟩ wA rfl rfl rfl (wB1 (nxt au (by omega)))),af.length - (e + 1),by omega,e + 1,k,rfl,by omega,g1,fun x hx=>?_,rfl⟩;rcases Nat.lt_succ_iff_lt_or_eq.1 hx with hx | rfl
  ·exact hL.tr k b x g1 hb (by omega) g2 (eV x hx)
  ·exact g3
 ·have aN:e=af.length:=by have:=hL';simp at this;omega
  subst aN;rw [o9 hL hb eV];exact (rfl:_=_)
def labW (L:List ByteArray):List Wd->Ft
 | []=>(0,0)
 | w :: r=>if cM L w.s=none then (17,w.a) else labW L r
def lY (L:List ByteArray) (l:List Wd):List Nat:=l.map fun w=>(cM L w.s).getD 0
def A5 (f:Nat->Nat->Bool) (L:List ByteArray) (l:List Wd):Int:=if (labW L l).1=0 then oz (eI f L.length (lY L l)) else 0
def Kw (f:Nat->Nat->Bool) (L:List ByteArray) (l:List Wd):DV:=.tup [.v (.int .i64 (A5 f L l)),(labW L l).d]
theorem rX {L:List ByteArray} {l:List Wd} {e:Nat} {w:Wd} (h:l[e]? = some w):labW L (l.drop e)=if cM L w.s=none then (17,w.a) else labW L (l.drop (e + 1)):=by
 rw [drop_cons h,labW]
theorem rY {L:List ByteArray} {l:List Wd} {e i:Nat} {w:Wd} (h:l[e]? = some w) (hi:cM L w.s=some i):lY L (l.take (e + 1))=lY L (l.take e) ++ [i]:=by
 rw [List.take_add_one,h];simp [lY,hi]
abbrev N6 (L:List DV) (l:List Wd) (b e:Nat):St:=
 ⟨[(0,⟨[],.pt L 0⟩),(5,⟨[],.loc 0 0⟩),(6,⟨[],.v (.int .i64 b)⟩),(16,⟨[],.sl 2 (bG l) none⟩),(17,⟨[],.v (.int .i64 (bG l).length)⟩),(18,⟨[],.v (.int .i64 e)⟩)],[[.v (.int .i64 0),.v (.int .i64 0)]],[]⟩
theorem N7 (af:List ByteArray) (aE rows:List Nat) (js:List Int) (hT:ie af aE) (kK:aE.length<=1099511627776) {f:Nat->Nat->Bool} (hL:dN f af.length) (hn:af.length<=32) (hj:∀ x y,x < af.length->y < af.length->JM f af.length js x y)
  (l:List Wd) (hs:wdsWt l<=1099511627776) :
  EvP prog 79 [.pt (ia af (cJ af aE) rows js) 0,.sl 2 (bG l) none] (Kw f af l):=by
 have mF:=bw l;have Dj:=qw af (cJ af aE) rows js hL hn hj
 have jL:∃ b,eI f af.length []=some b:=by
  have:∀ e,e<=af.length->∃ b,b < af.length/\∀ x,x < e->f b x=true:=by
   intro e
   induction e with
   | zero=>intro _;exact ⟨0,hL.pos,fun _ h=>by omega⟩
   | succ e ih=>
    intro he;obtain ⟨b,hb,eV⟩:=ih (by omega);obtain ⟨k,hk⟩:=hL.mt b e hb (by omega);obtain ⟨g1,g2,g3,_⟩:=o8 hk;refine ⟨k,g1,fun x hx=>?_⟩;rcases Nat.lt_succ_iff_lt_or_eq.1 hx with hx | rfl
    ·exact hL.tr k b x g1 hb (by omega) g2 (eV x hx)
    ·exact g3
  obtain ⟨b,hb,eV⟩:=this af.length (Nat.le_refl _);exact ⟨b,o9 hL hb eV⟩
 obtain ⟨b0,gH⟩:=jL;rw [gH] at Dj;refine eG 41 [.tmp 4,.cell 5 41] func79 rfl ntmps79 rfl fun _ _ _ _=>?_;refine cP Vy Dj ?_;refine lI (fun j st=>∃ e b:Nat,st=N6 (ia af (cJ af aE) rows js) l b e/\e<=l.length/\labW af l=labW af (l.drop e)/\eI f af.length (lY af (l.take e))=some b/\(∀ x∈lY af (l.take e),x < af.length)/\j=l.length - e) ⟨0,b0,rfl,by omega,rfl,gH,by simp [lY],rfl⟩ (weak_mk ⟨_,rfl⟩ wA rfl rfl rfl wB) ?_;rintro j st ⟨e,b,rfl,he,aK,Rq,MC,rfl⟩;have hb:=nY Rq;refine br ?_ ?_<;>intro eX
 ·have au:e < l.length:=by simpa [aA] using eX
  obtain ⟨w,hw⟩:=gX au;have aU:=rX (L:=af) hw;have A4:=F9 af aE rows js w.s hT kK;refine ⟨jN w,⟨by omega,aS hw⟩,?_⟩
  cases hx:cM af w.s with
  | none=>
   rw [hx] at A4;refine cP Tt A4 ?_;rw [if_pos hx] at aU;have h1:labW af l=(17,w.a):=aK.trans aU;refine dS ?_;refine ⟨_,?_,rfl⟩;rw [Kw,A5,h1,if_neg (by simp)];exact ax
  | some i=>
   rw [hx] at A4;refine cP Tt A4 ?_;rw [if_neg (by rw [hx];simp)] at aU;have hi:=(cR hx).1;obtain ⟨k,hk⟩:=hL.jn b i hb hi;have hz:=(hj b i hb hi).1;rw [hk] at hz;refine cP Ip (vY af (cJ af aE) rows js b i k hb hi hn hz) ?_;refine ⟨N6 (ia af (cJ af aE) rows js) l k (e + 1),(weak_mk ⟨_,rfl⟩ wA rfl rfl rfl (wB1 (nxt au (by omega)))),l.length - (e + 1),by omega,e + 1,k,rfl,by omega,aK.trans aU,?_,?_,rfl⟩
   ·rw [rY hw hx];exact sX hL MC hi Rq hk
   ·rw [rY hw hx];intro x hm;rcases List.mem_append.1 hm with hm | hm
    ·exact MC x hm
    ·rw [List.mem_singleton.1 hm];exact hi
 ·have aN:e=l.length:=by
   have:=eX;simp [aA] at this;omega
  subst aN;rw [List.drop_length] at aK;rw [List.take_length] at Rq;have h1:labW af l=(0,0):=aK;refine ⟨_,?_,rfl⟩;rw [Kw,A5,h1,if_pos rfl,Rq];exact ax
def Gc (x:Ft × Int) (r:DV) (os:List (List DV)) (_:List TkE):Prop:=
 r=x.1.d/\∃ z:Int,os=[[.v (.int .i64 z)]]/\(x.1.1=0->z=x.2)
theorem lZ {x:Ft × Int}:∀ r os tk,Gc x r os tk->clB 0 0 r=true/\∀ rF∈os,clB.clL 0 0 rF=true:=by
 rintro r os tk ⟨rfl,z,rfl,_⟩;refine ⟨rfl,fun rF h=>?_⟩;simp only [List.mem_singleton] at h;subst h;rfl
def N8 (k:Nat):Prop:=∀ (t:Ty) (depth m:Int),t.wt<=k->t.wt<=1099511627776->0<=depth->depth<=25->0<=m->m<=512 ->
 Ev prog 137 [.loc 0 0,.agg (dV t),.v (.int .i64 depth)] [[.v (.int .i64 m)]] [] (Gc (wrong t depth m))
def kV (p:Ph) (t:Ty) (un:Bool) (depth m:Int):Ft × Int:=
 if p.bare=true then (if un=false∨cQ p t (mX p) bW=false then ((19,p.name.a),m) else ((0,0),m))
 else if (dz p).1≠0 then (dz p,m)
 else wrong t (depth + 1) m
theorem bu {x:Ft × Int} {f:Ft} {m z:Int} (h:x=(f,m)) (hz:f.1=0->z=m) {tk:List TkE}:Gc x f.d [[.v (.int .i64 z)]] tk:=by
 subst h;exact ⟨rfl,z,rfl,hz⟩
theorem Gd (k:Nat) (ih:N8 k) (p:Ph) (t:Ty) (un:Bool) (depth m:Int) (hk:t.wt<=k) (hp:p.wt<=1099511627776) (cr:t.wt<=1099511627776) (yV:0<=depth) (E5:depth<=24) (jG:0<=m) (fH:m<=512) :
  Ev prog 232 [.loc 0 0,.agg (FF p (dV t)),.v (.bool un),.v (.int .i64 depth)] [[.v (.int .i64 m)]] [] (Gc (kV p t un depth m)):=by
 have pZ:=hp;simp only [Ph.wt] at pZ;have sH:=mP p (mX p) t bW hp (by simp only [Ph.wt,mX,wdsWt];omega) (vv t bW cr (by decide));have sK:=ih t (depth + 1) m hk cr (by omega) (by omega) jG fH;obtain ⟨u,us⟩:=t;have hcoa:=AQ p (dV (.mk u us)) (.mk u us) rfl hp;have hS:=kV.eq_def p (.mk u us) un depth m;generalize kV p (.mk u us) un depth m=F at hS ⊢;obtain ⟨nm,bare,lab,wide,ck,cn,ca,cl⟩:=p;simp only at hS pZ sH
 cases bare with
 | true=>
  rw [if_pos rfl] at hS
  cases un with
  | true=>
   refine eG 68 [.cell 8 41] func232 rfl ntmps232 rfl fun _ _ _ _=>?_;refine cP MY sH ?_;refine br ?_ ?_<;>intro q
   ·have q:cQ ⟨nm,true,lab,wide,ck,cn,ca,cl⟩ (.mk u us) (mX ⟨nm,true,lab,wide,ck,cn,ca,cl⟩) bW=false:=by simpa [show (lastG (21,false) [(18,true)]).snd=true from rfl,pickB] using q
    rw [if_pos (.inr q)] at hS;refine cP dZ (bA 19 nm.a) ?_;exact ⟨_,_,ax,ax,bu (tk:=[]) (f:=(19,nm.a)) hS (fun _=>rfl)⟩
   ·have q:cQ ⟨nm,true,lab,wide,ck,cn,ca,cl⟩ (.mk u us) (mX ⟨nm,true,lab,wide,ck,cn,ca,cl⟩) bW=true:=by simpa [show (lastG (21,false) [(18,true)]).snd=true from rfl,pickB] using q
    rw [if_neg (by simp [q])] at hS;exact ⟨_,_,ax,ax,bu (tk:=[]) (f:=(0,0)) hS (fun _=>rfl)⟩
  | false=>
   refine eG 68 [.cell 8 41] func232 rfl ntmps232 rfl fun _ _ _ _=>?_;rw [if_pos (.inl rfl)] at hS;refine cP dZ (bA 19 nm.a) ?_;exact ⟨_,_,ax,ax,bu (tk:=[]) (f:=(19,nm.a)) hS (fun _=>rfl)⟩
 | false=>
  rw [if_neg (by simp)] at hS;refine eG 68 [.cell 8 41] func232 rfl ntmps232 rfl fun _ _ _ _=>?_;refine br ?_ ?_<;>intro hw
  ·have hw:wide < 0∨64 < wide:=by simpa [ap] using hw
   have hP:dz ⟨nm,false,lab,wide,ck,cn,ca,cl⟩=(20,nm.a):=by simp only [dz,if_pos hw]
   rw [hP,if_pos (by simp)] at hS;refine cP dZ (bA 20 nm.a) ?_;exact ⟨_,_,ax,ax,bu (tk:=[]) (f:=(20,nm.a)) hS (fun _=>rfl)⟩
  have hw:¬ (wide < 0∨64 < wide):=by simp [ap] at hw;omega
  refine cP CH (iQ lab (by omega)) ?_;refine br ?_ ?_<;>intro hb
  ·have hb:(bN lab).1≠0:=sU hb;have hP:dz ⟨nm,false,lab,wide,ck,cn,ca,cl⟩=bN lab:=by simp only [dz,if_neg hw,if_pos hb]
   rw [hP,if_pos hb] at hS;exact ⟨_,_,ax,ax,bu (tk:=[]) (f:=bN lab) hS (fun _=>rfl)⟩
  have hb:(bN lab).1=0:=sU hb;have hP:dz ⟨nm,false,lab,wide,ck,cn,ca,cl⟩=aX ⟨nm,false,lab,wide,ck,cn,ca,cl⟩:=by simp only [dz,if_neg hw];rw [if_neg (by simp [hb])]
  rw [hP] at hS;refine cP ZY hcoa ?_;refine br ?_ ?_<;>intro hc
  ·have hc:(aX ⟨nm,false,lab,wide,ck,cn,ca,cl⟩).1≠0:=sU hc;rw [if_pos hc] at hS;exact ⟨_,_,ax,ax,bu (tk:=[]) (f:=aX ⟨nm,false,lab,wide,ck,cn,ca,cl⟩) hS (fun _=>rfl)⟩
  have hc:(aX ⟨nm,false,lab,wide,ck,cn,ca,cl⟩).1=0:=sU hc;rw [if_neg (by simp [hc])] at hS;refine lM MP rfl rfl ax (by repeat' (first | exact rfl | exact trivial | exact Or.inr (Or.inl ⟨_,rfl⟩) | exact Or.inr ⟨_,rfl⟩ | exact Or.inl ⟨rfl,rfl⟩ | exact Or.inl rfl | refine Or.inr ⟨_,_,rfl,Nat.zero_le _,rfl,?_⟩ | refine ⟨_,_,rfl,?_,?_⟩ | refine ⟨_,rfl,?_⟩ | exact congrArg (fun z=>DV.v (.int .i64 z)) (wrap64 (by omega) (by omega)) | refine Or.inr (Or.inr (Or.inr ⟨_,_,rfl,?_⟩)) | exact Or.inl rfl | refine Or.inr ?_)) sK lZ (fun r rF hr=>?_);obtain ⟨rfl,z,hz,pV⟩:=hr;simp only [List.cons.injEq,and_true] at hz;subst hz;exact ⟨_,_,ax,ax,bu (tk:=[]) (f:=(wrong (.mk u us) (depth + 1) m).1) hS pV⟩
theorem ym {ag:Int} {all:List Wd} {i:Nat} {p:Ph} {t:Ty} {r:Pts} {depth m:Int} (hk:ag=7∨ag=8) (hl:aF all i p.name=0) :
  wrongPts ag all i (.cons p t r) depth m=if (kV p t (decide (ag=8)) depth m).1.1≠0 then kV p t (decide (ag=8)) depth m else wrongPts ag all (i + 1) r depth (kV p t (decide (ag=8)) depth m).2:=by
 simp only [wrongPts];rw [if_neg (by simp [hl])];unfold kV;by_cases hb:p.bare=true
 ·rw [if_pos hb,if_pos hb,RD];by_cases h7:ag=7
  ·subst h7;rw [if_pos (.inl rfl),if_pos (c:=decide ((7:Int)=8)=false∨_) (.inl (by simp)),if_pos (by simp)]
  ·have h8:ag=8:=by omega
   subst h8;by_cases h:sameTy t bW=false∨bM p fi=false
   ·have h':decide ((8:Int)=8)=false∨(bM p fi && sameTy t bW)=false:=.inr (by rcases h with h | h<;>simp [h]);rw [if_pos (.inr h),if_pos h',if_pos (by simp)]
   ·have h1:sameTy t bW=true:=by
     cases hc:sameTy t bW
     ·exact absurd (.inl hc) h
     ·rfl
    have h2:bM p fi=true:=by
     cases hc:bM p fi
     ·exact absurd (.inr hc) h
     ·rfl
    have h':¬ (decide ((8:Int)=8)=false∨(bM p fi && sameTy t bW)=false):=by simp [h1,h2]
    rw [if_neg (by simp [h1,h2]),if_neg h',if_neg (by simp)]
 ·rw [if_neg hb,if_neg hb];by_cases hP:(dz p).1≠0
  ·rw [if_pos hP,if_pos hP,if_pos hP]
  ·rw [if_neg hP,if_neg hP]
theorem N9 {p:Ph} {t:Ty} {un:Bool} {depth m:Int} (jG:0<=m) (fH:m<=512) (h:(kV p t un depth m).1.1=0):(kV p t un depth m).1=(0,0)/\0<=(kV p t un depth m).2/\(kV p t un depth m).2<=512:=by
 have hw:=qd t (depth + 1) m jG;unfold kV at h ⊢;by_cases hb:p.bare=true
 ·rw [if_pos hb] at h ⊢;split at h
  ·simp at h
  ·rename_i hc;rw [if_neg hc];exact ⟨rfl,jG,fH⟩
 ·rw [if_neg hb] at h ⊢;by_cases hP:(dz p).1≠0
  ·rw [if_pos hP] at h;exact absurd h hP
  ·rw [if_neg hP] at h ⊢;exact hw h
abbrev v7 (h:Hd) (ps:Pts) (n e:Nat) (depth m:Int):St:=
 ⟨[(0,⟨[],.loc 0 0⟩),(2,⟨[],.v (.int .i64 depth)⟩),(4,⟨[],.loc 1 0⟩),(6,⟨[],.loc 2 0⟩),(38,⟨[],.sl 18 (fA ps) none⟩),(39,⟨[],.v (.int .i64 (fA ps).length)⟩),(40,⟨[],.v (.int .i64 e)⟩),(7,⟨[],.sl 1 (dM (ay ((pNames ps).take e))) (some 0)⟩)],
  [[.v (.int .i64 m)],dV (.mk h ps),[.v (.int .i64 0),.v (.int .i64 0)]],[⟨n,9,1,none⟩]⟩
theorem sY (k:Nat) (ih:N8 k) (h:Hd) (ps:Pts) (depth m:Int) (QI:h.ag=7∨h.ag=8) (hk:ps.wt<=k) (cr:(Ty.mk h ps).wt<=1099511627776) (yV:0<=depth) (E5:depth<=24) (jG:0<=m) (fH:m<=512) :
  Ev prog 188 [.loc 0 0,.agg (dV (.mk h ps)),.v (.int .i64 depth)] [[.v (.int .i64 m)]] [] (Gc (eU h ps depth m)):=by
 simp only [Ty.wt,Hd.wt] at cr;have hpl:=ps.fy;have fV:=gk ps;have VN:=rI ps;have hS:=eU.eq_def h ps depth m;generalize eU h ps depth m=F at hS ⊢;refine eG 72 [.cell 6 41] func188 rfl ntmps188 rfl fun _ _ _ _=>?_;refine br ?_ ?_<;>intro c1
 ·have c1:h.ag=8/\ps.len=0:=by
   simp [pickB_and,aH] at c1;exact ⟨c1.1,by omega⟩
  rw [if_pos c1] at hS;refine cP dZ (bA 15 h.aD) ?_;exact ⟨_,_,ax,ax,bu (tk:=[]) (f:=(15,h.aD)) hS (fun _=>rfl)⟩
 have c1:¬ (h.ag=8/\ps.len=0):=by
  simp [pickB_and,aH] at c1;omega
 rw [if_neg c1] at hS;refine br ?_ ?_<;>intro c2
 ·have au:64 < ps.len:=by simp [aH] at c2;omega
  obtain ⟨p,t,hx⟩:=Pts.eE au;refine iX (bQ hx) ?_;refine cP dZ (bA 8 p.name.a) ?_;rw [if_pos au,gl hx] at hS;exact ⟨_,_,ax,ax,bu (tk:=[]) (f:=(8,p.name.a)) hS (fun _=>rfl)⟩
 have c2:¬ 64 < ps.len:=by simp [aH] at c2;omega
 rw [if_neg c2] at hS
 refine av (fun j st=>∃ (e:Nat) (m':Int),st=v7 h ps e e depth m' /\ e<=ps.len/\0<=m' /\ m' <= 512/\(ay ((pNames ps).take e)).Nodup /\
   F=wrongPts h.ag (pNames ps) e (ps.drop e) depth m' /\ j=ps.len - e) ps.len (v7 h ps 0 0 depth m) (dX ⟨0,9,1,none⟩ rfl ⟨_,rfl⟩ rfl wA rfl rfl wB0) ⟨0,m,rfl,by omega,jG,fH,by simp [ay],hS,by omega⟩ ?_
 rintro j st ⟨e,m',rfl,he,tK,CT,hnd,aK,rfl⟩;refine br ?_ ?_<;>intro hL
 ·have au:e < ps.len:=by simpa [aH] using hL
  obtain ⟨p,t,hx⟩:=Pts.eE au;have CP:=Pts.gj (mG hx);have E8:=gl hx;have hpw:p.name.s.size + 64<=p.wt:=by simp only [Ph.wt,Wd.wt];omega
  rw [Pts.drop_cons hx] at aK
  have Nk:(ay ((pNames ps).take (e + 1)))[(ay ((pNames ps).take (e + 1))).length - 1]? = some p.name.s:=by
   have yb:(ay ((pNames ps).take (e + 1))).length=e + 1:=by simp [ay];omega
   rw [yb];simp [ay,E8]
  have UU:=sQ (ay ((pNames ps).take (e + 1))) p.name.s p.name.a Nk (by simp [ay];omega) (by omega);have fu:=jw E8;rw [ze p.name.a E8 hnd,<- fu] at UU;have Dk:=Gd k ih p t (decide (h.ag=8)) depth m' (by omega) (by omega) (by omega) yV E5 tK CT;obtain ⟨u,us⟩:=t;refine iX (bQ hx) ?_;refine ⟨by simp [cg,ay];omega,⟨by simp [cg,ay,maxLen];omega,by simp [cg,ay];omega⟩,?_⟩;refine cP TN UU ?_;by_cases hl:aF (pNames ps) e p.name≠0
  ·rw [if_pos hl];refine br ?_ ?_<;>intro hf
   ·simp only [wrongPts] at aK;rw [if_pos hl] at aK;exact ⟨_,_,ax,ax,bu (tk:=[]) (f:=(aF (pNames ps) e p.name,p.name.a)) aK (fun _=>rfl)⟩
   ·exact absurd (sU hf) hl
  have hl:aF (pNames ps) e p.name=0:=sU hl;have hndn:=lX E8 hnd hl;rw [if_neg (by simp [hl])];rw [ym QI hl] at aK;have bS:=N9 (p:=p) (t:=.mk u us) (un:=decide (h.ag=8)) (depth:=depth) tK CT;generalize kV p (.mk u us) (decide (h.ag=8)) depth m'=r at Dk aK bS;obtain ⟨⟨fe,fa⟩,many⟩:=r;simp only at aK bS;refine lM ZQ rfl rfl ax ax Dk lZ (fun r rF hr=>?_);obtain ⟨rfl,z,hz,pV⟩:=hr;simp only [List.cons.injEq,and_true] at hz;subst hz;refine br ?_ ?_<;>intro hd
  ·have hd:fe≠0:=sU hd;rw [if_pos hd] at aK;exact ⟨_,_,ax,ax,bu (tk:=[]) (f:=(fe,fa)) aK (fun h0=>absurd h0 hd)⟩
  ·have hd:fe=0:=sU hd;subst hd;obtain ⟨_,h2,h3⟩:=bS rfl;rw [if_neg (by simp)] at aK;have XL:z=many:=pV rfl;subst XL;exact rE ⟨_,by omega,e + 1,z,rfl,by omega,h2,h3,hndn,aK,rfl⟩ (weak_mk ⟨_,rfl⟩ wA rfl rfl rfl (dm (nxt au (by omega)) fu))
 ·have aN:e=ps.len:=by simp [aH] at hL;omega
  rw [aN,Pts.cX] at aK;simp only [wrongPts] at aK;exact ⟨_,_,ax,ax,bu (tk:=[]) (f:=(0,0)) aK (fun _=>rfl)⟩
theorem zm (k:Nat) (ih:N8 k) (h:Hd) (ps:Pts) (depth m:Int) (hk:ps.wt<=k) (cr:(Ty.mk h ps).wt<=1099511627776) (yV:0<=depth) (E5:depth<=24) (jG:0<=m) (fH:m<=512) :
  Ev prog 187 [.loc 0 0,.agg (dV (.mk h ps)),.v (.int .i64 depth)] [[.v (.int .i64 m)]] [] (Gc (wrongOne h ps depth m)):=by
 simp only [Ty.wt,Hd.wt] at cr
 cases ps with
 | nil=>
  have hS:wrongOne h .nil depth m=((19,h.aD),m):=by simp only [wrongOne]
  generalize wrongOne h .nil depth m=F at hS ⊢;refine eG 44 [.cell 6 41] func187 rfl ntmps187 rfl fun _ _ _ _=>?_;refine cP dZ (bA 19 h.aD) ?_;exact ⟨_,_,ax,ax,bu (tk:=[]) (f:=(19,h.aD)) hS (fun _=>rfl)⟩
 | cons p t r=>
  cases r with
  | cons p2 t2 r2=>
   have hS:wrongOne h (.cons p t (.cons p2 t2 r2)) depth m=((19,h.aD),m):=by simp only [wrongOne]
   generalize wrongOne h (.cons p t (.cons p2 t2 r2)) depth m=F at hS ⊢;refine eG 44 [.cell 6 41] func187 rfl ntmps187 rfl fun _ _ _ _=>?_;refine cP dZ (bA 19 h.aD) ?_;exact ⟨_,_,ax,ax,bu (tk:=[]) (f:=(19,h.aD)) hS (fun _=>rfl)⟩
  | nil=>
   simp only [Pts.wt] at cr hk;have hS:wrongOne h (.cons p t .nil) depth m=if p.name.s≠aq∨bM p eT=false then ((19,h.aD),m) else if h.most < 0∨1024 < h.most then ((20,h.aD),m) else wrong t (depth + 1) m:=by simp only [wrongOne]
   generalize wrongOne h (.cons p t .nil) depth m=F at hS ⊢;have Vh:=CW p t (by omega);rw [empty_eq] at Vh;have sK:=ih t (depth + 1) m (by omega) (by omega) (by omega) (by omega) jG fH;obtain ⟨u,us⟩:=t;refine eG 44 [.cell 6 41] func187 rfl ntmps187 rfl fun _ _ _ _=>?_;refine ⟨_,⟨by omega,rfl⟩,?_⟩;refine cP ZP Vh ?_;refine br ?_ ?_<;>intro q
   ·have q:p.name.s≠aq∨bM p eT=false:=by
     have:=q;simp [pickB] at this;exact this
    rw [if_pos q] at hS;refine cP dZ (bA 19 h.aD) ?_;exact ⟨_,_,ax,ax,bu (tk:=[]) (f:=(19,h.aD)) hS (fun _=>rfl)⟩
   have q:¬ (p.name.s≠aq∨bM p eT=false):=by
    have:=q;simp [pickB] at this;simp [this.1,this.2]
   rw [if_neg q] at hS;refine br ?_ ?_<;>intro x
   ·have x:h.most < 0∨1024 < h.most:=by simpa [ap] using x
    rw [if_pos x] at hS;refine cP dZ (bA 20 h.aD) ?_;exact ⟨_,_,ax,ax,bu (tk:=[]) (f:=(20,h.aD)) hS (fun _=>rfl)⟩
   have x:¬ (h.most < 0∨1024 < h.most):=by simp [ap] at x;omega
   rw [if_neg x] at hS;refine ⟨_,⟨by omega,rfl⟩,?_⟩;refine lM MP rfl rfl ax (by repeat' (first | exact rfl | exact trivial | exact Or.inr (Or.inl ⟨_,rfl⟩) | exact Or.inr ⟨_,rfl⟩ | exact Or.inl ⟨rfl,rfl⟩ | exact Or.inl rfl | refine Or.inr ⟨_,_,rfl,Nat.zero_le _,rfl,?_⟩ | refine ⟨_,_,rfl,?_,?_⟩ | refine ⟨_,rfl,?_⟩ | exact congrArg (fun z=>DV.v (.int .i64 z)) (wrap64 (by omega) (by omega)) | refine Or.inr (Or.inr (Or.inr ⟨_,_,rfl,?_⟩)) | exact Or.inl rfl | refine Or.inr ?_)) sK lZ (fun r rF hr=>?_);obtain ⟨rfl,z,hz,pV⟩:=hr;simp only [List.cons.injEq,and_true] at hz;subst hz;exact ⟨_,_,ax,ax,bu (tk:=[]) (f:=(wrong (.mk u us) (depth + 1) m).1) hS pV⟩
theorem Dl (k:Nat) (ih:N8 k) (h:Hd) (ps:Pts) (depth m:Int) (hk:ps.wt<=k) (cr:(Ty.mk h ps).wt<=1099511627776) (yV:0<=depth) (E5:depth<=25) (jG:0<=m) (fH:m<=512) :
  Ev prog 137 [.loc 0 0,.agg (dV (.mk h ps)),.v (.int .i64 depth)] [[.v (.int .i64 m)]] [] (Gc (wrong (.mk h ps) depth m)):=by
 have zn:=cr;simp only [Ty.wt,Hd.wt] at zn;have rb:IntKind.i64.wrap (m + 1)=m + 1:=wrap64 (by omega) (by omega);have hS:=wrong.eq_def (.mk h ps) depth m;simp only at hS;generalize wrong (.mk h ps) depth m=F at hS ⊢;have E9:=Kb h ps;rw [IA] at E9;refine eG 103 [.cell 6 41] func137 rfl ntmps137 rfl fun _ _ _ _=>?_;refine br ?_ ?_<;>intro c
 ·have c:24 < depth:=of_decide_eq_true c;rw [if_pos c] at hS;refine cP dZ (bA 6 h.aD) ?_;exact ⟨_,[[.v (.int .i64 (m + 1))]],ax,(wC1 rb),bu (tk:=[]) (f:=(6,h.aD)) hS (fun _=>rfl)⟩
 have c:¬ 24 < depth:=of_decide_eq_false c;rw [if_neg c] at hS;refine br ?_ ?_<;>intro c
 ·have c:512 < IntKind.i64.wrap (m + 1):=of_decide_eq_true c;rw [rb] at c;rw [if_pos c] at hS;refine cP dZ (bA 8 h.aD) ?_;exact ⟨_,[[.v (.int .i64 (m + 1))]],ax,(wC1 rb),bu (tk:=[]) (f:=(8,h.aD)) hS (fun _=>rfl)⟩
 have c:¬ 512 < IntKind.i64.wrap (m + 1):=of_decide_eq_false c;rw [rb] at c;rw [if_neg c] at hS;refine br ?_ ?_<;>intro c
 ·have c:h.ag < 1∨9 < h.ag:=by simpa [ap] using c
  rw [if_pos c] at hS;refine cP dZ (bA 14 h.aD) ?_;exact ⟨_,[[.v (.int .i64 (m + 1))]],ax,(wC1 rb),bu (tk:=[]) (f:=(14,h.aD)) hS (fun _=>rfl)⟩
 have ck:¬ (h.ag < 1∨9 < h.ag):=by simp [ap] at c;omega
 rw [if_neg ck] at hS;refine cP ZC E9 ?_;refine br ?_ ?_<;>intro c
 ·have c:tJ (.mk h ps)=false:=by simpa [tJ] using c
  rw [if_pos c] at hS;refine cP dZ (bA 19 h.aD) ?_;exact ⟨_,[[.v (.int .i64 (m + 1))]],ax,(wC1 rb),bu (tk:=[]) (f:=(19,h.aD)) hS (fun _=>rfl)⟩
 have c:¬ tJ (.mk h ps)=false:=by simpa [tJ] using c
 rw [if_neg c] at hS;refine br ?_ ?_<;>intro k2
 ·have k2:h.ag=2:=of_decide_eq_true k2;refine br ?_ ?_<;>intro x
  ·have x:h.hi < h.lo:=of_decide_eq_true x;rw [if_pos (.inl ⟨k2,x⟩)] at hS;refine cP dZ (bA 20 h.aD) ?_;exact ⟨_,[[.v (.int .i64 (m + 1))]],ax,(wC1 rb),bu (tk:=[]) (f:=(20,h.aD)) hS (fun _=>rfl)⟩
  have x:¬ h.hi < h.lo:=of_decide_eq_false x;rw [if_neg (by omega),if_neg (by omega),if_neg (by omega),if_neg (by omega),if_neg (by omega)] at hS;exact ⟨_,[[.v (.int .i64 (m + 1))]],ax,(wC1 rb),bu (tk:=[]) (f:=(0,0)) hS (fun _=>rfl)⟩
 have k2:¬ h.ag=2:=of_decide_eq_false k2;refine br ?_ ?_<;>intro k3
 ·have k3:h.ag=3:=of_decide_eq_true k3;refine br ?_ ?_<;>intro x
  ·have x:h.most < 0∨4096 < h.most:=by simpa [ap] using x
   rw [if_pos (.inr ⟨k3,x⟩)] at hS;refine cP dZ (bA 20 h.aD) ?_;exact ⟨_,[[.v (.int .i64 (m + 1))]],ax,(wC1 rb),bu (tk:=[]) (f:=(20,h.aD)) hS (fun _=>rfl)⟩
  have x:¬ (h.most < 0∨4096 < h.most):=by simp [ap] at x;omega
  rw [if_neg (by omega),if_neg (by omega),if_neg (by omega),if_neg (by omega),if_neg (by omega)] at hS;exact ⟨_,[[.v (.int .i64 (m + 1))]],ax,(wC1 rb),bu (tk:=[]) (f:=(0,0)) hS (fun _=>rfl)⟩
 have k3:¬ h.ag=3:=of_decide_eq_false k3;rw [if_neg (by omega)] at hS;refine br ?_ ?_<;>intro k4
 ·have k4:h.ag=4:=of_decide_eq_true k4;rw [if_neg (by omega),if_pos k4,<- NS] at hS;refine cP ZD (FQ h ps (by omega)) ?_;exact ⟨_,[[.v (.int .i64 (m + 1))]],ax,(wC1 rb),bu (tk:=[]) (f:=mQ h) hS (fun _=>rfl)⟩
 have k4:¬ h.ag=4:=of_decide_eq_false k4;refine br ?_ ?_<;>intro k5
 ·have k5':h.ag=5∨h.ag=6:=.inl (of_decide_eq_true k5);rw [if_neg (by omega),if_neg (by omega),if_pos k5'] at hS;refine br (fun _=>?_) (fun hc=>by rw [k5] at hc;cases hc);refine lM TG rfl rfl (cs':=[.v (.int .i64 (m + 1))]) (wC1 rb) ax (zm k ih h ps depth (m + 1) hk cr yV (by omega) (by omega) (by omega)) lZ (fun r rF hr=>?_);obtain ⟨rfl,z,hz,pV⟩:=hr;simp only [List.cons.injEq,and_true] at hz;subst hz;exact ⟨_,_,ax,ax,bu (tk:=[]) (f:=(wrongOne h ps depth (m + 1)).1) hS pV⟩
 have k5:¬ h.ag=5:=of_decide_eq_false k5;refine br ?_ ?_<;>intro k6
 ·have k5':h.ag=5∨h.ag=6:=.inr (of_decide_eq_true k6);rw [if_neg (by omega),if_neg (by omega),if_pos k5'] at hS;refine lM TG rfl rfl (cs':=[.v (.int .i64 (m + 1))]) (wC1 rb) ax (zm k ih h ps depth (m + 1) hk cr yV (by omega) (by omega) (by omega)) lZ (fun r rF hr=>?_);obtain ⟨rfl,z,hz,pV⟩:=hr;simp only [List.cons.injEq,and_true] at hz;subst hz;exact ⟨_,_,ax,ax,bu (tk:=[]) (f:=(wrongOne h ps depth (m + 1)).1) hS pV⟩
 have k6:¬ h.ag=6:=of_decide_eq_false k6;have hP:eU h ps depth (m + 1)=eU h ps depth (m + 1):=rfl
 conv at hP=>lhs;unfold eU
 refine br ?_ ?_<;>intro k7
 ·have k7':h.ag=7∨h.ag=8:=.inl (of_decide_eq_true k7);rw [if_neg (by omega),if_neg (by omega),if_neg (by omega),if_pos k7',hP] at hS;refine br (fun _=>?_) (fun hc=>by rw [k7] at hc;cases hc);refine lM TH rfl rfl (cs':=[.v (.int .i64 (m + 1))]) (wC1 rb) ax (sY k ih h ps depth (m + 1) k7' hk cr yV (by omega) (by omega) (by omega)) lZ (fun r rF hr=>?_);obtain ⟨rfl,z,hz,pV⟩:=hr;simp only [List.cons.injEq,and_true] at hz;subst hz;exact ⟨_,_,ax,ax,bu (tk:=[]) (f:=(eU h ps depth (m + 1)).1) hS pV⟩
 have k7:¬ h.ag=7:=of_decide_eq_false k7;refine br ?_ ?_<;>intro k8
 ·have k7':h.ag=7∨h.ag=8:=.inr (of_decide_eq_true k8);rw [if_neg (by omega),if_neg (by omega),if_neg (by omega),if_pos k7',hP] at hS;refine lM TH rfl rfl (cs':=[.v (.int .i64 (m + 1))]) (wC1 rb) ax (sY k ih h ps depth (m + 1) k7' hk cr yV (by omega) (by omega) (by omega)) lZ (fun r rF hr=>?_);obtain ⟨rfl,z,hz,pV⟩:=hr;simp only [List.cons.injEq,and_true] at hz;subst hz;exact ⟨_,_,ax,ax,bu (tk:=[]) (f:=(eU h ps depth (m + 1)).1) hS pV⟩
 have k8:¬ h.ag=8:=of_decide_eq_false k8;refine br ?_ ?_<;>intro k9
 ·have k9:h.ag=9:=of_decide_eq_true k9;refine cP FE (iw h.name.s (by simp only [Wd.wt] at zn;omega)) ?_;refine br ?_ ?_<;>intro q
  ·have q:bd h.name.s=false:=sU q;rw [if_pos ⟨k9,q⟩] at hS;refine cP dZ (bA 9 h.name.a) ?_;exact ⟨_,[[.v (.int .i64 (m + 1))]],ax,(wC1 rb),bu (tk:=[]) (f:=(9,h.name.a)) hS (fun _=>rfl)⟩
  ·have q:bd h.name.s=true:=sU q;rw [if_neg (by simp [q]),if_neg (by omega),if_neg (by omega),if_neg (by omega)] at hS;exact ⟨_,[[.v (.int .i64 (m + 1))]],ax,(wC1 rb),bu (tk:=[]) (f:=(0,0)) hS (fun _=>rfl)⟩
 have k9:¬ h.ag=9:=of_decide_eq_false k9;rw [if_neg (by omega),if_neg (by omega),if_neg (by omega),if_neg (by omega)] at hS;exact ⟨_,[[.v (.int .i64 (m + 1))]],ax,(wC1 rb),bu (tk:=[]) (f:=(0,0)) hS (fun _=>rfl)⟩
theorem Dm:∀ k,N8 k
 | 0=>fun t depth m hk=>by have:=t.dh;omega
 | k + 1=>fun t depth m hk cr yV E5 jG fH=>by
  obtain ⟨h,ps⟩:=t;have fF:=hk;simp only [Ty.wt,Hd.wt] at fF;exact Dl k (Dm k) h ps depth m (by omega) cr yV E5 jG fH
theorem Dp (t:Ty) (cr:t.wt<=1099511627776):EvP prog 76 [.agg (dV t)] (wrong t 1 0).1.d:=
 Kc t (Dm t.wt t 1 0 (Nat.le_refl _) cr (by omega) (by omega) (by omega) (by omega))
abbrev IY (t:Ty) (ps:Pts) (e n:Nat):St:=
 ⟨[(1,⟨[],.loc 0 0⟩),(3,⟨[],.v (.int .i64 n)⟩),(7,⟨[],.sl 18 (fA ps) none⟩),(8,⟨[],.v (.int .i64 (fA ps).length)⟩),(9,⟨[],.v (.int .i64 e)⟩)],[dV t],[]⟩
theorem v8:∀ (k:Nat) (t:Ty),t.wt<=k->t.wt<=1099511627776 ->
  EvP prog 77 [.agg (dV t)] (.v (.int .i64 t.cnt))
 | 0,t,hn,_=>by have:=t.dh;omega
 | k + 1,.mk h ps,hn,cr=>by
  simp only [Ty.wt,Hd.wt] at hn cr;have hpl:=ps.fy;have hc:=ps.eF;refine eG 23 [.tmp 2] func77 rfl ntmps77 rfl fun _ _ _ _=>?_
  refine av (fun j st=>∃ (e n:Nat),st=IY (.mk h ps) ps e n/\e<=ps.len/\n + (ps.drop e).cnt=1 + ps.cnt/\j=ps.len - e) ps.len
   (IY (.mk h ps) ps 0 1) (weak_mk ⟨_,rfl⟩ wA rfl rfl rfl wB) ⟨0,1,rfl,by omega,rfl,by omega⟩ ?_
  rintro j st ⟨e,n,rfl,he,aT,rfl⟩;refine br ?_ ?_<;>intro hL
  ·have au:e < ps.len:=by simpa [aH] using hL
   obtain ⟨p,t,hx⟩:=Pts.eE au;have CP:=Pts.gj (mG hx);rw [Pts.drop_cons hx] at aT;simp only [Pts.cnt] at aT;have QH:=t.eF;obtain ⟨u,us⟩:=t;refine iX (bQ hx) ?_;refine br ?_ ?_<;>intro hB
   ·have hB:p.bare=false:=sU hB;rw [hB] at aT;have aT:n + ((Ty.mk u us).cnt + (ps.drop (e + 1)).cnt)=1 + ps.cnt:=aT;refine cP Y5 (v8 k (.mk u us) (by omega) (by omega)) ?_;have sP:IntKind.i64.wrap ((n:Int) + (Ty.mk u us).cnt)=((n + (Ty.mk u us).cnt:Nat):Int):=by rw [wrap64 (by omega) (by omega)];omega
    exact ⟨IY (.mk h ps) ps (e + 1) (n + (Ty.mk u us).cnt),(weak_mk ⟨_,rfl⟩ wA rfl rfl rfl (dm sP (nxt au (by omega)))),ps.len - (e + 1),by omega,e + 1,_,rfl,by omega,by omega,rfl⟩
   ·have hB:p.bare=true:=sU hB;rw [hB] at aT;have aT:n + (0 + (ps.drop (e + 1)).cnt)=1 + ps.cnt:=aT;exact rE ⟨_,by omega,e + 1,n,rfl,by omega,by omega,rfl⟩ (weak_mk ⟨_,rfl⟩ wA rfl rfl rfl (wB1 (nxt au (by omega))))
  ·have aN:e=ps.len:=by simp [aH] at hL;omega
   rw [aN,Pts.cX] at aT;simp only [Pts.cnt] at aT;have e2:(n:Int)=((Ty.mk h ps).cnt:Int):=by simp only [Ty.cnt];omega
   refine (congrArg (fun z=>DV.v (.int .i64 z)) ?_:_=_);exact e2
mutual
def Ty.nn:Ty->Nat
 | .mk h ps=>if h.ag=9 then 0 else 1 + ps.nn
def Pts.nn:Pts->Nat
 | .nil=>0
 | .cons p t r=>(if p.bare then 0 else t.nn) + r.nn
end
mutual
theorem Ty.gm:∀ t:Ty,t.nn<=t.cnt
 | .mk h ps=>by
  have:=Pts.gm ps;simp only [Ty.nn,Ty.cnt];split<;>omega
theorem Pts.gm:∀ ps:Pts,ps.nn<=ps.cnt
 | .nil=>Nat.le_refl _
 | .cons p t r=>by
  have:=Ty.gm t;have:=Pts.gm r;simp only [Pts.nn,Pts.cnt];split<;>omega
end
abbrev RL (t:Ty) (ps:Pts) (e n:Nat):St:=
 ⟨[(1,⟨[],.loc 0 0⟩),(3,⟨[],.v (.int .i64 n)⟩),(10,⟨[],.sl 18 (fA ps) none⟩),(11,⟨[],.v (.int .i64 (fA ps).length)⟩),(12,⟨[],.v (.int .i64 e)⟩)],[dV t],[]⟩
theorem wa:∀ (k:Nat) (t:Ty),t.wt<=k->t.wt<=1099511627776 ->
  EvP prog 81 [.agg (dV t)] (.v (.int .i64 t.nn))
 | 0,t,hn,_=>by have:=t.dh;omega
 | k + 1,.mk h ps,hn,cr=>by
  simp only [Ty.wt,Hd.wt] at hn cr;have hpl:=ps.fy;have hc:=ps.eF;have nK:=ps.gm;refine eG 26 [.tmp 2] func81 rfl ntmps81 rfl fun _ _ _ _=>?_;refine br ?_ ?_<;>intro h9
  ·have h9:h.ag=9:=sU h9;have:(Ty.mk h ps).nn=0:=by simp [Ty.nn,h9]
   rw [this];exact (rfl:_=_)
  have h9:¬ h.ag=9:=sU h9
  refine av (fun j st=>∃ (e n:Nat),st=RL (.mk h ps) ps e n/\e<=ps.len/\n + (ps.drop e).nn=1 + ps.nn/\j=ps.len - e) ps.len
   (RL (.mk h ps) ps 0 1) (weak_mk ⟨_,rfl⟩ wA rfl rfl rfl wB) ⟨0,1,rfl,by omega,rfl,by omega⟩ ?_
  rintro j st ⟨e,n,rfl,he,aT,rfl⟩;refine br ?_ ?_<;>intro hL
  ·have au:e < ps.len:=by simpa [aH] using hL
   obtain ⟨p,t,hx⟩:=Pts.eE au;have CP:=Pts.gj (mG hx);rw [Pts.drop_cons hx] at aT;simp only [Pts.nn] at aT;have QH:=t.eF;have hct2:=t.gm;obtain ⟨u,us⟩:=t;refine iX (bQ hx) ?_;refine br ?_ ?_<;>intro hB
   ·have hB:p.bare=false:=sU hB;rw [hB] at aT;have aT:n + ((Ty.mk u us).nn + (ps.drop (e + 1)).nn)=1 + ps.nn:=aT;refine cP Y6 (wa k (.mk u us) (by omega) (by omega)) ?_;have sP:IntKind.i64.wrap ((n:Int) + (Ty.mk u us).nn)=((n + (Ty.mk u us).nn:Nat):Int):=by rw [wrap64 (by omega) (by omega)];omega
    exact ⟨RL (.mk h ps) ps (e + 1) (n + (Ty.mk u us).nn),(weak_mk ⟨_,rfl⟩ wA rfl rfl rfl (dm sP (nxt au (by omega)))),ps.len - (e + 1),by omega,e + 1,_,rfl,by omega,by omega,rfl⟩
   ·have hB:p.bare=true:=sU hB;rw [hB] at aT;have aT:n + (0 + (ps.drop (e + 1)).nn)=1 + ps.nn:=aT;exact rE ⟨_,by omega,e + 1,n,rfl,by omega,by omega,rfl⟩ (weak_mk ⟨_,rfl⟩ wA rfl rfl rfl (wB1 (nxt au (by omega))))
  ·have aN:e=ps.len:=by simp [aH] at hL;omega
   rw [aN,Pts.cX] at aT;simp only [Pts.nn] at aT;have e2:(n:Int)=((Ty.mk h ps).nn:Int):=by simp only [Ty.nn,if_neg h9];omega
   refine (congrArg (fun z=>DV.v (.int .i64 z)) ?_:_=_);exact e2
structure Lx where
 af:List ByteArray
 aE:List Nat
 rows:List Nat
 js:List Int
 f:Nat->Nat->Bool
def Lx.pd (X:Lx):DV:=.pt (ia X.af (cJ X.af X.aE) X.rows X.js) 0
def Lx.lev (X:Lx) (l:List Wd):Int:=A5 X.f X.af l
def Lx.bad (X:Lx) (l:List Wd):Ft:=labW X.af l
structure Lx.OK (X:Lx):Prop where
 hT:ie X.af X.aE
 kK:X.aE.length<=1099511627776
 hL:dN X.f X.af.length
 hn:X.af.length<=32
 hj:∀ x y,x < X.af.length->y < X.af.length->JM X.f X.af.length X.js x y
theorem Lx.qx {X:Lx} (h:X.OK) (l:List Wd) (hs:wdsWt l<=1099511627776):EvP prog 79 [X.pd,.sl 2 (bG l) none] (.tup [.v (.int .i64 (X.lev l)),(X.bad l).d]):=
 N7 X.af X.aE X.rows X.js h.hT h.kK h.hL h.hn h.hj l hs
def bC (s:Sch) (lat out:DV) (m:Int):List DV:=.sl 2 (bG s.ae) none :: .sl 4 (mn s.order) none :: .sl 11 (dNms s.types) none :: (dV s.root ++ [lat,out,.v (.int .i64 m)])
theorem wb {X:Lx} (h:X.OK) (s:Sch) (pc:List DV) (m:Int) (l:List Wd) (hs:wdsWt l<=1099511627776) :
  EvP prog 142 [.pt (bC s X.pd (.pt pc 0) m) 0,.sl 2 (bG l) none] (.v (.int .i64 (X.lev l))):=by
 obtain ⟨ae,order,types,⟨rh,rp⟩⟩:=s;refine eG 17 [.tmp 4] func142 rfl ntmps142 rfl fun _ _ _ _=>?_;refine cP ML (Lx.qx h l hs) ?_;exact (rfl:_=_)
def tN (s:Sch):List Wd:=s.types.map fun x=>x.1
def tL (s:Sch):List ByteArray:=ay (tN s)
theorem IZ (s:Sch):(tN s).length=s.types.length:=by simp [tN]
theorem jT (s:Sch):(tL s).length=s.types.length:=by simp [tL,ay,tN]
def pC (s:Sch) (aE:List Nat) (a b c e:DV):List DV:=[a,b,c,.pt (cJ (tL s) aE) 0,e]
def tO (s:Sch) (t:Ty):Bool:=decide (t.h.ag=9->cM (tL s) t.h.name.s≠none)
def endI (s:Sch):Nat->Nat->Option Nat
 | 0,_=>none
 | k + 1,i=>
  match s.types[i]? with
  | none=>none
  | some x=>if x.2.h.ag=9 then endI s k ((cM (tL s) x.2.h.name.s).getD 0) else some i
theorem qy {s:Sch}:∀ {k i j:Nat},endI s k i=some j->j < s.types.length/\∀ x,s.types[j]? = some x->x.2.h.ag≠9
 | 0,i,j,h=>by cases h
 | k + 1,i,j,h=>by
  rw [endI] at h
  cases hx:s.types[i]? with
  | none=>rw [hx] at h;cases h
  | some x=>
   rw [hx] at h;simp only at h;split at h
   ·exact qy h
   ·rename_i hk;simp only [oI] at h;subst h;refine ⟨(gS hx).1,fun y hy=>?_⟩;rw [hx] at hy;simp only [oI] at hy;subst hy;exact hk
abbrev Oa (B:DV) (n i e:Nat):St:=
 ⟨[(0,⟨[],B⟩),(1,⟨[],.v (.int .i64 i)⟩),(12,⟨[],.v (.int .i64 n)⟩),(13,⟨[],.v (.int .i64 e)⟩)],[],[]⟩
theorem Dq (s:Sch) (lat:DV) (aE:List Nat) (a b c e0:DV) (m:Int) (hT:ie (tL s) aE) (kK:aE.length<=1099511627776) (hl:s.types.length<=64) (hr:∀ x∈s.types,tO s x.2=true) (i:Nat) (hi:i < s.types.length) :
  EvP prog 80 [.pt (bC s lat (.pt (pC s aE a b c e0) 0) m) 0,.v (.int .i64 i)] (.v (.int .i64 (oz (endI s (s.types.length + 1) i)))):=by
 have eZ:=jT s;obtain ⟨ae,order,types,⟨rh,rp⟩⟩:=s;simp only at hl hr hi eZ;have hN:=aal types;have hcnt:IntKind.i64.wrap ((((dNms types).length:Nat):Int) + 1)=((types.length + 1:Nat):Int):=by rw [hN,wrap64 (by omega) (by omega)];all_goals rfl
 refine eG 43 [.tmp 4] func80 rfl ntmps80 rfl fun _ _ _ _=>?_
 refine av (fun j st=>∃ e q:Nat,st=Oa (.pt (bC ⟨ae,order,types,.mk rh rp⟩ lat (.pt (pC ⟨ae,order,types,.mk rh rp⟩ aE a b c e0) 0) m) 0) (types.length + 1) q e/\e<=types.length + 1/\q < types.length/\endI ⟨ae,order,types,.mk rh rp⟩ (types.length + 1) i=endI ⟨ae,order,types,.mk rh rp⟩ (types.length + 1 - e) q/\j=types.length + 1 - e) (types.length + 1)
  (Oa (.pt (bC ⟨ae,order,types,.mk rh rp⟩ lat (.pt (pC ⟨ae,order,types,.mk rh rp⟩ aE a b c e0) 0) m) 0) (types.length + 1) i 0) (weak_mk ⟨_,rfl⟩ wA rfl rfl rfl (wB1 hcnt)) ⟨0,i,rfl,by omega,hi,rfl,by omega⟩ ?_
 rintro j st ⟨e,q,rfl,he,hq,aK,rfl⟩;refine br ?_ ?_<;>intro hL
 ·have au:e < types.length + 1:=by have:=hL;simp at this;omega
  obtain ⟨x,hx⟩:∃ x,types[q]? = some x:=⟨_,gE hq⟩;have hrx:=hr x (mG hx);obtain ⟨xw,⟨xh,xp⟩⟩:=x
  have aU:endI ⟨ae,order,types,.mk rh rp⟩ (types.length + 1 - e) q=if xh.ag=9 then endI ⟨ae,order,types,.mk rh rp⟩ (types.length + 1 - (e + 1)) ((cM (tL ⟨ae,order,types,.mk rh rp⟩) xh.name.s).getD 0) else some q:=by
   rw [show types.length + 1 - e=(types.length + 1 - (e + 1)) + 1 by omega,endI];simp only [hx];rfl
  rw [aU] at aK;refine iX (dNms_get hx) ?_;refine br ?_ ?_<;>intro h9
  ·have h9:¬ xh.ag=9:=sU h9;rw [if_neg h9] at aK;rw [aK];exact (rfl:_=_)
  have h9:xh.ag=9:=sU h9;rw [if_pos h9] at aK
  have aT:cM (tL ⟨ae,order,types,.mk rh rp⟩) xh.name.s≠none:=by
   have:=of_decide_eq_true hrx;exact this h9
  obtain ⟨k,hk⟩:=Option.ne_none_iff_exists'.1 aT;have jm:=(cR hk).1;rw [hk] at aK;have hf:=iD (tL ⟨ae,order,types,.mk rh rp⟩) aE xh.name.s hT kK;rw [hk] at hf;refine dI ?_;refine cD u9 hf ?_;exact rE ⟨_,by omega,e + 1,k,rfl,by omega,by omega,aK,rfl⟩ (weak_mk ⟨_,rfl⟩ wA rfl rfl rfl (wB1 (nxt au (by omega))))
 ·have aN:e=types.length + 1:=by have:=hL;simp at this;omega
  subst aN;rw [Nat.sub_self] at aK;rw [aK];exact (rfl:_=_)
def loopF (s:Sch):Ft:=
 match bR (fun i=>(endI s (s.types.length + 1) i).isNone) s.types.length with
 | none=>(0,0)
 | some i=>(11,V7 (tN s) i)
abbrev A6 (B:DV) (s:Sch) (e:Nat):St:=
 ⟨[(0,⟨[],B⟩),(2,⟨[],.loc 0 0⟩),(9,⟨[],.sl 11 (dNms s.types) none⟩),(10,⟨[],.v (.int .i64 (dNms s.types).length)⟩),(11,⟨[],.v (.int .i64 e)⟩)],[[.v (.int .i64 0),.v (.int .i64 0)]],[]⟩
theorem Ge (s:Sch) (lat:DV) (aE:List Nat) (a b c e0:DV) (m:Int) (hT:ie (tL s) aE) (kK:aE.length<=1099511627776) (hl:s.types.length<=64) (hr:∀ x∈s.types,tO s x.2=true) :
  EvP prog 31 [.pt (bC s lat (.pt (pC s aE a b c e0) 0) m) 0] (loopF s).d:=by
 have kW:=Dq s lat aE a b c e0 m hT kK hl hr;have hN:=aal s.types;have hF:=loopF.eq_1 s;obtain ⟨ae,order,types,⟨rh,rp⟩⟩:=s;simp only at hl hr kW hN;refine eG 26 [.cell 2 41] func31 rfl ntmps31 rfl fun _ _ _ _=>?_
 refine av (fun j st=>∃ e:Nat,st=A6 (.pt (bC ⟨ae,order,types,.mk rh rp⟩ lat (.pt (pC ⟨ae,order,types,.mk rh rp⟩ aE a b c e0) 0) m) 0) ⟨ae,order,types,.mk rh rp⟩ e/\e<=types.length/\(∀ i,i < e->(endI ⟨ae,order,types,.mk rh rp⟩ (types.length + 1) i).isNone=false)/\j=types.length - e) types.length
  (A6 (.pt (bC ⟨ae,order,types,.mk rh rp⟩ lat (.pt (pC ⟨ae,order,types,.mk rh rp⟩ aE a b c e0) 0) m) 0) ⟨ae,order,types,.mk rh rp⟩ 0) (weak_mk ⟨_,rfl⟩ wA rfl rfl rfl wB) ⟨0,rfl,by omega,fun _ h=>by omega,by omega⟩ ?_
 rintro j st ⟨e,rfl,he,eS,rfl⟩;refine br ?_ ?_<;>intro hL
 ·have au:e < types.length:=by have:=hL;simp [hN] at this;exact this
  obtain ⟨x,hx⟩:=gX au;have Wa:(tN ⟨ae,order,types,.mk rh rp⟩)[e]? = some x.1:=by simp [tN,hx]
  have h1:=kW e au;obtain ⟨xw,⟨xh,xp⟩⟩:=x;refine iX (dNms_get hx) ?_;refine cP en80 h1 ?_
  cases hE:endI ⟨ae,order,types,.mk rh rp⟩ (types.length + 1) e with
  | none=>
   have B0:=cF (p:=fun i=>(endI ⟨ae,order,types,.mk rh rp⟩ (types.length + 1) i).isNone) au (by simp only [hE];rfl) eS;simp only [B0] at hF;rw [kg Wa] at hF;refine ⟨_,?_,rfl⟩;rw [hF];exact ax
  | some k=>
   refine ⟨A6 (.pt (bC ⟨ae,order,types,.mk rh rp⟩ lat (.pt (pC ⟨ae,order,types,.mk rh rp⟩ aE a b c e0) 0) m) 0) ⟨ae,order,types,.mk rh rp⟩ (e + 1),(weak_mk ⟨_,rfl⟩ wA rfl rfl rfl (wB1 (nxt au (by omega)))),types.length - (e + 1),by omega,e + 1,rfl,by omega,fun i hi=>?_,rfl⟩;rcases Nat.lt_succ_iff_lt_or_eq.1 hi with hi | rfl
   ·exact eS i hi
   ·rw [hE];all_goals rfl
 ·have aN:e=types.length:=sW hN hL;subst aN;simp only [cL eS] at hF;refine ⟨_,?_,rfl⟩;rw [hF];exact ax
mutual
def knT (X:Lx) (L:List ByteArray):Ty->Ft
 | .mk h ps=>if h.ag=9/\cM L h.name.s=none then (15,h.name.a) else knP X L ps
def knP (X:Lx) (L:List ByteArray):Pts->Ft
 | .nil=>(0,0)
 | .cons p t r=>if (X.bad p.label).1≠0 then X.bad p.label else if (X.bad p.cl).1≠0 then X.bad p.cl else if p.bare then knP X L r else if (knT X L t).1≠0 then knT X L t else knP X L r
end
abbrev Ds (B:DV) (t:Ty) (ps:Pts) (e:Nat):St:=
 ⟨[(0,⟨[],B⟩),(3,⟨[],.loc 0 0⟩),(4,⟨[],.loc 1 0⟩),(38,⟨[],.sl 18 (fA ps) none⟩),(39,⟨[],.v (.int .i64 (fA ps).length)⟩),(40,⟨[],.v (.int .i64 e)⟩)],[dV t,[.v (.int .i64 0),.v (.int .i64 0)]],[]⟩
abbrev sZ (B:DV) (t:Ty) (ps:Pts) (p:Ph) (u:Ty) (e q:Nat):St:=
 ⟨[(0,⟨[],B⟩),(3,⟨[],.loc 0 0⟩),(4,⟨[],.loc 1 0⟩),(38,⟨[],.sl 18 (fA ps) none⟩),(39,⟨[],.v (.int .i64 (fA ps).length)⟩),(40,⟨[],.v (.int .i64 e)⟩),(8,⟨[],.loc 2 0⟩),(49,⟨[],.sl 1 [[.sl 2 (bG p.label) none],[.sl 2 (bG p.cl) none]] none⟩),(50,⟨[],.v (.int .i64 (2:Nat))⟩),(51,⟨[],.v (.int .i64 q)⟩)],[dV t,[.v (.int .i64 0),.v (.int .i64 0)],FF p (dV u)],[]⟩
theorem we {X:Lx} (hX:X.OK) (s:Sch) (aE:List Nat) (a b c e0:DV) (m:Int) (hT:ie (tL s) aE) (kK:aE.length<=1099511627776):∀ (k:Nat) (t:Ty),t.wt<=k->t.wt<=1099511627776 ->
  EvP prog 30 [.pt (bC s X.pd (.pt (pC s aE a b c e0) 0) m) 0,.agg (dV t)] (knT X (tL s) t).d
 | 0,t,hn,_=>by have:=t.dh;omega
 | k + 1,.mk h ps,hn,cr=>by
  have ih:=we hX s aE a b c e0 m hT kK k;simp only [Ty.wt,Hd.wt] at hn cr;have hpl:=ps.fy;obtain ⟨ae,order,types,⟨rh,rp⟩⟩:=s;have hf:=iD (tL ⟨ae,order,types,.mk rh rp⟩) aE h.name.s hT kK;have hS:knT X (tL ⟨ae,order,types,.mk rh rp⟩) (.mk h ps)=if h.ag=9/\cM (tL ⟨ae,order,types,.mk rh rp⟩) h.name.s=none then (15,h.name.a) else knP X (tL ⟨ae,order,types,.mk rh rp⟩) ps:=by rw [knT]
  refine eG 81 [.cell 4 41] func30 rfl ntmps30 rfl fun _ _ _ _=>?_;generalize knT X (tL ⟨ae,order,types,.mk rh rp⟩) (.mk h ps)=F at hS ⊢;have XM:knP X (tL ⟨ae,order,types,.mk rh rp⟩) ps=knP X (tL ⟨ae,order,types,.mk rh rp⟩) (ps.drop 0):=by rw [Pts.drop]
  refine br ?_ ?_<;>intro h9
  ·have h9:h.ag=9:=sU h9;refine dI ?_
   cases hx:cM (tL ⟨ae,order,types,.mk rh rp⟩) h.name.s with
   | none=>
    rw [if_pos ⟨h9,hx⟩] at hS;rw [hx] at hf;refine cD u9 hf ?_;refine ⟨_,?_,rfl⟩;rw [hS];exact ax
   | some i=>
    rw [if_neg (by rw [hx];simp),XM] at hS;rw [hx] at hf;refine cD u9 hf ?_;refine lI (fun j st=>∃ e:Nat,st=Ds (.pt (bC ⟨ae,order,types,.mk rh rp⟩ X.pd (.pt (pC ⟨ae,order,types,.mk rh rp⟩ aE a b c e0) 0) m) 0) (.mk h ps) ps e/\e<=ps.len/\F=knP X (tL ⟨ae,order,types,.mk rh rp⟩) (ps.drop e)/\j=ps.len - e) ⟨0,rfl,by omega,hS,rfl⟩ (weak_mk ⟨_,rfl⟩ wA rfl rfl rfl wB) ?_;rintro j st ⟨e,rfl,he,aK,rfl⟩;refine br ?_ ?_<;>intro hL
    ·have au:e < ps.len:=by simpa [aH] using hL
     obtain ⟨p,t,hx⟩:=Pts.eE au;have CP:=Pts.gj (mG hx);rw [Pts.drop_cons hx] at aK;simp only [knP] at aK;have hw1:wdsWt p.label + wdsWt p.cl<=p.wt:=by simp only [Ph.wt];omega
     obtain ⟨u,us⟩:=t;refine iX (bQ hx) ?_;refine lI (fun j st=>∃ q:Nat,st=sZ (.pt (bC ⟨ae,order,types,.mk rh rp⟩ X.pd (.pt (pC ⟨ae,order,types,.mk rh rp⟩ aE a b c e0) 0) m) 0) (.mk h ps) ps p (.mk u us) e q/\q<=2/\(1<=q->(X.bad p.label).1=0)/\(2<=q->(X.bad p.cl).1=0)/\j=2 - q) ⟨0,rfl,by omega,fun h=>by omega,fun h=>by omega,rfl⟩ (weak_mk ⟨_,rfl⟩ wA rfl rfl rfl wB) ?_;rintro j st ⟨q,rfl,hq,hq1,kJ,rfl⟩;refine br ?_ ?_<;>intro jS
     ·have JI:q=0∨q=1:=by have:=jS;simp at this;omega
      rcases JI with rfl | rfl
      ·refine ⟨_,⟨by omega,rfl⟩,?_⟩;refine cP ML (Lx.qx hX p.label (by omega)) ?_;refine br ?_ ?_<;>intro hb
       ·have hb:(X.bad p.label).1≠0:=sU hb;rw [if_pos hb] at aK;refine ⟨_,?_,rfl⟩;rw [aK];exact ax
       ·have hb:(X.bad p.label).1=0:=sU hb;exact ⟨sZ (.pt (bC ⟨ae,order,types,.mk rh rp⟩ X.pd (.pt (pC ⟨ae,order,types,.mk rh rp⟩ aE a b c e0) 0) m) 0) (.mk h ps) ps p (.mk u us) e 1,(weak_mk ⟨_,rfl⟩ wA rfl rfl rfl (wB1 (nxt (e:=0) (n:=2) (by omega) (by omega)))),1,by omega,1,rfl,by omega,fun _=>hb,fun h=>by omega,rfl⟩
      ·have gH:=hq1 (by omega);refine ⟨_,⟨by omega,rfl⟩,?_⟩;refine cP ML (Lx.qx hX p.cl (by omega)) ?_;refine br ?_ ?_<;>intro hb
       ·have hb:(X.bad p.cl).1≠0:=sU hb;rw [if_neg (by rw [gH];simp),if_pos hb] at aK;refine ⟨_,?_,rfl⟩;rw [aK];exact ax
       ·have hb:(X.bad p.cl).1=0:=sU hb;exact ⟨sZ (.pt (bC ⟨ae,order,types,.mk rh rp⟩ X.pd (.pt (pC ⟨ae,order,types,.mk rh rp⟩ aE a b c e0) 0) m) 0) (.mk h ps) ps p (.mk u us) e 2,(weak_mk ⟨_,rfl⟩ wA rfl rfl rfl (wB1 (nxt (e:=1) (n:=2) (by omega) (by omega)))),0,by omega,2,rfl,by omega,fun _=>gH,fun _=>hb,rfl⟩
     ·have JI:q=2:=by have:=jS;simp at this;omega
      subst JI;have gH:=hq1 (by omega);have eN:=kJ (by omega);rw [if_neg (by rw [gH];simp),if_neg (by rw [eN];simp)] at aK;refine br ?_ ?_<;>intro hB
      ·have hB:p.bare=true:=hB;rw [if_pos hB] at aK;exact rE ⟨_,by omega,e + 1,rfl,by omega,aK,rfl⟩ (weak_mk ⟨_,rfl⟩ wA rfl rfl rfl (wB1 (nxt au (by omega))))
      ·have hB:p.bare=false:=hB;rw [if_neg (by rw [hB];decide)] at aK;refine cP Vr (ih (.mk u us) (by omega) (by omega)) ?_;refine br ?_ ?_<;>intro hb
       ·have hb:(knT X (tL ⟨ae,order,types,.mk rh rp⟩) (.mk u us)).1≠0:=sU hb;rw [if_pos hb] at aK;refine ⟨_,?_,rfl⟩;rw [aK];exact ax
       ·have hb:(knT X (tL ⟨ae,order,types,.mk rh rp⟩) (.mk u us)).1=0:=sU hb;rw [if_neg (by rw [hb];simp)] at aK;exact rE ⟨_,by omega,e + 1,rfl,by omega,aK,rfl⟩ (weak_mk ⟨_,rfl⟩ wA rfl rfl rfl (wB1 (nxt au (by omega))))
    ·have aN:e=ps.len:=by simp [aH] at hL;omega
     rw [aN,Pts.cX] at aK;simp only [knP] at aK;refine ⟨_,?_,rfl⟩;rw [aK];exact ax
  ·have h9:¬ h.ag=9:=sU h9;rw [if_neg (fun hc=>h9 hc.1),XM] at hS;refine lI (fun j st=>∃ e:Nat,st=Ds (.pt (bC ⟨ae,order,types,.mk rh rp⟩ X.pd (.pt (pC ⟨ae,order,types,.mk rh rp⟩ aE a b c e0) 0) m) 0) (.mk h ps) ps e/\e<=ps.len/\F=knP X (tL ⟨ae,order,types,.mk rh rp⟩) (ps.drop e)/\j=ps.len - e) ⟨0,rfl,by omega,hS,rfl⟩ (weak_mk ⟨_,rfl⟩ wA rfl rfl rfl wB) ?_;rintro j st ⟨e,rfl,he,aK,rfl⟩;refine br ?_ ?_<;>intro hL
   ·have au:e < ps.len:=by simpa [aH] using hL
    obtain ⟨p,t,hx⟩:=Pts.eE au;have CP:=Pts.gj (mG hx);rw [Pts.drop_cons hx] at aK;simp only [knP] at aK;have hw1:wdsWt p.label + wdsWt p.cl<=p.wt:=by simp only [Ph.wt];omega
    obtain ⟨u,us⟩:=t;refine iX (bQ hx) ?_;refine lI (fun j st=>∃ q:Nat,st=sZ (.pt (bC ⟨ae,order,types,.mk rh rp⟩ X.pd (.pt (pC ⟨ae,order,types,.mk rh rp⟩ aE a b c e0) 0) m) 0) (.mk h ps) ps p (.mk u us) e q/\q<=2/\(1<=q->(X.bad p.label).1=0)/\(2<=q->(X.bad p.cl).1=0)/\j=2 - q) ⟨0,rfl,by omega,fun h=>by omega,fun h=>by omega,rfl⟩ (weak_mk ⟨_,rfl⟩ wA rfl rfl rfl wB) ?_;rintro j st ⟨q,rfl,hq,hq1,kJ,rfl⟩;refine br ?_ ?_<;>intro jS
    ·have JI:q=0∨q=1:=by have:=jS;simp at this;omega
     rcases JI with rfl | rfl
     ·refine ⟨_,⟨by omega,rfl⟩,?_⟩;refine cP ML (Lx.qx hX p.label (by omega)) ?_;refine br ?_ ?_<;>intro hb
      ·have hb:(X.bad p.label).1≠0:=sU hb;rw [if_pos hb] at aK;refine ⟨_,?_,rfl⟩;rw [aK];exact ax
      ·have hb:(X.bad p.label).1=0:=sU hb;exact ⟨sZ (.pt (bC ⟨ae,order,types,.mk rh rp⟩ X.pd (.pt (pC ⟨ae,order,types,.mk rh rp⟩ aE a b c e0) 0) m) 0) (.mk h ps) ps p (.mk u us) e 1,(weak_mk ⟨_,rfl⟩ wA rfl rfl rfl (wB1 (nxt (e:=0) (n:=2) (by omega) (by omega)))),1,by omega,1,rfl,by omega,fun _=>hb,fun h=>by omega,rfl⟩
     ·have gH:=hq1 (by omega);refine ⟨_,⟨by omega,rfl⟩,?_⟩;refine cP ML (Lx.qx hX p.cl (by omega)) ?_;refine br ?_ ?_<;>intro hb
      ·have hb:(X.bad p.cl).1≠0:=sU hb;rw [if_neg (by rw [gH];simp),if_pos hb] at aK;refine ⟨_,?_,rfl⟩;rw [aK];exact ax
      ·have hb:(X.bad p.cl).1=0:=sU hb;exact ⟨sZ (.pt (bC ⟨ae,order,types,.mk rh rp⟩ X.pd (.pt (pC ⟨ae,order,types,.mk rh rp⟩ aE a b c e0) 0) m) 0) (.mk h ps) ps p (.mk u us) e 2,(weak_mk ⟨_,rfl⟩ wA rfl rfl rfl (wB1 (nxt (e:=1) (n:=2) (by omega) (by omega)))),0,by omega,2,rfl,by omega,fun _=>gH,fun _=>hb,rfl⟩
    ·have JI:q=2:=by have:=jS;simp at this;omega
     subst JI;have gH:=hq1 (by omega);have eN:=kJ (by omega);rw [if_neg (by rw [gH];simp),if_neg (by rw [eN];simp)] at aK;refine br ?_ ?_<;>intro hB
     ·have hB:p.bare=true:=hB;rw [if_pos hB] at aK;exact rE ⟨_,by omega,e + 1,rfl,by omega,aK,rfl⟩ (weak_mk ⟨_,rfl⟩ wA rfl rfl rfl (wB1 (nxt au (by omega))))
     ·have hB:p.bare=false:=hB;rw [if_neg (by rw [hB];decide)] at aK;refine cP Vr (ih (.mk u us) (by omega) (by omega)) ?_;refine br ?_ ?_<;>intro hb
      ·have hb:(knT X (tL ⟨ae,order,types,.mk rh rp⟩) (.mk u us)).1≠0:=sU hb;rw [if_pos hb] at aK;refine ⟨_,?_,rfl⟩;rw [aK];exact ax
      ·have hb:(knT X (tL ⟨ae,order,types,.mk rh rp⟩) (.mk u us)).1=0:=sU hb;rw [if_neg (by rw [hb];simp)] at aK;exact rE ⟨_,by omega,e + 1,rfl,by omega,aK,rfl⟩ (weak_mk ⟨_,rfl⟩ wA rfl rfl rfl (wB1 (nxt au (by omega))))
   ·have aN:e=ps.len:=by simp [aH] at hL;omega
    rw [aN,Pts.cX] at aK;simp only [knP] at aK;refine ⟨_,?_,rfl⟩;rw [aK];exact ax
def eaL (F:Ty->Ft) (z:Ft):List (Wd × Ty)->Ft
 | []=>z
 | x :: r=>if (F x.2).1≠0 then F x.2 else eaL F z r
theorem Ob {F:Ty->Ft} {z:Ft} {l:List (Wd × Ty)} {e:Nat} {x:Wd × Ty} (h:l[e]? = some x):eaL F z (l.drop e)=if (F x.2).1≠0 then F x.2 else eaL F z (l.drop (e + 1)):=by
 rw [drop_cons h,eaL]
abbrev Gf (B:DV) (fn:DV) (types:List (Wd × Ty)) (e:Nat):St:=
 ⟨[(0,⟨[],B⟩),(1,⟨[],fn⟩),(4,⟨[],.loc 0 0⟩),(12,⟨[],.sl 11 (dNms types) none⟩),(13,⟨[],.v (.int .i64 (dNms types).length)⟩),(14,⟨[],.v (.int .i64 e)⟩)],[[.v (.int .i64 0),.v (.int .i64 0)]],[]⟩
theorem Kx (s:Sch) (lat:DV) (pc:List DV) (m:Int) (hl:s.types.length<=1099511627776) (g:Nat) (hg:Enters prog g) (F:Ty->Ft)
  (hF:∀ t,(t=s.root∨∃ x∈s.types,t=x.2)->EvP prog g [.pt (bC s lat (.pt pc 0) m) 0,.agg (dV t)] (F t).d) :
  EvP prog 28 [.pt (bC s lat (.pt pc 0) m) 0,.fn g [.pt (bC s lat (.pt pc 0) m) 0] []] (eaL F (F s.root) s.types).d:=by
 have hN:=aal s.types;obtain ⟨ae,order,types,⟨rh,rp⟩⟩:=s;simp only at hl hF hN;have gV:=hF (.mk rh rp) (.inl rfl);have Wb:∀ x∈types,_:=fun x hx=>hF x.2 (.inr ⟨x,hx,rfl⟩);clear hF;refine eG 34 [.cell 4 41] func28 rfl ntmps28 rfl fun _ _ _ _=>?_;generalize hG:eaL F (F (.mk rh rp)) types=G;have hG0:G=eaL F (F (.mk rh rp)) (types.drop 0):=by rw [List.drop_zero,hG]
 refine av (fun j st=>∃ e:Nat,st=Gf (.pt (bC ⟨ae,order,types,.mk rh rp⟩ lat (.pt pc 0) m) 0) (.fn g [.pt (bC ⟨ae,order,types,.mk rh rp⟩ lat (.pt pc 0) m) 0] []) types e/\e<=types.length/\G=eaL F (F (.mk rh rp)) (types.drop e)/\j=types.length - e) types.length
  (Gf (.pt (bC ⟨ae,order,types,.mk rh rp⟩ lat (.pt pc 0) m) 0) (.fn g [.pt (bC ⟨ae,order,types,.mk rh rp⟩ lat (.pt pc 0) m) 0] []) types 0) (weak_mk ⟨_,rfl⟩ wA rfl rfl rfl wB) ⟨0,rfl,by omega,hG0,by omega⟩ ?_
 rintro j st ⟨e,rfl,he,aK,rfl⟩;refine br ?_ ?_<;>intro hL
 ·have au:e < types.length:=by have:=hL;simp [hN] at this;exact this
  obtain ⟨x,hx⟩:=gX au;have hp:=Wb x (mG hx);rw [Ob hx] at aK;obtain ⟨xw,⟨xh,xp⟩⟩:=x;refine iX (dNms_get hx) ?_;refine cP hg hp ?_;refine br ?_ ?_<;>intro hf
  ·have hf:(F (.mk xh xp)).1≠0:=sU hf;rw [if_pos hf] at aK;refine ⟨_,?_,rfl⟩;rw [aK];exact ax
  ·have hf:(F (.mk xh xp)).1=0:=sU hf;rw [if_neg (by rw [hf];simp)] at aK;exact rE ⟨_,by omega,e + 1,rfl,by omega,aK,rfl⟩ (weak_mk ⟨_,rfl⟩ wA rfl rfl rfl (wB1 (nxt au (by omega))))
 ·have aN:e=types.length:=sW hN hL;subst aN;rw [List.drop_length,eaL] at aK;refine cP hg gV ?_;refine ⟨_,?_,rfl⟩;rw [aK];exact ax
def bX (t:Ty) (m:Int):Ft × Int:=if (wrong t 1 0).1.1≠0 then ((wrong t 1 0).1,m) else if 512 < m + t.cnt then ((8,t.h.aD),m + t.cnt) else ((0,0),m + t.cnt)
def Oc (s:Sch) (lat:DV) (pc:List DV) (x:Ft × Int) (r:DV) (os:List (List DV)) (_:List TkE):Prop:=r=x.1.d/\os=[bC s lat (.loc 1 0) x.2,pc]
theorem Dt (s:Sch) (lc pc:List DV) (m:Int) (jG:0<=m) (fH:m<=1099511627776) (t:Ty) (cr:t.wt<=1099511627776) (hpc:∀ bx N n0 m0,CcL bx N n0 m0 pc pc) :
  Ev prog 29 [.loc 0 0,.agg (dV t)] [bC s (.pt lc 0) (.loc 1 0) m,pc] [] (Oc s (.pt lc 0) pc (bX t m)):=by
 have hk:=Dp t cr;have hc:=v8 t.wt t (Nat.le_refl _) cr;have E4:=t.eF;have hF:=bX.eq_1 t m;obtain ⟨ae,order,types,⟨rh,rp⟩⟩:=s;obtain ⟨h,ps⟩:=t;generalize bX (.mk h ps) m=R at hF ⊢;refine eG 30 [.cell 4 41] func29 rfl ntmps29 rfl fun _ _ _ _=>?_;refine cP en76 hk ?_;refine br ?_ ?_<;>intro hf
 ·have hf:(wrong (.mk h ps) 1 0).1.1≠0:=sU hf;rw [if_pos hf] at hF;subst hF;exact ⟨Ft.d _,[bC ⟨ae,order,types,.mk rh rp⟩ (.pt lc 0) (.loc 1 0) m,pc],ax,(by repeat' (first | exact rfl | exact trivial | exact Or.inr (Or.inl ⟨_,rfl⟩) | exact Or.inr ⟨_,rfl⟩ | exact Or.inl ⟨rfl,rfl⟩ | exact Or.inl rfl | refine Or.inr ⟨_,_,rfl,Nat.zero_le _,rfl,?_⟩ | refine ⟨_,_,rfl,?_,?_⟩ | refine ⟨_,rfl,?_⟩ | exact hpc _ _ _ _ | exact ⟨nL rfl,rfl⟩ | exact congrArg (fun z=>DV.v (.int .i64 z)) hw | refine Or.inr (Or.inr (Or.inr ⟨_,_,rfl,?_⟩)) | exact Or.inl rfl | refine Or.inr ?_)),rfl,rfl⟩
 have hf:(wrong (.mk h ps) 1 0).1.1=0:=sU hf;rw [if_neg (by rw [hf];simp)] at hF;have hw:IntKind.i64.wrap (m + ((Ty.mk h ps).cnt:Int))=m + ((Ty.mk h ps).cnt:Int):=wrap64 (by omega) (by omega);refine dS ?_;refine cD Y5 hc ?_;refine br ?_ ?_<;>intro hg
 ·have hg:512 < m + ((Ty.mk h ps).cnt:Int):=sV hw hg;rw [if_pos hg] at hF;subst hF;exact ⟨Ft.d _,[bC ⟨ae,order,types,.mk rh rp⟩ (.pt lc 0) (.loc 1 0) (m + (Ty.mk h ps).cnt),pc],ax,(wC2 hpc hw),rfl,rfl⟩
 ·have hg:¬ 512 < m + ((Ty.mk h ps).cnt:Int):=sV hw hg;rw [if_neg hg] at hF;subst hF;exact ⟨Ft.d _,[bC ⟨ae,order,types,.mk rh rp⟩ (.pt lc 0) (.loc 1 0) (m + (Ty.mk h ps).cnt),pc],ax,(wC2 hpc hw),rfl,rfl⟩
def eaR (z:Ty):List (Wd × Ty)->Int->Ft × Int
 | [],m=>bX z m
 | x :: r,m=>if (bX x.2 m).1.1≠0 then bX x.2 m else eaR z r (bX x.2 m).2
theorem Od {z:Ty} {l:List (Wd × Ty)} {e:Nat} {m:Int} {x:Wd × Ty} (h:l[e]? = some x):eaR z (l.drop e) m=if (bX x.2 m).1.1≠0 then bX x.2 m else eaR z (l.drop (e + 1)) (bX x.2 m).2:=by
 rw [drop_cons h,eaR]
theorem nZ {t:Ty} {m:Int} (h:(bX t m).1.1=0):(bX t m).2=m + t.cnt/\(bX t m).2<=512/\(wrong t 1 0).1.1=0/\(bX t m).1=(0,0):=by
 unfold bX at h ⊢;split
 ·rename_i h1;rw [if_pos h1] at h;exact (h1 h).elim
 ·rename_i h1;rw [if_neg h1] at h;split
  ·rename_i h2;rw [if_pos h2] at h;cases h
  ·rename_i h2;refine ⟨rfl,by simpa using h2,by simpa using h1,rfl⟩
abbrev Gg (s:Sch) (aE:List Nat) (lc:List DV):List DV:=pC s aE (.pt lc 0) (.v (.slice none 0 0)) (.v (.int .i64 0)) (.v (.slice none 0 0))
abbrev A7 (s:Sch) (lc pc:List DV) (m:Int) (types:List (Wd × Ty)) (e:Nat):St:=
 ⟨[(0,⟨[],.loc 0 0⟩),(1,⟨[],.fn 29 [.loc 0 0] []⟩),(4,⟨[],.loc 2 0⟩),(12,⟨[],.sl 11 (dNms types) none⟩),(13,⟨[],.v (.int .i64 (dNms types).length)⟩),(14,⟨[],.v (.int .i64 e)⟩)],
  [bC s (.pt lc 0) (.loc 1 0) m,pc,[.v (.int .i64 0),.v (.int .i64 0)]],[]⟩
theorem Gh (s:Sch) (lc:List DV) (aE:List Nat) (m:Int) (jG:0<=m) (fH:m<=512) (hl:s.types.length<=1099511627776) (cr:∀ t,(t=s.root∨∃ x∈s.types,t=x.2)->t.wt<=1099511627776) :
  Ev prog 28 [.loc 0 0,.fn 29 [.loc 0 0] []] [bC s (.pt lc 0) (.loc 1 0) m,Gg s aE lc] [] (Oc s (.pt lc 0) (Gg s aE lc) (eaR s.root s.types m)):=by
 have hN:=aal s.types;have hR:∀ (m':Int),0<=m' -> m' <= 512->∀ t,(t=s.root∨∃ x∈s.types,t=x.2)->_:=fun m' h0 h1 t ht=>Dt s lc (Gg s aE lc) m' h0 (by omega) t (cr t ht) (fun bx N n0 m0=>ax);obtain ⟨ae,order,types,⟨rh,rp⟩⟩:=s;simp only at hl hR hN cr;refine eG 34 [.cell 4 41] func28 rfl ntmps28 rfl fun _ _ _ _=>?_;generalize hG:eaR (.mk rh rp) types m=G;have hG0:G=eaR (.mk rh rp) (types.drop 0) m:=by rw [List.drop_zero,hG]
 refine av (fun j st=>∃ (e:Nat) (m':Int),st=A7 ⟨ae,order,types,.mk rh rp⟩ lc (Gg ⟨ae,order,types,.mk rh rp⟩ aE lc) m' types e/\e<=types.length/\0<=m' /\ m' <= 512/\G=eaR (.mk rh rp) (types.drop e) m' /\ j=types.length - e) types.length
  (A7 ⟨ae,order,types,.mk rh rp⟩ lc (Gg ⟨ae,order,types,.mk rh rp⟩ aE lc) m types 0) (az 3 rfl (by repeat' (first | exact rfl | exact ah rfl | exact rfl | refine ⟨_,_,rfl,?_,?_⟩)) rfl rfl rfl (by repeat' (first | exact trivial | exact ah rfl | exact rfl | refine ⟨⟨_,rfl,?_⟩,?_⟩))) ⟨0,m,rfl,by omega,jG,fH,hG0,by omega⟩ ?_
 rintro j st ⟨e,m',rfl,he,tK,CT,aK,rfl⟩;refine br ?_ ?_<;>intro hL
 ·have au:e < types.length:=by have:=hL;simp [hN] at this;exact this
  obtain ⟨x,hx⟩:=gX au;have hp:=hR m' tK CT x.2 (.inr ⟨x,mG hx,rfl⟩);rw [Od hx] at aK;obtain ⟨xw,⟨xh,xp⟩⟩:=x;refine iX (dNms_get hx) ?_;refine fY 2 0 YS rfl rfl rfl wC0 wC0 hp (fun r gI bU hΦ h1 h2=>?_);obtain ⟨rfl,rfl⟩:=hΦ;have h2:=List.eq_nil_of_length_eq_zero h2;subst h2;refine br ?_ ?_<;>intro hf
  ·have hf:(bX (.mk xh xp) m').1.1≠0:=sU hf;rw [if_pos hf] at aK;subst aK;exact ⟨Ft.d _,[bC ⟨ae,order,types,.mk rh rp⟩ (.pt lc 0) (.loc 1 0) (bX (.mk xh xp) m').2,Gg ⟨ae,order,types,.mk rh rp⟩ aE lc],ax,wC0,rfl,rfl⟩
  ·have hf:(bX (.mk xh xp) m').1.1=0:=sU hf;rw [if_neg (by rw [hf];simp)] at aK;obtain ⟨g1,g2,_,_⟩:=nZ hf;exact ⟨A7 ⟨ae,order,types,.mk rh rp⟩ lc (Gg ⟨ae,order,types,.mk rh rp⟩ aE lc) (bX (.mk xh xp) m').2 types (e + 1),(az 3 rfl (wA1 (nxt au (by omega))) rfl rfl rfl (wB1 (nxt au (by omega)))),types.length - (e + 1),by omega,e + 1,_,rfl,by omega,by omega,g2,aK,rfl⟩
 ·have aN:e=types.length:=sW hN hL;subst aN;rw [List.drop_length,eaR] at aK;refine fY 2 0 YS rfl rfl rfl wC0 wC0 (hR m' tK CT (.mk rh rp) (.inl rfl)) (fun r gI bU hΦ h1 h2=>?_);obtain ⟨rfl,rfl⟩:=hΦ;have h2:=List.eq_nil_of_length_eq_zero h2;subst h2;subst aK;exact ⟨Ft.d _,[bC ⟨ae,order,types,.mk rh rp⟩ (.pt lc 0) (.loc 1 0) (bX (.mk rh rp) m').2,Gg ⟨ae,order,types,.mk rh rp⟩ aE lc],ax,wC0,rfl,rfl⟩
def ei (s:Sch):Ft:=if 64 < s.types.length then (8,V7 (tN s) 64) else enumL (tN s) 0 (tN s)
def RM (s:Sch) (lc:List DV) (r:DV) (os:List (List DV)) (_:List TkE):Prop:=
 r=(ei s).d/\((ei s).1=0->∃ aE,ie (tL s) aE/\aE.length<=s.types.length/\os=[bC s (.pt lc 0) (.loc 1 0) 0,Gg s aE lc])
abbrev Gi (s:Sch) (lc:List DV) (n e:Nat):St:=
 ⟨[(0,⟨[],.loc 0 0⟩),(2,⟨[],.loc 2 0⟩),(3,⟨[],.sl 1 (dM (ay ((tN s).take e))) (some 0)⟩),(27,⟨[],.sl 11 (dNms s.types) none⟩),(28,⟨[],.v (.int .i64 (dNms s.types).length)⟩),(29,⟨[],.v (.int .i64 e)⟩)],
  [bC s (.pt lc 0) (.loc 1 0) 0,[.pt lc 0,.v (.slice none 0 0),.v (.int .i64 0),.v (.pointer none),.v (.slice none 0 0)],[.v (.int .i64 0),.v (.int .i64 0)]],[⟨n,9,1,none⟩]⟩
theorem A8 (s:Sch) (lc:List DV) (hs:nmsWt s.types<=1099511627776) :
  Ev prog 27 [.loc 0 0] [bC s (.pt lc 0) (.loc 1 0) 0,[.pt lc 0,.v (.slice none 0 0),.v (.int .i64 0),.v (.pointer none),.v (.slice none 0 0)]] [] (RM s lc):=by
 have hN:=aal s.types;have fV:=jx s.types;have eZ:=IZ s;have hF:=ei.eq_1 s;have jl:∀ {e:Nat} {x:Wd × Ty},s.types[e]? = some x->(tN s)[e]? = some x.1:=fun h=>by simp [tN,h]
 have eo:=vj (tL s) (by rw [jT];omega);have hTL:tL s=ay (tN s):=rfl
 have hw:∀ x∈s.types,x.1.s.size<=1099511627776:=fun x hx=>by
  have:=gx hx;simp only [Wd.wt] at this;omega
 obtain ⟨ae,order,types,⟨rh,rp⟩⟩:=s;simp only at hs hN fV eZ jl hw hF;generalize hQ:tN ⟨ae,order,types,.mk rh rp⟩=Q at eZ hF jl hTL;refine eG 67 [.cell 2 41] func27 rfl ntmps27 rfl fun _ _ _ _=>?_;refine br ?_ ?_<;>intro h
 ·have h:64 < types.length:=by simp [hN] at h;omega
  obtain ⟨x,hx⟩:∃ x,types[64]? = some x:=⟨_,gE h⟩;have Wa:=jl hx;rw [if_pos h,kg Wa] at hF;obtain ⟨xw,⟨xh,xp⟩⟩:=x;refine iX (dNms_get hx) ?_;refine ⟨Ft.d (8,xw.a),[bC ⟨ae,order,types,.mk rh rp⟩ (.pt lc 0) (.loc 1 0) 0,[.pt lc 0,.v (.slice none 0 0),.v (.int .i64 0),.v (.pointer none),.v (.slice none 0 0)]],ax,wC0,by rw [hF],fun h0=>by rw [hF] at h0;simp at h0⟩
 have h:¬ 64 < types.length:=by simp [hN] at h;omega
 rw [if_neg h] at hF;refine lI (fun j st=>∃ e:Nat,st=Gi ⟨ae,order,types,.mk rh rp⟩ lc e e/\e<=types.length/\(ay (Q.take e)).Nodup/\enumL Q 0 Q=enumL Q e (Q.drop e)/\j=types.length - e) ⟨0,rfl,by omega,by simp [ay],rfl,rfl⟩ (dG 3 ⟨0,9,1,none⟩ rfl rfl rfl wA0 rfl rfl wB0) ?_;rintro j st ⟨e,rfl,he,hnd,aK,rfl⟩;rw [aK] at hF;refine br ?_ ?_<;>intro hL
 ·have au:e < types.length:=by have:=hL;simp [hN] at this;exact this
  obtain ⟨x,hx⟩:=gX au;have T6:=hw x (mG hx);have hq:=jl hx;have fu:=jw hq;have aU:=oZ hq;have hns:=lW hq hnd;have NU:=oU (ay (Q.take (e + 1))) (by simp [ay];omega);rw [<- fu] at NU;obtain ⟨xw,⟨xh,xp⟩⟩:=x;simp only at T6 hq fu aU hns NU;refine iX (dNms_get hx) ?_;rw [hQ];refine ⟨by simp [cg,ay];omega,⟨by simp [cg,ay,maxLen];omega,by simp [cg,ay];omega⟩,?_⟩;refine cP FE (iw xw.s (by omega)) ?_;refine br ?_ ?_<;>intro Gj
  ·have Gj:bd xw.s=false:=sU Gj;have hf:aF Q e xw=9:=by simp [aF,Gj]
   rw [aU,hf,if_pos (by decide)] at hF;refine ⟨Ft.d (9,xw.a),[bC ⟨ae,order,types,.mk rh rp⟩ (.pt lc 0) (.loc 1 0) 0,[.pt lc 0,.v (.slice none 0 0),.v (.int .i64 0),.v (.pointer none),.v (.slice none 0 0)]],ax,wC0,by rw [hF],fun h0=>by rw [hF] at h0;simp at h0⟩
  ·have Gj:bd xw.s=true:=sU Gj;refine bL VB rfl NU ax (fun r hr=>?_);obtain ⟨z,rfl,hz⟩:=hr;refine br ?_ ?_<;>intro h2
   ·have h2:0<=z:=sU h2
    have hd:bI (Q.take e) xw.s=true:=by
     cases hd:bI (Q.take e) xw.s
     ·exact absurd (hns.2 hd) (hz.1 h2)
     ·rfl
    have hf:aF Q e xw=10:=by simp [aF,Gj,hd]
    rw [aU,hf,if_pos (by decide)] at hF;refine ⟨Ft.d (10,xw.a),[bC ⟨ae,order,types,.mk rh rp⟩ (.pt lc 0) (.loc 1 0) 0,[.pt lc 0,.v (.slice none 0 0),.v (.int .i64 0),.v (.pointer none),.v (.slice none 0 0)]],ax,wC0,by rw [hF],fun h0=>by rw [hF] at h0;simp at h0⟩
   ·have h2:¬ 0<=z:=sU h2;have u5:(ay (Q.take (e + 1))).Nodup:=Classical.byContradiction fun hn=>h2 (hz.2 hn);have hf:aF Q e xw=0:=by simp [aF,Gj,hns.1 u5]
    rw [hf,if_neg (by simp)] at aU;have eP:dM (ay (Q.take e)) ++ [[DV.v (.string xw.s)]]=dM (ay ((tN ⟨ae,order,types,.mk rh rp⟩).take (e + 1))):=by rw [hQ];exact fu
    refine ⟨Gi ⟨ae,order,types,.mk rh rp⟩ lc (e + 1) (e + 1),(az 3 rfl (wA2 (nxt au (by omega)) eP) rfl rfl rfl (dm (nxt au (by omega)) eP)),types.length - (e + 1),by omega,e + 1,rfl,by omega,u5,aK.trans aU,rfl⟩
 ·have aN:e=types.length:=sW hN hL;have h0:enumL Q e (Q.drop e)=(0,0):=by rw [aN,<- eZ,List.drop_length];all_goals rfl
  rw [h0] at hF;have ht:Q.take e=Q:=by rw [aN,<- eZ,List.take_length]
  have hEq:ay ((tN ⟨ae,order,types,.mk rh rp⟩).take e)=tL ⟨ae,order,types,.mk rh rp⟩:=by rw [hQ,ht,hTL]
  rw [<- hEq] at eo;refine dS ?_;refine p9 VA rfl eo ax (fun yO hr=>?_);obtain ⟨aE,hT,kK,rfl⟩:=hr;rw [hEq] at hT kK;have hpt:DV.pt (cJ (ay ((tN ⟨ae,order,types,.mk rh rp⟩).take e)) aE) 0=DV.pt (cJ (tL ⟨ae,order,types,.mk rh rp⟩) aE) 0:=congrArg (fun L=>DV.pt (cJ L aE) 0) hEq;rw [jT] at kK;exact ⟨Ft.d (0,0),[bC ⟨ae,order,types,.mk rh rp⟩ (.pt lc 0) (.loc 1 0) 0,Gg ⟨ae,order,types,.mk rh rp⟩ aE lc],ax,(by repeat' (first | exact rfl | exact trivial | exact Or.inr (Or.inl ⟨_,rfl⟩) | exact Or.inr ⟨_,rfl⟩ | exact Or.inl ⟨rfl,rfl⟩ | exact Or.inl rfl | refine Or.inr ⟨_,_,rfl,Nat.zero_le _,rfl,?_⟩ | refine ⟨_,_,rfl,?_,?_⟩ | refine ⟨_,rfl,?_⟩ | exact ⟨nL rfl,rfl⟩ | exact Or.inl hpt | refine Or.inr (Or.inr (Or.inr ⟨_,_,rfl,?_⟩)) | exact Or.inl rfl | refine Or.inr ?_)),by rw [hF],fun _=>⟨aE,hT,kK,rfl⟩⟩
def firstA (s:Sch) (k:Nat):Nat:=((s.types.take k).map fun x=>x.2.nn).sum
theorem ng {s:Sch} {k:Nat} {x:Wd × Ty} (h:s.types[k]? = some x):firstA s (k + 1)=firstA s k + x.2.nn:=by
 unfold firstA;rw [List.take_add_one,h];simp
theorem zo (s:Sch):∀ k,firstA s k<=nmsWt s.types:=by
 intro k;unfold firstA;generalize s.types=l
 induction l generalizing k with
 | nil=>simp
 | cons x r ih=>
  cases k with
  | zero=>simp
  | succ k=>
   have h1:=ih k;have h2:=x.2.gm;have h3:=x.2.eF;simp only [List.take_succ_cons,List.map_cons,List.sum_cons,nmsWt];omega
def namedN (s:Sch) (i:Nat):Nat:=firstA s ((endI s (s.types.length + 1) i).getD 0)
def namedL (s:Sch):List Nat:=(List.range s.types.length).map (namedN s)
theorem aaR (n:Nat):(List.replicate n (vL [Value.int .i64 0])).flatten=cZ (List.replicate n 0):=by
 induction n with
 | zero=>rfl
 | succ n ih=>simp only [List.replicate_succ,List.flatten_cons,ih];rfl
theorem uu {n m:Nat} {tk:List TkE} {l:List DV} {js:List Int} (h:l=cZ js):WeL n m tk l (cZ js):=by rw [h];exact gU js
abbrev Wc (s:Sch) (lc pc:List DV) (m:Int) (l:List Int) (aD e:Nat):St:=
 ⟨[(0,⟨[],.loc 0 0⟩),(2,⟨[],.ms 2 1 0 (dNms s.types).length (dNms s.types).length⟩),(3,⟨[],.v (.int .i64 aD)⟩),(18,⟨[],.sl 11 (dNms s.types) none⟩),(19,⟨[],.v (.int .i64 (dNms s.types).length)⟩),(20,⟨[],.v (.int .i64 e)⟩)],
  [bC s (.pt lc 0) (.loc 1 0) m,pc,cZ l],[]⟩
abbrev Oe (s:Sch) (aE:List Nat) (lc:List DV) (m:Int) (l:List Int) (n e:Nat):St:=
 ⟨[(0,⟨[],.loc 0 0⟩),(2,⟨[],.ms 2 1 0 (dNms s.types).length (dNms s.types).length⟩),(40,⟨[],.v (.int .i64 (dNms s.types).length)⟩),(41,⟨[],.v (.int .i64 e)⟩)],
  [bC s (.pt lc 0) (.loc 1 0) m,pC s aE (.pt lc 0) (.v (.slice none 0 0)) (.v (.int .i64 0)) (.sl 1 (dInts ((namedL s).take e)) (some 0)),cZ l],[⟨n,3,1,none⟩]⟩
def RN (s:Sch) (aE:List Nat) (lc:List DV) (m:Int) (_:DV) (os:List (List DV)) (_:List TkE):Prop:=
 os=[bC s (.pt lc 0) (.loc 1 0) m,pC s aE (.pt lc 0) (.v (.slice none 0 0)) (.v (.int .i64 0)) (.sl 1 (dInts (namedL s)) none)]
theorem Wf {l:List Int} {i:Nat} {z:Int} (h:l[i]? = some z):(cZ l)[i]? = some (DV.v (.int .i64 z)):=by simp [cZ,h]
theorem Du (s:Sch) (lc:List DV) (aE:List Nat) (m:Int) (hT:ie (tL s) aE) (kK:aE.length<=1099511627776) (hl:s.types.length<=64) (hr:∀ x∈s.types,tO s x.2=true) (hs:nmsWt s.types<=1099511627776)
  (hlo:∀ i,i < s.types.length->∃ k,endI s (s.types.length + 1) i=some k) :
  Ev prog 32 [.loc 0 0] [bC s (.pt lc 0) (.loc 1 0) m,Gg s aE lc] [] (RN s aE lc m):=by
 have hN:=aal s.types
 have VN:∀ x∈s.types,x.2.wt<=1099511627776:=fun x hx=>by
  have:=gx hx;omega
 have hfw:=zo s;have QZ:=fun {k:Nat} {x:Wd × Ty}=>@ng s k x;have fV:(namedL s).length=s.types.length:=by simp [namedL]
 have kW:=fun (e0:DV)=>Dq s (.pt lc 0) aE (.pt lc 0) (.v (.slice none 0 0)) (.v (.int .i64 0)) e0 m hT kK hl hr;obtain ⟨ae,order,types,⟨rh,rp⟩⟩:=s;simp only at hl hr hN hs VN hfw QZ fV kW hlo;have hN2:(dNms (⟨ae,order,types,.mk rh rp⟩:Sch).types).length=types.length:=hN;refine eG 66 [] func32 rfl ntmps32 rfl fun _ _ _ _=>?_;refine ⟨⟨rfl,by omega,by omega,by omega⟩,?_⟩
 refine av (fun j st=>∃ (e:Nat) (l:List Int),st=Wc ⟨ae,order,types,.mk rh rp⟩ lc (Gg ⟨ae,order,types,.mk rh rp⟩ aE lc) m l (firstA ⟨ae,order,types,.mk rh rp⟩ e) e/\e<=types.length/\l.length=types.length/\(∀ i:Nat,i < e->l[i]? = some (firstA ⟨ae,order,types,.mk rh rp⟩ i:Int))/\j=types.length - e) types.length
  (Wc ⟨ae,order,types,.mk rh rp⟩ lc (Gg ⟨ae,order,types,.mk rh rp⟩ aE lc) m (List.replicate ((dNms types).length:Int).toNat 0) (firstA ⟨ae,order,types,.mk rh rp⟩ 0) 0) (az 3 rfl (by repeat' (first | exact rfl | exact ah rfl | exact uu (aaR _) | refine ⟨_,_,rfl,?_,?_⟩)) rfl rfl rfl (by repeat' (first | exact trivial | exact ah rfl | exact uu (aaR _) | refine ⟨⟨_,rfl,?_⟩,?_⟩))) ⟨0,_,rfl,by omega,by simp [hN],fun _ h=>by omega,by omega⟩ ?_
 rintro j st ⟨e,l,rfl,he,x4,XN,rfl⟩;refine br ?_ ?_<;>intro hL
 ·have au:e < types.length:=by have:=hL;simp [hN] at this;exact this
  obtain ⟨x,hx⟩:=gX au;have QJ:=VN x (mG hx);have LS:=QZ hx;have E7:=hfw (e + 1);obtain ⟨xw,⟨xh,xp⟩⟩:=x;have hnd:=wa (Ty.mk xh xp).wt (.mk xh xp) (Nat.le_refl _) QJ;refine iX (dNms_get hx) ?_;refine ⟨⟨by omega,by omega⟩,?_⟩;refine ⟨by rw [V5];omega,?_⟩;refine cP Y6 hnd ?_;simp only at LS E7
  have eN:(cZ l).set (0 + (e:Int).toNat * 1) (DV.v (.int .i64 ((firstA ⟨ae,order,types,.mk rh rp⟩ e:Nat):Int)))=cZ (l.set e ((firstA ⟨ae,order,types,.mk rh rp⟩ e:Nat):Int)):=by
   rw [show 0 + (e:Int).toNat * 1=e by omega,NZ]
  have sP:IntKind.i64.wrap (((firstA ⟨ae,order,types,.mk rh rp⟩ e:Nat):Int) + (Ty.mk xh xp).nn)=((firstA ⟨ae,order,types,.mk rh rp⟩ (e + 1):Nat):Int):=by
   rw [LS,wrap64 (by omega) (by omega)];omega
  refine ⟨Wc ⟨ae,order,types,.mk rh rp⟩ lc (Gg ⟨ae,order,types,.mk rh rp⟩ aE lc) m (l.set e ((firstA ⟨ae,order,types,.mk rh rp⟩ e:Nat):Int)) (firstA ⟨ae,order,types,.mk rh rp⟩ (e + 1)) (e + 1),(az 3 rfl (by repeat' (first | exact rfl | exact ah rfl | exact uu eN | exact ai sP | exact ai (nxt au (by omega)) | refine ⟨_,_,rfl,?_,?_⟩)) rfl rfl rfl (by repeat' (first | exact trivial | exact ah rfl | exact uu eN | exact ai sP | exact ai (nxt au (by omega)) | refine ⟨⟨_,rfl,?_⟩,?_⟩))),types.length - (e + 1),by omega,e + 1,_,rfl,by omega,by rw [List.length_set];exact x4,fun i hi=>?_,rfl⟩;by_cases CK:i=e
  ·subst CK;rw [List.getElem?_set_self (by omega)]
  ·rw [List.getElem?_set_ne (Ne.symm CK)];exact XN i (by omega)
 ·have aN:e=types.length:=sW hN hL;subst aN;refine lJ (fun e=>Oe ⟨ae,order,types,.mk rh rp⟩ aE lc m l e e) types.length (dG 3 ⟨0,3,1,none⟩ rfl rfl rfl wA0 rfl rfl wB0) ?_;intro e he;refine br ?_ ?_<;>intro hL
  ·have au:e < types.length:=by have:=hL;simp [hN] at this;exact this
   obtain ⟨k,hk⟩:=hlo e au;have jm:=(qy hk).1;simp only at jm;have hE:=kW (.sl 1 (dInts ((namedL ⟨ae,order,types,.mk rh rp⟩).take e)) none) e au;rw [hk] at hE;have hnn:namedN ⟨ae,order,types,.mk rh rp⟩ e=firstA ⟨ae,order,types,.mk rh rp⟩ k:=by unfold namedN;rw [hk];all_goals rfl
   have jl:(namedL ⟨ae,order,types,.mk rh rp⟩)[e]? = some (firstA ⟨ae,order,types,.mk rh rp⟩ k):=by
    unfold namedL;rw [List.getElem?_map,List.getElem?_range au,Option.map_some,hnn]
   have fu:dInts ((namedL ⟨ae,order,types,.mk rh rp⟩).take e) ++ [[DV.v (.int .i64 ((firstA ⟨ae,order,types,.mk rh rp⟩ k:Nat):Int))]]=dInts ((namedL ⟨ae,order,types,.mk rh rp⟩).take (e + 1)):=by
    rw [List.take_add_one,jl];simp [dInts]
   refine dS ?_;refine qp en80 hE ax rfl rfl ?_;refine ⟨⟨by simp only [oz];omega,by simp only [oz];omega⟩,?_⟩
   have RO:(cZ l)[0 + (oz (some k)).toNat * 1]? = some (DV.v (.int .i64 ((firstA ⟨ae,order,types,.mk rh rp⟩ k:Nat):Int))):=by
    rw [show 0 + (oz (some k)).toNat * 1=k by simp only [oz];omega];exact Wf (XN k jm)
   refine ⟨_,RO,?_⟩;refine ⟨by simp [bz];omega,⟨by simp [bz,maxLen];omega,by simp [bz];omega⟩,?_⟩;exact rE ⟨_,by omega,e + 1,rfl,by omega,rfl⟩ (az 3 rfl (wA2 (nxt au (by omega)) fu) rfl rfl rfl (dm (nxt au (by omega)) fu))
  ·have aN:e=types.length:=sW hN hL;subst aN;have ht:(namedL ⟨ae,order,types,.mk rh rp⟩).take types.length=namedL ⟨ae,order,types,.mk rh rp⟩:=by rw [<- fV,List.take_length]
   rw [ht];exact ⟨.tup [],[bC ⟨ae,order,types,.mk rh rp⟩ (.pt lc 0) (.loc 1 0) m,pC ⟨ae,order,types,.mk rh rp⟩ aE (.pt lc 0) (.v (.slice none 0 0)) (.v (.int .i64 0)) (.sl 1 (dInts (namedL ⟨ae,order,types,.mk rh rp⟩)) none)],ax,wC0,rfl⟩
structure Ed where
 name:ByteArray
 bare:Bool
 aD:Int
 to:Int
 label:Int
 wide:Int
 ck:Int
 cn:Int
 seen:Int
 ca:Int
structure Nd where
 ag:Int
 aD:Int
 lo:Int
 hi:Int
 most:Int
 af:List ByteArray
 aw:List Ed
def tP (e:Ed):List DV:=[.v (.string e.name),.v (.bool e.bare),.v (.int .i64 e.aD),.v (.int .i64 e.to),.v (.int .i64 e.label),.v (.int .i64 e.wide),.v (.int .i64 e.ck),.v (.int .i64 e.cn),.v (.int .i64 e.seen),.v (.int .i64 e.ca)]
def fv (l:List Ed):List (List DV):=l.map tP
def jc (n:Nd):List DV:=[.v (.int .i64 n.ag),.v (.int .i64 n.aD),.v (.int .i64 n.lo),.v (.int .i64 n.hi),.v (.int .i64 n.most),.sl 1 (dM n.af) none,.sl 10 (fv n.aw) none]
def cY (l:List Nd):List (List DV):=l.map jc
def kX (w:Int):Int:=if w=0 then 3 else w
def wg (lev:List Wd->Int) (p:Ph) (to:Int):Ed:=⟨p.name.s,p.bare,p.name.a,to,lev p.label,kX p.wide,p.ck,p.cn,lev p.cl,p.ca⟩
def Wg (s:Sch) (name:ByteArray):Int:=(namedN s ((cM (tL s) name).getD 0):Int)
def nh (s:Sch) (t:Ty) (k:Nat):Int:=if t.h.ag=9 then Wg s t.h.name.s else (k:Int)
def uv (s:Sch) (p:Ph) (u:Ty) (k:Nat):Int:=if p.bare then -1 else nh s u k
mutual
def ndsT (lev:List Wd->Int) (s:Sch):Ty->Nat->List Nd
 | .mk h ps,k=>if h.ag=9 then [] else ⟨h.ag,h.aD,h.lo,h.hi,h.most,ay h.af,edsP lev s ps (k + 1)⟩ :: wh lev s ps (k + 1)
def edsP (lev:List Wd->Int) (s:Sch):Pts->Nat->List Ed
 | .nil,_=>[]
 | .cons p u r,k=>wg lev p (uv s p u k) :: edsP lev s r (k + if p.bare then 0 else u.nn)
def wh (lev:List Wd->Int) (s:Sch):Pts->Nat->List Nd
 | .nil,_=>[]
 | .cons p u r,k=>(if p.bare then [] else ndsT lev s u k) ++ wh lev s r (k + if p.bare then 0 else u.nn)
end
mutual
theorem jU (lev:List Wd->Int) (s:Sch):∀ (t:Ty) (k:Nat),(ndsT lev s t k).length=t.nn
 | .mk h ps,k=>by
  simp only [ndsT,Ty.nn];split
  ·rfl
  ·rw [List.length_cons,wi lev s ps];omega
theorem wi (lev:List Wd->Int) (s:Sch):∀ (ps:Pts) (k:Nat),(wh lev s ps k).length=ps.nn
 | .nil,k=>rfl
 | .cons p u r,k=>by
  simp only [wh,Pts.nn,List.length_append,wi lev s r];split
  ·rfl
  ·rw [jU lev s u]
end
abbrev L0 (s:Sch) (aE:List Nat) (lc:List DV) (n:Nat):List DV:=pC s aE (.pt lc 0) (.sl 0 (List.replicate n []) (some 0)) (.v (.int .i64 0)) (.sl 1 (dInts (namedL s)) none)
abbrev Gk (n:Nat) (base:List DV):TkE:=⟨n,173,7,some base⟩
def Ud (s:Sch) (aE:List Nat) (lc:List DV) (m:Int) (n:Nat) (base:List DV) (y:DV) (A9:List Nd) (r:DV) (os:List (List DV)) (tk:List TkE):Prop:=
 r=y/\os=[bC s (.pt lc 0) (.loc 1 0) m,L0 s aE lc (n + A9.length)]/\tk=[Gk (n + A9.length) (base ++ (cY A9).flatten)]
def Og (lev:List Wd->Int) (s:Sch) (aE:List Nat) (lc:List DV) (m:Int) (t:Ty):Prop:=
 ∀ (n:Nat) (base:List DV),n + t.nn<=1099511627776->base.length=n * 7 ->
  Ev prog 33 [.loc 0 0,.agg (dV t)] [bC s (.pt lc 0) (.loc 1 0) m,L0 s aE lc n] [Gk n base] (Ud s aE lc m n base (.v (.int .i64 (nh s t n))) (ndsT lev s t n))
theorem Ky {X:Lx} (hX:X.OK) (s:Sch) (aE:List Nat) (m:Int) (p:Ph) (u:Ty) (hp:p.wt<=1099511627776) (ey:p.bare=false->Og X.lev s aE (ia X.af (cJ X.af X.aE) X.rows X.js) m u)
  (n:Nat) (base:List DV) (hb:p.bare=false->n + u.nn<=1099511627776) (hbl:base.length=n * 7) :
  Ev prog 82 [.loc 0 0,.agg (FF p (dV u))] [bC s (.pt (ia X.af (cJ X.af X.aE) X.rows X.js) 0) (.loc 1 0) m,L0 s aE (ia X.af (cJ X.af X.aE) X.rows X.js) n] [Gk n base]
   (Ud s aE (ia X.af (cJ X.af X.aE) X.rows X.js) m n base (.agg (tP (wg X.lev p (uv s p u n)))) (if p.bare then [] else ndsT X.lev s u n)):=by
 have hw1:wdsWt p.label + wdsWt p.cl<=p.wt:=by simp only [Ph.wt];omega
 have HZ:X.pd = .pt (ia X.af (cJ X.af X.aE) X.rows X.js) 0:=rfl;have yb:=fun pc=>wb hX s pc m p.label (by omega);have Ue:=fun pc=>wb hX s pc m p.cl (by omega);rw [HZ] at yb Ue;have hE:=fun to=>wg.eq_1 X.lev p to;have jz:=uv.eq_1 s p u n;generalize ia X.af (cJ X.af X.aE) X.rows X.js=lc at yb Ue ey ⊢;obtain ⟨ae,order,types,⟨rh,rp⟩⟩:=s;obtain ⟨uh,us⟩:=u;refine eG 52 [.cell 4 174] func82 rfl ntmps82 rfl fun _ _ _ _=>?_;have Uf:=yb [.pt lc 0,.sl 0 (List.replicate n []) none,.v (.int .i64 0),.pt (cJ (tL ⟨ae,order,types,.mk rh rp⟩) aE) 0,.sl 1 (dInts (namedL ⟨ae,order,types,.mk rh rp⟩)) none];have Ug:=Ue [.pt lc 0,.sl 0 (List.replicate n []) none,.v (.int .i64 0),.pt (cJ (tL ⟨ae,order,types,.mk rh rp⟩) aE) 0,.sl 1 (dInts (namedL ⟨ae,order,types,.mk rh rp⟩)) none];apply nP (fun _=>false) 11 15 [0,1,2,3,4,5,6,7,8,9,10,11,12,13,14,15,16] [0,1,2,3,4,5,6,7,8,9,10,15,11,12,13,14,16] 4 4 mo (by decide +kernel)
 ·refine qp Iq Uf ax rfl rfl ?_;refine (?_:@Eq St _ _);exact rfl
 ·refine qp Iq Uf ax rfl rfl ?_;refine (⟨rfl,rfl,?_⟩:_/\_/\_)
  repeat' (first | exact trivial | refine ⟨rfl,?_⟩)
 ·rfl
 refine br ?_ ?_<;>intro hw
 ·have hw:p.wide=0:=sU hw;refine ue [4] (fun _=>false) mo (by decide +kernel) ?_;refine qp Iq Ug ax rfl rfl ?_;refine br ?_ ?_<;>intro hB
  ·have hB:p.bare=false:=sU hB;refine fY 2 1 Ri rfl rfl rfl wC0 wC0 (ey hB n base (hb hB) hbl) (fun r gI bU hΦ h1 h2=>?_);obtain ⟨rfl,rfl,rfl⟩:=hΦ;refine ⟨.agg (tP ⟨p.name.s,p.bare,p.name.a,nh ⟨ae,order,types,.mk rh rp⟩ (.mk uh us) n,X.lev p.label,3,p.ck,p.cn,X.lev p.cl,p.ca⟩),[bC ⟨ae,order,types,.mk rh rp⟩ (.pt lc 0) (.loc 1 0) m,L0 ⟨ae,order,types,.mk rh rp⟩ aE lc (n + (ndsT X.lev ⟨ae,order,types,.mk rh rp⟩ (.mk uh us) n).length)],ax,wC0,?_,?_,?_⟩
   ·simp [hE,uv,hB,kX,hw]
   ·simp [hB]
   ·simp [hB]
  ·have hB:p.bare=true:=sU hB;refine ⟨.agg (tP ⟨p.name.s,p.bare,p.name.a,-1,X.lev p.label,3,p.ck,p.cn,X.lev p.cl,p.ca⟩),[bC ⟨ae,order,types,.mk rh rp⟩ (.pt lc 0) (.loc 1 0) m,L0 ⟨ae,order,types,.mk rh rp⟩ aE lc n],ax,wC0,?_,?_,?_⟩
   ·simp [hE,uv,hB,kX,hw]
   ·simp [hB]
   ·simp [hB,cY]
 ·have hw:¬ p.wide=0:=sU hw;refine ue [4] (fun _=>false) mo (by decide +kernel) ?_;refine qp Iq Ug ax rfl rfl ?_;refine br ?_ ?_<;>intro hB
  ·have hB:p.bare=false:=sU hB;refine fY 2 1 Ri rfl rfl rfl wC0 wC0 (ey hB n base (hb hB) hbl) (fun r gI bU hΦ h1 h2=>?_);obtain ⟨rfl,rfl,rfl⟩:=hΦ;refine ⟨.agg (tP ⟨p.name.s,p.bare,p.name.a,nh ⟨ae,order,types,.mk rh rp⟩ (.mk uh us) n,X.lev p.label,p.wide,p.ck,p.cn,X.lev p.cl,p.ca⟩),[bC ⟨ae,order,types,.mk rh rp⟩ (.pt lc 0) (.loc 1 0) m,L0 ⟨ae,order,types,.mk rh rp⟩ aE lc (n + (ndsT X.lev ⟨ae,order,types,.mk rh rp⟩ (.mk uh us) n).length)],ax,wC0,?_,?_,?_⟩
   ·simp [hE,uv,hB,kX,hw]
   ·simp [hB]
   ·simp [hB]
  ·have hB:p.bare=true:=sU hB;refine ⟨.agg (tP ⟨p.name.s,p.bare,p.name.a,-1,X.lev p.label,p.wide,p.ck,p.cn,X.lev p.cl,p.ca⟩),[bC ⟨ae,order,types,.mk rh rp⟩ (.pt lc 0) (.loc 1 0) m,L0 ⟨ae,order,types,.mk rh rp⟩ aE lc n],ax,wC0,?_,?_,?_⟩
   ·simp [hE,uv,hB,kX,hw]
   ·simp [hB]
   ·simp [hB,cY]
def nd0 (h:Hd):List DV:=[.v (.int .i64 h.ag),.v (.int .i64 h.aD),.v (.int .i64 h.lo),.v (.int .i64 h.hi),.v (.int .i64 h.most),.sl 1 (dM (ay h.af)) none,.v (.slice none 0 0)]
theorem RP {h:Hd} {base R:List DV} {n:Nat} {x:DV} (hb:base.length=n * 7):(base ++ (nd0 h ++ R)).set (n * 7 + 6) x=base ++ ([.v (.int .i64 h.ag),.v (.int .i64 h.aD),.v (.int .i64 h.lo),.v (.int .i64 h.hi),.v (.int .i64 h.most),.sl 1 (dM (ay h.af)) none,x] ++ R):=by
 rw [List.set_append_right _ _ (by omega),hb,Nat.add_sub_cancel_left];rfl
theorem zp (l:List Ed) (e:Ed):fv l ++ [tP e]=fv (l ++ [e]):=by simp [fv]
theorem bZ (l:List Ed):(fv l).length=l.length:=by simp [fv]
theorem qz (lev:List Wd->Int) (s:Sch):∀ (ps:Pts) (k:Nat),(edsP lev s ps k).length=ps.len
 | .nil,_=>rfl
 | .cons p u r,k=>by simp [edsP,Pts.len,qz lev s r]
abbrev Oh (s:Sch) (aE:List Nat) (lc:List DV) (m:Int) (n:Nat) (base:List DV) (h:Hd) (ps:Pts) (q e:Nat):St:=
 ⟨[(0,⟨[],.loc 0 0⟩),(3,⟨[],.loc 2 0⟩),(7,⟨[],.v (.int .i64 n)⟩),(8,⟨[],.loc 3 0⟩),(61,⟨[],.sl 2 (bG h.af) none⟩),(62,⟨[],.v (.int .i64 (bG h.af).length)⟩),(63,⟨[],.v (.int .i64 e)⟩)],
  [bC s (.pt lc 0) (.loc 1 0) m,L0 s aE lc n,dV (.mk h ps),[.v (.int .i64 h.ag),.v (.int .i64 h.aD),.v (.int .i64 h.lo),.v (.int .i64 h.hi),.v (.int .i64 h.most),.sl 1 (dM (ay (h.af.take e))) (some 1),.v (.slice none 0 0)]],
  [Gk n base,⟨q,9,1,none⟩]⟩
abbrev Oi (s:Sch) (aE:List Nat) (lc:List DV) (m:Int) (n:Nat) (h:Hd) (ps:Pts) (n':Nat) (qA:List DV) (Es:List Ed) (q1 q2 e:Nat):St:=
 ⟨[(0,⟨[],.loc 0 0⟩),(3,⟨[],.loc 2 0⟩),(7,⟨[],.v (.int .i64 n)⟩),(11,⟨[],.sl 10 (fv Es) (some 2)⟩),(92,⟨[],.sl 18 (fA ps) none⟩),(93,⟨[],.v (.int .i64 (fA ps).length)⟩),(94,⟨[],.v (.int .i64 e)⟩)],
  [bC s (.pt lc 0) (.loc 1 0) m,L0 s aE lc n',dV (.mk h ps)],
  [Gk n' qA,⟨q1,9,1,none⟩,⟨q2,174,10,none⟩]⟩
theorem l4 {X:Lx} {L:List ByteArray} {h:Hd} {ps:Pts} (hk:(knT X L (.mk h ps)).1=0):(h.ag=9->cM L h.name.s≠none)/\(knP X L ps).1=0:=by
 rw [knT] at hk;split at hk
 ·cases hk
 ·rename_i h1;exact ⟨fun h9 hn=>h1 ⟨h9,hn⟩,hk⟩
theorem rZ {X:Lx} {L:List ByteArray} {p:Ph} {u:Ty} {r:Pts} (hk:(knP X L (.cons p u r)).1=0):(p.bare=false->(knT X L u).1=0)/\(knP X L r).1=0:=by
 rw [knP] at hk;split at hk
 ·rename_i h1;exact (h1 hk).elim
 ·split at hk
  ·rename_i h1;exact (h1 hk).elim
  ·split at hk
   ·rename_i h1;exact ⟨(fun h2=>by rw [h1] at h2;cases h2),hk⟩
   ·split at hk
    ·rename_i h1;exact (h1 hk).elim
    ·rename_i h1;exact ⟨fun _=>by simpa using h1,hk⟩
theorem zq {X:Lx} (hX:X.OK) (s:Sch) (aE:List Nat) (m:Int) (hT:ie (tL s) aE) (kK:aE.length<=1099511627776):∀ (k:Nat) (t:Ty),t.wt<=k->t.wt<=1099511627776->(knT X (tL s) t).1=0 ->
  Og X.lev s aE (ia X.af (cJ X.af X.aE) X.rows X.js) m t
 | 0,t,hn,_,_=>by have:=t.dh;omega
 | k + 1,.mk h ps,hn,cr,Ms=>by
  have ih:=zq hX s aE m hT kK k;intro n base hnb hbl;obtain ⟨hk9,Wh⟩:=l4 Ms;have oD:=fun (p:Ph) (u:Ty)=>Ky hX s aE m p u;generalize ia X.af (cJ X.af X.aE) X.rows X.js=lc at ih oD ⊢;simp only [Ty.wt,Hd.wt] at hn cr;have hpl:=ps.fy;have fV:=bw h.af;have hf:=iD (tL s) aE h.name.s hT kK;have eZ:=jT s;have hnmL:(namedL s).length=s.types.length:=by simp [namedL]
  have RQ:nh s (.mk h ps) n=if h.ag=9 then Wg s h.name.s else (n:Int):=rfl
  have Kz:ndsT X.lev s (.mk h ps) n=if h.ag=9 then [] else ⟨h.ag,h.aD,h.lo,h.hi,h.most,ay h.af,edsP X.lev s ps (n + 1)⟩ :: wh X.lev s ps (n + 1):=by rw [ndsT]
  have hnn:(Ty.mk h ps).nn=if h.ag=9 then 0 else 1 + ps.nn:=by rw [Ty.nn]
  generalize hS:s=S at *;subst hS;obtain ⟨ae,order,types,⟨rh,rp⟩⟩:=s;refine eG 117 [.tmp 4] func33 rfl ntmps33 rfl fun _ _ _ _=>?_;refine br ?_ ?_<;>intro h9
  ·have h9:h.ag=9:=sU h9;obtain ⟨i,hi⟩:=Option.ne_none_iff_exists'.1 (hk9 h9);have LW:=(cR hi).1;rw [hi] at hf;rw [if_pos h9] at RQ Kz
   have jl:(namedL ⟨ae,order,types,.mk rh rp⟩)[i]? = some (namedN ⟨ae,order,types,.mk rh rp⟩ i):=by
    unfold namedL;rw [List.getElem?_map,List.getElem?_range (by omega)];rfl
   refine dI ?_;refine cD u9 hf ?_;refine iX (ee jl) ?_;refine ⟨.v (.int .i64 (namedN ⟨ae,order,types,.mk rh rp⟩ i:Nat)),[bC ⟨ae,order,types,.mk rh rp⟩ (.pt lc 0) (.loc 1 0) m,L0 ⟨ae,order,types,.mk rh rp⟩ aE lc n],ax,wC0,?_,?_,?_⟩
   ·rw [RQ,Wg,hi];rfl
   ·rw [Kz];rfl
   ·rw [Kz];simp [cY]
  have h9:¬ h.ag=9:=sU h9;rw [if_neg h9] at RQ Kz hnn;have gG:(List.replicate n ([]:List DV)).length=n:=List.length_replicate;refine lJ (fun e=>Oh ⟨ae,order,types,.mk rh rp⟩ aE lc m n base h ps e e) h.af.length (dG 4 ⟨0,9,1,none⟩ rfl rfl rfl (wA1 gG) rfl rfl (wB1 gG)) ?_;intro e he;refine br ?_ ?_<;>intro hL
  ·have au:e < h.af.length:=by simpa [aA] using hL
   obtain ⟨w,hw⟩:=gX au;have fu:=jw hw;refine ⟨jN w,⟨by omega,aS hw⟩,?_⟩;refine ⟨by simp [cg,ay];omega,⟨by simp [cg,ay,maxLen];omega,by simp [cg,ay];omega⟩,?_⟩;exact rE ⟨_,by omega,e + 1,rfl,by omega,rfl⟩ (az 4 rfl (wA2 (nxt au (by omega)) fu) rfl rfl rfl (dm (nxt au (by omega)) fu))
  have aN:e=h.af.length:=by have:=hL;simp [aA] at this;omega
  subst aN;rw [List.take_length];refine dS ?_;refine ⟨⟨⟨gG,by simp⟩,by simp [maxLen];omega,by simp;omega⟩,?_⟩
  refine av (fun j st=>∃ (e n':Nat) (qA:List DV) (Es:List Ed) (K:List Nd),st=Oi ⟨ae,order,types,.mk rh rp⟩ aE lc m n h ps n' qA Es h.af.length e e/\e<=ps.len/\n'=n + 1 + K.length/\qA=base ++ (nd0 h ++ (cY K).flatten)/\Es.length=e /\
    K ++ wh X.lev ⟨ae,order,types,.mk rh rp⟩ (ps.drop e) (n + 1 + K.length)=wh X.lev ⟨ae,order,types,.mk rh rp⟩ ps (n + 1)/\Es ++ edsP X.lev ⟨ae,order,types,.mk rh rp⟩ (ps.drop e) (n + 1 + K.length)=edsP X.lev ⟨ae,order,types,.mk rh rp⟩ ps (n + 1)/\K.length + (ps.drop e).nn=ps.nn/\(knP X (tL ⟨ae,order,types,.mk rh rp⟩) (ps.drop e)).1=0/\j=ps.len - e) ps.len
   (Oi ⟨ae,order,types,.mk rh rp⟩ aE lc m n h ps (n + 1) (base ++ (nd0 h ++ [])) [] h.af.length 0 0) (dG 3 ⟨0,174,10,none⟩ rfl rfl rfl wA0 rfl rfl wB0) ⟨0,n + 1,_,[],[],rfl,by omega,rfl,rfl,rfl,rfl,rfl,by simp [Pts.drop],Wh,by omega⟩ ?_
  rintro j st ⟨e,n',qA,Es,K,rfl,he,Tc,dO,XB,hK,Wi,hKn,QI,rfl⟩
  have hbl':qA.length=n' * 7:=by
   have:∀ l:List Nd,(cY l).flatten.length=l.length * 7:=by
    intro l
    induction l with
    | nil=>rfl
    | cons a r ih=>simp only [cY,List.map_cons,List.flatten_cons,List.length_append,List.length_cons] at ih ⊢;rw [ih];simp only [jc,List.length_cons,List.length_nil];omega
   rw [dO,List.length_append,List.length_append,this,hbl,Tc];simp only [nd0,List.length_cons,List.length_nil];omega
  refine br ?_ ?_<;>intro hL
  ·have au:e < ps.len:=by simpa [aH] using hL
   obtain ⟨p,u,hx⟩:=Pts.eE au;have CP:=Pts.gj (mG hx);rw [Pts.drop_cons hx] at hK Wi hKn QI;obtain ⟨om,MD⟩:=rZ QI;simp only [wh] at hK;simp only [edsP] at Wi;simp only [Pts.nn] at hKn;rw [<- Tc] at hK Wi;have Fu:=u.gm;have huc:=u.eF;have dy:=oD p u (by omega) (fun hB=>ih u (by omega) (by omega) (om hB)) n' qA (fun hB=>by rw [hB] at hKn;simp only [Bool.false_eq_true,if_false] at hKn;omega) hbl';have aaT:=jU X.lev ⟨ae,order,types,.mk rh rp⟩ u n';obtain ⟨uh,us⟩:=u;refine iX (bQ hx) ?_;refine fY 2 1 en82 rfl rfl rfl wC0 wC0 dy (fun r gI bU hΦ h1 h2=>?_);obtain ⟨rfl,rfl,rfl⟩:=hΦ;refine ⟨by rw [bZ,XB],⟨by simp [bZ,XB,maxLen];omega,by simp [bZ,XB];omega⟩,?_⟩
   have Oj:(if p.bare then [] else ndsT X.lev ⟨ae,order,types,.mk rh rp⟩ (.mk uh us) n').length=if p.bare then 0 else (Ty.mk uh us).nn:=by
    split
    ·rfl
    ·exact aaT
   have Uh:n + 1 + (K.length + (if p.bare then 0 else (Ty.mk uh us).nn))=n' + if p.bare then 0 else (Ty.mk uh us).nn:=by rw [Tc];omega
   refine ⟨Oi ⟨ae,order,types,.mk rh rp⟩ aE lc m n h ps (n' + (if p.bare then [] else ndsT X.lev ⟨ae,order,types,.mk rh rp⟩ (.mk uh us) n').length) (qA ++ (cY (if p.bare then [] else ndsT X.lev ⟨ae,order,types,.mk rh rp⟩ (.mk uh us) n')).flatten) (Es ++ [wg X.lev p (uv ⟨ae,order,types,.mk rh rp⟩ p (.mk uh us) n')]) h.af.length (e + 1) (e + 1),(az 3 rfl (by repeat' (first | exact rfl | exact ah rfl | exact ai (nxt au (by omega)) | exact bi (zp _ _) rfl | refine ⟨_,_,rfl,?_,?_⟩)) rfl rfl rfl (by repeat' (first | exact trivial | exact ah rfl | exact ai (nxt au (by omega)) | exact bi (zp _ _) rfl | refine ⟨⟨_,rfl,?_⟩,?_⟩))),
    ps.len - (e + 1),by omega,e + 1,_,_,_,K ++ (if p.bare then [] else ndsT X.lev ⟨ae,order,types,.mk rh rp⟩ (.mk uh us) n'),rfl,by omega,?_,?_,?_,?_,?_,?_,MD,rfl⟩
   ·rw [List.length_append,Tc];omega
   ·rw [dO];simp [cY]
   ·simp [XB]
   ·rw [List.length_append,Oj,List.append_assoc,Uh];exact hK
   ·rw [List.length_append,Oj,List.append_assoc,Uh];exact Wi
   ·rw [List.length_append,Oj];omega
  ·have aN:e=ps.len:=by have:=hL;simp [aH] at this;omega
   subst aN;rw [Pts.cX] at hK Wi;simp only [wh,List.append_nil] at hK;simp only [edsP,List.append_nil] at Wi;have hKl:K.length=ps.nn:=by rw [hK,wi]
   have hrl2:(List.replicate n' ([]:List DV)).length=n':=List.length_replicate;refine Kt (kt:=0) ⟨rfl,rfl⟩ ⟨rfl,rfl,rfl⟩ ⟨rfl,rfl,rfl⟩ rfl rfl rfl rfl rfl rfl rfl rfl rfl rfl rfl hrl2 ⟨by omega,by omega⟩ (by decide) ?_;have aaU:n + (ndsT X.lev ⟨ae,order,types,.mk rh rp⟩ (.mk h ps) n).length=n':=by rw [Kz,List.length_cons,<- hK,Tc];omega
   have ry:qA.set ((n:Int).toNat * 7 + 6) (.sl 10 (fv Es) none)=base ++ (cY (ndsT X.lev ⟨ae,order,types,.mk rh rp⟩ (.mk h ps) n)).flatten:=by
    rw [dO,show (n:Int).toNat=n by omega,RP hbl,Kz,Wi,hK];rfl
   refine ⟨.v (.int .i64 n),[bC ⟨ae,order,types,.mk rh rp⟩ (.pt lc 0) (.loc 1 0) m,L0 ⟨ae,order,types,.mk rh rp⟩ aE lc n'],ax,wC0,?_,?_,?_⟩
   ·rw [RQ]
   ·rw [aaU]
   ·rw [aaU,<- ry];rfl
end Go.Proofs.YtffhgcbfpidfiaaGreat
namespace Go.Proofs.YtffhgcbfpidfiaaGreat
namespace Dv
open Go Go.RowKit
section
variable {X:Ctx} {st:St} {k:List It} {E:En} {a:Act} {w:World} {ops:Array Oper} {W:Nat->Bool} {C:World->Prop} {Q:Act->World->Prop} {i:Nat} {r:List Nat} {o:Oper}
theorem iU (hg:o.guard=none):Region.wanted o (yielded ops a.tmps)=true:=by
 unfold Region.wanted;rw [hg]
theorem RS {bx:List (List DV)} {wr:World} (h:Rel X E st a w) (hE:tG E bx wr) (hC:∀ w',C w' -> CC E bx wr w'):Rl E bx C st.sl a where
 tm:=h.tm
 ek:=fun i cs hi=>by
  by_cases aT:cs=[]
  ·subst aT;have au:i < E.β.length:=by rw [hE.len];exact (gS hi).1
   exact ⟨_,[],gE au,⟨cz _,by simp⟩,fun w' _ j u hj=>by simp at hj⟩
  ·obtain ⟨b,ty,arr,hb,hw,hc⟩:=hE.ek i cs hi aT;exact ⟨b,arr,hb,hc,fun w' h' j u hj=>by rw [cy (((hC w' h').o i b cs hb hi aT).trans hw)];simpa using hj⟩
 cc:=fun x v hx w' h'=>(hC w' h').c x v hx
theorem RT {bx:List (List DV)} (h:Env E bx w) (m:List Nat):tG E (maskL m 0 bx) w:=⟨by rw [rC];exact h.len,fun i cs hi aT=>by
 rcases rD m _ _ _ _ hi with h1 | h1
 ·exact (aT h1).elim
 ·exact h.ek i cs h1⟩
theorem l5 (hR:Rel X E st a w) (ho:ops[i]? = some o) (hE:mB o.op=false) (hL:pP o.op=false) (hg:o.guard=none) {s:DV} (hs:pureT X.P X.T ⟨st.sl,[],[]⟩ [] o.op=some s) (hd:eL X.nt st.sl o.dst=true)
  (hk:∀ a',Rel X E (st.put o.dst ⟨[],s⟩) a' w->runT X.P ops W C Q r a' w):runT X.P ops W C Q (i :: r) a w:=by
 have gG:Rl E [] (fun _=>False) st.sl a:=⟨hR.tm,fun i cs hi=>by simp at hi,fun _ _ _ _ h=>h.elim⟩;obtain ⟨v,hv,cf⟩:=iq (st:=⟨st.sl,[],[]⟩) X.hT gG (bh _) hs;simp only [runT,ho,hE,Bool.false_eq_true,if_false];exact ⟨v,.inl ⟨iU hg,fun w' _=>cf w' fun h=>by rw [hL] at h;cases h⟩,fun h=>(by rw [hL] at h;cases h),hk _ (aZ hR hd s v hv)⟩
theorem RU (hR:Rel X E st a w) (ho:ops[i]? = some o) {bx:List (List DV)} (gG:Rl E bx C st.sl a) (YE:C w) (hE:mB o.op=false) (hg:o.guard=none) {s:DV} (hs:pureT X.P X.T ⟨st.sl,bx,[]⟩ [] o.op=some s) (hd:eL X.nt st.sl o.dst=true)
  (hk:∀ a',Rel X E (st.put o.dst ⟨[],s⟩) a' w->runT X.P ops W C Q r a' w):runT X.P ops W C Q (i :: r) a w:=by
 obtain ⟨v,hv,cf⟩:=iq (st:=⟨st.sl,bx,[]⟩) X.hT gG (bh _) hs;simp only [runT,ho,hE,Bool.false_eq_true,if_false];exact ⟨v,.inl ⟨iU hg,fun w' h=>cf w' h⟩,fun _=>YE,hk _ (aZ hR hd s v hv)⟩
theorem RV (hR:Rel X E st a w) (ho:ops[i]? = some o) {t x d:Nat} {b p j:Nat} {n:Nat} {kd:TK} {z:List Value} (hb:E.β[j]? = some b) (ly:o.op = .load t (.tmp x)) (fg:o.dst=some d) {i2 Gl b2:Nat} (dQ:E.β[i2]? = some b2) (hx:rv st [] (.tmp x)=some (.loc i2 p)) (hT:X.T.find t=some ⟨n,false,kd,z⟩)
  (hC:∀ w',C w' -> w'.cell? ⟨b2,p,none⟩=some (.pointer (some ⟨b,Gl,none⟩))) (YE:C w) (hg:o.guard=none) (hd:eL X.nt st.sl (some d)=true)
  (hk:∀ a',Rel X E ⟨(d,⟨[],.loc j Gl⟩) :: st.sl,st.bx,st.tk⟩ a' w->runT X.P ops W C Q r a' w):runT X.P ops W C Q (i :: r) a w:=by
 have hE:mB o.op=false:=by rw [ly];all_goals rfl
 simp only [runT,ho,hE,Bool.false_eq_true,if_false];have hv:Rv E (.loc j Gl) (.pointer (some ⟨b,Gl,none⟩)):=by unfold Rv;exact ⟨b,hb,rfl⟩
 refine ⟨.pointer (some ⟨b,Gl,none⟩),.inl ⟨iU hg,fun w' h=>?_⟩,fun _=>YE,?_⟩
 ·have hC':=hC w' (h (by rw [ly];rfl));have e1:=aW hR.rl hx;unfold Rv at e1;obtain ⟨b3,H8,e1⟩:=e1;rw [dQ] at H8;simp only [oI] at H8;subst H8;have QU:=(te_parts X.hT hT).2.1
  have hl:(loadVar t ⟨b2,p,none⟩).run X.P w' = .ok (.pointer (some ⟨b,Gl,none⟩)) w':=by
   simp [loadVar,jD QU,hC']
  simp only [execOp,ly,e1,Sem.run_bind,Instr.loadAt,Instr.sureAddr,Sem.run_pure,Result.andThen_ok,hl]
 ·rw [fg];exact hk _ (aZ hR hd (.loc j Gl) _ hv)
theorem KA (hR:Rel X E st a w) (ho:ops[i]? = some o) {dst:Option Nat} {f:Operand} {args:Array Operand} {tys:Array TypeId} (ly:o.op = .call ⟨.value f,args,tys⟩) (fg:o.dst=dst) (hg:o.guard=none) {g:FuncId} {ds:List DV} (hf:rv st [] f=some (.fn g [] [])) (hl:argsV st [] args.toList=some ds) (lx:Enters X.P g)
  {K:Value->World->Prop} (hc:∀ vs,RvL E ds vs->Calls X.P g vs.toArray w fun e w'=>∃ v,e = .returned v/\K v w') (hk:∀ v w',K v w' -> (W i=false->C w->C w')/\runT X.P ops W C Q r (a.put dst v) w'):runT X.P ops W C Q (i :: r) a w:=by
 have hE:mB o.op=true:=by rw [ly];all_goals rfl
 have hwn:=iU (ops:=ops) (a:=a) hg;have gG:=hR.rl;have e1:=aW gG hf;unfold Rv at e1;obtain ⟨l1,r1,e1,yb,hr1⟩:=e1;simp only [RvL] at yb hr1;subst yb hr1;have hargs:=il gG (bh _) _ _ hl;simp only [runT,ho,hE,if_true,dY,hwn];subst fg;obtain ⟨dst,op,ty,pos,after,gu⟩:=o;simp only at ly;subst ly
 have hr:(execOp a.eval ⟨dst,.call ⟨.value f,args,tys⟩,ty,pos,after,gu⟩).run X.P w = .ok (.enter g (args.toList.map a.eval).toArray) w:=by
  have e3:(([]:List Value).toArray ++ args.map a.eval ++ ([]:List Value).toArray)=(args.toList.map a.eval).toArray:=by apply Array.ext';simp
  simp only [execOp,resolve,e1,Deferred.ofValue,Sem.run_bind,Sem.run_pure,Result.andThen_ok,invoke,e3];exact lx _ _
 unfold wq;rw [hr];refine (hc _ hargs).mono ?_;rintro e w' ⟨v,rfl,hK⟩;exact ⟨v,rfl,hk v w' hK⟩
theorem RW (hR:Rel X E st a w) (ho:ops[i]? = some o) {dst:Option Nat} {f:Operand} {args:Array Operand} {tys:Array TypeId} (ly:o.op = .call ⟨.value f,args,tys⟩) (fg:o.dst=dst) (hg:o.guard=none) {g:FuncId} {ds VI:List DV} (hf:rv st [] f=some (.fn g [] [])) (hl:argsV st [] args.toList=some ds) (lx:Enters X.P g)
  {os:List (List DV)} (n1 m1:Nat) (Ch:Nat.ble n1 st.bx.length=true) (fH:Nat.ble m1 st.tk.length=true) (uQ:lB [] n1 n1 m1 os (st.bx.take n1)) (ha:CcL [] n1 n1 m1 VI ds)
  {Φ:DV->List (List DV)->List TkE->Prop} (hc:Ev X.P g VI os (st.tk.take m1) Φ) (aU:X.still=false) (hX:X.bt=[])
  (hk:∀ v r' gI bU E' w',Φ r' gI bU -> gI.length=n1->bU.length=m1->Rel X E' ⟨st.sl,gI ++ st.bx.drop n1,bU ++ st.tk.drop m1⟩ a w' -> Rv E' r' v->Ext E E' -> E'.β=E.β->(∀ (i:Nat) b,n1<=i->E.β[i]? = some b->w'.heap[b]? = w.heap[b]?) ->
   (W i=false->C w->C w')/\runT X.P ops W C Q r (a.put dst v) w'):runT X.P ops W C Q (i :: r) a w:=by
 refine KA hR ho ly fg hg hf hl lx (K:=fun v w'=>∃ r' gI bU E',Φ r' gI bU /\ gI.length=n1/\bU.length=m1/\Rel X E' ⟨st.sl,gI ++ st.bx.drop n1,bU ++ st.tk.drop m1⟩ a w' /\ Rv E' r' v/\Ext E E' /\ E'.β=E.β/\∀ (i:Nat) b,n1<=i->E.β[i]? = some b->w'.heap[b]? = w.heap[b]?)
  (fun vs hv=>?_) ?_
 ·refine (Dd n1 m1 Ch fH uQ ha hc aU hX hR hv).mono ?_;rintro e w' ⟨v,r',gI,bU,E',rfl,h⟩;exact ⟨v,rfl,r',gI,bU,E',h⟩
 ·rintro v w' ⟨r',gI,bU,E',h1,h2,h3,h4,h5,h6,h7,h8⟩;exact hk v r' gI bU E' w' h1 h2 h3 h4 h5 h6 h7 h8
theorem RX (h:Rel X E st a w) (j o k:Nat) {n ty e:Nat} {LY:List DV} {es ns:List (List DV)} (hq:st.tk[k]? = some ⟨n,ty,e,some ns.flatten⟩) (hns:∀ x∈ns,x.length=e) (fV:ns.length=n) (hj:st.bx[j]? = some LY) (ho:LY[o]? = some (.sl 0 es (some k))) (jk:es.length=n) :
  ∃ E',Rel X E' ⟨st.sl,st.bx.set j (LY.set o (.sl e ns none)),st.tk.set k ⟨n,ty,e,none⟩⟩ a w:=V3 hq hns fV hj ho jk E a w h
theorem KB (hR:Rel X E st a w) (ho:ops[i]? = some o) (hE:mB o.op=true) (hg:o.guard=none) (hW:W i=true) (hd:eL X.nt st.sl o.dst=true) {p:Prop} (hp:effC X st o (go X 4000 k)=some p) (h:p):runT X.P ops W C (fun a w=>kq X k .normal a w) [i] a w:=by
 have hwn:=iU (ops:=ops) (a:=a) hg;simp only [runT,ho,hE,if_true,dY,hwn];refine j7 ?_ (lG hd hR hp h);rintro a' w' ⟨st',E',mw,hr,_⟩;exact ⟨(fun h=>by rw [hW] at h;cases h),go_sound 4000 _ _ mw _ _ _ hr⟩
mutual
theorem r6 {i j:Nat}:∀ d:DV,renD (swp i j) (renD (swp i j) d)=d
 | .v x=>rfl
 | .ud=>rfl
 | .agg l=>by simp only [renD,jA]
 | .tup l=>by simp only [renD,jA]
 | .sl e es tk=>rfl
 | .pt cs o=>rfl
 | .loc k o=>by simp only [renD,j9]
 | .el k o=>by simp only [renD,j9]
 | .ms k e o l c=>by simp only [renD,j9]
 | .fn g l r=>by simp only [renD,jA]
 | .pI t x=>by simp only [renD,r6]
theorem jA {i j:Nat}:∀ l:List DV,renL (swp i j) (renL (swp i j) l)=l
 | []=>rfl
 | d :: r=>by simp only [renL,r6,jA]
end
theorem zr {i j:Nat}:∀ l:List (Nat × Sl),renS (swp i j) (renS (swp i j) l)=l
 | []=>rfl
 | (k,⟨gs,s⟩) :: r=>by simp only [renS,r6,zr]
theorem zs {i j:Nat}:∀ l:List (List DV),renO (swp i j) (renO (swp i j) l)=l
 | []=>rfl
 | c :: r=>by simp only [renO,jA,zs]
theorem Ol {i j:Nat} (f:Nat->Nat) (l:List (List DV)) (hi:i < l.length) (hj:j < l.length):renO f (swL i j l)=swL i j (renO f l):=by
 apply List.ext_getElem?;intro k;rw [qa,eD hi hj,eD (by rw [dj];exact hi) (by rw [dj];exact hj),qa]
theorem Dx {i j:Nat} {S:St} (hi:i < S.bx.length) (hj:j < S.bx.length):fh i j (fh i j S)=S:=by
 obtain ⟨sl,bx,tk⟩:=S;simp only [fh,zr];rw [Ol _ _ (by rw [dj];exact hi) (by rw [dj];exact hj),zs];congr 1;apply List.ext_getElem?;intro k;rw [eD (by rw [cH];exact hi) (by rw [cH];exact hj),eD hi hj,j9]
theorem dx.aaV {f:FuncId} {args:List DV} {dst:Option Nat} (i j:Nat) (LQ:Nat.ble X.n0 i=true) (BZ:Nat.ble X.n0 j=true) (hi:Nat.blt i st.bx.length=true) (hj:Nat.blt j st.bx.length=true)
  (h:dx X f (renL (swp i j) args) dst k (fh i j st)) (hX:X.bt=[]:=by exact rfl):dx X f args dst k st:=by
 have dF:=hi;have iN:=hj;simp only [Nat.blt_eq] at dF iN;have hl:(fh i j st).bx.length=st.bx.length:=by simp only [fh,cH,dj]
 exact dx.FB i j (Dx dF iN).symm (jA args).symm LQ BZ (by rw [hl];exact hi) (by rw [hl];exact hj) h hX
theorem Gm {P:Program} {t e:TypeId} (hu:P.underlying t=some (.slice e)) (d:Nat) (x:Option Addr) (n c:Nat) (w:World):(Op.equalIn (d + 1) t (.slice x n c) (.slice none 0 0)).run P w = .ok x.isNone w:=by
 cases x<;>simp [Op.equalIn,run_underlying hu]
theorem qB {P:Program} {t e:TypeId} (hu:P.underlying t=some (.slice e)) (x:Option Addr) (n c:Nat) (w:World):(Op.equal t (.slice x n c) (.slice none 0 0)).run P w = .ok x.isNone w:=Gm hu 9999 x n c w
theorem Gn {t d e:Nat} {x:Operand} {es:List (List DV)} {tk:Option Nat} {n et e' je:Nat} {bb:Bool} {z:List Value} (ly:∃ t',o.op = .binOp .eql t x (.const (.slice none 0 0)) t') (fg:o.dst=some d) (hx:rv st [] x=some (.sl e es tk)) (hT:X.T.find t=some ⟨n,bb,.sl et e' je,z⟩) (hd:eL X.nt st.sl (some d)=true)
  (hk:∀ b:Bool,(es ≠ []->b=false)->go X 4000 k ⟨(d,⟨[],.v (.bool b)⟩) :: st.sl,st.bx,st.tk⟩):HS X o k st:=by
 intro E a w h;obtain ⟨t',ly⟩:=ly;have e1:=aW h.rl hx;unfold Rv at e1;obtain ⟨b,m,cap,e1,⟨rfl,_⟩,hr,_⟩:=e1;obtain ⟨hu,_⟩:=eA X.hT hT;have aK:=qB hu b es.length cap w
 have cf:(execOp a.eval o).run X.P w = .ok (.value (.bool b.isNone)) w:=by
  have hc:a.eval (.const (.slice none 0 0)) = .slice none 0 0:=rfl;simp [execOp,ly,e1,hc,eqGuard,binOp,aK]
 refine gK cf ?_;rw [fg];refine go_sound 4000 _ _ (hk b.isNone fun aT=>?_) E _ w (aZ h hd (.v (.bool b.isNone)) _ (by unfold Rv;exact ⟨rfl,rfl⟩));have:=mE (hr aT).1;rw [this];rfl
theorem Ui {t d et e je n:Nat} {bb:Bool} {z:List Value} (ly:o.op = .buildSlice t 0 #[]) (fg:o.dst=some d) (hT:X.T.find t=some ⟨n,bb,.sl et e je,z⟩) (hd:eL X.nt st.sl (some d)=true) (aU:X.still=false:=by exact rfl) (hX:X.bt=[]:=by exact rfl) :
  YK X o st ⟨(d,⟨[],.sl e [] (some st.tk.length)⟩) :: st.sl,st.bx,st.tk ++ [⟨0,et,e,none⟩]⟩:=by
 intro E a w h;obtain ⟨hu,ii,zv,sI,hz,bJ,tA,HO⟩:=eA X.hT hT;have oh:iO X.P et=some e:=by rw [gJ sI,bJ]
 have cf:(execOp a.eval o).run X.P w = .ok (.value (.slice (some ⟨w.heap.size,0,none⟩) 0 0)) (w.alloc (.cells #[] et)):=by
  have h1:(Instr.buildSlice t 0 #[]).run X.P w = .ok (.slice (some ⟨w.heap.size,0,none⟩) 0 0) (w.alloc (.cells #[] et)):=by
   have h0:Array.range 0 = #[]:=rfl;simp [Instr.buildSlice,run_underlying hu,aP oh,Instr.fill,newRow,h0]
  simp only [execOp,ly,List.map_toArray,List.map_nil,Sem.run_bind,h1,Result.andThen_ok,Sem.run_pure]
 refine eM cf ?_;rw [fg];have om:=h.env.ku (w':=w.alloc (.cells #[] et)) fun i hi=>alloc_old w _ hi
 let E2:En:=⟨E.c,E.β,E.tk ++ [⟨0,et,e,none⟩],E.τ ++ [.slice (some ⟨w.heap.size,0,none⟩) 0 0]⟩
 have hext:Ext E E2:=⟨fun _ _ h=>h,fun _ _ h=>h,fun k q' hk=>by
  have au:=(gS hk).1;refine ⟨q',by show (E.tk ++ _)[k]? = _;rw [List.getElem?_append_left au];exact hk,.inl ⟨rfl,?_⟩⟩;show (E.τ ++ _)[k]? = _
  rw [List.getElem?_append_left (by rw [h.env.tl];exact au)]⟩
 have hτ:∀ (k:Nat) y,E2.τ[k]? = some y->(k < E.τ.length/\E.τ[k]? = some y)∨(k=E.τ.length/\y = .slice (some ⟨w.heap.size,0,none⟩) 0 0):=fun k y hy=>by
  have hy:(E.τ ++ [Value.slice (some ⟨w.heap.size,0,none⟩) 0 0])[k]? = some y:=hy;rw [List.getElem?_append] at hy;split at hy
  ·rename_i hk;exact .inl ⟨hk,hy⟩
  ·rename_i hk
   have h0:k - E.τ.length=0:=by
    rcases Nat.eq_zero_or_pos (k - E.τ.length) with h0 | h0
    ·exact h0
    ·rw [List.getElem?_eq_none (by simp;omega)] at hy;cases hy
   rw [h0] at hy;simp only [List.getElem?_cons_zero,oI] at hy;exact .inr ⟨by omega,hy.symm⟩
 have E9:∀ (k:Nat) y g,E.τ[k]? = some y->y.ownBlock=some g->g < w.heap.size:=fun k y g hy hg=>(h.env.own (mG hy) hg).1
 have bY:Rel X E2 ⟨st.sl,st.bx,st.tk ++ [⟨0,et,e,none⟩]⟩ a (w.alloc (.cells #[] et)):=by
  refine dg h hext ?_ (by show E.tk ++ _=_;rw [h.tk]) ?_ (h.fr.alloc _) (mh aU) (.nil hX)
  ·exact {
    len:=h.env.len
    tl:=by show (E.τ ++ _).length=(E.tk ++ _).length;simp [h.env.tl]
    ek:=fun i cs hi=>by
     obtain ⟨b,t,arr,hb,hw,hc⟩:=om.ek i cs hi;exact ⟨b,t,arr,hb,hw,hc.mono hext⟩
    inj:=h.env.inj
    sub:=om.sub
    pc:=h.env.pc
    ct:=fun k q' y hkq hy=>by
     rcases hτ k y hy with ⟨au,fG⟩ | ⟨rfl,rfl⟩
     ·have fF:(E.tk ++ [⟨0,et,e,none⟩])[k]? = some q':=hkq;rw [List.getElem?_append_left (by rw [<- h.env.tl];exact au)] at fF;exact om.ct k q' y fF fG
     ·have fF:(E.tk ++ [⟨0,et,e,none⟩])[E.τ.length]? = some q':=hkq;rw [List.getElem?_append_right (by rw [h.env.tl];exact Nat.le_refl _),h.env.tl] at fF;simp only [Nat.sub_self,List.getElem?_cons_zero,oI] at fF;subst fF;refine .inr ⟨w.heap.size,0,#[],rfl,jr w _,⟨by simp,pK.none rfl⟩,Nat.le_refl _,Nat.zero_le _,fun hm=>?_,fun x v hx Fk=>?_⟩
      ·have:=h.env.bc hm;omega
      ·have:=World.block_lt_of_cell? w x (h.env.sub x v hx);omega
    iW:=fun k k' y y' g Ci hy fG hg sG=>by
     rcases hτ k y hy with ⟨_,BX⟩ | ⟨rfl,rfl⟩
     ·rcases hτ k' y' fG with ⟨_,mi⟩ | ⟨rfl,rfl⟩
      ·exact h.env.iW k k' y y' g Ci BX mi hg sG
      ·have:=E9 k y g BX hg;simp only [Value.ownBlock,oI] at sG;omega
     ·rcases hτ k' y' fG with ⟨_,mi⟩ | ⟨rfl,rfl⟩
      ·have:=E9 k' y' g mi sG;simp only [Value.ownBlock,oI] at hg;omega
      ·exact Ci rfl }
  ·exact {
    c:=h.nw.c
    cn:=h.nw.cn
    β:=h.nw.β
    tk:=fun j q0 y0 rr Cj=>by
     obtain ⟨q',y',h1,h2,h3⟩:=h.nw.tk j q0 y0 rr Cj;exact ⟨q',y',by show (E.tk ++ _)[j]? = _;rw [List.getElem?_append_left (gS h1).1];exact h1,by show (E.τ ++ _)[j]? = _;rw [List.getElem?_append_left (gS h2).1];exact h2,h3⟩
    tn:=fun j y g hj hy hg=>by
     rcases hτ j y hy with ⟨_,BX⟩ | ⟨_,rfl⟩
     ·exact h.nw.tn j y g hj BX hg
     ·simp only [Value.ownBlock,oI] at hg;have:=h.fr.size;omega
    l0:=h.nw.l0 }
 refine ⟨E2,aZ bY hd (.sl e [] (some st.tk.length)) _ ?_,hext,⟨[],by simp [E2]⟩,fun i b hb _=>alloc_old w _ (h.env.bc (mG hb))⟩;unfold Rv;refine ⟨_,0,0,rfl,⟨rfl,Nat.le_refl _⟩,fun hn=>(hn rfl).elim,fun k' fF=>?_⟩;cases fF;refine ⟨⟨0,et,e,none⟩,?_,Nat.le_refl _,fun _=>?_⟩
 ·show (E.tk ++ _)[st.tk.length]? = _;rw [h.tk];simp
 ·show (E.τ ++ _)[st.tk.length]? = _;rw [<- h.tk,<- h.env.tl];simp
theorem wj {t d et e je n:Nat} {bb:Bool} {z:List Value} (ly:o.op = .buildSlice t 0 #[]) (fg:o.dst=some d) (hT:X.T.find t=some ⟨n,bb,.sl et e je,z⟩) (hd:eL X.nt st.sl (some d)=true) (aU:X.still=false:=by exact rfl) (hX:X.bt=[]:=by exact rfl)
  (hk:go X 4000 k ⟨(d,⟨[],.sl e [] (some st.tk.length)⟩) :: st.sl,st.bx,st.tk ++ [⟨0,et,e,none⟩]⟩):HS X o k st:=(Ui ly fg hT hd aU hX).g hk
theorem KC {D:Dr} {c:Bool} {i:Nat} {s0:List (Nat × Sl)} {r:List (Nat × Oper)} {t d et e je n:Nat} {bb:Bool} {z:List Value} (ly:o.op = .buildSlice t 0 #[]) (fg:o.dst=some d) (hT:X.T.find t=some ⟨n,bb,.sl et e je,z⟩) (hd:(eL X.nt st.sl (some d) && eL X.nt s0 (some d))=true)
  (hk:delF d s0 fun ic=>goD X D 3000 c r ic ⟨(d,⟨[],.sl e [] (some st.tk.length)⟩) :: st.sl,st.bx,st.tk ++ [⟨0,et,e,none⟩]⟩) (aU:X.still=false:=by exact rfl) (hX:X.bt=[]:=by exact rfl):OpD X D c i r o s0 st:=by
 simp only [Bool.and_eq_true] at hd;exact (Ui ly fg hT hd.1 aU hX).d fg hd.2 hk
theorem Wk.Ik {st':St} (N:Nat) (hN:Nat.ble X.n0 N=true) (CE:Nat.ble N st.bx.length=true) (jL:lB st.bx N N st.tk.length st'.bx (st.bx.take N)) (iZ:st'.tk=st.tk) (mF:MG st.bx N st.tk.length st.sl st'.sl):Wk X st st':=fun _ _ _ h=>
 Il h N (nL hN) (nL CE) jL iZ mF
theorem HS.wk {st':St} {o:Oper} (hw:Wk X st st') (hd:eL X.nt st'.sl o.dst=true) {p:Prop} (hp:effC X st' o (go X 4000 k)=some p) (h:p):HS X o k st:=fun E a w hr=>by
 obtain ⟨E',j2⟩:=hw _ _ _ hr;refine Cn (j7 ?_ (lG hd j2 hp h));rintro a' w' ⟨JS,E2,mw,lp,_⟩;exact go_sound 4000 _ _ mw _ _ _ lp
theorem RY (h:Rel X E st a w) (aU:X.still=false) (hX:X.bt=[]) {g n ty e cap:Nat} {cur:Array Value} (hw:w.heap[g]? = some (.cells cur ty (0,0))) (bJ:cur.size=cap * e) (hn:n<=cap) (JJ:cap<=maxLen) (hb:g ∉ E.β)
  (hc:∀ x v,E.c x=some v->x.block=g->x.off < n * e) (E9:∀ (k:Nat) y,E.τ[k]? = some y->y.ownBlock≠some g) (hg:X.w0.heap.size<=g) :
  Rel X ⟨E.c,E.β,E.tk ++ [⟨n,ty,e,none⟩],E.τ ++ [.slice (some ⟨g,0,none⟩) n cap]⟩ ⟨st.sl,st.bx,st.tk ++ [⟨n,ty,e,none⟩]⟩ a w:=by
 let E2:En:=⟨E.c,E.β,E.tk ++ [⟨n,ty,e,none⟩],E.τ ++ [.slice (some ⟨g,0,none⟩) n cap]⟩
 have hext:Ext E E2:=⟨fun _ _ h=>h,fun _ _ h=>h,fun k q' hk=>by
  have au:=(gS hk).1;refine ⟨q',by show (E.tk ++ _)[k]? = _;rw [List.getElem?_append_left au];exact hk,.inl ⟨rfl,?_⟩⟩;show (E.τ ++ _)[k]? = _
  rw [List.getElem?_append_left (by rw [h.env.tl];exact au)]⟩
 have hτ:∀ (k:Nat) y,E2.τ[k]? = some y->(k < E.τ.length/\E.τ[k]? = some y)∨(k=E.τ.length/\y = .slice (some ⟨g,0,none⟩) n cap):=fun k y hy=>by
  have hy:(E.τ ++ [Value.slice (some ⟨g,0,none⟩) n cap])[k]? = some y:=hy;rw [List.getElem?_append] at hy;split at hy
  ·rename_i hk;exact .inl ⟨hk,hy⟩
  ·rename_i hk
   have h0:k - E.τ.length=0:=by
    rcases Nat.eq_zero_or_pos (k - E.τ.length) with h0 | h0
    ·exact h0
    ·rw [List.getElem?_eq_none (by simp;omega)] at hy;cases hy
   rw [h0] at hy;simp only [List.getElem?_cons_zero,oI] at hy;exact .inr ⟨by omega,hy.symm⟩
 refine dg h hext ?_ (by show E.tk ++ _=_;rw [h.tk]) ?_ h.fr (mh aU) (.nil hX)
 ·exact {
   len:=h.env.len
   tl:=by show (E.τ ++ _).length=(E.tk ++ _).length;simp [h.env.tl]
   ek:=fun i cs hi=>by
    obtain ⟨b,t,arr,hb,hw,hc⟩:=h.env.ek i cs hi;exact ⟨b,t,arr,hb,hw,hc.mono hext⟩
   inj:=h.env.inj
   sub:=h.env.sub
   pc:=h.env.pc
   ct:=fun k q' y hkq hy=>by
    rcases hτ k y hy with ⟨au,fG⟩ | ⟨rfl,rfl⟩
    ·have fF:(E.tk ++ [⟨n,ty,e,none⟩])[k]? = some q':=hkq;rw [List.getElem?_append_left (by rw [<- h.env.tl];exact au)] at fF;exact h.env.ct k q' y fF fG
    ·have fF:(E.tk ++ [⟨n,ty,e,none⟩])[E.τ.length]? = some q':=hkq;rw [List.getElem?_append_right (by rw [h.env.tl];exact Nat.le_refl _),h.env.tl] at fF;simp only [Nat.sub_self,List.getElem?_cons_zero,oI] at fF;subst fF;exact .inr ⟨g,cap,cur,rfl,hw,⟨bJ,fun cs h=>by cases h⟩,hn,JJ,hb,hc⟩
   iW:=fun k k' y y' g' Ci hy fG mD B3=>by
    rcases hτ k y hy with ⟨_,BX⟩ | ⟨rfl,rfl⟩
    ·rcases hτ k' y' fG with ⟨_,mi⟩ | ⟨rfl,rfl⟩
     ·exact h.env.iW k k' y y' g' Ci BX mi mD B3
     ·simp only [Value.ownBlock,oI] at B3;subst B3;exact E9 k y BX mD
    ·rcases hτ k' y' fG with ⟨_,mi⟩ | ⟨rfl,rfl⟩
     ·simp only [Value.ownBlock,oI] at mD;subst mD;exact E9 k' y' mi B3
     ·exact Ci rfl }
 ·exact {
   c:=h.nw.c
   cn:=h.nw.cn
   β:=h.nw.β
   tk:=fun j q0 y0 rr Cj=>by
    obtain ⟨q',y',h1,h2,h3⟩:=h.nw.tk j q0 y0 rr Cj;exact ⟨q',y',by show (E.tk ++ _)[j]? = _;rw [List.getElem?_append_left (gS h1).1];exact h1,by show (E.τ ++ _)[j]? = _;rw [List.getElem?_append_left (gS h2).1];exact h2,h3⟩
   tn:=fun j y g' hj hy sG=>by
    rcases hτ j y hy with ⟨_,BX⟩ | ⟨_,rfl⟩
    ·exact h.nw.tn j y g' hj BX sG
    ·simp only [Value.ownBlock,oI] at sG;omega
   l0:=h.nw.l0 }
theorem Wj {t d et e je n len:Nat} {bb:Bool} {z:List Value} {parts:Array (Nat × Operand)} {es:List (List DV)} (ly:o.op = .buildSlice t len parts) (fg:o.dst=some d) (hT:X.T.find t=some ⟨n,bb,.sl et e je,z⟩) (jk:litL e st parts.toList 0=some es)
  (hc:(Nat.beq es.length len && (Nat.blt 0 len && Nat.blt 0 e && Nat.ble (len * e) 16777216))=true) (hd:eL X.nt st.sl (some d)=true) (aU:X.still=false:=by exact rfl) (hX:X.bt=[]:=by exact rfl)
  (hk:go X 4000 k ⟨(d,⟨[],.sl e es (some st.tk.length)⟩) :: st.sl,st.bx,st.tk ++ [⟨len,et,e,none⟩]⟩):HS X o k st:=by
 intro E a w h;simp only [Bool.and_eq_true,Nat.beq_eq,Nat.ble_eq,Nat.blt_eq] at hc;obtain ⟨hlen,⟨kx,H6⟩,hsm⟩:=hc;obtain ⟨hu,ii,zv,sI,hz,bJ,tA,HO⟩:=eA X.hT hT;obtain ⟨xs,vs,hp,x9,JK,hY,Ym,j1⟩:=oN h.rl H6 jk;subst bJ
 have JG:len * ii.size≠0:=by
  have:=Nat.mul_pos kx H6;omega
 have mC:Instr.fill (fun i=>some (i * ii.size,ii.size)) ((Array.range (len * ii.size)).map (zv.cells[·% zv.cells.size]!)) (parts.map fun (i,x)=>(i,a.eval x)).toList=some (cellsL vs).toArray:=by
  have h0:=uJ ii.size vs 0 ((Array.range (len * ii.size)).map (zv.cells[·% zv.cells.size]!)).toList hY (by simp [JK,hlen])
  have h1:(parts.map fun (i,x)=>(i,a.eval x)).toList=enumF 0 vs:=by
   rw [Array.toList_map,hp,x9,<- rk]
  rw [h1];simp only [Array.toArray_toList] at h0;rw [h0];simp [JK,hlen]
 have cf:(execOp a.eval o).run X.P w = .ok (.value (.slice (some ⟨w.heap.size,0,none⟩) len len)) (w.alloc (.cells (cellsL vs).toArray et)):=by
  simp only [execOp,ly,Sem.run_bind,run_buildSlice w t et len _ _ ii zv hu sI hz (by omega) JG mC,Result.andThen_ok,Sem.run_pure]
 refine gK cf ?_;rw [fg];have hr:=yC (arr:=cellsL vs) h aU et
 have Uj:(cellsL vs).length=len * ii.size:=by
  have:∀ l:List Value,(∀ v∈l,v.cells.toList.length=ii.size)->(cellsL l).length=l.length * ii.size:=by
   intro l
   induction l with
   | nil=>intro _;simp [cellsL]
   | cons v l ih=>
    intro hl;simp only [cellsL,List.length_append,List.length_cons];rw [ih fun x hx=>hl x (List.mem_cons_of_mem _ hx),hl v List.mem_cons_self,Nat.succ_mul];omega
  rw [this vs hY,JK,hlen]
 have lp:=RY (n:=len) (ty:=et) (e:=ii.size) (cap:=len) hr aU hX (g:=w.heap.size) (cur:=(cellsL vs).toArray) (jr w _) (by simp [Uj]) (Nat.le_refl _) (by
   have:len<=len * ii.size:=Nat.le_mul_of_pos_right _ H6;unfold maxLen;omega) (fun hm=>by have:=h.env.bc hm;omega) (fun x v hx Fk=>by
   have hx:addC E.c (w.alloc (.cells (cellsL vs).toArray et)) w.heap.size (cellsL vs).length x=some v:=hx;unfold addC at hx;split at hx
   ·rename_i hc;rw [<- Uj];exact hc.2.2
   ·have:=World.block_lt_of_cell? w x (h.env.sub x v hx);omega) (fun j y hy hg=>by
   have:=(h.env.own (mG hy) hg).1
   omega) (h.fr.size)
 refine go_sound 4000 _ _ hk _ _ _ (aZ lp hd (.sl ii.size es (some st.tk.length)) _ ?_);unfold Rv;refine ⟨_,_,_,rfl,⟨hlen.symm,Nat.le_refl _⟩,fun aT=>⟨rfl,?_⟩,fun k' fF=>?_⟩
 ·have eV:∀ x v,E.c x=some v->addC E.c (w.alloc (.cells (cellsL vs).toArray et)) w.heap.size (cellsL vs).length x=some v:=fun x v hx=>by
   have au:=World.block_lt_of_cell? w x (h.env.sub x v hx);unfold addC;rw [if_neg (by omega)];exact hx
  have hm:RvC (En.cl ⟨addC E.c (w.alloc (.cells (cellsL vs).toArray et)) w.heap.size (cellsL vs).length,E.β,E.tk,E.τ⟩) es.flatten (cellsL vs):=Ym.mono (Ext.UM (E:=E) eV);refine rvEs_flat hm j1 fun j u hj=>?_;show addC _ _ _ _ _=_;have iN:=(gS hj).1;simp only [ab,ao,Nat.zero_add];rw [As iN,cy (jr w _)];simpa using hj
 ·cases fF;refine ⟨⟨len,et,ii.size,none⟩,?_,Nat.le_refl _,fun _=>?_⟩
  ·show (E.tk ++ _)[st.tk.length]? = _;rw [h.tk];simp
  ·show (E.τ ++ _)[st.tk.length]? = _;rw [<- h.tk,<- h.env.tl];simp
end
end Dv
end Go.Proofs.YtffhgcbfpidfiaaGreat
