/- Part 4 of the proof: Rules for the evaluator: a call that is handed the caller's first objects and rows; rows whose cells nobody else knows; lattice.best, and the closures of bounds; lattice.bounds: all joins and meets; lattice.Build; Reading a lattice: Len, has, Name, Find, Join, Meet, Bottom; labels.Of; The checker's part, once check is known for lighter types; The checker's parts, once check is known for lighter types; The checker's one and check, once check is known for lighter types; so check; kinds.Count, resolve.nodes; the builder's level; The builder's end, loops, known; The builder's each, right, called; The builder's each of right; called; places; The builder's places; The builder's edge; The builder's node; Steps of a region that draws its order, one by one; What resolve.Build says of a schema; lattices in which nothing is wrong. No condition. -/
import Derived.Test.YtgjagnmeonoehaaGreatMu2
import Derived.Test.YtgjagnmeonoehaaGreatMu3
set_option linter.all false
namespace Go.Proofs.YtgjagnmeonoehaaGreat
namespace Dv
open Go Go.RowKit
section
variable {X:Ctx} {st:St} {k:List It} {E:En} {a:Act} {w:World}
def Wk (X:Ctx) (st st':St):Prop:=∀ E a w,Rel X E st a w->∃ E',Rel X E' st' a w
theorem Wk.refl (X:Ctx) (st:St):Wk X st st:=fun E _ _ h=>⟨E,h⟩
theorem Wk.trans {X:Ctx} {s1 s2 s3:St} (h1:Wk X s1 s2) (h2:Wk X s2 s3):Wk X s1 s3:=fun _ _ _ h=>by
 obtain ⟨E1,h3⟩:=h1 _ _ _ h;exact h2 _ _ _ h3
theorem Wk.FO {X:Ctx} {s1 s2:St} (h:qu X.n0 X.m0 s1 s2):Wk X s1 s2:=fun _ _ _ hr=>xc hr h
theorem A4 {f:FuncId} {args bE:List DV} {os:List (List DV)} (n1 m1:Nat) (Eu:Nat.ble n1 st.bx.length=true) (jT:Nat.ble m1 st.tk.length=true)
  (Cm:mF [] n1 n1 m1 os (st.bx.take n1)) (ha:CcL [] n1 n1 m1 bE args)
  {Φ:DV->List (List DV)->List TkE->Prop} (hc:EvT false X.P f bE os (st.tk.take m1) X.bt Φ) (bd:X.still=false) {vs:List Value} (h:Rel X E st a w) (hv:RvL E args vs) :
  Calls X.P f vs.toArray w fun e w'=>∃ v r ir cC E',e = .returned v/\Φ r ir cC /\ ir.length=n1/\cC.length=m1/\Rel X E' ⟨st.sl,ir ++ st.bx.drop n1,cC ++ st.tk.drop m1⟩ a w' /\ Rv E' r v/\Ext E E' /\ E'.β=E.β /\
   ∀ (i:Nat) b,n1<=i->E.β[i]? = some b->w'.heap[b]? = w.heap[b]?:=by
 have Eu:=nL Eu;have jT:=nL jT;have hlen:=h.env.len;have gD:=h.env.tl;have jG:=h.tk;have htkl:E.tk.length=st.tk.length:=by rw [jG]
 let E1:En:=⟨E.c,E.β.take n1,E.tk.take m1,E.τ.take m1⟩
 have hfz:OO E E1 [] n1:=⟨fun _ _ h=>h,fun i cs _ hi=>by simp at hi⟩
 have Cq:KR E E1 n1 m1:={
  β:=fun i b hi hb=>by show (E.β.take n1)[i]? = _;rw [cI,aj hi];exact hb
  tk:=fun k hk=>⟨by show (E.tk.take m1)[k]? = _;rw [cI,aj hk],by show (E.τ.take m1)[k]? = _;rw [cI,aj hk]⟩ }
 obtain ⟨lS,hog⟩:=Cm.get;have hosl:os.length=n1:=by rw [lS,zLenT];omega
 have hτg:∀ (j:Nat) y,(E.τ.take m1)[j]? = some y->j < m1/\E.τ[j]? = some y:=fun j y hy=>by
  rw [cI] at hy;split at hy
  ·rename_i hj;exact ⟨hj,hy⟩
  ·cases hy
 have hkg:∀ (j:Nat) q,(E.tk.take m1)[j]? = some q->j < m1/\E.tk[j]? = some q:=fun j y hy=>by
  rw [cI] at hy;split at hy
  ·rename_i hj;exact ⟨hj,hy⟩
  ·cases hy
 have OR:Env E1 os w:={
  len:=by show (E.β.take n1).length=_;rw [zLenT,hosl];omega
  tl:=by show (E.τ.take m1).length=(E.tk.take m1).length;rw [zLenT,zLenT,gD]
  ey:=fun i cs' hi=>by
   obtain ⟨cs,hcs,vx⟩:=hog i cs' hi;rw [cI] at hcs;split at hcs
   ·rename_i aw;obtain ⟨b,ty,arr,hb,hw,hc⟩:=h.env.ey i cs hcs;exact ⟨b,ty,arr,Cq.β i b aw hb,hw,CcL.sound hfz Cq vx hc.1,hc.2⟩
   ·cases hcs
  inj:=h.env.inj.sublist (List.take_sublist _ _)
  sub:=h.env.sub
  pc:=fun x v hx hm=>h.env.pc x v hx (List.mem_of_mem_take hm)
  bU:=fun j q y hq hy=>by
   obtain ⟨_,hq⟩:=hkg j q hq;obtain ⟨_,hy⟩:=hτg j y hy;rcases h.env.bU j q y hq hy with h1 | ⟨g,cap,cur,rfl,h1,h2,h3,h4,h5,h6⟩
   ·exact .inl h1
   ·exact .inr ⟨g,cap,cur,rfl,h1,h2,h3,h4,fun hm=>h5 (List.mem_of_mem_take hm),h6⟩
  jc:=fun j j' y y' g KM hy fW=>h.env.jc j j' y y' g KM (hτg j y hy).2 (hτg j' y' fW).2 }
 refine (hc E1 w _ OR (by show E.tk.take m1=_;rw [jG]) (h.bt.sub n1) (CcL.sound hfz Cq ha hv)).mono ?_;rintro e w' ⟨v,rfl,⟨hm,_,r,ir,E2,he,hβ,tI,hn,Ud,hΦ⟩,hbt2⟩;have tI:E2.tk.length=E1.tk.length:=tI;have hE1t:E1.tk.length=m1:=by show (E.tk.take m1).length=_;rw [zLenT];omega
 have hE1τ:E1.τ.length=m1:=by show (E.τ.take m1).length=_;rw [zLenT];omega
 have hE1β:E1.β.length=n1:=by show (E.β.take n1).length=_;rw [zLenT];omega
 rw [hE1t] at tI;have hτ2:E2.τ.length=m1:=by rw [he.tl,tI]
 have IX:ir.length=n1:=by rw [<- he.len,hβ,hE1β]
 have hS:∀ j,E1.S j->j∈E.β.take n1∨∃ i y,i < m1/\E.τ[i]? = some y/\y.ownBlock=some j:=fun j hj=>by
  rcases hj with h1 | ⟨y,h1,h2⟩
  ·exact .inl h1
  ·obtain ⟨i,hi,he⟩:=List.getElem_of_mem h1;have ik:E1.τ[i]? = some y:=by rw [gE hi,he]
   obtain ⟨h3,h4⟩:=hτg i y ik;exact .inr ⟨i,y,h3,h4,h2⟩
 have hh:∀ j,j < w.heap.size->¬ E1.S j->w'.heap[j]? = w.heap[j]?:=fun j hj aY=>hm.block j hj aY;have dm:∀ (i:Nat) y g,E.τ[i]? = some y->y.ownBlock=some g->g < w.heap.size/\g ∉ E.β:=fun i y g hy hg=>h.env.own (mG hy) hg
 have eY:∀ x v,E2.c x=some v->E.c x=some v∨w.heap.size<=x.block∨∃ i y,i < m1/\E.τ[i]? = some y/\y.ownBlock=some x.block:=fun x v hx=>by
  rcases hn.cn x v hx with h1 | h1 | ⟨y,h1,h2⟩
  ·exact .inl h1
  ·exact .inr (.inl h1)
  ·obtain ⟨i,hi,he⟩:=List.getElem_of_mem h1;have ik:E1.τ[i]? = some y:=by rw [gE hi,he]
   obtain ⟨h3,h4⟩:=hτg i y ik;exact .inr (.inr ⟨i,y,h3,h4,h2⟩)
 have qp:∀ (j:Nat) q,j < m1->E.tk[j]? = some q->∃ y q' y',E.τ[j]? = some y/\E2.tk[j]? = some q' /\ E2.τ[j]? = some y' /\ q.ty=q'.ty/\q.e=q'.e/\((q'.n=q.n/\y'=y)∨q.n < q'.n)/\(y'.ownBlock=y.ownBlock∨∀ g,y'.ownBlock=some g->w.heap.size<=g):=fun j q hj hq=>by
  have qY:j < E.τ.length:=by rw [gD];omega
  obtain ⟨q',y',h1,h2,h3⟩:=hn.tk j q E.τ[j] (by show (E.tk.take m1)[j]? = _;rw [cI,aj hj];exact hq) (by show (E.τ.take m1)[j]? = _;rw [cI,aj hj,gE qY]);exact ⟨_,q',y',gE qY,h1,h2,h3⟩
 have Lq:∀ (j:Nat) y',j < m1->E2.τ[j]? = some y' -> ∃ y,E.τ[j]? = some y/\(y'.ownBlock=y.ownBlock∨∀ g,y'.ownBlock=some g->w.heap.size<=g):=fun j y' hj hy=>by
  have qY:j < E.tk.length:=by omega
  obtain ⟨y,q1,y1,h1,_,h3,_,_,_,h7⟩:=qp j _ hj (gE qY);rw [hy] at h3;simp only [oI] at h3;subst h3;exact ⟨y,h1,h7⟩
 let E':En:=⟨E2.c,E.β,E2.tk ++ E.tk.drop m1,E2.τ ++ E.τ.drop m1⟩
 have fC:∀ (j:Nat),m1<=j->E'.tk[j]? = E.tk[j]?:=fun j hj=>by
  show (E2.tk ++ E.tk.drop m1)[j]? = _;rw [List.getElem?_append_right (by omega),List.getElem?_drop,tI];congr 1;omega
 have YV:∀ (j:Nat),m1<=j->E'.τ[j]? = E.τ[j]?:=fun j hj=>by
  show (E2.τ ++ E.τ.drop m1)[j]? = _;rw [List.getElem?_append_right (by omega),List.getElem?_drop,hτ2];congr 1;omega
 have Px:∀ (j:Nat),j < m1->E'.tk[j]? = E2.tk[j]?:=fun j hj=>by
  show (E2.tk ++ E.tk.drop m1)[j]? = _;rw [dn (by omega)]
 have ON:∀ (j:Nat),j < m1->E'.τ[j]? = E2.τ[j]?:=fun j hj=>by
  show (E2.τ ++ E.τ.drop m1)[j]? = _;rw [dn (by omega)]
 have hx:Ext E E':=⟨hn.c,fun _ _ h=>h,fun j q hq=>by
  rcases Nat.lt_or_ge j m1 with hj | hj
  ·obtain ⟨y,q',y',h1,h2,h3,_,_,h6,_⟩:=qp j q hj hq;refine ⟨q',by rw [Px j hj];exact h2,?_⟩;rcases h6 with ⟨h6,rfl⟩ | h6
   ·exact .inl ⟨h6,by rw [ON j hj,h3,h1]⟩
   ·exact .inr h6
  ·exact ⟨q,by rw [fC j hj];exact hq,.inl ⟨rfl,YV j hj⟩⟩⟩
 have TG:Ext E2 E':={
  c:=fun _ _ h=>h
  β:=fun j b hj=>by
   rw [hβ] at hj;have hj:(E.β.take n1)[j]? = some b:=hj;rw [cI] at hj;split at hj
   ·exact hj
   ·cases hj
  tk:=fun j q hq=>by
   have hj:j < m1:=by have:=(gS hq).1;omega
   exact ⟨q,by rw [Px j hj];exact hq,.inl ⟨rfl,ON j hj⟩⟩ }
 have W2:∀ (i:Nat) b,n1<=i->E.β[i]? = some b->w'.heap[b]? = w.heap[b]?:=fun i b hi hb=>by
  refine hh b (h.env.bp (mG hb)) fun hs=>?_;rcases hS b hs with h1 | ⟨i',y,_,h2,h3⟩
  ·obtain ⟨i',ik,Ih⟩:=List.getElem_of_mem h1;have h4:(E.β.take n1)[i']? = some b:=by rw [gE ik,Ih]
   rw [cI] at h4;split at h4
   ·rename_i aw;have:=(List.getElem?_inj (gS hb).1 h.env.inj).1 (hb.trans h4.symm);omega
   ·cases h4
  ·exact (dm i' y b h2 h3).2 (mG hb)
 have hbt':pS X.bt E.β w':=fun p hp b hb=>by
  rcases Nat.lt_or_ge p.1 n1 with aw | hge
  ·exact hbt2 p hp b (by show (E.β.take n1)[p.1]? = _;rw [cI,aj aw];exact hb)
  ·obtain ⟨cs,hcs⟩:=h.bt p hp b hb;exact ⟨cs,by rw [W2 p.1 b hge hb];exact hcs⟩
 have bY:Rel X E' ⟨st.sl,ir ++ st.bx.drop n1,E2.tk ++ st.tk.drop m1⟩ a w':=by
  refine dC h hx ?_ (by show E2.tk ++ E.tk.drop m1=_;rw [jG]) ?_ (h.fr.cK hm.os hm.tape hm.output hm.size fun j hj=>?_) (mJ bd) hbt'
  ·exact {
    len:=by show E.β.length=_;rw [List.length_append,List.length_drop,IX,hlen];omega
    tl:=by show (E2.τ ++ E.τ.drop m1).length=(E2.tk ++ E.tk.drop m1).length;simp only [List.length_append,List.length_drop,hτ2,tI,gD]
    ey:=fun i TF hi=>by
     rcases Nat.lt_or_ge i n1 with v7 | v7
     ·rw [dn (by omega)] at hi;obtain ⟨b2,ty2,Yw,eP,mA,nV⟩:=he.ey i TF hi;exact ⟨b2,ty2,Yw,TG.β i b2 eP,mA,nV.mono TG⟩
     ·rw [List.getElem?_append_right (by omega),List.getElem?_drop,IX] at hi;rw [show n1 + (i - n1)=i by omega] at hi;obtain ⟨bj,tyj,Yx,Wi,hwj,XY⟩:=h.env.ey i TF hi;refine ⟨bj,tyj,Yx,Wi,(hh bj (dj hwj) ?_).trans hwj,XY.mono hx⟩;intro hs;rcases hS bj hs with h1 | ⟨i',y,_,h2,h3⟩
      ·obtain ⟨i',ik,Ih⟩:=List.getElem_of_mem h1;have h4:(E.β.take n1)[i']? = some bj:=by rw [gE ik,Ih]
       rw [cI] at h4;split at h4
       ·rename_i aw;have:=(List.getElem?_inj (gS Wi).1 h.env.inj).1 (Wi.trans h4.symm);omega
       ·cases h4
      ·exact (dm i' y bj h2 h3).2 (mG Wi)
    inj:=h.env.inj
    sub:=he.sub
    pc:=fun x v hc rq=>by
     rcases eY x v hc with h1 | h1 | ⟨i,y,_,h2,h3⟩
     ·exact h.env.pc x v h1 rq
     ·have:=h.env.bp rq;omega
     ·exact (dm i y _ h2 h3).2 rq
    bU:=fun j q y hq hy=>by
     rcases Nat.lt_or_ge j m1 with hj | hj
     ·rw [Px j hj] at hq;rw [ON j hj] at hy;rcases he.bU j q y hq hy with h1 | ⟨g,cap,cur,rfl,h1,h2,h3,h4,h5,h6⟩
      ·exact .inl h1
      ·refine .inr ⟨g,cap,cur,rfl,h1,h2,h3,h4,fun rq=>?_,h6⟩;obtain ⟨y0,h7,h8⟩:=Lq j _ hj hy;rcases h8 with h8 | h8
       ·exact (dm j y0 g h7 (by rw [<- h8];rfl)).2 rq
       ·have:=h8 g rfl;have:=h.env.bp rq;omega
     ·rw [fC j hj] at hq;rw [YV j hj] at hy;rcases h.env.bU j q y hq hy with h1 | ⟨g,cap,cur,rfl,h1,h2,h3,h4,h5,h6⟩
      ·exact .inl h1
      ·have aY:∀ i y',i < m1->E.τ[i]? = some y' -> y'.ownBlock≠some g:=fun i y' hi fW=>h.env.jc j i _ y' g (by omega) hy fW rfl
       have vE:¬ E1.S g:=fun hs=>by
        rcases hS g hs with h7 | ⟨i,y',h7,h8,h9⟩
        ·exact h5 (List.mem_of_mem_take h7)
        ·exact aY i y' h7 h8 h9
       refine .inr ⟨g,cap,cur,rfl,by rw [hh g (dj h1) vE];exact h1,⟨h2.1,h2.2.mono hn.c⟩,h3,h4,h5,fun x v hc hg=>?_⟩
       ·rcases eY x v hc with h7 | h7 | ⟨i,y',h7,h8,h9⟩
        ·exact h6 x v h7 hg
        ·have:=dj h1;omega
        ·exact (aY i y' h7 h8 (by rw [h9,hg])).elim
    jc:=fun j j' y y' g KM hy fW hg qX=>by
     rcases Nat.lt_or_ge j m1 with hj | hj
     ·rw [ON j hj] at hy;obtain ⟨y0,h7,h8⟩:=Lq j _ hj hy;rcases Nat.lt_or_ge j' m1 with j1 | j1
      ·rw [ON j' j1] at fW;exact he.jc j j' y y' g KM hy fW hg qX
      ·rw [YV j' j1] at fW;rcases h8 with h8 | h8
       ·exact h.env.jc j j' y0 y' g KM h7 fW (by rw [<- h8];exact hg) qX
       ·have:=h8 g hg;have:=(dm j' y' g fW qX).1;omega
     ·rw [YV j hj] at hy;rcases Nat.lt_or_ge j' m1 with j1 | j1
      ·rw [ON j' j1] at fW;obtain ⟨y0,h7,h8⟩:=Lq j' _ j1 fW;rcases h8 with h8 | h8
       ·exact h.env.jc j j' y y0 g KM hy h7 hg (by rw [<- h8];exact qX)
       ·have:=h8 g qX;have:=(dm j y g hy hg).1;omega
      ·rw [YV j' j1] at fW
       exact h.env.jc j j' y y' g KM hy fW hg qX }
  ·exact {
    c:=fun x v hc=>hn.c x v (h.nw.c x v hc)
    cn:=fun x v hc=>by
     rcases eY x v hc with h1 | h1 | ⟨i,y,_,h2,h3⟩
     ·exact h.nw.cn x v h1
     ·have:=h.fr.size;exact .inr (.inl (by omega))
     ·rcases h.nw.own h2 h3 with h4 | h4
      ·exact .inr (.inr h4)
      ·exact .inr (.inl h4)
    β:=h.nw.β
    tk:=fun j q0 y0 zZ Ch=>by
     obtain ⟨q1,y1,h1,h2,h3,h4,h5,h6⟩:=h.nw.tk j q0 y0 zZ Ch;rcases Nat.lt_or_ge j m1 with hj | hj
     ·obtain ⟨y,q',y',g1,g2,g3,g4,g5,g6,g7⟩:=qp j q1 hj h1;rw [h2] at g1;simp only [oI] at g1;subst g1;refine ⟨q',y',by rw [Px j hj];exact g2,by rw [ON j hj];exact g3,h3.trans g4,h4.trans g5,?_,?_⟩
      ·rcases g6 with ⟨g6,rfl⟩ | g6
       ·rcases h5 with ⟨h5,rfl⟩ | h5
        ·exact .inl ⟨by omega,rfl⟩
        ·exact .inr (by omega)
       ·rcases h5 with ⟨h5,_⟩ | h5
        ·exact .inr (by omega)
        ·exact .inr (by omega)
      ·rcases g7 with g7 | g7
       ·rcases h6 with h6 | h6
        ·exact .inl (g7.trans h6)
        ·exact .inr fun g hg=>h6 g (by rw [<- g7];exact hg)
       ·refine .inr fun g hg=>?_;have:=g7 g hg;have:=h.fr.size;omega
     ·exact ⟨q1,y1,by rw [fC j hj];exact h1,by rw [YV j hj];exact h2,h3,h4,h5,h6⟩
    tn:=fun j y g EC hy hg=>by
     rcases Nat.lt_or_ge j m1 with hj | hj
     ·rw [ON j hj] at hy;obtain ⟨y0,h7,h8⟩:=Lq j _ hj hy;rcases h8 with h8 | h8
      ·exact h.nw.tn j y0 g EC h7 (by rw [<- h8];exact hg)
      ·have:=h8 g hg;have:=h.fr.size;omega
     ·rw [YV j hj] at hy;exact h.nw.tn j y g EC hy hg
    l0:=h.nw.l0 }
  ·by_cases hjs:E1.S j
   ·left;rcases hS j hjs with h1 | ⟨i,y,_,h2,h3⟩
    ·have AD:=List.mem_of_mem_take h1;obtain ⟨r0,hr0,HR⟩:=h.nw.β;rw [hr0] at AD;rcases List.mem_append.1 AD with AD | AD
     ·exact .inl (.inl AD)
     ·exact .inr (HR j AD)
    ·rcases h.nw.own h2 h3 with h4 | h4
     ·exact .inl (.inr h4)
     ·exact .inr h4
   ·exact .inr (hh j hj hjs)
 exact ⟨v,r,ir,E2.tk,E',rfl,hΦ,IX,tI,bY,Rv.mono TG Ud,hx,rfl,W2⟩
theorem FP {f:FuncId} {args bE:List DV} {os:List (List DV)} (n1 m1:Nat) (Eu:Nat.ble n1 st.bx.length=true) (jT:Nat.ble m1 st.tk.length=true)
  (Cm:mF [] n1 n1 m1 os (st.bx.take n1)) (ha:CcL [] n1 n1 m1 bE args)
  {Φ:DV->List (List DV)->List TkE->Prop} (hc:Ev X.P f bE os (st.tk.take m1) Φ) (bd:X.still=false) (hX:X.bt=[]) {vs:List Value} (h:Rel X E st a w) (hv:RvL E args vs) :
  Calls X.P f vs.toArray w fun e w'=>∃ v r ir cC E',e = .returned v/\Φ r ir cC /\ ir.length=n1/\cC.length=m1/\Rel X E' ⟨st.sl,ir ++ st.bx.drop n1,cC ++ st.tk.drop m1⟩ a w' /\ Rv E' r v/\Ext E E' /\ E'.β=E.β /\
   ∀ (i:Nat) b,n1<=i->E.β[i]? = some b->w'.heap[b]? = w.heap[b]?:=
 A4 n1 m1 (by exact Eu) (by exact jT) Cm ha (hc.abn hX) bd h hv
theorem rT {f:FuncId} {args bE:List DV} {os:List (List DV)} {d:Nat} (n1 m1:Nat) (kY:Enters X.P f) (hd:ep X.nt st.sl (some d)=true) (Eu:Nat.ble n1 st.bx.length=true) (jT:Nat.ble m1 st.tk.length=true)
  (Cm:mF [] n1 n1 m1 os (st.bx.take n1)) (ha:CcL [] n1 n1 m1 bE args)
  {Φ:DV->List (List DV)->List TkE->Prop} (hc:Ev X.P f bE os (st.tk.take m1) Φ)
  (hk:∀ r ir cC,Φ r ir cC -> ir.length=n1->cC.length=m1->∃ st',Wk X ⟨(d,⟨[],r⟩) :: st.sl,ir ++ st.bx.drop n1,cC ++ st.tk.drop m1⟩ st' /\ go X 4000 k st') (bd:X.still=false:=by exact rfl) (hX:X.bt=[]:=by exact rfl):CallG X f args (some d) k st:=by
 refine ⟨kY,bd,fun E a w vs h hv=>(FP n1 m1 Eu jT Cm ha hc bd hX h hv).mono ?_⟩;rintro e w' ⟨v,r,ir,cC,E',rfl,hΦ,IX,tI,bY,CE,_,_,_⟩;obtain ⟨st',rz,kV⟩:=hk r ir cC hΦ IX tI;obtain ⟨E3,hr3⟩:=rz _ _ _ (bc bY hd r v CE);exact go_sound 4000 _ _ kV E3 _ w' hr3
theorem gf {f:FuncId} {args bE:List DV} {os:List (List DV)} {d:Nat} (n1 m1:Nat) (kY:Enters X.P f) (hd:ep X.nt st.sl (some d)=true) (Eu:Nat.ble n1 st.bx.length=true) (jT:Nat.ble m1 st.tk.length=true)
  (Cm:mF [] n1 n1 m1 os (st.bx.take n1)) (ha:CcL [] n1 n1 m1 bE args)
  {Φ:DV->List (List DV)->List TkE->Prop} (hc:Ev X.P f bE os (st.tk.take m1) Φ)
  (hk:∀ r ir cC,Φ r ir cC -> ir.length=n1->cC.length=m1->go X 4000 k ⟨(d,⟨[],r⟩) :: st.sl,ir ++ st.bx.drop n1,cC ++ st.tk.drop m1⟩) (bd:X.still=false:=by exact rfl) (hX:X.bt=[]:=by exact rfl):CallG X f args (some d) k st:=
 rT n1 m1 kY hd Eu jT Cm ha hc (fun r ir cC h1 h2 h3=>⟨_,Wk.refl _ _,hk r ir cC h1 h2 h3⟩) bd hX
theorem lY {f:FuncId} {args bE:List DV} {os:List (List DV)} {d:Nat} (n1 m1:Nat) (kY:Enters X.P f) (hd:ep X.nt st.sl (some d)=true) (Eu:Nat.ble n1 st.bx.length=true) (jT:Nat.ble m1 st.tk.length=true)
  (Cm:mF [] n1 n1 m1 os (st.bx.take n1)) (ha:CcL [] n1 n1 m1 bE args)
  {Φ:DV->List (List DV)->List TkE->Prop} (hc:EvT false X.P f bE os (st.tk.take m1) X.bt Φ)
  (hk:∀ r ir cC,Φ r ir cC -> ir.length=n1->cC.length=m1->go X 4000 k ⟨(d,⟨[],r⟩) :: st.sl,ir ++ st.bx.drop n1,cC ++ st.tk.drop m1⟩) (bd:X.still=false:=by exact rfl):CallG X f args (some d) k st:=by
 refine ⟨kY,bd,fun E a w vs h hv=>(A4 n1 m1 Eu jT Cm ha hc bd h hv).mono ?_⟩;rintro e w' ⟨v,r,ir,cC,E',rfl,hΦ,IX,tI,bY,CE,_,_,_⟩;exact go_sound 4000 _ _ (hk r ir cC hΦ IX tI) E' _ w' (bc bY hd r v CE)
theorem Ng {all:Array Oper} {o1 o2 o3:Oper} {r:List Oper} {d1 d2 kt t sT f off ft ty et e iB m sN nn:Nat} {bb:Bool} {zz:List Value} {z:Int} {kd:IntKind} {es:List (List DV)} {cs:List DV} {s ix x:Operand} {dv dv':DV}
  (h1:o1.op = .indexAddr t s ix/\o1.dst=some d1) (h2:o2.op = .fieldAddr sT (.tmp d1) f/\o2.dst=some d2/\o2.guard=none) (h3:o3.op = .store ty (.tmp d2) x/\o3.dst=none/\o3.guard=none)
  (sM:ep X.nt st.sl (some d1)=true) (MF:ep X.nt ((d1,⟨[],.pt [] 0⟩) :: st.sl) (some d2)=true)
  (hs:rv st [] s=some (.sl 0 es (some kt))) (hi:rv st [] ix=some (.v (.int kd z))) (hx:rv ⟨(d2,⟨[],.pt [] 0⟩) :: (d1,⟨[],.pt [] 0⟩) :: st.sl,st.bx,st.tk⟩ [] x=some dv) (YW:eraD dv=some dv') (OY:dv.cells=[dv])
  (hT:X.T.find t=some ⟨nn,bb,.sl et e iB,zz⟩) (vv:X.T.off sT f=some (off,ft)) (cf:X.T.sz ty=some 1)
  (hq:st.tk[kt]? = some ⟨m,sN,e,some cs⟩) (jF:es.length=m) (hz:0<=z/\z < m) (iz:off + 1<=e)
  (hk:go X 4000 (.ops all r :: k) ⟨(d2,⟨[],.pt [] 0⟩) :: (d1,⟨[],.pt [] 0⟩) :: st.sl,st.bx,st.tk.set kt ⟨m,sN,e,some (cs.set (z.toNat * e + off) dv')⟩⟩)
  (bd:X.still=false:=by exact rfl):HO X o1 (.ops all (o2 :: o3 :: r) :: k) st:=by
 intro E a w h;have fm:=h.rl;have e1:=aV fm hs;have e2:=b9 (aV fm hi);unfold Rv at e1;obtain ⟨bs,ns,lR,e1,⟨vE,Mz⟩,OM,wW⟩:=e1;subst vE;obtain ⟨q',lP,_,X8⟩:=wW kt rfl;have j5:E.tk[kt]? = some ⟨m,sN,e,some cs⟩:=by rw [h.tk];exact hq
 rw [j5] at lP;simp only [oI] at lP;subst lP;have hy:=X8 jF;rw [e1,jF] at hy;rw [jF] at e1;have hot:=h.env.bU kt _ _ j5 hy;rcases hot with ⟨pj,ku,_⟩ | ⟨g,cap,cur,pj,hw0,⟨sK,EE⟩,wX,z6,iC,H7⟩
 ·simp only at ku;omega
 injection pj with i1 i2 i3
 subst i1 i3;obtain ⟨hu,ii,zv,vX,_,YX,_,_⟩:=er X.hT hT;have lQ:iN X.P et=some e:=by rw [eZ vX,YX]
 have adt:(execOp a.eval o1).run X.P w = .ok (.value (.pointer (some ⟨g,z.toNat * e,none⟩))) w:=by
  have cd:(Instr.indexAt t (.slice (some ⟨g,0,none⟩) m lR) (.int kd z)).run X.P w = .ok (.pointer (some ⟨g,z.toNat * e,none⟩)) w:=by
   simp [Instr.indexAt,asIntOf,run_underlying hu,hz.1,hz.2,aS lQ,Addr.add_lit]
  simp only [execOp,h1.1,e1,e2,Sem.run_bind,cd,Result.andThen_ok,Sem.run_pure]
 refine gB adt ?_;rw [h1.2];have hr1:Rel X E ⟨(d1,⟨[],.pt [] 0⟩) :: st.sl,st.bx,st.tk⟩ (a.put (some d1) (.pointer (some ⟨g,z.toNat * e,none⟩))) w:=bc h sM (.pt [] 0) _ (by unfold Rv;exact ⟨g,z.toNat * e,rfl,by simp only [RvAt]⟩);generalize ha1:a.put (some d1) (.pointer (some ⟨g,z.toNat * e,none⟩))=a1 at hr1
 have ht1:a1.eval (.tmp d1) = .pointer (some ⟨g,z.toNat * e,none⟩):=by
  subst ha1;simp only [ep,aO,Nat.blt_eq] at sM;simp [Act.eval,Act.put,h.sz,sM.1]
 show kq X (.ops all (o2 :: o3 :: r) :: k) .normal a1 w;simp only [kq,wpList,Region.wanted,h2.2.2,h3.2.2,if_true];refine .inl (gB (v:=.pointer (some ⟨g,z.toNat * e + off,none⟩)) (w':=w) ?_ ?_)
 ·simp only [execOp,h2.1,ht1,Sem.run_bind,j3 (s5 X.hT vv),Result.andThen_ok,Sem.run_pure]
 rw [h2.2.1];have nO:Rel X E ⟨(d2,⟨[],.pt [] 0⟩) :: (d1,⟨[],.pt [] 0⟩) :: st.sl,st.bx,st.tk⟩ (a1.put (some d2) (.pointer (some ⟨g,z.toNat * e + off,none⟩))) w:=bc hr1 MF (.pt [] 0) _ (by unfold Rv;exact ⟨g,z.toNat * e + off,rfl,by simp only [RvAt]⟩);generalize Tz:a1.put (some d2) (.pointer (some ⟨g,z.toNat * e + off,none⟩))=a2 at nO
 have ht2:a2.eval (.tmp d2) = .pointer (some ⟨g,z.toNat * e + off,none⟩):=by
  subst Tz;simp only [ep,aO,Nat.blt_eq] at MF;simp [Act.eval,Act.put,hr1.sz,MF.1]
 have e3:=aV nO.rl hx
 have gQ:RvC E [dv] (a2.eval x).cells.toList:=by
  have:=e3.cells (jd (n:=1) (by rw [OY];rfl) (by omega))
  rwa [OY] at this
 have Eb:(a2.eval x).cells.toList.length=1:=by rw [gQ.1.length];all_goals rfl
 obtain ⟨xv,hxv⟩:∃ xv,(a2.eval x).cells.toList=[xv]:=by
  match hh:(a2.eval x).cells.toList,Eb with
  | [y],_=>exact ⟨y,rfl⟩
 obtain ⟨h5,h6⟩:=EE cs rfl;simp only at h5 h6 sK hw0 wX;have W3:cur.toList.length=lR * e:=sU sK;have hme:m * e<=lR * e:=Nat.mul_le_mul_right _ wX
 have kB:z.toNat * e + off + 1<=m * e:=by
  have:(z.toNat + 1) * e<=m * e:=Nat.mul_le_mul_right _ (by omega);rw [Nat.add_mul] at this;omega
 have V7:=j4 (P:=X.P) (t:=ty) (off:=z.toNat * e + off) (n:=1) hw0 (Er X.hT cf) Eb (by rw [sK];omega) (List.all_eq_true.2 gQ.2);refine .inl (KO (w':=World.di w g (.cells ((cur.toList.take (z.toNat * e + off) ++ (a2.eval x).cells.toList ++ cur.toList.drop (z.toNat * e + off + 1)).toArray) sN (0,0))) ?_ ?_)
 ·simp only [execOp,h3.1,ht2,Instr.storeAt,Instr.sureAddr,Sem.run_bind,Sem.run_pure,Result.andThen_ok,V7]
 rw [h3.2.1]
 have MA:cur.toList.take (z.toNat * e + off) ++ (a2.eval x).cells.toList ++ cur.toList.drop (z.toNat * e + off + 1)=cur.toList.set (z.toNat * e + off) xv:=by
  rw [hxv,List.set_eq_take_append_cons_drop,aj (by omega)];simp
 rw [MA]
 have hx1:RvC E.cl [dv'] [xv]:=by
  rw [hxv] at gQ;have h7:=gQ.1;simp only [RvL] at h7;obtain ⟨v,s',h8,h9,qZ⟩:=h7;simp only [List.cons.injEq] at h8;obtain ⟨rfl,rfl⟩:=h8;exact ⟨rvL_cons (wU YW h9) (by simp only [RvL]),gQ.2⟩
 have KN:Em (World.di w g (.cells (cur.toList.set (z.toNat * e + off) xv).toArray sN (0,0))) E.c E.β ⟨m,sN,e,some (cs.set (z.toNat * e + off) dv')⟩ (.slice (some ⟨g,0,none⟩) m lR):=by
  refine .inr ⟨g,lR,_,rfl,du hw0,⟨by simpa using W3,fun cs' KK=>?_⟩,wX,z6,iC,H7⟩;simp only [oI] at KK;subst KK;simp only;refine ⟨by rw [List.length_set];exact h5,?_⟩;rw [List.take_set];have aw:z.toNat * e + off < (cur.toList.take (m * e)).length:=by rw [zLenT];omega
  rw [List.set_eq_take_append_cons_drop,aj (by omega),List.set_eq_take_append_cons_drop,aj aw];have h8:=(RvC.take (z.toNat * e + off) h6).append (RvC.append hx1 (RvC.drop (z.toNat * e + off + 1) h6));simpa using h8
 have Pu:some g≠some g->False:=fun h=>h rfl
 obtain ⟨bY,hext⟩:=Ck (q':=⟨m,sN,e,some (cs.set (z.toNat * e + off) dv')⟩) (w':=World.di w g (.cells (cur.toList.set (z.toNat * e + off) xv).toArray sN (0,0))) nO bd j5 hy rfl rfl rfl (.inl ⟨rfl,rfl⟩) KN (.inl rfl) rfl rfl rfl (by rw [fB];exact aR _) (fun j _ aY=>cG (by
  rintro rfl
  exact aY rfl))
 exact go_sound 4000 _ _ hk _ _ _ bY
open Classical in
noncomputable def FQ (E:En) (w:World) (y:Value) (n:Nat):Addr->Option Value:=
 fun x=>if y.ownBlock=some x.block/\x.spot=none/\x.off < n then w.cell? x else E.c x
theorem kJ {y:Value} {n:Nat} {x:Addr} {v:Value} (h:FQ E w y n x=some v):(y.ownBlock=some x.block/\x.spot=none/\x.off < n/\w.cell? x=some v)∨E.c x=some v:=by
 unfold FQ at h
 grind
theorem Lr (h:Rel X E st a w) {k n ty e:Nat} {cs:List DV} {ns:List (List DV)} (hq:st.tk[k]? = some ⟨n,ty,e,some cs⟩) (hcs:cs=ns.flatten) (vE:∀ x∈ns,x.length=e) (gR:ns.length=n) :
  ∃ E',Rel X E' ⟨st.sl,st.bx,st.tk.set k ⟨n,ty,e,none⟩⟩ a w/\Ext E E' /\ ∀ es y,es.length=n->Rv E (.sl 0 es (some k)) y->Rv E' (.sl e ns (some k)) y:=by
 subst hcs;have j5:E.tk[k]? = some ⟨n,ty,e,some ns.flatten⟩:=by rw [h.tk];exact hq
 have jz:=(gS j5).1;have hkτ:k < E.τ.length:=by rw [h.env.tl];exact jz
 have hv:E.τ[k]? = some E.τ[k]:=gE hkτ;generalize E.τ[k]=v at hv;have hot:=h.env.bU k _ v j5 hv
 have gk:∀ x u,E.c x=some u->FQ E w v (n * e) x=some u:=fun x u hx=>by
  unfold FQ;split
  ·exact h.env.sub x u hx
  ·exact hx
 have hext:Ext E ⟨FQ E w v (n * e),E.β,E.tk.set k ⟨n,ty,e,none⟩,E.τ⟩:=⟨gk,fun _ _ h=>h,fun j q Q2=>by
  by_cases hj:j=k
  ·subst hj;rw [j5] at Q2;simp only [oI] at Q2;subst Q2;exact ⟨_,gz jz,.inl ⟨rfl,rfl⟩⟩
  ·exact ⟨q,by rw [List.getElem?_set_ne (Ne.symm hj)];exact Q2,.inl ⟨rfl,rfl⟩⟩⟩
 refine ⟨⟨FQ E w v (n * e),E.β,E.tk.set k ⟨n,ty,e,none⟩,E.τ⟩,dC h hext ?_ (by rw [h.tk]) ?_ h.fr h.sh h.bt,hext,?_⟩
 ·exact {
   len:=h.env.len
   tl:=by simp only [List.length_set];exact h.env.tl
   ey:=fun i cs hi=>by
    obtain ⟨b,t,arr,hb,hw,hc⟩:=h.env.ey i cs hi;exact ⟨b,t,arr,hb,hw,hc.mono hext⟩
   inj:=h.env.inj
   sub:=fun x u hx=>by
    rcases kJ hx with ⟨_,_,_,h1⟩ | h1
    ·exact h1
    ·exact h.env.sub x u h1
   pc:=fun x u hx hm=>by
    rcases kJ hx with ⟨h1,_⟩ | h1
    ·exact (jU hot h1).2 hm
    ·exact h.env.pc x u h1 hm
   bU:=fun j q y hj hy=>by
    by_cases hjk:j=k
    ·subst hjk;have j1:(E.tk.set j ⟨n,ty,e,none⟩)[j]? = some q:=hj;rw [gz jz] at j1;have fW:E.τ[j]? = some y:=hy;rw [hv] at fW;simp only [oI] at j1 fW;subst j1 fW;rcases hot with ⟨h1,h2,_⟩ | ⟨g,cap,cur,rfl,h1,h2,h3,h4,h5,h6⟩
     ·exact .inl ⟨h1,h2,fun cs hc=>by cases hc⟩
     ·refine .inr ⟨g,cap,cur,rfl,h1,⟨h2.1,ri.none rfl⟩,h3,h4,h5,fun x u hx HP=>?_⟩;rcases kJ hx with ⟨_,_,h7,_⟩ | h7
      ·exact h7
      ·have:=h6 x u h7 HP;simp only [TkE.kn] at this;omega
    ·have j1:E.tk[j]? = some q:=by
      have:(E.tk.set k ⟨n,ty,e,none⟩)[j]? = some q:=hj
      rwa [List.getElem?_set_ne (Ne.symm hjk)] at this
     rcases h.env.bU j q y j1 hy with h1 | ⟨g,cap,cur,rfl,h1,h2,h3,h4,h5,h6⟩
     ·exact .inl h1
     ·refine .inr ⟨g,cap,cur,rfl,h1,⟨h2.1,h2.2.mono gk⟩,h3,h4,h5,fun x u hx HP=>?_⟩;rcases kJ hx with ⟨h7,_⟩ | h7
      ·exact (h.env.jc j k _ v g hjk hy hv rfl (by rw [h7,HP])).elim
      ·exact h6 x u h7 HP
   jc:=h.env.jc }
 ·exact {
   c:=fun x u hx=>gk x u (h.nw.c x u hx)
   cn:=fun x u hx=>by
    rcases kJ hx with ⟨h1,_⟩ | h1
    ·rcases h.nw.own hv h1 with h2 | h2
     ·exact .inr (.inr h2)
     ·exact .inr (.inl h2)
    ·exact h.nw.cn x u h1
   β:=h.nw.β
   tk:=fun j q0 y0 zZ Ch=>by
    obtain ⟨q1,y1,h1,h2,h3,h4,h5,h6⟩:=h.nw.tk j q0 y0 zZ Ch;by_cases hj:j=k
    ·subst hj;rw [j5] at h1;simp only [oI] at h1;subst h1;exact ⟨_,y1,gz jz,h2,h3,h4,h5,h6⟩
    ·exact ⟨q1,y1,by rw [List.getElem?_set_ne (Ne.symm hj)];exact h1,h2,h3,h4,h5,h6⟩
   tn:=fun j y g hj hy=>h.nw.tn j y g hj hy
   l0:=h.nw.l0 }
 ·intro es y jF hy;unfold Rv at hy ⊢;obtain ⟨b,m,cap,rfl,⟨rfl,hmc⟩,hr,bd⟩:=hy;obtain ⟨q',lP,_,hτ⟩:=bd k rfl;rw [j5] at lP;simp only [oI] at lP;subst lP;have hy:=hτ jF;rw [hv] at hy;simp only [oI] at hy;subst hy;refine ⟨b,es.length,cap,rfl,⟨by omega,hmc⟩,fun aY=>?_,fun k' fC=>?_⟩
  ·rcases hot with ⟨h1,h2,h3⟩ | ⟨g,aa9,cur,h0,h1,h2,h3,h4,h5,h6⟩
   ·simp only at h2;exact (aY (List.eq_nil_of_length_eq_zero (by omega))).elim
   ·injection h0 with i1 i2 i3
    subst i1;refine ⟨rfl,?_⟩;obtain ⟨h7,h8⟩:=h2.2 _ rfl;refine rvEs_flat (h8.mono (E:=⟨E.c,[],[],[]⟩) ⟨gk,fun _ _ h=>by simp at h,fun _ _ h=>by simp at h⟩) vE fun j u hj=>?_;rw [cI] at hj;split at hj
    ·rename_i qY;show FQ E w _ (n * e) _=_;unfold FQ;rw [aj ⟨rfl,rfl,by simpa [ao] using qY⟩];simp only [ab,ao,Nat.zero_add];rw [cL h1];simpa using hj
    ·cases hj
  ·cases fC;exact ⟨_,gz jz,by simp only;omega,fun _=>hv⟩
theorem Q3 {j o k n ty e:Nat} {ocs:List DV} {es ns:List (List DV)} (hq:st.tk[k]? = some ⟨n,ty,e,some ns.flatten⟩) (vE:∀ x∈ns,x.length=e) (gR:ns.length=n) (hj:st.bx[j]? = some ocs) (ho:ocs[o]? = some (.sl 0 es (some k))) (jF:es.length=n) :
  Wk X st ⟨st.sl,st.bx.set j (ocs.set o (.sl e ns none)),st.tk.set k ⟨n,ty,e,none⟩⟩:=by
 intro E a w h;obtain ⟨E',hr,hx,qp⟩:=Lr h hq rfl vE gR;refine ⟨E',{ hr with env:=?_ }⟩
 exact { hr.env with
  len:=by simp only [List.length_set];exact hr.env.len
  ey:=fun i cs' hi=>by
   by_cases qj:i=j
   ·subst qj;have aw:=(gS hj).1;have ik:(st.bx.set i (ocs.set o (.sl e ns none)))[i]? = some cs':=hi;rw [gz aw] at ik;simp only [oI] at ik;subst ik;obtain ⟨b,t,arr,hb,hw,hc⟩:=hr.env.ey i ocs hj;obtain ⟨b0,t0,MB,iC,hw0,H7⟩:=h.env.ey i ocs hj;have fx:=hx.β i b0 iC;rw [hb] at fx;simp only [oI] at fx;subst fx;rw [hw] at hw0;simp only [oI,Obj.cells.injEq] at hw0
    have Qi:arr=MB:=by
     have:=hw0.1;simpa using this
    subst Qi;refine ⟨b,t,arr,hb,hw,?_,hc.2⟩;obtain ⟨v,vW,Tv⟩:=H7.1.get ho;have CE:=qp es v jF Tv;have lS:=(gS ho).1;have My:arr.length=ocs.length:=hc.1.length
    have h1:=(RvL.take o hc.1).append (rvL_cons (d:=.sl e ns none) (v:=v) (by
     unfold Rv at CE ⊢;obtain ⟨b,n,cap,g1,g2,g3,_⟩:=CE
     exact ⟨b,n,cap,g1,g2,g3,fun k hk=>by cases hk⟩) (RvL.drop (o + 1) hc.1))
    rw [List.set_eq_take_append_cons_drop,aj lS]
    have h2:arr.take o ++ v :: arr.drop (o + 1)=arr:=by
     have hoa:o < arr.length:=by omega
     have:arr[o]=v:=by grind
     rw [<- this];simp
    rwa [h2] at h1
   ·have ik:(st.bx.set j (ocs.set o (.sl e ns none)))[i]? = some cs':=hi;rw [List.getElem?_set_ne (Ne.symm qj)] at ik
    exact hr.env.ey i cs' ik }
theorem Wk.EV (i j:Nat) (S S':St) (he:S'=fH i j S) (Pe:Nat.ble X.n0 i=true) (EC:Nat.ble X.n0 j=true) (hi:Nat.blt i S.bx.length=true) (hj:Nat.blt j S.bx.length=true) (hX:X.bt=[]:=by exact rfl):Wk X S' S:=fun E a w h=>by
 subst he;simp only [Nat.blt_eq] at hi hj;exact KZ hX h (nL Pe) (nL EC) hi hj
theorem Q4 {c:Code} (I:Nat->St->Prop) (j0:Nat) (kZ:St) (hw:Wk X st kZ) (h0:I j0 kZ)
  (hr:∀ j s,I j s->go X 4000 (.code c :: .B9 (fun s'=>∃ EL,Wk X s' EL /\ ∃ j',j' < j/\I j' EL) :: k) s):uG X c k st:=by
 intro E a w h;obtain ⟨E0,hr0⟩:=hw _ _ _ h
 classical
 let Inv:Act->World->Prop:=fun a w=>∃ j s E,Rel X E s a w/\I j s
 let μ:Act->World->Nat:=fun a w=>if hI:Inv a w then Classical.choose (least hI) else 0
 refine wp_loop Inv μ ⟨j0,kZ,E0,hr0,h0⟩ ?_;intro a1 w1 hI;have Ax:=(Classical.choose_spec (least hI)).1;obtain ⟨s,E1,bY,hIs⟩:=Ax;have hs:=go_sound 4000 _ _ (hr _ s hIs) E1 a1 w1 bY;rw [fD] at hs;refine wp_mono hs ?_;intro e a2 w2 hq
 cases e with
 | normal=>
  obtain ⟨s',E2,xe,EL,rz,j',j1,hI'⟩:=hq;obtain ⟨E3,EM⟩:=rz _ _ _ xe;have Yh:Inv a2 w2:=⟨j',EL,E3,EM,hI'⟩;refine ⟨Yh,?_⟩;simp only [μ,dif_pos hI,dif_pos Yh];exact Nat.lt_of_le_of_lt ((Classical.choose_spec (least Yh)).2 j' ⟨EL,E3,EM,hI'⟩) j1
 | exit id=>exact hq
 | goto l=>exact hq
 | ret=>exact hq
 | panic c=>exact hq
 | outgrown=>exact hq
mutual
def flatD:DV->Bool
 | .v _=>true
 | .agg l=>flatL l
 | .tup l=>flatL l
 | _=>false
def flatL:List DV->Bool
 | []=>true
 | d :: r=>flatD d && flatL r
end
mutual
theorem Rv.flat {E E':En}:∀ {d:DV} {v:Value},flatD d=true->Rv E d v->Rv E' d v
 | .v x,v,_,h=>by unfold Rv at h ⊢;exact h
 | .agg l,v,hf,h=>by
  simp only [flatD] at hf;simp only [Rv] at h ⊢;obtain ⟨vs,h1,h2,h3⟩:=h;exact ⟨vs,h1,RvL.flat hf h2,h3⟩
 | .tup l,v,hf,h=>by
  simp only [flatD] at hf;simp only [Rv] at h ⊢;obtain ⟨vs,h1,h2⟩:=h;exact ⟨vs,h1,RvL.flat hf h2⟩
 | .ud,_,hf,_=>by simp [flatD] at hf
 | .sl _ _ _,_,hf,_=>by simp [flatD] at hf
 | .pt _ _,_,hf,_=>by simp [flatD] at hf
 | .loc _ _,_,hf,_=>by simp [flatD] at hf
 | .el _ _,_,hf,_=>by simp [flatD] at hf
 | .ms _ _ _ _ _,_,hf,_=>by simp [flatD] at hf
 | .fn _ _ _,_,hf,_=>by simp [flatD] at hf
 | .rc _ _,_,hf,_=>by simp [flatD] at hf
theorem RvL.flat {E E':En}:∀ {l:List DV} {vs:List Value},flatL l=true->RvL E l vs->RvL E' l vs
 | [],vs,_,h=>by simpa only [RvL] using h
 | d :: r,vs,hf,h=>by
  simp only [flatL,aO] at hf;simp only [RvL] at h ⊢;obtain ⟨v,s,h1,h2,h3⟩:=h;exact ⟨v,s,h1,Rv.flat hf.1 h2,RvL.flat hf.2 h3⟩
end
theorem Ls {f:FuncId} {args bE:List DV} {d:Nat} {y:DV} (kY:Enters X.P f) (hc:EvP X.P f bE y) (ha:CcL st.bx 0 0 0 bE args) (hy:flatD y=true) (hd:ep X.nt st.sl (some d)=true)
  (hk:go X 4000 k ⟨(d,⟨[],y⟩) :: st.sl,st.bx,st.tk⟩) (bd:X.still=false:=by exact rfl):CallG X f args (some d) k st:=by
 refine ⟨kY,bd,fun E a w vs h hv=>(ka h.env hc ha hv).mono ?_⟩;rintro e w' ⟨v,E2,rfl,hr,hm,_⟩;have hh:∀ i,i < w.heap.size->w'.heap[i]? = w.heap[i]?:=fun i hi=>hm.block i hi (fun h=>h);have bY:Rel X E st a w':=dC h (Ext.refl E) (h.env.kW hh) h.tk h.nw (h.fr.cK hm.os hm.tape hm.output hm.size fun i hi=>.inr (hh i hi)) (mJ bd) (h.bt.kW fun b hb=>hh b (h.env.bp hb));exact go_sound 4000 _ _ hk E _ w' (bc bY hd y v (Rv.flat hy hr))
theorem rU {D:Dr} {c:Bool} {i:Nat} {s0:List (Nat × Sl)} {f:FuncId} {args bE:List DV} {d:Nat} {y:DV} {r:List (Nat × Oper)} (kY:Enters X.P f) (hc:EvP X.P f bE y) (ha:CcL st.bx 0 0 0 bE args) (hy:flatD y=true) (hd:(ep X.nt st.sl (some d) && ep X.nt s0 (some d))=true)
  (hk:put2 s0 st (some d) true [] y (goD X D 3000 c r)) (bd:X.still=false:=by exact rfl):xg X D c i r f args (some d) s0 st:=by
 refine ⟨kY,fun hl E0 wr hD E a w vs h hv=>(ka h.rel.env hc ha hv).mono ?_⟩;rintro e w' ⟨v,E2,rfl,hr,hm,_⟩;have hh:∀ i,i < w.heap.size->w'.heap[i]? = w.heap[i]?:=fun i hi=>hm.block i hi (fun h=>h);have bY:Rel X E st a w':=dC h.rel (Ext.refl E) (h.rel.env.kW hh) h.rel.tk h.rel.nw (h.rel.fr.cK hm.os hm.tape hm.output hm.size fun i hi=>.inr (hh i hi)) (mJ bd) (h.rel.bt.kW fun b hb=>hh b (h.rel.env.bp hb));have hs:Stp none E w E w':=⟨Ext.refl E,⟨[],by simp⟩,fun j b hb _=>hh b (h.rel.env.bp (mG hb))⟩;have hC:=EQ h hs bY (fun j hj=>by cases hj);refine ⟨v,rfl,fun _=>hC,?_⟩;have ER:fX X ⟨D,E0,wr⟩ c E s0 st (a.put none v) w':=rD h hs bY (fun h1=>hC (h.cc h1)) (fun i x hx=>.inr ⟨hx,fun d hd=>by cases hd⟩) rfl;obtain ⟨s1,rF,og,eQ⟩:=jH ER hd true [] y v (fun _ _ p hp=>by cases hp) (fun _=>Rv.flat hy hr) (fun _ _=>Rv.flat hy hr) (fun hn=>(hn (bz _)).elim) hk;exact fY (D:=⟨D,E0,wr⟩) hD 3000 c r _ _ og hl E _ w' eQ
theorem CallG.EV {S:St} {f:FuncId} {args bE:List DV} {dst:Option Nat} (i j:Nat) (hS:st=fH i j S) (ha:args=renL (swp i j) bE) (Pe:Nat.ble X.n0 i=true) (EC:Nat.ble X.n0 j=true) (hi:Nat.blt i S.bx.length=true) (hj:Nat.blt j S.bx.length=true)
  (h:CallG X f bE dst k S) (hX:X.bt=[]:=by exact rfl):CallG X f args dst k st:=by
 subst hS ha;simp only [Nat.blt_eq] at hi hj;refine ⟨h.1,h.2.1,fun E a w vs hr hv=>?_⟩
 have hlen:E.β.length=S.bx.length:=by
  rw [hr.env.len];simp only [fH,fI,eS]
 exact h.2.2 _ a w vs (EW hX hr (nL Pe) (nL EC) hi hj) (RvL.EV (by rw [hlen];exact hi) (by rw [hlen];exact hj) hv)
end
end Dv
end Go.Proofs.YtgjagnmeonoehaaGreat
set_option maxRecDepth 100000
namespace Go.Proofs.YtgjagnmeonoehaaGreat
open Go Go.RowKit Dv Go.Proofs.Tryz
def cZ (l:List Int):List DV:=l.map fun z=>DV.v (.int .i64 z)
def IY (af:List ByteArray) (tb lq:DV) (js:List Int):List DV:=.sl 1 (fq af) none :: tb :: lq :: cZ js
def oz:Option Nat->Int
 | none=>-1
 | some k=>(k:Int)
def FR (pb:Nat->Nat->Bool) (e:Nat):Option Nat->Bool
 | none=>true
 | some o=>pb e o
def bestA (lE:Nat->Bool) (pb:Nat->Nat->Bool):Nat->Option Nat
 | 0=>none
 | e + 1=>if lE e && FR pb e (bestA lE pb e) then some e else bestA lE pb e
def oB (lE:Nat->Bool) (pb:Nat->Nat->Bool) (n:Nat):Option Nat:=
 match bestA lE pb n with
 | none=>none
 | some o=>if (List.range n).any (fun c=>lE c && !pb o c) then none else some o
theorem oC {lE:Nat->Bool} {pb:Nat->Nat->Bool}:∀ {e k:Nat},bestA lE pb e=some k->k < e
 | 0,k,h=>by cases h
 | e + 1,k,h=>by
  rw [bestA] at h;split at h
  ·simp only [oI] at h;omega
  ·have:=oC h;omega
theorem tJ (af:List ByteArray) (tb:DV) (rows:List Nat) (js:List Int) (hr:eL rows) (a b:Nat) (ha:a < rows.length) (hb:b < rows.length) :
  EvP prog 193 [.v (.int .i64 a),.v (.int .i64 b),.pt [.pt (IY af tb (nQ rows) js) 0] 0] (.v (.bool (bh rows a b))):=by
 have h1:=lU rows hr a b;rw [rN ha hb] at h1;refine eG 13 [.tmp 5] func193 rfl ntmps193 rfl fun _ _ _ _=>?_;refine cP E6 h1 ?_;exact (rfl:_=_)
theorem tK (af:List ByteArray) (tb:DV) (rows:List Nat) (js:List Int) (hr:eL rows) (a b:Nat) (ha:a < rows.length) (hb:b < rows.length) :
  EvP prog 194 [.v (.int .i64 a),.v (.int .i64 b),.pt [.pt (IY af tb (nQ rows) js) 0] 0] (.v (.bool (bh rows b a))):=by
 have h1:=lU rows hr b a;rw [rN hb ha] at h1;refine eG 13 [.tmp 5] func194 rfl ntmps194 rfl fun _ _ _ _=>?_;refine cP E6 h1 ?_;exact (rfl:_=_)
abbrev W4 (L:List DV):DV:=.fn 193 [] [.pt [.pt L 0] 0]
abbrev W5 (L:List DV):DV:=.fn 194 [] [.pt [.pt L 0] 0]
theorem Nh (af:List ByteArray) (tb:DV) (rows:List Nat) (js:List Int) (hr:eL rows) (a b c:Nat) (ha:a < rows.length) (hb:b < rows.length) (hc:c < rows.length) :
  EvP prog 196 [.v (.int .i64 c),.pt [W4 (IY af tb (nQ rows) js)] 0,.pt [.v (.int .i64 a)] 0,.pt [.v (.int .i64 b)] 0] (.v (.bool (bh rows a c && bh rows b c))):=by
 have h1:=tJ af tb rows js hr a c ha hc;have h2:=tJ af tb rows js hr b c hb hc;refine eG 16 [.tmp 5] func196 rfl ntmps196 rfl fun _ _ _ _=>?_;refine cP PU h1 ?_;refine br ?_ ?_<;>intro g
 ·have g:bh rows a c=true:=sU g;refine cP PU h2 ?_;refine (bK ?_:);simp [g,pickB]
 ·have g:bh rows a c=false:=sU g;refine (bK ?_:);simp [g,pickB]
theorem Ni (af:List ByteArray) (tb:DV) (rows:List Nat) (js:List Int) (hr:eL rows) (a b c:Nat) (ha:a < rows.length) (hb:b < rows.length) (hc:c < rows.length) :
  EvP prog 197 [.v (.int .i64 c),.pt [W5 (IY af tb (nQ rows) js)] 0,.pt [.v (.int .i64 a)] 0,.pt [.v (.int .i64 b)] 0] (.v (.bool (bh rows c a && bh rows c b))):=by
 have h1:=tK af tb rows js hr a c ha hc;have h2:=tK af tb rows js hr b c hb hc;refine eG 16 [.tmp 5] func197 rfl ntmps197 rfl fun _ _ _ _=>?_;refine cP PV h1 ?_;refine br ?_ ?_<;>intro g
 ·have g:bh rows c a=true:=sU g;refine cP PV h2 ?_;refine (bK ?_:);simp [g,pickB]
 ·have g:bh rows c a=false:=sU g;refine (bK ?_:);simp [g,pickB]
abbrev YY (L:List DV) (gi gb:Nat) (ci cb:List DV) (n:Nat) (o:Int) (e:Nat):St:=
 ⟨[iQ 0 L,(1,⟨[],.fn gi [] ci⟩),(2,⟨[],.fn gb [] cb⟩),ay 7 o,ay 14 n,ay 15 e],[],[]⟩
abbrev Lt (L:List DV) (gi gb:Nat) (ci cb:List DV) (n:Nat) (o:Int) (e:Nat):St:=
 ⟨[iQ 0 L,(1,⟨[],.fn gi [] ci⟩),(2,⟨[],.fn gb [] cb⟩),ay 7 o,ay 37 n,ay 38 e],[],[]⟩
theorem A5 (af:List ByteArray) (tb lq:DV) (js:List Int) (gi gb:Nat) (hei:Enters prog gi) (heb:Enters prog gb) (ci cb:List DV) (lE:Nat->Bool) (pb:Nat->Nat->Bool)
  (adu:CcL [] 0 0 0 ci ci) (adv:CcL [] 0 0 0 cb cb) (hcli:clB.clL 0 0 ci=true) (hclb:clB.clL 0 0 cb=true) (hn:af.length<=64)
  (v7:∀ c:Nat,c < af.length->EvP prog gi (.v (.int .i64 c) :: ci) (.v (.bool (lE c))))
  (hpb:∀ a b:Nat,a < af.length->b < af.length->EvP prog gb (.v (.int .i64 a) :: .v (.int .i64 b) :: cb) (.v (.bool (pb a b)))) :
  EvP prog 195 [.pt (IY af tb lq js) 0,.fn gi [] ci,.fn gb [] cb] (.v (.int .i64 (oz (oB lE pb af.length)))):=by
 have hN:=cH af;have CY:clB 0 0 (.fn gi [] ci)=true:=by simp only [clB,aO];exact ⟨rfl,hcli⟩
 have Lu:clB 0 0 (.fn gb [] cb)=true:=by simp only [clB,aO];exact ⟨rfl,hclb⟩
 refine eG 57 [.tmp 6] func195 rfl ntmps195 rfl fun _ _ _ _=>?_;refine lJ (fun e=>YY (IY af tb lq js) gi gb ci cb (fq af).length (oz (bestA lE pb e)) e) af.length (bG (gC CY Lu)) ?_;intro e he;refine br ?_ ?_<;>intro hL
 ·have aw:e < af.length:=by have:=hL;simp [hN] at this;exact this
  have hs:bestA lE pb (e + 1)=if lE e && FR pb e (bestA lE pb e) then some e else bestA lE pb e:=rfl
  refine cP hei (v7 e aw) ?_ ⟨_,_,rfl,rfl,adu⟩
  cases hA:bestA lE pb e with
  | none=>
   rw [hA] at hs;refine br ?_ ?_<;>intro g
   ·have g:lE e=true:=by simpa [lastG] using g
    have hz:(e:Int)=oz (bestA lE pb (e + 1)):=by rw [hs,g];all_goals rfl
    exact rE ⟨_,by omega,e + 1,rfl,by omega,rfl⟩ (bG (wB4 CY Lu (aX aw (by omega)) hz))
   ·have g:lE e=false:=by simpa [lastG] using g
    have hz:oz none=oz (bestA lE pb (e + 1)):=by rw [hs,g];all_goals rfl
    exact rE ⟨_,by omega,e + 1,rfl,by omega,rfl⟩ (bG (wB4 CY Lu (aX aw (by omega)) hz))
  | some k=>
   rw [hA] at hs;have hk:=oC hA;refine br ?_ ?_<;>intro g
   ·have g:lE e=true:=by simpa [lastG] using g
    refine cP heb (hpb e k aw (by omega)) ?_ ⟨_,_,rfl,rfl,_,_,rfl,rfl,adv⟩;refine br ?_ ?_<;>intro g2
    ·have g2:pb e k=true:=by simpa [pickB,g,lastG] using g2
     have hz:(e:Int)=oz (bestA lE pb (e + 1)):=by rw [hs,g,FR,g2];all_goals rfl
     exact rE ⟨_,by omega,e + 1,rfl,by omega,rfl⟩ (bG (wB4 CY Lu (aX aw (by omega)) hz))
    ·have g2:pb e k=false:=by simpa [pickB,g,lastG] using g2
     have hz:oz (some k)=oz (bestA lE pb (e + 1)):=by rw [hs,g,FR,g2];all_goals rfl
     exact rE ⟨_,by omega,e + 1,rfl,by omega,rfl⟩ (bG (wB4 CY Lu (aX aw (by omega)) hz))
   ·have g:lE e=false:=by simpa [lastG] using g
    have hz:oz (some k)=oz (bestA lE pb (e + 1)):=by rw [hs,g];all_goals rfl
    exact rE ⟨_,by omega,e + 1,rfl,by omega,rfl⟩ (bG (wB4 CY Lu (aX aw (by omega)) hz))
 ·have hge:e=af.length:=sW hN hL;subst hge;refine lI (fun j st=>∃ e:Nat,st=Lt (IY af tb lq js) gi gb ci cb (fq af).length (oz (bestA lE pb af.length)) e/\e<=af.length/\(∀ o,bestA lE pb af.length=some o->∀ c,c < e->(lE c && !pb o c)=false)/\j=af.length - e) ⟨0,rfl,by omega,fun _ _ c hc=>by omega,rfl⟩ (bG (gC CY Lu)) ?_;rintro j st ⟨e,rfl,he,iA,rfl⟩;refine br ?_ ?_<;>intro hL
  ·have aw:e < af.length:=by have:=hL;simp [hN] at this;exact this
   cases hA:bestA lE pb af.length with
   | none=>
    exact ⟨Lt (IY af tb lq js) gi gb ci cb (fq af).length (oz none) (e + 1),(bG (Wa CY Lu (aX aw (by omega)))),af.length - (e + 1),by omega,e + 1,rfl,by omega,(fun _ h=>by cases h),rfl⟩
   | some o=>
    have ho:=oC hA;have iA:=iA o hA;refine cP hei (v7 e aw) ?_ ⟨_,_,rfl,rfl,adu⟩;refine br ?_ ?_<;>intro g
    ·have g:lE e=true:=by simpa [pickB] using g
     refine cP heb (hpb o e ho aw) ?_ ⟨_,_,rfl,rfl,_,_,rfl,rfl,adv⟩;refine br ?_ ?_<;>intro g2
     ·have g2:pb o e=false:=by simpa [pickB,g,lastG] using g2
      have:oB lE pb af.length=none:=by
       rw [oB,hA];simp only;rw [aj];rw [List.any_eq_true];exact ⟨e,by simpa using aw,by simp [g,g2]⟩
      rw [this];exact (rfl:_=_)
     ·have g2:pb o e=true:=by simpa [pickB,g,lastG] using g2
      exact rE ⟨_,by omega,e + 1,rfl,by omega,fun o' KJ c hc=>by
       cases KJ;rcases mD hc with hc | rfl
       ·exact iA c hc
       ·simp [g2],rfl⟩ (bG (Wa CY Lu (aX aw (by omega))))
    ·have g:lE e=false:=by simpa [pickB] using g
     exact rE ⟨_,by omega,e + 1,rfl,by omega,fun o' KJ c hc=>by
       cases KJ;rcases mD hc with hc | rfl
       ·exact iA c hc
       ·simp [g],rfl⟩ (bG (Wa CY Lu (aX aw (by omega))))
  ·have hge:e=af.length:=sW hN hL;subst hge
   have:oB lE pb af.length=bestA lE pb af.length:=by
    cases hA:bestA lE pb af.length with
    | none=>rw [oB,hA]
    | some o=>
     rw [oB,hA];simp only;rw [ai];rw [List.any_eq_true];rintro ⟨c,hc,h2⟩;rw [iA o hA c (sU hc)] at h2;cases h2
   rw [this];exact (rfl:_=_)
theorem tM (js:List Int) (bx:List (List DV)) (N n m:Nat):CcL bx N n m (cZ js) (cZ js):=by
 induction js with
 | nil=>exact rfl
 | cons z r ih=>exact ⟨_,_,rfl,rfl,ih⟩
theorem ti {n m:Nat} {tk:List TkE} (js:List Int):WeL n m tk (cZ js) (cZ js):=xY _ fun x hx=>by
 obtain ⟨z,_,rfl⟩:=List.mem_map.1 hx;exact ⟨_,rfl⟩
theorem YZ (f:Nat->Nat) (js:List Int):renL f (cZ js)=cZ js:=by
 induction js with
 | nil=>rfl
 | cons z r ih=>simp only [cZ,List.map_cons,renL,renD] at ih ⊢;rw [ih]
theorem Y0 (js:List Int):(cZ js).length=js.length:=by simp [cZ]
theorem Q5 (js:List Int) (i:Nat) (z:Int):(cZ js).set i (.v (.int .i64 z))=cZ (js.set i z):=by simp [cZ,List.map_set]
abbrev iV (af:List ByteArray) (tc:List DV) (rows:List Nat) (js:List Int):List DV:=IY af (.pt tc 0) (nQ rows) js
theorem UI (af:List ByteArray) (tc:List DV) (rows:List Nat) (js:List Int):(iV af tc rows js).length=js.length + 3:=by simp [IY,cZ]
theorem we {af:List ByteArray} {tc:List DV} {rows:List Nat} {js:List Int} {i k:Nat} {z:Int} (h:k=i + 3):(iV af tc rows js).set k (.v (.int .i64 z))=iV af tc rows (js.set i z):=by grind [IY,Q5]
theorem UJ (f:Nat->Nat) (af:List ByteArray) (tc:List DV) (rows:List Nat) (js:List Int):renL f (iV af tc rows js)=iV af tc rows js:=by
 simp only [IY,renL,YZ];rfl
theorem Lv {n m:Nat} {tk:List TkE} {l:List DV} {af:List ByteArray} {tc:List DV} {rows:List Nat} {js:List Int} (h:l=iV af tc rows js):WeL n m tk l (iV af tc rows js):=by
 subst h;exact ⟨_,_,rfl,aA rfl,_,_,rfl,aA rfl,_,_,rfl,aA rfl,ti js⟩
def fy (f:Nat->Nat->Bool) (n a b:Nat):Option Nat:=oB (fun c=>f a c && f b c) f n
def jM (f:Nat->Nat->Bool) (n a b:Nat):Option Nat:=oB (fun c=>f c a && f c b) (fun x y=>f y x) n
theorem yc (f:Nat->Nat->Bool) (n a b:Nat):fy f n a b=fy f n b a:=by grind [fy]
theorem yd (f:Nat->Nat->Bool) (n a b:Nat):jM f n a b=jM f n b a:=by grind [jM]
def lZ (f:Nat->Nat->Bool) (n a b:Nat):Bool:=(fy f n a b).isNone || (jM f n a b).isNone
def oD (f:Nat->Nat->Bool) (n b:Nat):Bool:=(List.range (b + 1)).any fun a=>lZ f n a b
def JM (f:Nat->Nat->Bool) (n:Nat) (js:List Int) (a b:Nat):Prop:=js[a * 32 + b]? = some (oz (fy f n a b))/\js[1024 + (a * 32 + b)]? = some (oz (jM f n a b))
def Ad (js:List Int) (a b:Nat) (j m:Int):List Int:=(((js.set (a * 32 + b) j).set (b * 32 + a) j).set (1024 + (a * 32 + b)) m).set (1024 + (b * 32 + a)) m
theorem Q6 (js:List Int) (a b:Nat) (j m:Int):(Ad js a b j m).length=js.length:=by simp [Ad]
theorem qF {js:List Int} {i k:Nat} {z:Int} (h:k≠i):(js.set k z)[i]? = js[i]?:=List.getElem?_set_ne h
theorem Lw {f:Nat->Nat->Bool} {n:Nat} {js:List Int} (hl:js.length=2048) {a b:Nat} (ha:a < 32) (hb:b < 32) {x y:Nat} (hx:x < 32) (hy:y < 32)
  (h:JM f n js x y∨(x=a/\y=b)∨(x=b/\y=a)):JM f n (Ad js a b (oz (fy f n a b)) (oz (jM f n a b))) x y:=by
 have key:(x=a/\y=b)∨(x=b/\y=a)∨(JM f n js x y/\¬ (x=a/\y=b)/\¬ (x=b/\y=a)):=by grind
 rcases key with ⟨rfl,rfl⟩ | ⟨rfl,rfl⟩ | ⟨h,h1,h2⟩
 ·grind [JM,Ad,qF]
 ·grind [JM,Ad,yc,yd,qF]
 ·grind [JM,Ad,qF]
abbrev W6 (af:List ByteArray) (tc:List DV) (rows:List Nat) (js:List Int) (e:Nat):St:=
 ⟨[aF 1 1,aF 3 2,aF 4 3,ay 15 ((fq af).length),ay 16 e],
  [iV af tc rows js,[.loc 0 0],[.fn 193 [] [.loc 1 0]],[.fn 194 [] [.loc 1 0]]],[]⟩
abbrev IZ (af:List ByteArray) (tc:List DV) (rows:List Nat) (js:List Int) (e f:Nat):St:=
 ⟨[aF 1 1,aF 3 2,aF 4 3,ay 15 ((fq af).length),ay 16 e,aF 5 4,aF 6 5],
  [iV af tc rows js,[.loc 0 0],[.fn 193 [] [.loc 1 0]],[.fn 194 [] [.loc 1 0]],[.v (.int .i64 e)],[.v (.int .i64 f)]],[]⟩
abbrev Q7 (af:List ByteArray) (tc:List DV) (rows:List Nat) (js:List Int) (e f:Nat):St:=
 ⟨[aF 1 1,aF 3 2,aF 4 3,ay 15 ((fq af).length),ay 16 e,aF 5 4,aF 6 6],
  [iV af tc rows js,[.loc 0 0],[.fn 193 [] [.loc 1 0]],[.fn 194 [] [.loc 1 0]],[.v (.int .i64 e)],[.v (.int .i64 f)],[.v (.int .i64 (f + 1:Nat))]],[]⟩
abbrev Q8 (af:List ByteArray) (tc:List DV) (rows:List Nat) (js:List Int) (e f:Nat):St:=
 ⟨[aF 1 1,aF 3 2,aF 4 3,ay 15 ((fq af).length),ay 16 e,aF 5 4,aF 6 5],
  [iV af tc rows js,[.loc 0 0],[.fn 193 [] [.loc 1 0]],[.fn 194 [] [.loc 1 0]],[.v (.int .i64 e)],[.v (.int .i64 (f + 1:Nat))],[.v (.int .i64 f)]],[]⟩
theorem UK (af:List ByteArray) (tc:List DV) (rows:List Nat) (js:List Int) (e f:Nat):Q7 af tc rows js e f=fH 5 6 (Q8 af tc rows js e f):=by
 simp only [fH,renO,UJ];rfl
def BndΦ (af:List ByteArray) (tc:List DV) (rows:List Nat) (r:DV) (os:List (List DV)) (_:List TkE):Prop:=
 ∃ Y4,os=[iV af tc rows Y4]/\Y4.length=2048/\r = .v (.int .i64 (oz (cm (oD (bh rows) af.length) af.length))) /\
  (cm (oD (bh rows) af.length) af.length=none->∀ x y,x < af.length->y < af.length->JM (bh rows) af.length Y4 x y)
theorem FT (af:List ByteArray) (tc:List DV) (rows:List Nat) (js:List Int) (hr:eL rows) (hlen:rows.length=af.length) (hn:af.length<=32) (hj:js.length=2048) :
  Ev prog 110 [.loc 0 0] [iV af tc rows js] [] (BndΦ af tc rows):=by
 have hN:=cH af;refine eG 73 [.tmp 2] func110 rfl ntmps110 rfl fun _ _ _ _=>?_;refine lI (fun j st=>∃ (e:Nat) (js:List Int),st=W6 af tc rows js e/\e<=af.length/\js.length=2048/\(∀ b,b < e->oD (bh rows) af.length b=false)/\(∀ x y,x < e->y < e->JM (bh rows) af.length js x y)/\j=af.length - e) ⟨0,js,rfl,by omega,hj,fun _ h=>by omega,fun _ _ h=>by omega,rfl⟩ (dz 4 pV j8) ?_;rintro j st ⟨e,js,rfl,he,hj,iA,CZ,rfl⟩;refine br ?_ ?_<;>intro hL
 ·have aw:e < af.length:=by have:=hL;simp [hN] at this;exact this
  refine Q4 (fun j st=>∃ (f:Nat) (js:List Int),st=IZ af tc rows js e f/\f<=e + 1/\js.length=2048/\(∀ a,a < f->lZ (bh rows) af.length a e=false)/\(∀ x y,x < e->y < e->JM (bh rows) af.length js x y)/\(∀ x,x < f->JM (bh rows) af.length js x e/\JM (bh rows) af.length js e x)/\j=e + 1 - f) (e + 1) (IZ af tc rows js e 0) (.FO (dz 6 pV j8)) ⟨0,js,rfl,by omega,hj,fun _ h=>by omega,CZ,fun _ h=>by omega,by omega⟩ ?_;clear CZ hj;rintro j st ⟨f,js,rfl,hf,hj,hla,CZ,hje,rfl⟩;refine br ?_ ?_<;>intro qb
  ·have Pk:f<=e:=by have:=qb;simp at this;exact this
   have fx:=A5 af (.pt tc 0) (nQ rows) js 196 193 acd PU
    [.pt [W4 (iV af tc rows js)] 0,.pt [.v (.int .i64 f)] 0,.pt [.v (.int .i64 e)] 0] [.pt [.pt (iV af tc rows js) 0] 0] (fun c=>bh rows f c && bh rows e c) (bh rows) ax ax rfl rfl (by omega)
    (fun c hc=>Nh af (.pt tc 0) rows js hr f e c (by omega) (by omega) (by omega)) (fun a b ha hb=>tJ af (.pt tc 0) rows js hr a b (by omega) (by omega))
   have eP:=A5 af (.pt tc 0) (nQ rows) js 197 194 ace PV
    [.pt [W5 (iV af tc rows js)] 0,.pt [.v (.int .i64 f)] 0,.pt [.v (.int .i64 e)] 0] [.pt [.pt (iV af tc rows js) 0] 0] (fun c=>bh rows c f && bh rows c e) (fun x y=>bh rows y x) ax ax rfl rfl (by omega)
    (fun c hc=>Ni af (.pt tc 0) rows js hr f e c (by omega) (by omega) (by omega)) (fun a b ha hb=>tK af (.pt tc 0) rows js hr a b (by omega) (by omega))
   refine Cy Wu fx (by repeat' (first | exact rfl | exact trivial | exact Or.inr (Or.inl ⟨_,rfl⟩) | exact Or.inr ⟨_,rfl⟩ | exact Or.inl ⟨rfl,rfl⟩ | exact Or.inl rfl | refine Or.inr ⟨_,_,rfl,Nat.zero_le _,rfl,?_⟩ | refine ⟨_,_,rfl,?_,?_⟩ | refine ⟨_,rfl,?_⟩ | exact tM _ _ _ _ _ | refine Or.inr (Or.inr (Or.inr ⟨_,_,rfl,?_⟩)) | exact Or.inl rfl | refine Or.inr ?_)) rfl ?_;refine Cy Wu eP (by repeat' (first | exact rfl | exact trivial | exact Or.inr (Or.inl ⟨_,rfl⟩) | exact Or.inr ⟨_,rfl⟩ | exact Or.inl ⟨rfl,rfl⟩ | exact Or.inl rfl | refine Or.inr ⟨_,_,rfl,Nat.zero_le _,rfl,?_⟩ | refine ⟨_,_,rfl,?_,?_⟩ | refine ⟨_,rfl,?_⟩ | exact tM _ _ _ _ _ | refine Or.inr (Or.inr (Or.inr ⟨_,_,rfl,?_⟩)) | exact Or.inl rfl | refine Or.inr ?_)) rfl ?_
   have FU:pickB (decide (oz (fy (bh rows) af.length f e) = -1)) true (decide (oz (jM (bh rows) af.length f e) = -1))=lZ (bh rows) af.length f e:=by
    unfold lZ
    cases fy (bh rows) af.length f e with
    | none=>rfl
    | some j=>
     have:decide (oz (some j) = -1)=false:=by simp [oz]
     rw [this]
     cases jM (bh rows) af.length f e with
     | none=>rfl
     | some m=>
      have:decide (oz (some m) = -1)=false:=by simp [oz]
      rw [this];rfl
   refine br ?_ ?_<;>intro g
   ·have g:lZ (bh rows) af.length f e=true:=FU.symm.trans g;have hb:oD (bh rows) af.length e=true:=by grind [oD]
    have Ef:=dc (p:=oD (bh rows) af.length) aw hb iA;refine ⟨.v (.int .i64 e),[iV af tc rows js],ax,(by repeat' (first | exact rfl | exact trivial | exact Or.inr (Or.inl ⟨_,rfl⟩) | exact Or.inr ⟨_,rfl⟩ | exact Or.inl ⟨rfl,rfl⟩ | exact Or.inl rfl | refine Or.inr ⟨_,_,rfl,Nat.zero_le _,rfl,?_⟩ | refine ⟨_,_,rfl,?_,?_⟩ | refine ⟨_,rfl,?_⟩ | exact tM _ _ _ _ _ | refine Or.inr (Or.inr (Or.inr ⟨_,_,rfl,?_⟩)) | exact Or.inl rfl | refine Or.inr ?_)),js,rfl,hj,?_,fun h=>by rw [Ef] at h;cases h⟩;rw [Ef];rfl
   ·have g:lZ (bh rows) af.length f e=false:=FU.symm.trans g;refine vZ [0] (fun _=>false) mo (by decide +kernel) ?_;have cw:=UI af tc rows js;refine ⟨⟨by omega,by omega⟩,?_⟩;refine ⟨⟨by omega,by omega⟩,?_⟩;refine ⟨by rw [cw];omega,?_⟩;refine ⟨⟨by omega,by omega⟩,?_⟩;refine ⟨⟨by omega,by omega⟩,?_⟩;refine ⟨by rw [List.length_set,cw];omega,?_⟩;refine vZ [0] (fun _=>false) mo (by decide +kernel) ?_;refine ⟨⟨by omega,by omega⟩,?_⟩;refine ⟨⟨by omega,by omega⟩,?_⟩;refine ⟨by rw [List.length_set,List.length_set,cw];omega,?_⟩;refine ⟨⟨by omega,by omega⟩,?_⟩;refine ⟨⟨by omega,by omega⟩,?_⟩;refine ⟨by rw [List.length_set,List.length_set,List.length_set,cw];omega,?_⟩
    have iC:((((iV af tc rows js).set (0 + 0 + 3 + (f:Int).toNat * 32 + (e:Int).toNat * 1) (DV.v (.int .i64 (oz (fy (bh rows) af.length f e))))).set (0 + 0 + 3 + (e:Int).toNat * 32 + (f:Int).toNat * 1) (DV.v (.int .i64 (oz (fy (bh rows) af.length f e))))).set (0 + 0 + 1027 + (f:Int).toNat * 32 + (e:Int).toNat * 1) (DV.v (.int .i64 (oz (jM (bh rows) af.length f e))))).set (0 + 0 + 1027 + (e:Int).toNat * 32 + (f:Int).toNat * 1) (DV.v (.int .i64 (oz (jM (bh rows) af.length f e))))=iV af tc rows (Ad js f e (oz (fy (bh rows) af.length f e)) (oz (jM (bh rows) af.length f e))):=by
     rw [we (i:=f * 32 + e) (by omega),we (i:=e * 32 + f) (by omega),we (i:=1024 + (f * 32 + e)) (by omega),we (i:=1024 + (e * 32 + f)) (by omega)];rfl
    refine ⟨IZ af tc rows (Ad js f e (oz (fy (bh rows) af.length f e)) (oz (jM (bh rows) af.length f e))) e (f + 1),
     .trans (.FO (s2:=Q7 af tc rows (Ad js f e (oz (fy (bh rows) af.length f e)) (oz (jM (bh rows) af.length f e))) e f) (dz 7 (by repeat' (first | exact rfl | exact aA rfl | exact Lv iC | exact aD (aX (n:=e + 1) (by omega) (by omega)) | refine ⟨_,_,rfl,?_,?_⟩)) (by repeat' (first | exact trivial | exact aA rfl | exact Lv iC | exact aD (aX (n:=e + 1) (by omega) (by omega)) | refine ⟨⟨_,rfl,?_⟩,?_⟩))))
      (.trans (.EV 5 6 (Q8 af tc rows (Ad js f e (oz (fy (bh rows) af.length f e)) (oz (jM (bh rows) af.length f e))) e f) _ (UK _ _ _ _ _ _) rfl rfl rfl rfl) (.FO (dz 6 pV j8))),
     e + 1 - (f + 1),by omega,f + 1,_,rfl,by omega,by rw [Q6];exact hj,fun a ha=>?_,fun x y hx hy=>?_,fun x hx=>?_,rfl⟩
    ·grind
    ·grind [Lw]
    ·grind [Lw]
  ·have Pk:f=e + 1:=by have:=qb;simp at this;omega
   subst Pk;have hb:oD (bh rows) af.length e=false:=by grind [oD]
   refine ⟨W6 af tc rows js (e + 1),(dz 4 (pX (aX aw (by omega))) (dH (aX aw (by omega)))),af.length - (e + 1),by omega,e + 1,js,rfl,by omega,hj,fun b eD=>?_,fun x y hx hy=>?_,rfl⟩
   ·grind
   ·grind
 ·have hge:e=af.length:=sW hN hL;subst hge;refine ⟨.v (.int .i64 (-1)),[iV af tc rows js],ax,(by repeat' (first | exact rfl | exact trivial | exact Or.inr (Or.inl ⟨_,rfl⟩) | exact Or.inr ⟨_,rfl⟩ | exact Or.inl ⟨rfl,rfl⟩ | exact Or.inl rfl | refine Or.inr ⟨_,_,rfl,Nat.zero_le _,rfl,?_⟩ | refine ⟨_,_,rfl,?_,?_⟩ | refine ⟨_,rfl,?_⟩ | exact tM _ _ _ _ _ | refine Or.inr (Or.inr (Or.inr ⟨_,_,rfl,?_⟩)) | exact Or.inl rfl | refine Or.inr ?_)),js,rfl,hj,?_,fun _=>CZ⟩;rw [dO iA];rfl
def Y5 (l:List Wd) (k:Nat):Int:=((l[k]?).getD (⟨av,0⟩:Wd)).a
def latF (l:List Wd) (o:List (Wd × Wd)):Ft:=
 if (gG l o).1≠0 then gG l o
 else if (enumL l 0 l).1≠0 then enumL l 0 l
 else if (numF (aC l) o).1≠0 then numF (aC l) o
 else match cm (lp l.length (fo l.length (dN (aC l) o))) l.length with
  | some a=>(11,Y5 l a)
  | none=>
   match cm (oD (fo l.length (dN (aC l) o)) l.length) l.length with
   | some b=>(12,Y5 l b)
   | none=>(0,0)
def Y6 (l:List Wd) (o:List (Wd × Wd)) (d:DV):Prop:=
 ∃ aJ js,iT (aC l) aJ/\aJ.length<=l.length/\js.length=2048/\(∀ x y,x < l.length->y < l.length->JM (fo l.length (dN (aC l) o)) l.length js x y) /\
  d = .pt (iV (aC l) (dr (aC l) aJ) (closeR (fM l.length (dN (aC l) o)) l.length) js) 0
def I0 (l:List Wd) (o:List (Wd × Wd)) (r:DV) (_:List (List DV)) (_:List TkE):Prop:=
 if (latF l o).1≠0 then r = .tup [.v (.pointer none),(latF l o).d] else ∃ d,Y6 l o d/\r = .tup [d,(latF l o).d]
theorem pD {L:List ByteArray}:∀ {o:List (Wd × Wd)},(numF L o).1=0->tF L.length (dN L o)
 | [],_=>by intro p hp;simp [dN] at hp
 | q :: r,h=>by
  rw [numF] at h;split at h
  ·cases h
  ·rename_i h1;split at h
   ·cases h
   ·rename_i h2;have ih:=pD (o:=r) h;intro p hp;simp only [dN,List.map_cons,List.mem_cons] at hp;rcases hp with rfl | hp
    ·obtain ⟨a,ha⟩:=Option.ne_none_iff_exists'.1 h1;obtain ⟨b,hb⟩:=Option.ne_none_iff_exists'.1 h2;simp only [YT,ha,hb,Option.getD_some];exact ⟨(dE ha).1,(dE hb).1⟩
    ·exact ih p hp
theorem dV (l:List Wd):(aC l).length=l.length:=by simp [aC]
theorem ye {all:List Wd}:∀ {l:List Wd} {i:Nat},(enumL all i l).1=0->enumL all i l=(0,0)
 | [],_,_=>rfl
 | x :: r,i,h=>by
  rw [enumL] at h ⊢;split at h
  ·rename_i h1;exact (h1 h).elim
  ·rename_i h1;rw [ai h1];exact ye h
theorem A6 {L:List ByteArray}:∀ {o:List (Wd × Wd)},(numF L o).1=0->numF L o=(0,0)
 | [],_=>rfl
 | q :: r,h=>by
  rw [numF] at h ⊢;split at h
  ·cases h
  ·rename_i h1;split at h
   ·cases h
   ·rename_i h2;rw [ai h1,ai h2];exact A6 h
theorem lr {l:List Wd} {k:Nat} {w:Wd} (h:l[k]? = some w):Y5 l k=w.a:=by simp [Y5,h]
theorem Y7 (n:Nat):vL (List.replicate n (.int .i64 0))=cZ (List.replicate n 0):=by
 induction n with
 | zero=>rfl
 | succ n ih=>simp only [List.replicate_succ,vL,cZ,List.map_cons] at ih ⊢;rw [ih]
theorem oE {l:List Wd} {o:List (Wd × Wd)} {f:Ft} {os:List (List DV)} {tk:List TkE} (h:latF l o=f) (hf:f.1≠0):I0 l o (.tup [.v (.pointer none),f.d]) os tk:=by
 unfold I0;rw [h,aj hf]
theorem UL {l:List Wd} {o:List (Wd × Wd)} {d:DV} {os:List (List DV)} {tk:List TkE} (h:latF l o=(0,0)) (hd:Y6 l o d):I0 l o (.tup [d,Ft.d (0,0)]) os tk:=by grind [I0]
theorem UM (n m:Nat) (af:List ByteArray) (tc:List DV) (rows:List Nat) (js:List Int):clB.clL n m (iV af tc rows js)=true:=by
 have h:∀ l:List Int,clB.clL n m (cZ l)=true:=by
  intro l
  induction l with
  | nil=>rfl
  | cons z r ih=>simp only [cZ,List.map_cons,clB.clL,clB,Bool.true_and] at ih ⊢;exact ih
 simp only [IY,clB.clL,clB,h,nQ,Bool.and_self]
theorem FV (l:List Wd) (o:List (Wd × Wd)) (hs:wdsWt l<=1099511627776) (wT:prsWt o<=1099511627776) :
  Ev prog 45 [.sl 2 (bV l) none,.sl 4 (nP o) none] [] [] (I0 l o):=by
 have nW:=bM l;have Pu:=jo o;have gR:=dV l;have hF:=latF.eq_1 l o;refine eG 86 [.tmp 4,.cell 5 44] func45 rfl ntmps45 rfl fun _ _ _ _=>?_;refine cP abT (Nf l o) ?_;by_cases hm:(gG l o).1≠0
 ·rw [aj hm] at hF;refine br ?_ ?_<;>intro h
  ·refine dS ?_;exact ⟨_,ax,oE (os:=[]) (tk:=[]) hF hm⟩
  ·exfalso;simp at h;exact hm h
 rw [ai hm] at hF;refine br (fun h=>?_) (fun _=>?_)
 ·exfalso;simp at h;exact hm h
 have HR:l ≠ []:=by
  rintro rfl;simp [gG] at hm
 have hl32:l.length<=32:=by grind [gG]
 have vC:=FL l hs;unfold adm at vC;by_cases hE:(enumL l 0 l).1≠0
 ·rw [ai hE] at vC;rw [aj hE] at hF;refine cP Wj vC ?_;refine br ?_ ?_<;>intro h
  ·refine dS ?_;exact ⟨_,ax,oE (os:=[]) (tk:=[]) hF hE⟩
  ·exfalso;simp at h;exact hE h
 rw [ai hE] at hF;have hE:(enumL l 0 l).1=0:=sU hE;rw [aj hE] at vC;rw [ye hE] at vC;refine cP Wj vC ?_;refine cE PH rfl (xH (aC l) (by omega)) ax (fun r hr=>?_);obtain ⟨aJ,hT,lS,rfl⟩:=hr;have Ae:=Ac (aC l) aJ hT (by omega) o wT;unfold adn at Ae;by_cases hN:(numF (aC l) o).1≠0
 ·rw [ai hN] at Ae;rw [aj hN] at hF;refine cP Wl Ae ?_;refine br ?_ ?_<;>intro h
  ·refine dS ?_;exact ⟨_,ax,oE (os:=[]) (tk:=[]) hF hN⟩
  ·exfalso;simp at h;exact hN h
 rw [ai hN] at hF;have hN:(numF (aC l) o).1=0:=sU hN;rw [aj hN] at Ae;rw [A6 hN] at Ae;have hP:=pD hN;rw [gR] at hP;have hPl:(dN (aC l) o).length=o.length:=by simp [dN]
 generalize hPP:dN (aC l) o=P at Ae hF hP hPl;refine cP Wl Ae ?_;have hLn:(fq (aC l)).length=l.length:=by rw [cH,gR]
 have hPb:P.length<=1099511627776:=by omega
 have hro:=CR (n:=l.length) (by omega) P hP;have fm:=kG l.length P;have hr0:fM l.length P ≠ []:=fun h=>HR (List.eq_nil_of_length_eq_zero (by rw [<- fm,h];rfl));refine cP abU (M5 l.length (by omega) P hP hPb) ?_ (rA hLn);have hlo:=IU _ hro hr0;rw [fm,UD (by omega) hP] at hlo
 cases hA:cm (lp l.length (fo l.length P)) l.length with
 | some a=>
  rw [hA] at hlo hF;simp only at hF;have My:=(eV hA).1;obtain ⟨w,hw⟩:∃ w,l[a]? = some w:=⟨_,gE My⟩;rw [lr hw] at hF;refine cP Wm hlo ?_;refine dS ?_;refine ⟨kD w,⟨by omega,bg hw⟩,?_⟩;exact ⟨_,ax,oE (os:=[]) (tk:=[]) hF (by simp)⟩
 | none=>
 rw [hA] at hlo hF;simp only at hF;refine cP Wm hlo ?_;have gQ:=uX _ hro hr0;rw [fm] at gQ;have hcok:=lV hro l.length (by omega);have adw:=fN (fM l.length P) l.length;rw [fm] at adw;refine cP Wn gQ ?_;have yf:(List.replicate 2048 (0:Int)).length=2048:=List.length_replicate
 have hcs:CcL [] 0 0 0 (iV (aC l) (dr (aC l) aJ) (closeR (fM l.length P) l.length) (List.replicate 2048 0)) (.sl 1 (fq (aC l)) none :: .pt (dr (aC l) aJ) 0 :: nQ (closeR (fM l.length P) l.length) :: vL (List.replicate 2048 (.int .i64 0))):=by
  refine ⟨_,_,rfl,Or.inr (Or.inl ⟨_,rfl⟩),_,_,rfl,Or.inl rfl,_,_,rfl,Or.inl rfl,?_⟩;rw [Y7];exact tM _ _ _ _ _
 have hbn:=FT (aC l) (dr (aC l) aJ) _ (List.replicate 2048 0) hcok (by omega) (by omega) yf;refine mS abV rfl rfl hcs ax hbn (fun r os tk h=>?_) (fun r sL h=>?_)
 ·obtain ⟨Y4,rfl,_,rfl,_⟩:=h;refine ⟨rfl,fun sL h=>?_⟩;rw [List.mem_singleton.1 h];exact UM _ _ _ _ _ _
 obtain ⟨Y4,h1,hj2,hr,CZ⟩:=h;simp only [List.cons.injEq,and_true] at h1;subst h1
 have hB:cm (oD (bh (closeR (fM l.length P) l.length)) (aC l).length) (aC l).length=cm (oD (fo l.length P) l.length) l.length:=by
  rw [gR];rfl
 rw [hB] at hr CZ
 cases hb:cm (oD (fo l.length P) l.length) l.length with
 | some b=>
  rw [hb] at hr hF;subst hr;simp only at hF;have hbl:=(eV hb).1;obtain ⟨w,hw⟩:∃ w,l[b]? = some w:=⟨_,gE hbl⟩;rw [lr hw] at hF;refine dS ?_;refine ⟨kD w,⟨by simp only [oz];omega,bg hw⟩,?_⟩;exact ⟨_,ax,oE (os:=[]) (tk:=[]) hF (by simp)⟩
 | none=>
  rw [hb] at hr hF;subst hr;simp only at hF;refine ⟨.tup [.pt (iV (aC l) (dr (aC l) aJ) (closeR (fM l.length P) l.length) Y4) 0,Ft.d (0,0)],(by repeat' (first | exact rfl | exact trivial | exact Or.inr (Or.inl ⟨_,rfl⟩) | exact Or.inr ⟨_,rfl⟩ | exact Or.inl ⟨rfl,rfl⟩ | exact Or.inl rfl | refine Or.inr ⟨_,_,rfl,Nat.zero_le _,rfl,?_⟩ | refine ⟨_,_,rfl,?_,?_⟩ | refine ⟨_,rfl,?_⟩ | exact tM _ _ _ _ _ | refine Or.inr (Or.inr (Or.inr ⟨_,_,rfl,?_⟩)) | exact Or.inl rfl | refine Or.inr ?_)),UL (os:=[]) (tk:=[]) hF ⟨aJ,Y4,hT,by omega,hj2,?_,by rw [hPP]⟩⟩;rw [hPP];rw [gR] at CZ;exact CZ hb
section
variable (af:List ByteArray) (tc:List DV) (rows:List Nat) (js:List Int)
theorem tN:EvP prog 73 [.pt (iV af tc rows js) 0] (.v (.int .i64 af.length)):=by
 refine eG 10 [.tmp 2] func73 rfl ntmps73 rfl fun _ _ _ _=>?_;refine (Ct ?_:);rw [cH]
theorem tP (i:Int):EvP prog 168 [.pt (iV af tc rows js) 0,.v (.int .i64 i)] (.v (.bool (decide (0<=i) && decide (i < af.length)))):=by
 refine eG 13 [.tmp 4] func168 rfl ntmps168 rfl fun _ _ _ _=>?_;refine br ?_ ?_<;>intro g
 ·have g:decide (0<=i)=true:=sU g;refine cP Iq (tN af tc rows js) ?_;refine (bK ?_:);simp [g,pickB]
 ·have g:decide (0<=i)=false:=sU g;refine (bK ?_:);simp [g,pickB]
theorem rV {a:Nat} (h:a < af.length):EvP prog 168 [.pt (iV af tc rows js) 0,.v (.int .i64 a)] (.v (.bool true)):=by
 have:=tP af tc rows js a;have e:(decide (0<=(a:Int)) && decide ((a:Int) < af.length))=true:=by simp [h]
 rw [e] at this;exact this
theorem I1 (i:Int):EvP prog 157 [.pt (iV af tc rows js) 0,.v (.int .i64 i)] (.v (.string (if 0<=i/\i < af.length then (af[i.toNat]?).getD av else av))):=by
 refine eG 16 [.tmp 4] func157 rfl ntmps157 rfl fun _ _ _ _=>?_;refine cP xz (tP af tc rows js i) ?_;refine br ?_ ?_<;>intro g
 ·have g:¬ (0<=i/\i < af.length):=by simp at g;omega
  rw [ai g];exact (rfl:_=_)
 ·have g:0<=i/\i < af.length:=by simp at g;omega
  obtain ⟨x,hx⟩:∃ x,af[i.toNat]? = some x:=⟨_,gE (by omega)⟩;refine ⟨_,⟨g.1,gd hx⟩,?_⟩;rw [aj g,hx];exact (rfl:_=_)
end
theorem I2 (af:List ByteArray) (aJ rows:List Nat) (js:List Int) (s:ByteArray) (hT:iT af aJ) (hl:aJ.length<=1099511627776) :
  EvP prog 202 [.pt (iV af (dr af aJ) rows js) 0,.v (.string s)] (QV (dx af s)):=by
 have h:=jt af aJ s hT hl;refine eG 16 [.tmp 4,.tmp 5] func202 rfl ntmps202 rfl fun _ _ _ _=>?_
 cases hx:dx af s with
 | none=>
  rw [hx] at h;refine cP oh h ?_;exact ⟨_,ax,rfl⟩
 | some k=>
  rw [hx] at h;refine cP oh h ?_;exact ⟨_,ax,rfl⟩
theorem FW {l:List DV} {k b:Nat} {x:DV} (hb:b < 32) (h:l[k + b]? = some x):(((l.drop k).take 32).drop b).take 1=[x]:=by
 have h1:((l.drop k).take 32)[b]? = some x:=by grind
 rw [List.drop_eq_getElem_cons (gS h1).1]
 grind
section
variable (af:List ByteArray) (tc:List DV) (rows:List Nat) (js:List Int)
theorem yg (a b:Nat) (z:Int) (ha:a < af.length) (hb:b < af.length) (hn:af.length<=32) (hz:js[a * 32 + b]? = some z) :
  EvP prog 203 [.pt (iV af tc rows js) 0,.v (.int .i64 a),.v (.int .i64 b)] (.v (.int .i64 z)):=by
 refine eG 25 [.tmp 6] func203 rfl ntmps203 rfl fun _ _ _ _=>?_;refine cP xz (rV af tc rows js ha) ?_;refine cP xz (rV af tc rows js hb) ?_;refine ⟨_,⟨⟨by omega,by omega⟩,rfl⟩,?_⟩;refine ⟨_,⟨⟨by omega,by omega⟩,FW (x:=.v (.int .i64 z)) (by omega) ?_⟩,?_⟩
 ·grind [IY,cZ]
 exact (rfl:_=_)
theorem I3 (a b:Nat) (z:Int) (ha:a < af.length) (hb:b < af.length) (hn:af.length<=32) (hz:js[1024 + (a * 32 + b)]? = some z) :
  EvP prog 144 [.pt (iV af tc rows js) 0,.v (.int .i64 a),.v (.int .i64 b)] (.v (.int .i64 z)):=by
 refine eG 25 [.tmp 6] func144 rfl ntmps144 rfl fun _ _ _ _=>?_;refine cP xz (rV af tc rows js ha) ?_;refine cP xz (rV af tc rows js hb) ?_;refine ⟨_,⟨⟨by omega,by omega⟩,rfl⟩,?_⟩;refine ⟨_,⟨⟨by omega,by omega⟩,FW (x:=.v (.int .i64 z)) (by omega) ?_⟩,?_⟩
 ·grind [IY,cZ]
 exact (rfl:_=_)
end
theorem tQ {lE:Nat->Bool} {pb:Nat->Nat->Bool}:∀ {e k:Nat},bestA lE pb e=some k->lE k=true
 | 0,k,h=>by cases h
 | e + 1,k,h=>by
  rw [bestA] at h;split at h
  ·grind
  ·exact tQ h
theorem yh {lE:Nat->Bool} {pb:Nat->Nat->Bool} {n k:Nat} (h:oB lE pb n=some k):k < n/\lE k=true/\∀ c,c < n->lE c=true->pb k c=true:=by grind [oB,oC,tQ]
structure gH (f:Nat->Nat->Bool) (n:Nat):Prop where
 pos:0 < n
 rfl':∀ a,a < n->f a a=true
 tr:∀ a b c,a < n->b < n->c < n->f a b=true->f b c=true->f a c=true
 Nj:∀ a b,a < n->b < n->f a b=true->f b a=true->a=b
 jn:∀ a b,a < n->b < n->∃ k,fy f n a b=some k
 mt:∀ a b,a < n->b < n->∃ k,jM f n a b=some k
theorem qG {f:Nat->Nat->Bool} {n a b k:Nat} (h:fy f n a b=some k):k < n/\f a k=true/\f b k=true/\∀ c,c < n->f a c=true->f b c=true->f k c=true:=by
 obtain ⟨h1,h2,h3⟩:=yh h
 grind
theorem qH {f:Nat->Nat->Bool} {n a b k:Nat} (h:jM f n a b=some k):k < n/\f k a=true/\f k b=true/\∀ c,c < n->f c a=true->f c b=true->f c k=true:=by
 obtain ⟨h1,h2,h3⟩:=yh h
 grind
def iW (f:Nat->Nat->Bool) (l:List Nat) (c:Nat):Bool:=l.all fun i=>f i c
def FX (f:Nat->Nat->Bool) (n:Nat) (l:List Nat) (c:Nat):Bool:=iW f l c && (List.range n).all fun d=>!iW f l d || f c d
def gv (f:Nat->Nat->Bool) (n:Nat) (l:List Nat):Option Nat:=cm (FX f n l) n
theorem oF {f:Nat->Nat->Bool} {n:Nat} {l:List Nat} {c:Nat}:FX f n l c=true↔iW f l c=true/\∀ d,d < n->iW f l d=true->f c d=true:=by grind [FX,iW]
theorem A7 {f:Nat->Nat->Bool} {n:Nat} (hL:gH f n) {l:List Nat} {c:Nat} (hc:c < n) (h:FX f n l c=true):gv f n l=some c:=by
 refine dc hc h fun a ha=>?_;cases h2:FX f n l a
 ·rfl
 ·obtain ⟨h3,h4⟩:=oF.1 h;obtain ⟨h5,h6⟩:=oF.1 h2;have:=hL.Nj a c (by omega) hc (h6 c hc h3) (h4 a (by omega) h5);omega
theorem qI {f:Nat->Nat->Bool} {n c:Nat} (hL:gH f n) (hc:c < n) (h:∀ d,d < n->f c d=true):gv f n []=some c:=
 A7 hL hc (oF.2 ⟨rfl,fun d hd _=>h d hd⟩)
theorem u0 {f:Nat->Nat->Bool} {n c k i:Nat} {l:List Nat} (hL:gH f n) (hl:∀ x∈l,x < n) (hi:i < n) (h:gv f n l=some c) (hk:fy f n c i=some k):gv f n (l ++ [i])=some k:=by
 obtain ⟨h1,h2,_⟩:=eV h;obtain ⟨h3,h4⟩:=oF.1 h2;obtain ⟨g1,g2,g3,g4⟩:=qG hk;simp only [iW,List.all_eq_true] at h3;refine A7 hL g1 (oF.2 ⟨?_,fun d hd ho=>?_⟩)
 ·simp only [iW,List.all_eq_true,List.mem_append,List.mem_singleton];rintro x (hx | rfl)
  ·exact hL.tr x c k (hl x hx) h1 g1 (h3 x hx) g2
  ·exact g3
 ·grind [iW]
theorem pF {f:Nat->Nat->Bool} {n c:Nat} {l:List Nat} (h:gv f n l=some c):c < n:=(eV h).1
abbrev W7 (L:List DV) (n b e:Nat):St:=
 ⟨[iQ 0 L,ay 3 b,ay 9 n,ay 10 e],[],[]⟩
theorem rW (af:List ByteArray) (tc:List DV) (rows:List Nat) (js:List Int) {f:Nat->Nat->Bool} (hL:gH f af.length) (hn:af.length<=32) (hj:∀ x y,x < af.length->y < af.length->JM f af.length js x y) :
  EvP prog 70 [.pt (iV af tc rows js) 0] (.v (.int .i64 (oz (gv f af.length [])))):=by
 have hlen:=tN af tc rows js;have kB:=hL.pos;refine eG 19 [.tmp 2] func70 rfl ntmps70 rfl fun _ _ _ _=>?_;refine cP Iq hlen ?_;refine br ?_ ?_<;>intro g
 ·exfalso;simp at g;simp [g] at kB
 refine cP Iq hlen ?_;refine lI (fun j st=>∃ e b:Nat,st=W7 (iV af tc rows js) af.length b e/\e<=af.length/\b < af.length/\(∀ x,x < e->f b x=true)/\j=af.length - e) ⟨0,0,rfl,by omega,by omega,fun _ h=>by omega,rfl⟩ (bG wB) ?_;rintro j st ⟨e,b,rfl,he,hb,gk,rfl⟩;refine br ?_ ?_<;>intro hL'
 ·have aw:e < af.length:=by have:=hL';simp at this;exact this
  obtain ⟨k,hk⟩:=hL.mt b e hb aw;obtain ⟨g1,g2,g3,g4⟩:=qH hk;have hz:=(hj b e hb aw).2;rw [hk] at hz;refine cP ab4 (I3 af tc rows js b e k hb aw hn hz) ?_;refine ⟨W7 (iV af tc rows js) af.length k (e + 1),(bG (dH (aX aw (by omega)))),af.length - (e + 1),by omega,e + 1,k,rfl,by omega,g1,fun x hx=>?_,rfl⟩;rcases mD hx with hx | rfl
  ·exact hL.tr k b x g1 hb (by omega) g2 (gk x hx)
  ·exact g3
 ·have hge:e=af.length:=by have:=hL';simp at this;omega
  subst hge;rw [qI hL hb gk];exact (rfl:_=_)
def labW (L:List ByteArray):List Wd->Ft
 | []=>(0,0)
 | w :: r=>if dx L w.s=none then (17,w.a) else labW L r
def ni (L:List ByteArray) (l:List Wd):List Nat:=l.map fun w=>(dx L w.s).getD 0
def C0 (f:Nat->Nat->Bool) (L:List ByteArray) (l:List Wd):Int:=if (labW L l).1=0 then oz (gv f L.length (ni L l)) else 0
def Nk (f:Nat->Nat->Bool) (L:List ByteArray) (l:List Wd):DV:=.tup [.v (.int .i64 (C0 f L l)),(labW L l).d]
theorem tR {L:List ByteArray} {l:List Wd} {e:Nat} {w:Wd} (h:l[e]? = some w):labW L (l.drop e)=if dx L w.s=none then (17,w.a) else labW L (l.drop (e + 1)):=by
 rw [drop_cons h,labW]
theorem tS {L:List ByteArray} {l:List Wd} {e i:Nat} {w:Wd} (h:l[e]? = some w) (hi:dx L w.s=some i):ni L (l.take (e + 1))=ni L (l.take e) ++ [i]:=by
 rw [List.take_add_one,h];simp [ni,hi]
abbrev W8 (L:List DV) (l:List Wd) (b e:Nat):St:=
 ⟨[iQ 0 L,aF 5 0,ay 6 b,bi 16 2 (bV l),ay 17 ((bV l).length),ay 18 e],[[.v (.int .i64 0),.v (.int .i64 0)]],[]⟩
theorem Q9 (af:List ByteArray) (aJ rows:List Nat) (js:List Int) (hT:iT af aJ) (lS:aJ.length<=1099511627776) {f:Nat->Nat->Bool} (hL:gH f af.length) (hn:af.length<=32) (hj:∀ x y,x < af.length->y < af.length->JM f af.length js x y)
  (l:List Wd) (hs:wdsWt l<=1099511627776) :
  EvP prog 116 [.pt (iV af (dr af aJ) rows js) 0,.sl 2 (bV l) none] (Nk f af l):=by
 have nW:=bM l;have rX:=rW af (dr af aJ) rows js hL hn hj
 have jA:∃ b,gv f af.length []=some b:=by
  have:∀ e,e<=af.length->∃ b,b < af.length/\∀ x,x < e->f b x=true:=by
   intro e
   induction e with
   | zero=>intro _;exact ⟨0,hL.pos,fun _ h=>by omega⟩
   | succ e ih=>
    intro he;obtain ⟨b,hb,gk⟩:=ih (by omega);obtain ⟨k,hk⟩:=hL.mt b e hb (by omega);obtain ⟨g1,g2,g3,_⟩:=qH hk;refine ⟨k,g1,fun x hx=>?_⟩;rcases mD hx with hx | rfl
    ·exact hL.tr k b x g1 hb (by omega) g2 (gk x hx)
    ·exact g3
  obtain ⟨b,hb,gk⟩:=this af.length (aR _);exact ⟨b,qI hL hb gk⟩
 obtain ⟨b0,iC⟩:=jA;rw [iC] at rX;refine eG 41 [.tmp 4,.cell 5 44] func116 rfl ntmps116 rfl fun _ _ _ _=>?_;refine cP PG rX ?_;refine lI (fun j st=>∃ e b:Nat,st=W8 (iV af (dr af aJ) rows js) l b e/\e<=l.length/\labW af l=labW af (l.drop e)/\gv f af.length (ni af (l.take e))=some b/\(∀ x∈ni af (l.take e),x < af.length)/\j=l.length - e) ⟨0,b0,rfl,by omega,rfl,iC,by simp [ni],rfl⟩ (bG wB) ?_;rintro j st ⟨e,b,rfl,he,aP,Qh,TD,rfl⟩;have hb:=pF Qh;refine br ?_ ?_<;>intro iD
 ·have aw:e < l.length:=by simpa [aE] using iD
  obtain ⟨w,hw⟩:=gX aw;have bd:=tR (L:=af) hw;have CY:=I2 af aJ rows js w.s hT lS;refine ⟨kD w,⟨by omega,bg hw⟩,?_⟩
  cases hx:dx af w.s with
  | none=>
   rw [hx] at CY;refine cP Wy CY ?_;rw [aj hx] at bd;have h1:labW af l=(17,w.a):=aP.trans bd;refine dS ?_;refine ⟨_,?_,rfl⟩;rw [Nk,C0,h1,ai (by simp)];exact ax
  | some i=>
   rw [hx] at CY;refine cP Wy CY ?_;rw [ai (by rw [hx];simp)] at bd;have hi:=(dE hx).1;obtain ⟨k,hk⟩:=hL.jn b i hb hi;have hz:=(hj b i hb hi).1;rw [hk] at hz;refine cP uN (yg af (dr af aJ) rows js b i k hb hi hn hz) ?_;refine ⟨W8 (iV af (dr af aJ) rows js) l k (e + 1),(bG (dH (aX aw (by omega)))),l.length - (e + 1),by omega,e + 1,k,rfl,by omega,aP.trans bd,?_,?_,rfl⟩
   ·rw [tS hw hx];exact u0 hL TD hi Qh hk
   ·rw [tS hw hx];intro x hm;rcases List.mem_append.1 hm with hm | hm
    ·exact TD x hm
    ·rw [List.mem_singleton.1 hm];exact hi
 ·have hge:e=l.length:=by
   have:=iD;simp [aE] at this;omega
  subst hge;rw [List.drop_length] at aP;rw [List.take_length] at Qh;have h1:labW af l=(0,0):=aP;refine ⟨_,?_,rfl⟩;rw [Nk,C0,h1,aj rfl,Qh];exact ax
def I4 (x:Ft × Int) (r:DV) (os:List (List DV)) (_:List TkE):Prop:=
 r=x.1.d/\∃ z:Int,os=[[.v (.int .i64 z)]]/\(x.1.1=0->z=x.2)
theorem nj {x:Ft × Int}:∀ r os tk,I4 x r os tk->clB 0 0 r=true/\∀ sL∈os,clB.clL 0 0 sL=true:=by
 rintro r os tk ⟨rfl,z,rfl,_⟩;refine ⟨rfl,fun sL h=>?_⟩;simp only [List.mem_singleton] at h;subst h;rfl
def Ra (k:Nat):Prop:=∀ (t:Ty) (depth m:Int),t.wt<=k->t.wt<=1099511627776->0<=depth->depth<=25->0<=m->m<=512 ->
 Ev prog 199 [.loc 0 0,.agg (eE t),.v (.int .i64 depth)] [[.v (.int .i64 m)]] [] (I4 (wrong t depth m))
def l4 (p:Ph) (t:Ty) (un:Bool) (depth m:Int):Ft × Int:=
 if p.bare=true then (if un=false∨dD p t (qD p) de=false then ((19,p.name.a),m) else ((0,0),m))
 else if (eu p).1≠0 then (eu p,m)
 else wrong t (depth + 1) m
theorem bL {x:Ft × Int} {f:Ft} {m z:Int} (h:x=(f,m)) (hz:f.1=0->z=m) {tk:List TkE}:I4 x f.d [[.v (.int .i64 z)]] tk:=by
 subst h;exact ⟨rfl,z,rfl,hz⟩
theorem I5 (k:Nat) (ih:Ra k) (p:Ph) (t:Ty) (un:Bool) (depth m:Int) (hk:t.wt<=k) (hp:p.wt<=1099511627776) (cQ:t.wt<=1099511627776) (AL:0<=depth) (sM:depth<=24) (mH:0<=m) (jT:m<=512) :
  Ev prog 305 [.loc 0 0,.agg (Ir p (eE t)),.v (.bool un),.v (.int .i64 depth)] [[.v (.int .i64 m)]] [] (I4 (l4 p t un depth m)):=by
 have z7:=hp;simp only [Ph.wt] at z7;have Ey:=oq p (qD p) t de hp (by simp only [Ph.wt,qD,wdsWt];omega) (xN t de cQ (by decide));have zS:=ih t (depth + 1) m hk cQ (by omega) (by omega) mH jT;obtain ⟨u,us⟩:=t;have hcoa:=CM p (eE (.mk u us)) (.mk u us) rfl hp;have hS:=l4.eq_def p (.mk u us) un depth m;generalize l4 p (.mk u us) un depth m=F at hS ⊢;obtain ⟨nm,bare,lab,wide,ck,cn,ca,cl⟩:=p;simp only at hS z7 Ey
 cases bare with
 | true=>
  rw [aj rfl] at hS
  cases un with
  | true=>
   refine eG 68 [.cell 8 44] func305 rfl ntmps305 rfl fun _ _ _ _=>?_;refine cP Qa Ey ?_;refine br ?_ ?_<;>intro q
   ·have q:dD ⟨nm,true,lab,wide,ck,cn,ca,cl⟩ (.mk u us) (qD ⟨nm,true,lab,wide,ck,cn,ca,cl⟩) de=false:=by simpa [show (lastG (21,false) [(18,true)]).snd=true from rfl,pickB] using q
    rw [aj (.inr q)] at hS;refine cP eI (bP 19 nm.a) ?_;exact ⟨_,_,ax,ax,bL (tk:=[]) (f:=(19,nm.a)) hS (fun _=>rfl)⟩
   ·have q:dD ⟨nm,true,lab,wide,ck,cn,ca,cl⟩ (.mk u us) (qD ⟨nm,true,lab,wide,ck,cn,ca,cl⟩) de=true:=by simpa [show (lastG (21,false) [(18,true)]).snd=true from rfl,pickB] using q
    rw [ai (by simp [q])] at hS;exact ⟨_,_,ax,ax,bL (tk:=[]) (f:=(0,0)) hS (fun _=>rfl)⟩
  | false=>
   refine eG 68 [.cell 8 44] func305 rfl ntmps305 rfl fun _ _ _ _=>?_;rw [aj (.inl rfl)] at hS;refine cP eI (bP 19 nm.a) ?_;exact ⟨_,_,ax,ax,bL (tk:=[]) (f:=(19,nm.a)) hS (fun _=>rfl)⟩
 | false=>
  rw [ai (by simp)] at hS;refine eG 68 [.cell 8 44] func305 rfl ntmps305 rfl fun _ _ _ _=>?_;refine br ?_ ?_<;>intro hw
  ·have hw:wide < 0∨64 < wide:=by simpa [au] using hw
   have hP:eu ⟨nm,false,lab,wide,ck,cn,ca,cl⟩=(20,nm.a):=by simp only [eu,aj hw]
   rw [hP,aj (by simp)] at hS;refine cP eI (bP 20 nm.a) ?_;exact ⟨_,_,ax,ax,bL (tk:=[]) (f:=(20,nm.a)) hS (fun _=>rfl)⟩
  have hw:¬ (wide < 0∨64 < wide):=by simp [au] at hw;omega
  refine cP Fa (jJ lab (by omega)) ?_;refine br ?_ ?_<;>intro hb
  ·have hb:(bZ lab).1≠0:=sU hb;have hP:eu ⟨nm,false,lab,wide,ck,cn,ca,cl⟩=bZ lab:=by simp only [eu,ai hw,aj hb]
   rw [hP,aj hb] at hS;exact ⟨_,_,ax,ax,bL (tk:=[]) (f:=bZ lab) hS (fun _=>rfl)⟩
  have hb:(bZ lab).1=0:=sU hb;have hP:eu ⟨nm,false,lab,wide,ck,cn,ca,cl⟩=bq ⟨nm,false,lab,wide,ck,cn,ca,cl⟩:=by simp only [eu,ai hw];rw [ai (by simp [hb])]
  rw [hP] at hS;refine cP acJ hcoa ?_;refine br ?_ ?_<;>intro hc
  ·have hc:(bq ⟨nm,false,lab,wide,ck,cn,ca,cl⟩).1≠0:=sU hc;rw [aj hc] at hS;exact ⟨_,_,ax,ax,bL (tk:=[]) (f:=bq ⟨nm,false,lab,wide,ck,cn,ca,cl⟩) hS (fun _=>rfl)⟩
  have hc:(bq ⟨nm,false,lab,wide,ck,cn,ca,cl⟩).1=0:=sU hc;rw [ai (by simp [hc])] at hS;refine mS PW rfl rfl ax (by repeat' (first | exact rfl | exact trivial | exact Or.inr (Or.inl ⟨_,rfl⟩) | exact Or.inr ⟨_,rfl⟩ | exact Or.inl ⟨rfl,rfl⟩ | exact Or.inl rfl | refine Or.inr ⟨_,_,rfl,Nat.zero_le _,rfl,?_⟩ | refine ⟨_,_,rfl,?_,?_⟩ | refine ⟨_,rfl,?_⟩ | exact congrArg (fun z=>DV.v (.int .i64 z)) (wrap64 (by omega) (by omega)) | refine Or.inr (Or.inr (Or.inr ⟨_,_,rfl,?_⟩)) | exact Or.inl rfl | refine Or.inr ?_)) zS nj (fun r sL hr=>?_);obtain ⟨rfl,z,hz,wV⟩:=hr;simp only [List.cons.injEq,and_true] at hz;subst hz;exact ⟨_,_,ax,ax,bL (tk:=[]) (f:=(wrong (.mk u us) (depth + 1) m).1) hS wV⟩
theorem Af {ag:Int} {all:List Wd} {i:Nat} {p:Ph} {t:Ty} {r:Pts} {depth m:Int} (hk:ag=7∨ag=8) (hl:aK all i p.name=0) :
  wrongPts ag all i (.cons p t r) depth m=if (l4 p t (decide (ag=8)) depth m).1.1≠0 then l4 p t (decide (ag=8)) depth m else wrongPts ag all (i + 1) r depth (l4 p t (decide (ag=8)) depth m).2:=by
 simp only [wrongPts];rw [ai (by simp [hl])];unfold l4;by_cases hb:p.bare=true
 ·grind [UH,sameTy,de,cV,jV]
 ·grind
theorem Rb {p:Ph} {t:Ty} {un:Bool} {depth m:Int} (mH:0<=m) (jT:m<=512) (h:(l4 p t un depth m).1.1=0):(l4 p t un depth m).1=(0,0)/\0<=(l4 p t un depth m).2/\(l4 p t un depth m).2<=512:=by grind [rJ,l4,eu]
abbrev FY (h:Hd) (ps:Pts) (n e:Nat) (depth m:Int):St:=
 ⟨[aF 0 0,ay 2 depth,aF 4 1,aF 6 2,bi 38 18 (gp ps),ay 39 ((gp ps).length),ay 40 e,(7,⟨[],.sl 1 (fq (aC ((pNames ps).take e))) (some 0)⟩)],
  [[.v (.int .i64 m)],eE (.mk h ps),[.v (.int .i64 0),.v (.int .i64 0)]],[⟨n,9,1,none⟩]⟩
theorem u2 (k:Nat) (ih:Ra k) (h:Hd) (ps:Pts) (depth m:Int) (Ly:h.ag=7∨h.ag=8) (hk:ps.wt<=k) (cQ:(Ty.mk h ps).wt<=1099511627776) (AL:0<=depth) (sM:depth<=24) (mH:0<=m) (jT:m<=512) :
  Ev prog 256 [.loc 0 0,.agg (eE (.mk h ps)),.v (.int .i64 depth)] [[.v (.int .i64 m)]] [] (I4 (fv h ps depth m)):=by
 simp only [Ty.wt,Hd.wt] at cQ;have fV:=ps.gn;have gR:=ia ps;have YJ:=tA ps;have hS:=fv.eq_def h ps depth m;generalize fv h ps depth m=F at hS ⊢;refine eG 72 [.cell 6 44] func256 rfl ntmps256 rfl fun _ _ _ _=>?_;refine br ?_ ?_<;>intro c1
 ·have c1:h.ag=8/\ps.len=0:=by grind [aq,aM]
  rw [aj c1] at hS;refine cP eI (bP 15 h.at') ?_;exact ⟨_,_,ax,ax,bL (tk:=[]) (f:=(15,h.at')) hS (fun _=>rfl)⟩
 have c1:¬ (h.ag=8/\ps.len=0):=by
  simp [aq,aM] at c1;omega
 rw [ai c1] at hS;refine br ?_ ?_<;>intro c2
 ·have aw:64 < ps.len:=by simp [aM] at c2;omega
  obtain ⟨p,t,hx⟩:=Pts.ff aw;refine iX (cj hx) ?_;refine cP eI (bP 8 p.name.a) ?_;rw [aj aw,ib hx] at hS;exact ⟨_,_,ax,ax,bL (tk:=[]) (f:=(8,p.name.a)) hS (fun _=>rfl)⟩
 have c2:¬ 64 < ps.len:=by simp [aM] at c2;omega
 rw [ai c2] at hS
 refine aT (fun j st=>∃ (e:Nat) (m':Int),st=FY h ps e e depth m' /\ e<=ps.len/\0<=m' /\ m' <= 512/\(aC ((pNames ps).take e)).Nodup /\
   F=wrongPts h.ag (pNames ps) e (ps.drop e) depth m' /\ j=ps.len - e) ps.len (FY h ps 0 0 depth m) (fF ⟨0,9,1,none⟩ rfl ⟨_,rfl⟩ rfl wA rfl rfl j8) ⟨0,m,rfl,by omega,mH,jT,by simp [aC],hS,by omega⟩ ?_
 rintro j st ⟨e,m',rfl,he,vG,Fq,hnd,aP,rfl⟩;refine br ?_ ?_<;>intro hL
 ·have aw:e < ps.len:=by simpa [aM] using hL
  obtain ⟨p,t,hx⟩:=Pts.ff aw;have Fl:=Pts.hZ (mG hx);have I6:=ib hx;have hpw:p.name.s.size + 64<=p.wt:=by simp only [Ph.wt,Wd.wt];omega
  rw [Pts.drop_cons hx] at aP;have Qu:(aC ((pNames ps).take (e + 1)))[(aC ((pNames ps).take (e + 1))).length - 1]? = some p.name.s:=by grind [aC,pNames]
  have X2:=uS (aC ((pNames ps).take (e + 1))) p.name.s p.name.a Qu (by simp [aC];omega) (by omega);have eK:=kb I6;rw [A1 p.name.a I6 hnd,<- eK] at X2;have FZ:=I5 k ih p t (decide (h.ag=8)) depth m' (by omega) (by omega) (by omega) AL sM vG Fq;obtain ⟨u,us⟩:=t;refine iX (cj hx) ?_;refine ⟨by simp [cH,aC];omega,⟨by simp [cH,aC,maxLen];omega,by simp [cH,aC];omega⟩,?_⟩;refine cP WQ X2 ?_;by_cases hl:aK (pNames ps) e p.name≠0
  ·rw [aj hl];refine br ?_ ?_<;>intro hf
   ·simp only [wrongPts] at aP;rw [aj hl] at aP;exact ⟨_,_,ax,ax,bL (tk:=[]) (f:=(aK (pNames ps) e p.name,p.name.a)) aP (fun _=>rfl)⟩
   ·exact absurd (sU hf) hl
  have hl:aK (pNames ps) e p.name=0:=sU hl;have hndn:=nh I6 hnd hl;rw [ai (by simp [hl])];rw [Af Ly hl] at aP;have bA:=Rb (p:=p) (t:=.mk u us) (un:=decide (h.ag=8)) (depth:=depth) vG Fq;generalize l4 p (.mk u us) (decide (h.ag=8)) depth m'=r at FZ aP bA;obtain ⟨⟨fe,fa⟩,many⟩:=r;simp only at aP bA;refine mS acD rfl rfl ax ax FZ nj (fun r sL hr=>?_);obtain ⟨rfl,z,hz,wV⟩:=hr;simp only [List.cons.injEq,and_true] at hz;subst hz;refine br ?_ ?_<;>intro hd
  ·have hd:fe≠0:=sU hd;rw [aj hd] at aP;exact ⟨_,_,ax,ax,bL (tk:=[]) (f:=(fe,fa)) aP (fun h0=>absurd h0 hd)⟩
  ·have hd:fe=0:=sU hd;subst hd;obtain ⟨_,h2,h3⟩:=bA rfl;rw [ai (by simp)] at aP;have Y8:z=many:=wV rfl;subst Y8;exact rE ⟨_,by omega,e + 1,z,rfl,by omega,h2,h3,hndn,aP,rfl⟩ (bG (gC (aX aw (by omega)) eK))
 ·have hge:e=ps.len:=by simp [aM] at hL;omega
  rw [hge,Pts.dJ] at aP;simp only [wrongPts] at aP;exact ⟨_,_,ax,ax,bL (tk:=[]) (f:=(0,0)) aP (fun _=>rfl)⟩
theorem A8 (k:Nat) (ih:Ra k) (h:Hd) (ps:Pts) (depth m:Int) (hk:ps.wt<=k) (cQ:(Ty.mk h ps).wt<=1099511627776) (AL:0<=depth) (sM:depth<=24) (mH:0<=m) (jT:m<=512) :
  Ev prog 255 [.loc 0 0,.agg (eE (.mk h ps)),.v (.int .i64 depth)] [[.v (.int .i64 m)]] [] (I4 (wrongOne h ps depth m)):=by
 simp only [Ty.wt,Hd.wt] at cQ
 cases ps with
 | nil=>
  have hS:wrongOne h .nil depth m=((19,h.at'),m):=by simp only [wrongOne]
  generalize wrongOne h .nil depth m=F at hS ⊢;refine eG 44 [.cell 6 44] func255 rfl ntmps255 rfl fun _ _ _ _=>?_;refine cP eI (bP 19 h.at') ?_;exact ⟨_,_,ax,ax,bL (tk:=[]) (f:=(19,h.at')) hS (fun _=>rfl)⟩
 | cons p t r=>
  cases r with
  | cons p2 t2 r2=>
   have hS:wrongOne h (.cons p t (.cons p2 t2 r2)) depth m=((19,h.at'),m):=by simp only [wrongOne]
   generalize wrongOne h (.cons p t (.cons p2 t2 r2)) depth m=F at hS ⊢;refine eG 44 [.cell 6 44] func255 rfl ntmps255 rfl fun _ _ _ _=>?_;refine cP eI (bP 19 h.at') ?_;exact ⟨_,_,ax,ax,bL (tk:=[]) (f:=(19,h.at')) hS (fun _=>rfl)⟩
  | nil=>
   simp only [Pts.wt] at cQ hk;have hS:wrongOne h (.cons p t .nil) depth m=if p.name.s≠av∨cV p fJ=false then ((19,h.at'),m) else if h.most < 0∨1024 < h.most then ((20,h.at'),m) else wrong t (depth + 1) m:=by simp only [wrongOne]
   generalize wrongOne h (.cons p t .nil) depth m=F at hS ⊢;have Yp:=Fv p t (by omega);rw [empty_eq] at Yp;have zS:=ih t (depth + 1) m (by omega) (by omega) (by omega) (by omega) mH jT;obtain ⟨u,us⟩:=t;refine eG 44 [.cell 6 44] func255 rfl ntmps255 rfl fun _ _ _ _=>?_;refine ⟨_,⟨by omega,rfl⟩,?_⟩;refine cP acC Yp ?_;refine br ?_ ?_<;>intro q
   ·have q:p.name.s≠av∨cV p fJ=false:=by
     have:=q;simp [pickB] at this;exact this
    rw [aj q] at hS;refine cP eI (bP 19 h.at') ?_;exact ⟨_,_,ax,ax,bL (tk:=[]) (f:=(19,h.at')) hS (fun _=>rfl)⟩
   have q:¬ (p.name.s≠av∨cV p fJ=false):=by grind [pickB]
   rw [ai q] at hS;refine br ?_ ?_<;>intro x
   ·have x:h.most < 0∨1024 < h.most:=by simpa [au] using x
    rw [aj x] at hS;refine cP eI (bP 20 h.at') ?_;exact ⟨_,_,ax,ax,bL (tk:=[]) (f:=(20,h.at')) hS (fun _=>rfl)⟩
   have x:¬ (h.most < 0∨1024 < h.most):=by simp [au] at x;omega
   rw [ai x] at hS;refine ⟨_,⟨by omega,rfl⟩,?_⟩;refine mS PW rfl rfl ax (by repeat' (first | exact rfl | exact trivial | exact Or.inr (Or.inl ⟨_,rfl⟩) | exact Or.inr ⟨_,rfl⟩ | exact Or.inl ⟨rfl,rfl⟩ | exact Or.inl rfl | refine Or.inr ⟨_,_,rfl,Nat.zero_le _,rfl,?_⟩ | refine ⟨_,_,rfl,?_,?_⟩ | refine ⟨_,rfl,?_⟩ | exact congrArg (fun z=>DV.v (.int .i64 z)) (wrap64 (by omega) (by omega)) | refine Or.inr (Or.inr (Or.inr ⟨_,_,rfl,?_⟩)) | exact Or.inl rfl | refine Or.inr ?_)) zS nj (fun r sL hr=>?_);obtain ⟨rfl,z,hz,wV⟩:=hr;simp only [List.cons.injEq,and_true] at hz;subst hz;exact ⟨_,_,ax,ax,bL (tk:=[]) (f:=(wrong (.mk u us) (depth + 1) m).1) hS wV⟩
theorem F0 (k:Nat) (ih:Ra k) (h:Hd) (ps:Pts) (depth m:Int) (hk:ps.wt<=k) (cQ:(Ty.mk h ps).wt<=1099511627776) (AL:0<=depth) (sM:depth<=25) (mH:0<=m) (jT:m<=512) :
  Ev prog 199 [.loc 0 0,.agg (eE (.mk h ps)),.v (.int .i64 depth)] [[.v (.int .i64 m)]] [] (I4 (wrong (.mk h ps) depth m)):=by
 have A9:=cQ;simp only [Ty.wt,Hd.wt] at A9;have sO:IntKind.i64.wrap (m + 1)=m + 1:=wrap64 (by omega) (by omega);have hS:=wrong.eq_def (.mk h ps) depth m;simp only at hS;generalize wrong (.mk h ps) depth m=F at hS ⊢;have dm:=MT h ps;rw [Lc] at dm;refine eG 103 [.cell 6 44] func199 rfl ntmps199 rfl fun _ _ _ _=>?_;refine br ?_ ?_<;>intro c
 ·have c:24 < depth:=of_decide_eq_true c;rw [aj c] at hS;refine cP eI (bP 6 h.at') ?_;exact ⟨_,[[.v (.int .i64 (m + 1))]],ax,(rA sO),bL (tk:=[]) (f:=(6,h.at')) hS (fun _=>rfl)⟩
 have c:¬ 24 < depth:=of_decide_eq_false c;rw [ai c] at hS;refine br ?_ ?_<;>intro c
 ·have c:512 < IntKind.i64.wrap (m + 1):=of_decide_eq_true c;rw [sO] at c;rw [aj c] at hS;refine cP eI (bP 8 h.at') ?_;exact ⟨_,[[.v (.int .i64 (m + 1))]],ax,(rA sO),bL (tk:=[]) (f:=(8,h.at')) hS (fun _=>rfl)⟩
 have c:¬ 512 < IntKind.i64.wrap (m + 1):=of_decide_eq_false c;rw [sO] at c;rw [ai c] at hS;refine br ?_ ?_<;>intro c
 ·have c:h.ag < 1∨9 < h.ag:=by simpa [au] using c
  rw [aj c] at hS;refine cP eI (bP 14 h.at') ?_;exact ⟨_,[[.v (.int .i64 (m + 1))]],ax,(rA sO),bL (tk:=[]) (f:=(14,h.at')) hS (fun _=>rfl)⟩
 have ck:¬ (h.ag < 1∨9 < h.ag):=by simp [au] at c;omega
 rw [ai ck] at hS;refine cP acr dm ?_;refine br ?_ ?_<;>intro c
 ·have c:xJ (.mk h ps)=false:=by simpa [xJ] using c
  rw [aj c] at hS;refine cP eI (bP 19 h.at') ?_;exact ⟨_,[[.v (.int .i64 (m + 1))]],ax,(rA sO),bL (tk:=[]) (f:=(19,h.at')) hS (fun _=>rfl)⟩
 have c:¬ xJ (.mk h ps)=false:=by simpa [xJ] using c
 rw [ai c] at hS;refine br ?_ ?_<;>intro k2
 ·have k2:h.ag=2:=of_decide_eq_true k2;refine br ?_ ?_<;>intro x
  ·have x:h.hi < h.lo:=of_decide_eq_true x;rw [aj (.inl ⟨k2,x⟩)] at hS;refine cP eI (bP 20 h.at') ?_;exact ⟨_,[[.v (.int .i64 (m + 1))]],ax,(rA sO),bL (tk:=[]) (f:=(20,h.at')) hS (fun _=>rfl)⟩
  have x:¬ h.hi < h.lo:=of_decide_eq_false x;rw [ai (by omega),ai (by omega),ai (by omega),ai (by omega),ai (by omega)] at hS;exact ⟨_,[[.v (.int .i64 (m + 1))]],ax,(rA sO),bL (tk:=[]) (f:=(0,0)) hS (fun _=>rfl)⟩
 have k2:¬ h.ag=2:=of_decide_eq_false k2;refine br ?_ ?_<;>intro k3
 ·have k3:h.ag=3:=of_decide_eq_true k3;refine br ?_ ?_<;>intro x
  ·have x:h.most < 0∨4096 < h.most:=by simpa [au] using x
   rw [aj (.inr ⟨k3,x⟩)] at hS;refine cP eI (bP 20 h.at') ?_;exact ⟨_,[[.v (.int .i64 (m + 1))]],ax,(rA sO),bL (tk:=[]) (f:=(20,h.at')) hS (fun _=>rfl)⟩
  have x:¬ (h.most < 0∨4096 < h.most):=by simp [au] at x;omega
  rw [ai (by omega),ai (by omega),ai (by omega),ai (by omega),ai (by omega)] at hS;exact ⟨_,[[.v (.int .i64 (m + 1))]],ax,(rA sO),bL (tk:=[]) (f:=(0,0)) hS (fun _=>rfl)⟩
 have k3:¬ h.ag=3:=of_decide_eq_false k3;rw [ai (by omega)] at hS;refine br ?_ ?_<;>intro k4
 ·have k4:h.ag=4:=of_decide_eq_true k4;rw [ai (by omega),aj k4,<- Q0] at hS;refine cP acs (ID h ps (by omega)) ?_;exact ⟨_,[[.v (.int .i64 (m + 1))]],ax,(rA sO),bL (tk:=[]) (f:=ou h) hS (fun _=>rfl)⟩
 have k4:¬ h.ag=4:=of_decide_eq_false k4;refine br ?_ ?_<;>intro k5
 ·have k5':h.ag=5∨h.ag=6:=.inl (of_decide_eq_true k5);rw [ai (by omega),ai (by omega),aj k5'] at hS;refine br (fun _=>?_) (fun hc=>by rw [k5] at hc;cases hc);refine mS WI rfl rfl (cs':=[.v (.int .i64 (m + 1))]) (rA sO) ax (A8 k ih h ps depth (m + 1) hk cQ AL (by omega) (by omega) (by omega)) nj (fun r sL hr=>?_);obtain ⟨rfl,z,hz,wV⟩:=hr;simp only [List.cons.injEq,and_true] at hz;subst hz;exact ⟨_,_,ax,ax,bL (tk:=[]) (f:=(wrongOne h ps depth (m + 1)).1) hS wV⟩
 have k5:¬ h.ag=5:=of_decide_eq_false k5;refine br ?_ ?_<;>intro k6
 ·have k5':h.ag=5∨h.ag=6:=.inr (of_decide_eq_true k6);rw [ai (by omega),ai (by omega),aj k5'] at hS;refine mS WI rfl rfl (cs':=[.v (.int .i64 (m + 1))]) (rA sO) ax (A8 k ih h ps depth (m + 1) hk cQ AL (by omega) (by omega) (by omega)) nj (fun r sL hr=>?_);obtain ⟨rfl,z,hz,wV⟩:=hr;simp only [List.cons.injEq,and_true] at hz;subst hz;exact ⟨_,_,ax,ax,bL (tk:=[]) (f:=(wrongOne h ps depth (m + 1)).1) hS wV⟩
 have k6:¬ h.ag=6:=of_decide_eq_false k6;have hP:fv h ps depth (m + 1)=fv h ps depth (m + 1):=rfl
 conv at hP=>lhs;unfold fv
 refine br ?_ ?_<;>intro k7
 ·have k7':h.ag=7∨h.ag=8:=.inl (of_decide_eq_true k7);rw [ai (by omega),ai (by omega),ai (by omega),aj k7',hP] at hS;refine br (fun _=>?_) (fun hc=>by rw [k7] at hc;cases hc);refine mS WJ rfl rfl (cs':=[.v (.int .i64 (m + 1))]) (rA sO) ax (u2 k ih h ps depth (m + 1) k7' hk cQ AL (by omega) (by omega) (by omega)) nj (fun r sL hr=>?_);obtain ⟨rfl,z,hz,wV⟩:=hr;simp only [List.cons.injEq,and_true] at hz;subst hz;exact ⟨_,_,ax,ax,bL (tk:=[]) (f:=(fv h ps depth (m + 1)).1) hS wV⟩
 have k7:¬ h.ag=7:=of_decide_eq_false k7;refine br ?_ ?_<;>intro k8
 ·have k7':h.ag=7∨h.ag=8:=.inr (of_decide_eq_true k8);rw [ai (by omega),ai (by omega),ai (by omega),aj k7',hP] at hS;refine mS WJ rfl rfl (cs':=[.v (.int .i64 (m + 1))]) (rA sO) ax (u2 k ih h ps depth (m + 1) k7' hk cQ AL (by omega) (by omega) (by omega)) nj (fun r sL hr=>?_);obtain ⟨rfl,z,hz,wV⟩:=hr;simp only [List.cons.injEq,and_true] at hz;subst hz;exact ⟨_,_,ax,ax,bL (tk:=[]) (f:=(fv h ps depth (m + 1)).1) hS wV⟩
 have k8:¬ h.ag=8:=of_decide_eq_false k8;refine br ?_ ?_<;>intro k9
 ·have k9:h.ag=9:=of_decide_eq_true k9;refine cP xx (jk h.name.s (by simp only [Wd.wt] at A9;omega)) ?_;refine br ?_ ?_<;>intro q
  ·have q:aZ h.name.s=false:=sU q;rw [aj ⟨k9,q⟩] at hS;refine cP eI (bP 9 h.name.a) ?_;exact ⟨_,[[.v (.int .i64 (m + 1))]],ax,(rA sO),bL (tk:=[]) (f:=(9,h.name.a)) hS (fun _=>rfl)⟩
  ·have q:aZ h.name.s=true:=sU q;rw [ai (by simp [q]),ai (by omega),ai (by omega),ai (by omega)] at hS;exact ⟨_,[[.v (.int .i64 (m + 1))]],ax,(rA sO),bL (tk:=[]) (f:=(0,0)) hS (fun _=>rfl)⟩
 have k9:¬ h.ag=9:=of_decide_eq_false k9;rw [ai (by omega),ai (by omega),ai (by omega),ai (by omega)] at hS;exact ⟨_,[[.v (.int .i64 (m + 1))]],ax,(rA sO),bL (tk:=[]) (f:=(0,0)) hS (fun _=>rfl)⟩
theorem F3:∀ k,Ra k
 | 0=>fun t depth m hk=>by have:=t.cT;omega
 | k + 1=>fun t depth m hk cQ AL sM mH jT=>by
  obtain ⟨h,ps⟩:=t;have fC:=hk;simp only [Ty.wt,Hd.wt] at fC;exact F0 k (F3 k) h ps depth m (by omega) cQ AL sM mH jT
theorem F4 (t:Ty) (cQ:t.wt<=1099511627776):EvP prog 113 [.agg (eE t)] (wrong t 1 0).1.d:=
 MU t (F3 t.wt t 1 0 (aR _) cQ (by omega) (by omega) (by omega) (by omega))
abbrev Rc (t:Ty) (ps:Pts) (e n:Nat):St:=
 ⟨[aF 1 0,ay 3 n,bi 7 18 (gp ps),ay 8 ((gp ps).length),ay 9 e],[eE t],[]⟩
theorem yi:∀ (k:Nat) (t:Ty),t.wt<=k->t.wt<=1099511627776 ->
  EvP prog 114 [.agg (eE t)] (.v (.int .i64 t.cnt))
 | 0,t,hn,_=>by have:=t.cT;omega
 | k + 1,.mk h ps,hn,cQ=>by
  simp only [Ty.wt,Hd.wt] at hn cQ;have fV:=ps.gn;have hc:=ps.fg;refine eG 23 [.tmp 2] func114 rfl ntmps114 rfl fun _ _ _ _=>?_
  refine aT (fun j st=>∃ (e n:Nat),st=Rc (.mk h ps) ps e n/\e<=ps.len/\n + (ps.drop e).cnt=1 + ps.cnt/\j=ps.len - e) ps.len
   (Rc (.mk h ps) ps 0 1) (bG wB) ⟨0,1,rfl,by omega,rfl,by omega⟩ ?_
  rintro j st ⟨e,n,rfl,he,aY,rfl⟩;refine br ?_ ?_<;>intro hL
  ·have aw:e < ps.len:=by simpa [aM] using hL
   obtain ⟨p,t,hx⟩:=Pts.ff aw;have Fl:=Pts.hZ (mG hx);rw [Pts.drop_cons hx] at aY;simp only [Pts.cnt] at aY;have OV:=t.fg;obtain ⟨u,us⟩:=t;refine iX (cj hx) ?_;refine br ?_ ?_<;>intro hB
   ·have hB:p.bare=false:=sU hB;rw [hB] at aY;have aY:n + ((Ty.mk u us).cnt + (ps.drop (e + 1)).cnt)=1 + ps.cnt:=aY;refine cP Wo (yi k (.mk u us) (by omega) (by omega)) ?_;have zT:IntKind.i64.wrap ((n:Int) + (Ty.mk u us).cnt)=((n + (Ty.mk u us).cnt:Nat):Int):=by rw [wrap64 (by omega) (by omega)];omega
    exact ⟨Rc (.mk h ps) ps (e + 1) (n + (Ty.mk u us).cnt),(bG (gC zT (aX aw (by omega)))),ps.len - (e + 1),by omega,e + 1,_,rfl,by omega,by omega,rfl⟩
   ·have hB:p.bare=true:=sU hB;rw [hB] at aY;have aY:n + (0 + (ps.drop (e + 1)).cnt)=1 + ps.cnt:=aY;exact rE ⟨_,by omega,e + 1,n,rfl,by omega,by omega,rfl⟩ (bG (dH (aX aw (by omega))))
  ·have hge:e=ps.len:=by simp [aM] at hL;omega
   rw [hge,Pts.dJ] at aY;simp only [Pts.cnt] at aY;have e2:(n:Int)=((Ty.mk h ps).cnt:Int):=by simp only [Ty.cnt];omega
   refine (Ct ?_:);exact e2
mutual
def Ty.nn:Ty->Nat
 | .mk h ps=>if h.ag=9 then 0 else 1 + ps.nn
def Pts.nn:Pts->Nat
 | .nil=>0
 | .cons p t r=>(if p.bare then 0 else t.nn) + r.nn
end
mutual
theorem Ty.ie:∀ t:Ty,t.nn<=t.cnt
 | .mk h ps=>by
  have:=Pts.ie ps;simp only [Ty.nn,Ty.cnt];split<;>omega
theorem Pts.ie:∀ ps:Pts,ps.nn<=ps.cnt
 | .nil=>aR _
 | .cons p t r=>by
  have:=Ty.ie t;have:=Pts.ie r;simp only [Pts.nn,Pts.cnt];split<;>omega
end
abbrev Y9 (t:Ty) (ps:Pts) (e n:Nat):St:=
 ⟨[aF 1 0,ay 3 n,bi 10 18 (gp ps),ay 11 ((gp ps).length),ay 12 e],[eE t],[]⟩
theorem yj:∀ (k:Nat) (t:Ty),t.wt<=k->t.wt<=1099511627776 ->
  EvP prog 118 [.agg (eE t)] (.v (.int .i64 t.nn))
 | 0,t,hn,_=>by have:=t.cT;omega
 | k + 1,.mk h ps,hn,cQ=>by
  simp only [Ty.wt,Hd.wt] at hn cQ;have fV:=ps.gn;have hc:=ps.fg;have nV:=ps.ie;refine eG 26 [.tmp 2] func118 rfl ntmps118 rfl fun _ _ _ _=>?_;refine br ?_ ?_<;>intro h9
  ·have h9:h.ag=9:=sU h9;have:(Ty.mk h ps).nn=0:=by simp [Ty.nn,h9]
   rw [this];exact (rfl:_=_)
  have h9:¬ h.ag=9:=sU h9
  refine aT (fun j st=>∃ (e n:Nat),st=Y9 (.mk h ps) ps e n/\e<=ps.len/\n + (ps.drop e).nn=1 + ps.nn/\j=ps.len - e) ps.len
   (Y9 (.mk h ps) ps 0 1) (bG wB) ⟨0,1,rfl,by omega,rfl,by omega⟩ ?_
  rintro j st ⟨e,n,rfl,he,aY,rfl⟩;refine br ?_ ?_<;>intro hL
  ·have aw:e < ps.len:=by simpa [aM] using hL
   obtain ⟨p,t,hx⟩:=Pts.ff aw;have Fl:=Pts.hZ (mG hx);rw [Pts.drop_cons hx] at aY;simp only [Pts.nn] at aY;have OV:=t.fg;have hct2:=t.ie;obtain ⟨u,us⟩:=t;refine iX (cj hx) ?_;refine br ?_ ?_<;>intro hB
   ·have hB:p.bare=false:=sU hB;rw [hB] at aY;have aY:n + ((Ty.mk u us).nn + (ps.drop (e + 1)).nn)=1 + ps.nn:=aY;refine cP Wp (yj k (.mk u us) (by omega) (by omega)) ?_;have zT:IntKind.i64.wrap ((n:Int) + (Ty.mk u us).nn)=((n + (Ty.mk u us).nn:Nat):Int):=by rw [wrap64 (by omega) (by omega)];omega
    exact ⟨Y9 (.mk h ps) ps (e + 1) (n + (Ty.mk u us).nn),(bG (gC zT (aX aw (by omega)))),ps.len - (e + 1),by omega,e + 1,_,rfl,by omega,by omega,rfl⟩
   ·have hB:p.bare=true:=sU hB;rw [hB] at aY;have aY:n + (0 + (ps.drop (e + 1)).nn)=1 + ps.nn:=aY;exact rE ⟨_,by omega,e + 1,n,rfl,by omega,by omega,rfl⟩ (bG (dH (aX aw (by omega))))
  ·have hge:e=ps.len:=by simp [aM] at hL;omega
   rw [hge,Pts.dJ] at aY;simp only [Pts.nn] at aY;have e2:(n:Int)=((Ty.mk h ps).nn:Int):=by simp only [Ty.nn,ai h9];omega
   refine (Ct ?_:);exact e2
structure Lx where
 af:List ByteArray
 aJ:List Nat
 rows:List Nat
 js:List Int
 f:Nat->Nat->Bool
def Lx.pd (X:Lx):DV:=.pt (iV X.af (dr X.af X.aJ) X.rows X.js) 0
def Lx.lev (X:Lx) (l:List Wd):Int:=C0 X.f X.af l
def Lx.bad (X:Lx) (l:List Wd):Ft:=labW X.af l
structure Lx.OK (X:Lx):Prop where
 hT:iT X.af X.aJ
 lS:X.aJ.length<=1099511627776
 hL:gH X.f X.af.length
 hn:X.af.length<=32
 hj:∀ x y,x < X.af.length->y < X.af.length->JM X.f X.af.length X.js x y
theorem Lx.rY {X:Lx} (h:X.OK) (l:List Wd) (hs:wdsWt l<=1099511627776):EvP prog 116 [X.pd,.sl 2 (bV l) none] (.tup [.v (.int .i64 (X.lev l)),(X.bad l).d]):=
 Q9 X.af X.aJ X.rows X.js h.hT h.lS h.hL h.hn h.hj l hs
def bC (s:Sch) (lat out:DV) (m:Int):List DV:=.sl 2 (bV s.ae) none :: .sl 4 (nP s.order) none :: .sl 11 (dNms s.types) none :: (eE s.root ++ [lat,out,.v (.int .i64 m)])
theorem ym {X:Lx} (h:X.OK) (s:Sch) (pc:List DV) (m:Int) (l:List Wd) (hs:wdsWt l<=1099511627776) :
  EvP prog 204 [.pt (bC s X.pd (.pt pc 0) m) 0,.sl 2 (bV l) none] (.v (.int .i64 (X.lev l))):=by
 obtain ⟨ae,order,types,⟨rh,rp⟩⟩:=s;refine eG 17 [.tmp 4] func204 rfl ntmps204 rfl fun _ _ _ _=>?_;refine cP E4 (Lx.rY h l hs) ?_;exact (rfl:_=_)
def vJ (s:Sch):List Wd:=s.types.map fun x=>x.1
def tL (s:Sch):List ByteArray:=aC (vJ s)
theorem Lz (s:Sch):(vJ s).length=s.types.length:=by simp [vJ]
theorem kK (s:Sch):(tL s).length=s.types.length:=by simp [tL,aC,vJ]
def pC (s:Sch) (aJ:List Nat) (a b c e:DV):List DV:=[a,b,c,.pt (dr (tL s) aJ) 0,e]
def vK (s:Sch) (t:Ty):Bool:=decide (t.h.ag=9->dx (tL s) t.h.name.s≠none)
def endI (s:Sch):Nat->Nat->Option Nat
 | 0,_=>none
 | k + 1,i=>
  match s.types[i]? with
  | none=>none
  | some x=>if x.2.h.ag=9 then endI s k ((dx (tL s) x.2.h.name.s).getD 0) else some i
theorem rZ {s:Sch}:∀ {k i j:Nat},endI s k i=some j->j < s.types.length/\∀ x,s.types[j]? = some x->x.2.h.ag≠9
 | 0,i,j,h=>by cases h
 | k + 1,i,j,h=>by
  rw [endI] at h
  cases hx:s.types[i]? with
  | none=>rw [hx] at h;cases h
  | some x=>
   rw [hx] at h;simp only at h;split at h
   ·exact rZ h
   all_goals grind
abbrev W9 (B:DV) (n i e:Nat):St:=
 ⟨[(0,⟨[],B⟩),ay 1 i,ay 12 n,ay 13 e],[],[]⟩
theorem F5 (s:Sch) (lat:DV) (aJ:List Nat) (a b c e0:DV) (m:Int) (hT:iT (tL s) aJ) (lS:aJ.length<=1099511627776) (hl:s.types.length<=64) (hr:∀ x∈s.types,vK s x.2=true) (i:Nat) (hi:i < s.types.length) :
  EvP prog 117 [.pt (bC s lat (.pt (pC s aJ a b c e0) 0) m) 0,.v (.int .i64 i)] (.v (.int .i64 (oz (endI s (s.types.length + 1) i)))):=by
 have gD:=kK s;obtain ⟨ae,order,types,⟨rh,rp⟩⟩:=s;simp only at hl hr hi gD;have hN:=ej types;have hcnt:IntKind.i64.wrap ((((dNms types).length:Nat):Int) + 1)=((types.length + 1:Nat):Int):=by rw [hN,wrap64 (by omega) (by omega)];all_goals rfl
 refine eG 43 [.tmp 4] func117 rfl ntmps117 rfl fun _ _ _ _=>?_
 refine aT (fun j st=>∃ e q:Nat,st=W9 (.pt (bC ⟨ae,order,types,.mk rh rp⟩ lat (.pt (pC ⟨ae,order,types,.mk rh rp⟩ aJ a b c e0) 0) m) 0) (types.length + 1) q e/\e<=types.length + 1/\q < types.length/\endI ⟨ae,order,types,.mk rh rp⟩ (types.length + 1) i=endI ⟨ae,order,types,.mk rh rp⟩ (types.length + 1 - e) q/\j=types.length + 1 - e) (types.length + 1)
  (W9 (.pt (bC ⟨ae,order,types,.mk rh rp⟩ lat (.pt (pC ⟨ae,order,types,.mk rh rp⟩ aJ a b c e0) 0) m) 0) (types.length + 1) i 0) (bG (dH hcnt)) ⟨0,i,rfl,by omega,hi,rfl,by omega⟩ ?_
 rintro j st ⟨e,q,rfl,he,hq,aP,rfl⟩;refine br ?_ ?_<;>intro hL
 ·have aw:e < types.length + 1:=by have:=hL;simp at this;omega
  obtain ⟨x,hx⟩:∃ x,types[q]? = some x:=⟨_,gE hq⟩;have nI:=hr x (mG hx);obtain ⟨xw,⟨xh,xp⟩⟩:=x
  have bd:endI ⟨ae,order,types,.mk rh rp⟩ (types.length + 1 - e) q=if xh.ag=9 then endI ⟨ae,order,types,.mk rh rp⟩ (types.length + 1 - (e + 1)) ((dx (tL ⟨ae,order,types,.mk rh rp⟩) xh.name.s).getD 0) else some q:=by
   rw [show types.length + 1 - e=(types.length + 1 - (e + 1)) + 1 by omega,endI];simp only [hx];rfl
  rw [bd] at aP;refine iX (dNms_get hx) ?_;refine br ?_ ?_<;>intro h9
  ·have h9:¬ xh.ag=9:=sU h9;rw [ai h9] at aP;rw [aP];exact (rfl:_=_)
  have h9:xh.ag=9:=sU h9;rw [aj h9] at aP
  have aY:dx (tL ⟨ae,order,types,.mk rh rp⟩) xh.name.s≠none:=by
   have:=of_decide_eq_true nI;exact this h9
  obtain ⟨k,hk⟩:=Option.ne_none_iff_exists'.1 aY;have lf:=(dE hk).1;rw [hk] at aP;have hf:=jt (tL ⟨ae,order,types,.mk rh rp⟩) aJ xh.name.s hT lS;rw [hk] at hf;refine dI ?_;refine cD oh hf ?_;exact rE ⟨_,by omega,e + 1,k,rfl,by omega,by omega,aP,rfl⟩ (bG (dH (aX aw (by omega))))
 ·have hge:e=types.length + 1:=by have:=hL;simp at this;omega
  subst hge;rw [Nat.sub_self] at aP;rw [aP];exact (rfl:_=_)
def loopF (s:Sch):Ft:=
 match cm (fun i=>(endI s (s.types.length + 1) i).isNone) s.types.length with
 | none=>(0,0)
 | some i=>(11,Y5 (vJ s) i)
abbrev C1 (B:DV) (s:Sch) (e:Nat):St:=
 ⟨[(0,⟨[],B⟩),aF 2 0,bi 9 11 (dNms s.types),ay 10 ((dNms s.types).length),ay 11 e],[[.v (.int .i64 0),.v (.int .i64 0)]],[]⟩
theorem I7 (s:Sch) (lat:DV) (aJ:List Nat) (a b c e0:DV) (m:Int) (hT:iT (tL s) aJ) (lS:aJ.length<=1099511627776) (hl:s.types.length<=64) (hr:∀ x∈s.types,vK s x.2=true) :
  EvP prog 50 [.pt (bC s lat (.pt (pC s aJ a b c e0) 0) m) 0] (loopF s).d:=by
 have pW:=F5 s lat aJ a b c e0 m hT lS hl hr;have hN:=ej s.types;have hF:=loopF.eq_1 s;obtain ⟨ae,order,types,⟨rh,rp⟩⟩:=s;simp only at hl hr pW hN;refine eG 26 [.cell 2 44] func50 rfl ntmps50 rfl fun _ _ _ _=>?_
 refine aT (fun j st=>∃ e:Nat,st=C1 (.pt (bC ⟨ae,order,types,.mk rh rp⟩ lat (.pt (pC ⟨ae,order,types,.mk rh rp⟩ aJ a b c e0) 0) m) 0) ⟨ae,order,types,.mk rh rp⟩ e/\e<=types.length/\(∀ i,i < e->(endI ⟨ae,order,types,.mk rh rp⟩ (types.length + 1) i).isNone=false)/\j=types.length - e) types.length
  (C1 (.pt (bC ⟨ae,order,types,.mk rh rp⟩ lat (.pt (pC ⟨ae,order,types,.mk rh rp⟩ aJ a b c e0) 0) m) 0) ⟨ae,order,types,.mk rh rp⟩ 0) (bG wB) ⟨0,rfl,by omega,fun _ h=>by omega,by omega⟩ ?_
 rintro j st ⟨e,rfl,he,iA,rfl⟩;refine br ?_ ?_<;>intro hL
 ·have aw:e < types.length:=by have:=hL;simp [hN] at this;exact this
  obtain ⟨x,hx⟩:=gX aw;have Za:(vJ ⟨ae,order,types,.mk rh rp⟩)[e]? = some x.1:=by simp [vJ,hx]
  have h1:=pW e aw;obtain ⟨xw,⟨xh,xp⟩⟩:=x;refine iX (dNms_get hx) ?_;refine cP en117 h1 ?_
  cases hE:endI ⟨ae,order,types,.mk rh rp⟩ (types.length + 1) e with
  | none=>
   have Ef:=dc (p:=fun i=>(endI ⟨ae,order,types,.mk rh rp⟩ (types.length + 1) i).isNone) aw (by simp only [hE];rfl) iA;simp only [Ef] at hF;rw [lr Za] at hF;refine ⟨_,?_,rfl⟩;rw [hF];exact ax
  | some k=>
   refine ⟨C1 (.pt (bC ⟨ae,order,types,.mk rh rp⟩ lat (.pt (pC ⟨ae,order,types,.mk rh rp⟩ aJ a b c e0) 0) m) 0) ⟨ae,order,types,.mk rh rp⟩ (e + 1),(bG (dH (aX aw (by omega)))),types.length - (e + 1),by omega,e + 1,rfl,by omega,fun i hi=>?_,rfl⟩;rcases mD hi with hi | rfl
   ·exact iA i hi
   ·rw [hE];all_goals rfl
 ·have hge:e=types.length:=sW hN hL;subst hge;simp only [dO iA] at hF;refine ⟨_,?_,rfl⟩;rw [hF];exact ax
mutual
def knT (X:Lx) (L:List ByteArray):Ty->Ft
 | .mk h ps=>if h.ag=9/\dx L h.name.s=none then (15,h.name.a) else knP X L ps
def knP (X:Lx) (L:List ByteArray):Pts->Ft
 | .nil=>(0,0)
 | .cons p t r=>if (X.bad p.label).1≠0 then X.bad p.label else if (X.bad p.cl).1≠0 then X.bad p.cl else if p.bare then knP X L r else if (knT X L t).1≠0 then knT X L t else knP X L r
end
abbrev ady (B:DV) (t:Ty) (ps:Pts) (e:Nat):St:=
 ⟨[(0,⟨[],B⟩),aF 3 0,aF 4 1,bi 38 18 (gp ps),ay 39 ((gp ps).length),ay 40 e],[eE t,[.v (.int .i64 0),.v (.int .i64 0)]],[]⟩
abbrev Ba (B:DV) (t:Ty) (ps:Pts) (p:Ph) (u:Ty) (e q:Nat):St:=
 ⟨[(0,⟨[],B⟩),aF 3 0,aF 4 1,bi 38 18 (gp ps),ay 39 ((gp ps).length),ay 40 e,aF 8 2,bi 49 1 [[.sl 2 (bV p.label) none],[.sl 2 (bV p.cl) none]],ay 50 (2:Nat),ay 51 q],[eE t,[.v (.int .i64 0),.v (.int .i64 0)],Ir p (eE u)],[]⟩
theorem yo {X:Lx} (hX:X.OK) (s:Sch) (aJ:List Nat) (a b c e0:DV) (m:Int) (hT:iT (tL s) aJ) (lS:aJ.length<=1099511627776):∀ (k:Nat) (t:Ty),t.wt<=k->t.wt<=1099511627776 ->
  EvP prog 49 [.pt (bC s X.pd (.pt (pC s aJ a b c e0) 0) m) 0,.agg (eE t)] (knT X (tL s) t).d
 | 0,t,hn,_=>by have:=t.cT;omega
 | k + 1,.mk h ps,hn,cQ=>by
  have ih:=yo hX s aJ a b c e0 m hT lS k;simp only [Ty.wt,Hd.wt] at hn cQ;have fV:=ps.gn;obtain ⟨ae,order,types,⟨rh,rp⟩⟩:=s;have hf:=jt (tL ⟨ae,order,types,.mk rh rp⟩) aJ h.name.s hT lS;have hS:knT X (tL ⟨ae,order,types,.mk rh rp⟩) (.mk h ps)=if h.ag=9/\dx (tL ⟨ae,order,types,.mk rh rp⟩) h.name.s=none then (15,h.name.a) else knP X (tL ⟨ae,order,types,.mk rh rp⟩) ps:=by rw [knT]
  refine eG 81 [.cell 4 44] func49 rfl ntmps49 rfl fun _ _ _ _=>?_;generalize knT X (tL ⟨ae,order,types,.mk rh rp⟩) (.mk h ps)=F at hS ⊢;have hS0:knP X (tL ⟨ae,order,types,.mk rh rp⟩) ps=knP X (tL ⟨ae,order,types,.mk rh rp⟩) (ps.drop 0):=by rw [Pts.drop]
  refine br ?_ ?_<;>intro h9
  ·have h9:h.ag=9:=sU h9;refine dI ?_
   cases hx:dx (tL ⟨ae,order,types,.mk rh rp⟩) h.name.s with
   | none=>
    rw [aj ⟨h9,hx⟩] at hS;rw [hx] at hf;refine cD oh hf ?_;refine ⟨_,?_,rfl⟩;rw [hS];exact ax
   | some i=>
    rw [ai (by rw [hx];simp),hS0] at hS;rw [hx] at hf;refine cD oh hf ?_;refine lI (fun j st=>∃ e:Nat,st=ady (.pt (bC ⟨ae,order,types,.mk rh rp⟩ X.pd (.pt (pC ⟨ae,order,types,.mk rh rp⟩ aJ a b c e0) 0) m) 0) (.mk h ps) ps e/\e<=ps.len/\F=knP X (tL ⟨ae,order,types,.mk rh rp⟩) (ps.drop e)/\j=ps.len - e) ⟨0,rfl,by omega,hS,rfl⟩ (bG wB) ?_;rintro j st ⟨e,rfl,he,aP,rfl⟩;refine br ?_ ?_<;>intro hL
    ·have aw:e < ps.len:=by simpa [aM] using hL
     obtain ⟨p,t,hx⟩:=Pts.ff aw;have Fl:=Pts.hZ (mG hx);rw [Pts.drop_cons hx] at aP;simp only [knP] at aP;have hw1:wdsWt p.label + wdsWt p.cl<=p.wt:=by simp only [Ph.wt];omega
     obtain ⟨u,us⟩:=t;refine iX (cj hx) ?_;refine lI (fun j st=>∃ q:Nat,st=Ba (.pt (bC ⟨ae,order,types,.mk rh rp⟩ X.pd (.pt (pC ⟨ae,order,types,.mk rh rp⟩ aJ a b c e0) 0) m) 0) (.mk h ps) ps p (.mk u us) e q/\q<=2/\(1<=q->(X.bad p.label).1=0)/\(2<=q->(X.bad p.cl).1=0)/\j=2 - q) ⟨0,rfl,by omega,fun h=>by omega,fun h=>by omega,rfl⟩ (bG wB) ?_;rintro j st ⟨q,rfl,hq,hq1,j5,rfl⟩;refine br ?_ ?_<;>intro qb
     ·have Mw:q=0∨q=1:=by have:=qb;simp at this;omega
      rcases Mw with rfl | rfl
      ·refine ⟨_,⟨by omega,rfl⟩,?_⟩;refine cP E4 (Lx.rY hX p.label (by omega)) ?_;refine br ?_ ?_<;>intro hb
       ·have hb:(X.bad p.label).1≠0:=sU hb;rw [aj hb] at aP;refine ⟨_,?_,rfl⟩;rw [aP];exact ax
       ·have hb:(X.bad p.label).1=0:=sU hb;exact ⟨Ba (.pt (bC ⟨ae,order,types,.mk rh rp⟩ X.pd (.pt (pC ⟨ae,order,types,.mk rh rp⟩ aJ a b c e0) 0) m) 0) (.mk h ps) ps p (.mk u us) e 1,(bG (dH (aX (e:=0) (n:=2) (by omega) (by omega)))),1,by omega,1,rfl,by omega,fun _=>hb,fun h=>by omega,rfl⟩
      ·have iC:=hq1 (by omega);refine ⟨_,⟨by omega,rfl⟩,?_⟩;refine cP E4 (Lx.rY hX p.cl (by omega)) ?_;refine br ?_ ?_<;>intro hb
       ·have hb:(X.bad p.cl).1≠0:=sU hb;rw [ai (by rw [iC];simp),aj hb] at aP;refine ⟨_,?_,rfl⟩;rw [aP];exact ax
       ·have hb:(X.bad p.cl).1=0:=sU hb;exact ⟨Ba (.pt (bC ⟨ae,order,types,.mk rh rp⟩ X.pd (.pt (pC ⟨ae,order,types,.mk rh rp⟩ aJ a b c e0) 0) m) 0) (.mk h ps) ps p (.mk u us) e 2,(bG (dH (aX (e:=1) (n:=2) (by omega) (by omega)))),0,by omega,2,rfl,by omega,fun _=>iC,fun _=>hb,rfl⟩
     ·have Mw:q=2:=by have:=qb;simp at this;omega
      subst Mw;have iC:=hq1 (by omega);have fx:=j5 (by omega);rw [ai (by rw [iC];simp),ai (by rw [fx];simp)] at aP;refine br ?_ ?_<;>intro hB
      ·have hB:p.bare=true:=hB;rw [aj hB] at aP;exact rE ⟨_,by omega,e + 1,rfl,by omega,aP,rfl⟩ (bG (dH (aX aw (by omega))))
      ·have hB:p.bare=false:=hB;rw [ai (by rw [hB];decide)] at aP;refine cP Yz (ih (.mk u us) (by omega) (by omega)) ?_;refine br ?_ ?_<;>intro hb
       ·have hb:(knT X (tL ⟨ae,order,types,.mk rh rp⟩) (.mk u us)).1≠0:=sU hb;rw [aj hb] at aP;refine ⟨_,?_,rfl⟩;rw [aP];exact ax
       ·have hb:(knT X (tL ⟨ae,order,types,.mk rh rp⟩) (.mk u us)).1=0:=sU hb;rw [ai (by rw [hb];simp)] at aP;exact rE ⟨_,by omega,e + 1,rfl,by omega,aP,rfl⟩ (bG (dH (aX aw (by omega))))
    ·have hge:e=ps.len:=by simp [aM] at hL;omega
     rw [hge,Pts.dJ] at aP;simp only [knP] at aP;refine ⟨_,?_,rfl⟩;rw [aP];exact ax
  ·have h9:¬ h.ag=9:=sU h9;rw [ai (fun hc=>h9 hc.1),hS0] at hS;refine lI (fun j st=>∃ e:Nat,st=ady (.pt (bC ⟨ae,order,types,.mk rh rp⟩ X.pd (.pt (pC ⟨ae,order,types,.mk rh rp⟩ aJ a b c e0) 0) m) 0) (.mk h ps) ps e/\e<=ps.len/\F=knP X (tL ⟨ae,order,types,.mk rh rp⟩) (ps.drop e)/\j=ps.len - e) ⟨0,rfl,by omega,hS,rfl⟩ (bG wB) ?_;rintro j st ⟨e,rfl,he,aP,rfl⟩;refine br ?_ ?_<;>intro hL
   ·have aw:e < ps.len:=by simpa [aM] using hL
    obtain ⟨p,t,hx⟩:=Pts.ff aw;have Fl:=Pts.hZ (mG hx);rw [Pts.drop_cons hx] at aP;simp only [knP] at aP;have hw1:wdsWt p.label + wdsWt p.cl<=p.wt:=by simp only [Ph.wt];omega
    obtain ⟨u,us⟩:=t;refine iX (cj hx) ?_;refine lI (fun j st=>∃ q:Nat,st=Ba (.pt (bC ⟨ae,order,types,.mk rh rp⟩ X.pd (.pt (pC ⟨ae,order,types,.mk rh rp⟩ aJ a b c e0) 0) m) 0) (.mk h ps) ps p (.mk u us) e q/\q<=2/\(1<=q->(X.bad p.label).1=0)/\(2<=q->(X.bad p.cl).1=0)/\j=2 - q) ⟨0,rfl,by omega,fun h=>by omega,fun h=>by omega,rfl⟩ (bG wB) ?_;rintro j st ⟨q,rfl,hq,hq1,j5,rfl⟩;refine br ?_ ?_<;>intro qb
    ·have Mw:q=0∨q=1:=by have:=qb;simp at this;omega
     rcases Mw with rfl | rfl
     ·refine ⟨_,⟨by omega,rfl⟩,?_⟩;refine cP E4 (Lx.rY hX p.label (by omega)) ?_;refine br ?_ ?_<;>intro hb
      ·have hb:(X.bad p.label).1≠0:=sU hb;rw [aj hb] at aP;refine ⟨_,?_,rfl⟩;rw [aP];exact ax
      ·have hb:(X.bad p.label).1=0:=sU hb;exact ⟨Ba (.pt (bC ⟨ae,order,types,.mk rh rp⟩ X.pd (.pt (pC ⟨ae,order,types,.mk rh rp⟩ aJ a b c e0) 0) m) 0) (.mk h ps) ps p (.mk u us) e 1,(bG (dH (aX (e:=0) (n:=2) (by omega) (by omega)))),1,by omega,1,rfl,by omega,fun _=>hb,fun h=>by omega,rfl⟩
     ·have iC:=hq1 (by omega);refine ⟨_,⟨by omega,rfl⟩,?_⟩;refine cP E4 (Lx.rY hX p.cl (by omega)) ?_;refine br ?_ ?_<;>intro hb
      ·have hb:(X.bad p.cl).1≠0:=sU hb;rw [ai (by rw [iC];simp),aj hb] at aP;refine ⟨_,?_,rfl⟩;rw [aP];exact ax
      ·have hb:(X.bad p.cl).1=0:=sU hb;exact ⟨Ba (.pt (bC ⟨ae,order,types,.mk rh rp⟩ X.pd (.pt (pC ⟨ae,order,types,.mk rh rp⟩ aJ a b c e0) 0) m) 0) (.mk h ps) ps p (.mk u us) e 2,(bG (dH (aX (e:=1) (n:=2) (by omega) (by omega)))),0,by omega,2,rfl,by omega,fun _=>iC,fun _=>hb,rfl⟩
    ·have Mw:q=2:=by have:=qb;simp at this;omega
     subst Mw;have iC:=hq1 (by omega);have fx:=j5 (by omega);rw [ai (by rw [iC];simp),ai (by rw [fx];simp)] at aP;refine br ?_ ?_<;>intro hB
     ·have hB:p.bare=true:=hB;rw [aj hB] at aP;exact rE ⟨_,by omega,e + 1,rfl,by omega,aP,rfl⟩ (bG (dH (aX aw (by omega))))
     ·have hB:p.bare=false:=hB;rw [ai (by rw [hB];decide)] at aP;refine cP Yz (ih (.mk u us) (by omega) (by omega)) ?_;refine br ?_ ?_<;>intro hb
      ·have hb:(knT X (tL ⟨ae,order,types,.mk rh rp⟩) (.mk u us)).1≠0:=sU hb;rw [aj hb] at aP;refine ⟨_,?_,rfl⟩;rw [aP];exact ax
      ·have hb:(knT X (tL ⟨ae,order,types,.mk rh rp⟩) (.mk u us)).1=0:=sU hb;rw [ai (by rw [hb];simp)] at aP;exact rE ⟨_,by omega,e + 1,rfl,by omega,aP,rfl⟩ (bG (dH (aX aw (by omega))))
   ·have hge:e=ps.len:=by simp [aM] at hL;omega
    rw [hge,Pts.dJ] at aP;simp only [knP] at aP;refine ⟨_,?_,rfl⟩;rw [aP];exact ax
def eaL (F:Ty->Ft) (z:Ft):List (Wd × Ty)->Ft
 | []=>z
 | x :: r=>if (F x.2).1≠0 then F x.2 else eaL F z r
theorem Re {F:Ty->Ft} {z:Ft} {l:List (Wd × Ty)} {e:Nat} {x:Wd × Ty} (h:l[e]? = some x):eaL F z (l.drop e)=if (F x.2).1≠0 then F x.2 else eaL F z (l.drop (e + 1)):=by
 rw [drop_cons h,eaL]
abbrev Rf (B:DV) (fn:DV) (types:List (Wd × Ty)) (e:Nat):St:=
 ⟨[(0,⟨[],B⟩),(1,⟨[],fn⟩),aF 4 0,bi 12 11 (dNms types),ay 13 ((dNms types).length),ay 14 e],[[.v (.int .i64 0),.v (.int .i64 0)]],[]⟩
theorem Nl (s:Sch) (lat:DV) (pc:List DV) (m:Int) (hl:s.types.length<=1099511627776) (g:Nat) (hg:Enters prog g) (F:Ty->Ft)
  (hF:∀ t,(t=s.root∨∃ x∈s.types,t=x.2)->EvP prog g [.pt (bC s lat (.pt pc 0) m) 0,.agg (eE t)] (F t).d) :
  EvP prog 47 [.pt (bC s lat (.pt pc 0) m) 0,.fn g [.pt (bC s lat (.pt pc 0) m) 0] []] (eaL F (F s.root) s.types).d:=by
 have hN:=ej s.types;obtain ⟨ae,order,types,⟨rh,rp⟩⟩:=s;simp only at hl hF hN;have dy:=hF (.mk rh rp) (.inl rfl);have Zb:∀ x∈types,_:=fun x hx=>hF x.2 (.inr ⟨x,hx,rfl⟩);clear hF;refine eG 34 [.cell 4 44] func47 rfl ntmps47 rfl fun _ _ _ _=>?_;generalize hG:eaL F (F (.mk rh rp)) types=G;have hG0:G=eaL F (F (.mk rh rp)) (types.drop 0):=by rw [List.drop_zero,hG]
 refine aT (fun j st=>∃ e:Nat,st=Rf (.pt (bC ⟨ae,order,types,.mk rh rp⟩ lat (.pt pc 0) m) 0) (.fn g [.pt (bC ⟨ae,order,types,.mk rh rp⟩ lat (.pt pc 0) m) 0] []) types e/\e<=types.length/\G=eaL F (F (.mk rh rp)) (types.drop e)/\j=types.length - e) types.length
  (Rf (.pt (bC ⟨ae,order,types,.mk rh rp⟩ lat (.pt pc 0) m) 0) (.fn g [.pt (bC ⟨ae,order,types,.mk rh rp⟩ lat (.pt pc 0) m) 0] []) types 0) (bG wB) ⟨0,rfl,by omega,hG0,by omega⟩ ?_
 rintro j st ⟨e,rfl,he,aP,rfl⟩;refine br ?_ ?_<;>intro hL
 ·have aw:e < types.length:=by have:=hL;simp [hN] at this;exact this
  obtain ⟨x,hx⟩:=gX aw;have hp:=Zb x (mG hx);rw [Re hx] at aP;obtain ⟨xw,⟨xh,xp⟩⟩:=x;refine iX (dNms_get hx) ?_;refine cP hg hp ?_;refine br ?_ ?_<;>intro hf
  ·have hf:(F (.mk xh xp)).1≠0:=sU hf;rw [aj hf] at aP;refine ⟨_,?_,rfl⟩;rw [aP];exact ax
  ·have hf:(F (.mk xh xp)).1=0:=sU hf;rw [ai (by rw [hf];simp)] at aP;exact rE ⟨_,by omega,e + 1,rfl,by omega,aP,rfl⟩ (bG (dH (aX aw (by omega))))
 ·have hge:e=types.length:=sW hN hL;subst hge;rw [List.drop_length,eaL] at aP;refine cP hg dy ?_;refine ⟨_,?_,rfl⟩;rw [aP];exact ax
def cF (t:Ty) (m:Int):Ft × Int:=if (wrong t 1 0).1.1≠0 then ((wrong t 1 0).1,m) else if 512 < m + t.cnt then ((8,t.h.at'),m + t.cnt) else ((0,0),m + t.cnt)
def Rg (s:Sch) (lat:DV) (pc:List DV) (x:Ft × Int) (r:DV) (os:List (List DV)) (_:List TkE):Prop:=r=x.1.d/\os=[bC s lat (.loc 1 0) x.2,pc]
theorem F6 (s:Sch) (lc pc:List DV) (m:Int) (mH:0<=m) (jT:m<=1099511627776) (t:Ty) (cQ:t.wt<=1099511627776) (hpc:∀ bx N n0 m0,CcL bx N n0 m0 pc pc) :
  Ev prog 48 [.loc 0 0,.agg (eE t)] [bC s (.pt lc 0) (.loc 1 0) m,pc] [] (Rg s (.pt lc 0) pc (cF t m)):=by
 have hk:=F4 t cQ;have hc:=yi t.wt t (aR _) cQ;have Cv:=t.fg;have hF:=cF.eq_1 t m;obtain ⟨ae,order,types,⟨rh,rp⟩⟩:=s;obtain ⟨h,ps⟩:=t;generalize cF (.mk h ps) m=R at hF ⊢;refine eG 30 [.cell 4 44] func48 rfl ntmps48 rfl fun _ _ _ _=>?_;refine cP abW hk ?_;refine br ?_ ?_<;>intro hf
 ·have hf:(wrong (.mk h ps) 1 0).1.1≠0:=sU hf;rw [aj hf] at hF;subst hF;exact ⟨Ft.d _,[bC ⟨ae,order,types,.mk rh rp⟩ (.pt lc 0) (.loc 1 0) m,pc],ax,(by repeat' (first | exact rfl | exact trivial | exact Or.inr (Or.inl ⟨_,rfl⟩) | exact Or.inr ⟨_,rfl⟩ | exact Or.inl ⟨rfl,rfl⟩ | exact Or.inl rfl | refine Or.inr ⟨_,_,rfl,Nat.zero_le _,rfl,?_⟩ | refine ⟨_,_,rfl,?_,?_⟩ | refine ⟨_,rfl,?_⟩ | exact hpc _ _ _ _ | exact ⟨nL rfl,rfl⟩ | exact congrArg (fun z=>DV.v (.int .i64 z)) hw | refine Or.inr (Or.inr (Or.inr ⟨_,_,rfl,?_⟩)) | exact Or.inl rfl | refine Or.inr ?_)),rfl,rfl⟩
 have hf:(wrong (.mk h ps) 1 0).1.1=0:=sU hf;rw [ai (by rw [hf];simp)] at hF;have hw:IntKind.i64.wrap (m + ((Ty.mk h ps).cnt:Int))=m + ((Ty.mk h ps).cnt:Int):=wrap64 (by omega) (by omega);refine dS ?_;refine cD Wo hc ?_;refine br ?_ ?_<;>intro hg
 ·have hg:512 < m + ((Ty.mk h ps).cnt:Int):=sV hw hg;rw [aj hg] at hF;subst hF;exact ⟨Ft.d _,[bC ⟨ae,order,types,.mk rh rp⟩ (.pt lc 0) (.loc 1 0) (m + (Ty.mk h ps).cnt),pc],ax,(wC2 hpc hw),rfl,rfl⟩
 ·have hg:¬ 512 < m + ((Ty.mk h ps).cnt:Int):=sV hw hg;rw [ai hg] at hF;subst hF;exact ⟨Ft.d _,[bC ⟨ae,order,types,.mk rh rp⟩ (.pt lc 0) (.loc 1 0) (m + (Ty.mk h ps).cnt),pc],ax,(wC2 hpc hw),rfl,rfl⟩
def eaR (z:Ty):List (Wd × Ty)->Int->Ft × Int
 | [],m=>cF z m
 | x :: r,m=>if (cF x.2 m).1.1≠0 then cF x.2 m else eaR z r (cF x.2 m).2
theorem Rh {z:Ty} {l:List (Wd × Ty)} {e:Nat} {m:Int} {x:Wd × Ty} (h:l[e]? = some x):eaR z (l.drop e) m=if (cF x.2 m).1.1≠0 then cF x.2 m else eaR z (l.drop (e + 1)) (cF x.2 m).2:=by
 rw [drop_cons h,eaR]
theorem pG {t:Ty} {m:Int} (h:(cF t m).1.1=0):(cF t m).2=m + t.cnt/\(cF t m).2<=512/\(wrong t 1 0).1.1=0/\(cF t m).1=(0,0):=by grind [cF]
abbrev I8 (s:Sch) (aJ:List Nat) (lc:List DV):List DV:=pC s aJ (.pt lc 0) (.v (.slice none 0 0)) (.v (.int .i64 0)) (.v (.slice none 0 0))
abbrev C2 (s:Sch) (lc pc:List DV) (m:Int) (types:List (Wd × Ty)) (e:Nat):St:=
 ⟨[aF 0 0,(1,⟨[],.fn 48 [.loc 0 0] []⟩),aF 4 2,bi 12 11 (dNms types),ay 13 ((dNms types).length),ay 14 e],
  [bC s (.pt lc 0) (.loc 1 0) m,pc,[.v (.int .i64 0),.v (.int .i64 0)]],[]⟩
theorem I9 (s:Sch) (lc:List DV) (aJ:List Nat) (m:Int) (mH:0<=m) (jT:m<=512) (hl:s.types.length<=1099511627776) (cQ:∀ t,(t=s.root∨∃ x∈s.types,t=x.2)->t.wt<=1099511627776) :
  Ev prog 47 [.loc 0 0,.fn 48 [.loc 0 0] []] [bC s (.pt lc 0) (.loc 1 0) m,I8 s aJ lc] [] (Rg s (.pt lc 0) (I8 s aJ lc) (eaR s.root s.types m)):=by
 have hN:=ej s.types;have hR:∀ (m':Int),0<=m' -> m' <= 512->∀ t,(t=s.root∨∃ x∈s.types,t=x.2)->_:=fun m' h0 h1 t ht=>F6 s lc (I8 s aJ lc) m' h0 (by omega) t (cQ t ht) (fun bx N n0 m0=>ax);obtain ⟨ae,order,types,⟨rh,rp⟩⟩:=s;simp only at hl hR hN cQ;refine eG 34 [.cell 4 44] func47 rfl ntmps47 rfl fun _ _ _ _=>?_;generalize hG:eaR (.mk rh rp) types m=G;have hG0:G=eaR (.mk rh rp) (types.drop 0) m:=by rw [List.drop_zero,hG]
 refine aT (fun j st=>∃ (e:Nat) (m':Int),st=C2 ⟨ae,order,types,.mk rh rp⟩ lc (I8 ⟨ae,order,types,.mk rh rp⟩ aJ lc) m' types e/\e<=types.length/\0<=m' /\ m' <= 512/\G=eaR (.mk rh rp) (types.drop e) m' /\ j=types.length - e) types.length
  (C2 ⟨ae,order,types,.mk rh rp⟩ lc (I8 ⟨ae,order,types,.mk rh rp⟩ aJ lc) m types 0) (dz 3 (by repeat' (first | exact rfl | exact aA rfl | exact rfl | refine ⟨_,_,rfl,?_,?_⟩)) (by repeat' (first | exact trivial | exact aA rfl | exact rfl | refine ⟨⟨_,rfl,?_⟩,?_⟩))) ⟨0,m,rfl,by omega,mH,jT,hG0,by omega⟩ ?_
 rintro j st ⟨e,m',rfl,he,vG,Fq,aP,rfl⟩;refine br ?_ ?_<;>intro hL
 ·have aw:e < types.length:=by have:=hL;simp [hN] at this;exact this
  obtain ⟨x,hx⟩:=gX aw;have hp:=hR m' vG Fq x.2 (.inr ⟨x,mG hx,rfl⟩);rw [Rh hx] at aP;obtain ⟨xw,⟨xh,xp⟩⟩:=x;refine iX (dNms_get hx) ?_;refine gf 2 0 abJ rfl rfl rfl iP iP hp (fun r ir cC hΦ h1 h2=>?_);obtain ⟨rfl,rfl⟩:=hΦ;have h2:=List.eq_nil_of_length_eq_zero h2;subst h2;refine br ?_ ?_<;>intro hf
  ·have hf:(cF (.mk xh xp) m').1.1≠0:=sU hf;rw [aj hf] at aP;subst aP;exact ⟨Ft.d _,[bC ⟨ae,order,types,.mk rh rp⟩ (.pt lc 0) (.loc 1 0) (cF (.mk xh xp) m').2,I8 ⟨ae,order,types,.mk rh rp⟩ aJ lc],ax,iP,rfl,rfl⟩
  ·have hf:(cF (.mk xh xp) m').1.1=0:=sU hf;rw [ai (by rw [hf];simp)] at aP;obtain ⟨g1,g2,_,_⟩:=pG hf;exact ⟨C2 ⟨ae,order,types,.mk rh rp⟩ lc (I8 ⟨ae,order,types,.mk rh rp⟩ aJ lc) (cF (.mk xh xp) m').2 types (e + 1),(dz 3 (pX (aX aw (by omega))) (dH (aX aw (by omega)))),types.length - (e + 1),by omega,e + 1,_,rfl,by omega,by omega,g2,aP,rfl⟩
 ·have hge:e=types.length:=sW hN hL;subst hge;rw [List.drop_length,eaR] at aP;refine gf 2 0 abJ rfl rfl rfl iP iP (hR m' vG Fq (.mk rh rp) (.inl rfl)) (fun r ir cC hΦ h1 h2=>?_);obtain ⟨rfl,rfl⟩:=hΦ;have h2:=List.eq_nil_of_length_eq_zero h2;subst h2;subst aP;exact ⟨Ft.d _,[bC ⟨ae,order,types,.mk rh rp⟩ (.pt lc 0) (.loc 1 0) (cF (.mk rh rp) m').2,I8 ⟨ae,order,types,.mk rh rp⟩ aJ lc],ax,iP,rfl,rfl⟩
def fj (s:Sch):Ft:=if 64 < s.types.length then (8,Y5 (vJ s) 64) else enumL (vJ s) 0 (vJ s)
def UN (s:Sch) (lc:List DV) (r:DV) (os:List (List DV)) (_:List TkE):Prop:=
 r=(fj s).d/\((fj s).1=0->∃ aJ,iT (tL s) aJ/\aJ.length<=s.types.length/\os=[bC s (.pt lc 0) (.loc 1 0) 0,I8 s aJ lc])
abbrev Ri (s:Sch) (lc:List DV) (n e:Nat):St:=
 ⟨[aF 0 0,aF 2 2,(3,⟨[],.sl 1 (fq (aC ((vJ s).take e))) (some 0)⟩),bi 27 11 (dNms s.types),ay 28 ((dNms s.types).length),ay 29 e],
  [bC s (.pt lc 0) (.loc 1 0) 0,[.pt lc 0,.v (.slice none 0 0),.v (.int .i64 0),.v (.pointer none),.v (.slice none 0 0)],[.v (.int .i64 0),.v (.int .i64 0)]],[⟨n,9,1,none⟩]⟩
theorem C3 (s:Sch) (lc:List DV) (hs:nmsWt s.types<=1099511627776) :
  Ev prog 46 [.loc 0 0] [bC s (.pt lc 0) (.loc 1 0) 0,[.pt lc 0,.v (.slice none 0 0),.v (.int .i64 0),.v (.pointer none),.v (.slice none 0 0)]] [] (UN s lc):=by
 have hN:=ej s.types;have gR:=ke s.types;have gD:=Lz s;have hF:=fj.eq_1 s;have j6:∀ {e:Nat} {x:Wd × Ty},s.types[e]? = some x->(vJ s)[e]? = some x.1:=fun h=>by simp [vJ,h]
 have eY:=xH (tL s) (by rw [kK];omega);have hTL:tL s=aC (vJ s):=rfl
 have hw:∀ x∈s.types,x.1.s.size<=1099511627776:=fun x hx=>by
  have:=iq hx;simp only [Wd.wt] at this;omega
 obtain ⟨ae,order,types,⟨rh,rp⟩⟩:=s;simp only at hs hN gR gD j6 hw hF;generalize hQ:vJ ⟨ae,order,types,.mk rh rp⟩=Q at gD hF j6 hTL;refine eG 67 [.cell 2 44] func46 rfl ntmps46 rfl fun _ _ _ _=>?_;refine br ?_ ?_<;>intro h
 ·have h:64 < types.length:=by simp [hN] at h;omega
  obtain ⟨x,hx⟩:∃ x,types[64]? = some x:=⟨_,gE h⟩;have Za:=j6 hx;rw [aj h,lr Za] at hF;obtain ⟨xw,⟨xh,xp⟩⟩:=x;refine iX (dNms_get hx) ?_;refine ⟨Ft.d (8,xw.a),[bC ⟨ae,order,types,.mk rh rp⟩ (.pt lc 0) (.loc 1 0) 0,[.pt lc 0,.v (.slice none 0 0),.v (.int .i64 0),.v (.pointer none),.v (.slice none 0 0)]],ax,iP,by rw [hF],fun h0=>by rw [hF] at h0;simp at h0⟩
 have h:¬ 64 < types.length:=by simp [hN] at h;omega
 rw [ai h] at hF;refine lI (fun j st=>∃ e:Nat,st=Ri ⟨ae,order,types,.mk rh rp⟩ lc e e/\e<=types.length/\(aC (Q.take e)).Nodup/\enumL Q 0 Q=enumL Q e (Q.drop e)/\j=types.length - e) ⟨0,rfl,by omega,by simp [aC],rfl,rfl⟩ (dq 3 ⟨0,9,1,none⟩ rfl rfl rfl pV rfl rfl j8) ?_;rintro j st ⟨e,rfl,he,hnd,aP,rfl⟩;rw [aP] at hF;refine br ?_ ?_<;>intro hL
 ·have aw:e < types.length:=by have:=hL;simp [hN] at this;exact this
  obtain ⟨x,hx⟩:=gX aw;have OW:=hw x (mG hx);have hq:=j6 hx;have eK:=kb hq;have bd:=qE hq;have vE:=ng hq hnd;have Q1:=qz (aC (Q.take (e + 1))) (by simp [aC];omega);rw [<- eK] at Q1;obtain ⟨xw,⟨xh,xp⟩⟩:=x;simp only at OW hq eK bd vE Q1;refine iX (dNms_get hx) ?_;rw [hQ];refine ⟨by simp [cH,aC];omega,⟨by simp [cH,aC,maxLen];omega,by simp [cH,aC];omega⟩,?_⟩;refine cP xx (jk xw.s (by omega)) ?_;refine br ?_ ?_<;>intro LA
  ·have LA:aZ xw.s=false:=sU LA;have hf:aK Q e xw=9:=by simp [aK,LA]
   rw [bd,hf,aj (by decide)] at hF;refine ⟨Ft.d (9,xw.a),[bC ⟨ae,order,types,.mk rh rp⟩ (.pt lc 0) (.loc 1 0) 0,[.pt lc 0,.v (.slice none 0 0),.v (.int .i64 0),.v (.pointer none),.v (.slice none 0 0)]],ax,iP,by rw [hF],fun h0=>by rw [hF] at h0;simp at h0⟩
  ·have LA:aZ xw.s=true:=sU LA;refine cE PI rfl Q1 ax (fun r hr=>?_);obtain ⟨z,rfl,hz⟩:=hr;refine br ?_ ?_<;>intro h2
   ·have h2:0<=z:=sU h2;have hd:cY (Q.take e) xw.s=true:=by grind
    have hf:aK Q e xw=10:=by simp [aK,LA,hd]
    rw [bd,hf,aj (by decide)] at hF;refine ⟨Ft.d (10,xw.a),[bC ⟨ae,order,types,.mk rh rp⟩ (.pt lc 0) (.loc 1 0) 0,[.pt lc 0,.v (.slice none 0 0),.v (.int .i64 0),.v (.pointer none),.v (.slice none 0 0)]],ax,iP,by rw [hF],fun h0=>by rw [hF] at h0;simp at h0⟩
   ·have h2:¬ 0<=z:=sU h2;have z8:(aC (Q.take (e + 1))).Nodup:=Classical.byContradiction fun hn=>h2 (hz.2 hn);have hf:aK Q e xw=0:=by simp [aK,LA,vE.1 z8]
    rw [hf,ai (by simp)] at bd;have l5:fq (aC (Q.take e)) ++ [[DV.v (.string xw.s)]]=fq (aC ((vJ ⟨ae,order,types,.mk rh rp⟩).take (e + 1))):=by rw [hQ];exact eK
    refine ⟨Ri ⟨ae,order,types,.mk rh rp⟩ lc (e + 1) (e + 1),(dz 3 (oc (aX aw (by omega)) l5) (gC (aX aw (by omega)) l5)),types.length - (e + 1),by omega,e + 1,rfl,by omega,z8,aP.trans bd,rfl⟩
 ·have hge:e=types.length:=sW hN hL;have h0:enumL Q e (Q.drop e)=(0,0):=by rw [hge,<- gD,List.drop_length];all_goals rfl
  rw [h0] at hF;have ht:Q.take e=Q:=by rw [hge,<- gD,List.take_length]
  have hEq:aC ((vJ ⟨ae,order,types,.mk rh rp⟩).take e)=tL ⟨ae,order,types,.mk rh rp⟩:=by rw [hQ,ht,hTL]
  rw [<- hEq] at eY;refine dS ?_;refine lh PH rfl eY ax (fun tu hr=>?_);obtain ⟨aJ,hT,lS,rfl⟩:=hr;rw [hEq] at hT lS;have hpt:DV.pt (dr (aC ((vJ ⟨ae,order,types,.mk rh rp⟩).take e)) aJ) 0=DV.pt (dr (tL ⟨ae,order,types,.mk rh rp⟩) aJ) 0:=congrArg (fun L=>DV.pt (dr L aJ) 0) hEq;rw [kK] at lS;exact ⟨Ft.d (0,0),[bC ⟨ae,order,types,.mk rh rp⟩ (.pt lc 0) (.loc 1 0) 0,I8 ⟨ae,order,types,.mk rh rp⟩ aJ lc],ax,(by repeat' (first | exact rfl | exact trivial | exact Or.inr (Or.inl ⟨_,rfl⟩) | exact Or.inr ⟨_,rfl⟩ | exact Or.inl ⟨rfl,rfl⟩ | exact Or.inl rfl | refine Or.inr ⟨_,_,rfl,Nat.zero_le _,rfl,?_⟩ | refine ⟨_,_,rfl,?_,?_⟩ | refine ⟨_,rfl,?_⟩ | exact ⟨nL rfl,rfl⟩ | exact Or.inl hpt | refine Or.inr (Or.inr (Or.inr ⟨_,_,rfl,?_⟩)) | exact Or.inl rfl | refine Or.inr ?_)),by rw [hF],fun _=>⟨aJ,hT,lS,rfl⟩⟩
def firstA (s:Sch) (k:Nat):Nat:=((s.types.take k).map fun x=>x.2.nn).sum
theorem oG {s:Sch} {k:Nat} {x:Wd × Ty} (h:s.types[k]? = some x):firstA s (k + 1)=firstA s k + x.2.nn:=by
 unfold firstA;rw [List.take_add_one,h];simp
theorem Bb (s:Sch):∀ k,firstA s k<=nmsWt s.types:=by
 intro k;unfold firstA;generalize s.types=l
 induction l generalizing k with
 | nil=>simp
 | cons x r ih=>
  cases k with
  | zero=>simp
  | succ k=>
   have h1:=ih k;have h2:=x.2.ie;have h3:=x.2.fg
   grind [nmsWt]
def namedN (s:Sch) (i:Nat):Nat:=firstA s ((endI s (s.types.length + 1) i).getD 0)
def namedL (s:Sch):List Nat:=(List.range s.types.length).map (namedN s)
theorem adC (n:Nat):(List.replicate n (vL [Value.int .i64 0])).flatten=cZ (List.replicate n 0):=by
 induction n with
 | zero=>rfl
 | succ n ih=>simp only [List.replicate_succ,List.flatten_cons,ih];rfl
theorem wg {n m:Nat} {tk:List TkE} {l:List DV} {js:List Int} (h:l=cZ js):WeL n m tk l (cZ js):=by rw [h];exact ti js
abbrev Zc (s:Sch) (lc pc:List DV) (m:Int) (l:List Int) (at' e:Nat):St:=
 ⟨[aF 0 0,(2,⟨[],.ms 2 1 0 (dNms s.types).length (dNms s.types).length⟩),ay 3 at',bi 18 11 (dNms s.types),ay 19 ((dNms s.types).length),ay 20 e],
  [bC s (.pt lc 0) (.loc 1 0) m,pc,cZ l],[]⟩
abbrev adD (s:Sch) (aJ:List Nat) (lc:List DV) (m:Int) (l:List Int) (n e:Nat):St:=
 ⟨[aF 0 0,(2,⟨[],.ms 2 1 0 (dNms s.types).length (dNms s.types).length⟩),ay 40 ((dNms s.types).length),ay 41 e],
  [bC s (.pt lc 0) (.loc 1 0) m,pC s aJ (.pt lc 0) (.v (.slice none 0 0)) (.v (.int .i64 0)) (.sl 1 (dInts ((namedL s).take e)) (some 0)),cZ l],[⟨n,3,1,none⟩]⟩
def UO (s:Sch) (aJ:List Nat) (lc:List DV) (m:Int) (_:DV) (os:List (List DV)) (_:List TkE):Prop:=
 os=[bC s (.pt lc 0) (.loc 1 0) m,pC s aJ (.pt lc 0) (.v (.slice none 0 0)) (.v (.int .i64 0)) (.sl 1 (dInts (namedL s)) none)]
theorem Zd {l:List Int} {i:Nat} {z:Int} (h:l[i]? = some z):(cZ l)[i]? = some (DV.v (.int .i64 z)):=by simp [cZ,h]
theorem F7 (s:Sch) (lc:List DV) (aJ:List Nat) (m:Int) (hT:iT (tL s) aJ) (lS:aJ.length<=1099511627776) (hl:s.types.length<=64) (hr:∀ x∈s.types,vK s x.2=true) (hs:nmsWt s.types<=1099511627776)
  (hlo:∀ i,i < s.types.length->∃ k,endI s (s.types.length + 1) i=some k) :
  Ev prog 51 [.loc 0 0] [bC s (.pt lc 0) (.loc 1 0) m,I8 s aJ lc] [] (UO s aJ lc m):=by
 have hN:=ej s.types
 have YJ:∀ x∈s.types,x.2.wt<=1099511627776:=fun x hx=>by
  have:=iq hx;omega
 have hfw:=Bb s;have T8:=fun {k:Nat} {x:Wd × Ty}=>@oG s k x;have gR:(namedL s).length=s.types.length:=by simp [namedL]
 have pW:=fun (e0:DV)=>F5 s (.pt lc 0) aJ (.pt lc 0) (.v (.slice none 0 0)) (.v (.int .i64 0)) e0 m hT lS hl hr;obtain ⟨ae,order,types,⟨rh,rp⟩⟩:=s;simp only at hl hr hN hs YJ hfw T8 gR pW hlo;have hN2:(dNms (⟨ae,order,types,.mk rh rp⟩:Sch).types).length=types.length:=hN;refine eG 66 [] func51 rfl ntmps51 rfl fun _ _ _ _=>?_;refine ⟨⟨rfl,by omega,by omega,by omega⟩,?_⟩
 refine aT (fun j st=>∃ (e:Nat) (l:List Int),st=Zc ⟨ae,order,types,.mk rh rp⟩ lc (I8 ⟨ae,order,types,.mk rh rp⟩ aJ lc) m l (firstA ⟨ae,order,types,.mk rh rp⟩ e) e/\e<=types.length/\l.length=types.length/\(∀ i:Nat,i < e->l[i]? = some (firstA ⟨ae,order,types,.mk rh rp⟩ i:Int))/\j=types.length - e) types.length
  (Zc ⟨ae,order,types,.mk rh rp⟩ lc (I8 ⟨ae,order,types,.mk rh rp⟩ aJ lc) m (List.replicate ((dNms types).length:Int).toNat 0) (firstA ⟨ae,order,types,.mk rh rp⟩ 0) 0) (dz 3 (by repeat' (first | exact rfl | exact aA rfl | exact wg (adC _) | refine ⟨_,_,rfl,?_,?_⟩)) (by repeat' (first | exact trivial | exact aA rfl | exact wg (adC _) | refine ⟨⟨_,rfl,?_⟩,?_⟩))) ⟨0,_,rfl,by omega,by simp [hN],fun _ h=>by omega,by omega⟩ ?_
 rintro j st ⟨e,l,rfl,he,zV,hlv,rfl⟩;refine br ?_ ?_<;>intro hL
 ·have aw:e < types.length:=by have:=hL;simp [hN] at this;exact this
  obtain ⟨x,hx⟩:=gX aw;have Rj:=YJ x (mG hx);have Pk:=T8 hx;have uW:=hfw (e + 1);obtain ⟨xw,⟨xh,xp⟩⟩:=x;have hnd:=yj (Ty.mk xh xp).wt (.mk xh xp) (aR _) Rj;refine iX (dNms_get hx) ?_;refine ⟨⟨by omega,by omega⟩,?_⟩;refine ⟨by rw [Y0];omega,?_⟩;refine cP Wp hnd ?_;simp only at Pk uW;have fx:(cZ l).set (0 + (e:Int).toNat * 1) (DV.v (.int .i64 ((firstA ⟨ae,order,types,.mk rh rp⟩ e:Nat):Int)))=cZ (l.set e ((firstA ⟨ae,order,types,.mk rh rp⟩ e:Nat):Int)):=by grind [Q5]
  have zT:IntKind.i64.wrap (((firstA ⟨ae,order,types,.mk rh rp⟩ e:Nat):Int) + (Ty.mk xh xp).nn)=((firstA ⟨ae,order,types,.mk rh rp⟩ (e + 1):Nat):Int):=by grind [wrap64]
  refine ⟨Zc ⟨ae,order,types,.mk rh rp⟩ lc (I8 ⟨ae,order,types,.mk rh rp⟩ aJ lc) m (l.set e ((firstA ⟨ae,order,types,.mk rh rp⟩ e:Nat):Int)) (firstA ⟨ae,order,types,.mk rh rp⟩ (e + 1)) (e + 1),(dz 3 (by repeat' (first | exact rfl | exact aA rfl | exact wg fx | exact aD zT | exact aD (aX aw (by omega)) | refine ⟨_,_,rfl,?_,?_⟩)) (by repeat' (first | exact trivial | exact aA rfl | exact wg fx | exact aD zT | exact aD (aX aw (by omega)) | refine ⟨⟨_,rfl,?_⟩,?_⟩))),types.length - (e + 1),by omega,e + 1,_,rfl,by omega,by rw [List.length_set];exact zV,fun i hi=>?_,rfl⟩;by_cases Iu:i=e
  ·grind
  ·grind
 ·have hge:e=types.length:=sW hN hL;subst hge;refine lJ (fun e=>adD ⟨ae,order,types,.mk rh rp⟩ aJ lc m l e e) types.length (dq 3 ⟨0,3,1,none⟩ rfl rfl rfl pV rfl rfl j8) ?_;intro e he;refine br ?_ ?_<;>intro hL
  ·have aw:e < types.length:=by have:=hL;simp [hN] at this;exact this
   obtain ⟨k,hk⟩:=hlo e aw;have lf:=(rZ hk).1;simp only at lf;have hE:=pW (.sl 1 (dInts ((namedL ⟨ae,order,types,.mk rh rp⟩).take e)) none) e aw;rw [hk] at hE;have hnn:namedN ⟨ae,order,types,.mk rh rp⟩ e=firstA ⟨ae,order,types,.mk rh rp⟩ k:=by unfold namedN;rw [hk];all_goals rfl
   have j6:(namedL ⟨ae,order,types,.mk rh rp⟩)[e]? = some (firstA ⟨ae,order,types,.mk rh rp⟩ k):=by grind [namedL]
   have eK:dInts ((namedL ⟨ae,order,types,.mk rh rp⟩).take e) ++ [[DV.v (.int .i64 ((firstA ⟨ae,order,types,.mk rh rp⟩ k:Nat):Int))]]=dInts ((namedL ⟨ae,order,types,.mk rh rp⟩).take (e + 1)):=by
    rw [List.take_add_one,j6];simp [dInts]
   refine dS ?_;refine rU en117 hE ax rfl rfl ?_;refine ⟨⟨by simp only [oz];omega,by simp only [oz];omega⟩,?_⟩;have HU:(cZ l)[0 + (oz (some k)).toNat * 1]? = some (DV.v (.int .i64 ((firstA ⟨ae,order,types,.mk rh rp⟩ k:Nat):Int))):=by grind [oz,Zd]
   refine ⟨_,HU,?_⟩;refine ⟨by simp [bN];omega,⟨by simp [bN,maxLen];omega,by simp [bN];omega⟩,?_⟩;exact rE ⟨_,by omega,e + 1,rfl,by omega,rfl⟩ (dz 3 (oc (aX aw (by omega)) eK) (gC (aX aw (by omega)) eK))
  ·have hge:e=types.length:=sW hN hL;subst hge;have ht:(namedL ⟨ae,order,types,.mk rh rp⟩).take types.length=namedL ⟨ae,order,types,.mk rh rp⟩:=by rw [<- gR,List.take_length]
   rw [ht];exact ⟨.tup [],[bC ⟨ae,order,types,.mk rh rp⟩ (.pt lc 0) (.loc 1 0) m,pC ⟨ae,order,types,.mk rh rp⟩ aJ (.pt lc 0) (.v (.slice none 0 0)) (.v (.int .i64 0)) (.sl 1 (dInts (namedL ⟨ae,order,types,.mk rh rp⟩)) none)],ax,iP,rfl⟩
structure Ed where
 name:ByteArray
 bare:Bool
 at':Int
 to:Int
 label:Int
 wide:Int
 ck:Int
 cn:Int
 seen:Int
 ca:Int
structure Nd where
 ag:Int
 at':Int
 lo:Int
 hi:Int
 most:Int
 af:List ByteArray
 az:List Ed
def zW (e:Ed):List DV:=[.v (.string e.name),.v (.bool e.bare),.v (.int .i64 e.at'),.v (.int .i64 e.to),.v (.int .i64 e.label),.v (.int .i64 e.wide),.v (.int .i64 e.ck),.v (.int .i64 e.cn),.v (.int .i64 e.seen),.v (.int .i64 e.ca)]
def iM (l:List Ed):List (List DV):=l.map zW
def kg (n:Nd):List DV:=[.v (.int .i64 n.ag),.v (.int .i64 n.at'),.v (.int .i64 n.lo),.v (.int .i64 n.hi),.v (.int .i64 n.most),.sl 1 (fq n.af) none,.sl 10 (iM n.az) none]
def dK (l:List Nd):List (List DV):=l.map kg
def l6 (w:Int):Int:=if w=0 then 3 else w
def yp (lev:List Wd->Int) (p:Ph) (to:Int):Ed:=⟨p.name.s,p.bare,p.name.a,to,lev p.label,l6 p.wide,p.ck,p.cn,lev p.cl,p.ca⟩
def Ze (s:Sch) (name:ByteArray):Int:=(namedN s ((dx (tL s) name).getD 0):Int)
def oH (s:Sch) (t:Ty) (k:Nat):Int:=if t.h.ag=9 then Ze s t.h.name.s else (k:Int)
def wh (s:Sch) (p:Ph) (u:Ty) (k:Nat):Int:=if p.bare then -1 else oH s u k
mutual
def ndsT (lev:List Wd->Int) (s:Sch):Ty->Nat->List Nd
 | .mk h ps,k=>if h.ag=9 then [] else ⟨h.ag,h.at',h.lo,h.hi,h.most,aC h.af,edsP lev s ps (k + 1)⟩ :: yq lev s ps (k + 1)
def edsP (lev:List Wd->Int) (s:Sch):Pts->Nat->List Ed
 | .nil,_=>[]
 | .cons p u r,k=>yp lev p (wh s p u k) :: edsP lev s r (k + if p.bare then 0 else u.nn)
def yq (lev:List Wd->Int) (s:Sch):Pts->Nat->List Nd
 | .nil,_=>[]
 | .cons p u r,k=>(if p.bare then [] else ndsT lev s u k) ++ yq lev s r (k + if p.bare then 0 else u.nn)
end
mutual
theorem kL (lev:List Wd->Int) (s:Sch):∀ (t:Ty) (k:Nat),(ndsT lev s t k).length=t.nn
 | .mk h ps,k=>by
  simp only [ndsT,Ty.nn];split
  ·rfl
  ·rw [List.length_cons,yr lev s ps];omega
theorem yr (lev:List Wd->Int) (s:Sch):∀ (ps:Pts) (k:Nat),(yq lev s ps k).length=ps.nn
 | .nil,k=>rfl
 | .cons p u r,k=>by
  simp only [yq,Pts.nn,List.length_append,yr lev s r];split
  ·rfl
  ·rw [kL lev s u]
end
abbrev OZ (s:Sch) (aJ:List Nat) (lc:List DV) (n:Nat):List DV:=pC s aJ (.pt lc 0) (.sl 0 (List.replicate n []) (some 0)) (.v (.int .i64 0)) (.sl 1 (dInts (namedL s)) none)
abbrev Ja (n:Nat) (base:List DV):TkE:=⟨n,91,7,some base⟩
def Xa (s:Sch) (aJ:List Nat) (lc:List DV) (m:Int) (n:Nat) (base:List DV) (y:DV) (C4:List Nd) (r:DV) (os:List (List DV)) (tk:List TkE):Prop:=
 r=y/\os=[bC s (.pt lc 0) (.loc 1 0) m,OZ s aJ lc (n + C4.length)]/\tk=[Ja (n + C4.length) (base ++ (dK C4).flatten)]
def Rk (lev:List Wd->Int) (s:Sch) (aJ:List Nat) (lc:List DV) (m:Int) (t:Ty):Prop:=
 ∀ (n:Nat) (base:List DV),n + t.nn<=1099511627776->base.length=n * 7 ->
  Ev prog 52 [.loc 0 0,.agg (eE t)] [bC s (.pt lc 0) (.loc 1 0) m,OZ s aJ lc n] [Ja n base] (Xa s aJ lc m n base (.v (.int .i64 (oH s t n))) (ndsT lev s t n))
theorem Nn {X:Lx} (hX:X.OK) (s:Sch) (aJ:List Nat) (m:Int) (p:Ph) (u:Ty) (hp:p.wt<=1099511627776) (cJ:p.bare=false->Rk X.lev s aJ (iV X.af (dr X.af X.aJ) X.rows X.js) m u)
  (n:Nat) (base:List DV) (hb:p.bare=false->n + u.nn<=1099511627776) (hbl:base.length=n * 7) :
  Ev prog 119 [.loc 0 0,.agg (Ir p (eE u))] [bC s (.pt (iV X.af (dr X.af X.aJ) X.rows X.js) 0) (.loc 1 0) m,OZ s aJ (iV X.af (dr X.af X.aJ) X.rows X.js) n] [Ja n base]
   (Xa s aJ (iV X.af (dr X.af X.aJ) X.rows X.js) m n base (.agg (zW (yp X.lev p (wh s p u n)))) (if p.bare then [] else ndsT X.lev s u n)):=by
 have hw1:wdsWt p.label + wdsWt p.cl<=p.wt:=by simp only [Ph.wt];omega
 have OJ:X.pd = .pt (iV X.af (dr X.af X.aJ) X.rows X.js) 0:=rfl;have Ar:=fun pc=>ym hX s pc m p.label (by omega);have Xb:=fun pc=>ym hX s pc m p.cl (by omega);rw [OJ] at Ar Xb;have hE:=fun to=>yp.eq_1 X.lev p to;have nJ:=wh.eq_1 s p u n;generalize iV X.af (dr X.af X.aJ) X.rows X.js=lc at Ar Xb cJ ⊢;obtain ⟨ae,order,types,⟨rh,rp⟩⟩:=s;obtain ⟨uh,us⟩:=u;refine eG 52 [.cell 4 193] func119 rfl ntmps119 rfl fun _ _ _ _=>?_;have Xc:=Ar [.pt lc 0,.sl 0 (List.replicate n []) none,.v (.int .i64 0),.pt (dr (tL ⟨ae,order,types,.mk rh rp⟩) aJ) 0,.sl 1 (dInts (namedL ⟨ae,order,types,.mk rh rp⟩)) none];have Xd:=Xb [.pt lc 0,.sl 0 (List.replicate n []) none,.v (.int .i64 0),.pt (dr (tL ⟨ae,order,types,.mk rh rp⟩) aJ) 0,.sl 1 (dInts (namedL ⟨ae,order,types,.mk rh rp⟩)) none];apply pq (fun _=>false) 11 15 [0,1,2,3,4,5,6,7,8,9,10,11,12,13,14,15,16] [0,1,2,3,4,5,6,7,8,9,10,15,11,12,13,14,16] 4 4 mo (by decide +kernel)
 ·refine rU K7 Xc ax rfl rfl ?_;refine (?_:@Eq St _ _);exact rfl
 ·refine rU K7 Xc ax rfl rfl ?_;refine (⟨rfl,rfl,?_⟩:_/\_/\_)
  repeat' (first | exact trivial | refine ⟨rfl,?_⟩)
 ·rfl
 refine br ?_ ?_<;>intro hw
 ·have hw:p.wide=0:=sU hw;refine vZ [4] (fun _=>false) mo (by decide +kernel) ?_;refine rU K7 Xd ax rfl rfl ?_;refine br ?_ ?_<;>intro hB
  ·have hB:p.bare=false:=sU hB;refine gf 2 1 Um rfl rfl rfl iP iP (cJ hB n base (hb hB) hbl) (fun r ir cC hΦ h1 h2=>?_);obtain ⟨rfl,rfl,rfl⟩:=hΦ;refine ⟨.agg (zW ⟨p.name.s,p.bare,p.name.a,oH ⟨ae,order,types,.mk rh rp⟩ (.mk uh us) n,X.lev p.label,3,p.ck,p.cn,X.lev p.cl,p.ca⟩),[bC ⟨ae,order,types,.mk rh rp⟩ (.pt lc 0) (.loc 1 0) m,OZ ⟨ae,order,types,.mk rh rp⟩ aJ lc (n + (ndsT X.lev ⟨ae,order,types,.mk rh rp⟩ (.mk uh us) n).length)],ax,iP,?_,?_,?_⟩
   ·simp [hE,wh,hB,l6,hw]
   ·simp [hB]
   ·simp [hB]
  ·have hB:p.bare=true:=sU hB;refine ⟨.agg (zW ⟨p.name.s,p.bare,p.name.a,-1,X.lev p.label,3,p.ck,p.cn,X.lev p.cl,p.ca⟩),[bC ⟨ae,order,types,.mk rh rp⟩ (.pt lc 0) (.loc 1 0) m,OZ ⟨ae,order,types,.mk rh rp⟩ aJ lc n],ax,iP,?_,?_,?_⟩
   ·simp [hE,wh,hB,l6,hw]
   ·simp [hB]
   ·simp [hB,dK]
 ·have hw:¬ p.wide=0:=sU hw;refine vZ [4] (fun _=>false) mo (by decide +kernel) ?_;refine rU K7 Xd ax rfl rfl ?_;refine br ?_ ?_<;>intro hB
  ·have hB:p.bare=false:=sU hB;refine gf 2 1 Um rfl rfl rfl iP iP (cJ hB n base (hb hB) hbl) (fun r ir cC hΦ h1 h2=>?_);obtain ⟨rfl,rfl,rfl⟩:=hΦ;refine ⟨.agg (zW ⟨p.name.s,p.bare,p.name.a,oH ⟨ae,order,types,.mk rh rp⟩ (.mk uh us) n,X.lev p.label,p.wide,p.ck,p.cn,X.lev p.cl,p.ca⟩),[bC ⟨ae,order,types,.mk rh rp⟩ (.pt lc 0) (.loc 1 0) m,OZ ⟨ae,order,types,.mk rh rp⟩ aJ lc (n + (ndsT X.lev ⟨ae,order,types,.mk rh rp⟩ (.mk uh us) n).length)],ax,iP,?_,?_,?_⟩
   ·simp [hE,wh,hB,l6,hw]
   ·simp [hB]
   ·simp [hB]
  ·have hB:p.bare=true:=sU hB;refine ⟨.agg (zW ⟨p.name.s,p.bare,p.name.a,-1,X.lev p.label,p.wide,p.ck,p.cn,X.lev p.cl,p.ca⟩),[bC ⟨ae,order,types,.mk rh rp⟩ (.pt lc 0) (.loc 1 0) m,OZ ⟨ae,order,types,.mk rh rp⟩ aJ lc n],ax,iP,?_,?_,?_⟩
   ·simp [hE,wh,hB,l6,hw]
   ·simp [hB]
   ·simp [hB,dK]
def nd0 (h:Hd):List DV:=[.v (.int .i64 h.ag),.v (.int .i64 h.at'),.v (.int .i64 h.lo),.v (.int .i64 h.hi),.v (.int .i64 h.most),.sl 1 (fq (aC h.af)) none,.v (.slice none 0 0)]
theorem UP {h:Hd} {base R:List DV} {n:Nat} {x:DV} (hb:base.length=n * 7):(base ++ (nd0 h ++ R)).set (n * 7 + 6) x=base ++ ([.v (.int .i64 h.ag),.v (.int .i64 h.at'),.v (.int .i64 h.lo),.v (.int .i64 h.hi),.v (.int .i64 h.most),.sl 1 (fq (aC h.af)) none,x] ++ R):=by
 rw [List.set_append_right _ _ (by omega),hb,Nat.add_sub_cancel_left];rfl
theorem Bc (l:List Ed) (e:Ed):iM l ++ [zW e]=iM (l ++ [e]):=by simp [iM]
theorem cW (l:List Ed):(iM l).length=l.length:=by simp [iM]
theorem r6 (lev:List Wd->Int) (s:Sch):∀ (ps:Pts) (k:Nat),(edsP lev s ps k).length=ps.len
 | .nil,_=>rfl
 | .cons p u r,k=>by simp [edsP,Pts.len,r6 lev s r]
abbrev adF (s:Sch) (aJ:List Nat) (lc:List DV) (m:Int) (n:Nat) (base:List DV) (h:Hd) (ps:Pts) (q e:Nat):St:=
 ⟨[aF 0 0,aF 3 2,ay 7 n,aF 8 3,bi 61 2 (bV h.af),ay 62 ((bV h.af).length),ay 63 e],
  [bC s (.pt lc 0) (.loc 1 0) m,OZ s aJ lc n,eE (.mk h ps),[.v (.int .i64 h.ag),.v (.int .i64 h.at'),.v (.int .i64 h.lo),.v (.int .i64 h.hi),.v (.int .i64 h.most),.sl 1 (fq (aC (h.af.take e))) (some 1),.v (.slice none 0 0)]],
  [Ja n base,⟨q,9,1,none⟩]⟩
abbrev Rm (s:Sch) (aJ:List Nat) (lc:List DV) (m:Int) (n:Nat) (h:Hd) (ps:Pts) (n':Nat) (r7:List DV) (Es:List Ed) (q1 q2 e:Nat):St:=
 ⟨[aF 0 0,aF 3 2,ay 7 n,(11,⟨[],.sl 10 (iM Es) (some 2)⟩),bi 92 18 (gp ps),ay 93 ((gp ps).length),ay 94 e],
  [bC s (.pt lc 0) (.loc 1 0) m,OZ s aJ lc n',eE (.mk h ps)],
  [Ja n' r7,⟨q1,9,1,none⟩,⟨q2,193,10,none⟩]⟩
theorem np {X:Lx} {L:List ByteArray} {h:Hd} {ps:Pts} (hk:(knT X L (.mk h ps)).1=0):(h.ag=9->dx L h.name.s≠none)/\(knP X L ps).1=0:=by grind [knT]
theorem tT {X:Lx} {L:List ByteArray} {p:Ph} {u:Ty} {r:Pts} (hk:(knP X L (.cons p u r)).1=0):(p.bare=false->(knT X L u).1=0)/\(knP X L r).1=0:=by grind [knP]
theorem Bd {X:Lx} (hX:X.OK) (s:Sch) (aJ:List Nat) (m:Int) (hT:iT (tL s) aJ) (lS:aJ.length<=1099511627776):∀ (k:Nat) (t:Ty),t.wt<=k->t.wt<=1099511627776->(knT X (tL s) t).1=0 ->
  Rk X.lev s aJ (iV X.af (dr X.af X.aJ) X.rows X.js) m t
 | 0,t,hn,_,_=>by have:=t.cT;omega
 | k + 1,.mk h ps,hn,cQ,Pr=>by
  have ih:=Bd hX s aJ m hT lS k;intro n base hnb hbl;obtain ⟨hk9,Zf⟩:=np Pr;have lu:=fun (p:Ph) (u:Ty)=>Nn hX s aJ m p u;generalize iV X.af (dr X.af X.aJ) X.rows X.js=lc at ih lu ⊢;simp only [Ty.wt,Hd.wt] at hn cQ;have fV:=ps.gn;have gR:=bM h.af;have hf:=jt (tL s) aJ h.name.s hT lS;have gD:=kK s;have hnmL:(namedL s).length=s.types.length:=by simp [namedL]
  have UQ:oH s (.mk h ps) n=if h.ag=9 then Ze s h.name.s else (n:Int):=rfl
  have Np:ndsT X.lev s (.mk h ps) n=if h.ag=9 then [] else ⟨h.ag,h.at',h.lo,h.hi,h.most,aC h.af,edsP X.lev s ps (n + 1)⟩ :: yq X.lev s ps (n + 1):=by rw [ndsT]
  have hnn:(Ty.mk h ps).nn=if h.ag=9 then 0 else 1 + ps.nn:=by rw [Ty.nn]
  generalize hS:s=S at *;subst hS;obtain ⟨ae,order,types,⟨rh,rp⟩⟩:=s;refine eG 117 [.tmp 4] func52 rfl ntmps52 rfl fun _ _ _ _=>?_;refine br ?_ ?_<;>intro h9
  ·have h9:h.ag=9:=sU h9;obtain ⟨i,hi⟩:=Option.ne_none_iff_exists'.1 (hk9 h9);have OU:=(dE hi).1;rw [hi] at hf;rw [aj h9] at UQ Np;have j6:(namedL ⟨ae,order,types,.mk rh rp⟩)[i]? = some (namedN ⟨ae,order,types,.mk rh rp⟩ i):=by grind [namedL]
   refine dI ?_;refine cD oh hf ?_;refine iX (eJ j6) ?_;refine ⟨.v (.int .i64 (namedN ⟨ae,order,types,.mk rh rp⟩ i:Nat)),[bC ⟨ae,order,types,.mk rh rp⟩ (.pt lc 0) (.loc 1 0) m,OZ ⟨ae,order,types,.mk rh rp⟩ aJ lc n],ax,iP,?_,?_,?_⟩
   ·rw [UQ,Ze,hi];rfl
   ·rw [Np];rfl
   ·rw [Np];simp [dK]
  have h9:¬ h.ag=9:=sU h9;rw [ai h9] at UQ Np hnn;have fm:(List.replicate n ([]:List DV)).length=n:=List.length_replicate;refine lJ (fun e=>adF ⟨ae,order,types,.mk rh rp⟩ aJ lc m n base h ps e e) h.af.length (dq 4 ⟨0,9,1,none⟩ rfl rfl rfl (pX fm) rfl rfl (dH fm)) ?_;intro e he;refine br ?_ ?_<;>intro hL
  ·have aw:e < h.af.length:=by simpa [aE] using hL
   obtain ⟨w,hw⟩:=gX aw;have eK:=kb hw;refine ⟨kD w,⟨by omega,bg hw⟩,?_⟩;refine ⟨by simp [cH,aC];omega,⟨by simp [cH,aC,maxLen];omega,by simp [cH,aC];omega⟩,?_⟩;exact rE ⟨_,by omega,e + 1,rfl,by omega,rfl⟩ (dz 4 (oc (aX aw (by omega)) eK) (gC (aX aw (by omega)) eK))
  have hge:e=h.af.length:=by have:=hL;simp [aE] at this;omega
  subst hge;rw [List.take_length];refine dS ?_;refine ⟨⟨⟨fm,by simp⟩,by simp [maxLen];omega,by simp;omega⟩,?_⟩
  refine aT (fun j st=>∃ (e n':Nat) (r7:List DV) (Es:List Ed) (K:List Nd),st=Rm ⟨ae,order,types,.mk rh rp⟩ aJ lc m n h ps n' r7 Es h.af.length e e/\e<=ps.len/\n'=n + 1 + K.length/\r7=base ++ (nd0 h ++ (dK K).flatten)/\Es.length=e /\
    K ++ yq X.lev ⟨ae,order,types,.mk rh rp⟩ (ps.drop e) (n + 1 + K.length)=yq X.lev ⟨ae,order,types,.mk rh rp⟩ ps (n + 1)/\Es ++ edsP X.lev ⟨ae,order,types,.mk rh rp⟩ (ps.drop e) (n + 1 + K.length)=edsP X.lev ⟨ae,order,types,.mk rh rp⟩ ps (n + 1)/\K.length + (ps.drop e).nn=ps.nn/\(knP X (tL ⟨ae,order,types,.mk rh rp⟩) (ps.drop e)).1=0/\j=ps.len - e) ps.len
   (Rm ⟨ae,order,types,.mk rh rp⟩ aJ lc m n h ps (n + 1) (base ++ (nd0 h ++ [])) [] h.af.length 0 0) (dq 3 ⟨0,193,10,none⟩ rfl rfl rfl pV rfl rfl j8) ⟨0,n + 1,_,[],[],rfl,by omega,rfl,rfl,rfl,rfl,rfl,by simp [Pts.drop],Zf,by omega⟩ ?_
  rintro j st ⟨e,n',r7,Es,K,rfl,he,V5,eD,hEl,hK,hEs,hKn,Ly,rfl⟩
  have hbl':r7.length=n' * 7:=by
   have:∀ l:List Nd,(dK l).flatten.length=l.length * 7:=by
    intro l
    induction l with
    | nil=>rfl
    | cons a r ih=>simp only [dK,List.map_cons,List.flatten_cons,List.length_append,List.length_cons] at ih ⊢;rw [ih];simp only [kg,List.length_cons,List.length_nil];omega
   rw [eD,List.length_append,List.length_append,this,hbl,V5];simp only [nd0,List.length_cons,List.length_nil];omega
  refine br ?_ ?_<;>intro hL
  ·have aw:e < ps.len:=by simpa [aM] using hL
   obtain ⟨p,u,hx⟩:=Pts.ff aw;have Fl:=Pts.hZ (mG hx);rw [Pts.drop_cons hx] at hK hEs hKn Ly;obtain ⟨og,Px⟩:=tT Ly;simp only [yq] at hK;simp only [edsP] at hEs;simp only [Pts.nn] at hKn;rw [<- V5] at hK hEs;have Wf:=u.ie;have huc:=u.fg;have dY:=lu p u (by omega) (fun hB=>ih u (by omega) (by omega) (og hB)) n' r7 (fun hB=>by rw [hB] at hKn;simp only [Bool.false_eq_true,if_false] at hKn;omega) hbl';have adG:=kL X.lev ⟨ae,order,types,.mk rh rp⟩ u n';obtain ⟨uh,us⟩:=u;refine iX (cj hx) ?_;refine gf 2 1 abX rfl rfl rfl iP iP dY (fun r ir cC hΦ h1 h2=>?_);obtain ⟨rfl,rfl,rfl⟩:=hΦ;refine ⟨by rw [cW,hEl],⟨by simp [cW,hEl,maxLen];omega,by simp [cW,hEl];omega⟩,?_⟩
   have Zg:(if p.bare then [] else ndsT X.lev ⟨ae,order,types,.mk rh rp⟩ (.mk uh us) n').length=if p.bare then 0 else (Ty.mk uh us).nn:=by
    split
    ·rfl
    ·exact adG
   have hidx2:n + 1 + (K.length + (if p.bare then 0 else (Ty.mk uh us).nn))=n' + if p.bare then 0 else (Ty.mk uh us).nn:=by rw [V5];omega
   refine ⟨Rm ⟨ae,order,types,.mk rh rp⟩ aJ lc m n h ps (n' + (if p.bare then [] else ndsT X.lev ⟨ae,order,types,.mk rh rp⟩ (.mk uh us) n').length) (r7 ++ (dK (if p.bare then [] else ndsT X.lev ⟨ae,order,types,.mk rh rp⟩ (.mk uh us) n')).flatten) (Es ++ [yp X.lev p (wh ⟨ae,order,types,.mk rh rp⟩ p (.mk uh us) n')]) h.af.length (e + 1) (e + 1),(dz 3 (by repeat' (first | exact rfl | exact aA rfl | exact aD (aX aw (by omega)) | exact cR (Bc _ _) rfl | refine ⟨_,_,rfl,?_,?_⟩)) (by repeat' (first | exact trivial | exact aA rfl | exact aD (aX aw (by omega)) | exact cR (Bc _ _) rfl | refine ⟨⟨_,rfl,?_⟩,?_⟩))),
    ps.len - (e + 1),by omega,e + 1,_,_,_,K ++ (if p.bare then [] else ndsT X.lev ⟨ae,order,types,.mk rh rp⟩ (.mk uh us) n'),rfl,by omega,?_,?_,?_,?_,?_,?_,Px,rfl⟩
   ·rw [List.length_append,V5];omega
   ·rw [eD];simp [dK]
   ·simp [hEl]
   ·simp_all
   ·simp_all
   ·rw [List.length_append,Zg];omega
  ·have hge:e=ps.len:=by have:=hL;simp [aM] at this;omega
   subst hge;rw [Pts.dJ] at hK hEs;simp only [yq,List.append_nil] at hK;simp only [edsP,List.append_nil] at hEs;have hKl:K.length=ps.nn:=by rw [hK,yr]
   have hrl2:(List.replicate n' ([]:List DV)).length=n':=List.length_replicate;refine Ng (kt:=0) ⟨rfl,rfl⟩ ⟨rfl,rfl,rfl⟩ ⟨rfl,rfl,rfl⟩ rfl rfl rfl rfl rfl rfl rfl rfl rfl rfl rfl hrl2 ⟨by omega,by omega⟩ (by decide) ?_;have adH:n + (ndsT X.lev ⟨ae,order,types,.mk rh rp⟩ (.mk h ps) n).length=n':=by rw [Np,List.length_cons,<- hK,V5];omega
   have qp:r7.set ((n:Int).toNat * 7 + 6) (.sl 10 (iM Es) none)=base ++ (dK (ndsT X.lev ⟨ae,order,types,.mk rh rp⟩ (.mk h ps) n)).flatten:=by
    rw [eD,show (n:Int).toNat=n by omega,UP hbl,Np,hEs,hK];rfl
   refine ⟨.v (.int .i64 n),[bC ⟨ae,order,types,.mk rh rp⟩ (.pt lc 0) (.loc 1 0) m,OZ ⟨ae,order,types,.mk rh rp⟩ aJ lc n'],ax,iP,?_,?_,?_⟩
   ·rw [UQ]
   ·rw [adH]
   ·rw [adH,<- qp];rfl
end Go.Proofs.YtgjagnmeonoehaaGreat
namespace Go.Proofs.YtgjagnmeonoehaaGreat
namespace Dv
open Go Go.RowKit
section
variable {X:Ctx} {st:St} {k:List It} {E:En} {a:Act} {w:World} {ops:Array Oper} {W:Nat->Bool} {C:World->Prop} {Q:Act->World->Prop} {i:Nat} {r:List Nat} {o:Oper}
theorem ek (hg:o.guard=none):Region.wanted o (yielded ops a.tmps)=true:=by
 unfold Region.wanted;rw [hg]
theorem UR {bx:List (List DV)} {wr:World} (h:Rel X E st a w) (hE:vB E bx wr) (hC:∀ w',C w' -> CC E bx wr w'):Rl E bx C st.sl a where
 tm:=h.tm
 ey:=fun i cs hi=>by
  by_cases aY:cs=[]
  ·subst aY;have aw:i < E.β.length:=by rw [hE.len];exact (gS hi).1
   exact ⟨_,[],gE aw,⟨cS _,by simp⟩,fun w' _ j u hj=>by simp at hj⟩
  ·obtain ⟨b,ty,arr,hb,hw,hc⟩:=hE.ey i cs hi aY;exact ⟨b,arr,hb,hc,fun w' h' j u hj=>by rw [cL (((hC w' h').o i b cs hb hi aY).trans hw)];simpa using hj⟩
 cc:=fun x v hx w' h'=>(hC w' h').c x v hx
theorem US {bx:List (List DV)} (h:Env E bx w) (m:List Nat):vB E (maskL m 0 bx) w:=⟨by rw [tp];exact h.len,fun i cs hi aY=>by
 rcases tq m _ _ _ _ hi with h1 | h1
 ·exact (aY h1).elim
 ·exact h.ey i cs h1⟩
theorem fk (hR:Rel X E st a w) (ho:ops[i]? = some o) (hE:isE o.op=false) (hL:qi o.op=false) (hg:o.guard=none) {s:DV} (hs:pureT X.P X.T ⟨st.sl,[],[]⟩ [] o.op=some s) (hd:ep X.nt st.sl o.dst=true)
  (hk:∀ a',Rel X E (st.put o.dst ⟨[],s⟩) a' w->runT X.P ops W C Q r a' w):runT X.P ops W C Q (i :: r) a w:=by
 have fm:Rl E [] (fun _=>False) st.sl a:=⟨hR.tm,fun i cs hi=>by simp at hi,fun _ _ _ _ h=>h.elim⟩;obtain ⟨v,hv,cd⟩:=jg (st:=⟨st.sl,[],[]⟩) X.hT fm (bz _) hs;simp only [runT,ho,hE,Bool.false_eq_true,if_false];exact ⟨v,.inl ⟨ek hg,fun w' _=>cd w' fun h=>by rw [hL] at h;cases h⟩,fun h=>(by rw [hL] at h;cases h),hk _ (bc hR hd s v hv)⟩
theorem UT (hR:Rel X E st a w) (ho:ops[i]? = some o) {bx:List (List DV)} (fm:Rl E bx C st.sl a) (Ym:C w) (hE:isE o.op=false) (hg:o.guard=none) {s:DV} (hs:pureT X.P X.T ⟨st.sl,bx,[]⟩ [] o.op=some s) (hd:ep X.nt st.sl o.dst=true)
  (hk:∀ a',Rel X E (st.put o.dst ⟨[],s⟩) a' w->runT X.P ops W C Q r a' w):runT X.P ops W C Q (i :: r) a w:=by
 obtain ⟨v,hv,cd⟩:=jg (st:=⟨st.sl,bx,[]⟩) X.hT fm (bz _) hs;simp only [runT,ho,hE,Bool.false_eq_true,if_false];exact ⟨v,.inl ⟨ek hg,fun w' h=>cd w' h⟩,fun _=>Ym,hk _ (bc hR hd s v hv)⟩
theorem UU (hR:Rel X E st a w) (ho:ops[i]? = some o) {t x d:Nat} {b p j:Nat} {n:Nat} {kd:TK} {z:List Value} (hb:E.β[j]? = some b) (mB:o.op = .load t (.tmp x)) (gZ:o.dst=some d) {i2 Jb b2:Nat} (eP:E.β[i2]? = some b2) (hx:rv st [] (.tmp x)=some (.loc i2 p)) (hT:X.T.find t=some ⟨n,false,kd,z⟩)
  (hC:∀ w',C w' -> w'.cell? ⟨b2,p,none⟩=some (.pointer (some ⟨b,Jb,none⟩))) (Ym:C w) (hg:o.guard=none) (hd:ep X.nt st.sl (some d)=true)
  (hk:∀ a',Rel X E ⟨(d,⟨[],.loc j Jb⟩) :: st.sl,st.bx,st.tk⟩ a' w->runT X.P ops W C Q r a' w):runT X.P ops W C Q (i :: r) a w:=by
 have hE:isE o.op=false:=by rw [mB];all_goals rfl
 simp only [runT,ho,hE,Bool.false_eq_true,if_false];have hv:Rv E (.loc j Jb) (.pointer (some ⟨b,Jb,none⟩)):=by unfold Rv;exact ⟨b,hb,rfl⟩
 refine ⟨.pointer (some ⟨b,Jb,none⟩),.inl ⟨ek hg,fun w' h=>?_⟩,fun _=>Ym,?_⟩
 ·have hC':=hC w' (h (by rw [mB];rfl));have e1:=aV hR.rl hx;unfold Rv at e1;obtain ⟨b3,Ee,e1⟩:=e1;rw [eP] at Ee;simp only [oI] at Ee;subst Ee;have TY:=(te_parts X.hT hT).2.1
  have hl:(loadVar t ⟨b2,p,none⟩).run X.P w' = .ok (.pointer (some ⟨b,Jb,none⟩)) w':=by
   simp [loadVar,ko TY,hC']
  simp only [execOp,mB,e1,Sem.run_bind,Instr.loadAt,Instr.sureAddr,Sem.run_pure,Result.andThen_ok,hl]
 ·rw [gZ];exact hk _ (bc hR hd (.loc j Jb) _ hv)
theorem Nq (hR:Rel X E st a w) (ho:ops[i]? = some o) {dst:Option Nat} {f:Operand} {args:Array Operand} {tys:Array TypeId} (mB:o.op = .call ⟨.value f,args,tys⟩) (gZ:o.dst=dst) (hg:o.guard=none) {g:FuncId} {ds:List DV} (hf:rv st [] f=some (.fn g [] [])) (hl:argsV st [] args.toList=some ds) (kY:Enters X.P g)
  {K:Value->World->Prop} (hc:∀ vs,RvL E ds vs->Calls X.P g vs.toArray w fun e w'=>∃ v,e = .returned v/\K v w') (hk:∀ v w',K v w' -> (W i=false->C w->C w')/\runT X.P ops W C Q r (a.put dst v) w'):runT X.P ops W C Q (i :: r) a w:=by
 have hE:isE o.op=true:=by rw [mB];all_goals rfl
 have hwn:=ek (ops:=ops) (a:=a) hg;have fm:=hR.rl;have e1:=aV fm hf;unfold Rv at e1;obtain ⟨l1,r1,e1,Ar,hr1⟩:=e1;simp only [RvL] at Ar hr1;subst Ar hr1;have hargs:=jf fm (bz _) _ _ hl;simp only [runT,ho,hE,if_true,ez,hwn];subst gZ;obtain ⟨dst,op,ty,pos,after,gu⟩:=o;simp only at mB;subst mB
 have hr:(execOp a.eval ⟨dst,.call ⟨.value f,args,tys⟩,ty,pos,after,gu⟩).run X.P w = .ok (.enter g (args.toList.map a.eval).toArray) w:=by
  have e3:(([]:List Value).toArray ++ args.map a.eval ++ ([]:List Value).toArray)=(args.toList.map a.eval).toArray:=by apply Array.ext';simp
  simp only [execOp,resolve,e1,Deferred.ofValue,Sem.run_bind,Sem.run_pure,Result.andThen_ok,invoke,e3];exact kY _ _
 unfold wq;rw [hr];refine (hc _ hargs).mono ?_;rintro e w' ⟨v,rfl,hK⟩;exact ⟨v,rfl,hk v w' hK⟩
theorem UW (hR:Rel X E st a w) (ho:ops[i]? = some o) {dst:Option Nat} {f:Operand} {args:Array Operand} {tys:Array TypeId} (mB:o.op = .call ⟨.value f,args,tys⟩) (gZ:o.dst=dst) (hg:o.guard=none) {g:FuncId} {ds YD:List DV} (hf:rv st [] f=some (.fn g [] [])) (hl:argsV st [] args.toList=some ds) (kY:Enters X.P g)
  {os:List (List DV)} (n1 m1:Nat) (Eu:Nat.ble n1 st.bx.length=true) (jT:Nat.ble m1 st.tk.length=true) (Cm:mF [] n1 n1 m1 os (st.bx.take n1)) (ha:CcL [] n1 n1 m1 YD ds)
  {Φ:DV->List (List DV)->List TkE->Prop} (hc:Ev X.P g YD os (st.tk.take m1) Φ) (bd:X.still=false) (hX:X.bt=[])
  (hk:∀ v r' ir cC E' w',Φ r' ir cC -> ir.length=n1->cC.length=m1->Rel X E' ⟨st.sl,ir ++ st.bx.drop n1,cC ++ st.tk.drop m1⟩ a w' -> Rv E' r' v->Ext E E' -> E'.β=E.β->(∀ (i:Nat) b,n1<=i->E.β[i]? = some b->w'.heap[b]? = w.heap[b]?) ->
   (W i=false->C w->C w')/\runT X.P ops W C Q r (a.put dst v) w'):runT X.P ops W C Q (i :: r) a w:=by
 refine Nq hR ho mB gZ hg hf hl kY (K:=fun v w'=>∃ r' ir cC E',Φ r' ir cC /\ ir.length=n1/\cC.length=m1/\Rel X E' ⟨st.sl,ir ++ st.bx.drop n1,cC ++ st.tk.drop m1⟩ a w' /\ Rv E' r' v/\Ext E E' /\ E'.β=E.β/\∀ (i:Nat) b,n1<=i->E.β[i]? = some b->w'.heap[b]? = w.heap[b]?)
  (fun vs hv=>?_) ?_
 ·refine (FP n1 m1 Eu jT Cm ha hc bd hX hR hv).mono ?_
  grind
 ·grind
theorem UX (h:Rel X E st a w) (j o k:Nat) {n ty e:Nat} {ocs:List DV} {es ns:List (List DV)} (hq:st.tk[k]? = some ⟨n,ty,e,some ns.flatten⟩) (vE:∀ x∈ns,x.length=e) (gR:ns.length=n) (hj:st.bx[j]? = some ocs) (ho:ocs[o]? = some (.sl 0 es (some k))) (jF:es.length=n) :
  ∃ E',Rel X E' ⟨st.sl,st.bx.set j (ocs.set o (.sl e ns none)),st.tk.set k ⟨n,ty,e,none⟩⟩ a w:=Q3 hq vE gR hj ho jF E a w h
theorem Nr (hR:Rel X E st a w) (ho:ops[i]? = some o) (hE:isE o.op=true) (hg:o.guard=none) (hW:W i=true) (hd:ep X.nt st.sl o.dst=true) {p:Prop} (hp:effC X st o (go X 4000 k)=some p) (h:p):runT X.P ops W C (fun a w=>kq X k .normal a w) [i] a w:=by
 have hwn:=ek (ops:=ops) (a:=a) hg;simp only [runT,ho,hE,if_true,ez,hwn];refine mL ?_ (mM hd hR hp h);rintro a' w' ⟨st',E',kV,hr,_⟩;exact ⟨(fun h=>by rw [hW] at h;cases h),go_sound 4000 _ _ kV _ _ _ hr⟩
mutual
theorem tU {i j:Nat}:∀ d:DV,renD (swp i j) (renD (swp i j) d)=d
 | .v x=>rfl
 | .ud=>rfl
 | .agg l=>by simp only [renD,kh]
 | .tup l=>by simp only [renD,kh]
 | .sl e es tk=>rfl
 | .pt cs o=>rfl
 | .loc k o=>by simp only [renD,mR]
 | .el k o=>by simp only [renD,mR]
 | .ms k e o l c=>by simp only [renD,mR]
 | .fn g l r=>by simp only [renD,kh]
 | .rc t x=>by simp only [renD,tU]
theorem kh {i j:Nat}:∀ l:List DV,renL (swp i j) (renL (swp i j) l)=l
 | []=>rfl
 | d :: r=>by simp only [renL,tU,kh]
end
theorem Be {i j:Nat}:∀ l:List (Nat × Sl),renS (swp i j) (renS (swp i j) l)=l
 | []=>rfl
 | (k,⟨gs,s⟩) :: r=>by simp only [renS,tU,Be]
theorem Bf {i j:Nat}:∀ l:List (List DV),renO (swp i j) (renO (swp i j) l)=l
 | []=>rfl
 | c :: r=>by simp only [renO,kh,Bf]
theorem Rn {i j:Nat} (f:Nat->Nat) (l:List (List DV)) (hi:i < l.length) (hj:j < l.length):renO f (swL i j l)=swL i j (renO f l):=by
 apply List.ext_getElem?
 grind [xq,gT,eS]
theorem F8 {i j:Nat} {S:St} (hi:i < S.bx.length) (hj:j < S.bx.length):fH i j (fH i j S)=S:=by
 obtain ⟨sl,bx,tk⟩:=S;simp only [fH,Be];rw [Rn _ _ (by rw [eS];exact hi) (by rw [eS];exact hj),Bf];congr 1;apply List.ext_getElem?
 grind [gT,fI,mR]
theorem CallG.adI {f:FuncId} {args:List DV} {dst:Option Nat} (i j:Nat) (Pe:Nat.ble X.n0 i=true) (EC:Nat.ble X.n0 j=true) (hi:Nat.blt i st.bx.length=true) (hj:Nat.blt j st.bx.length=true)
  (h:CallG X f (renL (swp i j) args) dst k (fH i j st)) (hX:X.bt=[]:=by exact rfl):CallG X f args dst k st:=by
 have ik:=hi;have j1:=hj;simp only [Nat.blt_eq] at ik j1;have hl:(fH i j st).bx.length=st.bx.length:=by simp only [fH,fI,eS]
 exact CallG.EV i j (F8 ik j1).symm (kh args).symm Pe EC (by rw [hl];exact hi) (by rw [hl];exact hj) h hX
theorem Jc {P:Program} {t e:TypeId} (hu:P.underlying t=some (.slice e)) (d:Nat) (x:Option Addr) (n c:Nat) (w:World):(Op.equalIn (d + 1) t (.slice x n c) (.slice none 0 0)).run P w = .ok x.isNone w:=by
 cases x<;>simp [Op.equalIn,run_underlying hu]
theorem r8 {P:Program} {t e:TypeId} (hu:P.underlying t=some (.slice e)) (x:Option Addr) (n c:Nat) (w:World):(Op.equal t (.slice x n c) (.slice none 0 0)).run P w = .ok x.isNone w:=Jc hu 9999 x n c w
theorem qJ {t d e:Nat} {x:Operand} {es:List (List DV)} {tk:Option Nat} {n et e' iB:Nat} {bb:Bool} {z:List Value} (mB:∃ t',o.op = .binOp .eql t x (.const (.slice none 0 0)) t') (gZ:o.dst=some d) (hx:rv st [] x=some (.sl e es tk)) (hT:X.T.find t=some ⟨n,bb,.sl et e' iB,z⟩) (hd:ep X.nt st.sl (some d)=true)
  (hk:∀ b:Bool,(es ≠ []->b=false)->go X 4000 k ⟨(d,⟨[],.v (.bool b)⟩) :: st.sl,st.bx,st.tk⟩):HO X o k st:=by
 intro E a w h;obtain ⟨t',mB⟩:=mB;have e1:=aV h.rl hx;unfold Rv at e1;obtain ⟨b,m,cap,e1,⟨rfl,_⟩,hr,_⟩:=e1;obtain ⟨hu,_⟩:=er X.hT hT;have aP:=r8 hu b es.length cap w
 have cd:(execOp a.eval o).run X.P w = .ok (.value (.bool b.isNone)) w:=by
  have hc:a.eval (.const (.slice none 0 0)) = .slice none 0 0:=rfl;simp [execOp,mB,e1,hc,eqGuard,binOp,aP]
 refine gB cd ?_;rw [gZ];refine go_sound 4000 _ _ (hk b.isNone fun aY=>?_) E _ w (bc h hd (.v (.bool b.isNone)) _ (by unfold Rv;exact ⟨rfl,rfl⟩));have:=n7 (hr aY).1;rw [this];rfl
theorem adJ {t d et e iB n:Nat} {bb:Bool} {z:List Value} (mB:o.op = .buildSlice t 0 #[]) (gZ:o.dst=some d) (hT:X.T.find t=some ⟨n,bb,.sl et e iB,z⟩) (hd:ep X.nt st.sl (some d)=true) (bd:X.still=false:=by exact rfl) (hX:X.bt=[]:=by exact rfl) :
  OpS X o st ⟨(d,⟨[],.sl e [] (some st.tk.length)⟩) :: st.sl,st.bx,st.tk ++ [⟨0,et,e,none⟩]⟩:=by
 intro E a w h;obtain ⟨hu,ii,zv,vX,hz,cf,qh,KA⟩:=er X.hT hT;have lQ:iN X.P et=some e:=by rw [eZ vX,cf]
 have cd:(execOp a.eval o).run X.P w = .ok (.value (.slice (some ⟨w.heap.size,0,none⟩) 0 0)) (w.alloc (.cells #[] et)):=by
  have h1:(Instr.buildSlice t 0 #[]).run X.P w = .ok (.slice (some ⟨w.heap.size,0,none⟩) 0 0) (w.alloc (.cells #[] et)):=by
   have h0:Array.range 0 = #[]:=rfl;simp [Instr.buildSlice,run_underlying hu,aS lQ,Instr.fill,newRow,h0]
  simp only [execOp,mB,List.map_toArray,List.map_nil,Sem.run_bind,h1,Result.andThen_ok,Sem.run_pure]
 refine eH cd ?_;rw [gZ];have og:=h.env.kW (w':=w.alloc (.cells #[] et)) fun i hi=>alloc_old w _ hi
 let E2:En:=⟨E.c,E.β,E.tk ++ [⟨0,et,e,none⟩],E.τ ++ [.slice (some ⟨w.heap.size,0,none⟩) 0 0]⟩
 have hext:Ext E E2:=⟨fun _ _ h=>h,fun _ _ h=>h,fun k q' hk=>by
  have aw:=(gS hk).1;refine ⟨q',by show (E.tk ++ _)[k]? = _;rw [dn aw];exact hk,.inl ⟨rfl,?_⟩⟩;show (E.τ ++ _)[k]? = _
  rw [dn (by rw [h.env.tl];exact aw)]⟩
 have hτ:∀ (k:Nat) y,E2.τ[k]? = some y->(k < E.τ.length/\E.τ[k]? = some y)∨(k=E.τ.length/\y = .slice (some ⟨w.heap.size,0,none⟩) 0 0):=fun k y hy=>by grind
 have dm:∀ (k:Nat) y g,E.τ[k]? = some y->y.ownBlock=some g->g < w.heap.size:=fun k y g hy hg=>(h.env.own (mG hy) hg).1
 have bY:Rel X E2 ⟨st.sl,st.bx,st.tk ++ [⟨0,et,e,none⟩]⟩ a (w.alloc (.cells #[] et)):=by
  refine dC h hext ?_ (by show E.tk ++ _=_;rw [h.tk]) ?_ (h.fr.alloc _) (mJ bd) (.nil hX)
  ·exact {
    len:=h.env.len
    tl:=by show (E.τ ++ _).length=(E.tk ++ _).length;simp [h.env.tl]
    ey:=fun i cs hi=>by
     obtain ⟨b,t,arr,hb,hw,hc⟩:=og.ey i cs hi;exact ⟨b,t,arr,hb,hw,hc.mono hext⟩
    inj:=h.env.inj
    sub:=og.sub
    pc:=h.env.pc
    bU:=fun k q' y Xe hy=>by
     rcases hτ k y hy with ⟨aw,fW⟩ | ⟨rfl,rfl⟩
     ·have fC:(E.tk ++ [⟨0,et,e,none⟩])[k]? = some q':=Xe;rw [dn (by rw [<- h.env.tl];exact aw)] at fC;exact og.bU k q' y fC fW
     ·have fC:(E.tk ++ [⟨0,et,e,none⟩])[E.τ.length]? = some q':=Xe;rw [List.getElem?_append_right (by rw [h.env.tl];exact aR _),h.env.tl] at fC;simp only [Nat.sub_self,List.getElem?_cons_zero,oI] at fC;subst fC;refine .inr ⟨w.heap.size,0,#[],rfl,jb w _,⟨by simp,ri.none rfl⟩,aR _,Nat.zero_le _,fun hm=>?_,fun x v hx HP=>?_⟩
      ·have:=h.env.bp hm;omega
      ·have:=World.block_lt_of_cell? w x (h.env.sub x v hx);omega
    jc:=fun k k' y y' g uK hy fW hg qX=>by
     rcases hτ k y hy with ⟨_,vt⟩ | ⟨rfl,rfl⟩
     ·rcases hτ k' y' fW with ⟨_,lO⟩ | ⟨rfl,rfl⟩
      ·exact h.env.jc k k' y y' g uK vt lO hg qX
      ·have:=dm k y g vt hg;simp only [Value.ownBlock,oI] at qX;omega
     ·rcases hτ k' y' fW with ⟨_,lO⟩ | ⟨rfl,rfl⟩
      ·have:=dm k' y' g lO qX;simp only [Value.ownBlock,oI] at hg;omega
      ·exact uK rfl }
  ·exact {
    c:=h.nw.c
    cn:=h.nw.cn
    β:=h.nw.β
    tk:=fun j q0 y0 zZ Ch=>by
     obtain ⟨q',y',h1,h2,h3⟩:=h.nw.tk j q0 y0 zZ Ch
     grind
    tn:=fun j y g hj hy hg=>by
     rcases hτ j y hy with ⟨_,vt⟩ | ⟨_,rfl⟩
     ·exact h.nw.tn j y g hj vt hg
     ·simp only [Value.ownBlock,oI] at hg;have:=h.fr.size;omega
    l0:=h.nw.l0 }
 refine ⟨E2,bc bY hd (.sl e [] (some st.tk.length)) _ ?_,hext,⟨[],by simp [E2]⟩,fun i b hb _=>alloc_old w _ (h.env.bp (mG hb))⟩;unfold Rv;refine ⟨_,0,0,rfl,⟨rfl,aR _⟩,fun hn=>(hn rfl).elim,fun k' fC=>?_⟩;cases fC;refine ⟨⟨0,et,e,none⟩,?_,aR _,fun _=>?_⟩
 ·show (E.tk ++ _)[st.tk.length]? = _;rw [h.tk];simp
 ·show (E.τ ++ _)[st.tk.length]? = _;rw [<- h.tk,<- h.env.tl];simp
theorem l7 {t d et e iB n:Nat} {bb:Bool} {z:List Value} (mB:o.op = .buildSlice t 0 #[]) (gZ:o.dst=some d) (hT:X.T.find t=some ⟨n,bb,.sl et e iB,z⟩) (hd:ep X.nt st.sl (some d)=true) (bd:X.still=false:=by exact rfl) (hX:X.bt=[]:=by exact rfl)
  (hk:go X 4000 k ⟨(d,⟨[],.sl e [] (some st.tk.length)⟩) :: st.sl,st.bx,st.tk ++ [⟨0,et,e,none⟩]⟩):HO X o k st:=(adJ mB gZ hT hd bd hX).g hk
theorem Wk.HS {st':St} (N:Nat) (hN:Nat.ble X.n0 N=true) (hNl:Nat.ble N st.bx.length=true) (jA:mF st.bx N N st.tk.length st'.bx (st.bx.take N)) (jG:st'.tk=st.tk) (nW:PA st.bx N st.tk.length st.sl st'.sl):Wk X st st':=fun _ _ _ h=>
 K1 h N (nL hN) (nL hNl) jA jG nW
theorem HO.wk {st':St} {o:Oper} (hw:Wk X st st') (hd:ep X.nt st'.sl o.dst=true) {p:Prop} (hp:effC X st' o (go X 4000 k)=some p) (h:p):HO X o k st:=fun E a w hr=>by
 obtain ⟨E',mP⟩:=hw _ _ _ hr;refine ED (mL ?_ (mM hd mP hp h));rintro a' w' ⟨ME,E2,kV,nO,_⟩;exact go_sound 4000 _ _ kV _ _ _ nO
theorem UY (h:Rel X E st a w) (bd:X.still=false) (hX:X.bt=[]) {g n ty e cap:Nat} {cur:Array Value} (hw:w.heap[g]? = some (.cells cur ty (0,0))) (cf:cur.size=cap * e) (hn:n<=cap) (Mx:cap<=maxLen) (hb:g ∉ E.β)
  (hc:∀ x v,E.c x=some v->x.block=g->x.off < n * e) (dm:∀ (k:Nat) y,E.τ[k]? = some y->y.ownBlock≠some g) (hg:X.w0.heap.size<=g) :
  Rel X ⟨E.c,E.β,E.tk ++ [⟨n,ty,e,none⟩],E.τ ++ [.slice (some ⟨g,0,none⟩) n cap]⟩ ⟨st.sl,st.bx,st.tk ++ [⟨n,ty,e,none⟩]⟩ a w:=by
 let E2:En:=⟨E.c,E.β,E.tk ++ [⟨n,ty,e,none⟩],E.τ ++ [.slice (some ⟨g,0,none⟩) n cap]⟩
 have hext:Ext E E2:=⟨fun _ _ h=>h,fun _ _ h=>h,fun k q' hk=>by
  have aw:=(gS hk).1;refine ⟨q',by show (E.tk ++ _)[k]? = _;rw [dn aw];exact hk,.inl ⟨rfl,?_⟩⟩;show (E.τ ++ _)[k]? = _
  rw [dn (by rw [h.env.tl];exact aw)]⟩
 have hτ:∀ (k:Nat) y,E2.τ[k]? = some y->(k < E.τ.length/\E.τ[k]? = some y)∨(k=E.τ.length/\y = .slice (some ⟨g,0,none⟩) n cap):=fun k y hy=>by grind
 refine dC h hext ?_ (by show E.tk ++ _=_;rw [h.tk]) ?_ h.fr (mJ bd) (.nil hX)
 ·exact {
   len:=h.env.len
   tl:=by show (E.τ ++ _).length=(E.tk ++ _).length;simp [h.env.tl]
   ey:=fun i cs hi=>by
    obtain ⟨b,t,arr,hb,hw,hc⟩:=h.env.ey i cs hi;exact ⟨b,t,arr,hb,hw,hc.mono hext⟩
   inj:=h.env.inj
   sub:=h.env.sub
   pc:=h.env.pc
   bU:=fun k q' y Xe hy=>by
    rcases hτ k y hy with ⟨aw,fW⟩ | ⟨rfl,rfl⟩
    ·have fC:(E.tk ++ [⟨n,ty,e,none⟩])[k]? = some q':=Xe;rw [dn (by rw [<- h.env.tl];exact aw)] at fC;exact h.env.bU k q' y fC fW
    ·have fC:(E.tk ++ [⟨n,ty,e,none⟩])[E.τ.length]? = some q':=Xe;rw [List.getElem?_append_right (by rw [h.env.tl];exact aR _),h.env.tl] at fC;simp only [Nat.sub_self,List.getElem?_cons_zero,oI] at fC;subst fC;exact .inr ⟨g,cap,cur,rfl,hw,⟨cf,fun cs h=>by cases h⟩,hn,Mx,hb,hc⟩
   jc:=fun k k' y y' g' uK hy fW n5 KU=>by
    rcases hτ k y hy with ⟨_,vt⟩ | ⟨rfl,rfl⟩
    ·rcases hτ k' y' fW with ⟨_,lO⟩ | ⟨rfl,rfl⟩
     ·exact h.env.jc k k' y y' g' uK vt lO n5 KU
     ·simp only [Value.ownBlock,oI] at KU;subst KU;exact dm k y vt n5
    ·rcases hτ k' y' fW with ⟨_,lO⟩ | ⟨rfl,rfl⟩
     ·simp only [Value.ownBlock,oI] at n5;subst n5;exact dm k' y' lO KU
     ·exact uK rfl }
 ·exact {
   c:=h.nw.c
   cn:=h.nw.cn
   β:=h.nw.β
   tk:=fun j q0 y0 zZ Ch=>by
    obtain ⟨q',y',h1,h2,h3⟩:=h.nw.tk j q0 y0 zZ Ch
    grind
   tn:=fun j y g' hj hy qX=>by
    rcases hτ j y hy with ⟨_,vt⟩ | ⟨_,rfl⟩
    ·exact h.nw.tn j y g' hj vt qX
    ·simp only [Value.ownBlock,oI] at qX;omega
   l0:=h.nw.l0 }
theorem Zh {t d et e iB n len:Nat} {bb:Bool} {z:List Value} {parts:Array (Nat × Operand)} {es:List (List DV)} (mB:o.op = .buildSlice t len parts) (gZ:o.dst=some d) (hT:X.T.find t=some ⟨n,bb,.sl et e iB,z⟩) (jF:litL e st parts.toList 0=some es)
  (hc:(Nat.beq es.length len && (Nat.blt 0 len && Nat.blt 0 e && Nat.ble (len * e) 16777216))=true) (hd:ep X.nt st.sl (some d)=true) (bd:X.still=false:=by exact rfl) (hX:X.bt=[]:=by exact rfl)
  (hk:go X 4000 k ⟨(d,⟨[],.sl e es (some st.tk.length)⟩) :: st.sl,st.bx,st.tk ++ [⟨len,et,e,none⟩]⟩):HO X o k st:=by
 intro E a w h;simp only [aO,Nat.beq_eq,Nat.ble_eq,Nat.blt_eq] at hc;obtain ⟨hlen,⟨kB,KQ⟩,X6⟩:=hc;obtain ⟨hu,ii,zv,vX,hz,cf,qh,KA⟩:=er X.hT hT;obtain ⟨xs,vs,hp,zR,Eb,gQ,X7,pU⟩:=qm h.rl KQ jF;subst cf
 have Pd:len * ii.size≠0:=by
  have:=Nat.mul_pos kB KQ;omega
 have n4:Instr.fill (fun i=>some (i * ii.size,ii.size)) ((Array.range (len * ii.size)).map (zv.cells[·% zv.cells.size]!)) (parts.map fun (i,x)=>(i,a.eval x)).toList=some (cellsL vs).toArray:=by
  have h0:=wM ii.size vs 0 ((Array.range (len * ii.size)).map (zv.cells[·% zv.cells.size]!)).toList gQ (by simp [Eb,hlen])
  have h1:(parts.map fun (i,x)=>(i,a.eval x)).toList=enumF 0 vs:=by
   rw [Array.toList_map,hp,zR,<- sZ]
  rw [h1];simp only [Array.toArray_toList] at h0;rw [h0];simp [Eb,hlen]
 have cd:(execOp a.eval o).run X.P w = .ok (.value (.slice (some ⟨w.heap.size,0,none⟩) len len)) (w.alloc (.cells (cellsL vs).toArray et)):=by
  simp only [execOp,mB,Sem.run_bind,run_buildSlice w t et len _ _ ii zv hu vX hz (by omega) Pd n4,Result.andThen_ok,Sem.run_pure]
 refine gB cd ?_;rw [gZ];have hr:=Ao (arr:=cellsL vs) h bd et
 have Xf:(cellsL vs).length=len * ii.size:=by
  have:∀ l:List Value,(∀ v∈l,v.cells.toList.length=ii.size)->(cellsL l).length=l.length * ii.size:=by
   intro l
   induction l with
   | nil=>intro _;simp [cellsL]
   | cons v l ih=>grind [cellsL]
  rw [this vs gQ,Eb,hlen]
 have nO:=UY (n:=len) (ty:=et) (e:=ii.size) (cap:=len) hr bd hX (g:=w.heap.size) (cur:=(cellsL vs).toArray) (jb w _) (by simp [Xf]) (aR _) (by
   have:len<=len * ii.size:=Nat.le_mul_of_pos_right _ KQ;unfold maxLen;omega) (fun hm=>by have:=h.env.bp hm;omega) (fun x v hx HP=>by
   have hx:addC E.c (w.alloc (.cells (cellsL vs).toArray et)) w.heap.size (cellsL vs).length x=some v:=hx;unfold addC at hx;split at hx
   ·rename_i hc;rw [<- Xf];exact hc.2.2
   ·have:=World.block_lt_of_cell? w x (h.env.sub x v hx);omega) (fun j y hy hg=>by
   have:=(h.env.own (mG hy) hg).1
   omega) (h.fr.size)
 refine go_sound 4000 _ _ hk _ _ _ (bc nO hd (.sl ii.size es (some st.tk.length)) _ ?_);unfold Rv;refine ⟨_,_,_,rfl,⟨hlen.symm,aR _⟩,fun aY=>⟨rfl,?_⟩,fun k' fC=>?_⟩
 ·have gk:∀ x v,E.c x=some v->addC E.c (w.alloc (.cells (cellsL vs).toArray et)) w.heap.size (cellsL vs).length x=some v:=fun x v hx=>by
   have aw:=World.block_lt_of_cell? w x (h.env.sub x v hx);unfold addC;rw [ai (by omega)];exact hx
  have hm:RvC (En.cl ⟨addC E.c (w.alloc (.cells (cellsL vs).toArray et)) w.heap.size (cellsL vs).length,E.β,E.tk,E.τ⟩) es.flatten (cellsL vs):=X7.mono (Ext.XT (E:=E) gk);refine rvEs_flat hm pU fun j u hj=>?_;show addC _ _ _ _ _=_;have j1:=(gS hj).1;simp only [ab,ao,Nat.zero_add];rw [Cg j1,cL (jb w _)];simpa using hj
 ·cases fC;refine ⟨⟨len,et,ii.size,none⟩,?_,aR _,fun _=>?_⟩
  ·show (E.tk ++ _)[st.tk.length]? = _;rw [h.tk];simp
  ·show (E.τ ++ _)[st.tk.length]? = _;rw [<- h.tk,<- h.env.tl];simp
end
end Dv
end Go.Proofs.YtgjagnmeonoehaaGreat
set_option maxRecDepth 100000
namespace Go.Proofs.YtgjagnmeonoehaaGreat
open Go Go.RowKit Dv Go.Proofs.Tryz
theorem qK {l:List Wd} {o:List (Wd × Wd)} (h:(latF l o).1=0):(gG l o).1=0/\(enumL l 0 l).1=0/\(numF (aC l) o).1=0/\cm (lp l.length (fo l.length (dN (aC l) o))) l.length=none/\cm (oD (fo l.length (dN (aC l) o)) l.length) l.length=none:=by grind [latF]
theorem dZ {p:Nat->Bool} {n:Nat} (h:cm p n=none):∀ a,a < n->p a=false:=by grind [cm]
theorem l8 {l:List Wd} {o:List (Wd × Wd)} (h:(latF l o).1=0):gH (fo l.length (dN (aC l) o)) l.length/\l.length<=32:=by
 obtain ⟨h1,h2,h3,h4,h5⟩:=qK h;have hP:=pD h3;rw [dV] at hP
 have HR:l ≠ []:=by
  rintro rfl;simp [gG] at h1
 have Ro:l.length<=32:=by grind [gG]
 have FU:∀ a b,a < l.length->b < l.length->lZ (fo l.length (dN (aC l) o)) l.length a b=false:=by
  have key:∀ a b,a<=b->b < l.length->lZ (fo l.length (dN (aC l) o)) l.length a b=false:=fun a b OS hb=>by grind [dZ,oD]
  intro a b ha hb;rcases Nat.le_total a b with h | h
  ·exact key a b h hb
  ·grind [lZ,yc,yd]
 refine ⟨{
  pos:=List.length_pos_iff.2 HR
  rfl':=fun a ha=>tG hP ha
  tr:=fun a b c ha hb hc=>IW hP ha hb hc
  Nj:=fun a b ha hb h6 h7=>by grind [dZ,lp]
  jn:=fun a b ha hb=>by
   have:=FU a b ha hb;unfold lZ at this;simp only [Bool.or_eq_false_iff,Option.isNone_eq_false_iff] at this;exact Option.isSome_iff_exists.1 this.1
  mt:=fun a b ha hb=>by
   have:=FU a b ha hb;unfold lZ at this;simp only [Bool.or_eq_false_iff,Option.isNone_eq_false_iff] at this
   exact Option.isSome_iff_exists.1 this.2 },Ro⟩
def dR (s:Sch) (aJ:List Nat) (js:List Int):Lx:=⟨aC s.ae,aJ,closeR (fM s.ae.length (dN (aC s.ae) s.order)) s.ae.length,js,fo s.ae.length (dN (aC s.ae) s.order)⟩
theorem UZ {s:Sch} {d:DV} (h:(latF s.ae s.order).1=0) (hd:Y6 s.ae s.order d) (hw:s.ae.length<=1099511627776):∃ aJ js,(dR s aJ js).OK/\d=(dR s aJ js).pd:=by
 obtain ⟨aJ,js,hT,lS,qY,CZ,rfl⟩:=hd;obtain ⟨h1,h2⟩:=l8 h;refine ⟨aJ,js,⟨hT,by show aJ.length<=_;omega,?_,?_,?_⟩,rfl⟩
 ·show gH _ (aC s.ae).length;rw [dV];exact h1
 ·show (aC s.ae).length<=32;rw [dV];exact h2
 ·show ∀ x y,x < (aC s.ae).length->y < (aC s.ae).length->JM _ (aC s.ae).length js x y;rw [dV];exact CZ
def ju (s:Sch) (l:List Wd):Int:=C0 (fo s.ae.length (dN (aC s.ae) s.order)) (aC s.ae) l
def mC (s:Sch) (t:Ty):Ft:=knT ⟨aC s.ae,[],[],[],fun _ _=>false⟩ (tL s) t
mutual
theorem Bg {X Y:Lx} (h:X.af=Y.af) (L:List ByteArray):∀ t:Ty,knT X L t=knT Y L t
 | .mk h1 ps=>by rw [knT,knT,Bh h L ps]
theorem Bh {X Y:Lx} (h:X.af=Y.af) (L:List ByteArray):∀ ps:Pts,knP X L ps=knP Y L ps
 | .nil=>by rw [knP,knP]
 | .cons p t r=>by
  rw [knP,knP,Bh h L r,Bg h L t];unfold Lx.bad;rw [h]
end
theorem Zi (s:Sch) (aJ:List Nat) (js:List Int) (t:Ty):knT (dR s aJ js) (tL s) t=mC s t:=Bg (X:=dR s aJ js) (Y:=⟨aC s.ae,[],[],[],fun _ _=>false⟩) rfl (tL s) t
def lF (s:Sch):Ft:=
 if (latF s.ae s.order).1≠0 then latF s.ae s.order
 else if (fj s).1≠0 then fj s
 else if (eaR s.root s.types 0).1.1≠0 then (eaR s.root s.types 0).1
 else if (eaL (mC s) (mC s s.root) s.types).1≠0 then eaL (mC s) (mC s s.root) s.types
 else loopF s
def ndsAll (lev:List Wd->Int) (s:Sch):List (Wd × Ty)->Nat->List Nd
 | [],_=>[]
 | x :: r,k=>ndsT lev s x.2 k ++ ndsAll lev s r (k + x.2.nn)
def sa (s:Sch):List Nd:=ndsAll (ju s) s s.types 0
def aQ (s:Sch):List Nd:=sa s ++ ndsT (ju s) s s.root (sa s).length
def dF (s:Sch):Int:=oH s s.root (sa s).length
def Xg (s:Sch) (aJ lG:List Nat) (js:List Int):List DV:=
 [(dR s aJ js).pd,.sl 7 (dK (aQ s)) none,.v (.int .i64 (dF s)),.pt (dr (tL s) lG) 0,.sl 1 (dInts (namedL s)) none]
def Rp (s:Sch) (d:DV):Prop:=∃ aJ lG js,(dR s aJ js).OK/\iT (tL s) lG/\lG.length<=s.types.length/\d = .pt (Xg s aJ lG js) 0
def Jd (s:Sch) (r:DV) (_:List (List DV)) (_:List TkE):Prop:=
 if (lF s).1≠0 then r = .tup [.v (.pointer none),(lF s).d] else ∃ d,Rp s d/\r = .tup [d,Ft.d (0,0)]
theorem oJ {s:Sch} {f:Ft} {os:List (List DV)} {tk:List TkE} (h:lF s=f) (hf:f.1≠0):Jd s (.tup [.v (.pointer none),f.d]) os tk:=by
 unfold Jd;rw [h,aj hf]
theorem U0 {s:Sch} {d:DV} {os:List (List DV)} {tk:List TkE} (h:(lF s).1=0) (hd:Rp s d):Jd s (.tup [d,Ft.d (0,0)]) os tk:=by grind [Jd]
theorem Rq {F:Ty->Ft} {z:Ft}:∀ {l:List (Wd × Ty)},(eaL F z l).1=0->z.1=0/\∀ x∈l,(F x.2).1=0
 | [],h=>⟨h,fun x hx=>by cases hx⟩
 | x :: r,h=>by
  rw [eaL] at h;split at h
  ·rename_i h1;exact (h1 h).elim
  ·rename_i h1;obtain ⟨h2,h3⟩:=Rq h
   grind
theorem Rr {z:Ty}:∀ {l:List (Wd × Ty)} {m:Int},0<=m->(eaR z l m).1.1=0->(wrong z 1 0).1.1=0/\(∀ x∈l,(wrong x.2 1 0).1.1=0)/\(eaR z l m).2=m + ((l.map fun x=>x.2.cnt).sum + z.cnt:Nat)/\(eaR z l m).2<=512
 | [],m,_,h=>by grind [eaR,pG]
 | x :: r,m,hm,h=>by
  rw [eaR] at h ⊢;split at h
  ·rename_i h1;exact (h1 h).elim
  ·rename_i h1;rw [ai h1];obtain ⟨g1,g2,g3,_⟩:=pG (sU h1);obtain ⟨h2,h3,h4,h5⟩:=Rr (by omega) h
   grind
theorem yt (lev:List Wd->Int) (s:Sch):∀ (l:List (Wd × Ty)) (k:Nat),(ndsAll lev s l k).length=(l.map fun x=>x.2.nn).sum
 | [],_=>rfl
 | x :: r,k=>by simp only [ndsAll,List.length_append,kL,yt lev s r,List.map_cons,List.sum_cons]
theorem yu:∀ l:List (Wd × Ty),(l.map fun x=>x.2.nn).sum<=(l.map fun x=>x.2.cnt).sum
 | []=>aR _
 | x :: r=>by
  have:=x.2.ie;have:=yu r
  grind
theorem Bi:∀ l:List Nd,(dK l).flatten.length=l.length * 7
 | []=>rfl
 | a :: r=>by
  have:=Bi r;simp only [dK,List.map_cons,List.flatten_cons,List.length_append,List.length_cons] at this ⊢;rw [this];simp only [kg,List.length_cons,List.length_nil];omega
theorem C5 {X:Lx} {s:Sch} {t:Ty} (h:(knT X (tL s) t).1=0):vK s t=true:=by
 obtain ⟨hd,ps⟩:=t;have:=(np h).1;unfold vK;exact decide_eq_true this
theorem F9 {s:Sch} (h:(loopF s).1=0):∀ i,i < s.types.length->∃ k,endI s (s.types.length + 1) i=some k:=by
 intro i hi;unfold loopF at h;split at h
 ·rename_i h1;have:=dZ h1 i hi;simp only [Option.isNone_eq_false_iff] at this;exact Option.isSome_iff_exists.1 this
 ·cases h
end Go.Proofs.YtgjagnmeonoehaaGreat
