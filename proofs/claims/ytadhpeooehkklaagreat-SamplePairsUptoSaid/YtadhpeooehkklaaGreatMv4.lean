/- Part 4 of the proof: Rules for the evaluator: a call that is handed the caller's first objects and rows; rows whose cells nobody else knows; lattice.best, and the closures of bounds; lattice.bounds: all joins and meets; lattice.Build; Reading a lattice: Len, has, Name, Find, Join, Meet, Bottom; labels.Of; The checker's part, once check is known for lighter types; The checker's parts, once check is known for lighter types; The checker's one and check, once check is known for lighter types; so check; kinds.Count, resolve.nodes; the builder's level; The builder's end, loops, known; The builder's each, right, called; The builder's each of right; called; places; The builder's places; The builder's edge; The builder's node; Steps of a region that draws its order, one by one; What resolve.Build says of a schema; lattices in which nothing is wrong. No condition. -/
import Derived.Test.YtadhpeooehkklaaGreatMv2
import Derived.Test.YtadhpeooehkklaaGreatMv3
set_option linter.all false
namespace Go.Proofs.YtadhpeooehkklaaGreat
namespace Dv
open Go Go.RowKit
section
variable {X:Ctx} {st:St} {k:List It} {E:En} {a:Act} {w:World}
def Wk (X:Ctx) (st st':St):Prop:=∀ E a w,Rel X E st a w->∃ E',Rel X E' st' a w
theorem Wk.refl (X:Ctx) (st:St):Wk X st st:=fun E _ _ h=>⟨E,h⟩
theorem Wk.trans {X:Ctx} {s1 s2 s3:St} (h1:Wk X s1 s2) (h2:Wk X s2 s3):Wk X s1 s3:=fun _ _ _ h=>by
 obtain ⟨E1,h3⟩:=h1 _ _ _ h;exact h2 _ _ _ h3
theorem Wk.Vt {X:Ctx} {s1 s2:St} (h:s9 X.n0 X.m0 s1 s2):Wk X s1 s2:=fun _ _ _ hr=>wY hr h
theorem EO {f:FuncId} {args bN:List DV} {os:List (List DV)} (n1 m1:Nat) (Ac:Nat.ble n1 st.bx.length=true) (kp:Nat.ble m1 st.tk.length=true)
  (sZ:nV [] n1 n1 m1 os (st.bx.take n1)) (ha:CcL [] n1 n1 m1 bN args)
  {Φ:DV->List (List DV)->List TkE->Prop} (hc:Ev X.P f bN os (st.tk.take m1) Φ) (bd:X.still=false) (hX:X.bt=[]) {vs:List Value} (h:Rel X E st a w) (hv:RvL E args vs) :
  Calls X.P f vs.toArray w fun e w'=>∃ v r lN dO E',e = .returned v/\Φ r lN dO /\ lN.length=n1/\dO.length=m1/\Rel X E' ⟨st.sl,lN ++ st.bx.drop n1,dO ++ st.tk.drop m1⟩ a w' /\ Rv E' r v/\Ext E E' /\ E'.β=E.β /\
   ∀ (i:Nat) b,n1<=i->E.β[i]? = some b->w'.heap[b]? = w.heap[b]?:=by
 have Ac:=nL Ac;have kp:=nL kp;have hlen:=h.env.len;have hY:=h.env.tl;have lg:=h.tk;have htkl:E.tk.length=st.tk.length:=by rw [lg]
 let E1:En:=⟨E.c,E.β.take n1,E.tk.take m1,E.τ.take m1⟩
 have hfz:L4 E E1 [] n1:=⟨fun _ _ h=>h,fun i cs _ hi=>by simp at hi⟩
 have zK:I4 E E1 n1 m1:={
  β:=fun i b hi hb=>by show (E.β.take n1)[i]? = _;rw [ch,ai hi];exact hb
  tk:=fun k hk=>⟨by show (E.tk.take m1)[k]? = _;rw [ch,ai hk],by show (E.τ.take m1)[k]? = _;rw [ch,ai hk]⟩ }
 obtain ⟨jU,Xz⟩:=sZ.get;have hosl:os.length=n1:=by rw [jU,zLenT];omega
 have Zo:∀ (j:Nat) y,(E.τ.take m1)[j]? = some y->j < m1/\E.τ[j]? = some y:=fun j y hy=>by
  rw [ch] at hy;split at hy
  ·rename_i hj;exact ⟨hj,hy⟩
  ·cases hy
 have hkg:∀ (j:Nat) q,(E.tk.take m1)[j]? = some q->j < m1/\E.tk[j]? = some q:=fun j y hy=>by
  rw [ch] at hy;split at hy
  ·rename_i hj;exact ⟨hj,hy⟩
  ·cases hy
 have XQ:Env E1 os w:={
  len:=by show (E.β.take n1).length=_;rw [zLenT,hosl];omega
  tl:=by show (E.τ.take m1).length=(E.tk.take m1).length;rw [zLenT,zLenT,hY]
  fm:=fun i cs' hi=>by
   obtain ⟨cs,dw,uG⟩:=Xz i cs' hi;rw [ch] at dw;split at dw
   ·rename_i au;obtain ⟨b,ty,arr,hb,hw,hc⟩:=h.env.fm i cs dw;exact ⟨b,ty,arr,zK.β i b au hb,hw,CcL.sound hfz zK uG hc.1,hc.2⟩
   ·cases dw
  inj:=h.env.inj.sublist (List.take_sublist _ _)
  sub:=h.env.sub
  pc:=fun x v hx hm=>h.env.pc x v hx (List.mem_of_mem_take hm)
  cG:=fun j q y hq hy=>by
   obtain ⟨_,hq⟩:=hkg j q hq;obtain ⟨_,hy⟩:=Zo j y hy;rcases h.env.cG j q y hq hy with h1 | ⟨g,cap,cur,rfl,h1,h2,h3,h4,h5,h6⟩
   ·exact .inl h1
   ·exact .inr ⟨g,cap,cur,rfl,h1,h2,h3,h4,fun hm=>h5 (List.mem_of_mem_take hm),h6⟩
  jI:=fun j j' y y' g I2 hy fB=>h.env.jI j j' y y' g I2 (Zo j y hy).2 (Zo j' y' fB).2 }
 refine (hc E1 w _ XQ (by show E.tk.take m1=_;rw [lg]) (CcL.sound hfz zK ha hv)).mono ?_;rintro e w' ⟨v,rfl,hm,_,r,lN,E2,he,hβ,rL,hn,zL,hΦ⟩;have rL:E2.tk.length=E1.tk.length:=rL;have hE1t:E1.tk.length=m1:=by show (E.tk.take m1).length=_;rw [zLenT];omega
 have hE1τ:E1.τ.length=m1:=by show (E.τ.take m1).length=_;rw [zLenT];omega
 have hE1β:E1.β.length=n1:=by show (E.β.take n1).length=_;rw [zLenT];omega
 rw [hE1t] at rL;have hτ2:E2.τ.length=m1:=by rw [he.tl,rL]
 have NX:lN.length=n1:=by rw [<- he.len,hβ,hE1β]
 have hS:∀ j,E1.S j->j∈E.β.take n1∨∃ i y,i < m1/\E.τ[i]? = some y/\y.ownBlock=some j:=fun j hj=>by
  rcases hj with h1 | ⟨y,h1,h2⟩
  ·exact .inl h1
  ·obtain ⟨i,hi,he⟩:=List.getElem_of_mem h1;have eo:E1.τ[i]? = some y:=by rw [gE hi,he]
   obtain ⟨h3,h4⟩:=Zo i y eo;exact .inr ⟨i,y,h3,h4,h2⟩
 have hh:∀ j,j < w.heap.size->¬ E1.S j->w'.heap[j]? = w.heap[j]?:=fun j hj bF=>hm.block j hj bF;have gk:∀ (i:Nat) y g,E.τ[i]? = some y->y.ownBlock=some g->g < w.heap.size/\g ∉ E.β:=fun i y g hy hg=>h.env.own (mG hy) hg
 have cd:∀ x v,E2.c x=some v->E.c x=some v∨w.heap.size<=x.block∨∃ i y,i < m1/\E.τ[i]? = some y/\y.ownBlock=some x.block:=fun x v hx=>by
  rcases hn.cn x v hx with h1 | h1 | ⟨y,h1,h2⟩
  ·exact .inl h1
  ·exact .inr (.inl h1)
  ·obtain ⟨i,hi,he⟩:=List.getElem_of_mem h1;have eo:E1.τ[i]? = some y:=by rw [gE hi,he]
   obtain ⟨h3,h4⟩:=Zo i y eo;exact .inr (.inr ⟨i,y,h3,h4,h2⟩)
 have s7:∀ (j:Nat) q,j < m1->E.tk[j]? = some q->∃ y q' y',E.τ[j]? = some y/\E2.tk[j]? = some q' /\ E2.τ[j]? = some y' /\ q.ty=q'.ty/\q.e=q'.e/\((q'.n=q.n/\y'=y)∨q.n < q'.n)/\(y'.ownBlock=y.ownBlock∨∀ g,y'.ownBlock=some g->w.heap.size<=g):=fun j q hj hq=>by
  have nY:j < E.τ.length:=by rw [hY];omega
  obtain ⟨q',y',h1,h2,h3⟩:=hn.tk j q E.τ[j] (by show (E.tk.take m1)[j]? = _;rw [ch,ai hj];exact hq) (by show (E.τ.take m1)[j]? = _;rw [ch,ai hj,gE nY]);exact ⟨_,q',y',gE nY,h1,h2,h3⟩
 have Jz:∀ (j:Nat) y',j < m1->E2.τ[j]? = some y' -> ∃ y,E.τ[j]? = some y/\(y'.ownBlock=y.ownBlock∨∀ g,y'.ownBlock=some g->w.heap.size<=g):=fun j y' hj hy=>by
  have nY:j < E.tk.length:=by omega
  obtain ⟨y,q1,y1,h1,_,h3,_,_,_,h7⟩:=s7 j _ hj (gE nY);rw [hy] at h3;simp only [oI] at h3;subst h3;exact ⟨y,h1,h7⟩
 let E':En:=⟨E2.c,E.β,E2.tk ++ E.tk.drop m1,E2.τ ++ E.τ.drop m1⟩
 have fb:∀ (j:Nat),m1<=j->E'.tk[j]? = E.tk[j]?:=fun j hj=>by
  show (E2.tk ++ E.tk.drop m1)[j]? = _;rw [List.getElem?_append_right (by omega),List.getElem?_drop,rL];congr 1;omega
 have Vu:∀ (j:Nat),m1<=j->E'.τ[j]? = E.τ[j]?:=fun j hj=>by
  show (E2.τ ++ E.τ.drop m1)[j]? = _;rw [List.getElem?_append_right (by omega),List.getElem?_drop,hτ2];congr 1;omega
 have MK:∀ (j:Nat),j < m1->E'.tk[j]? = E2.tk[j]?:=fun j hj=>by
  show (E2.tk ++ E.tk.drop m1)[j]? = _;rw [cm (by omega)]
 have P9:∀ (j:Nat),j < m1->E'.τ[j]? = E2.τ[j]?:=fun j hj=>by
  show (E2.τ ++ E.τ.drop m1)[j]? = _;rw [cm (by omega)]
 have hx:Ext E E':=⟨hn.c,fun _ _ h=>h,fun j q hq=>by
  rcases Nat.lt_or_ge j m1 with hj | hj
  ·obtain ⟨y,q',y',h1,h2,h3,_,_,h6,_⟩:=s7 j q hj hq;refine ⟨q',by rw [MK j hj];exact h2,?_⟩;rcases h6 with ⟨h6,rfl⟩ | h6
   ·exact .inl ⟨h6,by rw [P9 j hj,h3,h1]⟩
   ·exact .inr h6
  ·exact ⟨q,by rw [fb j hj];exact hq,.inl ⟨rfl,Vu j hj⟩⟩⟩
 have Qd:Ext E2 E':={
  c:=fun _ _ h=>h
  β:=fun j b hj=>by
   rw [hβ] at hj;have hj:(E.β.take n1)[j]? = some b:=hj;rw [ch] at hj;split at hj
   ·exact hj
   ·cases hj
  tk:=fun j q hq=>by
   have hj:j < m1:=by have:=(gS hq).1;omega
   exact ⟨q,by rw [MK j hj];exact hq,.inl ⟨rfl,P9 j hj⟩⟩ }
 have cj:Rel X E' ⟨st.sl,lN ++ st.bx.drop n1,E2.tk ++ st.tk.drop m1⟩ a w':=by
  refine dF h hx ?_ (by show E2.tk ++ E.tk.drop m1=_;rw [lg]) ?_ (h.fr.dn hm.os hm.tape hm.output hm.size fun j hj=>?_) (nX bd) (.nil hX)
  ·exact {
    len:=by show E.β.length=_;rw [List.length_append,List.length_drop,NX,hlen];omega
    tl:=by show (E2.τ ++ E.τ.drop m1).length=(E2.tk ++ E.tk.drop m1).length;simp only [List.length_append,List.length_drop,hτ2,rL,hY]
    fm:=fun i XR hi=>by
     rcases Nat.lt_or_ge i n1 with vC | vC
     ·rw [cm (by omega)] at hi;obtain ⟨b2,ty2,U1,ll,sX,lF⟩:=he.fm i XR hi;exact ⟨b2,ty2,U1,Qd.β i b2 ll,sX,lF.mono Qd⟩
     ·rw [List.getElem?_append_right (by omega),List.getElem?_drop,NX] at hi;rw [show n1 + (i - n1)=i by omega] at hi;obtain ⟨bj,tyj,U2,SM,XS,Mr⟩:=h.env.fm i XR hi;refine ⟨bj,tyj,U2,SM,(hh bj (dE XS) ?_).trans XS,Mr.mono hx⟩;intro hs;rcases hS bj hs with h1 | ⟨i',y,_,h2,h3⟩
      ·obtain ⟨i',eo,qj⟩:=List.getElem_of_mem h1;have h4:(E.β.take n1)[i']? = some bj:=by rw [gE eo,qj]
       rw [ch] at h4;split at h4
       ·rename_i au;have:=(List.getElem?_inj (gS SM).1 h.env.inj).1 (SM.trans h4.symm);omega
       ·cases h4
      ·exact (gk i' y bj h2 h3).2 (mG SM)
    inj:=h.env.inj
    sub:=he.sub
    pc:=fun x v hc lU=>by
     rcases cd x v hc with h1 | h1 | ⟨i,y,_,h2,h3⟩
     ·exact h.env.pc x v h1 lU
     ·have:=h.env.bu lU;omega
     ·exact (gk i y _ h2 h3).2 lU
    cG:=fun j q y hq hy=>by
     rcases Nat.lt_or_ge j m1 with hj | hj
     ·rw [MK j hj] at hq;rw [P9 j hj] at hy;rcases he.cG j q y hq hy with h1 | ⟨g,cap,cur,rfl,h1,h2,h3,h4,h5,h6⟩
      ·exact .inl h1
      ·refine .inr ⟨g,cap,cur,rfl,h1,h2,h3,h4,fun lU=>?_,h6⟩;obtain ⟨y0,h7,h8⟩:=Jz j _ hj hy;rcases h8 with h8 | h8
       ·exact (gk j y0 g h7 (by rw [<- h8];rfl)).2 lU
       ·have:=h8 g rfl;have:=h.env.bu lU;omega
     ·rw [fb j hj] at hq;rw [Vu j hj] at hy;rcases h.env.cG j q y hq hy with h1 | ⟨g,cap,cur,rfl,h1,h2,h3,h4,h5,h6⟩
      ·exact .inl h1
      ·have bF:∀ i y',i < m1->E.τ[i]? = some y' -> y'.ownBlock≠some g:=fun i y' hi fB=>h.env.jI j i _ y' g (by omega) hy fB rfl
       have zx:¬ E1.S g:=fun hs=>by
        rcases hS g hs with h7 | ⟨i,y',h7,h8,h9⟩
        ·exact h5 (List.mem_of_mem_take h7)
        ·exact bF i y' h7 h8 h9
       refine .inr ⟨g,cap,cur,rfl,by rw [hh g (dE h1) zx];exact h1,⟨h2.1,h2.2.mono hn.c⟩,h3,h4,h5,fun x v hc hg=>?_⟩
       ·rcases cd x v hc with h7 | h7 | ⟨i,y',h7,h8,h9⟩
        ·exact h6 x v h7 hg
        ·have:=dE h1;omega
        ·exact (bF i y' h7 h8 (by rw [h9,hg])).elim
    jI:=fun j j' y y' g I2 hy fB hg sB=>by
     rcases Nat.lt_or_ge j m1 with hj | hj
     ·rw [P9 j hj] at hy;obtain ⟨y0,h7,h8⟩:=Jz j _ hj hy;rcases Nat.lt_or_ge j' m1 with gB | gB
      ·rw [P9 j' gB] at fB;exact he.jI j j' y y' g I2 hy fB hg sB
      ·rw [Vu j' gB] at fB;rcases h8 with h8 | h8
       ·exact h.env.jI j j' y0 y' g I2 h7 fB (by rw [<- h8];exact hg) sB
       ·have:=h8 g hg;have:=(gk j' y' g fB sB).1;omega
     ·rw [Vu j hj] at hy;rcases Nat.lt_or_ge j' m1 with gB | gB
      ·rw [P9 j' gB] at fB;obtain ⟨y0,h7,h8⟩:=Jz j' _ gB fB;rcases h8 with h8 | h8
       ·exact h.env.jI j j' y y0 g I2 hy h7 hg (by rw [<- h8];exact sB)
       ·have:=h8 g sB;have:=(gk j y g hy hg).1;omega
      ·rw [Vu j' gB] at fB
       exact h.env.jI j j' y y' g I2 hy fB hg sB }
  ·exact {
    c:=fun x v hc=>hn.c x v (h.nw.c x v hc)
    cn:=fun x v hc=>by
     rcases cd x v hc with h1 | h1 | ⟨i,y,_,h2,h3⟩
     ·exact h.nw.cn x v h1
     ·have:=h.fr.size;exact .inr (.inl (by omega))
     ·rcases h.nw.own h2 h3 with h4 | h4
      ·exact .inr (.inr h4)
      ·exact .inr (.inl h4)
    β:=h.nw.β
    tk:=fun j q0 y0 vS Cg=>by
     obtain ⟨q1,y1,h1,h2,h3,h4,h5,h6⟩:=h.nw.tk j q0 y0 vS Cg;rcases Nat.lt_or_ge j m1 with hj | hj
     ·obtain ⟨y,q',y',g1,g2,g3,g4,g5,g6,g7⟩:=s7 j q1 hj h1;rw [h2] at g1;simp only [oI] at g1;subst g1;refine ⟨q',y',by rw [MK j hj];exact g2,by rw [P9 j hj];exact g3,h3.trans g4,h4.trans g5,?_,?_⟩
      ·rcases g6 with ⟨g6,rfl⟩ | g6
       ·rcases h5 with ⟨h5,rfl⟩ | h5
        ·exact .inl ⟨by omega,rfl⟩
        ·exact .inr (by omega)
       ·rcases h5 with ⟨h5,_⟩ | h5
        ·exact .inr (by omega)
        ·exact .inr (by omega)
      ·rcases g7 with g7 | g7
       ·rcases h6 with h6 | h6
        ·exact .inl (g7.trans h6)
        ·exact .inr fun g hg=>h6 g (by rw [<- g7];exact hg)
       ·refine .inr fun g hg=>?_;have:=g7 g hg;have:=h.fr.size;omega
     ·exact ⟨q1,y1,by rw [fb j hj];exact h1,by rw [Vu j hj];exact h2,h3,h4,h5,h6⟩
    tn:=fun j y g sY hy hg=>by
     rcases Nat.lt_or_ge j m1 with hj | hj
     ·rw [P9 j hj] at hy;obtain ⟨y0,h7,h8⟩:=Jz j _ hj hy;rcases h8 with h8 | h8
      ·exact h.nw.tn j y0 g sY h7 (by rw [<- h8];exact hg)
      ·have:=h8 g hg;have:=h.fr.size;omega
     ·rw [Vu j hj] at hy;exact h.nw.tn j y g sY hy hg
    l0:=h.nw.l0 }
  ·by_cases hjs:E1.S j
   ·left;rcases hS j hjs with h1 | ⟨i,y,_,h2,h3⟩
    ·have Cr:=List.mem_of_mem_take h1;obtain ⟨r0,hr0,L7⟩:=h.nw.β;rw [hr0] at Cr;rcases List.mem_append.1 Cr with Cr | Cr
     ·exact .inl (.inl Cr)
     ·exact .inr (L7 j Cr)
    ·rcases h.nw.own h2 h3 with h4 | h4
     ·exact .inl (.inr h4)
     ·exact .inr h4
   ·exact .inr (hh j hj hjs)
 refine ⟨v,r,lN,E2.tk,E',rfl,hΦ,NX,rL,cj,Rv.mono Qd zL,hx,rfl,fun i b hi hb=>?_⟩;refine hh b (h.env.bu (mG hb)) fun hs=>?_;rcases hS b hs with h1 | ⟨i',y,_,h2,h3⟩
 ·obtain ⟨i',eo,qj⟩:=List.getElem_of_mem h1;have h4:(E.β.take n1)[i']? = some b:=by rw [gE eo,qj]
  rw [ch] at h4;split at h4
  ·rename_i au;have:=(List.getElem?_inj (gS hb).1 h.env.inj).1 (hb.trans h4.symm);omega
  ·cases h4
 ·exact (gk i' y b h2 h3).2 (mG hb)
theorem NY {f:FuncId} {args bN:List DV} {os:List (List DV)} {d:Nat} (n1 m1:Nat) (mJ:Enters X.P f) (hd:gx X.nt st.sl (some d)=true) (Ac:Nat.ble n1 st.bx.length=true) (kp:Nat.ble m1 st.tk.length=true)
  (sZ:nV [] n1 n1 m1 os (st.bx.take n1)) (ha:CcL [] n1 n1 m1 bN args)
  {Φ:DV->List (List DV)->List TkE->Prop} (hc:Ev X.P f bN os (st.tk.take m1) Φ)
  (hk:∀ r lN dO,Φ r lN dO -> lN.length=n1->dO.length=m1->∃ st',Wk X ⟨(d,⟨[],r⟩) :: st.sl,lN ++ st.bx.drop n1,dO ++ st.tk.drop m1⟩ st' /\ go X 4000 k st') (bd:X.still=false:=by exact rfl) (hX:X.bt=[]:=by exact rfl):ik X f args (some d) k st:=by
 refine ⟨mJ,bd,fun E a w vs h hv=>(EO n1 m1 Ac kp sZ ha hc bd hX h hv).mono ?_⟩;rintro e w' ⟨v,r,lN,dO,E',rfl,hΦ,NX,rL,cj,Tf,_,_,_⟩;obtain ⟨st',UL,iz⟩:=hk r lN dO hΦ NX rL;obtain ⟨E3,hr3⟩:=UL _ _ _ (bM cj hd r v Tf);exact go_sound 4000 _ _ iz E3 _ w' hr3
theorem kh {f:FuncId} {args bN:List DV} {os:List (List DV)} {d:Nat} (n1 m1:Nat) (mJ:Enters X.P f) (hd:gx X.nt st.sl (some d)=true) (Ac:Nat.ble n1 st.bx.length=true) (kp:Nat.ble m1 st.tk.length=true)
  (sZ:nV [] n1 n1 m1 os (st.bx.take n1)) (ha:CcL [] n1 n1 m1 bN args)
  {Φ:DV->List (List DV)->List TkE->Prop} (hc:Ev X.P f bN os (st.tk.take m1) Φ)
  (hk:∀ r lN dO,Φ r lN dO -> lN.length=n1->dO.length=m1->go X 4000 k ⟨(d,⟨[],r⟩) :: st.sl,lN ++ st.bx.drop n1,dO ++ st.tk.drop m1⟩) (bd:X.still=false:=by exact rfl) (hX:X.bt=[]:=by exact rfl):ik X f args (some d) k st:=
 NY n1 m1 mJ hd Ac kp sZ ha hc (fun r lN dO h1 h2 h3=>⟨_,Wk.refl _ _,hk r lN dO h1 h2 h3⟩) bd hX
theorem K0 {all:Array Oper} {o1 o2 o3:Oper} {r:List Oper} {d1 d2 kt t sT f off ft ty et e j4 m xY nn:Nat} {bb:Bool} {zz:List Value} {z:Int} {kd:IntKind} {es:List (List DV)} {cs:List DV} {s ix x:Operand} {dv Zp:DV}
  (h1:o1.op = .indexAddr t s ix/\o1.dst=some d1) (h2:o2.op = .fieldAddr sT (.tmp d1) f/\o2.dst=some d2/\o2.guard=none) (h3:o3.op = .store ty (.tmp d2) x/\o3.dst=none/\o3.guard=none)
  (zS:gx X.nt st.sl (some d1)=true) (Kx:gx X.nt ((d1,⟨[],.pt [] 0⟩) :: st.sl) (some d2)=true)
  (hs:rv st [] s=some (.sl 0 es (some kt))) (hi:rv st [] ix=some (.v (.int kd z))) (hx:rv ⟨(d2,⟨[],.pt [] 0⟩) :: (d1,⟨[],.pt [] 0⟩) :: st.sl,st.bx,st.tk⟩ [] x=some dv) (Zq:eraD dv=some Zp) (Vv:dv.cells=[dv])
  (hT:X.T.find t=some ⟨nn,bb,.sl et e j4,zz⟩) (Ch:X.T.off sT f=some (off,ft)) (bT:X.T.sz ty=some 1)
  (hq:st.tk[kt]? = some ⟨m,xY,e,some cs⟩) (gT:es.length=m) (hz:0<=z/\z < m) (nI:off + 1<=e)
  (hk:go X 4000 (.ops all r :: k) ⟨(d2,⟨[],.pt [] 0⟩) :: (d1,⟨[],.pt [] 0⟩) :: st.sl,st.bx,st.tk.set kt ⟨m,xY,e,some (cs.set (z.toNat * e + off) Zp)⟩⟩)
  (bd:X.still=false:=by exact rfl):LZ X o1 (.ops all (o2 :: o3 :: r) :: k) st:=by
 intro E a w h;have ez:=h.rl;have e1:=bp ez hs;have e2:=cE (bp ez hi);unfold Rv at e1;obtain ⟨bs,ns,nZ,e1,⟨zx,GS⟩,UB,GU⟩:=e1;subst zx;obtain ⟨q',jk,_,UC⟩:=GU kt rfl;have km:E.tk[kt]? = some ⟨m,xY,e,some cs⟩:=by rw [h.tk];exact hq
 rw [km] at jk;simp only [oI] at jk;subst jk;have hy:=UC gT;rw [e1,gT] at hy;rw [gT] at e1;have nM:=h.env.cG kt _ _ km hy;rcases nM with ⟨sC,la,_⟩ | ⟨g,cap,cur,sC,hw0,⟨wT,D0⟩,wU,zI,iE,Kq⟩
 ·simp only at la;omega
 injection sC with i1 i2 i3
 subst i1 i3;obtain ⟨hu,ii,zv,q8,_,Vw,_,_⟩:=fw X.hT hT;have ra:jc X.P et=some e:=by rw [gl q8,Vw]
 have Zr:(execOp a.eval o1).run X.P w = .ok (.value (.pointer (some ⟨g,z.toNat * e,none⟩))) w:=by
  have cx:(Instr.indexAt t (.slice (some ⟨g,0,none⟩) m nZ) (.int kd z)).run X.P w = .ok (.pointer (some ⟨g,z.toNat * e,none⟩)) w:=by
   simp [Instr.indexAt,asIntOf,run_underlying hu,hz.1,hz.2,aX ra,Addr.add_lit]
  simp only [execOp,h1.1,e1,e2,Sem.run_bind,cx,Result.andThen_ok,Sem.run_pure]
 refine lW Zr ?_;rw [h1.2];have hr1:Rel X E ⟨(d1,⟨[],.pt [] 0⟩) :: st.sl,st.bx,st.tk⟩ (a.put (some d1) (.pointer (some ⟨g,z.toNat * e,none⟩))) w:=bM h zS (.pt [] 0) _ (by unfold Rv;exact ⟨g,z.toNat * e,rfl,by simp only [RvAt]⟩);generalize ha1:a.put (some d1) (.pointer (some ⟨g,z.toNat * e,none⟩))=a1 at hr1
 have ht1:a1.eval (.tmp d1) = .pointer (some ⟨g,z.toNat * e,none⟩):=by
  subst ha1;simp only [gx,aQ,Nat.blt_eq] at zS;simp [Act.eval,Act.put,h.sz,zS.1]
 show kq X (.ops all (o2 :: o3 :: r) :: k) .normal a1 w;simp only [kq,wpList,Region.wanted,h2.2.2,h3.2.2,if_true];refine .inl (lW (v:=.pointer (some ⟨g,z.toNat * e + off,none⟩)) (w':=w) ?_ ?_)
 ·simp only [execOp,h2.1,ht1,Sem.run_bind,j9 (sN X.hT Ch),Result.andThen_ok,Sem.run_pure]
 rw [h2.2.1];have nU:Rel X E ⟨(d2,⟨[],.pt [] 0⟩) :: (d1,⟨[],.pt [] 0⟩) :: st.sl,st.bx,st.tk⟩ (a1.put (some d2) (.pointer (some ⟨g,z.toNat * e + off,none⟩))) w:=bM hr1 Kx (.pt [] 0) _ (by unfold Rv;exact ⟨g,z.toNat * e + off,rfl,by simp only [RvAt]⟩);generalize zH:a1.put (some d2) (.pointer (some ⟨g,z.toNat * e + off,none⟩))=a2 at nU
 have Tt:a2.eval (.tmp d2) = .pointer (some ⟨g,z.toNat * e + off,none⟩):=by
  subst zH;simp only [gx,aQ,Nat.blt_eq] at Kx;simp [Act.eval,Act.put,hr1.sz,Kx.1]
 have e3:=bp nU.rl hx
 have eK:RvC E [dv] (a2.eval x).cells.toList:=by
  have:=e3.cells (jf (n:=1) (by rw [Vv];rfl) (by omega))
  rwa [Vv] at this
 have zu:(a2.eval x).cells.toList.length=1:=by rw [eK.1.length];all_goals rfl
 obtain ⟨xv,W2⟩:∃ xv,(a2.eval x).cells.toList=[xv]:=by
  match hh:(a2.eval x).cells.toList,zu with
  | [y],_=>exact ⟨y,rfl⟩
 obtain ⟨h5,h6⟩:=D0 cs rfl;simp only at h5 h6 wT hw0 wU;have NZ:cur.toList.length=nZ * e:=sU wT;have Vx:m * e<=nZ * e:=Nat.mul_le_mul_right _ wU
 have jX:z.toNat * e + off + 1<=m * e:=by
  have:(z.toNat + 1) * e<=m * e:=Nat.mul_le_mul_right _ (by omega);rw [Nat.add_mul] at this;omega
 have pH:=ka (P:=X.P) (t:=ty) (off:=z.toNat * e + off) (n:=1) hw0 (DW X.hT bT) zu (by rw [wT];omega) (List.all_eq_true.2 eK.2);refine .inl (Qw (w':=World.dX w g (.cells ((cur.toList.take (z.toNat * e + off) ++ (a2.eval x).cells.toList ++ cur.toList.drop (z.toNat * e + off + 1)).toArray) xY (0,0))) ?_ ?_)
 ·simp only [execOp,h3.1,Tt,Instr.storeAt,Instr.sureAddr,Sem.run_bind,Sem.run_pure,Result.andThen_ok,pH]
 rw [h3.2.1]
 have qf:cur.toList.take (z.toNat * e + off) ++ (a2.eval x).cells.toList ++ cur.toList.drop (z.toNat * e + off + 1)=cur.toList.set (z.toNat * e + off) xv:=by
  rw [W2,List.set_eq_take_append_cons_drop,ai (by omega)];simp
 rw [qf]
 have hx1:RvC E.cl [Zp] [xv]:=by
  rw [W2] at eK;have h7:=eK.1;simp only [RvL] at h7;obtain ⟨v,s',h8,h9,Ah⟩:=h7;simp only [List.cons.injEq] at h8;obtain ⟨rfl,rfl⟩:=h8;exact ⟨rvL_cons (wR Zq h9) (by simp only [RvL]),eK.2⟩
 have nP:DT (World.dX w g (.cells (cur.toList.set (z.toNat * e + off) xv).toArray xY (0,0))) E.c E.β ⟨m,xY,e,some (cs.set (z.toNat * e + off) Zp)⟩ (.slice (some ⟨g,0,none⟩) m nZ):=by
  refine .inr ⟨g,nZ,_,rfl,ij hw0,⟨by simpa using NZ,fun cs' Af=>?_⟩,wU,zI,iE,Kq⟩;simp only [oI] at Af;subst Af;simp only;refine ⟨by rw [List.length_set];exact h5,?_⟩;rw [List.take_set];have au:z.toNat * e + off < (cur.toList.take (m * e)).length:=by rw [zLenT];omega
  rw [List.set_eq_take_append_cons_drop,ai (by omega),List.set_eq_take_append_cons_drop,ai au];have h8:=(RvC.take (z.toNat * e + off) h6).append (RvC.append hx1 (RvC.drop (z.toNat * e + off + 1) h6));simpa using h8
 have Ar:some g≠some g->False:=fun h=>h rfl
 obtain ⟨cj,hext⟩:=Ci (q':=⟨m,xY,e,some (cs.set (z.toNat * e + off) Zp)⟩) (w':=World.dX w g (.cells (cur.toList.set (z.toNat * e + off) xv).toArray xY (0,0))) nU bd km hy rfl rfl rfl (.inl ⟨rfl,rfl⟩) nP (.inl rfl) rfl rfl rfl (by rw [fK];exact aU _) (fun j _ bF=>dr (by
  rintro rfl
  exact bF rfl))
 exact go_sound 4000 _ _ hk _ _ _ cj
open Classical in
noncomputable def tC (E:En) (w:World) (y:Value) (n:Nat):Addr->Option Value:=
 fun x=>if y.ownBlock=some x.block/\x.spot=none/\x.off < n then w.cell? x else E.c x
theorem fY {y:Value} {n:Nat} {x:Addr} {v:Value} (h:tC E w y n x=some v):(y.ownBlock=some x.block/\x.spot=none/\x.off < n/\w.cell? x=some v)∨E.c x=some v:=by
 unfold tC at h;split at h
 ·rename_i hc;exact .inl ⟨hc.1,hc.2.1,hc.2.2,h⟩
 ·exact .inr h
theorem Q8 (h:Rel X E st a w) {k n ty e:Nat} {cs:List DV} {ns:List (List DV)} (hq:st.tk[k]? = some ⟨n,ty,e,some cs⟩) (dw:cs=ns.flatten) (zx:∀ x∈ns,x.length=e) (fo:ns.length=n) :
  ∃ E',Rel X E' ⟨st.sl,st.bx,st.tk.set k ⟨n,ty,e,none⟩⟩ a w/\Ext E E' /\ ∀ es y,es.length=n->Rv E (.sl 0 es (some k)) y->Rv E' (.sl e ns (some k)) y:=by
 subst dw;have km:E.tk[k]? = some ⟨n,ty,e,some ns.flatten⟩:=by rw [h.tk];exact hq
 have jT:=(gS km).1;have Xs:k < E.τ.length:=by rw [h.env.tl];exact jT
 have hv:E.τ[k]? = some E.τ[k]:=gE Xs;generalize E.τ[k]=v at hv;have nM:=h.env.cG k _ v km hv
 have dK:∀ x u,E.c x=some u->tC E w v (n * e) x=some u:=fun x u hx=>by
  unfold tC;split
  ·exact h.env.sub x u hx
  ·exact hx
 have hext:Ext E ⟨tC E w v (n * e),E.β,E.tk.set k ⟨n,ty,e,none⟩,E.τ⟩:=⟨dK,fun _ _ h=>h,fun j q N1=>by
  by_cases hj:j=k
  ·subst hj;rw [km] at N1;simp only [oI] at N1;subst N1;exact ⟨_,cO jT,.inl ⟨rfl,rfl⟩⟩
  ·exact ⟨q,by rw [List.getElem?_set_ne (Ne.symm hj)];exact N1,.inl ⟨rfl,rfl⟩⟩⟩
 refine ⟨⟨tC E w v (n * e),E.β,E.tk.set k ⟨n,ty,e,none⟩,E.τ⟩,dF h hext ?_ (by rw [h.tk]) ?_ h.fr h.sh h.bt,hext,?_⟩
 ·exact {
   len:=h.env.len
   tl:=by simp only [List.length_set];exact h.env.tl
   fm:=fun i cs hi=>by
    obtain ⟨b,t,arr,hb,hw,hc⟩:=h.env.fm i cs hi;exact ⟨b,t,arr,hb,hw,hc.mono hext⟩
   inj:=h.env.inj
   sub:=fun x u hx=>by
    rcases fY hx with ⟨_,_,_,h1⟩ | h1
    ·exact h1
    ·exact h.env.sub x u h1
   pc:=fun x u hx hm=>by
    rcases fY hx with ⟨h1,_⟩ | h1
    ·exact (jj nM h1).2 hm
    ·exact h.env.pc x u h1 hm
   cG:=fun j q y hj hy=>by
    by_cases Kv:j=k
    ·subst Kv;have gB:(E.tk.set j ⟨n,ty,e,none⟩)[j]? = some q:=hj;rw [cO jT] at gB;have fB:E.τ[j]? = some y:=hy;rw [hv] at fB;simp only [oI] at gB fB;subst gB fB;rcases nM with ⟨h1,h2,_⟩ | ⟨g,cap,cur,rfl,h1,h2,h3,h4,h5,h6⟩
     ·exact .inl ⟨h1,h2,fun cs hc=>by cases hc⟩
     ·refine .inr ⟨g,cap,cur,rfl,h1,⟨h2.1,qY.none rfl⟩,h3,h4,h5,fun x u hx GB=>?_⟩;rcases fY hx with ⟨_,_,h7,_⟩ | h7
      ·exact h7
      ·have:=h6 x u h7 GB;simp only [TkE.kn] at this;omega
    ·have gB:E.tk[j]? = some q:=by
      have:(E.tk.set k ⟨n,ty,e,none⟩)[j]? = some q:=hj
      rwa [List.getElem?_set_ne (Ne.symm Kv)] at this
     rcases h.env.cG j q y gB hy with h1 | ⟨g,cap,cur,rfl,h1,h2,h3,h4,h5,h6⟩
     ·exact .inl h1
     ·refine .inr ⟨g,cap,cur,rfl,h1,⟨h2.1,h2.2.mono dK⟩,h3,h4,h5,fun x u hx GB=>?_⟩;rcases fY hx with ⟨h7,_⟩ | h7
      ·exact (h.env.jI j k _ v g Kv hy hv rfl (by rw [h7,GB])).elim
      ·exact h6 x u h7 GB
   jI:=h.env.jI }
 ·exact {
   c:=fun x u hx=>dK x u (h.nw.c x u hx)
   cn:=fun x u hx=>by
    rcases fY hx with ⟨h1,_⟩ | h1
    ·rcases h.nw.own hv h1 with h2 | h2
     ·exact .inr (.inr h2)
     ·exact .inr (.inl h2)
    ·exact h.nw.cn x u h1
   β:=h.nw.β
   tk:=fun j q0 y0 vS Cg=>by
    obtain ⟨q1,y1,h1,h2,h3,h4,h5,h6⟩:=h.nw.tk j q0 y0 vS Cg;by_cases hj:j=k
    ·subst hj;rw [km] at h1;simp only [oI] at h1;subst h1;exact ⟨_,y1,cO jT,h2,h3,h4,h5,h6⟩
    ·exact ⟨q1,y1,by rw [List.getElem?_set_ne (Ne.symm hj)];exact h1,h2,h3,h4,h5,h6⟩
   tn:=fun j y g hj hy=>h.nw.tn j y g hj hy
   l0:=h.nw.l0 }
 ·intro es y gT hy;unfold Rv at hy ⊢;obtain ⟨b,m,cap,rfl,⟨rfl,hmc⟩,hr,bd⟩:=hy;obtain ⟨q',jk,_,hτ⟩:=bd k rfl;rw [km] at jk;simp only [oI] at jk;subst jk;have hy:=hτ gT;rw [hv] at hy;simp only [oI] at hy;subst hy;refine ⟨b,es.length,cap,rfl,⟨by omega,hmc⟩,fun bF=>?_,fun k' fb=>?_⟩
  ·rcases nM with ⟨h1,h2,h3⟩ | ⟨g,Uu,cur,h0,h1,h2,h3,h4,h5,h6⟩
   ·simp only at h2;exact (bF (List.eq_nil_of_length_eq_zero (by omega))).elim
   ·injection h0 with i1 i2 i3
    subst i1;refine ⟨rfl,?_⟩;obtain ⟨h7,h8⟩:=h2.2 _ rfl;refine rvEs_flat (h8.mono (E:=⟨E.c,[],[],[]⟩) ⟨dK,fun _ _ h=>by simp at h,fun _ _ h=>by simp at h⟩) zx fun j u hj=>?_;rw [ch] at hj;split at hj
    ·rename_i nY;show tC E w _ (n * e) _=_;unfold tC;rw [ai ⟨rfl,rfl,by simpa [ao] using nY⟩];simp only [ab,ao,Nat.zero_add];rw [cT h1];simpa using hj
    ·cases hj
  ·cases fb;exact ⟨_,cO jT,by simp only;omega,fun _=>hv⟩
theorem HA {j o k n ty e:Nat} {ocs:List DV} {es ns:List (List DV)} (hq:st.tk[k]? = some ⟨n,ty,e,some ns.flatten⟩) (zx:∀ x∈ns,x.length=e) (fo:ns.length=n) (hj:st.bx[j]? = some ocs) (ho:ocs[o]? = some (.sl 0 es (some k))) (gT:es.length=n) :
  Wk X st ⟨st.sl,st.bx.set j (ocs.set o (.sl e ns none)),st.tk.set k ⟨n,ty,e,none⟩⟩:=by
 intro E a w h;obtain ⟨E',hr,hx,s7⟩:=Q8 h hq rfl zx fo;refine ⟨E',{ hr with env:=?_ }⟩
 exact { hr.env with
  len:=by simp only [List.length_set];exact hr.env.len
  fm:=fun i cs' hi=>by
   by_cases jF:i=j
   ·subst jF;have au:=(gS hj).1;have eo:(st.bx.set i (ocs.set o (.sl e ns none)))[i]? = some cs':=hi;rw [cO au] at eo;simp only [oI] at eo;subst eo;obtain ⟨b,t,arr,hb,hw,hc⟩:=hr.env.fm i ocs hj;obtain ⟨b0,t0,Kr,iE,hw0,Kq⟩:=h.env.fm i ocs hj;have pN:=hx.β i b0 iE;rw [hb] at pN;simp only [oI] at pN;subst pN;rw [hw] at hw0;simp only [oI,Obj.cells.injEq] at hw0
    have Ng:arr=Kr:=by
     have:=hw0.1;simpa using this
    subst Ng;refine ⟨b,t,arr,hb,hw,?_,hc.2⟩;obtain ⟨v,mD,sP⟩:=Kq.1.get ho;have Tf:=s7 es v gT sP;have jU:=(gS ho).1;have nE:arr.length=ocs.length:=hc.1.length
    have h1:=(RvL.take o hc.1).append (rvL_cons (d:=.sl e ns none) (v:=v) (by
     unfold Rv at Tf ⊢;obtain ⟨b,n,cap,g1,g2,g3,_⟩:=Tf
     exact ⟨b,n,cap,g1,g2,g3,fun k hk=>by cases hk⟩) (RvL.drop (o + 1) hc.1))
    rw [List.set_eq_take_append_cons_drop,ai jU]
    have h2:arr.take o ++ v :: arr.drop (o + 1)=arr:=by
     have hoa:o < arr.length:=by omega
     have:arr[o]=v:=by
      rw [gE hoa] at mD;simpa using mD
     rw [<- this];simp
    rwa [h2] at h1
   ·have eo:(st.bx.set j (ocs.set o (.sl e ns none)))[i]? = some cs':=hi;rw [List.getElem?_set_ne (Ne.symm jF)] at eo
    exact hr.env.fm i cs' eo }
theorem Wk.G6 (i j:Nat) (S S':St) (he:S'=ek i j S) (L0:Nat.ble X.n0 i=true) (sY:Nat.ble X.n0 j=true) (hi:Nat.blt i S.bx.length=true) (hj:Nat.blt j S.bx.length=true) (hX:X.bt=[]:=by exact rfl):Wk X S' S:=fun E a w h=>by
 subst he;simp only [Nat.blt_eq] at hi hj;exact vV hX h (nL L0) (nL sY) hi hj
theorem CO {c:Code} (I:Nat->St->Prop) (j0:Nat) (iF:St) (hw:Wk X st iF) (h0:I j0 iF)
  (hr:∀ j s,I j s->go X 4000 (.code c :: .sx (fun s'=>∃ D6,Wk X s' D6 /\ ∃ j',j' < j/\I j' D6) :: k) s):pL X c k st:=by
 intro E a w h;obtain ⟨E0,hr0⟩:=hw _ _ _ h
 classical
 let Inv:Act->World->Prop:=fun a w=>∃ j s E,Rel X E s a w/\I j s
 let μ:Act->World->Nat:=fun a w=>if hI:Inv a w then Classical.choose (least hI) else 0
 refine wp_loop Inv μ ⟨j0,iF,E0,hr0,h0⟩ ?_;intro a1 w1 hI;have Ao:=(Classical.choose_spec (least hI)).1;obtain ⟨s,E1,cj,hIs⟩:=Ao;have hs:=go_sound 4000 _ _ (hr _ s hIs) E1 a1 w1 cj;rw [fL] at hs;refine wp_mono hs ?_;intro e a2 w2 hq
 cases e with
 | normal=>
  obtain ⟨s',E2,n5,D6,UL,j',gB,XC⟩:=hq;obtain ⟨E3,D7⟩:=UL _ _ _ n5;have UM:Inv a2 w2:=⟨j',D6,E3,D7,XC⟩;refine ⟨UM,?_⟩;simp only [μ,dif_pos hI,dif_pos UM];exact Nat.lt_of_le_of_lt ((Classical.choose_spec (least UM)).2 j' ⟨D6,E3,D7,XC⟩) gB
 | exit id=>exact hq
 | goto l=>exact hq
 | ret=>exact hq
 | panic c=>exact hq
 | outgrown=>exact hq
mutual
def flatD:DV->Bool
 | .v _=>true
 | .agg l=>flatL l
 | .tup l=>flatL l
 | _=>false
def flatL:List DV->Bool
 | []=>true
 | d :: r=>flatD d && flatL r
end
mutual
theorem Rv.flat {E E':En}:∀ {d:DV} {v:Value},flatD d=true->Rv E d v->Rv E' d v
 | .v x,v,_,h=>by unfold Rv at h ⊢;exact h
 | .agg l,v,hf,h=>by
  simp only [flatD] at hf;simp only [Rv] at h ⊢;obtain ⟨vs,h1,h2,h3⟩:=h;exact ⟨vs,h1,RvL.flat hf h2,h3⟩
 | .tup l,v,hf,h=>by
  simp only [flatD] at hf;simp only [Rv] at h ⊢;obtain ⟨vs,h1,h2⟩:=h;exact ⟨vs,h1,RvL.flat hf h2⟩
 | .ud,_,hf,_=>by simp [flatD] at hf
 | .sl _ _ _,_,hf,_=>by simp [flatD] at hf
 | .pt _ _,_,hf,_=>by simp [flatD] at hf
 | .loc _ _,_,hf,_=>by simp [flatD] at hf
 | .el _ _,_,hf,_=>by simp [flatD] at hf
 | .ms _ _ _ _ _,_,hf,_=>by simp [flatD] at hf
 | .fn _ _ _,_,hf,_=>by simp [flatD] at hf
 | .sM _ _,_,hf,_=>by simp [flatD] at hf
theorem RvL.flat {E E':En}:∀ {l:List DV} {vs:List Value},flatL l=true->RvL E l vs->RvL E' l vs
 | [],vs,_,h=>by simpa only [RvL] using h
 | d :: r,vs,hf,h=>by
  simp only [flatL,aQ] at hf;simp only [RvL] at h ⊢;obtain ⟨v,s,h1,h2,h3⟩:=h;exact ⟨v,s,h1,Rv.flat hf.1 h2,RvL.flat hf.2 h3⟩
end
theorem v7 {f:FuncId} {args bN:List DV} {d:Nat} {y:DV} (mJ:Enters X.P f) (hc:aV X.P f bN y) (ha:CcL st.bx 0 0 0 bN args) (hy:flatD y=true) (hd:gx X.nt st.sl (some d)=true)
  (hk:go X 4000 k ⟨(d,⟨[],y⟩) :: st.sl,st.bx,st.tk⟩) (bd:X.still=false:=by exact rfl):ik X f args (some d) k st:=by
 refine ⟨mJ,bd,fun E a w vs h hv=>(kg h.env hc ha hv).mono ?_⟩;rintro e w' ⟨v,E2,rfl,hr,hm,_⟩;have hh:∀ i,i < w.heap.size->w'.heap[i]? = w.heap[i]?:=fun i hi=>hm.block i hi (fun h=>h);have cj:Rel X E st a w':=dF h (Ext.refl E) (h.env.ke hh) h.tk h.nw (h.fr.dn hm.os hm.tape hm.output hm.size fun i hi=>.inr (hh i hi)) (nX bd) (h.bt.ke fun b hb=>hh b (h.env.bu hb));exact go_sound 4000 _ _ hk E _ w' (bM cj hd y v (Rv.flat hy hr))
theorem ki {D:Dr} {c:Bool} {i:Nat} {s0:List (Nat × Sl)} {f:FuncId} {args bN:List DV} {d:Nat} {y:DV} {r:List (Nat × Oper)} (mJ:Enters X.P f) (hc:aV X.P f bN y) (ha:CcL st.bx 0 0 0 bN args) (hy:flatD y=true) (hd:(gx X.nt st.sl (some d) && gx X.nt s0 (some d))=true)
  (hk:put2 s0 st (some d) true [] y (goD X D 3000 c r)) (bd:X.still=false:=by exact rfl):As X D c i r f args (some d) s0 st:=by
 refine ⟨mJ,fun hl E0 wr hD E a w vs h hv=>(kg h.rel.env hc ha hv).mono ?_⟩;rintro e w' ⟨v,E2,rfl,hr,hm,_⟩;have hh:∀ i,i < w.heap.size->w'.heap[i]? = w.heap[i]?:=fun i hi=>hm.block i hi (fun h=>h);have cj:Rel X E st a w':=dF h.rel (Ext.refl E) (h.rel.env.ke hh) h.rel.tk h.rel.nw (h.rel.fr.dn hm.os hm.tape hm.output hm.size fun i hi=>.inr (hh i hi)) (nX bd) (h.rel.bt.ke fun b hb=>hh b (h.rel.env.bu hb));have hs:dm none E w E w':=⟨Ext.refl E,⟨[],by simp⟩,fun j b hb _=>hh b (h.rel.env.bu (mG hb))⟩;have hC:=Ec h hs cj (fun j hj=>by cases hj);refine ⟨v,rfl,fun _=>hC,?_⟩;have MJ:fO X ⟨D,E0,wr⟩ c E s0 st (a.put none v) w':=w7 h hs cj (fun h1=>hC (h.cc h1)) (fun i x hx=>.inr ⟨hx,fun d hd=>by cases hd⟩) rfl;obtain ⟨s1,qS,jK,fC⟩:=kI MJ hd true [] y v (fun _ _ p hp=>by cases hp) (fun _=>Rv.flat hy hr) (fun _ _=>Rv.flat hy hr) (fun hn=>(hn (bK _)).elim) hk;exact eM (D:=⟨D,E0,wr⟩) hD 3000 c r _ _ jK hl E _ w' fC
theorem ik.G6 {S:St} {f:FuncId} {args bN:List DV} {dst:Option Nat} (i j:Nat) (hS:st=ek i j S) (ha:args=renL (swp i j) bN) (L0:Nat.ble X.n0 i=true) (sY:Nat.ble X.n0 j=true) (hi:Nat.blt i S.bx.length=true) (hj:Nat.blt j S.bx.length=true)
  (h:ik X f bN dst k S) (hX:X.bt=[]:=by exact rfl):ik X f args dst k st:=by
 subst hS ha;simp only [Nat.blt_eq] at hi hj;refine ⟨h.1,h.2.1,fun E a w vs hr hv=>?_⟩
 have hlen:E.β.length=S.bx.length:=by
  rw [hr.env.len];simp only [ek,dp,de]
 exact h.2.2 _ a w vs (Eg hX hr (nL L0) (nL sY) hi hj) (RvL.G6 (by rw [hlen];exact hi) (by rw [hlen];exact hj) hv)
end
end Dv
end Go.Proofs.YtadhpeooehkklaaGreat
set_option maxRecDepth 100000
namespace Go.Proofs.YtadhpeooehkklaaGreat
open Go Go.RowKit Dv Go.Proofs.Tryz
def cZ (l:List Int):List DV:=l.map fun z=>DV.v (.int .i64 z)
def HB (af:List ByteArray) (tb lq:DV) (js:List Int):List DV:=.sl 1 (fp af) none :: tb :: lq :: cZ js
def oz:Option Nat->Int
 | none=>-1
 | some k=>(k:Int)
def EP (pb:Nat->Nat->Bool) (e:Nat):Option Nat->Bool
 | none=>true
 | some o=>pb e o
def bestA (lO:Nat->Bool) (pb:Nat->Nat->Bool):Nat->Option Nat
 | 0=>none
 | e + 1=>if lO e && EP pb e (bestA lO pb e) then some e else bestA lO pb e
def oo (lO:Nat->Bool) (pb:Nat->Nat->Bool) (n:Nat):Option Nat:=
 match bestA lO pb n with
 | none=>none
 | some o=>if (List.range n).any (fun c=>lO c && !pb o c) then none else some o
theorem oq {lO:Nat->Bool} {pb:Nat->Nat->Bool}:∀ {e k:Nat},bestA lO pb e=some k->k < e
 | 0,k,h=>by cases h
 | e + 1,k,h=>by
  rw [bestA] at h;split at h
  ·simp only [oI] at h;omega
  ·have:=oq h;omega
theorem tD (af:List ByteArray) (tb:DV) (rows:List Nat) (js:List Int) (hr:eX rows) (a b:Nat) (ha:a < rows.length) (hb:b < rows.length) :
  aV prog 153 [.v (.int .i64 a),.v (.int .i64 b),.pt [.pt (HB af tb (nK rows) js) 0] 0] (.v (.bool (bo rows a b))):=by
 have h1:=o8 rows hr a b;rw [rD ha hb] at h1;refine eG 13 [.tmp 5] func153 rfl ntmps153 rfl fun _ _ _ _=>?_;refine cP Ji h1 ?_;exact (rfl:_=_)
theorem tE (af:List ByteArray) (tb:DV) (rows:List Nat) (js:List Int) (hr:eX rows) (a b:Nat) (ha:a < rows.length) (hb:b < rows.length) :
  aV prog 155 [.v (.int .i64 a),.v (.int .i64 b),.pt [.pt (HB af tb (nK rows) js) 0] 0] (.v (.bool (bo rows b a))):=by
 have h1:=o8 rows hr b a;rw [rD hb ha] at h1;refine eG 13 [.tmp 5] func155 rfl ntmps155 rfl fun _ _ _ _=>?_;refine cP Ji h1 ?_;exact (rfl:_=_)
abbrev Tu (L:List DV):DV:=.fn 153 [] [.pt [.pt L 0] 0]
abbrev Tv (L:List DV):DV:=.fn 155 [] [.pt [.pt L 0] 0]
theorem K1 (af:List ByteArray) (tb:DV) (rows:List Nat) (js:List Int) (hr:eX rows) (a b c:Nat) (ha:a < rows.length) (hb:b < rows.length) (hc:c < rows.length) :
  aV prog 157 [.v (.int .i64 c),.pt [Tu (HB af tb (nK rows) js)] 0,.pt [.v (.int .i64 a)] 0,.pt [.v (.int .i64 b)] 0] (.v (.bool (bo rows a c && bo rows b c))):=by
 have h1:=tD af tb rows js hr a c ha hc;have h2:=tD af tb rows js hr b c hb hc;refine eG 16 [.tmp 5] func157 rfl ntmps157 rfl fun _ _ _ _=>?_;refine cP MZ h1 ?_;refine br ?_ ?_<;>intro g
 ·have g:bo rows a c=true:=sU g;refine cP MZ h2 ?_;refine (congrArg (fun b=>DV.v (.bool b)) ?_:_=_);simp [g,pickB]
 ·have g:bo rows a c=false:=sU g;refine (congrArg (fun b=>DV.v (.bool b)) ?_:_=_);simp [g,pickB]
theorem K3 (af:List ByteArray) (tb:DV) (rows:List Nat) (js:List Int) (hr:eX rows) (a b c:Nat) (ha:a < rows.length) (hb:b < rows.length) (hc:c < rows.length) :
  aV prog 158 [.v (.int .i64 c),.pt [Tv (HB af tb (nK rows) js)] 0,.pt [.v (.int .i64 a)] 0,.pt [.v (.int .i64 b)] 0] (.v (.bool (bo rows c a && bo rows c b))):=by
 have h1:=tE af tb rows js hr a c ha hc;have h2:=tE af tb rows js hr b c hb hc;refine eG 16 [.tmp 5] func158 rfl ntmps158 rfl fun _ _ _ _=>?_;refine cP M0 h1 ?_;refine br ?_ ?_<;>intro g
 ·have g:bo rows c a=true:=sU g;refine cP M0 h2 ?_;refine (congrArg (fun b=>DV.v (.bool b)) ?_:_=_);simp [g,pickB]
 ·have g:bo rows c a=false:=sU g;refine (congrArg (fun b=>DV.v (.bool b)) ?_:_=_);simp [g,pickB]
abbrev Vy (L:List DV) (gi gb:Nat) (ci cb:List DV) (n:Nat) (o:Int) (e:Nat):St:=
 ⟨[(0,⟨[],.pt L 0⟩),(1,⟨[],.fn gi [] ci⟩),(2,⟨[],.fn gb [] cb⟩),(7,⟨[],.v (.int .i64 o)⟩),(14,⟨[],.v (.int .i64 n)⟩),(15,⟨[],.v (.int .i64 e)⟩)],[],[]⟩
abbrev JA (L:List DV) (gi gb:Nat) (ci cb:List DV) (n:Nat) (o:Int) (e:Nat):St:=
 ⟨[(0,⟨[],.pt L 0⟩),(1,⟨[],.fn gi [] ci⟩),(2,⟨[],.fn gb [] cb⟩),(7,⟨[],.v (.int .i64 o)⟩),(37,⟨[],.v (.int .i64 n)⟩),(38,⟨[],.v (.int .i64 e)⟩)],[],[]⟩
theorem AU (af:List ByteArray) (tb lq:DV) (js:List Int) (gi gb:Nat) (hei:Enters prog gi) (heb:Enters prog gb) (ci cb:List DV) (lO:Nat->Bool) (pb:Nat->Nat->Bool)
  (Zs:CcL [] 0 0 0 ci ci) (Zt:CcL [] 0 0 0 cb cb) (hcli:clB.clL 0 0 ci=true) (hclb:clB.clL 0 0 cb=true) (hn:af.length<=64)
  (vC:∀ c:Nat,c < af.length->aV prog gi (.v (.int .i64 c) :: ci) (.v (.bool (lO c))))
  (hpb:∀ a b:Nat,a < af.length->b < af.length->aV prog gb (.v (.int .i64 a) :: .v (.int .i64 b) :: cb) (.v (.bool (pb a b)))) :
  aV prog 156 [.pt (HB af tb lq js) 0,.fn gi [] ci,.fn gb [] cb] (.v (.int .i64 (oz (oo lO pb af.length)))):=by
 have hN:=cv af;have CP:clB 0 0 (.fn gi [] ci)=true:=by simp only [clB,aQ];exact ⟨rfl,hcli⟩
 have JB:clB 0 0 (.fn gb [] cb)=true:=by simp only [clB,aQ];exact ⟨rfl,hclb⟩
 refine eG 57 [.tmp 6] func156 rfl ntmps156 rfl fun _ _ _ _=>?_;refine lJ (fun e=>Vy (HB af tb lq js) gi gb ci cb (fp af).length (oz (bestA lO pb e)) e) af.length (aj ⟨_,rfl⟩ wA rfl rfl rfl (wB2 CP JB)) ?_;intro e he;refine br ?_ ?_<;>intro hL
 ·have au:e < af.length:=by have:=hL;simp [hN] at this;exact this
  have hs:bestA lO pb (e + 1)=if lO e && EP pb e (bestA lO pb e) then some e else bestA lO pb e:=rfl
  refine cP hei (vC e au) ?_ ⟨_,_,rfl,rfl,Zs⟩
  cases hA:bestA lO pb e with
  | none=>
   rw [hA] at hs;refine br ?_ ?_<;>intro g
   ·have g:lO e=true:=by simpa [lastG] using g
    have hz:(e:Int)=oz (bestA lO pb (e + 1)):=by rw [hs,g];all_goals rfl
    exact rE ⟨_,by omega,e + 1,rfl,by omega,rfl⟩ (aj ⟨_,rfl⟩ wA rfl rfl rfl (XD CP JB (aK au (by omega)) hz))
   ·have g:lO e=false:=by simpa [lastG] using g
    have hz:oz none=oz (bestA lO pb (e + 1)):=by rw [hs,g];all_goals rfl
    exact rE ⟨_,by omega,e + 1,rfl,by omega,rfl⟩ (aj ⟨_,rfl⟩ wA rfl rfl rfl (XD CP JB (aK au (by omega)) hz))
  | some k=>
   rw [hA] at hs;have hk:=oq hA;refine br ?_ ?_<;>intro g
   ·have g:lO e=true:=by simpa [lastG] using g
    refine cP heb (hpb e k au (by omega)) ?_ ⟨_,_,rfl,rfl,_,_,rfl,rfl,Zt⟩;refine br ?_ ?_<;>intro g2
    ·have g2:pb e k=true:=by simpa [pickB,g,lastG] using g2
     have hz:(e:Int)=oz (bestA lO pb (e + 1)):=by rw [hs,g,EP,g2];all_goals rfl
     exact rE ⟨_,by omega,e + 1,rfl,by omega,rfl⟩ (aj ⟨_,rfl⟩ wA rfl rfl rfl (XD CP JB (aK au (by omega)) hz))
    ·have g2:pb e k=false:=by simpa [pickB,g,lastG] using g2
     have hz:oz (some k)=oz (bestA lO pb (e + 1)):=by rw [hs,g,EP,g2];all_goals rfl
     exact rE ⟨_,by omega,e + 1,rfl,by omega,rfl⟩ (aj ⟨_,rfl⟩ wA rfl rfl rfl (XD CP JB (aK au (by omega)) hz))
   ·have g:lO e=false:=by simpa [lastG] using g
    have hz:oz (some k)=oz (bestA lO pb (e + 1)):=by rw [hs,g];all_goals rfl
    exact rE ⟨_,by omega,e + 1,rfl,by omega,rfl⟩ (aj ⟨_,rfl⟩ wA rfl rfl rfl (XD CP JB (aK au (by omega)) hz))
 ·have aS:e=af.length:=sW hN hL;subst aS;refine lI (fun j st=>∃ e:Nat,st=JA (HB af tb lq js) gi gb ci cb (fp af).length (oz (bestA lO pb af.length)) e/\e<=af.length/\(∀ o,bestA lO pb af.length=some o->∀ c,c < e->(lO c && !pb o c)=false)/\j=af.length - e) ⟨0,rfl,by omega,fun _ _ c hc=>by omega,rfl⟩ (aj ⟨_,rfl⟩ wA rfl rfl rfl (wB2 CP JB)) ?_;rintro j st ⟨e,rfl,he,fv,rfl⟩;refine br ?_ ?_<;>intro hL
  ·have au:e < af.length:=by have:=hL;simp [hN] at this;exact this
   cases hA:bestA lO pb af.length with
   | none=>
    exact ⟨JA (HB af tb lq js) gi gb ci cb (fp af).length (oz none) (e + 1),(aj ⟨_,rfl⟩ wA rfl rfl rfl (Ap CP JB (aK au (by omega)))),af.length - (e + 1),by omega,e + 1,rfl,by omega,(fun _ h=>by cases h),rfl⟩
   | some o=>
    have ho:=oq hA;have fv:=fv o hA;refine cP hei (vC e au) ?_ ⟨_,_,rfl,rfl,Zs⟩;refine br ?_ ?_<;>intro g
    ·have g:lO e=true:=by simpa [pickB] using g
     refine cP heb (hpb o e ho au) ?_ ⟨_,_,rfl,rfl,_,_,rfl,rfl,Zt⟩;refine br ?_ ?_<;>intro g2
     ·have g2:pb o e=false:=by simpa [pickB,g,lastG] using g2
      have:oo lO pb af.length=none:=by
       rw [oo,hA];simp only;rw [ai];rw [List.any_eq_true];exact ⟨e,by simpa using au,by simp [g,g2]⟩
      rw [this];exact (rfl:_=_)
     ·have g2:pb o e=true:=by simpa [pickB,g,lastG] using g2
      exact rE ⟨_,by omega,e + 1,rfl,by omega,fun o' Ce c hc=>by
       cases Ce;rcases eT hc with hc | rfl
       ·exact fv c hc
       ·simp [g2],rfl⟩ (aj ⟨_,rfl⟩ wA rfl rfl rfl (Ap CP JB (aK au (by omega))))
    ·have g:lO e=false:=by simpa [pickB] using g
     exact rE ⟨_,by omega,e + 1,rfl,by omega,fun o' Ce c hc=>by
       cases Ce;rcases eT hc with hc | rfl
       ·exact fv c hc
       ·simp [g],rfl⟩ (aj ⟨_,rfl⟩ wA rfl rfl rfl (Ap CP JB (aK au (by omega))))
  ·have aS:e=af.length:=sW hN hL;subst aS
   have:oo lO pb af.length=bestA lO pb af.length:=by
    cases hA:bestA lO pb af.length with
    | none=>rw [oo,hA]
    | some o=>
     rw [oo,hA];simp only;rw [ah];rw [List.any_eq_true];rintro ⟨c,hc,h2⟩;rw [fv o hA c (sU hc)] at h2;cases h2
   rw [this];exact (rfl:_=_)
theorem tF (js:List Int) (bx:List (List DV)) (N n m:Nat):CcL bx N n m (cZ js) (cZ js):=by
 induction js with
 | nil=>exact rfl
 | cons z r ih=>exact ⟨_,_,rfl,rfl,ih⟩
theorem ta {n m:Nat} {tk:List TkE} (js:List Int):WeL n m tk (cZ js) (cZ js):=xP _ fun x hx=>by
 obtain ⟨z,_,rfl⟩:=List.mem_map.1 hx;exact ⟨_,rfl⟩
theorem Vz (f:Nat->Nat) (js:List Int):renL f (cZ js)=cZ js:=by
 induction js with
 | nil=>rfl
 | cons z r ih=>simp only [cZ,List.map_cons,renL,renD] at ih ⊢;rw [ih]
theorem VA (js:List Int):(cZ js).length=js.length:=by simp [cZ]
theorem N2 (js:List Int) (i:Nat) (z:Int):(cZ js).set i (.v (.int .i64 z))=cZ (js.set i z):=by simp [cZ,List.map_set]
abbrev jG (af:List ByteArray) (tc:List DV) (rows:List Nat) (js:List Int):List DV:=HB af (.pt tc 0) (nK rows) js
theorem Q9 (af:List ByteArray) (tc:List DV) (rows:List Nat) (js:List Int):(jG af tc rows js).length=js.length + 3:=by simp [HB,cZ]
theorem v8 {af:List ByteArray} {tc:List DV} {rows:List Nat} {js:List Int} {i k:Nat} {z:Int} (h:k=i + 3):(jG af tc rows js).set k (.v (.int .i64 z))=jG af tc rows (js.set i z):=by
 subst h;simp only [HB,List.set_cons_succ,N2]
theorem Ra (f:Nat->Nat) (af:List ByteArray) (tc:List DV) (rows:List Nat) (js:List Int):renL f (jG af tc rows js)=jG af tc rows js:=by
 simp only [HB,renL,Vz];rfl
theorem JC {n m:Nat} {tk:List TkE} {l:List DV} {af:List ByteArray} {tc:List DV} {rows:List Nat} {js:List Int} (h:l=jG af tc rows js):WeL n m tk l (jG af tc rows js):=by
 subst h;exact ⟨_,_,rfl,aA rfl,_,_,rfl,aA rfl,_,_,rfl,aA rfl,ta js⟩
def fD (f:Nat->Nat->Bool) (n a b:Nat):Option Nat:=oo (fun c=>f a c && f b c) f n
def jQ (f:Nat->Nat->Bool) (n a b:Nat):Option Nat:=oo (fun c=>f c a && f c b) (fun x y=>f y x) n
theorem xZ (f:Nat->Nat->Bool) (n a b:Nat):fD f n a b=fD f n b a:=by
 unfold fD;congr 1;funext c;exact Bool.and_comm _ _
theorem x4 (f:Nat->Nat->Bool) (n a b:Nat):jQ f n a b=jQ f n b a:=by
 unfold jQ;congr 1;funext c;exact Bool.and_comm _ _
def l7 (f:Nat->Nat->Bool) (n a b:Nat):Bool:=(fD f n a b).isNone || (jQ f n a b).isNone
def ou (f:Nat->Nat->Bool) (n b:Nat):Bool:=(List.range (b + 1)).any fun a=>l7 f n a b
def JM (f:Nat->Nat->Bool) (n:Nat) (js:List Int) (a b:Nat):Prop:=js[a * 32 + b]? = some (oz (fD f n a b))/\js[1024 + (a * 32 + b)]? = some (oz (jQ f n a b))
def zV (js:List Int) (a b:Nat) (j m:Int):List Int:=(((js.set (a * 32 + b) j).set (b * 32 + a) j).set (1024 + (a * 32 + b)) m).set (1024 + (b * 32 + a)) m
theorem N3 (js:List Int) (a b:Nat) (j m:Int):(zV js a b j m).length=js.length:=by simp [zV]
theorem cX {js:List Int} {i k:Nat} {z:Int} (h:k≠i):(js.set k z)[i]? = js[i]?:=List.getElem?_set_ne h
theorem rM {f:Nat->Nat->Bool} {n:Nat} {js:List Int} (hl:js.length=2048) {a b:Nat} (ha:a < 32) (hb:b < 32) {x y:Nat} (hx:x < 32) (hy:y < 32)
  (h:JM f n js x y∨(x=a/\y=b)∨(x=b/\y=a)):JM f n (zV js a b (oz (fD f n a b)) (oz (jQ f n a b))) x y:=by
 have key:(x=a/\y=b)∨(x=b/\y=a)∨(JM f n js x y/\¬ (x=a/\y=b)/\¬ (x=b/\y=a)):=by
  by_cases h1:x=a/\y=b
  ·exact .inl h1
  ·by_cases h2:x=b/\y=a
   ·exact .inr (.inl h2)
   ·rcases h with h | h | h
    ·exact .inr (.inr ⟨h,h1,h2⟩)
    ·exact (h1 h).elim
    ·exact (h2 h).elim
 rcases key with ⟨rfl,rfl⟩ | ⟨rfl,rfl⟩ | ⟨h,h1,h2⟩
 ·unfold JM zV;refine ⟨?_,?_⟩
  ·rw [cX (by omega),cX (by omega)];by_cases G3:x=y
   ·subst G3;rw [cO (by simp;omega)]
   ·rw [cX (by omega),cO (by omega)]
  ·by_cases G3:x=y
   ·subst G3;rw [cO (by simp;omega)]
   ·rw [cX (by omega),cO (by simp;omega)]
 ·unfold JM zV;rw [xZ f n x y,x4 f n x y];refine ⟨?_,?_⟩
  ·rw [cX (by omega),cX (by omega),cO (by simp;omega)]
  ·rw [cO (by simp;omega)]
 ·unfold JM zV;have g1:a * 32 + b≠x * 32 + y:=fun he=>h1 ⟨by omega,by omega⟩;have g2:b * 32 + a≠x * 32 + y:=fun he=>h2 ⟨by omega,by omega⟩;refine ⟨?_,?_⟩
  ·rw [cX (by omega),cX (by omega),cX g2,cX g1];exact h.1
  ·rw [cX (by omega),cX (by omega),cX (by omega),cX (by omega)];exact h.2
abbrev Tw (af:List ByteArray) (tc:List DV) (rows:List Nat) (js:List Int) (e:Nat):St:=
 ⟨[(1,⟨[],.loc 1 0⟩),(3,⟨[],.loc 2 0⟩),(4,⟨[],.loc 3 0⟩),(15,⟨[],.v (.int .i64 (fp af).length)⟩),(16,⟨[],.v (.int .i64 e)⟩)],
  [jG af tc rows js,[.loc 0 0],[.fn 153 [] [.loc 1 0]],[.fn 155 [] [.loc 1 0]]],[]⟩
abbrev HC (af:List ByteArray) (tc:List DV) (rows:List Nat) (js:List Int) (e f:Nat):St:=
 ⟨[(1,⟨[],.loc 1 0⟩),(3,⟨[],.loc 2 0⟩),(4,⟨[],.loc 3 0⟩),(15,⟨[],.v (.int .i64 (fp af).length)⟩),(16,⟨[],.v (.int .i64 e)⟩),(5,⟨[],.loc 4 0⟩),(6,⟨[],.loc 5 0⟩)],
  [jG af tc rows js,[.loc 0 0],[.fn 153 [] [.loc 1 0]],[.fn 155 [] [.loc 1 0]],[.v (.int .i64 e)],[.v (.int .i64 f)]],[]⟩
abbrev N4 (af:List ByteArray) (tc:List DV) (rows:List Nat) (js:List Int) (e f:Nat):St:=
 ⟨[(1,⟨[],.loc 1 0⟩),(3,⟨[],.loc 2 0⟩),(4,⟨[],.loc 3 0⟩),(15,⟨[],.v (.int .i64 (fp af).length)⟩),(16,⟨[],.v (.int .i64 e)⟩),(5,⟨[],.loc 4 0⟩),(6,⟨[],.loc 6 0⟩)],
  [jG af tc rows js,[.loc 0 0],[.fn 153 [] [.loc 1 0]],[.fn 155 [] [.loc 1 0]],[.v (.int .i64 e)],[.v (.int .i64 f)],[.v (.int .i64 (f + 1:Nat))]],[]⟩
abbrev N5 (af:List ByteArray) (tc:List DV) (rows:List Nat) (js:List Int) (e f:Nat):St:=
 ⟨[(1,⟨[],.loc 1 0⟩),(3,⟨[],.loc 2 0⟩),(4,⟨[],.loc 3 0⟩),(15,⟨[],.v (.int .i64 (fp af).length)⟩),(16,⟨[],.v (.int .i64 e)⟩),(5,⟨[],.loc 4 0⟩),(6,⟨[],.loc 5 0⟩)],
  [jG af tc rows js,[.loc 0 0],[.fn 153 [] [.loc 1 0]],[.fn 155 [] [.loc 1 0]],[.v (.int .i64 e)],[.v (.int .i64 (f + 1:Nat))],[.v (.int .i64 f)]],[]⟩
theorem Rb (af:List ByteArray) (tc:List DV) (rows:List Nat) (js:List Int) (e f:Nat):N4 af tc rows js e f=ek 5 6 (N5 af tc rows js e f):=by
 simp only [ek,renO,Ra];rfl
def BndΦ (af:List ByteArray) (tc:List DV) (rows:List Nat) (r:DV) (os:List (List DV)) (_:List TkE):Prop:=
 ∃ VB,os=[jG af tc rows VB]/\VB.length=2048/\r = .v (.int .i64 (oz (bS (ou (bo rows) af.length) af.length))) /\
  (bS (ou (bo rows) af.length) af.length=none->∀ x y,x < af.length->y < af.length->JM (bo rows) af.length VB x y)
theorem EQ (af:List ByteArray) (tc:List DV) (rows:List Nat) (js:List Int) (hr:eX rows) (hlen:rows.length=af.length) (hn:af.length<=32) (hj:js.length=2048) :
  Ev prog 93 [.loc 0 0] [jG af tc rows js] [] (BndΦ af tc rows):=by
 have hN:=cv af;refine eG 73 [.tmp 2] func93 rfl ntmps93 rfl fun _ _ _ _=>?_;refine lI (fun j st=>∃ (e:Nat) (js:List Int),st=Tw af tc rows js e/\e<=af.length/\js.length=2048/\(∀ b,b < e->ou (bo rows) af.length b=false)/\(∀ x y,x < e->y < e->JM (bo rows) af.length js x y)/\j=af.length - e) ⟨0,js,rfl,by omega,hj,fun _ h=>by omega,fun _ _ h=>by omega,rfl⟩ (aq 4 rfl pO rfl rfl rfl lX) ?_;rintro j st ⟨e,js,rfl,he,hj,fv,wa,rfl⟩;refine br ?_ ?_<;>intro hL
 ·have au:e < af.length:=by have:=hL;simp [hN] at this;exact this
  refine CO (fun j st=>∃ (f:Nat) (js:List Int),st=HC af tc rows js e f/\f<=e + 1/\js.length=2048/\(∀ a,a < f->l7 (bo rows) af.length a e=false)/\(∀ x y,x < e->y < e->JM (bo rows) af.length js x y)/\(∀ x,x < f->JM (bo rows) af.length js x e/\JM (bo rows) af.length js e x)/\j=e + 1 - f) (e + 1) (HC af tc rows js e 0) (.Vt (aq 6 rfl pO rfl rfl rfl lX)) ⟨0,js,rfl,by omega,hj,fun _ h=>by omega,wa,fun _ h=>by omega,by omega⟩ ?_;clear wa hj;rintro j st ⟨f,js,rfl,hf,hj,WO,wa,Mc,rfl⟩;refine br ?_ ?_<;>intro kP
  ·have L3:f<=e:=by have:=kP;simp at this;exact this
   have pN:=AU af (.pt tc 0) (nK rows) js 157 153 YB MZ
    [.pt [Tu (jG af tc rows js)] 0,.pt [.v (.int .i64 f)] 0,.pt [.v (.int .i64 e)] 0] [.pt [.pt (jG af tc rows js) 0] 0] (fun c=>bo rows f c && bo rows e c) (bo rows) ax ax rfl rfl (by omega)
    (fun c hc=>K1 af (.pt tc 0) rows js hr f e c (by omega) (by omega) (by omega)) (fun a b ha hb=>tD af (.pt tc 0) rows js hr a b (by omega) (by omega))
   have ll:=AU af (.pt tc 0) (nK rows) js 158 155 YC M0
    [.pt [Tv (jG af tc rows js)] 0,.pt [.v (.int .i64 f)] 0,.pt [.v (.int .i64 e)] 0] [.pt [.pt (jG af tc rows js) 0] 0] (fun c=>bo rows c f && bo rows c e) (fun x y=>bo rows y x) ax ax rfl rfl (by omega)
    (fun c hc=>K3 af (.pt tc 0) rows js hr f e c (by omega) (by omega) (by omega)) (fun a b ha hb=>tE af (.pt tc 0) rows js hr a b (by omega) (by omega))
   refine Cq SZ pN (by repeat' (first | exact rfl | exact trivial | exact Or.inr (Or.inl ⟨_,rfl⟩) | exact Or.inr ⟨_,rfl⟩ | exact Or.inl ⟨rfl,rfl⟩ | exact Or.inl rfl | refine Or.inr ⟨_,_,rfl,Nat.zero_le _,rfl,?_⟩ | refine ⟨_,_,rfl,?_,?_⟩ | refine ⟨_,rfl,?_⟩ | exact tF _ _ _ _ _ | refine Or.inr (Or.inr (Or.inr ⟨_,_,rfl,?_⟩)) | exact Or.inl rfl | refine Or.inr ?_)) rfl ?_;refine Cq SZ ll (by repeat' (first | exact rfl | exact trivial | exact Or.inr (Or.inl ⟨_,rfl⟩) | exact Or.inr ⟨_,rfl⟩ | exact Or.inl ⟨rfl,rfl⟩ | exact Or.inl rfl | refine Or.inr ⟨_,_,rfl,Nat.zero_le _,rfl,?_⟩ | refine ⟨_,_,rfl,?_,?_⟩ | refine ⟨_,rfl,?_⟩ | exact tF _ _ _ _ _ | refine Or.inr (Or.inr (Or.inr ⟨_,_,rfl,?_⟩)) | exact Or.inl rfl | refine Or.inr ?_)) rfl ?_
   have VC:pickB (decide (oz (fD (bo rows) af.length f e) = -1)) true (decide (oz (jQ (bo rows) af.length f e) = -1))=l7 (bo rows) af.length f e:=by
    unfold l7
    cases fD (bo rows) af.length f e with
    | none=>rfl
    | some j=>
     have:decide (oz (some j) = -1)=false:=by simp [oz]
     rw [this]
     cases jQ (bo rows) af.length f e with
     | none=>rfl
     | some m=>
      have:decide (oz (some m) = -1)=false:=by simp [oz]
      rw [this];rfl
   refine br ?_ ?_<;>intro g
   ·have g:l7 (bo rows) af.length f e=true:=VC.symm.trans g
    have hb:ou (bo rows) af.length e=true:=by
     unfold ou;rw [List.any_eq_true];exact ⟨f,by simp;omega,g⟩
    have DJ:=bI (p:=ou (bo rows) af.length) au hb fv;refine ⟨.v (.int .i64 e),[jG af tc rows js],ax,(by repeat' (first | exact rfl | exact trivial | exact Or.inr (Or.inl ⟨_,rfl⟩) | exact Or.inr ⟨_,rfl⟩ | exact Or.inl ⟨rfl,rfl⟩ | exact Or.inl rfl | refine Or.inr ⟨_,_,rfl,Nat.zero_le _,rfl,?_⟩ | refine ⟨_,_,rfl,?_,?_⟩ | refine ⟨_,rfl,?_⟩ | exact tF _ _ _ _ _ | refine Or.inr (Or.inr (Or.inr ⟨_,_,rfl,?_⟩)) | exact Or.inl rfl | refine Or.inr ?_)),js,rfl,hj,?_,fun h=>by rw [DJ] at h;cases h⟩;rw [DJ];rfl
   ·have g:l7 (bo rows) af.length f e=false:=VC.symm.trans g;refine rq [0] (fun _=>false) mo (by decide +kernel) ?_;have bJ:=Q9 af tc rows js;refine ⟨⟨by omega,by omega⟩,?_⟩;refine ⟨⟨by omega,by omega⟩,?_⟩;refine ⟨by rw [bJ];omega,?_⟩;refine ⟨⟨by omega,by omega⟩,?_⟩;refine ⟨⟨by omega,by omega⟩,?_⟩;refine ⟨by rw [List.length_set,bJ];omega,?_⟩;refine rq [0] (fun _=>false) mo (by decide +kernel) ?_;refine ⟨⟨by omega,by omega⟩,?_⟩;refine ⟨⟨by omega,by omega⟩,?_⟩;refine ⟨by rw [List.length_set,List.length_set,bJ];omega,?_⟩;refine ⟨⟨by omega,by omega⟩,?_⟩;refine ⟨⟨by omega,by omega⟩,?_⟩;refine ⟨by rw [List.length_set,List.length_set,List.length_set,bJ];omega,?_⟩
    have iE:((((jG af tc rows js).set (0 + 0 + 3 + (f:Int).toNat * 32 + (e:Int).toNat * 1) (DV.v (.int .i64 (oz (fD (bo rows) af.length f e))))).set (0 + 0 + 3 + (e:Int).toNat * 32 + (f:Int).toNat * 1) (DV.v (.int .i64 (oz (fD (bo rows) af.length f e))))).set (0 + 0 + 1027 + (f:Int).toNat * 32 + (e:Int).toNat * 1) (DV.v (.int .i64 (oz (jQ (bo rows) af.length f e))))).set (0 + 0 + 1027 + (e:Int).toNat * 32 + (f:Int).toNat * 1) (DV.v (.int .i64 (oz (jQ (bo rows) af.length f e))))=jG af tc rows (zV js f e (oz (fD (bo rows) af.length f e)) (oz (jQ (bo rows) af.length f e))):=by
     rw [v8 (i:=f * 32 + e) (by omega),v8 (i:=e * 32 + f) (by omega),v8 (i:=1024 + (f * 32 + e)) (by omega),v8 (i:=1024 + (e * 32 + f)) (by omega)];rfl
    refine ⟨HC af tc rows (zV js f e (oz (fD (bo rows) af.length f e)) (oz (jQ (bo rows) af.length f e))) e (f + 1),
     .trans (.Vt (s2:=N4 af tc rows (zV js f e (oz (fD (bo rows) af.length f e)) (oz (jQ (bo rows) af.length f e))) e f) (aq 7 rfl (by repeat' (first | exact rfl | exact aA rfl | exact JC iE | exact aE (aK (n:=e + 1) (by omega) (by omega)) | refine ⟨_,_,rfl,?_,?_⟩)) rfl rfl rfl (by repeat' (first | exact trivial | exact aA rfl | exact JC iE | exact aE (aK (n:=e + 1) (by omega) (by omega)) | refine ⟨⟨_,rfl,?_⟩,?_⟩))))
      (.trans (.G6 5 6 (N5 af tc rows (zV js f e (oz (fD (bo rows) af.length f e)) (oz (jQ (bo rows) af.length f e))) e f) _ (Rb _ _ _ _ _ _) rfl rfl rfl rfl) (.Vt (aq 6 rfl pO rfl rfl rfl lX))),
     e + 1 - (f + 1),by omega,f + 1,_,rfl,by omega,by rw [N3];exact hj,fun a ha=>?_,fun x y hx hy=>?_,fun x hx=>?_,rfl⟩
    ·rcases eT ha with ha | rfl
     ·exact WO a ha
     ·exact g
    ·exact rM hj (by omega) (by omega) (by omega) (by omega) (.inl (wa x y hx hy))
    ·rcases eT hx with hx | rfl
     ·exact ⟨rM hj (by omega) (by omega) (by omega) (by omega) (.inl (Mc x hx).1),rM hj (by omega) (by omega) (by omega) (by omega) (.inl (Mc x hx).2)⟩
     ·exact ⟨rM hj (by omega) (by omega) (by omega) (by omega) (.inr (.inl ⟨rfl,rfl⟩)),rM hj (by omega) (by omega) (by omega) (by omega) (.inr (.inr ⟨rfl,rfl⟩))⟩
  ·have L3:f=e + 1:=by have:=kP;simp at this;omega
   subst L3
   have hb:ou (bo rows) af.length e=false:=by
    unfold ou;rw [List.any_eq_false];intro a ha;rw [WO a (sU ha)];decide
   refine ⟨Tw af tc rows js (e + 1),(aq 4 rfl (nF (aK au (by omega))) rfl rfl rfl (dy (aK au (by omega)))),af.length - (e + 1),by omega,e + 1,js,rfl,by omega,hj,fun b gA=>?_,fun x y hx hy=>?_,rfl⟩
   ·rcases eT gA with h | rfl
    ·exact fv b h
    ·exact hb
   ·rcases eT hx with hx | rfl
    ·rcases eT hy with hy | rfl
     ·exact wa x y hx hy
     ·exact (Mc x (by omega)).1
    ·exact (Mc y (by omega)).2
 ·have aS:e=af.length:=sW hN hL;subst aS;refine ⟨.v (.int .i64 (-1)),[jG af tc rows js],ax,(by repeat' (first | exact rfl | exact trivial | exact Or.inr (Or.inl ⟨_,rfl⟩) | exact Or.inr ⟨_,rfl⟩ | exact Or.inl ⟨rfl,rfl⟩ | exact Or.inl rfl | refine Or.inr ⟨_,_,rfl,Nat.zero_le _,rfl,?_⟩ | refine ⟨_,_,rfl,?_,?_⟩ | refine ⟨_,rfl,?_⟩ | exact tF _ _ _ _ _ | refine Or.inr (Or.inr (Or.inr ⟨_,_,rfl,?_⟩)) | exact Or.inl rfl | refine Or.inr ?_)),js,rfl,hj,?_,fun _=>wa⟩;rw [bU fv];rfl
def VD (l:List Wd) (k:Nat):Int:=((l[k]?).getD (⟨az,0⟩:Wd)).a
def latF (l:List Wd) (o:List (Wd × Wd)):Ft:=
 if (gN l o).1≠0 then gN l o
 else if (enumL l 0 l).1≠0 then enumL l 0 l
 else if (numF (aD l) o).1≠0 then numF (aD l) o
 else match bS (lu l.length (fA l.length (dV (aD l) o))) l.length with
  | some a=>(11,VD l a)
  | none=>
   match bS (ou (fA l.length (dV (aD l) o)) l.length) l.length with
   | some b=>(12,VD l b)
   | none=>(0,0)
def VE (l:List Wd) (o:List (Wd × Wd)) (d:DV):Prop:=
 ∃ aO js,iV (aD l) aO/\aO.length<=l.length/\js.length=2048/\(∀ x y,x < l.length->y < l.length->JM (fA l.length (dV (aD l) o)) l.length js x y) /\
  d = .pt (jG (aD l) (dC (aD l) aO) (closeR (fV l.length (dV (aD l) o)) l.length) js) 0
def HD (l:List Wd) (o:List (Wd × Wd)) (r:DV) (_:List (List DV)) (_:List TkE):Prop:=
 if (latF l o).1≠0 then r = .tup [.v (.pointer none),(latF l o).d] else ∃ d,VE l o d/\r = .tup [d,(latF l o).d]
theorem pf {L:List ByteArray}:∀ {o:List (Wd × Wd)},(numF L o).1=0->tz L.length (dV L o)
 | [],_=>by intro p hp;simp [dV] at hp
 | q :: r,h=>by
  rw [numF] at h;split at h
  ·cases h
  ·rename_i h1;split at h
   ·cases h
   ·rename_i h2;have ih:=pf (o:=r) h;intro p hp;simp only [dV,List.map_cons,List.mem_cons] at hp;rcases hp with rfl | hp
    ·obtain ⟨a,ha⟩:=Option.ne_none_iff_exists'.1 h1;obtain ⟨b,hb⟩:=Option.ne_none_iff_exists'.1 h2;simp only [Vq,ha,hb,Option.getD_some];exact ⟨(dH ha).1,(dH hb).1⟩
    ·exact ih p hp
theorem dZ (l:List Wd):(aD l).length=l.length:=by simp [aD]
theorem x5 {all:List Wd}:∀ {l:List Wd} {i:Nat},(enumL all i l).1=0->enumL all i l=(0,0)
 | [],_,_=>rfl
 | x :: r,i,h=>by
  rw [enumL] at h ⊢;split at h
  ·rename_i h1;exact (h1 h).elim
  ·rename_i h1;rw [ah h1];exact x5 h
theorem AV {L:List ByteArray}:∀ {o:List (Wd × Wd)},(numF L o).1=0->numF L o=(0,0)
 | [],_=>rfl
 | q :: r,h=>by
  rw [numF] at h ⊢;split at h
  ·cases h
  ·rename_i h1;split at h
   ·cases h
   ·rename_i h2;rw [ah h1,ah h2];exact AV h
theorem lx {l:List Wd} {k:Nat} {w:Wd} (h:l[k]? = some w):VD l k=w.a:=by simp [VD,h]
theorem VF (n:Nat):vL (List.replicate n (.int .i64 0))=cZ (List.replicate n 0):=by
 induction n with
 | zero=>rfl
 | succ n ih=>simp only [List.replicate_succ,vL,cZ,List.map_cons] at ih ⊢;rw [ih]
theorem ov {l:List Wd} {o:List (Wd × Wd)} {f:Ft} {os:List (List DV)} {tk:List TkE} (h:latF l o=f) (hf:f.1≠0):HD l o (.tup [.v (.pointer none),f.d]) os tk:=by
 unfold HD;rw [h,ai hf]
theorem Rc {l:List Wd} {o:List (Wd × Wd)} {d:DV} {os:List (List DV)} {tk:List TkE} (h:latF l o=(0,0)) (hd:VE l o d):HD l o (.tup [d,Ft.d (0,0)]) os tk:=by
 unfold HD;rw [h,ah (by simp)];exact ⟨d,hd,rfl⟩
theorem Re (n m:Nat) (af:List ByteArray) (tc:List DV) (rows:List Nat) (js:List Int):clB.clL n m (jG af tc rows js)=true:=by
 have h:∀ l:List Int,clB.clL n m (cZ l)=true:=by
  intro l
  induction l with
  | nil=>rfl
  | cons z r ih=>simp only [cZ,List.map_cons,clB.clL,clB,Bool.true_and] at ih ⊢;exact ih
 simp only [HB,clB.clL,clB,h,nK,Bool.and_self]
theorem ER (l:List Wd) (o:List (Wd × Wd)) (hs:wdsWt l<=1099511627776) (hs2:prsWt o<=1099511627776) :
  Ev prog 36 [.sl 2 (bQ l) none,.sl 4 (nJ o) none] [] [] (HD l o):=by
 have nQ:=bP l;have Ar:=jv o;have fo:=dZ l;have hF:=latF.eq_1 l o;refine eG 86 [.tmp 4,.cell 5 45] func36 rfl ntmps36 rfl fun _ _ _ _=>?_;refine cP en86 (KZ l o) ?_;by_cases hm:(gN l o).1≠0
 ·rw [ai hm] at hF;refine br ?_ ?_<;>intro h
  ·refine dS ?_;exact ⟨_,ax,ov (os:=[]) (tk:=[]) hF hm⟩
  ·exfalso;simp at h;exact hm h
 rw [ah hm] at hF;refine br (fun h=>?_) (fun _=>?_)
 ·exfalso;simp at h;exact hm h
 have L7:l ≠ []:=by
  rintro rfl;simp [gN] at hm
 have hl32:l.length<=32:=by
  rcases Nat.lt_or_ge 32 l.length with h | h
  ·simp [gN,L7,h] at hm
  ·exact h
 have vA:=EM l hs;unfold Zi at vA;by_cases hE:(enumL l 0 l).1≠0
 ·rw [ah hE] at vA;rw [ai hE] at hF;refine cP X9 vA ?_;refine br ?_ ?_<;>intro h
  ·refine dS ?_;exact ⟨_,ax,ov (os:=[]) (tk:=[]) hF hE⟩
  ·exfalso;simp at h;exact hE h
 rw [ah hE] at hF;have hE:(enumL l 0 l).1=0:=sU hE;rw [ai hE] at vA;rw [x5 hE] at vA;refine cP X9 vA ?_;refine kG U7 rfl (xB (aD l) (by omega)) ax (fun r hr=>?_);obtain ⟨aO,hT,jU,rfl⟩:=hr;have tG:=zU (aD l) aO hT (by omega) o hs2;unfold Zj at tG;by_cases hN:(numF (aD l) o).1≠0
 ·rw [ah hN] at tG;rw [ai hN] at hF;refine cP Ya tG ?_;refine br ?_ ?_<;>intro h
  ·refine dS ?_;exact ⟨_,ax,ov (os:=[]) (tk:=[]) hF hN⟩
  ·exfalso;simp at h;exact hN h
 rw [ah hN] at hF;have hN:(numF (aD l) o).1=0:=sU hN;rw [ai hN] at tG;rw [AV hN] at tG;have hP:=pf hN;rw [fo] at hP;have hPl:(dV (aD l) o).length=o.length:=by simp [dV]
 generalize hPP:dV (aD l) o=P at tG hF hP hPl;refine cP Ya tG ?_;have hLn:(fp (aD l)).length=l.length:=by rw [cv,fo]
 have hPb:P.length<=1099511627776:=by omega
 have hro:=CI (n:=l.length) (by omega) P hP;have ez:=kM l.length P;have hr0:fV l.length P ≠ []:=fun h=>L7 (List.eq_nil_of_length_eq_zero (by rw [<- ez,h];rfl));refine cP en90 (KR l.length (by omega) P hP hPb) ?_ (gU hLn);have hlo:=Hx _ hro hr0;rw [ez,Q4 (by omega) hP] at hlo
 cases hA:bS (lu l.length (fA l.length P)) l.length with
 | some a=>
  rw [hA] at hlo hF;simp only at hF;have nE:=(cL hA).1;obtain ⟨w,hw⟩:∃ w,l[a]? = some w:=⟨_,gE nE⟩;rw [lx hw] at hF;refine cP Yb hlo ?_;refine dS ?_;refine ⟨kK w,⟨by omega,bg hw⟩,?_⟩;exact ⟨_,ax,ov (os:=[]) (tk:=[]) hF (by simp)⟩
 | none=>
 rw [hA] at hlo hF;simp only at hF;refine cP Yb hlo ?_;have eK:=uS _ hro hr0;rw [ez] at eK;have hcok:=l4 hro l.length (by omega);have Zu:=fW (fV l.length P) l.length;rw [ez] at Zu;refine cP Yc eK ?_;have HE:(List.replicate 2048 (0:Int)).length=2048:=List.length_replicate
 have dw:CcL [] 0 0 0 (jG (aD l) (dC (aD l) aO) (closeR (fV l.length P) l.length) (List.replicate 2048 0)) (.sl 1 (fp (aD l)) none :: .pt (dC (aD l) aO) 0 :: nK (closeR (fV l.length P) l.length) :: vL (List.replicate 2048 (.int .i64 0))):=by
  refine ⟨_,_,rfl,Or.inr (Or.inl ⟨_,rfl⟩),_,_,rfl,Or.inl rfl,_,_,rfl,Or.inl rfl,?_⟩;rw [VF];exact tF _ _ _ _ _
 have hbn:=EQ (aD l) (dC (aD l) aO) _ (List.replicate 2048 0) hcok (by omega) (by omega) HE;refine mP en93 rfl rfl dw ax hbn (fun r os tk h=>?_) (fun r sF h=>?_)
 ·obtain ⟨VB,rfl,_,rfl,_⟩:=h;refine ⟨rfl,fun sF h=>?_⟩;rw [List.mem_singleton.1 h];exact Re _ _ _ _ _ _
 obtain ⟨VB,h1,hj2,hr,wa⟩:=h;simp only [List.cons.injEq,and_true] at h1;subst h1
 have hB:bS (ou (bo (closeR (fV l.length P) l.length)) (aD l).length) (aD l).length=bS (ou (fA l.length P) l.length) l.length:=by
  rw [fo];rfl
 rw [hB] at hr wa
 cases hb:bS (ou (fA l.length P) l.length) l.length with
 | some b=>
  rw [hb] at hr hF;subst hr;simp only at hF;have hbl:=(cL hb).1;obtain ⟨w,hw⟩:∃ w,l[b]? = some w:=⟨_,gE hbl⟩;rw [lx hw] at hF;refine dS ?_;refine ⟨kK w,⟨by simp only [oz];omega,bg hw⟩,?_⟩;exact ⟨_,ax,ov (os:=[]) (tk:=[]) hF (by simp)⟩
 | none=>
  rw [hb] at hr hF;subst hr;simp only at hF;refine ⟨.tup [.pt (jG (aD l) (dC (aD l) aO) (closeR (fV l.length P) l.length) VB) 0,Ft.d (0,0)],(by repeat' (first | exact rfl | exact trivial | exact Or.inr (Or.inl ⟨_,rfl⟩) | exact Or.inr ⟨_,rfl⟩ | exact Or.inl ⟨rfl,rfl⟩ | exact Or.inl rfl | refine Or.inr ⟨_,_,rfl,Nat.zero_le _,rfl,?_⟩ | refine ⟨_,_,rfl,?_,?_⟩ | refine ⟨_,rfl,?_⟩ | exact tF _ _ _ _ _ | refine Or.inr (Or.inr (Or.inr ⟨_,_,rfl,?_⟩)) | exact Or.inl rfl | refine Or.inr ?_)),Rc (os:=[]) (tk:=[]) hF ⟨aO,VB,hT,by omega,hj2,?_,by rw [hPP]⟩⟩;rw [hPP];rw [fo] at wa;exact wa hb
section
variable (af:List ByteArray) (tc:List DV) (rows:List Nat) (js:List Int)
theorem tH:aV prog 187 [.pt (jG af tc rows js) 0] (.v (.int .i64 af.length)):=by
 refine eG 10 [.tmp 2] func187 rfl ntmps187 rfl fun _ _ _ _=>?_;refine (congrArg (fun z=>DV.v (.int .i64 z)) ?_:_=_);rw [cv]
theorem K4 (i:Int):aV prog 203 [.pt (jG af tc rows js) 0,.v (.int .i64 i)] (.v (.bool (decide (0<=i) && decide (i < af.length)))):=by
 refine eG 13 [.tmp 4] func203 rfl ntmps203 rfl fun _ _ _ _=>?_;refine br ?_ ?_<;>intro g
 ·have g:decide (0<=i)=true:=sU g;refine cP M5 (tH af tc rows js) ?_;refine (congrArg (fun b=>DV.v (.bool b)) ?_:_=_);simp [g,pickB]
 ·have g:decide (0<=i)=false:=sU g;refine (congrArg (fun b=>DV.v (.bool b)) ?_:_=_);simp [g,pickB]
theorem rN {a:Nat} (h:a < af.length):aV prog 203 [.pt (jG af tc rows js) 0,.v (.int .i64 a)] (.v (.bool true)):=by
 have:=K4 af tc rows js a;have e:(decide (0<=(a:Int)) && decide ((a:Int) < af.length))=true:=by simp [h]
 rw [e] at this;exact this
end
theorem HF (af:List ByteArray) (aO rows:List Nat) (js:List Int) (s:ByteArray) (hT:iV af aO) (hl:aO.length<=1099511627776) :
  aV prog 163 [.pt (jG af (dC af aO) rows js) 0,.v (.string s)] (NP (dz af s)):=by
 have h:=jz af aO s hT hl;refine eG 16 [.tmp 4,.tmp 5] func163 rfl ntmps163 rfl fun _ _ _ _=>?_
 cases hx:dz af s with
 | none=>
  rw [hx] at h;refine cP xj h ?_;exact ⟨_,ax,rfl⟩
 | some k=>
  rw [hx] at h;refine cP xj h ?_;exact ⟨_,ax,rfl⟩
theorem ES {l:List DV} {k b:Nat} {x:DV} (hb:b < 32) (h:l[k + b]? = some x):(((l.drop k).take 32).drop b).take 1=[x]:=by
 have h1:((l.drop k).take 32)[b]? = some x:=by
  rw [ch,ai hb,List.getElem?_drop];exact h
 rw [List.drop_eq_getElem_cons (gS h1).1];rw [gE (gS h1).1] at h1;simp only [oI] at h1;rw [h1];rfl
section
variable (af:List ByteArray) (tc:List DV) (rows:List Nat) (js:List Int)
theorem x6 (a b:Nat) (z:Int) (ha:a < af.length) (hb:b < af.length) (hn:af.length<=32) (hz:js[a * 32 + b]? = some z) :
  aV prog 164 [.pt (jG af tc rows js) 0,.v (.int .i64 a),.v (.int .i64 b)] (.v (.int .i64 z)):=by
 refine eG 25 [.tmp 6] func164 rfl ntmps164 rfl fun _ _ _ _=>?_;refine cP Jk (rN af tc rows js ha) ?_;refine cP Jk (rN af tc rows js hb) ?_;refine ⟨_,⟨⟨by omega,by omega⟩,rfl⟩,?_⟩;refine ⟨_,⟨⟨by omega,by omega⟩,ES (x:=.v (.int .i64 z)) (by omega) ?_⟩,?_⟩
 ·rw [show 0 + 3 + (a:Int).toNat * 32 + (0 + (b:Int).toNat * 1)=(a * 32 + b) + 3 by omega];simp only [HB,List.getElem?_cons_succ,cZ,List.getElem?_map,hz,Option.map_some]
 exact (rfl:_=_)
theorem HG (a b:Nat) (z:Int) (ha:a < af.length) (hb:b < af.length) (hn:af.length<=32) (hz:js[1024 + (a * 32 + b)]? = some z) :
  aV prog 188 [.pt (jG af tc rows js) 0,.v (.int .i64 a),.v (.int .i64 b)] (.v (.int .i64 z)):=by
 refine eG 25 [.tmp 6] func188 rfl ntmps188 rfl fun _ _ _ _=>?_;refine cP Jk (rN af tc rows js ha) ?_;refine cP Jk (rN af tc rows js hb) ?_;refine ⟨_,⟨⟨by omega,by omega⟩,rfl⟩,?_⟩;refine ⟨_,⟨⟨by omega,by omega⟩,ES (x:=.v (.int .i64 z)) (by omega) ?_⟩,?_⟩
 ·rw [show 0 + 1027 + (a:Int).toNat * 32 + (0 + (b:Int).toNat * 1)=(1024 + (a * 32 + b)) + 3 by omega];simp only [HB,List.getElem?_cons_succ,cZ,List.getElem?_map,hz,Option.map_some]
 exact (rfl:_=_)
end
theorem tI {lO:Nat->Bool} {pb:Nat->Nat->Bool}:∀ {e k:Nat},bestA lO pb e=some k->lO k=true
 | 0,k,h=>by cases h
 | e + 1,k,h=>by
  rw [bestA] at h;split at h
  ·rename_i h1;simp only [oI] at h;subst h;simp only [aQ] at h1;exact h1.1
  ·exact tI h
theorem x7 {lO:Nat->Bool} {pb:Nat->Nat->Bool} {n k:Nat} (h:oo lO pb n=some k):k < n/\lO k=true/\∀ c,c < n->lO c=true->pb k c=true:=by
 unfold oo at h;split at h
 ·cases h
 ·rename_i o ho;split at h
  ·cases h
  ·rename_i h1;simp only [oI] at h;subst h;refine ⟨oq ho,tI ho,fun c hc hp=>?_⟩;simp only [List.any_eq_true,List.mem_range,aQ,Bool.not_eq_true',not_exists,not_and] at h1;have:=h1 c hc hp;simpa using this
structure gq (f:Nat->Nat->Bool) (n:Nat):Prop where
 pos:0 < n
 rfl':∀ a,a < n->f a a=true
 tr:∀ a b c,a < n->b < n->c < n->f a b=true->f b c=true->f a c=true
 HH:∀ a b,a < n->b < n->f a b=true->f b a=true->a=b
 jn:∀ a b,a < n->b < n->∃ k,fD f n a b=some k
 mt:∀ a b,a < n->b < n->∃ k,jQ f n a b=some k
theorem qw {f:Nat->Nat->Bool} {n a b k:Nat} (h:fD f n a b=some k):k < n/\f a k=true/\f b k=true/\∀ c,c < n->f a c=true->f b c=true->f k c=true:=by
 obtain ⟨h1,h2,h3⟩:=x7 h;simp only [aQ] at h2;exact ⟨h1,h2.1,h2.2,fun c hc ha hb=>h3 c hc (by simp [ha,hb])⟩
theorem qx {f:Nat->Nat->Bool} {n a b k:Nat} (h:jQ f n a b=some k):k < n/\f k a=true/\f k b=true/\∀ c,c < n->f c a=true->f c b=true->f c k=true:=by
 obtain ⟨h1,h2,h3⟩:=x7 h;simp only [aQ] at h2;exact ⟨h1,h2.1,h2.2,fun c hc ha hb=>h3 c hc (by simp [ha,hb])⟩
def iu (f:Nat->Nat->Bool) (l:List Nat) (c:Nat):Bool:=l.all fun i=>f i c
def tJ (f:Nat->Nat->Bool) (n:Nat) (l:List Nat) (c:Nat):Bool:=iu f l c && (List.range n).all fun d=>!iu f l d || f c d
def fl (f:Nat->Nat->Bool) (n:Nat) (l:List Nat):Option Nat:=bS (tJ f n l) n
theorem ow {f:Nat->Nat->Bool} {n:Nat} {l:List Nat} {c:Nat}:tJ f n l c=true↔iu f l c=true/\∀ d,d < n->iu f l d=true->f c d=true:=by
 unfold tJ;simp only [aQ,List.all_eq_true,List.mem_range,Bool.or_eq_true,Bool.not_eq_true'];constructor
 ·rintro ⟨h1,h2⟩;refine ⟨h1,fun d hd ho=>?_⟩;rcases h2 d hd with h | h
  ·rw [ho] at h;cases h
  ·exact h
 ·rintro ⟨h1,h2⟩;refine ⟨h1,fun d hd=>?_⟩;cases ho:iu f l d
  ·exact .inl rfl
  ·exact .inr (h2 d hd ho)
theorem AW {f:Nat->Nat->Bool} {n:Nat} (hL:gq f n) {l:List Nat} {c:Nat} (hc:c < n) (h:tJ f n l c=true):fl f n l=some c:=by
 refine bI hc h fun a ha=>?_;cases h2:tJ f n l a
 ·rfl
 ·obtain ⟨h3,h4⟩:=ow.1 h;obtain ⟨h5,h6⟩:=ow.1 h2;have:=hL.HH a c (by omega) hc (h6 c hc h3) (h4 a (by omega) h5);omega
theorem qy {f:Nat->Nat->Bool} {n c:Nat} (hL:gq f n) (hc:c < n) (h:∀ d,d < n->f c d=true):fl f n []=some c:=
 AW hL hc (ow.2 ⟨rfl,fun d hd _=>h d hd⟩)
theorem uV {f:Nat->Nat->Bool} {n c k i:Nat} {l:List Nat} (hL:gq f n) (hl:∀ x∈l,x < n) (hi:i < n) (h:fl f n l=some c) (hk:fD f n c i=some k):fl f n (l ++ [i])=some k:=by
 obtain ⟨h1,h2,_⟩:=cL h;obtain ⟨h3,h4⟩:=ow.1 h2;obtain ⟨g1,g2,g3,g4⟩:=qw hk;simp only [iu,List.all_eq_true] at h3;refine AW hL g1 (ow.2 ⟨?_,fun d hd ho=>?_⟩)
 ·simp only [iu,List.all_eq_true,List.mem_append,List.mem_singleton];rintro x (hx | rfl)
  ·exact hL.tr x c k (hl x hx) h1 g1 (h3 x hx) g2
  ·exact g3
 ·simp only [iu,List.all_eq_true,List.mem_append,List.mem_singleton] at ho;refine g4 d hd (h4 d hd ?_) (ho i (.inr rfl));simp only [iu,List.all_eq_true];exact fun x hx=>ho x (.inl hx)
theorem pg {f:Nat->Nat->Bool} {n c:Nat} {l:List Nat} (h:fl f n l=some c):c < n:=(cL h).1
abbrev Tx (L:List DV) (n b e:Nat):St:=
 ⟨[(0,⟨[],.pt L 0⟩),(3,⟨[],.v (.int .i64 b)⟩),(9,⟨[],.v (.int .i64 n)⟩),(10,⟨[],.v (.int .i64 e)⟩)],[],[]⟩
theorem rO (af:List ByteArray) (tc:List DV) (rows:List Nat) (js:List Int) {f:Nat->Nat->Bool} (hL:gq f af.length) (hn:af.length<=32) (hj:∀ x y,x < af.length->y < af.length->JM f af.length js x y) :
  aV prog 140 [.pt (jG af tc rows js) 0] (.v (.int .i64 (oz (fl f af.length [])))):=by
 have hlen:=tH af tc rows js;have jX:=hL.pos;refine eG 19 [.tmp 2] func140 rfl ntmps140 rfl fun _ _ _ _=>?_;refine cP M5 hlen ?_;refine br ?_ ?_<;>intro g
 ·exfalso;simp at g;simp [g] at jX
 refine cP M5 hlen ?_;refine lI (fun j st=>∃ e b:Nat,st=Tx (jG af tc rows js) af.length b e/\e<=af.length/\b < af.length/\(∀ x,x < e->f b x=true)/\j=af.length - e) ⟨0,0,rfl,by omega,by omega,fun _ h=>by omega,rfl⟩ (aj ⟨_,rfl⟩ wA rfl rfl rfl wB) ?_;rintro j st ⟨e,b,rfl,he,hb,dK,rfl⟩;refine br ?_ ?_<;>intro hL'
 ·have au:e < af.length:=by have:=hL';simp at this;exact this
  obtain ⟨k,hk⟩:=hL.mt b e hb au;obtain ⟨g1,g2,g3,g4⟩:=qx hk;have hz:=(hj b e hb au).2;rw [hk] at hz;refine cP YL (HG af tc rows js b e k hb au hn hz) ?_;refine ⟨Tx (jG af tc rows js) af.length k (e + 1),(aj ⟨_,rfl⟩ wA rfl rfl rfl (dy (aK au (by omega)))),af.length - (e + 1),by omega,e + 1,k,rfl,by omega,g1,fun x hx=>?_,rfl⟩;rcases eT hx with hx | rfl
  ·exact hL.tr k b x g1 hb (by omega) g2 (dK x hx)
  ·exact g3
 ·have aS:e=af.length:=by have:=hL';simp at this;omega
  subst aS;rw [qy hL hb dK];exact (rfl:_=_)
def labW (L:List ByteArray):List Wd->Ft
 | []=>(0,0)
 | w :: r=>if dz L w.s=none then (17,w.a) else labW L r
def mZ (L:List ByteArray) (l:List Wd):List Nat:=l.map fun w=>(dz L w.s).getD 0
def CQ (f:Nat->Nat->Bool) (L:List ByteArray) (l:List Wd):Int:=if (labW L l).1=0 then oz (fl f L.length (mZ L l)) else 0
def K5 (f:Nat->Nat->Bool) (L:List ByteArray) (l:List Wd):DV:=.tup [.v (.int .i64 (CQ f L l)),(labW L l).d]
theorem tK {L:List ByteArray} {l:List Wd} {e:Nat} {w:Wd} (h:l[e]? = some w):labW L (l.drop e)=if dz L w.s=none then (17,w.a) else labW L (l.drop (e + 1)):=by
 rw [drop_cons h,labW]
theorem tM {L:List ByteArray} {l:List Wd} {e i:Nat} {w:Wd} (h:l[e]? = some w) (hi:dz L w.s=some i):mZ L (l.take (e + 1))=mZ L (l.take e) ++ [i]:=by
 rw [List.take_add_one,h];simp [mZ,hi]
abbrev Tz (L:List DV) (l:List Wd) (b e:Nat):St:=
 ⟨[(0,⟨[],.pt L 0⟩),(5,⟨[],.loc 0 0⟩),(6,⟨[],.v (.int .i64 b)⟩),(16,⟨[],.sl 2 (bQ l) none⟩),(17,⟨[],.v (.int .i64 (bQ l).length)⟩),(18,⟨[],.v (.int .i64 e)⟩)],[[.v (.int .i64 0),.v (.int .i64 0)]],[]⟩
theorem N6 (af:List ByteArray) (aO rows:List Nat) (js:List Int) (hT:iV af aO) (jU:aO.length<=1099511627776) {f:Nat->Nat->Bool} (hL:gq f af.length) (hn:af.length<=32) (hj:∀ x y,x < af.length->y < af.length->JM f af.length js x y)
  (l:List Wd) (hs:wdsWt l<=1099511627776) :
  aV prog 99 [.pt (jG af (dC af aO) rows js) 0,.sl 2 (bQ l) none] (K5 f af l):=by
 have nQ:=bP l;have N7:=rO af (dC af aO) rows js hL hn hj
 have vw:∃ b,fl f af.length []=some b:=by
  have:∀ e,e<=af.length->∃ b,b < af.length/\∀ x,x < e->f b x=true:=by
   intro e
   induction e with
   | zero=>intro _;exact ⟨0,hL.pos,fun _ h=>by omega⟩
   | succ e ih=>
    intro he;obtain ⟨b,hb,dK⟩:=ih (by omega);obtain ⟨k,hk⟩:=hL.mt b e hb (by omega);obtain ⟨g1,g2,g3,_⟩:=qx hk;refine ⟨k,g1,fun x hx=>?_⟩;rcases eT hx with hx | rfl
    ·exact hL.tr k b x g1 hb (by omega) g2 (dK x hx)
    ·exact g3
  obtain ⟨b,hb,dK⟩:=this af.length (aU _);exact ⟨b,qy hL hb dK⟩
 obtain ⟨b0,iE⟩:=vw;rw [iE] at N7;refine eG 41 [.tmp 4,.cell 5 45] func99 rfl ntmps99 rfl fun _ _ _ _=>?_;refine cP SV N7 ?_;refine lI (fun j st=>∃ e b:Nat,st=Tz (jG af (dC af aO) rows js) l b e/\e<=l.length/\labW af l=labW af (l.drop e)/\fl f af.length (mZ af (l.take e))=some b/\(∀ x∈mZ af (l.take e),x < af.length)/\j=l.length - e) ⟨0,b0,rfl,by omega,rfl,iE,by simp [mZ],rfl⟩ (aj ⟨_,rfl⟩ wA rfl rfl rfl wB) ?_;rintro j st ⟨e,b,rfl,he,aP,QS,Au,rfl⟩;have hb:=pg QS;refine br ?_ ?_<;>intro hLt
 ·have au:e < l.length:=by simpa [aC] using hLt
  obtain ⟨w,hw⟩:=gX au;have bd:=tK (L:=af) hw;have CP:=HF af aO rows js w.s hT jU;refine ⟨kK w,⟨by omega,bg hw⟩,?_⟩
  cases hx:dz af w.s with
  | none=>
   rw [hx] at CP;refine cP S3 CP ?_;rw [ai hx] at bd;have h1:labW af l=(17,w.a):=aP.trans bd;refine dS ?_;refine ⟨_,?_,rfl⟩;rw [K5,CQ,h1,ah (by simp)];exact ax
  | some i=>
   rw [hx] at CP;refine cP S3 CP ?_;rw [ah (by rw [hx];simp)] at bd;have hi:=(dH hx).1;obtain ⟨k,hk⟩:=hL.jn b i hb hi;have hz:=(hj b i hb hi).1;rw [hk] at hz;refine cP S4 (x6 af (dC af aO) rows js b i k hb hi hn hz) ?_;refine ⟨Tz (jG af (dC af aO) rows js) l k (e + 1),(aj ⟨_,rfl⟩ wA rfl rfl rfl (dy (aK au (by omega)))),l.length - (e + 1),by omega,e + 1,k,rfl,by omega,aP.trans bd,?_,?_,rfl⟩
   ·rw [tM hw hx];exact uV hL Au hi QS hk
   ·rw [tM hw hx];intro x hm;rcases List.mem_append.1 hm with hm | hm
    ·exact Au x hm
    ·rw [List.mem_singleton.1 hm];exact hi
 ·have aS:e=l.length:=by
   have:=hLt;simp [aC] at this;omega
  subst aS;rw [List.drop_length] at aP;rw [List.take_length] at QS;have h1:labW af l=(0,0):=aP;refine ⟨_,?_,rfl⟩;rw [K5,CQ,h1,ai rfl,QS];exact ax
def HI (x:Ft × Int) (r:DV) (os:List (List DV)) (_:List TkE):Prop:=
 r=x.1.d/\∃ z:Int,os=[[.v (.int .i64 z)]]/\(x.1.1=0->z=x.2)
theorem na {x:Ft × Int}:∀ r os tk,HI x r os tk->clB 0 0 r=true/\∀ sF∈os,clB.clL 0 0 sF=true:=by
 rintro r os tk ⟨rfl,z,rfl,_⟩;refine ⟨rfl,fun sF h=>?_⟩;simp only [List.mem_singleton] at h;subst h;rfl
def N8 (k:Nat):Prop:=∀ (t:Ty) (depth m:Int),t.wt<=k->t.wt<=1099511627776->0<=depth->depth<=25->0<=m->m<=512 ->
 Ev prog 160 [.loc 0 0,.agg (eJ t),.v (.int .i64 depth)] [[.v (.int .i64 m)]] [] (HI (wrong t depth m))
def l8 (p:Ph) (t:Ty) (un:Bool) (depth m:Int):Ft × Int:=
 if p.bare=true then (if un=false∨dG p t (om p) cA=false then ((19,p.name.a),m) else ((0,0),m))
 else if (ep p).1≠0 then (ep p,m)
 else wrong t (depth + 1) m
theorem bO {x:Ft × Int} {f:Ft} {m z:Int} (h:x=(f,m)) (hz:f.1=0->z=m) {tk:List TkE}:HI x f.d [[.v (.int .i64 z)]] tk:=by
 subst h;exact ⟨rfl,z,rfl,hz⟩
theorem HJ (k:Nat) (ih:N8 k) (p:Ph) (t:Ty) (un:Bool) (depth m:Int) (hk:t.wt<=k) (hp:p.wt<=1099511627776) (cM:t.wt<=1099511627776) (vW:0<=depth) (zS:depth<=24) (pD:0<=m) (kp:m<=512) :
  Ev prog 233 [.loc 0 0,.agg (Ha p (eJ t)),.v (.bool un),.v (.int .i64 depth)] [[.v (.int .i64 m)]] [] (HI (l8 p t un depth m)):=by
 have qh:=hp;simp only [Ph.wt] at qh;have uF:=oc p (om p) t cA hp (by simp only [Ph.wt,om,wdsWt];omega) (xG t cA cM (by decide));have ri:=ih t (depth + 1) m hk cM (by omega) (by omega) pD kp;obtain ⟨u,us⟩:=t;have hcoa:=CE p (eJ (.mk u us)) (.mk u us) rfl hp;have hS:=l8.eq_def p (.mk u us) un depth m;generalize l8 p (.mk u us) un depth m=F at hS ⊢;obtain ⟨nm,bare,lab,wide,ck,cn,ca,cl⟩:=p;simp only at hS qh uF
 cases bare with
 | true=>
  rw [ai rfl] at hS
  cases un with
  | true=>
   refine eG 68 [.cell 8 45] func233 rfl ntmps233 rfl fun _ _ _ _=>?_;refine cP M7 uF ?_;refine br ?_ ?_<;>intro q
   ·have q:dG ⟨nm,true,lab,wide,ck,cn,ca,cl⟩ (.mk u us) (om ⟨nm,true,lab,wide,ck,cn,ca,cl⟩) cA=false:=by simpa [show (lastG (21,false) [(18,true)]).snd=true from rfl,pickB] using q
    rw [ai (.inr q)] at hS;refine cP eN (bR 19 nm.a) ?_;exact ⟨_,_,ax,ax,bO (tk:=[]) (f:=(19,nm.a)) hS (fun _=>rfl)⟩
   ·have q:dG ⟨nm,true,lab,wide,ck,cn,ca,cl⟩ (.mk u us) (om ⟨nm,true,lab,wide,ck,cn,ca,cl⟩) cA=true:=by simpa [show (lastG (21,false) [(18,true)]).snd=true from rfl,pickB] using q
    rw [ah (by simp [q])] at hS;exact ⟨_,_,ax,ax,bO (tk:=[]) (f:=(0,0)) hS (fun _=>rfl)⟩
  | false=>
   refine eG 68 [.cell 8 45] func233 rfl ntmps233 rfl fun _ _ _ _=>?_;rw [ai (.inl rfl)] at hS;refine cP eN (bR 19 nm.a) ?_;exact ⟨_,_,ax,ax,bO (tk:=[]) (f:=(19,nm.a)) hS (fun _=>rfl)⟩
 | false=>
  rw [ah (by simp)] at hS;refine eG 68 [.cell 8 45] func233 rfl ntmps233 rfl fun _ _ _ _=>?_;refine br ?_ ?_<;>intro hw
  ·have hw:wide < 0∨64 < wide:=by simpa [ay] using hw
   have hP:ep ⟨nm,false,lab,wide,ck,cn,ca,cl⟩=(20,nm.a):=by simp only [ep,ai hw]
   rw [hP,ai (by simp)] at hS;refine cP eN (bR 20 nm.a) ?_;exact ⟨_,_,ax,ax,bO (tk:=[]) (f:=(20,nm.a)) hS (fun _=>rfl)⟩
  have hw:¬ (wide < 0∨64 < wide):=by simp [ay] at hw;omega
  refine cP Ek (jM lab (by omega)) ?_;refine br ?_ ?_<;>intro hb
  ·have hb:(cg lab).1≠0:=sU hb;have hP:ep ⟨nm,false,lab,wide,ck,cn,ca,cl⟩=cg lab:=by simp only [ep,ah hw,ai hb]
   rw [hP,ai hb] at hS;exact ⟨_,_,ax,ax,bO (tk:=[]) (f:=cg lab) hS (fun _=>rfl)⟩
  have hb:(cg lab).1=0:=sU hb;have hP:ep ⟨nm,false,lab,wide,ck,cn,ca,cl⟩=bz ⟨nm,false,lab,wide,ck,cn,ca,cl⟩:=by simp only [ep,ah hw];rw [ah (by simp [hb])]
  rw [hP] at hS;refine cP YX hcoa ?_;refine br ?_ ?_<;>intro hc
  ·have hc:(bz ⟨nm,false,lab,wide,ck,cn,ca,cl⟩).1≠0:=sU hc;rw [ai hc] at hS;exact ⟨_,_,ax,ax,bO (tk:=[]) (f:=bz ⟨nm,false,lab,wide,ck,cn,ca,cl⟩) hS (fun _=>rfl)⟩
  have hc:(bz ⟨nm,false,lab,wide,ck,cn,ca,cl⟩).1=0:=sU hc;rw [ah (by simp [hc])] at hS;refine mP M1 rfl rfl ax (by repeat' (first | exact rfl | exact trivial | exact Or.inr (Or.inl ⟨_,rfl⟩) | exact Or.inr ⟨_,rfl⟩ | exact Or.inl ⟨rfl,rfl⟩ | exact Or.inl rfl | refine Or.inr ⟨_,_,rfl,Nat.zero_le _,rfl,?_⟩ | refine ⟨_,_,rfl,?_,?_⟩ | refine ⟨_,rfl,?_⟩ | exact congrArg (fun z=>DV.v (.int .i64 z)) (wrap64 (by omega) (by omega)) | refine Or.inr (Or.inr (Or.inr ⟨_,_,rfl,?_⟩)) | exact Or.inl rfl | refine Or.inr ?_)) ri na (fun r sF hr=>?_);obtain ⟨rfl,z,hz,sD⟩:=hr;simp only [List.cons.injEq,and_true] at hz;subst hz;exact ⟨_,_,ax,ax,bO (tk:=[]) (f:=(wrong (.mk u us) (depth + 1) m).1) hS sD⟩
theorem zW {ag:Int} {all:List Wd} {i:Nat} {p:Ph} {t:Ty} {r:Pts} {depth m:Int} (hk:ag=7∨ag=8) (hl:aN all i p.name=0) :
  wrongPts ag all i (.cons p t r) depth m=if (l8 p t (decide (ag=8)) depth m).1.1≠0 then l8 p t (decide (ag=8)) depth m else wrongPts ag all (i + 1) r depth (l8 p t (decide (ag=8)) depth m).2:=by
 simp only [wrongPts];rw [ah (by simp [hl])];unfold l8;by_cases hb:p.bare=true
 ·rw [ai hb,ai hb,Q6];by_cases h7:ag=7
  ·subst h7;rw [ai (.inl rfl),ai (c:=decide ((7:Int)=8)=false∨_) (.inl (by simp)),ai (by simp)]
  ·have h8:ag=8:=by omega
   subst h8;by_cases h:sameTy t cA=false∨cf p fQ=false
   ·have h':decide ((8:Int)=8)=false∨(cf p fQ && sameTy t cA)=false:=.inr (by rcases h with h | h<;>simp [h]);rw [ai (.inr h),ai h',ai (by simp)]
   ·have h1:sameTy t cA=true:=by
     cases hc:sameTy t cA
     ·exact absurd (.inl hc) h
     ·rfl
    have h2:cf p fQ=true:=by
     cases hc:cf p fQ
     ·exact absurd (.inr hc) h
     ·rfl
    have h':¬ (decide ((8:Int)=8)=false∨(cf p fQ && sameTy t cA)=false):=by simp [h1,h2]
    rw [ah (by simp [h1,h2]),ah h',ah (by simp)]
 ·rw [ah hb,ah hb];by_cases hP:(ep p).1≠0
  ·rw [ai hP,ai hP,ai hP]
  ·rw [ah hP,ah hP]
theorem N9 {p:Ph} {t:Ty} {un:Bool} {depth m:Int} (pD:0<=m) (kp:m<=512) (h:(l8 p t un depth m).1.1=0):(l8 p t un depth m).1=(0,0)/\0<=(l8 p t un depth m).2/\(l8 p t un depth m).2<=512:=by
 have hw:=rB t (depth + 1) m pD;unfold l8 at h ⊢;by_cases hb:p.bare=true
 ·rw [ai hb] at h ⊢;split at h
  ·simp at h
  ·rename_i hc;rw [ah hc];exact ⟨rfl,pD,kp⟩
 ·rw [ah hb] at h ⊢;by_cases hP:(ep p).1≠0
  ·rw [ai hP] at h;exact absurd h hP
  ·rw [ah hP] at h ⊢;exact hw h
abbrev ET (h:Hd) (ps:Pts) (n e:Nat) (depth m:Int):St:=
 ⟨[(0,⟨[],.loc 0 0⟩),(2,⟨[],.v (.int .i64 depth)⟩),(4,⟨[],.loc 1 0⟩),(6,⟨[],.loc 2 0⟩),(38,⟨[],.sl 18 (gF ps) none⟩),(39,⟨[],.v (.int .i64 (gF ps).length)⟩),(40,⟨[],.v (.int .i64 e)⟩),(7,⟨[],.sl 1 (fp (aD ((pNames ps).take e))) (some 0)⟩)],
  [[.v (.int .i64 m)],eJ (.mk h ps),[.v (.int .i64 0),.v (.int .i64 0)]],[⟨n,9,1,none⟩]⟩
theorem uW (k:Nat) (ih:N8 k) (h:Hd) (ps:Pts) (depth m:Int) (EU:h.ag=7∨h.ag=8) (hk:ps.wt<=k) (cM:(Ty.mk h ps).wt<=1099511627776) (vW:0<=depth) (zS:depth<=24) (pD:0<=m) (kp:m<=512) :
  Ev prog 202 [.loc 0 0,.agg (eJ (.mk h ps)),.v (.int .i64 depth)] [[.v (.int .i64 m)]] [] (HI (fy h ps depth m)):=by
 simp only [Ty.wt,Hd.wt] at cM;have nD:=ps.gD;have fo:=gZ ps;have Vg:=tv ps;have hS:=fy.eq_def h ps depth m;generalize fy h ps depth m=F at hS ⊢;refine eG 72 [.cell 6 45] func202 rfl ntmps202 rfl fun _ _ _ _=>?_;refine br ?_ ?_<;>intro c1
 ·have c1:h.ag=8/\ps.len=0:=by
   simp [aw,aR] at c1;exact ⟨c1.1,by omega⟩
  rw [ai c1] at hS;refine cP eN (bR 15 h.ba) ?_;exact ⟨_,_,ax,ax,bO (tk:=[]) (f:=(15,h.ba)) hS (fun _=>rfl)⟩
 have c1:¬ (h.ag=8/\ps.len=0):=by
  simp [aw,aR] at c1;omega
 rw [ah c1] at hS;refine br ?_ ?_<;>intro c2
 ·have au:64 < ps.len:=by simp [aR] at c2;omega
  obtain ⟨p,t,hx⟩:=Pts.fh au;refine iX (cr hx) ?_;refine cP eN (bR 8 p.name.a) ?_;rw [ai au,hU hx] at hS;exact ⟨_,_,ax,ax,bO (tk:=[]) (f:=(8,p.name.a)) hS (fun _=>rfl)⟩
 have c2:¬ 64 < ps.len:=by simp [aR] at c2;omega
 rw [ah c2] at hS
 refine bA (fun j st=>∃ (e:Nat) (m':Int),st=ET h ps e e depth m' /\ e<=ps.len/\0<=m' /\ m' <= 512/\(aD ((pNames ps).take e)).Nodup /\
   F=wrongPts h.ag (pNames ps) e (ps.drop e) depth m' /\ j=ps.len - e) ps.len (ET h ps 0 0 depth m) (fM ⟨0,9,1,none⟩ rfl ⟨_,rfl⟩ rfl wA rfl rfl lX) ⟨0,m,rfl,by omega,pD,kp,by simp [aD],hS,by omega⟩ ?_
 rintro j st ⟨e,m',rfl,he,CD,EA,hnd,aP,rfl⟩;refine br ?_ ?_<;>intro hL
 ·have au:e < ps.len:=by simpa [aR] using hL
  obtain ⟨p,t,hx⟩:=Pts.fh au;have hwt:=Pts.gY (mG hx);have eU:=hU hx;have hpw:p.name.s.size + 64<=p.wt:=by simp only [Ph.wt,Wd.wt];omega
  rw [Pts.drop_cons hx] at aP
  have Ns:(aD ((pNames ps).take (e + 1)))[(aD ((pNames ps).take (e + 1))).length - 1]? = some p.name.s:=by
   have zJ:(aD ((pNames ps).take (e + 1))).length=e + 1:=by simp [aD];omega
   rw [zJ];simp [aD,eU]
  have Ux:=uQ (aD ((pNames ps).take (e + 1))) p.name.s p.name.a Ns (by simp [aD];omega) (by omega);have du:=kr eU;rw [AQ p.name.a eU hnd,<- du] at Ux;have EV:=HJ k ih p t (decide (h.ag=8)) depth m' (by omega) (by omega) (by omega) vW zS CD EA;obtain ⟨u,us⟩:=t;refine iX (cr hx) ?_;refine ⟨by simp [cv,aD];omega,⟨by simp [cv,aD,maxLen];omega,by simp [cv,aD];omega⟩,?_⟩;refine cP Td Ux ?_;by_cases hl:aN (pNames ps) e p.name≠0
  ·rw [ai hl];refine br ?_ ?_<;>intro hf
   ·simp only [wrongPts] at aP;rw [ai hl] at aP;exact ⟨_,_,ax,ax,bO (tk:=[]) (f:=(aN (pNames ps) e p.name,p.name.a)) aP (fun _=>rfl)⟩
   ·exact absurd (sU hf) hl
  have hl:aN (pNames ps) e p.name=0:=sU hl;have hndn:=mY eU hnd hl;rw [ah (by simp [hl])];rw [zW EU hl] at aP;have bw:=N9 (p:=p) (t:=.mk u us) (un:=decide (h.ag=8)) (depth:=depth) CD EA;generalize l8 p (.mk u us) (decide (h.ag=8)) depth m'=r at EV aP bw;obtain ⟨⟨fe,fa⟩,many⟩:=r;simp only at aP bw;refine mP YW rfl rfl ax ax EV na (fun r sF hr=>?_);obtain ⟨rfl,z,hz,sD⟩:=hr;simp only [List.cons.injEq,and_true] at hz;subst hz;refine br ?_ ?_<;>intro hd
  ·have hd:fe≠0:=sU hd;rw [ai hd] at aP;exact ⟨_,_,ax,ax,bO (tk:=[]) (f:=(fe,fa)) aP (fun h0=>absurd h0 hd)⟩
  ·have hd:fe=0:=sU hd;subst hd;obtain ⟨_,h2,h3⟩:=bw rfl;rw [ah (by simp)] at aP;have HK:z=many:=sD rfl;subst HK;exact rE ⟨_,by omega,e + 1,z,rfl,by omega,h2,h3,hndn,aP,rfl⟩ (aj ⟨_,rfl⟩ wA rfl rfl rfl (wB2 (aK au (by omega)) du))
 ·have aS:e=ps.len:=by simp [aR] at hL;omega
  rw [aS,Pts.dM] at aP;simp only [wrongPts] at aP;exact ⟨_,_,ax,ax,bO (tk:=[]) (f:=(0,0)) aP (fun _=>rfl)⟩
theorem AX (k:Nat) (ih:N8 k) (h:Hd) (ps:Pts) (depth m:Int) (hk:ps.wt<=k) (cM:(Ty.mk h ps).wt<=1099511627776) (vW:0<=depth) (zS:depth<=24) (pD:0<=m) (kp:m<=512) :
  Ev prog 201 [.loc 0 0,.agg (eJ (.mk h ps)),.v (.int .i64 depth)] [[.v (.int .i64 m)]] [] (HI (wrongOne h ps depth m)):=by
 simp only [Ty.wt,Hd.wt] at cM
 cases ps with
 | nil=>
  have hS:wrongOne h .nil depth m=((19,h.ba),m):=by simp only [wrongOne]
  generalize wrongOne h .nil depth m=F at hS ⊢;refine eG 44 [.cell 6 45] func201 rfl ntmps201 rfl fun _ _ _ _=>?_;refine cP eN (bR 19 h.ba) ?_;exact ⟨_,_,ax,ax,bO (tk:=[]) (f:=(19,h.ba)) hS (fun _=>rfl)⟩
 | cons p t r=>
  cases r with
  | cons p2 t2 r2=>
   have hS:wrongOne h (.cons p t (.cons p2 t2 r2)) depth m=((19,h.ba),m):=by simp only [wrongOne]
   generalize wrongOne h (.cons p t (.cons p2 t2 r2)) depth m=F at hS ⊢;refine eG 44 [.cell 6 45] func201 rfl ntmps201 rfl fun _ _ _ _=>?_;refine cP eN (bR 19 h.ba) ?_;exact ⟨_,_,ax,ax,bO (tk:=[]) (f:=(19,h.ba)) hS (fun _=>rfl)⟩
  | nil=>
   simp only [Pts.wt] at cM hk;have hS:wrongOne h (.cons p t .nil) depth m=if p.name.s≠az∨cf p fx=false then ((19,h.ba),m) else if h.most < 0∨1024 < h.most then ((20,h.ba),m) else wrong t (depth + 1) m:=by simp only [wrongOne]
   generalize wrongOne h (.cons p t .nil) depth m=F at hS ⊢;have Qc:=ED p t (by omega);rw [empty_eq] at Qc;have ri:=ih t (depth + 1) m (by omega) (by omega) (by omega) (by omega) pD kp;obtain ⟨u,us⟩:=t;refine eG 44 [.cell 6 45] func201 rfl ntmps201 rfl fun _ _ _ _=>?_;refine ⟨_,⟨by omega,rfl⟩,?_⟩;refine cP YV Qc ?_;refine br ?_ ?_<;>intro q
   ·have q:p.name.s≠az∨cf p fx=false:=by
     have:=q;simp [pickB] at this;exact this
    rw [ai q] at hS;refine cP eN (bR 19 h.ba) ?_;exact ⟨_,_,ax,ax,bO (tk:=[]) (f:=(19,h.ba)) hS (fun _=>rfl)⟩
   have q:¬ (p.name.s≠az∨cf p fx=false):=by
    have:=q;simp [pickB] at this;simp [this.1,this.2]
   rw [ah q] at hS;refine br ?_ ?_<;>intro x
   ·have x:h.most < 0∨1024 < h.most:=by simpa [ay] using x
    rw [ai x] at hS;refine cP eN (bR 20 h.ba) ?_;exact ⟨_,_,ax,ax,bO (tk:=[]) (f:=(20,h.ba)) hS (fun _=>rfl)⟩
   have x:¬ (h.most < 0∨1024 < h.most):=by simp [ay] at x;omega
   rw [ah x] at hS;refine ⟨_,⟨by omega,rfl⟩,?_⟩;refine mP M1 rfl rfl ax (by repeat' (first | exact rfl | exact trivial | exact Or.inr (Or.inl ⟨_,rfl⟩) | exact Or.inr ⟨_,rfl⟩ | exact Or.inl ⟨rfl,rfl⟩ | exact Or.inl rfl | refine Or.inr ⟨_,_,rfl,Nat.zero_le _,rfl,?_⟩ | refine ⟨_,_,rfl,?_,?_⟩ | refine ⟨_,rfl,?_⟩ | exact congrArg (fun z=>DV.v (.int .i64 z)) (wrap64 (by omega) (by omega)) | refine Or.inr (Or.inr (Or.inr ⟨_,_,rfl,?_⟩)) | exact Or.inl rfl | refine Or.inr ?_)) ri na (fun r sF hr=>?_);obtain ⟨rfl,z,hz,sD⟩:=hr;simp only [List.cons.injEq,and_true] at hz;subst hz;exact ⟨_,_,ax,ax,bO (tk:=[]) (f:=(wrong (.mk u us) (depth + 1) m).1) hS sD⟩
theorem EW (k:Nat) (ih:N8 k) (h:Hd) (ps:Pts) (depth m:Int) (hk:ps.wt<=k) (cM:(Ty.mk h ps).wt<=1099511627776) (vW:0<=depth) (zS:depth<=25) (pD:0<=m) (kp:m<=512) :
  Ev prog 160 [.loc 0 0,.agg (eJ (.mk h ps)),.v (.int .i64 depth)] [[.v (.int .i64 m)]] [] (HI (wrong (.mk h ps) depth m)):=by
 have AY:=cM;simp only [Ty.wt,Hd.wt] at AY;have sG:IntKind.i64.wrap (m + 1)=m + 1:=wrap64 (by omega) (by omega);have hS:=wrong.eq_def (.mk h ps) depth m;simp only at hS;generalize wrong (.mk h ps) depth m=F at hS ⊢;have gk:=KL h ps;rw [Jq] at gk;refine eG 103 [.cell 6 45] func160 rfl ntmps160 rfl fun _ _ _ _=>?_;refine br ?_ ?_<;>intro c
 ·have c:24 < depth:=of_decide_eq_true c;rw [ai c] at hS;refine cP eN (bR 6 h.ba) ?_;exact ⟨_,[[.v (.int .i64 (m + 1))]],ax,(gU sG),bO (tk:=[]) (f:=(6,h.ba)) hS (fun _=>rfl)⟩
 have c:¬ 24 < depth:=of_decide_eq_false c;rw [ah c] at hS;refine br ?_ ?_<;>intro c
 ·have c:512 < IntKind.i64.wrap (m + 1):=of_decide_eq_true c;rw [sG] at c;rw [ai c] at hS;refine cP eN (bR 8 h.ba) ?_;exact ⟨_,[[.v (.int .i64 (m + 1))]],ax,(gU sG),bO (tk:=[]) (f:=(8,h.ba)) hS (fun _=>rfl)⟩
 have c:¬ 512 < IntKind.i64.wrap (m + 1):=of_decide_eq_false c;rw [sG] at c;rw [ah c] at hS;refine br ?_ ?_<;>intro c
 ·have c:h.ag < 1∨9 < h.ag:=by simpa [ay] using c
  rw [ai c] at hS;refine cP eN (bR 14 h.ba) ?_;exact ⟨_,[[.v (.int .i64 (m + 1))]],ax,(gU sG),bO (tk:=[]) (f:=(14,h.ba)) hS (fun _=>rfl)⟩
 have ck:¬ (h.ag < 1∨9 < h.ag):=by simp [ay] at c;omega
 rw [ah ck] at hS;refine cP YO gk ?_;refine br ?_ ?_<;>intro c
 ·have c:vD (.mk h ps)=false:=by simpa [vD] using c
  rw [ai c] at hS;refine cP eN (bR 19 h.ba) ?_;exact ⟨_,[[.v (.int .i64 (m + 1))]],ax,(gU sG),bO (tk:=[]) (f:=(19,h.ba)) hS (fun _=>rfl)⟩
 have c:¬ vD (.mk h ps)=false:=by simpa [vD] using c
 rw [ah c] at hS;refine br ?_ ?_<;>intro k2
 ·have k2:h.ag=2:=of_decide_eq_true k2;refine br ?_ ?_<;>intro x
  ·have x:h.hi < h.lo:=of_decide_eq_true x;rw [ai (.inl ⟨k2,x⟩)] at hS;refine cP eN (bR 20 h.ba) ?_;exact ⟨_,[[.v (.int .i64 (m + 1))]],ax,(gU sG),bO (tk:=[]) (f:=(20,h.ba)) hS (fun _=>rfl)⟩
  have x:¬ h.hi < h.lo:=of_decide_eq_false x;rw [ah (by omega),ah (by omega),ah (by omega),ah (by omega),ah (by omega)] at hS;exact ⟨_,[[.v (.int .i64 (m + 1))]],ax,(gU sG),bO (tk:=[]) (f:=(0,0)) hS (fun _=>rfl)⟩
 have k2:¬ h.ag=2:=of_decide_eq_false k2;refine br ?_ ?_<;>intro k3
 ·have k3:h.ag=3:=of_decide_eq_true k3;refine br ?_ ?_<;>intro x
  ·have x:h.most < 0∨4096 < h.most:=by simpa [ay] using x
   rw [ai (.inr ⟨k3,x⟩)] at hS;refine cP eN (bR 20 h.ba) ?_;exact ⟨_,[[.v (.int .i64 (m + 1))]],ax,(gU sG),bO (tk:=[]) (f:=(20,h.ba)) hS (fun _=>rfl)⟩
  have x:¬ (h.most < 0∨4096 < h.most):=by simp [ay] at x;omega
  rw [ah (by omega),ah (by omega),ah (by omega),ah (by omega),ah (by omega)] at hS;exact ⟨_,[[.v (.int .i64 (m + 1))]],ax,(gU sG),bO (tk:=[]) (f:=(0,0)) hS (fun _=>rfl)⟩
 have k3:¬ h.ag=3:=of_decide_eq_false k3;rw [ah (by omega)] at hS;refine br ?_ ?_<;>intro k4
 ·have k4:h.ag=4:=of_decide_eq_true k4;rw [ah (by omega),ai k4,<- NV] at hS;refine cP YP (Hm h ps (by omega)) ?_;exact ⟨_,[[.v (.int .i64 (m + 1))]],ax,(gU sG),bO (tk:=[]) (f:=od h) hS (fun _=>rfl)⟩
 have k4:¬ h.ag=4:=of_decide_eq_false k4;refine br ?_ ?_<;>intro k5
 ·have k5':h.ag=5∨h.ag=6:=.inl (of_decide_eq_true k5);rw [ah (by omega),ah (by omega),ai k5'] at hS;refine br (fun _=>?_) (fun hc=>by rw [k5] at hc;cases hc);refine mP Ta rfl rfl (cs':=[.v (.int .i64 (m + 1))]) (gU sG) ax (AX k ih h ps depth (m + 1) hk cM vW (by omega) (by omega) (by omega)) na (fun r sF hr=>?_);obtain ⟨rfl,z,hz,sD⟩:=hr;simp only [List.cons.injEq,and_true] at hz;subst hz;exact ⟨_,_,ax,ax,bO (tk:=[]) (f:=(wrongOne h ps depth (m + 1)).1) hS sD⟩
 have k5:¬ h.ag=5:=of_decide_eq_false k5;refine br ?_ ?_<;>intro k6
 ·have k5':h.ag=5∨h.ag=6:=.inr (of_decide_eq_true k6);rw [ah (by omega),ah (by omega),ai k5'] at hS;refine mP Ta rfl rfl (cs':=[.v (.int .i64 (m + 1))]) (gU sG) ax (AX k ih h ps depth (m + 1) hk cM vW (by omega) (by omega) (by omega)) na (fun r sF hr=>?_);obtain ⟨rfl,z,hz,sD⟩:=hr;simp only [List.cons.injEq,and_true] at hz;subst hz;exact ⟨_,_,ax,ax,bO (tk:=[]) (f:=(wrongOne h ps depth (m + 1)).1) hS sD⟩
 have k6:¬ h.ag=6:=of_decide_eq_false k6;have hP:fy h ps depth (m + 1)=fy h ps depth (m + 1):=rfl
 conv at hP=>lhs;unfold fy
 refine br ?_ ?_<;>intro k7
 ·have Zv:h.ag=7∨h.ag=8:=.inl (of_decide_eq_true k7);rw [ah (by omega),ah (by omega),ah (by omega),ai Zv,hP] at hS;refine br (fun _=>?_) (fun hc=>by rw [k7] at hc;cases hc);refine mP Tb rfl rfl (cs':=[.v (.int .i64 (m + 1))]) (gU sG) ax (uW k ih h ps depth (m + 1) Zv hk cM vW (by omega) (by omega) (by omega)) na (fun r sF hr=>?_);obtain ⟨rfl,z,hz,sD⟩:=hr;simp only [List.cons.injEq,and_true] at hz;subst hz;exact ⟨_,_,ax,ax,bO (tk:=[]) (f:=(fy h ps depth (m + 1)).1) hS sD⟩
 have k7:¬ h.ag=7:=of_decide_eq_false k7;refine br ?_ ?_<;>intro k8
 ·have Zv:h.ag=7∨h.ag=8:=.inr (of_decide_eq_true k8);rw [ah (by omega),ah (by omega),ah (by omega),ai Zv,hP] at hS;refine mP Tb rfl rfl (cs':=[.v (.int .i64 (m + 1))]) (gU sG) ax (uW k ih h ps depth (m + 1) Zv hk cM vW (by omega) (by omega) (by omega)) na (fun r sF hr=>?_);obtain ⟨rfl,z,hz,sD⟩:=hr;simp only [List.cons.injEq,and_true] at hz;subst hz;exact ⟨_,_,ax,ax,bO (tk:=[]) (f:=(fy h ps depth (m + 1)).1) hS sD⟩
 have k8:¬ h.ag=8:=of_decide_eq_false k8;refine br ?_ ?_<;>intro k9
 ·have k9:h.ag=9:=of_decide_eq_true k9;refine cP G9 (jr h.name.s (by simp only [Wd.wt] at AY;omega)) ?_;refine br ?_ ?_<;>intro q
  ·have q:bq h.name.s=false:=sU q;rw [ai ⟨k9,q⟩] at hS;refine cP eN (bR 9 h.name.a) ?_;exact ⟨_,[[.v (.int .i64 (m + 1))]],ax,(gU sG),bO (tk:=[]) (f:=(9,h.name.a)) hS (fun _=>rfl)⟩
  ·have q:bq h.name.s=true:=sU q;rw [ah (by simp [q]),ah (by omega),ah (by omega),ah (by omega)] at hS;exact ⟨_,[[.v (.int .i64 (m + 1))]],ax,(gU sG),bO (tk:=[]) (f:=(0,0)) hS (fun _=>rfl)⟩
 have k9:¬ h.ag=9:=of_decide_eq_false k9;rw [ah (by omega),ah (by omega),ah (by omega),ah (by omega)] at hS;exact ⟨_,[[.v (.int .i64 (m + 1))]],ax,(gU sG),bO (tk:=[]) (f:=(0,0)) hS (fun _=>rfl)⟩
theorem EX:∀ k,N8 k
 | 0=>fun t depth m hk=>by have:=t.eO;omega
 | k + 1=>fun t depth m hk cM vW zS pD kp=>by
  obtain ⟨h,ps⟩:=t;have fb:=hk;simp only [Ty.wt,Hd.wt] at fb;exact EW k (EX k) h ps depth m (by omega) cM vW zS pD kp
theorem EY (t:Ty) (cM:t.wt<=1099511627776):aV prog 96 [.agg (eJ t)] (wrong t 1 0).1.d:=
 KM t (EX t.wt t 1 0 (aU _) cM (by omega) (by omega) (by omega) (by omega))
abbrev Oa (t:Ty) (ps:Pts) (e n:Nat):St:=
 ⟨[(1,⟨[],.loc 0 0⟩),(3,⟨[],.v (.int .i64 n)⟩),(7,⟨[],.sl 18 (gF ps) none⟩),(8,⟨[],.v (.int .i64 (gF ps).length)⟩),(9,⟨[],.v (.int .i64 e)⟩)],[eJ t],[]⟩
theorem x8:∀ (k:Nat) (t:Ty),t.wt<=k->t.wt<=1099511627776 ->
  aV prog 97 [.agg (eJ t)] (.v (.int .i64 t.cnt))
 | 0,t,hn,_=>by have:=t.eO;omega
 | k + 1,.mk h ps,hn,cM=>by
  simp only [Ty.wt,Hd.wt] at hn cM;have nD:=ps.gD;have hc:=ps.fi;refine eG 23 [.tmp 2] func97 rfl ntmps97 rfl fun _ _ _ _=>?_
  refine bA (fun j st=>∃ (e n:Nat),st=Oa (.mk h ps) ps e n/\e<=ps.len/\n + (ps.drop e).cnt=1 + ps.cnt/\j=ps.len - e) ps.len
   (Oa (.mk h ps) ps 0 1) (aj ⟨_,rfl⟩ wA rfl rfl rfl wB) ⟨0,1,rfl,by omega,rfl,by omega⟩ ?_
  rintro j st ⟨e,n,rfl,he,bF,rfl⟩;refine br ?_ ?_<;>intro hL
  ·have au:e < ps.len:=by simpa [aR] using hL
   obtain ⟨p,t,hx⟩:=Pts.fh au;have hwt:=Pts.gY (mG hx);rw [Pts.drop_cons hx] at bF;simp only [Pts.cnt] at bF;have L9:=t.fi;obtain ⟨u,us⟩:=t;refine iX (cr hx) ?_;refine br ?_ ?_<;>intro hB
   ·have hB:p.bare=false:=sU hB;rw [hB] at bF;have bF:n + ((Ty.mk u us).cnt + (ps.drop (e + 1)).cnt)=1 + ps.cnt:=bF;refine cP Yd (x8 k (.mk u us) (by omega) (by omega)) ?_;have DN:IntKind.i64.wrap ((n:Int) + (Ty.mk u us).cnt)=((n + (Ty.mk u us).cnt:Nat):Int):=by rw [wrap64 (by omega) (by omega)];omega
    exact ⟨Oa (.mk h ps) ps (e + 1) (n + (Ty.mk u us).cnt),(aj ⟨_,rfl⟩ wA rfl rfl rfl (wB2 DN (aK au (by omega)))),ps.len - (e + 1),by omega,e + 1,_,rfl,by omega,by omega,rfl⟩
   ·have hB:p.bare=true:=sU hB;rw [hB] at bF;have bF:n + (0 + (ps.drop (e + 1)).cnt)=1 + ps.cnt:=bF;exact rE ⟨_,by omega,e + 1,n,rfl,by omega,by omega,rfl⟩ (aj ⟨_,rfl⟩ wA rfl rfl rfl (dy (aK au (by omega))))
  ·have aS:e=ps.len:=by simp [aR] at hL;omega
   rw [aS,Pts.dM] at bF;simp only [Pts.cnt] at bF;have e2:(n:Int)=((Ty.mk h ps).cnt:Int):=by simp only [Ty.cnt];omega
   refine (congrArg (fun z=>DV.v (.int .i64 z)) ?_:_=_);exact e2
mutual
def Ty.nn:Ty->Nat
 | .mk h ps=>if h.ag=9 then 0 else 1 + ps.nn
def Pts.nn:Pts->Nat
 | .nil=>0
 | .cons p t r=>(if p.bare then 0 else t.nn) + r.nn
end
mutual
theorem Ty.hZ:∀ t:Ty,t.nn<=t.cnt
 | .mk h ps=>by
  have:=Pts.hZ ps;simp only [Ty.nn,Ty.cnt];split<;>omega
theorem Pts.hZ:∀ ps:Pts,ps.nn<=ps.cnt
 | .nil=>aU _
 | .cons p t r=>by
  have:=Ty.hZ t;have:=Pts.hZ r;simp only [Pts.nn,Pts.cnt];split<;>omega
end
abbrev VG (t:Ty) (ps:Pts) (e n:Nat):St:=
 ⟨[(1,⟨[],.loc 0 0⟩),(3,⟨[],.v (.int .i64 n)⟩),(10,⟨[],.sl 18 (gF ps) none⟩),(11,⟨[],.v (.int .i64 (gF ps).length)⟩),(12,⟨[],.v (.int .i64 e)⟩)],[eJ t],[]⟩
theorem x9:∀ (k:Nat) (t:Ty),t.wt<=k->t.wt<=1099511627776 ->
  aV prog 101 [.agg (eJ t)] (.v (.int .i64 t.nn))
 | 0,t,hn,_=>by have:=t.eO;omega
 | k + 1,.mk h ps,hn,cM=>by
  simp only [Ty.wt,Hd.wt] at hn cM;have nD:=ps.gD;have hc:=ps.fi;have lF:=ps.hZ;refine eG 26 [.tmp 2] func101 rfl ntmps101 rfl fun _ _ _ _=>?_;refine br ?_ ?_<;>intro h9
  ·have h9:h.ag=9:=sU h9;have:(Ty.mk h ps).nn=0:=by simp [Ty.nn,h9]
   rw [this];exact (rfl:_=_)
  have h9:¬ h.ag=9:=sU h9
  refine bA (fun j st=>∃ (e n:Nat),st=VG (.mk h ps) ps e n/\e<=ps.len/\n + (ps.drop e).nn=1 + ps.nn/\j=ps.len - e) ps.len
   (VG (.mk h ps) ps 0 1) (aj ⟨_,rfl⟩ wA rfl rfl rfl wB) ⟨0,1,rfl,by omega,rfl,by omega⟩ ?_
  rintro j st ⟨e,n,rfl,he,bF,rfl⟩;refine br ?_ ?_<;>intro hL
  ·have au:e < ps.len:=by simpa [aR] using hL
   obtain ⟨p,t,hx⟩:=Pts.fh au;have hwt:=Pts.gY (mG hx);rw [Pts.drop_cons hx] at bF;simp only [Pts.nn] at bF;have L9:=t.fi;have hct2:=t.hZ;obtain ⟨u,us⟩:=t;refine iX (cr hx) ?_;refine br ?_ ?_<;>intro hB
   ·have hB:p.bare=false:=sU hB;rw [hB] at bF;have bF:n + ((Ty.mk u us).nn + (ps.drop (e + 1)).nn)=1 + ps.nn:=bF;refine cP SN (x9 k (.mk u us) (by omega) (by omega)) ?_;have DN:IntKind.i64.wrap ((n:Int) + (Ty.mk u us).nn)=((n + (Ty.mk u us).nn:Nat):Int):=by rw [wrap64 (by omega) (by omega)];omega
    exact ⟨VG (.mk h ps) ps (e + 1) (n + (Ty.mk u us).nn),(aj ⟨_,rfl⟩ wA rfl rfl rfl (wB2 DN (aK au (by omega)))),ps.len - (e + 1),by omega,e + 1,_,rfl,by omega,by omega,rfl⟩
   ·have hB:p.bare=true:=sU hB;rw [hB] at bF;have bF:n + (0 + (ps.drop (e + 1)).nn)=1 + ps.nn:=bF;exact rE ⟨_,by omega,e + 1,n,rfl,by omega,by omega,rfl⟩ (aj ⟨_,rfl⟩ wA rfl rfl rfl (dy (aK au (by omega))))
  ·have aS:e=ps.len:=by simp [aR] at hL;omega
   rw [aS,Pts.dM] at bF;simp only [Pts.nn] at bF;have e2:(n:Int)=((Ty.mk h ps).nn:Int):=by simp only [Ty.nn,ah h9];omega
   refine (congrArg (fun z=>DV.v (.int .i64 z)) ?_:_=_);exact e2
structure Lx where
 af:List ByteArray
 aO:List Nat
 rows:List Nat
 js:List Int
 f:Nat->Nat->Bool
def Lx.pd (X:Lx):DV:=.pt (jG X.af (dC X.af X.aO) X.rows X.js) 0
def Lx.lev (X:Lx) (l:List Wd):Int:=CQ X.f X.af l
def Lx.bad (X:Lx) (l:List Wd):Ft:=labW X.af l
structure Lx.OK (X:Lx):Prop where
 hT:iV X.af X.aO
 jU:X.aO.length<=1099511627776
 hL:gq X.f X.af.length
 hn:X.af.length<=32
 hj:∀ x y,x < X.af.length->y < X.af.length->JM X.f X.af.length X.js x y
theorem Lx.rP {X:Lx} (h:X.OK) (l:List Wd) (hs:wdsWt l<=1099511627776):aV prog 99 [X.pd,.sl 2 (bQ l) none] (.tup [.v (.int .i64 (X.lev l)),(X.bad l).d]):=
 N6 X.af X.aO X.rows X.js h.hT h.jU h.hL h.hn h.hj l hs
def bC (s:Sch) (lat out:DV) (m:Int):List DV:=.sl 2 (bQ s.ae) none :: .sl 4 (nJ s.order) none :: .sl 11 (dNms s.types) none :: (eJ s.root ++ [lat,out,.v (.int .i64 m)])
theorem ya {X:Lx} (h:X.OK) (s:Sch) (pc:List DV) (m:Int) (l:List Wd) (hs:wdsWt l<=1099511627776) :
  aV prog 165 [.pt (bC s X.pd (.pt pc 0) m) 0,.sl 2 (bQ l) none] (.v (.int .i64 (X.lev l))):=by
 obtain ⟨ae,order,types,⟨rh,rp⟩⟩:=s;refine eG 17 [.tmp 4] func165 rfl ntmps165 rfl fun _ _ _ _=>?_;refine cP MR (Lx.rP h l hs) ?_;exact (rfl:_=_)
def vF (s:Sch):List Wd:=s.types.map fun x=>x.1
def tL (s:Sch):List ByteArray:=aD (vF s)
theorem JD (s:Sch):(vF s).length=s.types.length:=by simp [vF]
theorem kQ (s:Sch):(tL s).length=s.types.length:=by simp [tL,aD,vF]
def pC (s:Sch) (aO:List Nat) (a b c e:DV):List DV:=[a,b,c,.pt (dC (tL s) aO) 0,e]
def vG (s:Sch) (t:Ty):Bool:=decide (t.h.ag=9->dz (tL s) t.h.name.s≠none)
def endI (s:Sch):Nat->Nat->Option Nat
 | 0,_=>none
 | k + 1,i=>
  match s.types[i]? with
  | none=>none
  | some x=>if x.2.h.ag=9 then endI s k ((dz (tL s) x.2.h.name.s).getD 0) else some i
theorem rQ {s:Sch}:∀ {k i j:Nat},endI s k i=some j->j < s.types.length/\∀ x,s.types[j]? = some x->x.2.h.ag≠9
 | 0,i,j,h=>by cases h
 | k + 1,i,j,h=>by
  rw [endI] at h
  cases hx:s.types[i]? with
  | none=>rw [hx] at h;cases h
  | some x=>
   rw [hx] at h;simp only at h;split at h
   ·exact rQ h
   ·rename_i hk;simp only [oI] at h;subst h;refine ⟨(gS hx).1,fun y hy=>?_⟩;rw [hx] at hy;simp only [oI] at hy;subst hy;exact hk
abbrev TA (B:DV) (n i e:Nat):St:=
 ⟨[(0,⟨[],B⟩),(1,⟨[],.v (.int .i64 i)⟩),(12,⟨[],.v (.int .i64 n)⟩),(13,⟨[],.v (.int .i64 e)⟩)],[],[]⟩
theorem EZ (s:Sch) (lat:DV) (aO:List Nat) (a b c e0:DV) (m:Int) (hT:iV (tL s) aO) (jU:aO.length<=1099511627776) (hl:s.types.length<=64) (hr:∀ x∈s.types,vG s x.2=true) (i:Nat) (hi:i < s.types.length) :
  aV prog 100 [.pt (bC s lat (.pt (pC s aO a b c e0) 0) m) 0,.v (.int .i64 i)] (.v (.int .i64 (oz (endI s (s.types.length + 1) i)))):=by
 have hY:=kQ s;obtain ⟨ae,order,types,⟨rh,rp⟩⟩:=s;simp only at hl hr hi hY;have hN:=eB types;have VH:IntKind.i64.wrap ((((dNms types).length:Nat):Int) + 1)=((types.length + 1:Nat):Int):=by rw [hN,wrap64 (by omega) (by omega)];all_goals rfl
 refine eG 43 [.tmp 4] func100 rfl ntmps100 rfl fun _ _ _ _=>?_
 refine bA (fun j st=>∃ e q:Nat,st=TA (.pt (bC ⟨ae,order,types,.mk rh rp⟩ lat (.pt (pC ⟨ae,order,types,.mk rh rp⟩ aO a b c e0) 0) m) 0) (types.length + 1) q e/\e<=types.length + 1/\q < types.length/\endI ⟨ae,order,types,.mk rh rp⟩ (types.length + 1) i=endI ⟨ae,order,types,.mk rh rp⟩ (types.length + 1 - e) q/\j=types.length + 1 - e) (types.length + 1)
  (TA (.pt (bC ⟨ae,order,types,.mk rh rp⟩ lat (.pt (pC ⟨ae,order,types,.mk rh rp⟩ aO a b c e0) 0) m) 0) (types.length + 1) i 0) (aj ⟨_,rfl⟩ wA rfl rfl rfl (dy VH)) ⟨0,i,rfl,by omega,hi,rfl,by omega⟩ ?_
 rintro j st ⟨e,q,rfl,he,hq,aP,rfl⟩;refine br ?_ ?_<;>intro hL
 ·have au:e < types.length + 1:=by have:=hL;simp at this;omega
  obtain ⟨x,hx⟩:∃ x,types[q]? = some x:=⟨_,gE hq⟩;have Rf:=hr x (mG hx);obtain ⟨xw,⟨xh,xp⟩⟩:=x
  have bd:endI ⟨ae,order,types,.mk rh rp⟩ (types.length + 1 - e) q=if xh.ag=9 then endI ⟨ae,order,types,.mk rh rp⟩ (types.length + 1 - (e + 1)) ((dz (tL ⟨ae,order,types,.mk rh rp⟩) xh.name.s).getD 0) else some q:=by
   rw [show types.length + 1 - e=(types.length + 1 - (e + 1)) + 1 by omega,endI];simp only [hx];rfl
  rw [bd] at aP;refine iX (dNms_get hx) ?_;refine br ?_ ?_<;>intro h9
  ·have h9:¬ xh.ag=9:=sU h9;rw [ah h9] at aP;rw [aP];exact (rfl:_=_)
  have h9:xh.ag=9:=sU h9;rw [ai h9] at aP
  have bF:dz (tL ⟨ae,order,types,.mk rh rp⟩) xh.name.s≠none:=by
   have:=of_decide_eq_true Rf;exact this h9
  obtain ⟨k,hk⟩:=Option.ne_none_iff_exists'.1 bF;have ej:=(dH hk).1;rw [hk] at aP;have hf:=jz (tL ⟨ae,order,types,.mk rh rp⟩) aO xh.name.s hT jU;rw [hk] at hf;refine dI ?_;refine cD xj hf ?_;exact rE ⟨_,by omega,e + 1,k,rfl,by omega,by omega,aP,rfl⟩ (aj ⟨_,rfl⟩ wA rfl rfl rfl (dy (aK au (by omega))))
 ·have aS:e=types.length + 1:=by have:=hL;simp at this;omega
  subst aS;rw [Nat.sub_self] at aP;rw [aP];exact (rfl:_=_)
def loopF (s:Sch):Ft:=
 match bS (fun i=>(endI s (s.types.length + 1) i).isNone) s.types.length with
 | none=>(0,0)
 | some i=>(11,VD (vF s) i)
abbrev CR (B:DV) (s:Sch) (e:Nat):St:=
 ⟨[(0,⟨[],B⟩),(2,⟨[],.loc 0 0⟩),(9,⟨[],.sl 11 (dNms s.types) none⟩),(10,⟨[],.v (.int .i64 (dNms s.types).length)⟩),(11,⟨[],.v (.int .i64 e)⟩)],[[.v (.int .i64 0),.v (.int .i64 0)]],[]⟩
theorem HL (s:Sch) (lat:DV) (aO:List Nat) (a b c e0:DV) (m:Int) (hT:iV (tL s) aO) (jU:aO.length<=1099511627776) (hl:s.types.length<=64) (hr:∀ x∈s.types,vG s x.2=true) :
  aV prog 41 [.pt (bC s lat (.pt (pC s aO a b c e0) 0) m) 0] (loopF s).d:=by
 have hend:=EZ s lat aO a b c e0 m hT jU hl hr;have hN:=eB s.types;have hF:=loopF.eq_1 s;obtain ⟨ae,order,types,⟨rh,rp⟩⟩:=s;simp only at hl hr hend hN;refine eG 26 [.cell 2 45] func41 rfl ntmps41 rfl fun _ _ _ _=>?_
 refine bA (fun j st=>∃ e:Nat,st=CR (.pt (bC ⟨ae,order,types,.mk rh rp⟩ lat (.pt (pC ⟨ae,order,types,.mk rh rp⟩ aO a b c e0) 0) m) 0) ⟨ae,order,types,.mk rh rp⟩ e/\e<=types.length/\(∀ i,i < e->(endI ⟨ae,order,types,.mk rh rp⟩ (types.length + 1) i).isNone=false)/\j=types.length - e) types.length
  (CR (.pt (bC ⟨ae,order,types,.mk rh rp⟩ lat (.pt (pC ⟨ae,order,types,.mk rh rp⟩ aO a b c e0) 0) m) 0) ⟨ae,order,types,.mk rh rp⟩ 0) (aj ⟨_,rfl⟩ wA rfl rfl rfl wB) ⟨0,rfl,by omega,fun _ h=>by omega,by omega⟩ ?_
 rintro j st ⟨e,rfl,he,fv,rfl⟩;refine br ?_ ?_<;>intro hL
 ·have au:e < types.length:=by have:=hL;simp [hN] at this;exact this
  obtain ⟨x,hx⟩:=gX au;have Ob:(vF ⟨ae,order,types,.mk rh rp⟩)[e]? = some x.1:=by simp [vF,hx]
  have h1:=hend e au;obtain ⟨xw,⟨xh,xp⟩⟩:=x;refine iX (dNms_get hx) ?_;refine cP en100 h1 ?_
  cases hE:endI ⟨ae,order,types,.mk rh rp⟩ (types.length + 1) e with
  | none=>
   have DJ:=bI (p:=fun i=>(endI ⟨ae,order,types,.mk rh rp⟩ (types.length + 1) i).isNone) au (by simp only [hE];rfl) fv;simp only [DJ] at hF;rw [lx Ob] at hF;refine ⟨_,?_,rfl⟩;rw [hF];exact ax
  | some k=>
   refine ⟨CR (.pt (bC ⟨ae,order,types,.mk rh rp⟩ lat (.pt (pC ⟨ae,order,types,.mk rh rp⟩ aO a b c e0) 0) m) 0) ⟨ae,order,types,.mk rh rp⟩ (e + 1),(aj ⟨_,rfl⟩ wA rfl rfl rfl (dy (aK au (by omega)))),types.length - (e + 1),by omega,e + 1,rfl,by omega,fun i hi=>?_,rfl⟩;rcases eT hi with hi | rfl
   ·exact fv i hi
   ·rw [hE];all_goals rfl
 ·have aS:e=types.length:=sW hN hL;subst aS;simp only [bU fv] at hF;refine ⟨_,?_,rfl⟩;rw [hF];exact ax
mutual
def knT (X:Lx) (L:List ByteArray):Ty->Ft
 | .mk h ps=>if h.ag=9/\dz L h.name.s=none then (15,h.name.a) else knP X L ps
def knP (X:Lx) (L:List ByteArray):Pts->Ft
 | .nil=>(0,0)
 | .cons p t r=>if (X.bad p.label).1≠0 then X.bad p.label else if (X.bad p.cl).1≠0 then X.bad p.cl else if p.bare then knP X L r else if (knT X L t).1≠0 then knT X L t else knP X L r
end
abbrev Zw (B:DV) (t:Ty) (ps:Pts) (e:Nat):St:=
 ⟨[(0,⟨[],B⟩),(3,⟨[],.loc 0 0⟩),(4,⟨[],.loc 1 0⟩),(38,⟨[],.sl 18 (gF ps) none⟩),(39,⟨[],.v (.int .i64 (gF ps).length)⟩),(40,⟨[],.v (.int .i64 e)⟩)],[eJ t,[.v (.int .i64 0),.v (.int .i64 0)]],[]⟩
abbrev AZ (B:DV) (t:Ty) (ps:Pts) (p:Ph) (u:Ty) (e q:Nat):St:=
 ⟨[(0,⟨[],B⟩),(3,⟨[],.loc 0 0⟩),(4,⟨[],.loc 1 0⟩),(38,⟨[],.sl 18 (gF ps) none⟩),(39,⟨[],.v (.int .i64 (gF ps).length)⟩),(40,⟨[],.v (.int .i64 e)⟩),(8,⟨[],.loc 2 0⟩),(49,⟨[],.sl 1 [[.sl 2 (bQ p.label) none],[.sl 2 (bQ p.cl) none]] none⟩),(50,⟨[],.v (.int .i64 (2:Nat))⟩),(51,⟨[],.v (.int .i64 q)⟩)],[eJ t,[.v (.int .i64 0),.v (.int .i64 0)],Ha p (eJ u)],[]⟩
theorem yb {X:Lx} (hX:X.OK) (s:Sch) (aO:List Nat) (a b c e0:DV) (m:Int) (hT:iV (tL s) aO) (jU:aO.length<=1099511627776):∀ (k:Nat) (t:Ty),t.wt<=k->t.wt<=1099511627776 ->
  aV prog 40 [.pt (bC s X.pd (.pt (pC s aO a b c e0) 0) m) 0,.agg (eJ t)] (knT X (tL s) t).d
 | 0,t,hn,_=>by have:=t.eO;omega
 | k + 1,.mk h ps,hn,cM=>by
  have ih:=yb hX s aO a b c e0 m hT jU k;simp only [Ty.wt,Hd.wt] at hn cM;have nD:=ps.gD;obtain ⟨ae,order,types,⟨rh,rp⟩⟩:=s;have hf:=jz (tL ⟨ae,order,types,.mk rh rp⟩) aO h.name.s hT jU;have hS:knT X (tL ⟨ae,order,types,.mk rh rp⟩) (.mk h ps)=if h.ag=9/\dz (tL ⟨ae,order,types,.mk rh rp⟩) h.name.s=none then (15,h.name.a) else knP X (tL ⟨ae,order,types,.mk rh rp⟩) ps:=by rw [knT]
  refine eG 81 [.cell 4 45] func40 rfl ntmps40 rfl fun _ _ _ _=>?_;generalize knT X (tL ⟨ae,order,types,.mk rh rp⟩) (.mk h ps)=F at hS ⊢;have W3:knP X (tL ⟨ae,order,types,.mk rh rp⟩) ps=knP X (tL ⟨ae,order,types,.mk rh rp⟩) (ps.drop 0):=by rw [Pts.drop]
  refine br ?_ ?_<;>intro h9
  ·have h9:h.ag=9:=sU h9;refine dI ?_
   cases hx:dz (tL ⟨ae,order,types,.mk rh rp⟩) h.name.s with
   | none=>
    rw [ai ⟨h9,hx⟩] at hS;rw [hx] at hf;refine cD xj hf ?_;refine ⟨_,?_,rfl⟩;rw [hS];exact ax
   | some i=>
    rw [ah (by rw [hx];simp),W3] at hS;rw [hx] at hf;refine cD xj hf ?_;refine lI (fun j st=>∃ e:Nat,st=Zw (.pt (bC ⟨ae,order,types,.mk rh rp⟩ X.pd (.pt (pC ⟨ae,order,types,.mk rh rp⟩ aO a b c e0) 0) m) 0) (.mk h ps) ps e/\e<=ps.len/\F=knP X (tL ⟨ae,order,types,.mk rh rp⟩) (ps.drop e)/\j=ps.len - e) ⟨0,rfl,by omega,hS,rfl⟩ (aj ⟨_,rfl⟩ wA rfl rfl rfl wB) ?_;rintro j st ⟨e,rfl,he,aP,rfl⟩;refine br ?_ ?_<;>intro hL
    ·have au:e < ps.len:=by simpa [aR] using hL
     obtain ⟨p,t,hx⟩:=Pts.fh au;have hwt:=Pts.gY (mG hx);rw [Pts.drop_cons hx] at aP;simp only [knP] at aP;have hw1:wdsWt p.label + wdsWt p.cl<=p.wt:=by simp only [Ph.wt];omega
     obtain ⟨u,us⟩:=t;refine iX (cr hx) ?_;refine lI (fun j st=>∃ q:Nat,st=AZ (.pt (bC ⟨ae,order,types,.mk rh rp⟩ X.pd (.pt (pC ⟨ae,order,types,.mk rh rp⟩ aO a b c e0) 0) m) 0) (.mk h ps) ps p (.mk u us) e q/\q<=2/\(1<=q->(X.bad p.label).1=0)/\(2<=q->(X.bad p.cl).1=0)/\j=2 - q) ⟨0,rfl,by omega,fun h=>by omega,fun h=>by omega,rfl⟩ (aj ⟨_,rfl⟩ wA rfl rfl rfl wB) ?_;rintro j st ⟨q,rfl,hq,Zx,km,rfl⟩;refine br ?_ ?_<;>intro kP
     ·have Ko:q=0∨q=1:=by have:=kP;simp at this;omega
      rcases Ko with rfl | rfl
      ·refine ⟨_,⟨by omega,rfl⟩,?_⟩;refine cP MR (Lx.rP hX p.label (by omega)) ?_;refine br ?_ ?_<;>intro hb
       ·have hb:(X.bad p.label).1≠0:=sU hb;rw [ai hb] at aP;refine ⟨_,?_,rfl⟩;rw [aP];exact ax
       ·have hb:(X.bad p.label).1=0:=sU hb;exact ⟨AZ (.pt (bC ⟨ae,order,types,.mk rh rp⟩ X.pd (.pt (pC ⟨ae,order,types,.mk rh rp⟩ aO a b c e0) 0) m) 0) (.mk h ps) ps p (.mk u us) e 1,(aj ⟨_,rfl⟩ wA rfl rfl rfl (dy (aK (e:=0) (n:=2) (by omega) (by omega)))),1,by omega,1,rfl,by omega,fun _=>hb,fun h=>by omega,rfl⟩
      ·have iE:=Zx (by omega);refine ⟨_,⟨by omega,rfl⟩,?_⟩;refine cP MR (Lx.rP hX p.cl (by omega)) ?_;refine br ?_ ?_<;>intro hb
       ·have hb:(X.bad p.cl).1≠0:=sU hb;rw [ah (by rw [iE];simp),ai hb] at aP;refine ⟨_,?_,rfl⟩;rw [aP];exact ax
       ·have hb:(X.bad p.cl).1=0:=sU hb;exact ⟨AZ (.pt (bC ⟨ae,order,types,.mk rh rp⟩ X.pd (.pt (pC ⟨ae,order,types,.mk rh rp⟩ aO a b c e0) 0) m) 0) (.mk h ps) ps p (.mk u us) e 2,(aj ⟨_,rfl⟩ wA rfl rfl rfl (dy (aK (e:=1) (n:=2) (by omega) (by omega)))),0,by omega,2,rfl,by omega,fun _=>iE,fun _=>hb,rfl⟩
     ·have Ko:q=2:=by have:=kP;simp at this;omega
      subst Ko;have iE:=Zx (by omega);have pN:=km (by omega);rw [ah (by rw [iE];simp),ah (by rw [pN];simp)] at aP;refine br ?_ ?_<;>intro hB
      ·have hB:p.bare=true:=hB;rw [ai hB] at aP;exact rE ⟨_,by omega,e + 1,rfl,by omega,aP,rfl⟩ (aj ⟨_,rfl⟩ wA rfl rfl rfl (dy (aK au (by omega))))
      ·have hB:p.bare=false:=hB;rw [ah (by rw [hB];decide)] at aP;refine cP U3 (ih (.mk u us) (by omega) (by omega)) ?_;refine br ?_ ?_<;>intro hb
       ·have hb:(knT X (tL ⟨ae,order,types,.mk rh rp⟩) (.mk u us)).1≠0:=sU hb;rw [ai hb] at aP;refine ⟨_,?_,rfl⟩;rw [aP];exact ax
       ·have hb:(knT X (tL ⟨ae,order,types,.mk rh rp⟩) (.mk u us)).1=0:=sU hb;rw [ah (by rw [hb];simp)] at aP;exact rE ⟨_,by omega,e + 1,rfl,by omega,aP,rfl⟩ (aj ⟨_,rfl⟩ wA rfl rfl rfl (dy (aK au (by omega))))
    ·have aS:e=ps.len:=by simp [aR] at hL;omega
     rw [aS,Pts.dM] at aP;simp only [knP] at aP;refine ⟨_,?_,rfl⟩;rw [aP];exact ax
  ·have h9:¬ h.ag=9:=sU h9;rw [ah (fun hc=>h9 hc.1),W3] at hS;refine lI (fun j st=>∃ e:Nat,st=Zw (.pt (bC ⟨ae,order,types,.mk rh rp⟩ X.pd (.pt (pC ⟨ae,order,types,.mk rh rp⟩ aO a b c e0) 0) m) 0) (.mk h ps) ps e/\e<=ps.len/\F=knP X (tL ⟨ae,order,types,.mk rh rp⟩) (ps.drop e)/\j=ps.len - e) ⟨0,rfl,by omega,hS,rfl⟩ (aj ⟨_,rfl⟩ wA rfl rfl rfl wB) ?_;rintro j st ⟨e,rfl,he,aP,rfl⟩;refine br ?_ ?_<;>intro hL
   ·have au:e < ps.len:=by simpa [aR] using hL
    obtain ⟨p,t,hx⟩:=Pts.fh au;have hwt:=Pts.gY (mG hx);rw [Pts.drop_cons hx] at aP;simp only [knP] at aP;have hw1:wdsWt p.label + wdsWt p.cl<=p.wt:=by simp only [Ph.wt];omega
    obtain ⟨u,us⟩:=t;refine iX (cr hx) ?_;refine lI (fun j st=>∃ q:Nat,st=AZ (.pt (bC ⟨ae,order,types,.mk rh rp⟩ X.pd (.pt (pC ⟨ae,order,types,.mk rh rp⟩ aO a b c e0) 0) m) 0) (.mk h ps) ps p (.mk u us) e q/\q<=2/\(1<=q->(X.bad p.label).1=0)/\(2<=q->(X.bad p.cl).1=0)/\j=2 - q) ⟨0,rfl,by omega,fun h=>by omega,fun h=>by omega,rfl⟩ (aj ⟨_,rfl⟩ wA rfl rfl rfl wB) ?_;rintro j st ⟨q,rfl,hq,Zx,km,rfl⟩;refine br ?_ ?_<;>intro kP
    ·have Ko:q=0∨q=1:=by have:=kP;simp at this;omega
     rcases Ko with rfl | rfl
     ·refine ⟨_,⟨by omega,rfl⟩,?_⟩;refine cP MR (Lx.rP hX p.label (by omega)) ?_;refine br ?_ ?_<;>intro hb
      ·have hb:(X.bad p.label).1≠0:=sU hb;rw [ai hb] at aP;refine ⟨_,?_,rfl⟩;rw [aP];exact ax
      ·have hb:(X.bad p.label).1=0:=sU hb;exact ⟨AZ (.pt (bC ⟨ae,order,types,.mk rh rp⟩ X.pd (.pt (pC ⟨ae,order,types,.mk rh rp⟩ aO a b c e0) 0) m) 0) (.mk h ps) ps p (.mk u us) e 1,(aj ⟨_,rfl⟩ wA rfl rfl rfl (dy (aK (e:=0) (n:=2) (by omega) (by omega)))),1,by omega,1,rfl,by omega,fun _=>hb,fun h=>by omega,rfl⟩
     ·have iE:=Zx (by omega);refine ⟨_,⟨by omega,rfl⟩,?_⟩;refine cP MR (Lx.rP hX p.cl (by omega)) ?_;refine br ?_ ?_<;>intro hb
      ·have hb:(X.bad p.cl).1≠0:=sU hb;rw [ah (by rw [iE];simp),ai hb] at aP;refine ⟨_,?_,rfl⟩;rw [aP];exact ax
      ·have hb:(X.bad p.cl).1=0:=sU hb;exact ⟨AZ (.pt (bC ⟨ae,order,types,.mk rh rp⟩ X.pd (.pt (pC ⟨ae,order,types,.mk rh rp⟩ aO a b c e0) 0) m) 0) (.mk h ps) ps p (.mk u us) e 2,(aj ⟨_,rfl⟩ wA rfl rfl rfl (dy (aK (e:=1) (n:=2) (by omega) (by omega)))),0,by omega,2,rfl,by omega,fun _=>iE,fun _=>hb,rfl⟩
    ·have Ko:q=2:=by have:=kP;simp at this;omega
     subst Ko;have iE:=Zx (by omega);have pN:=km (by omega);rw [ah (by rw [iE];simp),ah (by rw [pN];simp)] at aP;refine br ?_ ?_<;>intro hB
     ·have hB:p.bare=true:=hB;rw [ai hB] at aP;exact rE ⟨_,by omega,e + 1,rfl,by omega,aP,rfl⟩ (aj ⟨_,rfl⟩ wA rfl rfl rfl (dy (aK au (by omega))))
     ·have hB:p.bare=false:=hB;rw [ah (by rw [hB];decide)] at aP;refine cP U3 (ih (.mk u us) (by omega) (by omega)) ?_;refine br ?_ ?_<;>intro hb
      ·have hb:(knT X (tL ⟨ae,order,types,.mk rh rp⟩) (.mk u us)).1≠0:=sU hb;rw [ai hb] at aP;refine ⟨_,?_,rfl⟩;rw [aP];exact ax
      ·have hb:(knT X (tL ⟨ae,order,types,.mk rh rp⟩) (.mk u us)).1=0:=sU hb;rw [ah (by rw [hb];simp)] at aP;exact rE ⟨_,by omega,e + 1,rfl,by omega,aP,rfl⟩ (aj ⟨_,rfl⟩ wA rfl rfl rfl (dy (aK au (by omega))))
   ·have aS:e=ps.len:=by simp [aR] at hL;omega
    rw [aS,Pts.dM] at aP;simp only [knP] at aP;refine ⟨_,?_,rfl⟩;rw [aP];exact ax
def eaL (F:Ty->Ft) (z:Ft):List (Wd × Ty)->Ft
 | []=>z
 | x :: r=>if (F x.2).1≠0 then F x.2 else eaL F z r
theorem Oc {F:Ty->Ft} {z:Ft} {l:List (Wd × Ty)} {e:Nat} {x:Wd × Ty} (h:l[e]? = some x):eaL F z (l.drop e)=if (F x.2).1≠0 then F x.2 else eaL F z (l.drop (e + 1)):=by
 rw [drop_cons h,eaL]
abbrev Od (B:DV) (fn:DV) (types:List (Wd × Ty)) (e:Nat):St:=
 ⟨[(0,⟨[],B⟩),(1,⟨[],fn⟩),(4,⟨[],.loc 0 0⟩),(12,⟨[],.sl 11 (dNms types) none⟩),(13,⟨[],.v (.int .i64 (dNms types).length)⟩),(14,⟨[],.v (.int .i64 e)⟩)],[[.v (.int .i64 0),.v (.int .i64 0)]],[]⟩
theorem K6 (s:Sch) (lat:DV) (pc:List DV) (m:Int) (hl:s.types.length<=1099511627776) (g:Nat) (hg:Enters prog g) (F:Ty->Ft)
  (hF:∀ t,(t=s.root∨∃ x∈s.types,t=x.2)->aV prog g [.pt (bC s lat (.pt pc 0) m) 0,.agg (eJ t)] (F t).d) :
  aV prog 38 [.pt (bC s lat (.pt pc 0) m) 0,.fn g [.pt (bC s lat (.pt pc 0) m) 0] []] (eaL F (F s.root) s.types).d:=by
 have hN:=eB s.types;obtain ⟨ae,order,types,⟨rh,rp⟩⟩:=s;simp only at hl hF hN;have ox:=hF (.mk rh rp) (.inl rfl);have VI:∀ x∈types,_:=fun x hx=>hF x.2 (.inr ⟨x,hx,rfl⟩);clear hF;refine eG 34 [.cell 4 45] func38 rfl ntmps38 rfl fun _ _ _ _=>?_;generalize hG:eaL F (F (.mk rh rp)) types=G;have hG0:G=eaL F (F (.mk rh rp)) (types.drop 0):=by rw [List.drop_zero,hG]
 refine bA (fun j st=>∃ e:Nat,st=Od (.pt (bC ⟨ae,order,types,.mk rh rp⟩ lat (.pt pc 0) m) 0) (.fn g [.pt (bC ⟨ae,order,types,.mk rh rp⟩ lat (.pt pc 0) m) 0] []) types e/\e<=types.length/\G=eaL F (F (.mk rh rp)) (types.drop e)/\j=types.length - e) types.length
  (Od (.pt (bC ⟨ae,order,types,.mk rh rp⟩ lat (.pt pc 0) m) 0) (.fn g [.pt (bC ⟨ae,order,types,.mk rh rp⟩ lat (.pt pc 0) m) 0] []) types 0) (aj ⟨_,rfl⟩ wA rfl rfl rfl wB) ⟨0,rfl,by omega,hG0,by omega⟩ ?_
 rintro j st ⟨e,rfl,he,aP,rfl⟩;refine br ?_ ?_<;>intro hL
 ·have au:e < types.length:=by have:=hL;simp [hN] at this;exact this
  obtain ⟨x,hx⟩:=gX au;have hp:=VI x (mG hx);rw [Oc hx] at aP;obtain ⟨xw,⟨xh,xp⟩⟩:=x;refine iX (dNms_get hx) ?_;refine cP hg hp ?_;refine br ?_ ?_<;>intro hf
  ·have hf:(F (.mk xh xp)).1≠0:=sU hf;rw [ai hf] at aP;refine ⟨_,?_,rfl⟩;rw [aP];exact ax
  ·have hf:(F (.mk xh xp)).1=0:=sU hf;rw [ah (by rw [hf];simp)] at aP;exact rE ⟨_,by omega,e + 1,rfl,by omega,aP,rfl⟩ (aj ⟨_,rfl⟩ wA rfl rfl rfl (dy (aK au (by omega))))
 ·have aS:e=types.length:=sW hN hL;subst aS;rw [List.drop_length,eaL] at aP;refine cP hg ox ?_;refine ⟨_,?_,rfl⟩;rw [aP];exact ax
def cC (t:Ty) (m:Int):Ft × Int:=if (wrong t 1 0).1.1≠0 then ((wrong t 1 0).1,m) else if 512 < m + t.cnt then ((8,t.h.ba),m + t.cnt) else ((0,0),m + t.cnt)
def Oe (s:Sch) (lat:DV) (pc:List DV) (x:Ft × Int) (r:DV) (os:List (List DV)) (_:List TkE):Prop:=r=x.1.d/\os=[bC s lat (.loc 1 0) x.2,pc]
theorem E4 (s:Sch) (lc pc:List DV) (m:Int) (pD:0<=m) (kp:m<=1099511627776) (t:Ty) (cM:t.wt<=1099511627776) (hpc:∀ bx N n0 m0,CcL bx N n0 m0 pc pc) :
  Ev prog 39 [.loc 0 0,.agg (eJ t)] [bC s (.pt lc 0) (.loc 1 0) m,pc] [] (Oe s (.pt lc 0) pc (cC t m)):=by
 have hk:=EY t cM;have hc:=x8 t.wt t (aU _) cM;have oX:=t.fi;have hF:=cC.eq_1 t m;obtain ⟨ae,order,types,⟨rh,rp⟩⟩:=s;obtain ⟨h,ps⟩:=t;generalize cC (.mk h ps) m=R at hF ⊢;refine eG 30 [.cell 4 45] func39 rfl ntmps39 rfl fun _ _ _ _=>?_;refine cP en96 hk ?_;refine br ?_ ?_<;>intro hf
 ·have hf:(wrong (.mk h ps) 1 0).1.1≠0:=sU hf;rw [ai hf] at hF;subst hF;exact ⟨Ft.d _,[bC ⟨ae,order,types,.mk rh rp⟩ (.pt lc 0) (.loc 1 0) m,pc],ax,(by repeat' (first | exact rfl | exact trivial | exact Or.inr (Or.inl ⟨_,rfl⟩) | exact Or.inr ⟨_,rfl⟩ | exact Or.inl ⟨rfl,rfl⟩ | exact Or.inl rfl | refine Or.inr ⟨_,_,rfl,Nat.zero_le _,rfl,?_⟩ | refine ⟨_,_,rfl,?_,?_⟩ | refine ⟨_,rfl,?_⟩ | exact hpc _ _ _ _ | exact ⟨nL rfl,rfl⟩ | exact congrArg (fun z=>DV.v (.int .i64 z)) hw | refine Or.inr (Or.inr (Or.inr ⟨_,_,rfl,?_⟩)) | exact Or.inl rfl | refine Or.inr ?_)),rfl,rfl⟩
 have hf:(wrong (.mk h ps) 1 0).1.1=0:=sU hf;rw [ah (by rw [hf];simp)] at hF;have hw:IntKind.i64.wrap (m + ((Ty.mk h ps).cnt:Int))=m + ((Ty.mk h ps).cnt:Int):=wrap64 (by omega) (by omega);refine dS ?_;refine cD Yd hc ?_;refine br ?_ ?_<;>intro hg
 ·have hg:512 < m + ((Ty.mk h ps).cnt:Int):=sV hw hg;rw [ai hg] at hF;subst hF;exact ⟨Ft.d _,[bC ⟨ae,order,types,.mk rh rp⟩ (.pt lc 0) (.loc 1 0) (m + (Ty.mk h ps).cnt),pc],ax,(wC2 hpc hw),rfl,rfl⟩
 ·have hg:¬ 512 < m + ((Ty.mk h ps).cnt:Int):=sV hw hg;rw [ah hg] at hF;subst hF;exact ⟨Ft.d _,[bC ⟨ae,order,types,.mk rh rp⟩ (.pt lc 0) (.loc 1 0) (m + (Ty.mk h ps).cnt),pc],ax,(wC2 hpc hw),rfl,rfl⟩
def eaR (z:Ty):List (Wd × Ty)->Int->Ft × Int
 | [],m=>cC z m
 | x :: r,m=>if (cC x.2 m).1.1≠0 then cC x.2 m else eaR z r (cC x.2 m).2
theorem Og {z:Ty} {l:List (Wd × Ty)} {e:Nat} {m:Int} {x:Wd × Ty} (h:l[e]? = some x):eaR z (l.drop e) m=if (cC x.2 m).1.1≠0 then cC x.2 m else eaR z (l.drop (e + 1)) (cC x.2 m).2:=by
 rw [drop_cons h,eaR]
theorem ph {t:Ty} {m:Int} (h:(cC t m).1.1=0):(cC t m).2=m + t.cnt/\(cC t m).2<=512/\(wrong t 1 0).1.1=0/\(cC t m).1=(0,0):=by
 unfold cC at h ⊢;split
 ·rename_i h1;rw [ai h1] at h;exact (h1 h).elim
 ·rename_i h1;rw [ah h1] at h;split
  ·rename_i h2;rw [ai h2] at h;cases h
  ·rename_i h2;refine ⟨rfl,by simpa using h2,by simpa using h1,rfl⟩
abbrev HM (s:Sch) (aO:List Nat) (lc:List DV):List DV:=pC s aO (.pt lc 0) (.v (.slice none 0 0)) (.v (.int .i64 0)) (.v (.slice none 0 0))
abbrev CS (s:Sch) (lc pc:List DV) (m:Int) (types:List (Wd × Ty)) (e:Nat):St:=
 ⟨[(0,⟨[],.loc 0 0⟩),(1,⟨[],.fn 39 [.loc 0 0] []⟩),(4,⟨[],.loc 2 0⟩),(12,⟨[],.sl 11 (dNms types) none⟩),(13,⟨[],.v (.int .i64 (dNms types).length)⟩),(14,⟨[],.v (.int .i64 e)⟩)],
  [bC s (.pt lc 0) (.loc 1 0) m,pc,[.v (.int .i64 0),.v (.int .i64 0)]],[]⟩
theorem HN (s:Sch) (lc:List DV) (aO:List Nat) (m:Int) (pD:0<=m) (kp:m<=512) (hl:s.types.length<=1099511627776) (cM:∀ t,(t=s.root∨∃ x∈s.types,t=x.2)->t.wt<=1099511627776) :
  Ev prog 38 [.loc 0 0,.fn 39 [.loc 0 0] []] [bC s (.pt lc 0) (.loc 1 0) m,HM s aO lc] [] (Oe s (.pt lc 0) (HM s aO lc) (eaR s.root s.types m)):=by
 have hN:=eB s.types;have hR:∀ (m':Int),0<=m' -> m' <= 512->∀ t,(t=s.root∨∃ x∈s.types,t=x.2)->_:=fun m' h0 h1 t ht=>E4 s lc (HM s aO lc) m' h0 (by omega) t (cM t ht) (fun bx N n0 m0=>ax);obtain ⟨ae,order,types,⟨rh,rp⟩⟩:=s;simp only at hl hR hN cM;refine eG 34 [.cell 4 45] func38 rfl ntmps38 rfl fun _ _ _ _=>?_;generalize hG:eaR (.mk rh rp) types m=G;have hG0:G=eaR (.mk rh rp) (types.drop 0) m:=by rw [List.drop_zero,hG]
 refine bA (fun j st=>∃ (e:Nat) (m':Int),st=CS ⟨ae,order,types,.mk rh rp⟩ lc (HM ⟨ae,order,types,.mk rh rp⟩ aO lc) m' types e/\e<=types.length/\0<=m' /\ m' <= 512/\G=eaR (.mk rh rp) (types.drop e) m' /\ j=types.length - e) types.length
  (CS ⟨ae,order,types,.mk rh rp⟩ lc (HM ⟨ae,order,types,.mk rh rp⟩ aO lc) m types 0) (aq 3 rfl (by repeat' (first | exact rfl | exact aA rfl | exact rfl | refine ⟨_,_,rfl,?_,?_⟩)) rfl rfl rfl (by repeat' (first | exact trivial | exact aA rfl | exact rfl | refine ⟨⟨_,rfl,?_⟩,?_⟩))) ⟨0,m,rfl,by omega,pD,kp,hG0,by omega⟩ ?_
 rintro j st ⟨e,m',rfl,he,CD,EA,aP,rfl⟩;refine br ?_ ?_<;>intro hL
 ·have au:e < types.length:=by have:=hL;simp [hN] at this;exact this
  obtain ⟨x,hx⟩:=gX au;have hp:=hR m' CD EA x.2 (.inr ⟨x,mG hx,rfl⟩);rw [Og hx] at aP;obtain ⟨xw,⟨xh,xp⟩⟩:=x;refine iX (dNms_get hx) ?_;refine kh 2 0 XW rfl rfl rfl mv mv hp (fun r lN dO hΦ h1 h2=>?_);obtain ⟨rfl,rfl⟩:=hΦ;have h2:=List.eq_nil_of_length_eq_zero h2;subst h2;refine br ?_ ?_<;>intro hf
  ·have hf:(cC (.mk xh xp) m').1.1≠0:=sU hf;rw [ai hf] at aP;subst aP;exact ⟨Ft.d _,[bC ⟨ae,order,types,.mk rh rp⟩ (.pt lc 0) (.loc 1 0) (cC (.mk xh xp) m').2,HM ⟨ae,order,types,.mk rh rp⟩ aO lc],ax,mv,rfl,rfl⟩
  ·have hf:(cC (.mk xh xp) m').1.1=0:=sU hf;rw [ah (by rw [hf];simp)] at aP;obtain ⟨g1,g2,_,_⟩:=ph hf;exact ⟨CS ⟨ae,order,types,.mk rh rp⟩ lc (HM ⟨ae,order,types,.mk rh rp⟩ aO lc) (cC (.mk xh xp) m').2 types (e + 1),(aq 3 rfl (nF (aK au (by omega))) rfl rfl rfl (dy (aK au (by omega)))),types.length - (e + 1),by omega,e + 1,_,rfl,by omega,by omega,g2,aP,rfl⟩
 ·have aS:e=types.length:=sW hN hL;subst aS;rw [List.drop_length,eaR] at aP;refine kh 2 0 XW rfl rfl rfl mv mv (hR m' CD EA (.mk rh rp) (.inl rfl)) (fun r lN dO hΦ h1 h2=>?_);obtain ⟨rfl,rfl⟩:=hΦ;have h2:=List.eq_nil_of_length_eq_zero h2;subst h2;subst aP;exact ⟨Ft.d _,[bC ⟨ae,order,types,.mk rh rp⟩ (.pt lc 0) (.loc 1 0) (cC (.mk rh rp) m').2,HM ⟨ae,order,types,.mk rh rp⟩ aO lc],ax,mv,rfl,rfl⟩
def eP (s:Sch):Ft:=if 64 < s.types.length then (8,VD (vF s) 64) else enumL (vF s) 0 (vF s)
def Rg (s:Sch) (lc:List DV) (r:DV) (os:List (List DV)) (_:List TkE):Prop:=
 r=(eP s).d/\((eP s).1=0->∃ aO,iV (tL s) aO/\aO.length<=s.types.length/\os=[bC s (.pt lc 0) (.loc 1 0) 0,HM s aO lc])
abbrev Oh (s:Sch) (lc:List DV) (n e:Nat):St:=
 ⟨[(0,⟨[],.loc 0 0⟩),(2,⟨[],.loc 2 0⟩),(3,⟨[],.sl 1 (fp (aD ((vF s).take e))) (some 0)⟩),(27,⟨[],.sl 11 (dNms s.types) none⟩),(28,⟨[],.v (.int .i64 (dNms s.types).length)⟩),(29,⟨[],.v (.int .i64 e)⟩)],
  [bC s (.pt lc 0) (.loc 1 0) 0,[.pt lc 0,.v (.slice none 0 0),.v (.int .i64 0),.v (.pointer none),.v (.slice none 0 0)],[.v (.int .i64 0),.v (.int .i64 0)]],[⟨n,9,1,none⟩]⟩
theorem CT (s:Sch) (lc:List DV) (hs:nmsWt s.types<=1099511627776) :
  Ev prog 37 [.loc 0 0] [bC s (.pt lc 0) (.loc 1 0) 0,[.pt lc 0,.v (.slice none 0 0),.v (.int .i64 0),.v (.pointer none),.v (.slice none 0 0)]] [] (Rg s lc):=by
 have hN:=eB s.types;have fo:=ku s.types;have hY:=JD s;have hF:=eP.eq_1 s;have ff:∀ {e:Nat} {x:Wd × Ty},s.types[e]? = some x->(vF s)[e]? = some x.1:=fun h=>by simp [vF,h]
 have cd:=xB (tL s) (by rw [kQ];omega);have Zy:tL s=aD (vF s):=rfl
 have hw:∀ x∈s.types,x.1.s.size<=1099511627776:=fun x hx=>by
  have:=ir hx;simp only [Wd.wt] at this;omega
 obtain ⟨ae,order,types,⟨rh,rp⟩⟩:=s;simp only at hs hN fo hY ff hw hF;generalize hQ:vF ⟨ae,order,types,.mk rh rp⟩=Q at hY hF ff Zy;refine eG 67 [.cell 2 45] func37 rfl ntmps37 rfl fun _ _ _ _=>?_;refine br ?_ ?_<;>intro h
 ·have h:64 < types.length:=by simp [hN] at h;omega
  obtain ⟨x,hx⟩:∃ x,types[64]? = some x:=⟨_,gE h⟩;have Ob:=ff hx;rw [ai h,lx Ob] at hF;obtain ⟨xw,⟨xh,xp⟩⟩:=x;refine iX (dNms_get hx) ?_;refine ⟨Ft.d (8,xw.a),[bC ⟨ae,order,types,.mk rh rp⟩ (.pt lc 0) (.loc 1 0) 0,[.pt lc 0,.v (.slice none 0 0),.v (.int .i64 0),.v (.pointer none),.v (.slice none 0 0)]],ax,mv,by rw [hF],fun h0=>by rw [hF] at h0;simp at h0⟩
 have h:¬ 64 < types.length:=by simp [hN] at h;omega
 rw [ah h] at hF;refine lI (fun j st=>∃ e:Nat,st=Oh ⟨ae,order,types,.mk rh rp⟩ lc e e/\e<=types.length/\(aD (Q.take e)).Nodup/\enumL Q 0 Q=enumL Q e (Q.drop e)/\j=types.length - e) ⟨0,rfl,by omega,by simp [aD],rfl,rfl⟩ (cW 3 ⟨0,9,1,none⟩ rfl rfl rfl pO rfl rfl lX) ?_;rintro j st ⟨e,rfl,he,hnd,aP,rfl⟩;rw [aP] at hF;refine br ?_ ?_<;>intro hL
 ·have au:e < types.length:=by have:=hL;simp [hN] at this;exact this
  obtain ⟨x,hx⟩:=gX au;have Tp:=hw x (mG hx);have hq:=ff hx;have du:=kr hq;have bd:=qv hq;have zx:=mX hq hnd;have NW:=ql (aD (Q.take (e + 1))) (by simp [aD];omega);rw [<- du] at NW;obtain ⟨xw,⟨xh,xp⟩⟩:=x;simp only at Tp hq du bd zx NW;refine iX (dNms_get hx) ?_;rw [hQ];refine ⟨by simp [cv,aD];omega,⟨by simp [cv,aD,maxLen];omega,by simp [cv,aD];omega⟩,?_⟩;refine cP G9 (jr xw.s (by omega)) ?_;refine br ?_ ?_<;>intro JE
  ·have JE:bq xw.s=false:=sU JE;have hf:aN Q e xw=9:=by simp [aN,JE]
   rw [bd,hf,ai (by decide)] at hF;refine ⟨Ft.d (9,xw.a),[bC ⟨ae,order,types,.mk rh rp⟩ (.pt lc 0) (.loc 1 0) 0,[.pt lc 0,.v (.slice none 0 0),.v (.int .i64 0),.v (.pointer none),.v (.slice none 0 0)]],ax,mv,by rw [hF],fun h0=>by rw [hF] at h0;simp at h0⟩
  ·have JE:bq xw.s=true:=sU JE;refine kG U8 rfl NW ax (fun r hr=>?_);obtain ⟨z,rfl,hz⟩:=hr;refine br ?_ ?_<;>intro h2
   ·have h2:0<=z:=sU h2
    have hd:bX (Q.take e) xw.s=true:=by
     cases hd:bX (Q.take e) xw.s
     ·exact absurd (zx.2 hd) (hz.1 h2)
     ·rfl
    have hf:aN Q e xw=10:=by simp [aN,JE,hd]
    rw [bd,hf,ai (by decide)] at hF;refine ⟨Ft.d (10,xw.a),[bC ⟨ae,order,types,.mk rh rp⟩ (.pt lc 0) (.loc 1 0) 0,[.pt lc 0,.v (.slice none 0 0),.v (.int .i64 0),.v (.pointer none),.v (.slice none 0 0)]],ax,mv,by rw [hF],fun h0=>by rw [hF] at h0;simp at h0⟩
   ·have h2:¬ 0<=z:=sU h2;have xd:(aD (Q.take (e + 1))).Nodup:=Classical.byContradiction fun hn=>h2 (hz.2 hn);have hf:aN Q e xw=0:=by simp [aN,JE,zx.1 xd]
    rw [hf,ah (by simp)] at bd;have Zz:fp (aD (Q.take e)) ++ [[DV.v (.string xw.s)]]=fp (aD ((vF ⟨ae,order,types,.mk rh rp⟩).take (e + 1))):=by rw [hQ];exact du
    refine ⟨Oh ⟨ae,order,types,.mk rh rp⟩ lc (e + 1) (e + 1),(aq 3 rfl (gp (aK au (by omega)) Zz) rfl rfl rfl (wB2 (aK au (by omega)) Zz)),types.length - (e + 1),by omega,e + 1,rfl,by omega,xd,aP.trans bd,rfl⟩
 ·have aS:e=types.length:=sW hN hL;have h0:enumL Q e (Q.drop e)=(0,0):=by rw [aS,<- hY,List.drop_length];all_goals rfl
  rw [h0] at hF;have ht:Q.take e=Q:=by rw [aS,<- hY,List.take_length]
  have hEq:aD ((vF ⟨ae,order,types,.mk rh rp⟩).take e)=tL ⟨ae,order,types,.mk rh rp⟩:=by rw [hQ,ht,Zy]
  rw [<- hEq] at cd;refine dS ?_;refine rr U7 rfl cd ax (fun Cp hr=>?_);obtain ⟨aO,hT,jU,rfl⟩:=hr;rw [hEq] at hT jU;have hpt:DV.pt (dC (aD ((vF ⟨ae,order,types,.mk rh rp⟩).take e)) aO) 0=DV.pt (dC (tL ⟨ae,order,types,.mk rh rp⟩) aO) 0:=congrArg (fun L=>DV.pt (dC L aO) 0) hEq;rw [kQ] at jU;exact ⟨Ft.d (0,0),[bC ⟨ae,order,types,.mk rh rp⟩ (.pt lc 0) (.loc 1 0) 0,HM ⟨ae,order,types,.mk rh rp⟩ aO lc],ax,(by repeat' (first | exact rfl | exact trivial | exact Or.inr (Or.inl ⟨_,rfl⟩) | exact Or.inr ⟨_,rfl⟩ | exact Or.inl ⟨rfl,rfl⟩ | exact Or.inl rfl | refine Or.inr ⟨_,_,rfl,Nat.zero_le _,rfl,?_⟩ | refine ⟨_,_,rfl,?_,?_⟩ | refine ⟨_,rfl,?_⟩ | exact ⟨nL rfl,rfl⟩ | exact Or.inl hpt | refine Or.inr (Or.inr (Or.inr ⟨_,_,rfl,?_⟩)) | exact Or.inl rfl | refine Or.inr ?_)),by rw [hF],fun _=>⟨aO,hT,jU,rfl⟩⟩
def firstA (s:Sch) (k:Nat):Nat:=((s.types.take k).map fun x=>x.2.nn).sum
theorem oy {s:Sch} {k:Nat} {x:Wd × Ty} (h:s.types[k]? = some x):firstA s (k + 1)=firstA s k + x.2.nn:=by
 unfold firstA;rw [List.take_add_one,h];simp
theorem A0 (s:Sch):∀ k,firstA s k<=nmsWt s.types:=by
 intro k;unfold firstA;generalize s.types=l
 induction l generalizing k with
 | nil=>simp
 | cons x r ih=>
  cases k with
  | zero=>simp
  | succ k=>
   have h1:=ih k;have h2:=x.2.hZ;have h3:=x.2.fi;simp only [List.take_succ_cons,List.map_cons,List.sum_cons,nmsWt];omega
def namedN (s:Sch) (i:Nat):Nat:=firstA s ((endI s (s.types.length + 1) i).getD 0)
def namedL (s:Sch):List Nat:=(List.range s.types.length).map (namedN s)
theorem ZA (n:Nat):(List.replicate n (vL [Value.int .i64 0])).flatten=cZ (List.replicate n 0):=by
 induction n with
 | zero=>rfl
 | succ n ih=>simp only [List.replicate_succ,List.flatten_cons,ih];rfl
theorem wb {n m:Nat} {tk:List TkE} {l:List DV} {js:List Int} (h:l=cZ js):WeL n m tk l (cZ js):=by rw [h];exact ta js
abbrev VJ (s:Sch) (lc pc:List DV) (m:Int) (l:List Int) (ba e:Nat):St:=
 ⟨[(0,⟨[],.loc 0 0⟩),(2,⟨[],.ms 2 1 0 (dNms s.types).length (dNms s.types).length⟩),(3,⟨[],.v (.int .i64 ba)⟩),(18,⟨[],.sl 11 (dNms s.types) none⟩),(19,⟨[],.v (.int .i64 (dNms s.types).length)⟩),(20,⟨[],.v (.int .i64 e)⟩)],
  [bC s (.pt lc 0) (.loc 1 0) m,pc,cZ l],[]⟩
abbrev ZB (s:Sch) (aO:List Nat) (lc:List DV) (m:Int) (l:List Int) (n e:Nat):St:=
 ⟨[(0,⟨[],.loc 0 0⟩),(2,⟨[],.ms 2 1 0 (dNms s.types).length (dNms s.types).length⟩),(40,⟨[],.v (.int .i64 (dNms s.types).length)⟩),(41,⟨[],.v (.int .i64 e)⟩)],
  [bC s (.pt lc 0) (.loc 1 0) m,pC s aO (.pt lc 0) (.v (.slice none 0 0)) (.v (.int .i64 0)) (.sl 1 (dInts ((namedL s).take e)) (some 0)),cZ l],[⟨n,3,1,none⟩]⟩
def Rh (s:Sch) (aO:List Nat) (lc:List DV) (m:Int) (_:DV) (os:List (List DV)) (_:List TkE):Prop:=
 os=[bC s (.pt lc 0) (.loc 1 0) m,pC s aO (.pt lc 0) (.v (.slice none 0 0)) (.v (.int .i64 0)) (.sl 1 (dInts (namedL s)) none)]
theorem VK {l:List Int} {i:Nat} {z:Int} (h:l[i]? = some z):(cZ l)[i]? = some (DV.v (.int .i64 z)):=by simp [cZ,h]
theorem E5 (s:Sch) (lc:List DV) (aO:List Nat) (m:Int) (hT:iV (tL s) aO) (jU:aO.length<=1099511627776) (hl:s.types.length<=64) (hr:∀ x∈s.types,vG s x.2=true) (hs:nmsWt s.types<=1099511627776)
  (hlo:∀ i,i < s.types.length->∃ k,endI s (s.types.length + 1) i=some k) :
  Ev prog 42 [.loc 0 0] [bC s (.pt lc 0) (.loc 1 0) m,HM s aO lc] [] (Rh s aO lc m):=by
 have hN:=eB s.types
 have Vg:∀ x∈s.types,x.2.wt<=1099511627776:=fun x hx=>by
  have:=ir hx;omega
 have Ri:=A0 s;have hfs:=fun {k:Nat} {x:Wd × Ty}=>@oy s k x;have fo:(namedL s).length=s.types.length:=by simp [namedL]
 have hend:=fun (e0:DV)=>EZ s (.pt lc 0) aO (.pt lc 0) (.v (.slice none 0 0)) (.v (.int .i64 0)) e0 m hT jU hl hr;obtain ⟨ae,order,types,⟨rh,rp⟩⟩:=s;simp only at hl hr hN hs Vg Ri hfs fo hend hlo;have hN2:(dNms (⟨ae,order,types,.mk rh rp⟩:Sch).types).length=types.length:=hN;refine eG 66 [] func42 rfl ntmps42 rfl fun _ _ _ _=>?_;refine ⟨⟨rfl,by omega,by omega,by omega⟩,?_⟩
 refine bA (fun j st=>∃ (e:Nat) (l:List Int),st=VJ ⟨ae,order,types,.mk rh rp⟩ lc (HM ⟨ae,order,types,.mk rh rp⟩ aO lc) m l (firstA ⟨ae,order,types,.mk rh rp⟩ e) e/\e<=types.length/\l.length=types.length/\(∀ i:Nat,i < e->l[i]? = some (firstA ⟨ae,order,types,.mk rh rp⟩ i:Int))/\j=types.length - e) types.length
  (VJ ⟨ae,order,types,.mk rh rp⟩ lc (HM ⟨ae,order,types,.mk rh rp⟩ aO lc) m (List.replicate ((dNms types).length:Int).toNat 0) (firstA ⟨ae,order,types,.mk rh rp⟩ 0) 0) (aq 3 rfl (by repeat' (first | exact rfl | exact aA rfl | exact wb (ZA _) | refine ⟨_,_,rfl,?_,?_⟩)) rfl rfl rfl (by repeat' (first | exact trivial | exact aA rfl | exact wb (ZA _) | refine ⟨⟨_,rfl,?_⟩,?_⟩))) ⟨0,_,rfl,by omega,by simp [hN],fun _ h=>by omega,by omega⟩ ?_
 rintro j st ⟨e,l,rfl,he,yc,W4,rfl⟩;refine br ?_ ?_<;>intro hL
 ·have au:e < types.length:=by have:=hL;simp [hN] at this;exact this
  obtain ⟨x,hx⟩:=gX au;have TB:=Vg x (mG hx);have L3:=hfs hx;have hf1:=Ri (e + 1);obtain ⟨xw,⟨xh,xp⟩⟩:=x;have hnd:=x9 (Ty.mk xh xp).wt (.mk xh xp) (aU _) TB;refine iX (dNms_get hx) ?_;refine ⟨⟨by omega,by omega⟩,?_⟩;refine ⟨by rw [VA];omega,?_⟩;refine cP SN hnd ?_;simp only at L3 hf1
  have pN:(cZ l).set (0 + (e:Int).toNat * 1) (DV.v (.int .i64 ((firstA ⟨ae,order,types,.mk rh rp⟩ e:Nat):Int)))=cZ (l.set e ((firstA ⟨ae,order,types,.mk rh rp⟩ e:Nat):Int)):=by
   rw [show 0 + (e:Int).toNat * 1=e by omega,N2]
  have DN:IntKind.i64.wrap (((firstA ⟨ae,order,types,.mk rh rp⟩ e:Nat):Int) + (Ty.mk xh xp).nn)=((firstA ⟨ae,order,types,.mk rh rp⟩ (e + 1):Nat):Int):=by
   rw [L3,wrap64 (by omega) (by omega)];omega
  refine ⟨VJ ⟨ae,order,types,.mk rh rp⟩ lc (HM ⟨ae,order,types,.mk rh rp⟩ aO lc) m (l.set e ((firstA ⟨ae,order,types,.mk rh rp⟩ e:Nat):Int)) (firstA ⟨ae,order,types,.mk rh rp⟩ (e + 1)) (e + 1),(aq 3 rfl (by repeat' (first | exact rfl | exact aA rfl | exact wb pN | exact aE DN | exact aE (aK au (by omega)) | refine ⟨_,_,rfl,?_,?_⟩)) rfl rfl rfl (by repeat' (first | exact trivial | exact aA rfl | exact wb pN | exact aE DN | exact aE (aK au (by omega)) | refine ⟨⟨_,rfl,?_⟩,?_⟩))),types.length - (e + 1),by omega,e + 1,_,rfl,by omega,by rw [List.length_set];exact yc,fun i hi=>?_,rfl⟩;by_cases zA:i=e
  ·subst zA;rw [cO (by omega)]
  ·rw [List.getElem?_set_ne (Ne.symm zA)];exact W4 i (by omega)
 ·have aS:e=types.length:=sW hN hL;subst aS;refine lJ (fun e=>ZB ⟨ae,order,types,.mk rh rp⟩ aO lc m l e e) types.length (cW 3 ⟨0,3,1,none⟩ rfl rfl rfl pO rfl rfl lX) ?_;intro e he;refine br ?_ ?_<;>intro hL
  ·have au:e < types.length:=by have:=hL;simp [hN] at this;exact this
   obtain ⟨k,hk⟩:=hlo e au;have ej:=(rQ hk).1;simp only at ej;have hE:=hend (.sl 1 (dInts ((namedL ⟨ae,order,types,.mk rh rp⟩).take e)) none) e au;rw [hk] at hE;have hnn:namedN ⟨ae,order,types,.mk rh rp⟩ e=firstA ⟨ae,order,types,.mk rh rp⟩ k:=by unfold namedN;rw [hk];all_goals rfl
   have ff:(namedL ⟨ae,order,types,.mk rh rp⟩)[e]? = some (firstA ⟨ae,order,types,.mk rh rp⟩ k):=by
    unfold namedL;rw [List.getElem?_map,List.getElem?_range au,Option.map_some,hnn]
   have du:dInts ((namedL ⟨ae,order,types,.mk rh rp⟩).take e) ++ [[DV.v (.int .i64 ((firstA ⟨ae,order,types,.mk rh rp⟩ k:Nat):Int))]]=dInts ((namedL ⟨ae,order,types,.mk rh rp⟩).take (e + 1)):=by
    rw [List.take_add_one,ff];simp [dInts]
   refine dS ?_;refine ki en100 hE ax rfl rfl ?_;refine ⟨⟨by simp only [oz];omega,by simp only [oz];omega⟩,?_⟩
   have Rj:(cZ l)[0 + (oz (some k)).toNat * 1]? = some (DV.v (.int .i64 ((firstA ⟨ae,order,types,.mk rh rp⟩ k:Nat):Int))):=by
    rw [show 0 + (oz (some k)).toNat * 1=k by simp only [oz];omega];exact VK (W4 k ej)
   refine ⟨_,Rj,?_⟩;refine ⟨by simp [bi];omega,⟨by simp [bi,maxLen];omega,by simp [bi];omega⟩,?_⟩;exact rE ⟨_,by omega,e + 1,rfl,by omega,rfl⟩ (aq 3 rfl (gp (aK au (by omega)) du) rfl rfl rfl (wB2 (aK au (by omega)) du))
  ·have aS:e=types.length:=sW hN hL;subst aS;have ht:(namedL ⟨ae,order,types,.mk rh rp⟩).take types.length=namedL ⟨ae,order,types,.mk rh rp⟩:=by rw [<- fo,List.take_length]
   rw [ht];exact ⟨.tup [],[bC ⟨ae,order,types,.mk rh rp⟩ (.pt lc 0) (.loc 1 0) m,pC ⟨ae,order,types,.mk rh rp⟩ aO (.pt lc 0) (.v (.slice none 0 0)) (.v (.int .i64 0)) (.sl 1 (dInts (namedL ⟨ae,order,types,.mk rh rp⟩)) none)],ax,mv,rfl⟩
structure Ed where
 name:ByteArray
 bare:Bool
 ba:Int
 to:Int
 label:Int
 wide:Int
 ck:Int
 cn:Int
 seen:Int
 ca:Int
structure Nd where
 ag:Int
 ba:Int
 lo:Int
 hi:Int
 most:Int
 af:List ByteArray
 ap:List Ed
def CU (e:Ed):List DV:=[.v (.string e.name),.v (.bool e.bare),.v (.int .i64 e.ba),.v (.int .i64 e.to),.v (.int .i64 e.label),.v (.int .i64 e.wide),.v (.int .i64 e.ck),.v (.int .i64 e.cn),.v (.int .i64 e.seen),.v (.int .i64 e.ca)]
def cJ (l:List Ed):List (List DV):=l.map CU
def gG (n:Nd):List DV:=[.v (.int .i64 n.ag),.v (.int .i64 n.ba),.v (.int .i64 n.lo),.v (.int .i64 n.hi),.v (.int .i64 n.most),.sl 1 (fp n.af) none,.sl 10 (cJ n.ap) none]
def bD (l:List Nd):List (List DV):=l.map gG
def l9 (w:Int):Int:=if w=0 then 3 else w
def yd (lev:List Wd->Int) (p:Ph) (to:Int):Ed:=⟨p.name.s,p.bare,p.name.a,to,lev p.label,l9 p.wide,p.ck,p.cn,lev p.cl,p.ca⟩
def VL (s:Sch) (name:ByteArray):Int:=(namedN s ((dz (tL s) name).getD 0):Int)
def oA (s:Sch) (t:Ty) (k:Nat):Int:=if t.h.ag=9 then VL s t.h.name.s else (k:Int)
def we (s:Sch) (p:Ph) (u:Ty) (k:Nat):Int:=if p.bare then -1 else oA s u k
mutual
def ndsT (lev:List Wd->Int) (s:Sch):Ty->Nat->List Nd
 | .mk h ps,k=>if h.ag=9 then [] else ⟨h.ag,h.ba,h.lo,h.hi,h.most,aD h.af,edsP lev s ps (k + 1)⟩ :: ye lev s ps (k + 1)
def edsP (lev:List Wd->Int) (s:Sch):Pts->Nat->List Ed
 | .nil,_=>[]
 | .cons p u r,k=>yd lev p (we s p u k) :: edsP lev s r (k + if p.bare then 0 else u.nn)
def ye (lev:List Wd->Int) (s:Sch):Pts->Nat->List Nd
 | .nil,_=>[]
 | .cons p u r,k=>(if p.bare then [] else ndsT lev s u k) ++ ye lev s r (k + if p.bare then 0 else u.nn)
end
mutual
theorem kR (lev:List Wd->Int) (s:Sch):∀ (t:Ty) (k:Nat),(ndsT lev s t k).length=t.nn
 | .mk h ps,k=>by
  simp only [ndsT,Ty.nn];split
  ·rfl
  ·rw [List.length_cons,yf lev s ps];omega
theorem yf (lev:List Wd->Int) (s:Sch):∀ (ps:Pts) (k:Nat),(ye lev s ps k).length=ps.nn
 | .nil,k=>rfl
 | .cons p u r,k=>by
  simp only [ye,Pts.nn,List.length_append,yf lev s r];split
  ·rfl
  ·rw [kR lev s u]
end
abbrev Md (s:Sch) (aO:List Nat) (lc:List DV) (n:Nat):List DV:=pC s aO (.pt lc 0) (.sl 0 (List.replicate n []) (some 0)) (.v (.int .i64 0)) (.sl 1 (dInts (namedL s)) none)
abbrev HO (n:Nat) (base:List DV):TkE:=⟨n,105,7,some base⟩
def TC (s:Sch) (aO:List Nat) (lc:List DV) (m:Int) (n:Nat) (base:List DV) (y:DV) (A1:List Nd) (r:DV) (os:List (List DV)) (tk:List TkE):Prop:=
 r=y/\os=[bC s (.pt lc 0) (.loc 1 0) m,Md s aO lc (n + A1.length)]/\tk=[HO (n + A1.length) (base ++ (bD A1).flatten)]
def Oi (lev:List Wd->Int) (s:Sch) (aO:List Nat) (lc:List DV) (m:Int) (t:Ty):Prop:=
 ∀ (n:Nat) (base:List DV),n + t.nn<=1099511627776->base.length=n * 7 ->
  Ev prog 43 [.loc 0 0,.agg (eJ t)] [bC s (.pt lc 0) (.loc 1 0) m,Md s aO lc n] [HO n base] (TC s aO lc m n base (.v (.int .i64 (oA s t n))) (ndsT lev s t n))
theorem K7 {X:Lx} (hX:X.OK) (s:Sch) (aO:List Nat) (m:Int) (p:Ph) (u:Ty) (hp:p.wt<=1099511627776) (eY:p.bare=false->Oi X.lev s aO (jG X.af (dC X.af X.aO) X.rows X.js) m u)
  (n:Nat) (base:List DV) (hb:p.bare=false->n + u.nn<=1099511627776) (hbl:base.length=n * 7) :
  Ev prog 102 [.loc 0 0,.agg (Ha p (eJ u))] [bC s (.pt (jG X.af (dC X.af X.aO) X.rows X.js) 0) (.loc 1 0) m,Md s aO (jG X.af (dC X.af X.aO) X.rows X.js) n] [HO n base]
   (TC s aO (jG X.af (dC X.af X.aO) X.rows X.js) m n base (.agg (CU (yd X.lev p (we s p u n)))) (if p.bare then [] else ndsT X.lev s u n)):=by
 have hw1:wdsWt p.label + wdsWt p.cl<=p.wt:=by simp only [Ph.wt];omega
 have IZ:X.pd = .pt (jG X.af (dC X.af X.aO) X.rows X.js) 0:=rfl;have zJ:=fun pc=>ya hX s pc m p.label (by omega);have Rk:=fun pc=>ya hX s pc m p.cl (by omega);rw [IZ] at zJ Rk;have hE:=fun to=>yd.eq_1 X.lev p to;have sH:=we.eq_1 s p u n;generalize jG X.af (dC X.af X.aO) X.rows X.js=lc at zJ Rk eY ⊢;obtain ⟨ae,order,types,⟨rh,rp⟩⟩:=s;obtain ⟨uh,us⟩:=u;refine eG 52 [.cell 4 178] func102 rfl ntmps102 rfl fun _ _ _ _=>?_;have TD:=zJ [.pt lc 0,.sl 0 (List.replicate n []) none,.v (.int .i64 0),.pt (dC (tL ⟨ae,order,types,.mk rh rp⟩) aO) 0,.sl 1 (dInts (namedL ⟨ae,order,types,.mk rh rp⟩)) none];have TF:=Rk [.pt lc 0,.sl 0 (List.replicate n []) none,.v (.int .i64 0),.pt (dC (tL ⟨ae,order,types,.mk rh rp⟩) aO) 0,.sl 1 (dInts (namedL ⟨ae,order,types,.mk rh rp⟩)) none];apply oY (fun _=>false) 11 15 [0,1,2,3,4,5,6,7,8,9,10,11,12,13,14,15,16] [0,1,2,3,4,5,6,7,8,9,10,15,11,12,13,14,16] 4 4 mo (by decide +kernel)
 ·refine ki Jj TD ax rfl rfl ?_;refine (?_:@Eq St _ _);exact rfl
 ·refine ki Jj TD ax rfl rfl ?_;refine (⟨rfl,rfl,?_⟩:_/\_/\_)
  repeat' (first | exact trivial | refine ⟨rfl,?_⟩)
 ·rfl
 refine br ?_ ?_<;>intro hw
 ·have hw:p.wide=0:=sU hw;refine rq [4] (fun _=>false) mo (by decide +kernel) ?_;refine ki Jj TF ax rfl rfl ?_;refine br ?_ ?_<;>intro hB
  ·have hB:p.bare=false:=sU hB;refine kh 2 1 QN rfl rfl rfl mv mv (eY hB n base (hb hB) hbl) (fun r lN dO hΦ h1 h2=>?_);obtain ⟨rfl,rfl,rfl⟩:=hΦ;refine ⟨.agg (CU ⟨p.name.s,p.bare,p.name.a,oA ⟨ae,order,types,.mk rh rp⟩ (.mk uh us) n,X.lev p.label,3,p.ck,p.cn,X.lev p.cl,p.ca⟩),[bC ⟨ae,order,types,.mk rh rp⟩ (.pt lc 0) (.loc 1 0) m,Md ⟨ae,order,types,.mk rh rp⟩ aO lc (n + (ndsT X.lev ⟨ae,order,types,.mk rh rp⟩ (.mk uh us) n).length)],ax,mv,?_,?_,?_⟩
   ·simp [hE,we,hB,l9,hw]
   ·simp [hB]
   ·simp [hB]
  ·have hB:p.bare=true:=sU hB;refine ⟨.agg (CU ⟨p.name.s,p.bare,p.name.a,-1,X.lev p.label,3,p.ck,p.cn,X.lev p.cl,p.ca⟩),[bC ⟨ae,order,types,.mk rh rp⟩ (.pt lc 0) (.loc 1 0) m,Md ⟨ae,order,types,.mk rh rp⟩ aO lc n],ax,mv,?_,?_,?_⟩
   ·simp [hE,we,hB,l9,hw]
   ·simp [hB]
   ·simp [hB,bD]
 ·have hw:¬ p.wide=0:=sU hw;refine rq [4] (fun _=>false) mo (by decide +kernel) ?_;refine ki Jj TF ax rfl rfl ?_;refine br ?_ ?_<;>intro hB
  ·have hB:p.bare=false:=sU hB;refine kh 2 1 QN rfl rfl rfl mv mv (eY hB n base (hb hB) hbl) (fun r lN dO hΦ h1 h2=>?_);obtain ⟨rfl,rfl,rfl⟩:=hΦ;refine ⟨.agg (CU ⟨p.name.s,p.bare,p.name.a,oA ⟨ae,order,types,.mk rh rp⟩ (.mk uh us) n,X.lev p.label,p.wide,p.ck,p.cn,X.lev p.cl,p.ca⟩),[bC ⟨ae,order,types,.mk rh rp⟩ (.pt lc 0) (.loc 1 0) m,Md ⟨ae,order,types,.mk rh rp⟩ aO lc (n + (ndsT X.lev ⟨ae,order,types,.mk rh rp⟩ (.mk uh us) n).length)],ax,mv,?_,?_,?_⟩
   ·simp [hE,we,hB,l9,hw]
   ·simp [hB]
   ·simp [hB]
  ·have hB:p.bare=true:=sU hB;refine ⟨.agg (CU ⟨p.name.s,p.bare,p.name.a,-1,X.lev p.label,p.wide,p.ck,p.cn,X.lev p.cl,p.ca⟩),[bC ⟨ae,order,types,.mk rh rp⟩ (.pt lc 0) (.loc 1 0) m,Md ⟨ae,order,types,.mk rh rp⟩ aO lc n],ax,mv,?_,?_,?_⟩
   ·simp [hE,we,hB,l9,hw]
   ·simp [hB]
   ·simp [hB,bD]
def nd0 (h:Hd):List DV:=[.v (.int .i64 h.ag),.v (.int .i64 h.ba),.v (.int .i64 h.lo),.v (.int .i64 h.hi),.v (.int .i64 h.most),.sl 1 (fp (aD h.af)) none,.v (.slice none 0 0)]
theorem Rm {h:Hd} {base R:List DV} {n:Nat} {x:DV} (hb:base.length=n * 7):(base ++ (nd0 h ++ R)).set (n * 7 + 6) x=base ++ ([.v (.int .i64 h.ag),.v (.int .i64 h.ba),.v (.int .i64 h.lo),.v (.int .i64 h.hi),.v (.int .i64 h.most),.sl 1 (fp (aD h.af)) none,x] ++ R):=by
 rw [List.set_append_right _ _ (by omega),hb,Nat.add_sub_cancel_left];rfl
theorem A2 (l:List Ed) (e:Ed):cJ l ++ [CU e]=cJ (l ++ [e]):=by simp [cJ]
theorem aW (l:List Ed):(cJ l).length=l.length:=by simp [cJ]
theorem rR (lev:List Wd->Int) (s:Sch):∀ (ps:Pts) (k:Nat),(edsP lev s ps k).length=ps.len
 | .nil,_=>rfl
 | .cons p u r,k=>by simp [edsP,Pts.len,rR lev s r]
abbrev ZC (s:Sch) (aO:List Nat) (lc:List DV) (m:Int) (n:Nat) (base:List DV) (h:Hd) (ps:Pts) (q e:Nat):St:=
 ⟨[(0,⟨[],.loc 0 0⟩),(3,⟨[],.loc 2 0⟩),(7,⟨[],.v (.int .i64 n)⟩),(8,⟨[],.loc 3 0⟩),(61,⟨[],.sl 2 (bQ h.af) none⟩),(62,⟨[],.v (.int .i64 (bQ h.af).length)⟩),(63,⟨[],.v (.int .i64 e)⟩)],
  [bC s (.pt lc 0) (.loc 1 0) m,Md s aO lc n,eJ (.mk h ps),[.v (.int .i64 h.ag),.v (.int .i64 h.ba),.v (.int .i64 h.lo),.v (.int .i64 h.hi),.v (.int .i64 h.most),.sl 1 (fp (aD (h.af.take e))) (some 1),.v (.slice none 0 0)]],
  [HO n base,⟨q,9,1,none⟩]⟩
abbrev Oj (s:Sch) (aO:List Nat) (lc:List DV) (m:Int) (n:Nat) (h:Hd) (ps:Pts) (n':Nat) (rS:List DV) (Es:List Ed) (q1 q2 e:Nat):St:=
 ⟨[(0,⟨[],.loc 0 0⟩),(3,⟨[],.loc 2 0⟩),(7,⟨[],.v (.int .i64 n)⟩),(11,⟨[],.sl 10 (cJ Es) (some 2)⟩),(92,⟨[],.sl 18 (gF ps) none⟩),(93,⟨[],.v (.int .i64 (gF ps).length)⟩),(94,⟨[],.v (.int .i64 e)⟩)],
  [bC s (.pt lc 0) (.loc 1 0) m,Md s aO lc n',eJ (.mk h ps)],
  [HO n' rS,⟨q1,9,1,none⟩,⟨q2,178,10,none⟩]⟩
theorem nc {X:Lx} {L:List ByteArray} {h:Hd} {ps:Pts} (hk:(knT X L (.mk h ps)).1=0):(h.ag=9->dz L h.name.s≠none)/\(knP X L ps).1=0:=by
 rw [knT] at hk;split at hk
 ·cases hk
 ·rename_i h1;exact ⟨fun h9 hn=>h1 ⟨h9,hn⟩,hk⟩
theorem tN {X:Lx} {L:List ByteArray} {p:Ph} {u:Ty} {r:Pts} (hk:(knP X L (.cons p u r)).1=0):(p.bare=false->(knT X L u).1=0)/\(knP X L r).1=0:=by
 rw [knP] at hk;split at hk
 ·rename_i h1;exact (h1 hk).elim
 ·split at hk
  ·rename_i h1;exact (h1 hk).elim
  ·split at hk
   ·rename_i h1;exact ⟨(fun h2=>by rw [h1] at h2;cases h2),hk⟩
   ·split at hk
    ·rename_i h1;exact (h1 hk).elim
    ·rename_i h1;exact ⟨fun _=>by simpa using h1,hk⟩
theorem A3 {X:Lx} (hX:X.OK) (s:Sch) (aO:List Nat) (m:Int) (hT:iV (tL s) aO) (jU:aO.length<=1099511627776):∀ (k:Nat) (t:Ty),t.wt<=k->t.wt<=1099511627776->(knT X (tL s) t).1=0 ->
  Oi X.lev s aO (jG X.af (dC X.af X.aO) X.rows X.js) m t
 | 0,t,hn,_,_=>by have:=t.eO;omega
 | k + 1,.mk h ps,hn,cM,I6=>by
  have ih:=A3 hX s aO m hT jU k;intro n base hnb hbl;obtain ⟨hk9,VM⟩:=nc I6;have aZ:=fun (p:Ph) (u:Ty)=>K7 hX s aO m p u;generalize jG X.af (dC X.af X.aO) X.rows X.js=lc at ih aZ ⊢;simp only [Ty.wt,Hd.wt] at hn cM;have nD:=ps.gD;have fo:=bP h.af;have hf:=jz (tL s) aO h.name.s hT jU;have hY:=kQ s;have hnmL:(namedL s).length=s.types.length:=by simp [namedL]
  have Rn:oA s (.mk h ps) n=if h.ag=9 then VL s h.name.s else (n:Int):=rfl
  have K8:ndsT X.lev s (.mk h ps) n=if h.ag=9 then [] else ⟨h.ag,h.ba,h.lo,h.hi,h.most,aD h.af,edsP X.lev s ps (n + 1)⟩ :: ye X.lev s ps (n + 1):=by rw [ndsT]
  have hnn:(Ty.mk h ps).nn=if h.ag=9 then 0 else 1 + ps.nn:=by rw [Ty.nn]
  generalize hS:s=S at *;subst hS;obtain ⟨ae,order,types,⟨rh,rp⟩⟩:=s;refine eG 117 [.tmp 4] func43 rfl ntmps43 rfl fun _ _ _ _=>?_;refine br ?_ ?_<;>intro h9
  ·have h9:h.ag=9:=sU h9;obtain ⟨i,hi⟩:=Option.ne_none_iff_exists'.1 (hk9 h9);have Et:=(dH hi).1;rw [hi] at hf;rw [ai h9] at Rn K8
   have ff:(namedL ⟨ae,order,types,.mk rh rp⟩)[i]? = some (namedN ⟨ae,order,types,.mk rh rp⟩ i):=by
    unfold namedL;rw [List.getElem?_map,List.getElem?_range (by omega)];rfl
   refine dI ?_;refine cD xj hf ?_;refine iX (aG ff) ?_;refine ⟨.v (.int .i64 (namedN ⟨ae,order,types,.mk rh rp⟩ i:Nat)),[bC ⟨ae,order,types,.mk rh rp⟩ (.pt lc 0) (.loc 1 0) m,Md ⟨ae,order,types,.mk rh rp⟩ aO lc n],ax,mv,?_,?_,?_⟩
   ·rw [Rn,VL,hi];rfl
   ·rw [K8];rfl
   ·rw [K8];simp [bD]
  have h9:¬ h.ag=9:=sU h9;rw [ah h9] at Rn K8 hnn;have ez:(List.replicate n ([]:List DV)).length=n:=List.length_replicate;refine lJ (fun e=>ZC ⟨ae,order,types,.mk rh rp⟩ aO lc m n base h ps e e) h.af.length (cW 4 ⟨0,9,1,none⟩ rfl rfl rfl (nF ez) rfl rfl (dy ez)) ?_;intro e he;refine br ?_ ?_<;>intro hL
  ·have au:e < h.af.length:=by simpa [aC] using hL
   obtain ⟨w,hw⟩:=gX au;have du:=kr hw;refine ⟨kK w,⟨by omega,bg hw⟩,?_⟩;refine ⟨by simp [cv,aD];omega,⟨by simp [cv,aD,maxLen];omega,by simp [cv,aD];omega⟩,?_⟩;exact rE ⟨_,by omega,e + 1,rfl,by omega,rfl⟩ (aq 4 rfl (gp (aK au (by omega)) du) rfl rfl rfl (wB2 (aK au (by omega)) du))
  have aS:e=h.af.length:=by have:=hL;simp [aC] at this;omega
  subst aS;rw [List.take_length];refine dS ?_;refine ⟨⟨⟨ez,by simp⟩,by simp [maxLen];omega,by simp;omega⟩,?_⟩
  refine bA (fun j st=>∃ (e n':Nat) (rS:List DV) (Es:List Ed) (K:List Nd),st=Oj ⟨ae,order,types,.mk rh rp⟩ aO lc m n h ps n' rS Es h.af.length e e/\e<=ps.len/\n'=n + 1 + K.length/\rS=base ++ (nd0 h ++ (bD K).flatten)/\Es.length=e /\
    K ++ ye X.lev ⟨ae,order,types,.mk rh rp⟩ (ps.drop e) (n + 1 + K.length)=ye X.lev ⟨ae,order,types,.mk rh rp⟩ ps (n + 1)/\Es ++ edsP X.lev ⟨ae,order,types,.mk rh rp⟩ (ps.drop e) (n + 1 + K.length)=edsP X.lev ⟨ae,order,types,.mk rh rp⟩ ps (n + 1)/\K.length + (ps.drop e).nn=ps.nn/\(knP X (tL ⟨ae,order,types,.mk rh rp⟩) (ps.drop e)).1=0/\j=ps.len - e) ps.len
   (Oj ⟨ae,order,types,.mk rh rp⟩ aO lc m n h ps (n + 1) (base ++ (nd0 h ++ [])) [] h.af.length 0 0) (cW 3 ⟨0,178,10,none⟩ rfl rfl rfl pO rfl rfl lX) ⟨0,n + 1,_,[],[],rfl,by omega,rfl,rfl,rfl,rfl,rfl,by simp [Pts.drop],VM,by omega⟩ ?_
  rintro j st ⟨e,n',rS,Es,K,rfl,he,SD,gA,WT,hK,VN,hKn,EU,rfl⟩
  have hbl':rS.length=n' * 7:=by
   have:∀ l:List Nd,(bD l).flatten.length=l.length * 7:=by
    intro l
    induction l with
    | nil=>rfl
    | cons a r ih=>simp only [bD,List.map_cons,List.flatten_cons,List.length_append,List.length_cons] at ih ⊢;rw [ih];simp only [gG,List.length_cons,List.length_nil];omega
   rw [gA,List.length_append,List.length_append,this,hbl,SD];simp only [nd0,List.length_cons,List.length_nil];omega
  refine br ?_ ?_<;>intro hL
  ·have au:e < ps.len:=by simpa [aR] using hL
   obtain ⟨p,u,hx⟩:=Pts.fh au;have hwt:=Pts.gY (mG hx);rw [Pts.drop_cons hx] at hK VN hKn EU;obtain ⟨jK,MK⟩:=tN EU;simp only [ye] at hK;simp only [edsP] at VN;simp only [Pts.nn] at hKn;rw [<- SD] at hK VN;have DK:=u.hZ;have huc:=u.fi;have dR:=aZ p u (by omega) (fun hB=>ih u (by omega) (by omega) (jK hB)) n' rS (fun hB=>by rw [hB] at hKn;simp only [Bool.false_eq_true,if_false] at hKn;omega) hbl';have ZD:=kR X.lev ⟨ae,order,types,.mk rh rp⟩ u n';obtain ⟨uh,us⟩:=u;refine iX (cr hx) ?_;refine kh 2 1 Ye rfl rfl rfl mv mv dR (fun r lN dO hΦ h1 h2=>?_);obtain ⟨rfl,rfl,rfl⟩:=hΦ;refine ⟨by rw [aW,WT],⟨by simp [aW,WT,maxLen];omega,by simp [aW,WT];omega⟩,?_⟩
   have VO:(if p.bare then [] else ndsT X.lev ⟨ae,order,types,.mk rh rp⟩ (.mk uh us) n').length=if p.bare then 0 else (Ty.mk uh us).nn:=by
    split
    ·rfl
    ·exact ZD
   have TG:n + 1 + (K.length + (if p.bare then 0 else (Ty.mk uh us).nn))=n' + if p.bare then 0 else (Ty.mk uh us).nn:=by rw [SD];omega
   refine ⟨Oj ⟨ae,order,types,.mk rh rp⟩ aO lc m n h ps (n' + (if p.bare then [] else ndsT X.lev ⟨ae,order,types,.mk rh rp⟩ (.mk uh us) n').length) (rS ++ (bD (if p.bare then [] else ndsT X.lev ⟨ae,order,types,.mk rh rp⟩ (.mk uh us) n')).flatten) (Es ++ [yd X.lev p (we ⟨ae,order,types,.mk rh rp⟩ p (.mk uh us) n')]) h.af.length (e + 1) (e + 1),(aq 3 rfl (by repeat' (first | exact rfl | exact aA rfl | exact aE (aK au (by omega)) | exact cR (A2 _ _) rfl | refine ⟨_,_,rfl,?_,?_⟩)) rfl rfl rfl (by repeat' (first | exact trivial | exact aA rfl | exact aE (aK au (by omega)) | exact cR (A2 _ _) rfl | refine ⟨⟨_,rfl,?_⟩,?_⟩))),
    ps.len - (e + 1),by omega,e + 1,_,_,_,K ++ (if p.bare then [] else ndsT X.lev ⟨ae,order,types,.mk rh rp⟩ (.mk uh us) n'),rfl,by omega,?_,?_,?_,?_,?_,?_,MK,rfl⟩
   ·rw [List.length_append,SD];omega
   ·rw [gA];simp [bD]
   ·simp [WT]
   ·rw [List.length_append,VO,List.append_assoc,TG];exact hK
   ·rw [List.length_append,VO,List.append_assoc,TG];exact VN
   ·rw [List.length_append,VO];omega
  ·have aS:e=ps.len:=by have:=hL;simp [aR] at this;omega
   subst aS;rw [Pts.dM] at hK VN;simp only [ye,List.append_nil] at hK;simp only [edsP,List.append_nil] at VN;have hKl:K.length=ps.nn:=by rw [hK,yf]
   have VP:(List.replicate n' ([]:List DV)).length=n':=List.length_replicate;refine K0 (kt:=0) ⟨rfl,rfl⟩ ⟨rfl,rfl,rfl⟩ ⟨rfl,rfl,rfl⟩ rfl rfl rfl rfl rfl rfl rfl rfl rfl rfl rfl VP ⟨by omega,by omega⟩ (by decide) ?_;have ZE:n + (ndsT X.lev ⟨ae,order,types,.mk rh rp⟩ (.mk h ps) n).length=n':=by rw [K8,List.length_cons,<- hK,SD];omega
   have s7:rS.set ((n:Int).toNat * 7 + 6) (.sl 10 (cJ Es) none)=base ++ (bD (ndsT X.lev ⟨ae,order,types,.mk rh rp⟩ (.mk h ps) n)).flatten:=by
    rw [gA,show (n:Int).toNat=n by omega,Rm hbl,K8,VN,hK];rfl
   refine ⟨.v (.int .i64 n),[bC ⟨ae,order,types,.mk rh rp⟩ (.pt lc 0) (.loc 1 0) m,Md ⟨ae,order,types,.mk rh rp⟩ aO lc n'],ax,mv,?_,?_,?_⟩
   ·rw [Rn]
   ·rw [ZE]
   ·rw [ZE,<- s7];rfl
end Go.Proofs.YtadhpeooehkklaaGreat
namespace Go.Proofs.YtadhpeooehkklaaGreat
namespace Dv
open Go Go.RowKit
section
variable {X:Ctx} {st:St} {k:List It} {E:En} {a:Act} {w:World} {ops:Array Oper} {W:Nat->Bool} {C:World->Prop} {Q:Act->World->Prop} {i:Nat} {r:List Nat} {o:Oper}
theorem fZ (hg:o.guard=none):Region.wanted o (yielded ops a.tmps)=true:=by
 unfold Region.wanted;rw [hg]
theorem Ro {bx:List (List DV)} {wr:World} (h:Rel X E st a w) (hE:te E bx wr) (hC:∀ w',C w' -> CC E bx wr w'):Rl E bx C st.sl a where
 tm:=h.tm
 fm:=fun i cs hi=>by
  by_cases bF:cs=[]
  ·subst bF;have au:i < E.β.length:=by rw [hE.len];exact (gS hi).1
   exact ⟨_,[],gE au,⟨dh _,by simp⟩,fun w' _ j u hj=>by simp at hj⟩
  ·obtain ⟨b,ty,arr,hb,hw,hc⟩:=hE.fm i cs hi bF;exact ⟨b,arr,hb,hc,fun w' h' j u hj=>by rw [cT (((hC w' h').o i b cs hb hi bF).trans hw)];simpa using hj⟩
 cc:=fun x v hx w' h'=>(hC w' h').c x v hx
theorem Rp {bx:List (List DV)} (h:Env E bx w) (m:List Nat):te E (maskL m 0 bx) w:=⟨by rw [tf];exact h.len,fun i cs hi bF=>by
 rcases tg m _ _ _ _ hi with h1 | h1
 ·exact (bF h1).elim
 ·exact h.fm i cs h1⟩
theorem nd (hR:Rel X E st a w) (ho:ops[i]? = some o) (hE:gz o.op=false) (hL:kb o.op=false) (hg:o.guard=none) {s:DV} (hs:pureT X.P X.T ⟨st.sl,[],[]⟩ [] o.op=some s) (hd:gx X.nt st.sl o.dst=true)
  (hk:∀ a',Rel X E (st.put o.dst ⟨[],s⟩) a' w->runT X.P ops W C Q r a' w):runT X.P ops W C Q (i :: r) a w:=by
 have ez:Rl E [] (fun _=>False) st.sl a:=⟨hR.tm,fun i cs hi=>by simp at hi,fun _ _ _ _ h=>h.elim⟩;obtain ⟨v,hv,cx⟩:=ji (st:=⟨st.sl,[],[]⟩) X.hT ez (bK _) hs;simp only [runT,ho,hE,Bool.false_eq_true,if_false];exact ⟨v,.inl ⟨fZ hg,fun w' _=>cx w' fun h=>by rw [hL] at h;cases h⟩,fun h=>(by rw [hL] at h;cases h),hk _ (bM hR hd s v hv)⟩
theorem Rq (hR:Rel X E st a w) (ho:ops[i]? = some o) {bx:List (List DV)} (ez:Rl E bx C st.sl a) (UT:C w) (hE:gz o.op=false) (hg:o.guard=none) {s:DV} (hs:pureT X.P X.T ⟨st.sl,bx,[]⟩ [] o.op=some s) (hd:gx X.nt st.sl o.dst=true)
  (hk:∀ a',Rel X E (st.put o.dst ⟨[],s⟩) a' w->runT X.P ops W C Q r a' w):runT X.P ops W C Q (i :: r) a w:=by
 obtain ⟨v,hv,cx⟩:=ji (st:=⟨st.sl,bx,[]⟩) X.hT ez (bK _) hs;simp only [runT,ho,hE,Bool.false_eq_true,if_false];exact ⟨v,.inl ⟨fZ hg,fun w' h=>cx w' h⟩,fun _=>UT,hk _ (bM hR hd s v hv)⟩
theorem Rr (hR:Rel X E st a w) (ho:ops[i]? = some o) {t x d:Nat} {b p j:Nat} {n:Nat} {kd:TK} {z:List Value} (hb:E.β[j]? = some b) (qR:o.op = .load t (.tmp x)) (jm:o.dst=some d) {i2 HP b2:Nat} (ll:E.β[i2]? = some b2) (hx:rv st [] (.tmp x)=some (.loc i2 p)) (hT:X.T.find t=some ⟨n,false,kd,z⟩)
  (hC:∀ w',C w' -> w'.cell? ⟨b2,p,none⟩=some (.pointer (some ⟨b,HP,none⟩))) (UT:C w) (hg:o.guard=none) (hd:gx X.nt st.sl (some d)=true)
  (hk:∀ a',Rel X E ⟨(d,⟨[],.loc j HP⟩) :: st.sl,st.bx,st.tk⟩ a' w->runT X.P ops W C Q r a' w):runT X.P ops W C Q (i :: r) a w:=by
 have hE:gz o.op=false:=by rw [qR];all_goals rfl
 simp only [runT,ho,hE,Bool.false_eq_true,if_false];have hv:Rv E (.loc j HP) (.pointer (some ⟨b,HP,none⟩)):=by unfold Rv;exact ⟨b,hb,rfl⟩
 refine ⟨.pointer (some ⟨b,HP,none⟩),.inl ⟨fZ hg,fun w' h=>?_⟩,fun _=>UT,?_⟩
 ·have UQ:=hC w' (h (by rw [qR];rfl));have e1:=bp hR.rl hx;unfold Rv at e1;obtain ⟨b3,SF,e1⟩:=e1;rw [ll] at SF;simp only [oI] at SF;subst SF;have Qr:=(te_parts X.hT hT).2.1
  have hl:(loadVar t ⟨b2,p,none⟩).run X.P w' = .ok (.pointer (some ⟨b,HP,none⟩)) w':=by
   simp [loadVar,kA Qr,UQ]
  simp only [execOp,qR,e1,Sem.run_bind,Instr.loadAt,Instr.sureAddr,Sem.run_pure,Result.andThen_ok,hl]
 ·rw [jm];exact hk _ (bM hR hd (.loc j HP) _ hv)
theorem K9 (hR:Rel X E st a w) (ho:ops[i]? = some o) {dst:Option Nat} {f:Operand} {args:Array Operand} {tys:Array TypeId} (qR:o.op = .call ⟨.value f,args,tys⟩) (jm:o.dst=dst) (hg:o.guard=none) {g:FuncId} {ds:List DV} (hf:rv st [] f=some (.fn g [] [])) (hl:argsV st [] args.toList=some ds) (mJ:Enters X.P g)
  {K:Value->World->Prop} (hc:∀ vs,RvL E ds vs->Calls X.P g vs.toArray w fun e w'=>∃ v,e = .returned v/\K v w') (hk:∀ v w',K v w' -> (W i=false->C w->C w')/\runT X.P ops W C Q r (a.put dst v) w'):runT X.P ops W C Q (i :: r) a w:=by
 have hE:gz o.op=true:=by rw [qR];all_goals rfl
 have W5:=fZ (ops:=ops) (a:=a) hg;have ez:=hR.rl;have e1:=bp ez hf;unfold Rv at e1;obtain ⟨l1,r1,e1,zJ,hr1⟩:=e1;simp only [RvL] at zJ hr1;subst zJ hr1;have hargs:=jh ez (bK _) _ _ hl;simp only [runT,ho,hE,if_true,dT,W5];subst jm;obtain ⟨dst,op,ty,pos,after,gu⟩:=o;simp only at qR;subst qR
 have hr:(execOp a.eval ⟨dst,.call ⟨.value f,args,tys⟩,ty,pos,after,gu⟩).run X.P w = .ok (.enter g (args.toList.map a.eval).toArray) w:=by
  have e3:(([]:List Value).toArray ++ args.map a.eval ++ ([]:List Value).toArray)=(args.toList.map a.eval).toArray:=by apply Array.ext';simp
  simp only [execOp,resolve,e1,Deferred.ofValue,Sem.run_bind,Sem.run_pure,Result.andThen_ok,invoke,e3];exact mJ _ _
 unfold wq;rw [hr];refine (hc _ hargs).mono ?_;rintro e w' ⟨v,rfl,hK⟩;exact ⟨v,rfl,hk v w' hK⟩
theorem Rs (hR:Rel X E st a w) (ho:ops[i]? = some o) {dst:Option Nat} {f:Operand} {args:Array Operand} {tys:Array TypeId} (qR:o.op = .call ⟨.value f,args,tys⟩) (jm:o.dst=dst) (hg:o.guard=none) {g:FuncId} {ds Va:List DV} (hf:rv st [] f=some (.fn g [] [])) (hl:argsV st [] args.toList=some ds) (mJ:Enters X.P g)
  {os:List (List DV)} (n1 m1:Nat) (Ac:Nat.ble n1 st.bx.length=true) (kp:Nat.ble m1 st.tk.length=true) (sZ:nV [] n1 n1 m1 os (st.bx.take n1)) (ha:CcL [] n1 n1 m1 Va ds)
  {Φ:DV->List (List DV)->List TkE->Prop} (hc:Ev X.P g Va os (st.tk.take m1) Φ) (bd:X.still=false) (hX:X.bt=[])
  (hk:∀ v r' lN dO E' w',Φ r' lN dO -> lN.length=n1->dO.length=m1->Rel X E' ⟨st.sl,lN ++ st.bx.drop n1,dO ++ st.tk.drop m1⟩ a w' -> Rv E' r' v->Ext E E' -> E'.β=E.β->(∀ (i:Nat) b,n1<=i->E.β[i]? = some b->w'.heap[b]? = w.heap[b]?) ->
   (W i=false->C w->C w')/\runT X.P ops W C Q r (a.put dst v) w'):runT X.P ops W C Q (i :: r) a w:=by
 refine K9 hR ho qR jm hg hf hl mJ (K:=fun v w'=>∃ r' lN dO E',Φ r' lN dO /\ lN.length=n1/\dO.length=m1/\Rel X E' ⟨st.sl,lN ++ st.bx.drop n1,dO ++ st.tk.drop m1⟩ a w' /\ Rv E' r' v/\Ext E E' /\ E'.β=E.β/\∀ (i:Nat) b,n1<=i->E.β[i]? = some b->w'.heap[b]? = w.heap[b]?)
  (fun vs hv=>?_) ?_
 ·refine (EO n1 m1 Ac kp sZ ha hc bd hX hR hv).mono ?_;rintro e w' ⟨v,r',lN,dO,E',rfl,h⟩;exact ⟨v,rfl,r',lN,dO,E',h⟩
 ·rintro v w' ⟨r',lN,dO,E',h1,h2,h3,h4,h5,h6,h7,h8⟩;exact hk v r' lN dO E' w' h1 h2 h3 h4 h5 h6 h7 h8
theorem Rt (h:Rel X E st a w) (j o k:Nat) {n ty e:Nat} {ocs:List DV} {es ns:List (List DV)} (hq:st.tk[k]? = some ⟨n,ty,e,some ns.flatten⟩) (zx:∀ x∈ns,x.length=e) (fo:ns.length=n) (hj:st.bx[j]? = some ocs) (ho:ocs[o]? = some (.sl 0 es (some k))) (gT:es.length=n) :
  ∃ E',Rel X E' ⟨st.sl,st.bx.set j (ocs.set o (.sl e ns none)),st.tk.set k ⟨n,ty,e,none⟩⟩ a w:=HA hq zx fo hj ho gT E a w h
theorem La (hR:Rel X E st a w) (ho:ops[i]? = some o) (hE:gz o.op=true) (hg:o.guard=none) (hW:W i=true) (hd:gx X.nt st.sl o.dst=true) {p:Prop} (hp:effC X st o (go X 4000 k)=some p) (h:p):runT X.P ops W C (fun a w=>kq X k .normal a w) [i] a w:=by
 have W5:=fZ (ops:=ops) (a:=a) hg;simp only [runT,ho,hE,if_true,dT,W5];refine mH ?_ (mI hd hR hp h);rintro a' w' ⟨st',E',iz,hr,_⟩;exact ⟨(fun h=>by rw [hW] at h;cases h),go_sound 4000 _ _ iz _ _ _ hr⟩
mutual
theorem tO {i j:Nat}:∀ d:DV,renD (swp i j) (renD (swp i j) d)=d
 | .v x=>rfl
 | .ud=>rfl
 | .agg l=>by simp only [renD,kx]
 | .tup l=>by simp only [renD,kx]
 | .sl e es tk=>rfl
 | .pt cs o=>rfl
 | .loc k o=>by simp only [renD,ln]
 | .el k o=>by simp only [renD,ln]
 | .ms k e o l c=>by simp only [renD,ln]
 | .fn g l r=>by simp only [renD,kx]
 | .sM t x=>by simp only [renD,tO]
theorem kx {i j:Nat}:∀ l:List DV,renL (swp i j) (renL (swp i j) l)=l
 | []=>rfl
 | d :: r=>by simp only [renL,tO,kx]
end
theorem A4 {i j:Nat}:∀ l:List (Nat × Sl),renS (swp i j) (renS (swp i j) l)=l
 | []=>rfl
 | (k,⟨gs,s⟩) :: r=>by simp only [renS,tO,A4]
theorem A5 {i j:Nat}:∀ l:List (List DV),renO (swp i j) (renO (swp i j) l)=l
 | []=>rfl
 | c :: r=>by simp only [renO,kx,A5]
theorem Ol {i j:Nat} (f:Nat->Nat) (l:List (List DV)) (hi:i < l.length) (hj:j < l.length):renO f (swL i j l)=swL i j (renO f l):=by
 apply List.ext_getElem?;intro k;rw [ry,fg hi hj,fg (by rw [de];exact hi) (by rw [de];exact hj),ry]
theorem E6 {i j:Nat} {S:St} (hi:i < S.bx.length) (hj:j < S.bx.length):ek i j (ek i j S)=S:=by
 obtain ⟨sl,bx,tk⟩:=S;simp only [ek,A4];rw [Ol _ _ (by rw [de];exact hi) (by rw [de];exact hj),A5];congr 1;apply List.ext_getElem?;intro k;rw [fg (by rw [dp];exact hi) (by rw [dp];exact hj),fg hi hj,ln]
theorem ik.ZF {f:FuncId} {args:List DV} {dst:Option Nat} (i j:Nat) (L0:Nat.ble X.n0 i=true) (sY:Nat.ble X.n0 j=true) (hi:Nat.blt i st.bx.length=true) (hj:Nat.blt j st.bx.length=true)
  (h:ik X f (renL (swp i j) args) dst k (ek i j st)) (hX:X.bt=[]:=by exact rfl):ik X f args dst k st:=by
 have eo:=hi;have gB:=hj;simp only [Nat.blt_eq] at eo gB;have hl:(ek i j st).bx.length=st.bx.length:=by simp only [ek,dp,de]
 exact ik.G6 i j (E6 eo gB).symm (kx args).symm L0 sY (by rw [hl];exact hi) (by rw [hl];exact hj) h hX
theorem HQ {P:Program} {t e:TypeId} (hu:P.underlying t=some (.slice e)) (d:Nat) (x:Option Addr) (n c:Nat) (w:World):(Op.equalIn (d + 1) t (.slice x n c) (.slice none 0 0)).run P w = .ok x.isNone w:=by
 cases x<;>simp [Op.equalIn,run_underlying hu]
theorem Om {P:Program} {t e:TypeId} (hu:P.underlying t=some (.slice e)) (x:Option Addr) (n c:Nat) (w:World):(Op.equal t (.slice x n c) (.slice none 0 0)).run P w = .ok x.isNone w:=HQ hu 9999 x n c w
theorem On {t d e:Nat} {x:Operand} {es:List (List DV)} {tk:Option Nat} {n et e' j4:Nat} {bb:Bool} {z:List Value} (qR:∃ t',o.op = .binOp .eql t x (.const (.slice none 0 0)) t') (jm:o.dst=some d) (hx:rv st [] x=some (.sl e es tk)) (hT:X.T.find t=some ⟨n,bb,.sl et e' j4,z⟩) (hd:gx X.nt st.sl (some d)=true)
  (hk:∀ b:Bool,(es ≠ []->b=false)->go X 4000 k ⟨(d,⟨[],.v (.bool b)⟩) :: st.sl,st.bx,st.tk⟩):LZ X o k st:=by
 intro E a w h;obtain ⟨t',qR⟩:=qR;have e1:=bp h.rl hx;unfold Rv at e1;obtain ⟨b,m,cap,e1,⟨rfl,_⟩,hr,_⟩:=e1;obtain ⟨hu,_⟩:=fw X.hT hT;have aP:=Om hu b es.length cap w
 have cx:(execOp a.eval o).run X.P w = .ok (.value (.bool b.isNone)) w:=by
  have hc:a.eval (.const (.slice none 0 0)) = .slice none 0 0:=rfl;simp [execOp,qR,e1,hc,eqGuard,binOp,aP]
 refine lW cx ?_;rw [jm];refine go_sound 4000 _ _ (hk b.isNone fun bF=>?_) E _ w (bM h hd (.v (.bool b.isNone)) _ (by unfold Rv;exact ⟨rfl,rfl⟩));have:=qb (hr bF).1;rw [this];rfl
theorem ZG {t d et e j4 n:Nat} {bb:Bool} {z:List Value} (qR:o.op = .buildSlice t 0 #[]) (jm:o.dst=some d) (hT:X.T.find t=some ⟨n,bb,.sl et e j4,z⟩) (hd:gx X.nt st.sl (some d)=true) (bd:X.still=false:=by exact rfl) (hX:X.bt=[]:=by exact rfl) :
  OpS X o st ⟨(d,⟨[],.sl e [] (some st.tk.length)⟩) :: st.sl,st.bx,st.tk ++ [⟨0,et,e,none⟩]⟩:=by
 intro E a w h;obtain ⟨hu,ii,zv,q8,hz,bT,Gy,Ki⟩:=fw X.hT hT;have ra:jc X.P et=some e:=by rw [gl q8,bT]
 have cx:(execOp a.eval o).run X.P w = .ok (.value (.slice (some ⟨w.heap.size,0,none⟩) 0 0)) (w.alloc (.cells #[] et)):=by
  have h1:(Instr.buildSlice t 0 #[]).run X.P w = .ok (.slice (some ⟨w.heap.size,0,none⟩) 0 0) (w.alloc (.cells #[] et)):=by
   have h0:Array.range 0 = #[]:=rfl;simp [Instr.buildSlice,run_underlying hu,aX ra,Instr.fill,newRow,h0]
  simp only [execOp,qR,List.map_toArray,List.map_nil,Sem.run_bind,h1,Result.andThen_ok,Sem.run_pure]
 refine eL cx ?_;rw [jm];have jK:=h.env.ke (w':=w.alloc (.cells #[] et)) fun i hi=>alloc_old w _ hi
 let E2:En:=⟨E.c,E.β,E.tk ++ [⟨0,et,e,none⟩],E.τ ++ [.slice (some ⟨w.heap.size,0,none⟩) 0 0]⟩
 have hext:Ext E E2:=⟨fun _ _ h=>h,fun _ _ h=>h,fun k q' hk=>by
  have au:=(gS hk).1;refine ⟨q',by show (E.tk ++ _)[k]? = _;rw [cm au];exact hk,.inl ⟨rfl,?_⟩⟩;show (E.τ ++ _)[k]? = _
  rw [cm (by rw [h.env.tl];exact au)]⟩
 have hτ:∀ (k:Nat) y,E2.τ[k]? = some y->(k < E.τ.length/\E.τ[k]? = some y)∨(k=E.τ.length/\y = .slice (some ⟨w.heap.size,0,none⟩) 0 0):=fun k y hy=>by
  have hy:(E.τ ++ [Value.slice (some ⟨w.heap.size,0,none⟩) 0 0])[k]? = some y:=hy;rw [List.getElem?_append] at hy;split at hy
  ·rename_i hk;exact .inl ⟨hk,hy⟩
  ·rename_i hk
   have h0:k - E.τ.length=0:=by
    rcases Nat.eq_zero_or_pos (k - E.τ.length) with h0 | h0
    ·exact h0
    ·rw [cQ (by simp;omega)] at hy;cases hy
   rw [h0] at hy;simp only [List.getElem?_cons_zero,oI] at hy;exact .inr ⟨by omega,hy.symm⟩
 have gk:∀ (k:Nat) y g,E.τ[k]? = some y->y.ownBlock=some g->g < w.heap.size:=fun k y g hy hg=>(h.env.own (mG hy) hg).1
 have cj:Rel X E2 ⟨st.sl,st.bx,st.tk ++ [⟨0,et,e,none⟩]⟩ a (w.alloc (.cells #[] et)):=by
  refine dF h hext ?_ (by show E.tk ++ _=_;rw [h.tk]) ?_ (h.fr.alloc _) (nX bd) (.nil hX)
  ·exact {
    len:=h.env.len
    tl:=by show (E.τ ++ _).length=(E.tk ++ _).length;simp [h.env.tl]
    fm:=fun i cs hi=>by
     obtain ⟨b,t,arr,hb,hw,hc⟩:=jK.fm i cs hi;exact ⟨b,t,arr,hb,hw,hc.mono hext⟩
    inj:=h.env.inj
    sub:=jK.sub
    pc:=h.env.pc
    cG:=fun k q' y TH hy=>by
     rcases hτ k y hy with ⟨au,fB⟩ | ⟨rfl,rfl⟩
     ·have fb:(E.tk ++ [⟨0,et,e,none⟩])[k]? = some q':=TH;rw [cm (by rw [<- h.env.tl];exact au)] at fb;exact jK.cG k q' y fb fB
     ·have fb:(E.tk ++ [⟨0,et,e,none⟩])[E.τ.length]? = some q':=TH;rw [List.getElem?_append_right (by rw [h.env.tl];exact aU _),h.env.tl] at fb;simp only [Nat.sub_self,List.getElem?_cons_zero,oI] at fb;subst fb;refine .inr ⟨w.heap.size,0,#[],rfl,je w _,⟨by simp,qY.none rfl⟩,aU _,Nat.zero_le _,fun hm=>?_,fun x v hx GB=>?_⟩
      ·have:=h.env.bu hm;omega
      ·have:=World.block_lt_of_cell? w x (h.env.sub x v hx);omega
    jI:=fun k k' y y' g DF hy fB hg sB=>by
     rcases hτ k y hy with ⟨_,vR⟩ | ⟨rfl,rfl⟩
     ·rcases hτ k' y' fB with ⟨_,lf⟩ | ⟨rfl,rfl⟩
      ·exact h.env.jI k k' y y' g DF vR lf hg sB
      ·have:=gk k y g vR hg;simp only [Value.ownBlock,oI] at sB;omega
     ·rcases hτ k' y' fB with ⟨_,lf⟩ | ⟨rfl,rfl⟩
      ·have:=gk k' y' g lf sB;simp only [Value.ownBlock,oI] at hg;omega
      ·exact DF rfl }
  ·exact {
    c:=h.nw.c
    cn:=h.nw.cn
    β:=h.nw.β
    tk:=fun j q0 y0 vS Cg=>by
     obtain ⟨q',y',h1,h2,h3⟩:=h.nw.tk j q0 y0 vS Cg;exact ⟨q',y',by show (E.tk ++ _)[j]? = _;rw [cm (gS h1).1];exact h1,by show (E.τ ++ _)[j]? = _;rw [cm (gS h2).1];exact h2,h3⟩
    tn:=fun j y g hj hy hg=>by
     rcases hτ j y hy with ⟨_,vR⟩ | ⟨_,rfl⟩
     ·exact h.nw.tn j y g hj vR hg
     ·simp only [Value.ownBlock,oI] at hg;have:=h.fr.size;omega
    l0:=h.nw.l0 }
 refine ⟨E2,bM cj hd (.sl e [] (some st.tk.length)) _ ?_,hext,⟨[],by simp [E2]⟩,fun i b hb _=>alloc_old w _ (h.env.bu (mG hb))⟩;unfold Rv;refine ⟨_,0,0,rfl,⟨rfl,aU _⟩,fun hn=>(hn rfl).elim,fun k' fb=>?_⟩;cases fb;refine ⟨⟨0,et,e,none⟩,?_,aU _,fun _=>?_⟩
 ·show (E.tk ++ _)[st.tk.length]? = _;rw [h.tk];simp
 ·show (E.τ ++ _)[st.tk.length]? = _;rw [<- h.tk,<- h.env.tl];simp
theorem E7 {t d et e j4 n:Nat} {bb:Bool} {z:List Value} (qR:o.op = .buildSlice t 0 #[]) (jm:o.dst=some d) (hT:X.T.find t=some ⟨n,bb,.sl et e j4,z⟩) (hd:gx X.nt st.sl (some d)=true) (bd:X.still=false:=by exact rfl) (hX:X.bt=[]:=by exact rfl)
  (hk:go X 4000 k ⟨(d,⟨[],.sl e [] (some st.tk.length)⟩) :: st.sl,st.bx,st.tk ++ [⟨0,et,e,none⟩]⟩):LZ X o k st:=(ZG qR jm hT hd bd hX).g hk
theorem Wk.DL {st':St} (N:Nat) (hN:Nat.ble X.n0 N=true) (hNl:Nat.ble N st.bx.length=true) (vw:nV st.bx N N st.tk.length st'.bx (st.bx.take N)) (lg:st'.tk=st.tk) (nQ:ML st.bx N st.tk.length st.sl st'.sl):Wk X st st':=fun _ _ _ h=>
 Jd h N (nL hN) (nL hNl) vw lg nQ
theorem LZ.wk {st':St} {o:Oper} (hw:Wk X st st') (hd:gx X.nt st'.sl o.dst=true) {p:Prop} (hp:effC X st' o (go X 4000 k)=some p) (h:p):LZ X o k st:=fun E a w hr=>by
 obtain ⟨E',iA⟩:=hw _ _ _ hr;refine DZ (mH ?_ (mI hd iA hp h));rintro a' w' ⟨Ea,E2,iz,nU,_⟩;exact go_sound 4000 _ _ iz _ _ _ nU
theorem Ru (h:Rel X E st a w) (bd:X.still=false) (hX:X.bt=[]) {g n ty e cap:Nat} {cur:Array Value} (hw:w.heap[g]? = some (.cells cur ty (0,0))) (bT:cur.size=cap * e) (hn:n<=cap) (Kp:cap<=maxLen) (hb:g ∉ E.β)
  (hc:∀ x v,E.c x=some v->x.block=g->x.off < n * e) (gk:∀ (k:Nat) y,E.τ[k]? = some y->y.ownBlock≠some g) (hg:X.w0.heap.size<=g) :
  Rel X ⟨E.c,E.β,E.tk ++ [⟨n,ty,e,none⟩],E.τ ++ [.slice (some ⟨g,0,none⟩) n cap]⟩ ⟨st.sl,st.bx,st.tk ++ [⟨n,ty,e,none⟩]⟩ a w:=by
 let E2:En:=⟨E.c,E.β,E.tk ++ [⟨n,ty,e,none⟩],E.τ ++ [.slice (some ⟨g,0,none⟩) n cap]⟩
 have hext:Ext E E2:=⟨fun _ _ h=>h,fun _ _ h=>h,fun k q' hk=>by
  have au:=(gS hk).1;refine ⟨q',by show (E.tk ++ _)[k]? = _;rw [cm au];exact hk,.inl ⟨rfl,?_⟩⟩;show (E.τ ++ _)[k]? = _
  rw [cm (by rw [h.env.tl];exact au)]⟩
 have hτ:∀ (k:Nat) y,E2.τ[k]? = some y->(k < E.τ.length/\E.τ[k]? = some y)∨(k=E.τ.length/\y = .slice (some ⟨g,0,none⟩) n cap):=fun k y hy=>by
  have hy:(E.τ ++ [Value.slice (some ⟨g,0,none⟩) n cap])[k]? = some y:=hy;rw [List.getElem?_append] at hy;split at hy
  ·rename_i hk;exact .inl ⟨hk,hy⟩
  ·rename_i hk
   have h0:k - E.τ.length=0:=by
    rcases Nat.eq_zero_or_pos (k - E.τ.length) with h0 | h0
    ·exact h0
    ·rw [cQ (by simp;omega)] at hy;cases hy
   rw [h0] at hy;simp only [List.getElem?_cons_zero,oI] at hy;exact .inr ⟨by omega,hy.symm⟩
 refine dF h hext ?_ (by show E.tk ++ _=_;rw [h.tk]) ?_ h.fr (nX bd) (.nil hX)
 ·exact {
   len:=h.env.len
   tl:=by show (E.τ ++ _).length=(E.tk ++ _).length;simp [h.env.tl]
   fm:=fun i cs hi=>by
    obtain ⟨b,t,arr,hb,hw,hc⟩:=h.env.fm i cs hi;exact ⟨b,t,arr,hb,hw,hc.mono hext⟩
   inj:=h.env.inj
   sub:=h.env.sub
   pc:=h.env.pc
   cG:=fun k q' y TH hy=>by
    rcases hτ k y hy with ⟨au,fB⟩ | ⟨rfl,rfl⟩
    ·have fb:(E.tk ++ [⟨n,ty,e,none⟩])[k]? = some q':=TH;rw [cm (by rw [<- h.env.tl];exact au)] at fb;exact h.env.cG k q' y fb fB
    ·have fb:(E.tk ++ [⟨n,ty,e,none⟩])[E.τ.length]? = some q':=TH;rw [List.getElem?_append_right (by rw [h.env.tl];exact aU _),h.env.tl] at fb;simp only [Nat.sub_self,List.getElem?_cons_zero,oI] at fb;subst fb;exact .inr ⟨g,cap,cur,rfl,hw,⟨bT,fun cs h=>by cases h⟩,hn,Kp,hb,hc⟩
   jI:=fun k k' y y' g' DF hy fB pM Qb=>by
    rcases hτ k y hy with ⟨_,vR⟩ | ⟨rfl,rfl⟩
    ·rcases hτ k' y' fB with ⟨_,lf⟩ | ⟨rfl,rfl⟩
     ·exact h.env.jI k k' y y' g' DF vR lf pM Qb
     ·simp only [Value.ownBlock,oI] at Qb;subst Qb;exact gk k y vR pM
    ·rcases hτ k' y' fB with ⟨_,lf⟩ | ⟨rfl,rfl⟩
     ·simp only [Value.ownBlock,oI] at pM;subst pM;exact gk k' y' lf Qb
     ·exact DF rfl }
 ·exact {
   c:=h.nw.c
   cn:=h.nw.cn
   β:=h.nw.β
   tk:=fun j q0 y0 vS Cg=>by
    obtain ⟨q',y',h1,h2,h3⟩:=h.nw.tk j q0 y0 vS Cg;exact ⟨q',y',by show (E.tk ++ _)[j]? = _;rw [cm (gS h1).1];exact h1,by show (E.τ ++ _)[j]? = _;rw [cm (gS h2).1];exact h2,h3⟩
   tn:=fun j y g' hj hy sB=>by
    rcases hτ j y hy with ⟨_,vR⟩ | ⟨_,rfl⟩
    ·exact h.nw.tn j y g' hj vR sB
    ·simp only [Value.ownBlock,oI] at sB;omega
   l0:=h.nw.l0 }
theorem VQ {t d et e j4 n len:Nat} {bb:Bool} {z:List Value} {parts:Array (Nat × Operand)} {es:List (List DV)} (qR:o.op = .buildSlice t len parts) (jm:o.dst=some d) (hT:X.T.find t=some ⟨n,bb,.sl et e j4,z⟩) (gT:litL e st parts.toList 0=some es)
  (hc:(Nat.beq es.length len && (Nat.blt 0 len && Nat.blt 0 e && Nat.ble (len * e) 16777216))=true) (hd:gx X.nt st.sl (some d)=true) (bd:X.still=false:=by exact rfl) (hX:X.bt=[]:=by exact rfl)
  (hk:go X 4000 k ⟨(d,⟨[],.sl e es (some st.tk.length)⟩) :: st.sl,st.bx,st.tk ++ [⟨len,et,e,none⟩]⟩):LZ X o k st:=by
 intro E a w h;simp only [aQ,Nat.beq_eq,Nat.ble_eq,Nat.blt_eq] at hc;obtain ⟨hlen,⟨jX,DH⟩,hsm⟩:=hc;obtain ⟨hu,ii,zv,q8,hz,bT,Gy,Ki⟩:=fw X.hT hT;obtain ⟨xs,vs,hp,wQ,zu,eK,wS,ef⟩:=mF h.rl DH gT;subst bT
 have GM:len * ii.size≠0:=by
  have:=Nat.mul_pos jX DH;omega
 have lT:Instr.fill (fun i=>some (i * ii.size,ii.size)) ((Array.range (len * ii.size)).map (zv.cells[·% zv.cells.size]!)) (parts.map fun (i,x)=>(i,a.eval x)).toList=some (cellsL vs).toArray:=by
  have h0:=qW ii.size vs 0 ((Array.range (len * ii.size)).map (zv.cells[·% zv.cells.size]!)).toList eK (by simp [zu,hlen])
  have h1:(parts.map fun (i,x)=>(i,a.eval x)).toList=enumF 0 vs:=by
   rw [Array.toList_map,hp,wQ,<- oT]
  rw [h1];simp only [Array.toArray_toList] at h0;rw [h0];simp [zu,hlen]
 have cx:(execOp a.eval o).run X.P w = .ok (.value (.slice (some ⟨w.heap.size,0,none⟩) len len)) (w.alloc (.cells (cellsL vs).toArray et)):=by
  simp only [execOp,qR,Sem.run_bind,run_buildSlice w t et len _ _ ii zv hu q8 hz (by omega) GM lT,Result.andThen_ok,Sem.run_pure]
 refine lW cx ?_;rw [jm];have hr:=Ag (arr:=cellsL vs) h bd et
 have A6:(cellsL vs).length=len * ii.size:=by
  have:∀ l:List Value,(∀ v∈l,v.cells.toList.length=ii.size)->(cellsL l).length=l.length * ii.size:=by
   intro l
   induction l with
   | nil=>intro _;simp [cellsL]
   | cons v l ih=>
    intro hl;simp only [cellsL,List.length_append,List.length_cons];rw [ih fun x hx=>hl x (dj _ hx),hl v List.mem_cons_self,Nat.succ_mul];omega
  rw [this vs eK,zu,hlen]
 have nU:=Ru (n:=len) (ty:=et) (e:=ii.size) (cap:=len) hr bd hX (g:=w.heap.size) (cur:=(cellsL vs).toArray) (je w _) (by simp [A6]) (aU _) (by
   have:len<=len * ii.size:=Nat.le_mul_of_pos_right _ DH;unfold maxLen;omega) (fun hm=>by have:=h.env.bu hm;omega) (fun x v hx GB=>by
   have hx:iR E.c (w.alloc (.cells (cellsL vs).toArray et)) w.heap.size (cellsL vs).length x=some v:=hx;unfold iR at hx;split at hx
   ·rename_i hc;rw [<- A6];exact hc.2.2
   ·have:=World.block_lt_of_cell? w x (h.env.sub x v hx);omega) (fun j y hy hg=>by
   have:=(h.env.own (mG hy) hg).1
   omega) (h.fr.size)
 refine go_sound 4000 _ _ hk _ _ _ (bM nU hd (.sl ii.size es (some st.tk.length)) _ ?_);unfold Rv;refine ⟨_,_,_,rfl,⟨hlen.symm,aU _⟩,fun bF=>⟨rfl,?_⟩,fun k' fb=>?_⟩
 ·have dK:∀ x v,E.c x=some v->iR E.c (w.alloc (.cells (cellsL vs).toArray et)) w.heap.size (cellsL vs).length x=some v:=fun x v hx=>by
   have au:=World.block_lt_of_cell? w x (h.env.sub x v hx);unfold iR;rw [ah (by omega)];exact hx
  have hm:RvC (En.cl ⟨iR E.c (w.alloc (.cells (cellsL vs).toArray et)) w.heap.size (cellsL vs).length,E.β,E.tk,E.τ⟩) es.flatten (cellsL vs):=wS.mono (Ext.Up (E:=E) dK);refine rvEs_flat hm ef fun j u hj=>?_;show iR _ _ _ _ _=_;have gB:=(gS hj).1;simp only [ab,ao,Nat.zero_add];rw [Cf gB,cT (je w _)];simpa using hj
 ·cases fb;refine ⟨⟨len,et,ii.size,none⟩,?_,aU _,fun _=>?_⟩
  ·show (E.tk ++ _)[st.tk.length]? = _;rw [h.tk];simp
  ·show (E.τ ++ _)[st.tk.length]? = _;rw [<- h.tk,<- h.env.tl];simp
end
end Dv
end Go.Proofs.YtadhpeooehkklaaGreat
set_option maxRecDepth 100000
namespace Go.Proofs.YtadhpeooehkklaaGreat
open Go Go.RowKit Dv Go.Proofs.Tryz
theorem qz {l:List Wd} {o:List (Wd × Wd)} (h:(latF l o).1=0):(gN l o).1=0/\(enumL l 0 l).1=0/\(numF (aD l) o).1=0/\bS (lu l.length (fA l.length (dV (aD l) o))) l.length=none/\bS (ou (fA l.length (dV (aD l) o)) l.length) l.length=none:=by
 unfold latF at h;split at h
 ·rename_i h1;exact (h1 h).elim
 ·rename_i h1;split at h
  ·rename_i h2;exact (h2 h).elim
  ·rename_i h2;split at h
   ·rename_i h3;exact (h3 h).elim
   ·rename_i h3;refine ⟨by simpa using h1,by simpa using h2,by simpa using h3,?_⟩;split at h
    ·cases h
    ·rename_i h4;refine ⟨h4,?_⟩;split at h
     ·cases h
     ·rename_i h5;exact h5
theorem cu {p:Nat->Bool} {n:Nat} (h:bS p n=none):∀ a,a < n->p a=false:=by
 intro a ha;unfold bS at h;rw [List.find?_eq_none] at h;have:=h a (sU ha);simpa using this
theorem oB {l:List Wd} {o:List (Wd × Wd)} (h:(latF l o).1=0):gq (fA l.length (dV (aD l) o)) l.length/\l.length<=32:=by
 obtain ⟨h1,h2,h3,h4,h5⟩:=qz h;have hP:=pf h3;rw [dZ] at hP
 have L7:l ≠ []:=by
  rintro rfl;simp [gN] at h1
 have VR:l.length<=32:=by
  rcases Nat.lt_or_ge 32 l.length with h | h
  ·simp [gN,L7,h] at h1
  ·exact h
 have VC:∀ a b,a < l.length->b < l.length->l7 (fA l.length (dV (aD l) o)) l.length a b=false:=by
  have key:∀ a b,a<=b->b < l.length->l7 (fA l.length (dV (aD l) o)) l.length a b=false:=fun a b zN hb=>by
   have:=cu h5 b hb;unfold ou at this;rw [List.any_eq_false] at this;have:=this a (by simp;omega);simpa using this
  intro a b ha hb;rcases Nat.le_total a b with h | h
  ·exact key a b h hb
  ·have:=key b a h ha;unfold l7 at this ⊢;rw [xZ,x4];exact this
 refine ⟨{
  pos:=List.length_pos_iff.2 L7
  rfl':=fun a ha=>tA hP ha
  tr:=fun a b c ha hb hc=>Hz hP ha hb hc
  HH:=fun a b ha hb h6 h7=>by
   have:=cu h4 a ha;unfold lu at this;rw [List.any_eq_false] at this;have:=this b (sU hb);simp only [aQ,decide_eq_true_eq,not_and] at this;rcases Nat.lt_trichotomy a b with h8 | h8 | h8
   ·exact (this (by omega) h6 h7).elim
   ·exact h8
   ·exact (this (by omega) h6 h7).elim
  jn:=fun a b ha hb=>by
   have:=VC a b ha hb;unfold l7 at this;simp only [Bool.or_eq_false_iff,Option.isNone_eq_false_iff] at this;exact Option.isSome_iff_exists.1 this.1
  mt:=fun a b ha hb=>by
   have:=VC a b ha hb;unfold l7 at this;simp only [Bool.or_eq_false_iff,Option.isNone_eq_false_iff] at this
   exact Option.isSome_iff_exists.1 this.2 },VR⟩
def gd (s:Sch) (aO:List Nat) (js:List Int):Lx:=⟨aD s.ae,aO,closeR (fV s.ae.length (dV (aD s.ae) s.order)) s.ae.length,js,fA s.ae.length (dV (aD s.ae) s.order)⟩
theorem Rw {s:Sch} {d:DV} (h:(latF s.ae s.order).1=0) (hd:VE s.ae s.order d) (hw:s.ae.length<=1099511627776):∃ aO js,(gd s aO js).OK/\d=(gd s aO js).pd:=by
 obtain ⟨aO,js,hT,jU,nY,wa,rfl⟩:=hd;obtain ⟨h1,h2⟩:=oB h;refine ⟨aO,js,⟨hT,by show aO.length<=_;omega,?_,?_,?_⟩,rfl⟩
 ·show gq _ (aD s.ae).length;rw [dZ];exact h1
 ·show (aD s.ae).length<=32;rw [dZ];exact h2
 ·show ∀ x y,x < (aD s.ae).length->y < (aD s.ae).length->JM _ (aD s.ae).length js x y;rw [dZ];exact wa
def jA (s:Sch) (l:List Wd):Int:=CQ (fA s.ae.length (dV (aD s.ae) s.order)) (aD s.ae) l
def ly (s:Sch) (t:Ty):Ft:=knT ⟨aD s.ae,[],[],[],fun _ _=>false⟩ (tL s) t
mutual
theorem A7 {X Y:Lx} (h:X.af=Y.af) (L:List ByteArray):∀ t:Ty,knT X L t=knT Y L t
 | .mk h1 ps=>by rw [knT,knT,A8 h L ps]
theorem A8 {X Y:Lx} (h:X.af=Y.af) (L:List ByteArray):∀ ps:Pts,knP X L ps=knP Y L ps
 | .nil=>by rw [knP,knP]
 | .cons p t r=>by
  rw [knP,knP,A8 h L r,A7 h L t];unfold Lx.bad;rw [h]
end
theorem VS (s:Sch) (aO:List Nat) (js:List Int) (t:Ty):knT (gd s aO js) (tL s) t=ly s t:=A7 (X:=gd s aO js) (Y:=⟨aD s.ae,[],[],[],fun _ _=>false⟩) rfl (tL s) t
def ma (s:Sch):Ft:=
 if (latF s.ae s.order).1≠0 then latF s.ae s.order
 else if (eP s).1≠0 then eP s
 else if (eaR s.root s.types 0).1.1≠0 then (eaR s.root s.types 0).1
 else if (eaL (ly s) (ly s s.root) s.types).1≠0 then eaL (ly s) (ly s s.root) s.types
 else loopF s
def ndsAll (lev:List Wd->Int) (s:Sch):List (Wd × Ty)->Nat->List Nd
 | [],_=>[]
 | x :: r,k=>ndsT lev s x.2 k ++ ndsAll lev s r (k + x.2.nn)
def rT (s:Sch):List Nd:=ndsAll (jA s) s s.types 0
def resNds (s:Sch):List Nd:=rT s ++ ndsT (jA s) s s.root (rT s).length
def fF (s:Sch):Int:=oA s s.root (rT s).length
def TI (s:Sch) (aO lP:List Nat) (js:List Int):List DV:=
 [(gd s aO js).pd,.sl 7 (bD (resNds s)) none,.v (.int .i64 (fF s)),.pt (dC (tL s) lP) 0,.sl 1 (dInts (namedL s)) none]
def Oo (s:Sch) (d:DV):Prop:=∃ aO lP js,(gd s aO js).OK/\iV (tL s) lP/\lP.length<=s.types.length/\d = .pt (TI s aO lP js) 0
def HR (s:Sch) (r:DV) (_:List (List DV)) (_:List TkE):Prop:=
 if (ma s).1≠0 then r = .tup [.v (.pointer none),(ma s).d] else ∃ d,Oo s d/\r = .tup [d,Ft.d (0,0)]
theorem oC {s:Sch} {f:Ft} {os:List (List DV)} {tk:List TkE} (h:ma s=f) (hf:f.1≠0):HR s (.tup [.v (.pointer none),f.d]) os tk:=by
 unfold HR;rw [h,ai hf]
theorem Rx {s:Sch} {d:DV} {os:List (List DV)} {tk:List TkE} (h:(ma s).1=0) (hd:Oo s d):HR s (.tup [d,Ft.d (0,0)]) os tk:=by
 unfold HR;rw [ah (by rw [h];simp)];exact ⟨d,hd,rfl⟩
theorem Oq {F:Ty->Ft} {z:Ft}:∀ {l:List (Wd × Ty)},(eaL F z l).1=0->z.1=0/\∀ x∈l,(F x.2).1=0
 | [],h=>⟨h,fun x hx=>by cases hx⟩
 | x :: r,h=>by
  rw [eaL] at h;split at h
  ·rename_i h1;exact (h1 h).elim
  ·rename_i h1;obtain ⟨h2,h3⟩:=Oq h;refine ⟨h2,fun y hy=>?_⟩;rcases bL hy with rfl | hy
   ·simpa using h1
   ·exact h3 y hy
theorem Ot {z:Ty}:∀ {l:List (Wd × Ty)} {m:Int},0<=m->(eaR z l m).1.1=0->(wrong z 1 0).1.1=0/\(∀ x∈l,(wrong x.2 1 0).1.1=0)/\(eaR z l m).2=m + ((l.map fun x=>x.2.cnt).sum + z.cnt:Nat)/\(eaR z l m).2<=512
 | [],m,_,h=>by
  rw [eaR] at h ⊢;obtain ⟨h1,h2,h3,_⟩:=ph h;exact ⟨h3,(fun x hx=>by cases hx),(by simp [h1]),h2⟩
 | x :: r,m,hm,h=>by
  rw [eaR] at h ⊢;split at h
  ·rename_i h1;exact (h1 h).elim
  ·rename_i h1;rw [ah h1];obtain ⟨g1,g2,g3,_⟩:=ph (sU h1);obtain ⟨h2,h3,h4,h5⟩:=Ot (by omega) h;refine ⟨h2,fun y hy=>?_,(by rw [h4,g1];simp only [List.map_cons,List.sum_cons];omega),h5⟩;rcases bL hy with rfl | hy
   ·exact g3
   ·exact h3 y hy
theorem yg (lev:List Wd->Int) (s:Sch):∀ (l:List (Wd × Ty)) (k:Nat),(ndsAll lev s l k).length=(l.map fun x=>x.2.nn).sum
 | [],_=>rfl
 | x :: r,k=>by simp only [ndsAll,List.length_append,kR,yg lev s r,List.map_cons,List.sum_cons]
theorem yh:∀ l:List (Wd × Ty),(l.map fun x=>x.2.nn).sum<=(l.map fun x=>x.2.cnt).sum
 | []=>aU _
 | x :: r=>by
  have:=x.2.hZ;have:=yh r;simp only [List.map_cons,List.sum_cons];omega
theorem A9:∀ l:List Nd,(bD l).flatten.length=l.length * 7
 | []=>rfl
 | a :: r=>by
  have:=A9 r;simp only [bD,List.map_cons,List.flatten_cons,List.length_append,List.length_cons] at this ⊢;rw [this];simp only [gG,List.length_cons,List.length_nil];omega
theorem CV {X:Lx} {s:Sch} {t:Ty} (h:(knT X (tL s) t).1=0):vG s t=true:=by
 obtain ⟨hd,ps⟩:=t;have:=(nc h).1;unfold vG;exact decide_eq_true this
theorem E8 {s:Sch} (h:(loopF s).1=0):∀ i,i < s.types.length->∃ k,endI s (s.types.length + 1) i=some k:=by
 intro i hi;unfold loopF at h;split at h
 ·rename_i h1;have:=cu h1 i hi;simp only [Option.isNone_eq_false_iff] at this;exact Option.isSome_iff_exists.1 this
 ·cases h
end Go.Proofs.YtadhpeooehkklaaGreat
