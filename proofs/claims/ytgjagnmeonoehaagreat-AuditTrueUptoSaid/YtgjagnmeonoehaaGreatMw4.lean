/- Part 4 of the proof: Rules for the evaluator: a call that is handed the caller's first objects and rows; rows whose cells nobody else knows; lattice.best, and the closures of bounds; lattice.bounds: all joins and meets; lattice.Build; Reading a lattice: Len, has, Name, Find, Join, Meet, Bottom; labels.Of; The checker's part, once check is known for lighter types; The checker's parts, once check is known for lighter types; The checker's one and check, once check is known for lighter types; so check; kinds.Count, resolve.nodes; the builder's level; The builder's end, loops, known; The builder's each, right, called; The builder's each of right; called; places; The builder's places; The builder's edge; The builder's node; Steps of a region that draws its order, one by one; What resolve.Build says of a schema; lattices in which nothing is wrong. No condition. -/
import Derived.Test.YtgjagnmeonoehaaGreatMw2
import Derived.Test.YtgjagnmeonoehaaGreatMw3
set_option linter.all false
namespace Go.Proofs.YtgjagnmeonoehaaGreat
namespace Dv
open Go Go.RowKit
section
variable {X:Ctx} {st:St} {k:List It} {E:En} {a:Act} {w:World}
def Wk (X:Ctx) (st st':St):Prop:=∀ E a w,Rel X E st a w->∃ E',Rel X E' st' a w
theorem Wk.refl (X:Ctx) (st:St):Wk X st st:=fun E _ _ h=>⟨E,h⟩
theorem Wk.trans {X:Ctx} {s1 s2 s3:St} (h1:Wk X s1 s2) (h2:Wk X s2 s3):Wk X s1 s3:=fun _ _ _ h=>by
 obtain ⟨E1,h3⟩:=h1 _ _ _ h;exact h2 _ _ _ h3
theorem Wk.MU {X:Ctx} {s1 s2:St} (h:qf X.n0 X.m0 s1 s2):Wk X s1 s2:=fun _ _ _ hr=>xz hr h
theorem MV {f:FuncId} {args bB:List DV} {os:List (List DV)} (n1 m1:Nat) (zM:Nat.ble n1 st.bx.length=true) (jY:Nat.ble m1 st.tk.length=true)
  (zN:n4 [] n1 n1 m1 os (st.bx.take n1)) (ha:CcL [] n1 n1 m1 bB args)
  {Φ:DV->List (List DV)->List TkE->Prop} (hc:EvT false X.P f bB os (st.tk.take m1) X.bt Φ) (aW:X.still=false) {vs:List Value} (h:Rel X E st a w) (hv:RvL E args vs) :
  Calls X.P f vs.toArray w fun e w'=>∃ v r j4 cM E',e = .returned v/\Φ r j4 cM /\ j4.length=n1/\cM.length=m1/\Rel X E' ⟨st.sl,j4 ++ st.bx.drop n1,cM ++ st.tk.drop m1⟩ a w' /\ Rv E' r v/\Ext E E' /\ E'.β=E.β /\
   ∀ (i:Nat) b,n1<=i->E.β[i]? = some b->w'.heap[b]? = w.heap[b]?:=by
 have zM:=nL zM;have jY:=nL jY;have hlen:=h.env.len;have hZ:=h.env.tl;have jl:=h.tk;have htkl:E.tk.length=st.tk.length:=by rw [jl]
 let E1:En:=⟨E.c,E.β.take n1,E.tk.take m1,E.τ.take m1⟩
 have hfz:Om E E1 [] n1:=⟨fun _ _ h=>h,fun i cs _ hi=>by simp at hi⟩
 have Cp:Ku E E1 n1 m1:={
  β:=fun i b hi hb=>by show (E.β.take n1)[i]? = _;rw [cR,ap hi];exact hb
  tk:=fun k hk=>⟨by show (E.tk.take m1)[k]? = _;rw [cR,ap hk],by show (E.τ.take m1)[k]? = _;rw [cR,ap hk]⟩ }
 obtain ⟨lx,hog⟩:=zN.get;have hosl:os.length=n1:=by rw [lx,zLenT];omega
 have hτg:∀ (j:Nat) y,(E.τ.take m1)[j]? = some y->j < m1/\E.τ[j]? = some y:=fun j y hy=>by
  rw [cR] at hy;split at hy
  ·rename_i hj;exact ⟨hj,hy⟩
  ·cases hy
 have hkg:∀ (j:Nat) q,(E.tk.take m1)[j]? = some q->j < m1/\E.tk[j]? = some q:=fun j y hy=>by
  rw [cR] at hy;split at hy
  ·rename_i hj;exact ⟨hj,hy⟩
  ·cases hy
 have Tx:Env E1 os w:={
  len:=by show (E.β.take n1).length=_;rw [zLenT,hosl];omega
  tl:=by show (E.τ.take m1).length=(E.tk.take m1).length;rw [zLenT,zLenT,hZ]
  eM:=fun i cs' hi=>by
   obtain ⟨cs,hcs,qJ⟩:=hog i cs' hi;rw [cR] at hcs;split at hcs
   ·rename_i aq;obtain ⟨b,ty,arr,hb,hw,hc⟩:=h.env.eM i cs hcs;exact ⟨b,ty,arr,Cp.β i b aq hb,hw,CcL.sound hfz Cp qJ hc.1,hc.2⟩
   ·cases hcs
  inj:=h.env.inj.sublist (List.take_sublist _ _)
  sub:=h.env.sub
  pc:=fun x v hx hm=>h.env.pc x v hx (List.mem_of_mem_take hm)
  bO:=fun j q y hq hy=>by
   obtain ⟨_,hq⟩:=hkg j q hq;obtain ⟨_,hy⟩:=hτg j y hy;rcases h.env.bO j q y hq hy with h1 | ⟨g,cap,cur,rfl,h1,h2,h3,h4,h5,h6⟩
   ·exact .inl h1
   ·exact .inr ⟨g,cap,cur,rfl,h1,h2,h3,h4,fun hm=>h5 (List.mem_of_mem_take hm),h6⟩
  je:=fun j j' y y' g Ks hy gp=>h.env.je j j' y y' g Ks (hτg j y hy).2 (hτg j' y' gp).2 }
 refine (hc E1 w _ Tx (by show E.tk.take m1=_;rw [jl]) (h.bt.sub n1) (CcL.sound hfz Cp ha hv)).mono ?_;rintro e w' ⟨v,rfl,⟨hm,_,r,j4,E2,he,hβ,qg,hn,Cr,hΦ⟩,hbt2⟩;have qg:E2.tk.length=E1.tk.length:=qg;have hE1t:E1.tk.length=m1:=by show (E.tk.take m1).length=_;rw [zLenT];omega
 have hE1τ:E1.τ.length=m1:=by show (E.τ.take m1).length=_;rw [zLenT];omega
 have hE1β:E1.β.length=n1:=by show (E.β.take n1).length=_;rw [zLenT];omega
 rw [hE1t] at qg;have ZU:E2.τ.length=m1:=by rw [he.tl,qg]
 have Qw:j4.length=n1:=by rw [<- he.len,hβ,hE1β]
 have hS:∀ j,E1.S j->j∈E.β.take n1∨∃ i y,i < m1/\E.τ[i]? = some y/\y.ownBlock=some j:=fun j hj=>by
  rcases hj with h1 | ⟨y,h1,h2⟩
  ·exact .inl h1
  ·obtain ⟨i,hi,he⟩:=List.getElem_of_mem h1;have iw:E1.τ[i]? = some y:=by rw [gE hi,he]
   obtain ⟨h3,h4⟩:=hτg i y iw;exact .inr ⟨i,y,h3,h4,h2⟩
 have hh:∀ j,j < w.heap.size->¬ E1.S j->w'.heap[j]? = w.heap[j]?:=fun j hj bA=>hm.block j hj bA;have dJ:∀ (i:Nat) y g,E.τ[i]? = some y->y.ownBlock=some g->g < w.heap.size/\g ∉ E.β:=fun i y g hy hg=>h.env.own (mG hy) hg
 have eN:∀ x v,E2.c x=some v->E.c x=some v∨w.heap.size<=x.block∨∃ i y,i < m1/\E.τ[i]? = some y/\y.ownBlock=some x.block:=fun x v hx=>by
  rcases hn.cn x v hx with h1 | h1 | ⟨y,h1,h2⟩
  ·exact .inl h1
  ·exact .inr (.inl h1)
  ·obtain ⟨i,hi,he⟩:=List.getElem_of_mem h1;have iw:E1.τ[i]? = some y:=by rw [gE hi,he]
   obtain ⟨h3,h4⟩:=hτg i y iw;exact .inr (.inr ⟨i,y,h3,h4,h2⟩)
 have n7:∀ (j:Nat) q,j < m1->E.tk[j]? = some q->∃ y q' y',E.τ[j]? = some y/\E2.tk[j]? = some q' /\ E2.τ[j]? = some y' /\ q.ty=q'.ty/\q.e=q'.e/\((q'.n=q.n/\y'=y)∨q.n < q'.n)/\(y'.ownBlock=y.ownBlock∨∀ g,y'.ownBlock=some g->w.heap.size<=g):=fun j q hj hq=>by
  have ll:j < E.τ.length:=by rw [hZ];omega
  obtain ⟨q',y',h1,h2,h3⟩:=hn.tk j q E.τ[j] (by show (E.tk.take m1)[j]? = _;rw [cR,ap hj];exact hq) (by show (E.τ.take m1)[j]? = _;rw [cR,ap hj,gE ll]);exact ⟨_,q',y',gE ll,h1,h2,h3⟩
 have La:∀ (j:Nat) y',j < m1->E2.τ[j]? = some y' -> ∃ y,E.τ[j]? = some y/\(y'.ownBlock=y.ownBlock∨∀ g,y'.ownBlock=some g->w.heap.size<=g):=fun j y' hj hy=>by
  have ll:j < E.tk.length:=by omega
  obtain ⟨y,q1,y1,h1,_,h3,_,_,_,h7⟩:=n7 j _ hj (gE ll);rw [hy] at h3;simp only [oI] at h3;subst h3;exact ⟨y,h1,h7⟩
 let E':En:=⟨E2.c,E.β,E2.tk ++ E.tk.drop m1,E2.τ ++ E.τ.drop m1⟩
 have fH:∀ (j:Nat),m1<=j->E'.tk[j]? = E.tk[j]?:=fun j hj=>by
  show (E2.tk ++ E.tk.drop m1)[j]? = _;rw [List.getElem?_append_right (by omega),List.getElem?_drop,qg];congr 1;omega
 have Yy:∀ (j:Nat),m1<=j->E'.τ[j]? = E.τ[j]?:=fun j hj=>by
  show (E2.τ ++ E.τ.drop m1)[j]? = _;rw [List.getElem?_append_right (by omega),List.getElem?_drop,ZU];congr 1;omega
 have Kz:∀ (j:Nat),j < m1->E'.tk[j]? = E2.tk[j]?:=fun j hj=>by
  show (E2.tk ++ E.tk.drop m1)[j]? = _;rw [dc (by omega)]
 have Ol:∀ (j:Nat),j < m1->E'.τ[j]? = E2.τ[j]?:=fun j hj=>by
  show (E2.τ ++ E.τ.drop m1)[j]? = _;rw [dc (by omega)]
 have hx:Ext E E':=⟨hn.c,fun _ _ h=>h,fun j q hq=>by
  rcases Nat.lt_or_ge j m1 with hj | hj
  ·obtain ⟨y,q',y',h1,h2,h3,_,_,h6,_⟩:=n7 j q hj hq;refine ⟨q',by rw [Kz j hj];exact h2,?_⟩;rcases h6 with ⟨h6,rfl⟩ | h6
   ·exact .inl ⟨h6,by rw [Ol j hj,h3,h1]⟩
   ·exact .inr h6
  ·exact ⟨q,by rw [fH j hj];exact hq,.inl ⟨rfl,Yy j hj⟩⟩⟩
 have KE:Ext E2 E':={
  c:=fun _ _ h=>h
  β:=fun j b hj=>by
   rw [hβ] at hj;have hj:(E.β.take n1)[j]? = some b:=hj;rw [cR] at hj;split at hj
   ·exact hj
   ·cases hj
  tk:=fun j q hq=>by
   have hj:j < m1:=by have:=(gS hq).1;omega
   exact ⟨q,by rw [Kz j hj];exact hq,.inl ⟨rfl,Ol j hj⟩⟩ }
 have Wv:∀ (i:Nat) b,n1<=i->E.β[i]? = some b->w'.heap[b]? = w.heap[b]?:=fun i b hi hb=>by
  refine hh b (h.env.bh (mG hb)) fun hs=>?_;rcases hS b hs with h1 | ⟨i',y,_,h2,h3⟩
  ·obtain ⟨i',iw,wa⟩:=List.getElem_of_mem h1;have h4:(E.β.take n1)[i']? = some b:=by rw [gE iw,wa]
   rw [cR] at h4;split at h4
   ·rename_i aq;have:=(List.getElem?_inj (gS hb).1 h.env.inj).1 (hb.trans h4.symm);omega
   ·cases h4
  ·exact (dJ i' y b h2 h3).2 (mG hb)
 have hbt':qa X.bt E.β w':=fun p hp b hb=>by
  rcases Nat.lt_or_ge p.1 n1 with aq | hge
  ·exact hbt2 p hp b (by show (E.β.take n1)[p.1]? = _;rw [cR,ap aq];exact hb)
  ·obtain ⟨cs,hcs⟩:=h.bt p hp b hb;exact ⟨cs,by rw [Wv p.1 b hge hb];exact hcs⟩
 have bS:Rel X E' ⟨st.sl,j4 ++ st.bx.drop n1,E2.tk ++ st.tk.drop m1⟩ a w':=by
  refine dE h hx ?_ (by show E2.tk ++ E.tk.drop m1=_;rw [jl]) ?_ (h.fr.cI hm.os hm.tape hm.output hm.size fun j hj=>?_) (mV aW) hbt'
  ·exact {
    len:=by show E.β.length=_;rw [List.length_append,List.length_drop,Qw,hlen];omega
    tl:=by show (E2.τ ++ E.τ.drop m1).length=(E2.tk ++ E.tk.drop m1).length;simp only [List.length_append,List.length_drop,ZU,qg,hZ]
    eM:=fun i VE hi=>by
     rcases Nat.lt_or_ge i n1 with zZ | zZ
     ·rw [dc (by omega)] at hi;obtain ⟨b2,ty2,XZ,iQ,pk,oe⟩:=he.eM i VE hi;exact ⟨b2,ty2,XZ,KE.β i b2 iQ,pk,oe.mono KE⟩
     ·rw [List.getElem?_append_right (by omega),List.getElem?_drop,Qw] at hi;rw [show n1 + (i - n1)=i by omega] at hi;obtain ⟨bj,tyj,X0,VF,hwj,Xu⟩:=h.env.eM i VE hi;refine ⟨bj,tyj,X0,VF,(hh bj (dD hwj) ?_).trans hwj,Xu.mono hx⟩;intro hs;rcases hS bj hs with h1 | ⟨i',y,_,h2,h3⟩
      ·obtain ⟨i',iw,wa⟩:=List.getElem_of_mem h1;have h4:(E.β.take n1)[i']? = some bj:=by rw [gE iw,wa]
       rw [cR] at h4;split at h4
       ·rename_i aq;have:=(List.getElem?_inj (gS VF).1 h.env.inj).1 (VF.trans h4.symm);omega
       ·cases h4
      ·exact (dJ i' y bj h2 h3).2 (mG VF)
    inj:=h.env.inj
    sub:=he.sub
    pc:=fun x v hc qm=>by
     rcases eN x v hc with h1 | h1 | ⟨i,y,_,h2,h3⟩
     ·exact h.env.pc x v h1 qm
     ·have:=h.env.bh qm;omega
     ·exact (dJ i y _ h2 h3).2 qm
    bO:=fun j q y hq hy=>by
     rcases Nat.lt_or_ge j m1 with hj | hj
     ·rw [Kz j hj] at hq;rw [Ol j hj] at hy;rcases he.bO j q y hq hy with h1 | ⟨g,cap,cur,rfl,h1,h2,h3,h4,h5,h6⟩
      ·exact .inl h1
      ·refine .inr ⟨g,cap,cur,rfl,h1,h2,h3,h4,fun qm=>?_,h6⟩;obtain ⟨y0,h7,h8⟩:=La j _ hj hy;rcases h8 with h8 | h8
       ·exact (dJ j y0 g h7 (by rw [<- h8];rfl)).2 qm
       ·have:=h8 g rfl;have:=h.env.bh qm;omega
     ·rw [fH j hj] at hq;rw [Yy j hj] at hy;rcases h.env.bO j q y hq hy with h1 | ⟨g,cap,cur,rfl,h1,h2,h3,h4,h5,h6⟩
      ·exact .inl h1
      ·have bA:∀ i y',i < m1->E.τ[i]? = some y' -> y'.ownBlock≠some g:=fun i y' hi gp=>h.env.je j i _ y' g (by omega) hy gp rfl
       have wb:¬ E1.S g:=fun hs=>by
        rcases hS g hs with h7 | ⟨i,y',h7,h8,h9⟩
        ·exact h5 (List.mem_of_mem_take h7)
        ·exact bA i y' h7 h8 h9
       refine .inr ⟨g,cap,cur,rfl,by rw [hh g (dD h1) wb];exact h1,⟨h2.1,h2.2.mono hn.c⟩,h3,h4,h5,fun x v hc hg=>?_⟩
       ·rcases eN x v hc with h7 | h7 | ⟨i,y',h7,h8,h9⟩
        ·exact h6 x v h7 hg
        ·have:=dD h1;omega
        ·exact (bA i y' h7 h8 (by rw [h9,hg])).elim
    je:=fun j j' y y' g Ks hy gp hg rm=>by
     rcases Nat.lt_or_ge j m1 with hj | hj
     ·rw [Ol j hj] at hy;obtain ⟨y0,h7,h8⟩:=La j _ hj hy;rcases Nat.lt_or_ge j' m1 with jL | jL
      ·rw [Ol j' jL] at gp;exact he.je j j' y y' g Ks hy gp hg rm
      ·rw [Yy j' jL] at gp;rcases h8 with h8 | h8
       ·exact h.env.je j j' y0 y' g Ks h7 gp (by rw [<- h8];exact hg) rm
       ·have:=h8 g hg;have:=(dJ j' y' g gp rm).1;omega
     ·rw [Yy j hj] at hy;rcases Nat.lt_or_ge j' m1 with jL | jL
      ·rw [Ol j' jL] at gp;obtain ⟨y0,h7,h8⟩:=La j' _ jL gp;rcases h8 with h8 | h8
       ·exact h.env.je j j' y y0 g Ks hy h7 hg (by rw [<- h8];exact rm)
       ·have:=h8 g rm;have:=(dJ j y g hy hg).1;omega
      ·rw [Yy j' jL] at gp
       exact h.env.je j j' y y' g Ks hy gp hg rm }
  ·exact {
    c:=fun x v hc=>hn.c x v (h.nw.c x v hc)
    cn:=fun x v hc=>by
     rcases eN x v hc with h1 | h1 | ⟨i,y,_,h2,h3⟩
     ·exact h.nw.cn x v h1
     ·have:=h.fr.size;exact .inr (.inl (by omega))
     ·rcases h.nw.own h2 h3 with h4 | h4
      ·exact .inr (.inr h4)
      ·exact .inr (.inl h4)
    β:=h.nw.β
    tk:=fun j q0 y0 s5 zT=>by
     obtain ⟨q1,y1,h1,h2,h3,h4,h5,h6⟩:=h.nw.tk j q0 y0 s5 zT;rcases Nat.lt_or_ge j m1 with hj | hj
     ·obtain ⟨y,q',y',g1,g2,g3,g4,g5,g6,g7⟩:=n7 j q1 hj h1;rw [h2] at g1;simp only [oI] at g1;subst g1;refine ⟨q',y',by rw [Kz j hj];exact g2,by rw [Ol j hj];exact g3,h3.trans g4,h4.trans g5,?_,?_⟩
      ·rcases g6 with ⟨g6,rfl⟩ | g6
       ·rcases h5 with ⟨h5,rfl⟩ | h5
        ·exact .inl ⟨by omega,rfl⟩
        ·exact .inr (by omega)
       ·rcases h5 with ⟨h5,_⟩ | h5
        ·exact .inr (by omega)
        ·exact .inr (by omega)
      ·rcases g7 with g7 | g7
       ·rcases h6 with h6 | h6
        ·exact .inl (g7.trans h6)
        ·exact .inr fun g hg=>h6 g (by rw [<- g7];exact hg)
       ·refine .inr fun g hg=>?_;have:=g7 g hg;have:=h.fr.size;omega
     ·exact ⟨q1,y1,by rw [fH j hj];exact h1,by rw [Yy j hj];exact h2,h3,h4,h5,h6⟩
    tn:=fun j y g xf hy hg=>by
     rcases Nat.lt_or_ge j m1 with hj | hj
     ·rw [Ol j hj] at hy;obtain ⟨y0,h7,h8⟩:=La j _ hj hy;rcases h8 with h8 | h8
      ·exact h.nw.tn j y0 g xf h7 (by rw [<- h8];exact hg)
      ·have:=h8 g hg;have:=h.fr.size;omega
     ·rw [Yy j hj] at hy;exact h.nw.tn j y g xf hy hg
    l0:=h.nw.l0 }
  ·by_cases hjs:E1.S j
   ·left;rcases hS j hjs with h1 | ⟨i,y,_,h2,h3⟩
    ·have AG:=List.mem_of_mem_take h1;obtain ⟨r0,hr0,KC⟩:=h.nw.β;rw [hr0] at AG;rcases List.mem_append.1 AG with AG | AG
     ·exact .inl (.inl AG)
     ·exact .inr (KC j AG)
    ·rcases h.nw.own h2 h3 with h4 | h4
     ·exact .inl (.inr h4)
     ·exact .inr h4
   ·exact .inr (hh j hj hjs)
 exact ⟨v,r,j4,E2.tk,E',rfl,hΦ,Qw,qg,bS,Rv.mono KE Cr,hx,rfl,Wv⟩
theorem FC {f:FuncId} {args bB:List DV} {os:List (List DV)} (n1 m1:Nat) (zM:Nat.ble n1 st.bx.length=true) (jY:Nat.ble m1 st.tk.length=true)
  (zN:n4 [] n1 n1 m1 os (st.bx.take n1)) (ha:CcL [] n1 n1 m1 bB args)
  {Φ:DV->List (List DV)->List TkE->Prop} (hc:Ev X.P f bB os (st.tk.take m1) Φ) (aW:X.still=false) (hX:X.bt=[]) {vs:List Value} (h:Rel X E st a w) (hv:RvL E args vs) :
  Calls X.P f vs.toArray w fun e w'=>∃ v r j4 cM E',e = .returned v/\Φ r j4 cM /\ j4.length=n1/\cM.length=m1/\Rel X E' ⟨st.sl,j4 ++ st.bx.drop n1,cM ++ st.tk.drop m1⟩ a w' /\ Rv E' r v/\Ext E E' /\ E'.β=E.β /\
   ∀ (i:Nat) b,n1<=i->E.β[i]? = some b->w'.heap[b]? = w.heap[b]?:=
 MV n1 m1 (by exact zM) (by exact jY) zN ha (hc.aaK hX) aW h hv
theorem sa {f:FuncId} {args bB:List DV} {os:List (List DV)} {d:Nat} (n1 m1:Nat) (lm:Enters X.P f) (hd:eJ X.nt st.sl (some d)=true) (zM:Nat.ble n1 st.bx.length=true) (jY:Nat.ble m1 st.tk.length=true)
  (zN:n4 [] n1 n1 m1 os (st.bx.take n1)) (ha:CcL [] n1 n1 m1 bB args)
  {Φ:DV->List (List DV)->List TkE->Prop} (hc:Ev X.P f bB os (st.tk.take m1) Φ)
  (hk:∀ r j4 cM,Φ r j4 cM -> j4.length=n1->cM.length=m1->∃ st',Wk X ⟨(d,⟨[],r⟩) :: st.sl,j4 ++ st.bx.drop n1,cM ++ st.tk.drop m1⟩ st' /\ go X 4000 k st') (aW:X.still=false:=by exact rfl) (hX:X.bt=[]:=by exact rfl):CallG X f args (some d) k st:=by
 refine ⟨lm,aW,fun E a w vs h hv=>(FC n1 m1 zM jY zN ha hc aW hX h hv).mono ?_⟩;rintro e w' ⟨v,r,j4,cM,E',rfl,hΦ,Qw,qg,bS,E8,_,_,_⟩;obtain ⟨st',XL,j7⟩:=hk r j4 cM hΦ Qw qg;obtain ⟨E3,hr3⟩:=XL _ _ _ (bi bS hd r v E8);exact go_sound 4000 _ _ j7 E3 _ w' hr3
theorem fN {f:FuncId} {args bB:List DV} {os:List (List DV)} {d:Nat} (n1 m1:Nat) (lm:Enters X.P f) (hd:eJ X.nt st.sl (some d)=true) (zM:Nat.ble n1 st.bx.length=true) (jY:Nat.ble m1 st.tk.length=true)
  (zN:n4 [] n1 n1 m1 os (st.bx.take n1)) (ha:CcL [] n1 n1 m1 bB args)
  {Φ:DV->List (List DV)->List TkE->Prop} (hc:Ev X.P f bB os (st.tk.take m1) Φ)
  (hk:∀ r j4 cM,Φ r j4 cM -> j4.length=n1->cM.length=m1->go X 4000 k ⟨(d,⟨[],r⟩) :: st.sl,j4 ++ st.bx.drop n1,cM ++ st.tk.drop m1⟩) (aW:X.still=false:=by exact rfl) (hX:X.bt=[]:=by exact rfl):CallG X f args (some d) k st:=
 sa n1 m1 lm hd zM jY zN ha hc (fun r j4 cM h1 h2 h3=>⟨_,Wk.refl _ _,hk r j4 cM h1 h2 h3⟩) aW hX
theorem MW {all:Array Oper} {o1 o2 o3:Oper} {r:List Oper} {d1 d2 kt t sT f off ft ty et e iT m td nn:Nat} {bb:Bool} {zz:List Value} {z:Int} {kd:IntKind} {es:List (List DV)} {cs:List DV} {s ix x:Operand} {dv dv':DV}
  (h1:o1.op = .indexAddr t s ix/\o1.dst=some d1) (h2:o2.op = .fieldAddr sT (.tmp d1) f/\o2.dst=some d2/\o2.guard=none) (h3:o3.op = .store ty (.tmp d2) x/\o3.dst=none/\o3.guard=none)
  (ta:eJ X.nt st.sl (some d1)=true) (Tm:eJ X.nt ((d1,⟨[],.pt [] 0⟩) :: st.sl) (some d2)=true)
  (hs:rv st [] s=some (.sl 0 es (some kt))) (hi:rv st [] ix=some (.v (.int kd z))) (hx:rv ⟨(d2,⟨[],.pt [] 0⟩) :: (d1,⟨[],.pt [] 0⟩) :: st.sl,st.bx,st.tk⟩ [] x=some dv) (Yz:eraD dv=some dv') (TY:dv.cells=[dv])
  (hT:X.T.find t=some ⟨nn,bb,.sl et e iT,zz⟩) (vy:X.T.off sT f=some (off,ft)) (bW:X.T.sz ty=some 1)
  (hq:st.tk[kt]? = some ⟨m,td,e,some cs⟩) (iO:es.length=m) (hz:0<=z/\z < m) (lO:off + 1<=e)
  (hk:go X 4000 (.ops all r :: k) ⟨(d2,⟨[],.pt [] 0⟩) :: (d1,⟨[],.pt [] 0⟩) :: st.sl,st.bx,st.tk.set kt ⟨m,td,e,some (cs.set (z.toNat * e + off) dv')⟩⟩)
  (aW:X.still=false:=by exact rfl):Md X o1 (.ops all (o2 :: o3 :: r) :: k) st:=by
 intro E a w h;have dK:=h.rl;have e1:=aX dK hs;have e2:=ch (aX dK hi);unfold Rv at e1;obtain ⟨bs,ns,mb,e1,⟨wb,EA⟩,SO,xm⟩:=e1;subst wb;obtain ⟨q',jX,_,XC⟩:=xm kt rfl;have ke:E.tk[kt]? = some ⟨m,td,e,some cs⟩:=by rw [h.tk];exact hq
 rw [ke] at jX;simp only [oI] at jX;subst jX;have hy:=XC iO;rw [e1,iO] at hy;rw [iO] at e1;have Ab:=h.env.bO kt _ _ ke hy;rcases Ab with ⟨po,p9,_⟩ | ⟨g,cap,cur,po,hw0,⟨s7,EB⟩,xq,zV,iv,HV⟩
 ·simp only at p9;omega
 injection po with i1 i2 i3
 subst i1 i3;obtain ⟨hu,ii,zv,xg,_,YA,_,_⟩:=fh X.hT hT;have n5:jc X.P et=some e:=by rw [gq xg,YA]
 have acI:(execOp a.eval o1).run X.P w = .ok (.value (.pointer (some ⟨g,z.toNat * e,none⟩))) w:=by
  have ct:(Instr.indexAt t (.slice (some ⟨g,0,none⟩) m mb) (.int kd z)).run X.P w = .ok (.pointer (some ⟨g,z.toNat * e,none⟩)) w:=by
   simp [Instr.indexAt,asIntOf,run_underlying hu,hz.1,hz.2,aT n5,Addr.add_lit]
  simp only [execOp,h1.1,e1,e2,Sem.run_bind,ct,Result.andThen_ok,Sem.run_pure]
 refine kL acI ?_;rw [h1.2];have hr1:Rel X E ⟨(d1,⟨[],.pt [] 0⟩) :: st.sl,st.bx,st.tk⟩ (a.put (some d1) (.pointer (some ⟨g,z.toNat * e,none⟩))) w:=bi h ta (.pt [] 0) _ (by unfold Rv;exact ⟨g,z.toNat * e,rfl,by simp only [RvAt]⟩);generalize ha1:a.put (some d1) (.pointer (some ⟨g,z.toNat * e,none⟩))=a1 at hr1
 have Lb:a1.eval (.tmp d1) = .pointer (some ⟨g,z.toNat * e,none⟩):=by
  subst ha1;simp only [eJ,bc,Nat.blt_eq] at ta;simp [Act.eval,Act.put,h.sz,ta.1]
 show kq X (.ops all (o2 :: o3 :: r) :: k) .normal a1 w;simp only [kq,wpList,Region.wanted,h2.2.2,h3.2.2,if_true];refine .inl (kL (v:=.pointer (some ⟨g,z.toNat * e + off,none⟩)) (w':=w) ?_ ?_)
 ·simp only [execOp,h2.1,Lb,Sem.run_bind,j9 (tv X.hT vy),Result.andThen_ok,Sem.run_pure]
 rw [h2.2.1];have oi:Rel X E ⟨(d2,⟨[],.pt [] 0⟩) :: (d1,⟨[],.pt [] 0⟩) :: st.sl,st.bx,st.tk⟩ (a1.put (some d2) (.pointer (some ⟨g,z.toNat * e + off,none⟩))) w:=bi hr1 Tm (.pt [] 0) _ (by unfold Rv;exact ⟨g,z.toNat * e + off,rfl,by simp only [RvAt]⟩);generalize As:a1.put (some d2) (.pointer (some ⟨g,z.toNat * e + off,none⟩))=a2 at oi
 have Lc:a2.eval (.tmp d2) = .pointer (some ⟨g,z.toNat * e + off,none⟩):=by
  subst As;simp only [eJ,bc,Nat.blt_eq] at Tm;simp [Act.eval,Act.put,hr1.sz,Tm.1]
 have e3:=aX oi.rl hx
 have fU:RvC E [dv] (a2.eval x).cells.toList:=by
  have:=e3.cells (jf (n:=1) (by rw [TY];rfl) (by omega))
  rwa [TY] at this
 have zU:(a2.eval x).cells.toList.length=1:=by rw [fU.1.length];all_goals rfl
 obtain ⟨xv,hxv⟩:∃ xv,(a2.eval x).cells.toList=[xv]:=by
  match hh:(a2.eval x).cells.toList,zU with
  | [y],_=>exact ⟨y,rfl⟩
 obtain ⟨h5,h6⟩:=EB cs rfl;simp only at h5 h6 s7 hw0 xq;have Ww:cur.toList.length=mb * e:=sU s7;have hme:m * e<=mb * e:=Nat.mul_le_mul_right _ xq
 have jk:z.toNat * e + off + 1<=m * e:=by
  have:(z.toNat + 1) * e<=m * e:=Nat.mul_le_mul_right _ (by omega);rw [Nat.add_mul] at this;omega
 have qc:=ka (P:=X.P) (t:=ty) (off:=z.toNat * e + off) (n:=1) hw0 (Er X.hT bW) zU (by rw [s7];omega) (List.all_eq_true.2 fU.2);refine .inl (Td (w':=World.dh w g (.cells ((cur.toList.take (z.toNat * e + off) ++ (a2.eval x).cells.toList ++ cur.toList.drop (z.toNat * e + off + 1)).toArray) td (0,0))) ?_ ?_)
 ·simp only [execOp,h3.1,Lc,Instr.storeAt,Instr.sureAddr,Sem.run_bind,Sem.run_pure,Result.andThen_ok,qc]
 rw [h3.2.1]
 have ox:cur.toList.take (z.toNat * e + off) ++ (a2.eval x).cells.toList ++ cur.toList.drop (z.toNat * e + off + 1)=cur.toList.set (z.toNat * e + off) xv:=by
  rw [hxv,List.set_eq_take_append_cons_drop,ap (by omega)];simp
 rw [ox]
 have hx1:RvC E.cl [dv'] [xv]:=by
  rw [hxv] at fU;have h7:=fU.1;simp only [RvL] at h7;obtain ⟨v,s',h8,h9,vY⟩:=h7;simp only [List.cons.injEq] at h8;obtain ⟨rfl,rfl⟩:=h8;exact ⟨rvL_cons (xj Yz h9) (by simp only [RvL]),fU.2⟩
 have ou:Eo (World.dh w g (.cells (cur.toList.set (z.toNat * e + off) xv).toArray td (0,0))) E.c E.β ⟨m,td,e,some (cs.set (z.toNat * e + off) dv')⟩ (.slice (some ⟨g,0,none⟩) m mb):=by
  refine .inr ⟨g,mb,_,rfl,eZ hw0,⟨by simpa using Ww,fun cs' HO=>?_⟩,xq,zV,iv,HV⟩;simp only [oI] at HO;subst HO;simp only;refine ⟨by rw [List.length_set];exact h5,?_⟩;rw [List.take_set];have aq:z.toNat * e + off < (cur.toList.take (m * e)).length:=by rw [zLenT];omega
  rw [List.set_eq_take_append_cons_drop,ap (by omega),List.set_eq_take_append_cons_drop,ap aq];have h8:=(RvC.take (z.toNat * e + off) h6).append (RvC.append hx1 (RvC.drop (z.toNat * e + off + 1) h6));simpa using h8
 have O3:some g≠some g->False:=fun h=>h rfl
 obtain ⟨bS,hext⟩:=Ck (q':=⟨m,td,e,some (cs.set (z.toNat * e + off) dv')⟩) (w':=World.dh w g (.cells (cur.toList.set (z.toNat * e + off) xv).toArray td (0,0))) oi aW ke hy rfl rfl rfl (.inl ⟨rfl,rfl⟩) ou (.inl rfl) rfl rfl rfl (by rw [fV];exact aV _) (fun j _ bA=>cT (by
  rintro rfl
  exact bA rfl))
 exact go_sound 4000 _ _ hk _ _ _ bS
open Classical in
noncomputable def tV (E:En) (w:World) (y:Value) (n:Nat):Addr->Option Value:=
 fun x=>if y.ownBlock=some x.block/\x.spot=none/\x.off < n then w.cell? x else E.c x
theorem gg {y:Value} {n:Nat} {x:Addr} {v:Value} (h:tV E w y n x=some v):(y.ownBlock=some x.block/\x.spot=none/\x.off < n/\w.cell? x=some v)∨E.c x=some v:=by
 unfold tV at h
 grind
theorem Ld (h:Rel X E st a w) {k n ty e:Nat} {cs:List DV} {ns:List (List DV)} (hq:st.tk[k]? = some ⟨n,ty,e,some cs⟩) (hcs:cs=ns.flatten) (wb:∀ x∈ns,x.length=e) (fI:ns.length=n) :
  ∃ E',Rel X E' ⟨st.sl,st.bx,st.tk.set k ⟨n,ty,e,none⟩⟩ a w/\Ext E E' /\ ∀ es y,es.length=n->Rv E (.sl 0 es (some k)) y->Rv E' (.sl e ns (some k)) y:=by
 subst hcs;have ke:E.tk[k]? = some ⟨n,ty,e,some ns.flatten⟩:=by rw [h.tk];exact hq
 have jF:=(gS ke).1;have hkτ:k < E.τ.length:=by rw [h.env.tl];exact jF
 have hv:E.τ[k]? = some E.τ[k]:=gE hkτ;generalize E.τ[k]=v at hv;have Ab:=h.env.bO k _ v ke hv
 have fb:∀ x u,E.c x=some u->tV E w v (n * e) x=some u:=fun x u hx=>by
  unfold tV;split
  ·exact h.env.sub x u hx
  ·exact hx
 have hext:Ext E ⟨tV E w v (n * e),E.β,E.tk.set k ⟨n,ty,e,none⟩,E.τ⟩:=⟨fb,fun _ _ h=>h,fun j q Qx=>by
  by_cases hj:j=k
  ·subst hj;rw [ke] at Qx;simp only [oI] at Qx;subst Qx;exact ⟨_,gz jF,.inl ⟨rfl,rfl⟩⟩
  ·exact ⟨q,by rw [List.getElem?_set_ne (Ne.symm hj)];exact Qx,.inl ⟨rfl,rfl⟩⟩⟩
 refine ⟨⟨tV E w v (n * e),E.β,E.tk.set k ⟨n,ty,e,none⟩,E.τ⟩,dE h hext ?_ (by rw [h.tk]) ?_ h.fr h.sh h.bt,hext,?_⟩
 ·exact {
   len:=h.env.len
   tl:=by simp only [List.length_set];exact h.env.tl
   eM:=fun i cs hi=>by
    obtain ⟨b,t,arr,hb,hw,hc⟩:=h.env.eM i cs hi;exact ⟨b,t,arr,hb,hw,hc.mono hext⟩
   inj:=h.env.inj
   sub:=fun x u hx=>by
    rcases gg hx with ⟨_,_,_,h1⟩ | h1
    ·exact h1
    ·exact h.env.sub x u h1
   pc:=fun x u hx hm=>by
    rcases gg hx with ⟨h1,_⟩ | h1
    ·exact (jj Ab h1).2 hm
    ·exact h.env.pc x u h1 hm
   bO:=fun j q y hj hy=>by
    by_cases hjk:j=k
    ·subst hjk;have jL:(E.tk.set j ⟨n,ty,e,none⟩)[j]? = some q:=hj;rw [gz jF] at jL;have gp:E.τ[j]? = some y:=hy;rw [hv] at gp;simp only [oI] at jL gp;subst jL gp;rcases Ab with ⟨h1,h2,_⟩ | ⟨g,cap,cur,rfl,h1,h2,h3,h4,h5,h6⟩
     ·exact .inl ⟨h1,h2,fun cs hc=>by cases hc⟩
     ·refine .inr ⟨g,cap,cur,rfl,h1,⟨h2.1,rF.none rfl⟩,h3,h4,h5,fun x u hx Ec=>?_⟩;rcases gg hx with ⟨_,_,h7,_⟩ | h7
      ·exact h7
      ·have:=h6 x u h7 Ec;simp only [TkE.kn] at this;omega
    ·have jL:E.tk[j]? = some q:=by
      have:(E.tk.set k ⟨n,ty,e,none⟩)[j]? = some q:=hj
      rwa [List.getElem?_set_ne (Ne.symm hjk)] at this
     rcases h.env.bO j q y jL hy with h1 | ⟨g,cap,cur,rfl,h1,h2,h3,h4,h5,h6⟩
     ·exact .inl h1
     ·refine .inr ⟨g,cap,cur,rfl,h1,⟨h2.1,h2.2.mono fb⟩,h3,h4,h5,fun x u hx Ec=>?_⟩;rcases gg hx with ⟨h7,_⟩ | h7
      ·exact (h.env.je j k _ v g hjk hy hv rfl (by rw [h7,Ec])).elim
      ·exact h6 x u h7 Ec
   je:=h.env.je }
 ·exact {
   c:=fun x u hx=>fb x u (h.nw.c x u hx)
   cn:=fun x u hx=>by
    rcases gg hx with ⟨h1,_⟩ | h1
    ·rcases h.nw.own hv h1 with h2 | h2
     ·exact .inr (.inr h2)
     ·exact .inr (.inl h2)
    ·exact h.nw.cn x u h1
   β:=h.nw.β
   tk:=fun j q0 y0 s5 zT=>by
    obtain ⟨q1,y1,h1,h2,h3,h4,h5,h6⟩:=h.nw.tk j q0 y0 s5 zT;by_cases hj:j=k
    ·subst hj;rw [ke] at h1;simp only [oI] at h1;subst h1;exact ⟨_,y1,gz jF,h2,h3,h4,h5,h6⟩
    ·exact ⟨q1,y1,by rw [List.getElem?_set_ne (Ne.symm hj)];exact h1,h2,h3,h4,h5,h6⟩
   tn:=fun j y g hj hy=>h.nw.tn j y g hj hy
   l0:=h.nw.l0 }
 ·intro es y iO hy;unfold Rv at hy ⊢;obtain ⟨b,m,cap,rfl,⟨rfl,hmc⟩,hr,aW⟩:=hy;obtain ⟨q',jX,_,hτ⟩:=aW k rfl;rw [ke] at jX;simp only [oI] at jX;subst jX;have hy:=hτ iO;rw [hv] at hy;simp only [oI] at hy;subst hy;refine ⟨b,es.length,cap,rfl,⟨by omega,hmc⟩,fun bA=>?_,fun k' fH=>?_⟩
  ·rcases Ab with ⟨h1,h2,h3⟩ | ⟨g,Xw,cur,h0,h1,h2,h3,h4,h5,h6⟩
   ·simp only at h2;exact (bA (List.eq_nil_of_length_eq_zero (by omega))).elim
   ·injection h0 with i1 i2 i3
    subst i1;refine ⟨rfl,?_⟩;obtain ⟨h7,h8⟩:=h2.2 _ rfl;refine rvEs_flat (h8.mono (E:=⟨E.c,[],[],[]⟩) ⟨fb,fun _ _ h=>by simp at h,fun _ _ h=>by simp at h⟩) wb fun j u hj=>?_;rw [cR] at hj;split at hj
    ·rename_i ll;show tV E w _ (n * e) _=_;unfold tV;rw [ap ⟨rfl,rfl,by simpa [ao] using ll⟩];simp only [ab,ao,Nat.zero_add];rw [cC h1];simpa using hj
    ·cases hj
  ·cases fH;exact ⟨_,gz jF,by simp only;omega,fun _=>hv⟩
theorem IF {j o k n ty e:Nat} {ocs:List DV} {es ns:List (List DV)} (hq:st.tk[k]? = some ⟨n,ty,e,some ns.flatten⟩) (wb:∀ x∈ns,x.length=e) (fI:ns.length=n) (hj:st.bx[j]? = some ocs) (ho:ocs[o]? = some (.sl 0 es (some k))) (iO:es.length=n) :
  Wk X st ⟨st.sl,st.bx.set j (ocs.set o (.sl e ns none)),st.tk.set k ⟨n,ty,e,none⟩⟩:=by
 intro E a w h;obtain ⟨E',hr,hx,n7⟩:=Ld h hq rfl wb fI;refine ⟨E',{ hr with env:=?_ }⟩
 exact { hr.env with
  len:=by simp only [List.length_set];exact hr.env.len
  eM:=fun i cs' hi=>by
   by_cases l9:i=j
   ·subst l9;have aq:=(gS hj).1;have iw:(st.bx.set i (ocs.set o (.sl e ns none)))[i]? = some cs':=hi;rw [gz aq] at iw;simp only [oI] at iw;subst iw;obtain ⟨b,t,arr,hb,hw,hc⟩:=hr.env.eM i ocs hj;obtain ⟨b0,t0,Mi,iv,hw0,HV⟩:=h.env.eM i ocs hj;have lP:=hx.β i b0 iv;rw [hb] at lP;simp only [oI] at lP;subst lP;rw [hw] at hw0;simp only [oI,Obj.cells.injEq] at hw0
    have PH:arr=Mi:=by
     have:=hw0.1;simpa using this
    subst PH;refine ⟨b,t,arr,hb,hw,?_,hc.2⟩;obtain ⟨v,vX,OO⟩:=HV.1.get ho;have E8:=n7 es v iO OO;have lx:=(gS ho).1;have lu:arr.length=ocs.length:=hc.1.length
    have h1:=(RvL.take o hc.1).append (rvL_cons (d:=.sl e ns none) (v:=v) (by
     unfold Rv at E8 ⊢;obtain ⟨b,n,cap,g1,g2,g3,_⟩:=E8
     exact ⟨b,n,cap,g1,g2,g3,fun k hk=>by cases hk⟩) (RvL.drop (o + 1) hc.1))
    rw [List.set_eq_take_append_cons_drop,ap lx]
    have h2:arr.take o ++ v :: arr.drop (o + 1)=arr:=by
     have hoa:o < arr.length:=by omega
     have:arr[o]=v:=by grind
     rw [<- this];simp
    rwa [h2] at h1
   ·have iw:(st.bx.set j (ocs.set o (.sl e ns none)))[i]? = some cs':=hi;rw [List.getElem?_set_ne (Ne.symm l9)] at iw
    exact hr.env.eM i cs' iw }
theorem Wk.H7 (i j:Nat) (S S':St) (he:S'=eF i j S) (OP:Nat.ble X.n0 i=true) (xf:Nat.ble X.n0 j=true) (hi:Nat.blt i S.bx.length=true) (hj:Nat.blt j S.bx.length=true) (hX:X.bt=[]:=by exact rfl):Wk X S' S:=fun E a w h=>by
 subst he;simp only [Nat.blt_eq] at hi hj;exact Cu hX h (nL OP) (nL xf) hi hj
theorem IG {c:Code} (I:Nat->St->Prop) (j0:Nat) (jG:St) (hw:Wk X st jG) (h0:I j0 jG)
  (hr:∀ j s,I j s->go X 4000 (.code c :: .wV (fun s'=>∃ EH,Wk X s' EH /\ ∃ j',j' < j/\I j' EH) :: k) s):uQ X c k st:=by
 intro E a w h;obtain ⟨E0,hr0⟩:=hw _ _ _ h
 classical
 let Inv:Act->World->Prop:=fun a w=>∃ j s E,Rel X E s a w/\I j s
 let μ:Act->World->Nat:=fun a w=>if hI:Inv a w then Classical.choose (least hI) else 0
 refine wp_loop Inv μ ⟨j0,jG,E0,hr0,h0⟩ ?_;intro a1 w1 hI;have Az:=(Classical.choose_spec (least hI)).1;obtain ⟨s,E1,bS,hIs⟩:=Az;have hs:=go_sound 4000 _ _ (hr _ s hIs) E1 a1 w1 bS;rw [fW] at hs;refine wp_mono hs ?_;intro e a2 w2 hq
 cases e with
 | normal=>
  obtain ⟨s',E2,oB,EH,XL,j',jL,hI'⟩:=hq;obtain ⟨E3,EI⟩:=XL _ _ _ oB;have XM:Inv a2 w2:=⟨j',EH,E3,EI,hI'⟩;refine ⟨XM,?_⟩;simp only [μ,dif_pos hI,dif_pos XM];exact Nat.lt_of_le_of_lt ((Classical.choose_spec (least XM)).2 j' ⟨EH,E3,EI,hI'⟩) jL
 | exit id=>exact hq
 | goto l=>exact hq
 | ret=>exact hq
 | panic c=>exact hq
 | outgrown=>exact hq
mutual
def flatD:DV->Bool
 | .v _=>true
 | .agg l=>flatL l
 | .tup l=>flatL l
 | _=>false
def flatL:List DV->Bool
 | []=>true
 | d :: r=>flatD d && flatL r
end
mutual
theorem Rv.flat {E E':En}:∀ {d:DV} {v:Value},flatD d=true->Rv E d v->Rv E' d v
 | .v x,v,_,h=>by unfold Rv at h ⊢;exact h
 | .agg l,v,hf,h=>by
  simp only [flatD] at hf;simp only [Rv] at h ⊢;obtain ⟨vs,h1,h2,h3⟩:=h;exact ⟨vs,h1,RvL.flat hf h2,h3⟩
 | .tup l,v,hf,h=>by
  simp only [flatD] at hf;simp only [Rv] at h ⊢;obtain ⟨vs,h1,h2⟩:=h;exact ⟨vs,h1,RvL.flat hf h2⟩
 | .ud,_,hf,_=>by simp [flatD] at hf
 | .sl _ _ _,_,hf,_=>by simp [flatD] at hf
 | .pt _ _,_,hf,_=>by simp [flatD] at hf
 | .loc _ _,_,hf,_=>by simp [flatD] at hf
 | .el _ _,_,hf,_=>by simp [flatD] at hf
 | .ms _ _ _ _ _,_,hf,_=>by simp [flatD] at hf
 | .fn _ _ _,_,hf,_=>by simp [flatD] at hf
 | .rB _ _,_,hf,_=>by simp [flatD] at hf
theorem RvL.flat {E E':En}:∀ {l:List DV} {vs:List Value},flatL l=true->RvL E l vs->RvL E' l vs
 | [],vs,_,h=>by simpa only [RvL] using h
 | d :: r,vs,hf,h=>by
  simp only [flatL,bc] at hf;simp only [RvL] at h ⊢;obtain ⟨v,s,h1,h2,h3⟩:=h;exact ⟨v,s,h1,Rv.flat hf.1 h2,RvL.flat hf.2 h3⟩
end
theorem pH {f:FuncId} {args bB:List DV} {d:Nat} {y:DV} (lm:Enters X.P f) (hc:EvP X.P f bB y) (ha:CcL st.bx 0 0 0 bB args) (hy:flatD y=true) (hd:eJ X.nt st.sl (some d)=true)
  (hk:go X 4000 k ⟨(d,⟨[],y⟩) :: st.sl,st.bx,st.tk⟩) (aW:X.still=false:=by exact rfl):CallG X f args (some d) k st:=by
 refine ⟨lm,aW,fun E a w vs h hv=>(kj h.env hc ha hv).mono ?_⟩;rintro e w' ⟨v,E2,rfl,hr,hm,_⟩;have hh:∀ i,i < w.heap.size->w'.heap[i]? = w.heap[i]?:=fun i hi=>hm.block i hi (fun h=>h);have bS:Rel X E st a w':=dE h (Ext.refl E) (h.env.kb hh) h.tk h.nw (h.fr.cI hm.os hm.tape hm.output hm.size fun i hi=>.inr (hh i hi)) (mV aW) (h.bt.kb fun b hb=>hh b (h.env.bh hb));exact go_sound 4000 _ _ hk E _ w' (bi bS hd y v (Rv.flat hy hr))
theorem km {D:Dr} {c:Bool} {i:Nat} {s0:List (Nat × Sl)} {f:FuncId} {args bB:List DV} {d:Nat} {y:DV} {r:List (Nat × Oper)} (lm:Enters X.P f) (hc:EvP X.P f bB y) (ha:CcL st.bx 0 0 0 bB args) (hy:flatD y=true) (hd:(eJ X.nt st.sl (some d) && eJ X.nt s0 (some d))=true)
  (hk:put2 s0 st (some d) true [] y (goD X D 3000 c r)) (aW:X.still=false:=by exact rfl):uV X D c i r f args (some d) s0 st:=by
 refine ⟨lm,fun hl E0 wr hD E a w vs h hv=>(kj h.rel.env hc ha hv).mono ?_⟩;rintro e w' ⟨v,E2,rfl,hr,hm,_⟩;have hh:∀ i,i < w.heap.size->w'.heap[i]? = w.heap[i]?:=fun i hi=>hm.block i hi (fun h=>h);have bS:Rel X E st a w':=dE h.rel (Ext.refl E) (h.rel.env.kb hh) h.rel.tk h.rel.nw (h.rel.fr.cI hm.os hm.tape hm.output hm.size fun i hi=>.inr (hh i hi)) (mV aW) (h.rel.bt.kb fun b hb=>hh b (h.rel.env.bh hb));have hs:Stp none E w E w':=⟨Ext.refl E,⟨[],by simp⟩,fun j b hb _=>hh b (h.rel.env.bh (mG hb))⟩;have hC:=AD h hs bS (fun j hj=>by cases hj);refine ⟨v,rfl,fun _=>hC,?_⟩;have EO:gv X ⟨D,E0,wr⟩ c E s0 st (a.put none v) w':=rO h hs bS (fun h1=>hC (h.cc h1)) (fun i x hx=>.inr ⟨hx,fun d hd=>by cases hd⟩) rfl;obtain ⟨s1,rn,kh,fc⟩:=jN EO hd true [] y v (fun _ _ p hp=>by cases hp) (fun _=>Rv.flat hy hr) (fun _ _=>Rv.flat hy hr) (fun hn=>(hn (bq _)).elim) hk;exact gw (D:=⟨D,E0,wr⟩) hD 3000 c r _ _ kh hl E _ w' fc
theorem CallG.H7 {S:St} {f:FuncId} {args bB:List DV} {dst:Option Nat} (i j:Nat) (hS:st=eF i j S) (ha:args=renL (swp i j) bB) (OP:Nat.ble X.n0 i=true) (xf:Nat.ble X.n0 j=true) (hi:Nat.blt i S.bx.length=true) (hj:Nat.blt j S.bx.length=true)
  (h:CallG X f bB dst k S) (hX:X.bt=[]:=by exact rfl):CallG X f args dst k st:=by
 subst hS ha;simp only [Nat.blt_eq] at hi hj;refine ⟨h.1,h.2.1,fun E a w vs hr hv=>?_⟩
 have hlen:E.β.length=S.bx.length:=by
  rw [hr.env.len];simp only [eF,fX,ff]
 exact h.2.2 _ a w vs (ES hX hr (nL OP) (nL xf) hi hj) (RvL.H7 (by rw [hlen];exact hi) (by rw [hlen];exact hj) hv)
end
end Dv
end Go.Proofs.YtgjagnmeonoehaaGreat
set_option maxRecDepth 100000
namespace Go.Proofs.YtgjagnmeonoehaaGreat
open Go Go.RowKit Dv Go.Proofs.Tryz
def cZ (l:List Int):List DV:=l.map fun z=>DV.v (.int .i64 z)
def IH (af:List ByteArray) (tb lq:DV) (js:List Int):List DV:=.sl 1 (fF af) none :: tb :: lq :: cZ js
def oz:Option Nat->Int
 | none=>-1
 | some k=>(k:Int)
def FD (pb:Nat->Nat->Bool) (e:Nat):Option Nat->Bool
 | none=>true
 | some o=>pb e o
def bestA (lT:Nat->Bool) (pb:Nat->Nat->Bool):Nat->Option Nat
 | 0=>none
 | e + 1=>if lT e && FD pb e (bestA lT pb e) then some e else bestA lT pb e
def oN (lT:Nat->Bool) (pb:Nat->Nat->Bool) (n:Nat):Option Nat:=
 match bestA lT pb n with
 | none=>none
 | some o=>if (List.range n).any (fun c=>lT c && !pb o c) then none else some o
theorem oO {lT:Nat->Bool} {pb:Nat->Nat->Bool}:∀ {e k:Nat},bestA lT pb e=some k->k < e
 | 0,k,h=>by cases h
 | e + 1,k,h=>by
  rw [bestA] at h;split at h
  ·simp only [oI] at h;omega
  ·have:=oO h;omega
theorem tW (af:List ByteArray) (tb:DV) (rows:List Nat) (js:List Int) (hr:eS rows) (a b:Nat) (ha:a < rows.length) (hb:b < rows.length) :
  EvP prog 193 [.v (.int .i64 a),.v (.int .i64 b),.pt [.pt (IH af tb (oa rows) js) 0] 0] (.v (.bool (bf rows a b))):=by
 have h1:=mh rows hr a b;rw [rX ha hb] at h1;refine eG 13 [.tmp 5] func193 rfl ntmps193 rfl fun _ _ _ _=>?_;refine cP EU h1 ?_;exact (rfl:_=_)
theorem tX (af:List ByteArray) (tb:DV) (rows:List Nat) (js:List Int) (hr:eS rows) (a b:Nat) (ha:a < rows.length) (hb:b < rows.length) :
  EvP prog 194 [.v (.int .i64 a),.v (.int .i64 b),.pt [.pt (IH af tb (oa rows) js) 0] 0] (.v (.bool (bf rows b a))):=by
 have h1:=mh rows hr b a;rw [rX hb ha] at h1;refine eG 13 [.tmp 5] func194 rfl ntmps194 rfl fun _ _ _ _=>?_;refine cP EU h1 ?_;exact (rfl:_=_)
abbrev Wx (L:List DV):DV:=.fn 193 [] [.pt [.pt L 0] 0]
abbrev Wy (L:List DV):DV:=.fn 194 [] [.pt [.pt L 0] 0]
theorem MX (af:List ByteArray) (tb:DV) (rows:List Nat) (js:List Int) (hr:eS rows) (a b c:Nat) (ha:a < rows.length) (hb:b < rows.length) (hc:c < rows.length) :
  EvP prog 196 [.v (.int .i64 c),.pt [Wx (IH af tb (oa rows) js)] 0,.pt [.v (.int .i64 a)] 0,.pt [.v (.int .i64 b)] 0] (.v (.bool (bf rows a c && bf rows b c))):=by
 have h1:=tW af tb rows js hr a c ha hc;have h2:=tW af tb rows js hr b c hb hc;refine eG 16 [.tmp 5] func196 rfl ntmps196 rfl fun _ _ _ _=>?_;refine cP Po h1 ?_;refine br ?_ ?_<;>intro g
 ·have g:bf rows a c=true:=sU g;refine cP Po h2 ?_;refine (bP ?_:);simp [g,pickB]
 ·have g:bf rows a c=false:=sU g;refine (bP ?_:);simp [g,pickB]
theorem MY (af:List ByteArray) (tb:DV) (rows:List Nat) (js:List Int) (hr:eS rows) (a b c:Nat) (ha:a < rows.length) (hb:b < rows.length) (hc:c < rows.length) :
  EvP prog 197 [.v (.int .i64 c),.pt [Wy (IH af tb (oa rows) js)] 0,.pt [.v (.int .i64 a)] 0,.pt [.v (.int .i64 b)] 0] (.v (.bool (bf rows c a && bf rows c b))):=by
 have h1:=tX af tb rows js hr a c ha hc;have h2:=tX af tb rows js hr b c hb hc;refine eG 16 [.tmp 5] func197 rfl ntmps197 rfl fun _ _ _ _=>?_;refine cP Pp h1 ?_;refine br ?_ ?_<;>intro g
 ·have g:bf rows c a=true:=sU g;refine cP Pp h2 ?_;refine (bP ?_:);simp [g,pickB]
 ·have g:bf rows c a=false:=sU g;refine (bP ?_:);simp [g,pickB]
abbrev YB (L:List DV) (gi gb:Nat) (ci cb:List DV) (n:Nat) (o:Int) (e:Nat):St:=
 ⟨[eX 0 L,(1,⟨[],.fn gi [] ci⟩),(2,⟨[],.fn gb [] cb⟩),au 7 o,au 14 n,au 15 e],[],[]⟩
abbrev Le (L:List DV) (gi gb:Nat) (ci cb:List DV) (n:Nat) (o:Int) (e:Nat):St:=
 ⟨[eX 0 L,(1,⟨[],.fn gi [] ci⟩),(2,⟨[],.fn gb [] cb⟩),au 7 o,au 37 n,au 38 e],[],[]⟩
theorem A4 (af:List ByteArray) (tb lq:DV) (js:List Int) (gi gb:Nat) (hei:Enters prog gi) (heb:Enters prog gb) (ci cb:List DV) (lT:Nat->Bool) (pb:Nat->Nat->Bool)
  (acK:CcL [] 0 0 0 ci ci) (acL:CcL [] 0 0 0 cb cb) (hcli:clB.clL 0 0 ci=true) (hclb:clB.clL 0 0 cb=true) (hn:af.length<=64)
  (zZ:∀ c:Nat,c < af.length->EvP prog gi (.v (.int .i64 c) :: ci) (.v (.bool (lT c))))
  (hpb:∀ a b:Nat,a < af.length->b < af.length->EvP prog gb (.v (.int .i64 a) :: .v (.int .i64 b) :: cb) (.v (.bool (pb a b)))) :
  EvP prog 195 [.pt (IH af tb lq js) 0,.fn gi [] ci,.fn gb [] cb] (.v (.int .i64 (oz (oN lT pb af.length)))):=by
 have hN:=cG af;have CY:clB 0 0 (.fn gi [] ci)=true:=by simp only [clB,bc];exact ⟨rfl,hcli⟩
 have Lf:clB 0 0 (.fn gb [] cb)=true:=by simp only [clB,bc];exact ⟨rfl,hclb⟩
 refine eG 57 [.tmp 6] func195 rfl ntmps195 rfl fun _ _ _ _=>?_;refine lJ (fun e=>YB (IH af tb lq js) gi gb ci cb (fF af).length (oz (bestA lT pb e)) e) af.length (bz (wB2 CY Lf)) ?_;intro e he;refine br ?_ ?_<;>intro hL
 ·have aq:e < af.length:=by have:=hL;simp [hN] at this;exact this
  have hs:bestA lT pb (e + 1)=if lT e && FD pb e (bestA lT pb e) then some e else bestA lT pb e:=rfl
  refine cP hei (zZ e aq) ?_ ⟨_,_,rfl,rfl,acK⟩
  cases hA:bestA lT pb e with
  | none=>
   rw [hA] at hs;refine br ?_ ?_<;>intro g
   ·have g:lT e=true:=by simpa [lastG] using g
    have hz:(e:Int)=oz (bestA lT pb (e + 1)):=by rw [hs,g];all_goals rfl
    exact rE ⟨_,by omega,e + 1,rfl,by omega,rfl⟩ (bz (wB4 CY Lf (aG aq (by omega)) hz))
   ·have g:lT e=false:=by simpa [lastG] using g
    have hz:oz none=oz (bestA lT pb (e + 1)):=by rw [hs,g];all_goals rfl
    exact rE ⟨_,by omega,e + 1,rfl,by omega,rfl⟩ (bz (wB4 CY Lf (aG aq (by omega)) hz))
  | some k=>
   rw [hA] at hs;have hk:=oO hA;refine br ?_ ?_<;>intro g
   ·have g:lT e=true:=by simpa [lastG] using g
    refine cP heb (hpb e k aq (by omega)) ?_ ⟨_,_,rfl,rfl,_,_,rfl,rfl,acL⟩;refine br ?_ ?_<;>intro g2
    ·have g2:pb e k=true:=by simpa [pickB,g,lastG] using g2
     have hz:(e:Int)=oz (bestA lT pb (e + 1)):=by rw [hs,g,FD,g2];all_goals rfl
     exact rE ⟨_,by omega,e + 1,rfl,by omega,rfl⟩ (bz (wB4 CY Lf (aG aq (by omega)) hz))
    ·have g2:pb e k=false:=by simpa [pickB,g,lastG] using g2
     have hz:oz (some k)=oz (bestA lT pb (e + 1)):=by rw [hs,g,FD,g2];all_goals rfl
     exact rE ⟨_,by omega,e + 1,rfl,by omega,rfl⟩ (bz (wB4 CY Lf (aG aq (by omega)) hz))
   ·have g:lT e=false:=by simpa [lastG] using g
    have hz:oz (some k)=oz (bestA lT pb (e + 1)):=by rw [hs,g];all_goals rfl
    exact rE ⟨_,by omega,e + 1,rfl,by omega,rfl⟩ (bz (wB4 CY Lf (aG aq (by omega)) hz))
 ·have hge:e=af.length:=sW hN hL;subst hge;refine lI (fun j st=>∃ e:Nat,st=Le (IH af tb lq js) gi gb ci cb (fF af).length (oz (bestA lT pb af.length)) e/\e<=af.length/\(∀ o,bestA lT pb af.length=some o->∀ c,c < e->(lT c && !pb o c)=false)/\j=af.length - e) ⟨0,rfl,by omega,fun _ _ c hc=>by omega,rfl⟩ (bz (wB2 CY Lf)) ?_;rintro j st ⟨e,rfl,he,gm,rfl⟩;refine br ?_ ?_<;>intro hL
  ·have aq:e < af.length:=by have:=hL;simp [hN] at this;exact this
   cases hA:bestA lT pb af.length with
   | none=>
    exact ⟨Le (IH af tb lq js) gi gb ci cb (fF af).length (oz none) (e + 1),(bz (H2 CY Lf (aG aq (by omega)))),af.length - (e + 1),by omega,e + 1,rfl,by omega,(fun _ h=>by cases h),rfl⟩
   | some o=>
    have ho:=oO hA;have gm:=gm o hA;refine cP hei (zZ e aq) ?_ ⟨_,_,rfl,rfl,acK⟩;refine br ?_ ?_<;>intro g
    ·have g:lT e=true:=by simpa [pickB] using g
     refine cP heb (hpb o e ho aq) ?_ ⟨_,_,rfl,rfl,_,_,rfl,rfl,acL⟩;refine br ?_ ?_<;>intro g2
     ·have g2:pb o e=false:=by simpa [pickB,g,lastG] using g2
      have:oN lT pb af.length=none:=by
       rw [oN,hA];simp only;rw [ap];rw [List.any_eq_true];exact ⟨e,by simpa using aq,by simp [g,g2]⟩
      rw [this];exact (rfl:_=_)
     ·have g2:pb o e=true:=by simpa [pickB,g,lastG] using g2
      exact rE ⟨_,by omega,e + 1,rfl,by omega,fun o' Ko c hc=>by
       cases Ko;rcases jJ hc with hc | rfl
       ·exact gm c hc
       ·simp [g2],rfl⟩ (bz (H2 CY Lf (aG aq (by omega))))
    ·have g:lT e=false:=by simpa [pickB] using g
     exact rE ⟨_,by omega,e + 1,rfl,by omega,fun o' Ko c hc=>by
       cases Ko;rcases jJ hc with hc | rfl
       ·exact gm c hc
       ·simp [g],rfl⟩ (bz (H2 CY Lf (aG aq (by omega))))
  ·have hge:e=af.length:=sW hN hL;subst hge
   have:oN lT pb af.length=bestA lT pb af.length:=by
    cases hA:bestA lT pb af.length with
    | none=>rw [oN,hA]
    | some o=>
     rw [oN,hA];simp only;rw [aj];rw [List.any_eq_true];rintro ⟨c,hc,h2⟩;rw [gm o hA c (sU hc)] at h2;cases h2
   rw [this];exact (rfl:_=_)
theorem tY (js:List Int) (bx:List (List DV)) (N n m:Nat):CcL bx N n m (cZ js) (cZ js):=by
 induction js with
 | nil=>exact rfl
 | cons z r ih=>exact ⟨_,_,rfl,rfl,ih⟩
theorem tE {n m:Nat} {tk:List TkE} (js:List Int):WeL n m tk (cZ js) (cZ js):=ya _ fun x hx=>by
 obtain ⟨z,_,rfl⟩:=List.mem_map.1 hx;exact ⟨_,rfl⟩
theorem YC (f:Nat->Nat) (js:List Int):renL f (cZ js)=cZ js:=by
 induction js with
 | nil=>rfl
 | cons z r ih=>simp only [cZ,List.map_cons,renL,renD] at ih ⊢;rw [ih]
theorem YD (js:List Int):(cZ js).length=js.length:=by simp [cZ]
theorem Qy (js:List Int) (i:Nat) (z:Int):(cZ js).set i (.v (.int .i64 z))=cZ (js.set i z):=by simp [cZ,List.map_set]
abbrev iW (af:List ByteArray) (tc:List DV) (rows:List Nat) (js:List Int):List DV:=IH af (.pt tc 0) (oa rows) js
theorem TZ (af:List ByteArray) (tc:List DV) (rows:List Nat) (js:List Int):(iW af tc rows js).length=js.length + 3:=by simp [IH,cZ]
theorem wi {af:List ByteArray} {tc:List DV} {rows:List Nat} {js:List Int} {i k:Nat} {z:Int} (h:k=i + 3):(iW af tc rows js).set k (.v (.int .i64 z))=iW af tc rows (js.set i z):=by grind [IH,Qy]
theorem T0 (f:Nat->Nat) (af:List ByteArray) (tc:List DV) (rows:List Nat) (js:List Int):renL f (iW af tc rows js)=iW af tc rows js:=by
 simp only [IH,renL,YC];rfl
theorem Lg {n m:Nat} {tk:List TkE} {l:List DV} {af:List ByteArray} {tc:List DV} {rows:List Nat} {js:List Int} (h:l=iW af tc rows js):WeL n m tk l (iW af tc rows js):=by
 subst h;exact ⟨_,_,rfl,aA rfl,_,_,rfl,aA rfl,_,_,rfl,aA rfl,tE js⟩
def fO (f:Nat->Nat->Bool) (n a b:Nat):Option Nat:=oN (fun c=>f a c && f b c) f n
def jR (f:Nat->Nat->Bool) (n a b:Nat):Option Nat:=oN (fun c=>f c a && f c b) (fun x y=>f y x) n
theorem ym (f:Nat->Nat->Bool) (n a b:Nat):fO f n a b=fO f n b a:=by grind [fO]
theorem yo (f:Nat->Nat->Bool) (n a b:Nat):jR f n a b=jR f n b a:=by grind [jR]
def mn (f:Nat->Nat->Bool) (n a b:Nat):Bool:=(fO f n a b).isNone || (jR f n a b).isNone
def oP (f:Nat->Nat->Bool) (n b:Nat):Bool:=(List.range (b + 1)).any fun a=>mn f n a b
def JM (f:Nat->Nat->Bool) (n:Nat) (js:List Int) (a b:Nat):Prop:=js[a * 32 + b]? = some (oz (fO f n a b))/\js[1024 + (a * 32 + b)]? = some (oz (jR f n a b))
def Ac (js:List Int) (a b:Nat) (j m:Int):List Int:=(((js.set (a * 32 + b) j).set (b * 32 + a) j).set (1024 + (a * 32 + b)) m).set (1024 + (b * 32 + a)) m
theorem Qz (js:List Int) (a b:Nat) (j m:Int):(Ac js a b j m).length=js.length:=by simp [Ac]
theorem qY {js:List Int} {i k:Nat} {z:Int} (h:k≠i):(js.set k z)[i]? = js[i]?:=List.getElem?_set_ne h
theorem Lh {f:Nat->Nat->Bool} {n:Nat} {js:List Int} (hl:js.length=2048) {a b:Nat} (ha:a < 32) (hb:b < 32) {x y:Nat} (hx:x < 32) (hy:y < 32)
  (h:JM f n js x y∨(x=a/\y=b)∨(x=b/\y=a)):JM f n (Ac js a b (oz (fO f n a b)) (oz (jR f n a b))) x y:=by
 have key:(x=a/\y=b)∨(x=b/\y=a)∨(JM f n js x y/\¬ (x=a/\y=b)/\¬ (x=b/\y=a)):=by grind
 rcases key with ⟨rfl,rfl⟩ | ⟨rfl,rfl⟩ | ⟨h,h1,h2⟩
 ·grind [JM,Ac,qY]
 ·grind [JM,Ac,ym,yo,qY]
 ·grind [JM,Ac,qY]
abbrev Wz (af:List ByteArray) (tc:List DV) (rows:List Nat) (js:List Int) (e:Nat):St:=
 ⟨[aE 1 1,aE 3 2,aE 4 3,au 15 ((fF af).length),au 16 e],
  [iW af tc rows js,[.loc 0 0],[.fn 193 [] [.loc 1 0]],[.fn 194 [] [.loc 1 0]]],[]⟩
abbrev II (af:List ByteArray) (tc:List DV) (rows:List Nat) (js:List Int) (e f:Nat):St:=
 ⟨[aE 1 1,aE 3 2,aE 4 3,au 15 ((fF af).length),au 16 e,aE 5 4,aE 6 5],
  [iW af tc rows js,[.loc 0 0],[.fn 193 [] [.loc 1 0]],[.fn 194 [] [.loc 1 0]],[.v (.int .i64 e)],[.v (.int .i64 f)]],[]⟩
abbrev QA (af:List ByteArray) (tc:List DV) (rows:List Nat) (js:List Int) (e f:Nat):St:=
 ⟨[aE 1 1,aE 3 2,aE 4 3,au 15 ((fF af).length),au 16 e,aE 5 4,aE 6 6],
  [iW af tc rows js,[.loc 0 0],[.fn 193 [] [.loc 1 0]],[.fn 194 [] [.loc 1 0]],[.v (.int .i64 e)],[.v (.int .i64 f)],[.v (.int .i64 (f + 1:Nat))]],[]⟩
abbrev QB (af:List ByteArray) (tc:List DV) (rows:List Nat) (js:List Int) (e f:Nat):St:=
 ⟨[aE 1 1,aE 3 2,aE 4 3,au 15 ((fF af).length),au 16 e,aE 5 4,aE 6 5],
  [iW af tc rows js,[.loc 0 0],[.fn 193 [] [.loc 1 0]],[.fn 194 [] [.loc 1 0]],[.v (.int .i64 e)],[.v (.int .i64 (f + 1:Nat))],[.v (.int .i64 f)]],[]⟩
theorem T1 (af:List ByteArray) (tc:List DV) (rows:List Nat) (js:List Int) (e f:Nat):QA af tc rows js e f=eF 5 6 (QB af tc rows js e f):=by
 simp only [eF,renO,T0];rfl
def BndΦ (af:List ByteArray) (tc:List DV) (rows:List Nat) (r:DV) (os:List (List DV)) (_:List TkE):Prop:=
 ∃ YE,os=[iW af tc rows YE]/\YE.length=2048/\r = .v (.int .i64 (oz (bM (oP (bf rows) af.length) af.length))) /\
  (bM (oP (bf rows) af.length) af.length=none->∀ x y,x < af.length->y < af.length->JM (bf rows) af.length YE x y)
theorem FE (af:List ByteArray) (tc:List DV) (rows:List Nat) (js:List Int) (hr:eS rows) (hlen:rows.length=af.length) (hn:af.length<=32) (hj:js.length=2048) :
  Ev prog 110 [.loc 0 0] [iW af tc rows js] [] (BndΦ af tc rows):=by
 have hN:=cG af;refine eG 73 [.tmp 2] func110 rfl ntmps110 rfl fun _ _ _ _=>?_;refine lI (fun j st=>∃ (e:Nat) (js:List Int),st=Wz af tc rows js e/\e<=af.length/\js.length=2048/\(∀ b,b < e->oP (bf rows) af.length b=false)/\(∀ x y,x < e->y < e->JM (bf rows) af.length js x y)/\j=af.length - e) ⟨0,js,rfl,by omega,hj,fun _ h=>by omega,fun _ _ h=>by omega,rfl⟩ (bZ 4 qL lj) ?_;rintro j st ⟨e,js,rfl,he,hj,gm,CZ,rfl⟩;refine br ?_ ?_<;>intro hL
 ·have aq:e < af.length:=by have:=hL;simp [hN] at this;exact this
  refine IG (fun j st=>∃ (f:Nat) (js:List Int),st=II af tc rows js e f/\f<=e + 1/\js.length=2048/\(∀ a,a < f->mn (bf rows) af.length a e=false)/\(∀ x y,x < e->y < e->JM (bf rows) af.length js x y)/\(∀ x,x < f->JM (bf rows) af.length js x e/\JM (bf rows) af.length js e x)/\j=e + 1 - f) (e + 1) (II af tc rows js e 0) (.MU (bZ 6 qL lj)) ⟨0,js,rfl,by omega,hj,fun _ h=>by omega,CZ,fun _ h=>by omega,by omega⟩ ?_;clear CZ hj;rintro j st ⟨f,js,rfl,hf,hj,ZQ,CZ,hje,rfl⟩;refine br ?_ ?_<;>intro mq
  ·have OS:f<=e:=by have:=mq;simp at this;exact this
   have lP:=A4 af (.pt tc 0) (oa rows) js 196 193 abA Po
    [.pt [Wx (iW af tc rows js)] 0,.pt [.v (.int .i64 f)] 0,.pt [.v (.int .i64 e)] 0] [.pt [.pt (iW af tc rows js) 0] 0] (fun c=>bf rows f c && bf rows e c) (bf rows) ax ax rfl rfl (by omega)
    (fun c hc=>MX af (.pt tc 0) rows js hr f e c (by omega) (by omega) (by omega)) (fun a b ha hb=>tW af (.pt tc 0) rows js hr a b (by omega) (by omega))
   have iQ:=A4 af (.pt tc 0) (oa rows) js 197 194 abB Pp
    [.pt [Wy (iW af tc rows js)] 0,.pt [.v (.int .i64 f)] 0,.pt [.v (.int .i64 e)] 0] [.pt [.pt (iW af tc rows js) 0] 0] (fun c=>bf rows c f && bf rows c e) (fun x y=>bf rows y x) ax ax rfl rfl (by omega)
    (fun c hc=>MY af (.pt tc 0) rows js hr f e c (by omega) (by omega) (by omega)) (fun a b ha hb=>tX af (.pt tc 0) rows js hr a b (by omega) (by omega))
   refine Cv VW lP (by repeat' (first | exact rfl | exact trivial | exact Or.inr (Or.inl ⟨_,rfl⟩) | exact Or.inr ⟨_,rfl⟩ | exact Or.inl ⟨rfl,rfl⟩ | exact Or.inl rfl | refine Or.inr ⟨_,_,rfl,Nat.zero_le _,rfl,?_⟩ | refine ⟨_,_,rfl,?_,?_⟩ | refine ⟨_,rfl,?_⟩ | exact tY _ _ _ _ _ | refine Or.inr (Or.inr (Or.inr ⟨_,_,rfl,?_⟩)) | exact Or.inl rfl | refine Or.inr ?_)) rfl ?_;refine Cv VW iQ (by repeat' (first | exact rfl | exact trivial | exact Or.inr (Or.inl ⟨_,rfl⟩) | exact Or.inr ⟨_,rfl⟩ | exact Or.inl ⟨rfl,rfl⟩ | exact Or.inl rfl | refine Or.inr ⟨_,_,rfl,Nat.zero_le _,rfl,?_⟩ | refine ⟨_,_,rfl,?_,?_⟩ | refine ⟨_,rfl,?_⟩ | exact tY _ _ _ _ _ | refine Or.inr (Or.inr (Or.inr ⟨_,_,rfl,?_⟩)) | exact Or.inl rfl | refine Or.inr ?_)) rfl ?_
   have YF:pickB (decide (oz (fO (bf rows) af.length f e) = -1)) true (decide (oz (jR (bf rows) af.length f e) = -1))=mn (bf rows) af.length f e:=by
    unfold mn
    cases fO (bf rows) af.length f e with
    | none=>rfl
    | some j=>
     have:decide (oz (some j) = -1)=false:=by simp [oz]
     rw [this]
     cases jR (bf rows) af.length f e with
     | none=>rfl
     | some m=>
      have:decide (oz (some m) = -1)=false:=by simp [oz]
      rw [this];rfl
   refine br ?_ ?_<;>intro g
   ·have g:mn (bf rows) af.length f e=true:=YF.symm.trans g;have hb:oP (bf rows) af.length e=true:=by grind [oP]
    have Ef:=bU (p:=oP (bf rows) af.length) aq hb gm;refine ⟨.v (.int .i64 e),[iW af tc rows js],ax,(by repeat' (first | exact rfl | exact trivial | exact Or.inr (Or.inl ⟨_,rfl⟩) | exact Or.inr ⟨_,rfl⟩ | exact Or.inl ⟨rfl,rfl⟩ | exact Or.inl rfl | refine Or.inr ⟨_,_,rfl,Nat.zero_le _,rfl,?_⟩ | refine ⟨_,_,rfl,?_,?_⟩ | refine ⟨_,rfl,?_⟩ | exact tY _ _ _ _ _ | refine Or.inr (Or.inr (Or.inr ⟨_,_,rfl,?_⟩)) | exact Or.inl rfl | refine Or.inr ?_)),js,rfl,hj,?_,fun h=>by rw [Ef] at h;cases h⟩;rw [Ef];rfl
   ·have g:mn (bf rows) af.length f e=false:=YF.symm.trans g;refine ni [0] (fun _=>false) mo (by decide +kernel) ?_;have cu:=TZ af tc rows js;refine ⟨⟨by omega,by omega⟩,?_⟩;refine ⟨⟨by omega,by omega⟩,?_⟩;refine ⟨by rw [cu];omega,?_⟩;refine ⟨⟨by omega,by omega⟩,?_⟩;refine ⟨⟨by omega,by omega⟩,?_⟩;refine ⟨by rw [List.length_set,cu];omega,?_⟩;refine ni [0] (fun _=>false) mo (by decide +kernel) ?_;refine ⟨⟨by omega,by omega⟩,?_⟩;refine ⟨⟨by omega,by omega⟩,?_⟩;refine ⟨by rw [List.length_set,List.length_set,cu];omega,?_⟩;refine ⟨⟨by omega,by omega⟩,?_⟩;refine ⟨⟨by omega,by omega⟩,?_⟩;refine ⟨by rw [List.length_set,List.length_set,List.length_set,cu];omega,?_⟩
    have iv:((((iW af tc rows js).set (0 + 0 + 3 + (f:Int).toNat * 32 + (e:Int).toNat * 1) (DV.v (.int .i64 (oz (fO (bf rows) af.length f e))))).set (0 + 0 + 3 + (e:Int).toNat * 32 + (f:Int).toNat * 1) (DV.v (.int .i64 (oz (fO (bf rows) af.length f e))))).set (0 + 0 + 1027 + (f:Int).toNat * 32 + (e:Int).toNat * 1) (DV.v (.int .i64 (oz (jR (bf rows) af.length f e))))).set (0 + 0 + 1027 + (e:Int).toNat * 32 + (f:Int).toNat * 1) (DV.v (.int .i64 (oz (jR (bf rows) af.length f e))))=iW af tc rows (Ac js f e (oz (fO (bf rows) af.length f e)) (oz (jR (bf rows) af.length f e))):=by
     rw [wi (i:=f * 32 + e) (by omega),wi (i:=e * 32 + f) (by omega),wi (i:=1024 + (f * 32 + e)) (by omega),wi (i:=1024 + (e * 32 + f)) (by omega)];rfl
    refine ⟨II af tc rows (Ac js f e (oz (fO (bf rows) af.length f e)) (oz (jR (bf rows) af.length f e))) e (f + 1),
     .trans (.MU (s2:=QA af tc rows (Ac js f e (oz (fO (bf rows) af.length f e)) (oz (jR (bf rows) af.length f e))) e f) (bZ 7 (by repeat' (first | exact rfl | exact aA rfl | exact Lg iv | exact aC (aG (n:=e + 1) (by omega) (by omega)) | refine ⟨_,_,rfl,?_,?_⟩)) (by repeat' (first | exact trivial | exact aA rfl | exact Lg iv | exact aC (aG (n:=e + 1) (by omega) (by omega)) | refine ⟨⟨_,rfl,?_⟩,?_⟩))))
      (.trans (.H7 5 6 (QB af tc rows (Ac js f e (oz (fO (bf rows) af.length f e)) (oz (jR (bf rows) af.length f e))) e f) _ (T1 _ _ _ _ _ _) rfl rfl rfl rfl) (.MU (bZ 6 qL lj))),
     e + 1 - (f + 1),by omega,f + 1,_,rfl,by omega,by rw [Qz];exact hj,fun a ha=>?_,fun x y hx hy=>?_,fun x hx=>?_,rfl⟩
    ·grind
    ·grind [Lh]
    ·grind [Lh]
  ·have OS:f=e + 1:=by have:=mq;simp at this;omega
   subst OS;have hb:oP (bf rows) af.length e=false:=by grind [oP]
   refine ⟨Wz af tc rows js (e + 1),(bZ 4 (jM (aG aq (by omega))) (cJ (aG aq (by omega)))),af.length - (e + 1),by omega,e + 1,js,rfl,by omega,hj,fun b fD=>?_,fun x y hx hy=>?_,rfl⟩
   ·grind
   ·grind
 ·have hge:e=af.length:=sW hN hL;subst hge;refine ⟨.v (.int .i64 (-1)),[iW af tc rows js],ax,(by repeat' (first | exact rfl | exact trivial | exact Or.inr (Or.inl ⟨_,rfl⟩) | exact Or.inr ⟨_,rfl⟩ | exact Or.inl ⟨rfl,rfl⟩ | exact Or.inl rfl | refine Or.inr ⟨_,_,rfl,Nat.zero_le _,rfl,?_⟩ | refine ⟨_,_,rfl,?_,?_⟩ | refine ⟨_,rfl,?_⟩ | exact tY _ _ _ _ _ | refine Or.inr (Or.inr (Or.inr ⟨_,_,rfl,?_⟩)) | exact Or.inl rfl | refine Or.inr ?_)),js,rfl,hj,?_,fun _=>CZ⟩;rw [cK gm];rfl
def YG (l:List Wd) (k:Nat):Int:=((l[k]?).getD (⟨ay,0⟩:Wd)).a
def latF (l:List Wd) (o:List (Wd × Wd)):Ft:=
 if (gM l o).1≠0 then gM l o
 else if (enumL l 0 l).1≠0 then enumL l 0 l
 else if (numF (az l) o).1≠0 then numF (az l) o
 else match bM (lD l.length (fA l.length (dW (az l) o))) l.length with
  | some a=>(11,YG l a)
  | none=>
   match bM (oP (fA l.length (dW (az l) o)) l.length) l.length with
   | some b=>(12,YG l b)
   | none=>(0,0)
def YH (l:List Wd) (o:List (Wd × Wd)) (d:DV):Prop:=
 ∃ aJ js,iU (az l) aJ/\aJ.length<=l.length/\js.length=2048/\(∀ x y,x < l.length->y < l.length->JM (fA l.length (dW (az l) o)) l.length js x y) /\
  d = .pt (iW (az l) (dt (az l) aJ) (closeR (fZ l.length (dW (az l) o)) l.length) js) 0
def IJ (l:List Wd) (o:List (Wd × Wd)) (r:DV) (_:List (List DV)) (_:List TkE):Prop:=
 if (latF l o).1≠0 then r = .tup [.v (.pointer none),(latF l o).d] else ∃ d,YH l o d/\r = .tup [d,(latF l o).d]
theorem pI {L:List ByteArray}:∀ {o:List (Wd × Wd)},(numF L o).1=0->tS L.length (dW L o)
 | [],_=>by intro p hp;simp [dW] at hp
 | q :: r,h=>by
  rw [numF] at h;split at h
  ·cases h
  ·rename_i h1;split at h
   ·cases h
   ·rename_i h2;have ih:=pI (o:=r) h;intro p hp;simp only [dW,List.map_cons,List.mem_cons] at hp;rcases hp with rfl | hp
    ·obtain ⟨a,ha⟩:=Option.ne_none_iff_exists'.1 h1;obtain ⟨b,hb⟩:=Option.ne_none_iff_exists'.1 h2;simp only [Yw,ha,hb,Option.getD_some];exact ⟨(dG ha).1,(dG hb).1⟩
    ·exact ih p hp
theorem dz (l:List Wd):(az l).length=l.length:=by simp [az]
theorem yp {all:List Wd}:∀ {l:List Wd} {i:Nat},(enumL all i l).1=0->enumL all i l=(0,0)
 | [],_,_=>rfl
 | x :: r,i,h=>by
  rw [enumL] at h ⊢;split at h
  ·rename_i h1;exact (h1 h).elim
  ·rename_i h1;rw [aj h1];exact yp h
theorem A5 {L:List ByteArray}:∀ {o:List (Wd × Wd)},(numF L o).1=0->numF L o=(0,0)
 | [],_=>rfl
 | q :: r,h=>by
  rw [numF] at h ⊢;split at h
  ·cases h
  ·rename_i h1;split at h
   ·cases h
   ·rename_i h2;rw [aj h1,aj h2];exact A5 h
theorem lE {l:List Wd} {k:Nat} {w:Wd} (h:l[k]? = some w):YG l k=w.a:=by simp [YG,h]
theorem YI (n:Nat):vL (List.replicate n (.int .i64 0))=cZ (List.replicate n 0):=by
 induction n with
 | zero=>rfl
 | succ n ih=>simp only [List.replicate_succ,vL,cZ,List.map_cons] at ih ⊢;rw [ih]
theorem oQ {l:List Wd} {o:List (Wd × Wd)} {f:Ft} {os:List (List DV)} {tk:List TkE} (h:latF l o=f) (hf:f.1≠0):IJ l o (.tup [.v (.pointer none),f.d]) os tk:=by
 unfold IJ;rw [h,ap hf]
theorem T2 {l:List Wd} {o:List (Wd × Wd)} {d:DV} {os:List (List DV)} {tk:List TkE} (h:latF l o=(0,0)) (hd:YH l o d):IJ l o (.tup [d,Ft.d (0,0)]) os tk:=by grind [IJ]
theorem T3 (n m:Nat) (af:List ByteArray) (tc:List DV) (rows:List Nat) (js:List Int):clB.clL n m (iW af tc rows js)=true:=by
 have h:∀ l:List Int,clB.clL n m (cZ l)=true:=by
  intro l
  induction l with
  | nil=>rfl
  | cons z r ih=>simp only [cZ,List.map_cons,clB.clL,clB,Bool.true_and] at ih ⊢;exact ih
 simp only [IH,clB.clL,clB,h,oa,Bool.and_self]
theorem FG (l:List Wd) (o:List (Wd × Wd)) (hs:wdsWt l<=1099511627776) (xc:prsWt o<=1099511627776) :
  Ev prog 45 [.sl 2 (bT l) none,.sl 4 (n9 o) none] [] [] (IJ l o):=by
 have ov:=bI l;have O3:=jv o;have fI:=dz l;have hF:=latF.eq_1 l o;refine eG 86 [.tmp 4,.cell 5 44] func45 rfl ntmps45 rfl fun _ _ _ _=>?_;refine cP abb (MT l o) ?_;by_cases hm:(gM l o).1≠0
 ·rw [ap hm] at hF;refine br ?_ ?_<;>intro h
  ·refine dS ?_;exact ⟨_,ax,oQ (os:=[]) (tk:=[]) hF hm⟩
  ·exfalso;simp at h;exact hm h
 rw [aj hm] at hF;refine br (fun h=>?_) (fun _=>?_)
 ·exfalso;simp at h;exact hm h
 have KC:l ≠ []:=by
  rintro rfl;simp [gM] at hm
 have hl32:l.length<=32:=by grind [gM]
 have vE:=Fz l hs;unfold acC at vE;by_cases hE:(enumL l 0 l).1≠0
 ·rw [aj hE] at vE;rw [ap hE] at hF;refine cP VG vE ?_;refine br ?_ ?_<;>intro h
  ·refine dS ?_;exact ⟨_,ax,oQ (os:=[]) (tk:=[]) hF hE⟩
  ·exfalso;simp at h;exact hE h
 rw [aj hE] at hF;have hE:(enumL l 0 l).1=0:=sU hE;rw [ap hE] at vE;rw [yp hE] at vE;refine cP VG vE ?_;refine dj Pf rfl (xQ (az l) (by omega)) ax (fun r hr=>?_);obtain ⟨aJ,hT,lx,rfl⟩:=hr;have sb:=Aa (az l) aJ hT (by omega) o xc;unfold acD at sb;by_cases hN:(numF (az l) o).1≠0
 ·rw [aj hN] at sb;rw [ap hN] at hF;refine cP VH sb ?_;refine br ?_ ?_<;>intro h
  ·refine dS ?_;exact ⟨_,ax,oQ (os:=[]) (tk:=[]) hF hN⟩
  ·exfalso;simp at h;exact hN h
 rw [aj hN] at hF;have hN:(numF (az l) o).1=0:=sU hN;rw [ap hN] at sb;rw [A5 hN] at sb;have hP:=pI hN;rw [fI] at hP;have hPl:(dW (az l) o).length=o.length:=by simp [dW]
 generalize hPP:dW (az l) o=P at sb hF hP hPl;refine cP VH sb ?_;have hLn:(fF (az l)).length=l.length:=by rw [cG,fI]
 have hPb:P.length<=1099511627776:=by omega
 have hro:=CR (n:=l.length) (by omega) P hP;have dK:=kS l.length P;have hr0:fZ l.length P ≠ []:=fun h=>KC (List.eq_nil_of_length_eq_zero (by rw [<- dK,h];rfl));refine cP abc (ML l.length (by omega) P hP hPb) ?_ (mc hLn);have hlo:=IC _ hro hr0;rw [dK,TU (by omega) hP] at hlo
 cases hA:bM (lD l.length (fA l.length P)) l.length with
 | some a=>
  rw [hA] at hlo hF;simp only at hF;have lu:=(bV hA).1;obtain ⟨w,hw⟩:∃ w,l[a]? = some w:=⟨_,gE lu⟩;rw [lE hw] at hF;refine cP VI hlo ?_;refine dS ?_;refine ⟨kP w,⟨by omega,bd hw⟩,?_⟩;exact ⟨_,ax,oQ (os:=[]) (tk:=[]) hF (by simp)⟩
 | none=>
 rw [hA] at hlo hF;simp only at hF;refine cP VI hlo ?_;have fU:=u4 _ hro hr0;rw [dK] at fU;have hcok:=mi hro l.length (by omega);have acM:=gd (fZ l.length P) l.length;rw [dK] at acM;refine cP VJ fU ?_;have vH:(List.replicate 2048 (0:Int)).length=2048:=List.length_replicate
 have hcs:CcL [] 0 0 0 (iW (az l) (dt (az l) aJ) (closeR (fZ l.length P) l.length) (List.replicate 2048 0)) (.sl 1 (fF (az l)) none :: .pt (dt (az l) aJ) 0 :: oa (closeR (fZ l.length P) l.length) :: vL (List.replicate 2048 (.int .i64 0))):=by
  refine ⟨_,_,rfl,Or.inr (Or.inl ⟨_,rfl⟩),_,_,rfl,Or.inl rfl,_,_,rfl,Or.inl rfl,?_⟩;rw [YI];exact tY _ _ _ _ _
 have hbn:=FE (az l) (dt (az l) aJ) _ (List.replicate 2048 0) hcok (by omega) (by omega) vH;refine nk abd rfl rfl hcs ax hbn (fun r os tk h=>?_) (fun r s9 h=>?_)
 ·obtain ⟨YE,rfl,_,rfl,_⟩:=h;refine ⟨rfl,fun s9 h=>?_⟩;rw [List.mem_singleton.1 h];exact T3 _ _ _ _ _ _
 obtain ⟨YE,h1,YJ,hr,CZ⟩:=h;simp only [List.cons.injEq,and_true] at h1;subst h1
 have hB:bM (oP (bf (closeR (fZ l.length P) l.length)) (az l).length) (az l).length=bM (oP (fA l.length P) l.length) l.length:=by
  rw [fI];rfl
 rw [hB] at hr CZ
 cases hb:bM (oP (fA l.length P) l.length) l.length with
 | some b=>
  rw [hb] at hr hF;subst hr;simp only at hF;have hbl:=(bV hb).1;obtain ⟨w,hw⟩:∃ w,l[b]? = some w:=⟨_,gE hbl⟩;rw [lE hw] at hF;refine dS ?_;refine ⟨kP w,⟨by simp only [oz];omega,bd hw⟩,?_⟩;exact ⟨_,ax,oQ (os:=[]) (tk:=[]) hF (by simp)⟩
 | none=>
  rw [hb] at hr hF;subst hr;simp only at hF;refine ⟨.tup [.pt (iW (az l) (dt (az l) aJ) (closeR (fZ l.length P) l.length) YE) 0,Ft.d (0,0)],(by repeat' (first | exact rfl | exact trivial | exact Or.inr (Or.inl ⟨_,rfl⟩) | exact Or.inr ⟨_,rfl⟩ | exact Or.inl ⟨rfl,rfl⟩ | exact Or.inl rfl | refine Or.inr ⟨_,_,rfl,Nat.zero_le _,rfl,?_⟩ | refine ⟨_,_,rfl,?_,?_⟩ | refine ⟨_,rfl,?_⟩ | exact tY _ _ _ _ _ | refine Or.inr (Or.inr (Or.inr ⟨_,_,rfl,?_⟩)) | exact Or.inl rfl | refine Or.inr ?_)),T2 (os:=[]) (tk:=[]) hF ⟨aJ,YE,hT,by omega,YJ,?_,by rw [hPP]⟩⟩;rw [hPP];rw [fI] at CZ;exact CZ hb
section
variable (af:List ByteArray) (tc:List DV) (rows:List Nat) (js:List Int)
theorem tZ:EvP prog 73 [.pt (iW af tc rows js) 0] (.v (.int .i64 af.length)):=by
 refine eG 10 [.tmp 2] func73 rfl ntmps73 rfl fun _ _ _ _=>?_;refine (qM ?_:);rw [cG]
theorem ua (i:Int):EvP prog 168 [.pt (iW af tc rows js) 0,.v (.int .i64 i)] (.v (.bool (decide (0<=i) && decide (i < af.length)))):=by
 refine eG 13 [.tmp 4] func168 rfl ntmps168 rfl fun _ _ _ _=>?_;refine br ?_ ?_<;>intro g
 ·have g:decide (0<=i)=true:=sU g;refine cP H9 (tZ af tc rows js) ?_;refine (bP ?_:);simp [g,pickB]
 ·have g:decide (0<=i)=false:=sU g;refine (bP ?_:);simp [g,pickB]
theorem sc {a:Nat} (h:a < af.length):EvP prog 168 [.pt (iW af tc rows js) 0,.v (.int .i64 a)] (.v (.bool true)):=by
 have:=ua af tc rows js a;have e:(decide (0<=(a:Int)) && decide ((a:Int) < af.length))=true:=by simp [h]
 rw [e] at this;exact this
theorem IK (i:Int):EvP prog 157 [.pt (iW af tc rows js) 0,.v (.int .i64 i)] (.v (.string (if 0<=i/\i < af.length then (af[i.toNat]?).getD ay else ay))):=by
 refine eG 16 [.tmp 4] func157 rfl ntmps157 rfl fun _ _ _ _=>?_;refine cP xI (ua af tc rows js i) ?_;refine br ?_ ?_<;>intro g
 ·have g:¬ (0<=i/\i < af.length):=by simp at g;omega
  rw [aj g];exact (rfl:_=_)
 ·have g:0<=i/\i < af.length:=by simp at g;omega
  obtain ⟨x,hx⟩:∃ x,af[i.toNat]? = some x:=⟨_,gE (by omega)⟩;refine ⟨_,⟨g.1,gT hx⟩,?_⟩;rw [ap g,hx];exact (rfl:_=_)
end
theorem IL (af:List ByteArray) (aJ rows:List Nat) (js:List Int) (s:ByteArray) (hT:iU af aJ) (hl:aJ.length<=1099511627776) :
  EvP prog 202 [.pt (iW af (dt af aJ) rows js) 0,.v (.string s)] (Qp (dy af s)):=by
 have h:=jz af aJ s hT hl;refine eG 16 [.tmp 4,.tmp 5] func202 rfl ntmps202 rfl fun _ _ _ _=>?_
 cases hx:dy af s with
 | none=>
  rw [hx] at h;refine cP oF h ?_;exact ⟨_,ax,rfl⟩
 | some k=>
  rw [hx] at h;refine cP oF h ?_;exact ⟨_,ax,rfl⟩
theorem FH {l:List DV} {k b:Nat} {x:DV} (hb:b < 32) (h:l[k + b]? = some x):(((l.drop k).take 32).drop b).take 1=[x]:=by
 have h1:((l.drop k).take 32)[b]? = some x:=by grind
 rw [List.drop_eq_getElem_cons (gS h1).1]
 grind
section
variable (af:List ByteArray) (tc:List DV) (rows:List Nat) (js:List Int)
theorem yq (a b:Nat) (z:Int) (ha:a < af.length) (hb:b < af.length) (hn:af.length<=32) (hz:js[a * 32 + b]? = some z) :
  EvP prog 203 [.pt (iW af tc rows js) 0,.v (.int .i64 a),.v (.int .i64 b)] (.v (.int .i64 z)):=by
 refine eG 25 [.tmp 6] func203 rfl ntmps203 rfl fun _ _ _ _=>?_;refine cP xI (sc af tc rows js ha) ?_;refine cP xI (sc af tc rows js hb) ?_;refine ⟨_,⟨⟨by omega,by omega⟩,rfl⟩,?_⟩;refine ⟨_,⟨⟨by omega,by omega⟩,FH (x:=.v (.int .i64 z)) (by omega) ?_⟩,?_⟩
 ·grind [IH,cZ]
 exact (rfl:_=_)
theorem IM (a b:Nat) (z:Int) (ha:a < af.length) (hb:b < af.length) (hn:af.length<=32) (hz:js[1024 + (a * 32 + b)]? = some z) :
  EvP prog 144 [.pt (iW af tc rows js) 0,.v (.int .i64 a),.v (.int .i64 b)] (.v (.int .i64 z)):=by
 refine eG 25 [.tmp 6] func144 rfl ntmps144 rfl fun _ _ _ _=>?_;refine cP xI (sc af tc rows js ha) ?_;refine cP xI (sc af tc rows js hb) ?_;refine ⟨_,⟨⟨by omega,by omega⟩,rfl⟩,?_⟩;refine ⟨_,⟨⟨by omega,by omega⟩,FH (x:=.v (.int .i64 z)) (by omega) ?_⟩,?_⟩
 ·grind [IH,cZ]
 exact (rfl:_=_)
end
theorem ub {lT:Nat->Bool} {pb:Nat->Nat->Bool}:∀ {e k:Nat},bestA lT pb e=some k->lT k=true
 | 0,k,h=>by cases h
 | e + 1,k,h=>by
  rw [bestA] at h;split at h
  ·grind
  ·exact ub h
theorem yr {lT:Nat->Bool} {pb:Nat->Nat->Bool} {n k:Nat} (h:oN lT pb n=some k):k < n/\lT k=true/\∀ c,c < n->lT c=true->pb k c=true:=by grind [oN,oO,ub]
structure dA (f:Nat->Nat->Bool) (n:Nat):Prop where
 pos:0 < n
 rfl':∀ a,a < n->f a a=true
 tr:∀ a b c,a < n->b < n->c < n->f a b=true->f b c=true->f a c=true
 IP:∀ a b,a < n->b < n->f a b=true->f b a=true->a=b
 jn:∀ a b,a < n->b < n->∃ k,fO f n a b=some k
 mt:∀ a b,a < n->b < n->∃ k,jR f n a b=some k
theorem nD {f:Nat->Nat->Bool} {n a b k:Nat} (h:fO f n a b=some k):k < n/\f a k=true/\f b k=true/\∀ c,c < n->f a c=true->f b c=true->f k c=true:=by
 obtain ⟨h1,h2,h3⟩:=yr h
 grind
theorem qZ {f:Nat->Nat->Bool} {n a b k:Nat} (h:jR f n a b=some k):k < n/\f k a=true/\f k b=true/\∀ c,c < n->f c a=true->f c b=true->f c k=true:=by
 obtain ⟨h1,h2,h3⟩:=yr h
 grind
def iH (f:Nat->Nat->Bool) (l:List Nat) (c:Nat):Bool:=l.all fun i=>f i c
def C0 (f:Nat->Nat->Bool) (n:Nat) (l:List Nat) (c:Nat):Bool:=iH f l c && (List.range n).all fun d=>!iH f l d || f c d
def gh (f:Nat->Nat->Bool) (n:Nat) (l:List Nat):Option Nat:=bM (C0 f n l) n
theorem oR {f:Nat->Nat->Bool} {n:Nat} {l:List Nat} {c:Nat}:C0 f n l c=true↔iH f l c=true/\∀ d,d < n->iH f l d=true->f c d=true:=by grind [C0,iH]
theorem A6 {f:Nat->Nat->Bool} {n:Nat} (hL:dA f n) {l:List Nat} {c:Nat} (hc:c < n) (h:C0 f n l c=true):gh f n l=some c:=by
 refine bU hc h fun a ha=>?_;cases h2:C0 f n l a
 ·rfl
 ·obtain ⟨h3,h4⟩:=oR.1 h;obtain ⟨h5,h6⟩:=oR.1 h2;have:=hL.IP a c (by omega) hc (h6 c hc h3) (h4 a (by omega) h5);omega
theorem q5 {f:Nat->Nat->Bool} {n c:Nat} (hL:dA f n) (hc:c < n) (h:∀ d,d < n->f c d=true):gh f n []=some c:=
 A6 hL hc (oR.2 ⟨rfl,fun d hd _=>h d hd⟩)
theorem u7 {f:Nat->Nat->Bool} {n c k i:Nat} {l:List Nat} (hL:dA f n) (hl:∀ x∈l,x < n) (hi:i < n) (h:gh f n l=some c) (hk:fO f n c i=some k):gh f n (l ++ [i])=some k:=by
 obtain ⟨h1,h2,_⟩:=bV h;obtain ⟨h3,h4⟩:=oR.1 h2;obtain ⟨g1,g2,g3,g4⟩:=nD hk;simp only [iH,List.all_eq_true] at h3;refine A6 hL g1 (oR.2 ⟨?_,fun d hd ho=>?_⟩)
 ·simp only [iH,List.all_eq_true,List.mem_append,List.mem_singleton];rintro x (hx | rfl)
  ·exact hL.tr x c k (hl x hx) h1 g1 (h3 x hx) g2
  ·exact g3
 ·grind [iH]
theorem pJ {f:Nat->Nat->Bool} {n c:Nat} {l:List Nat} (h:gh f n l=some c):c < n:=(bV h).1
abbrev WA (L:List DV) (n b e:Nat):St:=
 ⟨[eX 0 L,au 3 b,au 9 n,au 10 e],[],[]⟩
theorem se (af:List ByteArray) (tc:List DV) (rows:List Nat) (js:List Int) {f:Nat->Nat->Bool} (hL:dA f af.length) (hn:af.length<=32) (hj:∀ x y,x < af.length->y < af.length->JM f af.length js x y) :
  EvP prog 70 [.pt (iW af tc rows js) 0] (.v (.int .i64 (oz (gh f af.length [])))):=by
 have hlen:=tZ af tc rows js;have jk:=hL.pos;refine eG 19 [.tmp 2] func70 rfl ntmps70 rfl fun _ _ _ _=>?_;refine cP H9 hlen ?_;refine br ?_ ?_<;>intro g
 ·exfalso;simp at g;simp [g] at jk
 refine cP H9 hlen ?_;refine lI (fun j st=>∃ e b:Nat,st=WA (iW af tc rows js) af.length b e/\e<=af.length/\b < af.length/\(∀ x,x < e->f b x=true)/\j=af.length - e) ⟨0,0,rfl,by omega,by omega,fun _ h=>by omega,rfl⟩ (bz wB) ?_;rintro j st ⟨e,b,rfl,he,hb,fb,rfl⟩;refine br ?_ ?_<;>intro hL'
 ·have aq:e < af.length:=by have:=hL';simp at this;exact this
  obtain ⟨k,hk⟩:=hL.mt b e hb aq;obtain ⟨g1,g2,g3,g4⟩:=qZ hk;have hz:=(hj b e hb aq).2;rw [hk] at hz;refine cP abk (IM af tc rows js b e k hb aq hn hz) ?_;refine ⟨WA (iW af tc rows js) af.length k (e + 1),(bz (cJ (aG aq (by omega)))),af.length - (e + 1),by omega,e + 1,k,rfl,by omega,g1,fun x hx=>?_,rfl⟩;rcases jJ hx with hx | rfl
  ·exact hL.tr k b x g1 hb (by omega) g2 (fb x hx)
  ·exact g3
 ·have hge:e=af.length:=by have:=hL';simp at this;omega
  subst hge;rw [q5 hL hb fb];exact (rfl:_=_)
def labW (L:List ByteArray):List Wd->Ft
 | []=>(0,0)
 | w :: r=>if dy L w.s=none then (17,w.a) else labW L r
def nE (L:List ByteArray) (l:List Wd):List Nat:=l.map fun w=>(dy L w.s).getD 0
def Ad (f:Nat->Nat->Bool) (L:List ByteArray) (l:List Wd):Int:=if (labW L l).1=0 then oz (gh f L.length (nE L l)) else 0
def MZ (f:Nat->Nat->Bool) (L:List ByteArray) (l:List Wd):DV:=.tup [.v (.int .i64 (Ad f L l)),(labW L l).d]
theorem uc {L:List ByteArray} {l:List Wd} {e:Nat} {w:Wd} (h:l[e]? = some w):labW L (l.drop e)=if dy L w.s=none then (17,w.a) else labW L (l.drop (e + 1)):=by
 rw [drop_cons h,labW]
theorem ue {L:List ByteArray} {l:List Wd} {e i:Nat} {w:Wd} (h:l[e]? = some w) (hi:dy L w.s=some i):nE L (l.take (e + 1))=nE L (l.take e) ++ [i]:=by
 rw [List.take_add_one,h];simp [nE,hi]
abbrev WB (L:List DV) (l:List Wd) (b e:Nat):St:=
 ⟨[eX 0 L,aE 5 0,au 6 b,aM 16 2 (bT l),au 17 ((bT l).length),au 18 e],[[.v (.int .i64 0),.v (.int .i64 0)]],[]⟩
theorem QC (af:List ByteArray) (aJ rows:List Nat) (js:List Int) (hT:iU af aJ) (lx:aJ.length<=1099511627776) {f:Nat->Nat->Bool} (hL:dA f af.length) (hn:af.length<=32) (hj:∀ x y,x < af.length->y < af.length->JM f af.length js x y)
  (l:List Wd) (hs:wdsWt l<=1099511627776) :
  EvP prog 116 [.pt (iW af (dt af aJ) rows js) 0,.sl 2 (bT l) none] (MZ f af l):=by
 have ov:=bI l;have iq:=se af (dt af aJ) rows js hL hn hj
 have mO:∃ b,gh f af.length []=some b:=by
  have:∀ e,e<=af.length->∃ b,b < af.length/\∀ x,x < e->f b x=true:=by
   intro e
   induction e with
   | zero=>intro _;exact ⟨0,hL.pos,fun _ h=>by omega⟩
   | succ e ih=>
    intro he;obtain ⟨b,hb,fb⟩:=ih (by omega);obtain ⟨k,hk⟩:=hL.mt b e hb (by omega);obtain ⟨g1,g2,g3,_⟩:=qZ hk;refine ⟨k,g1,fun x hx=>?_⟩;rcases jJ hx with hx | rfl
    ·exact hL.tr k b x g1 hb (by omega) g2 (fb x hx)
    ·exact g3
  obtain ⟨b,hb,fb⟩:=this af.length (aV _);exact ⟨b,q5 hL hb fb⟩
 obtain ⟨b0,iv⟩:=mO;rw [iv] at iq;refine eG 41 [.tmp 4,.cell 5 44] func116 rfl ntmps116 rfl fun _ _ _ _=>?_;refine cP TC iq ?_;refine lI (fun j st=>∃ e b:Nat,st=WB (iW af (dt af aJ) rows js) l b e/\e<=l.length/\labW af l=labW af (l.drop e)/\gh f af.length (nE af (l.take e))=some b/\(∀ x∈nE af (l.take e),x < af.length)/\j=l.length - e) ⟨0,b0,rfl,by omega,rfl,iv,by simp [nE],rfl⟩ (bz wB) ?_;rintro j st ⟨e,b,rfl,he,aP,PG,Oo,rfl⟩;have hb:=pJ PG;refine br ?_ ?_<;>intro IQ
 ·have aq:e < l.length:=by simpa [aD] using IQ
  obtain ⟨w,hw⟩:=gX aq;have aW:=uc (L:=af) hw;have CY:=IL af aJ rows js w.s hT lx;refine ⟨kP w,⟨by omega,bd hw⟩,?_⟩
  cases hx:dy af w.s with
  | none=>
   rw [hx] at CY;refine cP V0 CY ?_;rw [ap hx] at aW;have h1:labW af l=(17,w.a):=aP.trans aW;refine dS ?_;refine ⟨_,?_,rfl⟩;rw [MZ,Ad,h1,aj (by simp)];exact ax
  | some i=>
   rw [hx] at CY;refine cP V0 CY ?_;rw [aj (by rw [hx];simp)] at aW;have hi:=(dG hx).1;obtain ⟨k,hk⟩:=hL.jn b i hb hi;have hz:=(hj b i hb hi).1;rw [hk] at hz;refine cP qu (yq af (dt af aJ) rows js b i k hb hi hn hz) ?_;refine ⟨WB (iW af (dt af aJ) rows js) l k (e + 1),(bz (cJ (aG aq (by omega)))),l.length - (e + 1),by omega,e + 1,k,rfl,by omega,aP.trans aW,?_,?_,rfl⟩
   ·rw [ue hw hx];exact u7 hL Oo hi PG hk
   ·rw [ue hw hx];intro x hm;rcases List.mem_append.1 hm with hm | hm
    ·exact Oo x hm
    ·rw [List.mem_singleton.1 hm];exact hi
 ·have hge:e=l.length:=by
   have:=IQ;simp [aD] at this;omega
  subst hge;rw [List.drop_length] at aP;rw [List.take_length] at PG;have h1:labW af l=(0,0):=aP;refine ⟨_,?_,rfl⟩;rw [MZ,Ad,h1,ap rfl,PG];exact ax
def IU (x:Ft × Int) (r:DV) (os:List (List DV)) (_:List TkE):Prop:=
 r=x.1.d/\∃ z:Int,os=[[.v (.int .i64 z)]]/\(x.1.1=0->z=x.2)
theorem nF {x:Ft × Int}:∀ r os tk,IU x r os tk->clB 0 0 r=true/\∀ s9∈os,clB.clL 0 0 s9=true:=by
 rintro r os tk ⟨rfl,z,rfl,_⟩;refine ⟨rfl,fun s9 h=>?_⟩;simp only [List.mem_singleton] at h;subst h;rfl
def QD (k:Nat):Prop:=∀ (t:Ty) (depth m:Int),t.wt<=k->t.wt<=1099511627776->0<=depth->depth<=25->0<=m->m<=512 ->
 Ev prog 199 [.loc 0 0,.agg (eK t),.v (.int .i64 depth)] [[.v (.int .i64 m)]] [] (IU (wrong t depth m))
def mr (p:Ph) (t:Ty) (un:Bool) (depth m:Int):Ft × Int:=
 if p.bare=true then (if un=false∨dF p t (qW p) c9=false then ((19,p.name.a),m) else ((0,0),m))
 else if (eE p).1≠0 then (eE p,m)
 else wrong t (depth + 1) m
theorem bH {x:Ft × Int} {f:Ft} {m z:Int} (h:x=(f,m)) (hz:f.1=0->z=m) {tk:List TkE}:IU x f.d [[.v (.int .i64 z)]] tk:=by
 subst h;exact ⟨rfl,z,rfl,hz⟩
theorem IV (k:Nat) (ih:QD k) (p:Ph) (t:Ty) (un:Bool) (depth m:Int) (hk:t.wt<=k) (hp:p.wt<=1099511627776) (cQ:t.wt<=1099511627776) (AK:0<=depth) (ta:depth<=24) (om:0<=m) (jY:m<=512) :
  Ev prog 305 [.loc 0 0,.agg (Ia p (eK t)),.v (.bool un),.v (.int .i64 depth)] [[.v (.int .i64 m)]] [] (IU (mr p t un depth m)):=by
 have xA:=hp;simp only [Ph.wt] at xA;have Ew:=oK p (qW p) t c9 hp (by simp only [Ph.wt,qW,wdsWt];omega) (xW t c9 cQ (by decide));have HB:=ih t (depth + 1) m hk cQ (by omega) (by omega) om jY;obtain ⟨u,us⟩:=t;have hcoa:=CI p (eK (.mk u us)) (.mk u us) rfl hp;have hS:=mr.eq_def p (.mk u us) un depth m;generalize mr p (.mk u us) un depth m=F at hS ⊢;obtain ⟨nm,bare,lab,wide,ck,cn,ca,cl⟩:=p;simp only at hS xA Ew
 cases bare with
 | true=>
  rw [ap rfl] at hS
  cases un with
  | true=>
   refine eG 68 [.cell 8 44] func305 rfl ntmps305 rfl fun _ _ _ _=>?_;refine cP Py Ew ?_;refine br ?_ ?_<;>intro q
   ·have q:dF ⟨nm,true,lab,wide,ck,cn,ca,cl⟩ (.mk u us) (qW ⟨nm,true,lab,wide,ck,cn,ca,cl⟩) c9=false:=by simpa [show (lastG (21,false) [(18,true)]).snd=true from rfl,pickB] using q
    rw [ap (.inr q)] at hS;refine cP eQ (bJ 19 nm.a) ?_;exact ⟨_,_,ax,ax,bH (tk:=[]) (f:=(19,nm.a)) hS (fun _=>rfl)⟩
   ·have q:dF ⟨nm,true,lab,wide,ck,cn,ca,cl⟩ (.mk u us) (qW ⟨nm,true,lab,wide,ck,cn,ca,cl⟩) c9=true:=by simpa [show (lastG (21,false) [(18,true)]).snd=true from rfl,pickB] using q
    rw [aj (by simp [q])] at hS;exact ⟨_,_,ax,ax,bH (tk:=[]) (f:=(0,0)) hS (fun _=>rfl)⟩
  | false=>
   refine eG 68 [.cell 8 44] func305 rfl ntmps305 rfl fun _ _ _ _=>?_;rw [ap (.inl rfl)] at hS;refine cP eQ (bJ 19 nm.a) ?_;exact ⟨_,_,ax,ax,bH (tk:=[]) (f:=(19,nm.a)) hS (fun _=>rfl)⟩
 | false=>
  rw [aj (by simp)] at hS;refine eG 68 [.cell 8 44] func305 rfl ntmps305 rfl fun _ _ _ _=>?_;refine br ?_ ?_<;>intro hw
  ·have hw:wide < 0∨64 < wide:=by simpa [aw] using hw
   have hP:eE ⟨nm,false,lab,wide,ck,cn,ca,cl⟩=(20,nm.a):=by simp only [eE,ap hw]
   rw [hP,ap (by simp)] at hS;refine cP eQ (bJ 20 nm.a) ?_;exact ⟨_,_,ax,ax,bH (tk:=[]) (f:=(20,nm.a)) hS (fun _=>rfl)⟩
  have hw:¬ (wide < 0∨64 < wide):=by simp [aw] at hw;omega
  refine cP EV (jO lab (by omega)) ?_;refine br ?_ ?_<;>intro hb
  ·have hb:(b9 lab).1≠0:=sU hb;have hP:eE ⟨nm,false,lab,wide,ck,cn,ca,cl⟩=b9 lab:=by simp only [eE,aj hw,ap hb]
   rw [hP,ap hb] at hS;exact ⟨_,_,ax,ax,bH (tk:=[]) (f:=b9 lab) hS (fun _=>rfl)⟩
  have hb:(b9 lab).1=0:=sU hb;have hP:eE ⟨nm,false,lab,wide,ck,cn,ca,cl⟩=bo ⟨nm,false,lab,wide,ck,cn,ca,cl⟩:=by simp only [eE,aj hw];rw [aj (by simp [hb])]
  rw [hP] at hS;refine cP ab5 hcoa ?_;refine br ?_ ?_<;>intro hc
  ·have hc:(bo ⟨nm,false,lab,wide,ck,cn,ca,cl⟩).1≠0:=sU hc;rw [ap hc] at hS;exact ⟨_,_,ax,ax,bH (tk:=[]) (f:=bo ⟨nm,false,lab,wide,ck,cn,ca,cl⟩) hS (fun _=>rfl)⟩
  have hc:(bo ⟨nm,false,lab,wide,ck,cn,ca,cl⟩).1=0:=sU hc;rw [aj (by simp [hc])] at hS;refine nk Pq rfl rfl ax (by repeat' (first | exact rfl | exact trivial | exact Or.inr (Or.inl ⟨_,rfl⟩) | exact Or.inr ⟨_,rfl⟩ | exact Or.inl ⟨rfl,rfl⟩ | exact Or.inl rfl | refine Or.inr ⟨_,_,rfl,Nat.zero_le _,rfl,?_⟩ | refine ⟨_,_,rfl,?_,?_⟩ | refine ⟨_,rfl,?_⟩ | exact congrArg (fun z=>DV.v (.int .i64 z)) (wrap64 (by omega) (by omega)) | refine Or.inr (Or.inr (Or.inr ⟨_,_,rfl,?_⟩)) | exact Or.inl rfl | refine Or.inr ?_)) HB nF (fun r s9 hr=>?_);obtain ⟨rfl,z,hz,tC⟩:=hr;simp only [List.cons.injEq,and_true] at hz;subst hz;exact ⟨_,_,ax,ax,bH (tk:=[]) (f:=(wrong (.mk u us) (depth + 1) m).1) hS tC⟩
theorem Ae {ag:Int} {all:List Wd} {i:Nat} {p:Ph} {t:Ty} {r:Pts} {depth m:Int} (hk:ag=7∨ag=8) (hl:aK all i p.name=0) :
  wrongPts ag all i (.cons p t r) depth m=if (mr p t (decide (ag=8)) depth m).1.1≠0 then mr p t (decide (ag=8)) depth m else wrongPts ag all (i + 1) r depth (mr p t (decide (ag=8)) depth m).2:=by
 simp only [wrongPts];rw [aj (by simp [hl])];unfold mr;by_cases hb:p.bare=true
 ·grind [TX,sameTy,c9,cO,jZ]
 ·grind
theorem QE {p:Ph} {t:Ty} {un:Bool} {depth m:Int} (om:0<=m) (jY:m<=512) (h:(mr p t un depth m).1.1=0):(mr p t un depth m).1=(0,0)/\0<=(mr p t un depth m).2/\(mr p t un depth m).2<=512:=by grind [rT,mr,eE]
abbrev FI (h:Hd) (ps:Pts) (n e:Nat) (depth m:Int):St:=
 ⟨[aE 0 0,au 2 depth,aE 4 1,aE 6 2,aM 38 18 (gG ps),au 39 ((gG ps).length),au 40 e,(7,⟨[],.sl 1 (fF (az ((pNames ps).take e))) (some 0)⟩)],
  [[.v (.int .i64 m)],eK (.mk h ps),[.v (.int .i64 0),.v (.int .i64 0)]],[⟨n,9,1,none⟩]⟩
theorem u9 (k:Nat) (ih:QD k) (h:Hd) (ps:Pts) (depth m:Int) (Ou:h.ag=7∨h.ag=8) (hk:ps.wt<=k) (cQ:(Ty.mk h ps).wt<=1099511627776) (AK:0<=depth) (ta:depth<=24) (om:0<=m) (jY:m<=512) :
  Ev prog 256 [.loc 0 0,.agg (eK (.mk h ps)),.v (.int .i64 depth)] [[.v (.int .i64 m)]] [] (IU (fK h ps depth m)):=by
 simp only [Ty.wt,Hd.wt] at cQ;have gP:=ps.gF;have fI:=gZ ps;have Yh:=tN ps;have hS:=fK.eq_def h ps depth m;generalize fK h ps depth m=F at hS ⊢;refine eG 72 [.cell 6 44] func256 rfl ntmps256 rfl fun _ _ _ _=>?_;refine br ?_ ?_<;>intro c1
 ·have c1:h.ag=8/\ps.len=0:=by grind [av,aN]
  rw [ap c1] at hS;refine cP eQ (bJ 15 h.aO) ?_;exact ⟨_,_,ax,ax,bH (tk:=[]) (f:=(15,h.aO)) hS (fun _=>rfl)⟩
 have c1:¬ (h.ag=8/\ps.len=0):=by
  simp [av,aN] at c1;omega
 rw [aj c1] at hS;refine br ?_ ?_<;>intro c2
 ·have aq:64 < ps.len:=by simp [aN] at c2;omega
  obtain ⟨p,t,hx⟩:=Pts.fl aq;refine iX (cq hx) ?_;refine cP eQ (bJ 8 p.name.a) ?_;rw [ap aq,hY hx] at hS;exact ⟨_,_,ax,ax,bH (tk:=[]) (f:=(8,p.name.a)) hS (fun _=>rfl)⟩
 have c2:¬ 64 < ps.len:=by simp [aN] at c2;omega
 rw [aj c2] at hS
 refine aY (fun j st=>∃ (e:Nat) (m':Int),st=FI h ps e e depth m' /\ e<=ps.len/\0<=m' /\ m' <= 512/\(az ((pNames ps).take e)).Nodup /\
   F=wrongPts h.ag (pNames ps) e (ps.drop e) depth m' /\ j=ps.len - e) ps.len (FI h ps 0 0 depth m) (eP ⟨0,9,1,none⟩ rfl ⟨_,rfl⟩ rfl wA rfl rfl lj) ⟨0,m,rfl,by omega,om,jY,by simp [az],hS,by omega⟩ ?_
 rintro j st ⟨e,m',rfl,he,CH,Ff,hnd,aP,rfl⟩;refine br ?_ ?_<;>intro hL
 ·have aq:e < ps.len:=by simpa [aN] using hL
  obtain ⟨p,t,hx⟩:=Pts.fl aq;have HD:=Pts.gY (mG hx);have iP:=hY hx;have hpw:p.name.s.size + 64<=p.wt:=by simp only [Ph.wt,Wd.wt];omega
  rw [Pts.drop_cons hx] at aP;have PV:(az ((pNames ps).take (e + 1)))[(az ((pNames ps).take (e + 1))).length - 1]? = some p.name.s:=by grind [az,pNames]
  have Xz:=u2 (az ((pNames ps).take (e + 1))) p.name.s p.name.a PV (by simp [az];omega) (by omega);have dx:=ku iP;rw [A1 p.name.a iP hnd,<- dx] at Xz;have FJ:=IV k ih p t (decide (h.ag=8)) depth m' (by omega) (by omega) (by omega) AK ta CH Ff;obtain ⟨u,us⟩:=t;refine iX (cq hx) ?_;refine ⟨by simp [cG,az];omega,⟨by simp [cG,az,maxLen];omega,by simp [cG,az];omega⟩,?_⟩;refine cP Wh Xz ?_;by_cases hl:aK (pNames ps) e p.name≠0
  ·rw [ap hl];refine br ?_ ?_<;>intro hf
   ·simp only [wrongPts] at aP;rw [ap hl] at aP;exact ⟨_,_,ax,ax,bH (tk:=[]) (f:=(aK (pNames ps) e p.name,p.name.a)) aP (fun _=>rfl)⟩
   ·exact absurd (sU hf) hl
  have hl:aK (pNames ps) e p.name=0:=sU hl;have hndn:=nC iP hnd hl;rw [aj (by simp [hl])];rw [Ae Ou hl] at aP;have aZ:=QE (p:=p) (t:=.mk u us) (un:=decide (h.ag=8)) (depth:=depth) CH Ff;generalize mr p (.mk u us) (decide (h.ag=8)) depth m'=r at FJ aP aZ;obtain ⟨⟨fe,fa⟩,many⟩:=r;simp only at aP aZ;refine nk ab0 rfl rfl ax ax FJ nF (fun r s9 hr=>?_);obtain ⟨rfl,z,hz,tC⟩:=hr;simp only [List.cons.injEq,and_true] at hz;subst hz;refine br ?_ ?_<;>intro hd
  ·have hd:fe≠0:=sU hd;rw [ap hd] at aP;exact ⟨_,_,ax,ax,bH (tk:=[]) (f:=(fe,fa)) aP (fun h0=>absurd h0 hd)⟩
  ·have hd:fe=0:=sU hd;subst hd;obtain ⟨_,h2,h3⟩:=aZ rfl;rw [aj (by simp)] at aP;have QF:z=many:=tC rfl;subst QF;exact rE ⟨_,by omega,e + 1,z,rfl,by omega,h2,h3,hndn,aP,rfl⟩ (bz (wB2 (aG aq (by omega)) dx))
 ·have hge:e=ps.len:=by simp [aN] at hL;omega
  rw [hge,Pts.dR] at aP;simp only [wrongPts] at aP;exact ⟨_,_,ax,ax,bH (tk:=[]) (f:=(0,0)) aP (fun _=>rfl)⟩
theorem A7 (k:Nat) (ih:QD k) (h:Hd) (ps:Pts) (depth m:Int) (hk:ps.wt<=k) (cQ:(Ty.mk h ps).wt<=1099511627776) (AK:0<=depth) (ta:depth<=24) (om:0<=m) (jY:m<=512) :
  Ev prog 255 [.loc 0 0,.agg (eK (.mk h ps)),.v (.int .i64 depth)] [[.v (.int .i64 m)]] [] (IU (wrongOne h ps depth m)):=by
 simp only [Ty.wt,Hd.wt] at cQ
 cases ps with
 | nil=>
  have hS:wrongOne h .nil depth m=((19,h.aO),m):=by simp only [wrongOne]
  generalize wrongOne h .nil depth m=F at hS ⊢;refine eG 44 [.cell 6 44] func255 rfl ntmps255 rfl fun _ _ _ _=>?_;refine cP eQ (bJ 19 h.aO) ?_;exact ⟨_,_,ax,ax,bH (tk:=[]) (f:=(19,h.aO)) hS (fun _=>rfl)⟩
 | cons p t r=>
  cases r with
  | cons p2 t2 r2=>
   have hS:wrongOne h (.cons p t (.cons p2 t2 r2)) depth m=((19,h.aO),m):=by simp only [wrongOne]
   generalize wrongOne h (.cons p t (.cons p2 t2 r2)) depth m=F at hS ⊢;refine eG 44 [.cell 6 44] func255 rfl ntmps255 rfl fun _ _ _ _=>?_;refine cP eQ (bJ 19 h.aO) ?_;exact ⟨_,_,ax,ax,bH (tk:=[]) (f:=(19,h.aO)) hS (fun _=>rfl)⟩
  | nil=>
   simp only [Pts.wt] at cQ hk;have hS:wrongOne h (.cons p t .nil) depth m=if p.name.s≠ay∨cO p fJ=false then ((19,h.aO),m) else if h.most < 0∨1024 < h.most then ((20,h.aO),m) else wrong t (depth + 1) m:=by simp only [wrongOne]
   generalize wrongOne h (.cons p t .nil) depth m=F at hS ⊢;have SR:=Fi p t (by omega);rw [empty_eq] at SR;have HB:=ih t (depth + 1) m (by omega) (by omega) (by omega) (by omega) om jY;obtain ⟨u,us⟩:=t;refine eG 44 [.cell 6 44] func255 rfl ntmps255 rfl fun _ _ _ _=>?_;refine ⟨_,⟨by omega,rfl⟩,?_⟩;refine cP abZ SR ?_;refine br ?_ ?_<;>intro q
   ·have q:p.name.s≠ay∨cO p fJ=false:=by
     have:=q;simp [pickB] at this;exact this
    rw [ap q] at hS;refine cP eQ (bJ 19 h.aO) ?_;exact ⟨_,_,ax,ax,bH (tk:=[]) (f:=(19,h.aO)) hS (fun _=>rfl)⟩
   have q:¬ (p.name.s≠ay∨cO p fJ=false):=by grind [pickB]
   rw [aj q] at hS;refine br ?_ ?_<;>intro x
   ·have x:h.most < 0∨1024 < h.most:=by simpa [aw] using x
    rw [ap x] at hS;refine cP eQ (bJ 20 h.aO) ?_;exact ⟨_,_,ax,ax,bH (tk:=[]) (f:=(20,h.aO)) hS (fun _=>rfl)⟩
   have x:¬ (h.most < 0∨1024 < h.most):=by simp [aw] at x;omega
   rw [aj x] at hS;refine ⟨_,⟨by omega,rfl⟩,?_⟩;refine nk Pq rfl rfl ax (by repeat' (first | exact rfl | exact trivial | exact Or.inr (Or.inl ⟨_,rfl⟩) | exact Or.inr ⟨_,rfl⟩ | exact Or.inl ⟨rfl,rfl⟩ | exact Or.inl rfl | refine Or.inr ⟨_,_,rfl,Nat.zero_le _,rfl,?_⟩ | refine ⟨_,_,rfl,?_,?_⟩ | refine ⟨_,rfl,?_⟩ | exact congrArg (fun z=>DV.v (.int .i64 z)) (wrap64 (by omega) (by omega)) | refine Or.inr (Or.inr (Or.inr ⟨_,_,rfl,?_⟩)) | exact Or.inl rfl | refine Or.inr ?_)) HB nF (fun r s9 hr=>?_);obtain ⟨rfl,z,hz,tC⟩:=hr;simp only [List.cons.injEq,and_true] at hz;subst hz;exact ⟨_,_,ax,ax,bH (tk:=[]) (f:=(wrong (.mk u us) (depth + 1) m).1) hS tC⟩
theorem FK (k:Nat) (ih:QD k) (h:Hd) (ps:Pts) (depth m:Int) (hk:ps.wt<=k) (cQ:(Ty.mk h ps).wt<=1099511627776) (AK:0<=depth) (ta:depth<=25) (om:0<=m) (jY:m<=512) :
  Ev prog 199 [.loc 0 0,.agg (eK (.mk h ps)),.v (.int .i64 depth)] [[.v (.int .i64 m)]] [] (IU (wrong (.mk h ps) depth m)):=by
 have A8:=cQ;simp only [Ty.wt,Hd.wt] at A8;have te:IntKind.i64.wrap (m + 1)=m + 1:=wrap64 (by omega) (by omega);have hS:=wrong.eq_def (.mk h ps) depth m;simp only at hS;generalize wrong (.mk h ps) depth m=F at hS ⊢;have dJ:=ME h ps;rw [KW] at dJ;refine eG 103 [.cell 6 44] func199 rfl ntmps199 rfl fun _ _ _ _=>?_;refine br ?_ ?_<;>intro c
 ·have c:24 < depth:=of_decide_eq_true c;rw [ap c] at hS;refine cP eQ (bJ 6 h.aO) ?_;exact ⟨_,[[.v (.int .i64 (m + 1))]],ax,(mc te),bH (tk:=[]) (f:=(6,h.aO)) hS (fun _=>rfl)⟩
 have c:¬ 24 < depth:=of_decide_eq_false c;rw [aj c] at hS;refine br ?_ ?_<;>intro c
 ·have c:512 < IntKind.i64.wrap (m + 1):=of_decide_eq_true c;rw [te] at c;rw [ap c] at hS;refine cP eQ (bJ 8 h.aO) ?_;exact ⟨_,[[.v (.int .i64 (m + 1))]],ax,(mc te),bH (tk:=[]) (f:=(8,h.aO)) hS (fun _=>rfl)⟩
 have c:¬ 512 < IntKind.i64.wrap (m + 1):=of_decide_eq_false c;rw [te] at c;rw [aj c] at hS;refine br ?_ ?_<;>intro c
 ·have c:h.ag < 1∨9 < h.ag:=by simpa [aw] using c
  rw [ap c] at hS;refine cP eQ (bJ 14 h.aO) ?_;exact ⟨_,[[.v (.int .i64 (m + 1))]],ax,(mc te),bH (tk:=[]) (f:=(14,h.aO)) hS (fun _=>rfl)⟩
 have ck:¬ (h.ag < 1∨9 < h.ag):=by simp [aw] at c;omega
 rw [aj ck] at hS;refine cP abO dJ ?_;refine br ?_ ?_<;>intro c
 ·have c:xS (.mk h ps)=false:=by simpa [xS] using c
  rw [ap c] at hS;refine cP eQ (bJ 19 h.aO) ?_;exact ⟨_,[[.v (.int .i64 (m + 1))]],ax,(mc te),bH (tk:=[]) (f:=(19,h.aO)) hS (fun _=>rfl)⟩
 have c:¬ xS (.mk h ps)=false:=by simpa [xS] using c
 rw [aj c] at hS;refine br ?_ ?_<;>intro k2
 ·have k2:h.ag=2:=of_decide_eq_true k2;refine br ?_ ?_<;>intro x
  ·have x:h.hi < h.lo:=of_decide_eq_true x;rw [ap (.inl ⟨k2,x⟩)] at hS;refine cP eQ (bJ 20 h.aO) ?_;exact ⟨_,[[.v (.int .i64 (m + 1))]],ax,(mc te),bH (tk:=[]) (f:=(20,h.aO)) hS (fun _=>rfl)⟩
  have x:¬ h.hi < h.lo:=of_decide_eq_false x;rw [aj (by omega),aj (by omega),aj (by omega),aj (by omega),aj (by omega)] at hS;exact ⟨_,[[.v (.int .i64 (m + 1))]],ax,(mc te),bH (tk:=[]) (f:=(0,0)) hS (fun _=>rfl)⟩
 have k2:¬ h.ag=2:=of_decide_eq_false k2;refine br ?_ ?_<;>intro k3
 ·have k3:h.ag=3:=of_decide_eq_true k3;refine br ?_ ?_<;>intro x
  ·have x:h.most < 0∨4096 < h.most:=by simpa [aw] using x
   rw [ap (.inr ⟨k3,x⟩)] at hS;refine cP eQ (bJ 20 h.aO) ?_;exact ⟨_,[[.v (.int .i64 (m + 1))]],ax,(mc te),bH (tk:=[]) (f:=(20,h.aO)) hS (fun _=>rfl)⟩
  have x:¬ (h.most < 0∨4096 < h.most):=by simp [aw] at x;omega
  rw [aj (by omega),aj (by omega),aj (by omega),aj (by omega),aj (by omega)] at hS;exact ⟨_,[[.v (.int .i64 (m + 1))]],ax,(mc te),bH (tk:=[]) (f:=(0,0)) hS (fun _=>rfl)⟩
 have k3:¬ h.ag=3:=of_decide_eq_false k3;rw [aj (by omega)] at hS;refine br ?_ ?_<;>intro k4
 ·have k4:h.ag=4:=of_decide_eq_true k4;rw [aj (by omega),ap k4,<- Qu] at hS;refine cP abP (Io h ps (by omega)) ?_;exact ⟨_,[[.v (.int .i64 (m + 1))]],ax,(mc te),bH (tk:=[]) (f:=oL h) hS (fun _=>rfl)⟩
 have k4:¬ h.ag=4:=of_decide_eq_false k4;refine br ?_ ?_<;>intro k5
 ·have k5':h.ag=5∨h.ag=6:=.inl (of_decide_eq_true k5);rw [aj (by omega),aj (by omega),ap k5'] at hS;refine br (fun _=>?_) (fun hc=>by rw [k5] at hc;cases hc);refine nk V9 rfl rfl (cs':=[.v (.int .i64 (m + 1))]) (mc te) ax (A7 k ih h ps depth (m + 1) hk cQ AK (by omega) (by omega) (by omega)) nF (fun r s9 hr=>?_);obtain ⟨rfl,z,hz,tC⟩:=hr;simp only [List.cons.injEq,and_true] at hz;subst hz;exact ⟨_,_,ax,ax,bH (tk:=[]) (f:=(wrongOne h ps depth (m + 1)).1) hS tC⟩
 have k5:¬ h.ag=5:=of_decide_eq_false k5;refine br ?_ ?_<;>intro k6
 ·have k5':h.ag=5∨h.ag=6:=.inr (of_decide_eq_true k6);rw [aj (by omega),aj (by omega),ap k5'] at hS;refine nk V9 rfl rfl (cs':=[.v (.int .i64 (m + 1))]) (mc te) ax (A7 k ih h ps depth (m + 1) hk cQ AK (by omega) (by omega) (by omega)) nF (fun r s9 hr=>?_);obtain ⟨rfl,z,hz,tC⟩:=hr;simp only [List.cons.injEq,and_true] at hz;subst hz;exact ⟨_,_,ax,ax,bH (tk:=[]) (f:=(wrongOne h ps depth (m + 1)).1) hS tC⟩
 have k6:¬ h.ag=6:=of_decide_eq_false k6;have hP:fK h ps depth (m + 1)=fK h ps depth (m + 1):=rfl
 conv at hP=>lhs;unfold fK
 refine br ?_ ?_<;>intro k7
 ·have k7':h.ag=7∨h.ag=8:=.inl (of_decide_eq_true k7);rw [aj (by omega),aj (by omega),aj (by omega),ap k7',hP] at hS;refine br (fun _=>?_) (fun hc=>by rw [k7] at hc;cases hc);refine nk Wa rfl rfl (cs':=[.v (.int .i64 (m + 1))]) (mc te) ax (u9 k ih h ps depth (m + 1) k7' hk cQ AK (by omega) (by omega) (by omega)) nF (fun r s9 hr=>?_);obtain ⟨rfl,z,hz,tC⟩:=hr;simp only [List.cons.injEq,and_true] at hz;subst hz;exact ⟨_,_,ax,ax,bH (tk:=[]) (f:=(fK h ps depth (m + 1)).1) hS tC⟩
 have k7:¬ h.ag=7:=of_decide_eq_false k7;refine br ?_ ?_<;>intro k8
 ·have k7':h.ag=7∨h.ag=8:=.inr (of_decide_eq_true k8);rw [aj (by omega),aj (by omega),aj (by omega),ap k7',hP] at hS;refine nk Wa rfl rfl (cs':=[.v (.int .i64 (m + 1))]) (mc te) ax (u9 k ih h ps depth (m + 1) k7' hk cQ AK (by omega) (by omega) (by omega)) nF (fun r s9 hr=>?_);obtain ⟨rfl,z,hz,tC⟩:=hr;simp only [List.cons.injEq,and_true] at hz;subst hz;exact ⟨_,_,ax,ax,bH (tk:=[]) (f:=(fK h ps depth (m + 1)).1) hS tC⟩
 have k8:¬ h.ag=8:=of_decide_eq_false k8;refine br ?_ ?_<;>intro k9
 ·have k9:h.ag=9:=of_decide_eq_true k9;refine cP xH (jr h.name.s (by simp only [Wd.wt] at A8;omega)) ?_;refine br ?_ ?_<;>intro q
  ·have q:bE h.name.s=false:=sU q;rw [ap ⟨k9,q⟩] at hS;refine cP eQ (bJ 9 h.name.a) ?_;exact ⟨_,[[.v (.int .i64 (m + 1))]],ax,(mc te),bH (tk:=[]) (f:=(9,h.name.a)) hS (fun _=>rfl)⟩
  ·have q:bE h.name.s=true:=sU q;rw [aj (by simp [q]),aj (by omega),aj (by omega),aj (by omega)] at hS;exact ⟨_,[[.v (.int .i64 (m + 1))]],ax,(mc te),bH (tk:=[]) (f:=(0,0)) hS (fun _=>rfl)⟩
 have k9:¬ h.ag=9:=of_decide_eq_false k9;rw [aj (by omega),aj (by omega),aj (by omega),aj (by omega)] at hS;exact ⟨_,[[.v (.int .i64 (m + 1))]],ax,(mc te),bH (tk:=[]) (f:=(0,0)) hS (fun _=>rfl)⟩
theorem FL:∀ k,QD k
 | 0=>fun t depth m hk=>by have:=t.fk;omega
 | k + 1=>fun t depth m hk cQ AK ta om jY=>by
  obtain ⟨h,ps⟩:=t;have fH:=hk;simp only [Ty.wt,Hd.wt] at fH;exact FK k (FL k) h ps depth m (by omega) cQ AK ta om jY
theorem FM (t:Ty) (cQ:t.wt<=1099511627776):EvP prog 113 [.agg (eK t)] (wrong t 1 0).1.d:=
 MF t (FL t.wt t 1 0 (aV _) cQ (by omega) (by omega) (by omega) (by omega))
abbrev QG (t:Ty) (ps:Pts) (e n:Nat):St:=
 ⟨[aE 1 0,au 3 n,aM 7 18 (gG ps),au 8 ((gG ps).length),au 9 e],[eK t],[]⟩
theorem yt:∀ (k:Nat) (t:Ty),t.wt<=k->t.wt<=1099511627776 ->
  EvP prog 114 [.agg (eK t)] (.v (.int .i64 t.cnt))
 | 0,t,hn,_=>by have:=t.fk;omega
 | k + 1,.mk h ps,hn,cQ=>by
  simp only [Ty.wt,Hd.wt] at hn cQ;have gP:=ps.gF;have hc:=ps.fm;refine eG 23 [.tmp 2] func114 rfl ntmps114 rfl fun _ _ _ _=>?_
  refine aY (fun j st=>∃ (e n:Nat),st=QG (.mk h ps) ps e n/\e<=ps.len/\n + (ps.drop e).cnt=1 + ps.cnt/\j=ps.len - e) ps.len
   (QG (.mk h ps) ps 0 1) (bz wB) ⟨0,1,rfl,by omega,rfl,by omega⟩ ?_
  rintro j st ⟨e,n,rfl,he,bA,rfl⟩;refine br ?_ ?_<;>intro hL
  ·have aq:e < ps.len:=by simpa [aN] using hL
   obtain ⟨p,t,hx⟩:=Pts.fl aq;have HD:=Pts.gY (mG hx);rw [Pts.drop_cons hx] at bA;simp only [Pts.cnt] at bA;have Oq:=t.fm;obtain ⟨u,us⟩:=t;refine iX (cq hx) ?_;refine br ?_ ?_<;>intro hB
   ·have hB:p.bare=false:=sU hB;rw [hB] at bA;have bA:n + ((Ty.mk u us).cnt + (ps.drop (e + 1)).cnt)=1 + ps.cnt:=bA;refine cP VK (yt k (.mk u us) (by omega) (by omega)) ?_;have zQ:IntKind.i64.wrap ((n:Int) + (Ty.mk u us).cnt)=((n + (Ty.mk u us).cnt:Nat):Int):=by rw [wrap64 (by omega) (by omega)];omega
    exact ⟨QG (.mk h ps) ps (e + 1) (n + (Ty.mk u us).cnt),(bz (wB2 zQ (aG aq (by omega)))),ps.len - (e + 1),by omega,e + 1,_,rfl,by omega,by omega,rfl⟩
   ·have hB:p.bare=true:=sU hB;rw [hB] at bA;have bA:n + (0 + (ps.drop (e + 1)).cnt)=1 + ps.cnt:=bA;exact rE ⟨_,by omega,e + 1,n,rfl,by omega,by omega,rfl⟩ (bz (cJ (aG aq (by omega))))
  ·have hge:e=ps.len:=by simp [aN] at hL;omega
   rw [hge,Pts.dR] at bA;simp only [Pts.cnt] at bA;have e2:(n:Int)=((Ty.mk h ps).cnt:Int):=by simp only [Ty.cnt];omega
   refine (qM ?_:);exact e2
mutual
def Ty.nn:Ty->Nat
 | .mk h ps=>if h.ag=9 then 0 else 1 + ps.nn
def Pts.nn:Pts->Nat
 | .nil=>0
 | .cons p t r=>(if p.bare then 0 else t.nn) + r.nn
end
mutual
theorem Ty.ib:∀ t:Ty,t.nn<=t.cnt
 | .mk h ps=>by
  have:=Pts.ib ps;simp only [Ty.nn,Ty.cnt];split<;>omega
theorem Pts.ib:∀ ps:Pts,ps.nn<=ps.cnt
 | .nil=>aV _
 | .cons p t r=>by
  have:=Ty.ib t;have:=Pts.ib r;simp only [Pts.nn,Pts.cnt];split<;>omega
end
abbrev YK (t:Ty) (ps:Pts) (e n:Nat):St:=
 ⟨[aE 1 0,au 3 n,aM 10 18 (gG ps),au 11 ((gG ps).length),au 12 e],[eK t],[]⟩
theorem yu:∀ (k:Nat) (t:Ty),t.wt<=k->t.wt<=1099511627776 ->
  EvP prog 118 [.agg (eK t)] (.v (.int .i64 t.nn))
 | 0,t,hn,_=>by have:=t.fk;omega
 | k + 1,.mk h ps,hn,cQ=>by
  simp only [Ty.wt,Hd.wt] at hn cQ;have gP:=ps.gF;have hc:=ps.fm;have oe:=ps.ib;refine eG 26 [.tmp 2] func118 rfl ntmps118 rfl fun _ _ _ _=>?_;refine br ?_ ?_<;>intro h9
  ·have h9:h.ag=9:=sU h9;have:(Ty.mk h ps).nn=0:=by simp [Ty.nn,h9]
   rw [this];exact (rfl:_=_)
  have h9:¬ h.ag=9:=sU h9
  refine aY (fun j st=>∃ (e n:Nat),st=YK (.mk h ps) ps e n/\e<=ps.len/\n + (ps.drop e).nn=1 + ps.nn/\j=ps.len - e) ps.len
   (YK (.mk h ps) ps 0 1) (bz wB) ⟨0,1,rfl,by omega,rfl,by omega⟩ ?_
  rintro j st ⟨e,n,rfl,he,bA,rfl⟩;refine br ?_ ?_<;>intro hL
  ·have aq:e < ps.len:=by simpa [aN] using hL
   obtain ⟨p,t,hx⟩:=Pts.fl aq;have HD:=Pts.gY (mG hx);rw [Pts.drop_cons hx] at bA;simp only [Pts.nn] at bA;have Oq:=t.fm;have hct2:=t.ib;obtain ⟨u,us⟩:=t;refine iX (cq hx) ?_;refine br ?_ ?_<;>intro hB
   ·have hB:p.bare=false:=sU hB;rw [hB] at bA;have bA:n + ((Ty.mk u us).nn + (ps.drop (e + 1)).nn)=1 + ps.nn:=bA;refine cP VL (yu k (.mk u us) (by omega) (by omega)) ?_;have zQ:IntKind.i64.wrap ((n:Int) + (Ty.mk u us).nn)=((n + (Ty.mk u us).nn:Nat):Int):=by rw [wrap64 (by omega) (by omega)];omega
    exact ⟨YK (.mk h ps) ps (e + 1) (n + (Ty.mk u us).nn),(bz (wB2 zQ (aG aq (by omega)))),ps.len - (e + 1),by omega,e + 1,_,rfl,by omega,by omega,rfl⟩
   ·have hB:p.bare=true:=sU hB;rw [hB] at bA;have bA:n + (0 + (ps.drop (e + 1)).nn)=1 + ps.nn:=bA;exact rE ⟨_,by omega,e + 1,n,rfl,by omega,by omega,rfl⟩ (bz (cJ (aG aq (by omega))))
  ·have hge:e=ps.len:=by simp [aN] at hL;omega
   rw [hge,Pts.dR] at bA;simp only [Pts.nn] at bA;have e2:(n:Int)=((Ty.mk h ps).nn:Int):=by simp only [Ty.nn,aj h9];omega
   refine (qM ?_:);exact e2
structure Lx where
 af:List ByteArray
 aJ:List Nat
 rows:List Nat
 js:List Int
 f:Nat->Nat->Bool
def Lx.pd (X:Lx):DV:=.pt (iW X.af (dt X.af X.aJ) X.rows X.js) 0
def Lx.lev (X:Lx) (l:List Wd):Int:=Ad X.f X.af l
def Lx.bad (X:Lx) (l:List Wd):Ft:=labW X.af l
structure Lx.OK (X:Lx):Prop where
 hT:iU X.af X.aJ
 lx:X.aJ.length<=1099511627776
 hL:dA X.f X.af.length
 hn:X.af.length<=32
 hj:∀ x y,x < X.af.length->y < X.af.length->JM X.f X.af.length X.js x y
theorem Lx.sf {X:Lx} (h:X.OK) (l:List Wd) (hs:wdsWt l<=1099511627776):EvP prog 116 [X.pd,.sl 2 (bT l) none] (.tup [.v (.int .i64 (X.lev l)),(X.bad l).d]):=
 QC X.af X.aJ X.rows X.js h.hT h.lx h.hL h.hn h.hj l hs
def bC (s:Sch) (lat out:DV) (m:Int):List DV:=.sl 2 (bT s.ae) none :: .sl 4 (n9 s.order) none :: .sl 11 (dNms s.types) none :: (eK s.root ++ [lat,out,.v (.int .i64 m)])
theorem yv {X:Lx} (h:X.OK) (s:Sch) (pc:List DV) (m:Int) (l:List Wd) (hs:wdsWt l<=1099511627776) :
  EvP prog 204 [.pt (bC s X.pd (.pt pc 0) m) 0,.sl 2 (bT l) none] (.v (.int .i64 (X.lev l))):=by
 obtain ⟨ae,order,types,⟨rh,rp⟩⟩:=s;refine eG 17 [.tmp 4] func204 rfl ntmps204 rfl fun _ _ _ _=>?_;refine cP ET (Lx.sf h l hs) ?_;exact (rfl:_=_)
def vI (s:Sch):List Wd:=s.types.map fun x=>x.1
def tL (s:Sch):List ByteArray:=az (vI s)
theorem Li (s:Sch):(vI s).length=s.types.length:=by simp [vI]
theorem kW (s:Sch):(tL s).length=s.types.length:=by simp [tL,az,vI]
def pC (s:Sch) (aJ:List Nat) (a b c e:DV):List DV:=[a,b,c,.pt (dt (tL s) aJ) 0,e]
def vJ (s:Sch) (t:Ty):Bool:=decide (t.h.ag=9->dy (tL s) t.h.name.s≠none)
def endI (s:Sch):Nat->Nat->Option Nat
 | 0,_=>none
 | k + 1,i=>
  match s.types[i]? with
  | none=>none
  | some x=>if x.2.h.ag=9 then endI s k ((dy (tL s) x.2.h.name.s).getD 0) else some i
theorem sg {s:Sch}:∀ {k i j:Nat},endI s k i=some j->j < s.types.length/\∀ x,s.types[j]? = some x->x.2.h.ag≠9
 | 0,i,j,h=>by cases h
 | k + 1,i,j,h=>by
  rw [endI] at h
  cases hx:s.types[i]? with
  | none=>rw [hx] at h;cases h
  | some x=>
   rw [hx] at h;simp only at h;split at h
   ·exact sg h
   all_goals grind
abbrev WC (B:DV) (n i e:Nat):St:=
 ⟨[(0,⟨[],B⟩),au 1 i,au 12 n,au 13 e],[],[]⟩
theorem FN (s:Sch) (lat:DV) (aJ:List Nat) (a b c e0:DV) (m:Int) (hT:iU (tL s) aJ) (lx:aJ.length<=1099511627776) (hl:s.types.length<=64) (hr:∀ x∈s.types,vJ s x.2=true) (i:Nat) (hi:i < s.types.length) :
  EvP prog 117 [.pt (bC s lat (.pt (pC s aJ a b c e0) 0) m) 0,.v (.int .i64 i)] (.v (.int .i64 (oz (endI s (s.types.length + 1) i)))):=by
 have hZ:=kW s;obtain ⟨ae,order,types,⟨rh,rp⟩⟩:=s;simp only at hl hr hi hZ;have hN:=eA types;have YL:IntKind.i64.wrap ((((dNms types).length:Nat):Int) + 1)=((types.length + 1:Nat):Int):=by rw [hN,wrap64 (by omega) (by omega)];all_goals rfl
 refine eG 43 [.tmp 4] func117 rfl ntmps117 rfl fun _ _ _ _=>?_
 refine aY (fun j st=>∃ e q:Nat,st=WC (.pt (bC ⟨ae,order,types,.mk rh rp⟩ lat (.pt (pC ⟨ae,order,types,.mk rh rp⟩ aJ a b c e0) 0) m) 0) (types.length + 1) q e/\e<=types.length + 1/\q < types.length/\endI ⟨ae,order,types,.mk rh rp⟩ (types.length + 1) i=endI ⟨ae,order,types,.mk rh rp⟩ (types.length + 1 - e) q/\j=types.length + 1 - e) (types.length + 1)
  (WC (.pt (bC ⟨ae,order,types,.mk rh rp⟩ lat (.pt (pC ⟨ae,order,types,.mk rh rp⟩ aJ a b c e0) 0) m) 0) (types.length + 1) i 0) (bz (cJ YL)) ⟨0,i,rfl,by omega,hi,rfl,by omega⟩ ?_
 rintro j st ⟨e,q,rfl,he,hq,aP,rfl⟩;refine br ?_ ?_<;>intro hL
 ·have aq:e < types.length + 1:=by have:=hL;simp at this;omega
  obtain ⟨x,hx⟩:∃ x,types[q]? = some x:=⟨_,gE hq⟩;have qh:=hr x (mG hx);obtain ⟨xw,⟨xh,xp⟩⟩:=x
  have aW:endI ⟨ae,order,types,.mk rh rp⟩ (types.length + 1 - e) q=if xh.ag=9 then endI ⟨ae,order,types,.mk rh rp⟩ (types.length + 1 - (e + 1)) ((dy (tL ⟨ae,order,types,.mk rh rp⟩) xh.name.s).getD 0) else some q:=by
   rw [show types.length + 1 - e=(types.length + 1 - (e + 1)) + 1 by omega,endI];simp only [hx];rfl
  rw [aW] at aP;refine iX (dNms_get hx) ?_;refine br ?_ ?_<;>intro h9
  ·have h9:¬ xh.ag=9:=sU h9;rw [aj h9] at aP;rw [aP];exact (rfl:_=_)
  have h9:xh.ag=9:=sU h9;rw [ap h9] at aP
  have bA:dy (tL ⟨ae,order,types,.mk rh rp⟩) xh.name.s≠none:=by
   have:=of_decide_eq_true qh;exact this h9
  obtain ⟨k,hk⟩:=Option.ne_none_iff_exists'.1 bA;have gl:=(dG hk).1;rw [hk] at aP;have hf:=jz (tL ⟨ae,order,types,.mk rh rp⟩) aJ xh.name.s hT lx;rw [hk] at hf;refine dI ?_;refine cD oF hf ?_;exact rE ⟨_,by omega,e + 1,k,rfl,by omega,by omega,aP,rfl⟩ (bz (cJ (aG aq (by omega))))
 ·have hge:e=types.length + 1:=by have:=hL;simp at this;omega
  subst hge;rw [Nat.sub_self] at aP;rw [aP];exact (rfl:_=_)
def loopF (s:Sch):Ft:=
 match bM (fun i=>(endI s (s.types.length + 1) i).isNone) s.types.length with
 | none=>(0,0)
 | some i=>(11,YG (vI s) i)
abbrev C1 (B:DV) (s:Sch) (e:Nat):St:=
 ⟨[(0,⟨[],B⟩),aE 2 0,aM 9 11 (dNms s.types),au 10 ((dNms s.types).length),au 11 e],[[.v (.int .i64 0),.v (.int .i64 0)]],[]⟩
theorem IW (s:Sch) (lat:DV) (aJ:List Nat) (a b c e0:DV) (m:Int) (hT:iU (tL s) aJ) (lx:aJ.length<=1099511627776) (hl:s.types.length<=64) (hr:∀ x∈s.types,vJ s x.2=true) :
  EvP prog 50 [.pt (bC s lat (.pt (pC s aJ a b c e0) 0) m) 0] (loopF s).d:=by
 have QH:=FN s lat aJ a b c e0 m hT lx hl hr;have hN:=eA s.types;have hF:=loopF.eq_1 s;obtain ⟨ae,order,types,⟨rh,rp⟩⟩:=s;simp only at hl hr QH hN;refine eG 26 [.cell 2 44] func50 rfl ntmps50 rfl fun _ _ _ _=>?_
 refine aY (fun j st=>∃ e:Nat,st=C1 (.pt (bC ⟨ae,order,types,.mk rh rp⟩ lat (.pt (pC ⟨ae,order,types,.mk rh rp⟩ aJ a b c e0) 0) m) 0) ⟨ae,order,types,.mk rh rp⟩ e/\e<=types.length/\(∀ i,i < e->(endI ⟨ae,order,types,.mk rh rp⟩ (types.length + 1) i).isNone=false)/\j=types.length - e) types.length
  (C1 (.pt (bC ⟨ae,order,types,.mk rh rp⟩ lat (.pt (pC ⟨ae,order,types,.mk rh rp⟩ aJ a b c e0) 0) m) 0) ⟨ae,order,types,.mk rh rp⟩ 0) (bz wB) ⟨0,rfl,by omega,fun _ h=>by omega,by omega⟩ ?_
 rintro j st ⟨e,rfl,he,gm,rfl⟩;refine br ?_ ?_<;>intro hL
 ·have aq:e < types.length:=by have:=hL;simp [hN] at this;exact this
  obtain ⟨x,hx⟩:=gX aq;have T4:(vI ⟨ae,order,types,.mk rh rp⟩)[e]? = some x.1:=by simp [vI,hx]
  have h1:=QH e aq;obtain ⟨xw,⟨xh,xp⟩⟩:=x;refine iX (dNms_get hx) ?_;refine cP en117 h1 ?_
  cases hE:endI ⟨ae,order,types,.mk rh rp⟩ (types.length + 1) e with
  | none=>
   have Ef:=bU (p:=fun i=>(endI ⟨ae,order,types,.mk rh rp⟩ (types.length + 1) i).isNone) aq (by simp only [hE];rfl) gm;simp only [Ef] at hF;rw [lE T4] at hF;refine ⟨_,?_,rfl⟩;rw [hF];exact ax
  | some k=>
   refine ⟨C1 (.pt (bC ⟨ae,order,types,.mk rh rp⟩ lat (.pt (pC ⟨ae,order,types,.mk rh rp⟩ aJ a b c e0) 0) m) 0) ⟨ae,order,types,.mk rh rp⟩ (e + 1),(bz (cJ (aG aq (by omega)))),types.length - (e + 1),by omega,e + 1,rfl,by omega,fun i hi=>?_,rfl⟩;rcases jJ hi with hi | rfl
   ·exact gm i hi
   ·rw [hE];all_goals rfl
 ·have hge:e=types.length:=sW hN hL;subst hge;simp only [cK gm] at hF;refine ⟨_,?_,rfl⟩;rw [hF];exact ax
mutual
def knT (X:Lx) (L:List ByteArray):Ty->Ft
 | .mk h ps=>if h.ag=9/\dy L h.name.s=none then (15,h.name.a) else knP X L ps
def knP (X:Lx) (L:List ByteArray):Pts->Ft
 | .nil=>(0,0)
 | .cons p t r=>if (X.bad p.label).1≠0 then X.bad p.label else if (X.bad p.cl).1≠0 then X.bad p.cl else if p.bare then knP X L r else if (knT X L t).1≠0 then knT X L t else knP X L r
end
abbrev acO (B:DV) (t:Ty) (ps:Pts) (e:Nat):St:=
 ⟨[(0,⟨[],B⟩),aE 3 0,aE 4 1,aM 38 18 (gG ps),au 39 ((gG ps).length),au 40 e],[eK t,[.v (.int .i64 0),.v (.int .i64 0)]],[]⟩
abbrev A9 (B:DV) (t:Ty) (ps:Pts) (p:Ph) (u:Ty) (e q:Nat):St:=
 ⟨[(0,⟨[],B⟩),aE 3 0,aE 4 1,aM 38 18 (gG ps),au 39 ((gG ps).length),au 40 e,aE 8 2,aM 49 1 [[.sl 2 (bT p.label) none],[.sl 2 (bT p.cl) none]],au 50 (2:Nat),au 51 q],[eK t,[.v (.int .i64 0),.v (.int .i64 0)],Ia p (eK u)],[]⟩
theorem yw {X:Lx} (hX:X.OK) (s:Sch) (aJ:List Nat) (a b c e0:DV) (m:Int) (hT:iU (tL s) aJ) (lx:aJ.length<=1099511627776):∀ (k:Nat) (t:Ty),t.wt<=k->t.wt<=1099511627776 ->
  EvP prog 49 [.pt (bC s X.pd (.pt (pC s aJ a b c e0) 0) m) 0,.agg (eK t)] (knT X (tL s) t).d
 | 0,t,hn,_=>by have:=t.fk;omega
 | k + 1,.mk h ps,hn,cQ=>by
  have ih:=yw hX s aJ a b c e0 m hT lx k;simp only [Ty.wt,Hd.wt] at hn cQ;have gP:=ps.gF;obtain ⟨ae,order,types,⟨rh,rp⟩⟩:=s;have hf:=jz (tL ⟨ae,order,types,.mk rh rp⟩) aJ h.name.s hT lx;have hS:knT X (tL ⟨ae,order,types,.mk rh rp⟩) (.mk h ps)=if h.ag=9/\dy (tL ⟨ae,order,types,.mk rh rp⟩) h.name.s=none then (15,h.name.a) else knP X (tL ⟨ae,order,types,.mk rh rp⟩) ps:=by rw [knT]
  refine eG 81 [.cell 4 44] func49 rfl ntmps49 rfl fun _ _ _ _=>?_;generalize knT X (tL ⟨ae,order,types,.mk rh rp⟩) (.mk h ps)=F at hS ⊢;have hS0:knP X (tL ⟨ae,order,types,.mk rh rp⟩) ps=knP X (tL ⟨ae,order,types,.mk rh rp⟩) (ps.drop 0):=by rw [Pts.drop]
  refine br ?_ ?_<;>intro h9
  ·have h9:h.ag=9:=sU h9;refine dI ?_
   cases hx:dy (tL ⟨ae,order,types,.mk rh rp⟩) h.name.s with
   | none=>
    rw [ap ⟨h9,hx⟩] at hS;rw [hx] at hf;refine cD oF hf ?_;refine ⟨_,?_,rfl⟩;rw [hS];exact ax
   | some i=>
    rw [aj (by rw [hx];simp),hS0] at hS;rw [hx] at hf;refine cD oF hf ?_;refine lI (fun j st=>∃ e:Nat,st=acO (.pt (bC ⟨ae,order,types,.mk rh rp⟩ X.pd (.pt (pC ⟨ae,order,types,.mk rh rp⟩ aJ a b c e0) 0) m) 0) (.mk h ps) ps e/\e<=ps.len/\F=knP X (tL ⟨ae,order,types,.mk rh rp⟩) (ps.drop e)/\j=ps.len - e) ⟨0,rfl,by omega,hS,rfl⟩ (bz wB) ?_;rintro j st ⟨e,rfl,he,aP,rfl⟩;refine br ?_ ?_<;>intro hL
    ·have aq:e < ps.len:=by simpa [aN] using hL
     obtain ⟨p,t,hx⟩:=Pts.fl aq;have HD:=Pts.gY (mG hx);rw [Pts.drop_cons hx] at aP;simp only [knP] at aP;have HE:wdsWt p.label + wdsWt p.cl<=p.wt:=by simp only [Ph.wt];omega
     obtain ⟨u,us⟩:=t;refine iX (cq hx) ?_;refine lI (fun j st=>∃ q:Nat,st=A9 (.pt (bC ⟨ae,order,types,.mk rh rp⟩ X.pd (.pt (pC ⟨ae,order,types,.mk rh rp⟩ aJ a b c e0) 0) m) 0) (.mk h ps) ps p (.mk u us) e q/\q<=2/\(1<=q->(X.bad p.label).1=0)/\(2<=q->(X.bad p.cl).1=0)/\j=2 - q) ⟨0,rfl,by omega,fun h=>by omega,fun h=>by omega,rfl⟩ (bz wB) ?_;rintro j st ⟨q,rfl,hq,hq1,ke,rfl⟩;refine br ?_ ?_<;>intro mq
     ·have Mg:q=0∨q=1:=by have:=mq;simp at this;omega
      rcases Mg with rfl | rfl
      ·refine ⟨_,⟨by omega,rfl⟩,?_⟩;refine cP ET (Lx.sf hX p.label (by omega)) ?_;refine br ?_ ?_<;>intro hb
       ·have hb:(X.bad p.label).1≠0:=sU hb;rw [ap hb] at aP;refine ⟨_,?_,rfl⟩;rw [aP];exact ax
       ·have hb:(X.bad p.label).1=0:=sU hb;exact ⟨A9 (.pt (bC ⟨ae,order,types,.mk rh rp⟩ X.pd (.pt (pC ⟨ae,order,types,.mk rh rp⟩ aJ a b c e0) 0) m) 0) (.mk h ps) ps p (.mk u us) e 1,(bz (cJ (aG (e:=0) (n:=2) (by omega) (by omega)))),1,by omega,1,rfl,by omega,fun _=>hb,fun h=>by omega,rfl⟩
      ·have iv:=hq1 (by omega);refine ⟨_,⟨by omega,rfl⟩,?_⟩;refine cP ET (Lx.sf hX p.cl (by omega)) ?_;refine br ?_ ?_<;>intro hb
       ·have hb:(X.bad p.cl).1≠0:=sU hb;rw [aj (by rw [iv];simp),ap hb] at aP;refine ⟨_,?_,rfl⟩;rw [aP];exact ax
       ·have hb:(X.bad p.cl).1=0:=sU hb;exact ⟨A9 (.pt (bC ⟨ae,order,types,.mk rh rp⟩ X.pd (.pt (pC ⟨ae,order,types,.mk rh rp⟩ aJ a b c e0) 0) m) 0) (.mk h ps) ps p (.mk u us) e 2,(bz (cJ (aG (e:=1) (n:=2) (by omega) (by omega)))),0,by omega,2,rfl,by omega,fun _=>iv,fun _=>hb,rfl⟩
     ·have Mg:q=2:=by have:=mq;simp at this;omega
      subst Mg;have iv:=hq1 (by omega);have lP:=ke (by omega);rw [aj (by rw [iv];simp),aj (by rw [lP];simp)] at aP;refine br ?_ ?_<;>intro hB
      ·have hB:p.bare=true:=hB;rw [ap hB] at aP;exact rE ⟨_,by omega,e + 1,rfl,by omega,aP,rfl⟩ (bz (cJ (aG aq (by omega))))
      ·have hB:p.bare=false:=hB;rw [aj (by rw [hB];decide)] at aP;refine cP X5 (ih (.mk u us) (by omega) (by omega)) ?_;refine br ?_ ?_<;>intro hb
       ·have hb:(knT X (tL ⟨ae,order,types,.mk rh rp⟩) (.mk u us)).1≠0:=sU hb;rw [ap hb] at aP;refine ⟨_,?_,rfl⟩;rw [aP];exact ax
       ·have hb:(knT X (tL ⟨ae,order,types,.mk rh rp⟩) (.mk u us)).1=0:=sU hb;rw [aj (by rw [hb];simp)] at aP;exact rE ⟨_,by omega,e + 1,rfl,by omega,aP,rfl⟩ (bz (cJ (aG aq (by omega))))
    ·have hge:e=ps.len:=by simp [aN] at hL;omega
     rw [hge,Pts.dR] at aP;simp only [knP] at aP;refine ⟨_,?_,rfl⟩;rw [aP];exact ax
  ·have h9:¬ h.ag=9:=sU h9;rw [aj (fun hc=>h9 hc.1),hS0] at hS;refine lI (fun j st=>∃ e:Nat,st=acO (.pt (bC ⟨ae,order,types,.mk rh rp⟩ X.pd (.pt (pC ⟨ae,order,types,.mk rh rp⟩ aJ a b c e0) 0) m) 0) (.mk h ps) ps e/\e<=ps.len/\F=knP X (tL ⟨ae,order,types,.mk rh rp⟩) (ps.drop e)/\j=ps.len - e) ⟨0,rfl,by omega,hS,rfl⟩ (bz wB) ?_;rintro j st ⟨e,rfl,he,aP,rfl⟩;refine br ?_ ?_<;>intro hL
   ·have aq:e < ps.len:=by simpa [aN] using hL
    obtain ⟨p,t,hx⟩:=Pts.fl aq;have HD:=Pts.gY (mG hx);rw [Pts.drop_cons hx] at aP;simp only [knP] at aP;have HE:wdsWt p.label + wdsWt p.cl<=p.wt:=by simp only [Ph.wt];omega
    obtain ⟨u,us⟩:=t;refine iX (cq hx) ?_;refine lI (fun j st=>∃ q:Nat,st=A9 (.pt (bC ⟨ae,order,types,.mk rh rp⟩ X.pd (.pt (pC ⟨ae,order,types,.mk rh rp⟩ aJ a b c e0) 0) m) 0) (.mk h ps) ps p (.mk u us) e q/\q<=2/\(1<=q->(X.bad p.label).1=0)/\(2<=q->(X.bad p.cl).1=0)/\j=2 - q) ⟨0,rfl,by omega,fun h=>by omega,fun h=>by omega,rfl⟩ (bz wB) ?_;rintro j st ⟨q,rfl,hq,hq1,ke,rfl⟩;refine br ?_ ?_<;>intro mq
    ·have Mg:q=0∨q=1:=by have:=mq;simp at this;omega
     rcases Mg with rfl | rfl
     ·refine ⟨_,⟨by omega,rfl⟩,?_⟩;refine cP ET (Lx.sf hX p.label (by omega)) ?_;refine br ?_ ?_<;>intro hb
      ·have hb:(X.bad p.label).1≠0:=sU hb;rw [ap hb] at aP;refine ⟨_,?_,rfl⟩;rw [aP];exact ax
      ·have hb:(X.bad p.label).1=0:=sU hb;exact ⟨A9 (.pt (bC ⟨ae,order,types,.mk rh rp⟩ X.pd (.pt (pC ⟨ae,order,types,.mk rh rp⟩ aJ a b c e0) 0) m) 0) (.mk h ps) ps p (.mk u us) e 1,(bz (cJ (aG (e:=0) (n:=2) (by omega) (by omega)))),1,by omega,1,rfl,by omega,fun _=>hb,fun h=>by omega,rfl⟩
     ·have iv:=hq1 (by omega);refine ⟨_,⟨by omega,rfl⟩,?_⟩;refine cP ET (Lx.sf hX p.cl (by omega)) ?_;refine br ?_ ?_<;>intro hb
      ·have hb:(X.bad p.cl).1≠0:=sU hb;rw [aj (by rw [iv];simp),ap hb] at aP;refine ⟨_,?_,rfl⟩;rw [aP];exact ax
      ·have hb:(X.bad p.cl).1=0:=sU hb;exact ⟨A9 (.pt (bC ⟨ae,order,types,.mk rh rp⟩ X.pd (.pt (pC ⟨ae,order,types,.mk rh rp⟩ aJ a b c e0) 0) m) 0) (.mk h ps) ps p (.mk u us) e 2,(bz (cJ (aG (e:=1) (n:=2) (by omega) (by omega)))),0,by omega,2,rfl,by omega,fun _=>iv,fun _=>hb,rfl⟩
    ·have Mg:q=2:=by have:=mq;simp at this;omega
     subst Mg;have iv:=hq1 (by omega);have lP:=ke (by omega);rw [aj (by rw [iv];simp),aj (by rw [lP];simp)] at aP;refine br ?_ ?_<;>intro hB
     ·have hB:p.bare=true:=hB;rw [ap hB] at aP;exact rE ⟨_,by omega,e + 1,rfl,by omega,aP,rfl⟩ (bz (cJ (aG aq (by omega))))
     ·have hB:p.bare=false:=hB;rw [aj (by rw [hB];decide)] at aP;refine cP X5 (ih (.mk u us) (by omega) (by omega)) ?_;refine br ?_ ?_<;>intro hb
      ·have hb:(knT X (tL ⟨ae,order,types,.mk rh rp⟩) (.mk u us)).1≠0:=sU hb;rw [ap hb] at aP;refine ⟨_,?_,rfl⟩;rw [aP];exact ax
      ·have hb:(knT X (tL ⟨ae,order,types,.mk rh rp⟩) (.mk u us)).1=0:=sU hb;rw [aj (by rw [hb];simp)] at aP;exact rE ⟨_,by omega,e + 1,rfl,by omega,aP,rfl⟩ (bz (cJ (aG aq (by omega))))
   ·have hge:e=ps.len:=by simp [aN] at hL;omega
    rw [hge,Pts.dR] at aP;simp only [knP] at aP;refine ⟨_,?_,rfl⟩;rw [aP];exact ax
def eaL (F:Ty->Ft) (z:Ft):List (Wd × Ty)->Ft
 | []=>z
 | x :: r=>if (F x.2).1≠0 then F x.2 else eaL F z r
theorem QI {F:Ty->Ft} {z:Ft} {l:List (Wd × Ty)} {e:Nat} {x:Wd × Ty} (h:l[e]? = some x):eaL F z (l.drop e)=if (F x.2).1≠0 then F x.2 else eaL F z (l.drop (e + 1)):=by
 rw [drop_cons h,eaL]
abbrev QJ (B:DV) (fn:DV) (types:List (Wd × Ty)) (e:Nat):St:=
 ⟨[(0,⟨[],B⟩),(1,⟨[],fn⟩),aE 4 0,aM 12 11 (dNms types),au 13 ((dNms types).length),au 14 e],[[.v (.int .i64 0),.v (.int .i64 0)]],[]⟩
theorem M0 (s:Sch) (lat:DV) (pc:List DV) (m:Int) (hl:s.types.length<=1099511627776) (g:Nat) (hg:Enters prog g) (F:Ty->Ft)
  (hF:∀ t,(t=s.root∨∃ x∈s.types,t=x.2)->EvP prog g [.pt (bC s lat (.pt pc 0) m) 0,.agg (eK t)] (F t).d) :
  EvP prog 47 [.pt (bC s lat (.pt pc 0) m) 0,.fn g [.pt (bC s lat (.pt pc 0) m) 0] []] (eaL F (F s.root) s.types).d:=by
 have hN:=eA s.types;obtain ⟨ae,order,types,⟨rh,rp⟩⟩:=s;simp only at hl hF hN;have eo:=hF (.mk rh rp) (.inl rfl);have YM:∀ x∈types,_:=fun x hx=>hF x.2 (.inr ⟨x,hx,rfl⟩);clear hF;refine eG 34 [.cell 4 44] func47 rfl ntmps47 rfl fun _ _ _ _=>?_;generalize hG:eaL F (F (.mk rh rp)) types=G;have hG0:G=eaL F (F (.mk rh rp)) (types.drop 0):=by rw [List.drop_zero,hG]
 refine aY (fun j st=>∃ e:Nat,st=QJ (.pt (bC ⟨ae,order,types,.mk rh rp⟩ lat (.pt pc 0) m) 0) (.fn g [.pt (bC ⟨ae,order,types,.mk rh rp⟩ lat (.pt pc 0) m) 0] []) types e/\e<=types.length/\G=eaL F (F (.mk rh rp)) (types.drop e)/\j=types.length - e) types.length
  (QJ (.pt (bC ⟨ae,order,types,.mk rh rp⟩ lat (.pt pc 0) m) 0) (.fn g [.pt (bC ⟨ae,order,types,.mk rh rp⟩ lat (.pt pc 0) m) 0] []) types 0) (bz wB) ⟨0,rfl,by omega,hG0,by omega⟩ ?_
 rintro j st ⟨e,rfl,he,aP,rfl⟩;refine br ?_ ?_<;>intro hL
 ·have aq:e < types.length:=by have:=hL;simp [hN] at this;exact this
  obtain ⟨x,hx⟩:=gX aq;have hp:=YM x (mG hx);rw [QI hx] at aP;obtain ⟨xw,⟨xh,xp⟩⟩:=x;refine iX (dNms_get hx) ?_;refine cP hg hp ?_;refine br ?_ ?_<;>intro hf
  ·have hf:(F (.mk xh xp)).1≠0:=sU hf;rw [ap hf] at aP;refine ⟨_,?_,rfl⟩;rw [aP];exact ax
  ·have hf:(F (.mk xh xp)).1=0:=sU hf;rw [aj (by rw [hf];simp)] at aP;exact rE ⟨_,by omega,e + 1,rfl,by omega,aP,rfl⟩ (bz (cJ (aG aq (by omega))))
 ·have hge:e=types.length:=sW hN hL;subst hge;rw [List.drop_length,eaL] at aP;refine cP hg eo ?_;refine ⟨_,?_,rfl⟩;rw [aP];exact ax
def cy (t:Ty) (m:Int):Ft × Int:=if (wrong t 1 0).1.1≠0 then ((wrong t 1 0).1,m) else if 512 < m + t.cnt then ((8,t.h.aO),m + t.cnt) else ((0,0),m + t.cnt)
def QK (s:Sch) (lat:DV) (pc:List DV) (x:Ft × Int) (r:DV) (os:List (List DV)) (_:List TkE):Prop:=r=x.1.d/\os=[bC s lat (.loc 1 0) x.2,pc]
theorem FO (s:Sch) (lc pc:List DV) (m:Int) (om:0<=m) (jY:m<=1099511627776) (t:Ty) (cQ:t.wt<=1099511627776) (hpc:∀ bx N n0 m0,CcL bx N n0 m0 pc pc) :
  Ev prog 48 [.loc 0 0,.agg (eK t)] [bC s (.pt lc 0) (.loc 1 0) m,pc] [] (QK s (.pt lc 0) pc (cy t m)):=by
 have hk:=FM t cQ;have hc:=yt t.wt t (aV _) cQ;have Mn:=t.fm;have hF:=cy.eq_1 t m;obtain ⟨ae,order,types,⟨rh,rp⟩⟩:=s;obtain ⟨h,ps⟩:=t;generalize cy (.mk h ps) m=R at hF ⊢;refine eG 30 [.cell 4 44] func48 rfl ntmps48 rfl fun _ _ _ _=>?_;refine cP abe hk ?_;refine br ?_ ?_<;>intro hf
 ·have hf:(wrong (.mk h ps) 1 0).1.1≠0:=sU hf;rw [ap hf] at hF;subst hF;exact ⟨Ft.d _,[bC ⟨ae,order,types,.mk rh rp⟩ (.pt lc 0) (.loc 1 0) m,pc],ax,(by repeat' (first | exact rfl | exact trivial | exact Or.inr (Or.inl ⟨_,rfl⟩) | exact Or.inr ⟨_,rfl⟩ | exact Or.inl ⟨rfl,rfl⟩ | exact Or.inl rfl | refine Or.inr ⟨_,_,rfl,Nat.zero_le _,rfl,?_⟩ | refine ⟨_,_,rfl,?_,?_⟩ | refine ⟨_,rfl,?_⟩ | exact hpc _ _ _ _ | exact ⟨nL rfl,rfl⟩ | exact congrArg (fun z=>DV.v (.int .i64 z)) hw | refine Or.inr (Or.inr (Or.inr ⟨_,_,rfl,?_⟩)) | exact Or.inl rfl | refine Or.inr ?_)),rfl,rfl⟩
 have hf:(wrong (.mk h ps) 1 0).1.1=0:=sU hf;rw [aj (by rw [hf];simp)] at hF;have hw:IntKind.i64.wrap (m + ((Ty.mk h ps).cnt:Int))=m + ((Ty.mk h ps).cnt:Int):=wrap64 (by omega) (by omega);refine dS ?_;refine cD VK hc ?_;refine br ?_ ?_<;>intro hg
 ·have hg:512 < m + ((Ty.mk h ps).cnt:Int):=sV hw hg;rw [ap hg] at hF;subst hF;exact ⟨Ft.d _,[bC ⟨ae,order,types,.mk rh rp⟩ (.pt lc 0) (.loc 1 0) (m + (Ty.mk h ps).cnt),pc],ax,(wC2 hpc hw),rfl,rfl⟩
 ·have hg:¬ 512 < m + ((Ty.mk h ps).cnt:Int):=sV hw hg;rw [aj hg] at hF;subst hF;exact ⟨Ft.d _,[bC ⟨ae,order,types,.mk rh rp⟩ (.pt lc 0) (.loc 1 0) (m + (Ty.mk h ps).cnt),pc],ax,(wC2 hpc hw),rfl,rfl⟩
def eaR (z:Ty):List (Wd × Ty)->Int->Ft × Int
 | [],m=>cy z m
 | x :: r,m=>if (cy x.2 m).1.1≠0 then cy x.2 m else eaR z r (cy x.2 m).2
theorem QL {z:Ty} {l:List (Wd × Ty)} {e:Nat} {m:Int} {x:Wd × Ty} (h:l[e]? = some x):eaR z (l.drop e) m=if (cy x.2 m).1.1≠0 then cy x.2 m else eaR z (l.drop (e + 1)) (cy x.2 m).2:=by
 rw [drop_cons h,eaR]
theorem pK {t:Ty} {m:Int} (h:(cy t m).1.1=0):(cy t m).2=m + t.cnt/\(cy t m).2<=512/\(wrong t 1 0).1.1=0/\(cy t m).1=(0,0):=by grind [cy]
abbrev IX (s:Sch) (aJ:List Nat) (lc:List DV):List DV:=pC s aJ (.pt lc 0) (.v (.slice none 0 0)) (.v (.int .i64 0)) (.v (.slice none 0 0))
abbrev C2 (s:Sch) (lc pc:List DV) (m:Int) (types:List (Wd × Ty)) (e:Nat):St:=
 ⟨[aE 0 0,(1,⟨[],.fn 48 [.loc 0 0] []⟩),aE 4 2,aM 12 11 (dNms types),au 13 ((dNms types).length),au 14 e],
  [bC s (.pt lc 0) (.loc 1 0) m,pc,[.v (.int .i64 0),.v (.int .i64 0)]],[]⟩
theorem IY (s:Sch) (lc:List DV) (aJ:List Nat) (m:Int) (om:0<=m) (jY:m<=512) (hl:s.types.length<=1099511627776) (cQ:∀ t,(t=s.root∨∃ x∈s.types,t=x.2)->t.wt<=1099511627776) :
  Ev prog 47 [.loc 0 0,.fn 48 [.loc 0 0] []] [bC s (.pt lc 0) (.loc 1 0) m,IX s aJ lc] [] (QK s (.pt lc 0) (IX s aJ lc) (eaR s.root s.types m)):=by
 have hN:=eA s.types;have hR:∀ (m':Int),0<=m' -> m' <= 512->∀ t,(t=s.root∨∃ x∈s.types,t=x.2)->_:=fun m' h0 h1 t ht=>FO s lc (IX s aJ lc) m' h0 (by omega) t (cQ t ht) (fun bx N n0 m0=>ax);obtain ⟨ae,order,types,⟨rh,rp⟩⟩:=s;simp only at hl hR hN cQ;refine eG 34 [.cell 4 44] func47 rfl ntmps47 rfl fun _ _ _ _=>?_;generalize hG:eaR (.mk rh rp) types m=G;have hG0:G=eaR (.mk rh rp) (types.drop 0) m:=by rw [List.drop_zero,hG]
 refine aY (fun j st=>∃ (e:Nat) (m':Int),st=C2 ⟨ae,order,types,.mk rh rp⟩ lc (IX ⟨ae,order,types,.mk rh rp⟩ aJ lc) m' types e/\e<=types.length/\0<=m' /\ m' <= 512/\G=eaR (.mk rh rp) (types.drop e) m' /\ j=types.length - e) types.length
  (C2 ⟨ae,order,types,.mk rh rp⟩ lc (IX ⟨ae,order,types,.mk rh rp⟩ aJ lc) m types 0) (bZ 3 (by repeat' (first | exact rfl | exact aA rfl | exact rfl | refine ⟨_,_,rfl,?_,?_⟩)) (by repeat' (first | exact trivial | exact aA rfl | exact rfl | refine ⟨⟨_,rfl,?_⟩,?_⟩))) ⟨0,m,rfl,by omega,om,jY,hG0,by omega⟩ ?_
 rintro j st ⟨e,m',rfl,he,CH,Ff,aP,rfl⟩;refine br ?_ ?_<;>intro hL
 ·have aq:e < types.length:=by have:=hL;simp [hN] at this;exact this
  obtain ⟨x,hx⟩:=gX aq;have hp:=hR m' CH Ff x.2 (.inr ⟨x,mG hx,rfl⟩);rw [QL hx] at aP;obtain ⟨xw,⟨xh,xp⟩⟩:=x;refine iX (dNms_get hx) ?_;refine fN 2 0 aa3 rfl rfl rfl gQ gQ hp (fun r j4 cM hΦ h1 h2=>?_);obtain ⟨rfl,rfl⟩:=hΦ;have h2:=List.eq_nil_of_length_eq_zero h2;subst h2;refine br ?_ ?_<;>intro hf
  ·have hf:(cy (.mk xh xp) m').1.1≠0:=sU hf;rw [ap hf] at aP;subst aP;exact ⟨Ft.d _,[bC ⟨ae,order,types,.mk rh rp⟩ (.pt lc 0) (.loc 1 0) (cy (.mk xh xp) m').2,IX ⟨ae,order,types,.mk rh rp⟩ aJ lc],ax,gQ,rfl,rfl⟩
  ·have hf:(cy (.mk xh xp) m').1.1=0:=sU hf;rw [aj (by rw [hf];simp)] at aP;obtain ⟨g1,g2,_,_⟩:=pK hf;exact ⟨C2 ⟨ae,order,types,.mk rh rp⟩ lc (IX ⟨ae,order,types,.mk rh rp⟩ aJ lc) (cy (.mk xh xp) m').2 types (e + 1),(bZ 3 (jM (aG aq (by omega))) (cJ (aG aq (by omega)))),types.length - (e + 1),by omega,e + 1,_,rfl,by omega,by omega,g2,aP,rfl⟩
 ·have hge:e=types.length:=sW hN hL;subst hge;rw [List.drop_length,eaR] at aP;refine fN 2 0 aa3 rfl rfl rfl gQ gQ (hR m' CH Ff (.mk rh rp) (.inl rfl)) (fun r j4 cM hΦ h1 h2=>?_);obtain ⟨rfl,rfl⟩:=hΦ;have h2:=List.eq_nil_of_length_eq_zero h2;subst h2;subst aP;exact ⟨Ft.d _,[bC ⟨ae,order,types,.mk rh rp⟩ (.pt lc 0) (.loc 1 0) (cy (.mk rh rp) m').2,IX ⟨ae,order,types,.mk rh rp⟩ aJ lc],ax,gQ,rfl,rfl⟩
def fu (s:Sch):Ft:=if 64 < s.types.length then (8,YG (vI s) 64) else enumL (vI s) 0 (vI s)
def T5 (s:Sch) (lc:List DV) (r:DV) (os:List (List DV)) (_:List TkE):Prop:=
 r=(fu s).d/\((fu s).1=0->∃ aJ,iU (tL s) aJ/\aJ.length<=s.types.length/\os=[bC s (.pt lc 0) (.loc 1 0) 0,IX s aJ lc])
abbrev QM (s:Sch) (lc:List DV) (n e:Nat):St:=
 ⟨[aE 0 0,aE 2 2,(3,⟨[],.sl 1 (fF (az ((vI s).take e))) (some 0)⟩),aM 27 11 (dNms s.types),au 28 ((dNms s.types).length),au 29 e],
  [bC s (.pt lc 0) (.loc 1 0) 0,[.pt lc 0,.v (.slice none 0 0),.v (.int .i64 0),.v (.pointer none),.v (.slice none 0 0)],[.v (.int .i64 0),.v (.int .i64 0)]],[⟨n,9,1,none⟩]⟩
theorem C3 (s:Sch) (lc:List DV) (hs:nmsWt s.types<=1099511627776) :
  Ev prog 46 [.loc 0 0] [bC s (.pt lc 0) (.loc 1 0) 0,[.pt lc 0,.v (.slice none 0 0),.v (.int .i64 0),.v (.pointer none),.v (.slice none 0 0)]] [] (T5 s lc):=by
 have hN:=eA s.types;have fI:=kv s.types;have hZ:=Li s;have hF:=fu.eq_1 s;have iz:∀ {e:Nat} {x:Wd × Ty},s.types[e]? = some x->(vI s)[e]? = some x.1:=fun h=>by simp [vI,h]
 have eN:=xQ (tL s) (by rw [kW];omega);have hTL:tL s=az (vI s):=rfl
 have hw:∀ x∈s.types,x.1.s.size<=1099511627776:=fun x hx=>by
  have:=ig hx;simp only [Wd.wt] at this;omega
 obtain ⟨ae,order,types,⟨rh,rp⟩⟩:=s;simp only at hs hN fI hZ iz hw hF;generalize hQ:vI ⟨ae,order,types,.mk rh rp⟩=Q at hZ hF iz hTL;refine eG 67 [.cell 2 44] func46 rfl ntmps46 rfl fun _ _ _ _=>?_;refine br ?_ ?_<;>intro h
 ·have h:64 < types.length:=by simp [hN] at h;omega
  obtain ⟨x,hx⟩:∃ x,types[64]? = some x:=⟨_,gE h⟩;have T4:=iz hx;rw [ap h,lE T4] at hF;obtain ⟨xw,⟨xh,xp⟩⟩:=x;refine iX (dNms_get hx) ?_;refine ⟨Ft.d (8,xw.a),[bC ⟨ae,order,types,.mk rh rp⟩ (.pt lc 0) (.loc 1 0) 0,[.pt lc 0,.v (.slice none 0 0),.v (.int .i64 0),.v (.pointer none),.v (.slice none 0 0)]],ax,gQ,by rw [hF],fun h0=>by rw [hF] at h0;simp at h0⟩
 have h:¬ 64 < types.length:=by simp [hN] at h;omega
 rw [aj h] at hF;refine lI (fun j st=>∃ e:Nat,st=QM ⟨ae,order,types,.mk rh rp⟩ lc e e/\e<=types.length/\(az (Q.take e)).Nodup/\enumL Q 0 Q=enumL Q e (Q.drop e)/\j=types.length - e) ⟨0,rfl,by omega,by simp [az],rfl,rfl⟩ (cX 3 ⟨0,9,1,none⟩ rfl rfl rfl qL rfl rfl lj) ?_;rintro j st ⟨e,rfl,he,hnd,aP,rfl⟩;rw [aP] at hF;refine br ?_ ?_<;>intro hL
 ·have aq:e < types.length:=by have:=hL;simp [hN] at this;exact this
  obtain ⟨x,hx⟩:=gX aq;have SU:=hw x (mG hx);have hq:=iz hx;have dx:=ku hq;have aW:=qX hq;have wb:=nB hq hnd;have Qv:=qR (az (Q.take (e + 1))) (by simp [az];omega);rw [<- dx] at Qv;obtain ⟨xw,⟨xh,xp⟩⟩:=x;simp only at SU hq dx aW wb Qv;refine iX (dNms_get hx) ?_;rw [hQ];refine ⟨by simp [cG,az];omega,⟨by simp [cG,az,maxLen];omega,by simp [cG,az];omega⟩,?_⟩;refine cP xH (jr xw.s (by omega)) ?_;refine br ?_ ?_<;>intro Lj
  ·have Lj:bE xw.s=false:=sU Lj;have hf:aK Q e xw=9:=by simp [aK,Lj]
   rw [aW,hf,ap (by decide)] at hF;refine ⟨Ft.d (9,xw.a),[bC ⟨ae,order,types,.mk rh rp⟩ (.pt lc 0) (.loc 1 0) 0,[.pt lc 0,.v (.slice none 0 0),.v (.int .i64 0),.v (.pointer none),.v (.slice none 0 0)]],ax,gQ,by rw [hF],fun h0=>by rw [hF] at h0;simp at h0⟩
  ·have Lj:bE xw.s=true:=sU Lj;refine dj Pg rfl Qv ax (fun r hr=>?_);obtain ⟨z,rfl,hz⟩:=hr;refine br ?_ ?_<;>intro h2
   ·have h2:0<=z:=sU h2;have hd:cY (Q.take e) xw.s=true:=by grind
    have hf:aK Q e xw=10:=by simp [aK,Lj,hd]
    rw [aW,hf,ap (by decide)] at hF;refine ⟨Ft.d (10,xw.a),[bC ⟨ae,order,types,.mk rh rp⟩ (.pt lc 0) (.loc 1 0) 0,[.pt lc 0,.v (.slice none 0 0),.v (.int .i64 0),.v (.pointer none),.v (.slice none 0 0)]],ax,gQ,by rw [hF],fun h0=>by rw [hF] at h0;simp at h0⟩
   ·have h2:¬ 0<=z:=sU h2;have zX:(az (Q.take (e + 1))).Nodup:=Classical.byContradiction fun hn=>h2 (hz.2 hn);have hf:aK Q e xw=0:=by simp [aK,Lj,wb.1 zX]
    rw [hf,aj (by simp)] at aW;have FP:fF (az (Q.take e)) ++ [[DV.v (.string xw.s)]]=fF (az ((vI ⟨ae,order,types,.mk rh rp⟩).take (e + 1))):=by rw [hQ];exact dx
    refine ⟨QM ⟨ae,order,types,.mk rh rp⟩ lc (e + 1) (e + 1),(bZ 3 (lY (aG aq (by omega)) FP) (wB2 (aG aq (by omega)) FP)),types.length - (e + 1),by omega,e + 1,rfl,by omega,zX,aP.trans aW,rfl⟩
 ·have hge:e=types.length:=sW hN hL;have h0:enumL Q e (Q.drop e)=(0,0):=by rw [hge,<- hZ,List.drop_length];all_goals rfl
  rw [h0] at hF;have ht:Q.take e=Q:=by rw [hge,<- hZ,List.take_length]
  have hEq:az ((vI ⟨ae,order,types,.mk rh rp⟩).take e)=tL ⟨ae,order,types,.mk rh rp⟩:=by rw [hQ,ht,hTL]
  rw [<- hEq] at eN;refine dS ?_;refine rP Pf rfl eN ax (fun pq hr=>?_);obtain ⟨aJ,hT,lx,rfl⟩:=hr;rw [hEq] at hT lx;have hpt:DV.pt (dt (az ((vI ⟨ae,order,types,.mk rh rp⟩).take e)) aJ) 0=DV.pt (dt (tL ⟨ae,order,types,.mk rh rp⟩) aJ) 0:=congrArg (fun L=>DV.pt (dt L aJ) 0) hEq;rw [kW] at lx;exact ⟨Ft.d (0,0),[bC ⟨ae,order,types,.mk rh rp⟩ (.pt lc 0) (.loc 1 0) 0,IX ⟨ae,order,types,.mk rh rp⟩ aJ lc],ax,(by repeat' (first | exact rfl | exact trivial | exact Or.inr (Or.inl ⟨_,rfl⟩) | exact Or.inr ⟨_,rfl⟩ | exact Or.inl ⟨rfl,rfl⟩ | exact Or.inl rfl | refine Or.inr ⟨_,_,rfl,Nat.zero_le _,rfl,?_⟩ | refine ⟨_,_,rfl,?_,?_⟩ | refine ⟨_,rfl,?_⟩ | exact ⟨nL rfl,rfl⟩ | exact Or.inl hpt | refine Or.inr (Or.inr (Or.inr ⟨_,_,rfl,?_⟩)) | exact Or.inl rfl | refine Or.inr ?_)),by rw [hF],fun _=>⟨aJ,hT,lx,rfl⟩⟩
def firstA (s:Sch) (k:Nat):Nat:=((s.types.take k).map fun x=>x.2.nn).sum
theorem oS {s:Sch} {k:Nat} {x:Wd × Ty} (h:s.types[k]? = some x):firstA s (k + 1)=firstA s k + x.2.nn:=by
 unfold firstA;rw [List.take_add_one,h];simp
theorem Ba (s:Sch):∀ k,firstA s k<=nmsWt s.types:=by
 intro k;unfold firstA;generalize s.types=l
 induction l generalizing k with
 | nil=>simp
 | cons x r ih=>
  cases k with
  | zero=>simp
  | succ k=>
   have h1:=ih k;have h2:=x.2.ib;have h3:=x.2.fm
   grind [nmsWt]
def namedN (s:Sch) (i:Nat):Nat:=firstA s ((endI s (s.types.length + 1) i).getD 0)
def namedL (s:Sch):List Nat:=(List.range s.types.length).map (namedN s)
theorem acS (n:Nat):(List.replicate n (vL [Value.int .i64 0])).flatten=cZ (List.replicate n 0):=by
 induction n with
 | zero=>rfl
 | succ n ih=>simp only [List.replicate_succ,List.flatten_cons,ih];rfl
theorem wj {n m:Nat} {tk:List TkE} {l:List DV} {js:List Int} (h:l=cZ js):WeL n m tk l (cZ js):=by rw [h];exact tE js
abbrev YN (s:Sch) (lc pc:List DV) (m:Int) (l:List Int) (aO e:Nat):St:=
 ⟨[aE 0 0,(2,⟨[],.ms 2 1 0 (dNms s.types).length (dNms s.types).length⟩),au 3 aO,aM 18 11 (dNms s.types),au 19 ((dNms s.types).length),au 20 e],
  [bC s (.pt lc 0) (.loc 1 0) m,pc,cZ l],[]⟩
abbrev acT (s:Sch) (aJ:List Nat) (lc:List DV) (m:Int) (l:List Int) (n e:Nat):St:=
 ⟨[aE 0 0,(2,⟨[],.ms 2 1 0 (dNms s.types).length (dNms s.types).length⟩),au 40 ((dNms s.types).length),au 41 e],
  [bC s (.pt lc 0) (.loc 1 0) m,pC s aJ (.pt lc 0) (.v (.slice none 0 0)) (.v (.int .i64 0)) (.sl 1 (dInts ((namedL s).take e)) (some 0)),cZ l],[⟨n,3,1,none⟩]⟩
def T6 (s:Sch) (aJ:List Nat) (lc:List DV) (m:Int) (_:DV) (os:List (List DV)) (_:List TkE):Prop:=
 os=[bC s (.pt lc 0) (.loc 1 0) m,pC s aJ (.pt lc 0) (.v (.slice none 0 0)) (.v (.int .i64 0)) (.sl 1 (dInts (namedL s)) none)]
theorem YO {l:List Int} {i:Nat} {z:Int} (h:l[i]? = some z):(cZ l)[i]? = some (DV.v (.int .i64 z)):=by simp [cZ,h]
theorem FQ (s:Sch) (lc:List DV) (aJ:List Nat) (m:Int) (hT:iU (tL s) aJ) (lx:aJ.length<=1099511627776) (hl:s.types.length<=64) (hr:∀ x∈s.types,vJ s x.2=true) (hs:nmsWt s.types<=1099511627776)
  (hlo:∀ i,i < s.types.length->∃ k,endI s (s.types.length + 1) i=some k) :
  Ev prog 51 [.loc 0 0] [bC s (.pt lc 0) (.loc 1 0) m,IX s aJ lc] [] (T6 s aJ lc m):=by
 have hN:=eA s.types
 have Yh:∀ x∈s.types,x.2.wt<=1099511627776:=fun x hx=>by
  have:=ig hx;omega
 have M1:=Ba s;have Cn:=fun {k:Nat} {x:Wd × Ty}=>@oS s k x;have fI:(namedL s).length=s.types.length:=by simp [namedL]
 have QH:=fun (e0:DV)=>FN s (.pt lc 0) aJ (.pt lc 0) (.v (.slice none 0 0)) (.v (.int .i64 0)) e0 m hT lx hl hr;obtain ⟨ae,order,types,⟨rh,rp⟩⟩:=s;simp only at hl hr hN hs Yh M1 Cn fI QH hlo;have hN2:(dNms (⟨ae,order,types,.mk rh rp⟩:Sch).types).length=types.length:=hN;refine eG 66 [] func51 rfl ntmps51 rfl fun _ _ _ _=>?_;refine ⟨⟨rfl,by omega,by omega,by omega⟩,?_⟩
 refine aY (fun j st=>∃ (e:Nat) (l:List Int),st=YN ⟨ae,order,types,.mk rh rp⟩ lc (IX ⟨ae,order,types,.mk rh rp⟩ aJ lc) m l (firstA ⟨ae,order,types,.mk rh rp⟩ e) e/\e<=types.length/\l.length=types.length/\(∀ i:Nat,i < e->l[i]? = some (firstA ⟨ae,order,types,.mk rh rp⟩ i:Int))/\j=types.length - e) types.length
  (YN ⟨ae,order,types,.mk rh rp⟩ lc (IX ⟨ae,order,types,.mk rh rp⟩ aJ lc) m (List.replicate ((dNms types).length:Int).toNat 0) (firstA ⟨ae,order,types,.mk rh rp⟩ 0) 0) (bZ 3 (by repeat' (first | exact rfl | exact aA rfl | exact wj (acS _) | refine ⟨_,_,rfl,?_,?_⟩)) (by repeat' (first | exact trivial | exact aA rfl | exact wj (acS _) | refine ⟨⟨_,rfl,?_⟩,?_⟩))) ⟨0,_,rfl,by omega,by simp [hN],fun _ h=>by omega,by omega⟩ ?_
 rintro j st ⟨e,l,rfl,he,tf,WD,rfl⟩;refine br ?_ ?_<;>intro hL
 ·have aq:e < types.length:=by have:=hL;simp [hN] at this;exact this
  obtain ⟨x,hx⟩:=gX aq;have hxw:=Yh x (mG hx);have OS:=Cn hx;have Fp:=M1 (e + 1);obtain ⟨xw,⟨xh,xp⟩⟩:=x;have hnd:=yu (Ty.mk xh xp).wt (.mk xh xp) (aV _) hxw;refine iX (dNms_get hx) ?_;refine ⟨⟨by omega,by omega⟩,?_⟩;refine ⟨by rw [YD];omega,?_⟩;refine cP VL hnd ?_;simp only at OS Fp;have lP:(cZ l).set (0 + (e:Int).toNat * 1) (DV.v (.int .i64 ((firstA ⟨ae,order,types,.mk rh rp⟩ e:Nat):Int)))=cZ (l.set e ((firstA ⟨ae,order,types,.mk rh rp⟩ e:Nat):Int)):=by grind [Qy]
  have zQ:IntKind.i64.wrap (((firstA ⟨ae,order,types,.mk rh rp⟩ e:Nat):Int) + (Ty.mk xh xp).nn)=((firstA ⟨ae,order,types,.mk rh rp⟩ (e + 1):Nat):Int):=by grind [wrap64]
  refine ⟨YN ⟨ae,order,types,.mk rh rp⟩ lc (IX ⟨ae,order,types,.mk rh rp⟩ aJ lc) m (l.set e ((firstA ⟨ae,order,types,.mk rh rp⟩ e:Nat):Int)) (firstA ⟨ae,order,types,.mk rh rp⟩ (e + 1)) (e + 1),(bZ 3 (by repeat' (first | exact rfl | exact aA rfl | exact wj lP | exact aC zQ | exact aC (aG aq (by omega)) | refine ⟨_,_,rfl,?_,?_⟩)) (by repeat' (first | exact trivial | exact aA rfl | exact wj lP | exact aC zQ | exact aC (aG aq (by omega)) | refine ⟨⟨_,rfl,?_⟩,?_⟩))),types.length - (e + 1),by omega,e + 1,_,rfl,by omega,by rw [List.length_set];exact tf,fun i hi=>?_,rfl⟩;by_cases EZ:i=e
  ·grind
  ·grind
 ·have hge:e=types.length:=sW hN hL;subst hge;refine lJ (fun e=>acT ⟨ae,order,types,.mk rh rp⟩ aJ lc m l e e) types.length (cX 3 ⟨0,3,1,none⟩ rfl rfl rfl qL rfl rfl lj) ?_;intro e he;refine br ?_ ?_<;>intro hL
  ·have aq:e < types.length:=by have:=hL;simp [hN] at this;exact this
   obtain ⟨k,hk⟩:=hlo e aq;have gl:=(sg hk).1;simp only at gl;have hE:=QH (.sl 1 (dInts ((namedL ⟨ae,order,types,.mk rh rp⟩).take e)) none) e aq;rw [hk] at hE;have hnn:namedN ⟨ae,order,types,.mk rh rp⟩ e=firstA ⟨ae,order,types,.mk rh rp⟩ k:=by unfold namedN;rw [hk];all_goals rfl
   have iz:(namedL ⟨ae,order,types,.mk rh rp⟩)[e]? = some (firstA ⟨ae,order,types,.mk rh rp⟩ k):=by grind [namedL]
   have dx:dInts ((namedL ⟨ae,order,types,.mk rh rp⟩).take e) ++ [[DV.v (.int .i64 ((firstA ⟨ae,order,types,.mk rh rp⟩ k:Nat):Int))]]=dInts ((namedL ⟨ae,order,types,.mk rh rp⟩).take (e + 1)):=by
    rw [List.take_add_one,iz];simp [dInts]
   refine dS ?_;refine km en117 hE ax rfl rfl ?_;refine ⟨⟨by simp only [oz];omega,by simp only [oz];omega⟩,?_⟩;have HG:(cZ l)[0 + (oz (some k)).toNat * 1]? = some (DV.v (.int .i64 ((firstA ⟨ae,order,types,.mk rh rp⟩ k:Nat):Int))):=by grind [oz,YO]
   refine ⟨_,HG,?_⟩;refine ⟨by simp [aU];omega,⟨by simp [aU,maxLen];omega,by simp [aU];omega⟩,?_⟩;exact rE ⟨_,by omega,e + 1,rfl,by omega,rfl⟩ (bZ 3 (lY (aG aq (by omega)) dx) (wB2 (aG aq (by omega)) dx))
  ·have hge:e=types.length:=sW hN hL;subst hge;have ht:(namedL ⟨ae,order,types,.mk rh rp⟩).take types.length=namedL ⟨ae,order,types,.mk rh rp⟩:=by rw [<- fI,List.take_length]
   rw [ht];exact ⟨.tup [],[bC ⟨ae,order,types,.mk rh rp⟩ (.pt lc 0) (.loc 1 0) m,pC ⟨ae,order,types,.mk rh rp⟩ aJ (.pt lc 0) (.v (.slice none 0 0)) (.v (.int .i64 0)) (.sl 1 (dInts (namedL ⟨ae,order,types,.mk rh rp⟩)) none)],ax,gQ,rfl⟩
structure Ed where
 name:ByteArray
 bare:Bool
 aO:Int
 to:Int
 label:Int
 wide:Int
 ck:Int
 cn:Int
 seen:Int
 ca:Int
structure Nd where
 ag:Int
 aO:Int
 lo:Int
 hi:Int
 most:Int
 af:List ByteArray
 ai:List Ed
def C4 (e:Ed):List DV:=[.v (.string e.name),.v (.bool e.bare),.v (.int .i64 e.aO),.v (.int .i64 e.to),.v (.int .i64 e.label),.v (.int .i64 e.wide),.v (.int .i64 e.ck),.v (.int .i64 e.cn),.v (.int .i64 e.seen),.v (.int .i64 e.ca)]
def dT (l:List Ed):List (List DV):=l.map C4
def j5 (n:Nd):List DV:=[.v (.int .i64 n.ag),.v (.int .i64 n.aO),.v (.int .i64 n.lo),.v (.int .i64 n.hi),.v (.int .i64 n.most),.sl 1 (fF n.af) none,.sl 10 (dT n.ai) none]
def bG (l:List Nd):List (List DV):=l.map j5
def mv (w:Int):Int:=if w=0 then 3 else w
def yx (lev:List Wd->Int) (p:Ph) (to:Int):Ed:=⟨p.name.s,p.bare,p.name.a,to,lev p.label,mv p.wide,p.ck,p.cn,lev p.cl,p.ca⟩
def YP (s:Sch) (name:ByteArray):Int:=(namedN s ((dy (tL s) name).getD 0):Int)
def oT (s:Sch) (t:Ty) (k:Nat):Int:=if t.h.ag=9 then YP s t.h.name.s else (k:Int)
def wm (s:Sch) (p:Ph) (u:Ty) (k:Nat):Int:=if p.bare then -1 else oT s u k
mutual
def ndsT (lev:List Wd->Int) (s:Sch):Ty->Nat->List Nd
 | .mk h ps,k=>if h.ag=9 then [] else ⟨h.ag,h.aO,h.lo,h.hi,h.most,az h.af,edsP lev s ps (k + 1)⟩ :: yy lev s ps (k + 1)
def edsP (lev:List Wd->Int) (s:Sch):Pts->Nat->List Ed
 | .nil,_=>[]
 | .cons p u r,k=>yx lev p (wm s p u k) :: edsP lev s r (k + if p.bare then 0 else u.nn)
def yy (lev:List Wd->Int) (s:Sch):Pts->Nat->List Nd
 | .nil,_=>[]
 | .cons p u r,k=>(if p.bare then [] else ndsT lev s u k) ++ yy lev s r (k + if p.bare then 0 else u.nn)
end
mutual
theorem kX (lev:List Wd->Int) (s:Sch):∀ (t:Ty) (k:Nat),(ndsT lev s t k).length=t.nn
 | .mk h ps,k=>by
  simp only [ndsT,Ty.nn];split
  ·rfl
  ·rw [List.length_cons,yz lev s ps];omega
theorem yz (lev:List Wd->Int) (s:Sch):∀ (ps:Pts) (k:Nat),(yy lev s ps k).length=ps.nn
 | .nil,k=>rfl
 | .cons p u r,k=>by
  simp only [yy,Pts.nn,List.length_append,yz lev s r];split
  ·rfl
  ·rw [kX lev s u]
end
abbrev Ov (s:Sch) (aJ:List Nat) (lc:List DV) (n:Nat):List DV:=pC s aJ (.pt lc 0) (.sl 0 (List.replicate n []) (some 0)) (.v (.int .i64 0)) (.sl 1 (dInts (namedL s)) none)
abbrev IZ (n:Nat) (base:List DV):TkE:=⟨n,91,7,some base⟩
def WE (s:Sch) (aJ:List Nat) (lc:List DV) (m:Int) (n:Nat) (base:List DV) (y:DV) (zR:List Nd) (r:DV) (os:List (List DV)) (tk:List TkE):Prop:=
 r=y/\os=[bC s (.pt lc 0) (.loc 1 0) m,Ov s aJ lc (n + zR.length)]/\tk=[IZ (n + zR.length) (base ++ (bG zR).flatten)]
def QN (lev:List Wd->Int) (s:Sch) (aJ:List Nat) (lc:List DV) (m:Int) (t:Ty):Prop:=
 ∀ (n:Nat) (base:List DV),n + t.nn<=1099511627776->base.length=n * 7 ->
  Ev prog 52 [.loc 0 0,.agg (eK t)] [bC s (.pt lc 0) (.loc 1 0) m,Ov s aJ lc n] [IZ n base] (WE s aJ lc m n base (.v (.int .i64 (oT s t n))) (ndsT lev s t n))
theorem M3 {X:Lx} (hX:X.OK) (s:Sch) (aJ:List Nat) (m:Int) (p:Ph) (u:Ty) (hp:p.wt<=1099511627776) (cS:p.bare=false->QN X.lev s aJ (iW X.af (dt X.af X.aJ) X.rows X.js) m u)
  (n:Nat) (base:List DV) (hb:p.bare=false->n + u.nn<=1099511627776) (hbl:base.length=n * 7) :
  Ev prog 119 [.loc 0 0,.agg (Ia p (eK u))] [bC s (.pt (iW X.af (dt X.af X.aJ) X.rows X.js) 0) (.loc 1 0) m,Ov s aJ (iW X.af (dt X.af X.aJ) X.rows X.js) n] [IZ n base]
   (WE s aJ (iW X.af (dt X.af X.aJ) X.rows X.js) m n base (.agg (C4 (yx X.lev p (wm s p u n)))) (if p.bare then [] else ndsT X.lev s u n)):=by
 have HE:wdsWt p.label + wdsWt p.cl<=p.wt:=by simp only [Ph.wt];omega
 have Oi:X.pd = .pt (iW X.af (dt X.af X.aJ) X.rows X.js) 0:=rfl;have zP:=fun pc=>yv hX s pc m p.label (by omega);have YQ:=fun pc=>yv hX s pc m p.cl (by omega);rw [Oi] at zP YQ;have hE:=fun to=>yx.eq_1 X.lev p to;have mw:=wm.eq_1 s p u n;generalize iW X.af (dt X.af X.aJ) X.rows X.js=lc at zP YQ cS ⊢;obtain ⟨ae,order,types,⟨rh,rp⟩⟩:=s;obtain ⟨uh,us⟩:=u;refine eG 52 [.cell 4 193] func119 rfl ntmps119 rfl fun _ _ _ _=>?_;have WG:=zP [.pt lc 0,.sl 0 (List.replicate n []) none,.v (.int .i64 0),.pt (dt (tL ⟨ae,order,types,.mk rh rp⟩) aJ) 0,.sl 1 (dInts (namedL ⟨ae,order,types,.mk rh rp⟩)) none];have WH:=YQ [.pt lc 0,.sl 0 (List.replicate n []) none,.v (.int .i64 0),.pt (dt (tL ⟨ae,order,types,.mk rh rp⟩) aJ) 0,.sl 1 (dInts (namedL ⟨ae,order,types,.mk rh rp⟩)) none];apply pw (fun _=>false) 11 15 [0,1,2,3,4,5,6,7,8,9,10,11,12,13,14,15,16] [0,1,2,3,4,5,6,7,8,9,10,15,11,12,13,14,16] 4 4 mo (by decide +kernel)
 ·refine km KO WG ax rfl rfl ?_;refine (?_:@Eq St _ _);exact rfl
 ·refine km KO WG ax rfl rfl ?_;refine (⟨rfl,rfl,?_⟩:_/\_/\_)
  repeat' (first | exact trivial | refine ⟨rfl,?_⟩)
 ·rfl
 refine br ?_ ?_<;>intro hw
 ·have hw:p.wide=0:=sU hw;refine ni [4] (fun _=>false) mo (by decide +kernel) ?_;refine km KO WH ax rfl rfl ?_;refine br ?_ ?_<;>intro hB
  ·have hB:p.bare=false:=sU hB;refine fN 2 1 TA rfl rfl rfl gQ gQ (cS hB n base (hb hB) hbl) (fun r j4 cM hΦ h1 h2=>?_);obtain ⟨rfl,rfl,rfl⟩:=hΦ;refine ⟨.agg (C4 ⟨p.name.s,p.bare,p.name.a,oT ⟨ae,order,types,.mk rh rp⟩ (.mk uh us) n,X.lev p.label,3,p.ck,p.cn,X.lev p.cl,p.ca⟩),[bC ⟨ae,order,types,.mk rh rp⟩ (.pt lc 0) (.loc 1 0) m,Ov ⟨ae,order,types,.mk rh rp⟩ aJ lc (n + (ndsT X.lev ⟨ae,order,types,.mk rh rp⟩ (.mk uh us) n).length)],ax,gQ,?_,?_,?_⟩
   ·simp [hE,wm,hB,mv,hw]
   ·simp [hB]
   ·simp [hB]
  ·have hB:p.bare=true:=sU hB;refine ⟨.agg (C4 ⟨p.name.s,p.bare,p.name.a,-1,X.lev p.label,3,p.ck,p.cn,X.lev p.cl,p.ca⟩),[bC ⟨ae,order,types,.mk rh rp⟩ (.pt lc 0) (.loc 1 0) m,Ov ⟨ae,order,types,.mk rh rp⟩ aJ lc n],ax,gQ,?_,?_,?_⟩
   ·simp [hE,wm,hB,mv,hw]
   ·simp [hB]
   ·simp [hB,bG]
 ·have hw:¬ p.wide=0:=sU hw;refine ni [4] (fun _=>false) mo (by decide +kernel) ?_;refine km KO WH ax rfl rfl ?_;refine br ?_ ?_<;>intro hB
  ·have hB:p.bare=false:=sU hB;refine fN 2 1 TA rfl rfl rfl gQ gQ (cS hB n base (hb hB) hbl) (fun r j4 cM hΦ h1 h2=>?_);obtain ⟨rfl,rfl,rfl⟩:=hΦ;refine ⟨.agg (C4 ⟨p.name.s,p.bare,p.name.a,oT ⟨ae,order,types,.mk rh rp⟩ (.mk uh us) n,X.lev p.label,p.wide,p.ck,p.cn,X.lev p.cl,p.ca⟩),[bC ⟨ae,order,types,.mk rh rp⟩ (.pt lc 0) (.loc 1 0) m,Ov ⟨ae,order,types,.mk rh rp⟩ aJ lc (n + (ndsT X.lev ⟨ae,order,types,.mk rh rp⟩ (.mk uh us) n).length)],ax,gQ,?_,?_,?_⟩
   ·simp [hE,wm,hB,mv,hw]
   ·simp [hB]
   ·simp [hB]
  ·have hB:p.bare=true:=sU hB;refine ⟨.agg (C4 ⟨p.name.s,p.bare,p.name.a,-1,X.lev p.label,p.wide,p.ck,p.cn,X.lev p.cl,p.ca⟩),[bC ⟨ae,order,types,.mk rh rp⟩ (.pt lc 0) (.loc 1 0) m,Ov ⟨ae,order,types,.mk rh rp⟩ aJ lc n],ax,gQ,?_,?_,?_⟩
   ·simp [hE,wm,hB,mv,hw]
   ·simp [hB]
   ·simp [hB,bG]
def nd0 (h:Hd):List DV:=[.v (.int .i64 h.ag),.v (.int .i64 h.aO),.v (.int .i64 h.lo),.v (.int .i64 h.hi),.v (.int .i64 h.most),.sl 1 (fF (az h.af)) none,.v (.slice none 0 0)]
theorem T7 {h:Hd} {base R:List DV} {n:Nat} {x:DV} (hb:base.length=n * 7):(base ++ (nd0 h ++ R)).set (n * 7 + 6) x=base ++ ([.v (.int .i64 h.ag),.v (.int .i64 h.aO),.v (.int .i64 h.lo),.v (.int .i64 h.hi),.v (.int .i64 h.most),.sl 1 (fF (az h.af)) none,x] ++ R):=by
 rw [List.set_append_right _ _ (by omega),hb,Nat.add_sub_cancel_left];rfl
theorem Bb (l:List Ed) (e:Ed):dT l ++ [C4 e]=dT (l ++ [e]):=by simp [dT]
theorem bw (l:List Ed):(dT l).length=l.length:=by simp [dT]
theorem si (lev:List Wd->Int) (s:Sch):∀ (ps:Pts) (k:Nat),(edsP lev s ps k).length=ps.len
 | .nil,_=>rfl
 | .cons p u r,k=>by simp [edsP,Pts.len,si lev s r]
abbrev acV (s:Sch) (aJ:List Nat) (lc:List DV) (m:Int) (n:Nat) (base:List DV) (h:Hd) (ps:Pts) (q e:Nat):St:=
 ⟨[aE 0 0,aE 3 2,au 7 n,aE 8 3,aM 61 2 (bT h.af),au 62 ((bT h.af).length),au 63 e],
  [bC s (.pt lc 0) (.loc 1 0) m,Ov s aJ lc n,eK (.mk h ps),[.v (.int .i64 h.ag),.v (.int .i64 h.aO),.v (.int .i64 h.lo),.v (.int .i64 h.hi),.v (.int .i64 h.most),.sl 1 (fF (az (h.af.take e))) (some 1),.v (.slice none 0 0)]],
  [IZ n base,⟨q,9,1,none⟩]⟩
abbrev QO (s:Sch) (aJ:List Nat) (lc:List DV) (m:Int) (n:Nat) (h:Hd) (ps:Pts) (n':Nat) (sj:List DV) (Es:List Ed) (q1 q2 e:Nat):St:=
 ⟨[aE 0 0,aE 3 2,au 7 n,(11,⟨[],.sl 10 (dT Es) (some 2)⟩),aM 92 18 (gG ps),au 93 ((gG ps).length),au 94 e],
  [bC s (.pt lc 0) (.loc 1 0) m,Ov s aJ lc n',eK (.mk h ps)],
  [IZ n' sj,⟨q1,9,1,none⟩,⟨q2,193,10,none⟩]⟩
theorem nG {X:Lx} {L:List ByteArray} {h:Hd} {ps:Pts} (hk:(knT X L (.mk h ps)).1=0):(h.ag=9->dy L h.name.s≠none)/\(knP X L ps).1=0:=by grind [knT]
theorem uf {X:Lx} {L:List ByteArray} {p:Ph} {u:Ty} {r:Pts} (hk:(knP X L (.cons p u r)).1=0):(p.bare=false->(knT X L u).1=0)/\(knP X L r).1=0:=by grind [knP]
theorem Bc {X:Lx} (hX:X.OK) (s:Sch) (aJ:List Nat) (m:Int) (hT:iU (tL s) aJ) (lx:aJ.length<=1099511627776):∀ (k:Nat) (t:Ty),t.wt<=k->t.wt<=1099511627776->(knT X (tL s) t).1=0 ->
  QN X.lev s aJ (iW X.af (dt X.af X.aJ) X.rows X.js) m t
 | 0,t,hn,_,_=>by have:=t.fk;omega
 | k + 1,.mk h ps,hn,cQ,Kw=>by
  have ih:=Bc hX s aJ m hT lx k;intro n base Z8 hbl;obtain ⟨hk9,YR⟩:=nG Kw;have bR:=fun (p:Ph) (u:Ty)=>M3 hX s aJ m p u;generalize iW X.af (dt X.af X.aJ) X.rows X.js=lc at ih bR ⊢;simp only [Ty.wt,Hd.wt] at hn cQ;have gP:=ps.gF;have fI:=bI h.af;have hf:=jz (tL s) aJ h.name.s hT lx;have hZ:=kW s;have hnmL:(namedL s).length=s.types.length:=by simp [namedL]
  have T8:oT s (.mk h ps) n=if h.ag=9 then YP s h.name.s else (n:Int):=rfl
  have M4:ndsT X.lev s (.mk h ps) n=if h.ag=9 then [] else ⟨h.ag,h.aO,h.lo,h.hi,h.most,az h.af,edsP X.lev s ps (n + 1)⟩ :: yy X.lev s ps (n + 1):=by rw [ndsT]
  have hnn:(Ty.mk h ps).nn=if h.ag=9 then 0 else 1 + ps.nn:=by rw [Ty.nn]
  generalize hS:s=S at *;subst hS;obtain ⟨ae,order,types,⟨rh,rp⟩⟩:=s;refine eG 117 [.tmp 4] func52 rfl ntmps52 rfl fun _ _ _ _=>?_;refine br ?_ ?_<;>intro h9
  ·have h9:h.ag=9:=sU h9;obtain ⟨i,hi⟩:=Option.ne_none_iff_exists'.1 (hk9 h9);have we:=(dG hi).1;rw [hi] at hf;rw [ap h9] at T8 M4;have iz:(namedL ⟨ae,order,types,.mk rh rp⟩)[i]? = some (namedN ⟨ae,order,types,.mk rh rp⟩ i):=by grind [namedL]
   refine dI ?_;refine cD oF hf ?_;refine iX (aR iz) ?_;refine ⟨.v (.int .i64 (namedN ⟨ae,order,types,.mk rh rp⟩ i:Nat)),[bC ⟨ae,order,types,.mk rh rp⟩ (.pt lc 0) (.loc 1 0) m,Ov ⟨ae,order,types,.mk rh rp⟩ aJ lc n],ax,gQ,?_,?_,?_⟩
   ·rw [T8,YP,hi];rfl
   ·rw [M4];rfl
   ·rw [M4];simp [bG]
  have h9:¬ h.ag=9:=sU h9;rw [aj h9] at T8 M4 hnn;have dK:(List.replicate n ([]:List DV)).length=n:=List.length_replicate;refine lJ (fun e=>acV ⟨ae,order,types,.mk rh rp⟩ aJ lc m n base h ps e e) h.af.length (cX 4 ⟨0,9,1,none⟩ rfl rfl rfl (jM dK) rfl rfl (cJ dK)) ?_;intro e he;refine br ?_ ?_<;>intro hL
  ·have aq:e < h.af.length:=by simpa [aD] using hL
   obtain ⟨w,hw⟩:=gX aq;have dx:=ku hw;refine ⟨kP w,⟨by omega,bd hw⟩,?_⟩;refine ⟨by simp [cG,az];omega,⟨by simp [cG,az,maxLen];omega,by simp [cG,az];omega⟩,?_⟩;exact rE ⟨_,by omega,e + 1,rfl,by omega,rfl⟩ (bZ 4 (lY (aG aq (by omega)) dx) (wB2 (aG aq (by omega)) dx))
  have hge:e=h.af.length:=by have:=hL;simp [aD] at this;omega
  subst hge;rw [List.take_length];refine dS ?_;refine ⟨⟨⟨dK,by simp⟩,by simp [maxLen];omega,by simp;omega⟩,?_⟩
  refine aY (fun j st=>∃ (e n':Nat) (sj:List DV) (Es:List Ed) (K:List Nd),st=QO ⟨ae,order,types,.mk rh rp⟩ aJ lc m n h ps n' sj Es h.af.length e e/\e<=ps.len/\n'=n + 1 + K.length/\sj=base ++ (nd0 h ++ (bG K).flatten)/\Es.length=e /\
    K ++ yy X.lev ⟨ae,order,types,.mk rh rp⟩ (ps.drop e) (n + 1 + K.length)=yy X.lev ⟨ae,order,types,.mk rh rp⟩ ps (n + 1)/\Es ++ edsP X.lev ⟨ae,order,types,.mk rh rp⟩ (ps.drop e) (n + 1 + K.length)=edsP X.lev ⟨ae,order,types,.mk rh rp⟩ ps (n + 1)/\K.length + (ps.drop e).nn=ps.nn/\(knP X (tL ⟨ae,order,types,.mk rh rp⟩) (ps.drop e)).1=0/\j=ps.len - e) ps.len
   (QO ⟨ae,order,types,.mk rh rp⟩ aJ lc m n h ps (n + 1) (base ++ (nd0 h ++ [])) [] h.af.length 0 0) (cX 3 ⟨0,193,10,none⟩ rfl rfl rfl qL rfl rfl lj) ⟨0,n + 1,_,[],[],rfl,by omega,rfl,rfl,rfl,rfl,rfl,by simp [Pts.drop],YR,by omega⟩ ?_
  rintro j st ⟨e,n',sj,Es,K,rfl,he,Vy,fD,ZV,hK,Z9,hKn,Ou,rfl⟩
  have hbl':sj.length=n' * 7:=by
   have:∀ l:List Nd,(bG l).flatten.length=l.length * 7:=by
    intro l
    induction l with
    | nil=>rfl
    | cons a r ih=>simp only [bG,List.map_cons,List.flatten_cons,List.length_append,List.length_cons] at ih ⊢;rw [ih];simp only [j5,List.length_cons,List.length_nil];omega
   rw [fD,List.length_append,List.length_append,this,hbl,Vy];simp only [nd0,List.length_cons,List.length_nil];omega
  refine br ?_ ?_<;>intro hL
  ·have aq:e < ps.len:=by simpa [aN] using hL
   obtain ⟨p,u,hx⟩:=Pts.fl aq;have HD:=Pts.gY (mG hx);rw [Pts.drop_cons hx] at hK Z9 hKn Ou;obtain ⟨kh,Kz⟩:=uf Ou;simp only [yy] at hK;simp only [edsP] at Z9;simp only [Pts.nn] at hKn;rw [<- Vy] at hK Z9;have O5:=u.ib;have huc:=u.fm;have dQ:=bR p u (by omega) (fun hB=>ih u (by omega) (by omega) (kh hB)) n' sj (fun hB=>by rw [hB] at hKn;simp only [Bool.false_eq_true,if_false] at hKn;omega) hbl';have acW:=kX X.lev ⟨ae,order,types,.mk rh rp⟩ u n';obtain ⟨uh,us⟩:=u;refine iX (cq hx) ?_;refine fN 2 1 abf rfl rfl rfl gQ gQ dQ (fun r j4 cM hΦ h1 h2=>?_);obtain ⟨rfl,rfl,rfl⟩:=hΦ;refine ⟨by rw [bw,ZV],⟨by simp [bw,ZV,maxLen];omega,by simp [bw,ZV];omega⟩,?_⟩
   have hnl2:(if p.bare then [] else ndsT X.lev ⟨ae,order,types,.mk rh rp⟩ (.mk uh us) n').length=if p.bare then 0 else (Ty.mk uh us).nn:=by
    split
    ·rfl
    ·exact acW
   have hidx2:n + 1 + (K.length + (if p.bare then 0 else (Ty.mk uh us).nn))=n' + if p.bare then 0 else (Ty.mk uh us).nn:=by rw [Vy];omega
   refine ⟨QO ⟨ae,order,types,.mk rh rp⟩ aJ lc m n h ps (n' + (if p.bare then [] else ndsT X.lev ⟨ae,order,types,.mk rh rp⟩ (.mk uh us) n').length) (sj ++ (bG (if p.bare then [] else ndsT X.lev ⟨ae,order,types,.mk rh rp⟩ (.mk uh us) n')).flatten) (Es ++ [yx X.lev p (wm ⟨ae,order,types,.mk rh rp⟩ p (.mk uh us) n')]) h.af.length (e + 1) (e + 1),(bZ 3 (by repeat' (first | exact rfl | exact aA rfl | exact aC (aG aq (by omega)) | exact cH (Bb _ _) rfl | refine ⟨_,_,rfl,?_,?_⟩)) (by repeat' (first | exact trivial | exact aA rfl | exact aC (aG aq (by omega)) | exact cH (Bb _ _) rfl | refine ⟨⟨_,rfl,?_⟩,?_⟩))),
    ps.len - (e + 1),by omega,e + 1,_,_,_,K ++ (if p.bare then [] else ndsT X.lev ⟨ae,order,types,.mk rh rp⟩ (.mk uh us) n'),rfl,by omega,?_,?_,?_,?_,?_,?_,Kz,rfl⟩
   ·rw [List.length_append,Vy];omega
   ·rw [fD];simp [bG]
   ·simp [ZV]
   ·simp_all
   ·simp_all
   ·rw [List.length_append,hnl2];omega
  ·have hge:e=ps.len:=by have:=hL;simp [aN] at this;omega
   subst hge;rw [Pts.dR] at hK Z9;simp only [yy,List.append_nil] at hK;simp only [edsP,List.append_nil] at Z9;have hKl:K.length=ps.nn:=by rw [hK,yz]
   have hrl2:(List.replicate n' ([]:List DV)).length=n':=List.length_replicate;refine MW (kt:=0) ⟨rfl,rfl⟩ ⟨rfl,rfl,rfl⟩ ⟨rfl,rfl,rfl⟩ rfl rfl rfl rfl rfl rfl rfl rfl rfl rfl rfl hrl2 ⟨by omega,by omega⟩ (by decide) ?_;have acX:n + (ndsT X.lev ⟨ae,order,types,.mk rh rp⟩ (.mk h ps) n).length=n':=by rw [M4,List.length_cons,<- hK,Vy];omega
   have n7:sj.set ((n:Int).toNat * 7 + 6) (.sl 10 (dT Es) none)=base ++ (bG (ndsT X.lev ⟨ae,order,types,.mk rh rp⟩ (.mk h ps) n)).flatten:=by
    rw [fD,show (n:Int).toNat=n by omega,T7 hbl,M4,Z9,hK];rfl
   refine ⟨.v (.int .i64 n),[bC ⟨ae,order,types,.mk rh rp⟩ (.pt lc 0) (.loc 1 0) m,Ov ⟨ae,order,types,.mk rh rp⟩ aJ lc n'],ax,gQ,?_,?_,?_⟩
   ·rw [T8]
   ·rw [acX]
   ·rw [acX,<- n7];rfl
end Go.Proofs.YtgjagnmeonoehaaGreat
namespace Go.Proofs.YtgjagnmeonoehaaGreat
namespace Dv
open Go Go.RowKit
section
variable {X:Ctx} {st:St} {k:List It} {E:En} {a:Act} {w:World} {ops:Array Oper} {W:Nat->Bool} {C:World->Prop} {Q:Act->World->Prop} {i:Nat} {r:List Nat} {o:Oper}
theorem dB (hg:o.guard=none):Region.wanted o (yielded ops a.tmps)=true:=by
 unfold Region.wanted;rw [hg]
theorem T9 {bx:List (List DV)} {wr:World} (h:Rel X E st a w) (hE:vD E bx wr) (hC:∀ w',C w' -> CC E bx wr w'):Rl E bx C st.sl a where
 tm:=h.tm
 eM:=fun i cs hi=>by
  by_cases bA:cs=[]
  ·subst bA;have aq:i < E.β.length:=by rw [hE.len];exact (gS hi).1
   exact ⟨_,[],gE aq,⟨cV _,by simp⟩,fun w' _ j u hj=>by simp at hj⟩
  ·obtain ⟨b,ty,arr,hb,hw,hc⟩:=hE.eM i cs hi bA;exact ⟨b,arr,hb,hc,fun w' h' j u hj=>by rw [cC (((hC w' h').o i b cs hb hi bA).trans hw)];simpa using hj⟩
 cc:=fun x v hx w' h'=>(hC w' h').c x v hx
theorem Ua {bx:List (List DV)} (h:Env E bx w) (m:List Nat):vD E (maskL m 0 bx) w:=⟨by rw [tG];exact h.len,fun i cs hi bA=>by
 rcases tH m _ _ _ _ hi with h1 | h1
 ·exact (bA h1).elim
 ·exact h.eM i cs h1⟩
theorem fv (hR:Rel X E st a w) (ho:ops[i]? = some o) (hE:isE o.op=false) (hL:isL o.op=false) (hg:o.guard=none) {s:DV} (hs:pureT X.P X.T ⟨st.sl,[],[]⟩ [] o.op=some s) (hd:eJ X.nt st.sl o.dst=true)
  (hk:∀ a',Rel X E (st.put o.dst ⟨[],s⟩) a' w->runT X.P ops W C Q r a' w):runT X.P ops W C Q (i :: r) a w:=by
 have dK:Rl E [] (fun _=>False) st.sl a:=⟨hR.tm,fun i cs hi=>by simp at hi,fun _ _ _ _ h=>h.elim⟩;obtain ⟨v,hv,ct⟩:=ji (st:=⟨st.sl,[],[]⟩) X.hT dK (bq _) hs;simp only [runT,ho,hE,Bool.false_eq_true,if_false];exact ⟨v,.inl ⟨dB hg,fun w' _=>ct w' fun h=>by rw [hL] at h;cases h⟩,fun h=>(by rw [hL] at h;cases h),hk _ (bi hR hd s v hv)⟩
theorem Ub (hR:Rel X E st a w) (ho:ops[i]? = some o) {bx:List (List DV)} (dK:Rl E bx C st.sl a) (XR:C w) (hE:isE o.op=false) (hg:o.guard=none) {s:DV} (hs:pureT X.P X.T ⟨st.sl,bx,[]⟩ [] o.op=some s) (hd:eJ X.nt st.sl o.dst=true)
  (hk:∀ a',Rel X E (st.put o.dst ⟨[],s⟩) a' w->runT X.P ops W C Q r a' w):runT X.P ops W C Q (i :: r) a w:=by
 obtain ⟨v,hv,ct⟩:=ji (st:=⟨st.sl,bx,[]⟩) X.hT dK (bq _) hs;simp only [runT,ho,hE,Bool.false_eq_true,if_false];exact ⟨v,.inl ⟨dB hg,fun w' h=>ct w' h⟩,fun _=>XR,hk _ (bi hR hd s v hv)⟩
theorem Uc (hR:Rel X E st a w) (ho:ops[i]? = some o) {t x d:Nat} {b p j:Nat} {n:Nat} {kd:TK} {z:List Value} (hb:E.β[j]? = some b) (qq:o.op = .load t (.tmp x)) (jm:o.dst=some d) {i2 I0 b2:Nat} (iQ:E.β[i2]? = some b2) (hx:rv st [] (.tmp x)=some (.loc i2 p)) (hT:X.T.find t=some ⟨n,false,kd,z⟩)
  (hC:∀ w',C w' -> w'.cell? ⟨b2,p,none⟩=some (.pointer (some ⟨b,I0,none⟩))) (XR:C w) (hg:o.guard=none) (hd:eJ X.nt st.sl (some d)=true)
  (hk:∀ a',Rel X E ⟨(d,⟨[],.loc j I0⟩) :: st.sl,st.bx,st.tk⟩ a' w->runT X.P ops W C Q r a' w):runT X.P ops W C Q (i :: r) a w:=by
 have hE:isE o.op=false:=by rw [qq];all_goals rfl
 simp only [runT,ho,hE,Bool.false_eq_true,if_false];have hv:Rv E (.loc j I0) (.pointer (some ⟨b,I0,none⟩)):=by unfold Rv;exact ⟨b,hb,rfl⟩
 refine ⟨.pointer (some ⟨b,I0,none⟩),.inl ⟨dB hg,fun w' h=>?_⟩,fun _=>XR,?_⟩
 ·have hC':=hC w' (h (by rw [qq];rfl));have e1:=aX hR.rl hx;unfold Rv at e1;obtain ⟨b3,Kt,e1⟩:=e1;rw [iQ] at Kt;simp only [oI] at Kt;subst Kt;have Ta:=(te_parts X.hT hT).2.1
  have hl:(loadVar t ⟨b2,p,none⟩).run X.P w' = .ok (.pointer (some ⟨b,I0,none⟩)) w':=by
   simp [loadVar,kF Ta,hC']
  simp only [execOp,qq,e1,Sem.run_bind,Instr.loadAt,Instr.sureAddr,Sem.run_pure,Result.andThen_ok,hl]
 ·rw [jm];exact hk _ (bi hR hd (.loc j I0) _ hv)
theorem M5 (hR:Rel X E st a w) (ho:ops[i]? = some o) {dst:Option Nat} {f:Operand} {args:Array Operand} {tys:Array TypeId} (qq:o.op = .call ⟨.value f,args,tys⟩) (jm:o.dst=dst) (hg:o.guard=none) {g:FuncId} {ds:List DV} (hf:rv st [] f=some (.fn g [] [])) (hl:argsV st [] args.toList=some ds) (lm:Enters X.P g)
  {K:Value->World->Prop} (hc:∀ vs,RvL E ds vs->Calls X.P g vs.toArray w fun e w'=>∃ v,e = .returned v/\K v w') (hk:∀ v w',K v w' -> (W i=false->C w->C w')/\runT X.P ops W C Q r (a.put dst v) w'):runT X.P ops W C Q (i :: r) a w:=by
 have hE:isE o.op=true:=by rw [qq];all_goals rfl
 have WI:=dB (ops:=ops) (a:=a) hg;have dK:=hR.rl;have e1:=aX dK hf;unfold Rv at e1;obtain ⟨l1,r1,e1,zP,hr1⟩:=e1;simp only [RvL] at zP hr1;subst zP hr1;have hargs:=jh dK (bq _) _ _ hl;simp only [runT,ho,hE,if_true,ez,WI];subst jm;obtain ⟨dst,op,ty,pos,after,gu⟩:=o;simp only at qq;subst qq
 have hr:(execOp a.eval ⟨dst,.call ⟨.value f,args,tys⟩,ty,pos,after,gu⟩).run X.P w = .ok (.enter g (args.toList.map a.eval).toArray) w:=by
  have e3:(([]:List Value).toArray ++ args.map a.eval ++ ([]:List Value).toArray)=(args.toList.map a.eval).toArray:=by apply Array.ext';simp
  simp only [execOp,resolve,e1,Deferred.ofValue,Sem.run_bind,Sem.run_pure,Result.andThen_ok,invoke,e3];exact lm _ _
 unfold wq;rw [hr];refine (hc _ hargs).mono ?_;rintro e w' ⟨v,rfl,hK⟩;exact ⟨v,rfl,hk v w' hK⟩
theorem Ud (hR:Rel X E st a w) (ho:ops[i]? = some o) {dst:Option Nat} {f:Operand} {args:Array Operand} {tys:Array TypeId} (qq:o.op = .call ⟨.value f,args,tys⟩) (jm:o.dst=dst) (hg:o.guard=none) {g:FuncId} {ds Yb:List DV} (hf:rv st [] f=some (.fn g [] [])) (hl:argsV st [] args.toList=some ds) (lm:Enters X.P g)
  {os:List (List DV)} (n1 m1:Nat) (zM:Nat.ble n1 st.bx.length=true) (jY:Nat.ble m1 st.tk.length=true) (zN:n4 [] n1 n1 m1 os (st.bx.take n1)) (ha:CcL [] n1 n1 m1 Yb ds)
  {Φ:DV->List (List DV)->List TkE->Prop} (hc:Ev X.P g Yb os (st.tk.take m1) Φ) (aW:X.still=false) (hX:X.bt=[])
  (hk:∀ v r' j4 cM E' w',Φ r' j4 cM -> j4.length=n1->cM.length=m1->Rel X E' ⟨st.sl,j4 ++ st.bx.drop n1,cM ++ st.tk.drop m1⟩ a w' -> Rv E' r' v->Ext E E' -> E'.β=E.β->(∀ (i:Nat) b,n1<=i->E.β[i]? = some b->w'.heap[b]? = w.heap[b]?) ->
   (W i=false->C w->C w')/\runT X.P ops W C Q r (a.put dst v) w'):runT X.P ops W C Q (i :: r) a w:=by
 refine M5 hR ho qq jm hg hf hl lm (K:=fun v w'=>∃ r' j4 cM E',Φ r' j4 cM /\ j4.length=n1/\cM.length=m1/\Rel X E' ⟨st.sl,j4 ++ st.bx.drop n1,cM ++ st.tk.drop m1⟩ a w' /\ Rv E' r' v/\Ext E E' /\ E'.β=E.β/\∀ (i:Nat) b,n1<=i->E.β[i]? = some b->w'.heap[b]? = w.heap[b]?)
  (fun vs hv=>?_) ?_
 ·refine (FC n1 m1 zM jY zN ha hc aW hX hR hv).mono ?_
  grind
 ·grind
theorem Ue (h:Rel X E st a w) (j o k:Nat) {n ty e:Nat} {ocs:List DV} {es ns:List (List DV)} (hq:st.tk[k]? = some ⟨n,ty,e,some ns.flatten⟩) (wb:∀ x∈ns,x.length=e) (fI:ns.length=n) (hj:st.bx[j]? = some ocs) (ho:ocs[o]? = some (.sl 0 es (some k))) (iO:es.length=n) :
  ∃ E',Rel X E' ⟨st.sl,st.bx.set j (ocs.set o (.sl e ns none)),st.tk.set k ⟨n,ty,e,none⟩⟩ a w:=IF hq wb fI hj ho iO E a w h
theorem M6 (hR:Rel X E st a w) (ho:ops[i]? = some o) (hE:isE o.op=true) (hg:o.guard=none) (hW:W i=true) (hd:eJ X.nt st.sl o.dst=true) {p:Prop} (hp:effC X st o (go X 4000 k)=some p) (h:p):runT X.P ops W C (fun a w=>kq X k .normal a w) [i] a w:=by
 have WI:=dB (ops:=ops) (a:=a) hg;simp only [runT,ho,hE,if_true,ez,WI];refine mY ?_ (mZ hd hR hp h);rintro a' w' ⟨st',E',j7,hr,_⟩;exact ⟨(fun h=>by rw [hW] at h;cases h),go_sound 4000 _ _ j7 _ _ _ hr⟩
mutual
theorem ug {i j:Nat}:∀ d:DV,renD (swp i j) (renD (swp i j) d)=d
 | .v x=>rfl
 | .ud=>rfl
 | .agg l=>by simp only [renD,kz]
 | .tup l=>by simp only [renD,kz]
 | .sl e es tk=>rfl
 | .pt cs o=>rfl
 | .loc k o=>by simp only [renD,nj]
 | .el k o=>by simp only [renD,nj]
 | .ms k e o l c=>by simp only [renD,nj]
 | .fn g l r=>by simp only [renD,kz]
 | .rB t x=>by simp only [renD,ug]
theorem kz {i j:Nat}:∀ l:List DV,renL (swp i j) (renL (swp i j) l)=l
 | []=>rfl
 | d :: r=>by simp only [renL,ug,kz]
end
theorem Bd {i j:Nat}:∀ l:List (Nat × Sl),renS (swp i j) (renS (swp i j) l)=l
 | []=>rfl
 | (k,⟨gs,s⟩) :: r=>by simp only [renS,ug,Bd]
theorem Be {i j:Nat}:∀ l:List (List DV),renO (swp i j) (renO (swp i j) l)=l
 | []=>rfl
 | c :: r=>by simp only [renO,kz,Be]
theorem QP {i j:Nat} (f:Nat->Nat) (l:List (List DV)) (hi:i < l.length) (hj:j < l.length):renO f (swL i j l)=swL i j (renO f l):=by
 apply List.ext_getElem?
 grind [xE,gR,ff]
theorem FR {i j:Nat} {S:St} (hi:i < S.bx.length) (hj:j < S.bx.length):eF i j (eF i j S)=S:=by
 obtain ⟨sl,bx,tk⟩:=S;simp only [eF,Bd];rw [QP _ _ (by rw [ff];exact hi) (by rw [ff];exact hj),Be];congr 1;apply List.ext_getElem?
 grind [gR,fX,nj]
theorem CallG.acY {f:FuncId} {args:List DV} {dst:Option Nat} (i j:Nat) (OP:Nat.ble X.n0 i=true) (xf:Nat.ble X.n0 j=true) (hi:Nat.blt i st.bx.length=true) (hj:Nat.blt j st.bx.length=true)
  (h:CallG X f (renL (swp i j) args) dst k (eF i j st)) (hX:X.bt=[]:=by exact rfl):CallG X f args dst k st:=by
 have iw:=hi;have jL:=hj;simp only [Nat.blt_eq] at iw jL;have hl:(eF i j st).bx.length=st.bx.length:=by simp only [eF,fX,ff]
 exact CallG.H7 i j (FR iw jL).symm (kz args).symm OP xf (by rw [hl];exact hi) (by rw [hl];exact hj) h hX
theorem I1 {P:Program} {t e:TypeId} (hu:P.underlying t=some (.slice e)) (d:Nat) (x:Option Addr) (n c:Nat) (w:World):(Op.equalIn (d + 1) t (.slice x n c) (.slice none 0 0)).run P w = .ok x.isNone w:=by
 cases x<;>simp [Op.equalIn,run_underlying hu]
theorem FT {P:Program} {t e:TypeId} (hu:P.underlying t=some (.slice e)) (x:Option Addr) (n c:Nat) (w:World):(Op.equal t (.slice x n c) (.slice none 0 0)).run P w = .ok x.isNone w:=I1 hu 9999 x n c w
theorem I2 {t d e:Nat} {x:Operand} {es:List (List DV)} {tk:Option Nat} {n et e' iT:Nat} {bb:Bool} {z:List Value} (qq:∃ t',o.op = .binOp .eql t x (.const (.slice none 0 0)) t') (jm:o.dst=some d) (hx:rv st [] x=some (.sl e es tk)) (hT:X.T.find t=some ⟨n,bb,.sl et e' iT,z⟩) (hd:eJ X.nt st.sl (some d)=true)
  (hk:∀ b:Bool,(es ≠ []->b=false)->go X 4000 k ⟨(d,⟨[],.v (.bool b)⟩) :: st.sl,st.bx,st.tk⟩):Md X o k st:=by
 intro E a w h;obtain ⟨t',qq⟩:=qq;have e1:=aX h.rl hx;unfold Rv at e1;obtain ⟨b,m,cap,e1,⟨rfl,_⟩,hr,_⟩:=e1;obtain ⟨hu,_⟩:=fh X.hT hT;have aP:=FT hu b es.length cap w
 have ct:(execOp a.eval o).run X.P w = .ok (.value (.bool b.isNone)) w:=by
  have hc:a.eval (.const (.slice none 0 0)) = .slice none 0 0:=rfl;simp [execOp,qq,e1,hc,eqGuard,binOp,aP]
 refine kL ct ?_;rw [jm];refine go_sound 4000 _ _ (hk b.isNone fun bA=>?_) E _ w (bi h hd (.v (.bool b.isNone)) _ (by unfold Rv;exact ⟨rfl,rfl⟩));have:=qH (hr bA).1;rw [this];rfl
theorem acZ {t d et e iT n:Nat} {bb:Bool} {z:List Value} (qq:o.op = .buildSlice t 0 #[]) (jm:o.dst=some d) (hT:X.T.find t=some ⟨n,bb,.sl et e iT,z⟩) (hd:eJ X.nt st.sl (some d)=true) (aW:X.still=false:=by exact rfl) (hX:X.bt=[]:=by exact rfl) :
  OpS X o st ⟨(d,⟨[],.sl e [] (some st.tk.length)⟩) :: st.sl,st.bx,st.tk ++ [⟨0,et,e,none⟩]⟩:=by
 intro E a w h;obtain ⟨hu,ii,zv,xg,hz,bW,vR,Og⟩:=fh X.hT hT;have n5:jc X.P et=some e:=by rw [gq xg,bW]
 have ct:(execOp a.eval o).run X.P w = .ok (.value (.slice (some ⟨w.heap.size,0,none⟩) 0 0)) (w.alloc (.cells #[] et)):=by
  have h1:(Instr.buildSlice t 0 #[]).run X.P w = .ok (.slice (some ⟨w.heap.size,0,none⟩) 0 0) (w.alloc (.cells #[] et)):=by
   have h0:Array.range 0 = #[]:=rfl;simp [Instr.buildSlice,run_underlying hu,aT n5,Instr.fill,newRow,h0]
  simp only [execOp,qq,List.map_toArray,List.map_nil,Sem.run_bind,h1,Result.andThen_ok,Sem.run_pure]
 refine eO ct ?_;rw [jm];have kh:=h.env.kb (w':=w.alloc (.cells #[] et)) fun i hi=>alloc_old w _ hi
 let E2:En:=⟨E.c,E.β,E.tk ++ [⟨0,et,e,none⟩],E.τ ++ [.slice (some ⟨w.heap.size,0,none⟩) 0 0]⟩
 have hext:Ext E E2:=⟨fun _ _ h=>h,fun _ _ h=>h,fun k q' hk=>by
  have aq:=(gS hk).1;refine ⟨q',by show (E.tk ++ _)[k]? = _;rw [dc aq];exact hk,.inl ⟨rfl,?_⟩⟩;show (E.τ ++ _)[k]? = _
  rw [dc (by rw [h.env.tl];exact aq)]⟩
 have hτ:∀ (k:Nat) y,E2.τ[k]? = some y->(k < E.τ.length/\E.τ[k]? = some y)∨(k=E.τ.length/\y = .slice (some ⟨w.heap.size,0,none⟩) 0 0):=fun k y hy=>by grind
 have dJ:∀ (k:Nat) y g,E.τ[k]? = some y->y.ownBlock=some g->g < w.heap.size:=fun k y g hy hg=>(h.env.own (mG hy) hg).1
 have bS:Rel X E2 ⟨st.sl,st.bx,st.tk ++ [⟨0,et,e,none⟩]⟩ a (w.alloc (.cells #[] et)):=by
  refine dE h hext ?_ (by show E.tk ++ _=_;rw [h.tk]) ?_ (h.fr.alloc _) (mV aW) (.nil hX)
  ·exact {
    len:=h.env.len
    tl:=by show (E.τ ++ _).length=(E.tk ++ _).length;simp [h.env.tl]
    eM:=fun i cs hi=>by
     obtain ⟨b,t,arr,hb,hw,hc⟩:=kh.eM i cs hi;exact ⟨b,t,arr,hb,hw,hc.mono hext⟩
    inj:=h.env.inj
    sub:=kh.sub
    pc:=h.env.pc
    bO:=fun k q' y WJ hy=>by
     rcases hτ k y hy with ⟨aq,gp⟩ | ⟨rfl,rfl⟩
     ·have fH:(E.tk ++ [⟨0,et,e,none⟩])[k]? = some q':=WJ;rw [dc (by rw [<- h.env.tl];exact aq)] at fH;exact kh.bO k q' y fH gp
     ·have fH:(E.tk ++ [⟨0,et,e,none⟩])[E.τ.length]? = some q':=WJ;rw [List.getElem?_append_right (by rw [h.env.tl];exact aV _),h.env.tl] at fH;simp only [Nat.sub_self,List.getElem?_cons_zero,oI] at fH;subst fH;refine .inr ⟨w.heap.size,0,#[],rfl,jd w _,⟨by simp,rF.none rfl⟩,aV _,Nat.zero_le _,fun hm=>?_,fun x v hx Ec=>?_⟩
      ·have:=h.env.bh hm;omega
      ·have:=World.block_lt_of_cell? w x (h.env.sub x v hx);omega
    je:=fun k k' y y' g Eb hy gp hg rm=>by
     rcases hτ k y hy with ⟨_,uU⟩ | ⟨rfl,rfl⟩
     ·rcases hτ k' y' gp with ⟨_,lk⟩ | ⟨rfl,rfl⟩
      ·exact h.env.je k k' y y' g Eb uU lk hg rm
      ·have:=dJ k y g uU hg;simp only [Value.ownBlock,oI] at rm;omega
     ·rcases hτ k' y' gp with ⟨_,lk⟩ | ⟨rfl,rfl⟩
      ·have:=dJ k' y' g lk rm;simp only [Value.ownBlock,oI] at hg;omega
      ·exact Eb rfl }
  ·exact {
    c:=h.nw.c
    cn:=h.nw.cn
    β:=h.nw.β
    tk:=fun j q0 y0 s5 zT=>by
     obtain ⟨q',y',h1,h2,h3⟩:=h.nw.tk j q0 y0 s5 zT
     grind
    tn:=fun j y g hj hy hg=>by
     rcases hτ j y hy with ⟨_,uU⟩ | ⟨_,rfl⟩
     ·exact h.nw.tn j y g hj uU hg
     ·simp only [Value.ownBlock,oI] at hg;have:=h.fr.size;omega
    l0:=h.nw.l0 }
 refine ⟨E2,bi bS hd (.sl e [] (some st.tk.length)) _ ?_,hext,⟨[],by simp [E2]⟩,fun i b hb _=>alloc_old w _ (h.env.bh (mG hb))⟩;unfold Rv;refine ⟨_,0,0,rfl,⟨rfl,aV _⟩,fun hn=>(hn rfl).elim,fun k' fH=>?_⟩;cases fH;refine ⟨⟨0,et,e,none⟩,?_,aV _,fun _=>?_⟩
 ·show (E.tk ++ _)[st.tk.length]? = _;rw [h.tk];simp
 ·show (E.τ ++ _)[st.tk.length]? = _;rw [<- h.tk,<- h.env.tl];simp
theorem yA {t d et e iT n:Nat} {bb:Bool} {z:List Value} (qq:o.op = .buildSlice t 0 #[]) (jm:o.dst=some d) (hT:X.T.find t=some ⟨n,bb,.sl et e iT,z⟩) (hd:eJ X.nt st.sl (some d)=true) (aW:X.still=false:=by exact rfl) (hX:X.bt=[]:=by exact rfl)
  (hk:go X 4000 k ⟨(d,⟨[],.sl e [] (some st.tk.length)⟩) :: st.sl,st.bx,st.tk ++ [⟨0,et,e,none⟩]⟩):Md X o k st:=(acZ qq jm hT hd aW hX).g hk
theorem Wk.HC {st':St} (N:Nat) (hN:Nat.ble X.n0 N=true) (hNl:Nat.ble N st.bx.length=true) (mO:n4 st.bx N N st.tk.length st'.bx (st.bx.take N)) (jl:st'.tk=st.tk) (ov:Pa st.bx N st.tk.length st.sl st'.sl):Wk X st st':=fun _ _ _ h=>
 KD h N (nL hN) (nL hNl) mO jl ov
theorem Md.wk {st':St} {o:Oper} (hw:Wk X st st') (hd:eJ X.nt st'.sl o.dst=true) {p:Prop} (hp:effC X st' o (go X 4000 k)=some p) (h:p):Md X o k st:=fun E a w hr=>by
 obtain ⟨E',lZ⟩:=hw _ _ _ hr;refine Ez (mY ?_ (mZ hd lZ hp h));rintro a' w' ⟨EM,E2,j7,oi,_⟩;exact go_sound 4000 _ _ j7 _ _ _ oi
theorem Uf (h:Rel X E st a w) (aW:X.still=false) (hX:X.bt=[]) {g n ty e cap:Nat} {cur:Array Value} (hw:w.heap[g]? = some (.cells cur ty (0,0))) (bW:cur.size=cap * e) (hn:n<=cap) (Mh:cap<=maxLen) (hb:g ∉ E.β)
  (hc:∀ x v,E.c x=some v->x.block=g->x.off < n * e) (dJ:∀ (k:Nat) y,E.τ[k]? = some y->y.ownBlock≠some g) (hg:X.w0.heap.size<=g) :
  Rel X ⟨E.c,E.β,E.tk ++ [⟨n,ty,e,none⟩],E.τ ++ [.slice (some ⟨g,0,none⟩) n cap]⟩ ⟨st.sl,st.bx,st.tk ++ [⟨n,ty,e,none⟩]⟩ a w:=by
 let E2:En:=⟨E.c,E.β,E.tk ++ [⟨n,ty,e,none⟩],E.τ ++ [.slice (some ⟨g,0,none⟩) n cap]⟩
 have hext:Ext E E2:=⟨fun _ _ h=>h,fun _ _ h=>h,fun k q' hk=>by
  have aq:=(gS hk).1;refine ⟨q',by show (E.tk ++ _)[k]? = _;rw [dc aq];exact hk,.inl ⟨rfl,?_⟩⟩;show (E.τ ++ _)[k]? = _
  rw [dc (by rw [h.env.tl];exact aq)]⟩
 have hτ:∀ (k:Nat) y,E2.τ[k]? = some y->(k < E.τ.length/\E.τ[k]? = some y)∨(k=E.τ.length/\y = .slice (some ⟨g,0,none⟩) n cap):=fun k y hy=>by grind
 refine dE h hext ?_ (by show E.tk ++ _=_;rw [h.tk]) ?_ h.fr (mV aW) (.nil hX)
 ·exact {
   len:=h.env.len
   tl:=by show (E.τ ++ _).length=(E.tk ++ _).length;simp [h.env.tl]
   eM:=fun i cs hi=>by
    obtain ⟨b,t,arr,hb,hw,hc⟩:=h.env.eM i cs hi;exact ⟨b,t,arr,hb,hw,hc.mono hext⟩
   inj:=h.env.inj
   sub:=h.env.sub
   pc:=h.env.pc
   bO:=fun k q' y WJ hy=>by
    rcases hτ k y hy with ⟨aq,gp⟩ | ⟨rfl,rfl⟩
    ·have fH:(E.tk ++ [⟨n,ty,e,none⟩])[k]? = some q':=WJ;rw [dc (by rw [<- h.env.tl];exact aq)] at fH;exact h.env.bO k q' y fH gp
    ·have fH:(E.tk ++ [⟨n,ty,e,none⟩])[E.τ.length]? = some q':=WJ;rw [List.getElem?_append_right (by rw [h.env.tl];exact aV _),h.env.tl] at fH;simp only [Nat.sub_self,List.getElem?_cons_zero,oI] at fH;subst fH;exact .inr ⟨g,cap,cur,rfl,hw,⟨bW,fun cs h=>by cases h⟩,hn,Mh,hb,hc⟩
   je:=fun k k' y y' g' Eb hy gp qp SQ=>by
    rcases hτ k y hy with ⟨_,uU⟩ | ⟨rfl,rfl⟩
    ·rcases hτ k' y' gp with ⟨_,lk⟩ | ⟨rfl,rfl⟩
     ·exact h.env.je k k' y y' g' Eb uU lk qp SQ
     ·simp only [Value.ownBlock,oI] at SQ;subst SQ;exact dJ k y uU qp
    ·rcases hτ k' y' gp with ⟨_,lk⟩ | ⟨rfl,rfl⟩
     ·simp only [Value.ownBlock,oI] at qp;subst qp;exact dJ k' y' lk SQ
     ·exact Eb rfl }
 ·exact {
   c:=h.nw.c
   cn:=h.nw.cn
   β:=h.nw.β
   tk:=fun j q0 y0 s5 zT=>by
    obtain ⟨q',y',h1,h2,h3⟩:=h.nw.tk j q0 y0 s5 zT
    grind
   tn:=fun j y g' hj hy rm=>by
    rcases hτ j y hy with ⟨_,uU⟩ | ⟨_,rfl⟩
    ·exact h.nw.tn j y g' hj uU rm
    ·simp only [Value.ownBlock,oI] at rm;omega
   l0:=h.nw.l0 }
theorem YS {t d et e iT n len:Nat} {bb:Bool} {z:List Value} {parts:Array (Nat × Operand)} {es:List (List DV)} (qq:o.op = .buildSlice t len parts) (jm:o.dst=some d) (hT:X.T.find t=some ⟨n,bb,.sl et e iT,z⟩) (iO:litL e st parts.toList 0=some es)
  (hc:(Nat.beq es.length len && (Nat.blt 0 len && Nat.blt 0 e && Nat.ble (len * e) 16777216))=true) (hd:eJ X.nt st.sl (some d)=true) (aW:X.still=false:=by exact rfl) (hX:X.bt=[]:=by exact rfl)
  (hk:go X 4000 k ⟨(d,⟨[],.sl e es (some st.tk.length)⟩) :: st.sl,st.bx,st.tk ++ [⟨len,et,e,none⟩]⟩):Md X o k st:=by
 intro E a w h;simp only [bc,Nat.beq_eq,Nat.ble_eq,Nat.blt_eq] at hc;obtain ⟨hlen,⟨jk,Ee⟩,hsm⟩:=hc;obtain ⟨hu,ii,zv,xg,hz,bW,vR,Og⟩:=fh X.hT hT;obtain ⟨xs,vs,hp,xi,zU,fU,Hz,kM⟩:=mX h.rl Ee iO;subst bW
 have Mf:len * ii.size≠0:=by
  have:=Nat.mul_pos jk Ee;omega
 have l7:Instr.fill (fun i=>some (i * ii.size,ii.size)) ((Array.range (len * ii.size)).map (zv.cells[·% zv.cells.size]!)) (parts.map fun (i,x)=>(i,a.eval x)).toList=some (cellsL vs).toArray:=by
  have h0:=rA ii.size vs 0 ((Array.range (len * ii.size)).map (zv.cells[·% zv.cells.size]!)).toList fU (by simp [zU,hlen])
  have h1:(parts.map fun (i,x)=>(i,a.eval x)).toList=enumF 0 vs:=by
   rw [Array.toList_map,hp,xi,<- pf]
  rw [h1];simp only [Array.toArray_toList] at h0;rw [h0];simp [zU,hlen]
 have ct:(execOp a.eval o).run X.P w = .ok (.value (.slice (some ⟨w.heap.size,0,none⟩) len len)) (w.alloc (.cells (cellsL vs).toArray et)):=by
  simp only [execOp,qq,Sem.run_bind,run_buildSlice w t et len _ _ ii zv hu xg hz (by omega) Mf l7,Result.andThen_ok,Sem.run_pure]
 refine kL ct ?_;rw [jm];have hr:=Ar (arr:=cellsL vs) h aW et
 have Bf:(cellsL vs).length=len * ii.size:=by
  have:∀ l:List Value,(∀ v∈l,v.cells.toList.length=ii.size)->(cellsL l).length=l.length * ii.size:=by
   intro l
   induction l with
   | nil=>intro _;simp [cellsL]
   | cons v l ih=>grind [cellsL]
  rw [this vs fU,zU,hlen]
 have oi:=Uf (n:=len) (ty:=et) (e:=ii.size) (cap:=len) hr aW hX (g:=w.heap.size) (cur:=(cellsL vs).toArray) (jd w _) (by simp [Bf]) (aV _) (by
   have:len<=len * ii.size:=Nat.le_mul_of_pos_right _ Ee;unfold maxLen;omega) (fun hm=>by have:=h.env.bh hm;omega) (fun x v hx Ec=>by
   have hx:iy E.c (w.alloc (.cells (cellsL vs).toArray et)) w.heap.size (cellsL vs).length x=some v:=hx;unfold iy at hx;split at hx
   ·rename_i hc;rw [<- Bf];exact hc.2.2
   ·have:=World.block_lt_of_cell? w x (h.env.sub x v hx);omega) (fun j y hy hg=>by
   have:=(h.env.own (mG hy) hg).1
   omega) (h.fr.size)
 refine go_sound 4000 _ _ hk _ _ _ (bi oi hd (.sl ii.size es (some st.tk.length)) _ ?_);unfold Rv;refine ⟨_,_,_,rfl,⟨hlen.symm,aV _⟩,fun bA=>⟨rfl,?_⟩,fun k' fH=>?_⟩
 ·have fb:∀ x v,E.c x=some v->iy E.c (w.alloc (.cells (cellsL vs).toArray et)) w.heap.size (cellsL vs).length x=some v:=fun x v hx=>by
   have aq:=World.block_lt_of_cell? w x (h.env.sub x v hx);unfold iy;rw [aj (by omega)];exact hx
  have hm:RvC (En.cl ⟨iy E.c (w.alloc (.cells (cellsL vs).toArray et)) w.heap.size (cellsL vs).length,E.β,E.tk,E.τ⟩) es.flatten (cellsL vs):=Hz.mono (Ext.Xp (E:=E) fb);refine rvEs_flat hm kM fun j u hj=>?_;show iy _ _ _ _ _=_;have jL:=(gS hj).1;simp only [ab,ao,Nat.zero_add];rw [Ci jL,cC (jd w _)];simpa using hj
 ·cases fH;refine ⟨⟨len,et,ii.size,none⟩,?_,aV _,fun _=>?_⟩
  ·show (E.tk ++ _)[st.tk.length]? = _;rw [h.tk];simp
  ·show (E.τ ++ _)[st.tk.length]? = _;rw [<- h.tk,<- h.env.tl];simp
end
end Dv
end Go.Proofs.YtgjagnmeonoehaaGreat
set_option maxRecDepth 100000
namespace Go.Proofs.YtgjagnmeonoehaaGreat
open Go Go.RowKit Dv Go.Proofs.Tryz
theorem nH {l:List Wd} {o:List (Wd × Wd)} (h:(latF l o).1=0):(gM l o).1=0/\(enumL l 0 l).1=0/\(numF (az l) o).1=0/\bM (lD l.length (fA l.length (dW (az l) o))) l.length=none/\bM (oP (fA l.length (dW (az l) o)) l.length) l.length=none:=by grind [latF]
theorem cr {p:Nat->Bool} {n:Nat} (h:bM p n=none):∀ a,a < n->p a=false:=by grind [bM]
theorem kY {l:List Wd} {o:List (Wd × Wd)} (h:(latF l o).1=0):dA (fA l.length (dW (az l) o)) l.length/\l.length<=32:=by
 obtain ⟨h1,h2,h3,h4,h5⟩:=nH h;have hP:=pI h3;rw [dz] at hP
 have KC:l ≠ []:=by
  rintro rfl;simp [gM] at h1
 have QQ:l.length<=32:=by grind [gM]
 have YF:∀ a b,a < l.length->b < l.length->mn (fA l.length (dW (az l) o)) l.length a b=false:=by
  have key:∀ a b,a<=b->b < l.length->mn (fA l.length (dW (az l) o)) l.length a b=false:=fun a b Ig hb=>by grind [cr,oP]
  intro a b ha hb;rcases Nat.le_total a b with h | h
  ·exact key a b h hb
  ·grind [mn,ym,yo]
 refine ⟨{
  pos:=List.length_pos_iff.2 KC
  rfl':=fun a ha=>tT hP ha
  tr:=fun a b c ha hb hc=>IE hP ha hb hc
  IP:=fun a b ha hb h6 h7=>by grind [cr,lD]
  jn:=fun a b ha hb=>by
   have:=YF a b ha hb;unfold mn at this;simp only [Bool.or_eq_false_iff,Option.isNone_eq_false_iff] at this;exact Option.isSome_iff_exists.1 this.1
  mt:=fun a b ha hb=>by
   have:=YF a b ha hb;unfold mn at this;simp only [Bool.or_eq_false_iff,Option.isNone_eq_false_iff] at this
   exact Option.isSome_iff_exists.1 this.2 },QQ⟩
def dY (s:Sch) (aJ:List Nat) (js:List Int):Lx:=⟨az s.ae,aJ,closeR (fZ s.ae.length (dW (az s.ae) s.order)) s.ae.length,js,fA s.ae.length (dW (az s.ae) s.order)⟩
theorem Ug {s:Sch} {d:DV} (h:(latF s.ae s.order).1=0) (hd:YH s.ae s.order d) (hw:s.ae.length<=1099511627776):∃ aJ js,(dY s aJ js).OK/\d=(dY s aJ js).pd:=by
 obtain ⟨aJ,js,hT,lx,ll,CZ,rfl⟩:=hd;obtain ⟨h1,h2⟩:=kY h;refine ⟨aJ,js,⟨hT,by show aJ.length<=_;omega,?_,?_,?_⟩,rfl⟩
 ·show dA _ (az s.ae).length;rw [dz];exact h1
 ·show (az s.ae).length<=32;rw [dz];exact h2
 ·show ∀ x y,x < (az s.ae).length->y < (az s.ae).length->JM _ (az s.ae).length js x y;rw [dz];exact CZ
def iI (s:Sch) (l:List Wd):Int:=Ad (fA s.ae.length (dW (az s.ae) s.order)) (az s.ae) l
def mP (s:Sch) (t:Ty):Ft:=knT ⟨az s.ae,[],[],[],fun _ _=>false⟩ (tL s) t
mutual
theorem Bg {X Y:Lx} (h:X.af=Y.af) (L:List ByteArray):∀ t:Ty,knT X L t=knT Y L t
 | .mk h1 ps=>by rw [knT,knT,Bh h L ps]
theorem Bh {X Y:Lx} (h:X.af=Y.af) (L:List ByteArray):∀ ps:Pts,knP X L ps=knP Y L ps
 | .nil=>by rw [knP,knP]
 | .cons p t r=>by
  rw [knP,knP,Bh h L r,Bg h L t];unfold Lx.bad;rw [h]
end
theorem YT (s:Sch) (aJ:List Nat) (js:List Int) (t:Ty):knT (dY s aJ js) (tL s) t=mP s t:=Bg (X:=dY s aJ js) (Y:=⟨az s.ae,[],[],[],fun _ _=>false⟩) rfl (tL s) t
def lU (s:Sch):Ft:=
 if (latF s.ae s.order).1≠0 then latF s.ae s.order
 else if (fu s).1≠0 then fu s
 else if (eaR s.root s.types 0).1.1≠0 then (eaR s.root s.types 0).1
 else if (eaL (mP s) (mP s s.root) s.types).1≠0 then eaL (mP s) (mP s s.root) s.types
 else loopF s
def ndsAll (lev:List Wd->Int) (s:Sch):List (Wd × Ty)->Nat->List Nd
 | [],_=>[]
 | x :: r,k=>ndsT lev s x.2 k ++ ndsAll lev s r (k + x.2.nn)
def sm (s:Sch):List Nd:=ndsAll (iI s) s s.types 0
def bp (s:Sch):List Nd:=sm s ++ ndsT (iI s) s s.root (sm s).length
def dw (s:Sch):Int:=oT s s.root (sm s).length
def WK (s:Sch) (aJ lV:List Nat) (js:List Int):List DV:=
 [(dY s aJ js).pd,.sl 7 (bG (bp s)) none,.v (.int .i64 (dw s)),.pt (dt (tL s) lV) 0,.sl 1 (dInts (namedL s)) none]
def QR (s:Sch) (d:DV):Prop:=∃ aJ lV js,(dY s aJ js).OK/\iU (tL s) lV/\lV.length<=s.types.length/\d = .pt (WK s aJ lV js) 0
def I3 (s:Sch) (r:DV) (_:List (List DV)) (_:List TkE):Prop:=
 if (lU s).1≠0 then r = .tup [.v (.pointer none),(lU s).d] else ∃ d,QR s d/\r = .tup [d,Ft.d (0,0)]
theorem oU {s:Sch} {f:Ft} {os:List (List DV)} {tk:List TkE} (h:lU s=f) (hf:f.1≠0):I3 s (.tup [.v (.pointer none),f.d]) os tk:=by
 unfold I3;rw [h,ap hf]
theorem Uh {s:Sch} {d:DV} {os:List (List DV)} {tk:List TkE} (h:(lU s).1=0) (hd:QR s d):I3 s (.tup [d,Ft.d (0,0)]) os tk:=by grind [I3]
theorem QS {F:Ty->Ft} {z:Ft}:∀ {l:List (Wd × Ty)},(eaL F z l).1=0->z.1=0/\∀ x∈l,(F x.2).1=0
 | [],h=>⟨h,fun x hx=>by cases hx⟩
 | x :: r,h=>by
  rw [eaL] at h;split at h
  ·rename_i h1;exact (h1 h).elim
  ·rename_i h1;obtain ⟨h2,h3⟩:=QS h
   grind
theorem QT {z:Ty}:∀ {l:List (Wd × Ty)} {m:Int},0<=m->(eaR z l m).1.1=0->(wrong z 1 0).1.1=0/\(∀ x∈l,(wrong x.2 1 0).1.1=0)/\(eaR z l m).2=m + ((l.map fun x=>x.2.cnt).sum + z.cnt:Nat)/\(eaR z l m).2<=512
 | [],m,_,h=>by grind [eaR,pK]
 | x :: r,m,hm,h=>by
  rw [eaR] at h ⊢;split at h
  ·rename_i h1;exact (h1 h).elim
  ·rename_i h1;rw [aj h1];obtain ⟨g1,g2,g3,_⟩:=pK (sU h1);obtain ⟨h2,h3,h4,h5⟩:=QT (by omega) h
   grind
theorem yB (lev:List Wd->Int) (s:Sch):∀ (l:List (Wd × Ty)) (k:Nat),(ndsAll lev s l k).length=(l.map fun x=>x.2.nn).sum
 | [],_=>rfl
 | x :: r,k=>by simp only [ndsAll,List.length_append,kX,yB lev s r,List.map_cons,List.sum_cons]
theorem yC:∀ l:List (Wd × Ty),(l.map fun x=>x.2.nn).sum<=(l.map fun x=>x.2.cnt).sum
 | []=>aV _
 | x :: r=>by
  have:=x.2.ib;have:=yC r
  grind
theorem Bi:∀ l:List Nd,(bG l).flatten.length=l.length * 7
 | []=>rfl
 | a :: r=>by
  have:=Bi r;simp only [bG,List.map_cons,List.flatten_cons,List.length_append,List.length_cons] at this ⊢;rw [this];simp only [j5,List.length_cons,List.length_nil];omega
theorem C5 {X:Lx} {s:Sch} {t:Ty} (h:(knT X (tL s) t).1=0):vJ s t=true:=by
 obtain ⟨hd,ps⟩:=t;have:=(nG h).1;unfold vJ;exact decide_eq_true this
theorem FU {s:Sch} (h:(loopF s).1=0):∀ i,i < s.types.length->∃ k,endI s (s.types.length + 1) i=some k:=by
 intro i hi;unfold loopF at h;split at h
 ·rename_i h1;have:=cr h1 i hi;simp only [Option.isNone_eq_false_iff] at this;exact Option.isSome_iff_exists.1 this
 ·cases h
end Go.Proofs.YtgjagnmeonoehaaGreat
