/- Part 4 of the proof: Rules for the evaluator: a call that is handed the caller's first objects and rows; rows whose cells nobody else knows; lattice.best, and the closures of bounds; lattice.bounds: all joins and meets; lattice.Build; Reading a lattice: Len, has, Name, Find, Join, Meet, Bottom; labels.Of; The checker's part, once check is known for lighter types; The checker's parts, once check is known for lighter types; The checker's one and check, once check is known for lighter types; so check; kinds.Count, resolve.nodes; the builder's level; The builder's end, loops, known; The builder's each, right, called; The builder's each of right; called; places; The builder's places; The builder's edge; The builder's node; Steps of a region that draws its order, one by one. No condition. -/
import Derived.Test.YtfifjddnnmfeoaaGreatMo2
import Derived.Test.YtfifjddnnmfeoaaGreatMo3
set_option linter.all false
namespace Go.Proofs.YtfifjddnnmfeoaaGreat
namespace Dv
open Go Go.RowKit
section
variable {X:Ctx} {st:St} {k:List It} {E:En} {a:Act} {w:World}
def Wk (X:Ctx) (st st':St):Prop:=∀ E a w,Rel X E st a w->∃ E',Rel X E' st' a w
theorem Wk.refl (X:Ctx) (st:St):Wk X st st:=fun E _ _ h=>⟨E,h⟩
theorem Wk.trans {X:Ctx} {s1 s2 s3:St} (h1:Wk X s1 s2) (h2:Wk X s2 s3):Wk X s1 s3:=fun _ _ _ h=>by
 obtain ⟨E1,h3⟩:=h1 _ _ _ h;exact h2 _ _ _ h3
theorem Wk.T7 {X:Ctx} {s1 s2:St} (h:BT X.n0 X.m0 s1 s2):Wk X s1 s2:=fun _ _ _ hr=>uy hr h
theorem yH {f:FuncId} {args bJ:List DV} {os:List (List DV)} (n1 m1:Nat) (BG:Nat.ble n1 st.bx.length=true) (fD:Nat.ble m1 st.tk.length=true)
  (xx:ll [] n1 n1 m1 os (st.bx.take n1)) (ha:CcL [] n1 n1 m1 bJ args)
  {Φ:DV->List (List DV)->List TkE->Prop} (hc:Ws false X.P f bJ os (st.tk.take m1) X.bt Φ) (aT:X.still=false) {vs:List Value} (h:Rel X E st a w) (hv:RvL E args vs) :
  Calls X.P f vs.toArray w fun e w'=>∃ v r gG bW E',e = .returned v/\Φ r gG bW /\ gG.length=n1/\bW.length=m1/\Rel X E' ⟨st.sl,gG ++ st.bx.drop n1,bW ++ st.tk.drop m1⟩ a w' /\ Rv E' r v/\Ext E E' /\ E'.β=E.β /\
   ∀ (i:Nat) b,n1<=i->E.β[i]? = some b->w'.heap[b]? = w.heap[b]?:=by
 have BG:=nL BG;have fD:=nL fD;have hlen:=h.env.len;have eJ:=h.env.tl;have iH:=h.tk;have htkl:E.tk.length=st.tk.length:=by rw [iH]
 let E1:En:=⟨E.c,E.β.take n1,E.tk.take m1,E.τ.take m1⟩
 have hfz:KI E E1 [] n1:=⟨fun _ _ h=>h,fun i cs _ hi=>by simp at hi⟩
 have xz:I2 E E1 n1 m1:={
  β:=fun i b hi hb=>by show (E.β.take n1)[i]? = _;rw [List.getElem?_take,if_pos hi];exact hb
  tk:=fun k hk=>⟨by show (E.tk.take m1)[k]? = _;rw [List.getElem?_take,if_pos hk],by show (E.τ.take m1)[k]? = _;rw [List.getElem?_take,if_pos hk]⟩ }
 obtain ⟨ja,Wr⟩:=xx.get;have hosl:os.length=n1:=by rw [ja,List.length_take];omega
 have YI:∀ (j:Nat) y,(E.τ.take m1)[j]? = some y->j < m1/\E.τ[j]? = some y:=fun j y hy=>by
  rw [List.getElem?_take] at hy;split at hy
  ·rename_i hj;exact ⟨hj,hy⟩
  ·cases hy
 have hkg:∀ (j:Nat) q,(E.tk.take m1)[j]? = some q->j < m1/\E.tk[j]? = some q:=fun j y hy=>by
  rw [List.getElem?_take] at hy;split at hy
  ·rename_i hj;exact ⟨hj,hy⟩
  ·cases hy
 have hE1:Env E1 os w:={
  len:=by show (E.β.take n1).length=_;rw [List.length_take,hosl];omega
  tl:=by show (E.τ.take m1).length=(E.tk.take m1).length;rw [List.length_take,List.length_take,eJ]
  eu:=fun i cs' hi=>by
   obtain ⟨cs,ct,n8⟩:=Wr i cs' hi;rw [List.getElem?_take] at ct;split at ct
   ·rename_i ap;obtain ⟨b,ty,arr,hb,hw,hc⟩:=h.env.eu i cs ct;exact ⟨b,ty,arr,xz.β i b ap hb,hw,CcL.sound hfz xz n8 hc.1,hc.2⟩
   ·cases ct
  inj:=h.env.inj.sublist (List.take_sublist _ _)
  sub:=h.env.sub
  pc:=fun x v hx hm=>h.env.pc x v hx (List.mem_of_mem_take hm)
  cI:=fun j q y hq hy=>by
   obtain ⟨_,hq⟩:=hkg j q hq;obtain ⟨_,hy⟩:=YI j y hy;rcases h.env.cI j q y hq hy with h1 | ⟨g,cap,cur,rfl,h1,h2,h3,h4,h5,h6⟩
   ·exact .inl h1
   ·exact .inr ⟨g,cap,cur,rfl,h1,h2,h3,h4,fun hm=>h5 (List.mem_of_mem_take hm),h6⟩
  iX:=fun j j' y y' g Hf hy gp=>h.env.iX j j' y y' g Hf (YI j y hy).2 (YI j' y' gp).2 }
 refine (hc E1 w _ hE1 (by show E.tk.take m1=_;rw [iH]) (h.bt.sub n1) (CcL.sound hfz xz ha hv)).mono ?_;rintro e w' ⟨v,rfl,⟨hm,_,r,gG,E2,he,hβ,ry,hn,S8,hΦ⟩,hbt2⟩;have ry:E2.tk.length=E1.tk.length:=ry;have hE1t:E1.tk.length=m1:=by show (E.tk.take m1).length=_;rw [List.length_take];omega
 have hE1τ:E1.τ.length=m1:=by show (E.τ.take m1).length=_;rw [List.length_take];omega
 have hE1β:E1.β.length=n1:=by show (E.β.take n1).length=_;rw [List.length_take];omega
 rw [hE1t] at ry;have Vp:E2.τ.length=m1:=by rw [he.tl,ry]
 have Fu:gG.length=n1:=by rw [<- he.len,hβ,hE1β]
 have hS:∀ j,E1.S j->j∈E.β.take n1∨∃ i y,i < m1/\E.τ[i]? = some y/\y.ownBlock=some j:=fun j hj=>by
  rcases hj with h1 | ⟨y,h1,h2⟩
  ·exact .inl h1
  ·obtain ⟨i,hi,he⟩:=List.getElem_of_mem h1;have dE:E1.τ[i]? = some y:=by rw [gE hi,he]
   obtain ⟨h3,h4⟩:=YI i y dE;exact .inr ⟨i,y,h3,h4,h2⟩
 have hh:∀ j,j < w.heap.size->¬ E1.S j->w'.heap[j]? = w.heap[j]?:=fun j hj aN=>hm.block j hj aN;have cG:∀ (i:Nat) y g,E.τ[i]? = some y->y.ownBlock=some g->g < w.heap.size/\g ∉ E.β:=fun i y g hy hg=>h.env.own (mG hy) hg
 have dV:∀ x v,E2.c x=some v->E.c x=some v∨w.heap.size<=x.block∨∃ i y,i < m1/\E.τ[i]? = some y/\y.ownBlock=some x.block:=fun x v hx=>by
  rcases hn.cn x v hx with h1 | h1 | ⟨y,h1,h2⟩
  ·exact .inl h1
  ·exact .inr (.inl h1)
  ·obtain ⟨i,hi,he⟩:=List.getElem_of_mem h1;have dE:E1.τ[i]? = some y:=by rw [gE hi,he]
   obtain ⟨h3,h4⟩:=YI i y dE;exact .inr (.inr ⟨i,y,h3,h4,h2⟩)
 have qX:∀ (j:Nat) q,j < m1->E.tk[j]? = some q->∃ y q' y',E.τ[j]? = some y/\E2.tk[j]? = some q' /\ E2.τ[j]? = some y' /\ q.ty=q'.ty/\q.e=q'.e/\((q'.n=q.n/\y'=y)∨q.n < q'.n)/\(y'.ownBlock=y.ownBlock∨∀ g,y'.ownBlock=some g->w.heap.size<=g):=fun j q hj hq=>by
  have lh:j < E.τ.length:=by rw [eJ];omega
  obtain ⟨q',y',h1,h2,h3⟩:=hn.tk j q E.τ[j] (by show (E.tk.take m1)[j]? = _;rw [List.getElem?_take,if_pos hj];exact hq) (by show (E.τ.take m1)[j]? = _;rw [List.getElem?_take,if_pos hj,gE lh]);exact ⟨_,q',y',gE lh,h1,h2,h3⟩
 have HY:∀ (j:Nat) y',j < m1->E2.τ[j]? = some y' -> ∃ y,E.τ[j]? = some y/\(y'.ownBlock=y.ownBlock∨∀ g,y'.ownBlock=some g->w.heap.size<=g):=fun j y' hj hy=>by
  have lh:j < E.tk.length:=by omega
  obtain ⟨y,q1,y1,h1,_,h3,_,_,_,h7⟩:=qX j _ hj (gE lh);rw [hy] at h3;simp only [oI] at h3;subst h3;exact ⟨y,h1,h7⟩
 let E':En:=⟨E2.c,E.β,E2.tk ++ E.tk.drop m1,E2.τ ++ E.τ.drop m1⟩
 have gm:∀ (j:Nat),m1<=j->E'.tk[j]? = E.tk[j]?:=fun j hj=>by
  show (E2.tk ++ E.tk.drop m1)[j]? = _;rw [List.getElem?_append_right (by omega),List.getElem?_drop,ry];congr 1;omega
 have T8:∀ (j:Nat),m1<=j->E'.τ[j]? = E.τ[j]?:=fun j hj=>by
  show (E2.τ ++ E.τ.drop m1)[j]? = _;rw [List.getElem?_append_right (by omega),List.getElem?_drop,Vp];congr 1;omega
 have Lt:∀ (j:Nat),j < m1->E'.tk[j]? = E2.tk[j]?:=fun j hj=>by
  show (E2.tk ++ E.tk.drop m1)[j]? = _;rw [List.getElem?_append_left (by omega)]
 have KG:∀ (j:Nat),j < m1->E'.τ[j]? = E2.τ[j]?:=fun j hj=>by
  show (E2.τ ++ E.τ.drop m1)[j]? = _;rw [List.getElem?_append_left (by omega)]
 have hx:Ext E E':=⟨hn.c,fun _ _ h=>h,fun j q hq=>by
  rcases Nat.lt_or_ge j m1 with hj | hj
  ·obtain ⟨y,q',y',h1,h2,h3,_,_,h6,_⟩:=qX j q hj hq;refine ⟨q',by rw [Lt j hj];exact h2,?_⟩;rcases h6 with ⟨h6,rfl⟩ | h6
   ·exact .inl ⟨h6,by rw [KG j hj,h3,h1]⟩
   ·exact .inr h6
  ·exact ⟨q,by rw [gm j hj];exact hq,.inl ⟨rfl,T8 j hj⟩⟩⟩
 have Ja:Ext E2 E':={
  c:=fun _ _ h=>h
  β:=fun j b hj=>by
   rw [hβ] at hj;have hj:(E.β.take n1)[j]? = some b:=hj;rw [List.getElem?_take] at hj;split at hj
   ·exact hj
   ·cases hj
  tk:=fun j q hq=>by
   have hj:j < m1:=by have:=(gS hq).1;omega
   exact ⟨q,by rw [Lt j hj];exact hq,.inl ⟨rfl,KG j hj⟩⟩ }
 have RZ:∀ (i:Nat) b,n1<=i->E.β[i]? = some b->w'.heap[b]? = w.heap[b]?:=fun i b hi hb=>by
  refine hh b (h.env.aZ (mG hb)) fun hs=>?_;rcases hS b hs with h1 | ⟨i',y,_,h2,h3⟩
  ·obtain ⟨i',dE,Lp⟩:=List.getElem_of_mem h1;have h4:(E.β.take n1)[i']? = some b:=by rw [gE dE,Lp]
   rw [List.getElem?_take] at h4;split at h4
   ·rename_i ap;have:=(List.getElem?_inj (gS hb).1 h.env.inj).1 (hb.trans h4.symm);omega
   ·cases h4
  ·exact (cG i' y b h2 h3).2 (mG hb)
 have hbt':nW X.bt E.β w':=fun p hp b hb=>by
  rcases Nat.lt_or_ge p.1 n1 with ap | aO
  ·exact hbt2 p hp b (by show (E.β.take n1)[p.1]? = _;rw [List.getElem?_take,if_pos ap];exact hb)
  ·obtain ⟨cs,ct⟩:=h.bt p hp b hb;exact ⟨cs,by rw [RZ p.1 b aO hb];exact ct⟩
 have cf:Rel X E' ⟨st.sl,gG ++ st.bx.drop n1,E2.tk ++ st.tk.drop m1⟩ a w':=by
  refine di h hx ?_ (by show E2.tk ++ E.tk.drop m1=_;rw [iH]) ?_ (h.fr.cm hm.os hm.tape hm.output hm.size fun j hj=>?_) (nX aT) hbt'
  ·exact {
    len:=by show E.β.length=_;rw [List.length_append,List.length_drop,Fu,hlen];omega
    tl:=by show (E2.τ ++ E.τ.drop m1).length=(E2.tk ++ E.tk.drop m1).length;simp only [List.length_append,List.length_drop,Vp,ry,eJ]
    eu:=fun i Rb hi=>by
     rcases Nat.lt_or_ge i n1 with rf | rf
     ·rw [List.getElem?_append_left (by omega)] at hi;obtain ⟨b2,ty2,Tq,fH,hw2,mw⟩:=he.eu i Rb hi;exact ⟨b2,ty2,Tq,Ja.β i b2 fH,hw2,mw.mono Ja⟩
     ·rw [List.getElem?_append_right (by omega),List.getElem?_drop,Fu] at hi;rw [show n1 + (i - n1)=i by omega] at hi;obtain ⟨bj,tyj,Tr,Rc,WI,K7⟩:=h.env.eu i Rb hi;refine ⟨bj,tyj,Tr,Rc,(hh bj (bX WI) ?_).trans WI,K7.mono hx⟩;intro hs;rcases hS bj hs with h1 | ⟨i',y,_,h2,h3⟩
      ·obtain ⟨i',dE,Lp⟩:=List.getElem_of_mem h1;have h4:(E.β.take n1)[i']? = some bj:=by rw [gE dE,Lp]
       rw [List.getElem?_take] at h4;split at h4
       ·rename_i ap;have:=(List.getElem?_inj (gS Rc).1 h.env.inj).1 (Rc.trans h4.symm);omega
       ·cases h4
      ·exact (cG i' y bj h2 h3).2 (mG Rc)
    inj:=h.env.inj
    sub:=he.sub
    pc:=fun x v hc ow=>by
     rcases dV x v hc with h1 | h1 | ⟨i,y,_,h2,h3⟩
     ·exact h.env.pc x v h1 ow
     ·have:=h.env.aZ ow;omega
     ·exact (cG i y _ h2 h3).2 ow
    cI:=fun j q y hq hy=>by
     rcases Nat.lt_or_ge j m1 with hj | hj
     ·rw [Lt j hj] at hq;rw [KG j hj] at hy;rcases he.cI j q y hq hy with h1 | ⟨g,cap,cur,rfl,h1,h2,h3,h4,h5,h6⟩
      ·exact .inl h1
      ·refine .inr ⟨g,cap,cur,rfl,h1,h2,h3,h4,fun ow=>?_,h6⟩;obtain ⟨y0,h7,h8⟩:=HY j _ hj hy;rcases h8 with h8 | h8
       ·exact (cG j y0 g h7 (by rw [<- h8];rfl)).2 ow
       ·have:=h8 g rfl;have:=h.env.aZ ow;omega
     ·rw [gm j hj] at hq;rw [T8 j hj] at hy;rcases h.env.cI j q y hq hy with h1 | ⟨g,cap,cur,rfl,h1,h2,h3,h4,h5,h6⟩
      ·exact .inl h1
      ·have aN:∀ i y',i < m1->E.τ[i]? = some y' -> y'.ownBlock≠some g:=fun i y' hi gp=>h.env.iX j i _ y' g (by omega) hy gp rfl
       have su:¬ E1.S g:=fun hs=>by
        rcases hS g hs with h7 | ⟨i,y',h7,h8,h9⟩
        ·exact h5 (List.mem_of_mem_take h7)
        ·exact aN i y' h7 h8 h9
       refine .inr ⟨g,cap,cur,rfl,by rw [hh g (bX h1) su];exact h1,⟨h2.1,h2.2.mono hn.c⟩,h3,h4,h5,fun x v hc hg=>?_⟩
       ·rcases dV x v hc with h7 | h7 | ⟨i,y',h7,h8,h9⟩
        ·exact h6 x v h7 hg
        ·have:=bX h1;omega
        ·exact (aN i y' h7 h8 (by rw [h9,hg])).elim
    iX:=fun j j' y y' g Hf hy gp hg xu=>by
     rcases Nat.lt_or_ge j m1 with hj | hj
     ·rw [KG j hj] at hy;obtain ⟨y0,h7,h8⟩:=HY j _ hj hy;rcases Nat.lt_or_ge j' m1 with fT | fT
      ·rw [KG j' fT] at gp;exact he.iX j j' y y' g Hf hy gp hg xu
      ·rw [T8 j' fT] at gp;rcases h8 with h8 | h8
       ·exact h.env.iX j j' y0 y' g Hf h7 gp (by rw [<- h8];exact hg) xu
       ·have:=h8 g hg;have:=(cG j' y' g gp xu).1;omega
     ·rw [T8 j hj] at hy;rcases Nat.lt_or_ge j' m1 with fT | fT
      ·rw [KG j' fT] at gp;obtain ⟨y0,h7,h8⟩:=HY j' _ fT gp;rcases h8 with h8 | h8
       ·exact h.env.iX j j' y y0 g Hf hy h7 hg (by rw [<- h8];exact xu)
       ·have:=h8 g xu;have:=(cG j y g hy hg).1;omega
      ·rw [T8 j' fT] at gp
       exact h.env.iX j j' y y' g Hf hy gp hg xu }
  ·exact {
    c:=fun x v hc=>hn.c x v (h.nw.c x v hc)
    cn:=fun x v hc=>by
     rcases dV x v hc with h1 | h1 | ⟨i,y,_,h2,h3⟩
     ·exact h.nw.cn x v h1
     ·have:=h.fr.size;exact .inr (.inl (by omega))
     ·rcases h.nw.own h2 h3 with h4 | h4
      ·exact .inr (.inr h4)
      ·exact .inr (.inl h4)
    β:=h.nw.β
    tk:=fun j q0 y0 s9 EA=>by
     obtain ⟨q1,y1,h1,h2,h3,h4,h5,h6⟩:=h.nw.tk j q0 y0 s9 EA;rcases Nat.lt_or_ge j m1 with hj | hj
     ·obtain ⟨y,q',y',g1,g2,g3,g4,g5,g6,g7⟩:=qX j q1 hj h1;rw [h2] at g1;simp only [oI] at g1;subst g1;refine ⟨q',y',by rw [Lt j hj];exact g2,by rw [KG j hj];exact g3,h3.trans g4,h4.trans g5,?_,?_⟩
      ·rcases g6 with ⟨g6,rfl⟩ | g6
       ·rcases h5 with ⟨h5,rfl⟩ | h5
        ·exact .inl ⟨by omega,rfl⟩
        ·exact .inr (by omega)
       ·rcases h5 with ⟨h5,_⟩ | h5
        ·exact .inr (by omega)
        ·exact .inr (by omega)
      ·rcases g7 with g7 | g7
       ·rcases h6 with h6 | h6
        ·exact .inl (g7.trans h6)
        ·exact .inr fun g hg=>h6 g (by rw [<- g7];exact hg)
       ·refine .inr fun g hg=>?_;have:=g7 g hg;have:=h.fr.size;omega
     ·exact ⟨q1,y1,by rw [gm j hj];exact h1,by rw [T8 j hj];exact h2,h3,h4,h5,h6⟩
    tn:=fun j y g sq hy hg=>by
     rcases Nat.lt_or_ge j m1 with hj | hj
     ·rw [KG j hj] at hy;obtain ⟨y0,h7,h8⟩:=HY j _ hj hy;rcases h8 with h8 | h8
      ·exact h.nw.tn j y0 g sq h7 (by rw [<- h8];exact hg)
      ·have:=h8 g hg;have:=h.fr.size;omega
     ·rw [T8 j hj] at hy;exact h.nw.tn j y g sq hy hg
    l0:=h.nw.l0 }
  ·by_cases hjs:E1.S j
   ·left;rcases hS j hjs with h1 | ⟨i,y,_,h2,h3⟩
    ·have xD:=List.mem_of_mem_take h1;obtain ⟨r0,hr0,ES⟩:=h.nw.β;rw [hr0] at xD;rcases List.mem_append.1 xD with xD | xD
     ·exact .inl (.inl xD)
     ·exact .inr (ES j xD)
    ·rcases h.nw.own h2 h3 with h4 | h4
     ·exact .inl (.inr h4)
     ·exact .inr h4
   ·exact .inr (hh j hj hjs)
 exact ⟨v,r,gG,E2.tk,E',rfl,hΦ,Fu,ry,cf,Rv.mono Ja S8,hx,rfl,RZ⟩
theorem CM {f:FuncId} {args bJ:List DV} {os:List (List DV)} (n1 m1:Nat) (BG:Nat.ble n1 st.bx.length=true) (fD:Nat.ble m1 st.tk.length=true)
  (xx:ll [] n1 n1 m1 os (st.bx.take n1)) (ha:CcL [] n1 n1 m1 bJ args)
  {Φ:DV->List (List DV)->List TkE->Prop} (hc:Ev X.P f bJ os (st.tk.take m1) Φ) (aT:X.still=false) (hX:X.bt=[]) {vs:List Value} (h:Rel X E st a w) (hv:RvL E args vs) :
  Calls X.P f vs.toArray w fun e w'=>∃ v r gG bW E',e = .returned v/\Φ r gG bW /\ gG.length=n1/\bW.length=m1/\Rel X E' ⟨st.sl,gG ++ st.bx.drop n1,bW ++ st.tk.drop m1⟩ a w' /\ Rv E' r v/\Ext E E' /\ E'.β=E.β /\
   ∀ (i:Nat) b,n1<=i->E.β[i]? = some b->w'.heap[b]? = w.heap[b]?:=
 yH n1 m1 (by exact BG) (by exact fD) xx ha (hc.Wt hX) aT h hv
theorem MJ {f:FuncId} {args bJ:List DV} {os:List (List DV)} {d:Nat} (n1 m1:Nat) (j1:Enters X.P f) (hd:fi X.nt st.sl (some d)=true) (BG:Nat.ble n1 st.bx.length=true) (fD:Nat.ble m1 st.tk.length=true)
  (xx:ll [] n1 n1 m1 os (st.bx.take n1)) (ha:CcL [] n1 n1 m1 bJ args)
  {Φ:DV->List (List DV)->List TkE->Prop} (hc:Ev X.P f bJ os (st.tk.take m1) Φ)
  (hk:∀ r gG bW,Φ r gG bW -> gG.length=n1->bW.length=m1->∃ st',Wk X ⟨(d,⟨[],r⟩) :: st.sl,gG ++ st.bx.drop n1,bW ++ st.tk.drop m1⟩ st' /\ go X 4000 k st') (aT:X.still=false:=by exact rfl) (hX:X.bt=[]:=by exact rfl):dL X f args (some d) k st:=by
 refine ⟨j1,aT,fun E a w vs h hv=>(CM n1 m1 BG fD xx ha hc aT hX h hv).mono ?_⟩;rintro e w' ⟨v,r,gG,bW,E',rfl,hΦ,Fu,ry,cf,HG,_,_,_⟩;obtain ⟨st',Py,oB⟩:=hk r gG bW hΦ Fu ry;obtain ⟨E3,hr3⟩:=Py _ _ _ (aV cf hd r v HG);exact go_sound 4000 _ _ oB E3 _ w' hr3
theorem iU {f:FuncId} {args bJ:List DV} {os:List (List DV)} {d:Nat} (n1 m1:Nat) (j1:Enters X.P f) (hd:fi X.nt st.sl (some d)=true) (BG:Nat.ble n1 st.bx.length=true) (fD:Nat.ble m1 st.tk.length=true)
  (xx:ll [] n1 n1 m1 os (st.bx.take n1)) (ha:CcL [] n1 n1 m1 bJ args)
  {Φ:DV->List (List DV)->List TkE->Prop} (hc:Ev X.P f bJ os (st.tk.take m1) Φ)
  (hk:∀ r gG bW,Φ r gG bW -> gG.length=n1->bW.length=m1->go X 4000 k ⟨(d,⟨[],r⟩) :: st.sl,gG ++ st.bx.drop n1,bW ++ st.tk.drop m1⟩) (aT:X.still=false:=by exact rfl) (hX:X.bt=[]:=by exact rfl):dL X f args (some d) k st:=
 MJ n1 m1 j1 hd BG fD xx ha hc (fun r gG bW h1 h2 h3=>⟨_,Wk.refl _ _,hk r gG bW h1 h2 h3⟩) aT hX
theorem mM {f:FuncId} {args bJ:List DV} {os:List (List DV)} {d:Nat} (n1 m1:Nat) (j1:Enters X.P f) (hd:fi X.nt st.sl (some d)=true) (BG:Nat.ble n1 st.bx.length=true) (fD:Nat.ble m1 st.tk.length=true)
  (xx:ll [] n1 n1 m1 os (st.bx.take n1)) (ha:CcL [] n1 n1 m1 bJ args)
  {Φ:DV->List (List DV)->List TkE->Prop} (hc:Ws false X.P f bJ os (st.tk.take m1) X.bt Φ)
  (hk:∀ r gG bW,Φ r gG bW -> gG.length=n1->bW.length=m1->go X 4000 k ⟨(d,⟨[],r⟩) :: st.sl,gG ++ st.bx.drop n1,bW ++ st.tk.drop m1⟩) (aT:X.still=false:=by exact rfl):dL X f args (some d) k st:=by
 refine ⟨j1,aT,fun E a w vs h hv=>(yH n1 m1 BG fD xx ha hc aT h hv).mono ?_⟩;rintro e w' ⟨v,r,gG,bW,E',rfl,hΦ,Fu,ry,cf,HG,_,_,_⟩;exact go_sound 4000 _ _ (hk r gG bW hΦ Fu ry) E' _ w' (aV cf hd r v HG)
theorem JD {all:Array Oper} {o1 o2 o3:Oper} {r:List Oper} {d1 d2 kt t sT f off ft ty et e jP m R0 nn:Nat} {bb:Bool} {zz:List Value} {z:Int} {kd:IntKind} {es:List (List DV)} {cs:List DV} {s ix x:Operand} {dv YJ:DV}
  (h1:o1.op = .indexAddr t s ix/\o1.dst=some d1) (h2:o2.op = .fieldAddr sT (.tmp d1) f/\o2.dst=some d2/\o2.guard=none) (h3:o3.op = .store ty (.tmp d2) x/\o3.dst=none/\o3.guard=none)
  (Ep:fi X.nt st.sl (some d1)=true) (Lq:fi X.nt ((d1,⟨[],.pt [] 0⟩) :: st.sl) (some d2)=true)
  (hs:rv st [] s=some (.sl 0 es (some kt))) (hi:rv st [] ix=some (.v (.int kd z))) (hx:rv ⟨(d2,⟨[],.pt [] 0⟩) :: (d1,⟨[],.pt [] 0⟩) :: st.sl,st.bx,st.tk⟩ [] x=some dv) (hdv:eraD dv=some YJ) (Vz:dv.cells=[dv])
  (hT:X.T.find t=some ⟨nn,bb,.sl et e jP,zz⟩) (te:X.T.off sT f=some (off,ft)) (bE:X.T.sz ty=some 1)
  (hq:st.tk[kt]? = some ⟨m,R0,e,some cs⟩) (jQ:es.length=m) (hz:0<=z/\z < m) (IM:off + 1<=e)
  (hk:go X 4000 (.ops all r :: k) ⟨(d2,⟨[],.pt [] 0⟩) :: (d1,⟨[],.pt [] 0⟩) :: st.sl,st.bx,st.tk.set kt ⟨m,R0,e,some (cs.set (z.toNat * e + off) YJ)⟩⟩)
  (aT:X.still=false:=by exact rfl):IQ X o1 (.ops all (o2 :: o3 :: r) :: k) st:=by
 intro E a w h;have gl:=h.rl;have e1:=aQ gl hs;have e2:=bY (aQ gl hi);unfold Rv at e1;obtain ⟨bs,ns,mg,e1,⟨su,El⟩,SY,zM⟩:=e1;subst su;obtain ⟨q',iG,_,Wm⟩:=zM kt rfl;have kE:E.tk[kt]? = some ⟨m,R0,e,some cs⟩:=by rw [h.tk];exact hq
 rw [kE] at iG;simp only [oI] at iG;subst iG;have hy:=Wm jQ;rw [e1,jQ] at hy;rw [jQ] at e1;have YK:=h.env.cI kt _ _ kE hy;rcases YK with ⟨nY,jS,_⟩ | ⟨g,cap,cur,nY,hw0,⟨BM,Lc⟩,I0,I1,gk,Ld⟩
 ·simp only at jS;omega
 injection nY with i1 i2 i3
 subst i1 i3;obtain ⟨hu,ii,zv,sr,_,hsz2,_,_⟩:=eB X.hT hT;have nZ:iq X.P et=some e:=by rw [gq sr,hsz2]
 have YL:(execOp a.eval o1).run X.P w = .ok (.value (.pointer (some ⟨g,z.toNat * e,none⟩))) w:=by
  have bZ:(Instr.indexAt t (.slice (some ⟨g,0,none⟩) m mg) (.int kd z)).run X.P w = .ok (.pointer (some ⟨g,z.toNat * e,none⟩)) w:=by
   simp [Instr.indexAt,asIntOf,run_underlying hu,hz.1,hz.2,aJ nZ,Addr.add_lit]
  simp only [execOp,h1.1,e1,e2,Sem.run_bind,bZ,Result.andThen_ok,Sem.run_pure]
 refine ir YL ?_;rw [h1.2];have hr1:Rel X E ⟨(d1,⟨[],.pt [] 0⟩) :: st.sl,st.bx,st.tk⟩ (a.put (some d1) (.pointer (some ⟨g,z.toNat * e,none⟩))) w:=aV h Ep (.pt [] 0) _ (by unfold Rv;exact ⟨g,z.toNat * e,rfl,by simp only [RvAt]⟩);generalize ha1:a.put (some d1) (.pointer (some ⟨g,z.toNat * e,none⟩))=a1 at hr1
 have ht1:a1.eval (.tmp d1) = .pointer (some ⟨g,z.toNat * e,none⟩):=by
  subst ha1;simp only [fi,Bool.and_eq_true,Nat.blt_eq] at Ep;simp [Act.eval,Act.put,h.sz,Ep.1]
 show kq X (.ops all (o2 :: o3 :: r) :: k) .normal a1 w;simp only [kq,wpList,Region.wanted,h2.2.2,h3.2.2,if_true];refine .inl (ir (v:=.pointer (some ⟨g,z.toNat * e + off,none⟩)) (w':=w) ?_ ?_)
 ·simp only [execOp,h2.1,ht1,Sem.run_bind,iQ (qT X.hT te),Result.andThen_ok,Sem.run_pure]
 rw [h2.2.1];have hr2:Rel X E ⟨(d2,⟨[],.pt [] 0⟩) :: (d1,⟨[],.pt [] 0⟩) :: st.sl,st.bx,st.tk⟩ (a1.put (some d2) (.pointer (some ⟨g,z.toNat * e + off,none⟩))) w:=aV hr1 Lq (.pt [] 0) _ (by unfold Rv;exact ⟨g,z.toNat * e + off,rfl,by simp only [RvAt]⟩);generalize Pq:a1.put (some d2) (.pointer (some ⟨g,z.toNat * e + off,none⟩))=a2 at hr2
 have ht2:a2.eval (.tmp d2) = .pointer (some ⟨g,z.toNat * e + off,none⟩):=by
  subst Pq;simp only [fi,Bool.and_eq_true,Nat.blt_eq] at Lq;simp [Act.eval,Act.put,hr1.sz,Lq.1]
 have e3:=aQ hr2.rl hx
 have jT:RvC E [dv] (a2.eval x).cells.toList:=by
  have:=e3.cells (iY (n:=1) (by rw [Vz];rfl) (by omega))
  rwa [Vz] at this
 have IZ:(a2.eval x).cells.toList.length=1:=by rw [jT.1.length];all_goals rfl
 obtain ⟨xv,hxv⟩:∃ xv,(a2.eval x).cells.toList=[xv]:=by
  match hh:(a2.eval x).cells.toList,IZ with
  | [y],_=>exact ⟨y,rfl⟩
 obtain ⟨h5,h6⟩:=Lc cs rfl;simp only at h5 h6 BM hw0 I0;have YM:cur.toList.length=mg * e:=by simpa using BM
 have hme:m * e<=mg * e:=Nat.mul_le_mul_right _ I0
 have ki:z.toNat * e + off + 1<=m * e:=by
  have:(z.toNat + 1) * e<=m * e:=Nat.mul_le_mul_right _ (by omega);rw [Nat.add_mul] at this;omega
 have Wh:=lk (P:=X.P) (t:=ty) (off:=z.toNat * e + off) (n:=1) hw0 (Hb X.hT bE) IZ (by rw [BM];omega) (List.all_eq_true.2 jT.2);refine .inl (Pr (w':=World.cM w g (.cells ((cur.toList.take (z.toNat * e + off) ++ (a2.eval x).cells.toList ++ cur.toList.drop (z.toNat * e + off + 1)).toArray) R0 (0,0))) ?_ ?_)
 ·simp only [execOp,h3.1,ht2,Instr.storeAt,Instr.sureAddr,Sem.run_bind,Sem.run_pure,Result.andThen_ok,Wh]
 rw [h3.2.1]
 have S3:cur.toList.take (z.toNat * e + off) ++ (a2.eval x).cells.toList ++ cur.toList.drop (z.toNat * e + off + 1)=cur.toList.set (z.toNat * e + off) xv:=by
  rw [hxv,List.set_eq_take_append_cons_drop,if_pos (by omega)];simp
 rw [S3]
 have hx1:RvC E.cl [YJ] [xv]:=by
  rw [hxv] at jT;have h7:=jT.1;simp only [RvL] at h7;obtain ⟨v,s',h8,h9,pq⟩:=h7;simp only [List.cons.injEq] at h8;obtain ⟨rfl,rfl⟩:=h8;exact ⟨rvL_cons (ur hdv h9) (by simp only [RvL]),jT.2⟩
 have O3:Eu (World.cM w g (.cells (cur.toList.set (z.toNat * e + off) xv).toArray R0 (0,0))) E.c E.β ⟨m,R0,e,some (cs.set (z.toNat * e + off) YJ)⟩ (.slice (some ⟨g,0,none⟩) m mg):=by
  refine .inr ⟨g,mg,_,rfl,dy hw0,⟨by simpa using YM,fun cs' K6=>?_⟩,I0,I1,gk,Ld⟩;simp only [oI] at K6;subst K6;simp only;refine ⟨by rw [List.length_set];exact h5,?_⟩;rw [List.take_set];have ap:z.toNat * e + off < (cur.toList.take (m * e)).length:=by rw [List.length_take];omega
  rw [List.set_eq_take_append_cons_drop,if_pos (by omega),List.set_eq_take_append_cons_drop,if_pos ap];have h8:=(RvC.take (z.toNat * e + off) h6).append (RvC.append hx1 (RvC.drop (z.toNat * e + off + 1) h6));simpa using h8
 have KJ:some g≠some g->False:=fun h=>h rfl
 obtain ⟨cf,hext⟩:=Hg (q':=⟨m,R0,e,some (cs.set (z.toNat * e + off) YJ)⟩) (w':=World.cM w g (.cells (cur.toList.set (z.toNat * e + off) xv).toArray R0 (0,0))) hr2 aT kE hy rfl rfl rfl (.inl ⟨rfl,rfl⟩) O3 (.inl rfl) rfl rfl rfl (by rw [fO];exact Nat.le_refl _) (fun j _ aN=>cg (by
  rintro rfl
  exact aN rfl))
 exact go_sound 4000 _ _ hk _ _ _ cf
open Classical in
noncomputable def CN (E:En) (w:World) (y:Value) (n:Nat):Addr->Option Value:=
 fun x=>if y.ownBlock=some x.block/\x.spot=none/\x.off < n then w.cell? x else E.c x
theorem jC {y:Value} {n:Nat} {x:Addr} {v:Value} (h:CN E w y n x=some v):(y.ownBlock=some x.block/\x.spot=none/\x.off < n/\w.cell? x=some v)∨E.c x=some v:=by
 unfold CN at h;split at h
 ·rename_i hc;exact .inl ⟨hc.1,hc.2.1,hc.2.2,h⟩
 ·exact .inr h
theorem P0 (h:Rel X E st a w) {k n ty e:Nat} {cs:List DV} {ns:List (List DV)} (hq:st.tk[k]? = some ⟨n,ty,e,some cs⟩) (ct:cs=ns.flatten) (su:∀ x∈ns,x.length=e) (gI:ns.length=n) :
  ∃ E',Rel X E' ⟨st.sl,st.bx,st.tk.set k ⟨n,ty,e,none⟩⟩ a w/\Ext E E' /\ ∀ es y,es.length=n->Rv E (.sl 0 es (some k)) y->Rv E' (.sl e ns (some k)) y:=by
 subst ct;have kE:E.tk[k]? = some ⟨n,ty,e,some ns.flatten⟩:=by rw [h.tk];exact hq
 have gF:=(gS kE).1;have Wg:k < E.τ.length:=by rw [h.env.tl];exact gF
 have hv:E.τ[k]? = some E.τ[k]:=gE Wg;generalize E.τ[k]=v at hv;have YK:=h.env.cI k _ v kE hv
 have fQ:∀ x u,E.c x=some u->CN E w v (n * e) x=some u:=fun x u hx=>by
  unfold CN;split
  ·exact h.env.sub x u hx
  ·exact hx
 have hext:Ext E ⟨CN E w v (n * e),E.β,E.tk.set k ⟨n,ty,e,none⟩,E.τ⟩:=⟨fQ,fun _ _ h=>h,fun j q hqj=>by
  by_cases hj:j=k
  ·subst hj;rw [kE] at hqj;simp only [oI] at hqj;subst hqj;exact ⟨_,List.getElem?_set_self gF,.inl ⟨rfl,rfl⟩⟩
  ·exact ⟨q,by rw [List.getElem?_set_ne (Ne.symm hj)];exact hqj,.inl ⟨rfl,rfl⟩⟩⟩
 refine ⟨⟨CN E w v (n * e),E.β,E.tk.set k ⟨n,ty,e,none⟩,E.τ⟩,di h hext ?_ (by rw [h.tk]) ?_ h.fr h.sh h.bt,hext,?_⟩
 ·exact {
   len:=h.env.len
   tl:=by simp only [List.length_set];exact h.env.tl
   eu:=fun i cs hi=>by
    obtain ⟨b,t,arr,hb,hw,hc⟩:=h.env.eu i cs hi;exact ⟨b,t,arr,hb,hw,hc.mono hext⟩
   inj:=h.env.inj
   sub:=fun x u hx=>by
    rcases jC hx with ⟨_,_,_,h1⟩ | h1
    ·exact h1
    ·exact h.env.sub x u h1
   pc:=fun x u hx hm=>by
    rcases jC hx with ⟨h1,_⟩ | h1
    ·exact (iF YK h1).2 hm
    ·exact h.env.pc x u h1 hm
   cI:=fun j q y hj hy=>by
    by_cases S9:j=k
    ·subst S9;have fT:(E.tk.set j ⟨n,ty,e,none⟩)[j]? = some q:=hj;rw [List.getElem?_set_self gF] at fT;have gp:E.τ[j]? = some y:=hy;rw [hv] at gp;simp only [oI] at fT gp;subst fT gp;rcases YK with ⟨h1,h2,_⟩ | ⟨g,cap,cur,rfl,h1,h2,h3,h4,h5,h6⟩
     ·exact .inl ⟨h1,h2,fun cs hc=>by cases hc⟩
     ·refine .inr ⟨g,cap,cur,rfl,h1,⟨h2.1,pe.none rfl⟩,h3,h4,h5,fun x u hx ED=>?_⟩;rcases jC hx with ⟨_,_,h7,_⟩ | h7
      ·exact h7
      ·have:=h6 x u h7 ED;simp only [TkE.kn] at this;omega
    ·have fT:E.tk[j]? = some q:=by
      have:(E.tk.set k ⟨n,ty,e,none⟩)[j]? = some q:=hj
      rwa [List.getElem?_set_ne (Ne.symm S9)] at this
     rcases h.env.cI j q y fT hy with h1 | ⟨g,cap,cur,rfl,h1,h2,h3,h4,h5,h6⟩
     ·exact .inl h1
     ·refine .inr ⟨g,cap,cur,rfl,h1,⟨h2.1,h2.2.mono fQ⟩,h3,h4,h5,fun x u hx ED=>?_⟩;rcases jC hx with ⟨h7,_⟩ | h7
      ·exact (h.env.iX j k _ v g S9 hy hv rfl (by rw [h7,ED])).elim
      ·exact h6 x u h7 ED
   iX:=h.env.iX }
 ·exact {
   c:=fun x u hx=>fQ x u (h.nw.c x u hx)
   cn:=fun x u hx=>by
    rcases jC hx with ⟨h1,_⟩ | h1
    ·rcases h.nw.own hv h1 with h2 | h2
     ·exact .inr (.inr h2)
     ·exact .inr (.inl h2)
    ·exact h.nw.cn x u h1
   β:=h.nw.β
   tk:=fun j q0 y0 s9 EA=>by
    obtain ⟨q1,y1,h1,h2,h3,h4,h5,h6⟩:=h.nw.tk j q0 y0 s9 EA;by_cases hj:j=k
    ·subst hj;rw [kE] at h1;simp only [oI] at h1;subst h1;exact ⟨_,y1,List.getElem?_set_self gF,h2,h3,h4,h5,h6⟩
    ·exact ⟨q1,y1,by rw [List.getElem?_set_ne (Ne.symm hj)];exact h1,h2,h3,h4,h5,h6⟩
   tn:=fun j y g hj hy=>h.nw.tn j y g hj hy
   l0:=h.nw.l0 }
 ·intro es y jQ hy;unfold Rv at hy ⊢;obtain ⟨b,m,cap,rfl,⟨rfl,hmc⟩,hr,aT⟩:=hy;obtain ⟨q',iG,_,hτ⟩:=aT k rfl;rw [kE] at iG;simp only [oI] at iG;subst iG;have hy:=hτ jQ;rw [hv] at hy;simp only [oI] at hy;subst hy;refine ⟨b,es.length,cap,rfl,⟨by omega,hmc⟩,fun aN=>?_,fun k' gm=>?_⟩
  ·rcases YK with ⟨h1,h2,h3⟩ | ⟨g,Wc,cur,h0,h1,h2,h3,h4,h5,h6⟩
   ·simp only at h2;exact (aN (List.eq_nil_of_length_eq_zero (by omega))).elim
   ·injection h0 with i1 i2 i3
    subst i1;refine ⟨rfl,?_⟩;obtain ⟨h7,h8⟩:=h2.2 _ rfl;refine rvEs_flat (h8.mono (E:=⟨E.c,[],[],[]⟩) ⟨fQ,fun _ _ h=>by simp at h,fun _ _ h=>by simp at h⟩) su fun j u hj=>?_;rw [List.getElem?_take] at hj;split at hj
    ·rename_i lh;show CN E w _ (n * e) _=_;unfold CN;rw [if_pos ⟨rfl,rfl,by simpa [ao] using lh⟩];simp only [ab,ao,Nat.zero_add];rw [ch h1];simpa using hj
    ·cases hj
  ·cases gm;exact ⟨_,List.getElem?_set_self gF,by simp only;omega,fun _=>hv⟩
theorem T9 {j o k n ty e:Nat} {KO:List DV} {es ns:List (List DV)} (hq:st.tk[k]? = some ⟨n,ty,e,some ns.flatten⟩) (su:∀ x∈ns,x.length=e) (gI:ns.length=n) (hj:st.bx[j]? = some KO) (ho:KO[o]? = some (.sl 0 es (some k))) (jQ:es.length=n) :
  Wk X st ⟨st.sl,st.bx.set j (KO.set o (.sl e ns none)),st.tk.set k ⟨n,ty,e,none⟩⟩:=by
 intro E a w h;obtain ⟨E',hr,hx,qX⟩:=P0 h hq rfl su gI;refine ⟨E',{ hr with env:=?_ }⟩
 exact { hr.env with
  len:=by simp only [List.length_set];exact hr.env.len
  eu:=fun i cs' hi=>by
   by_cases tH:i=j
   ·subst tH;have ap:=(gS hj).1;have dE:(st.bx.set i (KO.set o (.sl e ns none)))[i]? = some cs':=hi;rw [List.getElem?_set_self ap] at dE;simp only [oI] at dE;subst dE;obtain ⟨b,t,arr,hb,hw,hc⟩:=hr.env.eu i KO hj;obtain ⟨b0,t0,EF,gk,hw0,Ld⟩:=h.env.eu i KO hj;have iu:=hx.β i b0 gk;rw [hb] at iu;simp only [oI] at iu;subst iu;rw [hw] at hw0;simp only [oI,Obj.cells.injEq] at hw0
    have L6:arr=EF:=by
     have:=hw0.1;simpa using this
    subst L6;refine ⟨b,t,arr,hb,hw,?_,hc.2⟩;obtain ⟨v,o6,IW⟩:=Ld.1.get ho;have HG:=qX es v jQ IW;have ja:=(gS ho).1;have Ps:arr.length=KO.length:=hc.1.length
    have h1:=(RvL.take o hc.1).append (rvL_cons (d:=.sl e ns none) (v:=v) (by
     unfold Rv at HG ⊢;obtain ⟨b,n,cap,g1,g2,g3,_⟩:=HG
     exact ⟨b,n,cap,g1,g2,g3,fun k hk=>by cases hk⟩) (RvL.drop (o + 1) hc.1))
    rw [List.set_eq_take_append_cons_drop,if_pos ja]
    have h2:arr.take o ++ v :: arr.drop (o + 1)=arr:=by
     have hoa:o < arr.length:=by omega
     have:arr[o]=v:=by
      rw [gE hoa] at o6;simpa using o6
     rw [<- this];simp
    rwa [h2] at h1
   ·have dE:(st.bx.set j (KO.set o (.sl e ns none)))[i]? = some cs':=hi;rw [List.getElem?_set_ne (Ne.symm tH)] at dE
    exact hr.env.eu i cs' dE }
theorem Wk.ER (i j:Nat) (S S':St) (he:S'=fo i j S) (KC:Nat.ble X.n0 i=true) (sq:Nat.ble X.n0 j=true) (hi:Nat.blt i S.bx.length=true) (hj:Nat.blt j S.bx.length=true) (hX:X.bt=[]:=by exact rfl):Wk X S' S:=fun E a w h=>by
 subst he;simp only [Nat.blt_eq] at hi hj;exact Hp hX h (nL KC) (nL sq) hi hj
theorem MK {c:Code} (I:Nat->St->Prop) (j0:Nat) (kI:St) (hw:Wk X st kI) (h0:I j0 kI)
  (hr:∀ j s,I j s->go X 4000 (.code c :: .Ej (fun s'=>∃ Lk,Wk X s' Lk /\ ∃ j',j' < j/\I j' Lk) :: k) s):si X c k st:=by
 intro E a w h;obtain ⟨E0,hr0⟩:=hw _ _ _ h
 classical
 let Inv:Act->World->Prop:=fun a w=>∃ j s E,Rel X E s a w/\I j s
 let μ:Act->World->Nat:=fun a w=>if hI:Inv a w then Classical.choose (least hI) else 0
 refine wp_loop Inv μ ⟨j0,kI,E0,hr0,h0⟩ ?_;intro a1 w1 hI;have yb:=(Classical.choose_spec (least hI)).1;obtain ⟨s,E1,cf,hIs⟩:=yb;have hs:=go_sound 4000 _ _ (hr _ s hIs) E1 a1 w1 cf;rw [eN] at hs;refine wp_mono hs ?_;intro e a2 w2 hq
 cases e with
 | normal=>
  obtain ⟨s',E2,BV,Lk,Py,j',fT,Wv⟩:=hq;obtain ⟨E3,BW⟩:=Py _ _ _ BV;have Ta:Inv a2 w2:=⟨j',Lk,E3,BW,Wv⟩;refine ⟨Ta,?_⟩;simp only [μ,dif_pos hI,dif_pos Ta];exact Nat.lt_of_le_of_lt ((Classical.choose_spec (least Ta)).2 j' ⟨Lk,E3,BW,Wv⟩) fT
 | exit id=>exact hq
 | goto l=>exact hq
 | ret=>exact hq
 | panic c=>exact hq
 | outgrown=>exact hq
mutual
def flatD:DV->Bool
 | .v _=>true
 | .agg l=>flatL l
 | .tup l=>flatL l
 | _=>false
def flatL:List DV->Bool
 | []=>true
 | d :: r=>flatD d && flatL r
end
mutual
theorem Rv.flat {E E':En}:∀ {d:DV} {v:Value},flatD d=true->Rv E d v->Rv E' d v
 | .v x,v,_,h=>by unfold Rv at h ⊢;exact h
 | .agg l,v,hf,h=>by
  simp only [flatD] at hf;simp only [Rv] at h ⊢;obtain ⟨vs,h1,h2,h3⟩:=h;exact ⟨vs,h1,RvL.flat hf h2,h3⟩
 | .tup l,v,hf,h=>by
  simp only [flatD] at hf;simp only [Rv] at h ⊢;obtain ⟨vs,h1,h2⟩:=h;exact ⟨vs,h1,RvL.flat hf h2⟩
 | .ud,_,hf,_=>by simp [flatD] at hf
 | .sl _ _ _,_,hf,_=>by simp [flatD] at hf
 | .pt _ _,_,hf,_=>by simp [flatD] at hf
 | .loc _ _,_,hf,_=>by simp [flatD] at hf
 | .el _ _,_,hf,_=>by simp [flatD] at hf
 | .ms _ _ _ _ _,_,hf,_=>by simp [flatD] at hf
 | .fn _ _ _,_,hf,_=>by simp [flatD] at hf
 | .sg _ _,_,hf,_=>by simp [flatD] at hf
theorem RvL.flat {E E':En}:∀ {l:List DV} {vs:List Value},flatL l=true->RvL E l vs->RvL E' l vs
 | [],vs,_,h=>by simpa only [RvL] using h
 | d :: r,vs,hf,h=>by
  simp only [flatL,Bool.and_eq_true] at hf;simp only [RvL] at h ⊢;obtain ⟨v,s,h1,h2,h3⟩:=h;exact ⟨v,s,h1,Rv.flat hf.1 h2,RvL.flat hf.2 h3⟩
end
theorem HZ {f:FuncId} {args bJ:List DV} {d:Nat} {y:DV} (j1:Enters X.P f) (hc:EvP X.P f bJ y) (ha:CcL st.bx 0 0 0 bJ args) (hy:flatD y=true) (hd:fi X.nt st.sl (some d)=true)
  (hk:go X 4000 k ⟨(d,⟨[],y⟩) :: st.sl,st.bx,st.tk⟩) (aT:X.still=false:=by exact rfl):dL X f args (some d) k st:=by
 refine ⟨j1,aT,fun E a w vs h hv=>(iS h.env hc ha hv).mono ?_⟩;rintro e w' ⟨v,E2,rfl,hr,hm,_⟩;have hh:∀ i,i < w.heap.size->w'.heap[i]? = w.heap[i]?:=fun i hi=>hm.block i hi (fun h=>h);have cf:Rel X E st a w':=di h (Ext.refl E) (h.env.kh hh) h.tk h.nw (h.fr.cm hm.os hm.tape hm.output hm.size fun i hi=>.inr (hh i hi)) (nX aT) (h.bt.kh fun b hb=>hh b (h.env.aZ hb));exact go_sound 4000 _ _ hk E _ w' (aV cf hd y v (Rv.flat hy hr))
theorem pX {D:Dr} {c:Bool} {i:Nat} {s0:List (Nat × Sl)} {f:FuncId} {args bJ:List DV} {d:Nat} {y:DV} {r:List (Nat × Oper)} (j1:Enters X.P f) (hc:EvP X.P f bJ y) (ha:CcL st.bx 0 0 0 bJ args) (hy:flatD y=true) (hd:(fi X.nt st.sl (some d) && fi X.nt s0 (some d))=true)
  (hk:put2 s0 st (some d) true [] y (goD X D 3000 c r)) (aT:X.still=false:=by exact rfl):B1 X D c i r f args (some d) s0 st:=by
 refine ⟨j1,fun hl E0 wr hD E a w vs h hv=>(iS h.rel.env hc ha hv).mono ?_⟩;rintro e w' ⟨v,E2,rfl,hr,hm,_⟩;have hh:∀ i,i < w.heap.size->w'.heap[i]? = w.heap[i]?:=fun i hi=>hm.block i hi (fun h=>h);have cf:Rel X E st a w':=di h.rel (Ext.refl E) (h.rel.env.kh hh) h.rel.tk h.rel.nw (h.rel.fr.cm hm.os hm.tape hm.output hm.size fun i hi=>.inr (hh i hi)) (nX aT) (h.rel.bt.kh fun b hb=>hh b (h.rel.env.aZ hb));have hs:KE none E w E w':=⟨Ext.refl E,⟨[],by simp⟩,fun j b hb _=>hh b (h.rel.env.aZ (mG hb))⟩;have hC:=Hm h hs cf (fun j hj=>by cases hj);refine ⟨v,rfl,fun _=>hC,?_⟩;have Ls:fm X ⟨D,E0,wr⟩ c E s0 st (a.put none v) w':=uA h hs cf (fun h1=>hC (h.cc h1)) (fun i x hx=>.inr ⟨hx,fun d hd=>by cases hd⟩) rfl;obtain ⟨s1,qN,mn,eF⟩:=ju Ls hd true [] y v (fun _ _ p hp=>by cases hp) (fun _=>Rv.flat hy hr) (fun _ _=>Rv.flat hy hr) (fun hn=>(hn (bc _)).elim) hk;exact eA (D:=⟨D,E0,wr⟩) hD 3000 c r _ _ mn hl E _ w' eF
theorem dL.ER {S:St} {f:FuncId} {args bJ:List DV} {dst:Option Nat} (i j:Nat) (hS:st=fo i j S) (ha:args=renL (swp i j) bJ) (KC:Nat.ble X.n0 i=true) (sq:Nat.ble X.n0 j=true) (hi:Nat.blt i S.bx.length=true) (hj:Nat.blt j S.bx.length=true)
  (h:dL X f bJ dst k S) (hX:X.bt=[]:=by exact rfl):dL X f args dst k st:=by
 subst hS ha;simp only [Nat.blt_eq] at hi hj;refine ⟨h.1,h.2.1,fun E a w vs hr hv=>?_⟩
 have hlen:E.β.length=S.bx.length:=by
  rw [hr.env.len];simp only [fo,cu,cV]
 exact h.2.2 _ a w vs (B5 hX hr (nL KC) (nL sq) hi hj) (RvL.ER (by rw [hlen];exact hi) (by rw [hlen];exact hj) hv)
end
end Dv
end Go.Proofs.YtfifjddnnmfeoaaGreat
set_option maxRecDepth 100000
namespace Go.Proofs.YtfifjddnnmfeoaaGreat
open Go Go.RowKit Dv Tryz
def cZ (l:List Int):List DV:=l.map fun z=>DV.v (.int .i64 z)
def tN (af:List ByteArray) (tb lq:DV) (js:List Int):List DV:=.sl 1 (dF af) none :: tb :: lq :: cZ js
def oz:Option Nat->Int
 | none=>-1
 | some k=>(k:Int)
def CO (pb:Nat->Nat->Bool) (e:Nat):Option Nat->Bool
 | none=>true
 | some o=>pb e o
def bestA (iN:Nat->Bool) (pb:Nat->Nat->Bool):Nat->Option Nat
 | 0=>none
 | e + 1=>if iN e && CO pb e (bestA iN pb e) then some e else bestA iN pb e
def mN (iN:Nat->Bool) (pb:Nat->Nat->Bool) (n:Nat):Option Nat:=
 match bestA iN pb n with
 | none=>none
 | some o=>if (List.range n).any (fun c=>iN c && !pb o c) then none else some o
theorem mO {iN:Nat->Bool} {pb:Nat->Nat->Bool}:∀ {e k:Nat},bestA iN pb e=some k->k < e
 | 0,k,h=>by cases h
 | e + 1,k,h=>by
  rw [bestA] at h;split at h
  ·simp only [oI] at h;omega
  ·have:=mO h;omega
theorem rz (af:List ByteArray) (tb:DV) (rows:List Nat) (js:List Int) (hr:dP rows) (a b:Nat) (ha:a < rows.length) (hb:b < rows.length) :
  EvP Tryz.prog 166 [.v (.int .i64 a),.v (.int .i64 b),.pt [.pt (tN af tb (mi rows) js) 0] 0] (.v (.bool (aM rows a b))):=by
 have h1:=kN rows hr a b;rw [pQ ha hb] at h1;refine ev_go (P:=Tryz.prog) tt tt_ok 5000 13 [.tmp 5] Tryz.func166 rfl Tryz.ntmps166 rfl (nL rfl) (fun E9 w9 hn9 hm9=>?_);refine call_p Cd (h1) ax rfl ?_;exact (rfl:_=_)
theorem rA (af:List ByteArray) (tb:DV) (rows:List Nat) (js:List Int) (hr:dP rows) (a b:Nat) (ha:a < rows.length) (hb:b < rows.length) :
  EvP Tryz.prog 167 [.v (.int .i64 a),.v (.int .i64 b),.pt [.pt (tN af tb (mi rows) js) 0] 0] (.v (.bool (aM rows b a))):=by
 have h1:=kN rows hr b a;rw [pQ hb ha] at h1;refine ev_go (P:=Tryz.prog) tt tt_ok 5000 13 [.tmp 5] Tryz.func167 rfl Tryz.ntmps167 rfl (nL rfl) (fun E9 w9 hn9 hm9=>?_);refine call_p Cd (h1) ax rfl ?_;exact (rfl:_=_)
abbrev R4 (L:List DV):DV:=.fn 166 [] [.pt [.pt L 0] 0]
abbrev R5 (L:List DV):DV:=.fn 167 [] [.pt [.pt L 0] 0]
theorem JE (af:List ByteArray) (tb:DV) (rows:List Nat) (js:List Int) (hr:dP rows) (a b c:Nat) (ha:a < rows.length) (hb:b < rows.length) (hc:c < rows.length) :
  EvP Tryz.prog 169 [.v (.int .i64 c),.pt [R4 (tN af tb (mi rows) js)] 0,.pt [.v (.int .i64 a)] 0,.pt [.v (.int .i64 b)] 0] (.v (.bool (aM rows a c && aM rows b c))):=by
 have h1:=rz af tb rows js hr a c ha hc;have h2:=rz af tb rows js hr b c hb hc;refine ev_go (P:=Tryz.prog) tt tt_ok 5000 16 [.tmp 5] Tryz.func169 rfl Tryz.ntmps169 rfl (nL rfl) (fun E9 w9 hn9 hm9=>?_);refine call_p LI (h1) ax rfl ?_;refine br (fun g=>?_) (fun g=>?_)
 ·have g:aM rows a c=true:=by simpa using g
  refine call_p LI (h2) ax rfl ?_;refine (congrArg (fun b=>DV.v (.bool b)) ?_:_=_);simp [g,pickB]
 ·have g:aM rows a c=false:=by simpa using g
  refine (congrArg (fun b=>DV.v (.bool b)) ?_:_=_);simp [g,pickB]
theorem JF (af:List ByteArray) (tb:DV) (rows:List Nat) (js:List Int) (hr:dP rows) (a b c:Nat) (ha:a < rows.length) (hb:b < rows.length) (hc:c < rows.length) :
  EvP Tryz.prog 170 [.v (.int .i64 c),.pt [R5 (tN af tb (mi rows) js)] 0,.pt [.v (.int .i64 a)] 0,.pt [.v (.int .i64 b)] 0] (.v (.bool (aM rows c a && aM rows c b))):=by
 have h1:=rA af tb rows js hr a c ha hc;have h2:=rA af tb rows js hr b c hb hc;refine ev_go (P:=Tryz.prog) tt tt_ok 5000 16 [.tmp 5] Tryz.func170 rfl Tryz.ntmps170 rfl (nL rfl) (fun E9 w9 hn9 hm9=>?_);refine call_p LJ (h1) ax rfl ?_;refine br (fun g=>?_) (fun g=>?_)
 ·have g:aM rows c a=true:=by simpa using g
  refine call_p LJ (h2) ax rfl ?_;refine (congrArg (fun b=>DV.v (.bool b)) ?_:_=_);simp [g,pickB]
 ·have g:aM rows c a=false:=by simpa using g
  refine (congrArg (fun b=>DV.v (.bool b)) ?_:_=_);simp [g,pickB]
abbrev oM (L:List DV) (gi gb:Nat) (ci cb:List DV) (n:Nat) (o:Int) (e:Nat):St:=
 ⟨[(0,⟨[],.pt L 0⟩),(1,⟨[],.fn gi [] ci⟩),(2,⟨[],.fn gb [] cb⟩),(7,⟨[],.v (.int .i64 o)⟩),(14,⟨[],.v (.int .i64 n)⟩),(15,⟨[],.v (.int .i64 e)⟩)],[],[]⟩
abbrev pY (L:List DV) (gi gb:Nat) (ci cb:List DV) (n:Nat) (o:Int) (e:Nat):St:=
 ⟨[(0,⟨[],.pt L 0⟩),(1,⟨[],.fn gi [] ci⟩),(2,⟨[],.fn gb [] cb⟩),(7,⟨[],.v (.int .i64 o)⟩),(37,⟨[],.v (.int .i64 n)⟩),(38,⟨[],.v (.int .i64 e)⟩)],[],[]⟩
theorem yI (af:List ByteArray) (tb lq:DV) (js:List Int) (gi gb:Nat) (hei:Enters Tryz.prog gi) (heb:Enters Tryz.prog gb) (ci cb:List DV) (iN:Nat->Bool) (pb:Nat->Nat->Bool)
  (YN:CcL [] 0 0 0 ci ci) (YO:CcL [] 0 0 0 cb cb) (hcli:clB.clL 0 0 ci=true) (hclb:clB.clL 0 0 cb=true) (hn:af.length<=64)
  (rf:∀ c:Nat,c < af.length->EvP Tryz.prog gi (.v (.int .i64 c) :: ci) (.v (.bool (iN c))))
  (hpb:∀ a b:Nat,a < af.length->b < af.length->EvP Tryz.prog gb (.v (.int .i64 a) :: .v (.int .i64 b) :: cb) (.v (.bool (pb a b)))) :
  EvP Tryz.prog 168 [.pt (tN af tb lq js) 0,.fn gi [] ci,.fn gb [] cb] (.v (.int .i64 (oz (mN iN pb af.length)))):=by
 have hN:=bR af;have Ao:clB 0 0 (.fn gi [] ci)=true:=by simp only [clB,Bool.and_eq_true];exact ⟨rfl,hcli⟩
 have H0:clB 0 0 (.fn gb [] cb)=true:=by simp only [clB,Bool.and_eq_true];exact ⟨rfl,hclb⟩
 refine ev_go (P:=Tryz.prog) tt tt_ok 5000 57 [.tmp 6] Tryz.func168 rfl Tryz.ntmps168 rfl (nL rfl) (fun E9 w9 hn9 hm9=>?_);refine aq (fun j st=>∃ e:Nat,st=oM (tN af tb lq js) gi gb ci cb (dF af).length (oz (bestA iN pb e)) e/\e<=af.length/\j=af.length - e) af.length (oM (tN af tb lq js) gi gb ci cb (dF af).length (oz (bestA iN pb 0)) 0) (weak_mk ⟨_,rfl⟩ wA rfl rfl rfl (by repeat' (first | exact trivial | exact ah rfl | exact ah Ao | exact ah H0 | refine ⟨⟨_,rfl,?_⟩,?_⟩))) ⟨0,rfl,by omega,by omega⟩ ?_;rintro j st ⟨e,rfl,he,rfl⟩;refine br (fun hL=>?_) (fun hL=>?_)
 ·have ap:e < af.length:=by have:=hL;simp [hN] at this;exact this
  have hs:bestA iN pb (e + 1)=if iN e && CO pb e (bestA iN pb e) then some e else bestA iN pb e:=rfl
  refine call_p hei (rf e ap) ⟨_,_,rfl,rfl,YN⟩ rfl ?_
  cases hA:bestA iN pb e with
  | none=>
   rw [hA] at hs;refine br (fun g=>?_) (fun g=>?_)
   ·have g:iN e=true:=by simpa [lastG] using g
    have hz:(e:Int)=oz (bestA iN pb (e + 1)):=by rw [hs,g];all_goals rfl
    exact ⟨oM (tN af tb lq js) gi gb ci cb (dF af).length (oz (bestA iN pb (e + 1))) (e + 1),(weak_mk ⟨_,rfl⟩ wA rfl rfl rfl (by repeat' (first | exact trivial | exact ah rfl | exact ah Ao | exact ah H0 | exact ak (cx ap (by omega)) | exact ak hz | refine ⟨⟨_,rfl,?_⟩,?_⟩))),af.length - (e + 1),by omega,e + 1,rfl,by omega,rfl⟩
   ·have g:iN e=false:=by simpa [lastG] using g
    have hz:oz none=oz (bestA iN pb (e + 1)):=by rw [hs,g];all_goals rfl
    exact ⟨oM (tN af tb lq js) gi gb ci cb (dF af).length (oz (bestA iN pb (e + 1))) (e + 1),(weak_mk ⟨_,rfl⟩ wA rfl rfl rfl (by repeat' (first | exact trivial | exact ah rfl | exact ah Ao | exact ah H0 | exact ak (cx ap (by omega)) | exact ak hz | refine ⟨⟨_,rfl,?_⟩,?_⟩))),af.length - (e + 1),by omega,e + 1,rfl,by omega,rfl⟩
  | some k=>
   rw [hA] at hs;have hk:=mO hA;refine br (fun g=>?_) (fun g=>?_)
   ·have g:iN e=true:=by simpa [lastG] using g
    refine call_p heb (hpb e k ap (by omega)) ⟨_,_,rfl,rfl,_,_,rfl,rfl,YO⟩ rfl ?_;refine br (fun g2=>?_) (fun g2=>?_)
    ·have g2:pb e k=true:=by simpa [pickB,g,lastG] using g2
     have hz:(e:Int)=oz (bestA iN pb (e + 1)):=by rw [hs,g,CO,g2];all_goals rfl
     exact ⟨oM (tN af tb lq js) gi gb ci cb (dF af).length (oz (bestA iN pb (e + 1))) (e + 1),(weak_mk ⟨_,rfl⟩ wA rfl rfl rfl (by repeat' (first | exact trivial | exact ah rfl | exact ah Ao | exact ah H0 | exact ak (cx ap (by omega)) | exact ak hz | refine ⟨⟨_,rfl,?_⟩,?_⟩))),af.length - (e + 1),by omega,e + 1,rfl,by omega,rfl⟩
    ·have g2:pb e k=false:=by simpa [pickB,g,lastG] using g2
     have hz:oz (some k)=oz (bestA iN pb (e + 1)):=by rw [hs,g,CO,g2];all_goals rfl
     exact ⟨oM (tN af tb lq js) gi gb ci cb (dF af).length (oz (bestA iN pb (e + 1))) (e + 1),(weak_mk ⟨_,rfl⟩ wA rfl rfl rfl (by repeat' (first | exact trivial | exact ah rfl | exact ah Ao | exact ah H0 | exact ak (cx ap (by omega)) | exact ak hz | refine ⟨⟨_,rfl,?_⟩,?_⟩))),af.length - (e + 1),by omega,e + 1,rfl,by omega,rfl⟩
   ·have g:iN e=false:=by simpa [lastG] using g
    have hz:oz (some k)=oz (bestA iN pb (e + 1)):=by rw [hs,g];all_goals rfl
    exact ⟨oM (tN af tb lq js) gi gb ci cb (dF af).length (oz (bestA iN pb (e + 1))) (e + 1),(weak_mk ⟨_,rfl⟩ wA rfl rfl rfl (by repeat' (first | exact trivial | exact ah rfl | exact ah Ao | exact ah H0 | exact ak (cx ap (by omega)) | exact ak hz | refine ⟨⟨_,rfl,?_⟩,?_⟩))),af.length - (e + 1),by omega,e + 1,rfl,by omega,rfl⟩
 ·have aO:e=af.length:=by have:=hL;simp [hN] at this;omega
  subst aO;refine aq (fun j st=>∃ e:Nat,st=pY (tN af tb lq js) gi gb ci cb (dF af).length (oz (bestA iN pb af.length)) e/\e<=af.length/\(∀ o,bestA iN pb af.length=some o->∀ c,c < e->(iN c && !pb o c)=false)/\j=af.length - e) af.length (pY (tN af tb lq js) gi gb ci cb (dF af).length (oz (bestA iN pb af.length)) 0) (weak_mk ⟨_,rfl⟩ wA rfl rfl rfl (by repeat' (first | exact trivial | exact ah rfl | exact ah Ao | exact ah H0 | refine ⟨⟨_,rfl,?_⟩,?_⟩))) ⟨0,rfl,by omega,fun _ _ c hc=>by omega,by omega⟩ ?_;rintro j st ⟨e,rfl,he,eI,rfl⟩;refine br (fun hL=>?_) (fun hL=>?_)
  ·have ap:e < af.length:=by have:=hL;simp [hN] at this;exact this
   cases hA:bestA iN pb af.length with
   | none=>
    exact ⟨pY (tN af tb lq js) gi gb ci cb (dF af).length (oz none) (e + 1),(weak_mk ⟨_,rfl⟩ wA rfl rfl rfl (by repeat' (first | exact trivial | exact ah rfl | exact ah Ao | exact ah H0 | exact ak (cx ap (by omega)) | refine ⟨⟨_,rfl,?_⟩,?_⟩))),af.length - (e + 1),by omega,e + 1,rfl,by omega,(fun _ h=>by cases h),rfl⟩
   | some o=>
    have ho:=mO hA;have eI:=eI o hA;refine call_p hei (rf e ap) ⟨_,_,rfl,rfl,YN⟩ rfl ?_;refine br (fun g=>?_) (fun g=>?_)
    ·have g:iN e=true:=by simpa [pickB] using g
     refine call_p heb (hpb o e ho ap) ⟨_,_,rfl,rfl,_,_,rfl,rfl,YO⟩ rfl ?_;refine br (fun g2=>?_) (fun g2=>?_)
     ·have g2:pb o e=false:=by simpa [pickB,g,lastG] using g2
      have:mN iN pb af.length=none:=by
       rw [mN,hA];simp only;rw [if_pos];rw [List.any_eq_true];exact ⟨e,by simpa using ap,by simp [g,g2]⟩
      rw [this];exact (rfl:_=_)
     ·have g2:pb o e=true:=by simpa [pickB,g,lastG] using g2
      exact ⟨pY (tN af tb lq js) gi gb ci cb (dF af).length (oz (some o)) (e + 1),(weak_mk ⟨_,rfl⟩ wA rfl rfl rfl (by repeat' (first | exact trivial | exact ah rfl | exact ah Ao | exact ah H0 | exact ak (cx ap (by omega)) | refine ⟨⟨_,rfl,?_⟩,?_⟩))),af.length - (e + 1),by omega,e + 1,rfl,by omega,fun o' Q3 c hc=>by
       cases Q3;rcases Nat.lt_succ_iff_lt_or_eq.1 hc with hc | rfl
       ·exact eI c hc
       ·simp [g2],rfl⟩
    ·have g:iN e=false:=by simpa [pickB] using g
     exact ⟨pY (tN af tb lq js) gi gb ci cb (dF af).length (oz (some o)) (e + 1),(weak_mk ⟨_,rfl⟩ wA rfl rfl rfl (by repeat' (first | exact trivial | exact ah rfl | exact ah Ao | exact ah H0 | exact ak (cx ap (by omega)) | refine ⟨⟨_,rfl,?_⟩,?_⟩))),af.length - (e + 1),by omega,e + 1,rfl,by omega,fun o' Q3 c hc=>by
       cases Q3;rcases Nat.lt_succ_iff_lt_or_eq.1 hc with hc | rfl
       ·exact eI c hc
       ·simp [g],rfl⟩
  ·have aO:e=af.length:=by have:=hL;simp [hN] at this;omega
   subst aO
   have:mN iN pb af.length=bestA iN pb af.length:=by
    cases hA:bestA iN pb af.length with
    | none=>rw [mN,hA]
    | some o=>
     rw [mN,hA];simp only;rw [if_neg];rw [List.any_eq_true];rintro ⟨c,hc,h2⟩;rw [eI o hA c (by simpa using hc)] at h2;cases h2
   rw [this];exact (rfl:_=_)
theorem rB (js:List Int) (bx:List (List DV)) (N n m:Nat):CcL bx N n m (cZ js) (cZ js):=by
 induction js with
 | nil=>exact rfl
 | cons z r ih=>exact ⟨_,_,rfl,rfl,ih⟩
theorem gB {n m:Nat} {tk:List TkE} (js:List Int):WeL n m tk (cZ js) (cZ js):=u5 _ fun x hx=>by
 obtain ⟨z,_,rfl⟩:=List.mem_map.1 hx;exact ⟨_,rfl⟩
theorem Ua (f:Nat->Nat) (js:List Int):renL f (cZ js)=cZ js:=by
 induction js with
 | nil=>rfl
 | cons z r ih=>simp only [cZ,List.map_cons,renL,renD] at ih ⊢;rw [ih]
theorem Ub (js:List Int):(cZ js).length=js.length:=by simp [cZ]
theorem ML (js:List Int) (i:Nat) (z:Int):(cZ js).set i (.v (.int .i64 z))=cZ (js.set i z):=by simp [cZ,List.map_set]
abbrev gJ (af:List ByteArray) (tc:List DV) (rows:List Nat) (js:List Int):List DV:=tN af (.pt tc 0) (mi rows) js
theorem P1 (af:List ByteArray) (tc:List DV) (rows:List Nat) (js:List Int):(gJ af tc rows js).length=js.length + 3:=by simp [tN,cZ]
theorem tO {af:List ByteArray} {tc:List DV} {rows:List Nat} {js:List Int} {i k:Nat} {z:Int} (h:k=i + 3):(gJ af tc rows js).set k (.v (.int .i64 z))=gJ af tc rows (js.set i z):=by
 subst h;simp only [tN,List.set_cons_succ,ML]
theorem P2 (f:Nat->Nat) (af:List ByteArray) (tc:List DV) (rows:List Nat) (js:List Int):renL f (gJ af tc rows js)=gJ af tc rows js:=by
 simp only [tN,renL,Ua];rfl
theorem H3 {n m:Nat} {tk:List TkE} {l:List DV} {af:List ByteArray} {tc:List DV} {rows:List Nat} {js:List Int} (h:l=gJ af tc rows js):WeL n m tk l (gJ af tc rows js):=by
 subst h;exact ⟨_,_,rfl,ah rfl,_,_,rfl,ah rfl,_,_,rfl,ah rfl,gB js⟩
def eG (f:Nat->Nat->Bool) (n a b:Nat):Option Nat:=mN (fun c=>f a c && f b c) f n
def iA (f:Nat->Nat->Bool) (n a b:Nat):Option Nat:=mN (fun c=>f c a && f c b) (fun x y=>f y x) n
theorem vi (f:Nat->Nat->Bool) (n a b:Nat):eG f n a b=eG f n b a:=by
 unfold eG;congr 1;funext c;exact Bool.and_comm _ _
theorem vj (f:Nat->Nat->Bool) (n a b:Nat):iA f n a b=iA f n b a:=by
 unfold iA;congr 1;funext c;exact Bool.and_comm _ _
def kR (f:Nat->Nat->Bool) (n a b:Nat):Bool:=(eG f n a b).isNone || (iA f n a b).isNone
def mP (f:Nat->Nat->Bool) (n b:Nat):Bool:=(List.range (b + 1)).any fun a=>kR f n a b
def JM (f:Nat->Nat->Bool) (n:Nat) (js:List Int) (a b:Nat):Prop:=js[a * 32 + b]? = some (oz (eG f n a b))/\js[1024 + (a * 32 + b)]? = some (oz (iA f n a b))
def xI (js:List Int) (a b:Nat) (j m:Int):List Int:=(((js.set (a * 32 + b) j).set (b * 32 + a) j).set (1024 + (a * 32 + b)) m).set (1024 + (b * 32 + a)) m
theorem MM (js:List Int) (a b:Nat) (j m:Int):(xI js a b j m).length=js.length:=by simp [xI]
theorem cq {js:List Int} {i k:Nat} {z:Int} (h:k≠i):(js.set k z)[i]? = js[i]?:=List.getElem?_set_ne h
theorem pZ {f:Nat->Nat->Bool} {n:Nat} {js:List Int} (hl:js.length=2048) {a b:Nat} (ha:a < 32) (hb:b < 32) {x y:Nat} (hx:x < 32) (hy:y < 32)
  (h:JM f n js x y∨(x=a/\y=b)∨(x=b/\y=a)):JM f n (xI js a b (oz (eG f n a b)) (oz (iA f n a b))) x y:=by
 have key:(x=a/\y=b)∨(x=b/\y=a)∨(JM f n js x y/\¬ (x=a/\y=b)/\¬ (x=b/\y=a)):=by
  by_cases h1:x=a/\y=b
  ·exact .inl h1
  ·by_cases h2:x=b/\y=a
   ·exact .inr (.inl h2)
   ·rcases h with h | h | h
    ·exact .inr (.inr ⟨h,h1,h2⟩)
    ·exact (h1 h).elim
    ·exact (h2 h).elim
 rcases key with ⟨rfl,rfl⟩ | ⟨rfl,rfl⟩ | ⟨h,h1,h2⟩
 ·unfold JM xI;refine ⟨?_,?_⟩
  ·rw [cq (by omega),cq (by omega)];by_cases EO:x=y
   ·subst EO;rw [List.getElem?_set_self (by simp;omega)]
   ·rw [cq (by omega),List.getElem?_set_self (by omega)]
  ·by_cases EO:x=y
   ·subst EO;rw [List.getElem?_set_self (by simp;omega)]
   ·rw [cq (by omega),List.getElem?_set_self (by simp;omega)]
 ·unfold JM xI;rw [vi f n x y,vj f n x y];refine ⟨?_,?_⟩
  ·rw [cq (by omega),cq (by omega),List.getElem?_set_self (by simp;omega)]
  ·rw [List.getElem?_set_self (by simp;omega)]
 ·unfold JM xI;have g1:a * 32 + b≠x * 32 + y:=fun he=>h1 ⟨by omega,by omega⟩;have g2:b * 32 + a≠x * 32 + y:=fun he=>h2 ⟨by omega,by omega⟩;refine ⟨?_,?_⟩
  ·rw [cq (by omega),cq (by omega),cq g2,cq g1];exact h.1
  ·rw [cq (by omega),cq (by omega),cq (by omega),cq (by omega)];exact h.2
abbrev MN (af:List ByteArray) (tc:List DV) (rows:List Nat) (js:List Int) (e:Nat):St:=
 ⟨[(1,⟨[],.loc 1 0⟩),(3,⟨[],.loc 2 0⟩),(4,⟨[],.loc 3 0⟩),(15,⟨[],.v (.int .i64 (dF af).length)⟩),(16,⟨[],.v (.int .i64 e)⟩)],
  [gJ af tc rows js,[.loc 0 0],[.fn 166 [] [.loc 1 0]],[.fn 167 [] [.loc 1 0]]],[]⟩
abbrev Fv (af:List ByteArray) (tc:List DV) (rows:List Nat) (js:List Int) (e f:Nat):St:=
 ⟨[(1,⟨[],.loc 1 0⟩),(3,⟨[],.loc 2 0⟩),(4,⟨[],.loc 3 0⟩),(15,⟨[],.v (.int .i64 (dF af).length)⟩),(16,⟨[],.v (.int .i64 e)⟩),(5,⟨[],.loc 4 0⟩),(6,⟨[],.loc 5 0⟩)],
  [gJ af tc rows js,[.loc 0 0],[.fn 166 [] [.loc 1 0]],[.fn 167 [] [.loc 1 0]],[.v (.int .i64 e)],[.v (.int .i64 f)]],[]⟩
abbrev MO (af:List ByteArray) (tc:List DV) (rows:List Nat) (js:List Int) (e f:Nat):St:=
 ⟨[(1,⟨[],.loc 1 0⟩),(3,⟨[],.loc 2 0⟩),(4,⟨[],.loc 3 0⟩),(15,⟨[],.v (.int .i64 (dF af).length)⟩),(16,⟨[],.v (.int .i64 e)⟩),(5,⟨[],.loc 4 0⟩),(6,⟨[],.loc 6 0⟩)],
  [gJ af tc rows js,[.loc 0 0],[.fn 166 [] [.loc 1 0]],[.fn 167 [] [.loc 1 0]],[.v (.int .i64 e)],[.v (.int .i64 f)],[.v (.int .i64 (f + 1:Nat))]],[]⟩
abbrev MP (af:List ByteArray) (tc:List DV) (rows:List Nat) (js:List Int) (e f:Nat):St:=
 ⟨[(1,⟨[],.loc 1 0⟩),(3,⟨[],.loc 2 0⟩),(4,⟨[],.loc 3 0⟩),(15,⟨[],.v (.int .i64 (dF af).length)⟩),(16,⟨[],.v (.int .i64 e)⟩),(5,⟨[],.loc 4 0⟩),(6,⟨[],.loc 5 0⟩)],
  [gJ af tc rows js,[.loc 0 0],[.fn 166 [] [.loc 1 0]],[.fn 167 [] [.loc 1 0]],[.v (.int .i64 e)],[.v (.int .i64 (f + 1:Nat))],[.v (.int .i64 f)]],[]⟩
theorem P3 (af:List ByteArray) (tc:List DV) (rows:List Nat) (js:List Int) (e f:Nat):MO af tc rows js e f=fo 5 6 (MP af tc rows js e f):=by
 simp only [fo,renO,P2];rfl
def BndΦ (af:List ByteArray) (tc:List DV) (rows:List Nat) (r:DV) (os:List (List DV)) (_:List TkE):Prop:=
 ∃ Uc,os=[gJ af tc rows Uc]/\Uc.length=2048/\r = .v (.int .i64 (oz (bL (mP (aM rows) af.length) af.length))) /\
  (bL (mP (aM rows) af.length) af.length=none->∀ x y,x < af.length->y < af.length->JM (aM rows) af.length Uc x y)
theorem CP (af:List ByteArray) (tc:List DV) (rows:List Nat) (js:List Int) (hr:dP rows) (hlen:rows.length=af.length) (hn:af.length<=32) (hj:js.length=2048) :
  Ev Tryz.prog 101 [.loc 0 0] [gJ af tc rows js] [] (BndΦ af tc rows):=by
 have hN:=bR af;refine ev_go (P:=Tryz.prog) tt tt_ok 5000 73 [.tmp 2] Tryz.func101 rfl Tryz.ntmps101 rfl (nL rfl) (fun E9 w9 hn9 hm9=>?_);refine aq (fun j st=>∃ (e:Nat) (js:List Int),st=MN af tc rows js e/\e<=af.length/\js.length=2048/\(∀ b,b < e->mP (aM rows) af.length b=false)/\(∀ x y,x < e->y < e->JM (aM rows) af.length js x y)/\j=af.length - e) af.length (MN af tc rows js 0) (az 4 rfl (by repeat' (first | exact rfl | exact ah rfl | exact gB _ | refine ⟨_,_,rfl,?_,?_⟩)) rfl rfl rfl (by repeat' (first | exact trivial | exact ah rfl | exact gB _ | refine ⟨⟨_,rfl,?_⟩,?_⟩))) ⟨0,js,rfl,by omega,hj,fun _ h=>by omega,fun _ _ h=>by omega,by omega⟩ ?_;rintro j st ⟨e,js,rfl,he,hj,eI,KQ,rfl⟩;refine br (fun hL=>?_) (fun hL=>?_)
 ·have ap:e < af.length:=by have:=hL;simp [hN] at this;exact this
  refine MK (fun j st=>∃ (f:Nat) (js:List Int),st=Fv af tc rows js e f/\f<=e + 1/\js.length=2048/\(∀ a,a < f->kR (aM rows) af.length a e=false)/\(∀ x y,x < e->y < e->JM (aM rows) af.length js x y)/\(∀ x,x < f->JM (aM rows) af.length js x e/\JM (aM rows) af.length js e x)/\j=e + 1 - f) (e + 1) (Fv af tc rows js e 0) (.T7 (az 6 rfl (by repeat' (first | exact rfl | exact ah rfl | exact gB _ | refine ⟨_,_,rfl,?_,?_⟩)) rfl rfl rfl (by repeat' (first | exact trivial | exact ah rfl | exact gB _ | refine ⟨⟨_,rfl,?_⟩,?_⟩)))) ⟨0,js,rfl,by omega,hj,fun _ h=>by omega,KQ,fun _ h=>by omega,by omega⟩ ?_;clear KQ hj;rintro j st ⟨f,js,rfl,hf,hj,Vl,KQ,hje,rfl⟩;refine br (fun jD=>?_) (fun jD=>?_)
  ·have Pp:f<=e:=by have:=jD;simp at this;exact this
   have iu:=yI af (.pt tc 0) (mi rows) js 169 166 Xn LI
    [.pt [R4 (gJ af tc rows js)] 0,.pt [.v (.int .i64 f)] 0,.pt [.v (.int .i64 e)] 0] [.pt [.pt (gJ af tc rows js) 0] 0] (fun c=>aM rows f c && aM rows e c) (aM rows) ax ax rfl rfl (by omega)
    (fun c hc=>JE af (.pt tc 0) rows js hr f e c (by omega) (by omega) (by omega)) (fun a b ha hb=>rz af (.pt tc 0) rows js hr a b (by omega) (by omega))
   have fH:=yI af (.pt tc 0) (mi rows) js 170 167 Xo LJ
    [.pt [R5 (gJ af tc rows js)] 0,.pt [.v (.int .i64 f)] 0,.pt [.v (.int .i64 e)] 0] [.pt [.pt (gJ af tc rows js) 0] 0] (fun c=>aM rows c f && aM rows c e) (fun x y=>aM rows y x) ax ax rfl rfl (by omega)
    (fun c hc=>JF af (.pt tc 0) rows js hr f e c (by omega) (by omega) (by omega)) (fun a b ha hb=>rA af (.pt tc 0) rows js hr a b (by omega) (by omega))
   refine zT Rw iu (by repeat' (first | exact rfl | exact trivial | exact Or.inr (Or.inl ⟨_,rfl⟩) | exact Or.inr ⟨_,rfl⟩ | exact Or.inl ⟨rfl,rfl⟩ | exact Or.inl rfl | refine Or.inr ⟨_,_,rfl,Nat.zero_le _,rfl,?_⟩ | refine ⟨_,_,rfl,?_,?_⟩ | refine ⟨_,rfl,?_⟩ | exact rB _ _ _ _ _ | refine Or.inr (Or.inr (Or.inr ⟨_,_,rfl,?_⟩)) | exact Or.inl rfl | refine Or.inr ?_)) rfl ?_;refine zT Rw fH (by repeat' (first | exact rfl | exact trivial | exact Or.inr (Or.inl ⟨_,rfl⟩) | exact Or.inr ⟨_,rfl⟩ | exact Or.inl ⟨rfl,rfl⟩ | exact Or.inl rfl | refine Or.inr ⟨_,_,rfl,Nat.zero_le _,rfl,?_⟩ | refine ⟨_,_,rfl,?_,?_⟩ | refine ⟨_,rfl,?_⟩ | exact rB _ _ _ _ _ | refine Or.inr (Or.inr (Or.inr ⟨_,_,rfl,?_⟩)) | exact Or.inl rfl | refine Or.inr ?_)) rfl ?_
   have KR:pickB (decide (oz (eG (aM rows) af.length f e) = -1)) true (decide (oz (iA (aM rows) af.length f e) = -1))=kR (aM rows) af.length f e:=by
    unfold kR
    cases eG (aM rows) af.length f e with
    | none=>rfl
    | some j=>
     have:decide (oz (some j) = -1)=false:=by simp [oz]
     rw [this]
     cases iA (aM rows) af.length f e with
     | none=>rfl
     | some m=>
      have:decide (oz (some m) = -1)=false:=by simp [oz]
      rw [this];rfl
   refine br (fun g=>?_) (fun g=>?_)
   ·have g:kR (aM rows) af.length f e=true:=KR.symm.trans g
    have hb:mP (aM rows) af.length e=true:=by
     unfold mP;rw [List.any_eq_true];exact ⟨f,by simp;omega,g⟩
    have Bq:=cC (p:=mP (aM rows) af.length) ap hb eI;refine ⟨.v (.int .i64 e),[gJ af tc rows js],ax,(by repeat' (first | exact rfl | exact trivial | exact Or.inr (Or.inl ⟨_,rfl⟩) | exact Or.inr ⟨_,rfl⟩ | exact Or.inl ⟨rfl,rfl⟩ | exact Or.inl rfl | refine Or.inr ⟨_,_,rfl,Nat.zero_le _,rfl,?_⟩ | refine ⟨_,_,rfl,?_,?_⟩ | refine ⟨_,rfl,?_⟩ | exact rB _ _ _ _ _ | refine Or.inr (Or.inr (Or.inr ⟨_,_,rfl,?_⟩)) | exact Or.inl rfl | refine Or.inr ?_)),js,rfl,hj,?_,fun h=>by rw [Bq] at h;cases h⟩;rw [Bq];rfl
   ·have g:kR (aM rows) af.length f e=false:=KR.symm.trans g;refine tI [0] (fun _=>false) mo (by decide +kernel) ?_;have cH:=P1 af tc rows js;refine ⟨⟨by omega,by omega⟩,?_⟩;refine ⟨⟨by omega,by omega⟩,?_⟩;refine ⟨by rw [cH];omega,?_⟩;refine ⟨⟨by omega,by omega⟩,?_⟩;refine ⟨⟨by omega,by omega⟩,?_⟩;refine ⟨by rw [List.length_set,cH];omega,?_⟩;refine tI [0] (fun _=>false) mo (by decide +kernel) ?_;refine ⟨⟨by omega,by omega⟩,?_⟩;refine ⟨⟨by omega,by omega⟩,?_⟩;refine ⟨by rw [List.length_set,List.length_set,cH];omega,?_⟩;refine ⟨⟨by omega,by omega⟩,?_⟩;refine ⟨⟨by omega,by omega⟩,?_⟩;refine ⟨by rw [List.length_set,List.length_set,List.length_set,cH];omega,?_⟩
    have gk:((((gJ af tc rows js).set (0 + 0 + 3 + (f:Int).toNat * 32 + (e:Int).toNat * 1) (DV.v (.int .i64 (oz (eG (aM rows) af.length f e))))).set (0 + 0 + 3 + (e:Int).toNat * 32 + (f:Int).toNat * 1) (DV.v (.int .i64 (oz (eG (aM rows) af.length f e))))).set (0 + 0 + 1027 + (f:Int).toNat * 32 + (e:Int).toNat * 1) (DV.v (.int .i64 (oz (iA (aM rows) af.length f e))))).set (0 + 0 + 1027 + (e:Int).toNat * 32 + (f:Int).toNat * 1) (DV.v (.int .i64 (oz (iA (aM rows) af.length f e))))=gJ af tc rows (xI js f e (oz (eG (aM rows) af.length f e)) (oz (iA (aM rows) af.length f e))):=by
     rw [tO (i:=f * 32 + e) (by omega),tO (i:=e * 32 + f) (by omega),tO (i:=1024 + (f * 32 + e)) (by omega),tO (i:=1024 + (e * 32 + f)) (by omega)];rfl
    refine ⟨Fv af tc rows (xI js f e (oz (eG (aM rows) af.length f e)) (oz (iA (aM rows) af.length f e))) e (f + 1),
     .trans (.T7 (s2:=MO af tc rows (xI js f e (oz (eG (aM rows) af.length f e)) (oz (iA (aM rows) af.length f e))) e f) (az 7 rfl (by repeat' (first | exact rfl | exact ah rfl | exact H3 gk | exact ak (cx (n:=e + 1) (by omega) (by omega)) | refine ⟨_,_,rfl,?_,?_⟩)) rfl rfl rfl (by repeat' (first | exact trivial | exact ah rfl | exact H3 gk | exact ak (cx (n:=e + 1) (by omega) (by omega)) | refine ⟨⟨_,rfl,?_⟩,?_⟩))))
      (.trans (.ER 5 6 (MP af tc rows (xI js f e (oz (eG (aM rows) af.length f e)) (oz (iA (aM rows) af.length f e))) e f) _ (P3 _ _ _ _ _ _) rfl rfl rfl rfl) (.T7 (az 6 rfl (by repeat' (first | exact rfl | exact ah rfl | exact gB _ | refine ⟨_,_,rfl,?_,?_⟩)) rfl rfl rfl (by repeat' (first | exact trivial | exact ah rfl | exact gB _ | refine ⟨⟨_,rfl,?_⟩,?_⟩))))),
     e + 1 - (f + 1),by omega,f + 1,_,rfl,by omega,by rw [MM];exact hj,fun a ha=>?_,fun x y hx hy=>?_,fun x hx=>?_,rfl⟩
    ·rcases Nat.lt_succ_iff_lt_or_eq.1 ha with ha | rfl
     ·exact Vl a ha
     ·exact g
    ·exact pZ hj (by omega) (by omega) (by omega) (by omega) (.inl (KQ x y hx hy))
    ·rcases Nat.lt_succ_iff_lt_or_eq.1 hx with hx | rfl
     ·exact ⟨pZ hj (by omega) (by omega) (by omega) (by omega) (.inl (hje x hx).1),pZ hj (by omega) (by omega) (by omega) (by omega) (.inl (hje x hx).2)⟩
     ·exact ⟨pZ hj (by omega) (by omega) (by omega) (by omega) (.inr (.inl ⟨rfl,rfl⟩)),pZ hj (by omega) (by omega) (by omega) (by omega) (.inr (.inr ⟨rfl,rfl⟩))⟩
  ·have Pp:f=e + 1:=by have:=jD;simp at this;omega
   subst Pp
   have hb:mP (aM rows) af.length e=false:=by
    unfold mP;rw [List.any_eq_false];intro a ha;rw [Vl a (by simpa using ha)];decide
   refine ⟨MN af tc rows js (e + 1),(az 4 rfl (by repeat' (first | exact rfl | exact ah rfl | exact gB _ | exact ak (cx ap (by omega)) | refine ⟨_,_,rfl,?_,?_⟩)) rfl rfl rfl (by repeat' (first | exact trivial | exact ah rfl | exact gB _ | exact ak (cx ap (by omega)) | refine ⟨⟨_,rfl,?_⟩,?_⟩))),af.length - (e + 1),by omega,e + 1,js,rfl,by omega,hj,fun b dS=>?_,fun x y hx hy=>?_,rfl⟩
   ·rcases Nat.lt_succ_iff_lt_or_eq.1 dS with h | rfl
    ·exact eI b h
    ·exact hb
   ·rcases Nat.lt_succ_iff_lt_or_eq.1 hx with hx | rfl
    ·rcases Nat.lt_succ_iff_lt_or_eq.1 hy with hy | rfl
     ·exact KQ x y hx hy
     ·exact (hje x (by omega)).1
    ·exact (hje y (by omega)).2
 ·have aO:e=af.length:=by have:=hL;simp [hN] at this;omega
  subst aO;refine ⟨.v (.int .i64 (-1)),[gJ af tc rows js],ax,(by repeat' (first | exact rfl | exact trivial | exact Or.inr (Or.inl ⟨_,rfl⟩) | exact Or.inr ⟨_,rfl⟩ | exact Or.inl ⟨rfl,rfl⟩ | exact Or.inl rfl | refine Or.inr ⟨_,_,rfl,Nat.zero_le _,rfl,?_⟩ | refine ⟨_,_,rfl,?_,?_⟩ | refine ⟨_,rfl,?_⟩ | exact rB _ _ _ _ _ | refine Or.inr (Or.inr (Or.inr ⟨_,_,rfl,?_⟩)) | exact Or.inl rfl | refine Or.inr ?_)),js,rfl,hj,?_,fun _=>KQ⟩;rw [cW eI];rfl
def Ud (l:List Wd) (k:Nat):Int:=((l[k]?).getD (⟨al,0⟩:Wd)).a
def latF (l:List Wd) (o:List (Wd × Wd)):Ft:=
 if (fu l o).1≠0 then fu l o
 else if (enumL l 0 l).1≠0 then enumL l 0 l
 else if (numF (av l) o).1≠0 then numF (av l) o
 else match bL (j7 l.length (ez l.length (cT (av l) o))) l.length with
  | some a=>(11,Ud l a)
  | none=>
   match bL (mP (ez l.length (cT (av l) o)) l.length) l.length with
   | some b=>(12,Ud l b)
   | none=>(0,0)
def Ue (l:List Wd) (o:List (Wd × Wd)) (d:DV):Prop:=
 ∃ aA js,gL (av l) aA/\aA.length<=l.length/\js.length=2048/\(∀ x y,x < l.length->y < l.length->JM (ez l.length (cT (av l) o)) l.length js x y) /\
  d = .pt (gJ (av l) (cy (av l) aA) (closeR (eL l.length (cT (av l) o)) l.length) js) 0
def Fw (l:List Wd) (o:List (Wd × Wd)) (r:DV) (_:List (List DV)) (_:List TkE):Prop:=
 if (latF l o).1≠0 then r = .tup [.v (.pointer none),(latF l o).d] else ∃ d,Ue l o d/\r = .tup [d,(latF l o).d]
theorem nH {L:List ByteArray}:∀ {o:List (Wd × Wd)},(numF L o).1=0->rq L.length (cT L o)
 | [],_=>by intro p hp;simp [cT] at hp
 | q :: r,h=>by
  rw [numF] at h;split at h
  ·cases h
  ·rename_i h1;split at h
   ·cases h
   ·rename_i h2;have ih:=nH (o:=r) h;intro p hp;simp only [cT,List.map_cons,List.mem_cons] at hp;rcases hp with rfl | hp
    ·obtain ⟨a,ha⟩:=Option.ne_none_iff_exists'.1 h1;obtain ⟨b,hb⟩:=Option.ne_none_iff_exists'.1 h2;simp only [T0,ha,hb,Option.getD_some];exact ⟨(cK ha).1,(cK hb).1⟩
    ·exact ih p hp
theorem dg (l:List Wd):(av l).length=l.length:=by simp [av]
theorem vl {all:List Wd}:∀ {l:List Wd} {i:Nat},(enumL all i l).1=0->enumL all i l=(0,0)
 | [],_,_=>rfl
 | x :: r,i,h=>by
  rw [enumL] at h ⊢;split at h
  ·rename_i h1;exact (h1 h).elim
  ·rename_i h1;rw [if_neg h1];exact vl h
theorem yJ {L:List ByteArray}:∀ {o:List (Wd × Wd)},(numF L o).1=0->numF L o=(0,0)
 | [],_=>rfl
 | q :: r,h=>by
  rw [numF] at h ⊢;split at h
  ·cases h
  ·rename_i h1;split at h
   ·cases h
   ·rename_i h2;rw [if_neg h1,if_neg h2];exact yJ h
theorem j8 {l:List Wd} {k:Nat} {w:Wd} (h:l[k]? = some w):Ud l k=w.a:=by simp [Ud,h]
theorem Uf (n:Nat):vL (List.replicate n (.int .i64 0))=cZ (List.replicate n 0):=by
 induction n with
 | zero=>rfl
 | succ n ih=>simp only [List.replicate_succ,vL,cZ,List.map_cons] at ih ⊢;rw [ih]
theorem mQ {l:List Wd} {o:List (Wd × Wd)} {f:Ft} {os:List (List DV)} {tk:List TkE} (h:latF l o=f) (hf:f.1≠0):Fw l o (.tup [.v (.pointer none),f.d]) os tk:=by
 unfold Fw;rw [h,if_pos hf]
theorem P4 {l:List Wd} {o:List (Wd × Wd)} {d:DV} {os:List (List DV)} {tk:List TkE} (h:latF l o=(0,0)) (hd:Ue l o d):Fw l o (.tup [d,Ft.d (0,0)]) os tk:=by
 unfold Fw;rw [h,if_neg (by simp)];exact ⟨d,hd,rfl⟩
theorem P5 (n m:Nat) (af:List ByteArray) (tc:List DV) (rows:List Nat) (js:List Int):clB.clL n m (gJ af tc rows js)=true:=by
 have h:∀ l:List Int,clB.clL n m (cZ l)=true:=by
  intro l
  induction l with
  | nil=>rfl
  | cons z r ih=>simp only [cZ,List.map_cons,clB.clL,clB,Bool.true_and] at ih ⊢;exact ih
 simp only [tN,clB.clL,clB,h,mi,Bool.and_self]
theorem CQ (l:List Wd) (o:List (Wd × Wd)) (hs:wdsWt l<=1099511627776) (EB:prsWt o<=1099511627776) :
  Ev Tryz.prog 43 [.sl 2 (bu l) none,.sl 4 (mh o) none] [] [] (Fw l o):=by
 have mb:=bg l;have KJ:=hZ o;have gI:=dg l;have hF:=latF.eq_1 l o;refine ev_go (P:=Tryz.prog) tt tt_ok 5000 86 [.tmp 4,.cell 5 54] Tryz.func43 rfl Tryz.ntmps43 rfl (nL rfl) (fun E9 w9 hn9 hm9=>?_);refine call_p en94 (JC l o) ax rfl ?_;by_cases hm:(fu l o).1≠0
 ·rw [if_pos hm] at hF;refine br (fun h=>?_) (fun h=>?_)
  ·refine aP mo (by decide +kernel) ?_;exact ⟨_,ax,mQ (os:=[]) (tk:=[]) hF hm⟩
  ·exfalso;simp at h;exact hm h
 rw [if_neg hm] at hF;refine br (fun h=>?_) (fun _=>?_)
 ·exfalso;simp at h;exact hm h
 have ES:l ≠ []:=by
  rintro rfl;simp [fu] at hm
 have hl32:l.length<=32:=by
  rcases Nat.lt_or_ge 32 l.length with h | h
  ·simp [fu,ES,h] at hm
  ·exact h
 have tp:=CL l hs;unfold YD at tp;by_cases hE:(enumL l 0 l).1≠0
 ·rw [if_neg hE] at tp;rw [if_pos hE] at hF;refine call_p WZ (tp) ax rfl ?_;refine br (fun h=>?_) (fun h=>?_)
  ·refine aP mo (by decide +kernel) ?_;exact ⟨_,ax,mQ (os:=[]) (tk:=[]) hF hE⟩
  ·exfalso;simp at h;exact hE h
 rw [if_neg hE] at hF;have hE:(enumL l 0 l).1=0:=by simpa using hE
 rw [if_pos hE] at tp;rw [vl hE] at tp;refine call_p WZ (tp) ax rfl ?_;refine bq TD rfl (uO (av l) (by omega)) ax (fun r hr=>?_);obtain ⟨aA,hT,ja,rfl⟩:=hr;have Fx:=xH (av l) aA hT (by omega) o EB;unfold YE at Fx;by_cases hN:(numF (av l) o).1≠0
 ·rw [if_neg hN] at Fx;rw [if_pos hN] at hF;refine call_p W0 (Fx) ax rfl ?_;refine br (fun h=>?_) (fun h=>?_)
  ·refine aP mo (by decide +kernel) ?_;exact ⟨_,ax,mQ (os:=[]) (tk:=[]) hF hN⟩
  ·exfalso;simp at h;exact hN h
 rw [if_neg hN] at hF;have hN:(numF (av l) o).1=0:=by simpa using hN
 rw [if_pos hN] at Fx;rw [yJ hN] at Fx;have hP:=nH hN;rw [gI] at hP;have hPl:(cT (av l) o).length=o.length:=by simp [cT]
 generalize hPP:cT (av l) o=P at Fx hF hP hPl;refine call_p W0 (Fx) ax rfl ?_;have hLn:(dF (av l)).length=l.length:=by rw [bR,gI]
 have hPb:P.length<=1099511627776:=by omega
 have hro:=Ah (n:=l.length) (by omega) P hP;have gl:=jA l.length P;have hr0:eL l.length P ≠ []:=fun h=>ES (List.eq_nil_of_length_eq_zero (by rw [<- gl,h];rfl));refine call_p en98 (Ju l.length (by omega) P hP hPb) (by repeat' (first | exact rfl | exact trivial | exact Or.inr (Or.inl ⟨_,rfl⟩) | exact Or.inr ⟨_,rfl⟩ | exact Or.inl ⟨rfl,rfl⟩ | exact Or.inl rfl | refine Or.inr ⟨_,_,rfl,Nat.zero_le _,rfl,?_⟩ | refine ⟨_,_,rfl,?_,?_⟩ | refine ⟨_,rfl,?_⟩ | exact congrArg (fun z=>DV.v (.int .i64 z)) (congrArg Nat.cast hLn)| refine Or.inr (Or.inr (Or.inr ⟨_,_,rfl,?_⟩)) | exact Or.inl rfl | refine Or.inr ?_)) rfl ?_;have hlo:=Fp _ hro hr0;rw [gl,PW (by omega) hP] at hlo
 cases hA:bL (j7 l.length (ez l.length P)) l.length with
 | some a=>
  rw [hA] at hlo hF;simp only at hF;have Ps:=(dY hA).1;obtain ⟨w,hw⟩:∃ w,l[a]? = some w:=⟨_,gE Ps⟩;rw [j8 hw] at hF;refine call_p W2 (hlo) ax rfl ?_;refine aP mo (by decide +kernel) ?_;refine ⟨jw w,⟨by omega,aK hw⟩,?_⟩;exact ⟨_,ax,mQ (os:=[]) (tk:=[]) hF (by simp)⟩
 | none=>
 rw [hA] at hlo hF;simp only at hF;refine call_p W2 (hlo) ax rfl ?_;have jT:=sD _ hro hr0;rw [gl] at jT;have hcok:=kO hro l.length (by omega);have YP:=eU (eL l.length P) l.length;rw [gl] at YP;refine call_p Re (jT) ax rfl ?_;have hrep:(List.replicate 2048 (0:Int)).length=2048:=List.length_replicate
 have ct:CcL [] 0 0 0 (gJ (av l) (cy (av l) aA) (closeR (eL l.length P) l.length) (List.replicate 2048 0)) (.sl 1 (dF (av l)) none :: .pt (cy (av l) aA) 0 :: mi (closeR (eL l.length P) l.length) :: vL (List.replicate 2048 (.int .i64 0))):=by
  refine ⟨_,_,rfl,Or.inr (Or.inl ⟨_,rfl⟩),_,_,rfl,Or.inl rfl,_,_,rfl,Or.inl rfl,?_⟩;rw [Uf];exact rB _ _ _ _ _
 have hbn:=CP (av l) (cy (av l) aA) _ (List.replicate 2048 0) hcok (by omega) (by omega) hrep;refine lE W3 rfl rfl ct ax hbn (fun r os tk h=>?_) (fun r rb h=>?_)
 ·obtain ⟨Uc,rfl,_,rfl,_⟩:=h;refine ⟨rfl,fun rb h=>?_⟩;rw [List.mem_singleton.1 h];exact P5 _ _ _ _ _ _
 obtain ⟨Uc,h1,hj2,hr,KQ⟩:=h;simp only [List.cons.injEq,and_true] at h1;subst h1
 have hB:bL (mP (aM (closeR (eL l.length P) l.length)) (av l).length) (av l).length=bL (mP (ez l.length P) l.length) l.length:=by
  rw [gI];rfl
 rw [hB] at hr KQ
 cases hb:bL (mP (ez l.length P) l.length) l.length with
 | some b=>
  rw [hb] at hr hF;subst hr;simp only at hF;have hbl:=(dY hb).1;obtain ⟨w,hw⟩:∃ w,l[b]? = some w:=⟨_,gE hbl⟩;rw [j8 hw] at hF;refine aP mo (by decide +kernel) ?_;refine ⟨jw w,⟨by simp only [oz];omega,aK hw⟩,?_⟩;exact ⟨_,ax,mQ (os:=[]) (tk:=[]) hF (by simp)⟩
 | none=>
  rw [hb] at hr hF;subst hr;simp only at hF;refine ⟨.tup [.pt (gJ (av l) (cy (av l) aA) (closeR (eL l.length P) l.length) Uc) 0,Ft.d (0,0)],(by repeat' (first | exact rfl | exact trivial | exact Or.inr (Or.inl ⟨_,rfl⟩) | exact Or.inr ⟨_,rfl⟩ | exact Or.inl ⟨rfl,rfl⟩ | exact Or.inl rfl | refine Or.inr ⟨_,_,rfl,Nat.zero_le _,rfl,?_⟩ | refine ⟨_,_,rfl,?_,?_⟩ | refine ⟨_,rfl,?_⟩ | exact rB _ _ _ _ _ | refine Or.inr (Or.inr (Or.inr ⟨_,_,rfl,?_⟩)) | exact Or.inl rfl | refine Or.inr ?_)),P4 (os:=[]) (tk:=[]) hF ⟨aA,Uc,hT,by omega,hj2,?_,by rw [hPP]⟩⟩;rw [hPP];rw [gI] at KQ;exact KQ hb
section
variable (af:List ByteArray) (tc:List DV) (rows:List Nat) (js:List Int)
theorem rC:EvP Tryz.prog 195 [.pt (gJ af tc rows js) 0] (.v (.int .i64 af.length)):=by
 refine ev_go (P:=Tryz.prog) tt tt_ok 5000 10 [.tmp 2] Tryz.func195 rfl Tryz.ntmps195 rfl (nL rfl) (fun E9 w9 hn9 hm9=>?_);refine (congrArg (fun z=>DV.v (.int .i64 z)) ?_:_=_);rw [bR]
theorem yK (i:Int):EvP Tryz.prog 155 [.pt (gJ af tc rows js) 0,.v (.int .i64 i)] (.v (.bool (decide (0<=i) && decide (i < af.length)))):=by
 refine ev_go (P:=Tryz.prog) tt tt_ok 5000 13 [.tmp 4] Tryz.func155 rfl Tryz.ntmps155 rfl (nL rfl) (fun E9 w9 hn9 hm9=>?_);refine br (fun g=>?_) (fun g=>?_)
 ·have g:decide (0<=i)=true:=by simpa using g
  refine call_p Hw (rC af tc rows js) ax rfl ?_;refine (congrArg (fun b=>DV.v (.bool b)) ?_:_=_);simp [g,pickB]
 ·have g:decide (0<=i)=false:=by simpa using g
  refine (congrArg (fun b=>DV.v (.bool b)) ?_:_=_);simp [g,pickB]
theorem p8 {a:Nat} (h:a < af.length):EvP Tryz.prog 155 [.pt (gJ af tc rows js) 0,.v (.int .i64 a)] (.v (.bool true)):=by
 have:=yK af tc rows js a;have e:(decide (0<=(a:Int)) && decide ((a:Int) < af.length))=true:=by simp [h]
 rw [e] at this;exact this
end
theorem Fy (af:List ByteArray) (aA rows:List Nat) (js:List Int) (s:ByteArray) (hT:gL af aA) (hl:aA.length<=1099511627776) :
  EvP Tryz.prog 41 [.pt (gJ af (cy af aA) rows js) 0,.v (.string s)] (MA (cD af s)):=by
 have h:=ic af aA s hT hl;refine ev_go (P:=Tryz.prog) tt tt_ok 5000 16 [.tmp 4,.tmp 5] Tryz.func41 rfl Tryz.ntmps41 rfl (nL rfl) (fun E9 w9 hn9 hm9=>?_)
 cases hx:cD af s with
 | none=>
  rw [hx] at h;refine call_p uG (h) ax rfl ?_;exact ⟨_,ax,rfl⟩
 | some k=>
  rw [hx] at h;refine call_p uG (h) ax rfl ?_;exact ⟨_,ax,rfl⟩
theorem CR {l:List DV} {k b:Nat} {x:DV} (hb:b < 32) (h:l[k + b]? = some x):(((l.drop k).take 32).drop b).take 1=[x]:=by
 have h1:((l.drop k).take 32)[b]? = some x:=by
  rw [List.getElem?_take,if_pos hb,List.getElem?_drop];exact h
 rw [List.drop_eq_getElem_cons (gS h1).1];rw [gE (gS h1).1] at h1;simp only [oI] at h1;rw [h1];rfl
section
variable (af:List ByteArray) (tc:List DV) (rows:List Nat) (js:List Int)
theorem vm (a b:Nat) (z:Int) (ha:a < af.length) (hb:b < af.length) (hn:af.length<=32) (hz:js[a * 32 + b]? = some z) :
  EvP Tryz.prog 173 [.pt (gJ af tc rows js) 0,.v (.int .i64 a),.v (.int .i64 b)] (.v (.int .i64 z)):=by
 refine ev_go (P:=Tryz.prog) tt tt_ok 5000 25 [.tmp 6] Tryz.func173 rfl Tryz.ntmps173 rfl (nL rfl) (fun E9 w9 hn9 hm9=>?_);refine call_p yj (p8 af tc rows js ha) ax rfl ?_;refine call_p yj (p8 af tc rows js hb) ax rfl ?_;refine ⟨_,⟨⟨by omega,by omega⟩,rfl⟩,?_⟩;refine ⟨_,⟨⟨by omega,by omega⟩,CR (x:=.v (.int .i64 z)) (by omega) ?_⟩,?_⟩
 ·rw [show 0 + 3 + (a:Int).toNat * 32 + (0 + (b:Int).toNat * 1)=(a * 32 + b) + 3 by omega];simp only [tN,List.getElem?_cons_succ,cZ,List.getElem?_map,hz,Option.map_some]
 exact (rfl:_=_)
theorem Fz (a b:Nat) (z:Int) (ha:a < af.length) (hb:b < af.length) (hn:af.length<=32) (hz:js[1024 + (a * 32 + b)]? = some z) :
  EvP Tryz.prog 201 [.pt (gJ af tc rows js) 0,.v (.int .i64 a),.v (.int .i64 b)] (.v (.int .i64 z)):=by
 refine ev_go (P:=Tryz.prog) tt tt_ok 5000 25 [.tmp 6] Tryz.func201 rfl Tryz.ntmps201 rfl (nL rfl) (fun E9 w9 hn9 hm9=>?_);refine call_p yj (p8 af tc rows js ha) ax rfl ?_;refine call_p yj (p8 af tc rows js hb) ax rfl ?_;refine ⟨_,⟨⟨by omega,by omega⟩,rfl⟩,?_⟩;refine ⟨_,⟨⟨by omega,by omega⟩,CR (x:=.v (.int .i64 z)) (by omega) ?_⟩,?_⟩
 ·rw [show 0 + 1027 + (a:Int).toNat * 32 + (0 + (b:Int).toNat * 1)=(1024 + (a * 32 + b)) + 3 by omega];simp only [tN,List.getElem?_cons_succ,cZ,List.getElem?_map,hz,Option.map_some]
 exact (rfl:_=_)
end
theorem rD {iN:Nat->Bool} {pb:Nat->Nat->Bool}:∀ {e k:Nat},bestA iN pb e=some k->iN k=true
 | 0,k,h=>by cases h
 | e + 1,k,h=>by
  rw [bestA] at h;split at h
  ·rename_i h1;simp only [oI] at h;subst h;simp only [Bool.and_eq_true] at h1;exact h1.1
  ·exact rD h
theorem vo {iN:Nat->Bool} {pb:Nat->Nat->Bool} {n k:Nat} (h:mN iN pb n=some k):k < n/\iN k=true/\∀ c,c < n->iN c=true->pb k c=true:=by
 unfold mN at h;split at h
 ·cases h
 ·rename_i o ho;split at h
  ·cases h
  ·rename_i h1;simp only [oI] at h;subst h;refine ⟨mO ho,rD ho,fun c hc hp=>?_⟩;simp only [List.any_eq_true,List.mem_range,Bool.and_eq_true,Bool.not_eq_true',not_exists,not_and] at h1;have:=h1 c hc hp;simpa using this
structure dZ (f:Nat->Nat->Bool) (n:Nat):Prop where
 pos:0 < n
 rfl':∀ a,a < n->f a a=true
 tr:∀ a b c,a < n->b < n->c < n->f a b=true->f b c=true->f a c=true
 FA:∀ a b,a < n->b < n->f a b=true->f b a=true->a=b
 jn:∀ a b,a < n->b < n->∃ k,eG f n a b=some k
 mt:∀ a b,a < n->b < n->∃ k,iA f n a b=some k
theorem oN {f:Nat->Nat->Bool} {n a b k:Nat} (h:eG f n a b=some k):k < n/\f a k=true/\f b k=true/\∀ c,c < n->f a c=true->f b c=true->f k c=true:=by
 obtain ⟨h1,h2,h3⟩:=vo h;simp only [Bool.and_eq_true] at h2;exact ⟨h1,h2.1,h2.2,fun c hc ha hb=>h3 c hc (by simp [ha,hb])⟩
theorem oO {f:Nat->Nat->Bool} {n a b k:Nat} (h:iA f n a b=some k):k < n/\f k a=true/\f k b=true/\∀ c,c < n->f c a=true->f c b=true->f c k=true:=by
 obtain ⟨h1,h2,h3⟩:=vo h;simp only [Bool.and_eq_true] at h2;exact ⟨h1,h2.1,h2.2,fun c hc ha hb=>h3 c hc (by simp [ha,hb])⟩
def fY (f:Nat->Nat->Bool) (l:List Nat) (c:Nat):Bool:=l.all fun i=>f i c
def rE (f:Nat->Nat->Bool) (n:Nat) (l:List Nat) (c:Nat):Bool:=fY f l c && (List.range n).all fun d=>!fY f l d || f c d
def ep (f:Nat->Nat->Bool) (n:Nat) (l:List Nat):Option Nat:=bL (rE f n l) n
theorem mR {f:Nat->Nat->Bool} {n:Nat} {l:List Nat} {c:Nat}:rE f n l c=true↔fY f l c=true/\∀ d,d < n->fY f l d=true->f c d=true:=by
 unfold rE;simp only [Bool.and_eq_true,List.all_eq_true,List.mem_range,Bool.or_eq_true,Bool.not_eq_true'];constructor
 ·rintro ⟨h1,h2⟩;refine ⟨h1,fun d hd ho=>?_⟩;rcases h2 d hd with h | h
  ·rw [ho] at h;cases h
  ·exact h
 ·rintro ⟨h1,h2⟩;refine ⟨h1,fun d hd=>?_⟩;cases ho:fY f l d
  ·exact .inl rfl
  ·exact .inr (h2 d hd ho)
theorem yL {f:Nat->Nat->Bool} {n:Nat} (hL:dZ f n) {l:List Nat} {c:Nat} (hc:c < n) (h:rE f n l c=true):ep f n l=some c:=by
 refine cC hc h fun a ha=>?_;cases h2:rE f n l a
 ·rfl
 ·obtain ⟨h3,h4⟩:=mR.1 h;obtain ⟨h5,h6⟩:=mR.1 h2;have:=hL.FA a c (by omega) hc (h6 c hc h3) (h4 a (by omega) h5);omega
theorem oP {f:Nat->Nat->Bool} {n c:Nat} (hL:dZ f n) (hc:c < n) (h:∀ d,d < n->f c d=true):ep f n []=some c:=
 yL hL hc (mR.2 ⟨rfl,fun d hd _=>h d hd⟩)
theorem sG {f:Nat->Nat->Bool} {n c k i:Nat} {l:List Nat} (hL:dZ f n) (hl:∀ x∈l,x < n) (hi:i < n) (h:ep f n l=some c) (hk:eG f n c i=some k):ep f n (l ++ [i])=some k:=by
 obtain ⟨h1,h2,_⟩:=dY h;obtain ⟨h3,h4⟩:=mR.1 h2;obtain ⟨g1,g2,g3,g4⟩:=oN hk;simp only [fY,List.all_eq_true] at h3;refine yL hL g1 (mR.2 ⟨?_,fun d hd ho=>?_⟩)
 ·simp only [fY,List.all_eq_true,List.mem_append,List.mem_singleton];rintro x (hx | rfl)
  ·exact hL.tr x c k (hl x hx) h1 g1 (h3 x hx) g2
  ·exact g3
 ·simp only [fY,List.all_eq_true,List.mem_append,List.mem_singleton] at ho;refine g4 d hd (h4 d hd ?_) (ho i (.inr rfl));simp only [fY,List.all_eq_true];exact fun x hx=>ho x (.inl hx)
theorem nI {f:Nat->Nat->Bool} {n c:Nat} {l:List Nat} (h:ep f n l=some c):c < n:=(dY h).1
abbrev MQ (L:List DV) (n b e:Nat):St:=
 ⟨[(0,⟨[],.pt L 0⟩),(3,⟨[],.v (.int .i64 b)⟩),(9,⟨[],.v (.int .i64 n)⟩),(10,⟨[],.v (.int .i64 e)⟩)],[],[]⟩
theorem p9 (af:List ByteArray) (tc:List DV) (rows:List Nat) (js:List Int) {f:Nat->Nat->Bool} (hL:dZ f af.length) (hn:af.length<=32) (hj:∀ x y,x < af.length->y < af.length->JM f af.length js x y) :
  EvP Tryz.prog 138 [.pt (gJ af tc rows js) 0] (.v (.int .i64 (oz (ep f af.length [])))):=by
 have hlen:=rC af tc rows js;have ki:=hL.pos;refine ev_go (P:=Tryz.prog) tt tt_ok 5000 19 [.tmp 2] Tryz.func138 rfl Tryz.ntmps138 rfl (nL rfl) (fun E9 w9 hn9 hm9=>?_);refine call_p Hw (hlen) ax rfl ?_;refine br (fun g=>?_) (fun g=>?_)
 ·exfalso;simp at g;simp [g] at ki
 refine call_p Hw (hlen) ax rfl ?_;refine aq (fun j st=>∃ e b:Nat,st=MQ (gJ af tc rows js) af.length b e/\e<=af.length/\b < af.length/\(∀ x,x < e->f b x=true)/\j=af.length - e) af.length (MQ (gJ af tc rows js) af.length 0 0) (weak_mk ⟨_,rfl⟩ wA rfl rfl rfl wB) ⟨0,0,rfl,by omega,by omega,fun _ h=>by omega,by omega⟩ ?_;rintro j st ⟨e,b,rfl,he,hb,fQ,rfl⟩;refine br (fun hL'=>?_) (fun hL'=>?_)
 ·have ap:e < af.length:=by have:=hL';simp at this;exact this
  obtain ⟨k,hk⟩:=hL.mt b e hb ap;obtain ⟨g1,g2,g3,g4⟩:=oO hk;have hz:=(hj b e hb ap).2;rw [hk] at hz;refine call_p XA (Fz af tc rows js b e k hb ap hn hz) ax rfl ?_;refine ⟨MQ (gJ af tc rows js) af.length k (e + 1),(weak_mk ⟨_,rfl⟩ wA rfl rfl rfl (wNB ap)),af.length - (e + 1),by omega,e + 1,k,rfl,by omega,g1,fun x hx=>?_,rfl⟩;rcases Nat.lt_succ_iff_lt_or_eq.1 hx with hx | rfl
  ·exact hL.tr k b x g1 hb (by omega) g2 (fQ x hx)
  ·exact g3
 ·have aO:e=af.length:=by have:=hL';simp at this;omega
  subst aO;rw [oP hL hb fQ];exact (rfl:_=_)
def labW (L:List ByteArray):List Wd->Ft
 | []=>(0,0)
 | w :: r=>if cD L w.s=none then (17,w.a) else labW L r
def lS (L:List ByteArray) (l:List Wd):List Nat:=l.map fun w=>(cD L w.s).getD 0
def Ap (f:Nat->Nat->Bool) (L:List ByteArray) (l:List Wd):Int:=if (labW L l).1=0 then oz (ep f L.length (lS L l)) else 0
def JG (f:Nat->Nat->Bool) (L:List ByteArray) (l:List Wd):DV:=.tup [.v (.int .i64 (Ap f L l)),(labW L l).d]
theorem rF {L:List ByteArray} {l:List Wd} {e:Nat} {w:Wd} (h:l[e]? = some w):labW L (l.drop e)=if cD L w.s=none then (17,w.a) else labW L (l.drop (e + 1)):=by
 rw [drop_cons h,labW]
theorem rG {L:List ByteArray} {l:List Wd} {e i:Nat} {w:Wd} (h:l[e]? = some w) (hi:cD L w.s=some i):lS L (l.take (e + 1))=lS L (l.take e) ++ [i]:=by
 rw [List.take_add_one,h];simp [lS,hi]
abbrev MR (L:List DV) (l:List Wd) (b e:Nat):St:=
 ⟨[(0,⟨[],.pt L 0⟩),(5,⟨[],.loc 0 0⟩),(6,⟨[],.v (.int .i64 b)⟩),(16,⟨[],.sl 2 (bu l) none⟩),(17,⟨[],.v (.int .i64 (bu l).length)⟩),(18,⟨[],.v (.int .i64 e)⟩)],[[.v (.int .i64 0),.v (.int .i64 0)]],[]⟩
theorem MS (af:List ByteArray) (aA rows:List Nat) (js:List Int) (hT:gL af aA) (ja:aA.length<=1099511627776) {f:Nat->Nat->Bool} (hL:dZ f af.length) (hn:af.length<=32) (hj:∀ x y,x < af.length->y < af.length->JM f af.length js x y)
  (l:List Wd) (hs:wdsWt l<=1099511627776) :
  EvP Tryz.prog 106 [.pt (gJ af (cy af aA) rows js) 0,.sl 2 (bu l) none] (JG f af l):=by
 have mb:=bg l;have MT:=p9 af (cy af aA) rows js hL hn hj
 have lx:∃ b,ep f af.length []=some b:=by
  have:∀ e,e<=af.length->∃ b,b < af.length/\∀ x,x < e->f b x=true:=by
   intro e
   induction e with
   | zero=>intro _;exact ⟨0,hL.pos,fun _ h=>by omega⟩
   | succ e ih=>
    intro he;obtain ⟨b,hb,fQ⟩:=ih (by omega);obtain ⟨k,hk⟩:=hL.mt b e hb (by omega);obtain ⟨g1,g2,g3,_⟩:=oO hk;refine ⟨k,g1,fun x hx=>?_⟩;rcases Nat.lt_succ_iff_lt_or_eq.1 hx with hx | rfl
    ·exact hL.tr k b x g1 hb (by omega) g2 (fQ x hx)
    ·exact g3
  obtain ⟨b,hb,fQ⟩:=this af.length (Nat.le_refl _);exact ⟨b,oP hL hb fQ⟩
 obtain ⟨b0,gk⟩:=lx;rw [gk] at MT;refine ev_go (P:=Tryz.prog) tt tt_ok 5000 41 [.tmp 4,.cell 5 54] Tryz.func106 rfl Tryz.ntmps106 rfl (nL rfl) (fun E9 w9 hn9 hm9=>?_);refine call_p Ro (MT) ax rfl ?_;refine aq (fun j st=>∃ e b:Nat,st=MR (gJ af (cy af aA) rows js) l b e/\e<=l.length/\labW af l=labW af (l.drop e)/\ep f af.length (lS af (l.take e))=some b/\(∀ x∈lS af (l.take e),x < af.length)/\j=l.length - e) l.length (MR (gJ af (cy af aA) rows js) l b0 0) (weak_mk ⟨_,rfl⟩ wA rfl rfl rfl wB) ⟨0,b0,rfl,by omega,rfl,gk,by simp [lS],by omega⟩ ?_;rintro j st ⟨e,b,rfl,he,aH,PO,Bs,rfl⟩;have hb:=nI PO;refine br (fun MU=>?_) (fun MU=>?_)
 ·have ap:e < l.length:=by simpa [aw] using MU
  obtain ⟨w,hw⟩:∃ w,l[e]? = some w:=⟨_,gE ap⟩;have aT:=rF (L:=af) hw;have Ao:=Fy af aA rows js w.s hT ja;refine ⟨jw w,⟨by omega,aK hw⟩,?_⟩
  cases hx:cD af w.s with
  | none=>
   rw [hx] at Ao;refine call_p WO (Ao) ax rfl ?_;rw [if_pos hx] at aT;have h1:labW af l=(17,w.a):=aH.trans aT;refine aP mo (by decide +kernel) ?_;refine ⟨_,?_,rfl⟩;rw [JG,Ap,h1,if_neg (by simp)];exact ax
  | some i=>
   rw [hx] at Ao;refine call_p WO (Ao) ax rfl ?_;rw [if_neg (by rw [hx];simp)] at aT;have hi:=(cK hx).1;obtain ⟨k,hk⟩:=hL.jn b i hb hi;have hz:=(hj b i hb hi).1;rw [hk] at hz;refine call_p LL (vm af (cy af aA) rows js b i k hb hi hn hz) ax rfl ?_;refine ⟨MR (gJ af (cy af aA) rows js) l k (e + 1),(weak_mk ⟨_,rfl⟩ wA rfl rfl rfl (wNB ap)),l.length - (e + 1),by omega,e + 1,k,rfl,by omega,aH.trans aT,?_,?_,rfl⟩
   ·rw [rG hw hx];exact sG hL Bs hi PO hk
   ·rw [rG hw hx];intro x hm;rcases List.mem_append.1 hm with hm | hm
    ·exact Bs x hm
    ·rw [List.mem_singleton.1 hm];exact hi
 ·have aO:e=l.length:=by
   have:=MU;simp [aw] at this;omega
  subst aO;rw [List.drop_length] at aH;rw [List.take_length] at PO;have h1:labW af l=(0,0):=aH;refine ⟨_,?_,rfl⟩;rw [JG,Ap,h1,if_pos rfl,PO];exact ax
def FB (x:Ft × Int) (r:DV) (os:List (List DV)) (_:List TkE):Prop:=
 r=x.1.d/\∃ z:Int,os=[[.v (.int .i64 z)]]/\(x.1.1=0->z=x.2)
theorem lT {x:Ft × Int}:∀ r os tk,FB x r os tk->clB 0 0 r=true/\∀ rb∈os,clB.clL 0 0 rb=true:=by
 rintro r os tk ⟨rfl,z,rfl,_⟩;refine ⟨rfl,fun rb h=>?_⟩;simp only [List.mem_singleton] at h;subst h;rfl
def MV (k:Nat):Prop:=∀ (t:Ty) (depth m:Int),t.wt<=k->t.wt<=1099511627776->0<=depth->depth<=25->0<=m->m<=512 ->
 Ev Tryz.prog 172 [.loc 0 0,.agg (dK t),.v (.int .i64 depth)] [[.v (.int .i64 m)]] [] (FB (wrong t depth m))
def kS (p:Ph) (t:Ty) (un:Bool) (depth m:Int):Ft × Int:=
 if p.bare=true then (if un=false∨cJ p t (mK p) bK=false then ((19,p.name.a),m) else ((0,0),m))
 else if (dr p).1≠0 then (dr p,m)
 else wrong t (depth + 1) m
theorem bf {x:Ft × Int} {f:Ft} {m z:Int} (h:x=(f,m)) (hz:f.1=0->z=m) {tk:List TkE}:FB x f.d [[.v (.int .i64 z)]] tk:=by
 subst h;exact ⟨rfl,z,rfl,hz⟩
theorem FC (k:Nat) (ih:MV k) (p:Ph) (t:Ty) (un:Bool) (depth m:Int) (hk:t.wt<=k) (hp:p.wt<=1099511627776) (b9:t.wt<=1099511627776) (yp:0<=depth) (Ep:depth<=24) (jX:0<=m) (fD:m<=512) :
  Ev Tryz.prog 262 [.loc 0 0,.agg (ET p (dK t)),.v (.bool un),.v (.int .i64 depth)] [[.v (.int .i64 m)]] [] (FB (kS p t un depth m)):=by
 have pz:=hp;simp only [Ph.wt] at pz;have sm:=mF p (mK p) t bK hp (by simp only [Ph.wt,mK,wdsWt];omega) (uU t bK b9 (by decide));have jU:=ih t (depth + 1) m hk b9 (by omega) (by omega) jX fD;obtain ⟨u,us⟩:=t;have hcoa:=Ab p (dK (.mk u us)) (.mk u us) rfl hp;have hS:=kS.eq_def p (.mk u us) un depth m;generalize kS p (.mk u us) un depth m=F at hS ⊢;obtain ⟨nm,bare,lab,wide,ck,cn,ca,cl⟩:=p;simp only at hS pz sm
 cases bare with
 | true=>
  rw [if_pos rfl] at hS
  cases un with
  | true=>
   refine ev_go (P:=Tryz.prog) tt tt_ok 5000 68 [.cell 8 54] Tryz.func262 rfl Tryz.ntmps262 rfl (nL rfl) (fun E9 w9 hn9 hm9=>?_);refine call_p LU (sm) ax rfl ?_;refine br (fun q=>?_) (fun q=>?_)
   ·have q:cJ ⟨nm,true,lab,wide,ck,cn,ca,cl⟩ (.mk u us) (mK ⟨nm,true,lab,wide,ck,cn,ca,cl⟩) bK=false:=by simpa [show (lastG (21,false) [(18,true)]).snd=true from rfl,pickB] using q
    rw [if_pos (.inr q)] at hS;refine call_p dN (bi 19 nm.a) ax rfl ?_;exact ⟨_,_,ax,ax,bf (tk:=[]) (f:=(19,nm.a)) hS (fun _=>rfl)⟩
   ·have q:cJ ⟨nm,true,lab,wide,ck,cn,ca,cl⟩ (.mk u us) (mK ⟨nm,true,lab,wide,ck,cn,ca,cl⟩) bK=true:=by simpa [show (lastG (21,false) [(18,true)]).snd=true from rfl,pickB] using q
    rw [if_neg (by simp [q])] at hS;exact ⟨_,_,ax,ax,bf (tk:=[]) (f:=(0,0)) hS (fun _=>rfl)⟩
  | false=>
   refine ev_go (P:=Tryz.prog) tt tt_ok 5000 68 [.cell 8 54] Tryz.func262 rfl Tryz.ntmps262 rfl (nL rfl) (fun E9 w9 hn9 hm9=>?_);rw [if_pos (.inl rfl)] at hS;refine call_p dN (bi 19 nm.a) ax rfl ?_;exact ⟨_,_,ax,ax,bf (tk:=[]) (f:=(19,nm.a)) hS (fun _=>rfl)⟩
 | false=>
  rw [if_neg (by simp)] at hS;refine ev_go (P:=Tryz.prog) tt tt_ok 5000 68 [.cell 8 54] Tryz.func262 rfl Tryz.ntmps262 rfl (nL rfl) (fun E9 w9 hn9 hm9=>?_);refine br (fun hw=>?_) (fun hw=>?_)
  ·have hw:wide < 0∨64 < wide:=by simpa [aj] using hw
   have hP:dr ⟨nm,false,lab,wide,ck,cn,ca,cl⟩=(20,nm.a):=by simp only [dr,if_pos hw]
   rw [hP,if_pos (by simp)] at hS;refine call_p dN (bi 20 nm.a) ax rfl ?_;exact ⟨_,_,ax,ax,bf (tk:=[]) (f:=(20,nm.a)) hS (fun _=>rfl)⟩
  have hw:¬ (wide < 0∨64 < wide):=by simp [aj] at hw;omega
  refine call_p Ce (iw lab (by omega)) ax rfl ?_;refine br (fun hb=>?_) (fun hb=>?_)
  ·have hb:(bB lab).1≠0:=by simpa using hb
   have hP:dr ⟨nm,false,lab,wide,ck,cn,ca,cl⟩=bB lab:=by simp only [dr,if_neg hw,if_pos hb]
   rw [hP,if_pos hb] at hS;exact ⟨_,_,ax,ax,bf (tk:=[]) (f:=bB lab) hS (fun _=>rfl)⟩
  have hb:(bB lab).1=0:=by simpa using hb
  have hP:dr ⟨nm,false,lab,wide,ck,cn,ca,cl⟩=aS ⟨nm,false,lab,wide,ck,cn,ca,cl⟩:=by simp only [dr,if_neg hw];rw [if_neg (by simp [hb])]
  rw [hP] at hS;refine call_p X3 (hcoa) ax rfl ?_;refine br (fun hc=>?_) (fun hc=>?_)
  ·have hc:(aS ⟨nm,false,lab,wide,ck,cn,ca,cl⟩).1≠0:=by simpa using hc
   rw [if_pos hc] at hS;exact ⟨_,_,ax,ax,bf (tk:=[]) (f:=aS ⟨nm,false,lab,wide,ck,cn,ca,cl⟩) hS (fun _=>rfl)⟩
  have hc:(aS ⟨nm,false,lab,wide,ck,cn,ca,cl⟩).1=0:=by simpa using hc
  rw [if_neg (by simp [hc])] at hS;refine lE LK rfl rfl ax (by repeat' (first | exact rfl | exact trivial | exact Or.inr (Or.inl ⟨_,rfl⟩) | exact Or.inr ⟨_,rfl⟩ | exact Or.inl ⟨rfl,rfl⟩ | exact Or.inl rfl | refine Or.inr ⟨_,_,rfl,Nat.zero_le _,rfl,?_⟩ | refine ⟨_,_,rfl,?_,?_⟩ | refine ⟨_,rfl,?_⟩ | exact congrArg (fun z=>DV.v (.int .i64 z)) (wrap64 (by omega) (by omega)) | refine Or.inr (Or.inr (Or.inr ⟨_,_,rfl,?_⟩)) | exact Or.inl rfl | refine Or.inr ?_)) jU lT (fun r rb hr=>?_);obtain ⟨rfl,z,hz,BL⟩:=hr;simp only [List.cons.injEq,and_true] at hz;subst hz;exact ⟨_,_,ax,ax,bf (tk:=[]) (f:=(wrong (.mk u us) (depth + 1) m).1) hS BL⟩
theorem xJ {ag:Int} {all:List Wd} {i:Nat} {p:Ph} {t:Ty} {r:Pts} {depth m:Int} (hk:ag=7∨ag=8) (hl:aD all i p.name=0) :
  wrongPts ag all i (.cons p t r) depth m=if (kS p t (decide (ag=8)) depth m).1.1≠0 then kS p t (decide (ag=8)) depth m else wrongPts ag all (i + 1) r depth (kS p t (decide (ag=8)) depth m).2:=by
 simp only [wrongPts];rw [if_neg (by simp [hl])];unfold kS;by_cases hb:p.bare=true
 ·rw [if_pos hb,if_pos hb,PZ];by_cases h7:ag=7
  ·subst h7;rw [if_pos (.inl rfl),if_pos (c:=decide ((7:Int)=8)=false∨_) (.inl (by simp)),if_pos (by simp)]
  ·have h8:ag=8:=by omega
   subst h8;by_cases h:sameTy t bK=false∨bA p eP=false
   ·have h':decide ((8:Int)=8)=false∨(bA p eP && sameTy t bK)=false:=.inr (by rcases h with h | h<;>simp [h]);rw [if_pos (.inr h),if_pos h',if_pos (by simp)]
   ·have h1:sameTy t bK=true:=by
     cases hc:sameTy t bK
     ·exact absurd (.inl hc) h
     ·rfl
    have h2:bA p eP=true:=by
     cases hc:bA p eP
     ·exact absurd (.inr hc) h
     ·rfl
    have h':¬ (decide ((8:Int)=8)=false∨(bA p eP && sameTy t bK)=false):=by simp [h1,h2]
    rw [if_neg (by simp [h1,h2]),if_neg h',if_neg (by simp)]
 ·rw [if_neg hb,if_neg hb];by_cases hP:(dr p).1≠0
  ·rw [if_pos hP,if_pos hP,if_pos hP]
  ·rw [if_neg hP,if_neg hP]
theorem MW {p:Ph} {t:Ty} {un:Bool} {depth m:Int} (jX:0<=m) (fD:m<=512) (h:(kS p t un depth m).1.1=0):(kS p t un depth m).1=(0,0)/\0<=(kS p t un depth m).2/\(kS p t un depth m).2<=512:=by
 have hw:=pK t (depth + 1) m jX;unfold kS at h ⊢;by_cases hb:p.bare=true
 ·rw [if_pos hb] at h ⊢;split at h
  ·simp at h
  ·rename_i hc;rw [if_neg hc];exact ⟨rfl,jX,fD⟩
 ·rw [if_neg hb] at h ⊢;by_cases hP:(dr p).1≠0
  ·rw [if_pos hP] at h;exact absurd h hP
  ·rw [if_neg hP] at h ⊢;exact hw h
abbrev vq (h:Hd) (ps:Pts) (n e:Nat) (depth m:Int):St:=
 ⟨[(0,⟨[],.loc 0 0⟩),(2,⟨[],.v (.int .i64 depth)⟩),(4,⟨[],.loc 1 0⟩),(6,⟨[],.loc 2 0⟩),(38,⟨[],.sl 18 (fc ps) none⟩),(39,⟨[],.v (.int .i64 (fc ps).length)⟩),(40,⟨[],.v (.int .i64 e)⟩),(7,⟨[],.sl 1 (dF (av ((pNames ps).take e))) (some 0)⟩)],
  [[.v (.int .i64 m)],dK (.mk h ps),[.v (.int .i64 0),.v (.int .i64 0)]],[⟨n,9,1,none⟩]⟩
theorem sH (k:Nat) (ih:MV k) (h:Hd) (ps:Pts) (depth m:Int) (O9:h.ag=7∨h.ag=8) (hk:ps.wt<=k) (b9:(Ty.mk h ps).wt<=1099511627776) (yp:0<=depth) (Ep:depth<=24) (jX:0<=m) (fD:m<=512) :
  Ev Tryz.prog 218 [.loc 0 0,.agg (dK (.mk h ps)),.v (.int .i64 depth)] [[.v (.int .i64 m)]] [] (FB (eD h ps depth m)):=by
 simp only [Ty.wt,Hd.wt] at b9;have iE:=ps.fb;have gI:=fJ ps;have TO:=ri ps;have hS:=eD.eq_def h ps depth m;generalize eD h ps depth m=F at hS ⊢;refine ev_go (P:=Tryz.prog) tt tt_ok 5000 72 [.cell 6 54] Tryz.func218 rfl Tryz.ntmps218 rfl (nL rfl) (fun E9 w9 hn9 hm9=>?_);refine br (fun c1=>?_) (fun c1=>?_)
 ·have c1:h.ag=8/\ps.len=0:=by
   simp [pickB_and,aF] at c1;exact ⟨c1.1,by omega⟩
  rw [if_pos c1] at hS;refine call_p dN (bi 15 h.aC) ax rfl ?_;exact ⟨_,_,ax,ax,bf (tk:=[]) (f:=(15,h.aC)) hS (fun _=>rfl)⟩
 have c1:¬ (h.ag=8/\ps.len=0):=by
  simp [pickB_and,aF] at c1;omega
 rw [if_neg c1] at hS;refine br (fun c2=>?_) (fun c2=>?_)
 ·have ap:64 < ps.len:=by simp [aF] at c2;omega
  obtain ⟨p,t,hx⟩:=Pts.ei ap;refine ⟨_,⟨by omega,bH hx⟩,?_⟩;refine call_p dN (bi 8 p.name.a) ax rfl ?_;rw [if_pos ap,fK hx] at hS;exact ⟨_,_,ax,ax,bf (tk:=[]) (f:=(8,p.name.a)) hS (fun _=>rfl)⟩
 have c2:¬ 64 < ps.len:=by simp [aF] at c2;omega
 rw [if_neg c2] at hS
 refine aq (fun j st=>∃ (e:Nat) (m':Int),st=vq h ps e e depth m' /\ e<=ps.len/\0<=m' /\ m' <= 512/\(av ((pNames ps).take e)).Nodup /\
   F=wrongPts h.ag (pNames ps) e (ps.drop e) depth m' /\ j=ps.len - e) ps.len (vq h ps 0 0 depth m) (fk ⟨0,9,1,none⟩ rfl ⟨_,rfl⟩ rfl wA rfl rfl zS) ⟨0,m,rfl,by omega,jX,fD,by simp [av],hS,by omega⟩ ?_
 rintro j st ⟨e,m',rfl,he,tv,Cq,hnd,aH,rfl⟩;refine br (fun hL=>?_) (fun hL=>?_)
 ·have ap:e < ps.len:=by simpa [aF] using hL
  obtain ⟨p,t,hx⟩:=Pts.ei ap;have Cm:=Pts.fI (mG hx);have JH:=fK hx;have hpw:p.name.s.size + 64<=p.wt:=by simp only [Ph.wt,Wd.wt];omega
  rw [Pts.drop_cons hx] at aH
  have Mc:(av ((pNames ps).take (e + 1)))[(av ((pNames ps).take (e + 1))).length - 1]? = some p.name.s:=by
   have Bp:(av ((pNames ps).take (e + 1))).length=e + 1:=by simp [av];omega
   rw [Bp];simp [av,JH]
  have SR:=sB (av ((pNames ps).take (e + 1))) p.name.s p.name.a Mc (by simp [av];omega) (by omega);have eE:=jb JH;rw [yE p.name.a JH hnd,<- eE] at SR;have CS:=FC k ih p t (decide (h.ag=8)) depth m' (by omega) (by omega) (by omega) yp Ep tv Cq;obtain ⟨u,us⟩:=t;refine ⟨_,⟨by omega,bH hx⟩,?_⟩;refine ⟨by simp [bR,av];omega,⟨by simp [bR,av,maxLen];omega,by simp [bR,av];omega⟩,?_⟩;refine call_p RK (SR) ax rfl ?_;by_cases hl:aD (pNames ps) e p.name≠0
  ·rw [if_pos hl];refine br (fun hf=>?_) (fun hf=>?_)
   ·simp only [wrongPts] at aH;rw [if_pos hl] at aH;exact ⟨_,_,ax,ax,bf (tk:=[]) (f:=(aD (pNames ps) e p.name,p.name.a)) aH (fun _=>rfl)⟩
   ·exact absurd (by simpa using hf) hl
  have hl:aD (pNames ps) e p.name=0:=by simpa using hl
  have hndn:=lR JH hnd hl;rw [if_neg (by simp [hl])];rw [xJ O9 hl] at aH;have bG:=MW (p:=p) (t:=.mk u us) (un:=decide (h.ag=8)) (depth:=depth) tv Cq;generalize kS p (.mk u us) (decide (h.ag=8)) depth m'=r at CS aH bG;obtain ⟨⟨fe,fa⟩,many⟩:=r;simp only at aH bG;refine lE XS rfl rfl ax ax CS lT (fun r rb hr=>?_);obtain ⟨rfl,z,hz,BL⟩:=hr;simp only [List.cons.injEq,and_true] at hz;subst hz;refine br (fun hd=>?_) (fun hd=>?_)
  ·have hd:fe≠0:=by simpa using hd
   rw [if_pos hd] at aH;exact ⟨_,_,ax,ax,bf (tk:=[]) (f:=(fe,fa)) aH (fun h0=>absurd h0 hd)⟩
  ·have hd:fe=0:=by simpa using hd
   subst hd;obtain ⟨_,h2,h3⟩:=bG rfl;rw [if_neg (by simp)] at aH;have VA:z=many:=BL rfl;subst VA;exact ⟨vq h ps (e + 1) (e + 1) depth z,(weak_mk ⟨_,rfl⟩ wA rfl rfl rfl (tg ap eE)),ps.len - (e + 1),by omega,e + 1,z,rfl,by omega,h2,h3,hndn,aH,rfl⟩
 ·have aO:e=ps.len:=by simp [aF] at hL;omega
  rw [aO,Pts.cQ] at aH;simp only [wrongPts] at aH;exact ⟨_,_,ax,ax,bf (tk:=[]) (f:=(0,0)) aH (fun _=>rfl)⟩
theorem yM (k:Nat) (ih:MV k) (h:Hd) (ps:Pts) (depth m:Int) (hk:ps.wt<=k) (b9:(Ty.mk h ps).wt<=1099511627776) (yp:0<=depth) (Ep:depth<=24) (jX:0<=m) (fD:m<=512) :
  Ev Tryz.prog 217 [.loc 0 0,.agg (dK (.mk h ps)),.v (.int .i64 depth)] [[.v (.int .i64 m)]] [] (FB (wrongOne h ps depth m)):=by
 simp only [Ty.wt,Hd.wt] at b9
 cases ps with
 | nil=>
  have hS:wrongOne h .nil depth m=((19,h.aC),m):=by simp only [wrongOne]
  generalize wrongOne h .nil depth m=F at hS ⊢;refine ev_go (P:=Tryz.prog) tt tt_ok 5000 44 [.cell 6 54] Tryz.func217 rfl Tryz.ntmps217 rfl (nL rfl) (fun E9 w9 hn9 hm9=>?_);refine call_p dN (bi 19 h.aC) ax rfl ?_;exact ⟨_,_,ax,ax,bf (tk:=[]) (f:=(19,h.aC)) hS (fun _=>rfl)⟩
 | cons p t r=>
  cases r with
  | cons p2 t2 r2=>
   have hS:wrongOne h (.cons p t (.cons p2 t2 r2)) depth m=((19,h.aC),m):=by simp only [wrongOne]
   generalize wrongOne h (.cons p t (.cons p2 t2 r2)) depth m=F at hS ⊢;refine ev_go (P:=Tryz.prog) tt tt_ok 5000 44 [.cell 6 54] Tryz.func217 rfl Tryz.ntmps217 rfl (nL rfl) (fun E9 w9 hn9 hm9=>?_);refine call_p dN (bi 19 h.aC) ax rfl ?_;exact ⟨_,_,ax,ax,bf (tk:=[]) (f:=(19,h.aC)) hS (fun _=>rfl)⟩
  | nil=>
   simp only [Pts.wt] at b9 hk;have hS:wrongOne h (.cons p t .nil) depth m=if p.name.s≠al∨bA p eC=false then ((19,h.aC),m) else if h.most < 0∨1024 < h.most then ((20,h.aC),m) else wrong t (depth + 1) m:=by simp only [wrongOne]
   generalize wrongOne h (.cons p t .nil) depth m=F at hS ⊢;have Tj:=Ct p t (by omega);rw [empty_eq] at Tj;have jU:=ih t (depth + 1) m (by omega) (by omega) (by omega) (by omega) jX fD;obtain ⟨u,us⟩:=t;refine ev_go (P:=Tryz.prog) tt tt_ok 5000 44 [.cell 6 54] Tryz.func217 rfl Tryz.ntmps217 rfl (nL rfl) (fun E9 w9 hn9 hm9=>?_);refine ⟨_,⟨by omega,rfl⟩,?_⟩;refine call_p XR (Tj) ax rfl ?_;refine br (fun q=>?_) (fun q=>?_)
   ·have q:p.name.s≠al∨bA p eC=false:=by
     have:=q;simp [pickB] at this;exact this
    rw [if_pos q] at hS;refine call_p dN (bi 19 h.aC) ax rfl ?_;exact ⟨_,_,ax,ax,bf (tk:=[]) (f:=(19,h.aC)) hS (fun _=>rfl)⟩
   have q:¬ (p.name.s≠al∨bA p eC=false):=by
    have:=q;simp [pickB] at this;simp [this.1,this.2]
   rw [if_neg q] at hS;refine br (fun x=>?_) (fun x=>?_)
   ·have x:h.most < 0∨1024 < h.most:=by simpa [aj] using x
    rw [if_pos x] at hS;refine call_p dN (bi 20 h.aC) ax rfl ?_;exact ⟨_,_,ax,ax,bf (tk:=[]) (f:=(20,h.aC)) hS (fun _=>rfl)⟩
   have x:¬ (h.most < 0∨1024 < h.most):=by simp [aj] at x;omega
   rw [if_neg x] at hS;refine ⟨_,⟨by omega,rfl⟩,?_⟩;refine lE LK rfl rfl ax (by repeat' (first | exact rfl | exact trivial | exact Or.inr (Or.inl ⟨_,rfl⟩) | exact Or.inr ⟨_,rfl⟩ | exact Or.inl ⟨rfl,rfl⟩ | exact Or.inl rfl | refine Or.inr ⟨_,_,rfl,Nat.zero_le _,rfl,?_⟩ | refine ⟨_,_,rfl,?_,?_⟩ | refine ⟨_,rfl,?_⟩ | exact congrArg (fun z=>DV.v (.int .i64 z)) (wrap64 (by omega) (by omega)) | refine Or.inr (Or.inr (Or.inr ⟨_,_,rfl,?_⟩)) | exact Or.inl rfl | refine Or.inr ?_)) jU lT (fun r rb hr=>?_);obtain ⟨rfl,z,hz,BL⟩:=hr;simp only [List.cons.injEq,and_true] at hz;subst hz;exact ⟨_,_,ax,ax,bf (tk:=[]) (f:=(wrong (.mk u us) (depth + 1) m).1) hS BL⟩
theorem CT (k:Nat) (ih:MV k) (h:Hd) (ps:Pts) (depth m:Int) (hk:ps.wt<=k) (b9:(Ty.mk h ps).wt<=1099511627776) (yp:0<=depth) (Ep:depth<=25) (jX:0<=m) (fD:m<=512) :
  Ev Tryz.prog 172 [.loc 0 0,.agg (dK (.mk h ps)),.v (.int .i64 depth)] [[.v (.int .i64 m)]] [] (FB (wrong (.mk h ps) depth m)):=by
 have yN:=b9;simp only [Ty.wt,Hd.wt] at yN;have qO:IntKind.i64.wrap (m + 1)=m + 1:=wrap64 (by omega) (by omega);have hS:=wrong.eq_def (.mk h ps) depth m;simp only at hS;generalize wrong (.mk h ps) depth m=F at hS ⊢;have cG:=Jn h ps;rw [HI] at cG;refine ev_go (P:=Tryz.prog) tt tt_ok 5000 103 [.cell 6 54] Tryz.func172 rfl Tryz.ntmps172 rfl (nL rfl) (fun E9 w9 hn9 hm9=>?_);refine br (fun c=>?_) (fun c=>?_)
 ·have c:24 < depth:=of_decide_eq_true c;rw [if_pos c] at hS;refine call_p dN (bi 6 h.aC) ax rfl ?_;exact ⟨_,[[.v (.int .i64 (m + 1))]],ax,(aI qO),bf (tk:=[]) (f:=(6,h.aC)) hS (fun _=>rfl)⟩
 have c:¬ 24 < depth:=of_decide_eq_false c;rw [if_neg c] at hS;refine br (fun c=>?_) (fun c=>?_)
 ·have c:512 < IntKind.i64.wrap (m + 1):=of_decide_eq_true c;rw [qO] at c;rw [if_pos c] at hS;refine call_p dN (bi 8 h.aC) ax rfl ?_;exact ⟨_,[[.v (.int .i64 (m + 1))]],ax,(aI qO),bf (tk:=[]) (f:=(8,h.aC)) hS (fun _=>rfl)⟩
 have c:¬ 512 < IntKind.i64.wrap (m + 1):=of_decide_eq_false c;rw [qO] at c;rw [if_neg c] at hS;refine br (fun c=>?_) (fun c=>?_)
 ·have c:h.ag < 1∨9 < h.ag:=by simpa [aj] using c
  rw [if_pos c] at hS;refine call_p dN (bi 14 h.aC) ax rfl ?_;exact ⟨_,[[.v (.int .i64 (m + 1))]],ax,(aI qO),bf (tk:=[]) (f:=(14,h.aC)) hS (fun _=>rfl)⟩
 have ck:¬ (h.ag < 1∨9 < h.ag):=by simp [aj] at c;omega
 rw [if_neg ck] at hS;refine call_p XD (cG) ax rfl ?_;refine br (fun c=>?_) (fun c=>?_)
 ·have c:tu (.mk h ps)=false:=by simpa [tu] using c
  rw [if_pos c] at hS;refine call_p dN (bi 19 h.aC) ax rfl ?_;exact ⟨_,[[.v (.int .i64 (m + 1))]],ax,(aI qO),bf (tk:=[]) (f:=(19,h.aC)) hS (fun _=>rfl)⟩
 have c:¬ tu (.mk h ps)=false:=by simpa [tu] using c
 rw [if_neg c] at hS;refine br (fun k2=>?_) (fun k2=>?_)
 ·have k2:h.ag=2:=of_decide_eq_true k2;refine br (fun x=>?_) (fun x=>?_)
  ·have x:h.hi < h.lo:=of_decide_eq_true x;rw [if_pos (.inl ⟨k2,x⟩)] at hS;refine call_p dN (bi 20 h.aC) ax rfl ?_;exact ⟨_,[[.v (.int .i64 (m + 1))]],ax,(aI qO),bf (tk:=[]) (f:=(20,h.aC)) hS (fun _=>rfl)⟩
  have x:¬ h.hi < h.lo:=of_decide_eq_false x;rw [if_neg (by omega),if_neg (by omega),if_neg (by omega),if_neg (by omega),if_neg (by omega)] at hS;exact ⟨_,[[.v (.int .i64 (m + 1))]],ax,(aI qO),bf (tk:=[]) (f:=(0,0)) hS (fun _=>rfl)⟩
 have k2:¬ h.ag=2:=of_decide_eq_false k2;refine br (fun k3=>?_) (fun k3=>?_)
 ·have k3:h.ag=3:=of_decide_eq_true k3;refine br (fun x=>?_) (fun x=>?_)
  ·have x:h.most < 0∨4096 < h.most:=by simpa [aj] using x
   rw [if_pos (.inr ⟨k3,x⟩)] at hS;refine call_p dN (bi 20 h.aC) ax rfl ?_;exact ⟨_,[[.v (.int .i64 (m + 1))]],ax,(aI qO),bf (tk:=[]) (f:=(20,h.aC)) hS (fun _=>rfl)⟩
  have x:¬ (h.most < 0∨4096 < h.most):=by simp [aj] at x;omega
  rw [if_neg (by omega),if_neg (by omega),if_neg (by omega),if_neg (by omega),if_neg (by omega)] at hS;exact ⟨_,[[.v (.int .i64 (m + 1))]],ax,(aI qO),bf (tk:=[]) (f:=(0,0)) hS (fun _=>rfl)⟩
 have k3:¬ h.ag=3:=of_decide_eq_false k3;rw [if_neg (by omega)] at hS;refine br (fun k4=>?_) (fun k4=>?_)
 ·have k4:h.ag=4:=of_decide_eq_true k4;rw [if_neg (by omega),if_pos k4,<- MF] at hS;refine call_p XE (E8 h ps (by omega)) ax rfl ?_;exact ⟨_,[[.v (.int .i64 (m + 1))]],ax,(aI qO),bf (tk:=[]) (f:=mH h) hS (fun _=>rfl)⟩
 have k4:¬ h.ag=4:=of_decide_eq_false k4;refine br (fun k5=>?_) (fun k5=>?_)
 ·have k5':h.ag=5∨h.ag=6:=.inl (of_decide_eq_true k5);rw [if_neg (by omega),if_neg (by omega),if_pos k5'] at hS;refine br (fun _=>?_) (fun hc=>by rw [k5] at hc;cases hc);refine lE RE rfl rfl (cs':=[.v (.int .i64 (m + 1))]) (aI qO) ax (yM k ih h ps depth (m + 1) hk b9 yp (by omega) (by omega) (by omega)) lT (fun r rb hr=>?_);obtain ⟨rfl,z,hz,BL⟩:=hr;simp only [List.cons.injEq,and_true] at hz;subst hz;exact ⟨_,_,ax,ax,bf (tk:=[]) (f:=(wrongOne h ps depth (m + 1)).1) hS BL⟩
 have k5:¬ h.ag=5:=of_decide_eq_false k5;refine br (fun k6=>?_) (fun k6=>?_)
 ·have k5':h.ag=5∨h.ag=6:=.inr (of_decide_eq_true k6);rw [if_neg (by omega),if_neg (by omega),if_pos k5'] at hS;refine lE RE rfl rfl (cs':=[.v (.int .i64 (m + 1))]) (aI qO) ax (yM k ih h ps depth (m + 1) hk b9 yp (by omega) (by omega) (by omega)) lT (fun r rb hr=>?_);obtain ⟨rfl,z,hz,BL⟩:=hr;simp only [List.cons.injEq,and_true] at hz;subst hz;exact ⟨_,_,ax,ax,bf (tk:=[]) (f:=(wrongOne h ps depth (m + 1)).1) hS BL⟩
 have k6:¬ h.ag=6:=of_decide_eq_false k6;have hP:eD h ps depth (m + 1)=eD h ps depth (m + 1):=rfl
 conv at hP=>lhs;unfold eD
 refine br (fun k7=>?_) (fun k7=>?_)
 ·have YQ:h.ag=7∨h.ag=8:=.inl (of_decide_eq_true k7);rw [if_neg (by omega),if_neg (by omega),if_neg (by omega),if_pos YQ,hP] at hS;refine br (fun _=>?_) (fun hc=>by rw [k7] at hc;cases hc);refine lE RF rfl rfl (cs':=[.v (.int .i64 (m + 1))]) (aI qO) ax (sH k ih h ps depth (m + 1) YQ hk b9 yp (by omega) (by omega) (by omega)) lT (fun r rb hr=>?_);obtain ⟨rfl,z,hz,BL⟩:=hr;simp only [List.cons.injEq,and_true] at hz;subst hz;exact ⟨_,_,ax,ax,bf (tk:=[]) (f:=(eD h ps depth (m + 1)).1) hS BL⟩
 have k7:¬ h.ag=7:=of_decide_eq_false k7;refine br (fun k8=>?_) (fun k8=>?_)
 ·have YQ:h.ag=7∨h.ag=8:=.inr (of_decide_eq_true k8);rw [if_neg (by omega),if_neg (by omega),if_neg (by omega),if_pos YQ,hP] at hS;refine lE RF rfl rfl (cs':=[.v (.int .i64 (m + 1))]) (aI qO) ax (sH k ih h ps depth (m + 1) YQ hk b9 yp (by omega) (by omega) (by omega)) lT (fun r rb hr=>?_);obtain ⟨rfl,z,hz,BL⟩:=hr;simp only [List.cons.injEq,and_true] at hz;subst hz;exact ⟨_,_,ax,ax,bf (tk:=[]) (f:=(eD h ps depth (m + 1)).1) hS BL⟩
 have k8:¬ h.ag=8:=of_decide_eq_false k8;refine br (fun k9=>?_) (fun k9=>?_)
 ·have k9:h.ag=9:=of_decide_eq_true k9;refine call_p B9 (jx h.name.s (by simp only [Wd.wt] at yN;omega)) ax rfl ?_;refine br (fun q=>?_) (fun q=>?_)
  ·have q:aY h.name.s=false:=by simpa using q
   rw [if_pos ⟨k9,q⟩] at hS;refine call_p dN (bi 9 h.name.a) ax rfl ?_;exact ⟨_,[[.v (.int .i64 (m + 1))]],ax,(aI qO),bf (tk:=[]) (f:=(9,h.name.a)) hS (fun _=>rfl)⟩
  ·have q:aY h.name.s=true:=by simpa using q
   rw [if_neg (by simp [q]),if_neg (by omega),if_neg (by omega),if_neg (by omega)] at hS;exact ⟨_,[[.v (.int .i64 (m + 1))]],ax,(aI qO),bf (tk:=[]) (f:=(0,0)) hS (fun _=>rfl)⟩
 have k9:¬ h.ag=9:=of_decide_eq_false k9;rw [if_neg (by omega),if_neg (by omega),if_neg (by omega),if_neg (by omega)] at hS;exact ⟨_,[[.v (.int .i64 (m + 1))]],ax,(aI qO),bf (tk:=[]) (f:=(0,0)) hS (fun _=>rfl)⟩
theorem CU:∀ k,MV k
 | 0=>fun t depth m hk=>by have:=t.de;omega
 | k + 1=>fun t depth m hk b9 yp Ep jX fD=>by
  obtain ⟨h,ps⟩:=t;have gm:=hk;simp only [Ty.wt,Hd.wt] at gm;exact CT k (CU k) h ps depth m (by omega) b9 yp Ep jX fD
theorem CV (t:Ty) (b9:t.wt<=1099511627776):EvP Tryz.prog 104 [.agg (dK t)] (wrong t 1 0).1.d:=
 Jo t (CU t.wt t 1 0 (Nat.le_refl _) b9 (by omega) (by omega) (by omega) (by omega))
abbrev H4 (t:Ty) (ps:Pts) (e n:Nat):St:=
 ⟨[(1,⟨[],.loc 0 0⟩),(3,⟨[],.v (.int .i64 n)⟩),(7,⟨[],.sl 18 (fc ps) none⟩),(8,⟨[],.v (.int .i64 (fc ps).length)⟩),(9,⟨[],.v (.int .i64 e)⟩)],[dK t],[]⟩
theorem vt:∀ (k:Nat) (t:Ty),t.wt<=k->t.wt<=1099511627776 ->
  EvP Tryz.prog 105 [.agg (dK t)] (.v (.int .i64 t.cnt))
 | 0,t,hn,_=>by have:=t.de;omega
 | k + 1,.mk h ps,hn,b9=>by
  simp only [Ty.wt,Hd.wt] at hn b9;have iE:=ps.fb;have hc:=ps.ej;refine ev_go (P:=Tryz.prog) tt tt_ok 5000 23 [.tmp 2] Tryz.func105 rfl Tryz.ntmps105 rfl (nL rfl) (fun E9 w9 hn9 hm9=>?_)
  refine aq (fun j st=>∃ (e n:Nat),st=H4 (.mk h ps) ps e n/\e<=ps.len/\n + (ps.drop e).cnt=1 + ps.cnt/\j=ps.len - e) ps.len
   (H4 (.mk h ps) ps 0 1) (weak_mk ⟨_,rfl⟩ wA rfl rfl rfl wB) ⟨0,1,rfl,by omega,rfl,by omega⟩ ?_
  rintro j st ⟨e,n,rfl,he,aN,rfl⟩;refine br (fun hL=>?_) (fun hL=>?_)
  ·have ap:e < ps.len:=by simpa [aF] using hL
   obtain ⟨p,t,hx⟩:=Pts.ei ap;have Cm:=Pts.fI (mG hx);rw [Pts.drop_cons hx] at aN;simp only [Pts.cnt] at aN;have hct:=t.ej;obtain ⟨u,us⟩:=t;refine ⟨_,⟨by omega,bH hx⟩,?_⟩;refine br (fun hB=>?_) (fun hB=>?_)
   ·have hB:p.bare=false:=by simpa using hB
    rw [hB] at aN;have aN:n + ((Ty.mk u us).cnt + (ps.drop (e + 1)).cnt)=1 + ps.cnt:=aN;refine call_p Rf (vt k (.mk u us) (by omega) (by omega)) ax rfl ?_;have sA:IntKind.i64.wrap ((n:Int) + (Ty.mk u us).cnt)=((n + (Ty.mk u us).cnt:Nat):Int):=by rw [wrap64 (by omega) (by omega)];omega
    exact ⟨H4 (.mk h ps) ps (e + 1) (n + (Ty.mk u us).cnt),(weak_mk ⟨_,rfl⟩ wA rfl rfl rfl (by repeat' (first | exact trivial | exact ah rfl | exact ak sA | exact ak (cx ap (by omega)) | refine ⟨⟨_,rfl,?_⟩,?_⟩))),ps.len - (e + 1),by omega,e + 1,_,rfl,by omega,by omega,rfl⟩
   ·have hB:p.bare=true:=by simpa using hB
    rw [hB] at aN;have aN:n + (0 + (ps.drop (e + 1)).cnt)=1 + ps.cnt:=aN;exact ⟨H4 (.mk h ps) ps (e + 1) n,(weak_mk ⟨_,rfl⟩ wA rfl rfl rfl (wNB ap)),ps.len - (e + 1),by omega,e + 1,n,rfl,by omega,by omega,rfl⟩
  ·have aO:e=ps.len:=by simp [aF] at hL;omega
   rw [aO,Pts.cQ] at aN;simp only [Pts.cnt] at aN;have e2:(n:Int)=((Ty.mk h ps).cnt:Int):=by simp only [Ty.cnt];omega
   refine (congrArg (fun z=>DV.v (.int .i64 z)) ?_:_=_);exact e2
mutual
def Ty.nn:Ty->Nat
 | .mk h ps=>if h.ag=9 then 0 else 1 + ps.nn
def Pts.nn:Pts->Nat
 | .nil=>0
 | .cons p t r=>(if p.bare then 0 else t.nn) + r.nn
end
mutual
theorem Ty.fL:∀ t:Ty,t.nn<=t.cnt
 | .mk h ps=>by
  have:=Pts.fL ps;simp only [Ty.nn,Ty.cnt];split<;>omega
theorem Pts.fL:∀ ps:Pts,ps.nn<=ps.cnt
 | .nil=>Nat.le_refl _
 | .cons p t r=>by
  have:=Ty.fL t;have:=Pts.fL r;simp only [Pts.nn,Pts.cnt];split<;>omega
end
abbrev P6 (t:Ty) (ps:Pts) (e n:Nat):St:=
 ⟨[(1,⟨[],.loc 0 0⟩),(3,⟨[],.v (.int .i64 n)⟩),(10,⟨[],.sl 18 (fc ps) none⟩),(11,⟨[],.v (.int .i64 (fc ps).length)⟩),(12,⟨[],.v (.int .i64 e)⟩)],[dK t],[]⟩
theorem vu:∀ (k:Nat) (t:Ty),t.wt<=k->t.wt<=1099511627776 ->
  EvP Tryz.prog 108 [.agg (dK t)] (.v (.int .i64 t.nn))
 | 0,t,hn,_=>by have:=t.de;omega
 | k + 1,.mk h ps,hn,b9=>by
  simp only [Ty.wt,Hd.wt] at hn b9;have iE:=ps.fb;have hc:=ps.ej;have mw:=ps.fL;refine ev_go (P:=Tryz.prog) tt tt_ok 5000 26 [.tmp 2] Tryz.func108 rfl Tryz.ntmps108 rfl (nL rfl) (fun E9 w9 hn9 hm9=>?_);refine br (fun h9=>?_) (fun h9=>?_)
  ·have h9:h.ag=9:=by simpa using h9
   have:(Ty.mk h ps).nn=0:=by simp [Ty.nn,h9]
   rw [this];exact (rfl:_=_)
  have h9:¬ h.ag=9:=by simpa using h9
  refine aq (fun j st=>∃ (e n:Nat),st=P6 (.mk h ps) ps e n/\e<=ps.len/\n + (ps.drop e).nn=1 + ps.nn/\j=ps.len - e) ps.len
   (P6 (.mk h ps) ps 0 1) (weak_mk ⟨_,rfl⟩ wA rfl rfl rfl wB) ⟨0,1,rfl,by omega,rfl,by omega⟩ ?_
  rintro j st ⟨e,n,rfl,he,aN,rfl⟩;refine br (fun hL=>?_) (fun hL=>?_)
  ·have ap:e < ps.len:=by simpa [aF] using hL
   obtain ⟨p,t,hx⟩:=Pts.ei ap;have Cm:=Pts.fI (mG hx);rw [Pts.drop_cons hx] at aN;simp only [Pts.nn] at aN;have hct:=t.ej;have hct2:=t.fL;obtain ⟨u,us⟩:=t;refine ⟨_,⟨by omega,bH hx⟩,?_⟩;refine br (fun hB=>?_) (fun hB=>?_)
   ·have hB:p.bare=false:=by simpa using hB
    rw [hB] at aN;have aN:n + ((Ty.mk u us).nn + (ps.drop (e + 1)).nn)=1 + ps.nn:=aN;refine call_p Rg (vu k (.mk u us) (by omega) (by omega)) ax rfl ?_;have sA:IntKind.i64.wrap ((n:Int) + (Ty.mk u us).nn)=((n + (Ty.mk u us).nn:Nat):Int):=by rw [wrap64 (by omega) (by omega)];omega
    exact ⟨P6 (.mk h ps) ps (e + 1) (n + (Ty.mk u us).nn),(weak_mk ⟨_,rfl⟩ wA rfl rfl rfl (by repeat' (first | exact trivial | exact ah rfl | exact ak sA | exact ak (cx ap (by omega)) | refine ⟨⟨_,rfl,?_⟩,?_⟩))),ps.len - (e + 1),by omega,e + 1,_,rfl,by omega,by omega,rfl⟩
   ·have hB:p.bare=true:=by simpa using hB
    rw [hB] at aN;have aN:n + (0 + (ps.drop (e + 1)).nn)=1 + ps.nn:=aN;exact ⟨P6 (.mk h ps) ps (e + 1) n,(weak_mk ⟨_,rfl⟩ wA rfl rfl rfl (wNB ap)),ps.len - (e + 1),by omega,e + 1,n,rfl,by omega,by omega,rfl⟩
  ·have aO:e=ps.len:=by simp [aF] at hL;omega
   rw [aO,Pts.cQ] at aN;simp only [Pts.nn] at aN;have e2:(n:Int)=((Ty.mk h ps).nn:Int):=by simp only [Ty.nn,if_neg h9];omega
   refine (congrArg (fun z=>DV.v (.int .i64 z)) ?_:_=_);exact e2
structure Lx where
 af:List ByteArray
 aA:List Nat
 rows:List Nat
 js:List Int
 f:Nat->Nat->Bool
def Lx.pd (X:Lx):DV:=.pt (gJ X.af (cy X.af X.aA) X.rows X.js) 0
def Lx.lev (X:Lx) (l:List Wd):Int:=Ap X.f X.af l
def Lx.bad (X:Lx) (l:List Wd):Ft:=labW X.af l
structure Lx.OK (X:Lx):Prop where
 hT:gL X.af X.aA
 ja:X.aA.length<=1099511627776
 hL:dZ X.f X.af.length
 hn:X.af.length<=32
 hj:∀ x y,x < X.af.length->y < X.af.length->JM X.f X.af.length X.js x y
theorem Lx.qa {X:Lx} (h:X.OK) (l:List Wd) (hs:wdsWt l<=1099511627776):EvP Tryz.prog 106 [X.pd,.sl 2 (bu l) none] (.tup [.v (.int .i64 (X.lev l)),(X.bad l).d]):=
 MS X.af X.aA X.rows X.js h.hT h.ja h.hL h.hn h.hj l hs
def bC (s:Sch) (lat out:DV) (m:Int):List DV:=.sl 2 (bu s.ae) none :: .sl 4 (mh s.order) none :: .sl 11 (dNms s.types) none :: (dK s.root ++ [lat,out,.v (.int .i64 m)])
theorem vv {X:Lx} (h:X.OK) (s:Sch) (pc:List DV) (m:Int) (l:List Wd) (hs:wdsWt l<=1099511627776) :
  EvP Tryz.prog 174 [.pt (bC s X.pd (.pt pc 0) m) 0,.sl 2 (bu l) none] (.v (.int .i64 (X.lev l))):=by
 obtain ⟨ae,order,types,⟨rh,rp⟩⟩:=s;refine ev_go (P:=Tryz.prog) tt tt_ok 5000 17 [.tmp 4] Tryz.func174 rfl Tryz.ntmps174 rfl (nL rfl) (fun E9 w9 hn9 hm9=>?_);refine call_p Ca (Lx.qa h l hs) ax rfl ?_;exact (rfl:_=_)
def tA (s:Sch):List Wd:=s.types.map fun x=>x.1
def tL (s:Sch):List ByteArray:=av (tA s)
theorem H5 (s:Sch):(tA s).length=s.types.length:=by simp [tA]
theorem jE (s:Sch):(tL s).length=s.types.length:=by simp [tL,av,tA]
def pC (s:Sch) (aA:List Nat) (a b c e:DV):List DV:=[a,b,c,.pt (cy (tL s) aA) 0,e]
def tB (s:Sch) (t:Ty):Bool:=decide (t.h.ag=9->cD (tL s) t.h.name.s≠none)
def endI (s:Sch):Nat->Nat->Option Nat
 | 0,_=>none
 | k + 1,i=>
  match s.types[i]? with
  | none=>none
  | some x=>if x.2.h.ag=9 then endI s k ((cD (tL s) x.2.h.name.s).getD 0) else some i
theorem qb {s:Sch}:∀ {k i j:Nat},endI s k i=some j->j < s.types.length/\∀ x,s.types[j]? = some x->x.2.h.ag≠9
 | 0,i,j,h=>by cases h
 | k + 1,i,j,h=>by
  rw [endI] at h
  cases hx:s.types[i]? with
  | none=>rw [hx] at h;cases h
  | some x=>
   rw [hx] at h;simp only at h;split at h
   ·exact qb h
   ·rename_i hk;simp only [oI] at h;subst h;refine ⟨(gS hx).1,fun y hy=>?_⟩;rw [hx] at hy;simp only [oI] at hy;subst hy;exact hk
abbrev MX (B:DV) (n i e:Nat):St:=
 ⟨[(0,⟨[],B⟩),(1,⟨[],.v (.int .i64 i)⟩),(12,⟨[],.v (.int .i64 n)⟩),(13,⟨[],.v (.int .i64 e)⟩)],[],[]⟩
theorem CW (s:Sch) (lat:DV) (aA:List Nat) (a b c e0:DV) (m:Int) (hT:gL (tL s) aA) (ja:aA.length<=1099511627776) (hl:s.types.length<=64) (hr:∀ x∈s.types,tB s x.2=true) (i:Nat) (hi:i < s.types.length) :
  EvP Tryz.prog 107 [.pt (bC s lat (.pt (pC s aA a b c e0) 0) m) 0,.v (.int .i64 i)] (.v (.int .i64 (oz (endI s (s.types.length + 1) i)))):=by
 have eJ:=jE s;obtain ⟨ae,order,types,⟨rh,rp⟩⟩:=s;simp only at hl hr hi eJ;have hN:=dA types;have hcnt:IntKind.i64.wrap ((((dNms types).length:Nat):Int) + 1)=((types.length + 1:Nat):Int):=by rw [hN,wrap64 (by omega) (by omega)];all_goals rfl
 refine ev_go (P:=Tryz.prog) tt tt_ok 5000 43 [.tmp 4] Tryz.func107 rfl Tryz.ntmps107 rfl (nL rfl) (fun E9 w9 hn9 hm9=>?_)
 refine aq (fun j st=>∃ e q:Nat,st=MX (.pt (bC ⟨ae,order,types,.mk rh rp⟩ lat (.pt (pC ⟨ae,order,types,.mk rh rp⟩ aA a b c e0) 0) m) 0) (types.length + 1) q e/\e<=types.length + 1/\q < types.length/\endI ⟨ae,order,types,.mk rh rp⟩ (types.length + 1) i=endI ⟨ae,order,types,.mk rh rp⟩ (types.length + 1 - e) q/\j=types.length + 1 - e) (types.length + 1)
  (MX (.pt (bC ⟨ae,order,types,.mk rh rp⟩ lat (.pt (pC ⟨ae,order,types,.mk rh rp⟩ aA a b c e0) 0) m) 0) (types.length + 1) i 0) (weak_mk ⟨_,rfl⟩ wA rfl rfl rfl (by repeat' (first | exact trivial | exact ah rfl | exact ak hcnt | refine ⟨⟨_,rfl,?_⟩,?_⟩))) ⟨0,i,rfl,by omega,hi,rfl,by omega⟩ ?_
 rintro j st ⟨e,q,rfl,he,hq,aH,rfl⟩;refine br (fun hL=>?_) (fun hL=>?_)
 ·have ap:e < types.length + 1:=by have:=hL;simp at this;omega
  obtain ⟨x,hx⟩:∃ x,types[q]? = some x:=⟨_,gE hq⟩;have tP:=hr x (mG hx);obtain ⟨xw,⟨xh,xp⟩⟩:=x
  have aT:endI ⟨ae,order,types,.mk rh rp⟩ (types.length + 1 - e) q=if xh.ag=9 then endI ⟨ae,order,types,.mk rh rp⟩ (types.length + 1 - (e + 1)) ((cD (tL ⟨ae,order,types,.mk rh rp⟩) xh.name.s).getD 0) else some q:=by
   rw [show types.length + 1 - e=(types.length + 1 - (e + 1)) + 1 by omega,endI];simp only [hx];rfl
  rw [aT] at aH;refine ⟨_,⟨by omega,dNms_get hx⟩,?_⟩;refine br (fun h9=>?_) (fun h9=>?_)
  ·have h9:¬ xh.ag=9:=by simpa using h9
   rw [if_neg h9] at aH;rw [aH];exact (rfl:_=_)
  have h9:xh.ag=9:=by simpa using h9
  rw [if_pos h9] at aH
  have aN:cD (tL ⟨ae,order,types,.mk rh rp⟩) xh.name.s≠none:=by
   have:=of_decide_eq_true tP;exact this h9
  obtain ⟨k,hk⟩:=Option.ne_none_iff_exists'.1 aN;have iL:=(cK hk).1;rw [hk] at aH;have hf:=ic (tL ⟨ae,order,types,.mk rh rp⟩) aA xh.name.s hT ja;rw [hk] at hf;refine aE (fun _=>false) mo (by decide +kernel) ?_;refine ay uG (hf) ax rfl ?_;exact ⟨MX (.pt (bC ⟨ae,order,types,.mk rh rp⟩ lat (.pt (pC ⟨ae,order,types,.mk rh rp⟩ aA a b c e0) 0) m) 0) (types.length + 1) k (e + 1),(weak_mk ⟨_,rfl⟩ wA rfl rfl rfl (wNB ap)),types.length + 1 - (e + 1),by omega,e + 1,k,rfl,by omega,by omega,aH,rfl⟩
 ·have aO:e=types.length + 1:=by have:=hL;simp at this;omega
  subst aO;rw [Nat.sub_self] at aH;rw [aH];exact (rfl:_=_)
def loopF (s:Sch):Ft:=
 match bL (fun i=>(endI s (s.types.length + 1) i).isNone) s.types.length with
 | none=>(0,0)
 | some i=>(11,Ud (tA s) i)
abbrev Aq (B:DV) (s:Sch) (e:Nat):St:=
 ⟨[(0,⟨[],B⟩),(2,⟨[],.loc 0 0⟩),(9,⟨[],.sl 11 (dNms s.types) none⟩),(10,⟨[],.v (.int .i64 (dNms s.types).length)⟩),(11,⟨[],.v (.int .i64 e)⟩)],[[.v (.int .i64 0),.v (.int .i64 0)]],[]⟩
theorem FD (s:Sch) (lat:DV) (aA:List Nat) (a b c e0:DV) (m:Int) (hT:gL (tL s) aA) (ja:aA.length<=1099511627776) (hl:s.types.length<=64) (hr:∀ x∈s.types,tB s x.2=true) :
  EvP Tryz.prog 48 [.pt (bC s lat (.pt (pC s aA a b c e0) 0) m) 0] (loopF s).d:=by
 have iK:=CW s lat aA a b c e0 m hT ja hl hr;have hN:=dA s.types;have hF:=loopF.eq_1 s;obtain ⟨ae,order,types,⟨rh,rp⟩⟩:=s;simp only at hl hr iK hN;refine ev_go (P:=Tryz.prog) tt tt_ok 5000 26 [.cell 2 54] Tryz.func48 rfl Tryz.ntmps48 rfl (nL rfl) (fun E9 w9 hn9 hm9=>?_)
 refine aq (fun j st=>∃ e:Nat,st=Aq (.pt (bC ⟨ae,order,types,.mk rh rp⟩ lat (.pt (pC ⟨ae,order,types,.mk rh rp⟩ aA a b c e0) 0) m) 0) ⟨ae,order,types,.mk rh rp⟩ e/\e<=types.length/\(∀ i,i < e->(endI ⟨ae,order,types,.mk rh rp⟩ (types.length + 1) i).isNone=false)/\j=types.length - e) types.length
  (Aq (.pt (bC ⟨ae,order,types,.mk rh rp⟩ lat (.pt (pC ⟨ae,order,types,.mk rh rp⟩ aA a b c e0) 0) m) 0) ⟨ae,order,types,.mk rh rp⟩ 0) (weak_mk ⟨_,rfl⟩ wA rfl rfl rfl wB) ⟨0,rfl,by omega,fun _ h=>by omega,by omega⟩ ?_
 rintro j st ⟨e,rfl,he,eI,rfl⟩;refine br (fun hL=>?_) (fun hL=>?_)
 ·have ap:e < types.length:=by have:=hL;simp [hN] at this;exact this
  obtain ⟨x,hx⟩:∃ x,types[e]? = some x:=⟨_,gE ap⟩;have Ug:(tA ⟨ae,order,types,.mk rh rp⟩)[e]? = some x.1:=by simp [tA,hx]
  have h1:=iK e ap;obtain ⟨xw,⟨xh,xp⟩⟩:=x;refine ⟨_,⟨by omega,dNms_get hx⟩,?_⟩;refine call_p en107 (h1) ax rfl ?_
  cases hE:endI ⟨ae,order,types,.mk rh rp⟩ (types.length + 1) e with
  | none=>
   have Bq:=cC (p:=fun i=>(endI ⟨ae,order,types,.mk rh rp⟩ (types.length + 1) i).isNone) ap (by simp only [hE];rfl) eI;simp only [Bq] at hF;rw [j8 Ug] at hF;refine ⟨_,?_,rfl⟩;rw [hF];exact ax
  | some k=>
   refine ⟨Aq (.pt (bC ⟨ae,order,types,.mk rh rp⟩ lat (.pt (pC ⟨ae,order,types,.mk rh rp⟩ aA a b c e0) 0) m) 0) ⟨ae,order,types,.mk rh rp⟩ (e + 1),(weak_mk ⟨_,rfl⟩ wA rfl rfl rfl (wNB ap)),types.length - (e + 1),by omega,e + 1,rfl,by omega,fun i hi=>?_,rfl⟩;rcases Nat.lt_succ_iff_lt_or_eq.1 hi with hi | rfl
   ·exact eI i hi
   ·rw [hE];all_goals rfl
 ·have aO:e=types.length:=by have:=hL;simp [hN] at this;omega
  subst aO;simp only [cW eI] at hF;refine ⟨_,?_,rfl⟩;rw [hF];exact ax
mutual
def knT (X:Lx) (L:List ByteArray):Ty->Ft
 | .mk h ps=>if h.ag=9/\cD L h.name.s=none then (15,h.name.a) else knP X L ps
def knP (X:Lx) (L:List ByteArray):Pts->Ft
 | .nil=>(0,0)
 | .cons p t r=>if (X.bad p.label).1≠0 then X.bad p.label else if (X.bad p.cl).1≠0 then X.bad p.cl else if p.bare then knP X L r else if (knT X L t).1≠0 then knT X L t else knP X L r
end
abbrev CX (B:DV) (t:Ty) (ps:Pts) (e:Nat):St:=
 ⟨[(0,⟨[],B⟩),(3,⟨[],.loc 0 0⟩),(4,⟨[],.loc 1 0⟩),(38,⟨[],.sl 18 (fc ps) none⟩),(39,⟨[],.v (.int .i64 (fc ps).length)⟩),(40,⟨[],.v (.int .i64 e)⟩)],[dK t,[.v (.int .i64 0),.v (.int .i64 0)]],[]⟩
abbrev sI (B:DV) (t:Ty) (ps:Pts) (p:Ph) (u:Ty) (e q:Nat):St:=
 ⟨[(0,⟨[],B⟩),(3,⟨[],.loc 0 0⟩),(4,⟨[],.loc 1 0⟩),(38,⟨[],.sl 18 (fc ps) none⟩),(39,⟨[],.v (.int .i64 (fc ps).length)⟩),(40,⟨[],.v (.int .i64 e)⟩),(8,⟨[],.loc 2 0⟩),(49,⟨[],.sl 1 [[.sl 2 (bu p.label) none],[.sl 2 (bu p.cl) none]] none⟩),(50,⟨[],.v (.int .i64 (2:Nat))⟩),(51,⟨[],.v (.int .i64 q)⟩)],[dK t,[.v (.int .i64 0),.v (.int .i64 0)],ET p (dK u)],[]⟩
theorem vw {X:Lx} (hX:X.OK) (s:Sch) (aA:List Nat) (a b c e0:DV) (m:Int) (hT:gL (tL s) aA) (ja:aA.length<=1099511627776):∀ (k:Nat) (t:Ty),t.wt<=k->t.wt<=1099511627776 ->
  EvP Tryz.prog 47 [.pt (bC s X.pd (.pt (pC s aA a b c e0) 0) m) 0,.agg (dK t)] (knT X (tL s) t).d
 | 0,t,hn,_=>by have:=t.de;omega
 | k + 1,.mk h ps,hn,b9=>by
  have ih:=vw hX s aA a b c e0 m hT ja k;simp only [Ty.wt,Hd.wt] at hn b9;have iE:=ps.fb;obtain ⟨ae,order,types,⟨rh,rp⟩⟩:=s;have hf:=ic (tL ⟨ae,order,types,.mk rh rp⟩) aA h.name.s hT ja;have hS:knT X (tL ⟨ae,order,types,.mk rh rp⟩) (.mk h ps)=if h.ag=9/\cD (tL ⟨ae,order,types,.mk rh rp⟩) h.name.s=none then (15,h.name.a) else knP X (tL ⟨ae,order,types,.mk rh rp⟩) ps:=by rw [knT]
  refine ev_go (P:=Tryz.prog) tt tt_ok 5000 81 [.cell 4 54] Tryz.func47 rfl Tryz.ntmps47 rfl (nL rfl) (fun E9 w9 hn9 hm9=>?_);generalize knT X (tL ⟨ae,order,types,.mk rh rp⟩) (.mk h ps)=F at hS ⊢;have VB:knP X (tL ⟨ae,order,types,.mk rh rp⟩) ps=knP X (tL ⟨ae,order,types,.mk rh rp⟩) (ps.drop 0):=by rw [Pts.drop]
  refine br (fun h9=>?_) (fun h9=>?_)
  ·have h9:h.ag=9:=by simpa using h9
   refine aE (fun _=>false) mo (by decide +kernel) ?_
   cases hx:cD (tL ⟨ae,order,types,.mk rh rp⟩) h.name.s with
   | none=>
    rw [if_pos ⟨h9,hx⟩] at hS;rw [hx] at hf;refine ay uG (hf) ax rfl ?_;refine ⟨_,?_,rfl⟩;rw [hS];exact ax
   | some i=>
    rw [if_neg (by rw [hx];simp),VB] at hS;rw [hx] at hf;refine ay uG (hf) ax rfl ?_;refine aq (fun j st=>∃ e:Nat,st=CX (.pt (bC ⟨ae,order,types,.mk rh rp⟩ X.pd (.pt (pC ⟨ae,order,types,.mk rh rp⟩ aA a b c e0) 0) m) 0) (.mk h ps) ps e/\e<=ps.len/\F=knP X (tL ⟨ae,order,types,.mk rh rp⟩) (ps.drop e)/\j=ps.len - e) ps.len (CX (.pt (bC ⟨ae,order,types,.mk rh rp⟩ X.pd (.pt (pC ⟨ae,order,types,.mk rh rp⟩ aA a b c e0) 0) m) 0) (.mk h ps) ps 0) (weak_mk ⟨_,rfl⟩ wA rfl rfl rfl wB) ⟨0,rfl,by omega,hS,by omega⟩ ?_;rintro j st ⟨e,rfl,he,aH,rfl⟩;refine br (fun hL=>?_) (fun hL=>?_)
    ·have ap:e < ps.len:=by simpa [aF] using hL
     obtain ⟨p,t,hx⟩:=Pts.ei ap;have Cm:=Pts.fI (mG hx);rw [Pts.drop_cons hx] at aH;simp only [knP] at aH;have hw1:wdsWt p.label + wdsWt p.cl<=p.wt:=by simp only [Ph.wt];omega
     obtain ⟨u,us⟩:=t;refine ⟨_,⟨by omega,bH hx⟩,?_⟩;refine aq (fun j st=>∃ q:Nat,st=sI (.pt (bC ⟨ae,order,types,.mk rh rp⟩ X.pd (.pt (pC ⟨ae,order,types,.mk rh rp⟩ aA a b c e0) 0) m) 0) (.mk h ps) ps p (.mk u us) e q/\q<=2/\(1<=q->(X.bad p.label).1=0)/\(2<=q->(X.bad p.cl).1=0)/\j=2 - q) 2 (sI (.pt (bC ⟨ae,order,types,.mk rh rp⟩ X.pd (.pt (pC ⟨ae,order,types,.mk rh rp⟩ aA a b c e0) 0) m) 0) (.mk h ps) ps p (.mk u us) e 0) (weak_mk ⟨_,rfl⟩ wA rfl rfl rfl wB) ⟨0,rfl,by omega,fun h=>by omega,fun h=>by omega,by omega⟩ ?_;rintro j st ⟨q,rfl,hq,VC,kE,rfl⟩;refine br (fun jD=>?_) (fun jD=>?_)
     ·have IX:q=0∨q=1:=by have:=jD;simp at this;omega
      rcases IX with rfl | rfl
      ·refine ⟨_,⟨by omega,rfl⟩,?_⟩;refine call_p Ca (Lx.qa hX p.label (by omega)) ax rfl ?_;refine br (fun hb=>?_) (fun hb=>?_)
       ·have hb:(X.bad p.label).1≠0:=by simpa using hb
        rw [if_pos hb] at aH;refine ⟨_,?_,rfl⟩;rw [aH];exact ax
       ·have hb:(X.bad p.label).1=0:=by simpa using hb
        exact ⟨sI (.pt (bC ⟨ae,order,types,.mk rh rp⟩ X.pd (.pt (pC ⟨ae,order,types,.mk rh rp⟩ aA a b c e0) 0) m) 0) (.mk h ps) ps p (.mk u us) e 1,(weak_mk ⟨_,rfl⟩ wA rfl rfl rfl (by repeat' (first | exact trivial | exact ah rfl | exact ak (cx (e:=0) (n:=2) (by omega) (by omega)) | refine ⟨⟨_,rfl,?_⟩,?_⟩))),1,by omega,1,rfl,by omega,fun _=>hb,fun h=>by omega,rfl⟩
      ·have gk:=VC (by omega);refine ⟨_,⟨by omega,rfl⟩,?_⟩;refine call_p Ca (Lx.qa hX p.cl (by omega)) ax rfl ?_;refine br (fun hb=>?_) (fun hb=>?_)
       ·have hb:(X.bad p.cl).1≠0:=by simpa using hb
        rw [if_neg (by rw [gk];simp),if_pos hb] at aH;refine ⟨_,?_,rfl⟩;rw [aH];exact ax
       ·have hb:(X.bad p.cl).1=0:=by simpa using hb
        exact ⟨sI (.pt (bC ⟨ae,order,types,.mk rh rp⟩ X.pd (.pt (pC ⟨ae,order,types,.mk rh rp⟩ aA a b c e0) 0) m) 0) (.mk h ps) ps p (.mk u us) e 2,(weak_mk ⟨_,rfl⟩ wA rfl rfl rfl (by repeat' (first | exact trivial | exact ah rfl | exact ak (cx (e:=1) (n:=2) (by omega) (by omega)) | refine ⟨⟨_,rfl,?_⟩,?_⟩))),0,by omega,2,rfl,by omega,fun _=>gk,fun _=>hb,rfl⟩
     ·have IX:q=2:=by have:=jD;simp at this;omega
      subst IX;have gk:=VC (by omega);have iu:=kE (by omega);rw [if_neg (by rw [gk];simp),if_neg (by rw [iu];simp)] at aH;refine br (fun hB=>?_) (fun hB=>?_)
      ·have hB:p.bare=true:=hB;rw [if_pos hB] at aH;exact ⟨CX (.pt (bC ⟨ae,order,types,.mk rh rp⟩ X.pd (.pt (pC ⟨ae,order,types,.mk rh rp⟩ aA a b c e0) 0) m) 0) (.mk h ps) ps (e + 1),(weak_mk ⟨_,rfl⟩ wA rfl rfl rfl (wNB ap)),ps.len - (e + 1),by omega,e + 1,rfl,by omega,aH,rfl⟩
      ·have hB:p.bare=false:=hB;rw [if_neg (by rw [hB];decide)] at aH;refine call_p Tx (ih (.mk u us) (by omega) (by omega)) ax rfl ?_;refine br (fun hb=>?_) (fun hb=>?_)
       ·have hb:(knT X (tL ⟨ae,order,types,.mk rh rp⟩) (.mk u us)).1≠0:=by simpa using hb
        rw [if_pos hb] at aH;refine ⟨_,?_,rfl⟩;rw [aH];exact ax
       ·have hb:(knT X (tL ⟨ae,order,types,.mk rh rp⟩) (.mk u us)).1=0:=by simpa using hb
        rw [if_neg (by rw [hb];simp)] at aH;exact ⟨CX (.pt (bC ⟨ae,order,types,.mk rh rp⟩ X.pd (.pt (pC ⟨ae,order,types,.mk rh rp⟩ aA a b c e0) 0) m) 0) (.mk h ps) ps (e + 1),(weak_mk ⟨_,rfl⟩ wA rfl rfl rfl (wNB ap)),ps.len - (e + 1),by omega,e + 1,rfl,by omega,aH,rfl⟩
    ·have aO:e=ps.len:=by simp [aF] at hL;omega
     rw [aO,Pts.cQ] at aH;simp only [knP] at aH;refine ⟨_,?_,rfl⟩;rw [aH];exact ax
  ·have h9:¬ h.ag=9:=by simpa using h9
   rw [if_neg (fun hc=>h9 hc.1),VB] at hS;refine aq (fun j st=>∃ e:Nat,st=CX (.pt (bC ⟨ae,order,types,.mk rh rp⟩ X.pd (.pt (pC ⟨ae,order,types,.mk rh rp⟩ aA a b c e0) 0) m) 0) (.mk h ps) ps e/\e<=ps.len/\F=knP X (tL ⟨ae,order,types,.mk rh rp⟩) (ps.drop e)/\j=ps.len - e) ps.len (CX (.pt (bC ⟨ae,order,types,.mk rh rp⟩ X.pd (.pt (pC ⟨ae,order,types,.mk rh rp⟩ aA a b c e0) 0) m) 0) (.mk h ps) ps 0) (weak_mk ⟨_,rfl⟩ wA rfl rfl rfl wB) ⟨0,rfl,by omega,hS,by omega⟩ ?_;rintro j st ⟨e,rfl,he,aH,rfl⟩;refine br (fun hL=>?_) (fun hL=>?_)
   ·have ap:e < ps.len:=by simpa [aF] using hL
    obtain ⟨p,t,hx⟩:=Pts.ei ap;have Cm:=Pts.fI (mG hx);rw [Pts.drop_cons hx] at aH;simp only [knP] at aH;have hw1:wdsWt p.label + wdsWt p.cl<=p.wt:=by simp only [Ph.wt];omega
    obtain ⟨u,us⟩:=t;refine ⟨_,⟨by omega,bH hx⟩,?_⟩;refine aq (fun j st=>∃ q:Nat,st=sI (.pt (bC ⟨ae,order,types,.mk rh rp⟩ X.pd (.pt (pC ⟨ae,order,types,.mk rh rp⟩ aA a b c e0) 0) m) 0) (.mk h ps) ps p (.mk u us) e q/\q<=2/\(1<=q->(X.bad p.label).1=0)/\(2<=q->(X.bad p.cl).1=0)/\j=2 - q) 2 (sI (.pt (bC ⟨ae,order,types,.mk rh rp⟩ X.pd (.pt (pC ⟨ae,order,types,.mk rh rp⟩ aA a b c e0) 0) m) 0) (.mk h ps) ps p (.mk u us) e 0) (weak_mk ⟨_,rfl⟩ wA rfl rfl rfl wB) ⟨0,rfl,by omega,fun h=>by omega,fun h=>by omega,by omega⟩ ?_;rintro j st ⟨q,rfl,hq,VC,kE,rfl⟩;refine br (fun jD=>?_) (fun jD=>?_)
    ·have IX:q=0∨q=1:=by have:=jD;simp at this;omega
     rcases IX with rfl | rfl
     ·refine ⟨_,⟨by omega,rfl⟩,?_⟩;refine call_p Ca (Lx.qa hX p.label (by omega)) ax rfl ?_;refine br (fun hb=>?_) (fun hb=>?_)
      ·have hb:(X.bad p.label).1≠0:=by simpa using hb
       rw [if_pos hb] at aH;refine ⟨_,?_,rfl⟩;rw [aH];exact ax
      ·have hb:(X.bad p.label).1=0:=by simpa using hb
       exact ⟨sI (.pt (bC ⟨ae,order,types,.mk rh rp⟩ X.pd (.pt (pC ⟨ae,order,types,.mk rh rp⟩ aA a b c e0) 0) m) 0) (.mk h ps) ps p (.mk u us) e 1,(weak_mk ⟨_,rfl⟩ wA rfl rfl rfl (by repeat' (first | exact trivial | exact ah rfl | exact ak (cx (e:=0) (n:=2) (by omega) (by omega)) | refine ⟨⟨_,rfl,?_⟩,?_⟩))),1,by omega,1,rfl,by omega,fun _=>hb,fun h=>by omega,rfl⟩
     ·have gk:=VC (by omega);refine ⟨_,⟨by omega,rfl⟩,?_⟩;refine call_p Ca (Lx.qa hX p.cl (by omega)) ax rfl ?_;refine br (fun hb=>?_) (fun hb=>?_)
      ·have hb:(X.bad p.cl).1≠0:=by simpa using hb
       rw [if_neg (by rw [gk];simp),if_pos hb] at aH;refine ⟨_,?_,rfl⟩;rw [aH];exact ax
      ·have hb:(X.bad p.cl).1=0:=by simpa using hb
       exact ⟨sI (.pt (bC ⟨ae,order,types,.mk rh rp⟩ X.pd (.pt (pC ⟨ae,order,types,.mk rh rp⟩ aA a b c e0) 0) m) 0) (.mk h ps) ps p (.mk u us) e 2,(weak_mk ⟨_,rfl⟩ wA rfl rfl rfl (by repeat' (first | exact trivial | exact ah rfl | exact ak (cx (e:=1) (n:=2) (by omega) (by omega)) | refine ⟨⟨_,rfl,?_⟩,?_⟩))),0,by omega,2,rfl,by omega,fun _=>gk,fun _=>hb,rfl⟩
    ·have IX:q=2:=by have:=jD;simp at this;omega
     subst IX;have gk:=VC (by omega);have iu:=kE (by omega);rw [if_neg (by rw [gk];simp),if_neg (by rw [iu];simp)] at aH;refine br (fun hB=>?_) (fun hB=>?_)
     ·have hB:p.bare=true:=hB;rw [if_pos hB] at aH;exact ⟨CX (.pt (bC ⟨ae,order,types,.mk rh rp⟩ X.pd (.pt (pC ⟨ae,order,types,.mk rh rp⟩ aA a b c e0) 0) m) 0) (.mk h ps) ps (e + 1),(weak_mk ⟨_,rfl⟩ wA rfl rfl rfl (wNB ap)),ps.len - (e + 1),by omega,e + 1,rfl,by omega,aH,rfl⟩
     ·have hB:p.bare=false:=hB;rw [if_neg (by rw [hB];decide)] at aH;refine call_p Tx (ih (.mk u us) (by omega) (by omega)) ax rfl ?_;refine br (fun hb=>?_) (fun hb=>?_)
      ·have hb:(knT X (tL ⟨ae,order,types,.mk rh rp⟩) (.mk u us)).1≠0:=by simpa using hb
       rw [if_pos hb] at aH;refine ⟨_,?_,rfl⟩;rw [aH];exact ax
      ·have hb:(knT X (tL ⟨ae,order,types,.mk rh rp⟩) (.mk u us)).1=0:=by simpa using hb
       rw [if_neg (by rw [hb];simp)] at aH;exact ⟨CX (.pt (bC ⟨ae,order,types,.mk rh rp⟩ X.pd (.pt (pC ⟨ae,order,types,.mk rh rp⟩ aA a b c e0) 0) m) 0) (.mk h ps) ps (e + 1),(weak_mk ⟨_,rfl⟩ wA rfl rfl rfl (wNB ap)),ps.len - (e + 1),by omega,e + 1,rfl,by omega,aH,rfl⟩
   ·have aO:e=ps.len:=by simp [aF] at hL;omega
    rw [aO,Pts.cQ] at aH;simp only [knP] at aH;refine ⟨_,?_,rfl⟩;rw [aH];exact ax
def eaL (F:Ty->Ft) (z:Ft):List (Wd × Ty)->Ft
 | []=>z
 | x :: r=>if (F x.2).1≠0 then F x.2 else eaL F z r
theorem MY {F:Ty->Ft} {z:Ft} {l:List (Wd × Ty)} {e:Nat} {x:Wd × Ty} (h:l[e]? = some x):eaL F z (l.drop e)=if (F x.2).1≠0 then F x.2 else eaL F z (l.drop (e + 1)):=by
 rw [drop_cons h,eaL]
abbrev FE (B:DV) (fn:DV) (types:List (Wd × Ty)) (e:Nat):St:=
 ⟨[(0,⟨[],B⟩),(1,⟨[],fn⟩),(4,⟨[],.loc 0 0⟩),(12,⟨[],.sl 11 (dNms types) none⟩),(13,⟨[],.v (.int .i64 (dNms types).length)⟩),(14,⟨[],.v (.int .i64 e)⟩)],[[.v (.int .i64 0),.v (.int .i64 0)]],[]⟩
theorem JI (s:Sch) (lat:DV) (pc:List DV) (m:Int) (hl:s.types.length<=1099511627776) (g:Nat) (hg:Enters Tryz.prog g) (F:Ty->Ft)
  (hF:∀ t,(t=s.root∨∃ x∈s.types,t=x.2)->EvP Tryz.prog g [.pt (bC s lat (.pt pc 0) m) 0,.agg (dK t)] (F t).d) :
  EvP Tryz.prog 45 [.pt (bC s lat (.pt pc 0) m) 0,.fn g [.pt (bC s lat (.pt pc 0) m) 0] []] (eaL F (F s.root) s.types).d:=by
 have hN:=dA s.types;obtain ⟨ae,order,types,⟨rh,rp⟩⟩:=s;simp only at hl hF hN;have gN:=hF (.mk rh rp) (.inl rfl);have Uh:∀ x∈types,_:=fun x hx=>hF x.2 (.inr ⟨x,hx,rfl⟩);clear hF;refine ev_go (P:=Tryz.prog) tt tt_ok 5000 34 [.cell 4 54] Tryz.func45 rfl Tryz.ntmps45 rfl (nL rfl) (fun E9 w9 hn9 hm9=>?_);generalize hG:eaL F (F (.mk rh rp)) types=G;have hG0:G=eaL F (F (.mk rh rp)) (types.drop 0):=by rw [List.drop_zero,hG]
 refine aq (fun j st=>∃ e:Nat,st=FE (.pt (bC ⟨ae,order,types,.mk rh rp⟩ lat (.pt pc 0) m) 0) (.fn g [.pt (bC ⟨ae,order,types,.mk rh rp⟩ lat (.pt pc 0) m) 0] []) types e/\e<=types.length/\G=eaL F (F (.mk rh rp)) (types.drop e)/\j=types.length - e) types.length
  (FE (.pt (bC ⟨ae,order,types,.mk rh rp⟩ lat (.pt pc 0) m) 0) (.fn g [.pt (bC ⟨ae,order,types,.mk rh rp⟩ lat (.pt pc 0) m) 0] []) types 0) (weak_mk ⟨_,rfl⟩ wA rfl rfl rfl wB) ⟨0,rfl,by omega,hG0,by omega⟩ ?_
 rintro j st ⟨e,rfl,he,aH,rfl⟩;refine br (fun hL=>?_) (fun hL=>?_)
 ·have ap:e < types.length:=by have:=hL;simp [hN] at this;exact this
  obtain ⟨x,hx⟩:∃ x,types[e]? = some x:=⟨_,gE ap⟩;have hp:=Uh x (mG hx);rw [MY hx] at aH;obtain ⟨xw,⟨xh,xp⟩⟩:=x;refine ⟨_,⟨by omega,dNms_get hx⟩,?_⟩;refine call_p hg hp ax rfl ?_;refine br (fun hf=>?_) (fun hf=>?_)
  ·have hf:(F (.mk xh xp)).1≠0:=by simpa using hf
   rw [if_pos hf] at aH;refine ⟨_,?_,rfl⟩;rw [aH];exact ax
  ·have hf:(F (.mk xh xp)).1=0:=by simpa using hf
   rw [if_neg (by rw [hf];simp)] at aH;exact ⟨FE (.pt (bC ⟨ae,order,types,.mk rh rp⟩ lat (.pt pc 0) m) 0) (.fn g [.pt (bC ⟨ae,order,types,.mk rh rp⟩ lat (.pt pc 0) m) 0] []) types (e + 1),(weak_mk ⟨_,rfl⟩ wA rfl rfl rfl (wNB ap)),types.length - (e + 1),by omega,e + 1,rfl,by omega,aH,rfl⟩
 ·have aO:e=types.length:=by have:=hL;simp [hN] at this;omega
  subst aO;rw [List.drop_length,eaL] at aH;refine call_p hg gN ax rfl ?_;refine ⟨_,?_,rfl⟩;rw [aH];exact ax
def bM (t:Ty) (m:Int):Ft × Int:=if (wrong t 1 0).1.1≠0 then ((wrong t 1 0).1,m) else if 512 < m + t.cnt then ((8,t.h.aC),m + t.cnt) else ((0,0),m + t.cnt)
def M0 (s:Sch) (lat:DV) (pc:List DV) (x:Ft × Int) (r:DV) (os:List (List DV)) (_:List TkE):Prop:=r=x.1.d/\os=[bC s lat (.loc 1 0) x.2,pc]
theorem CY (s:Sch) (lc pc:List DV) (m:Int) (jX:0<=m) (fD:m<=1099511627776) (t:Ty) (b9:t.wt<=1099511627776) (hpc:∀ bx N n0 m0,CcL bx N n0 m0 pc pc) :
  Ev Tryz.prog 46 [.loc 0 0,.agg (dK t)] [bC s (.pt lc 0) (.loc 1 0) m,pc] [] (M0 s (.pt lc 0) pc (bM t m)):=by
 have hk:=CV t b9;have hc:=vt t.wt t (Nat.le_refl _) b9;have qM:=t.ej;have hF:=bM.eq_1 t m;obtain ⟨ae,order,types,⟨rh,rp⟩⟩:=s;obtain ⟨h,ps⟩:=t;generalize bM (.mk h ps) m=R at hF ⊢;refine ev_go (P:=Tryz.prog) tt tt_ok 5000 30 [.cell 4 54] Tryz.func46 rfl Tryz.ntmps46 rfl (nL rfl) (fun E9 w9 hn9 hm9=>?_);refine call_p W4 (hk) ax rfl ?_;refine br (fun hf=>?_) (fun hf=>?_)
 ·have hf:(wrong (.mk h ps) 1 0).1.1≠0:=by simpa using hf
  rw [if_pos hf] at hF;subst hF;exact ⟨Ft.d _,[bC ⟨ae,order,types,.mk rh rp⟩ (.pt lc 0) (.loc 1 0) m,pc],ax,(by repeat' (first | exact rfl | exact trivial | exact Or.inr (Or.inl ⟨_,rfl⟩) | exact Or.inr ⟨_,rfl⟩ | exact Or.inl ⟨rfl,rfl⟩ | exact Or.inl rfl | refine Or.inr ⟨_,_,rfl,Nat.zero_le _,rfl,?_⟩ | refine ⟨_,_,rfl,?_,?_⟩ | refine ⟨_,rfl,?_⟩ | exact hpc _ _ _ _ | exact ⟨nL rfl,rfl⟩ | exact congrArg (fun z=>DV.v (.int .i64 z)) hw | refine Or.inr (Or.inr (Or.inr ⟨_,_,rfl,?_⟩)) | exact Or.inl rfl | refine Or.inr ?_)),rfl,rfl⟩
 have hf:(wrong (.mk h ps) 1 0).1.1=0:=by simpa using hf
 rw [if_neg (by rw [hf];simp)] at hF;have hw:IntKind.i64.wrap (m + ((Ty.mk h ps).cnt:Int))=m + ((Ty.mk h ps).cnt:Int):=wrap64 (by omega) (by omega);refine aP mo (by decide +kernel) ?_;refine ay Rf (hc) ax rfl ?_;refine br (fun hg=>?_) (fun hg=>?_)
 ·have hg:512 < m + ((Ty.mk h ps).cnt:Int):=by simpa [hw] using hg
  rw [if_pos hg] at hF;subst hF;exact ⟨Ft.d _,[bC ⟨ae,order,types,.mk rh rp⟩ (.pt lc 0) (.loc 1 0) (m + (Ty.mk h ps).cnt),pc],ax,(by repeat' (first | exact rfl | exact trivial | exact Or.inr (Or.inl ⟨_,rfl⟩) | exact Or.inr ⟨_,rfl⟩ | exact Or.inl ⟨rfl,rfl⟩ | exact Or.inl rfl | refine Or.inr ⟨_,_,rfl,Nat.zero_le _,rfl,?_⟩ | refine ⟨_,_,rfl,?_,?_⟩ | refine ⟨_,rfl,?_⟩ | exact hpc _ _ _ _ | exact ⟨nL rfl,rfl⟩ | exact congrArg (fun z=>DV.v (.int .i64 z)) hw | refine Or.inr (Or.inr (Or.inr ⟨_,_,rfl,?_⟩)) | exact Or.inl rfl | refine Or.inr ?_)),rfl,rfl⟩
 ·have hg:¬ 512 < m + ((Ty.mk h ps).cnt:Int):=by simpa [hw] using hg
  rw [if_neg hg] at hF;subst hF;exact ⟨Ft.d _,[bC ⟨ae,order,types,.mk rh rp⟩ (.pt lc 0) (.loc 1 0) (m + (Ty.mk h ps).cnt),pc],ax,(by repeat' (first | exact rfl | exact trivial | exact Or.inr (Or.inl ⟨_,rfl⟩) | exact Or.inr ⟨_,rfl⟩ | exact Or.inl ⟨rfl,rfl⟩ | exact Or.inl rfl | refine Or.inr ⟨_,_,rfl,Nat.zero_le _,rfl,?_⟩ | refine ⟨_,_,rfl,?_,?_⟩ | refine ⟨_,rfl,?_⟩ | exact hpc _ _ _ _ | exact ⟨nL rfl,rfl⟩ | exact congrArg (fun z=>DV.v (.int .i64 z)) hw | refine Or.inr (Or.inr (Or.inr ⟨_,_,rfl,?_⟩)) | exact Or.inl rfl | refine Or.inr ?_)),rfl,rfl⟩
def eaR (z:Ty):List (Wd × Ty)->Int->Ft × Int
 | [],m=>bM z m
 | x :: r,m=>if (bM x.2 m).1.1≠0 then bM x.2 m else eaR z r (bM x.2 m).2
theorem M3 {z:Ty} {l:List (Wd × Ty)} {e:Nat} {m:Int} {x:Wd × Ty} (h:l[e]? = some x):eaR z (l.drop e) m=if (bM x.2 m).1.1≠0 then bM x.2 m else eaR z (l.drop (e + 1)) (bM x.2 m).2:=by
 rw [drop_cons h,eaR]
theorem nJ {t:Ty} {m:Int} (h:(bM t m).1.1=0):(bM t m).2=m + t.cnt/\(bM t m).2<=512/\(wrong t 1 0).1.1=0/\(bM t m).1=(0,0):=by
 unfold bM at h ⊢;split
 ·rename_i h1;rw [if_pos h1] at h;exact (h1 h).elim
 ·rename_i h1;rw [if_neg h1] at h;split
  ·rename_i h2;rw [if_pos h2] at h;cases h
  ·rename_i h2;refine ⟨rfl,by simpa using h2,by simpa using h1,rfl⟩
abbrev FF (s:Sch) (aA:List Nat) (lc:List DV):List DV:=pC s aA (.pt lc 0) (.v (.slice none 0 0)) (.v (.int .i64 0)) (.v (.slice none 0 0))
abbrev Ar (s:Sch) (lc pc:List DV) (m:Int) (types:List (Wd × Ty)) (e:Nat):St:=
 ⟨[(0,⟨[],.loc 0 0⟩),(1,⟨[],.fn 46 [.loc 0 0] []⟩),(4,⟨[],.loc 2 0⟩),(12,⟨[],.sl 11 (dNms types) none⟩),(13,⟨[],.v (.int .i64 (dNms types).length)⟩),(14,⟨[],.v (.int .i64 e)⟩)],
  [bC s (.pt lc 0) (.loc 1 0) m,pc,[.v (.int .i64 0),.v (.int .i64 0)]],[]⟩
theorem FG (s:Sch) (lc:List DV) (aA:List Nat) (m:Int) (jX:0<=m) (fD:m<=512) (hl:s.types.length<=1099511627776) (b9:∀ t,(t=s.root∨∃ x∈s.types,t=x.2)->t.wt<=1099511627776) :
  Ev Tryz.prog 45 [.loc 0 0,.fn 46 [.loc 0 0] []] [bC s (.pt lc 0) (.loc 1 0) m,FF s aA lc] [] (M0 s (.pt lc 0) (FF s aA lc) (eaR s.root s.types m)):=by
 have hN:=dA s.types;have hR:∀ (m':Int),0<=m' -> m' <= 512->∀ t,(t=s.root∨∃ x∈s.types,t=x.2)->_:=fun m' h0 h1 t ht=>CY s lc (FF s aA lc) m' h0 (by omega) t (b9 t ht) (fun bx N n0 m0=>ax);obtain ⟨ae,order,types,⟨rh,rp⟩⟩:=s;simp only at hl hR hN b9;refine ev_go (P:=Tryz.prog) tt tt_ok 5000 34 [.cell 4 54] Tryz.func45 rfl Tryz.ntmps45 rfl (nL rfl) (fun E9 w9 hn9 hm9=>?_);generalize hG:eaR (.mk rh rp) types m=G;have hG0:G=eaR (.mk rh rp) (types.drop 0) m:=by rw [List.drop_zero,hG]
 refine aq (fun j st=>∃ (e:Nat) (m':Int),st=Ar ⟨ae,order,types,.mk rh rp⟩ lc (FF ⟨ae,order,types,.mk rh rp⟩ aA lc) m' types e/\e<=types.length/\0<=m' /\ m' <= 512/\G=eaR (.mk rh rp) (types.drop e) m' /\ j=types.length - e) types.length
  (Ar ⟨ae,order,types,.mk rh rp⟩ lc (FF ⟨ae,order,types,.mk rh rp⟩ aA lc) m types 0) (az 3 rfl (by repeat' (first | exact rfl | exact ah rfl | exact rfl | refine ⟨_,_,rfl,?_,?_⟩)) rfl rfl rfl (by repeat' (first | exact trivial | exact ah rfl | exact rfl | refine ⟨⟨_,rfl,?_⟩,?_⟩))) ⟨0,m,rfl,by omega,jX,fD,hG0,by omega⟩ ?_
 rintro j st ⟨e,m',rfl,he,tv,Cq,aH,rfl⟩;refine br (fun hL=>?_) (fun hL=>?_)
 ·have ap:e < types.length:=by have:=hL;simp [hN] at this;exact this
  obtain ⟨x,hx⟩:∃ x,types[e]? = some x:=⟨_,gE ap⟩;have hp:=hR m' tv Cq x.2 (.inr ⟨x,mG hx,rfl⟩);rw [M3 hx] at aH;obtain ⟨xw,⟨xh,xp⟩⟩:=x;refine ⟨_,⟨by omega,dNms_get hx⟩,?_⟩;refine iU 2 0 WR rfl rfl rfl aL aL hp (fun r gG bW hΦ h1 h2=>?_);obtain ⟨rfl,rfl⟩:=hΦ;have h2:=List.eq_nil_of_length_eq_zero h2;subst h2;refine br (fun hf=>?_) (fun hf=>?_)
  ·have hf:(bM (.mk xh xp) m').1.1≠0:=by simpa using hf
   rw [if_pos hf] at aH;subst aH;exact ⟨Ft.d _,[bC ⟨ae,order,types,.mk rh rp⟩ (.pt lc 0) (.loc 1 0) (bM (.mk xh xp) m').2,FF ⟨ae,order,types,.mk rh rp⟩ aA lc],ax,aL,rfl,rfl⟩
  ·have hf:(bM (.mk xh xp) m').1.1=0:=by simpa using hf
   rw [if_neg (by rw [hf];simp)] at aH;obtain ⟨g1,g2,_,_⟩:=nJ hf;exact ⟨Ar ⟨ae,order,types,.mk rh rp⟩ lc (FF ⟨ae,order,types,.mk rh rp⟩ aA lc) (bM (.mk xh xp) m').2 types (e + 1),(az 3 rfl (Em ap) rfl rfl rfl (wNB ap)),types.length - (e + 1),by omega,e + 1,_,rfl,by omega,by omega,g2,aH,rfl⟩
 ·have aO:e=types.length:=by have:=hL;simp [hN] at this;omega
  subst aO;rw [List.drop_length,eaR] at aH;refine iU 2 0 WR rfl rfl rfl aL aL (hR m' tv Cq (.mk rh rp) (.inl rfl)) (fun r gG bW hΦ h1 h2=>?_);obtain ⟨rfl,rfl⟩:=hΦ;have h2:=List.eq_nil_of_length_eq_zero h2;subst h2;subst aH;exact ⟨Ft.d _,[bC ⟨ae,order,types,.mk rh rp⟩ (.pt lc 0) (.loc 1 0) (bM (.mk rh rp) m').2,FF ⟨ae,order,types,.mk rh rp⟩ aA lc],ax,aL,rfl,rfl⟩
def dQ (s:Sch):Ft:=if 64 < s.types.length then (8,Ud (tA s) 64) else enumL (tA s) 0 (tA s)
def P7 (s:Sch) (lc:List DV) (r:DV) (os:List (List DV)) (_:List TkE):Prop:=
 r=(dQ s).d/\((dQ s).1=0->∃ aA,gL (tL s) aA/\aA.length<=s.types.length/\os=[bC s (.pt lc 0) (.loc 1 0) 0,FF s aA lc])
abbrev FH (s:Sch) (lc:List DV) (n e:Nat):St:=
 ⟨[(0,⟨[],.loc 0 0⟩),(2,⟨[],.loc 2 0⟩),(3,⟨[],.sl 1 (dF (av ((tA s).take e))) (some 0)⟩),(27,⟨[],.sl 11 (dNms s.types) none⟩),(28,⟨[],.v (.int .i64 (dNms s.types).length)⟩),(29,⟨[],.v (.int .i64 e)⟩)],
  [bC s (.pt lc 0) (.loc 1 0) 0,[.pt lc 0,.v (.slice none 0 0),.v (.int .i64 0),.v (.pointer none),.v (.slice none 0 0)],[.v (.int .i64 0),.v (.int .i64 0)]],[⟨n,9,1,none⟩]⟩
theorem As (s:Sch) (lc:List DV) (hs:nmsWt s.types<=1099511627776) :
  Ev Tryz.prog 44 [.loc 0 0] [bC s (.pt lc 0) (.loc 1 0) 0,[.pt lc 0,.v (.slice none 0 0),.v (.int .i64 0),.v (.pointer none),.v (.slice none 0 0)]] [] (P7 s lc):=by
 have hN:=dA s.types;have gI:=jc s.types;have eJ:=H5 s;have hF:=dQ.eq_1 s;have iR:∀ {e:Nat} {x:Wd × Ty},s.types[e]? = some x->(tA s)[e]? = some x.1:=fun h=>by simp [tA,h]
 have dV:=uO (tL s) (by rw [jE];omega);have YR:tL s=av (tA s):=rfl
 have hw:∀ x∈s.types,x.1.s.size<=1099511627776:=fun x hx=>by
  have:=fX hx;simp only [Wd.wt] at this;omega
 obtain ⟨ae,order,types,⟨rh,rp⟩⟩:=s;simp only at hs hN gI eJ iR hw hF;generalize hQ:tA ⟨ae,order,types,.mk rh rp⟩=Q at eJ hF iR YR;refine ev_go (P:=Tryz.prog) tt tt_ok 5000 67 [.cell 2 54] Tryz.func44 rfl Tryz.ntmps44 rfl (nL rfl) (fun E9 w9 hn9 hm9=>?_);refine br (fun h=>?_) (fun h=>?_)
 ·have h:64 < types.length:=by simp [hN] at h;omega
  obtain ⟨x,hx⟩:∃ x,types[64]? = some x:=⟨_,gE h⟩;have Ug:=iR hx;rw [if_pos h,j8 Ug] at hF;obtain ⟨xw,⟨xh,xp⟩⟩:=x;refine ⟨_,⟨by omega,dNms_get hx⟩,?_⟩;refine ⟨Ft.d (8,xw.a),[bC ⟨ae,order,types,.mk rh rp⟩ (.pt lc 0) (.loc 1 0) 0,[.pt lc 0,.v (.slice none 0 0),.v (.int .i64 0),.v (.pointer none),.v (.slice none 0 0)]],ax,aL,by rw [hF],fun h0=>by rw [hF] at h0;simp at h0⟩
 have h:¬ 64 < types.length:=by simp [hN] at h;omega
 rw [if_neg h] at hF;refine aq (fun j st=>∃ e:Nat,st=FH ⟨ae,order,types,.mk rh rp⟩ lc e e/\e<=types.length/\(av (Q.take e)).Nodup/\enumL Q 0 Q=enumL Q e (Q.drop e)/\j=types.length - e) types.length (FH ⟨ae,order,types,.mk rh rp⟩ lc 0 0) (dj 3 ⟨0,9,1,none⟩ rfl rfl rfl (by repeat' (first | exact rfl | exact ah rfl | exact aX (Nat.le_refl _) rfl | exact aX (Nat.le_refl _) rfl | refine ⟨_,_,rfl,?_,?_⟩)) rfl rfl zS) ⟨0,rfl,by omega,by simp [av],rfl,by omega⟩ ?_;rintro j st ⟨e,rfl,he,hnd,aH,rfl⟩;rw [aH] at hF;refine br (fun hL=>?_) (fun hL=>?_)
 ·have ap:e < types.length:=by have:=hL;simp [hN] at this;exact this
  obtain ⟨x,hx⟩:∃ x,types[e]? = some x:=⟨_,gE ap⟩;have RW:=hw x (mG hx);have hq:=iR hx;have eE:=jb hq;have aT:=oL hq;have su:=lQ hq hnd;have MH:=oF (av (Q.take (e + 1))) (by simp [av];omega);rw [<- eE] at MH;obtain ⟨xw,⟨xh,xp⟩⟩:=x;simp only at RW hq eE aT su MH;refine ⟨_,⟨by omega,dNms_get hx⟩,?_⟩;rw [hQ];refine ⟨by simp [bR,av];omega,⟨by simp [bR,av,maxLen];omega,by simp [bR,av];omega⟩,?_⟩;refine call_p B9 (jx xw.s (by omega)) ax rfl ?_;refine br (fun FI=>?_) (fun FI=>?_)
  ·have FI:aY xw.s=false:=by simpa using FI
   have hf:aD Q e xw=9:=by simp [aD,FI]
   rw [aT,hf,if_pos (by decide)] at hF;refine ⟨Ft.d (9,xw.a),[bC ⟨ae,order,types,.mk rh rp⟩ (.pt lc 0) (.loc 1 0) 0,[.pt lc 0,.v (.slice none 0 0),.v (.int .i64 0),.v (.pointer none),.v (.slice none 0 0)]],ax,aL,by rw [hF],fun h0=>by rw [hF] at h0;simp at h0⟩
  ·have FI:aY xw.s=true:=by simpa using FI
   refine bq LB rfl MH ax (fun r hr=>?_);obtain ⟨z,rfl,hz⟩:=hr;refine br (fun h2=>?_) (fun h2=>?_)
   ·have h2:0<=z:=by simpa using h2
    have hd:bz (Q.take e) xw.s=true:=by
     cases hd:bz (Q.take e) xw.s
     ·exact absurd (su.2 hd) (hz.1 h2)
     ·rfl
    have hf:aD Q e xw=10:=by simp [aD,FI,hd]
    rw [aT,hf,if_pos (by decide)] at hF;refine ⟨Ft.d (10,xw.a),[bC ⟨ae,order,types,.mk rh rp⟩ (.pt lc 0) (.loc 1 0) 0,[.pt lc 0,.v (.slice none 0 0),.v (.int .i64 0),.v (.pointer none),.v (.slice none 0 0)]],ax,aL,by rw [hF],fun h0=>by rw [hF] at h0;simp at h0⟩
   ·have h2:¬ 0<=z:=by simpa using h2
    have uD:(av (Q.take (e + 1))).Nodup:=Classical.byContradiction fun hn=>h2 (hz.2 hn);have hf:aD Q e xw=0:=by simp [aD,FI,su.1 uD]
    rw [hf,if_neg (by simp)] at aT;have YS:dF (av (Q.take e)) ++ [[DV.v (.string xw.s)]]=dF (av ((tA ⟨ae,order,types,.mk rh rp⟩).take (e + 1))):=by rw [hQ];exact eE
    refine ⟨FH ⟨ae,order,types,.mk rh rp⟩ lc (e + 1) (e + 1),(az 3 rfl (yc ap YS) rfl rfl rfl (tg ap YS)),types.length - (e + 1),by omega,e + 1,rfl,by omega,uD,aH.trans aT,rfl⟩
 ·have aO:e=types.length:=by have:=hL;simp [hN] at this;omega
  have h0:enumL Q e (Q.drop e)=(0,0):=by rw [aO,<- eJ,List.drop_length];all_goals rfl
  rw [h0] at hF;have ht:Q.take e=Q:=by rw [aO,<- eJ,List.take_length]
  have hEq:av ((tA ⟨ae,order,types,.mk rh rp⟩).take e)=tL ⟨ae,order,types,.mk rh rp⟩:=by rw [hQ,ht,YR]
  rw [<- hEq] at dV;refine aP mo (by decide +kernel) ?_;refine pF TD rfl dV ax (fun KK hr=>?_);obtain ⟨aA,hT,ja,rfl⟩:=hr;rw [hEq] at hT ja;have hpt:DV.pt (cy (av ((tA ⟨ae,order,types,.mk rh rp⟩).take e)) aA) 0=DV.pt (cy (tL ⟨ae,order,types,.mk rh rp⟩) aA) 0:=congrArg (fun L=>DV.pt (cy L aA) 0) hEq;rw [jE] at ja;exact ⟨Ft.d (0,0),[bC ⟨ae,order,types,.mk rh rp⟩ (.pt lc 0) (.loc 1 0) 0,FF ⟨ae,order,types,.mk rh rp⟩ aA lc],ax,(by repeat' (first | exact rfl | exact trivial | exact Or.inr (Or.inl ⟨_,rfl⟩) | exact Or.inr ⟨_,rfl⟩ | exact Or.inl ⟨rfl,rfl⟩ | exact Or.inl rfl | refine Or.inr ⟨_,_,rfl,Nat.zero_le _,rfl,?_⟩ | refine ⟨_,_,rfl,?_,?_⟩ | refine ⟨_,rfl,?_⟩ | exact ⟨nL rfl,rfl⟩ | exact Or.inl hpt | refine Or.inr (Or.inr (Or.inr ⟨_,_,rfl,?_⟩)) | exact Or.inl rfl | refine Or.inr ?_)),by rw [hF],fun _=>⟨aA,hT,ja,rfl⟩⟩
def firstA (s:Sch) (k:Nat):Nat:=((s.types.take k).map fun x=>x.2.nn).sum
theorem mS {s:Sch} {k:Nat} {x:Wd × Ty} (h:s.types[k]? = some x):firstA s (k + 1)=firstA s k + x.2.nn:=by
 unfold firstA;rw [List.take_add_one,h];simp
theorem yO (s:Sch):∀ k,firstA s k<=nmsWt s.types:=by
 intro k;unfold firstA;generalize s.types=l
 induction l generalizing k with
 | nil=>simp
 | cons x r ih=>
  cases k with
  | zero=>simp
  | succ k=>
   have h1:=ih k;have h2:=x.2.fL;have h3:=x.2.ej;simp only [List.take_succ_cons,List.map_cons,List.sum_cons,nmsWt];omega
def namedN (s:Sch) (i:Nat):Nat:=firstA s ((endI s (s.types.length + 1) i).getD 0)
def namedL (s:Sch):List Nat:=(List.range s.types.length).map (namedN s)
theorem YT (n:Nat):(List.replicate n (vL [Value.int .i64 0])).flatten=cZ (List.replicate n 0):=by
 induction n with
 | zero=>rfl
 | succ n ih=>simp only [List.replicate_succ,List.flatten_cons,ih];rfl
theorem tQ {n m:Nat} {tk:List TkE} {l:List DV} {js:List Int} (h:l=cZ js):WeL n m tk l (cZ js):=by rw [h];exact gB js
abbrev Ui (s:Sch) (lc pc:List DV) (m:Int) (l:List Int) (aC e:Nat):St:=
 ⟨[(0,⟨[],.loc 0 0⟩),(2,⟨[],.ms 2 1 0 (dNms s.types).length (dNms s.types).length⟩),(3,⟨[],.v (.int .i64 aC)⟩),(18,⟨[],.sl 11 (dNms s.types) none⟩),(19,⟨[],.v (.int .i64 (dNms s.types).length)⟩),(20,⟨[],.v (.int .i64 e)⟩)],
  [bC s (.pt lc 0) (.loc 1 0) m,pc,cZ l],[]⟩
abbrev M4 (s:Sch) (aA:List Nat) (lc:List DV) (m:Int) (l:List Int) (n e:Nat):St:=
 ⟨[(0,⟨[],.loc 0 0⟩),(2,⟨[],.ms 2 1 0 (dNms s.types).length (dNms s.types).length⟩),(40,⟨[],.v (.int .i64 (dNms s.types).length)⟩),(41,⟨[],.v (.int .i64 e)⟩)],
  [bC s (.pt lc 0) (.loc 1 0) m,pC s aA (.pt lc 0) (.v (.slice none 0 0)) (.v (.int .i64 0)) (.sl 1 (dInts ((namedL s).take e)) (some 0)),cZ l],[⟨n,3,1,none⟩]⟩
def P8 (s:Sch) (aA:List Nat) (lc:List DV) (m:Int) (_:DV) (os:List (List DV)) (_:List TkE):Prop:=
 os=[bC s (.pt lc 0) (.loc 1 0) m,pC s aA (.pt lc 0) (.v (.slice none 0 0)) (.v (.int .i64 0)) (.sl 1 (dInts (namedL s)) none)]
theorem Uj {l:List Int} {i:Nat} {z:Int} (h:l[i]? = some z):(cZ l)[i]? = some (DV.v (.int .i64 z)):=by simp [cZ,h]
theorem CZ (s:Sch) (lc:List DV) (aA:List Nat) (m:Int) (hT:gL (tL s) aA) (ja:aA.length<=1099511627776) (hl:s.types.length<=64) (hr:∀ x∈s.types,tB s x.2=true) (hs:nmsWt s.types<=1099511627776)
  (hlo:∀ i,i < s.types.length->∃ k,endI s (s.types.length + 1) i=some k) :
  Ev Tryz.prog 49 [.loc 0 0] [bC s (.pt lc 0) (.loc 1 0) m,FF s aA lc] [] (P8 s aA lc m):=by
 have hN:=dA s.types
 have TO:∀ x∈s.types,x.2.wt<=1099511627776:=fun x hx=>by
  have:=fX hx;omega
 have YU:=yO s;have Vn:=fun {k:Nat} {x:Wd × Ty}=>@mS s k x;have gI:(namedL s).length=s.types.length:=by simp [namedL]
 have iK:=fun (e0:DV)=>CW s (.pt lc 0) aA (.pt lc 0) (.v (.slice none 0 0)) (.v (.int .i64 0)) e0 m hT ja hl hr;obtain ⟨ae,order,types,⟨rh,rp⟩⟩:=s;simp only at hl hr hN hs TO YU Vn gI iK hlo;have hN2:(dNms (⟨ae,order,types,.mk rh rp⟩:Sch).types).length=types.length:=hN;refine ev_go (P:=Tryz.prog) tt tt_ok 5000 66 [] Tryz.func49 rfl Tryz.ntmps49 rfl (nL rfl) (fun E9 w9 hn9 hm9=>?_);refine ⟨⟨rfl,by omega,by omega,by omega⟩,?_⟩
 refine aq (fun j st=>∃ (e:Nat) (l:List Int),st=Ui ⟨ae,order,types,.mk rh rp⟩ lc (FF ⟨ae,order,types,.mk rh rp⟩ aA lc) m l (firstA ⟨ae,order,types,.mk rh rp⟩ e) e/\e<=types.length/\l.length=types.length/\(∀ i:Nat,i < e->l[i]? = some (firstA ⟨ae,order,types,.mk rh rp⟩ i:Int))/\j=types.length - e) types.length
  (Ui ⟨ae,order,types,.mk rh rp⟩ lc (FF ⟨ae,order,types,.mk rh rp⟩ aA lc) m (List.replicate ((dNms types).length:Int).toNat 0) (firstA ⟨ae,order,types,.mk rh rp⟩ 0) 0) (az 3 rfl (by repeat' (first | exact rfl | exact ah rfl | exact tQ (YT _) | refine ⟨_,_,rfl,?_,?_⟩)) rfl rfl rfl (by repeat' (first | exact trivial | exact ah rfl | exact tQ (YT _) | refine ⟨⟨_,rfl,?_⟩,?_⟩))) ⟨0,_,rfl,by omega,by simp [hN],fun _ h=>by omega,by omega⟩ ?_
 rintro j st ⟨e,l,rfl,he,xi,VD,rfl⟩;refine br (fun hL=>?_) (fun hL=>?_)
 ·have ap:e < types.length:=by have:=hL;simp [hN] at this;exact this
  obtain ⟨x,hx⟩:∃ x,types[e]? = some x:=⟨_,gE ap⟩;have R6:=TO x (mG hx);have Pp:=Vn hx;have KM:=YU (e + 1);obtain ⟨xw,⟨xh,xp⟩⟩:=x;have hnd:=vu (Ty.mk xh xp).wt (.mk xh xp) (Nat.le_refl _) R6;refine ⟨_,⟨by omega,dNms_get hx⟩,?_⟩;refine ⟨⟨by omega,by omega⟩,?_⟩;refine ⟨by rw [Ub];omega,?_⟩;refine call_p Rg (hnd) ax rfl ?_;simp only at Pp KM
  have iu:(cZ l).set (0 + (e:Int).toNat * 1) (DV.v (.int .i64 ((firstA ⟨ae,order,types,.mk rh rp⟩ e:Nat):Int)))=cZ (l.set e ((firstA ⟨ae,order,types,.mk rh rp⟩ e:Nat):Int)):=by
   rw [show 0 + (e:Int).toNat * 1=e by omega,ML]
  have sA:IntKind.i64.wrap (((firstA ⟨ae,order,types,.mk rh rp⟩ e:Nat):Int) + (Ty.mk xh xp).nn)=((firstA ⟨ae,order,types,.mk rh rp⟩ (e + 1):Nat):Int):=by
   rw [Pp,wrap64 (by omega) (by omega)];omega
  refine ⟨Ui ⟨ae,order,types,.mk rh rp⟩ lc (FF ⟨ae,order,types,.mk rh rp⟩ aA lc) m (l.set e ((firstA ⟨ae,order,types,.mk rh rp⟩ e:Nat):Int)) (firstA ⟨ae,order,types,.mk rh rp⟩ (e + 1)) (e + 1),(az 3 rfl (by repeat' (first | exact rfl | exact ah rfl | exact tQ iu | exact ak sA | exact ak (cx ap (by omega)) | refine ⟨_,_,rfl,?_,?_⟩)) rfl rfl rfl (by repeat' (first | exact trivial | exact ah rfl | exact tQ iu | exact ak sA | exact ak (cx ap (by omega)) | refine ⟨⟨_,rfl,?_⟩,?_⟩))),types.length - (e + 1),by omega,e + 1,_,rfl,by omega,by rw [List.length_set];exact xi,fun i hi=>?_,rfl⟩;by_cases HB:i=e
  ·subst HB;rw [List.getElem?_set_self (by omega)]
  ·rw [List.getElem?_set_ne (Ne.symm HB)];exact VD i (by omega)
 ·have aO:e=types.length:=by have:=hL;simp [hN] at this;omega
  subst aO;refine aq (fun j st=>∃ e:Nat,st=M4 ⟨ae,order,types,.mk rh rp⟩ aA lc m l e e/\e<=types.length/\j=types.length - e) types.length (M4 ⟨ae,order,types,.mk rh rp⟩ aA lc m l 0 0) (dj 3 ⟨0,3,1,none⟩ rfl rfl rfl (by repeat' (first | exact rfl | exact ah rfl | exact gB _ | exact aX (Nat.le_refl _) rfl | exact aX (Nat.le_refl _) rfl | refine ⟨_,_,rfl,?_,?_⟩)) rfl rfl (by repeat' (first | exact trivial | exact ah rfl | exact gB _ | exact aX (Nat.le_refl _) rfl | refine ⟨⟨_,rfl,?_⟩,?_⟩))) ⟨0,rfl,by omega,by omega⟩ ?_;rintro j st ⟨e,rfl,he,rfl⟩;refine br (fun hL=>?_) (fun hL=>?_)
  ·have ap:e < types.length:=by have:=hL;simp [hN] at this;exact this
   obtain ⟨k,hk⟩:=hlo e ap;have iL:=(qb hk).1;simp only at iL;have hE:=iK (.sl 1 (dInts ((namedL ⟨ae,order,types,.mk rh rp⟩).take e)) none) e ap;rw [hk] at hE;have hnn:namedN ⟨ae,order,types,.mk rh rp⟩ e=firstA ⟨ae,order,types,.mk rh rp⟩ k:=by unfold namedN;rw [hk];all_goals rfl
   have iR:(namedL ⟨ae,order,types,.mk rh rp⟩)[e]? = some (firstA ⟨ae,order,types,.mk rh rp⟩ k):=by
    unfold namedL;rw [List.getElem?_map,List.getElem?_range ap,Option.map_some,hnn]
   have eE:dInts ((namedL ⟨ae,order,types,.mk rh rp⟩).take e) ++ [[DV.v (.int .i64 ((firstA ⟨ae,order,types,.mk rh rp⟩ k:Nat):Int))]]=dInts ((namedL ⟨ae,order,types,.mk rh rp⟩).take (e + 1)):=by
    rw [List.take_add_one,iR];simp [dInts]
   refine aP mo (by decide +kernel) ?_;refine pX en107 hE ax rfl rfl ?_;refine ⟨⟨by simp only [oz];omega,by simp only [oz];omega⟩,?_⟩
   have Qa:(cZ l)[0 + (oz (some k)).toNat * 1]? = some (DV.v (.int .i64 ((firstA ⟨ae,order,types,.mk rh rp⟩ k:Nat):Int))):=by
    rw [show 0 + (oz (some k)).toNat * 1=k by simp only [oz];omega];exact Uj (VD k iL)
   refine ⟨_,Qa,?_⟩;refine ⟨by simp [bh];omega,⟨by simp [bh,maxLen];omega,by simp [bh];omega⟩,?_⟩;exact ⟨M4 ⟨ae,order,types,.mk rh rp⟩ aA lc m l (e + 1) (e + 1),(az 3 rfl (by repeat' (first | exact rfl | exact ah rfl | exact gB _ | exact ak (cx ap (by omega)) | exact cP eE rfl | refine ⟨_,_,rfl,?_,?_⟩)) rfl rfl rfl (by repeat' (first | exact trivial | exact ah rfl | exact gB _ | exact ak (cx ap (by omega)) | exact cP eE rfl | refine ⟨⟨_,rfl,?_⟩,?_⟩))),types.length - (e + 1),by omega,e + 1,rfl,by omega,rfl⟩
  ·have aO:e=types.length:=by have:=hL;simp [hN] at this;omega
   subst aO;have ht:(namedL ⟨ae,order,types,.mk rh rp⟩).take types.length=namedL ⟨ae,order,types,.mk rh rp⟩:=by rw [<- gI,List.take_length]
   rw [ht];exact ⟨.tup [],[bC ⟨ae,order,types,.mk rh rp⟩ (.pt lc 0) (.loc 1 0) m,pC ⟨ae,order,types,.mk rh rp⟩ aA (.pt lc 0) (.v (.slice none 0 0)) (.v (.int .i64 0)) (.sl 1 (dInts (namedL ⟨ae,order,types,.mk rh rp⟩)) none)],ax,aL,rfl⟩
structure Ed where
 name:ByteArray
 bare:Bool
 aC:Int
 to:Int
 label:Int
 wide:Int
 ck:Int
 cn:Int
 seen:Int
 ca:Int
structure Nd where
 ag:Int
 aC:Int
 lo:Int
 hi:Int
 most:Int
 af:List ByteArray
 au:List Ed
def vx (e:Ed):List DV:=[.v (.string e.name),.v (.bool e.bare),.v (.int .i64 e.aC),.v (.int .i64 e.to),.v (.int .i64 e.label),.v (.int .i64 e.wide),.v (.int .i64 e.ck),.v (.int .i64 e.cn),.v (.int .i64 e.seen),.v (.int .i64 e.ca)]
def fv (l:List Ed):List (List DV):=l.map vx
def jR (n:Nd):List DV:=[.v (.int .i64 n.ag),.v (.int .i64 n.aC),.v (.int .i64 n.lo),.v (.int .i64 n.hi),.v (.int .i64 n.most),.sl 1 (dF n.af) none,.sl 10 (fv n.au) none]
def cR (l:List Nd):List (List DV):=l.map jR
def kT (w:Int):Int:=if w=0 then 3 else w
def vy (lev:List Wd->Int) (p:Ph) (to:Int):Ed:=⟨p.name.s,p.bare,p.name.a,to,lev p.label,kT p.wide,p.ck,p.cn,lev p.cl,p.ca⟩
def Uk (s:Sch) (name:ByteArray):Int:=(namedN s ((cD (tL s) name).getD 0):Int)
def mT (s:Sch) (t:Ty) (k:Nat):Int:=if t.h.ag=9 then Uk s t.h.name.s else (k:Int)
def tR (s:Sch) (p:Ph) (u:Ty) (k:Nat):Int:=if p.bare then -1 else mT s u k
mutual
def ndsT (lev:List Wd->Int) (s:Sch):Ty->Nat->List Nd
 | .mk h ps,k=>if h.ag=9 then [] else ⟨h.ag,h.aC,h.lo,h.hi,h.most,av h.af,edsP lev s ps (k + 1)⟩ :: vz lev s ps (k + 1)
def edsP (lev:List Wd->Int) (s:Sch):Pts->Nat->List Ed
 | .nil,_=>[]
 | .cons p u r,k=>vy lev p (tR s p u k) :: edsP lev s r (k + if p.bare then 0 else u.nn)
def vz (lev:List Wd->Int) (s:Sch):Pts->Nat->List Nd
 | .nil,_=>[]
 | .cons p u r,k=>(if p.bare then [] else ndsT lev s u k) ++ vz lev s r (k + if p.bare then 0 else u.nn)
end
mutual
theorem jF (lev:List Wd->Int) (s:Sch):∀ (t:Ty) (k:Nat),(ndsT lev s t k).length=t.nn
 | .mk h ps,k=>by
  simp only [ndsT,Ty.nn];split
  ·rfl
  ·rw [List.length_cons,vA lev s ps];omega
theorem vA (lev:List Wd->Int) (s:Sch):∀ (ps:Pts) (k:Nat),(vz lev s ps k).length=ps.nn
 | .nil,k=>rfl
 | .cons p u r,k=>by
  simp only [vz,Pts.nn,List.length_append,vA lev s r];split
  ·rfl
  ·rw [jF lev s u]
end
abbrev KT (s:Sch) (aA:List Nat) (lc:List DV) (n:Nat):List DV:=pC s aA (.pt lc 0) (.sl 0 (List.replicate n []) (some 0)) (.v (.int .i64 0)) (.sl 1 (dInts (namedL s)) none)
abbrev FJ (n:Nat) (base:List DV):TkE:=⟨n,125,7,some base⟩
def R7 (s:Sch) (aA:List Nat) (lc:List DV) (m:Int) (n:Nat) (base:List DV) (y:DV) (Bv:List Nd) (r:DV) (os:List (List DV)) (tk:List TkE):Prop:=
 r=y/\os=[bC s (.pt lc 0) (.loc 1 0) m,KT s aA lc (n + Bv.length)]/\tk=[FJ (n + Bv.length) (base ++ (cR Bv).flatten)]
def M5 (lev:List Wd->Int) (s:Sch) (aA:List Nat) (lc:List DV) (m:Int) (t:Ty):Prop:=
 ∀ (n:Nat) (base:List DV),n + t.nn<=1099511627776->base.length=n * 7 ->
  Ev Tryz.prog 50 [.loc 0 0,.agg (dK t)] [bC s (.pt lc 0) (.loc 1 0) m,KT s aA lc n] [FJ n base] (R7 s aA lc m n base (.v (.int .i64 (mT s t n))) (ndsT lev s t n))
theorem JJ {X:Lx} (hX:X.OK) (s:Sch) (aA:List Nat) (m:Int) (p:Ph) (u:Ty) (hp:p.wt<=1099511627776) (fw:p.bare=false->M5 X.lev s aA (gJ X.af (cy X.af X.aA) X.rows X.js) m u)
  (n:Nat) (base:List DV) (hb:p.bare=false->n + u.nn<=1099511627776) (hbl:base.length=n * 7) :
  Ev Tryz.prog 109 [.loc 0 0,.agg (ET p (dK u))] [bC s (.pt (gJ X.af (cy X.af X.aA) X.rows X.js) 0) (.loc 1 0) m,KT s aA (gJ X.af (cy X.af X.aA) X.rows X.js) n] [FJ n base]
   (R7 s aA (gJ X.af (cy X.af X.aA) X.rows X.js) m n base (.agg (vx (vy X.lev p (tR s p u n)))) (if p.bare then [] else ndsT X.lev s u n)):=by
 have hw1:wdsWt p.label + wdsWt p.cl<=p.wt:=by simp only [Ph.wt];omega
 have Hc:X.pd = .pt (gJ X.af (cy X.af X.aA) X.rows X.js) 0:=rfl;have Bp:=fun pc=>vv hX s pc m p.label (by omega);have Pa:=fun pc=>vv hX s pc m p.cl (by omega);rw [Hc] at Bp Pa;have hE:=fun to=>vy.eq_1 X.lev p to;have nK:=tR.eq_1 s p u n;generalize gJ X.af (cy X.af X.aA) X.rows X.js=lc at Bp Pa fw ⊢;obtain ⟨ae,order,types,⟨rh,rp⟩⟩:=s;obtain ⟨uh,us⟩:=u;refine ev_go (P:=Tryz.prog) tt tt_ok 5000 52 [.cell 4 176] Tryz.func109 rfl Tryz.ntmps109 rfl (nL rfl) (fun E9 w9 hn9 hm9=>?_);have R8:=Bp [.pt lc 0,.sl 0 (List.replicate n []) none,.v (.int .i64 0),.pt (cy (tL ⟨ae,order,types,.mk rh rp⟩) aA) 0,.sl 1 (dInts (namedL ⟨ae,order,types,.mk rh rp⟩)) none];have R9:=Pa [.pt lc 0,.sl 0 (List.replicate n []) none,.v (.int .i64 0),.pt (cy (tL ⟨ae,order,types,.mk rh rp⟩) aA) 0,.sl 1 (dInts (namedL ⟨ae,order,types,.mk rh rp⟩)) none];apply nz (fun _=>false) 11 15 [0,1,2,3,4,5,6,7,8,9,10,11,12,13,14,15,16] [0,1,2,3,4,5,6,7,8,9,10,15,11,12,13,14,16] 4 4 mo (by decide +kernel)
 ·refine pX Hu R8 ax rfl rfl ?_;refine (?_:@Eq St _ _);exact rfl
 ·refine pX Hu R8 ax rfl rfl ?_;refine (⟨rfl,rfl,?_⟩:_/\_/\_)
  repeat' (first | exact trivial | refine ⟨rfl,?_⟩)
 ·rfl
 refine br (fun hw=>?_) (fun hw=>?_)
 ·have hw:p.wide=0:=by simpa using hw
  refine tI [4] (fun _=>false) mo (by decide +kernel) ?_;refine pX Hu R9 ax rfl rfl ?_;refine br (fun hB=>?_) (fun hB=>?_)
  ·have hB:p.bare=false:=by simpa using hB
   refine iU 2 1 PJ rfl rfl rfl aL aL (fw hB n base (hb hB) hbl) (fun r gG bW hΦ h1 h2=>?_);obtain ⟨rfl,rfl,rfl⟩:=hΦ;refine ⟨.agg (vx ⟨p.name.s,p.bare,p.name.a,mT ⟨ae,order,types,.mk rh rp⟩ (.mk uh us) n,X.lev p.label,3,p.ck,p.cn,X.lev p.cl,p.ca⟩),[bC ⟨ae,order,types,.mk rh rp⟩ (.pt lc 0) (.loc 1 0) m,KT ⟨ae,order,types,.mk rh rp⟩ aA lc (n + (ndsT X.lev ⟨ae,order,types,.mk rh rp⟩ (.mk uh us) n).length)],ax,aL,?_,?_,?_⟩
   ·simp [hE,tR,hB,kT,hw]
   ·simp [hB]
   ·simp [hB]
  ·have hB:p.bare=true:=by simpa using hB
   refine ⟨.agg (vx ⟨p.name.s,p.bare,p.name.a,-1,X.lev p.label,3,p.ck,p.cn,X.lev p.cl,p.ca⟩),[bC ⟨ae,order,types,.mk rh rp⟩ (.pt lc 0) (.loc 1 0) m,KT ⟨ae,order,types,.mk rh rp⟩ aA lc n],ax,aL,?_,?_,?_⟩
   ·simp [hE,tR,hB,kT,hw]
   ·simp [hB]
   ·simp [hB,cR]
 ·have hw:¬ p.wide=0:=by simpa using hw
  refine tI [4] (fun _=>false) mo (by decide +kernel) ?_;refine pX Hu R9 ax rfl rfl ?_;refine br (fun hB=>?_) (fun hB=>?_)
  ·have hB:p.bare=false:=by simpa using hB
   refine iU 2 1 PJ rfl rfl rfl aL aL (fw hB n base (hb hB) hbl) (fun r gG bW hΦ h1 h2=>?_);obtain ⟨rfl,rfl,rfl⟩:=hΦ;refine ⟨.agg (vx ⟨p.name.s,p.bare,p.name.a,mT ⟨ae,order,types,.mk rh rp⟩ (.mk uh us) n,X.lev p.label,p.wide,p.ck,p.cn,X.lev p.cl,p.ca⟩),[bC ⟨ae,order,types,.mk rh rp⟩ (.pt lc 0) (.loc 1 0) m,KT ⟨ae,order,types,.mk rh rp⟩ aA lc (n + (ndsT X.lev ⟨ae,order,types,.mk rh rp⟩ (.mk uh us) n).length)],ax,aL,?_,?_,?_⟩
   ·simp [hE,tR,hB,kT,hw]
   ·simp [hB]
   ·simp [hB]
  ·have hB:p.bare=true:=by simpa using hB
   refine ⟨.agg (vx ⟨p.name.s,p.bare,p.name.a,-1,X.lev p.label,p.wide,p.ck,p.cn,X.lev p.cl,p.ca⟩),[bC ⟨ae,order,types,.mk rh rp⟩ (.pt lc 0) (.loc 1 0) m,KT ⟨ae,order,types,.mk rh rp⟩ aA lc n],ax,aL,?_,?_,?_⟩
   ·simp [hE,tR,hB,kT,hw]
   ·simp [hB]
   ·simp [hB,cR]
def nd0 (h:Hd):List DV:=[.v (.int .i64 h.ag),.v (.int .i64 h.aC),.v (.int .i64 h.lo),.v (.int .i64 h.hi),.v (.int .i64 h.most),.sl 1 (dF (av h.af)) none,.v (.slice none 0 0)]
theorem Qb {h:Hd} {base R:List DV} {n:Nat} {x:DV} (hb:base.length=n * 7):(base ++ (nd0 h ++ R)).set (n * 7 + 6) x=base ++ ([.v (.int .i64 h.ag),.v (.int .i64 h.aC),.v (.int .i64 h.lo),.v (.int .i64 h.hi),.v (.int .i64 h.most),.sl 1 (dF (av h.af)) none,x] ++ R):=by
 rw [List.set_append_right _ _ (by omega),hb,Nat.add_sub_cancel_left];rfl
theorem yP (l:List Ed) (e:Ed):fv l ++ [vx e]=fv (l ++ [e]):=by simp [fv]
theorem cE (l:List Ed):(fv l).length=l.length:=by simp [fv]
theorem qc (lev:List Wd->Int) (s:Sch):∀ (ps:Pts) (k:Nat),(edsP lev s ps k).length=ps.len
 | .nil,_=>rfl
 | .cons p u r,k=>by simp [edsP,Pts.len,qc lev s r]
abbrev M6 (s:Sch) (aA:List Nat) (lc:List DV) (m:Int) (n:Nat) (base:List DV) (h:Hd) (ps:Pts) (q e:Nat):St:=
 ⟨[(0,⟨[],.loc 0 0⟩),(3,⟨[],.loc 2 0⟩),(7,⟨[],.v (.int .i64 n)⟩),(8,⟨[],.loc 3 0⟩),(61,⟨[],.sl 2 (bu h.af) none⟩),(62,⟨[],.v (.int .i64 (bu h.af).length)⟩),(63,⟨[],.v (.int .i64 e)⟩)],
  [bC s (.pt lc 0) (.loc 1 0) m,KT s aA lc n,dK (.mk h ps),[.v (.int .i64 h.ag),.v (.int .i64 h.aC),.v (.int .i64 h.lo),.v (.int .i64 h.hi),.v (.int .i64 h.most),.sl 1 (dF (av (h.af.take e))) (some 1),.v (.slice none 0 0)]],
  [FJ n base,⟨q,9,1,none⟩]⟩
abbrev M7 (s:Sch) (aA:List Nat) (lc:List DV) (m:Int) (n:Nat) (h:Hd) (ps:Pts) (n':Nat) (qd:List DV) (Es:List Ed) (q1 q2 e:Nat):St:=
 ⟨[(0,⟨[],.loc 0 0⟩),(3,⟨[],.loc 2 0⟩),(7,⟨[],.v (.int .i64 n)⟩),(11,⟨[],.sl 10 (fv Es) (some 2)⟩),(92,⟨[],.sl 18 (fc ps) none⟩),(93,⟨[],.v (.int .i64 (fc ps).length)⟩),(94,⟨[],.v (.int .i64 e)⟩)],
  [bC s (.pt lc 0) (.loc 1 0) m,KT s aA lc n',dK (.mk h ps)],
  [FJ n' qd,⟨q1,9,1,none⟩,⟨q2,176,10,none⟩]⟩
theorem lU {X:Lx} {L:List ByteArray} {h:Hd} {ps:Pts} (hk:(knT X L (.mk h ps)).1=0):(h.ag=9->cD L h.name.s≠none)/\(knP X L ps).1=0:=by
 rw [knT] at hk;split at hk
 ·cases hk
 ·rename_i h1;exact ⟨fun h9 hn=>h1 ⟨h9,hn⟩,hk⟩
theorem rH {X:Lx} {L:List ByteArray} {p:Ph} {u:Ty} {r:Pts} (hk:(knP X L (.cons p u r)).1=0):(p.bare=false->(knT X L u).1=0)/\(knP X L r).1=0:=by
 rw [knP] at hk;split at hk
 ·rename_i h1;exact (h1 hk).elim
 ·split at hk
  ·rename_i h1;exact (h1 hk).elim
  ·split at hk
   ·rename_i h1;exact ⟨(fun h2=>by rw [h1] at h2;cases h2),hk⟩
   ·split at hk
    ·rename_i h1;exact (h1 hk).elim
    ·rename_i h1;exact ⟨fun _=>by simpa using h1,hk⟩
theorem yQ {X:Lx} (hX:X.OK) (s:Sch) (aA:List Nat) (m:Int) (hT:gL (tL s) aA) (ja:aA.length<=1099511627776):∀ (k:Nat) (t:Ty),t.wt<=k->t.wt<=1099511627776->(knT X (tL s) t).1=0 ->
  M5 X.lev s aA (gJ X.af (cy X.af X.aA) X.rows X.js) m t
 | 0,t,hn,_,_=>by have:=t.de;omega
 | k + 1,.mk h ps,hn,b9,Lj=>by
  have ih:=yQ hX s aA m hT ja k;intro n base hnb hbl;obtain ⟨hk9,Ul⟩:=lU Lj;have oi:=fun (p:Ph) (u:Ty)=>JJ hX s aA m p u;generalize gJ X.af (cy X.af X.aA) X.rows X.js=lc at ih oi ⊢;simp only [Ty.wt,Hd.wt] at hn b9;have iE:=ps.fb;have gI:=bg h.af;have hf:=ic (tL s) aA h.name.s hT ja;have eJ:=jE s;have hnmL:(namedL s).length=s.types.length:=by simp [namedL]
  have Qc:mT s (.mk h ps) n=if h.ag=9 then Uk s h.name.s else (n:Int):=rfl
  have JK:ndsT X.lev s (.mk h ps) n=if h.ag=9 then [] else ⟨h.ag,h.aC,h.lo,h.hi,h.most,av h.af,edsP X.lev s ps (n + 1)⟩ :: vz X.lev s ps (n + 1):=by rw [ndsT]
  have hnn:(Ty.mk h ps).nn=if h.ag=9 then 0 else 1 + ps.nn:=by rw [Ty.nn]
  generalize hS:s=S at *;subst hS;obtain ⟨ae,order,types,⟨rh,rp⟩⟩:=s;refine ev_go (P:=Tryz.prog) tt tt_ok 5000 117 [.tmp 4] Tryz.func50 rfl Tryz.ntmps50 rfl (nL rfl) (fun E9 w9 hn9 hm9=>?_);refine br (fun h9=>?_) (fun h9=>?_)
  ·have h9:h.ag=9:=by simpa using h9
   obtain ⟨i,hi⟩:=Option.ne_none_iff_exists'.1 (hk9 h9);have KL:=(cK hi).1;rw [hi] at hf;rw [if_pos h9] at Qc JK
   have iR:(namedL ⟨ae,order,types,.mk rh rp⟩)[i]? = some (namedN ⟨ae,order,types,.mk rh rp⟩ i):=by
    unfold namedL;rw [List.getElem?_map,List.getElem?_range (by omega)];rfl
   refine aE (fun _=>false) mo (by decide +kernel) ?_;refine ay uG (hf) ax rfl ?_;refine ⟨_,⟨by omega,dO iR⟩,?_⟩;refine ⟨.v (.int .i64 (namedN ⟨ae,order,types,.mk rh rp⟩ i:Nat)),[bC ⟨ae,order,types,.mk rh rp⟩ (.pt lc 0) (.loc 1 0) m,KT ⟨ae,order,types,.mk rh rp⟩ aA lc n],ax,aL,?_,?_,?_⟩
   ·rw [Qc,Uk,hi];rfl
   ·rw [JK];rfl
   ·rw [JK];simp [cR]
  have h9:¬ h.ag=9:=by simpa using h9
  rw [if_neg h9] at Qc JK hnn;have gl:(List.replicate n ([]:List DV)).length=n:=List.length_replicate;refine aq (fun j st=>∃ e:Nat,st=M6 ⟨ae,order,types,.mk rh rp⟩ aA lc m n base h ps e e/\e<=h.af.length/\j=h.af.length - e) h.af.length (M6 ⟨ae,order,types,.mk rh rp⟩ aA lc m n base h ps 0 0) (dj 4 ⟨0,9,1,none⟩ rfl rfl rfl (by repeat' (first | exact rfl | exact ah rfl | exact ak (congrArg Nat.cast gl) | exact aX (Nat.le_refl _) rfl | exact aX (Nat.le_refl _) rfl | refine ⟨_,_,rfl,?_,?_⟩)) rfl rfl (by repeat' (first | exact trivial | exact ah rfl | exact ak (congrArg Nat.cast gl) | exact aX (Nat.le_refl _) rfl | refine ⟨⟨_,rfl,?_⟩,?_⟩))) ⟨0,rfl,by omega,by omega⟩ ?_;rintro j st ⟨e,rfl,he,rfl⟩;refine br (fun hL=>?_) (fun hL=>?_)
  ·have ap:e < h.af.length:=by simpa [aw] using hL
   obtain ⟨w,hw⟩:∃ w,h.af[e]? = some w:=⟨_,gE ap⟩;have eE:=jb hw;refine ⟨jw w,⟨by omega,aK hw⟩,?_⟩;refine ⟨by simp [bR,av];omega,⟨by simp [bR,av,maxLen];omega,by simp [bR,av];omega⟩,?_⟩;exact ⟨M6 ⟨ae,order,types,.mk rh rp⟩ aA lc m n base h ps (e + 1) (e + 1),(az 4 rfl (yc ap eE) rfl rfl rfl (tg ap eE)),h.af.length - (e + 1),by omega,e + 1,rfl,by omega,rfl⟩
  have aO:e=h.af.length:=by have:=hL;simp [aw] at this;omega
  subst aO;rw [List.take_length];refine aP mo (by decide +kernel) ?_;refine ⟨⟨⟨gl,by simp⟩,by simp [maxLen];omega,by simp;omega⟩,?_⟩
  refine aq (fun j st=>∃ (e n':Nat) (qd:List DV) (Es:List Ed) (K:List Nd),st=M7 ⟨ae,order,types,.mk rh rp⟩ aA lc m n h ps n' qd Es h.af.length e e/\e<=ps.len/\n'=n + 1 + K.length/\qd=base ++ (nd0 h ++ (cR K).flatten)/\Es.length=e /\
    K ++ vz X.lev ⟨ae,order,types,.mk rh rp⟩ (ps.drop e) (n + 1 + K.length)=vz X.lev ⟨ae,order,types,.mk rh rp⟩ ps (n + 1)/\Es ++ edsP X.lev ⟨ae,order,types,.mk rh rp⟩ (ps.drop e) (n + 1 + K.length)=edsP X.lev ⟨ae,order,types,.mk rh rp⟩ ps (n + 1)/\K.length + (ps.drop e).nn=ps.nn/\(knP X (tL ⟨ae,order,types,.mk rh rp⟩) (ps.drop e)).1=0/\j=ps.len - e) ps.len
   (M7 ⟨ae,order,types,.mk rh rp⟩ aA lc m n h ps (n + 1) (base ++ (nd0 h ++ [])) [] h.af.length 0 0) (dj 3 ⟨0,176,10,none⟩ rfl rfl rfl (by repeat' (first | exact rfl | exact ah rfl | exact aX (Nat.le_refl _) rfl | exact aX (Nat.le_refl _) rfl | refine ⟨_,_,rfl,?_,?_⟩)) rfl rfl zS) ⟨0,n + 1,_,[],[],rfl,by omega,rfl,rfl,rfl,rfl,rfl,by simp [Pts.drop],Ul,by omega⟩ ?_
  rintro j st ⟨e,n',qd,Es,K,rfl,he,Q4,dS,Vr,hK,Um,hKn,O9,rfl⟩
  have hbl':qd.length=n' * 7:=by
   have:∀ l:List Nd,(cR l).flatten.length=l.length * 7:=by
    intro l
    induction l with
    | nil=>rfl
    | cons a r ih=>simp only [cR,List.map_cons,List.flatten_cons,List.length_append,List.length_cons] at ih ⊢;rw [ih];simp only [jR,List.length_cons,List.length_nil];omega
   rw [dS,List.length_append,List.length_append,this,hbl,Q4];simp only [nd0,List.length_cons,List.length_nil];omega
  refine br (fun hL=>?_) (fun hL=>?_)
  ·have ap:e < ps.len:=by simpa [aF] using hL
   obtain ⟨p,u,hx⟩:=Pts.ei ap;have Cm:=Pts.fI (mG hx);rw [Pts.drop_cons hx] at hK Um hKn O9;obtain ⟨mn,Lt⟩:=rH O9;simp only [vz] at hK;simp only [edsP] at Um;simp only [Pts.nn] at hKn;rw [<- Q4] at hK Um;have ye:=u.fL;have huc:=u.ej;have dp:=oi p u (by omega) (fun hB=>ih u (by omega) (by omega) (mn hB)) n' qd (fun hB=>by rw [hB] at hKn;simp only [Bool.false_eq_true,if_false] at hKn;omega) hbl';have YV:=jF X.lev ⟨ae,order,types,.mk rh rp⟩ u n';obtain ⟨uh,us⟩:=u;refine ⟨_,⟨by omega,bH hx⟩,?_⟩;refine iU 2 1 W5 rfl rfl rfl aL aL dp (fun r gG bW hΦ h1 h2=>?_);obtain ⟨rfl,rfl,rfl⟩:=hΦ;refine ⟨by rw [cE,Vr],⟨by simp [cE,Vr,maxLen];omega,by simp [cE,Vr];omega⟩,?_⟩
   have Un:(if p.bare then [] else ndsT X.lev ⟨ae,order,types,.mk rh rp⟩ (.mk uh us) n').length=if p.bare then 0 else (Ty.mk uh us).nn:=by
    split
    ·rfl
    ·exact YV
   have Sa:n + 1 + (K.length + (if p.bare then 0 else (Ty.mk uh us).nn))=n' + if p.bare then 0 else (Ty.mk uh us).nn:=by rw [Q4];omega
   refine ⟨M7 ⟨ae,order,types,.mk rh rp⟩ aA lc m n h ps (n' + (if p.bare then [] else ndsT X.lev ⟨ae,order,types,.mk rh rp⟩ (.mk uh us) n').length) (qd ++ (cR (if p.bare then [] else ndsT X.lev ⟨ae,order,types,.mk rh rp⟩ (.mk uh us) n')).flatten) (Es ++ [vy X.lev p (tR ⟨ae,order,types,.mk rh rp⟩ p (.mk uh us) n')]) h.af.length (e + 1) (e + 1),(az 3 rfl (by repeat' (first | exact rfl | exact ah rfl | exact ak (cx ap (by omega)) | exact cP (yP _ _) rfl | refine ⟨_,_,rfl,?_,?_⟩)) rfl rfl rfl (by repeat' (first | exact trivial | exact ah rfl | exact ak (cx ap (by omega)) | exact cP (yP _ _) rfl | refine ⟨⟨_,rfl,?_⟩,?_⟩))),
    ps.len - (e + 1),by omega,e + 1,_,_,_,K ++ (if p.bare then [] else ndsT X.lev ⟨ae,order,types,.mk rh rp⟩ (.mk uh us) n'),rfl,by omega,?_,?_,?_,?_,?_,?_,Lt,rfl⟩
   ·rw [List.length_append,Q4];omega
   ·rw [dS];simp [cR]
   ·simp [Vr]
   ·rw [List.length_append,Un,List.append_assoc,Sa];exact hK
   ·rw [List.length_append,Un,List.append_assoc,Sa];exact Um
   ·rw [List.length_append,Un];omega
  ·have aO:e=ps.len:=by have:=hL;simp [aF] at this;omega
   subst aO;rw [Pts.cQ] at hK Um;simp only [vz,List.append_nil] at hK;simp only [edsP,List.append_nil] at Um;have hKl:K.length=ps.nn:=by rw [hK,vA]
   have hrl2:(List.replicate n' ([]:List DV)).length=n':=List.length_replicate;refine JD (kt:=0) ⟨rfl,rfl⟩ ⟨rfl,rfl,rfl⟩ ⟨rfl,rfl,rfl⟩ rfl rfl rfl rfl rfl rfl rfl rfl rfl rfl rfl hrl2 ⟨by omega,by omega⟩ (by decide) ?_;have YW:n + (ndsT X.lev ⟨ae,order,types,.mk rh rp⟩ (.mk h ps) n).length=n':=by rw [JK,List.length_cons,<- hK,Q4];omega
   have qX:qd.set ((n:Int).toNat * 7 + 6) (.sl 10 (fv Es) none)=base ++ (cR (ndsT X.lev ⟨ae,order,types,.mk rh rp⟩ (.mk h ps) n)).flatten:=by
    rw [dS,show (n:Int).toNat=n by omega,Qb hbl,JK,Um,hK];rfl
   refine ⟨.v (.int .i64 n),[bC ⟨ae,order,types,.mk rh rp⟩ (.pt lc 0) (.loc 1 0) m,KT ⟨ae,order,types,.mk rh rp⟩ aA lc n'],ax,aL,?_,?_,?_⟩
   ·rw [Qc]
   ·rw [YW]
   ·rw [YW,<- qX];rfl
end Go.Proofs.YtfifjddnnmfeoaaGreat
namespace Go.Proofs.YtfifjddnnmfeoaaGreat
namespace Dv
open Go Go.RowKit
section
variable {X:Ctx} {st:St} {k:List It} {E:En} {a:Act} {w:World} {ops:Array Oper} {W:Nat->Bool} {C:World->Prop} {Q:Act->World->Prop} {i:Nat} {r:List Nat} {o:Oper}
theorem iB (hg:o.guard=none):Region.wanted o (yielded ops a.tmps)=true:=by
 unfold Region.wanted;rw [hg]
theorem Qd {bx:List (List DV)} {wr:World} (h:Rel X E st a w) (hE:tj E bx wr) (hC:∀ w',C w' -> CC E bx wr w'):Rl E bx C st.sl a where
 tm:=h.tm
 eu:=fun i cs hi=>by
  by_cases aN:cs=[]
  ·subst aN;have ap:i < E.β.length:=by rw [hE.len];exact (gS hi).1
   exact ⟨_,[],gE ap,⟨cj _,by simp⟩,fun w' _ j u hj=>by simp at hj⟩
  ·obtain ⟨b,ty,arr,hb,hw,hc⟩:=hE.eu i cs hi aN;exact ⟨b,arr,hb,hc,fun w' h' j u hj=>by rw [ch (((hC w' h').o i b cs hb hi aN).trans hw)];simpa using hj⟩
 cc:=fun x v hx w' h'=>(hC w' h').c x v hx
theorem Qe {bx:List (List DV)} (h:Env E bx w) (m:List Nat):tj E (maskL m 0 bx) w:=⟨by rw [q6];exact h.len,fun i cs hi aN=>by
 rcases q7 m _ _ _ _ hi with h1 | h1
 ·exact (aN h1).elim
 ·exact h.eu i cs h1⟩
theorem lV (hR:Rel X E st a w) (ho:ops[i]? = some o) (hE:gQ o.op=false) (hL:ma o.op=false) (hg:o.guard=none) {s:DV} (hs:pureT X.P X.T ⟨st.sl,[],[]⟩ [] o.op=some s) (hd:fi X.nt st.sl o.dst=true)
  (hk:∀ a',Rel X E (st.put o.dst ⟨[],s⟩) a' w->runT X.P ops W C Q r a' w):runT X.P ops W C Q (i :: r) a w:=by
 have gl:Rl E [] (fun _=>False) st.sl a:=⟨hR.tm,fun i cs hi=>by simp at hi,fun _ _ _ _ h=>h.elim⟩;obtain ⟨v,hv,bZ⟩:=gU (st:=⟨st.sl,[],[]⟩) X.hT gl (bc _) hs;simp only [runT,ho,hE,Bool.false_eq_true,if_false];exact ⟨v,.inl ⟨iB hg,fun w' _=>bZ w' fun h=>by rw [hL] at h;cases h⟩,fun h=>(by rw [hL] at h;cases h),hk _ (aV hR hd s v hv)⟩
theorem Qf (hR:Rel X E st a w) (ho:ops[i]? = some o) {bx:List (List DV)} (gl:Rl E bx C st.sl a) (Tg:C w) (hE:gQ o.op=false) (hg:o.guard=none) {s:DV} (hs:pureT X.P X.T ⟨st.sl,bx,[]⟩ [] o.op=some s) (hd:fi X.nt st.sl o.dst=true)
  (hk:∀ a',Rel X E (st.put o.dst ⟨[],s⟩) a' w->runT X.P ops W C Q r a' w):runT X.P ops W C Q (i :: r) a w:=by
 obtain ⟨v,hv,bZ⟩:=gU (st:=⟨st.sl,bx,[]⟩) X.hT gl (bc _) hs;simp only [runT,ho,hE,Bool.false_eq_true,if_false];exact ⟨v,.inl ⟨iB hg,fun w' h=>bZ w' h⟩,fun _=>Tg,hk _ (aV hR hd s v hv)⟩
theorem Qg (hR:Rel X E st a w) (ho:ops[i]? = some o) {t x d:Nat} {b p j:Nat} {n:Nat} {kd:TK} {z:List Value} (hb:E.β[j]? = some b) (kK:o.op = .load t (.tmp x)) (gW:o.dst=some d) {i2 FK b2:Nat} (fH:E.β[i2]? = some b2) (hx:rv st [] (.tmp x)=some (.loc i2 p)) (hT:X.T.find t=some ⟨n,false,kd,z⟩)
  (hC:∀ w',C w' -> w'.cell? ⟨b2,p,none⟩=some (.pointer (some ⟨b,FK,none⟩))) (Tg:C w) (hg:o.guard=none) (hd:fi X.nt st.sl (some d)=true)
  (hk:∀ a',Rel X E ⟨(d,⟨[],.loc j FK⟩) :: st.sl,st.bx,st.tk⟩ a' w->runT X.P ops W C Q r a' w):runT X.P ops W C Q (i :: r) a w:=by
 have hE:gQ o.op=false:=by rw [kK];all_goals rfl
 simp only [runT,ho,hE,Bool.false_eq_true,if_false];have hv:Rv E (.loc j FK) (.pointer (some ⟨b,FK,none⟩)):=by unfold Rv;exact ⟨b,hb,rfl⟩
 refine ⟨.pointer (some ⟨b,FK,none⟩),.inl ⟨iB hg,fun w' h=>?_⟩,fun _=>Tg,?_⟩
 ·have Td:=hC w' (h (by rw [kK];rfl));have e1:=aQ hR.rl hx;unfold Rv at e1;obtain ⟨b3,KH,e1⟩:=e1;rw [fH] at KH;simp only [oI] at KH;subst KH;have Pl:=(te_parts X.hT hT).2.1
  have hl:(loadVar t ⟨b2,p,none⟩).run X.P w' = .ok (.pointer (some ⟨b,FK,none⟩)) w':=by
   simp [loadVar,ji Pl,Td]
  simp only [execOp,kK,e1,Sem.run_bind,Instr.loadAt,Instr.sureAddr,Sem.run_pure,Result.andThen_ok,hl]
 ·rw [gW];exact hk _ (aV hR hd (.loc j FK) _ hv)
theorem JL (hR:Rel X E st a w) (ho:ops[i]? = some o) {dst:Option Nat} {f:Operand} {args:Array Operand} {tys:Array TypeId} (kK:o.op = .call ⟨.value f,args,tys⟩) (gW:o.dst=dst) (hg:o.guard=none) {g:FuncId} {ds:List DV} (hf:rv st [] f=some (.fn g [] [])) (hl:argsV st [] args.toList=some ds) (j1:Enters X.P g)
  {K:Value->World->Prop} (hc:∀ vs,RvL E ds vs->Calls X.P g vs.toArray w fun e w'=>∃ v,e = .returned v/\K v w') (hk:∀ v w',K v w' -> (W i=false->C w->C w')/\runT X.P ops W C Q r (a.put dst v) w'):runT X.P ops W C Q (i :: r) a w:=by
 have hE:gQ o.op=true:=by rw [kK];all_goals rfl
 have hwn:=iB (ops:=ops) (a:=a) hg;have gl:=hR.rl;have e1:=aQ gl hf;unfold Rv at e1;obtain ⟨l1,r1,e1,Bp,hr1⟩:=e1;simp only [RvL] at Bp hr1;subst Bp hr1;have hargs:=gT gl (bc _) _ _ hl;simp only [runT,ho,hE,if_true,dG,hwn];subst gW;obtain ⟨dst,op,ty,pos,after,gu⟩:=o;simp only at kK;subst kK
 have hr:(execOp a.eval ⟨dst,.call ⟨.value f,args,tys⟩,ty,pos,after,gu⟩).run X.P w = .ok (.enter g (args.toList.map a.eval).toArray) w:=by
  have e3:(([]:List Value).toArray ++ args.map a.eval ++ ([]:List Value).toArray)=(args.toList.map a.eval).toArray:=by apply Array.ext';simp
  simp only [execOp,resolve,e1,Deferred.ofValue,Sem.run_bind,Sem.run_pure,Result.andThen_ok,invoke,e3];exact j1 _ _
 unfold wq;rw [hr];refine (hc _ hargs).mono ?_;rintro e w' ⟨v,rfl,hK⟩;exact ⟨v,rfl,hk v w' hK⟩
theorem Qh (hR:Rel X E st a w) (ho:ops[i]? = some o) {dst:Option Nat} {f:Operand} {args:Array Operand} {tys:Array TypeId} (kK:o.op = .call ⟨.value f,args,tys⟩) (gW:o.dst=dst) (hg:o.guard=none) {g:FuncId} {ds TJ:List DV} (hf:rv st [] f=some (.fn g [] [])) (hl:argsV st [] args.toList=some ds) (j1:Enters X.P g)
  {os:List (List DV)} (n1 m1:Nat) (BG:Nat.ble n1 st.bx.length=true) (fD:Nat.ble m1 st.tk.length=true) (xx:ll [] n1 n1 m1 os (st.bx.take n1)) (ha:CcL [] n1 n1 m1 TJ ds)
  {Φ:DV->List (List DV)->List TkE->Prop} (hc:Ev X.P g TJ os (st.tk.take m1) Φ) (aT:X.still=false) (hX:X.bt=[])
  (hk:∀ v r' gG bW E' w',Φ r' gG bW -> gG.length=n1->bW.length=m1->Rel X E' ⟨st.sl,gG ++ st.bx.drop n1,bW ++ st.tk.drop m1⟩ a w' -> Rv E' r' v->Ext E E' -> E'.β=E.β->(∀ (i:Nat) b,n1<=i->E.β[i]? = some b->w'.heap[b]? = w.heap[b]?) ->
   (W i=false->C w->C w')/\runT X.P ops W C Q r (a.put dst v) w'):runT X.P ops W C Q (i :: r) a w:=by
 refine JL hR ho kK gW hg hf hl j1 (K:=fun v w'=>∃ r' gG bW E',Φ r' gG bW /\ gG.length=n1/\bW.length=m1/\Rel X E' ⟨st.sl,gG ++ st.bx.drop n1,bW ++ st.tk.drop m1⟩ a w' /\ Rv E' r' v/\Ext E E' /\ E'.β=E.β/\∀ (i:Nat) b,n1<=i->E.β[i]? = some b->w'.heap[b]? = w.heap[b]?)
  (fun vs hv=>?_) ?_
 ·refine (CM n1 m1 BG fD xx ha hc aT hX hR hv).mono ?_;rintro e w' ⟨v,r',gG,bW,E',rfl,h⟩;exact ⟨v,rfl,r',gG,bW,E',h⟩
 ·rintro v w' ⟨r',gG,bW,E',h1,h2,h3,h4,h5,h6,h7,h8⟩;exact hk v r' gG bW E' w' h1 h2 h3 h4 h5 h6 h7 h8
theorem Qi (h:Rel X E st a w) (j o k:Nat) {n ty e:Nat} {KO:List DV} {es ns:List (List DV)} (hq:st.tk[k]? = some ⟨n,ty,e,some ns.flatten⟩) (su:∀ x∈ns,x.length=e) (gI:ns.length=n) (hj:st.bx[j]? = some KO) (ho:KO[o]? = some (.sl 0 es (some k))) (jQ:es.length=n) :
  ∃ E',Rel X E' ⟨st.sl,st.bx.set j (KO.set o (.sl e ns none)),st.tk.set k ⟨n,ty,e,none⟩⟩ a w:=T9 hq su gI hj ho jQ E a w h
theorem JN (hR:Rel X E st a w) (ho:ops[i]? = some o) (hE:gQ o.op=true) (hg:o.guard=none) (hW:W i=true) (hd:fi X.nt st.sl o.dst=true) {p:Prop} (hp:effC X st o (go X 4000 k)=some p) (h:p):runT X.P ops W C (fun a w=>kq X k .normal a w) [i] a w:=by
 have hwn:=iB (ops:=ops) (a:=a) hg;simp only [runT,ho,hE,if_true,dG,hwn];refine lr ?_ (lu hd hR hp h);rintro a' w' ⟨st',E',oB,hr,_⟩;exact ⟨(fun h=>by rw [hW] at h;cases h),go_sound 4000 _ _ oB _ _ _ hr⟩
mutual
theorem rI {i j:Nat}:∀ d:DV,renD (swp i j) (renD (swp i j) d)=d
 | .v x=>rfl
 | .ud=>rfl
 | .agg l=>by simp only [renD,je]
 | .tup l=>by simp only [renD,je]
 | .sl e es tk=>rfl
 | .pt cs o=>rfl
 | .loc k o=>by simp only [renD,j3]
 | .el k o=>by simp only [renD,j3]
 | .ms k e o l c=>by simp only [renD,j3]
 | .fn g l r=>by simp only [renD,je]
 | .sg t x=>by simp only [renD,rI]
theorem je {i j:Nat}:∀ l:List DV,renL (swp i j) (renL (swp i j) l)=l
 | []=>rfl
 | d :: r=>by simp only [renL,rI,je]
end
theorem yR {i j:Nat}:∀ l:List (Nat × Sl),renS (swp i j) (renS (swp i j) l)=l
 | []=>rfl
 | (k,⟨gs,s⟩) :: r=>by simp only [renS,rI,yR]
theorem yS {i j:Nat}:∀ l:List (List DV),renO (swp i j) (renO (swp i j) l)=l
 | []=>rfl
 | c :: r=>by simp only [renO,je,yS]
theorem M8 {i j:Nat} (f:Nat->Nat) (l:List (List DV)) (hi:i < l.length) (hj:j < l.length):renO f (swL i j l)=swL i j (renO f l):=by
 apply List.ext_getElem?;intro k;rw [pH,ef hi hj,ef (by rw [cV];exact hi) (by rw [cV];exact hj),pH]
theorem C0 {i j:Nat} {S:St} (hi:i < S.bx.length) (hj:j < S.bx.length):fo i j (fo i j S)=S:=by
 obtain ⟨sl,bx,tk⟩:=S;simp only [fo,yR];rw [M8 _ _ (by rw [cV];exact hi) (by rw [cV];exact hj),yS];congr 1;apply List.ext_getElem?;intro k;rw [ef (by rw [cu];exact hi) (by rw [cu];exact hj),ef hi hj,j3]
theorem dL.YX {f:FuncId} {args:List DV} {dst:Option Nat} (i j:Nat) (KC:Nat.ble X.n0 i=true) (sq:Nat.ble X.n0 j=true) (hi:Nat.blt i st.bx.length=true) (hj:Nat.blt j st.bx.length=true)
  (h:dL X f (renL (swp i j) args) dst k (fo i j st)) (hX:X.bt=[]:=by exact rfl):dL X f args dst k st:=by
 have dE:=hi;have fT:=hj;simp only [Nat.blt_eq] at dE fT;have hl:(fo i j st).bx.length=st.bx.length:=by simp only [fo,cu,cV]
 exact dL.ER i j (C0 dE fT).symm (je args).symm KC sq (by rw [hl];exact hi) (by rw [hl];exact hj) h hX
theorem FL {P:Program} {t e:TypeId} (hu:P.underlying t=some (.slice e)) (d:Nat) (x:Option Addr) (n c:Nat) (w:World):(Op.equalIn (d + 1) t (.slice x n c) (.slice none 0 0)).run P w = .ok x.isNone w:=by
 cases x<;>simp [Op.equalIn,run_underlying hu]
theorem vB {P:Program} {t e:TypeId} (hu:P.underlying t=some (.slice e)) (x:Option Addr) (n c:Nat) (w:World):(Op.equal t (.slice x n c) (.slice none 0 0)).run P w = .ok x.isNone w:=FL hu 9999 x n c w
theorem M9 {t d e:Nat} {x:Operand} {es:List (List DV)} {tk:Option Nat} {n et e' jP:Nat} {bb:Bool} {z:List Value} (kK:∃ t',o.op = .binOp .eql t x (.const (.slice none 0 0)) t') (gW:o.dst=some d) (hx:rv st [] x=some (.sl e es tk)) (hT:X.T.find t=some ⟨n,bb,.sl et e' jP,z⟩) (hd:fi X.nt st.sl (some d)=true)
  (hk:∀ b:Bool,(es ≠ []->b=false)->go X 4000 k ⟨(d,⟨[],.v (.bool b)⟩) :: st.sl,st.bx,st.tk⟩):IQ X o k st:=by
 intro E a w h;obtain ⟨t',kK⟩:=kK;have e1:=aQ h.rl hx;unfold Rv at e1;obtain ⟨b,m,cap,e1,⟨rfl,_⟩,hr,_⟩:=e1;obtain ⟨hu,_⟩:=eB X.hT hT;have aH:=vB hu b es.length cap w
 have bZ:(execOp a.eval o).run X.P w = .ok (.value (.bool b.isNone)) w:=by
  have hc:a.eval (.const (.slice none 0 0)) = .slice none 0 0:=rfl;simp [execOp,kK,e1,hc,eqGuard,binOp,aH]
 refine ir bZ ?_;rw [gW];refine go_sound 4000 _ _ (hk b.isNone fun aN=>?_) E _ w (aV h hd (.v (.bool b.isNone)) _ (by unfold Rv;exact ⟨rfl,rfl⟩));have:=mA (hr aN).1;rw [this];rfl
theorem YY {t d et e jP n:Nat} {bb:Bool} {z:List Value} (kK:o.op = .buildSlice t 0 #[]) (gW:o.dst=some d) (hT:X.T.find t=some ⟨n,bb,.sl et e jP,z⟩) (hd:fi X.nt st.sl (some d)=true) (aT:X.still=false:=by exact rfl) (hX:X.bt=[]:=by exact rfl) :
  OpS X o st ⟨(d,⟨[],.sl e [] (some st.tk.length)⟩) :: st.sl,st.bx,st.tk ++ [⟨0,et,e,none⟩]⟩:=by
 intro E a w h;obtain ⟨hu,ii,zv,sr,hz,bE,ub,G3⟩:=eB X.hT hT;have nZ:iq X.P et=some e:=by rw [gq sr,bE]
 have bZ:(execOp a.eval o).run X.P w = .ok (.value (.slice (some ⟨w.heap.size,0,none⟩) 0 0)) (w.alloc (.cells #[] et)):=by
  have h1:(Instr.buildSlice t 0 #[]).run X.P w = .ok (.slice (some ⟨w.heap.size,0,none⟩) 0 0) (w.alloc (.cells #[] et)):=by
   have h0:Array.range 0 = #[]:=rfl;simp [Instr.buildSlice,run_underlying hu,aJ nZ,Instr.fill,newRow,h0]
  simp only [execOp,kK,List.map_toArray,List.map_nil,Sem.run_bind,h1,Result.andThen_ok,Sem.run_pure]
 refine ey bZ ?_;rw [gW];have mn:=h.env.kh (w':=w.alloc (.cells #[] et)) fun i hi=>alloc_old w _ hi
 let E2:En:=⟨E.c,E.β,E.tk ++ [⟨0,et,e,none⟩],E.τ ++ [.slice (some ⟨w.heap.size,0,none⟩) 0 0]⟩
 have hext:Ext E E2:=⟨fun _ _ h=>h,fun _ _ h=>h,fun k q' hk=>by
  have ap:=(gS hk).1;refine ⟨q',by show (E.tk ++ _)[k]? = _;rw [List.getElem?_append_left ap];exact hk,.inl ⟨rfl,?_⟩⟩;show (E.τ ++ _)[k]? = _
  rw [List.getElem?_append_left (by rw [h.env.tl];exact ap)]⟩
 have hτ:∀ (k:Nat) y,E2.τ[k]? = some y->(k < E.τ.length/\E.τ[k]? = some y)∨(k=E.τ.length/\y = .slice (some ⟨w.heap.size,0,none⟩) 0 0):=fun k y hy=>by
  have hy:(E.τ ++ [Value.slice (some ⟨w.heap.size,0,none⟩) 0 0])[k]? = some y:=hy;rw [List.getElem?_append] at hy;split at hy
  ·rename_i hk;exact .inl ⟨hk,hy⟩
  ·rename_i hk
   have h0:k - E.τ.length=0:=by
    rcases Nat.eq_zero_or_pos (k - E.τ.length) with h0 | h0
    ·exact h0
    ·rw [List.getElem?_eq_none (by simp;omega)] at hy;cases hy
   rw [h0] at hy;simp only [List.getElem?_cons_zero,oI] at hy;exact .inr ⟨by omega,hy.symm⟩
 have cG:∀ (k:Nat) y g,E.τ[k]? = some y->y.ownBlock=some g->g < w.heap.size:=fun k y g hy hg=>(h.env.own (mG hy) hg).1
 have cf:Rel X E2 ⟨st.sl,st.bx,st.tk ++ [⟨0,et,e,none⟩]⟩ a (w.alloc (.cells #[] et)):=by
  refine di h hext ?_ (by show E.tk ++ _=_;rw [h.tk]) ?_ (h.fr.alloc _) (nX aT) (.nil hX)
  ·exact {
    len:=h.env.len
    tl:=by show (E.τ ++ _).length=(E.tk ++ _).length;simp [h.env.tl]
    eu:=fun i cs hi=>by
     obtain ⟨b,t,arr,hb,hw,hc⟩:=mn.eu i cs hi;exact ⟨b,t,arr,hb,hw,hc.mono hext⟩
    inj:=h.env.inj
    sub:=mn.sub
    pc:=h.env.pc
    cI:=fun k q' y YZ hy=>by
     rcases hτ k y hy with ⟨ap,gp⟩ | ⟨rfl,rfl⟩
     ·have gm:(E.tk ++ [⟨0,et,e,none⟩])[k]? = some q':=YZ;rw [List.getElem?_append_left (by rw [<- h.env.tl];exact ap)] at gm;exact mn.cI k q' y gm gp
     ·have gm:(E.tk ++ [⟨0,et,e,none⟩])[E.τ.length]? = some q':=YZ;rw [List.getElem?_append_right (by rw [h.env.tl];exact Nat.le_refl _),h.env.tl] at gm;simp only [Nat.sub_self,List.getElem?_cons_zero,oI] at gm;subst gm;refine .inr ⟨w.heap.size,0,#[],rfl,iW w _,⟨by simp,pe.none rfl⟩,Nat.le_refl _,Nat.zero_le _,fun hm=>?_,fun x v hx ED=>?_⟩
      ·have:=h.env.aZ hm;omega
      ·have:=World.block_lt_of_cell? w x (h.env.sub x v hx);omega
    iX:=fun k k' y y' g Bo hy gp hg xu=>by
     rcases hτ k y hy with ⟨_,BH⟩ | ⟨rfl,rfl⟩
     ·rcases hτ k' y' gp with ⟨_,mf⟩ | ⟨rfl,rfl⟩
      ·exact h.env.iX k k' y y' g Bo BH mf hg xu
      ·have:=cG k y g BH hg;simp only [Value.ownBlock,oI] at xu;omega
     ·rcases hτ k' y' gp with ⟨_,mf⟩ | ⟨rfl,rfl⟩
      ·have:=cG k' y' g mf xu;simp only [Value.ownBlock,oI] at hg;omega
      ·exact Bo rfl }
  ·exact {
    c:=h.nw.c
    cn:=h.nw.cn
    β:=h.nw.β
    tk:=fun j q0 y0 s9 EA=>by
     obtain ⟨q',y',h1,h2,h3⟩:=h.nw.tk j q0 y0 s9 EA;exact ⟨q',y',by show (E.tk ++ _)[j]? = _;rw [List.getElem?_append_left (gS h1).1];exact h1,by show (E.τ ++ _)[j]? = _;rw [List.getElem?_append_left (gS h2).1];exact h2,h3⟩
    tn:=fun j y g hj hy hg=>by
     rcases hτ j y hy with ⟨_,BH⟩ | ⟨_,rfl⟩
     ·exact h.nw.tn j y g hj BH hg
     ·simp only [Value.ownBlock,oI] at hg;have:=h.fr.size;omega
    l0:=h.nw.l0 }
 refine ⟨E2,aV cf hd (.sl e [] (some st.tk.length)) _ ?_,hext,⟨[],by simp [E2]⟩,fun i b hb _=>alloc_old w _ (h.env.aZ (mG hb))⟩;unfold Rv;refine ⟨_,0,0,rfl,⟨rfl,Nat.le_refl _⟩,fun hn=>(hn rfl).elim,fun k' gm=>?_⟩;cases gm;refine ⟨⟨0,et,e,none⟩,?_,Nat.le_refl _,fun _=>?_⟩
 ·show (E.tk ++ _)[st.tk.length]? = _;rw [h.tk];simp
 ·show (E.τ ++ _)[st.tk.length]? = _;rw [<- h.tk,<- h.env.tl];simp
theorem C1 {t d et e jP n:Nat} {bb:Bool} {z:List Value} (kK:o.op = .buildSlice t 0 #[]) (gW:o.dst=some d) (hT:X.T.find t=some ⟨n,bb,.sl et e jP,z⟩) (hd:fi X.nt st.sl (some d)=true) (aT:X.still=false:=by exact rfl) (hX:X.bt=[]:=by exact rfl)
  (hk:go X 4000 k ⟨(d,⟨[],.sl e [] (some st.tk.length)⟩) :: st.sl,st.bx,st.tk ++ [⟨0,et,e,none⟩]⟩):IQ X o k st:=(YY kK gW hT hd aT hX).g hk
theorem Wk.Hr {st':St} (N:Nat) (hN:Nat.ble X.n0 N=true) (B7:Nat.ble N st.bx.length=true) (lx:ll st.bx N N st.tk.length st'.bx (st.bx.take N)) (iH:st'.tk=st.tk) (mb:Lu st.bx N st.tk.length st.sl st'.sl):Wk X st st':=fun _ _ _ h=>
 Hs h N (nL hN) (nL B7) lx iH mb
theorem IQ.wk {st':St} {o:Oper} (hw:Wk X st st') (hd:fi X.nt st'.sl o.dst=true) {p:Prop} (hp:effC X st' o (go X 4000 k)=some p) (h:p):IQ X o k st:=fun E a w hr=>by
 obtain ⟨E',gV⟩:=hw _ _ _ hr;refine BK (lr ?_ (lu hd gV hp h));rintro a' w' ⟨I6,E2,oB,hr2,_⟩;exact go_sound 4000 _ _ oB _ _ _ hr2
theorem Qj (h:Rel X E st a w) (aT:X.still=false) (hX:X.bt=[]) {g n ty e cap:Nat} {cur:Array Value} (hw:w.heap[g]? = some (.cells cur ty (0,0))) (bE:cur.size=cap * e) (hn:n<=cap) (IY:cap<=maxLen) (hb:g ∉ E.β)
  (hc:∀ x v,E.c x=some v->x.block=g->x.off < n * e) (cG:∀ (k:Nat) y,E.τ[k]? = some y->y.ownBlock≠some g) (hg:X.w0.heap.size<=g) :
  Rel X ⟨E.c,E.β,E.tk ++ [⟨n,ty,e,none⟩],E.τ ++ [.slice (some ⟨g,0,none⟩) n cap]⟩ ⟨st.sl,st.bx,st.tk ++ [⟨n,ty,e,none⟩]⟩ a w:=by
 let E2:En:=⟨E.c,E.β,E.tk ++ [⟨n,ty,e,none⟩],E.τ ++ [.slice (some ⟨g,0,none⟩) n cap]⟩
 have hext:Ext E E2:=⟨fun _ _ h=>h,fun _ _ h=>h,fun k q' hk=>by
  have ap:=(gS hk).1;refine ⟨q',by show (E.tk ++ _)[k]? = _;rw [List.getElem?_append_left ap];exact hk,.inl ⟨rfl,?_⟩⟩;show (E.τ ++ _)[k]? = _
  rw [List.getElem?_append_left (by rw [h.env.tl];exact ap)]⟩
 have hτ:∀ (k:Nat) y,E2.τ[k]? = some y->(k < E.τ.length/\E.τ[k]? = some y)∨(k=E.τ.length/\y = .slice (some ⟨g,0,none⟩) n cap):=fun k y hy=>by
  have hy:(E.τ ++ [Value.slice (some ⟨g,0,none⟩) n cap])[k]? = some y:=hy;rw [List.getElem?_append] at hy;split at hy
  ·rename_i hk;exact .inl ⟨hk,hy⟩
  ·rename_i hk
   have h0:k - E.τ.length=0:=by
    rcases Nat.eq_zero_or_pos (k - E.τ.length) with h0 | h0
    ·exact h0
    ·rw [List.getElem?_eq_none (by simp;omega)] at hy;cases hy
   rw [h0] at hy;simp only [List.getElem?_cons_zero,oI] at hy;exact .inr ⟨by omega,hy.symm⟩
 refine di h hext ?_ (by show E.tk ++ _=_;rw [h.tk]) ?_ h.fr (nX aT) (.nil hX)
 ·exact {
   len:=h.env.len
   tl:=by show (E.τ ++ _).length=(E.tk ++ _).length;simp [h.env.tl]
   eu:=fun i cs hi=>by
    obtain ⟨b,t,arr,hb,hw,hc⟩:=h.env.eu i cs hi;exact ⟨b,t,arr,hb,hw,hc.mono hext⟩
   inj:=h.env.inj
   sub:=h.env.sub
   pc:=h.env.pc
   cI:=fun k q' y YZ hy=>by
    rcases hτ k y hy with ⟨ap,gp⟩ | ⟨rfl,rfl⟩
    ·have gm:(E.tk ++ [⟨n,ty,e,none⟩])[k]? = some q':=YZ;rw [List.getElem?_append_left (by rw [<- h.env.tl];exact ap)] at gm;exact h.env.cI k q' y gm gp
    ·have gm:(E.tk ++ [⟨n,ty,e,none⟩])[E.τ.length]? = some q':=YZ;rw [List.getElem?_append_right (by rw [h.env.tl];exact Nat.le_refl _),h.env.tl] at gm;simp only [Nat.sub_self,List.getElem?_cons_zero,oI] at gm;subst gm;exact .inr ⟨g,cap,cur,rfl,hw,⟨bE,fun cs h=>by cases h⟩,hn,IY,hb,hc⟩
   iX:=fun k k' y y' g' Bo hy gp mz Eo=>by
    rcases hτ k y hy with ⟨_,BH⟩ | ⟨rfl,rfl⟩
    ·rcases hτ k' y' gp with ⟨_,mf⟩ | ⟨rfl,rfl⟩
     ·exact h.env.iX k k' y y' g' Bo BH mf mz Eo
     ·simp only [Value.ownBlock,oI] at Eo;subst Eo;exact cG k y BH mz
    ·rcases hτ k' y' gp with ⟨_,mf⟩ | ⟨rfl,rfl⟩
     ·simp only [Value.ownBlock,oI] at mz;subst mz;exact cG k' y' mf Eo
     ·exact Bo rfl }
 ·exact {
   c:=h.nw.c
   cn:=h.nw.cn
   β:=h.nw.β
   tk:=fun j q0 y0 s9 EA=>by
    obtain ⟨q',y',h1,h2,h3⟩:=h.nw.tk j q0 y0 s9 EA;exact ⟨q',y',by show (E.tk ++ _)[j]? = _;rw [List.getElem?_append_left (gS h1).1];exact h1,by show (E.τ ++ _)[j]? = _;rw [List.getElem?_append_left (gS h2).1];exact h2,h3⟩
   tn:=fun j y g' hj hy xu=>by
    rcases hτ j y hy with ⟨_,BH⟩ | ⟨_,rfl⟩
    ·exact h.nw.tn j y g' hj BH xu
    ·simp only [Value.ownBlock,oI] at xu;omega
   l0:=h.nw.l0 }
theorem Uo {t d et e jP n len:Nat} {bb:Bool} {z:List Value} {parts:Array (Nat × Operand)} {es:List (List DV)} (kK:o.op = .buildSlice t len parts) (gW:o.dst=some d) (hT:X.T.find t=some ⟨n,bb,.sl et e jP,z⟩) (jQ:litL e st parts.toList 0=some es)
  (hc:(Nat.beq es.length len && (Nat.blt 0 len && Nat.blt 0 e && Nat.ble (len * e) 16777216))=true) (hd:fi X.nt st.sl (some d)=true) (aT:X.still=false:=by exact rfl) (hX:X.bt=[]:=by exact rfl)
  (hk:go X 4000 k ⟨(d,⟨[],.sl e es (some st.tk.length)⟩) :: st.sl,st.bx,st.tk ++ [⟨len,et,e,none⟩]⟩):IQ X o k st:=by
 intro E a w h;simp only [Bool.and_eq_true,Nat.beq_eq,Nat.ble_eq,Nat.blt_eq] at hc;obtain ⟨hlen,⟨ki,Hi⟩,hsm⟩:=hc;obtain ⟨hu,ii,zv,sr,hz,bE,ub,G3⟩:=eB X.hT hT;obtain ⟨xs,vs,hp,xy,IZ,jT,Wi,kj⟩:=oy h.rl Hi jQ;subst bE
 have IV:len * ii.size≠0:=by
  have:=Nat.mul_pos ki Hi;omega
 have my:Instr.fill (fun i=>some (i * ii.size,ii.size)) ((Array.range (len * ii.size)).map (zv.cells[·% zv.cells.size]!)) (parts.map fun (i,x)=>(i,a.eval x)).toList=some (cellsL vs).toArray:=by
  have h0:=ue ii.size vs 0 ((Array.range (len * ii.size)).map (zv.cells[·% zv.cells.size]!)).toList jT (by simp [IZ,hlen])
  have h1:(parts.map fun (i,x)=>(i,a.eval x)).toList=enumF 0 vs:=by
   rw [Array.toList_map,hp,xy,<- qS]
  rw [h1];simp only [Array.toArray_toList] at h0;rw [h0];simp [IZ,hlen]
 have bZ:(execOp a.eval o).run X.P w = .ok (.value (.slice (some ⟨w.heap.size,0,none⟩) len len)) (w.alloc (.cells (cellsL vs).toArray et)):=by
  simp only [execOp,kK,Sem.run_bind,run_buildSlice w t et len _ _ ii zv hu sr hz (by omega) IV my,Result.andThen_ok,Sem.run_pure]
 refine ir bZ ?_;rw [gW];have hr:=x5 (arr:=cellsL vs) h aT et
 have Sb:(cellsL vs).length=len * ii.size:=by
  have:∀ l:List Value,(∀ v∈l,v.cells.toList.length=ii.size)->(cellsL l).length=l.length * ii.size:=by
   intro l
   induction l with
   | nil=>intro _;simp [cellsL]
   | cons v l ih=>
    intro hl;simp only [cellsL,List.length_append,List.length_cons];rw [ih fun x hx=>hl x (List.mem_cons_of_mem _ hx),hl v List.mem_cons_self,Nat.succ_mul];omega
  rw [this vs jT,IZ,hlen]
 have hr2:=Qj (n:=len) (ty:=et) (e:=ii.size) (cap:=len) hr aT hX (g:=w.heap.size) (cur:=(cellsL vs).toArray) (iW w _) (by simp [Sb]) (Nat.le_refl _) (by
   have:len<=len * ii.size:=Nat.le_mul_of_pos_right _ Hi;unfold maxLen;omega) (fun hm=>by have:=h.env.aZ hm;omega) (fun x v hx ED=>by
   have hx:gn E.c (w.alloc (.cells (cellsL vs).toArray et)) w.heap.size (cellsL vs).length x=some v:=hx;unfold gn at hx;split at hx
   ·rename_i hc;rw [<- Sb];exact hc.2.2
   ·have:=World.block_lt_of_cell? w x (h.env.sub x v hx);omega) (fun j y hy hg=>by
   have:=(h.env.own (mG hy) hg).1
   omega) (h.fr.size)
 refine go_sound 4000 _ _ hk _ _ _ (aV hr2 hd (.sl ii.size es (some st.tk.length)) _ ?_);unfold Rv;refine ⟨_,_,_,rfl,⟨hlen.symm,Nat.le_refl _⟩,fun aN=>⟨rfl,?_⟩,fun k' gm=>?_⟩
 ·have fQ:∀ x v,E.c x=some v->gn E.c (w.alloc (.cells (cellsL vs).toArray et)) w.heap.size (cellsL vs).length x=some v:=fun x v hx=>by
   have ap:=World.block_lt_of_cell? w x (h.env.sub x v hx);unfold gn;rw [if_neg (by omega)];exact hx
  have hm:RvC (En.cl ⟨gn E.c (w.alloc (.cells (cellsL vs).toArray et)) w.heap.size (cellsL vs).length,E.β,E.tk,E.τ⟩) es.flatten (cellsL vs):=Wi.mono (Ext.SJ (E:=E) fQ);refine rvEs_flat hm kj fun j u hj=>?_;show gn _ _ _ _ _=_;have fT:=(gS hj).1;simp only [ab,ao,Nat.zero_add];rw [zJ fT,ch (iW w _)];simpa using hj
 ·cases gm;refine ⟨⟨len,et,ii.size,none⟩,?_,Nat.le_refl _,fun _=>?_⟩
  ·show (E.tk ++ _)[st.tk.length]? = _;rw [h.tk];simp
  ·show (E.τ ++ _)[st.tk.length]? = _;rw [<- h.tk,<- h.env.tl];simp
end
end Dv
end Go.Proofs.YtfifjddnnmfeoaaGreat
