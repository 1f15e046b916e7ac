/- Part 4 of the proof: Rules for the evaluator: a call that is handed the caller's first objects and rows; rows whose cells nobody else knows; lattice.best, and the closures of bounds; lattice.bounds: all joins and meets; lattice.Build; Reading a lattice: Len, has, Name, Find, Join, Meet, Bottom; labels.Of; The checker's part, once check is known for lighter types; The checker's parts, once check is known for lighter types; The checker's one and check, once check is known for lighter types; so check; kinds.Count, resolve.nodes; the builder's level; The builder's end, loops, known; The builder's each, right, called; The builder's each of right; called; places; The builder's places; The builder's edge; The builder's node; Steps of a region that draws its order, one by one; What resolve.Build says of a schema; lattices in which nothing is wrong. No condition. -/
import Derived.Test.YtadhpeooehkklaaGreatMg2
import Derived.Test.YtadhpeooehkklaaGreatMg3
set_option linter.all false
namespace Go.Proofs.YtadhpeooehkklaaGreat
namespace Dv
open Go Go.RowKit
section
variable {X:Ctx} {st:St} {k:List It} {E:En} {a:Act} {w:World}
def Wk (X:Ctx) (st st':St):Prop:=∀ E a w,Rel X E st a w->∃ E',Rel X E' st' a w
theorem Wk.refl (X:Ctx) (st:St):Wk X st st:=fun E _ _ h=>⟨E,h⟩
theorem Wk.trans {X:Ctx} {s1 s2 s3:St} (h1:Wk X s1 s2) (h2:Wk X s2 s3):Wk X s1 s3:=fun _ _ _ h=>by
 obtain ⟨E1,h3⟩:=h1 _ _ _ h;exact h2 _ _ _ h3
theorem Wk.UC {X:Ctx} {s1 s2:St} (h:si X.n0 X.m0 s1 s2):Wk X s1 s2:=fun _ _ _ hr=>vP hr h
theorem DU {f:FuncId} {args bD:List DV} {os:List (List DV)} (n1 m1:Nat) (zg:Nat.ble n1 st.bx.length=true) (j1:Nat.ble m1 st.tk.length=true)
  (sb:nA [] n1 n1 m1 os (st.bx.take n1)) (ha:CcL [] n1 n1 m1 bD args)
  {Φ:DV->List (List DV)->List TkE->Prop} (hc:Ev X.P f bD os (st.tk.take m1) Φ) (aR:X.still=false) (hX:X.bt=[]) {vs:List Value} (h:Rel X E st a w) (hv:RvL E args vs) :
  Calls X.P f vs.toArray w fun e w'=>∃ v r ln dw E',e = .returned v/\Φ r ln dw /\ ln.length=n1/\dw.length=m1/\Rel X E' ⟨st.sl,ln ++ st.bx.drop n1,dw ++ st.tk.drop m1⟩ a w' /\ Rv E' r v/\Ext E E' /\ E'.β=E.β /\
   ∀ (i:Nat) b,n1<=i->E.β[i]? = some b->w'.heap[b]? = w.heap[b]?:=by
 have zg:=nL zg;have j1:=nL j1;have hlen:=h.env.len;have gJ:=h.env.tl;have kM:=h.tk;have htkl:E.tk.length=st.tk.length:=by rw [kM]
 let E1:En:=⟨E.c,E.β.take n1,E.tk.take m1,E.τ.take m1⟩
 have hfz:Ld E E1 [] n1:=⟨fun _ _ h=>h,fun i cs _ hi=>by simp at hi⟩
 have yR:H6 E E1 n1 m1:={
  β:=fun i b hi hb=>by show (E.β.take n1)[i]? = _;rw [List.getElem?_take,if_pos hi];exact hb
  tk:=fun k hk=>⟨by show (E.tk.take m1)[k]? = _;rw [List.getElem?_take,if_pos hk],by show (E.τ.take m1)[k]? = _;rw [List.getElem?_take,if_pos hk]⟩ }
 obtain ⟨jC,WJ⟩:=sb.get;have hosl:os.length=n1:=by rw [jC,List.length_take];omega
 have YD:∀ (j:Nat) y,(E.τ.take m1)[j]? = some y->j < m1/\E.τ[j]? = some y:=fun j y hy=>by
  rw [List.getElem?_take] at hy;split at hy
  ·rename_i hj;exact ⟨hj,hy⟩
  ·cases hy
 have hkg:∀ (j:Nat) q,(E.tk.take m1)[j]? = some q->j < m1/\E.tk[j]? = some q:=fun j y hy=>by
  rw [List.getElem?_take] at hy;split at hy
  ·rename_i hj;exact ⟨hj,hy⟩
  ·cases hy
 have W0:Env E1 os w:={
  len:=by show (E.β.take n1).length=_;rw [List.length_take,hosl];omega
  tl:=by show (E.τ.take m1).length=(E.tk.take m1).length;rw [List.length_take,List.length_take,gJ]
  eU:=fun i cs' hi=>by
   obtain ⟨cs,cW,tI⟩:=WJ i cs' hi;rw [List.getElem?_take] at cW;split at cW
   ·rename_i aj;obtain ⟨b,ty,arr,hb,hw,hc⟩:=h.env.eU i cs cW;exact ⟨b,ty,arr,yR.β i b aj hb,hw,CcL.sound hfz yR tI hc.1,hc.2⟩
   ·cases cW
  inj:=h.env.inj.sublist (List.take_sublist _ _)
  sub:=h.env.sub
  pc:=fun x v hx hm=>h.env.pc x v hx (List.mem_of_mem_take hm)
  cu:=fun j q y hq hy=>by
   obtain ⟨_,hq⟩:=hkg j q hq;obtain ⟨_,hy⟩:=YD j y hy;rcases h.env.cu j q y hq hy with h1 | ⟨g,cap,cur,rfl,h1,h2,h3,h4,h5,h6⟩
   ·exact .inl h1
   ·exact .inr ⟨g,cap,cur,rfl,h1,h2,h3,h4,fun hm=>h5 (List.mem_of_mem_take hm),h6⟩
  jm:=fun j j' y y' g H3 hy fi=>h.env.jm j j' y y' g H3 (YD j y hy).2 (YD j' y' fi).2 }
 refine (hc E1 w _ W0 (by show E.tk.take m1=_;rw [kM]) (CcL.sound hfz yR ha hv)).mono ?_;rintro e w' ⟨v,rfl,hm,_,r,ln,E2,he,hβ,q7,hn,yS,hΦ⟩;have q7:E2.tk.length=E1.tk.length:=q7;have hE1t:E1.tk.length=m1:=by show (E.tk.take m1).length=_;rw [List.length_take];omega
 have hE1τ:E1.τ.length=m1:=by show (E.τ.take m1).length=_;rw [List.length_take];omega
 have hE1β:E1.β.length=n1:=by show (E.β.take n1).length=_;rw [List.length_take];omega
 rw [hE1t] at q7;have hτ2:E2.τ.length=m1:=by rw [he.tl,q7]
 have M3:ln.length=n1:=by rw [<- he.len,hβ,hE1β]
 have hS:∀ j,E1.S j->j∈E.β.take n1∨∃ i y,i < m1/\E.τ[i]? = some y/\y.ownBlock=some j:=fun j hj=>by
  rcases hj with h1 | ⟨y,h1,h2⟩
  ·exact .inl h1
  ·obtain ⟨i,hi,he⟩:=List.getElem_of_mem h1;have eC:E1.τ[i]? = some y:=by rw [gE hi,he]
   obtain ⟨h3,h4⟩:=YD i y eC;exact .inr ⟨i,y,h3,h4,h2⟩
 have hh:∀ j,j < w.heap.size->¬ E1.S j->w'.heap[j]? = w.heap[j]?:=fun j hj bg=>hm.block j hj bg;have fN:∀ (i:Nat) y g,E.τ[i]? = some y->y.ownBlock=some g->g < w.heap.size/\g ∉ E.β:=fun i y g hy hg=>h.env.own (mG hy) hg
 have bT:∀ x v,E2.c x=some v->E.c x=some v∨w.heap.size<=x.block∨∃ i y,i < m1/\E.τ[i]? = some y/\y.ownBlock=some x.block:=fun x v hx=>by
  rcases hn.cn x v hx with h1 | h1 | ⟨y,h1,h2⟩
  ·exact .inl h1
  ·exact .inr (.inl h1)
  ·obtain ⟨i,hi,he⟩:=List.getElem_of_mem h1;have eC:E1.τ[i]? = some y:=by rw [gE hi,he]
   obtain ⟨h3,h4⟩:=YD i y eC;exact .inr (.inr ⟨i,y,h3,h4,h2⟩)
 have sf:∀ (j:Nat) q,j < m1->E.tk[j]? = some q->∃ y q' y',E.τ[j]? = some y/\E2.tk[j]? = some q' /\ E2.τ[j]? = some y' /\ q.ty=q'.ty/\q.e=q'.e/\((q'.n=q.n/\y'=y)∨q.n < q'.n)/\(y'.ownBlock=y.ownBlock∨∀ g,y'.ownBlock=some g->w.heap.size<=g):=fun j q hj hq=>by
  have nD:j < E.τ.length:=by rw [gJ];omega
  obtain ⟨q',y',h1,h2,h3⟩:=hn.tk j q E.τ[j] (by show (E.tk.take m1)[j]? = _;rw [List.getElem?_take,if_pos hj];exact hq) (by show (E.τ.take m1)[j]? = _;rw [List.getElem?_take,if_pos hj,gE nD]);exact ⟨_,q',y',gE nD,h1,h2,h3⟩
 have ID:∀ (j:Nat) y',j < m1->E2.τ[j]? = some y' -> ∃ y,E.τ[j]? = some y/\(y'.ownBlock=y.ownBlock∨∀ g,y'.ownBlock=some g->w.heap.size<=g):=fun j y' hj hy=>by
  have nD:j < E.tk.length:=by omega
  obtain ⟨y,q1,y1,h1,_,h3,_,_,_,h7⟩:=sf j _ hj (gE nD);rw [hy] at h3;simp only [oI] at h3;subst h3;exact ⟨y,h1,h7⟩
 let E':En:=⟨E2.c,E.β,E2.tk ++ E.tk.drop m1,E2.τ ++ E.τ.drop m1⟩
 have eJ:∀ (j:Nat),m1<=j->E'.tk[j]? = E.tk[j]?:=fun j hj=>by
  show (E2.tk ++ E.tk.drop m1)[j]? = _;rw [List.getElem?_append_right (by omega),List.getElem?_drop,q7];congr 1;omega
 have UD:∀ (j:Nat),m1<=j->E'.τ[j]? = E.τ[j]?:=fun j hj=>by
  show (E2.τ ++ E.τ.drop m1)[j]? = _;rw [List.getElem?_append_right (by omega),List.getElem?_drop,hτ2];congr 1;omega
 have LY:∀ (j:Nat),j < m1->E'.tk[j]? = E2.tk[j]?:=fun j hj=>by
  show (E2.tk ++ E.tk.drop m1)[j]? = _;rw [List.getElem?_append_left (by omega)]
 have Pf:∀ (j:Nat),j < m1->E'.τ[j]? = E2.τ[j]?:=fun j hj=>by
  show (E2.τ ++ E.τ.drop m1)[j]? = _;rw [List.getElem?_append_left (by omega)]
 have hx:Ext E E':=⟨hn.c,fun _ _ h=>h,fun j q hq=>by
  rcases Nat.lt_or_ge j m1 with hj | hj
  ·obtain ⟨y,q',y',h1,h2,h3,_,_,h6,_⟩:=sf j q hj hq;refine ⟨q',by rw [LY j hj];exact h2,?_⟩;rcases h6 with ⟨h6,rfl⟩ | h6
   ·exact .inl ⟨h6,by rw [Pf j hj,h3,h1]⟩
   ·exact .inr h6
  ·exact ⟨q,by rw [eJ j hj];exact hq,.inl ⟨rfl,UD j hj⟩⟩⟩
 have Pk:Ext E2 E':={
  c:=fun _ _ h=>h
  β:=fun j b hj=>by
   rw [hβ] at hj;have hj:(E.β.take n1)[j]? = some b:=hj;rw [List.getElem?_take] at hj;split at hj
   ·exact hj
   ·cases hj
  tk:=fun j q hq=>by
   have hj:j < m1:=by have:=(gS hq).1;omega
   exact ⟨q,by rw [LY j hj];exact hq,.inl ⟨rfl,Pf j hj⟩⟩ }
 have bZ:Rel X E' ⟨st.sl,ln ++ st.bx.drop n1,E2.tk ++ st.tk.drop m1⟩ a w':=by
  refine dh h hx ?_ (by show E2.tk ++ E.tk.drop m1=_;rw [kM]) ?_ (h.fr.cM hm.os hm.tape hm.output hm.size fun j hj=>?_) (nC aR) (.nil hX)
  ·exact {
    len:=by show E.β.length=_;rw [List.length_append,List.length_drop,M3,hlen];omega
    tl:=by show (E2.τ ++ E.τ.drop m1).length=(E2.tk ++ E.tk.drop m1).length;simp only [List.length_append,List.length_drop,hτ2,q7,gJ]
    eU:=fun i W1 hi=>by
     rcases Nat.lt_or_ge i n1 with uF | uF
     ·rw [List.getElem?_append_left (by omega)] at hi;obtain ⟨b2,ty2,T9,kR,hw2,lf⟩:=he.eU i W1 hi;exact ⟨b2,ty2,T9,Pk.β i b2 kR,hw2,lf.mono Pk⟩
     ·rw [List.getElem?_append_right (by omega),List.getElem?_drop,M3] at hi;rw [show n1 + (i - n1)=i by omega] at hi;obtain ⟨bj,tyj,Ua,RV,W2,LD⟩:=h.env.eU i W1 hi;refine ⟨bj,tyj,Ua,RV,(hh bj (dg W2) ?_).trans W2,LD.mono hx⟩;intro hs;rcases hS bj hs with h1 | ⟨i',y,_,h2,h3⟩
      ·obtain ⟨i',eC,pF⟩:=List.getElem_of_mem h1;have h4:(E.β.take n1)[i']? = some bj:=by rw [gE eC,pF]
       rw [List.getElem?_take] at h4;split at h4
       ·rename_i aj;have:=(List.getElem?_inj (gS RV).1 h.env.inj).1 (RV.trans h4.symm);omega
       ·cases h4
      ·exact (fN i' y bj h2 h3).2 (mG RV)
    inj:=h.env.inj
    sub:=he.sub
    pc:=fun x v hc lA=>by
     rcases bT x v hc with h1 | h1 | ⟨i,y,_,h2,h3⟩
     ·exact h.env.pc x v h1 lA
     ·have:=h.env.bd lA;omega
     ·exact (fN i y _ h2 h3).2 lA
    cu:=fun j q y hq hy=>by
     rcases Nat.lt_or_ge j m1 with hj | hj
     ·rw [LY j hj] at hq;rw [Pf j hj] at hy;rcases he.cu j q y hq hy with h1 | ⟨g,cap,cur,rfl,h1,h2,h3,h4,h5,h6⟩
      ·exact .inl h1
      ·refine .inr ⟨g,cap,cur,rfl,h1,h2,h3,h4,fun lA=>?_,h6⟩;obtain ⟨y0,h7,h8⟩:=ID j _ hj hy;rcases h8 with h8 | h8
       ·exact (fN j y0 g h7 (by rw [<- h8];rfl)).2 lA
       ·have:=h8 g rfl;have:=h.env.bd lA;omega
     ·rw [eJ j hj] at hq;rw [UD j hj] at hy;rcases h.env.cu j q y hq hy with h1 | ⟨g,cap,cur,rfl,h1,h2,h3,h4,h5,h6⟩
      ·exact .inl h1
      ·have bg:∀ i y',i < m1->E.τ[i]? = some y' -> y'.ownBlock≠some g:=fun i y' hi fi=>h.env.jm j i _ y' g (by omega) hy fi rfl
       have yz:¬ E1.S g:=fun hs=>by
        rcases hS g hs with h7 | ⟨i,y',h7,h8,h9⟩
        ·exact h5 (List.mem_of_mem_take h7)
        ·exact bg i y' h7 h8 h9
       refine .inr ⟨g,cap,cur,rfl,by rw [hh g (dg h1) yz];exact h1,⟨h2.1,h2.2.mono hn.c⟩,h3,h4,h5,fun x v hc hg=>?_⟩
       ·rcases bT x v hc with h7 | h7 | ⟨i,y',h7,h8,h9⟩
        ·exact h6 x v h7 hg
        ·have:=dg h1;omega
        ·exact (bg i y' h7 h8 (by rw [h9,hg])).elim
    jm:=fun j j' y y' g H3 hy fi hg rO=>by
     rcases Nat.lt_or_ge j m1 with hj | hj
     ·rw [Pf j hj] at hy;obtain ⟨y0,h7,h8⟩:=ID j _ hj hy;rcases Nat.lt_or_ge j' m1 with fY | fY
      ·rw [Pf j' fY] at fi;exact he.jm j j' y y' g H3 hy fi hg rO
      ·rw [UD j' fY] at fi;rcases h8 with h8 | h8
       ·exact h.env.jm j j' y0 y' g H3 h7 fi (by rw [<- h8];exact hg) rO
       ·have:=h8 g hg;have:=(fN j' y' g fi rO).1;omega
     ·rw [UD j hj] at hy;rcases Nat.lt_or_ge j' m1 with fY | fY
      ·rw [Pf j' fY] at fi;obtain ⟨y0,h7,h8⟩:=ID j' _ fY fi;rcases h8 with h8 | h8
       ·exact h.env.jm j j' y y0 g H3 hy h7 hg (by rw [<- h8];exact rO)
       ·have:=h8 g rO;have:=(fN j y g hy hg).1;omega
      ·rw [UD j' fY] at fi
       exact h.env.jm j j' y y' g H3 hy fi hg rO }
  ·exact {
    c:=fun x v hc=>hn.c x v (h.nw.c x v hc)
    cn:=fun x v hc=>by
     rcases bT x v hc with h1 | h1 | ⟨i,y,_,h2,h3⟩
     ·exact h.nw.cn x v h1
     ·have:=h.fr.size;exact .inr (.inl (by omega))
     ·rcases h.nw.own h2 h3 with h4 | h4
      ·exact .inr (.inr h4)
      ·exact .inr (.inl h4)
    β:=h.nw.β
    tk:=fun j q0 y0 uU Bi=>by
     obtain ⟨q1,y1,h1,h2,h3,h4,h5,h6⟩:=h.nw.tk j q0 y0 uU Bi;rcases Nat.lt_or_ge j m1 with hj | hj
     ·obtain ⟨y,q',y',g1,g2,g3,g4,g5,g6,g7⟩:=sf j q1 hj h1;rw [h2] at g1;simp only [oI] at g1;subst g1;refine ⟨q',y',by rw [LY j hj];exact g2,by rw [Pf j hj];exact g3,h3.trans g4,h4.trans g5,?_,?_⟩
      ·rcases g6 with ⟨g6,rfl⟩ | g6
       ·rcases h5 with ⟨h5,rfl⟩ | h5
        ·exact .inl ⟨by omega,rfl⟩
        ·exact .inr (by omega)
       ·rcases h5 with ⟨h5,_⟩ | h5
        ·exact .inr (by omega)
        ·exact .inr (by omega)
      ·rcases g7 with g7 | g7
       ·rcases h6 with h6 | h6
        ·exact .inl (g7.trans h6)
        ·exact .inr fun g hg=>h6 g (by rw [<- g7];exact hg)
       ·refine .inr fun g hg=>?_;have:=g7 g hg;have:=h.fr.size;omega
     ·exact ⟨q1,y1,by rw [eJ j hj];exact h1,by rw [UD j hj];exact h2,h3,h4,h5,h6⟩
    tn:=fun j y g yO hy hg=>by
     rcases Nat.lt_or_ge j m1 with hj | hj
     ·rw [Pf j hj] at hy;obtain ⟨y0,h7,h8⟩:=ID j _ hj hy;rcases h8 with h8 | h8
      ·exact h.nw.tn j y0 g yO h7 (by rw [<- h8];exact hg)
      ·have:=h8 g hg;have:=h.fr.size;omega
     ·rw [UD j hj] at hy;exact h.nw.tn j y g yO hy hg
    l0:=h.nw.l0 }
  ·by_cases hjs:E1.S j
   ·left;rcases hS j hjs with h1 | ⟨i,y,_,h2,h3⟩
    ·have Bu:=List.mem_of_mem_take h1;obtain ⟨r0,hr0,Lg⟩:=h.nw.β;rw [hr0] at Bu;rcases List.mem_append.1 Bu with Bu | Bu
     ·exact .inl (.inl Bu)
     ·exact .inr (Lg j Bu)
    ·rcases h.nw.own h2 h3 with h4 | h4
     ·exact .inl (.inr h4)
     ·exact .inr h4
   ·exact .inr (hh j hj hjs)
 refine ⟨v,r,ln,E2.tk,E',rfl,hΦ,M3,q7,bZ,Rv.mono Pk yS,hx,rfl,fun i b hi hb=>?_⟩;refine hh b (h.env.bd (mG hb)) fun hs=>?_;rcases hS b hs with h1 | ⟨i',y,_,h2,h3⟩
 ·obtain ⟨i',eC,pF⟩:=List.getElem_of_mem h1;have h4:(E.β.take n1)[i']? = some b:=by rw [gE eC,pF]
  rw [List.getElem?_take] at h4;split at h4
  ·rename_i aj;have:=(List.getElem?_inj (gS hb).1 h.env.inj).1 (hb.trans h4.symm);omega
  ·cases h4
 ·exact (fN i' y b h2 h3).2 (mG hb)
theorem M4 {f:FuncId} {args bD:List DV} {os:List (List DV)} {d:Nat} (n1 m1:Nat) (mg:Enters X.P f) (hd:fV X.nt st.sl (some d)=true) (zg:Nat.ble n1 st.bx.length=true) (j1:Nat.ble m1 st.tk.length=true)
  (sb:nA [] n1 n1 m1 os (st.bx.take n1)) (ha:CcL [] n1 n1 m1 bD args)
  {Φ:DV->List (List DV)->List TkE->Prop} (hc:Ev X.P f bD os (st.tk.take m1) Φ)
  (hk:∀ r ln dw,Φ r ln dw -> ln.length=n1->dw.length=m1->∃ st',Wk X ⟨(d,⟨[],r⟩) :: st.sl,ln ++ st.bx.drop n1,dw ++ st.tk.drop m1⟩ st' /\ go X 4000 k st') (aR:X.still=false:=by exact rfl) (hX:X.bt=[]:=by exact rfl):gP X f args (some d) k st:=by
 refine ⟨mg,aR,fun E a w vs h hv=>(DU n1 m1 zg j1 sb ha hc aR hX h hv).mono ?_⟩;rintro e w' ⟨v,r,ln,dw,E',rfl,hΦ,M3,q7,bZ,Sn,_,_,_⟩;obtain ⟨st',TU,hU⟩:=hk r ln dw hΦ M3 q7;obtain ⟨E3,hr3⟩:=TU _ _ _ (bz bZ hd r v Sn);exact go_sound 4000 _ _ hU E3 _ w' hr3
theorem jU {f:FuncId} {args bD:List DV} {os:List (List DV)} {d:Nat} (n1 m1:Nat) (mg:Enters X.P f) (hd:fV X.nt st.sl (some d)=true) (zg:Nat.ble n1 st.bx.length=true) (j1:Nat.ble m1 st.tk.length=true)
  (sb:nA [] n1 n1 m1 os (st.bx.take n1)) (ha:CcL [] n1 n1 m1 bD args)
  {Φ:DV->List (List DV)->List TkE->Prop} (hc:Ev X.P f bD os (st.tk.take m1) Φ)
  (hk:∀ r ln dw,Φ r ln dw -> ln.length=n1->dw.length=m1->go X 4000 k ⟨(d,⟨[],r⟩) :: st.sl,ln ++ st.bx.drop n1,dw ++ st.tk.drop m1⟩) (aR:X.still=false:=by exact rfl) (hX:X.bt=[]:=by exact rfl):gP X f args (some d) k st:=
 M4 n1 m1 mg hd zg j1 sb ha hc (fun r ln dw h1 h2 h3=>⟨_,Wk.refl _ _,hk r ln dw h1 h2 h3⟩) aR hX
theorem Kb {all:Array Oper} {o1 o2 o3:Oper} {r:List Oper} {d1 d2 kt t sT f off ft ty et e jL m wS nn:Nat} {bb:Bool} {zz:List Value} {z:Int} {kd:IntKind} {es:List (List DV)} {cs:List DV} {s ix x:Operand} {dv YE:DV}
  (h1:o1.op = .indexAddr t s ix/\o1.dst=some d1) (h2:o2.op = .fieldAddr sT (.tmp d1) f/\o2.dst=some d2/\o2.guard=none) (h3:o3.op = .store ty (.tmp d2) x/\o3.dst=none/\o3.guard=none)
  (yY:fV X.nt st.sl (some d1)=true) (JH:fV X.nt ((d1,⟨[],.pt [] 0⟩) :: st.sl) (some d2)=true)
  (hs:rv st [] s=some (.sl 0 es (some kt))) (hi:rv st [] ix=some (.v (.int kd z))) (hx:rv ⟨(d2,⟨[],.pt [] 0⟩) :: (d1,⟨[],.pt [] 0⟩) :: st.sl,st.bx,st.tk⟩ [] x=some dv) (YF:eraD dv=some YE) (UE:dv.cells=[dv])
  (hT:X.T.find t=some ⟨nn,bb,.sl et e jL,zz⟩) (Bj:X.T.off sT f=some (off,ft)) (bL:X.T.sz ty=some 1)
  (hq:st.tk[kt]? = some ⟨m,wS,e,some cs⟩) (gh:es.length=m) (hz:0<=z/\z < m) (ng:off + 1<=e)
  (hk:go X 4000 (.ops all r :: k) ⟨(d2,⟨[],.pt [] 0⟩) :: (d1,⟨[],.pt [] 0⟩) :: st.sl,st.bx,st.tk.set kt ⟨m,wS,e,some (cs.set (z.toNat * e + off) YE)⟩⟩)
  (aR:X.still=false:=by exact rfl):K8 X o1 (.ops all (o2 :: o3 :: r) :: k) st:=by
 intro E a w h;have ed:=h.rl;have e1:=ba ed hs;have e2:=ct (ba ed hi);unfold Rv at e1;obtain ⟨bs,ns,nE,e1,⟨yz,F1⟩,TI,F2⟩:=e1;subst yz;obtain ⟨q',iR,_,TJ⟩:=F2 kt rfl;have jY:E.tk[kt]? = some ⟨m,wS,e,some cs⟩:=by rw [h.tk];exact hq
 rw [jY] at iR;simp only [oI] at iR;subst iR;have hy:=TJ gh;rw [e1,gh] at hy;rw [gh] at e1;have nj:=h.env.cu kt _ _ jY hy;rcases nj with ⟨rP,kJ,_⟩ | ⟨g,cap,cur,rP,hw0,⟨vJ,C7⟩,vK,yP,ie,Jz⟩
 ·simp only at kJ;omega
 injection rP with i1 i2 i3
 subst i1 i3;obtain ⟨hu,ii,zv,qB,_,UF,_,_⟩:=fb X.hT hT;have qC:iJ X.P et=some e:=by rw [fO qB,UF]
 have YG:(execOp a.eval o1).run X.P w = .ok (.value (.pointer (some ⟨g,z.toNat * e,none⟩))) w:=by
  have cm:(Instr.indexAt t (.slice (some ⟨g,0,none⟩) m nE) (.int kd z)).run X.P w = .ok (.pointer (some ⟨g,z.toNat * e,none⟩)) w:=by
   simp [Instr.indexAt,asIntOf,run_underlying hu,hz.1,hz.2,aN qC,Addr.add_lit]
  simp only [execOp,h1.1,e1,e2,Sem.run_bind,cm,Result.andThen_ok,Sem.run_pure]
 refine lC YG ?_;rw [h1.2];have hr1:Rel X E ⟨(d1,⟨[],.pt [] 0⟩) :: st.sl,st.bx,st.tk⟩ (a.put (some d1) (.pointer (some ⟨g,z.toNat * e,none⟩))) w:=bz h yY (.pt [] 0) _ (by unfold Rv;exact ⟨g,z.toNat * e,rfl,by simp only [RvAt]⟩);generalize ha1:a.put (some d1) (.pointer (some ⟨g,z.toNat * e,none⟩))=a1 at hr1
 have ht1:a1.eval (.tmp d1) = .pointer (some ⟨g,z.toNat * e,none⟩):=by
  subst ha1;simp only [fV,Bool.and_eq_true,Nat.blt_eq] at yY;simp [Act.eval,Act.put,h.sz,yY.1]
 show kq X (.ops all (o2 :: o3 :: r) :: k) .normal a1 w;simp only [kq,wpList,Region.wanted,h2.2.2,h3.2.2,if_true];refine .inl (lC (v:=.pointer (some ⟨g,z.toNat * e + off,none⟩)) (w':=w) ?_ ?_)
 ·simp only [execOp,h2.1,ht1,Sem.run_bind,jP (r6 X.hT Bj),Result.andThen_ok,Sem.run_pure]
 rw [h2.2.1];have hr2:Rel X E ⟨(d2,⟨[],.pt [] 0⟩) :: (d1,⟨[],.pt [] 0⟩) :: st.sl,st.bx,st.tk⟩ (a1.put (some d2) (.pointer (some ⟨g,z.toNat * e + off,none⟩))) w:=bz hr1 JH (.pt [] 0) _ (by unfold Rv;exact ⟨g,z.toNat * e + off,rfl,by simp only [RvAt]⟩);generalize H5:a1.put (some d2) (.pointer (some ⟨g,z.toNat * e + off,none⟩))=a2 at hr2
 have ht2:a2.eval (.tmp d2) = .pointer (some ⟨g,z.toNat * e + off,none⟩):=by
  subst H5;simp only [fV,Bool.and_eq_true,Nat.blt_eq] at JH;simp [Act.eval,Act.put,hr1.sz,JH.1]
 have e3:=ba hr2.rl hx
 have eD:RvC E [dv] (a2.eval x).cells.toList:=by
  have:=e3.cells (iM (n:=1) (by rw [UE];rfl) (by omega))
  rwa [UE] at this
 have yw:(a2.eval x).cells.toList.length=1:=by rw [eD.1.length];all_goals rfl
 obtain ⟨xv,V6⟩:∃ xv,(a2.eval x).cells.toList=[xv]:=by
  match hh:(a2.eval x).cells.toList,yw with
  | [y],_=>exact ⟨y,rfl⟩
 obtain ⟨h5,h6⟩:=C7 cs rfl;simp only at h5 h6 vJ hw0 vK;have M5:cur.toList.length=nE * e:=sU vJ;have UG:m * e<=nE * e:=Nat.mul_le_mul_right _ vK
 have jF:z.toNat * e + off + 1<=m * e:=by
  have:(z.toNat + 1) * e<=m * e:=Nat.mul_le_mul_right _ (by omega);rw [Nat.add_mul] at this;omega
 have vI:=jQ (P:=X.P) (t:=ty) (off:=z.toNat * e + off) (n:=1) hw0 (C2 X.hT bL) yw (by rw [vJ];omega) (List.all_eq_true.2 eD.2);refine .inl (PF (w':=World.dF w g (.cells ((cur.toList.take (z.toNat * e + off) ++ (a2.eval x).cells.toList ++ cur.toList.drop (z.toNat * e + off + 1)).toArray) wS (0,0))) ?_ ?_)
 ·simp only [execOp,h3.1,ht2,Instr.storeAt,Instr.sureAddr,Sem.run_bind,Sem.run_pure,Result.andThen_ok,vI]
 rw [h3.2.1]
 have pz:cur.toList.take (z.toNat * e + off) ++ (a2.eval x).cells.toList ++ cur.toList.drop (z.toNat * e + off + 1)=cur.toList.set (z.toNat * e + off) xv:=by
  rw [V6,List.set_eq_take_append_cons_drop,if_pos (by omega)];simp
 rw [pz]
 have hx1:RvC E.cl [YE] [xv]:=by
  rw [V6] at eD;have h7:=eD.1;simp only [RvL] at h7;obtain ⟨v,s',h8,h9,zk⟩:=h7;simp only [List.cons.injEq] at h8;obtain ⟨rfl,rfl⟩:=h8;exact ⟨rvL_cons (vH YF h9) (by simp only [RvL]),eD.2⟩
 have nr:C0 (World.dF w g (.cells (cur.toList.set (z.toNat * e + off) xv).toArray wS (0,0))) E.c E.β ⟨m,wS,e,some (cs.set (z.toNat * e + off) YE)⟩ (.slice (some ⟨g,0,none⟩) m nE):=by
  refine .inr ⟨g,nE,_,rfl,gO hw0,⟨by simpa using M5,fun cs' C4=>?_⟩,vK,yP,ie,Jz⟩;simp only [oI] at C4;subst C4;simp only;refine ⟨by rw [List.length_set];exact h5,?_⟩;rw [List.take_set];have aj:z.toNat * e + off < (cur.toList.take (m * e)).length:=by rw [List.length_take];omega
  rw [List.set_eq_take_append_cons_drop,if_pos (by omega),List.set_eq_take_append_cons_drop,if_pos aj];have h8:=(RvC.take (z.toNat * e + off) h6).append (RvC.append hx1 (RvC.drop (z.toNat * e + off + 1) h6));simpa using h8
 have zt:some g≠some g->False:=fun h=>h rfl
 obtain ⟨bZ,hext⟩:=Bl (q':=⟨m,wS,e,some (cs.set (z.toNat * e + off) YE)⟩) (w':=World.dF w g (.cells (cur.toList.set (z.toNat * e + off) xv).toArray wS (0,0))) hr2 aR jY hy rfl rfl rfl (.inl ⟨rfl,rfl⟩) nr (.inl rfl) rfl rfl rfl (by rw [fp];exact Nat.le_refl _) (fun j _ bg=>cT (by
  rintro rfl
  exact bg rfl))
 exact go_sound 4000 _ _ hk _ _ _ bZ
open Classical in
noncomputable def sI (E:En) (w:World) (y:Value) (n:Nat):Addr->Option Value:=
 fun x=>if y.ownBlock=some x.block/\x.spot=none/\x.off < n then w.cell? x else E.c x
theorem fF {y:Value} {n:Nat} {x:Addr} {v:Value} (h:sI E w y n x=some v):(y.ownBlock=some x.block/\x.spot=none/\x.off < n/\w.cell? x=some v)∨E.c x=some v:=by
 unfold sI at h;split at h
 ·rename_i hc;exact .inl ⟨hc.1,hc.2.1,hc.2.2,h⟩
 ·exact .inr h
theorem Qm (h:Rel X E st a w) {k n ty e:Nat} {cs:List DV} {ns:List (List DV)} (hq:st.tk[k]? = some ⟨n,ty,e,some cs⟩) (cW:cs=ns.flatten) (yz:∀ x∈ns,x.length=e) (fc:ns.length=n) :
  ∃ E',Rel X E' ⟨st.sl,st.bx,st.tk.set k ⟨n,ty,e,none⟩⟩ a w/\Ext E E' /\ ∀ es y,es.length=n->Rv E (.sl 0 es (some k)) y->Rv E' (.sl e ns (some k)) y:=by
 subst cW;have jY:E.tk[k]? = some ⟨n,ty,e,some ns.flatten⟩:=by rw [h.tk];exact hq
 have jB:=(gS jY).1;have WB:k < E.τ.length:=by rw [h.env.tl];exact jB
 have hv:E.τ[k]? = some E.τ[k]:=gE WB;generalize E.τ[k]=v at hv;have nj:=h.env.cu k _ v jY hv
 have dq:∀ x u,E.c x=some u->sI E w v (n * e) x=some u:=fun x u hx=>by
  unfold sI;split
  ·exact h.env.sub x u hx
  ·exact hx
 have hext:Ext E ⟨sI E w v (n * e),E.β,E.tk.set k ⟨n,ty,e,none⟩,E.τ⟩:=⟨dq,fun _ _ h=>h,fun j q M6=>by
  by_cases hj:j=k
  ·subst hj;rw [jY] at M6;simp only [oI] at M6;subst M6;exact ⟨_,List.getElem?_set_self jB,.inl ⟨rfl,rfl⟩⟩
  ·exact ⟨q,by rw [List.getElem?_set_ne (Ne.symm hj)];exact M6,.inl ⟨rfl,rfl⟩⟩⟩
 refine ⟨⟨sI E w v (n * e),E.β,E.tk.set k ⟨n,ty,e,none⟩,E.τ⟩,dh h hext ?_ (by rw [h.tk]) ?_ h.fr h.sh h.bt,hext,?_⟩
 ·exact {
   len:=h.env.len
   tl:=by simp only [List.length_set];exact h.env.tl
   eU:=fun i cs hi=>by
    obtain ⟨b,t,arr,hb,hw,hc⟩:=h.env.eU i cs hi;exact ⟨b,t,arr,hb,hw,hc.mono hext⟩
   inj:=h.env.inj
   sub:=fun x u hx=>by
    rcases fF hx with ⟨_,_,_,h1⟩ | h1
    ·exact h1
    ·exact h.env.sub x u h1
   pc:=fun x u hx hm=>by
    rcases fF hx with ⟨h1,_⟩ | h1
    ·exact (iQ nj h1).2 hm
    ·exact h.env.pc x u h1 hm
   cu:=fun j q y hj hy=>by
    by_cases JF:j=k
    ·subst JF;have fY:(E.tk.set j ⟨n,ty,e,none⟩)[j]? = some q:=hj;rw [List.getElem?_set_self jB] at fY;have fi:E.τ[j]? = some y:=hy;rw [hv] at fi;simp only [oI] at fY fi;subst fY fi;rcases nj with ⟨h1,h2,_⟩ | ⟨g,cap,cur,rfl,h1,h2,h3,h4,h5,h6⟩
     ·exact .inl ⟨h1,h2,fun cs hc=>by cases hc⟩
     ·refine .inr ⟨g,cap,cur,rfl,h1,⟨h2.1,qv.none rfl⟩,h3,h4,h5,fun x u hx FL=>?_⟩;rcases fF hx with ⟨_,_,h7,_⟩ | h7
      ·exact h7
      ·have:=h6 x u h7 FL;simp only [TkE.kn] at this;omega
    ·have fY:E.tk[j]? = some q:=by
      have:(E.tk.set k ⟨n,ty,e,none⟩)[j]? = some q:=hj
      rwa [List.getElem?_set_ne (Ne.symm JF)] at this
     rcases h.env.cu j q y fY hy with h1 | ⟨g,cap,cur,rfl,h1,h2,h3,h4,h5,h6⟩
     ·exact .inl h1
     ·refine .inr ⟨g,cap,cur,rfl,h1,⟨h2.1,h2.2.mono dq⟩,h3,h4,h5,fun x u hx FL=>?_⟩;rcases fF hx with ⟨h7,_⟩ | h7
      ·exact (h.env.jm j k _ v g JF hy hv rfl (by rw [h7,FL])).elim
      ·exact h6 x u h7 FL
   jm:=h.env.jm }
 ·exact {
   c:=fun x u hx=>dq x u (h.nw.c x u hx)
   cn:=fun x u hx=>by
    rcases fF hx with ⟨h1,_⟩ | h1
    ·rcases h.nw.own hv h1 with h2 | h2
     ·exact .inr (.inr h2)
     ·exact .inr (.inl h2)
    ·exact h.nw.cn x u h1
   β:=h.nw.β
   tk:=fun j q0 y0 uU Bi=>by
    obtain ⟨q1,y1,h1,h2,h3,h4,h5,h6⟩:=h.nw.tk j q0 y0 uU Bi;by_cases hj:j=k
    ·subst hj;rw [jY] at h1;simp only [oI] at h1;subst h1;exact ⟨_,y1,List.getElem?_set_self jB,h2,h3,h4,h5,h6⟩
    ·exact ⟨q1,y1,by rw [List.getElem?_set_ne (Ne.symm hj)];exact h1,h2,h3,h4,h5,h6⟩
   tn:=fun j y g hj hy=>h.nw.tn j y g hj hy
   l0:=h.nw.l0 }
 ·intro es y gh hy;unfold Rv at hy ⊢;obtain ⟨b,m,cap,rfl,⟨rfl,hmc⟩,hr,aR⟩:=hy;obtain ⟨q',iR,_,hτ⟩:=aR k rfl;rw [jY] at iR;simp only [oI] at iR;subst iR;have hy:=hτ gh;rw [hv] at hy;simp only [oI] at hy;subst hy;refine ⟨b,es.length,cap,rfl,⟨by omega,hmc⟩,fun bg=>?_,fun k' eJ=>?_⟩
  ·rcases nj with ⟨h1,h2,h3⟩ | ⟨g,TA,cur,h0,h1,h2,h3,h4,h5,h6⟩
   ·simp only at h2;exact (bg (List.eq_nil_of_length_eq_zero (by omega))).elim
   ·injection h0 with i1 i2 i3
    subst i1;refine ⟨rfl,?_⟩;obtain ⟨h7,h8⟩:=h2.2 _ rfl;refine rvEs_flat (h8.mono (E:=⟨E.c,[],[],[]⟩) ⟨dq,fun _ _ h=>by simp at h,fun _ _ h=>by simp at h⟩) yz fun j u hj=>?_;rw [List.getElem?_take] at hj;split at hj
    ·rename_i nD;show sI E w _ (n * e) _=_;unfold sI;rw [if_pos ⟨rfl,rfl,by simpa [ao] using nD⟩];simp only [ab,ao,Nat.zero_add];rw [cF h1];simpa using hj
    ·cases hj
  ·cases eJ;exact ⟨_,List.getElem?_set_self jB,by simp only;omega,fun _=>hv⟩
theorem GJ {j o k n ty e:Nat} {ocs:List DV} {es ns:List (List DV)} (hq:st.tk[k]? = some ⟨n,ty,e,some ns.flatten⟩) (yz:∀ x∈ns,x.length=e) (fc:ns.length=n) (hj:st.bx[j]? = some ocs) (ho:ocs[o]? = some (.sl 0 es (some k))) (gh:es.length=n) :
  Wk X st ⟨st.sl,st.bx.set j (ocs.set o (.sl e ns none)),st.tk.set k ⟨n,ty,e,none⟩⟩:=by
 intro E a w h;obtain ⟨E',hr,hx,sf⟩:=Qm h hq rfl yz fc;refine ⟨E',{ hr with env:=?_ }⟩
 exact { hr.env with
  len:=by simp only [List.length_set];exact hr.env.len
  eU:=fun i cs' hi=>by
   by_cases jj:i=j
   ·subst jj;have aj:=(gS hj).1;have eC:(st.bx.set i (ocs.set o (.sl e ns none)))[i]? = some cs':=hi;rw [List.getElem?_set_self aj] at eC;simp only [oI] at eC;subst eC;obtain ⟨b,t,arr,hb,hw,hc⟩:=hr.env.eU i ocs hj;obtain ⟨b0,t0,JA,ie,hw0,Jz⟩:=h.env.eU i ocs hj;have o9:=hx.β i b0 ie;rw [hb] at o9;simp only [oI] at o9;subst o9;rw [hw] at hw0;simp only [oI,Obj.cells.injEq] at hw0
    have Mp:arr=JA:=by
     have:=hw0.1;simpa using this
    subst Mp;refine ⟨b,t,arr,hb,hw,?_,hc.2⟩;obtain ⟨v,nq,vC⟩:=Jz.1.get ho;have Sn:=sf es v gh vC;have jC:=(gS ho).1;have o0:arr.length=ocs.length:=hc.1.length
    have h1:=(RvL.take o hc.1).append (rvL_cons (d:=.sl e ns none) (v:=v) (by
     unfold Rv at Sn ⊢;obtain ⟨b,n,cap,g1,g2,g3,_⟩:=Sn
     exact ⟨b,n,cap,g1,g2,g3,fun k hk=>by cases hk⟩) (RvL.drop (o + 1) hc.1))
    rw [List.set_eq_take_append_cons_drop,if_pos jC]
    have h2:arr.take o ++ v :: arr.drop (o + 1)=arr:=by
     have hoa:o < arr.length:=by omega
     have:arr[o]=v:=by
      rw [gE hoa] at nq;simpa using nq
     rw [<- this];simp
    rwa [h2] at h1
   ·have eC:(st.bx.set j (ocs.set o (.sl e ns none)))[i]? = some cs':=hi;rw [List.getElem?_set_ne (Ne.symm jj)] at eC
    exact hr.env.eU i cs' eC }
theorem Wk.Gf (i j:Nat) (S S':St) (he:S'=dJ i j S) (K9:Nat.ble X.n0 i=true) (yO:Nat.ble X.n0 j=true) (hi:Nat.blt i S.bx.length=true) (hj:Nat.blt j S.bx.length=true) (hX:X.bt=[]:=by exact rfl):Wk X S' S:=fun E a w h=>by
 subst he;simp only [Nat.blt_eq] at hi hj;exact uY hX h (nL K9) (nL yO) hi hj
theorem BS {c:Code} (I:Nat->St->Prop) (j0:Nat) (ig:St) (hw:Wk X st ig) (h0:I j0 ig)
  (hr:∀ j s,I j s->go X 4000 (.code c :: .rM (fun s'=>∃ Dd,Wk X s' Dd /\ ∃ j',j' < j/\I j' Dd) :: k) s):o7 X c k st:=by
 intro E a w h;obtain ⟨E0,hr0⟩:=hw _ _ _ h
 classical
 let Inv:Act->World->Prop:=fun a w=>∃ j s E,Rel X E s a w/\I j s
 let μ:Act->World->Nat:=fun a w=>if hI:Inv a w then Classical.choose (least hI) else 0
 refine wp_loop Inv μ ⟨j0,ig,E0,hr0,h0⟩ ?_;intro a1 w1 hI;have zr:=(Classical.choose_spec (least hI)).1;obtain ⟨s,E1,bZ,hIs⟩:=zr;have hs:=go_sound 4000 _ _ (hr _ s hIs) E1 a1 w1 bZ;rw [fq] at hs;refine wp_mono hs ?_;intro e a2 w2 hq
 cases e with
 | normal=>
  obtain ⟨s',E2,nG,Dd,TU,j',fY,WM⟩:=hq;obtain ⟨E3,De⟩:=TU _ _ _ nG;have TV:Inv a2 w2:=⟨j',Dd,E3,De,WM⟩;refine ⟨TV,?_⟩;simp only [μ,dif_pos hI,dif_pos TV];exact Nat.lt_of_le_of_lt ((Classical.choose_spec (least TV)).2 j' ⟨Dd,E3,De,WM⟩) fY
 | exit id=>exact hq
 | goto l=>exact hq
 | ret=>exact hq
 | panic c=>exact hq
 | outgrown=>exact hq
mutual
def flatD:DV->Bool
 | .v _=>true
 | .agg l=>flatL l
 | .tup l=>flatL l
 | _=>false
def flatL:List DV->Bool
 | []=>true
 | d :: r=>flatD d && flatL r
end
mutual
theorem Rv.flat {E E':En}:∀ {d:DV} {v:Value},flatD d=true->Rv E d v->Rv E' d v
 | .v x,v,_,h=>by unfold Rv at h ⊢;exact h
 | .agg l,v,hf,h=>by
  simp only [flatD] at hf;simp only [Rv] at h ⊢;obtain ⟨vs,h1,h2,h3⟩:=h;exact ⟨vs,h1,RvL.flat hf h2,h3⟩
 | .tup l,v,hf,h=>by
  simp only [flatD] at hf;simp only [Rv] at h ⊢;obtain ⟨vs,h1,h2⟩:=h;exact ⟨vs,h1,RvL.flat hf h2⟩
 | .ud,_,hf,_=>by simp [flatD] at hf
 | .sl _ _ _,_,hf,_=>by simp [flatD] at hf
 | .pt _ _,_,hf,_=>by simp [flatD] at hf
 | .loc _ _,_,hf,_=>by simp [flatD] at hf
 | .el _ _,_,hf,_=>by simp [flatD] at hf
 | .ms _ _ _ _ _,_,hf,_=>by simp [flatD] at hf
 | .fn _ _ _,_,hf,_=>by simp [flatD] at hf
 | .rZ _ _,_,hf,_=>by simp [flatD] at hf
theorem RvL.flat {E E':En}:∀ {l:List DV} {vs:List Value},flatL l=true->RvL E l vs->RvL E' l vs
 | [],vs,_,h=>by simpa only [RvL] using h
 | d :: r,vs,hf,h=>by
  simp only [flatL,Bool.and_eq_true] at hf;simp only [RvL] at h ⊢;obtain ⟨v,s,h1,h2,h3⟩:=h;exact ⟨v,s,h1,Rv.flat hf.1 h2,RvL.flat hf.2 h3⟩
end
theorem u4 {f:FuncId} {args bD:List DV} {d:Nat} {y:DV} (mg:Enters X.P f) (hc:aQ X.P f bD y) (ha:CcL st.bx 0 0 0 bD args) (hy:flatD y=true) (hd:fV X.nt st.sl (some d)=true)
  (hk:go X 4000 k ⟨(d,⟨[],y⟩) :: st.sl,st.bx,st.tk⟩) (aR:X.still=false:=by exact rfl):gP X f args (some d) k st:=by
 refine ⟨mg,aR,fun E a w vs h hv=>(jT h.env hc ha hv).mono ?_⟩;rintro e w' ⟨v,E2,rfl,hr,hm,_⟩;have hh:∀ i,i < w.heap.size->w'.heap[i]? = w.heap[i]?:=fun i hi=>hm.block i hi (fun h=>h);have bZ:Rel X E st a w':=dh h (Ext.refl E) (h.env.jS hh) h.tk h.nw (h.fr.cM hm.os hm.tape hm.output hm.size fun i hi=>.inr (hh i hi)) (nC aR) (h.bt.jS fun b hb=>hh b (h.env.bd hb));exact go_sound 4000 _ _ hk E _ w' (bz bZ hd y v (Rv.flat hy hr))
theorem jV {D:Dr} {c:Bool} {i:Nat} {s0:List (Nat × Sl)} {f:FuncId} {args bD:List DV} {d:Nat} {y:DV} {r:List (Nat × Oper)} (mg:Enters X.P f) (hc:aQ X.P f bD y) (ha:CcL st.bx 0 0 0 bD args) (hy:flatD y=true) (hd:(fV X.nt st.sl (some d) && fV X.nt s0 (some d))=true)
  (hk:put2 s0 st (some d) true [] y (goD X D 3000 c r)) (aR:X.still=false:=by exact rfl):zu X D c i r f args (some d) s0 st:=by
 refine ⟨mg,fun hl E0 wr hD E a w vs h hv=>(jT h.rel.env hc ha hv).mono ?_⟩;rintro e w' ⟨v,E2,rfl,hr,hm,_⟩;have hh:∀ i,i < w.heap.size->w'.heap[i]? = w.heap[i]?:=fun i hi=>hm.block i hi (fun h=>h);have bZ:Rel X E st a w':=dh h.rel (Ext.refl E) (h.rel.env.jS hh) h.rel.tk h.rel.nw (h.rel.fr.cM hm.os hm.tape hm.output hm.size fun i hi=>.inr (hh i hi)) (nC aR) (h.rel.bt.jS fun b hb=>hh b (h.rel.env.bd hb));have hs:cQ none E w E w':=⟨Ext.refl E,⟨[],by simp⟩,fun j b hb _=>hh b (h.rel.env.bd (mG hb))⟩;have hC:=Dj h hs bZ (fun j hj=>by cases hj);refine ⟨v,rfl,fun _=>hC,?_⟩;have LX:fw X ⟨D,E0,wr⟩ c E s0 st (a.put none v) w':=vR h hs bZ (fun h1=>hC (h.cc h1)) (fun i x hx=>.inr ⟨hx,fun d hd=>by cases hd⟩) rfl;obtain ⟨s1,qj,jG,fj⟩:=kk LX hd true [] y v (fun _ _ p hp=>by cases hp) (fun _=>Rv.flat hy hr) (fun _ _=>Rv.flat hy hr) (fun hn=>(hn (bw _)).elim) hk;exact eo (D:=⟨D,E0,wr⟩) hD 3000 c r _ _ jG hl E _ w' fj
theorem gP.Gf {S:St} {f:FuncId} {args bD:List DV} {dst:Option Nat} (i j:Nat) (hS:st=dJ i j S) (ha:args=renL (swp i j) bD) (K9:Nat.ble X.n0 i=true) (yO:Nat.ble X.n0 j=true) (hi:Nat.blt i S.bx.length=true) (hj:Nat.blt j S.bx.length=true)
  (h:gP X f bD dst k S) (hX:X.bt=[]:=by exact rfl):gP X f args dst k st:=by
 subst hS ha;simp only [Nat.blt_eq] at hi hj;refine ⟨h.1,h.2.1,fun E a w vs hr hv=>?_⟩
 have hlen:E.β.length=S.bx.length:=by
  rw [hr.env.len];simp only [dJ,cO,cI]
 exact h.2.2 _ a w vs (Dm hX hr (nL K9) (nL yO) hi hj) (RvL.Gf (by rw [hlen];exact hi) (by rw [hlen];exact hj) hv)
end
end Dv
end Go.Proofs.YtadhpeooehkklaaGreat
set_option maxRecDepth 100000
namespace Go.Proofs.YtadhpeooehkklaaGreat
open Go Go.RowKit Dv Go.Proofs.Tryz
def cZ (l:List Int):List DV:=l.map fun z=>DV.v (.int .i64 z)
def GK (af:List ByteArray) (tb lq:DV) (js:List Int):List DV:=.sl 1 (eV af) none :: tb :: lq :: cZ js
def oz:Option Nat->Int
 | none=>-1
 | some k=>(k:Int)
def DW (pb:Nat->Nat->Bool) (e:Nat):Option Nat->Bool
 | none=>true
 | some o=>pb e o
def bestA (lp:Nat->Bool) (pb:Nat->Nat->Bool):Nat->Option Nat
 | 0=>none
 | e + 1=>if lp e && DW pb e (bestA lp pb e) then some e else bestA lp pb e
def nR (lp:Nat->Bool) (pb:Nat->Nat->Bool) (n:Nat):Option Nat:=
 match bestA lp pb n with
 | none=>none
 | some o=>if (List.range n).any (fun c=>lp c && !pb o c) then none else some o
theorem nS {lp:Nat->Bool} {pb:Nat->Nat->Bool}:∀ {e k:Nat},bestA lp pb e=some k->k < e
 | 0,k,h=>by cases h
 | e + 1,k,h=>by
  rw [bestA] at h;split at h
  ·simp only [oI] at h;omega
  ·have:=nS h;omega
theorem sJ (af:List ByteArray) (tb:DV) (rows:List Nat) (js:List Int) (hr:eH rows) (a b:Nat) (ha:a < rows.length) (hb:b < rows.length) :
  aQ prog 153 [.v (.int .i64 a),.v (.int .i64 b),.pt [.pt (GK af tb (ni rows) js) 0] 0] (.v (.bool (aX rows a b))):=by
 have h1:=oD rows hr a b;rw [qW ha hb] at h1;refine eG 13 [.tmp 5] func153 rfl ntmps153 rfl fun _ _ _ _=>?_;refine cP Il h1 ?_;exact (rfl:_=_)
theorem sK (af:List ByteArray) (tb:DV) (rows:List Nat) (js:List Int) (hr:eH rows) (a b:Nat) (ha:a < rows.length) (hb:b < rows.length) :
  aQ prog 155 [.v (.int .i64 a),.v (.int .i64 b),.pt [.pt (GK af tb (ni rows) js) 0] 0] (.v (.bool (aX rows b a))):=by
 have h1:=oD rows hr b a;rw [qW hb ha] at h1;refine eG 13 [.tmp 5] func155 rfl ntmps155 rfl fun _ _ _ _=>?_;refine cP Il h1 ?_;exact (rfl:_=_)
abbrev SC (L:List DV):DV:=.fn 153 [] [.pt [.pt L 0] 0]
abbrev SD (L:List DV):DV:=.fn 155 [] [.pt [.pt L 0] 0]
theorem Kc (af:List ByteArray) (tb:DV) (rows:List Nat) (js:List Int) (hr:eH rows) (a b c:Nat) (ha:a < rows.length) (hb:b < rows.length) (hc:c < rows.length) :
  aQ prog 157 [.v (.int .i64 c),.pt [SC (GK af tb (ni rows) js)] 0,.pt [.v (.int .i64 a)] 0,.pt [.v (.int .i64 b)] 0] (.v (.bool (aX rows a c && aX rows b c))):=by
 have h1:=sJ af tb rows js hr a c ha hc;have h2:=sJ af tb rows js hr b c hb hc;refine eG 16 [.tmp 5] func157 rfl ntmps157 rfl fun _ _ _ _=>?_;refine cP Mb h1 ?_;refine br ?_ ?_<;>intro g
 ·have g:aX rows a c=true:=sU g;refine cP Mb h2 ?_;refine (congrArg (fun b=>DV.v (.bool b)) ?_:_=_);simp [g,pickB]
 ·have g:aX rows a c=false:=sU g;refine (congrArg (fun b=>DV.v (.bool b)) ?_:_=_);simp [g,pickB]
theorem Kd (af:List ByteArray) (tb:DV) (rows:List Nat) (js:List Int) (hr:eH rows) (a b c:Nat) (ha:a < rows.length) (hb:b < rows.length) (hc:c < rows.length) :
  aQ prog 158 [.v (.int .i64 c),.pt [SD (GK af tb (ni rows) js)] 0,.pt [.v (.int .i64 a)] 0,.pt [.v (.int .i64 b)] 0] (.v (.bool (aX rows c a && aX rows c b))):=by
 have h1:=sK af tb rows js hr a c ha hc;have h2:=sK af tb rows js hr b c hb hc;refine eG 16 [.tmp 5] func158 rfl ntmps158 rfl fun _ _ _ _=>?_;refine cP Mc h1 ?_;refine br ?_ ?_<;>intro g
 ·have g:aX rows c a=true:=sU g;refine cP Mc h2 ?_;refine (congrArg (fun b=>DV.v (.bool b)) ?_:_=_);simp [g,pickB]
 ·have g:aX rows c a=false:=sU g;refine (congrArg (fun b=>DV.v (.bool b)) ?_:_=_);simp [g,pickB]
abbrev UH (L:List DV) (gi gb:Nat) (ci cb:List DV) (n:Nat) (o:Int) (e:Nat):St:=
 ⟨[(0,⟨[],.pt L 0⟩),(1,⟨[],.fn gi [] ci⟩),(2,⟨[],.fn gb [] cb⟩),(7,⟨[],.v (.int .i64 o)⟩),(14,⟨[],.v (.int .i64 n)⟩),(15,⟨[],.v (.int .i64 e)⟩)],[],[]⟩
abbrev IE (L:List DV) (gi gb:Nat) (ci cb:List DV) (n:Nat) (o:Int) (e:Nat):St:=
 ⟨[(0,⟨[],.pt L 0⟩),(1,⟨[],.fn gi [] ci⟩),(2,⟨[],.fn gb [] cb⟩),(7,⟨[],.v (.int .i64 o)⟩),(37,⟨[],.v (.int .i64 n)⟩),(38,⟨[],.v (.int .i64 e)⟩)],[],[]⟩
theorem zV (af:List ByteArray) (tb lq:DV) (js:List Int) (gi gb:Nat) (hei:Enters prog gi) (heb:Enters prog gb) (ci cb:List DV) (lp:Nat->Bool) (pb:Nat->Nat->Bool)
  (YH:CcL [] 0 0 0 ci ci) (YI:CcL [] 0 0 0 cb cb) (hcli:clB.clL 0 0 ci=true) (hclb:clB.clL 0 0 cb=true) (hn:af.length<=64)
  (uF:∀ c:Nat,c < af.length->aQ prog gi (.v (.int .i64 c) :: ci) (.v (.bool (lp c))))
  (hpb:∀ a b:Nat,a < af.length->b < af.length->aQ prog gb (.v (.int .i64 a) :: .v (.int .i64 b) :: cb) (.v (.bool (pb a b)))) :
  aQ prog 156 [.pt (GK af tb lq js) 0,.fn gi [] ci,.fn gb [] cb] (.v (.int .i64 (oz (nR lp pb af.length)))):=by
 have hN:=ch af;have BT:clB 0 0 (.fn gi [] ci)=true:=by simp only [clB,Bool.and_eq_true];exact ⟨rfl,hcli⟩
 have IF:clB 0 0 (.fn gb [] cb)=true:=by simp only [clB,Bool.and_eq_true];exact ⟨rfl,hclb⟩
 refine eG 57 [.tmp 6] func156 rfl ntmps156 rfl fun _ _ _ _=>?_;refine lJ (fun e=>UH (GK af tb lq js) gi gb ci cb (eV af).length (oz (bestA lp pb e)) e) af.length (ah ⟨_,rfl⟩ wA rfl rfl rfl (wB2 BT IF)) ?_;intro e he;refine br ?_ ?_<;>intro hL
 ·have aj:e < af.length:=by have:=hL;simp [hN] at this;exact this
  have hs:bestA lp pb (e + 1)=if lp e && DW pb e (bestA lp pb e) then some e else bestA lp pb e:=rfl
  refine cP hei (uF e aj) ?_ ⟨_,_,rfl,rfl,YH⟩
  cases hA:bestA lp pb e with
  | none=>
   rw [hA] at hs;refine br ?_ ?_<;>intro g
   ·have g:lp e=true:=by simpa [lastG] using g
    have hz:(e:Int)=oz (bestA lp pb (e + 1)):=by rw [hs,g];all_goals rfl
    exact rE ⟨_,by omega,e + 1,rfl,by omega,rfl⟩ (ah ⟨_,rfl⟩ wA rfl rfl rfl (VW BT IF (aF aj (by omega)) hz))
   ·have g:lp e=false:=by simpa [lastG] using g
    have hz:oz none=oz (bestA lp pb (e + 1)):=by rw [hs,g];all_goals rfl
    exact rE ⟨_,by omega,e + 1,rfl,by omega,rfl⟩ (ah ⟨_,rfl⟩ wA rfl rfl rfl (VW BT IF (aF aj (by omega)) hz))
  | some k=>
   rw [hA] at hs;have hk:=nS hA;refine br ?_ ?_<;>intro g
   ·have g:lp e=true:=by simpa [lastG] using g
    refine cP heb (hpb e k aj (by omega)) ?_ ⟨_,_,rfl,rfl,_,_,rfl,rfl,YI⟩;refine br ?_ ?_<;>intro g2
    ·have g2:pb e k=true:=by simpa [pickB,g,lastG] using g2
     have hz:(e:Int)=oz (bestA lp pb (e + 1)):=by rw [hs,g,DW,g2];all_goals rfl
     exact rE ⟨_,by omega,e + 1,rfl,by omega,rfl⟩ (ah ⟨_,rfl⟩ wA rfl rfl rfl (VW BT IF (aF aj (by omega)) hz))
    ·have g2:pb e k=false:=by simpa [pickB,g,lastG] using g2
     have hz:oz (some k)=oz (bestA lp pb (e + 1)):=by rw [hs,g,DW,g2];all_goals rfl
     exact rE ⟨_,by omega,e + 1,rfl,by omega,rfl⟩ (ah ⟨_,rfl⟩ wA rfl rfl rfl (VW BT IF (aF aj (by omega)) hz))
   ·have g:lp e=false:=by simpa [lastG] using g
    have hz:oz (some k)=oz (bestA lp pb (e + 1)):=by rw [hs,g];all_goals rfl
    exact rE ⟨_,by omega,e + 1,rfl,by omega,rfl⟩ (ah ⟨_,rfl⟩ wA rfl rfl rfl (VW BT IF (aF aj (by omega)) hz))
 ·have aM:e=af.length:=sW hN hL;subst aM;refine lI (fun j st=>∃ e:Nat,st=IE (GK af tb lq js) gi gb ci cb (eV af).length (oz (bestA lp pb af.length)) e/\e<=af.length/\(∀ o,bestA lp pb af.length=some o->∀ c,c < e->(lp c && !pb o c)=false)/\j=af.length - e) ⟨0,rfl,by omega,fun _ _ c hc=>by omega,rfl⟩ (ah ⟨_,rfl⟩ wA rfl rfl rfl (wB2 BT IF)) ?_;rintro j st ⟨e,rfl,he,eZ,rfl⟩;refine br ?_ ?_<;>intro hL
  ·have aj:e < af.length:=by have:=hL;simp [hN] at this;exact this
   cases hA:bestA lp pb af.length with
   | none=>
    exact ⟨IE (GK af tb lq js) gi gb ci cb (eV af).length (oz none) (e + 1),(ah ⟨_,rfl⟩ wA rfl rfl rfl (yx BT IF (aF aj (by omega)))),af.length - (e + 1),by omega,e + 1,rfl,by omega,(fun _ h=>by cases h),rfl⟩
   | some o=>
    have ho:=nS hA;have eZ:=eZ o hA;refine cP hei (uF e aj) ?_ ⟨_,_,rfl,rfl,YH⟩;refine br ?_ ?_<;>intro g
    ·have g:lp e=true:=by simpa [pickB] using g
     refine cP heb (hpb o e ho aj) ?_ ⟨_,_,rfl,rfl,_,_,rfl,rfl,YI⟩;refine br ?_ ?_<;>intro g2
     ·have g2:pb o e=false:=by simpa [pickB,g,lastG] using g2
      have:nR lp pb af.length=none:=by
       rw [nR,hA];simp only;rw [if_pos];rw [List.any_eq_true];exact ⟨e,by simpa using aj,by simp [g,g2]⟩
      rw [this];exact (rfl:_=_)
     ·have g2:pb o e=true:=by simpa [pickB,g,lastG] using g2
      exact rE ⟨_,by omega,e + 1,rfl,by omega,fun o' Bg c hc=>by
       cases Bg;rcases Nat.lt_succ_iff_lt_or_eq.1 hc with hc | rfl
       ·exact eZ c hc
       ·simp [g2],rfl⟩ (ah ⟨_,rfl⟩ wA rfl rfl rfl (yx BT IF (aF aj (by omega))))
    ·have g:lp e=false:=by simpa [pickB] using g
     exact rE ⟨_,by omega,e + 1,rfl,by omega,fun o' Bg c hc=>by
       cases Bg;rcases Nat.lt_succ_iff_lt_or_eq.1 hc with hc | rfl
       ·exact eZ c hc
       ·simp [g],rfl⟩ (ah ⟨_,rfl⟩ wA rfl rfl rfl (yx BT IF (aF aj (by omega))))
  ·have aM:e=af.length:=sW hN hL;subst aM
   have:nR lp pb af.length=bestA lp pb af.length:=by
    cases hA:bestA lp pb af.length with
    | none=>rw [nR,hA]
    | some o=>
     rw [nR,hA];simp only;rw [if_neg];rw [List.any_eq_true];rintro ⟨c,hc,h2⟩;rw [eZ o hA c (sU hc)] at h2;cases h2
   rw [this];exact (rfl:_=_)
theorem sL (js:List Int) (bx:List (List DV)) (N n m:Nat):CcL bx N n m (cZ js) (cZ js):=by
 induction js with
 | nil=>exact rfl
 | cons z r ih=>exact ⟨_,_,rfl,rfl,ih⟩
theorem pD {n m:Nat} {tk:List TkE} (js:List Int):WeL n m tk (cZ js) (cZ js):=wI _ fun x hx=>by
 obtain ⟨z,_,rfl⟩:=List.mem_map.1 hx;exact ⟨_,rfl⟩
theorem UI (f:Nat->Nat) (js:List Int):renL f (cZ js)=cZ js:=by
 induction js with
 | nil=>rfl
 | cons z r ih=>simp only [cZ,List.map_cons,renL,renD] at ih ⊢;rw [ih]
theorem UJ (js:List Int):(cZ js).length=js.length:=by simp [cZ]
theorem M7 (js:List Int) (i:Nat) (z:Int):(cZ js).set i (.v (.int .i64 z))=cZ (js.set i z):=by simp [cZ,List.map_set]
abbrev jk (af:List ByteArray) (tc:List DV) (rows:List Nat) (js:List Int):List DV:=GK af (.pt tc 0) (ni rows) js
theorem Qn (af:List ByteArray) (tc:List DV) (rows:List Nat) (js:List Int):(jk af tc rows js).length=js.length + 3:=by simp [GK,cZ]
theorem u5 {af:List ByteArray} {tc:List DV} {rows:List Nat} {js:List Int} {i k:Nat} {z:Int} (h:k=i + 3):(jk af tc rows js).set k (.v (.int .i64 z))=jk af tc rows (js.set i z):=by
 subst h;simp only [GK,List.set_cons_succ,M7]
theorem Qo (f:Nat->Nat) (af:List ByteArray) (tc:List DV) (rows:List Nat) (js:List Int):renL f (jk af tc rows js)=jk af tc rows js:=by
 simp only [GK,renL,UI];rfl
theorem IG {n m:Nat} {tk:List TkE} {l:List DV} {af:List ByteArray} {tc:List DV} {rows:List Nat} {js:List Int} (h:l=jk af tc rows js):WeL n m tk l (jk af tc rows js):=by
 subst h;exact ⟨_,_,rfl,ay rfl,_,_,rfl,ay rfl,_,_,rfl,ay rfl,pD js⟩
def fk (f:Nat->Nat->Bool) (n a b:Nat):Option Nat:=nR (fun c=>f a c && f b c) f n
def jx (f:Nat->Nat->Bool) (n a b:Nat):Option Nat:=nR (fun c=>f c a && f c b) (fun x y=>f y x) n
theorem wT (f:Nat->Nat->Bool) (n a b:Nat):fk f n a b=fk f n b a:=by
 unfold fk;congr 1;funext c;exact Bool.and_comm _ _
theorem wU (f:Nat->Nat->Bool) (n a b:Nat):jx f n a b=jx f n b a:=by
 unfold jx;congr 1;funext c;exact Bool.and_comm _ _
def lL (f:Nat->Nat->Bool) (n a b:Nat):Bool:=(fk f n a b).isNone || (jx f n a b).isNone
def nT (f:Nat->Nat->Bool) (n b:Nat):Bool:=(List.range (b + 1)).any fun a=>lL f n a b
def JM (f:Nat->Nat->Bool) (n:Nat) (js:List Int) (a b:Nat):Prop:=js[a * 32 + b]? = some (oz (fk f n a b))/\js[1024 + (a * 32 + b)]? = some (oz (jx f n a b))
def y5 (js:List Int) (a b:Nat) (j m:Int):List Int:=(((js.set (a * 32 + b) j).set (b * 32 + a) j).set (1024 + (a * 32 + b)) m).set (1024 + (b * 32 + a)) m
theorem M8 (js:List Int) (a b:Nat) (j m:Int):(y5 js a b j m).length=js.length:=by simp [y5]
theorem cG {js:List Int} {i k:Nat} {z:Int} (h:k≠i):(js.set k z)[i]? = js[i]?:=List.getElem?_set_ne h
theorem q8 {f:Nat->Nat->Bool} {n:Nat} {js:List Int} (hl:js.length=2048) {a b:Nat} (ha:a < 32) (hb:b < 32) {x y:Nat} (hx:x < 32) (hy:y < 32)
  (h:JM f n js x y∨(x=a/\y=b)∨(x=b/\y=a)):JM f n (y5 js a b (oz (fk f n a b)) (oz (jx f n a b))) x y:=by
 have key:(x=a/\y=b)∨(x=b/\y=a)∨(JM f n js x y/\¬ (x=a/\y=b)/\¬ (x=b/\y=a)):=by
  by_cases h1:x=a/\y=b
  ·exact .inl h1
  ·by_cases h2:x=b/\y=a
   ·exact .inr (.inl h2)
   ·rcases h with h | h | h
    ·exact .inr (.inr ⟨h,h1,h2⟩)
    ·exact (h1 h).elim
    ·exact (h2 h).elim
 rcases key with ⟨rfl,rfl⟩ | ⟨rfl,rfl⟩ | ⟨h,h1,h2⟩
 ·unfold JM y5;refine ⟨?_,?_⟩
  ·rw [cG (by omega),cG (by omega)];by_cases Gc:x=y
   ·subst Gc;rw [List.getElem?_set_self (by simp;omega)]
   ·rw [cG (by omega),List.getElem?_set_self (by omega)]
  ·by_cases Gc:x=y
   ·subst Gc;rw [List.getElem?_set_self (by simp;omega)]
   ·rw [cG (by omega),List.getElem?_set_self (by simp;omega)]
 ·unfold JM y5;rw [wT f n x y,wU f n x y];refine ⟨?_,?_⟩
  ·rw [cG (by omega),cG (by omega),List.getElem?_set_self (by simp;omega)]
  ·rw [List.getElem?_set_self (by simp;omega)]
 ·unfold JM y5;have g1:a * 32 + b≠x * 32 + y:=fun he=>h1 ⟨by omega,by omega⟩;have g2:b * 32 + a≠x * 32 + y:=fun he=>h2 ⟨by omega,by omega⟩;refine ⟨?_,?_⟩
  ·rw [cG (by omega),cG (by omega),cG g2,cG g1];exact h.1
  ·rw [cG (by omega),cG (by omega),cG (by omega),cG (by omega)];exact h.2
abbrev SE (af:List ByteArray) (tc:List DV) (rows:List Nat) (js:List Int) (e:Nat):St:=
 ⟨[(1,⟨[],.loc 1 0⟩),(3,⟨[],.loc 2 0⟩),(4,⟨[],.loc 3 0⟩),(15,⟨[],.v (.int .i64 (eV af).length)⟩),(16,⟨[],.v (.int .i64 e)⟩)],
  [jk af tc rows js,[.loc 0 0],[.fn 153 [] [.loc 1 0]],[.fn 155 [] [.loc 1 0]]],[]⟩
abbrev GL (af:List ByteArray) (tc:List DV) (rows:List Nat) (js:List Int) (e f:Nat):St:=
 ⟨[(1,⟨[],.loc 1 0⟩),(3,⟨[],.loc 2 0⟩),(4,⟨[],.loc 3 0⟩),(15,⟨[],.v (.int .i64 (eV af).length)⟩),(16,⟨[],.v (.int .i64 e)⟩),(5,⟨[],.loc 4 0⟩),(6,⟨[],.loc 5 0⟩)],
  [jk af tc rows js,[.loc 0 0],[.fn 153 [] [.loc 1 0]],[.fn 155 [] [.loc 1 0]],[.v (.int .i64 e)],[.v (.int .i64 f)]],[]⟩
abbrev M9 (af:List ByteArray) (tc:List DV) (rows:List Nat) (js:List Int) (e f:Nat):St:=
 ⟨[(1,⟨[],.loc 1 0⟩),(3,⟨[],.loc 2 0⟩),(4,⟨[],.loc 3 0⟩),(15,⟨[],.v (.int .i64 (eV af).length)⟩),(16,⟨[],.v (.int .i64 e)⟩),(5,⟨[],.loc 4 0⟩),(6,⟨[],.loc 6 0⟩)],
  [jk af tc rows js,[.loc 0 0],[.fn 153 [] [.loc 1 0]],[.fn 155 [] [.loc 1 0]],[.v (.int .i64 e)],[.v (.int .i64 f)],[.v (.int .i64 (f + 1:Nat))]],[]⟩
abbrev Na (af:List ByteArray) (tc:List DV) (rows:List Nat) (js:List Int) (e f:Nat):St:=
 ⟨[(1,⟨[],.loc 1 0⟩),(3,⟨[],.loc 2 0⟩),(4,⟨[],.loc 3 0⟩),(15,⟨[],.v (.int .i64 (eV af).length)⟩),(16,⟨[],.v (.int .i64 e)⟩),(5,⟨[],.loc 4 0⟩),(6,⟨[],.loc 5 0⟩)],
  [jk af tc rows js,[.loc 0 0],[.fn 153 [] [.loc 1 0]],[.fn 155 [] [.loc 1 0]],[.v (.int .i64 e)],[.v (.int .i64 (f + 1:Nat))],[.v (.int .i64 f)]],[]⟩
theorem Qp (af:List ByteArray) (tc:List DV) (rows:List Nat) (js:List Int) (e f:Nat):M9 af tc rows js e f=dJ 5 6 (Na af tc rows js e f):=by
 simp only [dJ,renO,Qo];rfl
def BndΦ (af:List ByteArray) (tc:List DV) (rows:List Nat) (r:DV) (os:List (List DV)) (_:List TkE):Prop:=
 ∃ UK,os=[jk af tc rows UK]/\UK.length=2048/\r = .v (.int .i64 (oz (bI (nT (aX rows) af.length) af.length))) /\
  (bI (nT (aX rows) af.length) af.length=none->∀ x y,x < af.length->y < af.length->JM (aX rows) af.length UK x y)
theorem DX (af:List ByteArray) (tc:List DV) (rows:List Nat) (js:List Int) (hr:eH rows) (hlen:rows.length=af.length) (hn:af.length<=32) (hj:js.length=2048) :
  Ev prog 93 [.loc 0 0] [jk af tc rows js] [] (BndΦ af tc rows):=by
 have hN:=ch af;refine eG 73 [.tmp 2] func93 rfl ntmps93 rfl fun _ _ _ _=>?_;refine lI (fun j st=>∃ (e:Nat) (js:List Int),st=SE af tc rows js e/\e<=af.length/\js.length=2048/\(∀ b,b < e->nT (aX rows) af.length b=false)/\(∀ x y,x < e->y < e->JM (aX rows) af.length js x y)/\j=af.length - e) ⟨0,js,rfl,by omega,hj,fun _ h=>by omega,fun _ _ h=>by omega,rfl⟩ (ap 4 rfl pB rfl rfl rfl lY) ?_;rintro j st ⟨e,js,rfl,he,hj,eZ,u6,rfl⟩;refine br ?_ ?_<;>intro hL
 ·have aj:e < af.length:=by have:=hL;simp [hN] at this;exact this
  refine BS (fun j st=>∃ (f:Nat) (js:List Int),st=GL af tc rows js e f/\f<=e + 1/\js.length=2048/\(∀ a,a < f->lL (aX rows) af.length a e=false)/\(∀ x y,x < e->y < e->JM (aX rows) af.length js x y)/\(∀ x,x < f->JM (aX rows) af.length js x e/\JM (aX rows) af.length js e x)/\j=e + 1 - f) (e + 1) (GL af tc rows js e 0) (.UC (ap 6 rfl pB rfl rfl rfl lY)) ⟨0,js,rfl,by omega,hj,fun _ h=>by omega,u6,fun _ h=>by omega,by omega⟩ ?_;clear u6 hj;rintro j st ⟨f,js,rfl,hf,hj,VQ,u6,Lm,rfl⟩;refine br ?_ ?_<;>intro kx
  ·have Lc:f<=e:=by have:=kx;simp at this;exact this
   have o9:=zV af (.pt tc 0) (ni rows) js 157 153 XL Mb
    [.pt [SC (jk af tc rows js)] 0,.pt [.v (.int .i64 f)] 0,.pt [.v (.int .i64 e)] 0] [.pt [.pt (jk af tc rows js) 0] 0] (fun c=>aX rows f c && aX rows e c) (aX rows) ax ax rfl rfl (by omega)
    (fun c hc=>Kc af (.pt tc 0) rows js hr f e c (by omega) (by omega) (by omega)) (fun a b ha hb=>sJ af (.pt tc 0) rows js hr a b (by omega) (by omega))
   have kR:=zV af (.pt tc 0) (ni rows) js 158 155 XM Mc
    [.pt [SD (jk af tc rows js)] 0,.pt [.v (.int .i64 f)] 0,.pt [.v (.int .i64 e)] 0] [.pt [.pt (jk af tc rows js) 0] 0] (fun c=>aX rows c f && aX rows c e) (fun x y=>aX rows y x) ax ax rfl rfl (by omega)
    (fun c hc=>Kd af (.pt tc 0) rows js hr f e c (by omega) (by omega) (by omega)) (fun a b ha hb=>sK af (.pt tc 0) rows js hr a b (by omega) (by omega))
   refine Bt R6 o9 (by repeat' (first | exact rfl | exact trivial | exact Or.inr (Or.inl ⟨_,rfl⟩) | exact Or.inr ⟨_,rfl⟩ | exact Or.inl ⟨rfl,rfl⟩ | exact Or.inl rfl | refine Or.inr ⟨_,_,rfl,Nat.zero_le _,rfl,?_⟩ | refine ⟨_,_,rfl,?_,?_⟩ | refine ⟨_,rfl,?_⟩ | exact sL _ _ _ _ _ | refine Or.inr (Or.inr (Or.inr ⟨_,_,rfl,?_⟩)) | exact Or.inl rfl | refine Or.inr ?_)) rfl ?_;refine Bt R6 kR (by repeat' (first | exact rfl | exact trivial | exact Or.inr (Or.inl ⟨_,rfl⟩) | exact Or.inr ⟨_,rfl⟩ | exact Or.inl ⟨rfl,rfl⟩ | exact Or.inl rfl | refine Or.inr ⟨_,_,rfl,Nat.zero_le _,rfl,?_⟩ | refine ⟨_,_,rfl,?_,?_⟩ | refine ⟨_,rfl,?_⟩ | exact sL _ _ _ _ _ | refine Or.inr (Or.inr (Or.inr ⟨_,_,rfl,?_⟩)) | exact Or.inl rfl | refine Or.inr ?_)) rfl ?_
   have UL:pickB (decide (oz (fk (aX rows) af.length f e) = -1)) true (decide (oz (jx (aX rows) af.length f e) = -1))=lL (aX rows) af.length f e:=by
    unfold lL
    cases fk (aX rows) af.length f e with
    | none=>rfl
    | some j=>
     have:decide (oz (some j) = -1)=false:=by simp [oz]
     rw [this]
     cases jx (aX rows) af.length f e with
     | none=>rfl
     | some m=>
      have:decide (oz (some m) = -1)=false:=by simp [oz]
      rw [this];rfl
   refine br ?_ ?_<;>intro g
   ·have g:lL (aX rows) af.length f e=true:=UL.symm.trans g
    have hb:nT (aX rows) af.length e=true:=by
     unfold nT;rw [List.any_eq_true];exact ⟨f,by simp;omega,g⟩
    have CR:=bq (p:=nT (aX rows) af.length) aj hb eZ;refine ⟨.v (.int .i64 e),[jk af tc rows js],ax,(by repeat' (first | exact rfl | exact trivial | exact Or.inr (Or.inl ⟨_,rfl⟩) | exact Or.inr ⟨_,rfl⟩ | exact Or.inl ⟨rfl,rfl⟩ | exact Or.inl rfl | refine Or.inr ⟨_,_,rfl,Nat.zero_le _,rfl,?_⟩ | refine ⟨_,_,rfl,?_,?_⟩ | refine ⟨_,rfl,?_⟩ | exact sL _ _ _ _ _ | refine Or.inr (Or.inr (Or.inr ⟨_,_,rfl,?_⟩)) | exact Or.inl rfl | refine Or.inr ?_)),js,rfl,hj,?_,fun h=>by rw [CR] at h;cases h⟩;rw [CR];rfl
   ·have g:lL (aX rows) af.length f e=false:=UL.symm.trans g;refine uX [0] (fun _=>false) mo (by decide +kernel) ?_;have bA:=Qn af tc rows js;refine ⟨⟨by omega,by omega⟩,?_⟩;refine ⟨⟨by omega,by omega⟩,?_⟩;refine ⟨by rw [bA];omega,?_⟩;refine ⟨⟨by omega,by omega⟩,?_⟩;refine ⟨⟨by omega,by omega⟩,?_⟩;refine ⟨by rw [List.length_set,bA];omega,?_⟩;refine uX [0] (fun _=>false) mo (by decide +kernel) ?_;refine ⟨⟨by omega,by omega⟩,?_⟩;refine ⟨⟨by omega,by omega⟩,?_⟩;refine ⟨by rw [List.length_set,List.length_set,bA];omega,?_⟩;refine ⟨⟨by omega,by omega⟩,?_⟩;refine ⟨⟨by omega,by omega⟩,?_⟩;refine ⟨by rw [List.length_set,List.length_set,List.length_set,bA];omega,?_⟩
    have ie:((((jk af tc rows js).set (0 + 0 + 3 + (f:Int).toNat * 32 + (e:Int).toNat * 1) (DV.v (.int .i64 (oz (fk (aX rows) af.length f e))))).set (0 + 0 + 3 + (e:Int).toNat * 32 + (f:Int).toNat * 1) (DV.v (.int .i64 (oz (fk (aX rows) af.length f e))))).set (0 + 0 + 1027 + (f:Int).toNat * 32 + (e:Int).toNat * 1) (DV.v (.int .i64 (oz (jx (aX rows) af.length f e))))).set (0 + 0 + 1027 + (e:Int).toNat * 32 + (f:Int).toNat * 1) (DV.v (.int .i64 (oz (jx (aX rows) af.length f e))))=jk af tc rows (y5 js f e (oz (fk (aX rows) af.length f e)) (oz (jx (aX rows) af.length f e))):=by
     rw [u5 (i:=f * 32 + e) (by omega),u5 (i:=e * 32 + f) (by omega),u5 (i:=1024 + (f * 32 + e)) (by omega),u5 (i:=1024 + (e * 32 + f)) (by omega)];rfl
    refine ⟨GL af tc rows (y5 js f e (oz (fk (aX rows) af.length f e)) (oz (jx (aX rows) af.length f e))) e (f + 1),
     .trans (.UC (s2:=M9 af tc rows (y5 js f e (oz (fk (aX rows) af.length f e)) (oz (jx (aX rows) af.length f e))) e f) (ap 7 rfl (by repeat' (first | exact rfl | exact ay rfl | exact IG ie | exact aA (aF (n:=e + 1) (by omega) (by omega)) | refine ⟨_,_,rfl,?_,?_⟩)) rfl rfl rfl (by repeat' (first | exact trivial | exact ay rfl | exact IG ie | exact aA (aF (n:=e + 1) (by omega) (by omega)) | refine ⟨⟨_,rfl,?_⟩,?_⟩))))
      (.trans (.Gf 5 6 (Na af tc rows (y5 js f e (oz (fk (aX rows) af.length f e)) (oz (jx (aX rows) af.length f e))) e f) _ (Qp _ _ _ _ _ _) rfl rfl rfl rfl) (.UC (ap 6 rfl pB rfl rfl rfl lY))),
     e + 1 - (f + 1),by omega,f + 1,_,rfl,by omega,by rw [M8];exact hj,fun a ha=>?_,fun x y hx hy=>?_,fun x hx=>?_,rfl⟩
    ·rcases Nat.lt_succ_iff_lt_or_eq.1 ha with ha | rfl
     ·exact VQ a ha
     ·exact g
    ·exact q8 hj (by omega) (by omega) (by omega) (by omega) (.inl (u6 x y hx hy))
    ·rcases Nat.lt_succ_iff_lt_or_eq.1 hx with hx | rfl
     ·exact ⟨q8 hj (by omega) (by omega) (by omega) (by omega) (.inl (Lm x hx).1),q8 hj (by omega) (by omega) (by omega) (by omega) (.inl (Lm x hx).2)⟩
     ·exact ⟨q8 hj (by omega) (by omega) (by omega) (by omega) (.inr (.inl ⟨rfl,rfl⟩)),q8 hj (by omega) (by omega) (by omega) (by omega) (.inr (.inr ⟨rfl,rfl⟩))⟩
  ·have Lc:f=e + 1:=by have:=kx;simp at this;omega
   subst Lc
   have hb:nT (aX rows) af.length e=false:=by
    unfold nT;rw [List.any_eq_false];intro a ha;rw [VQ a (sU ha)];decide
   refine ⟨SE af tc rows js (e + 1),(ap 4 rfl (na (aF aj (by omega))) rfl rfl rfl (cX (aF aj (by omega)))),af.length - (e + 1),by omega,e + 1,js,rfl,by omega,hj,fun b fX=>?_,fun x y hx hy=>?_,rfl⟩
   ·rcases Nat.lt_succ_iff_lt_or_eq.1 fX with h | rfl
    ·exact eZ b h
    ·exact hb
   ·rcases Nat.lt_succ_iff_lt_or_eq.1 hx with hx | rfl
    ·rcases Nat.lt_succ_iff_lt_or_eq.1 hy with hy | rfl
     ·exact u6 x y hx hy
     ·exact (Lm x (by omega)).1
    ·exact (Lm y (by omega)).2
 ·have aM:e=af.length:=sW hN hL;subst aM;refine ⟨.v (.int .i64 (-1)),[jk af tc rows js],ax,(by repeat' (first | exact rfl | exact trivial | exact Or.inr (Or.inl ⟨_,rfl⟩) | exact Or.inr ⟨_,rfl⟩ | exact Or.inl ⟨rfl,rfl⟩ | exact Or.inl rfl | refine Or.inr ⟨_,_,rfl,Nat.zero_le _,rfl,?_⟩ | refine ⟨_,_,rfl,?_,?_⟩ | refine ⟨_,rfl,?_⟩ | exact sL _ _ _ _ _ | refine Or.inr (Or.inr (Or.inr ⟨_,_,rfl,?_⟩)) | exact Or.inl rfl | refine Or.inr ?_)),js,rfl,hj,?_,fun _=>u6⟩;rw [bK eZ];rfl
def UM (l:List Wd) (k:Nat):Int:=((l[k]?).getD (⟨av,0⟩:Wd)).a
def latF (l:List Wd) (o:List (Wd × Wd)):Ft:=
 if (gq l o).1≠0 then gq l o
 else if (enumL l 0 l).1≠0 then enumL l 0 l
 else if (numF (az l) o).1≠0 then numF (az l) o
 else match bI (kW l.length (fh l.length (dD (az l) o))) l.length with
  | some a=>(11,UM l a)
  | none=>
   match bI (nT (fh l.length (dD (az l) o)) l.length) l.length with
   | some b=>(12,UM l b)
   | none=>(0,0)
def UN (l:List Wd) (o:List (Wd × Wd)) (d:DV):Prop:=
 ∃ aH js,iF (az l) aH/\aH.length<=l.length/\js.length=2048/\(∀ x y,x < l.length->y < l.length->JM (fh l.length (dD (az l) o)) l.length js x y) /\
  d = .pt (jk (az l) (de (az l) aH) (closeR (fA l.length (dD (az l) o)) l.length) js) 0
def GM (l:List Wd) (o:List (Wd × Wd)) (r:DV) (_:List (List DV)) (_:List TkE):Prop:=
 if (latF l o).1≠0 then r = .tup [.v (.pointer none),(latF l o).d] else ∃ d,UN l o d/\r = .tup [d,(latF l o).d]
theorem oH {L:List ByteArray}:∀ {o:List (Wd × Wd)},(numF L o).1=0->sF L.length (dD L o)
 | [],_=>by intro p hp;simp [dD] at hp
 | q :: r,h=>by
  rw [numF] at h;split at h
  ·cases h
  ·rename_i h1;split at h
   ·cases h
   ·rename_i h2;have ih:=oH (o:=r) h;intro p hp;simp only [dD,List.map_cons,List.mem_cons] at hp;rcases hp with rfl | hp
    ·obtain ⟨a,ha⟩:=Option.ne_none_iff_exists'.1 h1;obtain ⟨b,hb⟩:=Option.ne_none_iff_exists'.1 h2;simp only [Uz,ha,hb,Option.getD_some];exact ⟨(dm ha).1,(dm hb).1⟩
    ·exact ih p hp
theorem dH (l:List Wd):(az l).length=l.length:=by simp [az]
theorem wV {all:List Wd}:∀ {l:List Wd} {i:Nat},(enumL all i l).1=0->enumL all i l=(0,0)
 | [],_,_=>rfl
 | x :: r,i,h=>by
  rw [enumL] at h ⊢;split at h
  ·rename_i h1;exact (h1 h).elim
  ·rename_i h1;rw [if_neg h1];exact wV h
theorem zW {L:List ByteArray}:∀ {o:List (Wd × Wd)},(numF L o).1=0->numF L o=(0,0)
 | [],_=>rfl
 | q :: r,h=>by
  rw [numF] at h ⊢;split at h
  ·cases h
  ·rename_i h1;split at h
   ·cases h
   ·rename_i h2;rw [if_neg h1,if_neg h2];exact zW h
theorem kX {l:List Wd} {k:Nat} {w:Wd} (h:l[k]? = some w):UM l k=w.a:=by simp [UM,h]
theorem UO (n:Nat):vL (List.replicate n (.int .i64 0))=cZ (List.replicate n 0):=by
 induction n with
 | zero=>rfl
 | succ n ih=>simp only [List.replicate_succ,vL,cZ,List.map_cons] at ih ⊢;rw [ih]
theorem nU {l:List Wd} {o:List (Wd × Wd)} {f:Ft} {os:List (List DV)} {tk:List TkE} (h:latF l o=f) (hf:f.1≠0):GM l o (.tup [.v (.pointer none),f.d]) os tk:=by
 unfold GM;rw [h,if_pos hf]
theorem Qq {l:List Wd} {o:List (Wd × Wd)} {d:DV} {os:List (List DV)} {tk:List TkE} (h:latF l o=(0,0)) (hd:UN l o d):GM l o (.tup [d,Ft.d (0,0)]) os tk:=by
 unfold GM;rw [h,if_neg (by simp)];exact ⟨d,hd,rfl⟩
theorem Qr (n m:Nat) (af:List ByteArray) (tc:List DV) (rows:List Nat) (js:List Int):clB.clL n m (jk af tc rows js)=true:=by
 have h:∀ l:List Int,clB.clL n m (cZ l)=true:=by
  intro l
  induction l with
  | nil=>rfl
  | cons z r ih=>simp only [cZ,List.map_cons,clB.clL,clB,Bool.true_and] at ih ⊢;exact ih
 simp only [GK,clB.clL,clB,h,ni,Bool.and_self]
theorem DY (l:List Wd) (o:List (Wd × Wd)) (hs:wdsWt l<=1099511627776) (vE:prsWt o<=1099511627776) :
  Ev prog 36 [.sl 2 (bJ l) none,.sl 4 (nh o) none] [] [] (GM l o):=by
 have nu:=bG l;have zt:=ja o;have fc:=dH l;have hF:=latF.eq_1 l o;refine eG 86 [.tmp 4,.cell 5 45] func36 rfl ntmps36 rfl fun _ _ _ _=>?_;refine cP en86 (Ka l o) ?_;by_cases hm:(gq l o).1≠0
 ·rw [if_pos hm] at hF;refine br ?_ ?_<;>intro h
  ·refine dS ?_;exact ⟨_,ax,nU (os:=[]) (tk:=[]) hF hm⟩
  ·exfalso;simp at h;exact hm h
 rw [if_neg hm] at hF;refine br (fun h=>?_) (fun _=>?_)
 ·exfalso;simp at h;exact hm h
 have Lg:l ≠ []:=by
  rintro rfl;simp [gq] at hm
 have hl32:l.length<=32:=by
  rcases Nat.lt_or_ge 32 l.length with h | h
  ·simp [gq,Lg,h] at hm
  ·exact h
 have uD:=DS l hs;unfold Yx at uD;by_cases hE:(enumL l 0 l).1≠0
 ·rw [if_neg hE] at uD;rw [if_pos hE] at hF;refine cP Xm uD ?_;refine br ?_ ?_<;>intro h
  ·refine dS ?_;exact ⟨_,ax,nU (os:=[]) (tk:=[]) hF hE⟩
  ·exfalso;simp at h;exact hE h
 rw [if_neg hE] at hF;have hE:(enumL l 0 l).1=0:=sU hE;rw [if_pos hE] at uD;rw [wV hE] at uD;refine cP Xm uD ?_;refine ki Ug rfl (wh (az l) (by omega)) ax (fun r hr=>?_);obtain ⟨aH,hT,jC,rfl⟩:=hr;have sM:=y4 (az l) aH hT (by omega) o vE;unfold Yy at sM;by_cases hN:(numF (az l) o).1≠0
 ·rw [if_neg hN] at sM;rw [if_pos hN] at hF;refine cP Xn sM ?_;refine br ?_ ?_<;>intro h
  ·refine dS ?_;exact ⟨_,ax,nU (os:=[]) (tk:=[]) hF hN⟩
  ·exfalso;simp at h;exact hN h
 rw [if_neg hN] at hF;have hN:(numF (az l) o).1=0:=sU hN;rw [if_pos hN] at sM;rw [zW hN] at sM;have hP:=oH hN;rw [fc] at hP;have hPl:(dD (az l) o).length=o.length:=by simp [dD]
 generalize hPP:dD (az l) o=P at sM hF hP hPl;refine cP Xn sM ?_;have hLn:(eV (az l)).length=l.length:=by rw [ch,fc]
 have hPb:P.length<=1099511627776:=by omega
 have YJ:=BM (n:=l.length) (by omega) P hP;have ed:=kr l.length P;have hr0:fA l.length P ≠ []:=fun h=>Lg (List.eq_nil_of_length_eq_zero (by rw [<- ed,h];rfl));refine cP en90 (J2 l.length (by omega) P hP hPb) ?_ (gF hLn);have hlo:=GG _ YJ hr0;rw [ed,Qi (by omega) hP] at hlo
 cases hA:bI (kW l.length (fh l.length P)) l.length with
 | some a=>
  rw [hA] at hlo hF;simp only at hF;have o0:=(cA hA).1;obtain ⟨w,hw⟩:∃ w,l[a]? = some w:=⟨_,gE o0⟩;rw [kX hw] at hF;refine cP Xo hlo ?_;refine dS ?_;refine ⟨ko w,⟨by omega,aT hw⟩,?_⟩;exact ⟨_,ax,nU (os:=[]) (tk:=[]) hF (by simp)⟩
 | none=>
 rw [hA] at hlo hF;simp only at hF;refine cP Xo hlo ?_;have eD:=tU _ YJ hr0;rw [ed] at eD;have hcok:=lG YJ l.length (by omega);have YK:=fB (fA l.length P) l.length;rw [ed] at YK;refine cP Xp eD ?_;have GN:(List.replicate 2048 (0:Int)).length=2048:=List.length_replicate
 have cW:CcL [] 0 0 0 (jk (az l) (de (az l) aH) (closeR (fA l.length P) l.length) (List.replicate 2048 0)) (.sl 1 (eV (az l)) none :: .pt (de (az l) aH) 0 :: ni (closeR (fA l.length P) l.length) :: vL (List.replicate 2048 (.int .i64 0))):=by
  refine ⟨_,_,rfl,Or.inr (Or.inl ⟨_,rfl⟩),_,_,rfl,Or.inl rfl,_,_,rfl,Or.inl rfl,?_⟩;rw [UO];exact sL _ _ _ _ _
 have hbn:=DX (az l) (de (az l) aH) _ (List.replicate 2048 0) hcok (by omega) (by omega) GN;refine mq en93 rfl rfl cW ax hbn (fun r os tk h=>?_) (fun r rS h=>?_)
 ·obtain ⟨UK,rfl,_,rfl,_⟩:=h;refine ⟨rfl,fun rS h=>?_⟩;rw [List.mem_singleton.1 h];exact Qr _ _ _ _ _ _
 obtain ⟨UK,h1,hj2,hr,u6⟩:=h;simp only [List.cons.injEq,and_true] at h1;subst h1
 have hB:bI (nT (aX (closeR (fA l.length P) l.length)) (az l).length) (az l).length=bI (nT (fh l.length P) l.length) l.length:=by
  rw [fc];rfl
 rw [hB] at hr u6
 cases hb:bI (nT (fh l.length P) l.length) l.length with
 | some b=>
  rw [hb] at hr hF;subst hr;simp only at hF;have hbl:=(cA hb).1;obtain ⟨w,hw⟩:∃ w,l[b]? = some w:=⟨_,gE hbl⟩;rw [kX hw] at hF;refine dS ?_;refine ⟨ko w,⟨by simp only [oz];omega,aT hw⟩,?_⟩;exact ⟨_,ax,nU (os:=[]) (tk:=[]) hF (by simp)⟩
 | none=>
  rw [hb] at hr hF;subst hr;simp only at hF;refine ⟨.tup [.pt (jk (az l) (de (az l) aH) (closeR (fA l.length P) l.length) UK) 0,Ft.d (0,0)],(by repeat' (first | exact rfl | exact trivial | exact Or.inr (Or.inl ⟨_,rfl⟩) | exact Or.inr ⟨_,rfl⟩ | exact Or.inl ⟨rfl,rfl⟩ | exact Or.inl rfl | refine Or.inr ⟨_,_,rfl,Nat.zero_le _,rfl,?_⟩ | refine ⟨_,_,rfl,?_,?_⟩ | refine ⟨_,rfl,?_⟩ | exact sL _ _ _ _ _ | refine Or.inr (Or.inr (Or.inr ⟨_,_,rfl,?_⟩)) | exact Or.inl rfl | refine Or.inr ?_)),Qq (os:=[]) (tk:=[]) hF ⟨aH,UK,hT,by omega,hj2,?_,by rw [hPP]⟩⟩;rw [hPP];rw [fc] at u6;exact u6 hb
section
variable (af:List ByteArray) (tc:List DV) (rows:List Nat) (js:List Int)
theorem sN:aQ prog 187 [.pt (jk af tc rows js) 0] (.v (.int .i64 af.length)):=by
 refine eG 10 [.tmp 2] func187 rfl ntmps187 rfl fun _ _ _ _=>?_;refine (congrArg (fun z=>DV.v (.int .i64 z)) ?_:_=_);rw [ch]
theorem Ke (i:Int):aQ prog 203 [.pt (jk af tc rows js) 0,.v (.int .i64 i)] (.v (.bool (decide (0<=i) && decide (i < af.length)))):=by
 refine eG 13 [.tmp 4] func203 rfl ntmps203 rfl fun _ _ _ _=>?_;refine br ?_ ?_<;>intro g
 ·have g:decide (0<=i)=true:=sU g;refine cP Mg (sN af tc rows js) ?_;refine (congrArg (fun b=>DV.v (.bool b)) ?_:_=_);simp [g,pickB]
 ·have g:decide (0<=i)=false:=sU g;refine (congrArg (fun b=>DV.v (.bool b)) ?_:_=_);simp [g,pickB]
theorem ra {a:Nat} (h:a < af.length):aQ prog 203 [.pt (jk af tc rows js) 0,.v (.int .i64 a)] (.v (.bool true)):=by
 have:=Ke af tc rows js a;have e:(decide (0<=(a:Int)) && decide ((a:Int) < af.length))=true:=by simp [h]
 rw [e] at this;exact this
end
theorem GO (af:List ByteArray) (aH rows:List Nat) (js:List Int) (s:ByteArray) (hT:iF af aH) (hl:aH.length<=1099511627776) :
  aQ prog 163 [.pt (jk af (de af aH) rows js) 0,.v (.string s)] (MU (cY af s)):=by
 have h:=je af aH s hT hl;refine eG 16 [.tmp 4,.tmp 5] func163 rfl ntmps163 rfl fun _ _ _ _=>?_
 cases hx:cY af s with
 | none=>
  rw [hx] at h;refine cP vX h ?_;exact ⟨_,ax,rfl⟩
 | some k=>
  rw [hx] at h;refine cP vX h ?_;exact ⟨_,ax,rfl⟩
theorem DZ {l:List DV} {k b:Nat} {x:DV} (hb:b < 32) (h:l[k + b]? = some x):(((l.drop k).take 32).drop b).take 1=[x]:=by
 have h1:((l.drop k).take 32)[b]? = some x:=by
  rw [List.getElem?_take,if_pos hb,List.getElem?_drop];exact h
 rw [List.drop_eq_getElem_cons (gS h1).1];rw [gE (gS h1).1] at h1;simp only [oI] at h1;rw [h1];rfl
section
variable (af:List ByteArray) (tc:List DV) (rows:List Nat) (js:List Int)
theorem wW (a b:Nat) (z:Int) (ha:a < af.length) (hb:b < af.length) (hn:af.length<=32) (hz:js[a * 32 + b]? = some z) :
  aQ prog 164 [.pt (jk af tc rows js) 0,.v (.int .i64 a),.v (.int .i64 b)] (.v (.int .i64 z)):=by
 refine eG 25 [.tmp 6] func164 rfl ntmps164 rfl fun _ _ _ _=>?_;refine cP Io (ra af tc rows js ha) ?_;refine cP Io (ra af tc rows js hb) ?_;refine ⟨_,⟨⟨by omega,by omega⟩,rfl⟩,?_⟩;refine ⟨_,⟨⟨by omega,by omega⟩,DZ (x:=.v (.int .i64 z)) (by omega) ?_⟩,?_⟩
 ·rw [show 0 + 3 + (a:Int).toNat * 32 + (0 + (b:Int).toNat * 1)=(a * 32 + b) + 3 by omega];simp only [GK,List.getElem?_cons_succ,cZ,List.getElem?_map,hz,Option.map_some]
 exact (rfl:_=_)
theorem GP (a b:Nat) (z:Int) (ha:a < af.length) (hb:b < af.length) (hn:af.length<=32) (hz:js[1024 + (a * 32 + b)]? = some z) :
  aQ prog 188 [.pt (jk af tc rows js) 0,.v (.int .i64 a),.v (.int .i64 b)] (.v (.int .i64 z)):=by
 refine eG 25 [.tmp 6] func188 rfl ntmps188 rfl fun _ _ _ _=>?_;refine cP Io (ra af tc rows js ha) ?_;refine cP Io (ra af tc rows js hb) ?_;refine ⟨_,⟨⟨by omega,by omega⟩,rfl⟩,?_⟩;refine ⟨_,⟨⟨by omega,by omega⟩,DZ (x:=.v (.int .i64 z)) (by omega) ?_⟩,?_⟩
 ·rw [show 0 + 1027 + (a:Int).toNat * 32 + (0 + (b:Int).toNat * 1)=(1024 + (a * 32 + b)) + 3 by omega];simp only [GK,List.getElem?_cons_succ,cZ,List.getElem?_map,hz,Option.map_some]
 exact (rfl:_=_)
end
theorem sO {lp:Nat->Bool} {pb:Nat->Nat->Bool}:∀ {e k:Nat},bestA lp pb e=some k->lp k=true
 | 0,k,h=>by cases h
 | e + 1,k,h=>by
  rw [bestA] at h;split at h
  ·rename_i h1;simp only [oI] at h;subst h;simp only [Bool.and_eq_true] at h1;exact h1.1
  ·exact sO h
theorem wX {lp:Nat->Bool} {pb:Nat->Nat->Bool} {n k:Nat} (h:nR lp pb n=some k):k < n/\lp k=true/\∀ c,c < n->lp c=true->pb k c=true:=by
 unfold nR at h;split at h
 ·cases h
 ·rename_i o ho;split at h
  ·cases h
  ·rename_i h1;simp only [oI] at h;subst h;refine ⟨nS ho,sO ho,fun c hc hp=>?_⟩;simp only [List.any_eq_true,List.mem_range,Bool.and_eq_true,Bool.not_eq_true',not_exists,not_and] at h1;have:=h1 c hc hp;simpa using this
structure fU (f:Nat->Nat->Bool) (n:Nat):Prop where
 pos:0 < n
 rfl':∀ a,a < n->f a a=true
 tr:∀ a b c,a < n->b < n->c < n->f a b=true->f b c=true->f a c=true
 GQ:∀ a b,a < n->b < n->f a b=true->f b a=true->a=b
 jn:∀ a b,a < n->b < n->∃ k,fk f n a b=some k
 mt:∀ a b,a < n->b < n->∃ k,jx f n a b=some k
theorem pM {f:Nat->Nat->Bool} {n a b k:Nat} (h:fk f n a b=some k):k < n/\f a k=true/\f b k=true/\∀ c,c < n->f a c=true->f b c=true->f k c=true:=by
 obtain ⟨h1,h2,h3⟩:=wX h;simp only [Bool.and_eq_true] at h2;exact ⟨h1,h2.1,h2.2,fun c hc ha hb=>h3 c hc (by simp [ha,hb])⟩
theorem pN {f:Nat->Nat->Bool} {n a b k:Nat} (h:jx f n a b=some k):k < n/\f k a=true/\f k b=true/\∀ c,c < n->f c a=true->f c b=true->f c k=true:=by
 obtain ⟨h1,h2,h3⟩:=wX h;simp only [Bool.and_eq_true] at h2;exact ⟨h1,h2.1,h2.2,fun c hc ha hb=>h3 c hc (by simp [ha,hb])⟩
def gV (f:Nat->Nat->Bool) (l:List Nat) (c:Nat):Bool:=l.all fun i=>f i c
def sP (f:Nat->Nat->Bool) (n:Nat) (l:List Nat) (c:Nat):Bool:=gV f l c && (List.range n).all fun d=>!gV f l d || f c d
def eT (f:Nat->Nat->Bool) (n:Nat) (l:List Nat):Option Nat:=bI (sP f n l) n
theorem nV {f:Nat->Nat->Bool} {n:Nat} {l:List Nat} {c:Nat}:sP f n l c=true↔gV f l c=true/\∀ d,d < n->gV f l d=true->f c d=true:=by
 unfold sP;simp only [Bool.and_eq_true,List.all_eq_true,List.mem_range,Bool.or_eq_true,Bool.not_eq_true'];constructor
 ·rintro ⟨h1,h2⟩;refine ⟨h1,fun d hd ho=>?_⟩;rcases h2 d hd with h | h
  ·rw [ho] at h;cases h
  ·exact h
 ·rintro ⟨h1,h2⟩;refine ⟨h1,fun d hd=>?_⟩;cases ho:gV f l d
  ·exact .inl rfl
  ·exact .inr (h2 d hd ho)
theorem zX {f:Nat->Nat->Bool} {n:Nat} (hL:fU f n) {l:List Nat} {c:Nat} (hc:c < n) (h:sP f n l c=true):eT f n l=some c:=by
 refine bq hc h fun a ha=>?_;cases h2:sP f n l a
 ·rfl
 ·obtain ⟨h3,h4⟩:=nV.1 h;obtain ⟨h5,h6⟩:=nV.1 h2;have:=hL.GQ a c (by omega) hc (h6 c hc h3) (h4 a (by omega) h5);omega
theorem pO {f:Nat->Nat->Bool} {n c:Nat} (hL:fU f n) (hc:c < n) (h:∀ d,d < n->f c d=true):eT f n []=some c:=
 zX hL hc (nV.2 ⟨rfl,fun d hd _=>h d hd⟩)
theorem tX {f:Nat->Nat->Bool} {n c k i:Nat} {l:List Nat} (hL:fU f n) (hl:∀ x∈l,x < n) (hi:i < n) (h:eT f n l=some c) (hk:fk f n c i=some k):eT f n (l ++ [i])=some k:=by
 obtain ⟨h1,h2,_⟩:=cA h;obtain ⟨h3,h4⟩:=nV.1 h2;obtain ⟨g1,g2,g3,g4⟩:=pM hk;simp only [gV,List.all_eq_true] at h3;refine zX hL g1 (nV.2 ⟨?_,fun d hd ho=>?_⟩)
 ·simp only [gV,List.all_eq_true,List.mem_append,List.mem_singleton];rintro x (hx | rfl)
  ·exact hL.tr x c k (hl x hx) h1 g1 (h3 x hx) g2
  ·exact g3
 ·simp only [gV,List.all_eq_true,List.mem_append,List.mem_singleton] at ho;refine g4 d hd (h4 d hd ?_) (ho i (.inr rfl));simp only [gV,List.all_eq_true];exact fun x hx=>ho x (.inl hx)
theorem oJ {f:Nat->Nat->Bool} {n c:Nat} {l:List Nat} (h:eT f n l=some c):c < n:=(cA h).1
abbrev SF (L:List DV) (n b e:Nat):St:=
 ⟨[(0,⟨[],.pt L 0⟩),(3,⟨[],.v (.int .i64 b)⟩),(9,⟨[],.v (.int .i64 n)⟩),(10,⟨[],.v (.int .i64 e)⟩)],[],[]⟩
theorem rb (af:List ByteArray) (tc:List DV) (rows:List Nat) (js:List Int) {f:Nat->Nat->Bool} (hL:fU f af.length) (hn:af.length<=32) (hj:∀ x y,x < af.length->y < af.length->JM f af.length js x y) :
  aQ prog 140 [.pt (jk af tc rows js) 0] (.v (.int .i64 (oz (eT f af.length [])))):=by
 have hlen:=sN af tc rows js;have jF:=hL.pos;refine eG 19 [.tmp 2] func140 rfl ntmps140 rfl fun _ _ _ _=>?_;refine cP Mg hlen ?_;refine br ?_ ?_<;>intro g
 ·exfalso;simp at g;simp [g] at jF
 refine cP Mg hlen ?_;refine lI (fun j st=>∃ e b:Nat,st=SF (jk af tc rows js) af.length b e/\e<=af.length/\b < af.length/\(∀ x,x < e->f b x=true)/\j=af.length - e) ⟨0,0,rfl,by omega,by omega,fun _ h=>by omega,rfl⟩ (ah ⟨_,rfl⟩ wA rfl rfl rfl wB) ?_;rintro j st ⟨e,b,rfl,he,hb,dq,rfl⟩;refine br ?_ ?_<;>intro hL'
 ·have aj:e < af.length:=by have:=hL';simp at this;exact this
  obtain ⟨k,hk⟩:=hL.mt b e hb aj;obtain ⟨g1,g2,g3,g4⟩:=pN hk;have hz:=(hj b e hb aj).2;rw [hk] at hz;refine cP XV (GP af tc rows js b e k hb aj hn hz) ?_;refine ⟨SF (jk af tc rows js) af.length k (e + 1),(ah ⟨_,rfl⟩ wA rfl rfl rfl (cX (aF aj (by omega)))),af.length - (e + 1),by omega,e + 1,k,rfl,by omega,g1,fun x hx=>?_,rfl⟩;rcases Nat.lt_succ_iff_lt_or_eq.1 hx with hx | rfl
  ·exact hL.tr k b x g1 hb (by omega) g2 (dq x hx)
  ·exact g3
 ·have aM:e=af.length:=by have:=hL';simp at this;omega
  subst aM;rw [pO hL hb dq];exact (rfl:_=_)
def labW (L:List ByteArray):List Wd->Ft
 | []=>(0,0)
 | w :: r=>if cY L w.s=none then (17,w.a) else labW L r
def mF (L:List ByteArray) (l:List Wd):List Nat:=l.map fun w=>(cY L w.s).getD 0
def BU (f:Nat->Nat->Bool) (L:List ByteArray) (l:List Wd):Int:=if (labW L l).1=0 then oz (eT f L.length (mF L l)) else 0
def Kf (f:Nat->Nat->Bool) (L:List ByteArray) (l:List Wd):DV:=.tup [.v (.int .i64 (BU f L l)),(labW L l).d]
theorem sQ {L:List ByteArray} {l:List Wd} {e:Nat} {w:Wd} (h:l[e]? = some w):labW L (l.drop e)=if cY L w.s=none then (17,w.a) else labW L (l.drop (e + 1)):=by
 rw [drop_cons h,labW]
theorem sR {L:List ByteArray} {l:List Wd} {e i:Nat} {w:Wd} (h:l[e]? = some w) (hi:cY L w.s=some i):mF L (l.take (e + 1))=mF L (l.take e) ++ [i]:=by
 rw [List.take_add_one,h];simp [mF,hi]
abbrev SG (L:List DV) (l:List Wd) (b e:Nat):St:=
 ⟨[(0,⟨[],.pt L 0⟩),(5,⟨[],.loc 0 0⟩),(6,⟨[],.v (.int .i64 b)⟩),(16,⟨[],.sl 2 (bJ l) none⟩),(17,⟨[],.v (.int .i64 (bJ l).length)⟩),(18,⟨[],.v (.int .i64 e)⟩)],[[.v (.int .i64 0),.v (.int .i64 0)]],[]⟩
theorem Nb (af:List ByteArray) (aH rows:List Nat) (js:List Int) (hT:iF af aH) (jC:aH.length<=1099511627776) {f:Nat->Nat->Bool} (hL:fU f af.length) (hn:af.length<=32) (hj:∀ x y,x < af.length->y < af.length->JM f af.length js x y)
  (l:List Wd) (hs:wdsWt l<=1099511627776) :
  aQ prog 99 [.pt (jk af (de af aH) rows js) 0,.sl 2 (bJ l) none] (Kf f af l):=by
 have nu:=bG l;have Nc:=rb af (de af aH) rows js hL hn hj
 have uz:∃ b,eT f af.length []=some b:=by
  have:∀ e,e<=af.length->∃ b,b < af.length/\∀ x,x < e->f b x=true:=by
   intro e
   induction e with
   | zero=>intro _;exact ⟨0,hL.pos,fun _ h=>by omega⟩
   | succ e ih=>
    intro he;obtain ⟨b,hb,dq⟩:=ih (by omega);obtain ⟨k,hk⟩:=hL.mt b e hb (by omega);obtain ⟨g1,g2,g3,_⟩:=pN hk;refine ⟨k,g1,fun x hx=>?_⟩;rcases Nat.lt_succ_iff_lt_or_eq.1 hx with hx | rfl
    ·exact hL.tr k b x g1 hb (by omega) g2 (dq x hx)
    ·exact g3
  obtain ⟨b,hb,dq⟩:=this af.length (Nat.le_refl _);exact ⟨b,pO hL hb dq⟩
 obtain ⟨b0,ie⟩:=uz;rw [ie] at Nc;refine eG 41 [.tmp 4,.cell 5 45] func99 rfl ntmps99 rfl fun _ _ _ _=>?_;refine cP R3 Nc ?_;refine lI (fun j st=>∃ e b:Nat,st=SG (jk af (de af aH) rows js) l b e/\e<=l.length/\labW af l=labW af (l.drop e)/\eT f af.length (mF af (l.take e))=some b/\(∀ x∈mF af (l.take e),x < af.length)/\j=l.length - e) ⟨0,b0,rfl,by omega,rfl,ie,by simp [mF],rfl⟩ (ah ⟨_,rfl⟩ wA rfl rfl rfl wB) ?_;rintro j st ⟨e,b,rfl,he,aJ,P9,zw,rfl⟩;have hb:=oJ P9;refine br ?_ ?_<;>intro hLt
 ·have aj:e < l.length:=by simpa [aw] using hLt
  obtain ⟨w,hw⟩:=gX aj;have aR:=sQ (L:=af) hw;have BT:=GO af aH rows js w.s hT jC;refine ⟨ko w,⟨by omega,aT hw⟩,?_⟩
  cases hx:cY af w.s with
  | none=>
   rw [hx] at BT;refine cP Sa BT ?_;rw [if_pos hx] at aR;have h1:labW af l=(17,w.a):=aJ.trans aR;refine dS ?_;refine ⟨_,?_,rfl⟩;rw [Kf,BU,h1,if_neg (by simp)];exact ax
  | some i=>
   rw [hx] at BT;refine cP Sa BT ?_;rw [if_neg (by rw [hx];simp)] at aR;have hi:=(dm hx).1;obtain ⟨k,hk⟩:=hL.jn b i hb hi;have hz:=(hj b i hb hi).1;rw [hk] at hz;refine cP Sb (wW af (de af aH) rows js b i k hb hi hn hz) ?_;refine ⟨SG (jk af (de af aH) rows js) l k (e + 1),(ah ⟨_,rfl⟩ wA rfl rfl rfl (cX (aF aj (by omega)))),l.length - (e + 1),by omega,e + 1,k,rfl,by omega,aJ.trans aR,?_,?_,rfl⟩
   ·rw [sR hw hx];exact tX hL zw hi P9 hk
   ·rw [sR hw hx];intro x hm;rcases List.mem_append.1 hm with hm | hm
    ·exact zw x hm
    ·rw [List.mem_singleton.1 hm];exact hi
 ·have aM:e=l.length:=by
   have:=hLt;simp [aw] at this;omega
  subst aM;rw [List.drop_length] at aJ;rw [List.take_length] at P9;have h1:labW af l=(0,0):=aJ;refine ⟨_,?_,rfl⟩;rw [Kf,BU,h1,if_pos rfl,P9];exact ax
def GR (x:Ft × Int) (r:DV) (os:List (List DV)) (_:List TkE):Prop:=
 r=x.1.d/\∃ z:Int,os=[[.v (.int .i64 z)]]/\(x.1.1=0->z=x.2)
theorem mH {x:Ft × Int}:∀ r os tk,GR x r os tk->clB 0 0 r=true/\∀ rS∈os,clB.clL 0 0 rS=true:=by
 rintro r os tk ⟨rfl,z,rfl,_⟩;refine ⟨rfl,fun rS h=>?_⟩;simp only [List.mem_singleton] at h;subst h;rfl
def Nf (k:Nat):Prop:=∀ (t:Ty) (depth m:Int),t.wt<=k->t.wt<=1099511627776->0<=depth->depth<=25->0<=m->m<=512 ->
 Ev prog 160 [.loc 0 0,.agg (ei t),.v (.int .i64 depth)] [[.v (.int .i64 m)]] [] (GR (wrong t depth m))
def lM (p:Ph) (t:Ty) (un:Bool) (depth m:Int):Ft × Int:=
 if p.bare=true then (if un=false∨dj p t (nQ p) cq=false then ((19,p.name.a),m) else ((0,0),m))
 else if (dK p).1≠0 then (dK p,m)
 else wrong t (depth + 1) m
theorem bF {x:Ft × Int} {f:Ft} {m z:Int} (h:x=(f,m)) (hz:f.1=0->z=m) {tk:List TkE}:GR x f.d [[.v (.int .i64 z)]] tk:=by
 subst h;exact ⟨rfl,z,rfl,hz⟩
theorem GS (k:Nat) (ih:Nf k) (p:Ph) (t:Ty) (un:Bool) (depth m:Int) (hk:t.wt<=k) (hp:p.wt<=1099511627776) (cC:t.wt<=1099511627776) (uZ:0<=depth) (yY:depth<=24) (oX:0<=m) (j1:m<=512) :
  Ev prog 233 [.loc 0 0,.agg (Gi p (ei t)),.v (.bool un),.v (.int .i64 depth)] [[.v (.int .i64 m)]] [] (GR (lM p t un depth m)):=by
 have qJ:=hp;simp only [Ph.wt] at qJ;have tH:=nN p (nQ p) t cq hp (by simp only [Ph.wt,nQ,wdsWt];omega) (wu t cq cC (by decide));have qI:=ih t (depth + 1) m hk cC (by omega) (by omega) oX j1;obtain ⟨u,us⟩:=t;have hcoa:=BH p (ei (.mk u us)) (.mk u us) rfl hp;have hS:=lM.eq_def p (.mk u us) un depth m;generalize lM p (.mk u us) un depth m=F at hS ⊢;obtain ⟨nm,bare,lab,wide,ck,cn,ca,cl⟩:=p;simp only at hS qJ tH
 cases bare with
 | true=>
  rw [if_pos rfl] at hS
  cases un with
  | true=>
   refine eG 68 [.cell 8 45] func233 rfl ntmps233 rfl fun _ _ _ _=>?_;refine cP Mi tH ?_;refine br ?_ ?_<;>intro q
   ·have q:dj ⟨nm,true,lab,wide,ck,cn,ca,cl⟩ (.mk u us) (nQ ⟨nm,true,lab,wide,ck,cn,ca,cl⟩) cq=false:=by simpa [show (lastG (21,false) [(18,true)]).snd=true from rfl,pickB] using q
    rw [if_pos (.inr q)] at hS;refine cP ep (bH 19 nm.a) ?_;exact ⟨_,_,ax,ax,bF (tk:=[]) (f:=(19,nm.a)) hS (fun _=>rfl)⟩
   ·have q:dj ⟨nm,true,lab,wide,ck,cn,ca,cl⟩ (.mk u us) (nQ ⟨nm,true,lab,wide,ck,cn,ca,cl⟩) cq=true:=by simpa [show (lastG (21,false) [(18,true)]).snd=true from rfl,pickB] using q
    rw [if_neg (by simp [q])] at hS;exact ⟨_,_,ax,ax,bF (tk:=[]) (f:=(0,0)) hS (fun _=>rfl)⟩
  | false=>
   refine eG 68 [.cell 8 45] func233 rfl ntmps233 rfl fun _ _ _ _=>?_;rw [if_pos (.inl rfl)] at hS;refine cP ep (bH 19 nm.a) ?_;exact ⟨_,_,ax,ax,bF (tk:=[]) (f:=(19,nm.a)) hS (fun _=>rfl)⟩
 | false=>
  rw [if_neg (by simp)] at hS;refine eG 68 [.cell 8 45] func233 rfl ntmps233 rfl fun _ _ _ _=>?_;refine br ?_ ?_<;>intro hw
  ·have hw:wide < 0∨64 < wide:=by simpa [au] using hw
   have hP:dK ⟨nm,false,lab,wide,ck,cn,ca,cl⟩=(20,nm.a):=by simp only [dK,if_pos hw]
   rw [hP,if_pos (by simp)] at hS;refine cP ep (bH 20 nm.a) ?_;exact ⟨_,_,ax,ax,bF (tk:=[]) (f:=(20,nm.a)) hS (fun _=>rfl)⟩
  have hw:¬ (wide < 0∨64 < wide):=by simp [au] at hw;omega
  refine cP Dt (jr lab (by omega)) ?_;refine br ?_ ?_<;>intro hb
  ·have hb:(bX lab).1≠0:=sU hb;have hP:dK ⟨nm,false,lab,wide,ck,cn,ca,cl⟩=bX lab:=by simp only [dK,if_neg hw,if_pos hb]
   rw [hP,if_pos hb] at hS;exact ⟨_,_,ax,ax,bF (tk:=[]) (f:=bX lab) hS (fun _=>rfl)⟩
  have hb:(bX lab).1=0:=sU hb;have hP:dK ⟨nm,false,lab,wide,ck,cn,ca,cl⟩=bf ⟨nm,false,lab,wide,ck,cn,ca,cl⟩:=by simp only [dK,if_neg hw];rw [if_neg (by simp [hb])]
  rw [hP] at hS;refine cP X7 hcoa ?_;refine br ?_ ?_<;>intro hc
  ·have hc:(bf ⟨nm,false,lab,wide,ck,cn,ca,cl⟩).1≠0:=sU hc;rw [if_pos hc] at hS;exact ⟨_,_,ax,ax,bF (tk:=[]) (f:=bf ⟨nm,false,lab,wide,ck,cn,ca,cl⟩) hS (fun _=>rfl)⟩
  have hc:(bf ⟨nm,false,lab,wide,ck,cn,ca,cl⟩).1=0:=sU hc;rw [if_neg (by simp [hc])] at hS;refine mq Md rfl rfl ax (by repeat' (first | exact rfl | exact trivial | exact Or.inr (Or.inl ⟨_,rfl⟩) | exact Or.inr ⟨_,rfl⟩ | exact Or.inl ⟨rfl,rfl⟩ | exact Or.inl rfl | refine Or.inr ⟨_,_,rfl,Nat.zero_le _,rfl,?_⟩ | refine ⟨_,_,rfl,?_,?_⟩ | refine ⟨_,rfl,?_⟩ | exact congrArg (fun z=>DV.v (.int .i64 z)) (wrap64 (by omega) (by omega)) | refine Or.inr (Or.inr (Or.inr ⟨_,_,rfl,?_⟩)) | exact Or.inl rfl | refine Or.inr ?_)) qI mH (fun r rS hr=>?_);obtain ⟨rfl,z,hz,rQ⟩:=hr;simp only [List.cons.injEq,and_true] at hz;subst hz;exact ⟨_,_,ax,ax,bF (tk:=[]) (f:=(wrong (.mk u us) (depth + 1) m).1) hS rQ⟩
theorem y6 {ag:Int} {all:List Wd} {i:Nat} {p:Ph} {t:Ty} {r:Pts} {depth m:Int} (hk:ag=7∨ag=8) (hl:aG all i p.name=0) :
  wrongPts ag all i (.cons p t r) depth m=if (lM p t (decide (ag=8)) depth m).1.1≠0 then lM p t (decide (ag=8)) depth m else wrongPts ag all (i + 1) r depth (lM p t (decide (ag=8)) depth m).2:=by
 simp only [wrongPts];rw [if_neg (by simp [hl])];unfold lM;by_cases hb:p.bare=true
 ·rw [if_pos hb,if_pos hb,Qk];by_cases h7:ag=7
  ·subst h7;rw [if_pos (.inl rfl),if_pos (c:=decide ((7:Int)=8)=false∨_) (.inl (by simp)),if_pos (by simp)]
  ·have h8:ag=8:=by omega
   subst h8;by_cases h:sameTy t cq=false∨bW p fx=false
   ·have h':decide ((8:Int)=8)=false∨(bW p fx && sameTy t cq)=false:=.inr (by rcases h with h | h<;>simp [h]);rw [if_pos (.inr h),if_pos h',if_pos (by simp)]
   ·have h1:sameTy t cq=true:=by
     cases hc:sameTy t cq
     ·exact absurd (.inl hc) h
     ·rfl
    have h2:bW p fx=true:=by
     cases hc:bW p fx
     ·exact absurd (.inr hc) h
     ·rfl
    have h':¬ (decide ((8:Int)=8)=false∨(bW p fx && sameTy t cq)=false):=by simp [h1,h2]
    rw [if_neg (by simp [h1,h2]),if_neg h',if_neg (by simp)]
 ·rw [if_neg hb,if_neg hb];by_cases hP:(dK p).1≠0
  ·rw [if_pos hP,if_pos hP,if_pos hP]
  ·rw [if_neg hP,if_neg hP]
theorem Ng {p:Ph} {t:Ty} {un:Bool} {depth m:Int} (oX:0<=m) (j1:m<=512) (h:(lM p t un depth m).1.1=0):(lM p t un depth m).1=(0,0)/\0<=(lM p t un depth m).2/\(lM p t un depth m).2<=512:=by
 have hw:=qU t (depth + 1) m oX;unfold lM at h ⊢;by_cases hb:p.bare=true
 ·rw [if_pos hb] at h ⊢;split at h
  ·simp at h
  ·rename_i hc;rw [if_neg hc];exact ⟨rfl,oX,j1⟩
 ·rw [if_neg hb] at h ⊢;by_cases hP:(dK p).1≠0
  ·rw [if_pos hP] at h;exact absurd h hP
  ·rw [if_neg hP] at h ⊢;exact hw h
abbrev D0 (h:Hd) (ps:Pts) (n e:Nat) (depth m:Int):St:=
 ⟨[(0,⟨[],.loc 0 0⟩),(2,⟨[],.v (.int .i64 depth)⟩),(4,⟨[],.loc 1 0⟩),(6,⟨[],.loc 2 0⟩),(38,⟨[],.sl 18 (gd ps) none⟩),(39,⟨[],.v (.int .i64 (gd ps).length)⟩),(40,⟨[],.v (.int .i64 e)⟩),(7,⟨[],.sl 1 (eV (az ((pNames ps).take e))) (some 0)⟩)],
  [[.v (.int .i64 m)],ei (.mk h ps),[.v (.int .i64 0),.v (.int .i64 0)]],[⟨n,9,1,none⟩]⟩
theorem tY (k:Nat) (ih:Nf k) (h:Hd) (ps:Pts) (depth m:Int) (D1:h.ag=7∨h.ag=8) (hk:ps.wt<=k) (cC:(Ty.mk h ps).wt<=1099511627776) (uZ:0<=depth) (yY:depth<=24) (oX:0<=m) (j1:m<=512) :
  Ev prog 202 [.loc 0 0,.agg (ei (.mk h ps)),.v (.int .i64 depth)] [[.v (.int .i64 m)]] [] (GR (fg h ps depth m)):=by
 simp only [Ty.wt,Hd.wt] at cC;have mZ:=ps.fZ;have fc:=gH ps;have Up:=sB ps;have hS:=fg.eq_def h ps depth m;generalize fg h ps depth m=F at hS ⊢;refine eG 72 [.cell 6 45] func202 rfl ntmps202 rfl fun _ _ _ _=>?_;refine br ?_ ?_<;>intro c1
 ·have c1:h.ag=8/\ps.len=0:=by
   simp [aq,aK] at c1;exact ⟨c1.1,by omega⟩
  rw [if_pos c1] at hS;refine cP ep (bH 15 h.aS) ?_;exact ⟨_,_,ax,ax,bF (tk:=[]) (f:=(15,h.aS)) hS (fun _=>rfl)⟩
 have c1:¬ (h.ag=8/\ps.len=0):=by
  simp [aq,aK] at c1;omega
 rw [if_neg c1] at hS;refine br ?_ ?_<;>intro c2
 ·have aj:64 < ps.len:=by simp [aK] at c2;omega
  obtain ⟨p,t,hx⟩:=Pts.eN aj;refine iX (cd hx) ?_;refine cP ep (bH 8 p.name.a) ?_;rw [if_pos aj,gI hx] at hS;exact ⟨_,_,ax,ax,bF (tk:=[]) (f:=(8,p.name.a)) hS (fun _=>rfl)⟩
 have c2:¬ 64 < ps.len:=by simp [aK] at c2;omega
 rw [if_neg c2] at hS
 refine bo (fun j st=>∃ (e:Nat) (m':Int),st=D0 h ps e e depth m' /\ e<=ps.len/\0<=m' /\ m' <= 512/\(az ((pNames ps).take e)).Nodup /\
   F=wrongPts h.ag (pNames ps) e (ps.drop e) depth m' /\ j=ps.len - e) ps.len (D0 h ps 0 0 depth m) (fu ⟨0,9,1,none⟩ rfl ⟨_,rfl⟩ rfl wA rfl rfl lY) ⟨0,m,rfl,by omega,oX,j1,by simp [az],hS,by omega⟩ ?_
 rintro j st ⟨e,m',rfl,he,BG,DG,hnd,aJ,rfl⟩;refine br ?_ ?_<;>intro hL
 ·have aj:e < ps.len:=by simpa [aK] using hL
  obtain ⟨p,t,hx⟩:=Pts.eN aj;have yB:=Pts.gG (mG hx);have eE:=gI hx;have hpw:p.name.s.size + 64<=p.wt:=by simp only [Ph.wt,Wd.wt];omega
  rw [Pts.drop_cons hx] at aJ
  have Mz:(az ((pNames ps).take (e + 1)))[(az ((pNames ps).take (e + 1))).length - 1]? = some p.name.s:=by
   have yQ:(az ((pNames ps).take (e + 1))).length=e + 1:=by simp [az];omega
   rw [yQ];simp [az,eE]
  have TD:=tS (az ((pNames ps).take (e + 1))) p.name.s p.name.a Mz (by simp [az];omega) (by omega);have du:=j3 eE;rw [zS p.name.a eE hnd,<- du] at TD;have D2:=GS k ih p t (decide (h.ag=8)) depth m' (by omega) (by omega) (by omega) uZ yY BG DG;obtain ⟨u,us⟩:=t;refine iX (cd hx) ?_;refine ⟨by simp [ch,az];omega,⟨by simp [ch,az,maxLen];omega,by simp [ch,az];omega⟩,?_⟩;refine cP Sk TD ?_;by_cases hl:aG (pNames ps) e p.name≠0
  ·rw [if_pos hl];refine br ?_ ?_<;>intro hf
   ·simp only [wrongPts] at aJ;rw [if_pos hl] at aJ;exact ⟨_,_,ax,ax,bF (tk:=[]) (f:=(aG (pNames ps) e p.name,p.name.a)) aJ (fun _=>rfl)⟩
   ·exact absurd (sU hf) hl
  have hl:aG (pNames ps) e p.name=0:=sU hl;have hndn:=mE eE hnd hl;rw [if_neg (by simp [hl])];rw [y6 D1 hl] at aJ;have bm:=Ng (p:=p) (t:=.mk u us) (un:=decide (h.ag=8)) (depth:=depth) BG DG;generalize lM p (.mk u us) (decide (h.ag=8)) depth m'=r at D2 aJ bm;obtain ⟨⟨fe,fa⟩,many⟩:=r;simp only at aJ bm;refine mq X6 rfl rfl ax ax D2 mH (fun r rS hr=>?_);obtain ⟨rfl,z,hz,rQ⟩:=hr;simp only [List.cons.injEq,and_true] at hz;subst hz;refine br ?_ ?_<;>intro hd
  ·have hd:fe≠0:=sU hd;rw [if_pos hd] at aJ;exact ⟨_,_,ax,ax,bF (tk:=[]) (f:=(fe,fa)) aJ (fun h0=>absurd h0 hd)⟩
  ·have hd:fe=0:=sU hd;subst hd;obtain ⟨_,h2,h3⟩:=bm rfl;rw [if_neg (by simp)] at aJ;have GU:z=many:=rQ rfl;subst GU;exact rE ⟨_,by omega,e + 1,z,rfl,by omega,h2,h3,hndn,aJ,rfl⟩ (ah ⟨_,rfl⟩ wA rfl rfl rfl (wB2 (aF aj (by omega)) du))
 ·have aM:e=ps.len:=by simp [aK] at hL;omega
  rw [aM,Pts.dr] at aJ;simp only [wrongPts] at aJ;exact ⟨_,_,ax,ax,bF (tk:=[]) (f:=(0,0)) aJ (fun _=>rfl)⟩
theorem zY (k:Nat) (ih:Nf k) (h:Hd) (ps:Pts) (depth m:Int) (hk:ps.wt<=k) (cC:(Ty.mk h ps).wt<=1099511627776) (uZ:0<=depth) (yY:depth<=24) (oX:0<=m) (j1:m<=512) :
  Ev prog 201 [.loc 0 0,.agg (ei (.mk h ps)),.v (.int .i64 depth)] [[.v (.int .i64 m)]] [] (GR (wrongOne h ps depth m)):=by
 simp only [Ty.wt,Hd.wt] at cC
 cases ps with
 | nil=>
  have hS:wrongOne h .nil depth m=((19,h.aS),m):=by simp only [wrongOne]
  generalize wrongOne h .nil depth m=F at hS ⊢;refine eG 44 [.cell 6 45] func201 rfl ntmps201 rfl fun _ _ _ _=>?_;refine cP ep (bH 19 h.aS) ?_;exact ⟨_,_,ax,ax,bF (tk:=[]) (f:=(19,h.aS)) hS (fun _=>rfl)⟩
 | cons p t r=>
  cases r with
  | cons p2 t2 r2=>
   have hS:wrongOne h (.cons p t (.cons p2 t2 r2)) depth m=((19,h.aS),m):=by simp only [wrongOne]
   generalize wrongOne h (.cons p t (.cons p2 t2 r2)) depth m=F at hS ⊢;refine eG 44 [.cell 6 45] func201 rfl ntmps201 rfl fun _ _ _ _=>?_;refine cP ep (bH 19 h.aS) ?_;exact ⟨_,_,ax,ax,bF (tk:=[]) (f:=(19,h.aS)) hS (fun _=>rfl)⟩
  | nil=>
   simp only [Pts.wt] at cC hk;have hS:wrongOne h (.cons p t .nil) depth m=if p.name.s≠av∨bW p ff=false then ((19,h.aS),m) else if h.most < 0∨1024 < h.most then ((20,h.aS),m) else wrong t (depth + 1) m:=by simp only [wrongOne]
   generalize wrongOne h (.cons p t .nil) depth m=F at hS ⊢;have T4:=DJ p t (by omega);rw [empty_eq] at T4;have qI:=ih t (depth + 1) m (by omega) (by omega) (by omega) (by omega) oX j1;obtain ⟨u,us⟩:=t;refine eG 44 [.cell 6 45] func201 rfl ntmps201 rfl fun _ _ _ _=>?_;refine ⟨_,⟨by omega,rfl⟩,?_⟩;refine cP X5 T4 ?_;refine br ?_ ?_<;>intro q
   ·have q:p.name.s≠av∨bW p ff=false:=by
     have:=q;simp [pickB] at this;exact this
    rw [if_pos q] at hS;refine cP ep (bH 19 h.aS) ?_;exact ⟨_,_,ax,ax,bF (tk:=[]) (f:=(19,h.aS)) hS (fun _=>rfl)⟩
   have q:¬ (p.name.s≠av∨bW p ff=false):=by
    have:=q;simp [pickB] at this;simp [this.1,this.2]
   rw [if_neg q] at hS;refine br ?_ ?_<;>intro x
   ·have x:h.most < 0∨1024 < h.most:=by simpa [au] using x
    rw [if_pos x] at hS;refine cP ep (bH 20 h.aS) ?_;exact ⟨_,_,ax,ax,bF (tk:=[]) (f:=(20,h.aS)) hS (fun _=>rfl)⟩
   have x:¬ (h.most < 0∨1024 < h.most):=by simp [au] at x;omega
   rw [if_neg x] at hS;refine ⟨_,⟨by omega,rfl⟩,?_⟩;refine mq Md rfl rfl ax (by repeat' (first | exact rfl | exact trivial | exact Or.inr (Or.inl ⟨_,rfl⟩) | exact Or.inr ⟨_,rfl⟩ | exact Or.inl ⟨rfl,rfl⟩ | exact Or.inl rfl | refine Or.inr ⟨_,_,rfl,Nat.zero_le _,rfl,?_⟩ | refine ⟨_,_,rfl,?_,?_⟩ | refine ⟨_,rfl,?_⟩ | exact congrArg (fun z=>DV.v (.int .i64 z)) (wrap64 (by omega) (by omega)) | refine Or.inr (Or.inr (Or.inr ⟨_,_,rfl,?_⟩)) | exact Or.inl rfl | refine Or.inr ?_)) qI mH (fun r rS hr=>?_);obtain ⟨rfl,z,hz,rQ⟩:=hr;simp only [List.cons.injEq,and_true] at hz;subst hz;exact ⟨_,_,ax,ax,bF (tk:=[]) (f:=(wrong (.mk u us) (depth + 1) m).1) hS rQ⟩
theorem D3 (k:Nat) (ih:Nf k) (h:Hd) (ps:Pts) (depth m:Int) (hk:ps.wt<=k) (cC:(Ty.mk h ps).wt<=1099511627776) (uZ:0<=depth) (yY:depth<=25) (oX:0<=m) (j1:m<=512) :
  Ev prog 160 [.loc 0 0,.agg (ei (.mk h ps)),.v (.int .i64 depth)] [[.v (.int .i64 m)]] [] (GR (wrong (.mk h ps) depth m)):=by
 have zZ:=cC;simp only [Ty.wt,Hd.wt] at zZ;have rT:IntKind.i64.wrap (m + 1)=m + 1:=wrap64 (by omega) (by omega);have hS:=wrong.eq_def (.mk h ps) depth m;simp only at hS;generalize wrong (.mk h ps) depth m=F at hS ⊢;have fN:=JX h ps;rw [Iv] at fN;refine eG 103 [.cell 6 45] func160 rfl ntmps160 rfl fun _ _ _ _=>?_;refine br ?_ ?_<;>intro c
 ·have c:24 < depth:=of_decide_eq_true c;rw [if_pos c] at hS;refine cP ep (bH 6 h.aS) ?_;exact ⟨_,[[.v (.int .i64 (m + 1))]],ax,(gF rT),bF (tk:=[]) (f:=(6,h.aS)) hS (fun _=>rfl)⟩
 have c:¬ 24 < depth:=of_decide_eq_false c;rw [if_neg c] at hS;refine br ?_ ?_<;>intro c
 ·have c:512 < IntKind.i64.wrap (m + 1):=of_decide_eq_true c;rw [rT] at c;rw [if_pos c] at hS;refine cP ep (bH 8 h.aS) ?_;exact ⟨_,[[.v (.int .i64 (m + 1))]],ax,(gF rT),bF (tk:=[]) (f:=(8,h.aS)) hS (fun _=>rfl)⟩
 have c:¬ 512 < IntKind.i64.wrap (m + 1):=of_decide_eq_false c;rw [rT] at c;rw [if_neg c] at hS;refine br ?_ ?_<;>intro c
 ·have c:h.ag < 1∨9 < h.ag:=by simpa [au] using c
  rw [if_pos c] at hS;refine cP ep (bH 14 h.aS) ?_;exact ⟨_,[[.v (.int .i64 (m + 1))]],ax,(gF rT),bF (tk:=[]) (f:=(14,h.aS)) hS (fun _=>rfl)⟩
 have ck:¬ (h.ag < 1∨9 < h.ag):=by simp [au] at c;omega
 rw [if_neg ck] at hS;refine cP XY fN ?_;refine br ?_ ?_<;>intro c
 ·have c:uG (.mk h ps)=false:=by simpa [uG] using c
  rw [if_pos c] at hS;refine cP ep (bH 19 h.aS) ?_;exact ⟨_,[[.v (.int .i64 (m + 1))]],ax,(gF rT),bF (tk:=[]) (f:=(19,h.aS)) hS (fun _=>rfl)⟩
 have c:¬ uG (.mk h ps)=false:=by simpa [uG] using c
 rw [if_neg c] at hS;refine br ?_ ?_<;>intro k2
 ·have k2:h.ag=2:=of_decide_eq_true k2;refine br ?_ ?_<;>intro x
  ·have x:h.hi < h.lo:=of_decide_eq_true x;rw [if_pos (.inl ⟨k2,x⟩)] at hS;refine cP ep (bH 20 h.aS) ?_;exact ⟨_,[[.v (.int .i64 (m + 1))]],ax,(gF rT),bF (tk:=[]) (f:=(20,h.aS)) hS (fun _=>rfl)⟩
  have x:¬ h.hi < h.lo:=of_decide_eq_false x;rw [if_neg (by omega),if_neg (by omega),if_neg (by omega),if_neg (by omega),if_neg (by omega)] at hS;exact ⟨_,[[.v (.int .i64 (m + 1))]],ax,(gF rT),bF (tk:=[]) (f:=(0,0)) hS (fun _=>rfl)⟩
 have k2:¬ h.ag=2:=of_decide_eq_false k2;refine br ?_ ?_<;>intro k3
 ·have k3:h.ag=3:=of_decide_eq_true k3;refine br ?_ ?_<;>intro x
  ·have x:h.most < 0∨4096 < h.most:=by simpa [au] using x
   rw [if_pos (.inr ⟨k3,x⟩)] at hS;refine cP ep (bH 20 h.aS) ?_;exact ⟨_,[[.v (.int .i64 (m + 1))]],ax,(gF rT),bF (tk:=[]) (f:=(20,h.aS)) hS (fun _=>rfl)⟩
  have x:¬ (h.most < 0∨4096 < h.most):=by simp [au] at x;omega
  rw [if_neg (by omega),if_neg (by omega),if_neg (by omega),if_neg (by omega),if_neg (by omega)] at hS;exact ⟨_,[[.v (.int .i64 (m + 1))]],ax,(gF rT),bF (tk:=[]) (f:=(0,0)) hS (fun _=>rfl)⟩
 have k3:¬ h.ag=3:=of_decide_eq_false k3;rw [if_neg (by omega)] at hS;refine br ?_ ?_<;>intro k4
 ·have k4:h.ag=4:=of_decide_eq_true k4;rw [if_neg (by omega),if_pos k4,<- M0] at hS;refine cP XZ (Gu h ps (by omega)) ?_;exact ⟨_,[[.v (.int .i64 (m + 1))]],ax,(gF rT),bF (tk:=[]) (f:=nO h) hS (fun _=>rfl)⟩
 have k4:¬ h.ag=4:=of_decide_eq_false k4;refine br ?_ ?_<;>intro k5
 ·have k5':h.ag=5∨h.ag=6:=.inl (of_decide_eq_true k5);rw [if_neg (by omega),if_neg (by omega),if_pos k5'] at hS;refine br (fun _=>?_) (fun hc=>by rw [k5] at hc;cases hc);refine mq Sh rfl rfl (cs':=[.v (.int .i64 (m + 1))]) (gF rT) ax (zY k ih h ps depth (m + 1) hk cC uZ (by omega) (by omega) (by omega)) mH (fun r rS hr=>?_);obtain ⟨rfl,z,hz,rQ⟩:=hr;simp only [List.cons.injEq,and_true] at hz;subst hz;exact ⟨_,_,ax,ax,bF (tk:=[]) (f:=(wrongOne h ps depth (m + 1)).1) hS rQ⟩
 have k5:¬ h.ag=5:=of_decide_eq_false k5;refine br ?_ ?_<;>intro k6
 ·have k5':h.ag=5∨h.ag=6:=.inr (of_decide_eq_true k6);rw [if_neg (by omega),if_neg (by omega),if_pos k5'] at hS;refine mq Sh rfl rfl (cs':=[.v (.int .i64 (m + 1))]) (gF rT) ax (zY k ih h ps depth (m + 1) hk cC uZ (by omega) (by omega) (by omega)) mH (fun r rS hr=>?_);obtain ⟨rfl,z,hz,rQ⟩:=hr;simp only [List.cons.injEq,and_true] at hz;subst hz;exact ⟨_,_,ax,ax,bF (tk:=[]) (f:=(wrongOne h ps depth (m + 1)).1) hS rQ⟩
 have k6:¬ h.ag=6:=of_decide_eq_false k6;have hP:fg h ps depth (m + 1)=fg h ps depth (m + 1):=rfl
 conv at hP=>lhs;unfold fg
 refine br ?_ ?_<;>intro k7
 ·have YL:h.ag=7∨h.ag=8:=.inl (of_decide_eq_true k7);rw [if_neg (by omega),if_neg (by omega),if_neg (by omega),if_pos YL,hP] at hS;refine br (fun _=>?_) (fun hc=>by rw [k7] at hc;cases hc);refine mq Si rfl rfl (cs':=[.v (.int .i64 (m + 1))]) (gF rT) ax (tY k ih h ps depth (m + 1) YL hk cC uZ (by omega) (by omega) (by omega)) mH (fun r rS hr=>?_);obtain ⟨rfl,z,hz,rQ⟩:=hr;simp only [List.cons.injEq,and_true] at hz;subst hz;exact ⟨_,_,ax,ax,bF (tk:=[]) (f:=(fg h ps depth (m + 1)).1) hS rQ⟩
 have k7:¬ h.ag=7:=of_decide_eq_false k7;refine br ?_ ?_<;>intro k8
 ·have YL:h.ag=7∨h.ag=8:=.inr (of_decide_eq_true k8);rw [if_neg (by omega),if_neg (by omega),if_neg (by omega),if_pos YL,hP] at hS;refine mq Si rfl rfl (cs':=[.v (.int .i64 (m + 1))]) (gF rT) ax (tY k ih h ps depth (m + 1) YL hk cC uZ (by omega) (by omega) (by omega)) mH (fun r rS hr=>?_);obtain ⟨rfl,z,hz,rQ⟩:=hr;simp only [List.cons.injEq,and_true] at hz;subst hz;exact ⟨_,_,ax,ax,bF (tk:=[]) (f:=(fg h ps depth (m + 1)).1) hS rQ⟩
 have k8:¬ h.ag=8:=of_decide_eq_false k8;refine br ?_ ?_<;>intro k9
 ·have k9:h.ag=9:=of_decide_eq_true k9;refine cP Gh (iW h.name.s (by simp only [Wd.wt] at zZ;omega)) ?_;refine br ?_ ?_<;>intro q
  ·have q:bc h.name.s=false:=sU q;rw [if_pos ⟨k9,q⟩] at hS;refine cP ep (bH 9 h.name.a) ?_;exact ⟨_,[[.v (.int .i64 (m + 1))]],ax,(gF rT),bF (tk:=[]) (f:=(9,h.name.a)) hS (fun _=>rfl)⟩
  ·have q:bc h.name.s=true:=sU q;rw [if_neg (by simp [q]),if_neg (by omega),if_neg (by omega),if_neg (by omega)] at hS;exact ⟨_,[[.v (.int .i64 (m + 1))]],ax,(gF rT),bF (tk:=[]) (f:=(0,0)) hS (fun _=>rfl)⟩
 have k9:¬ h.ag=9:=of_decide_eq_false k9;rw [if_neg (by omega),if_neg (by omega),if_neg (by omega),if_neg (by omega)] at hS;exact ⟨_,[[.v (.int .i64 (m + 1))]],ax,(gF rT),bF (tk:=[]) (f:=(0,0)) hS (fun _=>rfl)⟩
theorem D4:∀ k,Nf k
 | 0=>fun t depth m hk=>by have:=t.er;omega
 | k + 1=>fun t depth m hk cC uZ yY oX j1=>by
  obtain ⟨h,ps⟩:=t;have eJ:=hk;simp only [Ty.wt,Hd.wt] at eJ;exact D3 k (D4 k) h ps depth m (by omega) cC uZ yY oX j1
theorem D5 (t:Ty) (cC:t.wt<=1099511627776):aQ prog 96 [.agg (ei t)] (wrong t 1 0).1.d:=
 JY t (D4 t.wt t 1 0 (Nat.le_refl _) cC (by omega) (by omega) (by omega) (by omega))
abbrev Nh (t:Ty) (ps:Pts) (e n:Nat):St:=
 ⟨[(1,⟨[],.loc 0 0⟩),(3,⟨[],.v (.int .i64 n)⟩),(7,⟨[],.sl 18 (gd ps) none⟩),(8,⟨[],.v (.int .i64 (gd ps).length)⟩),(9,⟨[],.v (.int .i64 e)⟩)],[ei t],[]⟩
theorem wY:∀ (k:Nat) (t:Ty),t.wt<=k->t.wt<=1099511627776 ->
  aQ prog 97 [.agg (ei t)] (.v (.int .i64 t.cnt))
 | 0,t,hn,_=>by have:=t.er;omega
 | k + 1,.mk h ps,hn,cC=>by
  simp only [Ty.wt,Hd.wt] at hn cC;have mZ:=ps.fZ;have hc:=ps.eO;refine eG 23 [.tmp 2] func97 rfl ntmps97 rfl fun _ _ _ _=>?_
  refine bo (fun j st=>∃ (e n:Nat),st=Nh (.mk h ps) ps e n/\e<=ps.len/\n + (ps.drop e).cnt=1 + ps.cnt/\j=ps.len - e) ps.len
   (Nh (.mk h ps) ps 0 1) (ah ⟨_,rfl⟩ wA rfl rfl rfl wB) ⟨0,1,rfl,by omega,rfl,by omega⟩ ?_
  rintro j st ⟨e,n,rfl,he,bg,rfl⟩;refine br ?_ ?_<;>intro hL
  ·have aj:e < ps.len:=by simpa [aK] using hL
   obtain ⟨p,t,hx⟩:=Pts.eN aj;have yB:=Pts.gG (mG hx);rw [Pts.drop_cons hx] at bg;simp only [Pts.cnt] at bg;have Li:=t.eO;obtain ⟨u,us⟩:=t;refine iX (cd hx) ?_;refine br ?_ ?_<;>intro hB
   ·have hB:p.bare=false:=sU hB;rw [hB] at bg;have bg:n + ((Ty.mk u us).cnt + (ps.drop (e + 1)).cnt)=1 + ps.cnt:=bg;refine cP Xq (wY k (.mk u us) (by omega) (by omega)) ?_;have CU:IntKind.i64.wrap ((n:Int) + (Ty.mk u us).cnt)=((n + (Ty.mk u us).cnt:Nat):Int):=by rw [wrap64 (by omega) (by omega)];omega
    exact ⟨Nh (.mk h ps) ps (e + 1) (n + (Ty.mk u us).cnt),(ah ⟨_,rfl⟩ wA rfl rfl rfl (wB2 CU (aF aj (by omega)))),ps.len - (e + 1),by omega,e + 1,_,rfl,by omega,by omega,rfl⟩
   ·have hB:p.bare=true:=sU hB;rw [hB] at bg;have bg:n + (0 + (ps.drop (e + 1)).cnt)=1 + ps.cnt:=bg;exact rE ⟨_,by omega,e + 1,n,rfl,by omega,by omega,rfl⟩ (ah ⟨_,rfl⟩ wA rfl rfl rfl (cX (aF aj (by omega))))
  ·have aM:e=ps.len:=by simp [aK] at hL;omega
   rw [aM,Pts.dr] at bg;simp only [Pts.cnt] at bg;have e2:(n:Int)=((Ty.mk h ps).cnt:Int):=by simp only [Ty.cnt];omega
   refine (congrArg (fun z=>DV.v (.int .i64 z)) ?_:_=_);exact e2
mutual
def Ty.nn:Ty->Nat
 | .mk h ps=>if h.ag=9 then 0 else 1 + ps.nn
def Pts.nn:Pts->Nat
 | .nil=>0
 | .cons p t r=>(if p.bare then 0 else t.nn) + r.nn
end
mutual
theorem Ty.gK:∀ t:Ty,t.nn<=t.cnt
 | .mk h ps=>by
  have:=Pts.gK ps;simp only [Ty.nn,Ty.cnt];split<;>omega
theorem Pts.gK:∀ ps:Pts,ps.nn<=ps.cnt
 | .nil=>Nat.le_refl _
 | .cons p t r=>by
  have:=Ty.gK t;have:=Pts.gK r;simp only [Pts.nn,Pts.cnt];split<;>omega
end
abbrev UP (t:Ty) (ps:Pts) (e n:Nat):St:=
 ⟨[(1,⟨[],.loc 0 0⟩),(3,⟨[],.v (.int .i64 n)⟩),(10,⟨[],.sl 18 (gd ps) none⟩),(11,⟨[],.v (.int .i64 (gd ps).length)⟩),(12,⟨[],.v (.int .i64 e)⟩)],[ei t],[]⟩
theorem wZ:∀ (k:Nat) (t:Ty),t.wt<=k->t.wt<=1099511627776 ->
  aQ prog 101 [.agg (ei t)] (.v (.int .i64 t.nn))
 | 0,t,hn,_=>by have:=t.er;omega
 | k + 1,.mk h ps,hn,cC=>by
  simp only [Ty.wt,Hd.wt] at hn cC;have mZ:=ps.fZ;have hc:=ps.eO;have lf:=ps.gK;refine eG 26 [.tmp 2] func101 rfl ntmps101 rfl fun _ _ _ _=>?_;refine br ?_ ?_<;>intro h9
  ·have h9:h.ag=9:=sU h9;have:(Ty.mk h ps).nn=0:=by simp [Ty.nn,h9]
   rw [this];exact (rfl:_=_)
  have h9:¬ h.ag=9:=sU h9
  refine bo (fun j st=>∃ (e n:Nat),st=UP (.mk h ps) ps e n/\e<=ps.len/\n + (ps.drop e).nn=1 + ps.nn/\j=ps.len - e) ps.len
   (UP (.mk h ps) ps 0 1) (ah ⟨_,rfl⟩ wA rfl rfl rfl wB) ⟨0,1,rfl,by omega,rfl,by omega⟩ ?_
  rintro j st ⟨e,n,rfl,he,bg,rfl⟩;refine br ?_ ?_<;>intro hL
  ·have aj:e < ps.len:=by simpa [aK] using hL
   obtain ⟨p,t,hx⟩:=Pts.eN aj;have yB:=Pts.gG (mG hx);rw [Pts.drop_cons hx] at bg;simp only [Pts.nn] at bg;have Li:=t.eO;have hct2:=t.gK;obtain ⟨u,us⟩:=t;refine iX (cd hx) ?_;refine br ?_ ?_<;>intro hB
   ·have hB:p.bare=false:=sU hB;rw [hB] at bg;have bg:n + ((Ty.mk u us).nn + (ps.drop (e + 1)).nn)=1 + ps.nn:=bg;refine cP RW (wZ k (.mk u us) (by omega) (by omega)) ?_;have CU:IntKind.i64.wrap ((n:Int) + (Ty.mk u us).nn)=((n + (Ty.mk u us).nn:Nat):Int):=by rw [wrap64 (by omega) (by omega)];omega
    exact ⟨UP (.mk h ps) ps (e + 1) (n + (Ty.mk u us).nn),(ah ⟨_,rfl⟩ wA rfl rfl rfl (wB2 CU (aF aj (by omega)))),ps.len - (e + 1),by omega,e + 1,_,rfl,by omega,by omega,rfl⟩
   ·have hB:p.bare=true:=sU hB;rw [hB] at bg;have bg:n + (0 + (ps.drop (e + 1)).nn)=1 + ps.nn:=bg;exact rE ⟨_,by omega,e + 1,n,rfl,by omega,by omega,rfl⟩ (ah ⟨_,rfl⟩ wA rfl rfl rfl (cX (aF aj (by omega))))
  ·have aM:e=ps.len:=by simp [aK] at hL;omega
   rw [aM,Pts.dr] at bg;simp only [Pts.nn] at bg;have e2:(n:Int)=((Ty.mk h ps).nn:Int):=by simp only [Ty.nn,if_neg h9];omega
   refine (congrArg (fun z=>DV.v (.int .i64 z)) ?_:_=_);exact e2
structure Lx where
 af:List ByteArray
 aH:List Nat
 rows:List Nat
 js:List Int
 f:Nat->Nat->Bool
def Lx.pd (X:Lx):DV:=.pt (jk X.af (de X.af X.aH) X.rows X.js) 0
def Lx.lev (X:Lx) (l:List Wd):Int:=BU X.f X.af l
def Lx.bad (X:Lx) (l:List Wd):Ft:=labW X.af l
structure Lx.OK (X:Lx):Prop where
 hT:iF X.af X.aH
 jC:X.aH.length<=1099511627776
 hL:fU X.f X.af.length
 hn:X.af.length<=32
 hj:∀ x y,x < X.af.length->y < X.af.length->JM X.f X.af.length X.js x y
theorem Lx.rc {X:Lx} (h:X.OK) (l:List Wd) (hs:wdsWt l<=1099511627776):aQ prog 99 [X.pd,.sl 2 (bJ l) none] (.tup [.v (.int .i64 (X.lev l)),(X.bad l).d]):=
 Nb X.af X.aH X.rows X.js h.hT h.jC h.hL h.hn h.hj l hs
def bC (s:Sch) (lat out:DV) (m:Int):List DV:=.sl 2 (bJ s.ae) none :: .sl 4 (nh s.order) none :: .sl 11 (dNms s.types) none :: (ei s.root ++ [lat,out,.v (.int .i64 m)])
theorem w7 {X:Lx} (h:X.OK) (s:Sch) (pc:List DV) (m:Int) (l:List Wd) (hs:wdsWt l<=1099511627776) :
  aQ prog 165 [.pt (bC s X.pd (.pt pc 0) m) 0,.sl 2 (bJ l) none] (.v (.int .i64 (X.lev l))):=by
 obtain ⟨ae,order,types,⟨rh,rp⟩⟩:=s;refine eG 17 [.tmp 4] func165 rfl ntmps165 rfl fun _ _ _ _=>?_;refine cP L4 (Lx.rc h l hs) ?_;exact (rfl:_=_)
def uI (s:Sch):List Wd:=s.types.map fun x=>x.1
def tL (s:Sch):List ByteArray:=az (uI s)
theorem IH (s:Sch):(uI s).length=s.types.length:=by simp [uI]
theorem kz (s:Sch):(tL s).length=s.types.length:=by simp [tL,az,uI]
def pC (s:Sch) (aH:List Nat) (a b c e:DV):List DV:=[a,b,c,.pt (de (tL s) aH) 0,e]
def uJ (s:Sch) (t:Ty):Bool:=decide (t.h.ag=9->cY (tL s) t.h.name.s≠none)
def endI (s:Sch):Nat->Nat->Option Nat
 | 0,_=>none
 | k + 1,i=>
  match s.types[i]? with
  | none=>none
  | some x=>if x.2.h.ag=9 then endI s k ((cY (tL s) x.2.h.name.s).getD 0) else some i
theorem re {s:Sch}:∀ {k i j:Nat},endI s k i=some j->j < s.types.length/\∀ x,s.types[j]? = some x->x.2.h.ag≠9
 | 0,i,j,h=>by cases h
 | k + 1,i,j,h=>by
  rw [endI] at h
  cases hx:s.types[i]? with
  | none=>rw [hx] at h;cases h
  | some x=>
   rw [hx] at h;simp only at h;split at h
   ·exact re h
   ·rename_i hk;simp only [oI] at h;subst h;refine ⟨(gS hx).1,fun y hy=>?_⟩;rw [hx] at hy;simp only [oI] at hy;subst hy;exact hk
abbrev SH (B:DV) (n i e:Nat):St:=
 ⟨[(0,⟨[],B⟩),(1,⟨[],.v (.int .i64 i)⟩),(12,⟨[],.v (.int .i64 n)⟩),(13,⟨[],.v (.int .i64 e)⟩)],[],[]⟩
theorem D6 (s:Sch) (lat:DV) (aH:List Nat) (a b c e0:DV) (m:Int) (hT:iF (tL s) aH) (jC:aH.length<=1099511627776) (hl:s.types.length<=64) (hr:∀ x∈s.types,uJ s x.2=true) (i:Nat) (hi:i < s.types.length) :
  aQ prog 100 [.pt (bC s lat (.pt (pC s aH a b c e0) 0) m) 0,.v (.int .i64 i)] (.v (.int .i64 (oz (endI s (s.types.length + 1) i)))):=by
 have gJ:=kz s;obtain ⟨ae,order,types,⟨rh,rp⟩⟩:=s;simp only at hl hr hi gJ;have hN:=dR types;have UQ:IntKind.i64.wrap ((((dNms types).length:Nat):Int) + 1)=((types.length + 1:Nat):Int):=by rw [hN,wrap64 (by omega) (by omega)];all_goals rfl
 refine eG 43 [.tmp 4] func100 rfl ntmps100 rfl fun _ _ _ _=>?_
 refine bo (fun j st=>∃ e q:Nat,st=SH (.pt (bC ⟨ae,order,types,.mk rh rp⟩ lat (.pt (pC ⟨ae,order,types,.mk rh rp⟩ aH a b c e0) 0) m) 0) (types.length + 1) q e/\e<=types.length + 1/\q < types.length/\endI ⟨ae,order,types,.mk rh rp⟩ (types.length + 1) i=endI ⟨ae,order,types,.mk rh rp⟩ (types.length + 1 - e) q/\j=types.length + 1 - e) (types.length + 1)
  (SH (.pt (bC ⟨ae,order,types,.mk rh rp⟩ lat (.pt (pC ⟨ae,order,types,.mk rh rp⟩ aH a b c e0) 0) m) 0) (types.length + 1) i 0) (ah ⟨_,rfl⟩ wA rfl rfl rfl (cX UQ)) ⟨0,i,rfl,by omega,hi,rfl,by omega⟩ ?_
 rintro j st ⟨e,q,rfl,he,hq,aJ,rfl⟩;refine br ?_ ?_<;>intro hL
 ·have aj:e < types.length + 1:=by have:=hL;simp at this;omega
  obtain ⟨x,hx⟩:∃ x,types[q]? = some x:=⟨_,gE hq⟩;have Qs:=hr x (mG hx);obtain ⟨xw,⟨xh,xp⟩⟩:=x
  have aR:endI ⟨ae,order,types,.mk rh rp⟩ (types.length + 1 - e) q=if xh.ag=9 then endI ⟨ae,order,types,.mk rh rp⟩ (types.length + 1 - (e + 1)) ((cY (tL ⟨ae,order,types,.mk rh rp⟩) xh.name.s).getD 0) else some q:=by
   rw [show types.length + 1 - e=(types.length + 1 - (e + 1)) + 1 by omega,endI];simp only [hx];rfl
  rw [aR] at aJ;refine iX (dNms_get hx) ?_;refine br ?_ ?_<;>intro h9
  ·have h9:¬ xh.ag=9:=sU h9;rw [if_neg h9] at aJ;rw [aJ];exact (rfl:_=_)
  have h9:xh.ag=9:=sU h9;rw [if_pos h9] at aJ
  have bg:cY (tL ⟨ae,order,types,.mk rh rp⟩) xh.name.s≠none:=by
   have:=of_decide_eq_true Qs;exact this h9
  obtain ⟨k,hk⟩:=Option.ne_none_iff_exists'.1 bg;have ee:=(dm hk).1;rw [hk] at aJ;have hf:=je (tL ⟨ae,order,types,.mk rh rp⟩) aH xh.name.s hT jC;rw [hk] at hf;refine dI ?_;refine cD vX hf ?_;exact rE ⟨_,by omega,e + 1,k,rfl,by omega,by omega,aJ,rfl⟩ (ah ⟨_,rfl⟩ wA rfl rfl rfl (cX (aF aj (by omega))))
 ·have aM:e=types.length + 1:=by have:=hL;simp at this;omega
  subst aM;rw [Nat.sub_self] at aJ;rw [aJ];exact (rfl:_=_)
def loopF (s:Sch):Ft:=
 match bI (fun i=>(endI s (s.types.length + 1) i).isNone) s.types.length with
 | none=>(0,0)
 | some i=>(11,UM (uI s) i)
abbrev BV (B:DV) (s:Sch) (e:Nat):St:=
 ⟨[(0,⟨[],B⟩),(2,⟨[],.loc 0 0⟩),(9,⟨[],.sl 11 (dNms s.types) none⟩),(10,⟨[],.v (.int .i64 (dNms s.types).length)⟩),(11,⟨[],.v (.int .i64 e)⟩)],[[.v (.int .i64 0),.v (.int .i64 0)]],[]⟩
theorem GV (s:Sch) (lat:DV) (aH:List Nat) (a b c e0:DV) (m:Int) (hT:iF (tL s) aH) (jC:aH.length<=1099511627776) (hl:s.types.length<=64) (hr:∀ x∈s.types,uJ s x.2=true) :
  aQ prog 41 [.pt (bC s lat (.pt (pC s aH a b c e0) 0) m) 0] (loopF s).d:=by
 have kO:=D6 s lat aH a b c e0 m hT jC hl hr;have hN:=dR s.types;have hF:=loopF.eq_1 s;obtain ⟨ae,order,types,⟨rh,rp⟩⟩:=s;simp only at hl hr kO hN;refine eG 26 [.cell 2 45] func41 rfl ntmps41 rfl fun _ _ _ _=>?_
 refine bo (fun j st=>∃ e:Nat,st=BV (.pt (bC ⟨ae,order,types,.mk rh rp⟩ lat (.pt (pC ⟨ae,order,types,.mk rh rp⟩ aH a b c e0) 0) m) 0) ⟨ae,order,types,.mk rh rp⟩ e/\e<=types.length/\(∀ i,i < e->(endI ⟨ae,order,types,.mk rh rp⟩ (types.length + 1) i).isNone=false)/\j=types.length - e) types.length
  (BV (.pt (bC ⟨ae,order,types,.mk rh rp⟩ lat (.pt (pC ⟨ae,order,types,.mk rh rp⟩ aH a b c e0) 0) m) 0) ⟨ae,order,types,.mk rh rp⟩ 0) (ah ⟨_,rfl⟩ wA rfl rfl rfl wB) ⟨0,rfl,by omega,fun _ h=>by omega,by omega⟩ ?_
 rintro j st ⟨e,rfl,he,eZ,rfl⟩;refine br ?_ ?_<;>intro hL
 ·have aj:e < types.length:=by have:=hL;simp [hN] at this;exact this
  obtain ⟨x,hx⟩:=gX aj;have Ni:(uI ⟨ae,order,types,.mk rh rp⟩)[e]? = some x.1:=by simp [uI,hx]
  have h1:=kO e aj;obtain ⟨xw,⟨xh,xp⟩⟩:=x;refine iX (dNms_get hx) ?_;refine cP en100 h1 ?_
  cases hE:endI ⟨ae,order,types,.mk rh rp⟩ (types.length + 1) e with
  | none=>
   have CR:=bq (p:=fun i=>(endI ⟨ae,order,types,.mk rh rp⟩ (types.length + 1) i).isNone) aj (by simp only [hE];rfl) eZ;simp only [CR] at hF;rw [kX Ni] at hF;refine ⟨_,?_,rfl⟩;rw [hF];exact ax
  | some k=>
   refine ⟨BV (.pt (bC ⟨ae,order,types,.mk rh rp⟩ lat (.pt (pC ⟨ae,order,types,.mk rh rp⟩ aH a b c e0) 0) m) 0) ⟨ae,order,types,.mk rh rp⟩ (e + 1),(ah ⟨_,rfl⟩ wA rfl rfl rfl (cX (aF aj (by omega)))),types.length - (e + 1),by omega,e + 1,rfl,by omega,fun i hi=>?_,rfl⟩;rcases Nat.lt_succ_iff_lt_or_eq.1 hi with hi | rfl
   ·exact eZ i hi
   ·rw [hE];all_goals rfl
 ·have aM:e=types.length:=sW hN hL;subst aM;simp only [bK eZ] at hF;refine ⟨_,?_,rfl⟩;rw [hF];exact ax
mutual
def knT (X:Lx) (L:List ByteArray):Ty->Ft
 | .mk h ps=>if h.ag=9/\cY L h.name.s=none then (15,h.name.a) else knP X L ps
def knP (X:Lx) (L:List ByteArray):Pts->Ft
 | .nil=>(0,0)
 | .cons p t r=>if (X.bad p.label).1≠0 then X.bad p.label else if (X.bad p.cl).1≠0 then X.bad p.cl else if p.bare then knP X L r else if (knT X L t).1≠0 then knT X L t else knP X L r
end
abbrev YM (B:DV) (t:Ty) (ps:Pts) (e:Nat):St:=
 ⟨[(0,⟨[],B⟩),(3,⟨[],.loc 0 0⟩),(4,⟨[],.loc 1 0⟩),(38,⟨[],.sl 18 (gd ps) none⟩),(39,⟨[],.v (.int .i64 (gd ps).length)⟩),(40,⟨[],.v (.int .i64 e)⟩)],[ei t,[.v (.int .i64 0),.v (.int .i64 0)]],[]⟩
abbrev z6 (B:DV) (t:Ty) (ps:Pts) (p:Ph) (u:Ty) (e q:Nat):St:=
 ⟨[(0,⟨[],B⟩),(3,⟨[],.loc 0 0⟩),(4,⟨[],.loc 1 0⟩),(38,⟨[],.sl 18 (gd ps) none⟩),(39,⟨[],.v (.int .i64 (gd ps).length)⟩),(40,⟨[],.v (.int .i64 e)⟩),(8,⟨[],.loc 2 0⟩),(49,⟨[],.sl 1 [[.sl 2 (bJ p.label) none],[.sl 2 (bJ p.cl) none]] none⟩),(50,⟨[],.v (.int .i64 (2:Nat))⟩),(51,⟨[],.v (.int .i64 q)⟩)],[ei t,[.v (.int .i64 0),.v (.int .i64 0)],Gi p (ei u)],[]⟩
theorem xa {X:Lx} (hX:X.OK) (s:Sch) (aH:List Nat) (a b c e0:DV) (m:Int) (hT:iF (tL s) aH) (jC:aH.length<=1099511627776):∀ (k:Nat) (t:Ty),t.wt<=k->t.wt<=1099511627776 ->
  aQ prog 40 [.pt (bC s X.pd (.pt (pC s aH a b c e0) 0) m) 0,.agg (ei t)] (knT X (tL s) t).d
 | 0,t,hn,_=>by have:=t.er;omega
 | k + 1,.mk h ps,hn,cC=>by
  have ih:=xa hX s aH a b c e0 m hT jC k;simp only [Ty.wt,Hd.wt] at hn cC;have mZ:=ps.fZ;obtain ⟨ae,order,types,⟨rh,rp⟩⟩:=s;have hf:=je (tL ⟨ae,order,types,.mk rh rp⟩) aH h.name.s hT jC;have hS:knT X (tL ⟨ae,order,types,.mk rh rp⟩) (.mk h ps)=if h.ag=9/\cY (tL ⟨ae,order,types,.mk rh rp⟩) h.name.s=none then (15,h.name.a) else knP X (tL ⟨ae,order,types,.mk rh rp⟩) ps:=by rw [knT]
  refine eG 81 [.cell 4 45] func40 rfl ntmps40 rfl fun _ _ _ _=>?_;generalize knT X (tL ⟨ae,order,types,.mk rh rp⟩) (.mk h ps)=F at hS ⊢;have V7:knP X (tL ⟨ae,order,types,.mk rh rp⟩) ps=knP X (tL ⟨ae,order,types,.mk rh rp⟩) (ps.drop 0):=by rw [Pts.drop]
  refine br ?_ ?_<;>intro h9
  ·have h9:h.ag=9:=sU h9;refine dI ?_
   cases hx:cY (tL ⟨ae,order,types,.mk rh rp⟩) h.name.s with
   | none=>
    rw [if_pos ⟨h9,hx⟩] at hS;rw [hx] at hf;refine cD vX hf ?_;refine ⟨_,?_,rfl⟩;rw [hS];exact ax
   | some i=>
    rw [if_neg (by rw [hx];simp),V7] at hS;rw [hx] at hf;refine cD vX hf ?_;refine lI (fun j st=>∃ e:Nat,st=YM (.pt (bC ⟨ae,order,types,.mk rh rp⟩ X.pd (.pt (pC ⟨ae,order,types,.mk rh rp⟩ aH a b c e0) 0) m) 0) (.mk h ps) ps e/\e<=ps.len/\F=knP X (tL ⟨ae,order,types,.mk rh rp⟩) (ps.drop e)/\j=ps.len - e) ⟨0,rfl,by omega,hS,rfl⟩ (ah ⟨_,rfl⟩ wA rfl rfl rfl wB) ?_;rintro j st ⟨e,rfl,he,aJ,rfl⟩;refine br ?_ ?_<;>intro hL
    ·have aj:e < ps.len:=by simpa [aK] using hL
     obtain ⟨p,t,hx⟩:=Pts.eN aj;have yB:=Pts.gG (mG hx);rw [Pts.drop_cons hx] at aJ;simp only [knP] at aJ;have hw1:wdsWt p.label + wdsWt p.cl<=p.wt:=by simp only [Ph.wt];omega
     obtain ⟨u,us⟩:=t;refine iX (cd hx) ?_;refine lI (fun j st=>∃ q:Nat,st=z6 (.pt (bC ⟨ae,order,types,.mk rh rp⟩ X.pd (.pt (pC ⟨ae,order,types,.mk rh rp⟩ aH a b c e0) 0) m) 0) (.mk h ps) ps p (.mk u us) e q/\q<=2/\(1<=q->(X.bad p.label).1=0)/\(2<=q->(X.bad p.cl).1=0)/\j=2 - q) ⟨0,rfl,by omega,fun h=>by omega,fun h=>by omega,rfl⟩ (ah ⟨_,rfl⟩ wA rfl rfl rfl wB) ?_;rintro j st ⟨q,rfl,hq,YN,jY,rfl⟩;refine br ?_ ?_<;>intro kx
     ·have Jx:q=0∨q=1:=by have:=kx;simp at this;omega
      rcases Jx with rfl | rfl
      ·refine ⟨_,⟨by omega,rfl⟩,?_⟩;refine cP L4 (Lx.rc hX p.label (by omega)) ?_;refine br ?_ ?_<;>intro hb
       ·have hb:(X.bad p.label).1≠0:=sU hb;rw [if_pos hb] at aJ;refine ⟨_,?_,rfl⟩;rw [aJ];exact ax
       ·have hb:(X.bad p.label).1=0:=sU hb;exact ⟨z6 (.pt (bC ⟨ae,order,types,.mk rh rp⟩ X.pd (.pt (pC ⟨ae,order,types,.mk rh rp⟩ aH a b c e0) 0) m) 0) (.mk h ps) ps p (.mk u us) e 1,(ah ⟨_,rfl⟩ wA rfl rfl rfl (cX (aF (e:=0) (n:=2) (by omega) (by omega)))),1,by omega,1,rfl,by omega,fun _=>hb,fun h=>by omega,rfl⟩
      ·have ie:=YN (by omega);refine ⟨_,⟨by omega,rfl⟩,?_⟩;refine cP L4 (Lx.rc hX p.cl (by omega)) ?_;refine br ?_ ?_<;>intro hb
       ·have hb:(X.bad p.cl).1≠0:=sU hb;rw [if_neg (by rw [ie];simp),if_pos hb] at aJ;refine ⟨_,?_,rfl⟩;rw [aJ];exact ax
       ·have hb:(X.bad p.cl).1=0:=sU hb;exact ⟨z6 (.pt (bC ⟨ae,order,types,.mk rh rp⟩ X.pd (.pt (pC ⟨ae,order,types,.mk rh rp⟩ aH a b c e0) 0) m) 0) (.mk h ps) ps p (.mk u us) e 2,(ah ⟨_,rfl⟩ wA rfl rfl rfl (cX (aF (e:=1) (n:=2) (by omega) (by omega)))),0,by omega,2,rfl,by omega,fun _=>ie,fun _=>hb,rfl⟩
     ·have Jx:q=2:=by have:=kx;simp at this;omega
      subst Jx;have ie:=YN (by omega);have o9:=jY (by omega);rw [if_neg (by rw [ie];simp),if_neg (by rw [o9];simp)] at aJ;refine br ?_ ?_<;>intro hB
      ·have hB:p.bare=true:=hB;rw [if_pos hB] at aJ;exact rE ⟨_,by omega,e + 1,rfl,by omega,aJ,rfl⟩ (ah ⟨_,rfl⟩ wA rfl rfl rfl (cX (aF aj (by omega))))
      ·have hB:p.bare=false:=hB;rw [if_neg (by rw [hB];decide)] at aJ;refine cP Ub (ih (.mk u us) (by omega) (by omega)) ?_;refine br ?_ ?_<;>intro hb
       ·have hb:(knT X (tL ⟨ae,order,types,.mk rh rp⟩) (.mk u us)).1≠0:=sU hb;rw [if_pos hb] at aJ;refine ⟨_,?_,rfl⟩;rw [aJ];exact ax
       ·have hb:(knT X (tL ⟨ae,order,types,.mk rh rp⟩) (.mk u us)).1=0:=sU hb;rw [if_neg (by rw [hb];simp)] at aJ;exact rE ⟨_,by omega,e + 1,rfl,by omega,aJ,rfl⟩ (ah ⟨_,rfl⟩ wA rfl rfl rfl (cX (aF aj (by omega))))
    ·have aM:e=ps.len:=by simp [aK] at hL;omega
     rw [aM,Pts.dr] at aJ;simp only [knP] at aJ;refine ⟨_,?_,rfl⟩;rw [aJ];exact ax
  ·have h9:¬ h.ag=9:=sU h9;rw [if_neg (fun hc=>h9 hc.1),V7] at hS;refine lI (fun j st=>∃ e:Nat,st=YM (.pt (bC ⟨ae,order,types,.mk rh rp⟩ X.pd (.pt (pC ⟨ae,order,types,.mk rh rp⟩ aH a b c e0) 0) m) 0) (.mk h ps) ps e/\e<=ps.len/\F=knP X (tL ⟨ae,order,types,.mk rh rp⟩) (ps.drop e)/\j=ps.len - e) ⟨0,rfl,by omega,hS,rfl⟩ (ah ⟨_,rfl⟩ wA rfl rfl rfl wB) ?_;rintro j st ⟨e,rfl,he,aJ,rfl⟩;refine br ?_ ?_<;>intro hL
   ·have aj:e < ps.len:=by simpa [aK] using hL
    obtain ⟨p,t,hx⟩:=Pts.eN aj;have yB:=Pts.gG (mG hx);rw [Pts.drop_cons hx] at aJ;simp only [knP] at aJ;have hw1:wdsWt p.label + wdsWt p.cl<=p.wt:=by simp only [Ph.wt];omega
    obtain ⟨u,us⟩:=t;refine iX (cd hx) ?_;refine lI (fun j st=>∃ q:Nat,st=z6 (.pt (bC ⟨ae,order,types,.mk rh rp⟩ X.pd (.pt (pC ⟨ae,order,types,.mk rh rp⟩ aH a b c e0) 0) m) 0) (.mk h ps) ps p (.mk u us) e q/\q<=2/\(1<=q->(X.bad p.label).1=0)/\(2<=q->(X.bad p.cl).1=0)/\j=2 - q) ⟨0,rfl,by omega,fun h=>by omega,fun h=>by omega,rfl⟩ (ah ⟨_,rfl⟩ wA rfl rfl rfl wB) ?_;rintro j st ⟨q,rfl,hq,YN,jY,rfl⟩;refine br ?_ ?_<;>intro kx
    ·have Jx:q=0∨q=1:=by have:=kx;simp at this;omega
     rcases Jx with rfl | rfl
     ·refine ⟨_,⟨by omega,rfl⟩,?_⟩;refine cP L4 (Lx.rc hX p.label (by omega)) ?_;refine br ?_ ?_<;>intro hb
      ·have hb:(X.bad p.label).1≠0:=sU hb;rw [if_pos hb] at aJ;refine ⟨_,?_,rfl⟩;rw [aJ];exact ax
      ·have hb:(X.bad p.label).1=0:=sU hb;exact ⟨z6 (.pt (bC ⟨ae,order,types,.mk rh rp⟩ X.pd (.pt (pC ⟨ae,order,types,.mk rh rp⟩ aH a b c e0) 0) m) 0) (.mk h ps) ps p (.mk u us) e 1,(ah ⟨_,rfl⟩ wA rfl rfl rfl (cX (aF (e:=0) (n:=2) (by omega) (by omega)))),1,by omega,1,rfl,by omega,fun _=>hb,fun h=>by omega,rfl⟩
     ·have ie:=YN (by omega);refine ⟨_,⟨by omega,rfl⟩,?_⟩;refine cP L4 (Lx.rc hX p.cl (by omega)) ?_;refine br ?_ ?_<;>intro hb
      ·have hb:(X.bad p.cl).1≠0:=sU hb;rw [if_neg (by rw [ie];simp),if_pos hb] at aJ;refine ⟨_,?_,rfl⟩;rw [aJ];exact ax
      ·have hb:(X.bad p.cl).1=0:=sU hb;exact ⟨z6 (.pt (bC ⟨ae,order,types,.mk rh rp⟩ X.pd (.pt (pC ⟨ae,order,types,.mk rh rp⟩ aH a b c e0) 0) m) 0) (.mk h ps) ps p (.mk u us) e 2,(ah ⟨_,rfl⟩ wA rfl rfl rfl (cX (aF (e:=1) (n:=2) (by omega) (by omega)))),0,by omega,2,rfl,by omega,fun _=>ie,fun _=>hb,rfl⟩
    ·have Jx:q=2:=by have:=kx;simp at this;omega
     subst Jx;have ie:=YN (by omega);have o9:=jY (by omega);rw [if_neg (by rw [ie];simp),if_neg (by rw [o9];simp)] at aJ;refine br ?_ ?_<;>intro hB
     ·have hB:p.bare=true:=hB;rw [if_pos hB] at aJ;exact rE ⟨_,by omega,e + 1,rfl,by omega,aJ,rfl⟩ (ah ⟨_,rfl⟩ wA rfl rfl rfl (cX (aF aj (by omega))))
     ·have hB:p.bare=false:=hB;rw [if_neg (by rw [hB];decide)] at aJ;refine cP Ub (ih (.mk u us) (by omega) (by omega)) ?_;refine br ?_ ?_<;>intro hb
      ·have hb:(knT X (tL ⟨ae,order,types,.mk rh rp⟩) (.mk u us)).1≠0:=sU hb;rw [if_pos hb] at aJ;refine ⟨_,?_,rfl⟩;rw [aJ];exact ax
      ·have hb:(knT X (tL ⟨ae,order,types,.mk rh rp⟩) (.mk u us)).1=0:=sU hb;rw [if_neg (by rw [hb];simp)] at aJ;exact rE ⟨_,by omega,e + 1,rfl,by omega,aJ,rfl⟩ (ah ⟨_,rfl⟩ wA rfl rfl rfl (cX (aF aj (by omega))))
   ·have aM:e=ps.len:=by simp [aK] at hL;omega
    rw [aM,Pts.dr] at aJ;simp only [knP] at aJ;refine ⟨_,?_,rfl⟩;rw [aJ];exact ax
def eaL (F:Ty->Ft) (z:Ft):List (Wd × Ty)->Ft
 | []=>z
 | x :: r=>if (F x.2).1≠0 then F x.2 else eaL F z r
theorem Nj {F:Ty->Ft} {z:Ft} {l:List (Wd × Ty)} {e:Nat} {x:Wd × Ty} (h:l[e]? = some x):eaL F z (l.drop e)=if (F x.2).1≠0 then F x.2 else eaL F z (l.drop (e + 1)):=by
 rw [drop_cons h,eaL]
abbrev Nk (B:DV) (fn:DV) (types:List (Wd × Ty)) (e:Nat):St:=
 ⟨[(0,⟨[],B⟩),(1,⟨[],fn⟩),(4,⟨[],.loc 0 0⟩),(12,⟨[],.sl 11 (dNms types) none⟩),(13,⟨[],.v (.int .i64 (dNms types).length)⟩),(14,⟨[],.v (.int .i64 e)⟩)],[[.v (.int .i64 0),.v (.int .i64 0)]],[]⟩
theorem Kg (s:Sch) (lat:DV) (pc:List DV) (m:Int) (hl:s.types.length<=1099511627776) (g:Nat) (hg:Enters prog g) (F:Ty->Ft)
  (hF:∀ t,(t=s.root∨∃ x∈s.types,t=x.2)->aQ prog g [.pt (bC s lat (.pt pc 0) m) 0,.agg (ei t)] (F t).d) :
  aQ prog 38 [.pt (bC s lat (.pt pc 0) m) 0,.fn g [.pt (bC s lat (.pt pc 0) m) 0] []] (eaL F (F s.root) s.types).d:=by
 have hN:=dR s.types;obtain ⟨ae,order,types,⟨rh,rp⟩⟩:=s;simp only at hl hF hN;have nW:=hF (.mk rh rp) (.inl rfl);have UR:∀ x∈types,_:=fun x hx=>hF x.2 (.inr ⟨x,hx,rfl⟩);clear hF;refine eG 34 [.cell 4 45] func38 rfl ntmps38 rfl fun _ _ _ _=>?_;generalize hG:eaL F (F (.mk rh rp)) types=G;have hG0:G=eaL F (F (.mk rh rp)) (types.drop 0):=by rw [List.drop_zero,hG]
 refine bo (fun j st=>∃ e:Nat,st=Nk (.pt (bC ⟨ae,order,types,.mk rh rp⟩ lat (.pt pc 0) m) 0) (.fn g [.pt (bC ⟨ae,order,types,.mk rh rp⟩ lat (.pt pc 0) m) 0] []) types e/\e<=types.length/\G=eaL F (F (.mk rh rp)) (types.drop e)/\j=types.length - e) types.length
  (Nk (.pt (bC ⟨ae,order,types,.mk rh rp⟩ lat (.pt pc 0) m) 0) (.fn g [.pt (bC ⟨ae,order,types,.mk rh rp⟩ lat (.pt pc 0) m) 0] []) types 0) (ah ⟨_,rfl⟩ wA rfl rfl rfl wB) ⟨0,rfl,by omega,hG0,by omega⟩ ?_
 rintro j st ⟨e,rfl,he,aJ,rfl⟩;refine br ?_ ?_<;>intro hL
 ·have aj:e < types.length:=by have:=hL;simp [hN] at this;exact this
  obtain ⟨x,hx⟩:=gX aj;have hp:=UR x (mG hx);rw [Nj hx] at aJ;obtain ⟨xw,⟨xh,xp⟩⟩:=x;refine iX (dNms_get hx) ?_;refine cP hg hp ?_;refine br ?_ ?_<;>intro hf
  ·have hf:(F (.mk xh xp)).1≠0:=sU hf;rw [if_pos hf] at aJ;refine ⟨_,?_,rfl⟩;rw [aJ];exact ax
  ·have hf:(F (.mk xh xp)).1=0:=sU hf;rw [if_neg (by rw [hf];simp)] at aJ;exact rE ⟨_,by omega,e + 1,rfl,by omega,aJ,rfl⟩ (ah ⟨_,rfl⟩ wA rfl rfl rfl (cX (aF aj (by omega))))
 ·have aM:e=types.length:=sW hN hL;subst aM;rw [List.drop_length,eaL] at aJ;refine cP hg nW ?_;refine ⟨_,?_,rfl⟩;rw [aJ];exact ax
def cr (t:Ty) (m:Int):Ft × Int:=if (wrong t 1 0).1.1≠0 then ((wrong t 1 0).1,m) else if 512 < m + t.cnt then ((8,t.h.aS),m + t.cnt) else ((0,0),m + t.cnt)
def Nl (s:Sch) (lat:DV) (pc:List DV) (x:Ft × Int) (r:DV) (os:List (List DV)) (_:List TkE):Prop:=r=x.1.d/\os=[bC s lat (.loc 1 0) x.2,pc]
theorem D7 (s:Sch) (lc pc:List DV) (m:Int) (oX:0<=m) (j1:m<=1099511627776) (t:Ty) (cC:t.wt<=1099511627776) (hpc:∀ bx N n0 m0,CcL bx N n0 m0 pc pc) :
  Ev prog 39 [.loc 0 0,.agg (ei t)] [bC s (.pt lc 0) (.loc 1 0) m,pc] [] (Nl s (.pt lc 0) pc (cr t m)):=by
 have hk:=D5 t cC;have hc:=wY t.wt t (Nat.le_refl _) cC;have ow:=t.eO;have hF:=cr.eq_1 t m;obtain ⟨ae,order,types,⟨rh,rp⟩⟩:=s;obtain ⟨h,ps⟩:=t;generalize cr (.mk h ps) m=R at hF ⊢;refine eG 30 [.cell 4 45] func39 rfl ntmps39 rfl fun _ _ _ _=>?_;refine cP en96 hk ?_;refine br ?_ ?_<;>intro hf
 ·have hf:(wrong (.mk h ps) 1 0).1.1≠0:=sU hf;rw [if_pos hf] at hF;subst hF;exact ⟨Ft.d _,[bC ⟨ae,order,types,.mk rh rp⟩ (.pt lc 0) (.loc 1 0) m,pc],ax,(by repeat' (first | exact rfl | exact trivial | exact Or.inr (Or.inl ⟨_,rfl⟩) | exact Or.inr ⟨_,rfl⟩ | exact Or.inl ⟨rfl,rfl⟩ | exact Or.inl rfl | refine Or.inr ⟨_,_,rfl,Nat.zero_le _,rfl,?_⟩ | refine ⟨_,_,rfl,?_,?_⟩ | refine ⟨_,rfl,?_⟩ | exact hpc _ _ _ _ | exact ⟨nL rfl,rfl⟩ | exact congrArg (fun z=>DV.v (.int .i64 z)) hw | refine Or.inr (Or.inr (Or.inr ⟨_,_,rfl,?_⟩)) | exact Or.inl rfl | refine Or.inr ?_)),rfl,rfl⟩
 have hf:(wrong (.mk h ps) 1 0).1.1=0:=sU hf;rw [if_neg (by rw [hf];simp)] at hF;have hw:IntKind.i64.wrap (m + ((Ty.mk h ps).cnt:Int))=m + ((Ty.mk h ps).cnt:Int):=wrap64 (by omega) (by omega);refine dS ?_;refine cD Xq hc ?_;refine br ?_ ?_<;>intro hg
 ·have hg:512 < m + ((Ty.mk h ps).cnt:Int):=sV hw hg;rw [if_pos hg] at hF;subst hF;exact ⟨Ft.d _,[bC ⟨ae,order,types,.mk rh rp⟩ (.pt lc 0) (.loc 1 0) (m + (Ty.mk h ps).cnt),pc],ax,(wC2 hpc hw),rfl,rfl⟩
 ·have hg:¬ 512 < m + ((Ty.mk h ps).cnt:Int):=sV hw hg;rw [if_neg hg] at hF;subst hF;exact ⟨Ft.d _,[bC ⟨ae,order,types,.mk rh rp⟩ (.pt lc 0) (.loc 1 0) (m + (Ty.mk h ps).cnt),pc],ax,(wC2 hpc hw),rfl,rfl⟩
def eaR (z:Ty):List (Wd × Ty)->Int->Ft × Int
 | [],m=>cr z m
 | x :: r,m=>if (cr x.2 m).1.1≠0 then cr x.2 m else eaR z r (cr x.2 m).2
theorem Nn {z:Ty} {l:List (Wd × Ty)} {e:Nat} {m:Int} {x:Wd × Ty} (h:l[e]? = some x):eaR z (l.drop e) m=if (cr x.2 m).1.1≠0 then cr x.2 m else eaR z (l.drop (e + 1)) (cr x.2 m).2:=by
 rw [drop_cons h,eaR]
theorem oK {t:Ty} {m:Int} (h:(cr t m).1.1=0):(cr t m).2=m + t.cnt/\(cr t m).2<=512/\(wrong t 1 0).1.1=0/\(cr t m).1=(0,0):=by
 unfold cr at h ⊢;split
 ·rename_i h1;rw [if_pos h1] at h;exact (h1 h).elim
 ·rename_i h1;rw [if_neg h1] at h;split
  ·rename_i h2;rw [if_pos h2] at h;cases h
  ·rename_i h2;refine ⟨rfl,by simpa using h2,by simpa using h1,rfl⟩
abbrev GW (s:Sch) (aH:List Nat) (lc:List DV):List DV:=pC s aH (.pt lc 0) (.v (.slice none 0 0)) (.v (.int .i64 0)) (.v (.slice none 0 0))
abbrev BW (s:Sch) (lc pc:List DV) (m:Int) (types:List (Wd × Ty)) (e:Nat):St:=
 ⟨[(0,⟨[],.loc 0 0⟩),(1,⟨[],.fn 39 [.loc 0 0] []⟩),(4,⟨[],.loc 2 0⟩),(12,⟨[],.sl 11 (dNms types) none⟩),(13,⟨[],.v (.int .i64 (dNms types).length)⟩),(14,⟨[],.v (.int .i64 e)⟩)],
  [bC s (.pt lc 0) (.loc 1 0) m,pc,[.v (.int .i64 0),.v (.int .i64 0)]],[]⟩
theorem GX (s:Sch) (lc:List DV) (aH:List Nat) (m:Int) (oX:0<=m) (j1:m<=512) (hl:s.types.length<=1099511627776) (cC:∀ t,(t=s.root∨∃ x∈s.types,t=x.2)->t.wt<=1099511627776) :
  Ev prog 38 [.loc 0 0,.fn 39 [.loc 0 0] []] [bC s (.pt lc 0) (.loc 1 0) m,GW s aH lc] [] (Nl s (.pt lc 0) (GW s aH lc) (eaR s.root s.types m)):=by
 have hN:=dR s.types;have hR:∀ (m':Int),0<=m' -> m' <= 512->∀ t,(t=s.root∨∃ x∈s.types,t=x.2)->_:=fun m' h0 h1 t ht=>D7 s lc (GW s aH lc) m' h0 (by omega) t (cC t ht) (fun bx N n0 m0=>ax);obtain ⟨ae,order,types,⟨rh,rp⟩⟩:=s;simp only at hl hR hN cC;refine eG 34 [.cell 4 45] func38 rfl ntmps38 rfl fun _ _ _ _=>?_;generalize hG:eaR (.mk rh rp) types m=G;have hG0:G=eaR (.mk rh rp) (types.drop 0) m:=by rw [List.drop_zero,hG]
 refine bo (fun j st=>∃ (e:Nat) (m':Int),st=BW ⟨ae,order,types,.mk rh rp⟩ lc (GW ⟨ae,order,types,.mk rh rp⟩ aH lc) m' types e/\e<=types.length/\0<=m' /\ m' <= 512/\G=eaR (.mk rh rp) (types.drop e) m' /\ j=types.length - e) types.length
  (BW ⟨ae,order,types,.mk rh rp⟩ lc (GW ⟨ae,order,types,.mk rh rp⟩ aH lc) m types 0) (ap 3 rfl (by repeat' (first | exact rfl | exact ay rfl | exact rfl | refine ⟨_,_,rfl,?_,?_⟩)) rfl rfl rfl (by repeat' (first | exact trivial | exact ay rfl | exact rfl | refine ⟨⟨_,rfl,?_⟩,?_⟩))) ⟨0,m,rfl,by omega,oX,j1,hG0,by omega⟩ ?_
 rintro j st ⟨e,m',rfl,he,BG,DG,aJ,rfl⟩;refine br ?_ ?_<;>intro hL
 ·have aj:e < types.length:=by have:=hL;simp [hN] at this;exact this
  obtain ⟨x,hx⟩:=gX aj;have hp:=hR m' BG DG x.2 (.inr ⟨x,mG hx,rfl⟩);rw [Nn hx] at aJ;obtain ⟨xw,⟨xh,xp⟩⟩:=x;refine iX (dNms_get hx) ?_;refine jU 2 0 Xc rfl rfl rfl lZ lZ hp (fun r ln dw hΦ h1 h2=>?_);obtain ⟨rfl,rfl⟩:=hΦ;have h2:=List.eq_nil_of_length_eq_zero h2;subst h2;refine br ?_ ?_<;>intro hf
  ·have hf:(cr (.mk xh xp) m').1.1≠0:=sU hf;rw [if_pos hf] at aJ;subst aJ;exact ⟨Ft.d _,[bC ⟨ae,order,types,.mk rh rp⟩ (.pt lc 0) (.loc 1 0) (cr (.mk xh xp) m').2,GW ⟨ae,order,types,.mk rh rp⟩ aH lc],ax,lZ,rfl,rfl⟩
  ·have hf:(cr (.mk xh xp) m').1.1=0:=sU hf;rw [if_neg (by rw [hf];simp)] at aJ;obtain ⟨g1,g2,_,_⟩:=oK hf;exact ⟨BW ⟨ae,order,types,.mk rh rp⟩ lc (GW ⟨ae,order,types,.mk rh rp⟩ aH lc) (cr (.mk xh xp) m').2 types (e + 1),(ap 3 rfl (na (aF aj (by omega))) rfl rfl rfl (cX (aF aj (by omega)))),types.length - (e + 1),by omega,e + 1,_,rfl,by omega,by omega,g2,aJ,rfl⟩
 ·have aM:e=types.length:=sW hN hL;subst aM;rw [List.drop_length,eaR] at aJ;refine jU 2 0 Xc rfl rfl rfl lZ lZ (hR m' BG DG (.mk rh rp) (.inl rfl)) (fun r ln dw hΦ h1 h2=>?_);obtain ⟨rfl,rfl⟩:=hΦ;have h2:=List.eq_nil_of_length_eq_zero h2;subst h2;subst aJ;exact ⟨Ft.d _,[bC ⟨ae,order,types,.mk rh rp⟩ (.pt lc 0) (.loc 1 0) (cr (.mk rh rp) m').2,GW ⟨ae,order,types,.mk rh rp⟩ aH lc],ax,lZ,rfl,rfl⟩
def eu (s:Sch):Ft:=if 64 < s.types.length then (8,UM (uI s) 64) else enumL (uI s) 0 (uI s)
def Qt (s:Sch) (lc:List DV) (r:DV) (os:List (List DV)) (_:List TkE):Prop:=
 r=(eu s).d/\((eu s).1=0->∃ aH,iF (tL s) aH/\aH.length<=s.types.length/\os=[bC s (.pt lc 0) (.loc 1 0) 0,GW s aH lc])
abbrev Np (s:Sch) (lc:List DV) (n e:Nat):St:=
 ⟨[(0,⟨[],.loc 0 0⟩),(2,⟨[],.loc 2 0⟩),(3,⟨[],.sl 1 (eV (az ((uI s).take e))) (some 0)⟩),(27,⟨[],.sl 11 (dNms s.types) none⟩),(28,⟨[],.v (.int .i64 (dNms s.types).length)⟩),(29,⟨[],.v (.int .i64 e)⟩)],
  [bC s (.pt lc 0) (.loc 1 0) 0,[.pt lc 0,.v (.slice none 0 0),.v (.int .i64 0),.v (.pointer none),.v (.slice none 0 0)],[.v (.int .i64 0),.v (.int .i64 0)]],[⟨n,9,1,none⟩]⟩
theorem BX (s:Sch) (lc:List DV) (hs:nmsWt s.types<=1099511627776) :
  Ev prog 37 [.loc 0 0] [bC s (.pt lc 0) (.loc 1 0) 0,[.pt lc 0,.v (.slice none 0 0),.v (.int .i64 0),.v (.pointer none),.v (.slice none 0 0)]] [] (Qt s lc):=by
 have hN:=dR s.types;have fc:=j4 s.types;have gJ:=IH s;have hF:=eu.eq_1 s;have eL:∀ {e:Nat} {x:Wd × Ty},s.types[e]? = some x->(uI s)[e]? = some x.1:=fun h=>by simp [uI,h]
 have bT:=wh (tL s) (by rw [kz];omega);have YO:tL s=az (uI s):=rfl
 have hw:∀ x∈s.types,x.1.s.size<=1099511627776:=fun x hx=>by
  have:=gU hx;simp only [Wd.wt] at this;omega
 obtain ⟨ae,order,types,⟨rh,rp⟩⟩:=s;simp only at hs hN fc gJ eL hw hF;generalize hQ:uI ⟨ae,order,types,.mk rh rp⟩=Q at gJ hF eL YO;refine eG 67 [.cell 2 45] func37 rfl ntmps37 rfl fun _ _ _ _=>?_;refine br ?_ ?_<;>intro h
 ·have h:64 < types.length:=by simp [hN] at h;omega
  obtain ⟨x,hx⟩:∃ x,types[64]? = some x:=⟨_,gE h⟩;have Ni:=eL hx;rw [if_pos h,kX Ni] at hF;obtain ⟨xw,⟨xh,xp⟩⟩:=x;refine iX (dNms_get hx) ?_;refine ⟨Ft.d (8,xw.a),[bC ⟨ae,order,types,.mk rh rp⟩ (.pt lc 0) (.loc 1 0) 0,[.pt lc 0,.v (.slice none 0 0),.v (.int .i64 0),.v (.pointer none),.v (.slice none 0 0)]],ax,lZ,by rw [hF],fun h0=>by rw [hF] at h0;simp at h0⟩
 have h:¬ 64 < types.length:=by simp [hN] at h;omega
 rw [if_neg h] at hF;refine lI (fun j st=>∃ e:Nat,st=Np ⟨ae,order,types,.mk rh rp⟩ lc e e/\e<=types.length/\(az (Q.take e)).Nodup/\enumL Q 0 Q=enumL Q e (Q.drop e)/\j=types.length - e) ⟨0,rfl,by omega,by simp [az],rfl,rfl⟩ (cL 3 ⟨0,9,1,none⟩ rfl rfl rfl pB rfl rfl lY) ?_;rintro j st ⟨e,rfl,he,hnd,aJ,rfl⟩;rw [aJ] at hF;refine br ?_ ?_<;>intro hL
 ·have aj:e < types.length:=by have:=hL;simp [hN] at this;exact this
  obtain ⟨x,hx⟩:=gX aj;have Sy:=hw x (mG hx);have hq:=eL hx;have du:=j3 hq;have aR:=pL hq;have yz:=mD hq hnd;have M1:=pG (az (Q.take (e + 1))) (by simp [az];omega);rw [<- du] at M1;obtain ⟨xw,⟨xh,xp⟩⟩:=x;simp only at Sy hq du aR yz M1;refine iX (dNms_get hx) ?_;rw [hQ];refine ⟨by simp [ch,az];omega,⟨by simp [ch,az,maxLen];omega,by simp [ch,az];omega⟩,?_⟩;refine cP Gh (iW xw.s (by omega)) ?_;refine br ?_ ?_<;>intro II
  ·have II:bc xw.s=false:=sU II;have hf:aG Q e xw=9:=by simp [aG,II]
   rw [aR,hf,if_pos (by decide)] at hF;refine ⟨Ft.d (9,xw.a),[bC ⟨ae,order,types,.mk rh rp⟩ (.pt lc 0) (.loc 1 0) 0,[.pt lc 0,.v (.slice none 0 0),.v (.int .i64 0),.v (.pointer none),.v (.slice none 0 0)]],ax,lZ,by rw [hF],fun h0=>by rw [hF] at h0;simp at h0⟩
  ·have II:bc xw.s=true:=sU II;refine ki Uh rfl M1 ax (fun r hr=>?_);obtain ⟨z,rfl,hz⟩:=hr;refine br ?_ ?_<;>intro h2
   ·have h2:0<=z:=sU h2
    have hd:bO (Q.take e) xw.s=true:=by
     cases hd:bO (Q.take e) xw.s
     ·exact absurd (yz.2 hd) (hz.1 h2)
     ·rfl
    have hf:aG Q e xw=10:=by simp [aG,II,hd]
    rw [aR,hf,if_pos (by decide)] at hF;refine ⟨Ft.d (10,xw.a),[bC ⟨ae,order,types,.mk rh rp⟩ (.pt lc 0) (.loc 1 0) 0,[.pt lc 0,.v (.slice none 0 0),.v (.int .i64 0),.v (.pointer none),.v (.slice none 0 0)]],ax,lZ,by rw [hF],fun h0=>by rw [hF] at h0;simp at h0⟩
   ·have h2:¬ 0<=z:=sU h2;have vU:(az (Q.take (e + 1))).Nodup:=Classical.byContradiction fun hn=>h2 (hz.2 hn);have hf:aG Q e xw=0:=by simp [aG,II,yz.1 vU]
    rw [hf,if_neg (by simp)] at aR;have YP:eV (az (Q.take e)) ++ [[DV.v (.string xw.s)]]=eV (az ((uI ⟨ae,order,types,.mk rh rp⟩).take (e + 1))):=by rw [hQ];exact du
    refine ⟨Np ⟨ae,order,types,.mk rh rp⟩ lc (e + 1) (e + 1),(ap 3 rfl (gj (aF aj (by omega)) YP) rfl rfl rfl (wB2 (aF aj (by omega)) YP)),types.length - (e + 1),by omega,e + 1,rfl,by omega,vU,aJ.trans aR,rfl⟩
 ·have aM:e=types.length:=sW hN hL;have h0:enumL Q e (Q.drop e)=(0,0):=by rw [aM,<- gJ,List.drop_length];all_goals rfl
  rw [h0] at hF;have ht:Q.take e=Q:=by rw [aM,<- gJ,List.take_length]
  have hEq:az ((uI ⟨ae,order,types,.mk rh rp⟩).take e)=tL ⟨ae,order,types,.mk rh rp⟩:=by rw [hQ,ht,YO]
  rw [<- hEq] at bT;refine dS ?_;refine qP Ug rfl bT ax (fun Bs hr=>?_);obtain ⟨aH,hT,jC,rfl⟩:=hr;rw [hEq] at hT jC;have hpt:DV.pt (de (az ((uI ⟨ae,order,types,.mk rh rp⟩).take e)) aH) 0=DV.pt (de (tL ⟨ae,order,types,.mk rh rp⟩) aH) 0:=congrArg (fun L=>DV.pt (de L aH) 0) hEq;rw [kz] at jC;exact ⟨Ft.d (0,0),[bC ⟨ae,order,types,.mk rh rp⟩ (.pt lc 0) (.loc 1 0) 0,GW ⟨ae,order,types,.mk rh rp⟩ aH lc],ax,(by repeat' (first | exact rfl | exact trivial | exact Or.inr (Or.inl ⟨_,rfl⟩) | exact Or.inr ⟨_,rfl⟩ | exact Or.inl ⟨rfl,rfl⟩ | exact Or.inl rfl | refine Or.inr ⟨_,_,rfl,Nat.zero_le _,rfl,?_⟩ | refine ⟨_,_,rfl,?_,?_⟩ | refine ⟨_,rfl,?_⟩ | exact ⟨nL rfl,rfl⟩ | exact Or.inl hpt | refine Or.inr (Or.inr (Or.inr ⟨_,_,rfl,?_⟩)) | exact Or.inl rfl | refine Or.inr ?_)),by rw [hF],fun _=>⟨aH,hT,jC,rfl⟩⟩
def firstA (s:Sch) (k:Nat):Nat:=((s.types.take k).map fun x=>x.2.nn).sum
theorem nX {s:Sch} {k:Nat} {x:Wd × Ty} (h:s.types[k]? = some x):firstA s (k + 1)=firstA s k + x.2.nn:=by
 unfold firstA;rw [List.take_add_one,h];simp
theorem z7 (s:Sch):∀ k,firstA s k<=nmsWt s.types:=by
 intro k;unfold firstA;generalize s.types=l
 induction l generalizing k with
 | nil=>simp
 | cons x r ih=>
  cases k with
  | zero=>simp
  | succ k=>
   have h1:=ih k;have h2:=x.2.gK;have h3:=x.2.eO;simp only [List.take_succ_cons,List.map_cons,List.sum_cons,nmsWt];omega
def namedN (s:Sch) (i:Nat):Nat:=firstA s ((endI s (s.types.length + 1) i).getD 0)
def namedL (s:Sch):List Nat:=(List.range s.types.length).map (namedN s)
theorem YQ (n:Nat):(List.replicate n (vL [Value.int .i64 0])).flatten=cZ (List.replicate n 0):=by
 induction n with
 | zero=>rfl
 | succ n ih=>simp only [List.replicate_succ,List.flatten_cons,ih];rfl
theorem u7 {n m:Nat} {tk:List TkE} {l:List DV} {js:List Int} (h:l=cZ js):WeL n m tk l (cZ js):=by rw [h];exact pD js
abbrev US (s:Sch) (lc pc:List DV) (m:Int) (l:List Int) (aS e:Nat):St:=
 ⟨[(0,⟨[],.loc 0 0⟩),(2,⟨[],.ms 2 1 0 (dNms s.types).length (dNms s.types).length⟩),(3,⟨[],.v (.int .i64 aS)⟩),(18,⟨[],.sl 11 (dNms s.types) none⟩),(19,⟨[],.v (.int .i64 (dNms s.types).length)⟩),(20,⟨[],.v (.int .i64 e)⟩)],
  [bC s (.pt lc 0) (.loc 1 0) m,pc,cZ l],[]⟩
abbrev YR (s:Sch) (aH:List Nat) (lc:List DV) (m:Int) (l:List Int) (n e:Nat):St:=
 ⟨[(0,⟨[],.loc 0 0⟩),(2,⟨[],.ms 2 1 0 (dNms s.types).length (dNms s.types).length⟩),(40,⟨[],.v (.int .i64 (dNms s.types).length)⟩),(41,⟨[],.v (.int .i64 e)⟩)],
  [bC s (.pt lc 0) (.loc 1 0) m,pC s aH (.pt lc 0) (.v (.slice none 0 0)) (.v (.int .i64 0)) (.sl 1 (dInts ((namedL s).take e)) (some 0)),cZ l],[⟨n,3,1,none⟩]⟩
def Qu (s:Sch) (aH:List Nat) (lc:List DV) (m:Int) (_:DV) (os:List (List DV)) (_:List TkE):Prop:=
 os=[bC s (.pt lc 0) (.loc 1 0) m,pC s aH (.pt lc 0) (.v (.slice none 0 0)) (.v (.int .i64 0)) (.sl 1 (dInts (namedL s)) none)]
theorem UT {l:List Int} {i:Nat} {z:Int} (h:l[i]? = some z):(cZ l)[i]? = some (DV.v (.int .i64 z)):=by simp [cZ,h]
theorem D8 (s:Sch) (lc:List DV) (aH:List Nat) (m:Int) (hT:iF (tL s) aH) (jC:aH.length<=1099511627776) (hl:s.types.length<=64) (hr:∀ x∈s.types,uJ s x.2=true) (hs:nmsWt s.types<=1099511627776)
  (hlo:∀ i,i < s.types.length->∃ k,endI s (s.types.length + 1) i=some k) :
  Ev prog 42 [.loc 0 0] [bC s (.pt lc 0) (.loc 1 0) m,GW s aH lc] [] (Qu s aH lc m):=by
 have hN:=dR s.types
 have Up:∀ x∈s.types,x.2.wt<=1099511627776:=fun x hx=>by
  have:=gU hx;omega
 have YS:=z7 s;have Bn:=fun {k:Nat} {x:Wd × Ty}=>@nX s k x;have fc:(namedL s).length=s.types.length:=by simp [namedL]
 have kO:=fun (e0:DV)=>D6 s (.pt lc 0) aH (.pt lc 0) (.v (.slice none 0 0)) (.v (.int .i64 0)) e0 m hT jC hl hr;obtain ⟨ae,order,types,⟨rh,rp⟩⟩:=s;simp only at hl hr hN hs Up YS Bn fc kO hlo;have hN2:(dNms (⟨ae,order,types,.mk rh rp⟩:Sch).types).length=types.length:=hN;refine eG 66 [] func42 rfl ntmps42 rfl fun _ _ _ _=>?_;refine ⟨⟨rfl,by omega,by omega,by omega⟩,?_⟩
 refine bo (fun j st=>∃ (e:Nat) (l:List Int),st=US ⟨ae,order,types,.mk rh rp⟩ lc (GW ⟨ae,order,types,.mk rh rp⟩ aH lc) m l (firstA ⟨ae,order,types,.mk rh rp⟩ e) e/\e<=types.length/\l.length=types.length/\(∀ i:Nat,i < e->l[i]? = some (firstA ⟨ae,order,types,.mk rh rp⟩ i:Int))/\j=types.length - e) types.length
  (US ⟨ae,order,types,.mk rh rp⟩ lc (GW ⟨ae,order,types,.mk rh rp⟩ aH lc) m (List.replicate ((dNms types).length:Int).toNat 0) (firstA ⟨ae,order,types,.mk rh rp⟩ 0) 0) (ap 3 rfl (by repeat' (first | exact rfl | exact ay rfl | exact u7 (YQ _) | refine ⟨_,_,rfl,?_,?_⟩)) rfl rfl rfl (by repeat' (first | exact trivial | exact ay rfl | exact u7 (YQ _) | refine ⟨⟨_,rfl,?_⟩,?_⟩))) ⟨0,_,rfl,by omega,by simp [hN],fun _ h=>by omega,by omega⟩ ?_
 rintro j st ⟨e,l,rfl,he,xc,V8,rfl⟩;refine br ?_ ?_<;>intro hL
 ·have aj:e < types.length:=by have:=hL;simp [hN] at this;exact this
  obtain ⟨x,hx⟩:=gX aj;have SI:=Up x (mG hx);have Lc:=Bn hx;have Lk:=YS (e + 1);obtain ⟨xw,⟨xh,xp⟩⟩:=x;have hnd:=wZ (Ty.mk xh xp).wt (.mk xh xp) (Nat.le_refl _) SI;refine iX (dNms_get hx) ?_;refine ⟨⟨by omega,by omega⟩,?_⟩;refine ⟨by rw [UJ];omega,?_⟩;refine cP RW hnd ?_;simp only at Lc Lk
  have o9:(cZ l).set (0 + (e:Int).toNat * 1) (DV.v (.int .i64 ((firstA ⟨ae,order,types,.mk rh rp⟩ e:Nat):Int)))=cZ (l.set e ((firstA ⟨ae,order,types,.mk rh rp⟩ e:Nat):Int)):=by
   rw [show 0 + (e:Int).toNat * 1=e by omega,M7]
  have CU:IntKind.i64.wrap (((firstA ⟨ae,order,types,.mk rh rp⟩ e:Nat):Int) + (Ty.mk xh xp).nn)=((firstA ⟨ae,order,types,.mk rh rp⟩ (e + 1):Nat):Int):=by
   rw [Lc,wrap64 (by omega) (by omega)];omega
  refine ⟨US ⟨ae,order,types,.mk rh rp⟩ lc (GW ⟨ae,order,types,.mk rh rp⟩ aH lc) m (l.set e ((firstA ⟨ae,order,types,.mk rh rp⟩ e:Nat):Int)) (firstA ⟨ae,order,types,.mk rh rp⟩ (e + 1)) (e + 1),(ap 3 rfl (by repeat' (first | exact rfl | exact ay rfl | exact u7 o9 | exact aA CU | exact aA (aF aj (by omega)) | refine ⟨_,_,rfl,?_,?_⟩)) rfl rfl rfl (by repeat' (first | exact trivial | exact ay rfl | exact u7 o9 | exact aA CU | exact aA (aF aj (by omega)) | refine ⟨⟨_,rfl,?_⟩,?_⟩))),types.length - (e + 1),by omega,e + 1,_,rfl,by omega,by rw [List.length_set];exact xc,fun i hi=>?_,rfl⟩;by_cases yA:i=e
  ·subst yA;rw [List.getElem?_set_self (by omega)]
  ·rw [List.getElem?_set_ne (Ne.symm yA)];exact V8 i (by omega)
 ·have aM:e=types.length:=sW hN hL;subst aM;refine lJ (fun e=>YR ⟨ae,order,types,.mk rh rp⟩ aH lc m l e e) types.length (cL 3 ⟨0,3,1,none⟩ rfl rfl rfl pB rfl rfl lY) ?_;intro e he;refine br ?_ ?_<;>intro hL
  ·have aj:e < types.length:=by have:=hL;simp [hN] at this;exact this
   obtain ⟨k,hk⟩:=hlo e aj;have ee:=(re hk).1;simp only at ee;have hE:=kO (.sl 1 (dInts ((namedL ⟨ae,order,types,.mk rh rp⟩).take e)) none) e aj;rw [hk] at hE;have hnn:namedN ⟨ae,order,types,.mk rh rp⟩ e=firstA ⟨ae,order,types,.mk rh rp⟩ k:=by unfold namedN;rw [hk];all_goals rfl
   have eL:(namedL ⟨ae,order,types,.mk rh rp⟩)[e]? = some (firstA ⟨ae,order,types,.mk rh rp⟩ k):=by
    unfold namedL;rw [List.getElem?_map,List.getElem?_range aj,Option.map_some,hnn]
   have du:dInts ((namedL ⟨ae,order,types,.mk rh rp⟩).take e) ++ [[DV.v (.int .i64 ((firstA ⟨ae,order,types,.mk rh rp⟩ k:Nat):Int))]]=dInts ((namedL ⟨ae,order,types,.mk rh rp⟩).take (e + 1)):=by
    rw [List.take_add_one,eL];simp [dInts]
   refine dS ?_;refine jV en100 hE ax rfl rfl ?_;refine ⟨⟨by simp only [oz];omega,by simp only [oz];omega⟩,?_⟩
   have Qv:(cZ l)[0 + (oz (some k)).toNat * 1]? = some (DV.v (.int .i64 ((firstA ⟨ae,order,types,.mk rh rp⟩ k:Nat):Int))):=by
    rw [show 0 + (oz (some k)).toNat * 1=k by simp only [oz];omega];exact UT (V8 k ee)
   refine ⟨_,Qv,?_⟩;refine ⟨by simp [aZ];omega,⟨by simp [aZ,maxLen];omega,by simp [aZ];omega⟩,?_⟩;exact rE ⟨_,by omega,e + 1,rfl,by omega,rfl⟩ (ap 3 rfl (gj (aF aj (by omega)) du) rfl rfl rfl (wB2 (aF aj (by omega)) du))
  ·have aM:e=types.length:=sW hN hL;subst aM;have ht:(namedL ⟨ae,order,types,.mk rh rp⟩).take types.length=namedL ⟨ae,order,types,.mk rh rp⟩:=by rw [<- fc,List.take_length]
   rw [ht];exact ⟨.tup [],[bC ⟨ae,order,types,.mk rh rp⟩ (.pt lc 0) (.loc 1 0) m,pC ⟨ae,order,types,.mk rh rp⟩ aH (.pt lc 0) (.v (.slice none 0 0)) (.v (.int .i64 0)) (.sl 1 (dInts (namedL ⟨ae,order,types,.mk rh rp⟩)) none)],ax,lZ,rfl⟩
structure Ed where
 name:ByteArray
 bare:Bool
 aS:Int
 to:Int
 label:Int
 wide:Int
 ck:Int
 cn:Int
 seen:Int
 ca:Int
structure Nd where
 ag:Int
 aS:Int
 lo:Int
 hi:Int
 most:Int
 af:List ByteArray
 ai:List Ed
def BZ (e:Ed):List DV:=[.v (.string e.name),.v (.bool e.bare),.v (.int .i64 e.aS),.v (.int .i64 e.to),.v (.int .i64 e.label),.v (.int .i64 e.wide),.v (.int .i64 e.ck),.v (.int .i64 e.cn),.v (.int .i64 e.seen),.v (.int .i64 e.ca)]
def cw (l:List Ed):List (List DV):=l.map BZ
def gv (n:Nd):List DV:=[.v (.int .i64 n.ag),.v (.int .i64 n.aS),.v (.int .i64 n.lo),.v (.int .i64 n.hi),.v (.int .i64 n.most),.sl 1 (eV n.af) none,.sl 10 (cw n.ai) none]
def bh (l:List Nd):List (List DV):=l.map gv
def lN (w:Int):Int:=if w=0 then 3 else w
def xd (lev:List Wd->Int) (p:Ph) (to:Int):Ed:=⟨p.name.s,p.bare,p.name.a,to,lev p.label,lN p.wide,p.ck,p.cn,lev p.cl,p.ca⟩
def UU (s:Sch) (name:ByteArray):Int:=(namedN s ((cY (tL s) name).getD 0):Int)
def nY (s:Sch) (t:Ty) (k:Nat):Int:=if t.h.ag=9 then UU s t.h.name.s else (k:Int)
def u9 (s:Sch) (p:Ph) (u:Ty) (k:Nat):Int:=if p.bare then -1 else nY s u k
mutual
def ndsT (lev:List Wd->Int) (s:Sch):Ty->Nat->List Nd
 | .mk h ps,k=>if h.ag=9 then [] else ⟨h.ag,h.aS,h.lo,h.hi,h.most,az h.af,edsP lev s ps (k + 1)⟩ :: xe lev s ps (k + 1)
def edsP (lev:List Wd->Int) (s:Sch):Pts->Nat->List Ed
 | .nil,_=>[]
 | .cons p u r,k=>xd lev p (u9 s p u k) :: edsP lev s r (k + if p.bare then 0 else u.nn)
def xe (lev:List Wd->Int) (s:Sch):Pts->Nat->List Nd
 | .nil,_=>[]
 | .cons p u r,k=>(if p.bare then [] else ndsT lev s u k) ++ xe lev s r (k + if p.bare then 0 else u.nn)
end
mutual
theorem kA (lev:List Wd->Int) (s:Sch):∀ (t:Ty) (k:Nat),(ndsT lev s t k).length=t.nn
 | .mk h ps,k=>by
  simp only [ndsT,Ty.nn];split
  ·rfl
  ·rw [List.length_cons,xf lev s ps];omega
theorem xf (lev:List Wd->Int) (s:Sch):∀ (ps:Pts) (k:Nat),(xe lev s ps k).length=ps.nn
 | .nil,k=>rfl
 | .cons p u r,k=>by
  simp only [xe,Pts.nn,List.length_append,xf lev s r];split
  ·rfl
  ·rw [kA lev s u]
end
abbrev Ln (s:Sch) (aH:List Nat) (lc:List DV) (n:Nat):List DV:=pC s aH (.pt lc 0) (.sl 0 (List.replicate n []) (some 0)) (.v (.int .i64 0)) (.sl 1 (dInts (namedL s)) none)
abbrev GY (n:Nat) (base:List DV):TkE:=⟨n,105,7,some base⟩
def SJ (s:Sch) (aH:List Nat) (lc:List DV) (m:Int) (n:Nat) (base:List DV) (y:DV) (z8:List Nd) (r:DV) (os:List (List DV)) (tk:List TkE):Prop:=
 r=y/\os=[bC s (.pt lc 0) (.loc 1 0) m,Ln s aH lc (n + z8.length)]/\tk=[GY (n + z8.length) (base ++ (bh z8).flatten)]
def Nq (lev:List Wd->Int) (s:Sch) (aH:List Nat) (lc:List DV) (m:Int) (t:Ty):Prop:=
 ∀ (n:Nat) (base:List DV),n + t.nn<=1099511627776->base.length=n * 7 ->
  Ev prog 43 [.loc 0 0,.agg (ei t)] [bC s (.pt lc 0) (.loc 1 0) m,Ln s aH lc n] [GY n base] (SJ s aH lc m n base (.v (.int .i64 (nY s t n))) (ndsT lev s t n))
theorem Kh {X:Lx} (hX:X.OK) (s:Sch) (aH:List Nat) (m:Int) (p:Ph) (u:Ty) (hp:p.wt<=1099511627776) (eI:p.bare=false->Nq X.lev s aH (jk X.af (de X.af X.aH) X.rows X.js) m u)
  (n:Nat) (base:List DV) (hb:p.bare=false->n + u.nn<=1099511627776) (hbl:base.length=n * 7) :
  Ev prog 102 [.loc 0 0,.agg (Gi p (ei u))] [bC s (.pt (jk X.af (de X.af X.aH) X.rows X.js) 0) (.loc 1 0) m,Ln s aH (jk X.af (de X.af X.aH) X.rows X.js) n] [GY n base]
   (SJ s aH (jk X.af (de X.af X.aH) X.rows X.js) m n base (.agg (BZ (xd X.lev p (u9 s p u n)))) (if p.bare then [] else ndsT X.lev s u n)):=by
 have hw1:wdsWt p.label + wdsWt p.cl<=p.wt:=by simp only [Ph.wt];omega
 have HZ:X.pd = .pt (jk X.af (de X.af X.aH) X.rows X.js) 0:=rfl;have yQ:=fun pc=>w7 hX s pc m p.label (by omega);have Qw:=fun pc=>w7 hX s pc m p.cl (by omega);rw [HZ] at yQ Qw;have hE:=fun to=>xd.eq_1 X.lev p to;have rU:=u9.eq_1 s p u n;generalize jk X.af (de X.af X.aH) X.rows X.js=lc at yQ Qw eI ⊢;obtain ⟨ae,order,types,⟨rh,rp⟩⟩:=s;obtain ⟨uh,us⟩:=u;refine eG 52 [.cell 4 178] func102 rfl ntmps102 rfl fun _ _ _ _=>?_;have SK:=yQ [.pt lc 0,.sl 0 (List.replicate n []) none,.v (.int .i64 0),.pt (de (tL ⟨ae,order,types,.mk rh rp⟩) aH) 0,.sl 1 (dInts (namedL ⟨ae,order,types,.mk rh rp⟩)) none];have SM:=Qw [.pt lc 0,.sl 0 (List.replicate n []) none,.v (.int .i64 0),.pt (de (tL ⟨ae,order,types,.mk rh rp⟩) aH) 0,.sl 1 (dInts (namedL ⟨ae,order,types,.mk rh rp⟩)) none];apply ox (fun _=>false) 11 15 [0,1,2,3,4,5,6,7,8,9,10,11,12,13,14,15,16] [0,1,2,3,4,5,6,7,8,9,10,15,11,12,13,14,16] 4 4 mo (by decide +kernel)
 ·refine jV Im SK ax rfl rfl ?_;refine (?_:@Eq St _ _);exact rfl
 ·refine jV Im SK ax rfl rfl ?_;refine (⟨rfl,rfl,?_⟩:_/\_/\_)
  repeat' (first | exact trivial | refine ⟨rfl,?_⟩)
 ·rfl
 refine br ?_ ?_<;>intro hw
 ·have hw:p.wide=0:=sU hw;refine uX [4] (fun _=>false) mo (by decide +kernel) ?_;refine jV Im SM ax rfl rfl ?_;refine br ?_ ?_<;>intro hB
  ·have hB:p.bare=false:=sU hB;refine jU 2 1 P4 rfl rfl rfl lZ lZ (eI hB n base (hb hB) hbl) (fun r ln dw hΦ h1 h2=>?_);obtain ⟨rfl,rfl,rfl⟩:=hΦ;refine ⟨.agg (BZ ⟨p.name.s,p.bare,p.name.a,nY ⟨ae,order,types,.mk rh rp⟩ (.mk uh us) n,X.lev p.label,3,p.ck,p.cn,X.lev p.cl,p.ca⟩),[bC ⟨ae,order,types,.mk rh rp⟩ (.pt lc 0) (.loc 1 0) m,Ln ⟨ae,order,types,.mk rh rp⟩ aH lc (n + (ndsT X.lev ⟨ae,order,types,.mk rh rp⟩ (.mk uh us) n).length)],ax,lZ,?_,?_,?_⟩
   ·simp [hE,u9,hB,lN,hw]
   ·simp [hB]
   ·simp [hB]
  ·have hB:p.bare=true:=sU hB;refine ⟨.agg (BZ ⟨p.name.s,p.bare,p.name.a,-1,X.lev p.label,3,p.ck,p.cn,X.lev p.cl,p.ca⟩),[bC ⟨ae,order,types,.mk rh rp⟩ (.pt lc 0) (.loc 1 0) m,Ln ⟨ae,order,types,.mk rh rp⟩ aH lc n],ax,lZ,?_,?_,?_⟩
   ·simp [hE,u9,hB,lN,hw]
   ·simp [hB]
   ·simp [hB,bh]
 ·have hw:¬ p.wide=0:=sU hw;refine uX [4] (fun _=>false) mo (by decide +kernel) ?_;refine jV Im SM ax rfl rfl ?_;refine br ?_ ?_<;>intro hB
  ·have hB:p.bare=false:=sU hB;refine jU 2 1 P4 rfl rfl rfl lZ lZ (eI hB n base (hb hB) hbl) (fun r ln dw hΦ h1 h2=>?_);obtain ⟨rfl,rfl,rfl⟩:=hΦ;refine ⟨.agg (BZ ⟨p.name.s,p.bare,p.name.a,nY ⟨ae,order,types,.mk rh rp⟩ (.mk uh us) n,X.lev p.label,p.wide,p.ck,p.cn,X.lev p.cl,p.ca⟩),[bC ⟨ae,order,types,.mk rh rp⟩ (.pt lc 0) (.loc 1 0) m,Ln ⟨ae,order,types,.mk rh rp⟩ aH lc (n + (ndsT X.lev ⟨ae,order,types,.mk rh rp⟩ (.mk uh us) n).length)],ax,lZ,?_,?_,?_⟩
   ·simp [hE,u9,hB,lN,hw]
   ·simp [hB]
   ·simp [hB]
  ·have hB:p.bare=true:=sU hB;refine ⟨.agg (BZ ⟨p.name.s,p.bare,p.name.a,-1,X.lev p.label,p.wide,p.ck,p.cn,X.lev p.cl,p.ca⟩),[bC ⟨ae,order,types,.mk rh rp⟩ (.pt lc 0) (.loc 1 0) m,Ln ⟨ae,order,types,.mk rh rp⟩ aH lc n],ax,lZ,?_,?_,?_⟩
   ·simp [hE,u9,hB,lN,hw]
   ·simp [hB]
   ·simp [hB,bh]
def nd0 (h:Hd):List DV:=[.v (.int .i64 h.ag),.v (.int .i64 h.aS),.v (.int .i64 h.lo),.v (.int .i64 h.hi),.v (.int .i64 h.most),.sl 1 (eV (az h.af)) none,.v (.slice none 0 0)]
theorem Qx {h:Hd} {base R:List DV} {n:Nat} {x:DV} (hb:base.length=n * 7):(base ++ (nd0 h ++ R)).set (n * 7 + 6) x=base ++ ([.v (.int .i64 h.ag),.v (.int .i64 h.aS),.v (.int .i64 h.lo),.v (.int .i64 h.hi),.v (.int .i64 h.most),.sl 1 (eV (az h.af)) none,x] ++ R):=by
 rw [List.set_append_right _ _ (by omega),hb,Nat.add_sub_cancel_left];rfl
theorem Aa (l:List Ed) (e:Ed):cw l ++ [BZ e]=cw (l ++ [e]):=by simp [cw]
theorem aO (l:List Ed):(cw l).length=l.length:=by simp [cw]
theorem rf (lev:List Wd->Int) (s:Sch):∀ (ps:Pts) (k:Nat),(edsP lev s ps k).length=ps.len
 | .nil,_=>rfl
 | .cons p u r,k=>by simp [edsP,Pts.len,rf lev s r]
abbrev YT (s:Sch) (aH:List Nat) (lc:List DV) (m:Int) (n:Nat) (base:List DV) (h:Hd) (ps:Pts) (q e:Nat):St:=
 ⟨[(0,⟨[],.loc 0 0⟩),(3,⟨[],.loc 2 0⟩),(7,⟨[],.v (.int .i64 n)⟩),(8,⟨[],.loc 3 0⟩),(61,⟨[],.sl 2 (bJ h.af) none⟩),(62,⟨[],.v (.int .i64 (bJ h.af).length)⟩),(63,⟨[],.v (.int .i64 e)⟩)],
  [bC s (.pt lc 0) (.loc 1 0) m,Ln s aH lc n,ei (.mk h ps),[.v (.int .i64 h.ag),.v (.int .i64 h.aS),.v (.int .i64 h.lo),.v (.int .i64 h.hi),.v (.int .i64 h.most),.sl 1 (eV (az (h.af.take e))) (some 1),.v (.slice none 0 0)]],
  [GY n base,⟨q,9,1,none⟩]⟩
abbrev Nr (s:Sch) (aH:List Nat) (lc:List DV) (m:Int) (n:Nat) (h:Hd) (ps:Pts) (n':Nat) (ri:List DV) (Es:List Ed) (q1 q2 e:Nat):St:=
 ⟨[(0,⟨[],.loc 0 0⟩),(3,⟨[],.loc 2 0⟩),(7,⟨[],.v (.int .i64 n)⟩),(11,⟨[],.sl 10 (cw Es) (some 2)⟩),(92,⟨[],.sl 18 (gd ps) none⟩),(93,⟨[],.v (.int .i64 (gd ps).length)⟩),(94,⟨[],.v (.int .i64 e)⟩)],
  [bC s (.pt lc 0) (.loc 1 0) m,Ln s aH lc n',ei (.mk h ps)],
  [GY n' ri,⟨q1,9,1,none⟩,⟨q2,178,10,none⟩]⟩
theorem mI {X:Lx} {L:List ByteArray} {h:Hd} {ps:Pts} (hk:(knT X L (.mk h ps)).1=0):(h.ag=9->cY L h.name.s≠none)/\(knP X L ps).1=0:=by
 rw [knT] at hk;split at hk
 ·cases hk
 ·rename_i h1;exact ⟨fun h9 hn=>h1 ⟨h9,hn⟩,hk⟩
theorem sS {X:Lx} {L:List ByteArray} {p:Ph} {u:Ty} {r:Pts} (hk:(knP X L (.cons p u r)).1=0):(p.bare=false->(knT X L u).1=0)/\(knP X L r).1=0:=by
 rw [knP] at hk;split at hk
 ·rename_i h1;exact (h1 hk).elim
 ·split at hk
  ·rename_i h1;exact (h1 hk).elim
  ·split at hk
   ·rename_i h1;exact ⟨(fun h2=>by rw [h1] at h2;cases h2),hk⟩
   ·split at hk
    ·rename_i h1;exact (h1 hk).elim
    ·rename_i h1;exact ⟨fun _=>by simpa using h1,hk⟩
theorem Ab {X:Lx} (hX:X.OK) (s:Sch) (aH:List Nat) (m:Int) (hT:iF (tL s) aH) (jC:aH.length<=1099511627776):∀ (k:Nat) (t:Ty),t.wt<=k->t.wt<=1099511627776->(knT X (tL s) t).1=0 ->
  Nq X.lev s aH (jk X.af (de X.af X.aH) X.rows X.js) m t
 | 0,t,hn,_,_=>by have:=t.er;omega
 | k + 1,.mk h ps,hn,cC,H7=>by
  have ih:=Ab hX s aH m hT jC k;intro n base hnb hbl;obtain ⟨hk9,UW⟩:=mI H7;have aU:=fun (p:Ph) (u:Ty)=>Kh hX s aH m p u;generalize jk X.af (de X.af X.aH) X.rows X.js=lc at ih aU ⊢;simp only [Ty.wt,Hd.wt] at hn cC;have mZ:=ps.fZ;have fc:=bG h.af;have hf:=je (tL s) aH h.name.s hT jC;have gJ:=kz s;have hnmL:(namedL s).length=s.types.length:=by simp [namedL]
  have Qy:nY s (.mk h ps) n=if h.ag=9 then UU s h.name.s else (n:Int):=rfl
  have Ki:ndsT X.lev s (.mk h ps) n=if h.ag=9 then [] else ⟨h.ag,h.aS,h.lo,h.hi,h.most,az h.af,edsP X.lev s ps (n + 1)⟩ :: xe X.lev s ps (n + 1):=by rw [ndsT]
  have hnn:(Ty.mk h ps).nn=if h.ag=9 then 0 else 1 + ps.nn:=by rw [Ty.nn]
  generalize hS:s=S at *;subst hS;obtain ⟨ae,order,types,⟨rh,rp⟩⟩:=s;refine eG 117 [.tmp 4] func43 rfl ntmps43 rfl fun _ _ _ _=>?_;refine br ?_ ?_<;>intro h9
  ·have h9:h.ag=9:=sU h9;obtain ⟨i,hi⟩:=Option.ne_none_iff_exists'.1 (hk9 h9);have DB:=(dm hi).1;rw [hi] at hf;rw [if_pos h9] at Qy Ki
   have eL:(namedL ⟨ae,order,types,.mk rh rp⟩)[i]? = some (namedN ⟨ae,order,types,.mk rh rp⟩ i):=by
    unfold namedL;rw [List.getElem?_map,List.getElem?_range (by omega)];rfl
   refine dI ?_;refine cD vX hf ?_;refine iX (aD eL) ?_;refine ⟨.v (.int .i64 (namedN ⟨ae,order,types,.mk rh rp⟩ i:Nat)),[bC ⟨ae,order,types,.mk rh rp⟩ (.pt lc 0) (.loc 1 0) m,Ln ⟨ae,order,types,.mk rh rp⟩ aH lc n],ax,lZ,?_,?_,?_⟩
   ·rw [Qy,UU,hi];rfl
   ·rw [Ki];rfl
   ·rw [Ki];simp [bh]
  have h9:¬ h.ag=9:=sU h9;rw [if_neg h9] at Qy Ki hnn;have ed:(List.replicate n ([]:List DV)).length=n:=List.length_replicate;refine lJ (fun e=>YT ⟨ae,order,types,.mk rh rp⟩ aH lc m n base h ps e e) h.af.length (cL 4 ⟨0,9,1,none⟩ rfl rfl rfl (na ed) rfl rfl (cX ed)) ?_;intro e he;refine br ?_ ?_<;>intro hL
  ·have aj:e < h.af.length:=by simpa [aw] using hL
   obtain ⟨w,hw⟩:=gX aj;have du:=j3 hw;refine ⟨ko w,⟨by omega,aT hw⟩,?_⟩;refine ⟨by simp [ch,az];omega,⟨by simp [ch,az,maxLen];omega,by simp [ch,az];omega⟩,?_⟩;exact rE ⟨_,by omega,e + 1,rfl,by omega,rfl⟩ (ap 4 rfl (gj (aF aj (by omega)) du) rfl rfl rfl (wB2 (aF aj (by omega)) du))
  have aM:e=h.af.length:=by have:=hL;simp [aw] at this;omega
  subst aM;rw [List.take_length];refine dS ?_;refine ⟨⟨⟨ed,by simp⟩,by simp [maxLen];omega,by simp;omega⟩,?_⟩
  refine bo (fun j st=>∃ (e n':Nat) (ri:List DV) (Es:List Ed) (K:List Nd),st=Nr ⟨ae,order,types,.mk rh rp⟩ aH lc m n h ps n' ri Es h.af.length e e/\e<=ps.len/\n'=n + 1 + K.length/\ri=base ++ (nd0 h ++ (bh K).flatten)/\Es.length=e /\
    K ++ xe X.lev ⟨ae,order,types,.mk rh rp⟩ (ps.drop e) (n + 1 + K.length)=xe X.lev ⟨ae,order,types,.mk rh rp⟩ ps (n + 1)/\Es ++ edsP X.lev ⟨ae,order,types,.mk rh rp⟩ (ps.drop e) (n + 1 + K.length)=edsP X.lev ⟨ae,order,types,.mk rh rp⟩ ps (n + 1)/\K.length + (ps.drop e).nn=ps.nn/\(knP X (tL ⟨ae,order,types,.mk rh rp⟩) (ps.drop e)).1=0/\j=ps.len - e) ps.len
   (Nr ⟨ae,order,types,.mk rh rp⟩ aH lc m n h ps (n + 1) (base ++ (nd0 h ++ [])) [] h.af.length 0 0) (cL 3 ⟨0,178,10,none⟩ rfl rfl rfl pB rfl rfl lY) ⟨0,n + 1,_,[],[],rfl,by omega,rfl,rfl,rfl,rfl,rfl,by simp [Pts.drop],UW,by omega⟩ ?_
  rintro j st ⟨e,n',ri,Es,K,rfl,he,RM,fX,VU,hK,UX,hKn,D1,rfl⟩
  have hbl':ri.length=n' * 7:=by
   have:∀ l:List Nd,(bh l).flatten.length=l.length * 7:=by
    intro l
    induction l with
    | nil=>rfl
    | cons a r ih=>simp only [bh,List.map_cons,List.flatten_cons,List.length_append,List.length_cons] at ih ⊢;rw [ih];simp only [gv,List.length_cons,List.length_nil];omega
   rw [fX,List.length_append,List.length_append,this,hbl,RM];simp only [nd0,List.length_cons,List.length_nil];omega
  refine br ?_ ?_<;>intro hL
  ·have aj:e < ps.len:=by simpa [aK] using hL
   obtain ⟨p,u,hx⟩:=Pts.eN aj;have yB:=Pts.gG (mG hx);rw [Pts.drop_cons hx] at hK UX hKn D1;obtain ⟨jG,LY⟩:=sS D1;simp only [xe] at hK;simp only [edsP] at UX;simp only [Pts.nn] at hKn;rw [<- RM] at hK UX;have F7:=u.gK;have huc:=u.eO;have dA:=aU p u (by omega) (fun hB=>ih u (by omega) (by omega) (jG hB)) n' ri (fun hB=>by rw [hB] at hKn;simp only [Bool.false_eq_true,if_false] at hKn;omega) hbl';have YU:=kA X.lev ⟨ae,order,types,.mk rh rp⟩ u n';obtain ⟨uh,us⟩:=u;refine iX (cd hx) ?_;refine jU 2 1 Xr rfl rfl rfl lZ lZ dA (fun r ln dw hΦ h1 h2=>?_);obtain ⟨rfl,rfl,rfl⟩:=hΦ;refine ⟨by rw [aO,VU],⟨by simp [aO,VU,maxLen];omega,by simp [aO,VU];omega⟩,?_⟩
   have UY:(if p.bare then [] else ndsT X.lev ⟨ae,order,types,.mk rh rp⟩ (.mk uh us) n').length=if p.bare then 0 else (Ty.mk uh us).nn:=by
    split
    ·rfl
    ·exact YU
   have SN:n + 1 + (K.length + (if p.bare then 0 else (Ty.mk uh us).nn))=n' + if p.bare then 0 else (Ty.mk uh us).nn:=by rw [RM];omega
   refine ⟨Nr ⟨ae,order,types,.mk rh rp⟩ aH lc m n h ps (n' + (if p.bare then [] else ndsT X.lev ⟨ae,order,types,.mk rh rp⟩ (.mk uh us) n').length) (ri ++ (bh (if p.bare then [] else ndsT X.lev ⟨ae,order,types,.mk rh rp⟩ (.mk uh us) n')).flatten) (Es ++ [xd X.lev p (u9 ⟨ae,order,types,.mk rh rp⟩ p (.mk uh us) n')]) h.af.length (e + 1) (e + 1),(ap 3 rfl (by repeat' (first | exact rfl | exact ay rfl | exact aA (aF aj (by omega)) | exact dB (Aa _ _) rfl | refine ⟨_,_,rfl,?_,?_⟩)) rfl rfl rfl (by repeat' (first | exact trivial | exact ay rfl | exact aA (aF aj (by omega)) | exact dB (Aa _ _) rfl | refine ⟨⟨_,rfl,?_⟩,?_⟩))),
    ps.len - (e + 1),by omega,e + 1,_,_,_,K ++ (if p.bare then [] else ndsT X.lev ⟨ae,order,types,.mk rh rp⟩ (.mk uh us) n'),rfl,by omega,?_,?_,?_,?_,?_,?_,LY,rfl⟩
   ·rw [List.length_append,RM];omega
   ·rw [fX];simp [bh]
   ·simp [VU]
   ·rw [List.length_append,UY,List.append_assoc,SN];exact hK
   ·rw [List.length_append,UY,List.append_assoc,SN];exact UX
   ·rw [List.length_append,UY];omega
  ·have aM:e=ps.len:=by have:=hL;simp [aK] at this;omega
   subst aM;rw [Pts.dr] at hK UX;simp only [xe,List.append_nil] at hK;simp only [edsP,List.append_nil] at UX;have hKl:K.length=ps.nn:=by rw [hK,xf]
   have UZ:(List.replicate n' ([]:List DV)).length=n':=List.length_replicate;refine Kb (kt:=0) ⟨rfl,rfl⟩ ⟨rfl,rfl,rfl⟩ ⟨rfl,rfl,rfl⟩ rfl rfl rfl rfl rfl rfl rfl rfl rfl rfl rfl UZ ⟨by omega,by omega⟩ (by decide) ?_;have YV:n + (ndsT X.lev ⟨ae,order,types,.mk rh rp⟩ (.mk h ps) n).length=n':=by rw [Ki,List.length_cons,<- hK,RM];omega
   have sf:ri.set ((n:Int).toNat * 7 + 6) (.sl 10 (cw Es) none)=base ++ (bh (ndsT X.lev ⟨ae,order,types,.mk rh rp⟩ (.mk h ps) n)).flatten:=by
    rw [fX,show (n:Int).toNat=n by omega,Qx hbl,Ki,UX,hK];rfl
   refine ⟨.v (.int .i64 n),[bC ⟨ae,order,types,.mk rh rp⟩ (.pt lc 0) (.loc 1 0) m,Ln ⟨ae,order,types,.mk rh rp⟩ aH lc n'],ax,lZ,?_,?_,?_⟩
   ·rw [Qy]
   ·rw [YV]
   ·rw [YV,<- sf];rfl
end Go.Proofs.YtadhpeooehkklaaGreat
namespace Go.Proofs.YtadhpeooehkklaaGreat
namespace Dv
open Go Go.RowKit
section
variable {X:Ctx} {st:St} {k:List It} {E:En} {a:Act} {w:World} {ops:Array Oper} {W:Nat->Bool} {C:World->Prop} {Q:Act->World->Prop} {i:Nat} {r:List Nat} {o:Oper}
theorem fG (hg:o.guard=none):Region.wanted o (yielded ops a.tmps)=true:=by
 unfold Region.wanted;rw [hg]
theorem Qz {bx:List (List DV)} {wr:World} (h:Rel X E st a w) (hE:sm E bx wr) (hC:∀ w',C w' -> CC E bx wr w'):Rl E bx C st.sl a where
 tm:=h.tm
 eU:=fun i cs hi=>by
  by_cases bg:cs=[]
  ·subst bg;have aj:i < E.β.length:=by rw [hE.len];exact (gS hi).1
   exact ⟨_,[],gE aj,⟨cK _,by simp⟩,fun w' _ j u hj=>by simp at hj⟩
  ·obtain ⟨b,ty,arr,hb,hw,hc⟩:=hE.eU i cs hi bg;exact ⟨b,arr,hb,hc,fun w' h' j u hj=>by rw [cF (((hC w' h').o i b cs hb hi bg).trans hw)];simpa using hj⟩
 cc:=fun x v hx w' h'=>(hC w' h').c x v hx
theorem QA {bx:List (List DV)} (h:Env E bx w) (m:List Nat):sm E (maskL m 0 bx) w:=⟨by rw [sq];exact h.len,fun i cs hi bg=>by
 rcases sr m _ _ _ _ hi with h1 | h1
 ·exact (bg h1).elim
 ·exact h.eU i cs h1⟩
theorem mJ (hR:Rel X E st a w) (ho:ops[i]? = some o) (hE:fW o.op=false) (hL:jR o.op=false) (hg:o.guard=none) {s:DV} (hs:pureT X.P X.T ⟨st.sl,[],[]⟩ [] o.op=some s) (hd:fV X.nt st.sl o.dst=true)
  (hk:∀ a',Rel X E (st.put o.dst ⟨[],s⟩) a' w->runT X.P ops W C Q r a' w):runT X.P ops W C Q (i :: r) a w:=by
 have ed:Rl E [] (fun _=>False) st.sl a:=⟨hR.tm,fun i cs hi=>by simp at hi,fun _ _ _ _ h=>h.elim⟩;obtain ⟨v,hv,cm⟩:=iP (st:=⟨st.sl,[],[]⟩) X.hT ed (bw _) hs;simp only [runT,ho,hE,Bool.false_eq_true,if_false];exact ⟨v,.inl ⟨fG hg,fun w' _=>cm w' fun h=>by rw [hL] at h;cases h⟩,fun h=>(by rw [hL] at h;cases h),hk _ (bz hR hd s v hv)⟩
theorem QB (hR:Rel X E st a w) (ho:ops[i]? = some o) {bx:List (List DV)} (ed:Rl E bx C st.sl a) (T1:C w) (hE:fW o.op=false) (hg:o.guard=none) {s:DV} (hs:pureT X.P X.T ⟨st.sl,bx,[]⟩ [] o.op=some s) (hd:fV X.nt st.sl o.dst=true)
  (hk:∀ a',Rel X E (st.put o.dst ⟨[],s⟩) a' w->runT X.P ops W C Q r a' w):runT X.P ops W C Q (i :: r) a w:=by
 obtain ⟨v,hv,cm⟩:=iP (st:=⟨st.sl,bx,[]⟩) X.hT ed (bw _) hs;simp only [runT,ho,hE,Bool.false_eq_true,if_false];exact ⟨v,.inl ⟨fG hg,fun w' h=>cm w' h⟩,fun _=>T1,hk _ (bz hR hd s v hv)⟩
theorem QC (hR:Rel X E st a w) (ho:ops[i]? = some o) {t x d:Nat} {b p j:Nat} {n:Nat} {kd:TK} {z:List Value} (hb:E.β[j]? = some b) (qh:o.op = .load t (.tmp x)) (iT:o.dst=some d) {i2 GZ b2:Nat} (kR:E.β[i2]? = some b2) (hx:rv st [] (.tmp x)=some (.loc i2 p)) (hT:X.T.find t=some ⟨n,false,kd,z⟩)
  (hC:∀ w',C w' -> w'.cell? ⟨b2,p,none⟩=some (.pointer (some ⟨b,GZ,none⟩))) (T1:C w) (hg:o.guard=none) (hd:fV X.nt st.sl (some d)=true)
  (hk:∀ a',Rel X E ⟨(d,⟨[],.loc j GZ⟩) :: st.sl,st.bx,st.tk⟩ a' w->runT X.P ops W C Q r a' w):runT X.P ops W C Q (i :: r) a w:=by
 have hE:fW o.op=false:=by rw [qh];all_goals rfl
 simp only [runT,ho,hE,Bool.false_eq_true,if_false];have hv:Rv E (.loc j GZ) (.pointer (some ⟨b,GZ,none⟩)):=by unfold Rv;exact ⟨b,hb,rfl⟩
 refine ⟨.pointer (some ⟨b,GZ,none⟩),.inl ⟨fG hg,fun w' h=>?_⟩,fun _=>T1,?_⟩
 ·have TY:=hC w' (h (by rw [qh];rfl));have e1:=ba hR.rl hx;unfold Rv at e1;obtain ⟨b3,RO,e1⟩:=e1;rw [kR] at RO;simp only [oI] at RO;subst RO;have Pz:=(te_parts X.hT hT).2.1
  have hl:(loadVar t ⟨b2,p,none⟩).run X.P w' = .ok (.pointer (some ⟨b,GZ,none⟩)) w':=by
   simp [loadVar,j8 Pz,TY]
  simp only [execOp,qh,e1,Sem.run_bind,Instr.loadAt,Instr.sureAddr,Sem.run_pure,Result.andThen_ok,hl]
 ·rw [iT];exact hk _ (bz hR hd (.loc j GZ) _ hv)
theorem Kj (hR:Rel X E st a w) (ho:ops[i]? = some o) {dst:Option Nat} {f:Operand} {args:Array Operand} {tys:Array TypeId} (qh:o.op = .call ⟨.value f,args,tys⟩) (iT:o.dst=dst) (hg:o.guard=none) {g:FuncId} {ds:List DV} (hf:rv st [] f=some (.fn g [] [])) (hl:argsV st [] args.toList=some ds) (mg:Enters X.P g)
  {K:Value->World->Prop} (hc:∀ vs,RvL E ds vs->Calls X.P g vs.toArray w fun e w'=>∃ v,e = .returned v/\K v w') (hk:∀ v w',K v w' -> (W i=false->C w->C w')/\runT X.P ops W C Q r (a.put dst v) w'):runT X.P ops W C Q (i :: r) a w:=by
 have hE:fW o.op=true:=by rw [qh];all_goals rfl
 have V9:=fG (ops:=ops) (a:=a) hg;have ed:=hR.rl;have e1:=ba ed hf;unfold Rv at e1;obtain ⟨l1,r1,e1,yQ,hr1⟩:=e1;simp only [RvL] at yQ hr1;subst yQ hr1;have hargs:=iO ed (bw _) _ _ hl;simp only [runT,ho,hE,if_true,dC,V9];subst iT;obtain ⟨dst,op,ty,pos,after,gu⟩:=o;simp only at qh;subst qh
 have hr:(execOp a.eval ⟨dst,.call ⟨.value f,args,tys⟩,ty,pos,after,gu⟩).run X.P w = .ok (.enter g (args.toList.map a.eval).toArray) w:=by
  have e3:(([]:List Value).toArray ++ args.map a.eval ++ ([]:List Value).toArray)=(args.toList.map a.eval).toArray:=by apply Array.ext';simp
  simp only [execOp,resolve,e1,Deferred.ofValue,Sem.run_bind,Sem.run_pure,Result.andThen_ok,invoke,e3];exact mg _ _
 unfold wq;rw [hr];refine (hc _ hargs).mono ?_;rintro e w' ⟨v,rfl,hK⟩;exact ⟨v,rfl,hk v w' hK⟩
theorem QD (hR:Rel X E st a w) (ho:ops[i]? = some o) {dst:Option Nat} {f:Operand} {args:Array Operand} {tys:Array TypeId} (qh:o.op = .call ⟨.value f,args,tys⟩) (iT:o.dst=dst) (hg:o.guard=none) {g:FuncId} {ds Uj:List DV} (hf:rv st [] f=some (.fn g [] [])) (hl:argsV st [] args.toList=some ds) (mg:Enters X.P g)
  {os:List (List DV)} (n1 m1:Nat) (zg:Nat.ble n1 st.bx.length=true) (j1:Nat.ble m1 st.tk.length=true) (sb:nA [] n1 n1 m1 os (st.bx.take n1)) (ha:CcL [] n1 n1 m1 Uj ds)
  {Φ:DV->List (List DV)->List TkE->Prop} (hc:Ev X.P g Uj os (st.tk.take m1) Φ) (aR:X.still=false) (hX:X.bt=[])
  (hk:∀ v r' ln dw E' w',Φ r' ln dw -> ln.length=n1->dw.length=m1->Rel X E' ⟨st.sl,ln ++ st.bx.drop n1,dw ++ st.tk.drop m1⟩ a w' -> Rv E' r' v->Ext E E' -> E'.β=E.β->(∀ (i:Nat) b,n1<=i->E.β[i]? = some b->w'.heap[b]? = w.heap[b]?) ->
   (W i=false->C w->C w')/\runT X.P ops W C Q r (a.put dst v) w'):runT X.P ops W C Q (i :: r) a w:=by
 refine Kj hR ho qh iT hg hf hl mg (K:=fun v w'=>∃ r' ln dw E',Φ r' ln dw /\ ln.length=n1/\dw.length=m1/\Rel X E' ⟨st.sl,ln ++ st.bx.drop n1,dw ++ st.tk.drop m1⟩ a w' /\ Rv E' r' v/\Ext E E' /\ E'.β=E.β/\∀ (i:Nat) b,n1<=i->E.β[i]? = some b->w'.heap[b]? = w.heap[b]?)
  (fun vs hv=>?_) ?_
 ·refine (DU n1 m1 zg j1 sb ha hc aR hX hR hv).mono ?_;rintro e w' ⟨v,r',ln,dw,E',rfl,h⟩;exact ⟨v,rfl,r',ln,dw,E',h⟩
 ·rintro v w' ⟨r',ln,dw,E',h1,h2,h3,h4,h5,h6,h7,h8⟩;exact hk v r' ln dw E' w' h1 h2 h3 h4 h5 h6 h7 h8
theorem QE (h:Rel X E st a w) (j o k:Nat) {n ty e:Nat} {ocs:List DV} {es ns:List (List DV)} (hq:st.tk[k]? = some ⟨n,ty,e,some ns.flatten⟩) (yz:∀ x∈ns,x.length=e) (fc:ns.length=n) (hj:st.bx[j]? = some ocs) (ho:ocs[o]? = some (.sl 0 es (some k))) (gh:es.length=n) :
  ∃ E',Rel X E' ⟨st.sl,st.bx.set j (ocs.set o (.sl e ns none)),st.tk.set k ⟨n,ty,e,none⟩⟩ a w:=GJ hq yz fc hj ho gh E a w h
theorem Kl (hR:Rel X E st a w) (ho:ops[i]? = some o) (hE:fW o.op=true) (hg:o.guard=none) (hW:W i=true) (hd:fV X.nt st.sl o.dst=true) {p:Prop} (hp:effC X st o (go X 4000 k)=some p) (h:p):runT X.P ops W C (fun a w=>kq X k .normal a w) [i] a w:=by
 have V9:=fG (ops:=ops) (a:=a) hg;simp only [runT,ho,hE,if_true,dC,V9];refine mc ?_ (mf hd hR hp h);rintro a' w' ⟨st',E',hU,hr,_⟩;exact ⟨(fun h=>by rw [hW] at h;cases h),go_sound 4000 _ _ hU _ _ _ hr⟩
mutual
theorem sX {i j:Nat}:∀ d:DV,renD (swp i j) (renD (swp i j) d)=d
 | .v x=>rfl
 | .ud=>rfl
 | .agg l=>by simp only [renD,j6]
 | .tup l=>by simp only [renD,j6]
 | .sl e es tk=>rfl
 | .pt cs o=>rfl
 | .loc k o=>by simp only [renD,kT]
 | .el k o=>by simp only [renD,kT]
 | .ms k e o l c=>by simp only [renD,kT]
 | .fn g l r=>by simp only [renD,j6]
 | .rZ t x=>by simp only [renD,sX]
theorem j6 {i j:Nat}:∀ l:List DV,renL (swp i j) (renL (swp i j) l)=l
 | []=>rfl
 | d :: r=>by simp only [renL,sX,j6]
end
theorem Ac {i j:Nat}:∀ l:List (Nat × Sl),renS (swp i j) (renS (swp i j) l)=l
 | []=>rfl
 | (k,⟨gs,s⟩) :: r=>by simp only [renS,sX,Ac]
theorem Ad {i j:Nat}:∀ l:List (List DV),renO (swp i j) (renO (swp i j) l)=l
 | []=>rfl
 | c :: r=>by simp only [renO,j6,Ad]
theorem Ns {i j:Nat} (f:Nat->Nat) (l:List (List DV)) (hi:i < l.length) (hj:j < l.length):renO f (swL i j l)=swL i j (renO f l):=by
 apply List.ext_getElem?;intro k;rw [qR,eM hi hj,eM (by rw [cI];exact hi) (by rw [cI];exact hj),qR]
theorem D9 {i j:Nat} {S:St} (hi:i < S.bx.length) (hj:j < S.bx.length):dJ i j (dJ i j S)=S:=by
 obtain ⟨sl,bx,tk⟩:=S;simp only [dJ,Ac];rw [Ns _ _ (by rw [cI];exact hi) (by rw [cI];exact hj),Ad];congr 1;apply List.ext_getElem?;intro k;rw [eM (by rw [cO];exact hi) (by rw [cO];exact hj),eM hi hj,kT]
theorem gP.YW {f:FuncId} {args:List DV} {dst:Option Nat} (i j:Nat) (K9:Nat.ble X.n0 i=true) (yO:Nat.ble X.n0 j=true) (hi:Nat.blt i st.bx.length=true) (hj:Nat.blt j st.bx.length=true)
  (h:gP X f (renL (swp i j) args) dst k (dJ i j st)) (hX:X.bt=[]:=by exact rfl):gP X f args dst k st:=by
 have eC:=hi;have fY:=hj;simp only [Nat.blt_eq] at eC fY;have hl:(dJ i j st).bx.length=st.bx.length:=by simp only [dJ,cO,cI]
 exact gP.Gf i j (D9 eC fY).symm (j6 args).symm K9 yO (by rw [hl];exact hi) (by rw [hl];exact hj) h hX
theorem G0 {P:Program} {t e:TypeId} (hu:P.underlying t=some (.slice e)) (d:Nat) (x:Option Addr) (n c:Nat) (w:World):(Op.equalIn (d + 1) t (.slice x n c) (.slice none 0 0)).run P w = .ok x.isNone w:=by
 cases x<;>simp [Op.equalIn,run_underlying hu]
theorem Nt {P:Program} {t e:TypeId} (hu:P.underlying t=some (.slice e)) (x:Option Addr) (n c:Nat) (w:World):(Op.equal t (.slice x n c) (.slice none 0 0)).run P w = .ok x.isNone w:=G0 hu 9999 x n c w
theorem Nu {t d e:Nat} {x:Operand} {es:List (List DV)} {tk:Option Nat} {n et e' jL:Nat} {bb:Bool} {z:List Value} (qh:∃ t',o.op = .binOp .eql t x (.const (.slice none 0 0)) t') (iT:o.dst=some d) (hx:rv st [] x=some (.sl e es tk)) (hT:X.T.find t=some ⟨n,bb,.sl et e' jL,z⟩) (hd:fV X.nt st.sl (some d)=true)
  (hk:∀ b:Bool,(es ≠ []->b=false)->go X 4000 k ⟨(d,⟨[],.v (.bool b)⟩) :: st.sl,st.bx,st.tk⟩):K8 X o k st:=by
 intro E a w h;obtain ⟨t',qh⟩:=qh;have e1:=ba h.rl hx;unfold Rv at e1;obtain ⟨b,m,cap,e1,⟨rfl,_⟩,hr,_⟩:=e1;obtain ⟨hu,_⟩:=fb X.hT hT;have aJ:=Nt hu b es.length cap w
 have cm:(execOp a.eval o).run X.P w = .ok (.value (.bool b.isNone)) w:=by
  have hc:a.eval (.const (.slice none 0 0)) = .slice none 0 0:=rfl;simp [execOp,qh,e1,hc,eqGuard,binOp,aJ]
 refine lC cm ?_;rw [iT];refine go_sound 4000 _ _ (hk b.isNone fun bg=>?_) E _ w (bz h hd (.v (.bool b.isNone)) _ (by unfold Rv;exact ⟨rfl,rfl⟩));have:=px (hr bg).1;rw [this];rfl
theorem YX {t d et e jL n:Nat} {bb:Bool} {z:List Value} (qh:o.op = .buildSlice t 0 #[]) (iT:o.dst=some d) (hT:X.T.find t=some ⟨n,bb,.sl et e jL,z⟩) (hd:fV X.nt st.sl (some d)=true) (aR:X.still=false:=by exact rfl) (hX:X.bt=[]:=by exact rfl) :
  OpS X o st ⟨(d,⟨[],.sl e [] (some st.tk.length)⟩) :: st.sl,st.bx,st.tk ++ [⟨0,et,e,none⟩]⟩:=by
 intro E a w h;obtain ⟨hu,ii,zv,qB,hz,bL,FI,Js⟩:=fb X.hT hT;have qC:iJ X.P et=some e:=by rw [fO qB,bL]
 have cm:(execOp a.eval o).run X.P w = .ok (.value (.slice (some ⟨w.heap.size,0,none⟩) 0 0)) (w.alloc (.cells #[] et)):=by
  have h1:(Instr.buildSlice t 0 #[]).run X.P w = .ok (.slice (some ⟨w.heap.size,0,none⟩) 0 0) (w.alloc (.cells #[] et)):=by
   have h0:Array.range 0 = #[]:=rfl;simp [Instr.buildSlice,run_underlying hu,aN qC,Instr.fill,newRow,h0]
  simp only [execOp,qh,List.map_toArray,List.map_nil,Sem.run_bind,h1,Result.andThen_ok,Sem.run_pure]
 refine ej cm ?_;rw [iT];have jG:=h.env.jS (w':=w.alloc (.cells #[] et)) fun i hi=>alloc_old w _ hi
 let E2:En:=⟨E.c,E.β,E.tk ++ [⟨0,et,e,none⟩],E.τ ++ [.slice (some ⟨w.heap.size,0,none⟩) 0 0]⟩
 have hext:Ext E E2:=⟨fun _ _ h=>h,fun _ _ h=>h,fun k q' hk=>by
  have aj:=(gS hk).1;refine ⟨q',by show (E.tk ++ _)[k]? = _;rw [List.getElem?_append_left aj];exact hk,.inl ⟨rfl,?_⟩⟩;show (E.τ ++ _)[k]? = _
  rw [List.getElem?_append_left (by rw [h.env.tl];exact aj)]⟩
 have hτ:∀ (k:Nat) y,E2.τ[k]? = some y->(k < E.τ.length/\E.τ[k]? = some y)∨(k=E.τ.length/\y = .slice (some ⟨w.heap.size,0,none⟩) 0 0):=fun k y hy=>by
  have hy:(E.τ ++ [Value.slice (some ⟨w.heap.size,0,none⟩) 0 0])[k]? = some y:=hy;rw [List.getElem?_append] at hy;split at hy
  ·rename_i hk;exact .inl ⟨hk,hy⟩
  ·rename_i hk
   have h0:k - E.τ.length=0:=by
    rcases Nat.eq_zero_or_pos (k - E.τ.length) with h0 | h0
    ·exact h0
    ·rw [List.getElem?_eq_none (by simp;omega)] at hy;cases hy
   rw [h0] at hy;simp only [List.getElem?_cons_zero,oI] at hy;exact .inr ⟨by omega,hy.symm⟩
 have fN:∀ (k:Nat) y g,E.τ[k]? = some y->y.ownBlock=some g->g < w.heap.size:=fun k y g hy hg=>(h.env.own (mG hy) hg).1
 have bZ:Rel X E2 ⟨st.sl,st.bx,st.tk ++ [⟨0,et,e,none⟩]⟩ a (w.alloc (.cells #[] et)):=by
  refine dh h hext ?_ (by show E.tk ++ _=_;rw [h.tk]) ?_ (h.fr.alloc _) (nC aR) (.nil hX)
  ·exact {
    len:=h.env.len
    tl:=by show (E.τ ++ _).length=(E.tk ++ _).length;simp [h.env.tl]
    eU:=fun i cs hi=>by
     obtain ⟨b,t,arr,hb,hw,hc⟩:=jG.eU i cs hi;exact ⟨b,t,arr,hb,hw,hc.mono hext⟩
    inj:=h.env.inj
    sub:=jG.sub
    pc:=h.env.pc
    cu:=fun k q' y SO hy=>by
     rcases hτ k y hy with ⟨aj,fi⟩ | ⟨rfl,rfl⟩
     ·have eJ:(E.tk ++ [⟨0,et,e,none⟩])[k]? = some q':=SO;rw [List.getElem?_append_left (by rw [<- h.env.tl];exact aj)] at eJ;exact jG.cu k q' y eJ fi
     ·have eJ:(E.tk ++ [⟨0,et,e,none⟩])[E.τ.length]? = some q':=SO;rw [List.getElem?_append_right (by rw [h.env.tl];exact Nat.le_refl _),h.env.tl] at eJ;simp only [Nat.sub_self,List.getElem?_cons_zero,oI] at eJ;subst eJ;refine .inr ⟨w.heap.size,0,#[],rfl,iL w _,⟨by simp,qv.none rfl⟩,Nat.le_refl _,Nat.zero_le _,fun hm=>?_,fun x v hx FL=>?_⟩
      ·have:=h.env.bd hm;omega
      ·have:=World.block_lt_of_cell? w x (h.env.sub x v hx);omega
    jm:=fun k k' y y' g CN hy fi hg rO=>by
     rcases hτ k y hy with ⟨_,uT⟩ | ⟨rfl,rfl⟩
     ·rcases hτ k' y' fi with ⟨_,kL⟩ | ⟨rfl,rfl⟩
      ·exact h.env.jm k k' y y' g CN uT kL hg rO
      ·have:=fN k y g uT hg;simp only [Value.ownBlock,oI] at rO;omega
     ·rcases hτ k' y' fi with ⟨_,kL⟩ | ⟨rfl,rfl⟩
      ·have:=fN k' y' g kL rO;simp only [Value.ownBlock,oI] at hg;omega
      ·exact CN rfl }
  ·exact {
    c:=h.nw.c
    cn:=h.nw.cn
    β:=h.nw.β
    tk:=fun j q0 y0 uU Bi=>by
     obtain ⟨q',y',h1,h2,h3⟩:=h.nw.tk j q0 y0 uU Bi;exact ⟨q',y',by show (E.tk ++ _)[j]? = _;rw [List.getElem?_append_left (gS h1).1];exact h1,by show (E.τ ++ _)[j]? = _;rw [List.getElem?_append_left (gS h2).1];exact h2,h3⟩
    tn:=fun j y g hj hy hg=>by
     rcases hτ j y hy with ⟨_,uT⟩ | ⟨_,rfl⟩
     ·exact h.nw.tn j y g hj uT hg
     ·simp only [Value.ownBlock,oI] at hg;have:=h.fr.size;omega
    l0:=h.nw.l0 }
 refine ⟨E2,bz bZ hd (.sl e [] (some st.tk.length)) _ ?_,hext,⟨[],by simp [E2]⟩,fun i b hb _=>alloc_old w _ (h.env.bd (mG hb))⟩;unfold Rv;refine ⟨_,0,0,rfl,⟨rfl,Nat.le_refl _⟩,fun hn=>(hn rfl).elim,fun k' eJ=>?_⟩;cases eJ;refine ⟨⟨0,et,e,none⟩,?_,Nat.le_refl _,fun _=>?_⟩
 ·show (E.tk ++ _)[st.tk.length]? = _;rw [h.tk];simp
 ·show (E.τ ++ _)[st.tk.length]? = _;rw [<- h.tk,<- h.env.tl];simp
theorem Ea {t d et e jL n:Nat} {bb:Bool} {z:List Value} (qh:o.op = .buildSlice t 0 #[]) (iT:o.dst=some d) (hT:X.T.find t=some ⟨n,bb,.sl et e jL,z⟩) (hd:fV X.nt st.sl (some d)=true) (aR:X.still=false:=by exact rfl) (hX:X.bt=[]:=by exact rfl)
  (hk:go X 4000 k ⟨(d,⟨[],.sl e [] (some st.tk.length)⟩) :: st.sl,st.bx,st.tk ++ [⟨0,et,e,none⟩]⟩):K8 X o k st:=(YX qh iT hT hd aR hX).g hk
theorem Wk.CS {st':St} (N:Nat) (hN:Nat.ble X.n0 N=true) (hNl:Nat.ble N st.bx.length=true) (uz:nA st.bx N N st.tk.length st'.bx (st.bx.take N)) (kM:st'.tk=st.tk) (nu:LZ st.bx N st.tk.length st.sl st'.sl):Wk X st st':=fun _ _ _ h=>
 Ig h N (nL hN) (nL hNl) uz kM nu
theorem K8.wk {st':St} {o:Oper} (hw:Wk X st st') (hd:fV X.nt st'.sl o.dst=true) {p:Prop} (hp:effC X st' o (go X 4000 k)=some p) (h:p):K8 X o k st:=fun E a w hr=>by
 obtain ⟨E',hY⟩:=hw _ _ _ hr;refine C6 (mc ?_ (mf hd hY hp h));rintro a' w' ⟨Dh,E2,hU,hr2,_⟩;exact go_sound 4000 _ _ hU _ _ _ hr2
theorem QF (h:Rel X E st a w) (aR:X.still=false) (hX:X.bt=[]) {g n ty e cap:Nat} {cur:Array Value} (hw:w.heap[g]? = some (.cells cur ty (0,0))) (bL:cur.size=cap * e) (hn:n<=cap) (Jy:cap<=maxLen) (hb:g ∉ E.β)
  (hc:∀ x v,E.c x=some v->x.block=g->x.off < n * e) (fN:∀ (k:Nat) y,E.τ[k]? = some y->y.ownBlock≠some g) (hg:X.w0.heap.size<=g) :
  Rel X ⟨E.c,E.β,E.tk ++ [⟨n,ty,e,none⟩],E.τ ++ [.slice (some ⟨g,0,none⟩) n cap]⟩ ⟨st.sl,st.bx,st.tk ++ [⟨n,ty,e,none⟩]⟩ a w:=by
 let E2:En:=⟨E.c,E.β,E.tk ++ [⟨n,ty,e,none⟩],E.τ ++ [.slice (some ⟨g,0,none⟩) n cap]⟩
 have hext:Ext E E2:=⟨fun _ _ h=>h,fun _ _ h=>h,fun k q' hk=>by
  have aj:=(gS hk).1;refine ⟨q',by show (E.tk ++ _)[k]? = _;rw [List.getElem?_append_left aj];exact hk,.inl ⟨rfl,?_⟩⟩;show (E.τ ++ _)[k]? = _
  rw [List.getElem?_append_left (by rw [h.env.tl];exact aj)]⟩
 have hτ:∀ (k:Nat) y,E2.τ[k]? = some y->(k < E.τ.length/\E.τ[k]? = some y)∨(k=E.τ.length/\y = .slice (some ⟨g,0,none⟩) n cap):=fun k y hy=>by
  have hy:(E.τ ++ [Value.slice (some ⟨g,0,none⟩) n cap])[k]? = some y:=hy;rw [List.getElem?_append] at hy;split at hy
  ·rename_i hk;exact .inl ⟨hk,hy⟩
  ·rename_i hk
   have h0:k - E.τ.length=0:=by
    rcases Nat.eq_zero_or_pos (k - E.τ.length) with h0 | h0
    ·exact h0
    ·rw [List.getElem?_eq_none (by simp;omega)] at hy;cases hy
   rw [h0] at hy;simp only [List.getElem?_cons_zero,oI] at hy;exact .inr ⟨by omega,hy.symm⟩
 refine dh h hext ?_ (by show E.tk ++ _=_;rw [h.tk]) ?_ h.fr (nC aR) (.nil hX)
 ·exact {
   len:=h.env.len
   tl:=by show (E.τ ++ _).length=(E.tk ++ _).length;simp [h.env.tl]
   eU:=fun i cs hi=>by
    obtain ⟨b,t,arr,hb,hw,hc⟩:=h.env.eU i cs hi;exact ⟨b,t,arr,hb,hw,hc.mono hext⟩
   inj:=h.env.inj
   sub:=h.env.sub
   pc:=h.env.pc
   cu:=fun k q' y SO hy=>by
    rcases hτ k y hy with ⟨aj,fi⟩ | ⟨rfl,rfl⟩
    ·have eJ:(E.tk ++ [⟨n,ty,e,none⟩])[k]? = some q':=SO;rw [List.getElem?_append_left (by rw [<- h.env.tl];exact aj)] at eJ;exact h.env.cu k q' y eJ fi
    ·have eJ:(E.tk ++ [⟨n,ty,e,none⟩])[E.τ.length]? = some q':=SO;rw [List.getElem?_append_right (by rw [h.env.tl];exact Nat.le_refl _),h.env.tl] at eJ;simp only [Nat.sub_self,List.getElem?_cons_zero,oI] at eJ;subst eJ;exact .inr ⟨g,cap,cur,rfl,hw,⟨bL,fun cs h=>by cases h⟩,hn,Jy,hb,hc⟩
   jm:=fun k k' y y' g' CN hy fi o8 Pj=>by
    rcases hτ k y hy with ⟨_,uT⟩ | ⟨rfl,rfl⟩
    ·rcases hτ k' y' fi with ⟨_,kL⟩ | ⟨rfl,rfl⟩
     ·exact h.env.jm k k' y y' g' CN uT kL o8 Pj
     ·simp only [Value.ownBlock,oI] at Pj;subst Pj;exact fN k y uT o8
    ·rcases hτ k' y' fi with ⟨_,kL⟩ | ⟨rfl,rfl⟩
     ·simp only [Value.ownBlock,oI] at o8;subst o8;exact fN k' y' kL Pj
     ·exact CN rfl }
 ·exact {
   c:=h.nw.c
   cn:=h.nw.cn
   β:=h.nw.β
   tk:=fun j q0 y0 uU Bi=>by
    obtain ⟨q',y',h1,h2,h3⟩:=h.nw.tk j q0 y0 uU Bi;exact ⟨q',y',by show (E.tk ++ _)[j]? = _;rw [List.getElem?_append_left (gS h1).1];exact h1,by show (E.τ ++ _)[j]? = _;rw [List.getElem?_append_left (gS h2).1];exact h2,h3⟩
   tn:=fun j y g' hj hy rO=>by
    rcases hτ j y hy with ⟨_,uT⟩ | ⟨_,rfl⟩
    ·exact h.nw.tn j y g' hj uT rO
    ·simp only [Value.ownBlock,oI] at rO;omega
   l0:=h.nw.l0 }
theorem U0 {t d et e jL n len:Nat} {bb:Bool} {z:List Value} {parts:Array (Nat × Operand)} {es:List (List DV)} (qh:o.op = .buildSlice t len parts) (iT:o.dst=some d) (hT:X.T.find t=some ⟨n,bb,.sl et e jL,z⟩) (gh:litL e st parts.toList 0=some es)
  (hc:(Nat.beq es.length len && (Nat.blt 0 len && Nat.blt 0 e && Nat.ble (len * e) 16777216))=true) (hd:fV X.nt st.sl (some d)=true) (aR:X.still=false:=by exact rfl) (hX:X.bt=[]:=by exact rfl)
  (hk:go X 4000 k ⟨(d,⟨[],.sl e es (some st.tk.length)⟩) :: st.sl,st.bx,st.tk ++ [⟨len,et,e,none⟩]⟩):K8 X o k st:=by
 intro E a w h;simp only [Bool.and_eq_true,Nat.beq_eq,Nat.ble_eq,Nat.blt_eq] at hc;obtain ⟨hlen,⟨jF,CP⟩,hsm⟩:=hc;obtain ⟨hu,ii,zv,qB,hz,bL,FI,Js⟩:=fb X.hT hT;obtain ⟨xs,vs,hp,vG,yw,eD,zl,dY⟩:=mb h.rl CP gh;subst bL
 have FV:len * ii.size≠0:=by
  have:=Nat.mul_pos jF CP;omega
 have lz:Instr.fill (fun i=>some (i * ii.size,ii.size)) ((Array.range (len * ii.size)).map (zv.cells[·% zv.cells.size]!)) (parts.map fun (i,x)=>(i,a.eval x)).toList=some (cellsL vs).toArray:=by
  have h0:=qq ii.size vs 0 ((Array.range (len * ii.size)).map (zv.cells[·% zv.cells.size]!)).toList eD (by simp [yw,hlen])
  have h1:(parts.map fun (i,x)=>(i,a.eval x)).toList=enumF 0 vs:=by
   rw [Array.toList_map,hp,vG,<- oo]
  rw [h1];simp only [Array.toArray_toList] at h0;rw [h0];simp [yw,hlen]
 have cm:(execOp a.eval o).run X.P w = .ok (.value (.slice (some ⟨w.heap.size,0,none⟩) len len)) (w.alloc (.cells (cellsL vs).toArray et)):=by
  simp only [execOp,qh,Sem.run_bind,run_buildSlice w t et len _ _ ii zv hu qB hz (by omega) FV lz,Result.andThen_ok,Sem.run_pure]
 refine lC cm ?_;rw [iT];have hr:=zj (arr:=cellsL vs) h aR et
 have Ae:(cellsL vs).length=len * ii.size:=by
  have:∀ l:List Value,(∀ v∈l,v.cells.toList.length=ii.size)->(cellsL l).length=l.length * ii.size:=by
   intro l
   induction l with
   | nil=>intro _;simp [cellsL]
   | cons v l ih=>
    intro hl;simp only [cellsL,List.length_append,List.length_cons];rw [ih fun x hx=>hl x (List.mem_cons_of_mem _ hx),hl v List.mem_cons_self,Nat.succ_mul];omega
  rw [this vs eD,yw,hlen]
 have hr2:=QF (n:=len) (ty:=et) (e:=ii.size) (cap:=len) hr aR hX (g:=w.heap.size) (cur:=(cellsL vs).toArray) (iL w _) (by simp [Ae]) (Nat.le_refl _) (by
   have:len<=len * ii.size:=Nat.le_mul_of_pos_right _ CP;unfold maxLen;omega) (fun hm=>by have:=h.env.bd hm;omega) (fun x v hx FL=>by
   have hx:iB E.c (w.alloc (.cells (cellsL vs).toArray et)) w.heap.size (cellsL vs).length x=some v:=hx;unfold iB at hx;split at hx
   ·rename_i hc;rw [<- Ae];exact hc.2.2
   ·have:=World.block_lt_of_cell? w x (h.env.sub x v hx);omega) (fun j y hy hg=>by
   have:=(h.env.own (mG hy) hg).1
   omega) (h.fr.size)
 refine go_sound 4000 _ _ hk _ _ _ (bz hr2 hd (.sl ii.size es (some st.tk.length)) _ ?_);unfold Rv;refine ⟨_,_,_,rfl,⟨hlen.symm,Nat.le_refl _⟩,fun bg=>⟨rfl,?_⟩,fun k' eJ=>?_⟩
 ·have dq:∀ x v,E.c x=some v->iB E.c (w.alloc (.cells (cellsL vs).toArray et)) w.heap.size (cellsL vs).length x=some v:=fun x v hx=>by
   have aj:=World.block_lt_of_cell? w x (h.env.sub x v hx);unfold iB;rw [if_neg (by omega)];exact hx
  have hm:RvC (En.cl ⟨iB E.c (w.alloc (.cells (cellsL vs).toArray et)) w.heap.size (cellsL vs).length,E.β,E.tk,E.τ⟩) es.flatten (cellsL vs):=zl.mono (Ext.Tu (E:=E) dq);refine rvEs_flat hm dY fun j u hj=>?_;show iB _ _ _ _ _=_;have fY:=(gS hj).1;simp only [ab,ao,Nat.zero_add];rw [Bh fY,cF (iL w _)];simpa using hj
 ·cases eJ;refine ⟨⟨len,et,ii.size,none⟩,?_,Nat.le_refl _,fun _=>?_⟩
  ·show (E.tk ++ _)[st.tk.length]? = _;rw [h.tk];simp
  ·show (E.τ ++ _)[st.tk.length]? = _;rw [<- h.tk,<- h.env.tl];simp
end
end Dv
end Go.Proofs.YtadhpeooehkklaaGreat
set_option maxRecDepth 100000
namespace Go.Proofs.YtadhpeooehkklaaGreat
open Go Go.RowKit Dv Go.Proofs.Tryz
theorem pP {l:List Wd} {o:List (Wd × Wd)} (h:(latF l o).1=0):(gq l o).1=0/\(enumL l 0 l).1=0/\(numF (az l) o).1=0/\bI (kW l.length (fh l.length (dD (az l) o))) l.length=none/\bI (nT (fh l.length (dD (az l) o)) l.length) l.length=none:=by
 unfold latF at h;split at h
 ·rename_i h1;exact (h1 h).elim
 ·rename_i h1;split at h
  ·rename_i h2;exact (h2 h).elim
  ·rename_i h2;split at h
   ·rename_i h3;exact (h3 h).elim
   ·rename_i h3;refine ⟨by simpa using h1,by simpa using h2,by simpa using h3,?_⟩;split at h
    ·cases h
    ·rename_i h4;refine ⟨h4,?_⟩;split at h
     ·cases h
     ·rename_i h5;exact h5
theorem cg {p:Nat->Bool} {n:Nat} (h:bI p n=none):∀ a,a < n->p a=false:=by
 intro a ha;unfold bI at h;rw [List.find?_eq_none] at h;have:=h a (sU ha);simpa using this
theorem nZ {l:List Wd} {o:List (Wd × Wd)} (h:(latF l o).1=0):fU (fh l.length (dD (az l) o)) l.length/\l.length<=32:=by
 obtain ⟨h1,h2,h3,h4,h5⟩:=pP h;have hP:=oH h3;rw [dH] at hP
 have Lg:l ≠ []:=by
  rintro rfl;simp [gq] at h1
 have U1:l.length<=32:=by
  rcases Nat.lt_or_ge 32 l.length with h | h
  ·simp [gq,Lg,h] at h1
  ·exact h
 have UL:∀ a b,a < l.length->b < l.length->lL (fh l.length (dD (az l) o)) l.length a b=false:=by
  have key:∀ a b,a<=b->b < l.length->lL (fh l.length (dD (az l) o)) l.length a b=false:=fun a b yU hb=>by
   have:=cg h5 b hb;unfold nT at this;rw [List.any_eq_false] at this;have:=this a (by simp;omega);simpa using this
  intro a b ha hb;rcases Nat.le_total a b with h | h
  ·exact key a b h hb
  ·have:=key b a h ha;unfold lL at this ⊢;rw [wT,wU];exact this
 refine ⟨{
  pos:=List.length_pos_iff.2 Lg
  rfl':=fun a ha=>sG hP ha
  tr:=fun a b c ha hb hc=>GI hP ha hb hc
  GQ:=fun a b ha hb h6 h7=>by
   have:=cg h4 a ha;unfold kW at this;rw [List.any_eq_false] at this;have:=this b (sU hb);simp only [Bool.and_eq_true,decide_eq_true_eq,not_and] at this;rcases Nat.lt_trichotomy a b with h8 | h8 | h8
   ·exact (this (by omega) h6 h7).elim
   ·exact h8
   ·exact (this (by omega) h6 h7).elim
  jn:=fun a b ha hb=>by
   have:=UL a b ha hb;unfold lL at this;simp only [Bool.or_eq_false_iff,Option.isNone_eq_false_iff] at this;exact Option.isSome_iff_exists.1 this.1
  mt:=fun a b ha hb=>by
   have:=UL a b ha hb;unfold lL at this;simp only [Bool.or_eq_false_iff,Option.isNone_eq_false_iff] at this
   exact Option.isSome_iff_exists.1 this.2 },U1⟩
def fH (s:Sch) (aH:List Nat) (js:List Int):Lx:=⟨az s.ae,aH,closeR (fA s.ae.length (dD (az s.ae) s.order)) s.ae.length,js,fh s.ae.length (dD (az s.ae) s.order)⟩
theorem QG {s:Sch} {d:DV} (h:(latF s.ae s.order).1=0) (hd:UN s.ae s.order d) (hw:s.ae.length<=1099511627776):∃ aH js,(fH s aH js).OK/\d=(fH s aH js).pd:=by
 obtain ⟨aH,js,hT,jC,nD,u6,rfl⟩:=hd;obtain ⟨h1,h2⟩:=nZ h;refine ⟨aH,js,⟨hT,by show aH.length<=_;omega,?_,?_,?_⟩,rfl⟩
 ·show fU _ (az s.ae).length;rw [dH];exact h1
 ·show (az s.ae).length<=32;rw [dH];exact h2
 ·show ∀ x y,x < (az s.ae).length->y < (az s.ae).length->JM _ (az s.ae).length js x y;rw [dH];exact u6
def jf (s:Sch) (l:List Wd):Int:=BU (fh s.ae.length (dD (az s.ae) s.order)) (az s.ae) l
def kY (s:Sch) (t:Ty):Ft:=knT ⟨az s.ae,[],[],[],fun _ _=>false⟩ (tL s) t
mutual
theorem Af {X Y:Lx} (h:X.af=Y.af) (L:List ByteArray):∀ t:Ty,knT X L t=knT Y L t
 | .mk h1 ps=>by rw [knT,knT,Ag h L ps]
theorem Ag {X Y:Lx} (h:X.af=Y.af) (L:List ByteArray):∀ ps:Pts,knP X L ps=knP Y L ps
 | .nil=>by rw [knP,knP]
 | .cons p t r=>by
  rw [knP,knP,Ag h L r,Af h L t];unfold Lx.bad;rw [h]
end
theorem U2 (s:Sch) (aH:List Nat) (js:List Int) (t:Ty):knT (fH s aH js) (tL s) t=kY s t:=Af (X:=fH s aH js) (Y:=⟨az s.ae,[],[],[],fun _ _=>false⟩) rfl (tL s) t
def lO (s:Sch):Ft:=
 if (latF s.ae s.order).1≠0 then latF s.ae s.order
 else if (eu s).1≠0 then eu s
 else if (eaR s.root s.types 0).1.1≠0 then (eaR s.root s.types 0).1
 else if (eaL (kY s) (kY s s.root) s.types).1≠0 then eaL (kY s) (kY s s.root) s.types
 else loopF s
def ndsAll (lev:List Wd->Int) (s:Sch):List (Wd × Ty)->Nat->List Nd
 | [],_=>[]
 | x :: r,k=>ndsT lev s x.2 k ++ ndsAll lev s r (k + x.2.nn)
def rj (s:Sch):List Nd:=ndsAll (jf s) s s.types 0
def aV (s:Sch):List Nd:=rj s ++ ndsT (jf s) s s.root (rj s).length
def fT (s:Sch):Int:=nY s s.root (rj s).length
def SP (s:Sch) (aH lr:List Nat) (js:List Int):List DV:=
 [(fH s aH js).pd,.sl 7 (bh (aV s)) none,.v (.int .i64 (fT s)),.pt (de (tL s) lr) 0,.sl 1 (dInts (namedL s)) none]
def Nv (s:Sch) (d:DV):Prop:=∃ aH lr js,(fH s aH js).OK/\iF (tL s) lr/\lr.length<=s.types.length/\d = .pt (SP s aH lr js) 0
def G1 (s:Sch) (r:DV) (_:List (List DV)) (_:List TkE):Prop:=
 if (lO s).1≠0 then r = .tup [.v (.pointer none),(lO s).d] else ∃ d,Nv s d/\r = .tup [d,Ft.d (0,0)]
theorem n4 {s:Sch} {f:Ft} {os:List (List DV)} {tk:List TkE} (h:lO s=f) (hf:f.1≠0):G1 s (.tup [.v (.pointer none),f.d]) os tk:=by
 unfold G1;rw [h,if_pos hf]
theorem QH {s:Sch} {d:DV} {os:List (List DV)} {tk:List TkE} (h:(lO s).1=0) (hd:Nv s d):G1 s (.tup [d,Ft.d (0,0)]) os tk:=by
 unfold G1;rw [if_neg (by rw [h];simp)];exact ⟨d,hd,rfl⟩
theorem Nx {F:Ty->Ft} {z:Ft}:∀ {l:List (Wd × Ty)},(eaL F z l).1=0->z.1=0/\∀ x∈l,(F x.2).1=0
 | [],h=>⟨h,fun x hx=>by cases hx⟩
 | x :: r,h=>by
  rw [eaL] at h;split at h
  ·rename_i h1;exact (h1 h).elim
  ·rename_i h1;obtain ⟨h2,h3⟩:=Nx h;refine ⟨h2,fun y hy=>?_⟩;rcases List.mem_cons.1 hy with rfl | hy
   ·simpa using h1
   ·exact h3 y hy
theorem Ny {z:Ty}:∀ {l:List (Wd × Ty)} {m:Int},0<=m->(eaR z l m).1.1=0->(wrong z 1 0).1.1=0/\(∀ x∈l,(wrong x.2 1 0).1.1=0)/\(eaR z l m).2=m + ((l.map fun x=>x.2.cnt).sum + z.cnt:Nat)/\(eaR z l m).2<=512
 | [],m,_,h=>by
  rw [eaR] at h ⊢;obtain ⟨h1,h2,h3,_⟩:=oK h;exact ⟨h3,(fun x hx=>by cases hx),(by simp [h1]),h2⟩
 | x :: r,m,hm,h=>by
  rw [eaR] at h ⊢;split at h
  ·rename_i h1;exact (h1 h).elim
  ·rename_i h1;rw [if_neg h1];obtain ⟨g1,g2,g3,_⟩:=oK (sU h1);obtain ⟨h2,h3,h4,h5⟩:=Ny (by omega) h;refine ⟨h2,fun y hy=>?_,(by rw [h4,g1];simp only [List.map_cons,List.sum_cons];omega),h5⟩;rcases List.mem_cons.1 hy with rfl | hy
   ·exact g3
   ·exact h3 y hy
theorem xg (lev:List Wd->Int) (s:Sch):∀ (l:List (Wd × Ty)) (k:Nat),(ndsAll lev s l k).length=(l.map fun x=>x.2.nn).sum
 | [],_=>rfl
 | x :: r,k=>by simp only [ndsAll,List.length_append,kA,xg lev s r,List.map_cons,List.sum_cons]
theorem xi:∀ l:List (Wd × Ty),(l.map fun x=>x.2.nn).sum<=(l.map fun x=>x.2.cnt).sum
 | []=>Nat.le_refl _
 | x :: r=>by
  have:=x.2.gK;have:=xi r;simp only [List.map_cons,List.sum_cons];omega
theorem Ah:∀ l:List Nd,(bh l).flatten.length=l.length * 7
 | []=>rfl
 | a :: r=>by
  have:=Ah r;simp only [bh,List.map_cons,List.flatten_cons,List.length_append,List.length_cons] at this ⊢;rw [this];simp only [gv,List.length_cons,List.length_nil];omega
theorem B0 {X:Lx} {s:Sch} {t:Ty} (h:(knT X (tL s) t).1=0):uJ s t=true:=by
 obtain ⟨hd,ps⟩:=t;have:=(mI h).1;unfold uJ;exact decide_eq_true this
theorem Eb {s:Sch} (h:(loopF s).1=0):∀ i,i < s.types.length->∃ k,endI s (s.types.length + 1) i=some k:=by
 intro i hi;unfold loopF at h;split at h
 ·rename_i h1;have:=cg h1 i hi;simp only [Option.isNone_eq_false_iff] at this;exact Option.isSome_iff_exists.1 this
 ·cases h
end Go.Proofs.YtadhpeooehkklaaGreat
