/- Part 4 of the proof: Rules for the evaluator: a call that is handed the caller's first objects and rows; rows whose cells nobody else knows; lattice.best, and the closures of bounds; lattice.bounds: all joins and meets; lattice.Build; Reading a lattice: Len, has, Name, Find, Join, Meet, Bottom; labels.Of; The checker's part, once check is known for lighter types; The checker's parts, once check is known for lighter types; The checker's one and check, once check is known for lighter types; so check; kinds.Count, resolve.nodes; the builder's level; The builder's end, loops, known; The builder's each, right, called; The builder's each of right; called; places; The builder's places; The builder's edge; The builder's node; Steps of a region that draws its order, one by one; What resolve.Build says of a schema; lattices in which nothing is wrong. No condition. -/
import Derived.Test.YtadbccicdbopcaaGreatMg2
import Derived.Test.YtadbccicdbopcaaGreatMg3
set_option linter.all false
namespace Go.Proofs.YtadbccicdbopcaaGreat
namespace Dv
open Go Go.RowKit
section
variable {X:Ctx} {st:St} {k:List It} {E:En} {a:Act} {w:World}
def Wk (X:Ctx) (st st':St):Prop:=∀ E a w,Rel X E st a w->∃ E',Rel X E' st' a w
theorem Wk.refl (X:Ctx) (st:St):Wk X st st:=fun E _ _ h=>⟨E,h⟩
theorem Wk.trans {X:Ctx} {s1 s2 s3:St} (h1:Wk X s1 s2) (h2:Wk X s2 s3):Wk X s1 s3:=fun _ _ _ h=>by
 obtain ⟨E1,h3⟩:=h1 _ _ _ h;exact h2 _ _ _ h3
theorem Wk.weak {X:Ctx} {s1 s2:St} (h:Weak X.n0 X.m0 s1 s2):Wk X s1 s2:=fun _ _ _ hr=>weak_rel hr h
theorem calls_os {f:FuncId} {args args':List DV} {os:List (List DV)} (n1 m1:Nat) (hn1:Nat.ble n1 st.bx.length=true) (hm1:Nat.ble m1 st.tk.length=true)
  (hos:CcLL [] n1 n1 m1 os (st.bx.take n1)) (ha:CcL [] n1 n1 m1 args' args)
  {Φ:DV->List (List DV)->List TkE->Prop} (hc:Ev X.P f args' os (st.tk.take m1) Φ) (hst:X.still=false) (hX:X.bt=[]) {vs:List Value} (h:Rel X E st a w) (hv:RvL E args vs) :
  Calls X.P f vs.toArray w fun e w'=>∃ v r os' tk' E',e = .returned v/\Φ r os' tk' /\ os'.length=n1/\tk'.length=m1/\Rel X E' ⟨st.sl,os' ++ st.bx.drop n1,tk' ++ st.tk.drop m1⟩ a w' /\ Rv E' r v/\Ext E E' /\ E'.β=E.β /\
   ∀ (i:Nat) b,n1<=i->E.β[i]? = some b->w'.heap[b]? = w.heap[b]?:=by
 have hn1:=nL hn1;have hm1:=nL hm1;have hlen:=h.env.len;have htl:=h.env.tl;have htk:=h.tk;have htkl:E.tk.length=st.tk.length:=by rw [htk]
 let E1:En:=⟨E.c,E.β.take n1,E.tk.take m1,E.τ.take m1⟩
 have hfz:Frz E E1 [] n1:=⟨fun _ _ h=>h,fun i cs _ hi=>by simp at hi⟩
 have hlow:Low E E1 n1 m1:={
  β:=fun i b hi hb=>by show (E.β.take n1)[i]? = _;rw [List.getElem?_take,if_pos hi];exact hb
  tk:=fun k hk=>⟨by show (E.tk.take m1)[k]? = _;rw [List.getElem?_take,if_pos hk],by show (E.τ.take m1)[k]? = _;rw [List.getElem?_take,if_pos hk]⟩ }
 obtain ⟨hol,hog⟩:=hos.get;have hosl:os.length=n1:=by rw [hol,List.length_take];omega
 have hτg:∀ (j:Nat) y,(E.τ.take m1)[j]? = some y->j < m1/\E.τ[j]? = some y:=fun j y hy=>by
  rw [List.getElem?_take] at hy;split at hy
  ·rename_i hj;exact ⟨hj,hy⟩
  ·cases hy
 have hkg:∀ (j:Nat) q,(E.tk.take m1)[j]? = some q->j < m1/\E.tk[j]? = some q:=fun j y hy=>by
  rw [List.getElem?_take] at hy;split at hy
  ·rename_i hj;exact ⟨hj,hy⟩
  ·cases hy
 have hE1:Env E1 os w:={
  len:=by show (E.β.take n1).length=_;rw [List.length_take,hosl];omega
  tl:=by show (E.τ.take m1).length=(E.tk.take m1).length;rw [List.length_take,List.length_take,htl]
  bxs:=fun i cs' hi=>by
   obtain ⟨cs,hcs,hcc⟩:=hog i cs' hi;rw [List.getElem?_take] at hcs;split at hcs
   ·rename_i hlt;obtain ⟨b,ty,arr,hb,hw,hc⟩:=h.env.bxs i cs hcs;exact ⟨b,ty,arr,hlow.β i b hlt hb,hw,CcL.sound hfz hlow hcc hc.1,hc.2⟩
   ·cases hcs
  inj:=h.env.inj.sublist (List.take_sublist _ _)
  sub:=h.env.sub
  pc:=fun x v hx hm=>h.env.pc x v hx (List.mem_of_mem_take hm)
  tks:=fun j q y hq hy=>by
   obtain ⟨_,hq⟩:=hkg j q hq;obtain ⟨_,hy⟩:=hτg j y hy;rcases h.env.tks j q y hq hy with h1 | ⟨g,cap,cur,rfl,h1,h2,h3,h4,h5,h6⟩
   ·exact .inl h1
   ·exact .inr ⟨g,cap,cur,rfl,h1,h2,h3,h4,fun hm=>h5 (List.mem_of_mem_take hm),h6⟩
  tkd:=fun j j' y y' g hjj hy hy'=>h.env.tkd j j' y y' g hjj (hτg j y hy).2 (hτg j' y' hy').2 }
 refine (hc E1 w _ hE1 (by show E.tk.take m1=_;rw [htk]) (CcL.sound hfz hlow ha hv)).mono ?_;rintro e w' ⟨v,rfl,hm,_,r,os',E2,he,hβ,htk2,hn,hvd,hΦ⟩;have htk2:E2.tk.length=E1.tk.length:=htk2;have hE1t:E1.tk.length=m1:=by show (E.tk.take m1).length=_;rw [List.length_take];omega
 have hE1τ:E1.τ.length=m1:=by show (E.τ.take m1).length=_;rw [List.length_take];omega
 have hE1β:E1.β.length=n1:=by show (E.β.take n1).length=_;rw [List.length_take];omega
 rw [hE1t] at htk2;have hτ2:E2.τ.length=m1:=by rw [he.tl,htk2]
 have hos':os'.length=n1:=by rw [<- he.len,hβ,hE1β]
 have hS:∀ j,E1.S j->j∈E.β.take n1∨∃ i y,i < m1/\E.τ[i]? = some y/\y.ownBlock=some j:=fun j hj=>by
  rcases hj with h1 | ⟨y,h1,h2⟩
  ·exact .inl h1
  ·obtain ⟨i,hi,he⟩:=List.getElem_of_mem h1;have hi':E1.τ[i]? = some y:=by rw [gE hi,he]
   obtain ⟨h3,h4⟩:=hτg i y hi';exact .inr ⟨i,y,h3,h4,h2⟩
 have hh:∀ j,j < w.heap.size->¬ E1.S j->w'.heap[j]? = w.heap[j]?:=fun j hj hne=>hm.block j hj hne;have hown:∀ (i:Nat) y g,E.τ[i]? = some y->y.ownBlock=some g->g < w.heap.size/\g ∉ E.β:=fun i y g hy hg=>h.env.own (mG hy) hg
 have hnew:∀ x v,E2.c x=some v->E.c x=some v∨w.heap.size<=x.block∨∃ i y,i < m1/\E.τ[i]? = some y/\y.ownBlock=some x.block:=fun x v hx=>by
  rcases hn.cn x v hx with h1 | h1 | ⟨y,h1,h2⟩
  ·exact .inl h1
  ·exact .inr (.inl h1)
  ·obtain ⟨i,hi,he⟩:=List.getElem_of_mem h1;have hi':E1.τ[i]? = some y:=by rw [gE hi,he]
   obtain ⟨h3,h4⟩:=hτg i y hi';exact .inr (.inr ⟨i,y,h3,h4,h2⟩)
 have hrow:∀ (j:Nat) q,j < m1->E.tk[j]? = some q->∃ y q' y',E.τ[j]? = some y/\E2.tk[j]? = some q' /\ E2.τ[j]? = some y' /\ q.ty=q'.ty/\q.e=q'.e/\((q'.n=q.n/\y'=y)∨q.n < q'.n)/\(y'.ownBlock=y.ownBlock∨∀ g,y'.ownBlock=some g->w.heap.size<=g):=fun j q hj hq=>by
  have hjl:j < E.τ.length:=by rw [htl];omega
  obtain ⟨q',y',h1,h2,h3⟩:=hn.tk j q E.τ[j] (by show (E.tk.take m1)[j]? = _;rw [List.getElem?_take,if_pos hj];exact hq) (by show (E.τ.take m1)[j]? = _;rw [List.getElem?_take,if_pos hj,gE hjl]);exact ⟨_,q',y',gE hjl,h1,h2,h3⟩
 have hrow2:∀ (j:Nat) y',j < m1->E2.τ[j]? = some y' -> ∃ y,E.τ[j]? = some y/\(y'.ownBlock=y.ownBlock∨∀ g,y'.ownBlock=some g->w.heap.size<=g):=fun j y' hj hy=>by
  have hjl:j < E.tk.length:=by omega
  obtain ⟨y,q1,y1,h1,_,h3,_,_,_,h7⟩:=hrow j _ hj (gE hjl);rw [hy] at h3;simp only [oI] at h3;subst h3;exact ⟨y,h1,h7⟩
 let E':En:=⟨E2.c,E.β,E2.tk ++ E.tk.drop m1,E2.τ ++ E.τ.drop m1⟩
 have hk':∀ (j:Nat),m1<=j->E'.tk[j]? = E.tk[j]?:=fun j hj=>by
  show (E2.tk ++ E.tk.drop m1)[j]? = _;rw [List.getElem?_append_right (by omega),List.getElem?_drop,htk2];congr 1;omega
 have hτ':∀ (j:Nat),m1<=j->E'.τ[j]? = E.τ[j]?:=fun j hj=>by
  show (E2.τ ++ E.τ.drop m1)[j]? = _;rw [List.getElem?_append_right (by omega),List.getElem?_drop,hτ2];congr 1;omega
 have hk2:∀ (j:Nat),j < m1->E'.tk[j]? = E2.tk[j]?:=fun j hj=>by
  show (E2.tk ++ E.tk.drop m1)[j]? = _;rw [List.getElem?_append_left (by omega)]
 have hτ3:∀ (j:Nat),j < m1->E'.τ[j]? = E2.τ[j]?:=fun j hj=>by
  show (E2.τ ++ E.τ.drop m1)[j]? = _;rw [List.getElem?_append_left (by omega)]
 have hx:Ext E E':=⟨hn.c,fun _ _ h=>h,fun j q hq=>by
  rcases Nat.lt_or_ge j m1 with hj | hj
  ·obtain ⟨y,q',y',h1,h2,h3,_,_,h6,_⟩:=hrow j q hj hq;refine ⟨q',by rw [hk2 j hj];exact h2,?_⟩;rcases h6 with ⟨h6,rfl⟩ | h6
   ·exact .inl ⟨h6,by rw [hτ3 j hj,h3,h1]⟩
   ·exact .inr h6
  ·exact ⟨q,by rw [hk' j hj];exact hq,.inl ⟨rfl,hτ' j hj⟩⟩⟩
 have hx2:Ext E2 E':={
  c:=fun _ _ h=>h
  β:=fun j b hj=>by
   rw [hβ] at hj;have hj:(E.β.take n1)[j]? = some b:=hj;rw [List.getElem?_take] at hj;split at hj
   ·exact hj
   ·cases hj
  tk:=fun j q hq=>by
   have hj:j < m1:=by have:=(gS hq).1;omega
   exact ⟨q,by rw [hk2 j hj];exact hq,.inl ⟨rfl,hτ3 j hj⟩⟩ }
 have hrel:Rel X E' ⟨st.sl,os' ++ st.bx.drop n1,E2.tk ++ st.tk.drop m1⟩ a w':=by
  refine rel_env h hx ?_ (by show E2.tk ++ E.tk.drop m1=_;rw [htk]) ?_ (h.fr.trans_keep hm.os hm.tape hm.output hm.size fun j hj=>?_) (noSt hst) (.nil hX)
  ·exact {
    len:=by show E.β.length=_;rw [List.length_append,List.length_drop,hos',hlen];omega
    tl:=by show (E2.τ ++ E.τ.drop m1).length=(E2.tk ++ E.tk.drop m1).length;simp only [List.length_append,List.length_drop,hτ2,htk2,htl]
    bxs:=fun i cs0 hi=>by
     rcases Nat.lt_or_ge i n1 with hin | hin
     ·rw [List.getElem?_append_left (by omega)] at hi;obtain ⟨b2,ty2,arr2,hb2,hw2,hc2⟩:=he.bxs i cs0 hi;exact ⟨b2,ty2,arr2,hx2.β i b2 hb2,hw2,hc2.mono hx2⟩
     ·rw [List.getElem?_append_right (by omega),List.getElem?_drop,hos'] at hi;rw [show n1 + (i - n1)=i by omega] at hi;obtain ⟨bj,tyj,arrj,hbj,hwj,hcj⟩:=h.env.bxs i cs0 hi;refine ⟨bj,tyj,arrj,hbj,(hh bj (lt_of_blk hwj) ?_).trans hwj,hcj.mono hx⟩;intro hs;rcases hS bj hs with h1 | ⟨i',y,_,h2,h3⟩
      ·obtain ⟨i',hi',he'⟩:=List.getElem_of_mem h1;have h4:(E.β.take n1)[i']? = some bj:=by rw [gE hi',he']
       rw [List.getElem?_take] at h4;split at h4
       ·rename_i hlt;have:=(List.getElem?_inj (gS hbj).1 h.env.inj).1 (hbj.trans h4.symm);omega
       ·cases h4
      ·exact (hown i' y bj h2 h3).2 (mG hbj)
    inj:=h.env.inj
    sub:=he.sub
    pc:=fun x v hc hm'=>by
     rcases hnew x v hc with h1 | h1 | ⟨i,y,_,h2,h3⟩
     ·exact h.env.pc x v h1 hm'
     ·have:=h.env.block_lt hm';omega
     ·exact (hown i y _ h2 h3).2 hm'
    tks:=fun j q y hq hy=>by
     rcases Nat.lt_or_ge j m1 with hj | hj
     ·rw [hk2 j hj] at hq;rw [hτ3 j hj] at hy;rcases he.tks j q y hq hy with h1 | ⟨g,cap,cur,rfl,h1,h2,h3,h4,h5,h6⟩
      ·exact .inl h1
      ·refine .inr ⟨g,cap,cur,rfl,h1,h2,h3,h4,fun hm'=>?_,h6⟩;obtain ⟨y0,h7,h8⟩:=hrow2 j _ hj hy;rcases h8 with h8 | h8
       ·exact (hown j y0 g h7 (by rw [<- h8];rfl)).2 hm'
       ·have:=h8 g rfl;have:=h.env.block_lt hm';omega
     ·rw [hk' j hj] at hq;rw [hτ' j hj] at hy;rcases h.env.tks j q y hq hy with h1 | ⟨g,cap,cur,rfl,h1,h2,h3,h4,h5,h6⟩
      ·exact .inl h1
      ·have hne:∀ i y',i < m1->E.τ[i]? = some y' -> y'.ownBlock≠some g:=fun i y' hi hy'=>h.env.tkd j i _ y' g (by omega) hy hy' rfl
       have hns:¬ E1.S g:=fun hs=>by
        rcases hS g hs with h7 | ⟨i,y',h7,h8,h9⟩
        ·exact h5 (List.mem_of_mem_take h7)
        ·exact hne i y' h7 h8 h9
       refine .inr ⟨g,cap,cur,rfl,by rw [hh g (lt_of_blk h1) hns];exact h1,⟨h2.1,h2.2.mono hn.c⟩,h3,h4,h5,fun x v hc hg=>?_⟩
       ·rcases hnew x v hc with h7 | h7 | ⟨i,y',h7,h8,h9⟩
        ·exact h6 x v h7 hg
        ·have:=lt_of_blk h1;omega
        ·exact (hne i y' h7 h8 (by rw [h9,hg])).elim
    tkd:=fun j j' y y' g hjj hy hy' hg hg'=>by
     rcases Nat.lt_or_ge j m1 with hj | hj
     ·rw [hτ3 j hj] at hy;obtain ⟨y0,h7,h8⟩:=hrow2 j _ hj hy;rcases Nat.lt_or_ge j' m1 with hj' | hj'
      ·rw [hτ3 j' hj'] at hy';exact he.tkd j j' y y' g hjj hy hy' hg hg'
      ·rw [hτ' j' hj'] at hy';rcases h8 with h8 | h8
       ·exact h.env.tkd j j' y0 y' g hjj h7 hy' (by rw [<- h8];exact hg) hg'
       ·have:=h8 g hg;have:=(hown j' y' g hy' hg').1;omega
     ·rw [hτ' j hj] at hy;rcases Nat.lt_or_ge j' m1 with hj' | hj'
      ·rw [hτ3 j' hj'] at hy';obtain ⟨y0,h7,h8⟩:=hrow2 j' _ hj' hy';rcases h8 with h8 | h8
       ·exact h.env.tkd j j' y y0 g hjj hy h7 hg (by rw [<- h8];exact hg')
       ·have:=h8 g hg';have:=(hown j y g hy hg).1;omega
      ·rw [hτ' j' hj'] at hy'
       exact h.env.tkd j j' y y' g hjj hy hy' hg hg' }
  ·exact {
    c:=fun x v hc=>hn.c x v (h.nw.c x v hc)
    cn:=fun x v hc=>by
     rcases hnew x v hc with h1 | h1 | ⟨i,y,_,h2,h3⟩
     ·exact h.nw.cn x v h1
     ·have:=h.fr.size;exact .inr (.inl (by omega))
     ·rcases h.nw.own h2 h3 with h4 | h4
      ·exact .inr (.inr h4)
      ·exact .inr (.inl h4)
    β:=h.nw.β
    tk:=fun j q0 y0 hq0 hy0=>by
     obtain ⟨q1,y1,h1,h2,h3,h4,h5,h6⟩:=h.nw.tk j q0 y0 hq0 hy0;rcases Nat.lt_or_ge j m1 with hj | hj
     ·obtain ⟨y,q',y',g1,g2,g3,g4,g5,g6,g7⟩:=hrow j q1 hj h1;rw [h2] at g1;simp only [oI] at g1;subst g1;refine ⟨q',y',by rw [hk2 j hj];exact g2,by rw [hτ3 j hj];exact g3,h3.trans g4,h4.trans g5,?_,?_⟩
      ·rcases g6 with ⟨g6,rfl⟩ | g6
       ·rcases h5 with ⟨h5,rfl⟩ | h5
        ·exact .inl ⟨by omega,rfl⟩
        ·exact .inr (by omega)
       ·rcases h5 with ⟨h5,_⟩ | h5
        ·exact .inr (by omega)
        ·exact .inr (by omega)
      ·rcases g7 with g7 | g7
       ·rcases h6 with h6 | h6
        ·exact .inl (g7.trans h6)
        ·exact .inr fun g hg=>h6 g (by rw [<- g7];exact hg)
       ·refine .inr fun g hg=>?_;have:=g7 g hg;have:=h.fr.size;omega
     ·exact ⟨q1,y1,by rw [hk' j hj];exact h1,by rw [hτ' j hj];exact h2,h3,h4,h5,h6⟩
    tn:=fun j y g hj0 hy hg=>by
     rcases Nat.lt_or_ge j m1 with hj | hj
     ·rw [hτ3 j hj] at hy;obtain ⟨y0,h7,h8⟩:=hrow2 j _ hj hy;rcases h8 with h8 | h8
      ·exact h.nw.tn j y0 g hj0 h7 (by rw [<- h8];exact hg)
      ·have:=h8 g hg;have:=h.fr.size;omega
     ·rw [hτ' j hj] at hy;exact h.nw.tn j y g hj0 hy hg
    l0:=h.nw.l0 }
  ·by_cases hjs:E1.S j
   ·left;rcases hS j hjs with h1 | ⟨i,y,_,h2,h3⟩
    ·have hbm:=List.mem_of_mem_take h1;obtain ⟨r0,hr0,hl0⟩:=h.nw.β;rw [hr0] at hbm;rcases List.mem_append.1 hbm with hbm | hbm
     ·exact .inl (.inl hbm)
     ·exact .inr (hl0 j hbm)
    ·rcases h.nw.own h2 h3 with h4 | h4
     ·exact .inl (.inr h4)
     ·exact .inr h4
   ·exact .inr (hh j hj hjs)
 refine ⟨v,r,os',E2.tk,E',rfl,hΦ,hos',htk2,hrel,Rv.mono hx2 hvd,hx,rfl,fun i b hi hb=>?_⟩;refine hh b (h.env.block_lt (mG hb)) fun hs=>?_;rcases hS b hs with h1 | ⟨i',y,_,h2,h3⟩
 ·obtain ⟨i',hi',he'⟩:=List.getElem_of_mem h1;have h4:(E.β.take n1)[i']? = some b:=by rw [gE hi',he']
  rw [List.getElem?_take] at h4;split at h4
  ·rename_i hlt;have:=(List.getElem?_inj (gS hb).1 h.env.inj).1 (hb.trans h4.symm);omega
  ·cases h4
 ·exact (hown i' y b h2 h3).2 (mG hb)
theorem call_osw {f:FuncId} {args args':List DV} {os:List (List DV)} {d:Nat} (n1 m1:Nat) (hen:Enters X.P f) (hd:okD X.nt st.sl (some d)=true) (hn1:Nat.ble n1 st.bx.length=true) (hm1:Nat.ble m1 st.tk.length=true)
  (hos:CcLL [] n1 n1 m1 os (st.bx.take n1)) (ha:CcL [] n1 n1 m1 args' args)
  {Φ:DV->List (List DV)->List TkE->Prop} (hc:Ev X.P f args' os (st.tk.take m1) Φ)
  (hk:∀ r os' tk',Φ r os' tk' -> os'.length=n1->tk'.length=m1->∃ st',Wk X ⟨(d,⟨[],r⟩) :: st.sl,os' ++ st.bx.drop n1,tk' ++ st.tk.drop m1⟩ st' /\ go X 4000 k st') (hst:X.still=false:=by exact rfl) (hX:X.bt=[]:=by exact rfl):CallG X f args (some d) k st:=by
 refine ⟨hen,hst,fun E a w vs h hv=>(calls_os n1 m1 hn1 hm1 hos ha hc hst hX h hv).mono ?_⟩;rintro e w' ⟨v,r,os',tk',E',rfl,hΦ,hos',htk2,hrel,hrv,_,_,_⟩;obtain ⟨st',hwk,hgo⟩:=hk r os' tk' hΦ hos' htk2;obtain ⟨E3,hr3⟩:=hwk _ _ _ (put_rel hrel hd r v hrv);exact go_sound 4000 _ _ hgo E3 _ w' hr3
theorem call_os {f:FuncId} {args args':List DV} {os:List (List DV)} {d:Nat} (n1 m1:Nat) (hen:Enters X.P f) (hd:okD X.nt st.sl (some d)=true) (hn1:Nat.ble n1 st.bx.length=true) (hm1:Nat.ble m1 st.tk.length=true)
  (hos:CcLL [] n1 n1 m1 os (st.bx.take n1)) (ha:CcL [] n1 n1 m1 args' args)
  {Φ:DV->List (List DV)->List TkE->Prop} (hc:Ev X.P f args' os (st.tk.take m1) Φ)
  (hk:∀ r os' tk',Φ r os' tk' -> os'.length=n1->tk'.length=m1->go X 4000 k ⟨(d,⟨[],r⟩) :: st.sl,os' ++ st.bx.drop n1,tk' ++ st.tk.drop m1⟩) (hst:X.still=false:=by exact rfl) (hX:X.bt=[]:=by exact rfl):CallG X f args (some d) k st:=
 call_osw n1 m1 hen hd hn1 hm1 hos ha hc (fun r os' tk' h1 h2 h3=>⟨_,Wk.refl _ _,hk r os' tk' h1 h2 h3⟩) hst hX
theorem own_store {all:Array Oper} {o1 o2 o3:Oper} {r:List Oper} {d1 d2 kt t sT f off ft ty et e by' m ety nn:Nat} {bb:Bool} {zz:List Value} {z:Int} {kd:IntKind} {es:List (List DV)} {cs:List DV} {s ix x:Operand} {dv dv':DV}
  (h1:o1.op = .indexAddr t s ix/\o1.dst=some d1) (h2:o2.op = .fieldAddr sT (.tmp d1) f/\o2.dst=some d2/\o2.guard=none) (h3:o3.op = .store ty (.tmp d2) x/\o3.dst=none/\o3.guard=none)
  (hd1:okD X.nt st.sl (some d1)=true) (hd2:okD X.nt ((d1,⟨[],.pt [] 0⟩) :: st.sl) (some d2)=true)
  (hs:rv st [] s=some (.sl 0 es (some kt))) (hi:rv st [] ix=some (.v (.int kd z))) (hx:rv ⟨(d2,⟨[],.pt [] 0⟩) :: (d1,⟨[],.pt [] 0⟩) :: st.sl,st.bx,st.tk⟩ [] x=some dv) (hdv:eraD dv=some dv') (hdc:dv.cells=[dv])
  (hT:X.T.find t=some ⟨nn,bb,.sl et e by',zz⟩) (hoff:X.T.off sT f=some (off,ft)) (hsz:X.T.sz ty=some 1)
  (hq:st.tk[kt]? = some ⟨m,ety,e,some cs⟩) (hes:es.length=m) (hz:0<=z/\z < m) (hfit:off + 1<=e)
  (hk:go X 4000 (.ops all r :: k) ⟨(d2,⟨[],.pt [] 0⟩) :: (d1,⟨[],.pt [] 0⟩) :: st.sl,st.bx,st.tk.set kt ⟨m,ety,e,some (cs.set (z.toNat * e + off) dv')⟩⟩)
  (hst:X.still=false:=by exact rfl):OpG X o1 (.ops all (o2 :: o3 :: r) :: k) st:=by
 intro E a w h;have hrl:=h.rl;have e1:=sl_val hrl hs;have e2:=rv_int_eq (sl_val hrl hi);unfold Rv at e1;obtain ⟨bs,ns,caps,e1,⟨hns,hsc⟩,hsr,hstk⟩:=e1;subst hns;obtain ⟨q',hq',_,hτk⟩:=hstk kt rfl;have hq2:E.tk[kt]? = some ⟨m,ety,e,some cs⟩:=by rw [h.tk];exact hq
 rw [hq2] at hq';simp only [oI] at hq';subst hq';have hy:=hτk hes;rw [e1,hes] at hy;rw [hes] at e1;have hot:=h.env.tks kt _ _ hq2 hy;rcases hot with ⟨hv0,hn0,_⟩ | ⟨g,cap,cur,hv0,hw0,⟨hs0,hown0⟩,hnc0,hcm0,hb0,hc0⟩
 ·simp only at hn0;omega
 injection hv0 with i1 i2 i3
 subst i1 i3;obtain ⟨hu,ii,zv,hi2,_,hsz2,_,_⟩:=und_sl X.hT hT;have hsz':szOf X.P et=some e:=by rw [size_of_info hi2,hsz2]
 have hrun1:(execOp a.eval o1).run X.P w = .ok (.value (.pointer (some ⟨g,z.toNat * e,none⟩))) w:=by
  have hrun:(Instr.indexAt t (.slice (some ⟨g,0,none⟩) m caps) (.int kd z)).run X.P w = .ok (.pointer (some ⟨g,z.toNat * e,none⟩)) w:=by
   simp [Instr.indexAt,asIntOf,run_underlying hu,hz.1,hz.2,run_sizeOf' hsz',Addr.add_lit]
  simp only [execOp,h1.1,e1,e2,Sem.run_bind,hrun,Result.andThen_ok,Sem.run_pure]
 refine wp_value hrun1 ?_;rw [h1.2];have hr1:Rel X E ⟨(d1,⟨[],.pt [] 0⟩) :: st.sl,st.bx,st.tk⟩ (a.put (some d1) (.pointer (some ⟨g,z.toNat * e,none⟩))) w:=put_rel h hd1 (.pt [] 0) _ (by unfold Rv;exact ⟨g,z.toNat * e,rfl,by simp only [RvAt]⟩);generalize ha1:a.put (some d1) (.pointer (some ⟨g,z.toNat * e,none⟩))=a1 at hr1
 have ht1:a1.eval (.tmp d1) = .pointer (some ⟨g,z.toNat * e,none⟩):=by
  subst ha1;simp only [okD,Bool.and_eq_true,Nat.blt_eq] at hd1;simp [Act.eval,Act.put,h.sz,hd1.1]
 show kq X (.ops all (o2 :: o3 :: r) :: k) .normal a1 w;simp only [kq,wpList,Region.wanted,h2.2.2,h3.2.2,if_true];refine .inl (wp_value (v:=.pointer (some ⟨g,z.toNat * e + off,none⟩)) (w':=w) ?_ ?_)
 ·simp only [execOp,h2.1,ht1,Sem.run_bind,run_fieldAt' (off_ok X.hT hoff),Result.andThen_ok,Sem.run_pure]
 rw [h2.2.1];have hr2:Rel X E ⟨(d2,⟨[],.pt [] 0⟩) :: (d1,⟨[],.pt [] 0⟩) :: st.sl,st.bx,st.tk⟩ (a1.put (some d2) (.pointer (some ⟨g,z.toNat * e + off,none⟩))) w:=put_rel hr1 hd2 (.pt [] 0) _ (by unfold Rv;exact ⟨g,z.toNat * e + off,rfl,by simp only [RvAt]⟩);generalize ha2:a1.put (some d2) (.pointer (some ⟨g,z.toNat * e + off,none⟩))=a2 at hr2
 have ht2:a2.eval (.tmp d2) = .pointer (some ⟨g,z.toNat * e + off,none⟩):=by
  subst ha2;simp only [okD,Bool.and_eq_true,Nat.blt_eq] at hd2;simp [Act.eval,Act.put,hr1.sz,hd2.1]
 have e3:=sl_val hr2.rl hx
 have hcl:RvC E [dv] (a2.eval x).cells.toList:=by
  have:=e3.cells (fills_len (n:=1) (by rw [hdc];rfl) (by omega))
  rwa [hdc] at this
 have hvl:(a2.eval x).cells.toList.length=1:=by rw [hcl.1.length];all_goals rfl
 obtain ⟨xv,hxv⟩:∃ xv,(a2.eval x).cells.toList=[xv]:=by
  match hh:(a2.eval x).cells.toList,hvl with
  | [y],_=>exact ⟨y,rfl⟩
 obtain ⟨h5,h6⟩:=hown0 cs rfl;simp only at h5 h6 hs0 hw0 hnc0;have hcurl:cur.toList.length=caps * e:=by simpa using hs0
 have hme:m * e<=caps * e:=Nat.mul_le_mul_right _ hnc0
 have hpos:z.toNat * e + off + 1<=m * e:=by
  have:(z.toNat + 1) * e<=m * e:=Nat.mul_le_mul_right _ (by omega);rw [Nat.add_mul] at this;omega
 have hsv:=storeVar_blk (P:=X.P) (t:=ty) (off:=z.toNat * e + off) (n:=1) hw0 (sz_ok X.hT hsz) hvl (by rw [hs0];omega) (List.all_eq_true.2 hcl.2);refine .inl (wp_unit (w':=World.setBlk w g (.cells ((cur.toList.take (z.toNat * e + off) ++ (a2.eval x).cells.toList ++ cur.toList.drop (z.toNat * e + off + 1)).toArray) ety (0,0))) ?_ ?_)
 ·simp only [execOp,h3.1,ht2,Instr.storeAt,Instr.sureAddr,Sem.run_bind,Sem.run_pure,Result.andThen_ok,hsv]
 rw [h3.2.1]
 have hset:cur.toList.take (z.toNat * e + off) ++ (a2.eval x).cells.toList ++ cur.toList.drop (z.toNat * e + off + 1)=cur.toList.set (z.toNat * e + off) xv:=by
  rw [hxv,List.set_eq_take_append_cons_drop,if_pos (by omega)];simp
 rw [hset]
 have hx1:RvC E.cl [dv'] [xv]:=by
  rw [hxv] at hcl;have h7:=hcl.1;simp only [RvL] at h7;obtain ⟨v,s',h8,h9,h10⟩:=h7;simp only [List.cons.injEq] at h8;obtain ⟨rfl,rfl⟩:=h8;exact ⟨rvL_cons (eraD_sound hdv h9) (by simp only [RvL]),hcl.2⟩
 have hat:TkAt (World.setBlk w g (.cells (cur.toList.set (z.toNat * e + off) xv).toArray ety (0,0))) E.c E.β ⟨m,ety,e,some (cs.set (z.toNat * e + off) dv')⟩ (.slice (some ⟨g,0,none⟩) m caps):=by
  refine .inr ⟨g,caps,_,rfl,setBlk_same hw0,⟨by simpa using hcurl,fun cs' hc'=>?_⟩,hnc0,hcm0,hb0,hc0⟩;simp only [oI] at hc';subst hc';simp only;refine ⟨by rw [List.length_set];exact h5,?_⟩;rw [List.take_set];have hlt:z.toNat * e + off < (cur.toList.take (m * e)).length:=by rw [List.length_take];omega
  rw [List.set_eq_take_append_cons_drop,if_pos (by omega),List.set_eq_take_append_cons_drop,if_pos hlt];have h8:=(RvC.take (z.toNat * e + off) h6).append (RvC.append hx1 (RvC.drop (z.toNat * e + off + 1) h6));simpa using h8
 have hso:some g≠some g->False:=fun h=>h rfl
 obtain ⟨hrel,hext⟩:=own_rel (q':=⟨m,ety,e,some (cs.set (z.toNat * e + off) dv')⟩) (w':=World.setBlk w g (.cells (cur.toList.set (z.toNat * e + off) xv).toArray ety (0,0))) hr2 hst hq2 hy rfl rfl rfl (.inl ⟨rfl,rfl⟩) hat (.inl rfl) rfl rfl rfl (by rw [setBlk_size];exact Nat.le_refl _) (fun j _ hne=>setBlk_other (by
  rintro rfl
  exact hne rfl))
 exact go_sound 4000 _ _ hk _ _ _ hrel
open Classical in
noncomputable def ownC (E:En) (w:World) (y:Value) (n:Nat):Addr->Option Value:=
 fun x=>if y.ownBlock=some x.block/\x.spot=none/\x.off < n then w.cell? x else E.c x
theorem ownC_cases {y:Value} {n:Nat} {x:Addr} {v:Value} (h:ownC E w y n x=some v):(y.ownBlock=some x.block/\x.spot=none/\x.off < n/\w.cell? x=some v)∨E.c x=some v:=by
 unfold ownC at h;split at h
 ·rename_i hc;exact .inl ⟨hc.1,hc.2.1,hc.2.2,h⟩
 ·exact .inr h
theorem own_frz (h:Rel X E st a w) {k n ty e:Nat} {cs:List DV} {ns:List (List DV)} (hq:st.tk[k]? = some ⟨n,ty,e,some cs⟩) (hcs:cs=ns.flatten) (hns:∀ x∈ns,x.length=e) (hnl:ns.length=n) :
  ∃ E',Rel X E' ⟨st.sl,st.bx,st.tk.set k ⟨n,ty,e,none⟩⟩ a w/\Ext E E' /\ ∀ es y,es.length=n->Rv E (.sl 0 es (some k)) y->Rv E' (.sl e ns (some k)) y:=by
 subst hcs;have hq2:E.tk[k]? = some ⟨n,ty,e,some ns.flatten⟩:=by rw [h.tk];exact hq
 have hkt:=(gS hq2).1;have hkτ:k < E.τ.length:=by rw [h.env.tl];exact hkt
 have hv:E.τ[k]? = some E.τ[k]:=gE hkτ;generalize E.τ[k]=v at hv;have hot:=h.env.tks k _ v hq2 hv
 have hle:∀ x u,E.c x=some u->ownC E w v (n * e) x=some u:=fun x u hx=>by
  unfold ownC;split
  ·exact h.env.sub x u hx
  ·exact hx
 have hext:Ext E ⟨ownC E w v (n * e),E.β,E.tk.set k ⟨n,ty,e,none⟩,E.τ⟩:=⟨hle,fun _ _ h=>h,fun j q hqj=>by
  by_cases hj:j=k
  ·subst hj;rw [hq2] at hqj;simp only [oI] at hqj;subst hqj;exact ⟨_,List.getElem?_set_self hkt,.inl ⟨rfl,rfl⟩⟩
  ·exact ⟨q,by rw [List.getElem?_set_ne (Ne.symm hj)];exact hqj,.inl ⟨rfl,rfl⟩⟩⟩
 refine ⟨⟨ownC E w v (n * e),E.β,E.tk.set k ⟨n,ty,e,none⟩,E.τ⟩,rel_env h hext ?_ (by rw [h.tk]) ?_ h.fr h.sh h.bt,hext,?_⟩
 ·exact {
   len:=h.env.len
   tl:=by simp only [List.length_set];exact h.env.tl
   bxs:=fun i cs hi=>by
    obtain ⟨b,t,arr,hb,hw,hc⟩:=h.env.bxs i cs hi;exact ⟨b,t,arr,hb,hw,hc.mono hext⟩
   inj:=h.env.inj
   sub:=fun x u hx=>by
    rcases ownC_cases hx with ⟨_,_,_,h1⟩ | h1
    ·exact h1
    ·exact h.env.sub x u h1
   pc:=fun x u hx hm=>by
    rcases ownC_cases hx with ⟨h1,_⟩ | h1
    ·exact (own_at hot h1).2 hm
    ·exact h.env.pc x u h1 hm
   tks:=fun j q y hj hy=>by
    by_cases hjk:j=k
    ·subst hjk;have hj':(E.tk.set j ⟨n,ty,e,none⟩)[j]? = some q:=hj;rw [List.getElem?_set_self hkt] at hj';have hy':E.τ[j]? = some y:=hy;rw [hv] at hy';simp only [oI] at hj' hy';subst hj' hy';rcases hot with ⟨h1,h2,_⟩ | ⟨g,cap,cur,rfl,h1,h2,h3,h4,h5,h6⟩
     ·exact .inl ⟨h1,h2,fun cs hc=>by cases hc⟩
     ·refine .inr ⟨g,cap,cur,rfl,h1,⟨h2.1,OwnAt.none rfl⟩,h3,h4,h5,fun x u hx hxg=>?_⟩;rcases ownC_cases hx with ⟨_,_,h7,_⟩ | h7
      ·exact h7
      ·have:=h6 x u h7 hxg;simp only [TkE.kn] at this;omega
    ·have hj':E.tk[j]? = some q:=by
      have:(E.tk.set k ⟨n,ty,e,none⟩)[j]? = some q:=hj
      rwa [List.getElem?_set_ne (Ne.symm hjk)] at this
     rcases h.env.tks j q y hj' hy with h1 | ⟨g,cap,cur,rfl,h1,h2,h3,h4,h5,h6⟩
     ·exact .inl h1
     ·refine .inr ⟨g,cap,cur,rfl,h1,⟨h2.1,h2.2.mono hle⟩,h3,h4,h5,fun x u hx hxg=>?_⟩;rcases ownC_cases hx with ⟨h7,_⟩ | h7
      ·exact (h.env.tkd j k _ v g hjk hy hv rfl (by rw [h7,hxg])).elim
      ·exact h6 x u h7 hxg
   tkd:=h.env.tkd }
 ·exact {
   c:=fun x u hx=>hle x u (h.nw.c x u hx)
   cn:=fun x u hx=>by
    rcases ownC_cases hx with ⟨h1,_⟩ | h1
    ·rcases h.nw.own hv h1 with h2 | h2
     ·exact .inr (.inr h2)
     ·exact .inr (.inl h2)
    ·exact h.nw.cn x u h1
   β:=h.nw.β
   tk:=fun j q0 y0 hq0 hy0=>by
    obtain ⟨q1,y1,h1,h2,h3,h4,h5,h6⟩:=h.nw.tk j q0 y0 hq0 hy0;by_cases hj:j=k
    ·subst hj;rw [hq2] at h1;simp only [oI] at h1;subst h1;exact ⟨_,y1,List.getElem?_set_self hkt,h2,h3,h4,h5,h6⟩
    ·exact ⟨q1,y1,by rw [List.getElem?_set_ne (Ne.symm hj)];exact h1,h2,h3,h4,h5,h6⟩
   tn:=fun j y g hj hy=>h.nw.tn j y g hj hy
   l0:=h.nw.l0 }
 ·intro es y hes hy;unfold Rv at hy ⊢;obtain ⟨b,m,cap,rfl,⟨rfl,hmc⟩,hr,hst⟩:=hy;obtain ⟨q',hq',_,hτ⟩:=hst k rfl;rw [hq2] at hq';simp only [oI] at hq';subst hq';have hy:=hτ hes;rw [hv] at hy;simp only [oI] at hy;subst hy;refine ⟨b,es.length,cap,rfl,⟨by omega,hmc⟩,fun hne=>?_,fun k' hk'=>?_⟩
  ·rcases hot with ⟨h1,h2,h3⟩ | ⟨g,cap',cur,h0,h1,h2,h3,h4,h5,h6⟩
   ·simp only at h2;exact (hne (List.eq_nil_of_length_eq_zero (by omega))).elim
   ·injection h0 with i1 i2 i3
    subst i1;refine ⟨rfl,?_⟩;obtain ⟨h7,h8⟩:=h2.2 _ rfl;refine rvEs_flat (h8.mono (E:=⟨E.c,[],[],[]⟩) ⟨hle,fun _ _ h=>by simp at h,fun _ _ h=>by simp at h⟩) hns fun j u hj=>?_;rw [List.getElem?_take] at hj;split at hj
    ·rename_i hjl;show ownC E w _ (n * e) _=_;unfold ownC;rw [if_pos ⟨rfl,rfl,by simpa [ao] using hjl⟩];simp only [ab,ao,Nat.zero_add];rw [cell_blk h1];simpa using hj
    ·cases hj
  ·cases hk';exact ⟨_,List.getElem?_set_self hkt,by simp only;omega,fun _=>hv⟩
theorem wk_own {j o k n ty e:Nat} {ocs:List DV} {es ns:List (List DV)} (hq:st.tk[k]? = some ⟨n,ty,e,some ns.flatten⟩) (hns:∀ x∈ns,x.length=e) (hnl:ns.length=n) (hj:st.bx[j]? = some ocs) (ho:ocs[o]? = some (.sl 0 es (some k))) (hes:es.length=n) :
  Wk X st ⟨st.sl,st.bx.set j (ocs.set o (.sl e ns none)),st.tk.set k ⟨n,ty,e,none⟩⟩:=by
 intro E a w h;obtain ⟨E',hr,hx,hrow⟩:=own_frz h hq rfl hns hnl;refine ⟨E',{ hr with env:=?_ }⟩
 exact { hr.env with
  len:=by simp only [List.length_set];exact hr.env.len
  bxs:=fun i cs' hi=>by
   by_cases hij:i=j
   ·subst hij;have hlt:=(gS hj).1;have hi':(st.bx.set i (ocs.set o (.sl e ns none)))[i]? = some cs':=hi;rw [List.getElem?_set_self hlt] at hi';simp only [oI] at hi';subst hi';obtain ⟨b,t,arr,hb,hw,hc⟩:=hr.env.bxs i ocs hj;obtain ⟨b0,t0,arr0,hb0,hw0,hc0⟩:=h.env.bxs i ocs hj;have hb1:=hx.β i b0 hb0;rw [hb] at hb1;simp only [oI] at hb1;subst hb1;rw [hw] at hw0;simp only [oI,Obj.cells.injEq] at hw0
    have harr:arr=arr0:=by
     have:=hw0.1;simpa using this
    subst harr;refine ⟨b,t,arr,hb,hw,?_,hc.2⟩;obtain ⟨v,hv1,hv2⟩:=hc0.1.get ho;have hrv:=hrow es v hes hv2;have hol:=(gS ho).1;have hal:arr.length=ocs.length:=hc.1.length
    have h1:=(RvL.take o hc.1).append (rvL_cons (d:=.sl e ns none) (v:=v) (by
     unfold Rv at hrv ⊢;obtain ⟨b,n,cap,g1,g2,g3,_⟩:=hrv
     exact ⟨b,n,cap,g1,g2,g3,fun k hk=>by cases hk⟩) (RvL.drop (o + 1) hc.1))
    rw [List.set_eq_take_append_cons_drop,if_pos hol]
    have h2:arr.take o ++ v :: arr.drop (o + 1)=arr:=by
     have hoa:o < arr.length:=by omega
     have:arr[o]=v:=by
      rw [gE hoa] at hv1;simpa using hv1
     rw [<- this];simp
    rwa [h2] at h1
   ·have hi':(st.bx.set j (ocs.set o (.sl e ns none)))[i]? = some cs':=hi;rw [List.getElem?_set_ne (Ne.symm hij)] at hi'
    exact hr.env.bxs i cs' hi' }
theorem Wk.ren (i j:Nat) (S S':St) (he:S'=renSt i j S) (hi0:Nat.ble X.n0 i=true) (hj0:Nat.ble X.n0 j=true) (hi:Nat.blt i S.bx.length=true) (hj:Nat.blt j S.bx.length=true) (hX:X.bt=[]:=by exact rfl):Wk X S' S:=fun E a w h=>by
 subst he;simp only [Nat.blt_eq] at hi hj;exact ren_rel hX h (nL hi0) (nL hj0) hi hj
theorem loop_w {c:Code} (I:Nat->St->Prop) (j0:Nat) (st0:St) (hw:Wk X st st0) (h0:I j0 st0)
  (hr:∀ j s,I j s->go X 4000 (.code c :: .rnd (fun s'=>∃ s'',Wk X s' s'' /\ ∃ j',j' < j/\I j' s'') :: k) s):LoopG X c k st:=by
 intro E a w h;obtain ⟨E0,hr0⟩:=hw _ _ _ h
 classical
 let Inv:Act->World->Prop:=fun a w=>∃ j s E,Rel X E s a w/\I j s
 let μ:Act->World->Nat:=fun a w=>if hI:Inv a w then Classical.choose (least hI) else 0
 refine wp_loop Inv μ ⟨j0,st0,E0,hr0,h0⟩ ?_;intro a1 w1 hI;have hfind:=(Classical.choose_spec (least hI)).1;obtain ⟨s,E1,hrel,hIs⟩:=hfind;have hs:=go_sound 4000 _ _ (hr _ s hIs) E1 a1 w1 hrel;rw [kq_code_normal] at hs;refine wp_mono hs ?_;intro e a2 w2 hq
 cases e with
 | normal=>
  obtain ⟨s',E2,hrel2,s'',hwk,j',hj',hI'⟩:=hq;obtain ⟨E3,hrel3⟩:=hwk _ _ _ hrel2;have hI2:Inv a2 w2:=⟨j',s'',E3,hrel3,hI'⟩;refine ⟨hI2,?_⟩;simp only [μ,dif_pos hI,dif_pos hI2];exact Nat.lt_of_le_of_lt ((Classical.choose_spec (least hI2)).2 j' ⟨s'',E3,hrel3,hI'⟩) hj'
 | exit id=>exact hq
 | goto l=>exact hq
 | ret=>exact hq
 | panic c=>exact hq
 | outgrown=>exact hq
mutual
def flatD:DV->Bool
 | .v _=>true
 | .agg l=>flatL l
 | .tup l=>flatL l
 | _=>false
def flatL:List DV->Bool
 | []=>true
 | d :: r=>flatD d && flatL r
end
mutual
theorem Rv.flat {E E':En}:∀ {d:DV} {v:Value},flatD d=true->Rv E d v->Rv E' d v
 | .v x,v,_,h=>by unfold Rv at h ⊢;exact h
 | .agg l,v,hf,h=>by
  simp only [flatD] at hf;simp only [Rv] at h ⊢;obtain ⟨vs,h1,h2,h3⟩:=h;exact ⟨vs,h1,RvL.flat hf h2,h3⟩
 | .tup l,v,hf,h=>by
  simp only [flatD] at hf;simp only [Rv] at h ⊢;obtain ⟨vs,h1,h2⟩:=h;exact ⟨vs,h1,RvL.flat hf h2⟩
 | .ud,_,hf,_=>by simp [flatD] at hf
 | .sl _ _ _,_,hf,_=>by simp [flatD] at hf
 | .pt _ _,_,hf,_=>by simp [flatD] at hf
 | .loc _ _,_,hf,_=>by simp [flatD] at hf
 | .el _ _,_,hf,_=>by simp [flatD] at hf
 | .ms _ _ _ _ _,_,hf,_=>by simp [flatD] at hf
 | .fn _ _ _,_,hf,_=>by simp [flatD] at hf
 | .ifc _ _,_,hf,_=>by simp [flatD] at hf
theorem RvL.flat {E E':En}:∀ {l:List DV} {vs:List Value},flatL l=true->RvL E l vs->RvL E' l vs
 | [],vs,_,h=>by simpa only [RvL] using h
 | d :: r,vs,hf,h=>by
  simp only [flatL,Bool.and_eq_true] at hf;simp only [RvL] at h ⊢;obtain ⟨v,s,h1,h2,h3⟩:=h;exact ⟨v,s,h1,Rv.flat hf.1 h2,RvL.flat hf.2 h3⟩
end
theorem call_bf {f:FuncId} {args args':List DV} {d:Nat} {y:DV} (hen:Enters X.P f) (hc:EvP X.P f args' y) (ha:CcL st.bx 0 0 0 args' args) (hy:flatD y=true) (hd:okD X.nt st.sl (some d)=true)
  (hk:go X 4000 k ⟨(d,⟨[],y⟩) :: st.sl,st.bx,st.tk⟩) (hst:X.still=false:=by exact rfl):CallG X f args (some d) k st:=by
 refine ⟨hen,hst,fun E a w vs h hv=>(calls_borrow h.env hc ha hv).mono ?_⟩;rintro e w' ⟨v,E2,rfl,hr,hm,_⟩;have hh:∀ i,i < w.heap.size->w'.heap[i]? = w.heap[i]?:=fun i hi=>hm.block i hi (fun h=>h);have hrel:Rel X E st a w':=rel_env h (Ext.refl E) (h.env.keep hh) h.tk h.nw (h.fr.trans_keep hm.os hm.tape hm.output hm.size fun i hi=>.inr (hh i hi)) (noSt hst) (h.bt.keep fun b hb=>hh b (h.env.block_lt hb));exact go_sound 4000 _ _ hk E _ w' (put_rel hrel hd y v (Rv.flat hy hr))
theorem callD_b {D:Dr} {c:Bool} {i:Nat} {s0:List (Nat × Sl)} {f:FuncId} {args args':List DV} {d:Nat} {y:DV} {r:List (Nat × Oper)} (hen:Enters X.P f) (hc:EvP X.P f args' y) (ha:CcL st.bx 0 0 0 args' args) (hy:flatD y=true) (hd:(okD X.nt st.sl (some d) && okD X.nt s0 (some d))=true)
  (hk:put2 s0 st (some d) true [] y (goD X D 3000 c r)) (hst:X.still=false:=by exact rfl):CallD X D c i r f args (some d) s0 st:=by
 refine ⟨hen,fun hl E0 wr hD E a w vs h hv=>(calls_borrow h.rel.env hc ha hv).mono ?_⟩;rintro e w' ⟨v,E2,rfl,hr,hm,_⟩;have hh:∀ i,i < w.heap.size->w'.heap[i]? = w.heap[i]?:=fun i hi=>hm.block i hi (fun h=>h);have hrel:Rel X E st a w':=rel_env h.rel (Ext.refl E) (h.rel.env.keep hh) h.rel.tk h.rel.nw (h.rel.fr.trans_keep hm.os hm.tape hm.output hm.size fun i hi=>.inr (hh i hi)) (noSt hst) (h.rel.bt.keep fun b hb=>hh b (h.rel.env.block_lt hb));have hs:Stp none E w E w':=⟨Ext.refl E,⟨[],by simp⟩,fun j b hb _=>hh b (h.rel.env.block_lt (mG hb))⟩;have hC:=stp_C h hs hrel (fun j hj=>by cases hj);refine ⟨v,rfl,fun _=>hC,?_⟩;have hrelD:RelD X ⟨D,E0,wr⟩ c E s0 st (a.put none v) w':=stp_relD h hs hrel (fun h1=>hC (h.cc h1)) (fun i x hx=>.inr ⟨hx,fun d hd=>by cases hd⟩) rfl;obtain ⟨s1,st1,hk1,hrel1⟩:=put2_rel hrelD hd true [] y v (fun _ _ p hp=>by cases hp) (fun _=>Rv.flat hy hr) (fun _ _=>Rv.flat hy hr) (fun hn=>(hn (holds_nil _)).elim) hk;exact goD_sound (D:=⟨D,E0,wr⟩) hD 3000 c r _ _ hk1 hl E _ w' hrel1
theorem CallG.ren {S:St} {f:FuncId} {args args':List DV} {dst:Option Nat} (i j:Nat) (hS:st=renSt i j S) (ha:args=renL (swp i j) args') (hi0:Nat.ble X.n0 i=true) (hj0:Nat.ble X.n0 j=true) (hi:Nat.blt i S.bx.length=true) (hj:Nat.blt j S.bx.length=true)
  (h:CallG X f args' dst k S) (hX:X.bt=[]:=by exact rfl):CallG X f args dst k st:=by
 subst hS ha;simp only [Nat.blt_eq] at hi hj;refine ⟨h.1,h.2.1,fun E a w vs hr hv=>?_⟩
 have hlen:E.β.length=S.bx.length:=by
  rw [hr.env.len];simp only [renSt,swL_length,renO_length]
 exact h.2.2 _ a w vs (ren_relE hX hr (nL hi0) (nL hj0) hi hj) (RvL.ren (by rw [hlen];exact hi) (by rw [hlen];exact hj) hv)
end
end Dv
end Go.Proofs.YtadbccicdbopcaaGreat
set_option maxRecDepth 100000
namespace Go.Proofs.YtadbccicdbopcaaGreat
open Go Go.RowKit Dv Tryz
def cZ (l:List Int):List DV:=l.map fun z=>DV.v (.int .i64 z)
def dLt (names:List ByteArray) (tb lq:DV) (js:List Int):List DV:=.sl 1 (dBs names) none :: tb :: lq :: cZ js
def oz:Option Nat->Int
 | none=>-1
 | some k=>(k:Int)
def bestC (pb:Nat->Nat->Bool) (e:Nat):Option Nat->Bool
 | none=>true
 | some o=>pb e o
def bestA (pin:Nat->Bool) (pb:Nat->Nat->Bool):Nat->Option Nat
 | 0=>none
 | e + 1=>if pin e && bestC pb e (bestA pin pb e) then some e else bestA pin pb e
def bestN (pin:Nat->Bool) (pb:Nat->Nat->Bool) (n:Nat):Option Nat:=
 match bestA pin pb n with
 | none=>none
 | some o=>if (List.range n).any (fun c=>pin c && !pb o c) then none else some o
theorem bestA_lt {pin:Nat->Bool} {pb:Nat->Nat->Bool}:∀ {e k:Nat},bestA pin pb e=some k->k < e
 | 0,k,h=>by cases h
 | e + 1,k,h=>by
  rw [bestA] at h;split at h
  ·simp only [oI] at h;omega
  ·have:=bestA_lt h;omega
theorem bnd1_spec (names:List ByteArray) (tb:DV) (rows:List Nat) (js:List Int) (hr:RelOK rows) (a b:Nat) (ha:a < rows.length) (hb:b < rows.length) :
  EvP Tryz.prog 306 [.v (.int .i64 a),.v (.int .i64 b),.pt [.pt (dLt names tb (dRel rows) js) 0] 0] (.v (.bool (bitB rows a b))):=by
 have h1:=rhas_spec rows hr a b;rw [hasB_nat ha hb] at h1;refine ev_go (P:=Tryz.prog) tt tt_ok 5000 13 [.tmp 5] Tryz.func306 rfl Tryz.ntmps306 rfl (nL rfl) (fun E9 w9 hn9 hm9=>?_);refine call_p en285 (h1) ax rfl ?_;exact (rfl:_=_)
theorem bnd2_spec (names:List ByteArray) (tb:DV) (rows:List Nat) (js:List Int) (hr:RelOK rows) (a b:Nat) (ha:a < rows.length) (hb:b < rows.length) :
  EvP Tryz.prog 307 [.v (.int .i64 a),.v (.int .i64 b),.pt [.pt (dLt names tb (dRel rows) js) 0] 0] (.v (.bool (bitB rows b a))):=by
 have h1:=rhas_spec rows hr b a;rw [hasB_nat hb ha] at h1;refine ev_go (P:=Tryz.prog) tt tt_ok 5000 13 [.tmp 5] Tryz.func307 rfl Tryz.ntmps307 rfl (nL rfl) (fun E9 w9 hn9 hm9=>?_);refine call_p en285 (h1) ax rfl ?_;exact (rfl:_=_)
abbrev bnd1F (L:List DV):DV:=.fn 306 [] [.pt [.pt L 0] 0]
abbrev bnd2F (L:List DV):DV:=.fn 307 [] [.pt [.pt L 0] 0]
theorem bnd3_spec (names:List ByteArray) (tb:DV) (rows:List Nat) (js:List Int) (hr:RelOK rows) (a b c:Nat) (ha:a < rows.length) (hb:b < rows.length) (hc:c < rows.length) :
  EvP Tryz.prog 309 [.v (.int .i64 c),.pt [bnd1F (dLt names tb (dRel rows) js)] 0,.pt [.v (.int .i64 a)] 0,.pt [.v (.int .i64 b)] 0] (.v (.bool (bitB rows a c && bitB rows b c))):=by
 have h1:=bnd1_spec names tb rows js hr a c ha hc;have h2:=bnd1_spec names tb rows js hr b c hb hc;refine ev_go (P:=Tryz.prog) tt tt_ok 5000 16 [.tmp 5] Tryz.func309 rfl Tryz.ntmps309 rfl (nL rfl) (fun E9 w9 hn9 hm9=>?_);refine call_p en306 (h1) ax rfl ?_;refine br (fun g=>?_) (fun g=>?_)
 ·have g:bitB rows a c=true:=by simpa using g
  refine call_p en306 (h2) ax rfl ?_;refine (congrArg (fun b=>DV.v (.bool b)) ?_:_=_);simp [g,pickB]
 ·have g:bitB rows a c=false:=by simpa using g
  refine (congrArg (fun b=>DV.v (.bool b)) ?_:_=_);simp [g,pickB]
theorem bnd4_spec (names:List ByteArray) (tb:DV) (rows:List Nat) (js:List Int) (hr:RelOK rows) (a b c:Nat) (ha:a < rows.length) (hb:b < rows.length) (hc:c < rows.length) :
  EvP Tryz.prog 310 [.v (.int .i64 c),.pt [bnd2F (dLt names tb (dRel rows) js)] 0,.pt [.v (.int .i64 a)] 0,.pt [.v (.int .i64 b)] 0] (.v (.bool (bitB rows c a && bitB rows c b))):=by
 have h1:=bnd2_spec names tb rows js hr a c ha hc;have h2:=bnd2_spec names tb rows js hr b c hb hc;refine ev_go (P:=Tryz.prog) tt tt_ok 5000 16 [.tmp 5] Tryz.func310 rfl Tryz.ntmps310 rfl (nL rfl) (fun E9 w9 hn9 hm9=>?_);refine call_p en307 (h1) ax rfl ?_;refine br (fun g=>?_) (fun g=>?_)
 ·have g:bitB rows c a=true:=by simpa using g
  refine call_p en307 (h2) ax rfl ?_;refine (congrArg (fun b=>DV.v (.bool b)) ?_:_=_);simp [g,pickB]
 ·have g:bitB rows c a=false:=by simpa using g
  refine (congrArg (fun b=>DV.v (.bool b)) ?_:_=_);simp [g,pickB]
abbrev bestSt (L:List DV) (gi gb:Nat) (ci cb:List DV) (n:Nat) (o:Int) (e:Nat):St:=
 ⟨[(0,⟨[],.pt L 0⟩),(1,⟨[],.fn gi [] ci⟩),(2,⟨[],.fn gb [] cb⟩),(7,⟨[],.v (.int .i64 o)⟩),(14,⟨[],.v (.int .i64 n)⟩),(15,⟨[],.v (.int .i64 e)⟩)],[],[]⟩
abbrev best2St (L:List DV) (gi gb:Nat) (ci cb:List DV) (n:Nat) (o:Int) (e:Nat):St:=
 ⟨[(0,⟨[],.pt L 0⟩),(1,⟨[],.fn gi [] ci⟩),(2,⟨[],.fn gb [] cb⟩),(7,⟨[],.v (.int .i64 o)⟩),(37,⟨[],.v (.int .i64 n)⟩),(38,⟨[],.v (.int .i64 e)⟩)],[],[]⟩
theorem best_spec (names:List ByteArray) (tb lq:DV) (js:List Int) (gi gb:Nat) (hei:Enters Tryz.prog gi) (heb:Enters Tryz.prog gb) (ci cb:List DV) (pin:Nat->Bool) (pb:Nat->Nat->Bool)
  (hcci:CcL [] 0 0 0 ci ci) (hccb:CcL [] 0 0 0 cb cb) (hcli:clB.clL 0 0 ci=true) (hclb:clB.clL 0 0 cb=true) (hn:names.length<=64)
  (hin:∀ c:Nat,c < names.length->EvP Tryz.prog gi (.v (.int .i64 c) :: ci) (.v (.bool (pin c))))
  (hpb:∀ a b:Nat,a < names.length->b < names.length->EvP Tryz.prog gb (.v (.int .i64 a) :: .v (.int .i64 b) :: cb) (.v (.bool (pb a b)))) :
  EvP Tryz.prog 308 [.pt (dLt names tb lq js) 0,.fn gi [] ci,.fn gb [] cb] (.v (.int .i64 (oz (bestN pin pb names.length)))):=by
 have hN:=dBs_len names;have hfi:clB 0 0 (.fn gi [] ci)=true:=by simp only [clB,Bool.and_eq_true];exact ⟨rfl,hcli⟩
 have hfb:clB 0 0 (.fn gb [] cb)=true:=by simp only [clB,Bool.and_eq_true];exact ⟨rfl,hclb⟩
 refine ev_go (P:=Tryz.prog) tt tt_ok 5000 57 [.tmp 6] Tryz.func308 rfl Tryz.ntmps308 rfl (nL rfl) (fun E9 w9 hn9 hm9=>?_);refine loop_i (fun j st=>∃ e:Nat,st=bestSt (dLt names tb lq js) gi gb ci cb (dBs names).length (oz (bestA pin pb e)) e/\e<=names.length/\j=names.length - e) names.length (bestSt (dLt names tb lq js) gi gb ci cb (dBs names).length (oz (bestA pin pb 0)) 0) (weak_mk ⟨_,rfl⟩ wA rfl rfl rfl (by repeat' (first | exact trivial | exact we_rfl rfl | exact we_rfl hfi | exact we_rfl hfb | refine ⟨⟨_,rfl,?_⟩,?_⟩))) ⟨0,rfl,by omega,by omega⟩ ?_;rintro j st ⟨e,rfl,he,rfl⟩;refine br (fun hL=>?_) (fun hL=>?_)
 ·have hlt:e < names.length:=by have:=hL;simp [hN] at this;exact this
  have hs:bestA pin pb (e + 1)=if pin e && bestC pb e (bestA pin pb e) then some e else bestA pin pb e:=rfl
  refine call_p hei (hin e hlt) ⟨_,_,rfl,rfl,hcci⟩ rfl ?_
  cases hA:bestA pin pb e with
  | none=>
   rw [hA] at hs;refine br (fun g=>?_) (fun g=>?_)
   ·have g:pin e=true:=by simpa [lastG] using g
    have hz:(e:Int)=oz (bestA pin pb (e + 1)):=by rw [hs,g];all_goals rfl
    exact ⟨bestSt (dLt names tb lq js) gi gb ci cb (dBs names).length (oz (bestA pin pb (e + 1))) (e + 1),(weak_mk ⟨_,rfl⟩ wA rfl rfl rfl (by repeat' (first | exact trivial | exact we_rfl rfl | exact we_rfl hfi | exact we_rfl hfb | exact we_int (nxt hlt (by omega)) | exact we_int hz | refine ⟨⟨_,rfl,?_⟩,?_⟩))),names.length - (e + 1),by omega,e + 1,rfl,by omega,rfl⟩
   ·have g:pin e=false:=by simpa [lastG] using g
    have hz:oz none=oz (bestA pin pb (e + 1)):=by rw [hs,g];all_goals rfl
    exact ⟨bestSt (dLt names tb lq js) gi gb ci cb (dBs names).length (oz (bestA pin pb (e + 1))) (e + 1),(weak_mk ⟨_,rfl⟩ wA rfl rfl rfl (by repeat' (first | exact trivial | exact we_rfl rfl | exact we_rfl hfi | exact we_rfl hfb | exact we_int (nxt hlt (by omega)) | exact we_int hz | refine ⟨⟨_,rfl,?_⟩,?_⟩))),names.length - (e + 1),by omega,e + 1,rfl,by omega,rfl⟩
  | some k=>
   rw [hA] at hs;have hk:=bestA_lt hA;refine br (fun g=>?_) (fun g=>?_)
   ·have g:pin e=true:=by simpa [lastG] using g
    refine call_p heb (hpb e k hlt (by omega)) ⟨_,_,rfl,rfl,_,_,rfl,rfl,hccb⟩ rfl ?_;refine br (fun g2=>?_) (fun g2=>?_)
    ·have g2:pb e k=true:=by simpa [pickB,g,lastG] using g2
     have hz:(e:Int)=oz (bestA pin pb (e + 1)):=by rw [hs,g,bestC,g2];all_goals rfl
     exact ⟨bestSt (dLt names tb lq js) gi gb ci cb (dBs names).length (oz (bestA pin pb (e + 1))) (e + 1),(weak_mk ⟨_,rfl⟩ wA rfl rfl rfl (by repeat' (first | exact trivial | exact we_rfl rfl | exact we_rfl hfi | exact we_rfl hfb | exact we_int (nxt hlt (by omega)) | exact we_int hz | refine ⟨⟨_,rfl,?_⟩,?_⟩))),names.length - (e + 1),by omega,e + 1,rfl,by omega,rfl⟩
    ·have g2:pb e k=false:=by simpa [pickB,g,lastG] using g2
     have hz:oz (some k)=oz (bestA pin pb (e + 1)):=by rw [hs,g,bestC,g2];all_goals rfl
     exact ⟨bestSt (dLt names tb lq js) gi gb ci cb (dBs names).length (oz (bestA pin pb (e + 1))) (e + 1),(weak_mk ⟨_,rfl⟩ wA rfl rfl rfl (by repeat' (first | exact trivial | exact we_rfl rfl | exact we_rfl hfi | exact we_rfl hfb | exact we_int (nxt hlt (by omega)) | exact we_int hz | refine ⟨⟨_,rfl,?_⟩,?_⟩))),names.length - (e + 1),by omega,e + 1,rfl,by omega,rfl⟩
   ·have g:pin e=false:=by simpa [lastG] using g
    have hz:oz (some k)=oz (bestA pin pb (e + 1)):=by rw [hs,g];all_goals rfl
    exact ⟨bestSt (dLt names tb lq js) gi gb ci cb (dBs names).length (oz (bestA pin pb (e + 1))) (e + 1),(weak_mk ⟨_,rfl⟩ wA rfl rfl rfl (by repeat' (first | exact trivial | exact we_rfl rfl | exact we_rfl hfi | exact we_rfl hfb | exact we_int (nxt hlt (by omega)) | exact we_int hz | refine ⟨⟨_,rfl,?_⟩,?_⟩))),names.length - (e + 1),by omega,e + 1,rfl,by omega,rfl⟩
 ·have hge:e=names.length:=by have:=hL;simp [hN] at this;omega
  subst hge;refine loop_i (fun j st=>∃ e:Nat,st=best2St (dLt names tb lq js) gi gb ci cb (dBs names).length (oz (bestA pin pb names.length)) e/\e<=names.length/\(∀ o,bestA pin pb names.length=some o->∀ c,c < e->(pin c && !pb o c)=false)/\j=names.length - e) names.length (best2St (dLt names tb lq js) gi gb ci cb (dBs names).length (oz (bestA pin pb names.length)) 0) (weak_mk ⟨_,rfl⟩ wA rfl rfl rfl (by repeat' (first | exact trivial | exact we_rfl rfl | exact we_rfl hfi | exact we_rfl hfb | refine ⟨⟨_,rfl,?_⟩,?_⟩))) ⟨0,rfl,by omega,fun _ _ c hc=>by omega,by omega⟩ ?_;rintro j st ⟨e,rfl,he,hno,rfl⟩;refine br (fun hL=>?_) (fun hL=>?_)
  ·have hlt:e < names.length:=by have:=hL;simp [hN] at this;exact this
   cases hA:bestA pin pb names.length with
   | none=>
    exact ⟨best2St (dLt names tb lq js) gi gb ci cb (dBs names).length (oz none) (e + 1),(weak_mk ⟨_,rfl⟩ wA rfl rfl rfl (by repeat' (first | exact trivial | exact we_rfl rfl | exact we_rfl hfi | exact we_rfl hfb | exact we_int (nxt hlt (by omega)) | refine ⟨⟨_,rfl,?_⟩,?_⟩))),names.length - (e + 1),by omega,e + 1,rfl,by omega,(fun _ h=>by cases h),rfl⟩
   | some o=>
    have ho:=bestA_lt hA;have hno:=hno o hA;refine call_p hei (hin e hlt) ⟨_,_,rfl,rfl,hcci⟩ rfl ?_;refine br (fun g=>?_) (fun g=>?_)
    ·have g:pin e=true:=by simpa [pickB] using g
     refine call_p heb (hpb o e ho hlt) ⟨_,_,rfl,rfl,_,_,rfl,rfl,hccb⟩ rfl ?_;refine br (fun g2=>?_) (fun g2=>?_)
     ·have g2:pb o e=false:=by simpa [pickB,g,lastG] using g2
      have:bestN pin pb names.length=none:=by
       rw [bestN,hA];simp only;rw [if_pos];rw [List.any_eq_true];exact ⟨e,by simpa using hlt,by simp [g,g2]⟩
      rw [this];exact (rfl:_=_)
     ·have g2:pb o e=true:=by simpa [pickB,g,lastG] using g2
      exact ⟨best2St (dLt names tb lq js) gi gb ci cb (dBs names).length (oz (some o)) (e + 1),(weak_mk ⟨_,rfl⟩ wA rfl rfl rfl (by repeat' (first | exact trivial | exact we_rfl rfl | exact we_rfl hfi | exact we_rfl hfb | exact we_int (nxt hlt (by omega)) | refine ⟨⟨_,rfl,?_⟩,?_⟩))),names.length - (e + 1),by omega,e + 1,rfl,by omega,fun o' ho' c hc=>by
       cases ho';rcases Nat.lt_succ_iff_lt_or_eq.1 hc with hc | rfl
       ·exact hno c hc
       ·simp [g2],rfl⟩
    ·have g:pin e=false:=by simpa [pickB] using g
     exact ⟨best2St (dLt names tb lq js) gi gb ci cb (dBs names).length (oz (some o)) (e + 1),(weak_mk ⟨_,rfl⟩ wA rfl rfl rfl (by repeat' (first | exact trivial | exact we_rfl rfl | exact we_rfl hfi | exact we_rfl hfb | exact we_int (nxt hlt (by omega)) | refine ⟨⟨_,rfl,?_⟩,?_⟩))),names.length - (e + 1),by omega,e + 1,rfl,by omega,fun o' ho' c hc=>by
       cases ho';rcases Nat.lt_succ_iff_lt_or_eq.1 hc with hc | rfl
       ·exact hno c hc
       ·simp [g],rfl⟩
  ·have hge:e=names.length:=by have:=hL;simp [hN] at this;omega
   subst hge
   have:bestN pin pb names.length=bestA pin pb names.length:=by
    cases hA:bestA pin pb names.length with
    | none=>rw [bestN,hA]
    | some o=>
     rw [bestN,hA];simp only;rw [if_neg];rw [List.any_eq_true];rintro ⟨c,hc,h2⟩;rw [hno o hA c (by simpa using hc)] at h2;cases h2
   rw [this];exact (rfl:_=_)
theorem ccL_cZ (js:List Int) (bx:List (List DV)) (N n m:Nat):CcL bx N n m (cZ js) (cZ js):=by
 induction js with
 | nil=>exact rfl
 | cons z r ih=>exact ⟨_,_,rfl,rfl,ih⟩
theorem weL_cZ {n m:Nat} {tk:List TkE} (js:List Int):WeL n m tk (cZ js) (cZ js):=weL_sc _ fun x hx=>by
 obtain ⟨z,_,rfl⟩:=List.mem_map.1 hx;exact ⟨_,rfl⟩
theorem ren_cZ (f:Nat->Nat) (js:List Int):renL f (cZ js)=cZ js:=by
 induction js with
 | nil=>rfl
 | cons z r ih=>simp only [cZ,List.map_cons,renL,renD] at ih ⊢;rw [ih]
theorem cZ_len (js:List Int):(cZ js).length=js.length:=by simp [cZ]
theorem cZ_set (js:List Int) (i:Nat) (z:Int):(cZ js).set i (.v (.int .i64 z))=cZ (js.set i z):=by simp [cZ,List.map_set]
abbrev dLs (names:List ByteArray) (tc:List DV) (rows:List Nat) (js:List Int):List DV:=dLt names (.pt tc 0) (dRel rows) js
theorem dLs_len (names:List ByteArray) (tc:List DV) (rows:List Nat) (js:List Int):(dLs names tc rows js).length=js.length + 3:=by simp [dLt,cZ]
theorem dLs_set {names:List ByteArray} {tc:List DV} {rows:List Nat} {js:List Int} {i k:Nat} {z:Int} (h:k=i + 3):(dLs names tc rows js).set k (.v (.int .i64 z))=dLs names tc rows (js.set i z):=by
 subst h;simp only [dLt,List.set_cons_succ,cZ_set]
theorem ren_dLs (f:Nat->Nat) (names:List ByteArray) (tc:List DV) (rows:List Nat) (js:List Int):renL f (dLs names tc rows js)=dLs names tc rows js:=by
 simp only [dLt,renL,ren_cZ];rfl
theorem weL_dLs {n m:Nat} {tk:List TkE} {l:List DV} {names:List ByteArray} {tc:List DV} {rows:List Nat} {js:List Int} (h:l=dLs names tc rows js):WeL n m tk l (dLs names tc rows js):=by
 subst h;exact ⟨_,_,rfl,we_rfl rfl,_,_,rfl,we_rfl rfl,_,_,rfl,we_rfl rfl,weL_cZ js⟩
def joinN (f:Nat->Nat->Bool) (n a b:Nat):Option Nat:=bestN (fun c=>f a c && f b c) f n
def meetN (f:Nat->Nat->Bool) (n a b:Nat):Option Nat:=bestN (fun c=>f c a && f c b) (fun x y=>f y x) n
theorem joinN_comm (f:Nat->Nat->Bool) (n a b:Nat):joinN f n a b=joinN f n b a:=by
 unfold joinN;congr 1;funext c;exact Bool.and_comm _ _
theorem meetN_comm (f:Nat->Nat->Bool) (n a b:Nat):meetN f n a b=meetN f n b a:=by
 unfold meetN;congr 1;funext c;exact Bool.and_comm _ _
def lackB (f:Nat->Nat->Bool) (n a b:Nat):Bool:=(joinN f n a b).isNone || (meetN f n a b).isNone
def bndP (f:Nat->Nat->Bool) (n b:Nat):Bool:=(List.range (b + 1)).any fun a=>lackB f n a b
def JM (f:Nat->Nat->Bool) (n:Nat) (js:List Int) (a b:Nat):Prop:=js[a * 32 + b]? = some (oz (joinN f n a b))/\js[1024 + (a * 32 + b)]? = some (oz (meetN f n a b))
def set4 (js:List Int) (a b:Nat) (j m:Int):List Int:=(((js.set (a * 32 + b) j).set (b * 32 + a) j).set (1024 + (a * 32 + b)) m).set (1024 + (b * 32 + a)) m
theorem set4_len (js:List Int) (a b:Nat) (j m:Int):(set4 js a b j m).length=js.length:=by simp [set4]
theorem get_set_ne {js:List Int} {i k:Nat} {z:Int} (h:k≠i):(js.set k z)[i]? = js[i]?:=List.getElem?_set_ne h
theorem set4_jm {f:Nat->Nat->Bool} {n:Nat} {js:List Int} (hl:js.length=2048) {a b:Nat} (ha:a < 32) (hb:b < 32) {x y:Nat} (hx:x < 32) (hy:y < 32)
  (h:JM f n js x y∨(x=a/\y=b)∨(x=b/\y=a)):JM f n (set4 js a b (oz (joinN f n a b)) (oz (meetN f n a b))) x y:=by
 have key:(x=a/\y=b)∨(x=b/\y=a)∨(JM f n js x y/\¬ (x=a/\y=b)/\¬ (x=b/\y=a)):=by
  by_cases h1:x=a/\y=b
  ·exact .inl h1
  ·by_cases h2:x=b/\y=a
   ·exact .inr (.inl h2)
   ·rcases h with h | h | h
    ·exact .inr (.inr ⟨h,h1,h2⟩)
    ·exact (h1 h).elim
    ·exact (h2 h).elim
 rcases key with ⟨rfl,rfl⟩ | ⟨rfl,rfl⟩ | ⟨h,h1,h2⟩
 ·unfold JM set4;refine ⟨?_,?_⟩
  ·rw [get_set_ne (by omega),get_set_ne (by omega)];by_cases hxy:x=y
   ·subst hxy;rw [List.getElem?_set_self (by simp;omega)]
   ·rw [get_set_ne (by omega),List.getElem?_set_self (by omega)]
  ·by_cases hxy:x=y
   ·subst hxy;rw [List.getElem?_set_self (by simp;omega)]
   ·rw [get_set_ne (by omega),List.getElem?_set_self (by simp;omega)]
 ·unfold JM set4;rw [joinN_comm f n x y,meetN_comm f n x y];refine ⟨?_,?_⟩
  ·rw [get_set_ne (by omega),get_set_ne (by omega),List.getElem?_set_self (by simp;omega)]
  ·rw [List.getElem?_set_self (by simp;omega)]
 ·unfold JM set4;have g1:a * 32 + b≠x * 32 + y:=fun he=>h1 ⟨by omega,by omega⟩;have g2:b * 32 + a≠x * 32 + y:=fun he=>h2 ⟨by omega,by omega⟩;refine ⟨?_,?_⟩
  ·rw [get_set_ne (by omega),get_set_ne (by omega),get_set_ne g2,get_set_ne g1];exact h.1
  ·rw [get_set_ne (by omega),get_set_ne (by omega),get_set_ne (by omega),get_set_ne (by omega)];exact h.2
abbrev bndSt (names:List ByteArray) (tc:List DV) (rows:List Nat) (js:List Int) (e:Nat):St:=
 ⟨[(1,⟨[],.loc 1 0⟩),(3,⟨[],.loc 2 0⟩),(4,⟨[],.loc 3 0⟩),(15,⟨[],.v (.int .i64 (dBs names).length)⟩),(16,⟨[],.v (.int .i64 e)⟩)],
  [dLs names tc rows js,[.loc 0 0],[.fn 306 [] [.loc 1 0]],[.fn 307 [] [.loc 1 0]]],[]⟩
abbrev bnd2St (names:List ByteArray) (tc:List DV) (rows:List Nat) (js:List Int) (e f:Nat):St:=
 ⟨[(1,⟨[],.loc 1 0⟩),(3,⟨[],.loc 2 0⟩),(4,⟨[],.loc 3 0⟩),(15,⟨[],.v (.int .i64 (dBs names).length)⟩),(16,⟨[],.v (.int .i64 e)⟩),(5,⟨[],.loc 4 0⟩),(6,⟨[],.loc 5 0⟩)],
  [dLs names tc rows js,[.loc 0 0],[.fn 306 [] [.loc 1 0]],[.fn 307 [] [.loc 1 0]],[.v (.int .i64 e)],[.v (.int .i64 f)]],[]⟩
abbrev bnd3St (names:List ByteArray) (tc:List DV) (rows:List Nat) (js:List Int) (e f:Nat):St:=
 ⟨[(1,⟨[],.loc 1 0⟩),(3,⟨[],.loc 2 0⟩),(4,⟨[],.loc 3 0⟩),(15,⟨[],.v (.int .i64 (dBs names).length)⟩),(16,⟨[],.v (.int .i64 e)⟩),(5,⟨[],.loc 4 0⟩),(6,⟨[],.loc 6 0⟩)],
  [dLs names tc rows js,[.loc 0 0],[.fn 306 [] [.loc 1 0]],[.fn 307 [] [.loc 1 0]],[.v (.int .i64 e)],[.v (.int .i64 f)],[.v (.int .i64 (f + 1:Nat))]],[]⟩
abbrev bnd4St (names:List ByteArray) (tc:List DV) (rows:List Nat) (js:List Int) (e f:Nat):St:=
 ⟨[(1,⟨[],.loc 1 0⟩),(3,⟨[],.loc 2 0⟩),(4,⟨[],.loc 3 0⟩),(15,⟨[],.v (.int .i64 (dBs names).length)⟩),(16,⟨[],.v (.int .i64 e)⟩),(5,⟨[],.loc 4 0⟩),(6,⟨[],.loc 5 0⟩)],
  [dLs names tc rows js,[.loc 0 0],[.fn 306 [] [.loc 1 0]],[.fn 307 [] [.loc 1 0]],[.v (.int .i64 e)],[.v (.int .i64 (f + 1:Nat))],[.v (.int .i64 f)]],[]⟩
theorem bnd_ren (names:List ByteArray) (tc:List DV) (rows:List Nat) (js:List Int) (e f:Nat):bnd3St names tc rows js e f=renSt 5 6 (bnd4St names tc rows js e f):=by
 simp only [renSt,renO,ren_dLs];rfl
def BndΦ (names:List ByteArray) (tc:List DV) (rows:List Nat) (r:DV) (os:List (List DV)) (_:List TkE):Prop:=
 ∃ js',os=[dLs names tc rows js']/\js'.length=2048/\r = .v (.int .i64 (oz (firstN (bndP (bitB rows) names.length) names.length))) /\
  (firstN (bndP (bitB rows) names.length) names.length=none->∀ x y,x < names.length->y < names.length->JM (bitB rows) names.length js' x y)
theorem bounds_spec (names:List ByteArray) (tc:List DV) (rows:List Nat) (js:List Int) (hr:RelOK rows) (hlen:rows.length=names.length) (hn:names.length<=32) (hj:js.length=2048) :
  Ev Tryz.prog 185 [.loc 0 0] [dLs names tc rows js] [] (BndΦ names tc rows):=by
 have hN:=dBs_len names;refine ev_go (P:=Tryz.prog) tt tt_ok 5000 73 [.tmp 2] Tryz.func185 rfl Tryz.ntmps185 rfl (nL rfl) (fun E9 w9 hn9 hm9=>?_);refine loop_i (fun j st=>∃ (e:Nat) (js:List Int),st=bndSt names tc rows js e/\e<=names.length/\js.length=2048/\(∀ b,b < e->bndP (bitB rows) names.length b=false)/\(∀ x y,x < e->y < e->JM (bitB rows) names.length js x y)/\j=names.length - e) names.length (bndSt names tc rows js 0) (weak_b 4 rfl (by repeat' (first | exact rfl | exact we_rfl rfl | exact weL_cZ _ | refine ⟨_,_,rfl,?_,?_⟩)) rfl rfl rfl (by repeat' (first | exact trivial | exact we_rfl rfl | exact weL_cZ _ | refine ⟨⟨_,rfl,?_⟩,?_⟩))) ⟨0,js,rfl,by omega,hj,fun _ h=>by omega,fun _ _ h=>by omega,by omega⟩ ?_;rintro j st ⟨e,js,rfl,he,hj,hno,hjm,rfl⟩;refine br (fun hL=>?_) (fun hL=>?_)
 ·have hlt:e < names.length:=by have:=hL;simp [hN] at this;exact this
  refine loop_w (fun j st=>∃ (f:Nat) (js:List Int),st=bnd2St names tc rows js e f/\f<=e + 1/\js.length=2048/\(∀ a,a < f->lackB (bitB rows) names.length a e=false)/\(∀ x y,x < e->y < e->JM (bitB rows) names.length js x y)/\(∀ x,x < f->JM (bitB rows) names.length js x e/\JM (bitB rows) names.length js e x)/\j=e + 1 - f) (e + 1) (bnd2St names tc rows js e 0) (.weak (weak_b 6 rfl (by repeat' (first | exact rfl | exact we_rfl rfl | exact weL_cZ _ | refine ⟨_,_,rfl,?_,?_⟩)) rfl rfl rfl (by repeat' (first | exact trivial | exact we_rfl rfl | exact weL_cZ _ | refine ⟨⟨_,rfl,?_⟩,?_⟩)))) ⟨0,js,rfl,by omega,hj,fun _ h=>by omega,hjm,fun _ h=>by omega,by omega⟩ ?_;clear hjm hj;rintro j st ⟨f,js,rfl,hf,hj,hla,hjm,hje,rfl⟩;refine br (fun hL2=>?_) (fun hL2=>?_)
  ·have hfe:f<=e:=by have:=hL2;simp at this;exact this
   have hb1:=best_spec names (.pt tc 0) (dRel rows) js 309 306 en309 en306
    [.pt [bnd1F (dLs names tc rows js)] 0,.pt [.v (.int .i64 f)] 0,.pt [.v (.int .i64 e)] 0] [.pt [.pt (dLs names tc rows js) 0] 0] (fun c=>bitB rows f c && bitB rows e c) (bitB rows) ax ax rfl rfl (by omega)
    (fun c hc=>bnd3_spec names (.pt tc 0) rows js hr f e c (by omega) (by omega) (by omega)) (fun a b ha hb=>bnd1_spec names (.pt tc 0) rows js hr a b (by omega) (by omega))
   have hb2:=best_spec names (.pt tc 0) (dRel rows) js 310 307 en310 en307
    [.pt [bnd2F (dLs names tc rows js)] 0,.pt [.v (.int .i64 f)] 0,.pt [.v (.int .i64 e)] 0] [.pt [.pt (dLs names tc rows js) 0] 0] (fun c=>bitB rows c f && bitB rows c e) (fun x y=>bitB rows y x) ax ax rfl rfl (by omega)
    (fun c hc=>bnd4_spec names (.pt tc 0) rows js hr f e c (by omega) (by omega) (by omega)) (fun a b ha hb=>bnd2_spec names (.pt tc 0) rows js hr a b (by omega) (by omega))
   refine call_b en308 hb1 (by repeat' (first | exact rfl | exact trivial | exact Or.inr (Or.inl ⟨_,rfl⟩) | exact Or.inr ⟨_,rfl⟩ | exact Or.inl ⟨rfl,rfl⟩ | exact Or.inl rfl | refine Or.inr ⟨_,_,rfl,Nat.zero_le _,rfl,?_⟩ | refine ⟨_,_,rfl,?_,?_⟩ | refine ⟨_,rfl,?_⟩ | exact ccL_cZ _ _ _ _ _ | refine Or.inr (Or.inr (Or.inr ⟨_,_,rfl,?_⟩)) | exact Or.inl rfl | refine Or.inr ?_)) rfl ?_;refine call_b en308 hb2 (by repeat' (first | exact rfl | exact trivial | exact Or.inr (Or.inl ⟨_,rfl⟩) | exact Or.inr ⟨_,rfl⟩ | exact Or.inl ⟨rfl,rfl⟩ | exact Or.inl rfl | refine Or.inr ⟨_,_,rfl,Nat.zero_le _,rfl,?_⟩ | refine ⟨_,_,rfl,?_,?_⟩ | refine ⟨_,rfl,?_⟩ | exact ccL_cZ _ _ _ _ _ | refine Or.inr (Or.inr (Or.inr ⟨_,_,rfl,?_⟩)) | exact Or.inl rfl | refine Or.inr ?_)) rfl ?_
   have hlk:pickB (decide (oz (joinN (bitB rows) names.length f e) = -1)) true (decide (oz (meetN (bitB rows) names.length f e) = -1))=lackB (bitB rows) names.length f e:=by
    unfold lackB
    cases joinN (bitB rows) names.length f e with
    | none=>rfl
    | some j=>
     have:decide (oz (some j) = -1)=false:=by simp [oz]
     rw [this]
     cases meetN (bitB rows) names.length f e with
     | none=>rfl
     | some m=>
      have:decide (oz (some m) = -1)=false:=by simp [oz]
      rw [this];rfl
   refine br (fun g=>?_) (fun g=>?_)
   ·have g:lackB (bitB rows) names.length f e=true:=hlk.symm.trans g
    have hb:bndP (bitB rows) names.length e=true:=by
     unfold bndP;rw [List.any_eq_true];exact ⟨f,by simp;omega,g⟩
    have hfn:=firstN_some (p:=bndP (bitB rows) names.length) hlt hb hno;refine ⟨.v (.int .i64 e),[dLs names tc rows js],ax,(by repeat' (first | exact rfl | exact trivial | exact Or.inr (Or.inl ⟨_,rfl⟩) | exact Or.inr ⟨_,rfl⟩ | exact Or.inl ⟨rfl,rfl⟩ | exact Or.inl rfl | refine Or.inr ⟨_,_,rfl,Nat.zero_le _,rfl,?_⟩ | refine ⟨_,_,rfl,?_,?_⟩ | refine ⟨_,rfl,?_⟩ | exact ccL_cZ _ _ _ _ _ | refine Or.inr (Or.inr (Or.inr ⟨_,_,rfl,?_⟩)) | exact Or.inl rfl | refine Or.inr ?_)),js,rfl,hj,?_,fun h=>by rw [hfn] at h;cases h⟩;rw [hfn];rfl
   ·have g:lackB (bitB rows) names.length f e=false:=hlk.symm.trans g;refine drawG_m [0] (fun _=>false) mo (by decide +kernel) ?_;have hdl:=dLs_len names tc rows js;refine ⟨⟨by omega,by omega⟩,?_⟩;refine ⟨⟨by omega,by omega⟩,?_⟩;refine ⟨by rw [hdl];omega,?_⟩;refine ⟨⟨by omega,by omega⟩,?_⟩;refine ⟨⟨by omega,by omega⟩,?_⟩;refine ⟨by rw [List.length_set,hdl];omega,?_⟩;refine drawG_m [0] (fun _=>false) mo (by decide +kernel) ?_;refine ⟨⟨by omega,by omega⟩,?_⟩;refine ⟨⟨by omega,by omega⟩,?_⟩;refine ⟨by rw [List.length_set,List.length_set,hdl];omega,?_⟩;refine ⟨⟨by omega,by omega⟩,?_⟩;refine ⟨⟨by omega,by omega⟩,?_⟩;refine ⟨by rw [List.length_set,List.length_set,List.length_set,hdl];omega,?_⟩
    have hb0:((((dLs names tc rows js).set (0 + 0 + 3 + (f:Int).toNat * 32 + (e:Int).toNat * 1) (DV.v (.int .i64 (oz (joinN (bitB rows) names.length f e))))).set (0 + 0 + 3 + (e:Int).toNat * 32 + (f:Int).toNat * 1) (DV.v (.int .i64 (oz (joinN (bitB rows) names.length f e))))).set (0 + 0 + 1027 + (f:Int).toNat * 32 + (e:Int).toNat * 1) (DV.v (.int .i64 (oz (meetN (bitB rows) names.length f e))))).set (0 + 0 + 1027 + (e:Int).toNat * 32 + (f:Int).toNat * 1) (DV.v (.int .i64 (oz (meetN (bitB rows) names.length f e))))=dLs names tc rows (set4 js f e (oz (joinN (bitB rows) names.length f e)) (oz (meetN (bitB rows) names.length f e))):=by
     rw [dLs_set (i:=f * 32 + e) (by omega),dLs_set (i:=e * 32 + f) (by omega),dLs_set (i:=1024 + (f * 32 + e)) (by omega),dLs_set (i:=1024 + (e * 32 + f)) (by omega)];rfl
    refine ⟨bnd2St names tc rows (set4 js f e (oz (joinN (bitB rows) names.length f e)) (oz (meetN (bitB rows) names.length f e))) e (f + 1),
     .trans (.weak (s2:=bnd3St names tc rows (set4 js f e (oz (joinN (bitB rows) names.length f e)) (oz (meetN (bitB rows) names.length f e))) e f) (weak_b 7 rfl (by repeat' (first | exact rfl | exact we_rfl rfl | exact weL_dLs hb0 | exact we_int (nxt (n:=e + 1) (by omega) (by omega)) | refine ⟨_,_,rfl,?_,?_⟩)) rfl rfl rfl (by repeat' (first | exact trivial | exact we_rfl rfl | exact weL_dLs hb0 | exact we_int (nxt (n:=e + 1) (by omega) (by omega)) | refine ⟨⟨_,rfl,?_⟩,?_⟩))))
      (.trans (.ren 5 6 (bnd4St names tc rows (set4 js f e (oz (joinN (bitB rows) names.length f e)) (oz (meetN (bitB rows) names.length f e))) e f) _ (bnd_ren _ _ _ _ _ _) rfl rfl rfl rfl) (.weak (weak_b 6 rfl (by repeat' (first | exact rfl | exact we_rfl rfl | exact weL_cZ _ | refine ⟨_,_,rfl,?_,?_⟩)) rfl rfl rfl (by repeat' (first | exact trivial | exact we_rfl rfl | exact weL_cZ _ | refine ⟨⟨_,rfl,?_⟩,?_⟩))))),
     e + 1 - (f + 1),by omega,f + 1,_,rfl,by omega,by rw [set4_len];exact hj,fun a ha=>?_,fun x y hx hy=>?_,fun x hx=>?_,rfl⟩
    ·rcases Nat.lt_succ_iff_lt_or_eq.1 ha with ha | rfl
     ·exact hla a ha
     ·exact g
    ·exact set4_jm hj (by omega) (by omega) (by omega) (by omega) (.inl (hjm x y hx hy))
    ·rcases Nat.lt_succ_iff_lt_or_eq.1 hx with hx | rfl
     ·exact ⟨set4_jm hj (by omega) (by omega) (by omega) (by omega) (.inl (hje x hx).1),set4_jm hj (by omega) (by omega) (by omega) (by omega) (.inl (hje x hx).2)⟩
     ·exact ⟨set4_jm hj (by omega) (by omega) (by omega) (by omega) (.inr (.inl ⟨rfl,rfl⟩)),set4_jm hj (by omega) (by omega) (by omega) (by omega) (.inr (.inr ⟨rfl,rfl⟩))⟩
  ·have hfe:f=e + 1:=by have:=hL2;simp at this;omega
   subst hfe
   have hb:bndP (bitB rows) names.length e=false:=by
    unfold bndP;rw [List.any_eq_false];intro a ha;rw [hla a (by simpa using ha)];decide
   refine ⟨bndSt names tc rows js (e + 1),(weak_b 4 rfl (by repeat' (first | exact rfl | exact we_rfl rfl | exact weL_cZ _ | exact we_int (nxt hlt (by omega)) | refine ⟨_,_,rfl,?_,?_⟩)) rfl rfl rfl (by repeat' (first | exact trivial | exact we_rfl rfl | exact weL_cZ _ | exact we_int (nxt hlt (by omega)) | refine ⟨⟨_,rfl,?_⟩,?_⟩))),names.length - (e + 1),by omega,e + 1,js,rfl,by omega,hj,fun b hb'=>?_,fun x y hx hy=>?_,rfl⟩
   ·rcases Nat.lt_succ_iff_lt_or_eq.1 hb' with h | rfl
    ·exact hno b h
    ·exact hb
   ·rcases Nat.lt_succ_iff_lt_or_eq.1 hx with hx | rfl
    ·rcases Nat.lt_succ_iff_lt_or_eq.1 hy with hy | rfl
     ·exact hjm x y hx hy
     ·exact (hje x (by omega)).1
    ·exact (hje y (by omega)).2
 ·have hge:e=names.length:=by have:=hL;simp [hN] at this;omega
  subst hge;refine ⟨.v (.int .i64 (-1)),[dLs names tc rows js],ax,(by repeat' (first | exact rfl | exact trivial | exact Or.inr (Or.inl ⟨_,rfl⟩) | exact Or.inr ⟨_,rfl⟩ | exact Or.inl ⟨rfl,rfl⟩ | exact Or.inl rfl | refine Or.inr ⟨_,_,rfl,Nat.zero_le _,rfl,?_⟩ | refine ⟨_,_,rfl,?_,?_⟩ | refine ⟨_,rfl,?_⟩ | exact ccL_cZ _ _ _ _ _ | refine Or.inr (Or.inr (Or.inr ⟨_,_,rfl,?_⟩)) | exact Or.inl rfl | refine Or.inr ?_)),js,rfl,hj,?_,fun _=>hjm⟩;rw [firstN_none hno];rfl
def atN (l:List Wd) (k:Nat):Int:=((l[k]?).getD (⟨emptyB,0⟩:Wd)).a
def latF (l:List Wd) (o:List (Wd × Wd)):Ft:=
 if (manyF l o).1≠0 then manyF l o
 else if (enumL l 0 l).1≠0 then enumL l 0 l
 else if (numF (nmTx l) o).1≠0 then numF (nmTx l) o
 else match firstN (loopP l.length (leqN l.length (numL (nmTx l) o))) l.length with
  | some a=>(11,atN l a)
  | none=>
   match firstN (bndP (leqN l.length (numL (nmTx l) o)) l.length) l.length with
   | some b=>(12,atN l b)
   | none=>(0,0)
def LatD (l:List Wd) (o:List (Wd × Wd)) (d:DV):Prop:=
 ∃ ord js,TblOK (nmTx l) ord/\ord.length<=l.length/\js.length=2048/\(∀ x y,x < l.length->y < l.length->JM (leqN l.length (numL (nmTx l) o)) l.length js x y) /\
  d = .pt (dLs (nmTx l) (dTbl (nmTx l) ord) (closeR (relN l.length (numL (nmTx l) o)) l.length) js) 0
def LatΦ (l:List Wd) (o:List (Wd × Wd)) (r:DV) (_:List (List DV)) (_:List TkE):Prop:=
 if (latF l o).1≠0 then r = .tup [.v (.pointer none),(latF l o).d] else ∃ d,LatD l o d/\r = .tup [d,(latF l o).d]
theorem numF_ok {L:List ByteArray}:∀ {o:List (Wd × Wd)},(numF L o).1=0->PrOK L.length (numL L o)
 | [],_=>by intro p hp;simp [numL] at hp
 | q :: r,h=>by
  rw [numF] at h;split at h
  ·cases h
  ·rename_i h1;split at h
   ·cases h
   ·rename_i h2;have ih:=numF_ok (o:=r) h;intro p hp;simp only [numL,List.map_cons,List.mem_cons] at hp;rcases hp with rfl | hp
    ·obtain ⟨a,ha⟩:=Option.ne_none_iff_exists'.1 h1;obtain ⟨b,hb⟩:=Option.ne_none_iff_exists'.1 h2;simp only [numP,ha,hb,Option.getD_some];exact ⟨(ixOf_some ha).1,(ixOf_some hb).1⟩
    ·exact ih p hp
theorem nmTx_len (l:List Wd):(nmTx l).length=l.length:=by simp [nmTx]
theorem enumL_zero {all:List Wd}:∀ {l:List Wd} {i:Nat},(enumL all i l).1=0->enumL all i l=(0,0)
 | [],_,_=>rfl
 | x :: r,i,h=>by
  rw [enumL] at h ⊢;split at h
  ·rename_i h1;exact (h1 h).elim
  ·rename_i h1;rw [if_neg h1];exact enumL_zero h
theorem numF_zero {L:List ByteArray}:∀ {o:List (Wd × Wd)},(numF L o).1=0->numF L o=(0,0)
 | [],_=>rfl
 | q :: r,h=>by
  rw [numF] at h ⊢;split at h
  ·cases h
  ·rename_i h1;split at h
   ·cases h
   ·rename_i h2;rw [if_neg h1,if_neg h2];exact numF_zero h
theorem atN_get {l:List Wd} {k:Nat} {w:Wd} (h:l[k]? = some w):atN l k=w.a:=by simp [atN,h]
theorem vL_rep (n:Nat):vL (List.replicate n (.int .i64 0))=cZ (List.replicate n 0):=by
 induction n with
 | zero=>rfl
 | succ n ih=>simp only [List.replicate_succ,vL,cZ,List.map_cons] at ih ⊢;rw [ih]
theorem latΦ_bad {l:List Wd} {o:List (Wd × Wd)} {f:Ft} {os:List (List DV)} {tk:List TkE} (h:latF l o=f) (hf:f.1≠0):LatΦ l o (.tup [.v (.pointer none),f.d]) os tk:=by
 unfold LatΦ;rw [h,if_pos hf]
theorem latΦ_ok {l:List Wd} {o:List (Wd × Wd)} {d:DV} {os:List (List DV)} {tk:List TkE} (h:latF l o=(0,0)) (hd:LatD l o d):LatΦ l o (.tup [d,Ft.d (0,0)]) os tk:=by
 unfold LatΦ;rw [h,if_neg (by simp)];exact ⟨d,hd,rfl⟩
theorem clL_dLs (n m:Nat) (names:List ByteArray) (tc:List DV) (rows:List Nat) (js:List Int):clB.clL n m (dLs names tc rows js)=true:=by
 have h:∀ l:List Int,clB.clL n m (cZ l)=true:=by
  intro l
  induction l with
  | nil=>rfl
  | cons z r ih=>simp only [cZ,List.map_cons,clB.clL,clB,Bool.true_and] at ih ⊢;exact ih
 simp only [dLt,clB.clL,clB,h,dRel,Bool.and_self]
theorem lbuild_spec (l:List Wd) (o:List (Wd × Wd)) (hs:wdsWt l<=1099511627776) (hs2:prsWt o<=1099511627776) :
  Ev Tryz.prog 74 [.sl 2 (dWds l) none,.sl 4 (dPrs o) none] [] [] (LatΦ l o):=by
 have hsl:=wdsWt_len l;have hso:=prsWt_len o;have hnl:=nmTx_len l;have hF:=latF.eq_1 l o;refine ev_go (P:=Tryz.prog) tt tt_ok 5000 86 [.tmp 4,.cell 5 46] Tryz.func74 rfl Tryz.ntmps74 rfl (nL rfl) (fun E9 w9 hn9 hm9=>?_);refine call_p en178 (many_spec l o) ax rfl ?_;by_cases hm:(manyF l o).1≠0
 ·rw [if_pos hm] at hF;refine br (fun h=>?_) (fun h=>?_)
  ·refine drawG_s mo (by decide +kernel) ?_;exact ⟨_,ax,latΦ_bad (os:=[]) (tk:=[]) hF hm⟩
  ·exfalso;simp at h;exact hm h
 rw [if_neg hm] at hF;refine br (fun h=>?_) (fun _=>?_)
 ·exfalso;simp at h;exact hm h
 have hl0:l ≠ []:=by
  rintro rfl;simp [manyF] at hm
 have hl32:l.length<=32:=by
  rcases Nat.lt_or_ge 32 l.length with h | h
  ·simp [manyF,hl0,h] at hm
  ·exact h
 have hcal:=called_spec l hs;unfold calD at hcal;by_cases hE:(enumL l 0 l).1≠0
 ·rw [if_neg hE] at hcal;rw [if_pos hE] at hF;refine call_p en179 (hcal) ax rfl ?_;refine br (fun h=>?_) (fun h=>?_)
  ·refine drawG_s mo (by decide +kernel) ?_;exact ⟨_,ax,latΦ_bad (os:=[]) (tk:=[]) hF hE⟩
  ·exfalso;simp at h;exact hE h
 rw [if_neg hE] at hF;have hE:(enumL l 0 l).1=0:=by simpa using hE
 rw [if_pos hE] at hcal;rw [enumL_zero hE] at hcal;refine call_p en179 (hcal) ax rfl ?_;refine call_e en180 rfl (new_spec (nmTx l) (by omega)) ax (fun r hr=>?_);obtain ⟨ord,hT,hol,rfl⟩:=hr;have hnum:=numbered_spec (nmTx l) ord hT (by omega) o hs2;unfold numD at hnum;by_cases hN:(numF (nmTx l) o).1≠0
 ·rw [if_neg hN] at hnum;rw [if_pos hN] at hF;refine call_p en181 (hnum) ax rfl ?_;refine br (fun h=>?_) (fun h=>?_)
  ·refine drawG_s mo (by decide +kernel) ?_;exact ⟨_,ax,latΦ_bad (os:=[]) (tk:=[]) hF hN⟩
  ·exfalso;simp at h;exact hN h
 rw [if_neg hN] at hF;have hN:(numF (nmTx l) o).1=0:=by simpa using hN
 rw [if_pos hN] at hnum;rw [numF_zero hN] at hnum;have hP:=numF_ok hN;rw [hnl] at hP;have hPl:(numL (nmTx l) o).length=o.length:=by simp [numL]
 generalize hPP:numL (nmTx l) o=P at hnum hF hP hPl;refine call_p en181 (hnum) ax rfl ?_;have hLn:(dBs (nmTx l)).length=l.length:=by rw [dBs_len,hnl]
 have hPb:P.length<=1099511627776:=by omega
 have hro:=relN_ok (n:=l.length) (by omega) P hP;have hrl:=relN_len l.length P;have hr0:relN l.length P ≠ []:=fun h=>hl0 (List.eq_nil_of_length_eq_zero (by rw [<- hrl,h];rfl));refine call_p en182 (rnew_spec l.length (by omega) P hP hPb) (by repeat' (first | exact rfl | exact trivial | exact Or.inr (Or.inl ⟨_,rfl⟩) | exact Or.inr ⟨_,rfl⟩ | exact Or.inl ⟨rfl,rfl⟩ | exact Or.inl rfl | refine Or.inr ⟨_,_,rfl,Nat.zero_le _,rfl,?_⟩ | refine ⟨_,_,rfl,?_,?_⟩ | refine ⟨_,rfl,?_⟩ | exact congrArg (fun z=>DV.v (.int .i64 z)) (congrArg Nat.cast hLn)| refine Or.inr (Or.inr (Or.inr ⟨_,_,rfl,?_⟩)) | exact Or.inl rfl | refine Or.inr ?_)) rfl ?_;have hlo:=rloop_spec _ hro hr0;rw [hrl,loop_eq (by omega) hP] at hlo
 cases hA:firstN (loopP l.length (leqN l.length P)) l.length with
 | some a=>
  rw [hA] at hlo hF;simp only at hF;have hal:=(firstN_spec hA).1;obtain ⟨w,hw⟩:∃ w,l[a]? = some w:=⟨_,gE hal⟩;rw [atN_get hw] at hF;refine call_p en183 (hlo) ax rfl ?_;refine drawG_s mo (by decide +kernel) ?_;refine ⟨dWd w,⟨by omega,dWds_get hw⟩,?_⟩;exact ⟨_,ax,latΦ_bad (os:=[]) (tk:=[]) hF (by simp)⟩
 | none=>
 rw [hA] at hlo hF;simp only at hF;refine call_p en183 (hlo) ax rfl ?_;have hcl:=rclose_spec _ hro hr0;rw [hrl] at hcl;have hcok:=closeR_ok hro l.length (by omega);have hclen:=closeR_len (relN l.length P) l.length;rw [hrl] at hclen;refine call_p en184 (hcl) ax rfl ?_;have hrep:(List.replicate 2048 (0:Int)).length=2048:=List.length_replicate
 have hcs:CcL [] 0 0 0 (dLs (nmTx l) (dTbl (nmTx l) ord) (closeR (relN l.length P) l.length) (List.replicate 2048 0)) (.sl 1 (dBs (nmTx l)) none :: .pt (dTbl (nmTx l) ord) 0 :: dRel (closeR (relN l.length P) l.length) :: vL (List.replicate 2048 (.int .i64 0))):=by
  refine ⟨_,_,rfl,Or.inr (Or.inl ⟨_,rfl⟩),_,_,rfl,Or.inl rfl,_,_,rfl,Or.inl rfl,?_⟩;rw [vL_rep];exact ccL_cZ _ _ _ _ _
 have hbn:=bounds_spec (nmTx l) (dTbl (nmTx l) ord) _ (List.replicate 2048 0) hcok (by omega) (by omega) hrep;refine call_o en185 rfl rfl hcs ax hbn (fun r os tk h=>?_) (fun r cs2 h=>?_)
 ·obtain ⟨js',rfl,_,rfl,_⟩:=h;refine ⟨rfl,fun cs2 h=>?_⟩;rw [List.mem_singleton.1 h];exact clL_dLs _ _ _ _ _ _
 obtain ⟨js',h1,hj2,hr,hjm⟩:=h;simp only [List.cons.injEq,and_true] at h1;subst h1
 have hB:firstN (bndP (bitB (closeR (relN l.length P) l.length)) (nmTx l).length) (nmTx l).length=firstN (bndP (leqN l.length P) l.length) l.length:=by
  rw [hnl];rfl
 rw [hB] at hr hjm
 cases hb:firstN (bndP (leqN l.length P) l.length) l.length with
 | some b=>
  rw [hb] at hr hF;subst hr;simp only at hF;have hbl:=(firstN_spec hb).1;obtain ⟨w,hw⟩:∃ w,l[b]? = some w:=⟨_,gE hbl⟩;rw [atN_get hw] at hF;refine drawG_s mo (by decide +kernel) ?_;refine ⟨dWd w,⟨by simp only [oz];omega,dWds_get hw⟩,?_⟩;exact ⟨_,ax,latΦ_bad (os:=[]) (tk:=[]) hF (by simp)⟩
 | none=>
  rw [hb] at hr hF;subst hr;simp only at hF;refine ⟨.tup [.pt (dLs (nmTx l) (dTbl (nmTx l) ord) (closeR (relN l.length P) l.length) js') 0,Ft.d (0,0)],(by repeat' (first | exact rfl | exact trivial | exact Or.inr (Or.inl ⟨_,rfl⟩) | exact Or.inr ⟨_,rfl⟩ | exact Or.inl ⟨rfl,rfl⟩ | exact Or.inl rfl | refine Or.inr ⟨_,_,rfl,Nat.zero_le _,rfl,?_⟩ | refine ⟨_,_,rfl,?_,?_⟩ | refine ⟨_,rfl,?_⟩ | exact ccL_cZ _ _ _ _ _ | refine Or.inr (Or.inr (Or.inr ⟨_,_,rfl,?_⟩)) | exact Or.inl rfl | refine Or.inr ?_)),latΦ_ok (os:=[]) (tk:=[]) hF ⟨ord,js',hT,by omega,hj2,?_,by rw [hPP]⟩⟩;rw [hPP];rw [hnl] at hjm;exact hjm hb
section
variable (names:List ByteArray) (tc:List DV) (rows:List Nat) (js:List Int)
theorem llen_spec:EvP Tryz.prog 139 [.pt (dLs names tc rows js) 0] (.v (.int .i64 names.length)):=by
 refine ev_go (P:=Tryz.prog) tt tt_ok 5000 10 [.tmp 2] Tryz.func139 rfl Tryz.ntmps139 rfl (nL rfl) (fun E9 w9 hn9 hm9=>?_);refine (congrArg (fun z=>DV.v (.int .i64 z)) ?_:_=_);rw [dBs_len]
theorem lhas_spec (i:Int):EvP Tryz.prog 250 [.pt (dLs names tc rows js) 0,.v (.int .i64 i)] (.v (.bool (decide (0<=i) && decide (i < names.length)))):=by
 refine ev_go (P:=Tryz.prog) tt tt_ok 5000 13 [.tmp 4] Tryz.func250 rfl Tryz.ntmps250 rfl (nL rfl) (fun E9 w9 hn9 hm9=>?_);refine br (fun g=>?_) (fun g=>?_)
 ·have g:decide (0<=i)=true:=by simpa using g
  refine call_p en139 (llen_spec names tc rows js) ax rfl ?_;refine (congrArg (fun b=>DV.v (.bool b)) ?_:_=_);simp [g,pickB]
 ·have g:decide (0<=i)=false:=by simpa using g
  refine (congrArg (fun b=>DV.v (.bool b)) ?_:_=_);simp [g,pickB]
theorem lhas_nat {a:Nat} (h:a < names.length):EvP Tryz.prog 250 [.pt (dLs names tc rows js) 0,.v (.int .i64 a)] (.v (.bool true)):=by
 have:=lhas_spec names tc rows js a;have e:(decide (0<=(a:Int)) && decide ((a:Int) < names.length))=true:=by simp [h]
 rw [e] at this;exact this
end
theorem lfind_spec (names:List ByteArray) (ord rows:List Nat) (js:List Int) (s:ByteArray) (hT:TblOK names ord) (hl:ord.length<=1099511627776) :
  EvP Tryz.prog 72 [.pt (dLs names (dTbl names ord) rows js) 0,.v (.string s)] (optD2 (ixOf names s)):=by
 have h:=tfind_spec names ord s hT hl;refine ev_go (P:=Tryz.prog) tt tt_ok 5000 16 [.tmp 4,.tmp 5] Tryz.func72 rfl Tryz.ntmps72 rfl (nL rfl) (fun E9 w9 hn9 hm9=>?_)
 cases hx:ixOf names s with
 | none=>
  rw [hx] at h;refine call_p en172 (h) ax rfl ?_;exact ⟨_,ax,rfl⟩
 | some k=>
  rw [hx] at h;refine call_p en172 (h) ax rfl ?_;exact ⟨_,ax,rfl⟩
theorem row_cell {l:List DV} {k b:Nat} {x:DV} (hb:b < 32) (h:l[k + b]? = some x):(((l.drop k).take 32).drop b).take 1=[x]:=by
 have h1:((l.drop k).take 32)[b]? = some x:=by
  rw [List.getElem?_take,if_pos hb,List.getElem?_drop];exact h
 rw [List.drop_eq_getElem_cons (gS h1).1];rw [gE (gS h1).1] at h1;simp only [oI] at h1;rw [h1];rfl
section
variable (names:List ByteArray) (tc:List DV) (rows:List Nat) (js:List Int)
theorem ljoin_spec (a b:Nat) (z:Int) (ha:a < names.length) (hb:b < names.length) (hn:names.length<=32) (hz:js[a * 32 + b]? = some z) :
  EvP Tryz.prog 143 [.pt (dLs names tc rows js) 0,.v (.int .i64 a),.v (.int .i64 b)] (.v (.int .i64 z)):=by
 refine ev_go (P:=Tryz.prog) tt tt_ok 5000 25 [.tmp 6] Tryz.func143 rfl Tryz.ntmps143 rfl (nL rfl) (fun E9 w9 hn9 hm9=>?_);refine call_p en250 (lhas_nat names tc rows js ha) ax rfl ?_;refine call_p en250 (lhas_nat names tc rows js hb) ax rfl ?_;refine ⟨_,⟨⟨by omega,by omega⟩,rfl⟩,?_⟩;refine ⟨_,⟨⟨by omega,by omega⟩,row_cell (x:=.v (.int .i64 z)) (by omega) ?_⟩,?_⟩
 ·rw [show 0 + 3 + (a:Int).toNat * 32 + (0 + (b:Int).toNat * 1)=(a * 32 + b) + 3 by omega];simp only [dLt,List.getElem?_cons_succ,cZ,List.getElem?_map,hz,Option.map_some]
 exact (rfl:_=_)
theorem lmeet_spec (a b:Nat) (z:Int) (ha:a < names.length) (hb:b < names.length) (hn:names.length<=32) (hz:js[1024 + (a * 32 + b)]? = some z) :
  EvP Tryz.prog 342 [.pt (dLs names tc rows js) 0,.v (.int .i64 a),.v (.int .i64 b)] (.v (.int .i64 z)):=by
 refine ev_go (P:=Tryz.prog) tt tt_ok 5000 25 [.tmp 6] Tryz.func342 rfl Tryz.ntmps342 rfl (nL rfl) (fun E9 w9 hn9 hm9=>?_);refine call_p en250 (lhas_nat names tc rows js ha) ax rfl ?_;refine call_p en250 (lhas_nat names tc rows js hb) ax rfl ?_;refine ⟨_,⟨⟨by omega,by omega⟩,rfl⟩,?_⟩;refine ⟨_,⟨⟨by omega,by omega⟩,row_cell (x:=.v (.int .i64 z)) (by omega) ?_⟩,?_⟩
 ·rw [show 0 + 1027 + (a:Int).toNat * 32 + (0 + (b:Int).toNat * 1)=(1024 + (a * 32 + b)) + 3 by omega];simp only [dLt,List.getElem?_cons_succ,cZ,List.getElem?_map,hz,Option.map_some]
 exact (rfl:_=_)
end
theorem bestA_pin {pin:Nat->Bool} {pb:Nat->Nat->Bool}:∀ {e k:Nat},bestA pin pb e=some k->pin k=true
 | 0,k,h=>by cases h
 | e + 1,k,h=>by
  rw [bestA] at h;split at h
  ·rename_i h1;simp only [oI] at h;subst h;simp only [Bool.and_eq_true] at h1;exact h1.1
  ·exact bestA_pin h
theorem bestN_some {pin:Nat->Bool} {pb:Nat->Nat->Bool} {n k:Nat} (h:bestN pin pb n=some k):k < n/\pin k=true/\∀ c,c < n->pin c=true->pb k c=true:=by
 unfold bestN at h;split at h
 ·cases h
 ·rename_i o ho;split at h
  ·cases h
  ·rename_i h1;simp only [oI] at h;subst h;refine ⟨bestA_lt ho,bestA_pin ho,fun c hc hp=>?_⟩;simp only [List.any_eq_true,List.mem_range,Bool.and_eq_true,Bool.not_eq_true',not_exists,not_and] at h1;have:=h1 c hc hp;simpa using this
structure LatOK (f:Nat->Nat->Bool) (n:Nat):Prop where
 pos:0 < n
 rfl':∀ a,a < n->f a a=true
 tr:∀ a b c,a < n->b < n->c < n->f a b=true->f b c=true->f a c=true
 anti:∀ a b,a < n->b < n->f a b=true->f b a=true->a=b
 jn:∀ a b,a < n->b < n->∃ k,joinN f n a b=some k
 mt:∀ a b,a < n->b < n->∃ k,meetN f n a b=some k
theorem joinN_spec {f:Nat->Nat->Bool} {n a b k:Nat} (h:joinN f n a b=some k):k < n/\f a k=true/\f b k=true/\∀ c,c < n->f a c=true->f b c=true->f k c=true:=by
 obtain ⟨h1,h2,h3⟩:=bestN_some h;simp only [Bool.and_eq_true] at h2;exact ⟨h1,h2.1,h2.2,fun c hc ha hb=>h3 c hc (by simp [ha,hb])⟩
theorem meetN_spec {f:Nat->Nat->Bool} {n a b k:Nat} (h:meetN f n a b=some k):k < n/\f k a=true/\f k b=true/\∀ c,c < n->f c a=true->f c b=true->f c k=true:=by
 obtain ⟨h1,h2,h3⟩:=bestN_some h;simp only [Bool.and_eq_true] at h2;exact ⟨h1,h2.1,h2.2,fun c hc ha hb=>h3 c hc (by simp [ha,hb])⟩
def overB (f:Nat->Nat->Bool) (l:List Nat) (c:Nat):Bool:=l.all fun i=>f i c
def lstB (f:Nat->Nat->Bool) (n:Nat) (l:List Nat) (c:Nat):Bool:=overB f l c && (List.range n).all fun d=>!overB f l d || f c d
def leastN (f:Nat->Nat->Bool) (n:Nat) (l:List Nat):Option Nat:=firstN (lstB f n l) n
theorem lstB_iff {f:Nat->Nat->Bool} {n:Nat} {l:List Nat} {c:Nat}:lstB f n l c=true↔overB f l c=true/\∀ d,d < n->overB f l d=true->f c d=true:=by
 unfold lstB;simp only [Bool.and_eq_true,List.all_eq_true,List.mem_range,Bool.or_eq_true,Bool.not_eq_true'];constructor
 ·rintro ⟨h1,h2⟩;refine ⟨h1,fun d hd ho=>?_⟩;rcases h2 d hd with h | h
  ·rw [ho] at h;cases h
  ·exact h
 ·rintro ⟨h1,h2⟩;refine ⟨h1,fun d hd=>?_⟩;cases ho:overB f l d
  ·exact .inl rfl
  ·exact .inr (h2 d hd ho)
theorem leastN_eq {f:Nat->Nat->Bool} {n:Nat} (hL:LatOK f n) {l:List Nat} {c:Nat} (hc:c < n) (h:lstB f n l c=true):leastN f n l=some c:=by
 refine firstN_some hc h fun a ha=>?_;cases h2:lstB f n l a
 ·rfl
 ·obtain ⟨h3,h4⟩:=lstB_iff.1 h;obtain ⟨h5,h6⟩:=lstB_iff.1 h2;have:=hL.anti a c (by omega) hc (h6 c hc h3) (h4 a (by omega) h5);omega
theorem leastN_nil {f:Nat->Nat->Bool} {n c:Nat} (hL:LatOK f n) (hc:c < n) (h:∀ d,d < n->f c d=true):leastN f n []=some c:=
 leastN_eq hL hc (lstB_iff.2 ⟨rfl,fun d hd _=>h d hd⟩)
theorem leastN_snoc {f:Nat->Nat->Bool} {n c k i:Nat} {l:List Nat} (hL:LatOK f n) (hl:∀ x∈l,x < n) (hi:i < n) (h:leastN f n l=some c) (hk:joinN f n c i=some k):leastN f n (l ++ [i])=some k:=by
 obtain ⟨h1,h2,_⟩:=firstN_spec h;obtain ⟨h3,h4⟩:=lstB_iff.1 h2;obtain ⟨g1,g2,g3,g4⟩:=joinN_spec hk;simp only [overB,List.all_eq_true] at h3;refine leastN_eq hL g1 (lstB_iff.2 ⟨?_,fun d hd ho=>?_⟩)
 ·simp only [overB,List.all_eq_true,List.mem_append,List.mem_singleton];rintro x (hx | rfl)
  ·exact hL.tr x c k (hl x hx) h1 g1 (h3 x hx) g2
  ·exact g3
 ·simp only [overB,List.all_eq_true,List.mem_append,List.mem_singleton] at ho;refine g4 d hd (h4 d hd ?_) (ho i (.inr rfl));simp only [overB,List.all_eq_true];exact fun x hx=>ho x (.inl hx)
theorem leastN_lt {f:Nat->Nat->Bool} {n c:Nat} {l:List Nat} (h:leastN f n l=some c):c < n:=(firstN_spec h).1
abbrev botSt (L:List DV) (n b e:Nat):St:=
 ⟨[(0,⟨[],.pt L 0⟩),(3,⟨[],.v (.int .i64 b)⟩),(9,⟨[],.v (.int .i64 n)⟩),(10,⟨[],.v (.int .i64 e)⟩)],[],[]⟩
theorem lbottom_spec (names:List ByteArray) (tc:List DV) (rows:List Nat) (js:List Int) {f:Nat->Nat->Bool} (hL:LatOK f names.length) (hn:names.length<=32) (hj:∀ x y,x < names.length->y < names.length->JM f names.length js x y) :
  EvP Tryz.prog 247 [.pt (dLs names tc rows js) 0] (.v (.int .i64 (oz (leastN f names.length [])))):=by
 have hlen:=llen_spec names tc rows js;have hpos:=hL.pos;refine ev_go (P:=Tryz.prog) tt tt_ok 5000 19 [.tmp 2] Tryz.func247 rfl Tryz.ntmps247 rfl (nL rfl) (fun E9 w9 hn9 hm9=>?_);refine call_p en139 (hlen) ax rfl ?_;refine br (fun g=>?_) (fun g=>?_)
 ·exfalso;simp at g;simp [g] at hpos
 refine call_p en139 (hlen) ax rfl ?_;refine loop_i (fun j st=>∃ e b:Nat,st=botSt (dLs names tc rows js) names.length b e/\e<=names.length/\b < names.length/\(∀ x,x < e->f b x=true)/\j=names.length - e) names.length (botSt (dLs names tc rows js) names.length 0 0) (weak_mk ⟨_,rfl⟩ wA rfl rfl rfl wB) ⟨0,0,rfl,by omega,by omega,fun _ h=>by omega,by omega⟩ ?_;rintro j st ⟨e,b,rfl,he,hb,hle,rfl⟩;refine br (fun hL'=>?_) (fun hL'=>?_)
 ·have hlt:e < names.length:=by have:=hL';simp at this;exact this
  obtain ⟨k,hk⟩:=hL.mt b e hb hlt;obtain ⟨g1,g2,g3,g4⟩:=meetN_spec hk;have hz:=(hj b e hb hlt).2;rw [hk] at hz;refine call_p en342 (lmeet_spec names tc rows js b e k hb hlt hn hz) ax rfl ?_;refine ⟨botSt (dLs names tc rows js) names.length k (e + 1),(weak_mk ⟨_,rfl⟩ wA rfl rfl rfl (wNB hlt)),names.length - (e + 1),by omega,e + 1,k,rfl,by omega,g1,fun x hx=>?_,rfl⟩;rcases Nat.lt_succ_iff_lt_or_eq.1 hx with hx | rfl
  ·exact hL.tr k b x g1 hb (by omega) g2 (hle x hx)
  ·exact g3
 ·have hge:e=names.length:=by have:=hL';simp at this;omega
  subst hge;rw [leastN_nil hL hb hle];exact (rfl:_=_)
def labW (L:List ByteArray):List Wd->Ft
 | []=>(0,0)
 | w :: r=>if ixOf L w.s=none then (17,w.a) else labW L r
def labI (L:List ByteArray) (l:List Wd):List Nat:=l.map fun w=>(ixOf L w.s).getD 0
def labN (f:Nat->Nat->Bool) (L:List ByteArray) (l:List Wd):Int:=if (labW L l).1=0 then oz (leastN f L.length (labI L l)) else 0
def labD (f:Nat->Nat->Bool) (L:List ByteArray) (l:List Wd):DV:=.tup [.v (.int .i64 (labN f L l)),(labW L l).d]
theorem labW_drop {L:List ByteArray} {l:List Wd} {e:Nat} {w:Wd} (h:l[e]? = some w):labW L (l.drop e)=if ixOf L w.s=none then (17,w.a) else labW L (l.drop (e + 1)):=by
 rw [drop_cons h,labW]
theorem labI_snoc {L:List ByteArray} {l:List Wd} {e i:Nat} {w:Wd} (h:l[e]? = some w) (hi:ixOf L w.s=some i):labI L (l.take (e + 1))=labI L (l.take e) ++ [i]:=by
 rw [List.take_add_one,h];simp [labI,hi]
abbrev lofSt (L:List DV) (l:List Wd) (b e:Nat):St:=
 ⟨[(0,⟨[],.pt L 0⟩),(5,⟨[],.loc 0 0⟩),(6,⟨[],.v (.int .i64 b)⟩),(16,⟨[],.sl 2 (dWds l) none⟩),(17,⟨[],.v (.int .i64 (dWds l).length)⟩),(18,⟨[],.v (.int .i64 e)⟩)],[[.v (.int .i64 0),.v (.int .i64 0)]],[]⟩
theorem lof_spec (names:List ByteArray) (ord rows:List Nat) (js:List Int) (hT:TblOK names ord) (hol:ord.length<=1099511627776) {f:Nat->Nat->Bool} (hL:LatOK f names.length) (hn:names.length<=32) (hj:∀ x y,x < names.length->y < names.length->JM f names.length js x y)
  (l:List Wd) (hs:wdsWt l<=1099511627776) :
  EvP Tryz.prog 188 [.pt (dLs names (dTbl names ord) rows js) 0,.sl 2 (dWds l) none] (labD f names l):=by
 have hsl:=wdsWt_len l;have hbot:=lbottom_spec names (dTbl names ord) rows js hL hn hj
 have hbx:∃ b,leastN f names.length []=some b:=by
  have:∀ e,e<=names.length->∃ b,b < names.length/\∀ x,x < e->f b x=true:=by
   intro e
   induction e with
   | zero=>intro _;exact ⟨0,hL.pos,fun _ h=>by omega⟩
   | succ e ih=>
    intro he;obtain ⟨b,hb,hle⟩:=ih (by omega);obtain ⟨k,hk⟩:=hL.mt b e hb (by omega);obtain ⟨g1,g2,g3,_⟩:=meetN_spec hk;refine ⟨k,g1,fun x hx=>?_⟩;rcases Nat.lt_succ_iff_lt_or_eq.1 hx with hx | rfl
    ·exact hL.tr k b x g1 hb (by omega) g2 (hle x hx)
    ·exact g3
  obtain ⟨b,hb,hle⟩:=this names.length (Nat.le_refl _);exact ⟨b,leastN_nil hL hb hle⟩
 obtain ⟨b0,hb0⟩:=hbx;rw [hb0] at hbot;refine ev_go (P:=Tryz.prog) tt tt_ok 5000 41 [.tmp 4,.cell 5 46] Tryz.func188 rfl Tryz.ntmps188 rfl (nL rfl) (fun E9 w9 hn9 hm9=>?_);refine call_p en247 (hbot) ax rfl ?_;refine loop_i (fun j st=>∃ e b:Nat,st=lofSt (dLs names (dTbl names ord) rows js) l b e/\e<=l.length/\labW names l=labW names (l.drop e)/\leastN f names.length (labI names (l.take e))=some b/\(∀ x∈labI names (l.take e),x < names.length)/\j=l.length - e) l.length (lofSt (dLs names (dTbl names ord) rows js) l b0 0) (weak_mk ⟨_,rfl⟩ wA rfl rfl rfl wB) ⟨0,b0,rfl,by omega,rfl,hb0,by simp [labI],by omega⟩ ?_;rintro j st ⟨e,b,rfl,he,heq,hlb,hix,rfl⟩;have hb:=leastN_lt hlb;refine br (fun hLt=>?_) (fun hLt=>?_)
 ·have hlt:e < l.length:=by simpa [dWds_len] using hLt
  obtain ⟨w,hw⟩:∃ w,l[e]? = some w:=⟨_,gE hlt⟩;have hst:=labW_drop (L:=names) hw;have hfi:=lfind_spec names ord rows js w.s hT hol;refine ⟨dWd w,⟨by omega,dWds_get hw⟩,?_⟩
  cases hx:ixOf names w.s with
  | none=>
   rw [hx] at hfi;refine call_p en72 (hfi) ax rfl ?_;rw [if_pos hx] at hst;have h1:labW names l=(17,w.a):=heq.trans hst;refine drawG_s mo (by decide +kernel) ?_;refine ⟨_,?_,rfl⟩;rw [labD,labN,h1,if_neg (by simp)];exact ax
  | some i=>
   rw [hx] at hfi;refine call_p en72 (hfi) ax rfl ?_;rw [if_neg (by rw [hx];simp)] at hst;have hi:=(ixOf_some hx).1;obtain ⟨k,hk⟩:=hL.jn b i hb hi;have hz:=(hj b i hb hi).1;rw [hk] at hz;refine call_p en143 (ljoin_spec names (dTbl names ord) rows js b i k hb hi hn hz) ax rfl ?_;refine ⟨lofSt (dLs names (dTbl names ord) rows js) l k (e + 1),(weak_mk ⟨_,rfl⟩ wA rfl rfl rfl (wNB hlt)),l.length - (e + 1),by omega,e + 1,k,rfl,by omega,heq.trans hst,?_,?_,rfl⟩
   ·rw [labI_snoc hw hx];exact leastN_snoc hL hix hi hlb hk
   ·rw [labI_snoc hw hx];intro x hm;rcases List.mem_append.1 hm with hm | hm
    ·exact hix x hm
    ·rw [List.mem_singleton.1 hm];exact hi
 ·have hge:e=l.length:=by
   have:=hLt;simp [dWds_len] at this;omega
  subst hge;rw [List.drop_length] at heq;rw [List.take_length] at hlb;have h1:labW names l=(0,0):=heq;refine ⟨_,?_,rfl⟩;rw [labD,labN,h1,if_pos rfl,hlb];exact ax
def ChkR (x:Ft × Int) (r:DV) (os:List (List DV)) (_:List TkE):Prop:=
 r=x.1.d/\∃ z:Int,os=[[.v (.int .i64 z)]]/\(x.1.1=0->z=x.2)
theorem chkR_cl {x:Ft × Int}:∀ r os tk,ChkR x r os tk->clB 0 0 r=true/\∀ cs2∈os,clB.clL 0 0 cs2=true:=by
 rintro r os tk ⟨rfl,z,rfl,_⟩;refine ⟨rfl,fun cs2 h=>?_⟩;simp only [List.mem_singleton] at h;subst h;rfl
def KChk (k:Nat):Prop:=∀ (t:Ty) (depth m:Int),t.wt<=k->t.wt<=1099511627776->0<=depth->depth<=25->0<=m->m<=512 ->
 Ev Tryz.prog 222 [.loc 0 0,.agg (dTy t),.v (.int .i64 depth)] [[.v (.int .i64 m)]] [] (ChkR (wrong t depth m))
def partF (p:Ph) (t:Ty) (un:Bool) (depth m:Int):Ft × Int:=
 if p.bare=true then (if un=false∨samePartB p t (bareOf p) zeroTy=false then ((19,p.name.a),m) else ((0,0),m))
 else if (partWd p).1≠0 then (partWd p,m)
 else wrong t (depth + 1) m
theorem chkR_mk {x:Ft × Int} {f:Ft} {m z:Int} (h:x=(f,m)) (hz:f.1=0->z=m) {tk:List TkE}:ChkR x f.d [[.v (.int .i64 z)]] tk:=by
 subst h;exact ⟨rfl,z,rfl,hz⟩
theorem kpart_spec (k:Nat) (ih:KChk k) (p:Ph) (t:Ty) (un:Bool) (depth m:Int) (hk:t.wt<=k) (hp:p.wt<=1099511627776) (hbig:t.wt<=1099511627776) (hd0:0<=depth) (hd1:depth<=24) (hm0:0<=m) (hm1:m<=512) :
  Ev Tryz.prog 383 [.loc 0 0,.agg (dPh p (dTy t)),.v (.bool un),.v (.int .i64 depth)] [[.v (.int .i64 m)]] [] (ChkR (partF p t un depth m)):=by
 have hp':=hp;simp only [Ph.wt] at hp';have hsame:=samePart_of p (bareOf p) t zeroTy hp (by simp only [Ph.wt,bareOf,wdsWt];omega) (ksame_spec t zeroTy hbig (by decide));have hih:=ih t (depth + 1) m hk hbig (by omega) (by omega) hm0 hm1;obtain ⟨u,us⟩:=t;have hcoa:=kcoarse_spec p (dTy (.mk u us)) (.mk u us) rfl hp;have hS:=partF.eq_def p (.mk u us) un depth m;generalize partF p (.mk u us) un depth m=F at hS ⊢;obtain ⟨nm,bare,lab,wide,ck,cn,ca,cl⟩:=p;simp only at hS hp' hsame
 cases bare with
 | true=>
  rw [if_pos rfl] at hS
  cases un with
  | true=>
   refine ev_go (P:=Tryz.prog) tt tt_ok 5000 68 [.cell 8 46] Tryz.func383 rfl Tryz.ntmps383 rfl (nL rfl) (fun E9 w9 hn9 hm9=>?_);refine call_p en245 (hsame) ax rfl ?_;refine br (fun q=>?_) (fun q=>?_)
   ·have q:samePartB ⟨nm,true,lab,wide,ck,cn,ca,cl⟩ (.mk u us) (bareOf ⟨nm,true,lab,wide,ck,cn,ca,cl⟩) zeroTy=false:=by simpa [show (lastG (21,false) [(18,true)]).snd=true from rfl,pickB] using q
    rw [if_pos (.inr q)] at hS;refine call_p en322 (bad_spec 19 nm.a) ax rfl ?_;exact ⟨_,_,ax,ax,chkR_mk (tk:=[]) (f:=(19,nm.a)) hS (fun _=>rfl)⟩
   ·have q:samePartB ⟨nm,true,lab,wide,ck,cn,ca,cl⟩ (.mk u us) (bareOf ⟨nm,true,lab,wide,ck,cn,ca,cl⟩) zeroTy=true:=by simpa [show (lastG (21,false) [(18,true)]).snd=true from rfl,pickB] using q
    rw [if_neg (by simp [q])] at hS;exact ⟨_,_,ax,ax,chkR_mk (tk:=[]) (f:=(0,0)) hS (fun _=>rfl)⟩
  | false=>
   refine ev_go (P:=Tryz.prog) tt tt_ok 5000 68 [.cell 8 46] Tryz.func383 rfl Tryz.ntmps383 rfl (nL rfl) (fun E9 w9 hn9 hm9=>?_);rw [if_pos (.inl rfl)] at hS;refine call_p en322 (bad_spec 19 nm.a) ax rfl ?_;exact ⟨_,_,ax,ax,chkR_mk (tk:=[]) (f:=(19,nm.a)) hS (fun _=>rfl)⟩
 | false=>
  rw [if_neg (by simp)] at hS;refine ev_go (P:=Tryz.prog) tt tt_ok 5000 68 [.cell 8 46] Tryz.func383 rfl Tryz.ntmps383 rfl (nL rfl) (fun E9 w9 hn9 hm9=>?_);refine br (fun hw=>?_) (fun hw=>?_)
  ·have hw:wide < 0∨64 < wide:=by simpa [pickB_or] using hw
   have hP:partWd ⟨nm,false,lab,wide,ck,cn,ca,cl⟩=(20,nm.a):=by simp only [partWd,if_pos hw]
   rw [hP,if_pos (by simp)] at hS;refine call_p en322 (bad_spec 20 nm.a) ax rfl ?_;exact ⟨_,_,ax,ax,chkR_mk (tk:=[]) (f:=(20,nm.a)) hS (fun _=>rfl)⟩
  have hw:¬ (wide < 0∨64 < wide):=by simp [pickB_or] at hw;omega
  refine call_p en432 (klabel_spec lab (by omega)) ax rfl ?_;refine br (fun hb=>?_) (fun hb=>?_)
  ·have hb:(labelF lab).1≠0:=by simpa using hb
   have hP:partWd ⟨nm,false,lab,wide,ck,cn,ca,cl⟩=labelF lab:=by simp only [partWd,if_neg hw,if_pos hb]
   rw [hP,if_pos hb] at hS;exact ⟨_,_,ax,ax,chkR_mk (tk:=[]) (f:=labelF lab) hS (fun _=>rfl)⟩
  have hb:(labelF lab).1=0:=by simpa using hb
  have hP:partWd ⟨nm,false,lab,wide,ck,cn,ca,cl⟩=coarseF ⟨nm,false,lab,wide,ck,cn,ca,cl⟩:=by simp only [partWd,if_neg hw];rw [if_neg (by simp [hb])]
  rw [hP] at hS;refine call_p en433 (hcoa) ax rfl ?_;refine br (fun hc=>?_) (fun hc=>?_)
  ·have hc:(coarseF ⟨nm,false,lab,wide,ck,cn,ca,cl⟩).1≠0:=by simpa using hc
   rw [if_pos hc] at hS;exact ⟨_,_,ax,ax,chkR_mk (tk:=[]) (f:=coarseF ⟨nm,false,lab,wide,ck,cn,ca,cl⟩) hS (fun _=>rfl)⟩
  have hc:(coarseF ⟨nm,false,lab,wide,ck,cn,ca,cl⟩).1=0:=by simpa using hc
  rw [if_neg (by simp [hc])] at hS;refine call_o en222 rfl rfl ax (by repeat' (first | exact rfl | exact trivial | exact Or.inr (Or.inl ⟨_,rfl⟩) | exact Or.inr ⟨_,rfl⟩ | exact Or.inl ⟨rfl,rfl⟩ | exact Or.inl rfl | refine Or.inr ⟨_,_,rfl,Nat.zero_le _,rfl,?_⟩ | refine ⟨_,_,rfl,?_,?_⟩ | refine ⟨_,rfl,?_⟩ | exact congrArg (fun z=>DV.v (.int .i64 z)) (wrap64 (by omega) (by omega)) | refine Or.inr (Or.inr (Or.inr ⟨_,_,rfl,?_⟩)) | exact Or.inl rfl | refine Or.inr ?_)) hih chkR_cl (fun r cs2 hr=>?_);obtain ⟨rfl,z,hz,hzz⟩:=hr;simp only [List.cons.injEq,and_true] at hz;subst hz;exact ⟨_,_,ax,ax,chkR_mk (tk:=[]) (f:=(wrong (.mk u us) (depth + 1) m).1) hS hzz⟩
theorem wrongPts_part {kind:Int} {all:List Wd} {i:Nat} {p:Ph} {t:Ty} {r:Pts} {depth m:Int} (hk:kind=7∨kind=8) (hl:listedF all i p.name=0) :
  wrongPts kind all i (.cons p t r) depth m=if (partF p t (decide (kind=8)) depth m).1.1≠0 then partF p t (decide (kind=8)) depth m else wrongPts kind all (i + 1) r depth (partF p t (decide (kind=8)) depth m).2:=by
 simp only [wrongPts];rw [if_neg (by simp [hl])];unfold partF;by_cases hb:p.bare=true
 ·rw [if_pos hb,if_pos hb,bare_eq];by_cases h7:kind=7
  ·subst h7;rw [if_pos (.inl rfl),if_pos (c:=decide ((7:Int)=8)=false∨_) (.inl (by simp)),if_pos (by simp)]
  ·have h8:kind=8:=by omega
   subst h8;by_cases h:sameTy t zeroTy=false∨plainP p barePh=false
   ·have h':decide ((8:Int)=8)=false∨(plainP p barePh && sameTy t zeroTy)=false:=.inr (by rcases h with h | h<;>simp [h]);rw [if_pos (.inr h),if_pos h',if_pos (by simp)]
   ·have h1:sameTy t zeroTy=true:=by
     cases hc:sameTy t zeroTy
     ·exact absurd (.inl hc) h
     ·rfl
    have h2:plainP p barePh=true:=by
     cases hc:plainP p barePh
     ·exact absurd (.inr hc) h
     ·rfl
    have h':¬ (decide ((8:Int)=8)=false∨(plainP p barePh && sameTy t zeroTy)=false):=by simp [h1,h2]
    rw [if_neg (by simp [h1,h2]),if_neg h',if_neg (by simp)]
 ·rw [if_neg hb,if_neg hb];by_cases hP:(partWd p).1≠0
  ·rw [if_pos hP,if_pos hP,if_pos hP]
  ·rw [if_neg hP,if_neg hP]
theorem partF_ok {p:Ph} {t:Ty} {un:Bool} {depth m:Int} (hm0:0<=m) (hm1:m<=512) (h:(partF p t un depth m).1.1=0):(partF p t un depth m).1=(0,0)/\0<=(partF p t un depth m).2/\(partF p t un depth m).2<=512:=by
 have hw:=wrong_ok t (depth + 1) m hm0;unfold partF at h ⊢;by_cases hb:p.bare=true
 ·rw [if_pos hb] at h ⊢;split at h
  ·simp at h
  ·rename_i hc;rw [if_neg hc];exact ⟨rfl,hm0,hm1⟩
 ·rw [if_neg hb] at h ⊢;by_cases hP:(partWd p).1≠0
  ·rw [if_pos hP] at h;exact absurd h hP
  ·rw [if_neg hP] at h ⊢;exact hw h
abbrev kpartsSt (h:Hd) (ps:Pts) (n e:Nat) (depth m:Int):St:=
 ⟨[(0,⟨[],.loc 0 0⟩),(2,⟨[],.v (.int .i64 depth)⟩),(4,⟨[],.loc 1 0⟩),(6,⟨[],.loc 2 0⟩),(38,⟨[],.sl 18 (dPts ps) none⟩),(39,⟨[],.v (.int .i64 (dPts ps).length)⟩),(40,⟨[],.v (.int .i64 e)⟩),(7,⟨[],.sl 1 (dBs (nmTx ((pNames ps).take e))) (some 0)⟩)],
  [[.v (.int .i64 m)],dTy (.mk h ps),[.v (.int .i64 0),.v (.int .i64 0)]],[⟨n,9,1,none⟩]⟩
theorem kparts_spec (k:Nat) (ih:KChk k) (h:Hd) (ps:Pts) (depth m:Int) (hkd:h.kind=7∨h.kind=8) (hk:ps.wt<=k) (hbig:(Ty.mk h ps).wt<=1099511627776) (hd0:0<=depth) (hd1:depth<=24) (hm0:0<=m) (hm1:m<=512) :
  Ev Tryz.prog 326 [.loc 0 0,.agg (dTy (.mk h ps)),.v (.int .i64 depth)] [[.v (.int .i64 m)]] [] (ChkR (partsF h ps depth m)):=by
 simp only [Ty.wt,Hd.wt] at hbig;have hpl:=ps.wt_len;have hnl:=pNames_len ps;have hnw:=pNames_wt ps;have hS:=partsF.eq_def h ps depth m;generalize partsF h ps depth m=F at hS ⊢;refine ev_go (P:=Tryz.prog) tt tt_ok 5000 72 [.cell 6 46] Tryz.func326 rfl Tryz.ntmps326 rfl (nL rfl) (fun E9 w9 hn9 hm9=>?_);refine br (fun c1=>?_) (fun c1=>?_)
 ·have c1:h.kind=8/\ps.len=0:=by
   simp [pickB_and,dPts_len] at c1;exact ⟨c1.1,by omega⟩
  rw [if_pos c1] at hS;refine call_p en322 (bad_spec 15 h.at') ax rfl ?_;exact ⟨_,_,ax,ax,chkR_mk (tk:=[]) (f:=(15,h.at')) hS (fun _=>rfl)⟩
 have c1:¬ (h.kind=8/\ps.len=0):=by
  simp [pickB_and,dPts_len] at c1;omega
 rw [if_neg c1] at hS;refine br (fun c2=>?_) (fun c2=>?_)
 ·have hlt:64 < ps.len:=by simp [dPts_len] at c2;omega
  obtain ⟨p,t,hx⟩:=Pts.get_lt hlt;refine ⟨_,⟨by omega,dPts_get hx⟩,?_⟩;refine call_p en322 (bad_spec 8 p.name.a) ax rfl ?_;rw [if_pos hlt,pNames_get hx] at hS;exact ⟨_,_,ax,ax,chkR_mk (tk:=[]) (f:=(8,p.name.a)) hS (fun _=>rfl)⟩
 have c2:¬ 64 < ps.len:=by simp [dPts_len] at c2;omega
 rw [if_neg c2] at hS
 refine loop_i (fun j st=>∃ (e:Nat) (m':Int),st=kpartsSt h ps e e depth m' /\ e<=ps.len/\0<=m' /\ m' <= 512/\(nmTx ((pNames ps).take e)).Nodup /\
   F=wrongPts h.kind (pNames ps) e (ps.drop e) depth m' /\ j=ps.len - e) ps.len (kpartsSt h ps 0 0 depth m) (weak_tok ⟨0,9,1,none⟩ rfl ⟨_,rfl⟩ rfl wA rfl rfl wTB) ⟨0,m,rfl,by omega,hm0,hm1,by simp [nmTx],hS,by omega⟩ ?_
 rintro j st ⟨e,m',rfl,he,hm0',hm1',hnd,heq,rfl⟩;refine br (fun hL=>?_) (fun hL=>?_)
 ·have hlt:e < ps.len:=by simpa [dPts_len] using hL
  obtain ⟨p,t,hx⟩:=Pts.get_lt hlt;have hwt:=Pts.wt_mem (mG hx);have hnx:=pNames_get hx;have hpw:p.name.s.size + 64<=p.wt:=by simp only [Ph.wt,Wd.wt];omega
  rw [Pts.drop_cons hx] at heq
  have hlast:(nmTx ((pNames ps).take (e + 1)))[(nmTx ((pNames ps).take (e + 1))).length - 1]? = some p.name.s:=by
   have hl1:(nmTx ((pNames ps).take (e + 1))).length=e + 1:=by simp [nmTx];omega
   rw [hl1];simp [nmTx,hnx]
  have hsp:=listed_spec (nmTx ((pNames ps).take (e + 1))) p.name.s p.name.a hlast (by simp [nmTx];omega) (by omega);have hsn:=nmTx_snoc hnx;rw [listed_eq p.name.a hnx hnd,<- hsn] at hsp;have hpart:=kpart_spec k ih p t (decide (h.kind=8)) depth m' (by omega) (by omega) (by omega) hd0 hd1 hm0' hm1';obtain ⟨u,us⟩:=t;refine ⟨_,⟨by omega,dPts_get hx⟩,?_⟩;refine ⟨by simp [dBs_len,nmTx];omega,⟨by simp [dBs_len,nmTx,maxLen];omega,by simp [dBs_len,nmTx];omega⟩,?_⟩;refine call_p en381 (hsp) ax rfl ?_;by_cases hl:listedF (pNames ps) e p.name≠0
  ·rw [if_pos hl];refine br (fun hf=>?_) (fun hf=>?_)
   ·simp only [wrongPts] at heq;rw [if_pos hl] at heq;exact ⟨_,_,ax,ax,chkR_mk (tk:=[]) (f:=(listedF (pNames ps) e p.name,p.name.a)) heq (fun _=>rfl)⟩
   ·exact absurd (by simpa using hf) hl
  have hl:listedF (pNames ps) e p.name=0:=by simpa using hl
  have hndn:=listed_nodup hnx hnd hl;rw [if_neg (by simp [hl])];rw [wrongPts_part hkd hl] at heq;have hok:=partF_ok (p:=p) (t:=.mk u us) (un:=decide (h.kind=8)) (depth:=depth) hm0' hm1';generalize partF p (.mk u us) (decide (h.kind=8)) depth m'=r at hpart heq hok;obtain ⟨⟨fe,fa⟩,many⟩:=r;simp only at heq hok;refine call_o en383 rfl rfl ax ax hpart chkR_cl (fun r cs2 hr=>?_);obtain ⟨rfl,z,hz,hzz⟩:=hr;simp only [List.cons.injEq,and_true] at hz;subst hz;refine br (fun hd=>?_) (fun hd=>?_)
  ·have hd:fe≠0:=by simpa using hd
   rw [if_pos hd] at heq;exact ⟨_,_,ax,ax,chkR_mk (tk:=[]) (f:=(fe,fa)) heq (fun h0=>absurd h0 hd)⟩
  ·have hd:fe=0:=by simpa using hd
   subst hd;obtain ⟨_,h2,h3⟩:=hok rfl;rw [if_neg (by simp)] at heq;have hz2:z=many:=hzz rfl;subst hz2;exact ⟨kpartsSt h ps (e + 1) (e + 1) depth z,(weak_mk ⟨_,rfl⟩ wA rfl rfl rfl (wSB hlt hsn)),ps.len - (e + 1),by omega,e + 1,z,rfl,by omega,h2,h3,hndn,heq,rfl⟩
 ·have hge:e=ps.len:=by simp [dPts_len] at hL;omega
  rw [hge,Pts.drop_len] at heq;simp only [wrongPts] at heq;exact ⟨_,_,ax,ax,chkR_mk (tk:=[]) (f:=(0,0)) heq (fun _=>rfl)⟩
theorem kone_spec (k:Nat) (ih:KChk k) (h:Hd) (ps:Pts) (depth m:Int) (hk:ps.wt<=k) (hbig:(Ty.mk h ps).wt<=1099511627776) (hd0:0<=depth) (hd1:depth<=24) (hm0:0<=m) (hm1:m<=512) :
  Ev Tryz.prog 325 [.loc 0 0,.agg (dTy (.mk h ps)),.v (.int .i64 depth)] [[.v (.int .i64 m)]] [] (ChkR (wrongOne h ps depth m)):=by
 simp only [Ty.wt,Hd.wt] at hbig
 cases ps with
 | nil=>
  have hS:wrongOne h .nil depth m=((19,h.at'),m):=by simp only [wrongOne]
  generalize wrongOne h .nil depth m=F at hS ⊢;refine ev_go (P:=Tryz.prog) tt tt_ok 5000 44 [.cell 6 46] Tryz.func325 rfl Tryz.ntmps325 rfl (nL rfl) (fun E9 w9 hn9 hm9=>?_);refine call_p en322 (bad_spec 19 h.at') ax rfl ?_;exact ⟨_,_,ax,ax,chkR_mk (tk:=[]) (f:=(19,h.at')) hS (fun _=>rfl)⟩
 | cons p t r=>
  cases r with
  | cons p2 t2 r2=>
   have hS:wrongOne h (.cons p t (.cons p2 t2 r2)) depth m=((19,h.at'),m):=by simp only [wrongOne]
   generalize wrongOne h (.cons p t (.cons p2 t2 r2)) depth m=F at hS ⊢;refine ev_go (P:=Tryz.prog) tt tt_ok 5000 44 [.cell 6 46] Tryz.func325 rfl Tryz.ntmps325 rfl (nL rfl) (fun E9 w9 hn9 hm9=>?_);refine call_p en322 (bad_spec 19 h.at') ax rfl ?_;exact ⟨_,_,ax,ax,chkR_mk (tk:=[]) (f:=(19,h.at')) hS (fun _=>rfl)⟩
  | nil=>
   simp only [Pts.wt] at hbig hk;have hS:wrongOne h (.cons p t .nil) depth m=if p.name.s≠emptyB∨plainP p zeroPh=false then ((19,h.at'),m) else if h.most < 0∨1024 < h.most then ((20,h.at'),m) else wrong t (depth + 1) m:=by simp only [wrongOne]
   generalize wrongOne h (.cons p t .nil) depth m=F at hS ⊢;have hem:=kempty_spec p t (by omega);rw [empty_eq] at hem;have hih:=ih t (depth + 1) m (by omega) (by omega) (by omega) (by omega) hm0 hm1;obtain ⟨u,us⟩:=t;refine ev_go (P:=Tryz.prog) tt tt_ok 5000 44 [.cell 6 46] Tryz.func325 rfl Tryz.ntmps325 rfl (nL rfl) (fun E9 w9 hn9 hm9=>?_);refine ⟨_,⟨by omega,rfl⟩,?_⟩;refine call_p en382 (hem) ax rfl ?_;refine br (fun q=>?_) (fun q=>?_)
   ·have q:p.name.s≠emptyB∨plainP p zeroPh=false:=by
     have:=q;simp [pickB] at this;exact this
    rw [if_pos q] at hS;refine call_p en322 (bad_spec 19 h.at') ax rfl ?_;exact ⟨_,_,ax,ax,chkR_mk (tk:=[]) (f:=(19,h.at')) hS (fun _=>rfl)⟩
   have q:¬ (p.name.s≠emptyB∨plainP p zeroPh=false):=by
    have:=q;simp [pickB] at this;simp [this.1,this.2]
   rw [if_neg q] at hS;refine br (fun x=>?_) (fun x=>?_)
   ·have x:h.most < 0∨1024 < h.most:=by simpa [pickB_or] using x
    rw [if_pos x] at hS;refine call_p en322 (bad_spec 20 h.at') ax rfl ?_;exact ⟨_,_,ax,ax,chkR_mk (tk:=[]) (f:=(20,h.at')) hS (fun _=>rfl)⟩
   have x:¬ (h.most < 0∨1024 < h.most):=by simp [pickB_or] at x;omega
   rw [if_neg x] at hS;refine ⟨_,⟨by omega,rfl⟩,?_⟩;refine call_o en222 rfl rfl ax (by repeat' (first | exact rfl | exact trivial | exact Or.inr (Or.inl ⟨_,rfl⟩) | exact Or.inr ⟨_,rfl⟩ | exact Or.inl ⟨rfl,rfl⟩ | exact Or.inl rfl | refine Or.inr ⟨_,_,rfl,Nat.zero_le _,rfl,?_⟩ | refine ⟨_,_,rfl,?_,?_⟩ | refine ⟨_,rfl,?_⟩ | exact congrArg (fun z=>DV.v (.int .i64 z)) (wrap64 (by omega) (by omega)) | refine Or.inr (Or.inr (Or.inr ⟨_,_,rfl,?_⟩)) | exact Or.inl rfl | refine Or.inr ?_)) hih chkR_cl (fun r cs2 hr=>?_);obtain ⟨rfl,z,hz,hzz⟩:=hr;simp only [List.cons.injEq,and_true] at hz;subst hz;exact ⟨_,_,ax,ax,chkR_mk (tk:=[]) (f:=(wrong (.mk u us) (depth + 1) m).1) hS hzz⟩
theorem kcheck_step (k:Nat) (ih:KChk k) (h:Hd) (ps:Pts) (depth m:Int) (hk:ps.wt<=k) (hbig:(Ty.mk h ps).wt<=1099511627776) (hd0:0<=depth) (hd1:depth<=25) (hm0:0<=m) (hm1:m<=512) :
  Ev Tryz.prog 222 [.loc 0 0,.agg (dTy (.mk h ps)),.v (.int .i64 depth)] [[.v (.int .i64 m)]] [] (ChkR (wrong (.mk h ps) depth m)):=by
 have hbig':=hbig;simp only [Ty.wt,Hd.wt] at hbig';have hmw:IntKind.i64.wrap (m + 1)=m + 1:=wrap64 (by omega) (by omega);have hS:=wrong.eq_def (.mk h ps) depth m;simp only at hS;generalize wrong (.mk h ps) depth m=F at hS ⊢;have hown:=kown_spec h ps;rw [ownF_eq] at hown;refine ev_go (P:=Tryz.prog) tt tt_ok 5000 103 [.cell 6 46] Tryz.func222 rfl Tryz.ntmps222 rfl (nL rfl) (fun E9 w9 hn9 hm9=>?_);refine br (fun c=>?_) (fun c=>?_)
 ·have c:24 < depth:=of_decide_eq_true c;rw [if_pos c] at hS;refine call_p en322 (bad_spec 6 h.at') ax rfl ?_;exact ⟨_,[[.v (.int .i64 (m + 1))]],ax,(aI hmw),chkR_mk (tk:=[]) (f:=(6,h.at')) hS (fun _=>rfl)⟩
 have c:¬ 24 < depth:=of_decide_eq_false c;rw [if_neg c] at hS;refine br (fun c=>?_) (fun c=>?_)
 ·have c:512 < IntKind.i64.wrap (m + 1):=of_decide_eq_true c;rw [hmw] at c;rw [if_pos c] at hS;refine call_p en322 (bad_spec 8 h.at') ax rfl ?_;exact ⟨_,[[.v (.int .i64 (m + 1))]],ax,(aI hmw),chkR_mk (tk:=[]) (f:=(8,h.at')) hS (fun _=>rfl)⟩
 have c:¬ 512 < IntKind.i64.wrap (m + 1):=of_decide_eq_false c;rw [hmw] at c;rw [if_neg c] at hS;refine br (fun c=>?_) (fun c=>?_)
 ·have c:h.kind < 1∨9 < h.kind:=by simpa [pickB_or] using c
  rw [if_pos c] at hS;refine call_p en322 (bad_spec 14 h.at') ax rfl ?_;exact ⟨_,[[.v (.int .i64 (m + 1))]],ax,(aI hmw),chkR_mk (tk:=[]) (f:=(14,h.at')) hS (fun _=>rfl)⟩
 have ck:¬ (h.kind < 1∨9 < h.kind):=by simp [pickB_or] at c;omega
 rw [if_neg ck] at hS;refine call_p en323 (hown) ax rfl ?_;refine br (fun c=>?_) (fun c=>?_)
 ·have c:ownB (.mk h ps)=false:=by simpa [ownB] using c
  rw [if_pos c] at hS;refine call_p en322 (bad_spec 19 h.at') ax rfl ?_;exact ⟨_,[[.v (.int .i64 (m + 1))]],ax,(aI hmw),chkR_mk (tk:=[]) (f:=(19,h.at')) hS (fun _=>rfl)⟩
 have c:¬ ownB (.mk h ps)=false:=by simpa [ownB] using c
 rw [if_neg c] at hS;refine br (fun k2=>?_) (fun k2=>?_)
 ·have k2:h.kind=2:=of_decide_eq_true k2;refine br (fun x=>?_) (fun x=>?_)
  ·have x:h.hi < h.lo:=of_decide_eq_true x;rw [if_pos (.inl ⟨k2,x⟩)] at hS;refine call_p en322 (bad_spec 20 h.at') ax rfl ?_;exact ⟨_,[[.v (.int .i64 (m + 1))]],ax,(aI hmw),chkR_mk (tk:=[]) (f:=(20,h.at')) hS (fun _=>rfl)⟩
  have x:¬ h.hi < h.lo:=of_decide_eq_false x;rw [if_neg (by omega),if_neg (by omega),if_neg (by omega),if_neg (by omega),if_neg (by omega)] at hS;exact ⟨_,[[.v (.int .i64 (m + 1))]],ax,(aI hmw),chkR_mk (tk:=[]) (f:=(0,0)) hS (fun _=>rfl)⟩
 have k2:¬ h.kind=2:=of_decide_eq_false k2;refine br (fun k3=>?_) (fun k3=>?_)
 ·have k3:h.kind=3:=of_decide_eq_true k3;refine br (fun x=>?_) (fun x=>?_)
  ·have x:h.most < 0∨4096 < h.most:=by simpa [pickB_or] using x
   rw [if_pos (.inr ⟨k3,x⟩)] at hS;refine call_p en322 (bad_spec 20 h.at') ax rfl ?_;exact ⟨_,[[.v (.int .i64 (m + 1))]],ax,(aI hmw),chkR_mk (tk:=[]) (f:=(20,h.at')) hS (fun _=>rfl)⟩
  have x:¬ (h.most < 0∨4096 < h.most):=by simp [pickB_or] at x;omega
  rw [if_neg (by omega),if_neg (by omega),if_neg (by omega),if_neg (by omega),if_neg (by omega)] at hS;exact ⟨_,[[.v (.int .i64 (m + 1))]],ax,(aI hmw),chkR_mk (tk:=[]) (f:=(0,0)) hS (fun _=>rfl)⟩
 have k3:¬ h.kind=3:=of_decide_eq_false k3;rw [if_neg (by omega)] at hS;refine br (fun k4=>?_) (fun k4=>?_)
 ·have k4:h.kind=4:=of_decide_eq_true k4;rw [if_neg (by omega),if_pos k4,<- kenum_eq] at hS;refine call_p en324 (kenum_spec h ps (by omega)) ax rfl ?_;exact ⟨_,[[.v (.int .i64 (m + 1))]],ax,(aI hmw),chkR_mk (tk:=[]) (f:=kenumF h) hS (fun _=>rfl)⟩
 have k4:¬ h.kind=4:=of_decide_eq_false k4;refine br (fun k5=>?_) (fun k5=>?_)
 ·have k5':h.kind=5∨h.kind=6:=.inl (of_decide_eq_true k5);rw [if_neg (by omega),if_neg (by omega),if_pos k5'] at hS;refine br (fun _=>?_) (fun hc=>by rw [k5] at hc;cases hc);refine call_o en325 rfl rfl (cs':=[.v (.int .i64 (m + 1))]) (aI hmw) ax (kone_spec k ih h ps depth (m + 1) hk hbig hd0 (by omega) (by omega) (by omega)) chkR_cl (fun r cs2 hr=>?_);obtain ⟨rfl,z,hz,hzz⟩:=hr;simp only [List.cons.injEq,and_true] at hz;subst hz;exact ⟨_,_,ax,ax,chkR_mk (tk:=[]) (f:=(wrongOne h ps depth (m + 1)).1) hS hzz⟩
 have k5:¬ h.kind=5:=of_decide_eq_false k5;refine br (fun k6=>?_) (fun k6=>?_)
 ·have k5':h.kind=5∨h.kind=6:=.inr (of_decide_eq_true k6);rw [if_neg (by omega),if_neg (by omega),if_pos k5'] at hS;refine call_o en325 rfl rfl (cs':=[.v (.int .i64 (m + 1))]) (aI hmw) ax (kone_spec k ih h ps depth (m + 1) hk hbig hd0 (by omega) (by omega) (by omega)) chkR_cl (fun r cs2 hr=>?_);obtain ⟨rfl,z,hz,hzz⟩:=hr;simp only [List.cons.injEq,and_true] at hz;subst hz;exact ⟨_,_,ax,ax,chkR_mk (tk:=[]) (f:=(wrongOne h ps depth (m + 1)).1) hS hzz⟩
 have k6:¬ h.kind=6:=of_decide_eq_false k6;have hP:partsF h ps depth (m + 1)=partsF h ps depth (m + 1):=rfl
 conv at hP=>lhs;unfold partsF
 refine br (fun k7=>?_) (fun k7=>?_)
 ·have k7':h.kind=7∨h.kind=8:=.inl (of_decide_eq_true k7);rw [if_neg (by omega),if_neg (by omega),if_neg (by omega),if_pos k7',hP] at hS;refine br (fun _=>?_) (fun hc=>by rw [k7] at hc;cases hc);refine call_o en326 rfl rfl (cs':=[.v (.int .i64 (m + 1))]) (aI hmw) ax (kparts_spec k ih h ps depth (m + 1) k7' hk hbig hd0 (by omega) (by omega) (by omega)) chkR_cl (fun r cs2 hr=>?_);obtain ⟨rfl,z,hz,hzz⟩:=hr;simp only [List.cons.injEq,and_true] at hz;subst hz;exact ⟨_,_,ax,ax,chkR_mk (tk:=[]) (f:=(partsF h ps depth (m + 1)).1) hS hzz⟩
 have k7:¬ h.kind=7:=of_decide_eq_false k7;refine br (fun k8=>?_) (fun k8=>?_)
 ·have k7':h.kind=7∨h.kind=8:=.inr (of_decide_eq_true k8);rw [if_neg (by omega),if_neg (by omega),if_neg (by omega),if_pos k7',hP] at hS;refine call_o en326 rfl rfl (cs':=[.v (.int .i64 (m + 1))]) (aI hmw) ax (kparts_spec k ih h ps depth (m + 1) k7' hk hbig hd0 (by omega) (by omega) (by omega)) chkR_cl (fun r cs2 hr=>?_);obtain ⟨rfl,z,hz,hzz⟩:=hr;simp only [List.cons.injEq,and_true] at hz;subst hz;exact ⟨_,_,ax,ax,chkR_mk (tk:=[]) (f:=(partsF h ps depth (m + 1)).1) hS hzz⟩
 have k8:¬ h.kind=8:=of_decide_eq_false k8;refine br (fun k9=>?_) (fun k9=>?_)
 ·have k9:h.kind=9:=of_decide_eq_true k9;refine call_p en118 (right_spec h.name.s (by simp only [Wd.wt] at hbig';omega)) ax rfl ?_;refine br (fun q=>?_) (fun q=>?_)
  ·have q:nameOK h.name.s=false:=by simpa using q
   rw [if_pos ⟨k9,q⟩] at hS;refine call_p en322 (bad_spec 9 h.name.a) ax rfl ?_;exact ⟨_,[[.v (.int .i64 (m + 1))]],ax,(aI hmw),chkR_mk (tk:=[]) (f:=(9,h.name.a)) hS (fun _=>rfl)⟩
  ·have q:nameOK h.name.s=true:=by simpa using q
   rw [if_neg (by simp [q]),if_neg (by omega),if_neg (by omega),if_neg (by omega)] at hS;exact ⟨_,[[.v (.int .i64 (m + 1))]],ax,(aI hmw),chkR_mk (tk:=[]) (f:=(0,0)) hS (fun _=>rfl)⟩
 have k9:¬ h.kind=9:=of_decide_eq_false k9;rw [if_neg (by omega),if_neg (by omega),if_neg (by omega),if_neg (by omega)] at hS;exact ⟨_,[[.v (.int .i64 (m + 1))]],ax,(aI hmw),chkR_mk (tk:=[]) (f:=(0,0)) hS (fun _=>rfl)⟩
theorem kchk_any:∀ k,KChk k
 | 0=>fun t depth m hk=>by have:=t.wt_pos;omega
 | k + 1=>fun t depth m hk hbig hd0 hd1 hm0 hm1=>by
  obtain ⟨h,ps⟩:=t;have hk':=hk;simp only [Ty.wt,Hd.wt] at hk';exact kcheck_step k (kchk_any k) h ps depth m (by omega) hbig hd0 hd1 hm0 hm1
theorem kright_spec (t:Ty) (hbig:t.wt<=1099511627776):EvP Tryz.prog 120 [.agg (dTy t)] (wrong t 1 0).1.d:=
 kright_of t (kchk_any t.wt t 1 0 (Nat.le_refl _) hbig (by omega) (by omega) (by omega) (by omega))
abbrev cntSt (t:Ty) (ps:Pts) (e n:Nat):St:=
 ⟨[(1,⟨[],.loc 0 0⟩),(3,⟨[],.v (.int .i64 n)⟩),(7,⟨[],.sl 18 (dPts ps) none⟩),(8,⟨[],.v (.int .i64 (dPts ps).length)⟩),(9,⟨[],.v (.int .i64 e)⟩)],[dTy t],[]⟩
theorem count_spec:∀ (k:Nat) (t:Ty),t.wt<=k->t.wt<=1099511627776 ->
  EvP Tryz.prog 187 [.agg (dTy t)] (.v (.int .i64 t.cnt))
 | 0,t,hn,_=>by have:=t.wt_pos;omega
 | k + 1,.mk h ps,hn,hbig=>by
  simp only [Ty.wt,Hd.wt] at hn hbig;have hpl:=ps.wt_len;have hc:=ps.cnt_wt;refine ev_go (P:=Tryz.prog) tt tt_ok 5000 23 [.tmp 2] Tryz.func187 rfl Tryz.ntmps187 rfl (nL rfl) (fun E9 w9 hn9 hm9=>?_)
  refine loop_i (fun j st=>∃ (e n:Nat),st=cntSt (.mk h ps) ps e n/\e<=ps.len/\n + (ps.drop e).cnt=1 + ps.cnt/\j=ps.len - e) ps.len
   (cntSt (.mk h ps) ps 0 1) (weak_mk ⟨_,rfl⟩ wA rfl rfl rfl wB) ⟨0,1,rfl,by omega,rfl,by omega⟩ ?_
  rintro j st ⟨e,n,rfl,he,hne,rfl⟩;refine br (fun hL=>?_) (fun hL=>?_)
  ·have hlt:e < ps.len:=by simpa [dPts_len] using hL
   obtain ⟨p,t,hx⟩:=Pts.get_lt hlt;have hwt:=Pts.wt_mem (mG hx);rw [Pts.drop_cons hx] at hne;simp only [Pts.cnt] at hne;have hct:=t.cnt_wt;obtain ⟨u,us⟩:=t;refine ⟨_,⟨by omega,dPts_get hx⟩,?_⟩;refine br (fun hB=>?_) (fun hB=>?_)
   ·have hB:p.bare=false:=by simpa using hB
    rw [hB] at hne;have hne:n + ((Ty.mk u us).cnt + (ps.drop (e + 1)).cnt)=1 + ps.cnt:=hne;refine call_p en187 (count_spec k (.mk u us) (by omega) (by omega)) ax rfl ?_;have hw4:IntKind.i64.wrap ((n:Int) + (Ty.mk u us).cnt)=((n + (Ty.mk u us).cnt:Nat):Int):=by rw [wrap64 (by omega) (by omega)];omega
    exact ⟨cntSt (.mk h ps) ps (e + 1) (n + (Ty.mk u us).cnt),(weak_mk ⟨_,rfl⟩ wA rfl rfl rfl (by repeat' (first | exact trivial | exact we_rfl rfl | exact we_int hw4 | exact we_int (nxt hlt (by omega)) | refine ⟨⟨_,rfl,?_⟩,?_⟩))),ps.len - (e + 1),by omega,e + 1,_,rfl,by omega,by omega,rfl⟩
   ·have hB:p.bare=true:=by simpa using hB
    rw [hB] at hne;have hne:n + (0 + (ps.drop (e + 1)).cnt)=1 + ps.cnt:=hne;exact ⟨cntSt (.mk h ps) ps (e + 1) n,(weak_mk ⟨_,rfl⟩ wA rfl rfl rfl (wNB hlt)),ps.len - (e + 1),by omega,e + 1,n,rfl,by omega,by omega,rfl⟩
  ·have hge:e=ps.len:=by simp [dPts_len] at hL;omega
   rw [hge,Pts.drop_len] at hne;simp only [Pts.cnt] at hne;have e2:(n:Int)=((Ty.mk h ps).cnt:Int):=by simp only [Ty.cnt];omega
   refine (congrArg (fun z=>DV.v (.int .i64 z)) ?_:_=_);exact e2
mutual
def Ty.nn:Ty->Nat
 | .mk h ps=>if h.kind=9 then 0 else 1 + ps.nn
def Pts.nn:Pts->Nat
 | .nil=>0
 | .cons p t r=>(if p.bare then 0 else t.nn) + r.nn
end
mutual
theorem Ty.nn_cnt:∀ t:Ty,t.nn<=t.cnt
 | .mk h ps=>by
  have:=Pts.nn_cnt ps;simp only [Ty.nn,Ty.cnt];split<;>omega
theorem Pts.nn_cnt:∀ ps:Pts,ps.nn<=ps.cnt
 | .nil=>Nat.le_refl _
 | .cons p t r=>by
  have:=Ty.nn_cnt t;have:=Pts.nn_cnt r;simp only [Pts.nn,Pts.cnt];split<;>omega
end
abbrev nnSt (t:Ty) (ps:Pts) (e n:Nat):St:=
 ⟨[(1,⟨[],.loc 0 0⟩),(3,⟨[],.v (.int .i64 n)⟩),(10,⟨[],.sl 18 (dPts ps) none⟩),(11,⟨[],.v (.int .i64 (dPts ps).length)⟩),(12,⟨[],.v (.int .i64 e)⟩)],[dTy t],[]⟩
theorem nodes_spec:∀ (k:Nat) (t:Ty),t.wt<=k->t.wt<=1099511627776 ->
  EvP Tryz.prog 190 [.agg (dTy t)] (.v (.int .i64 t.nn))
 | 0,t,hn,_=>by have:=t.wt_pos;omega
 | k + 1,.mk h ps,hn,hbig=>by
  simp only [Ty.wt,Hd.wt] at hn hbig;have hpl:=ps.wt_len;have hc:=ps.cnt_wt;have hc2:=ps.nn_cnt;refine ev_go (P:=Tryz.prog) tt tt_ok 5000 26 [.tmp 2] Tryz.func190 rfl Tryz.ntmps190 rfl (nL rfl) (fun E9 w9 hn9 hm9=>?_);refine br (fun h9=>?_) (fun h9=>?_)
  ·have h9:h.kind=9:=by simpa using h9
   have:(Ty.mk h ps).nn=0:=by simp [Ty.nn,h9]
   rw [this];exact (rfl:_=_)
  have h9:¬ h.kind=9:=by simpa using h9
  refine loop_i (fun j st=>∃ (e n:Nat),st=nnSt (.mk h ps) ps e n/\e<=ps.len/\n + (ps.drop e).nn=1 + ps.nn/\j=ps.len - e) ps.len
   (nnSt (.mk h ps) ps 0 1) (weak_mk ⟨_,rfl⟩ wA rfl rfl rfl wB) ⟨0,1,rfl,by omega,rfl,by omega⟩ ?_
  rintro j st ⟨e,n,rfl,he,hne,rfl⟩;refine br (fun hL=>?_) (fun hL=>?_)
  ·have hlt:e < ps.len:=by simpa [dPts_len] using hL
   obtain ⟨p,t,hx⟩:=Pts.get_lt hlt;have hwt:=Pts.wt_mem (mG hx);rw [Pts.drop_cons hx] at hne;simp only [Pts.nn] at hne;have hct:=t.cnt_wt;have hct2:=t.nn_cnt;obtain ⟨u,us⟩:=t;refine ⟨_,⟨by omega,dPts_get hx⟩,?_⟩;refine br (fun hB=>?_) (fun hB=>?_)
   ·have hB:p.bare=false:=by simpa using hB
    rw [hB] at hne;have hne:n + ((Ty.mk u us).nn + (ps.drop (e + 1)).nn)=1 + ps.nn:=hne;refine call_p en190 (nodes_spec k (.mk u us) (by omega) (by omega)) ax rfl ?_;have hw4:IntKind.i64.wrap ((n:Int) + (Ty.mk u us).nn)=((n + (Ty.mk u us).nn:Nat):Int):=by rw [wrap64 (by omega) (by omega)];omega
    exact ⟨nnSt (.mk h ps) ps (e + 1) (n + (Ty.mk u us).nn),(weak_mk ⟨_,rfl⟩ wA rfl rfl rfl (by repeat' (first | exact trivial | exact we_rfl rfl | exact we_int hw4 | exact we_int (nxt hlt (by omega)) | refine ⟨⟨_,rfl,?_⟩,?_⟩))),ps.len - (e + 1),by omega,e + 1,_,rfl,by omega,by omega,rfl⟩
   ·have hB:p.bare=true:=by simpa using hB
    rw [hB] at hne;have hne:n + (0 + (ps.drop (e + 1)).nn)=1 + ps.nn:=hne;exact ⟨nnSt (.mk h ps) ps (e + 1) n,(weak_mk ⟨_,rfl⟩ wA rfl rfl rfl (wNB hlt)),ps.len - (e + 1),by omega,e + 1,n,rfl,by omega,by omega,rfl⟩
  ·have hge:e=ps.len:=by simp [dPts_len] at hL;omega
   rw [hge,Pts.drop_len] at hne;simp only [Pts.nn] at hne;have e2:(n:Int)=((Ty.mk h ps).nn:Int):=by simp only [Ty.nn,if_neg h9];omega
   refine (congrArg (fun z=>DV.v (.int .i64 z)) ?_:_=_);exact e2
structure Lx where
 names:List ByteArray
 ord:List Nat
 rows:List Nat
 js:List Int
 f:Nat->Nat->Bool
def Lx.pd (X:Lx):DV:=.pt (dLs X.names (dTbl X.names X.ord) X.rows X.js) 0
def Lx.lev (X:Lx) (l:List Wd):Int:=labN X.f X.names l
def Lx.bad (X:Lx) (l:List Wd):Ft:=labW X.names l
structure Lx.OK (X:Lx):Prop where
 hT:TblOK X.names X.ord
 hol:X.ord.length<=1099511627776
 hL:LatOK X.f X.names.length
 hn:X.names.length<=32
 hj:∀ x y,x < X.names.length->y < X.names.length->JM X.f X.names.length X.js x y
theorem Lx.of_spec {X:Lx} (h:X.OK) (l:List Wd) (hs:wdsWt l<=1099511627776):EvP Tryz.prog 188 [X.pd,.sl 2 (dWds l) none] (.tup [.v (.int .i64 (X.lev l)),(X.bad l).d]):=
 lof_spec X.names X.ord X.rows X.js h.hT h.hol h.hL h.hn h.hj l hs
def bC (s:Sch) (lat out:DV) (m:Int):List DV:=.sl 2 (dWds s.levels) none :: .sl 4 (dPrs s.order) none :: .sl 11 (dNms s.types) none :: (dTy s.root ++ [lat,out,.v (.int .i64 m)])
theorem level_spec {X:Lx} (h:X.OK) (s:Sch) (pc:List DV) (m:Int) (l:List Wd) (hs:wdsWt l<=1099511627776) :
  EvP Tryz.prog 311 [.pt (bC s X.pd (.pt pc 0) m) 0,.sl 2 (dWds l) none] (.v (.int .i64 (X.lev l))):=by
 obtain ⟨levels,order,types,⟨rh,rp⟩⟩:=s;refine ev_go (P:=Tryz.prog) tt tt_ok 5000 17 [.tmp 4] Tryz.func311 rfl Tryz.ntmps311 rfl (nL rfl) (fun E9 w9 hn9 hm9=>?_);refine call_p en188 (Lx.of_spec h l hs) ax rfl ?_;exact (rfl:_=_)
def tNm (s:Sch):List Wd:=s.types.map fun x=>x.1
def tL (s:Sch):List ByteArray:=nmTx (tNm s)
theorem tNm_len (s:Sch):(tNm s).length=s.types.length:=by simp [tNm]
theorem tL_len (s:Sch):(tL s).length=s.types.length:=by simp [tL,nmTx,tNm]
def pC (s:Sch) (ord:List Nat) (a b c e:DV):List DV:=[a,b,c,.pt (dTbl (tL s) ord) 0,e]
def refB (s:Sch) (t:Ty):Bool:=decide (t.h.kind=9->ixOf (tL s) t.h.name.s≠none)
def endI (s:Sch):Nat->Nat->Option Nat
 | 0,_=>none
 | k + 1,i=>
  match s.types[i]? with
  | none=>none
  | some x=>if x.2.h.kind=9 then endI s k ((ixOf (tL s) x.2.h.name.s).getD 0) else some i
theorem endI_lt {s:Sch}:∀ {k i j:Nat},endI s k i=some j->j < s.types.length/\∀ x,s.types[j]? = some x->x.2.h.kind≠9
 | 0,i,j,h=>by cases h
 | k + 1,i,j,h=>by
  rw [endI] at h
  cases hx:s.types[i]? with
  | none=>rw [hx] at h;cases h
  | some x=>
   rw [hx] at h;simp only at h;split at h
   ·exact endI_lt h
   ·rename_i hk;simp only [oI] at h;subst h;refine ⟨(gS hx).1,fun y hy=>?_⟩;rw [hx] at hy;simp only [oI] at hy;subst hy;exact hk
abbrev endSt (B:DV) (n i e:Nat):St:=
 ⟨[(0,⟨[],B⟩),(1,⟨[],.v (.int .i64 i)⟩),(12,⟨[],.v (.int .i64 n)⟩),(13,⟨[],.v (.int .i64 e)⟩)],[],[]⟩
theorem end_spec (s:Sch) (lat:DV) (ord:List Nat) (a b c e0:DV) (m:Int) (hT:TblOK (tL s) ord) (hol:ord.length<=1099511627776) (hl:s.types.length<=64) (hr:∀ x∈s.types,refB s x.2=true) (i:Nat) (hi:i < s.types.length) :
  EvP Tryz.prog 189 [.pt (bC s lat (.pt (pC s ord a b c e0) 0) m) 0,.v (.int .i64 i)] (.v (.int .i64 (oz (endI s (s.types.length + 1) i)))):=by
 have htl:=tL_len s;obtain ⟨levels,order,types,⟨rh,rp⟩⟩:=s;simp only at hl hr hi htl;have hN:=dNms_len types;have hcnt:IntKind.i64.wrap ((((dNms types).length:Nat):Int) + 1)=((types.length + 1:Nat):Int):=by rw [hN,wrap64 (by omega) (by omega)];all_goals rfl
 refine ev_go (P:=Tryz.prog) tt tt_ok 5000 43 [.tmp 4] Tryz.func189 rfl Tryz.ntmps189 rfl (nL rfl) (fun E9 w9 hn9 hm9=>?_)
 refine loop_i (fun j st=>∃ e q:Nat,st=endSt (.pt (bC ⟨levels,order,types,.mk rh rp⟩ lat (.pt (pC ⟨levels,order,types,.mk rh rp⟩ ord a b c e0) 0) m) 0) (types.length + 1) q e/\e<=types.length + 1/\q < types.length/\endI ⟨levels,order,types,.mk rh rp⟩ (types.length + 1) i=endI ⟨levels,order,types,.mk rh rp⟩ (types.length + 1 - e) q/\j=types.length + 1 - e) (types.length + 1)
  (endSt (.pt (bC ⟨levels,order,types,.mk rh rp⟩ lat (.pt (pC ⟨levels,order,types,.mk rh rp⟩ ord a b c e0) 0) m) 0) (types.length + 1) i 0) (weak_mk ⟨_,rfl⟩ wA rfl rfl rfl (by repeat' (first | exact trivial | exact we_rfl rfl | exact we_int hcnt | refine ⟨⟨_,rfl,?_⟩,?_⟩))) ⟨0,i,rfl,by omega,hi,rfl,by omega⟩ ?_
 rintro j st ⟨e,q,rfl,he,hq,heq,rfl⟩;refine br (fun hL=>?_) (fun hL=>?_)
 ·have hlt:e < types.length + 1:=by have:=hL;simp at this;omega
  obtain ⟨x,hx⟩:∃ x,types[q]? = some x:=⟨_,gE hq⟩;have hrx:=hr x (mG hx);obtain ⟨xw,⟨xh,xp⟩⟩:=x
  have hst:endI ⟨levels,order,types,.mk rh rp⟩ (types.length + 1 - e) q=if xh.kind=9 then endI ⟨levels,order,types,.mk rh rp⟩ (types.length + 1 - (e + 1)) ((ixOf (tL ⟨levels,order,types,.mk rh rp⟩) xh.name.s).getD 0) else some q:=by
   rw [show types.length + 1 - e=(types.length + 1 - (e + 1)) + 1 by omega,endI];simp only [hx];rfl
  rw [hst] at heq;refine ⟨_,⟨by omega,dNms_get hx⟩,?_⟩;refine br (fun h9=>?_) (fun h9=>?_)
  ·have h9:¬ xh.kind=9:=by simpa using h9
   rw [if_neg h9] at heq;rw [heq];exact (rfl:_=_)
  have h9:xh.kind=9:=by simpa using h9
  rw [if_pos h9] at heq
  have hne:ixOf (tL ⟨levels,order,types,.mk rh rp⟩) xh.name.s≠none:=by
   have:=of_decide_eq_true hrx;exact this h9
  obtain ⟨k,hk⟩:=Option.ne_none_iff_exists'.1 hne;have hkl:=(ixOf_some hk).1;rw [hk] at heq;have hf:=tfind_spec (tL ⟨levels,order,types,.mk rh rp⟩) ord xh.name.s hT hol;rw [hk] at hf;refine drawG_i (fun _=>false) mo (by decide +kernel) ?_;refine callD_p en172 (hf) ax rfl ?_;exact ⟨endSt (.pt (bC ⟨levels,order,types,.mk rh rp⟩ lat (.pt (pC ⟨levels,order,types,.mk rh rp⟩ ord a b c e0) 0) m) 0) (types.length + 1) k (e + 1),(weak_mk ⟨_,rfl⟩ wA rfl rfl rfl (wNB hlt)),types.length + 1 - (e + 1),by omega,e + 1,k,rfl,by omega,by omega,heq,rfl⟩
 ·have hge:e=types.length + 1:=by have:=hL;simp at this;omega
  subst hge;rw [Nat.sub_self] at heq;rw [heq];exact (rfl:_=_)
def loopF (s:Sch):Ft:=
 match firstN (fun i=>(endI s (s.types.length + 1) i).isNone) s.types.length with
 | none=>(0,0)
 | some i=>(11,atN (tNm s) i)
abbrev loopsSt (B:DV) (s:Sch) (e:Nat):St:=
 ⟨[(0,⟨[],B⟩),(2,⟨[],.loc 0 0⟩),(9,⟨[],.sl 11 (dNms s.types) none⟩),(10,⟨[],.v (.int .i64 (dNms s.types).length)⟩),(11,⟨[],.v (.int .i64 e)⟩)],[[.v (.int .i64 0),.v (.int .i64 0)]],[]⟩
theorem loops_spec (s:Sch) (lat:DV) (ord:List Nat) (a b c e0:DV) (m:Int) (hT:TblOK (tL s) ord) (hol:ord.length<=1099511627776) (hl:s.types.length<=64) (hr:∀ x∈s.types,refB s x.2=true) :
  EvP Tryz.prog 79 [.pt (bC s lat (.pt (pC s ord a b c e0) 0) m) 0] (loopF s).d:=by
 have hend:=end_spec s lat ord a b c e0 m hT hol hl hr;have hN:=dNms_len s.types;have hF:=loopF.eq_1 s;obtain ⟨levels,order,types,⟨rh,rp⟩⟩:=s;simp only at hl hr hend hN;refine ev_go (P:=Tryz.prog) tt tt_ok 5000 26 [.cell 2 46] Tryz.func79 rfl Tryz.ntmps79 rfl (nL rfl) (fun E9 w9 hn9 hm9=>?_)
 refine loop_i (fun j st=>∃ e:Nat,st=loopsSt (.pt (bC ⟨levels,order,types,.mk rh rp⟩ lat (.pt (pC ⟨levels,order,types,.mk rh rp⟩ ord a b c e0) 0) m) 0) ⟨levels,order,types,.mk rh rp⟩ e/\e<=types.length/\(∀ i,i < e->(endI ⟨levels,order,types,.mk rh rp⟩ (types.length + 1) i).isNone=false)/\j=types.length - e) types.length
  (loopsSt (.pt (bC ⟨levels,order,types,.mk rh rp⟩ lat (.pt (pC ⟨levels,order,types,.mk rh rp⟩ ord a b c e0) 0) m) 0) ⟨levels,order,types,.mk rh rp⟩ 0) (weak_mk ⟨_,rfl⟩ wA rfl rfl rfl wB) ⟨0,rfl,by omega,fun _ h=>by omega,by omega⟩ ?_
 rintro j st ⟨e,rfl,he,hno,rfl⟩;refine br (fun hL=>?_) (fun hL=>?_)
 ·have hlt:e < types.length:=by have:=hL;simp [hN] at this;exact this
  obtain ⟨x,hx⟩:∃ x,types[e]? = some x:=⟨_,gE hlt⟩;have hxn:(tNm ⟨levels,order,types,.mk rh rp⟩)[e]? = some x.1:=by simp [tNm,hx]
  have h1:=hend e hlt;obtain ⟨xw,⟨xh,xp⟩⟩:=x;refine ⟨_,⟨by omega,dNms_get hx⟩,?_⟩;refine call_p en189 (h1) ax rfl ?_
  cases hE:endI ⟨levels,order,types,.mk rh rp⟩ (types.length + 1) e with
  | none=>
   have hfn:=firstN_some (p:=fun i=>(endI ⟨levels,order,types,.mk rh rp⟩ (types.length + 1) i).isNone) hlt (by simp only [hE];rfl) hno;simp only [hfn] at hF;rw [atN_get hxn] at hF;refine ⟨_,?_,rfl⟩;rw [hF];exact ax
  | some k=>
   refine ⟨loopsSt (.pt (bC ⟨levels,order,types,.mk rh rp⟩ lat (.pt (pC ⟨levels,order,types,.mk rh rp⟩ ord a b c e0) 0) m) 0) ⟨levels,order,types,.mk rh rp⟩ (e + 1),(weak_mk ⟨_,rfl⟩ wA rfl rfl rfl (wNB hlt)),types.length - (e + 1),by omega,e + 1,rfl,by omega,fun i hi=>?_,rfl⟩;rcases Nat.lt_succ_iff_lt_or_eq.1 hi with hi | rfl
   ·exact hno i hi
   ·rw [hE];all_goals rfl
 ·have hge:e=types.length:=by have:=hL;simp [hN] at this;omega
  subst hge;simp only [firstN_none hno] at hF;refine ⟨_,?_,rfl⟩;rw [hF];exact ax
mutual
def knT (X:Lx) (L:List ByteArray):Ty->Ft
 | .mk h ps=>if h.kind=9/\ixOf L h.name.s=none then (15,h.name.a) else knP X L ps
def knP (X:Lx) (L:List ByteArray):Pts->Ft
 | .nil=>(0,0)
 | .cons p t r=>if (X.bad p.label).1≠0 then X.bad p.label else if (X.bad p.cl).1≠0 then X.bad p.cl else if p.bare then knP X L r else if (knT X L t).1≠0 then knT X L t else knP X L r
end
abbrev knSt (B:DV) (t:Ty) (ps:Pts) (e:Nat):St:=
 ⟨[(0,⟨[],B⟩),(3,⟨[],.loc 0 0⟩),(4,⟨[],.loc 1 0⟩),(38,⟨[],.sl 18 (dPts ps) none⟩),(39,⟨[],.v (.int .i64 (dPts ps).length)⟩),(40,⟨[],.v (.int .i64 e)⟩)],[dTy t,[.v (.int .i64 0),.v (.int .i64 0)]],[]⟩
abbrev kn2St (B:DV) (t:Ty) (ps:Pts) (p:Ph) (u:Ty) (e q:Nat):St:=
 ⟨[(0,⟨[],B⟩),(3,⟨[],.loc 0 0⟩),(4,⟨[],.loc 1 0⟩),(38,⟨[],.sl 18 (dPts ps) none⟩),(39,⟨[],.v (.int .i64 (dPts ps).length)⟩),(40,⟨[],.v (.int .i64 e)⟩),(8,⟨[],.loc 2 0⟩),(49,⟨[],.sl 1 [[.sl 2 (dWds p.label) none],[.sl 2 (dWds p.cl) none]] none⟩),(50,⟨[],.v (.int .i64 (2:Nat))⟩),(51,⟨[],.v (.int .i64 q)⟩)],[dTy t,[.v (.int .i64 0),.v (.int .i64 0)],dPh p (dTy u)],[]⟩
theorem known_spec {X:Lx} (hX:X.OK) (s:Sch) (ord:List Nat) (a b c e0:DV) (m:Int) (hT:TblOK (tL s) ord) (hol:ord.length<=1099511627776):∀ (k:Nat) (t:Ty),t.wt<=k->t.wt<=1099511627776 ->
  EvP Tryz.prog 78 [.pt (bC s X.pd (.pt (pC s ord a b c e0) 0) m) 0,.agg (dTy t)] (knT X (tL s) t).d
 | 0,t,hn,_=>by have:=t.wt_pos;omega
 | k + 1,.mk h ps,hn,hbig=>by
  have ih:=known_spec hX s ord a b c e0 m hT hol k;simp only [Ty.wt,Hd.wt] at hn hbig;have hpl:=ps.wt_len;obtain ⟨levels,order,types,⟨rh,rp⟩⟩:=s;have hf:=tfind_spec (tL ⟨levels,order,types,.mk rh rp⟩) ord h.name.s hT hol;have hS:knT X (tL ⟨levels,order,types,.mk rh rp⟩) (.mk h ps)=if h.kind=9/\ixOf (tL ⟨levels,order,types,.mk rh rp⟩) h.name.s=none then (15,h.name.a) else knP X (tL ⟨levels,order,types,.mk rh rp⟩) ps:=by rw [knT]
  refine ev_go (P:=Tryz.prog) tt tt_ok 5000 81 [.cell 4 46] Tryz.func78 rfl Tryz.ntmps78 rfl (nL rfl) (fun E9 w9 hn9 hm9=>?_);generalize knT X (tL ⟨levels,order,types,.mk rh rp⟩) (.mk h ps)=F at hS ⊢;have hS0:knP X (tL ⟨levels,order,types,.mk rh rp⟩) ps=knP X (tL ⟨levels,order,types,.mk rh rp⟩) (ps.drop 0):=by rw [Pts.drop]
  refine br (fun h9=>?_) (fun h9=>?_)
  ·have h9:h.kind=9:=by simpa using h9
   refine drawG_i (fun _=>false) mo (by decide +kernel) ?_
   cases hx:ixOf (tL ⟨levels,order,types,.mk rh rp⟩) h.name.s with
   | none=>
    rw [if_pos ⟨h9,hx⟩] at hS;rw [hx] at hf;refine callD_p en172 (hf) ax rfl ?_;refine ⟨_,?_,rfl⟩;rw [hS];exact ax
   | some i=>
    rw [if_neg (by rw [hx];simp),hS0] at hS;rw [hx] at hf;refine callD_p en172 (hf) ax rfl ?_;refine loop_i (fun j st=>∃ e:Nat,st=knSt (.pt (bC ⟨levels,order,types,.mk rh rp⟩ X.pd (.pt (pC ⟨levels,order,types,.mk rh rp⟩ ord a b c e0) 0) m) 0) (.mk h ps) ps e/\e<=ps.len/\F=knP X (tL ⟨levels,order,types,.mk rh rp⟩) (ps.drop e)/\j=ps.len - e) ps.len (knSt (.pt (bC ⟨levels,order,types,.mk rh rp⟩ X.pd (.pt (pC ⟨levels,order,types,.mk rh rp⟩ ord a b c e0) 0) m) 0) (.mk h ps) ps 0) (weak_mk ⟨_,rfl⟩ wA rfl rfl rfl wB) ⟨0,rfl,by omega,hS,by omega⟩ ?_;rintro j st ⟨e,rfl,he,heq,rfl⟩;refine br (fun hL=>?_) (fun hL=>?_)
    ·have hlt:e < ps.len:=by simpa [dPts_len] using hL
     obtain ⟨p,t,hx⟩:=Pts.get_lt hlt;have hwt:=Pts.wt_mem (mG hx);rw [Pts.drop_cons hx] at heq;simp only [knP] at heq;have hw1:wdsWt p.label + wdsWt p.cl<=p.wt:=by simp only [Ph.wt];omega
     obtain ⟨u,us⟩:=t;refine ⟨_,⟨by omega,dPts_get hx⟩,?_⟩;refine loop_i (fun j st=>∃ q:Nat,st=kn2St (.pt (bC ⟨levels,order,types,.mk rh rp⟩ X.pd (.pt (pC ⟨levels,order,types,.mk rh rp⟩ ord a b c e0) 0) m) 0) (.mk h ps) ps p (.mk u us) e q/\q<=2/\(1<=q->(X.bad p.label).1=0)/\(2<=q->(X.bad p.cl).1=0)/\j=2 - q) 2 (kn2St (.pt (bC ⟨levels,order,types,.mk rh rp⟩ X.pd (.pt (pC ⟨levels,order,types,.mk rh rp⟩ ord a b c e0) 0) m) 0) (.mk h ps) ps p (.mk u us) e 0) (weak_mk ⟨_,rfl⟩ wA rfl rfl rfl wB) ⟨0,rfl,by omega,fun h=>by omega,fun h=>by omega,by omega⟩ ?_;rintro j st ⟨q,rfl,hq,hq1,hq2,rfl⟩;refine br (fun hL2=>?_) (fun hL2=>?_)
     ·have hq3:q=0∨q=1:=by have:=hL2;simp at this;omega
      rcases hq3 with rfl | rfl
      ·refine ⟨_,⟨by omega,rfl⟩,?_⟩;refine call_p en188 (Lx.of_spec hX p.label (by omega)) ax rfl ?_;refine br (fun hb=>?_) (fun hb=>?_)
       ·have hb:(X.bad p.label).1≠0:=by simpa using hb
        rw [if_pos hb] at heq;refine ⟨_,?_,rfl⟩;rw [heq];exact ax
       ·have hb:(X.bad p.label).1=0:=by simpa using hb
        exact ⟨kn2St (.pt (bC ⟨levels,order,types,.mk rh rp⟩ X.pd (.pt (pC ⟨levels,order,types,.mk rh rp⟩ ord a b c e0) 0) m) 0) (.mk h ps) ps p (.mk u us) e 1,(weak_mk ⟨_,rfl⟩ wA rfl rfl rfl (by repeat' (first | exact trivial | exact we_rfl rfl | exact we_int (nxt (e:=0) (n:=2) (by omega) (by omega)) | refine ⟨⟨_,rfl,?_⟩,?_⟩))),1,by omega,1,rfl,by omega,fun _=>hb,fun h=>by omega,rfl⟩
      ·have hb0:=hq1 (by omega);refine ⟨_,⟨by omega,rfl⟩,?_⟩;refine call_p en188 (Lx.of_spec hX p.cl (by omega)) ax rfl ?_;refine br (fun hb=>?_) (fun hb=>?_)
       ·have hb:(X.bad p.cl).1≠0:=by simpa using hb
        rw [if_neg (by rw [hb0];simp),if_pos hb] at heq;refine ⟨_,?_,rfl⟩;rw [heq];exact ax
       ·have hb:(X.bad p.cl).1=0:=by simpa using hb
        exact ⟨kn2St (.pt (bC ⟨levels,order,types,.mk rh rp⟩ X.pd (.pt (pC ⟨levels,order,types,.mk rh rp⟩ ord a b c e0) 0) m) 0) (.mk h ps) ps p (.mk u us) e 2,(weak_mk ⟨_,rfl⟩ wA rfl rfl rfl (by repeat' (first | exact trivial | exact we_rfl rfl | exact we_int (nxt (e:=1) (n:=2) (by omega) (by omega)) | refine ⟨⟨_,rfl,?_⟩,?_⟩))),0,by omega,2,rfl,by omega,fun _=>hb0,fun _=>hb,rfl⟩
     ·have hq3:q=2:=by have:=hL2;simp at this;omega
      subst hq3;have hb0:=hq1 (by omega);have hb1:=hq2 (by omega);rw [if_neg (by rw [hb0];simp),if_neg (by rw [hb1];simp)] at heq;refine br (fun hB=>?_) (fun hB=>?_)
      ·have hB:p.bare=true:=hB;rw [if_pos hB] at heq;exact ⟨knSt (.pt (bC ⟨levels,order,types,.mk rh rp⟩ X.pd (.pt (pC ⟨levels,order,types,.mk rh rp⟩ ord a b c e0) 0) m) 0) (.mk h ps) ps (e + 1),(weak_mk ⟨_,rfl⟩ wA rfl rfl rfl (wNB hlt)),ps.len - (e + 1),by omega,e + 1,rfl,by omega,heq,rfl⟩
      ·have hB:p.bare=false:=hB;rw [if_neg (by rw [hB];decide)] at heq;refine call_p en78 (ih (.mk u us) (by omega) (by omega)) ax rfl ?_;refine br (fun hb=>?_) (fun hb=>?_)
       ·have hb:(knT X (tL ⟨levels,order,types,.mk rh rp⟩) (.mk u us)).1≠0:=by simpa using hb
        rw [if_pos hb] at heq;refine ⟨_,?_,rfl⟩;rw [heq];exact ax
       ·have hb:(knT X (tL ⟨levels,order,types,.mk rh rp⟩) (.mk u us)).1=0:=by simpa using hb
        rw [if_neg (by rw [hb];simp)] at heq;exact ⟨knSt (.pt (bC ⟨levels,order,types,.mk rh rp⟩ X.pd (.pt (pC ⟨levels,order,types,.mk rh rp⟩ ord a b c e0) 0) m) 0) (.mk h ps) ps (e + 1),(weak_mk ⟨_,rfl⟩ wA rfl rfl rfl (wNB hlt)),ps.len - (e + 1),by omega,e + 1,rfl,by omega,heq,rfl⟩
    ·have hge:e=ps.len:=by simp [dPts_len] at hL;omega
     rw [hge,Pts.drop_len] at heq;simp only [knP] at heq;refine ⟨_,?_,rfl⟩;rw [heq];exact ax
  ·have h9:¬ h.kind=9:=by simpa using h9
   rw [if_neg (fun hc=>h9 hc.1),hS0] at hS;refine loop_i (fun j st=>∃ e:Nat,st=knSt (.pt (bC ⟨levels,order,types,.mk rh rp⟩ X.pd (.pt (pC ⟨levels,order,types,.mk rh rp⟩ ord a b c e0) 0) m) 0) (.mk h ps) ps e/\e<=ps.len/\F=knP X (tL ⟨levels,order,types,.mk rh rp⟩) (ps.drop e)/\j=ps.len - e) ps.len (knSt (.pt (bC ⟨levels,order,types,.mk rh rp⟩ X.pd (.pt (pC ⟨levels,order,types,.mk rh rp⟩ ord a b c e0) 0) m) 0) (.mk h ps) ps 0) (weak_mk ⟨_,rfl⟩ wA rfl rfl rfl wB) ⟨0,rfl,by omega,hS,by omega⟩ ?_;rintro j st ⟨e,rfl,he,heq,rfl⟩;refine br (fun hL=>?_) (fun hL=>?_)
   ·have hlt:e < ps.len:=by simpa [dPts_len] using hL
    obtain ⟨p,t,hx⟩:=Pts.get_lt hlt;have hwt:=Pts.wt_mem (mG hx);rw [Pts.drop_cons hx] at heq;simp only [knP] at heq;have hw1:wdsWt p.label + wdsWt p.cl<=p.wt:=by simp only [Ph.wt];omega
    obtain ⟨u,us⟩:=t;refine ⟨_,⟨by omega,dPts_get hx⟩,?_⟩;refine loop_i (fun j st=>∃ q:Nat,st=kn2St (.pt (bC ⟨levels,order,types,.mk rh rp⟩ X.pd (.pt (pC ⟨levels,order,types,.mk rh rp⟩ ord a b c e0) 0) m) 0) (.mk h ps) ps p (.mk u us) e q/\q<=2/\(1<=q->(X.bad p.label).1=0)/\(2<=q->(X.bad p.cl).1=0)/\j=2 - q) 2 (kn2St (.pt (bC ⟨levels,order,types,.mk rh rp⟩ X.pd (.pt (pC ⟨levels,order,types,.mk rh rp⟩ ord a b c e0) 0) m) 0) (.mk h ps) ps p (.mk u us) e 0) (weak_mk ⟨_,rfl⟩ wA rfl rfl rfl wB) ⟨0,rfl,by omega,fun h=>by omega,fun h=>by omega,by omega⟩ ?_;rintro j st ⟨q,rfl,hq,hq1,hq2,rfl⟩;refine br (fun hL2=>?_) (fun hL2=>?_)
    ·have hq3:q=0∨q=1:=by have:=hL2;simp at this;omega
     rcases hq3 with rfl | rfl
     ·refine ⟨_,⟨by omega,rfl⟩,?_⟩;refine call_p en188 (Lx.of_spec hX p.label (by omega)) ax rfl ?_;refine br (fun hb=>?_) (fun hb=>?_)
      ·have hb:(X.bad p.label).1≠0:=by simpa using hb
       rw [if_pos hb] at heq;refine ⟨_,?_,rfl⟩;rw [heq];exact ax
      ·have hb:(X.bad p.label).1=0:=by simpa using hb
       exact ⟨kn2St (.pt (bC ⟨levels,order,types,.mk rh rp⟩ X.pd (.pt (pC ⟨levels,order,types,.mk rh rp⟩ ord a b c e0) 0) m) 0) (.mk h ps) ps p (.mk u us) e 1,(weak_mk ⟨_,rfl⟩ wA rfl rfl rfl (by repeat' (first | exact trivial | exact we_rfl rfl | exact we_int (nxt (e:=0) (n:=2) (by omega) (by omega)) | refine ⟨⟨_,rfl,?_⟩,?_⟩))),1,by omega,1,rfl,by omega,fun _=>hb,fun h=>by omega,rfl⟩
     ·have hb0:=hq1 (by omega);refine ⟨_,⟨by omega,rfl⟩,?_⟩;refine call_p en188 (Lx.of_spec hX p.cl (by omega)) ax rfl ?_;refine br (fun hb=>?_) (fun hb=>?_)
      ·have hb:(X.bad p.cl).1≠0:=by simpa using hb
       rw [if_neg (by rw [hb0];simp),if_pos hb] at heq;refine ⟨_,?_,rfl⟩;rw [heq];exact ax
      ·have hb:(X.bad p.cl).1=0:=by simpa using hb
       exact ⟨kn2St (.pt (bC ⟨levels,order,types,.mk rh rp⟩ X.pd (.pt (pC ⟨levels,order,types,.mk rh rp⟩ ord a b c e0) 0) m) 0) (.mk h ps) ps p (.mk u us) e 2,(weak_mk ⟨_,rfl⟩ wA rfl rfl rfl (by repeat' (first | exact trivial | exact we_rfl rfl | exact we_int (nxt (e:=1) (n:=2) (by omega) (by omega)) | refine ⟨⟨_,rfl,?_⟩,?_⟩))),0,by omega,2,rfl,by omega,fun _=>hb0,fun _=>hb,rfl⟩
    ·have hq3:q=2:=by have:=hL2;simp at this;omega
     subst hq3;have hb0:=hq1 (by omega);have hb1:=hq2 (by omega);rw [if_neg (by rw [hb0];simp),if_neg (by rw [hb1];simp)] at heq;refine br (fun hB=>?_) (fun hB=>?_)
     ·have hB:p.bare=true:=hB;rw [if_pos hB] at heq;exact ⟨knSt (.pt (bC ⟨levels,order,types,.mk rh rp⟩ X.pd (.pt (pC ⟨levels,order,types,.mk rh rp⟩ ord a b c e0) 0) m) 0) (.mk h ps) ps (e + 1),(weak_mk ⟨_,rfl⟩ wA rfl rfl rfl (wNB hlt)),ps.len - (e + 1),by omega,e + 1,rfl,by omega,heq,rfl⟩
     ·have hB:p.bare=false:=hB;rw [if_neg (by rw [hB];decide)] at heq;refine call_p en78 (ih (.mk u us) (by omega) (by omega)) ax rfl ?_;refine br (fun hb=>?_) (fun hb=>?_)
      ·have hb:(knT X (tL ⟨levels,order,types,.mk rh rp⟩) (.mk u us)).1≠0:=by simpa using hb
       rw [if_pos hb] at heq;refine ⟨_,?_,rfl⟩;rw [heq];exact ax
      ·have hb:(knT X (tL ⟨levels,order,types,.mk rh rp⟩) (.mk u us)).1=0:=by simpa using hb
       rw [if_neg (by rw [hb];simp)] at heq;exact ⟨knSt (.pt (bC ⟨levels,order,types,.mk rh rp⟩ X.pd (.pt (pC ⟨levels,order,types,.mk rh rp⟩ ord a b c e0) 0) m) 0) (.mk h ps) ps (e + 1),(weak_mk ⟨_,rfl⟩ wA rfl rfl rfl (wNB hlt)),ps.len - (e + 1),by omega,e + 1,rfl,by omega,heq,rfl⟩
   ·have hge:e=ps.len:=by simp [dPts_len] at hL;omega
    rw [hge,Pts.drop_len] at heq;simp only [knP] at heq;refine ⟨_,?_,rfl⟩;rw [heq];exact ax
def eaL (F:Ty->Ft) (z:Ft):List (Wd × Ty)->Ft
 | []=>z
 | x :: r=>if (F x.2).1≠0 then F x.2 else eaL F z r
theorem eaL_drop {F:Ty->Ft} {z:Ft} {l:List (Wd × Ty)} {e:Nat} {x:Wd × Ty} (h:l[e]? = some x):eaL F z (l.drop e)=if (F x.2).1≠0 then F x.2 else eaL F z (l.drop (e + 1)):=by
 rw [drop_cons h,eaL]
abbrev eachSt (B:DV) (fn:DV) (types:List (Wd × Ty)) (e:Nat):St:=
 ⟨[(0,⟨[],B⟩),(1,⟨[],fn⟩),(4,⟨[],.loc 0 0⟩),(12,⟨[],.sl 11 (dNms types) none⟩),(13,⟨[],.v (.int .i64 (dNms types).length)⟩),(14,⟨[],.v (.int .i64 e)⟩)],[[.v (.int .i64 0),.v (.int .i64 0)]],[]⟩
theorem each_spec (s:Sch) (lat:DV) (pc:List DV) (m:Int) (hl:s.types.length<=1099511627776) (g:Nat) (hg:Enters Tryz.prog g) (F:Ty->Ft)
  (hF:∀ t,(t=s.root∨∃ x∈s.types,t=x.2)->EvP Tryz.prog g [.pt (bC s lat (.pt pc 0) m) 0,.agg (dTy t)] (F t).d) :
  EvP Tryz.prog 76 [.pt (bC s lat (.pt pc 0) m) 0,.fn g [.pt (bC s lat (.pt pc 0) m) 0] []] (eaL F (F s.root) s.types).d:=by
 have hN:=dNms_len s.types;obtain ⟨levels,order,types,⟨rh,rp⟩⟩:=s;simp only at hl hF hN;have hroot:=hF (.mk rh rp) (.inl rfl);have htypes:∀ x∈types,_:=fun x hx=>hF x.2 (.inr ⟨x,hx,rfl⟩);clear hF;refine ev_go (P:=Tryz.prog) tt tt_ok 5000 34 [.cell 4 46] Tryz.func76 rfl Tryz.ntmps76 rfl (nL rfl) (fun E9 w9 hn9 hm9=>?_);generalize hG:eaL F (F (.mk rh rp)) types=G;have hG0:G=eaL F (F (.mk rh rp)) (types.drop 0):=by rw [List.drop_zero,hG]
 refine loop_i (fun j st=>∃ e:Nat,st=eachSt (.pt (bC ⟨levels,order,types,.mk rh rp⟩ lat (.pt pc 0) m) 0) (.fn g [.pt (bC ⟨levels,order,types,.mk rh rp⟩ lat (.pt pc 0) m) 0] []) types e/\e<=types.length/\G=eaL F (F (.mk rh rp)) (types.drop e)/\j=types.length - e) types.length
  (eachSt (.pt (bC ⟨levels,order,types,.mk rh rp⟩ lat (.pt pc 0) m) 0) (.fn g [.pt (bC ⟨levels,order,types,.mk rh rp⟩ lat (.pt pc 0) m) 0] []) types 0) (weak_mk ⟨_,rfl⟩ wA rfl rfl rfl wB) ⟨0,rfl,by omega,hG0,by omega⟩ ?_
 rintro j st ⟨e,rfl,he,heq,rfl⟩;refine br (fun hL=>?_) (fun hL=>?_)
 ·have hlt:e < types.length:=by have:=hL;simp [hN] at this;exact this
  obtain ⟨x,hx⟩:∃ x,types[e]? = some x:=⟨_,gE hlt⟩;have hp:=htypes x (mG hx);rw [eaL_drop hx] at heq;obtain ⟨xw,⟨xh,xp⟩⟩:=x;refine ⟨_,⟨by omega,dNms_get hx⟩,?_⟩;refine call_p hg hp ax rfl ?_;refine br (fun hf=>?_) (fun hf=>?_)
  ·have hf:(F (.mk xh xp)).1≠0:=by simpa using hf
   rw [if_pos hf] at heq;refine ⟨_,?_,rfl⟩;rw [heq];exact ax
  ·have hf:(F (.mk xh xp)).1=0:=by simpa using hf
   rw [if_neg (by rw [hf];simp)] at heq;exact ⟨eachSt (.pt (bC ⟨levels,order,types,.mk rh rp⟩ lat (.pt pc 0) m) 0) (.fn g [.pt (bC ⟨levels,order,types,.mk rh rp⟩ lat (.pt pc 0) m) 0] []) types (e + 1),(weak_mk ⟨_,rfl⟩ wA rfl rfl rfl (wNB hlt)),types.length - (e + 1),by omega,e + 1,rfl,by omega,heq,rfl⟩
 ·have hge:e=types.length:=by have:=hL;simp [hN] at this;omega
  subst hge;rw [List.drop_length,eaL] at heq;refine call_p hg hroot ax rfl ?_;refine ⟨_,?_,rfl⟩;rw [heq];exact ax
def rightF (t:Ty) (m:Int):Ft × Int:=if (wrong t 1 0).1.1≠0 then ((wrong t 1 0).1,m) else if 512 < m + t.cnt then ((8,t.h.at'),m + t.cnt) else ((0,0),m + t.cnt)
def RightΦ (s:Sch) (lat:DV) (pc:List DV) (x:Ft × Int) (r:DV) (os:List (List DV)) (_:List TkE):Prop:=r=x.1.d/\os=[bC s lat (.loc 1 0) x.2,pc]
theorem bright_spec (s:Sch) (lc pc:List DV) (m:Int) (hm0:0<=m) (hm1:m<=1099511627776) (t:Ty) (hbig:t.wt<=1099511627776) (hpc:∀ bx N n0 m0,CcL bx N n0 m0 pc pc) :
  Ev Tryz.prog 77 [.loc 0 0,.agg (dTy t)] [bC s (.pt lc 0) (.loc 1 0) m,pc] [] (RightΦ s (.pt lc 0) pc (rightF t m)):=by
 have hk:=kright_spec t hbig;have hc:=count_spec t.wt t (Nat.le_refl _) hbig;have hcw:=t.cnt_wt;have hF:=rightF.eq_1 t m;obtain ⟨levels,order,types,⟨rh,rp⟩⟩:=s;obtain ⟨h,ps⟩:=t;generalize rightF (.mk h ps) m=R at hF ⊢;refine ev_go (P:=Tryz.prog) tt tt_ok 5000 30 [.cell 4 46] Tryz.func77 rfl Tryz.ntmps77 rfl (nL rfl) (fun E9 w9 hn9 hm9=>?_);refine call_p en120 (hk) ax rfl ?_;refine br (fun hf=>?_) (fun hf=>?_)
 ·have hf:(wrong (.mk h ps) 1 0).1.1≠0:=by simpa using hf
  rw [if_pos hf] at hF;subst hF;exact ⟨Ft.d _,[bC ⟨levels,order,types,.mk rh rp⟩ (.pt lc 0) (.loc 1 0) m,pc],ax,(by repeat' (first | exact rfl | exact trivial | exact Or.inr (Or.inl ⟨_,rfl⟩) | exact Or.inr ⟨_,rfl⟩ | exact Or.inl ⟨rfl,rfl⟩ | exact Or.inl rfl | refine Or.inr ⟨_,_,rfl,Nat.zero_le _,rfl,?_⟩ | refine ⟨_,_,rfl,?_,?_⟩ | refine ⟨_,rfl,?_⟩ | exact hpc _ _ _ _ | exact ⟨nL rfl,rfl⟩ | exact congrArg (fun z=>DV.v (.int .i64 z)) hw | refine Or.inr (Or.inr (Or.inr ⟨_,_,rfl,?_⟩)) | exact Or.inl rfl | refine Or.inr ?_)),rfl,rfl⟩
 have hf:(wrong (.mk h ps) 1 0).1.1=0:=by simpa using hf
 rw [if_neg (by rw [hf];simp)] at hF;have hw:IntKind.i64.wrap (m + ((Ty.mk h ps).cnt:Int))=m + ((Ty.mk h ps).cnt:Int):=wrap64 (by omega) (by omega);refine drawG_s mo (by decide +kernel) ?_;refine callD_p en187 (hc) ax rfl ?_;refine br (fun hg=>?_) (fun hg=>?_)
 ·have hg:512 < m + ((Ty.mk h ps).cnt:Int):=by simpa [hw] using hg
  rw [if_pos hg] at hF;subst hF;exact ⟨Ft.d _,[bC ⟨levels,order,types,.mk rh rp⟩ (.pt lc 0) (.loc 1 0) (m + (Ty.mk h ps).cnt),pc],ax,(by repeat' (first | exact rfl | exact trivial | exact Or.inr (Or.inl ⟨_,rfl⟩) | exact Or.inr ⟨_,rfl⟩ | exact Or.inl ⟨rfl,rfl⟩ | exact Or.inl rfl | refine Or.inr ⟨_,_,rfl,Nat.zero_le _,rfl,?_⟩ | refine ⟨_,_,rfl,?_,?_⟩ | refine ⟨_,rfl,?_⟩ | exact hpc _ _ _ _ | exact ⟨nL rfl,rfl⟩ | exact congrArg (fun z=>DV.v (.int .i64 z)) hw | refine Or.inr (Or.inr (Or.inr ⟨_,_,rfl,?_⟩)) | exact Or.inl rfl | refine Or.inr ?_)),rfl,rfl⟩
 ·have hg:¬ 512 < m + ((Ty.mk h ps).cnt:Int):=by simpa [hw] using hg
  rw [if_neg hg] at hF;subst hF;exact ⟨Ft.d _,[bC ⟨levels,order,types,.mk rh rp⟩ (.pt lc 0) (.loc 1 0) (m + (Ty.mk h ps).cnt),pc],ax,(by repeat' (first | exact rfl | exact trivial | exact Or.inr (Or.inl ⟨_,rfl⟩) | exact Or.inr ⟨_,rfl⟩ | exact Or.inl ⟨rfl,rfl⟩ | exact Or.inl rfl | refine Or.inr ⟨_,_,rfl,Nat.zero_le _,rfl,?_⟩ | refine ⟨_,_,rfl,?_,?_⟩ | refine ⟨_,rfl,?_⟩ | exact hpc _ _ _ _ | exact ⟨nL rfl,rfl⟩ | exact congrArg (fun z=>DV.v (.int .i64 z)) hw | refine Or.inr (Or.inr (Or.inr ⟨_,_,rfl,?_⟩)) | exact Or.inl rfl | refine Or.inr ?_)),rfl,rfl⟩
def eaR (z:Ty):List (Wd × Ty)->Int->Ft × Int
 | [],m=>rightF z m
 | x :: r,m=>if (rightF x.2 m).1.1≠0 then rightF x.2 m else eaR z r (rightF x.2 m).2
theorem eaR_drop {z:Ty} {l:List (Wd × Ty)} {e:Nat} {m:Int} {x:Wd × Ty} (h:l[e]? = some x):eaR z (l.drop e) m=if (rightF x.2 m).1.1≠0 then rightF x.2 m else eaR z (l.drop (e + 1)) (rightF x.2 m).2:=by
 rw [drop_cons h,eaR]
theorem rightF_ok {t:Ty} {m:Int} (h:(rightF t m).1.1=0):(rightF t m).2=m + t.cnt/\(rightF t m).2<=512/\(wrong t 1 0).1.1=0/\(rightF t m).1=(0,0):=by
 unfold rightF at h ⊢;split
 ·rename_i h1;rw [if_pos h1] at h;exact (h1 h).elim
 ·rename_i h1;rw [if_neg h1] at h;split
  ·rename_i h2;rw [if_pos h2] at h;cases h
  ·rename_i h2;refine ⟨rfl,by simpa using h2,by simpa using h1,rfl⟩
abbrev pC0 (s:Sch) (ord:List Nat) (lc:List DV):List DV:=pC s ord (.pt lc 0) (.v (.slice none 0 0)) (.v (.int .i64 0)) (.v (.slice none 0 0))
abbrev eachRSt (s:Sch) (lc pc:List DV) (m:Int) (types:List (Wd × Ty)) (e:Nat):St:=
 ⟨[(0,⟨[],.loc 0 0⟩),(1,⟨[],.fn 77 [.loc 0 0] []⟩),(4,⟨[],.loc 2 0⟩),(12,⟨[],.sl 11 (dNms types) none⟩),(13,⟨[],.v (.int .i64 (dNms types).length)⟩),(14,⟨[],.v (.int .i64 e)⟩)],
  [bC s (.pt lc 0) (.loc 1 0) m,pc,[.v (.int .i64 0),.v (.int .i64 0)]],[]⟩
theorem eachR_spec (s:Sch) (lc:List DV) (ord:List Nat) (m:Int) (hm0:0<=m) (hm1:m<=512) (hl:s.types.length<=1099511627776) (hbig:∀ t,(t=s.root∨∃ x∈s.types,t=x.2)->t.wt<=1099511627776) :
  Ev Tryz.prog 76 [.loc 0 0,.fn 77 [.loc 0 0] []] [bC s (.pt lc 0) (.loc 1 0) m,pC0 s ord lc] [] (RightΦ s (.pt lc 0) (pC0 s ord lc) (eaR s.root s.types m)):=by
 have hN:=dNms_len s.types;have hR:∀ (m':Int),0<=m' -> m' <= 512->∀ t,(t=s.root∨∃ x∈s.types,t=x.2)->_:=fun m' h0 h1 t ht=>bright_spec s lc (pC0 s ord lc) m' h0 (by omega) t (hbig t ht) (fun bx N n0 m0=>ax);obtain ⟨levels,order,types,⟨rh,rp⟩⟩:=s;simp only at hl hR hN hbig;refine ev_go (P:=Tryz.prog) tt tt_ok 5000 34 [.cell 4 46] Tryz.func76 rfl Tryz.ntmps76 rfl (nL rfl) (fun E9 w9 hn9 hm9=>?_);generalize hG:eaR (.mk rh rp) types m=G;have hG0:G=eaR (.mk rh rp) (types.drop 0) m:=by rw [List.drop_zero,hG]
 refine loop_i (fun j st=>∃ (e:Nat) (m':Int),st=eachRSt ⟨levels,order,types,.mk rh rp⟩ lc (pC0 ⟨levels,order,types,.mk rh rp⟩ ord lc) m' types e/\e<=types.length/\0<=m' /\ m' <= 512/\G=eaR (.mk rh rp) (types.drop e) m' /\ j=types.length - e) types.length
  (eachRSt ⟨levels,order,types,.mk rh rp⟩ lc (pC0 ⟨levels,order,types,.mk rh rp⟩ ord lc) m types 0) (weak_b 3 rfl (by repeat' (first | exact rfl | exact we_rfl rfl | exact rfl | refine ⟨_,_,rfl,?_,?_⟩)) rfl rfl rfl (by repeat' (first | exact trivial | exact we_rfl rfl | exact rfl | refine ⟨⟨_,rfl,?_⟩,?_⟩))) ⟨0,m,rfl,by omega,hm0,hm1,hG0,by omega⟩ ?_
 rintro j st ⟨e,m',rfl,he,hm0',hm1',heq,rfl⟩;refine br (fun hL=>?_) (fun hL=>?_)
 ·have hlt:e < types.length:=by have:=hL;simp [hN] at this;exact this
  obtain ⟨x,hx⟩:∃ x,types[e]? = some x:=⟨_,gE hlt⟩;have hp:=hR m' hm0' hm1' x.2 (.inr ⟨x,mG hx,rfl⟩);rw [eaR_drop hx] at heq;obtain ⟨xw,⟨xh,xp⟩⟩:=x;refine ⟨_,⟨by omega,dNms_get hx⟩,?_⟩;refine call_os 2 0 en77 rfl rfl rfl aL aL hp (fun r os' tk' hΦ h1 h2=>?_);obtain ⟨rfl,rfl⟩:=hΦ;have h2:=List.eq_nil_of_length_eq_zero h2;subst h2;refine br (fun hf=>?_) (fun hf=>?_)
  ·have hf:(rightF (.mk xh xp) m').1.1≠0:=by simpa using hf
   rw [if_pos hf] at heq;subst heq;exact ⟨Ft.d _,[bC ⟨levels,order,types,.mk rh rp⟩ (.pt lc 0) (.loc 1 0) (rightF (.mk xh xp) m').2,pC0 ⟨levels,order,types,.mk rh rp⟩ ord lc],ax,aL,rfl,rfl⟩
  ·have hf:(rightF (.mk xh xp) m').1.1=0:=by simpa using hf
   rw [if_neg (by rw [hf];simp)] at heq;obtain ⟨g1,g2,_,_⟩:=rightF_ok hf;exact ⟨eachRSt ⟨levels,order,types,.mk rh rp⟩ lc (pC0 ⟨levels,order,types,.mk rh rp⟩ ord lc) (rightF (.mk xh xp) m').2 types (e + 1),(weak_b 3 rfl (wNA hlt) rfl rfl rfl (wNB hlt)),types.length - (e + 1),by omega,e + 1,_,rfl,by omega,by omega,g2,heq,rfl⟩
 ·have hge:e=types.length:=by have:=hL;simp [hN] at this;omega
  subst hge;rw [List.drop_length,eaR] at heq;refine call_os 2 0 en77 rfl rfl rfl aL aL (hR m' hm0' hm1' (.mk rh rp) (.inl rfl)) (fun r os' tk' hΦ h1 h2=>?_);obtain ⟨rfl,rfl⟩:=hΦ;have h2:=List.eq_nil_of_length_eq_zero h2;subst h2;subst heq;exact ⟨Ft.d _,[bC ⟨levels,order,types,.mk rh rp⟩ (.pt lc 0) (.loc 1 0) (rightF (.mk rh rp) m').2,pC0 ⟨levels,order,types,.mk rh rp⟩ ord lc],ax,aL,rfl,rfl⟩
def namedF (s:Sch):Ft:=if 64 < s.types.length then (8,atN (tNm s) 64) else enumL (tNm s) 0 (tNm s)
def CalledΦ (s:Sch) (lc:List DV) (r:DV) (os:List (List DV)) (_:List TkE):Prop:=
 r=(namedF s).d/\((namedF s).1=0->∃ ord,TblOK (tL s) ord/\ord.length<=s.types.length/\os=[bC s (.pt lc 0) (.loc 1 0) 0,pC0 s ord lc])
abbrev bcalSt (s:Sch) (lc:List DV) (n e:Nat):St:=
 ⟨[(0,⟨[],.loc 0 0⟩),(2,⟨[],.loc 2 0⟩),(3,⟨[],.sl 1 (dBs (nmTx ((tNm s).take e))) (some 0)⟩),(27,⟨[],.sl 11 (dNms s.types) none⟩),(28,⟨[],.v (.int .i64 (dNms s.types).length)⟩),(29,⟨[],.v (.int .i64 e)⟩)],
  [bC s (.pt lc 0) (.loc 1 0) 0,[.pt lc 0,.v (.slice none 0 0),.v (.int .i64 0),.v (.pointer none),.v (.slice none 0 0)],[.v (.int .i64 0),.v (.int .i64 0)]],[⟨n,9,1,none⟩]⟩
theorem bcalled_spec (s:Sch) (lc:List DV) (hs:nmsWt s.types<=1099511627776) :
  Ev Tryz.prog 75 [.loc 0 0] [bC s (.pt lc 0) (.loc 1 0) 0,[.pt lc 0,.v (.slice none 0 0),.v (.int .i64 0),.v (.pointer none),.v (.slice none 0 0)]] [] (CalledΦ s lc):=by
 have hN:=dNms_len s.types;have hnl:=nmsWt_len s.types;have htl:=tNm_len s;have hF:=namedF.eq_1 s;have hget:∀ {e:Nat} {x:Wd × Ty},s.types[e]? = some x->(tNm s)[e]? = some x.1:=fun h=>by simp [tNm,h]
 have hnew:=new_spec (tL s) (by rw [tL_len];omega);have hTL:tL s=nmTx (tNm s):=rfl
 have hw:∀ x∈s.types,x.1.s.size<=1099511627776:=fun x hx=>by
  have:=nmsWt_mem hx;simp only [Wd.wt] at this;omega
 obtain ⟨levels,order,types,⟨rh,rp⟩⟩:=s;simp only at hs hN hnl htl hget hw hF;generalize hQ:tNm ⟨levels,order,types,.mk rh rp⟩=Q at htl hF hget hTL;refine ev_go (P:=Tryz.prog) tt tt_ok 5000 67 [.cell 2 46] Tryz.func75 rfl Tryz.ntmps75 rfl (nL rfl) (fun E9 w9 hn9 hm9=>?_);refine br (fun h=>?_) (fun h=>?_)
 ·have h:64 < types.length:=by simp [hN] at h;omega
  obtain ⟨x,hx⟩:∃ x,types[64]? = some x:=⟨_,gE h⟩;have hxn:=hget hx;rw [if_pos h,atN_get hxn] at hF;obtain ⟨xw,⟨xh,xp⟩⟩:=x;refine ⟨_,⟨by omega,dNms_get hx⟩,?_⟩;refine ⟨Ft.d (8,xw.a),[bC ⟨levels,order,types,.mk rh rp⟩ (.pt lc 0) (.loc 1 0) 0,[.pt lc 0,.v (.slice none 0 0),.v (.int .i64 0),.v (.pointer none),.v (.slice none 0 0)]],ax,aL,by rw [hF],fun h0=>by rw [hF] at h0;simp at h0⟩
 have h:¬ 64 < types.length:=by simp [hN] at h;omega
 rw [if_neg h] at hF;refine loop_i (fun j st=>∃ e:Nat,st=bcalSt ⟨levels,order,types,.mk rh rp⟩ lc e e/\e<=types.length/\(nmTx (Q.take e)).Nodup/\enumL Q 0 Q=enumL Q e (Q.drop e)/\j=types.length - e) types.length (bcalSt ⟨levels,order,types,.mk rh rp⟩ lc 0 0) (weak_bt 3 ⟨0,9,1,none⟩ rfl rfl rfl (by repeat' (first | exact rfl | exact we_rfl rfl | exact we_tok (Nat.le_refl _) rfl | exact we_tok (Nat.le_refl _) rfl | refine ⟨_,_,rfl,?_,?_⟩)) rfl rfl wTB) ⟨0,rfl,by omega,by simp [nmTx],rfl,by omega⟩ ?_;rintro j st ⟨e,rfl,he,hnd,heq,rfl⟩;rw [heq] at hF;refine br (fun hL=>?_) (fun hL=>?_)
 ·have hlt:e < types.length:=by have:=hL;simp [hN] at this;exact this
  obtain ⟨x,hx⟩:∃ x,types[e]? = some x:=⟨_,gE hlt⟩;have hws:=hw x (mG hx);have hq:=hget hx;have hsn:=nmTx_snoc hq;have hst:=enumL_drop hq;have hns:=nodup_succ hq hnd;have htw:=twice_spec (nmTx (Q.take (e + 1))) (by simp [nmTx];omega);rw [<- hsn] at htw;obtain ⟨xw,⟨xh,xp⟩⟩:=x;simp only at hws hq hsn hst hns htw;refine ⟨_,⟨by omega,dNms_get hx⟩,?_⟩;rw [hQ];refine ⟨by simp [dBs_len,nmTx];omega,⟨by simp [dBs_len,nmTx,maxLen];omega,by simp [dBs_len,nmTx];omega⟩,?_⟩;refine call_p en118 (right_spec xw.s (by omega)) ax rfl ?_;refine br (fun hNm=>?_) (fun hNm=>?_)
  ·have hNm:nameOK xw.s=false:=by simpa using hNm
   have hf:listedF Q e xw=9:=by simp [listedF,hNm]
   rw [hst,hf,if_pos (by decide)] at hF;refine ⟨Ft.d (9,xw.a),[bC ⟨levels,order,types,.mk rh rp⟩ (.pt lc 0) (.loc 1 0) 0,[.pt lc 0,.v (.slice none 0 0),.v (.int .i64 0),.v (.pointer none),.v (.slice none 0 0)]],ax,aL,by rw [hF],fun h0=>by rw [hF] at h0;simp at h0⟩
  ·have hNm:nameOK xw.s=true:=by simpa using hNm
   refine call_e en186 rfl htw ax (fun r hr=>?_);obtain ⟨z,rfl,hz⟩:=hr;refine br (fun h2=>?_) (fun h2=>?_)
   ·have h2:0<=z:=by simpa using h2
    have hd:dupBefore (Q.take e) xw.s=true:=by
     cases hd:dupBefore (Q.take e) xw.s
     ·exact absurd (hns.2 hd) (hz.1 h2)
     ·rfl
    have hf:listedF Q e xw=10:=by simp [listedF,hNm,hd]
    rw [hst,hf,if_pos (by decide)] at hF;refine ⟨Ft.d (10,xw.a),[bC ⟨levels,order,types,.mk rh rp⟩ (.pt lc 0) (.loc 1 0) 0,[.pt lc 0,.v (.slice none 0 0),.v (.int .i64 0),.v (.pointer none),.v (.slice none 0 0)]],ax,aL,by rw [hF],fun h0=>by rw [hF] at h0;simp at h0⟩
   ·have h2:¬ 0<=z:=by simpa using h2
    have hnd2:(nmTx (Q.take (e + 1))).Nodup:=Classical.byContradiction fun hn=>h2 (hz.2 hn);have hf:listedF Q e xw=0:=by simp [listedF,hNm,hns.1 hnd2]
    rw [hf,if_neg (by simp)] at hst;have hsn2:dBs (nmTx (Q.take e)) ++ [[DV.v (.string xw.s)]]=dBs (nmTx ((tNm ⟨levels,order,types,.mk rh rp⟩).take (e + 1))):=by rw [hQ];exact hsn
    refine ⟨bcalSt ⟨levels,order,types,.mk rh rp⟩ lc (e + 1) (e + 1),(weak_b 3 rfl (wSA hlt hsn2) rfl rfl rfl (wSB hlt hsn2)),types.length - (e + 1),by omega,e + 1,rfl,by omega,hnd2,heq.trans hst,rfl⟩
 ·have hge:e=types.length:=by have:=hL;simp [hN] at this;omega
  have h0:enumL Q e (Q.drop e)=(0,0):=by rw [hge,<- htl,List.drop_length];all_goals rfl
  rw [h0] at hF;have ht:Q.take e=Q:=by rw [hge,<- htl,List.take_length]
  have hEq:nmTx ((tNm ⟨levels,order,types,.mk rh rp⟩).take e)=tL ⟨levels,order,types,.mk rh rp⟩:=by rw [hQ,ht,hTL]
  rw [<- hEq] at hnew;refine drawG_s mo (by decide +kernel) ?_;refine callD_e en180 rfl hnew ax (fun res hr=>?_);obtain ⟨ord,hT,hol,rfl⟩:=hr;rw [hEq] at hT hol;have hpt:DV.pt (dTbl (nmTx ((tNm ⟨levels,order,types,.mk rh rp⟩).take e)) ord) 0=DV.pt (dTbl (tL ⟨levels,order,types,.mk rh rp⟩) ord) 0:=congrArg (fun L=>DV.pt (dTbl L ord) 0) hEq;rw [tL_len] at hol;exact ⟨Ft.d (0,0),[bC ⟨levels,order,types,.mk rh rp⟩ (.pt lc 0) (.loc 1 0) 0,pC0 ⟨levels,order,types,.mk rh rp⟩ ord lc],ax,(by repeat' (first | exact rfl | exact trivial | exact Or.inr (Or.inl ⟨_,rfl⟩) | exact Or.inr ⟨_,rfl⟩ | exact Or.inl ⟨rfl,rfl⟩ | exact Or.inl rfl | refine Or.inr ⟨_,_,rfl,Nat.zero_le _,rfl,?_⟩ | refine ⟨_,_,rfl,?_,?_⟩ | refine ⟨_,rfl,?_⟩ | exact ⟨nL rfl,rfl⟩ | exact Or.inl hpt | refine Or.inr (Or.inr (Or.inr ⟨_,_,rfl,?_⟩)) | exact Or.inl rfl | refine Or.inr ?_)),by rw [hF],fun _=>⟨ord,hT,hol,rfl⟩⟩
def firstA (s:Sch) (k:Nat):Nat:=((s.types.take k).map fun x=>x.2.nn).sum
theorem firstA_succ {s:Sch} {k:Nat} {x:Wd × Ty} (h:s.types[k]? = some x):firstA s (k + 1)=firstA s k + x.2.nn:=by
 unfold firstA;rw [List.take_add_one,h];simp
theorem firstA_le (s:Sch):∀ k,firstA s k<=nmsWt s.types:=by
 intro k;unfold firstA;generalize s.types=l
 induction l generalizing k with
 | nil=>simp
 | cons x r ih=>
  cases k with
  | zero=>simp
  | succ k=>
   have h1:=ih k;have h2:=x.2.nn_cnt;have h3:=x.2.cnt_wt;simp only [List.take_succ_cons,List.map_cons,List.sum_cons,nmsWt];omega
def namedN (s:Sch) (i:Nat):Nat:=firstA s ((endI s (s.types.length + 1) i).getD 0)
def namedL (s:Sch):List Nat:=(List.range s.types.length).map (namedN s)
theorem rep0 (n:Nat):(List.replicate n (vL [Value.int .i64 0])).flatten=cZ (List.replicate n 0):=by
 induction n with
 | zero=>rfl
 | succ n ih=>simp only [List.replicate_succ,List.flatten_cons,ih];rfl
theorem weL_cZ' {n m:Nat} {tk:List TkE} {l:List DV} {js:List Int} (h:l=cZ js):WeL n m tk l (cZ js):=by rw [h];exact weL_cZ js
abbrev plSt (s:Sch) (lc pc:List DV) (m:Int) (l:List Int) (at' e:Nat):St:=
 ⟨[(0,⟨[],.loc 0 0⟩),(2,⟨[],.ms 2 1 0 (dNms s.types).length (dNms s.types).length⟩),(3,⟨[],.v (.int .i64 at')⟩),(18,⟨[],.sl 11 (dNms s.types) none⟩),(19,⟨[],.v (.int .i64 (dNms s.types).length)⟩),(20,⟨[],.v (.int .i64 e)⟩)],
  [bC s (.pt lc 0) (.loc 1 0) m,pc,cZ l],[]⟩
abbrev pl2St (s:Sch) (ord:List Nat) (lc:List DV) (m:Int) (l:List Int) (n e:Nat):St:=
 ⟨[(0,⟨[],.loc 0 0⟩),(2,⟨[],.ms 2 1 0 (dNms s.types).length (dNms s.types).length⟩),(40,⟨[],.v (.int .i64 (dNms s.types).length)⟩),(41,⟨[],.v (.int .i64 e)⟩)],
  [bC s (.pt lc 0) (.loc 1 0) m,pC s ord (.pt lc 0) (.v (.slice none 0 0)) (.v (.int .i64 0)) (.sl 1 (dInts ((namedL s).take e)) (some 0)),cZ l],[⟨n,3,1,none⟩]⟩
def PlacesΦ (s:Sch) (ord:List Nat) (lc:List DV) (m:Int) (_:DV) (os:List (List DV)) (_:List TkE):Prop:=
 os=[bC s (.pt lc 0) (.loc 1 0) m,pC s ord (.pt lc 0) (.v (.slice none 0 0)) (.v (.int .i64 0)) (.sl 1 (dInts (namedL s)) none)]
theorem cZ_get {l:List Int} {i:Nat} {z:Int} (h:l[i]? = some z):(cZ l)[i]? = some (DV.v (.int .i64 z)):=by simp [cZ,h]
theorem places_spec (s:Sch) (lc:List DV) (ord:List Nat) (m:Int) (hT:TblOK (tL s) ord) (hol:ord.length<=1099511627776) (hl:s.types.length<=64) (hr:∀ x∈s.types,refB s x.2=true) (hs:nmsWt s.types<=1099511627776)
  (hlo:∀ i,i < s.types.length->∃ k,endI s (s.types.length + 1) i=some k) :
  Ev Tryz.prog 80 [.loc 0 0] [bC s (.pt lc 0) (.loc 1 0) m,pC0 s ord lc] [] (PlacesΦ s ord lc m):=by
 have hN:=dNms_len s.types
 have hnw:∀ x∈s.types,x.2.wt<=1099511627776:=fun x hx=>by
  have:=nmsWt_mem hx;omega
 have hfw:=firstA_le s;have hfs:=fun {k:Nat} {x:Wd × Ty}=>@firstA_succ s k x;have hnl:(namedL s).length=s.types.length:=by simp [namedL]
 have hend:=fun (e0:DV)=>end_spec s (.pt lc 0) ord (.pt lc 0) (.v (.slice none 0 0)) (.v (.int .i64 0)) e0 m hT hol hl hr;obtain ⟨levels,order,types,⟨rh,rp⟩⟩:=s;simp only at hl hr hN hs hnw hfw hfs hnl hend hlo;have hN2:(dNms (⟨levels,order,types,.mk rh rp⟩:Sch).types).length=types.length:=hN;refine ev_go (P:=Tryz.prog) tt tt_ok 5000 66 [] Tryz.func80 rfl Tryz.ntmps80 rfl (nL rfl) (fun E9 w9 hn9 hm9=>?_);refine ⟨⟨rfl,by omega,by omega,by omega⟩,?_⟩
 refine loop_i (fun j st=>∃ (e:Nat) (l:List Int),st=plSt ⟨levels,order,types,.mk rh rp⟩ lc (pC0 ⟨levels,order,types,.mk rh rp⟩ ord lc) m l (firstA ⟨levels,order,types,.mk rh rp⟩ e) e/\e<=types.length/\l.length=types.length/\(∀ i:Nat,i < e->l[i]? = some (firstA ⟨levels,order,types,.mk rh rp⟩ i:Int))/\j=types.length - e) types.length
  (plSt ⟨levels,order,types,.mk rh rp⟩ lc (pC0 ⟨levels,order,types,.mk rh rp⟩ ord lc) m (List.replicate ((dNms types).length:Int).toNat 0) (firstA ⟨levels,order,types,.mk rh rp⟩ 0) 0) (weak_b 3 rfl (by repeat' (first | exact rfl | exact we_rfl rfl | exact weL_cZ' (rep0 _) | refine ⟨_,_,rfl,?_,?_⟩)) rfl rfl rfl (by repeat' (first | exact trivial | exact we_rfl rfl | exact weL_cZ' (rep0 _) | refine ⟨⟨_,rfl,?_⟩,?_⟩))) ⟨0,_,rfl,by omega,by simp [hN],fun _ h=>by omega,by omega⟩ ?_
 rintro j st ⟨e,l,rfl,he,hll,hlv,rfl⟩;refine br (fun hL=>?_) (fun hL=>?_)
 ·have hlt:e < types.length:=by have:=hL;simp [hN] at this;exact this
  obtain ⟨x,hx⟩:∃ x,types[e]? = some x:=⟨_,gE hlt⟩;have hxw:=hnw x (mG hx);have hfe:=hfs hx;have hf1:=hfw (e + 1);obtain ⟨xw,⟨xh,xp⟩⟩:=x;have hnd:=nodes_spec (Ty.mk xh xp).wt (.mk xh xp) (Nat.le_refl _) hxw;refine ⟨_,⟨by omega,dNms_get hx⟩,?_⟩;refine ⟨⟨by omega,by omega⟩,?_⟩;refine ⟨by rw [cZ_len];omega,?_⟩;refine call_p en190 (hnd) ax rfl ?_;simp only at hfe hf1
  have hb1:(cZ l).set (0 + (e:Int).toNat * 1) (DV.v (.int .i64 ((firstA ⟨levels,order,types,.mk rh rp⟩ e:Nat):Int)))=cZ (l.set e ((firstA ⟨levels,order,types,.mk rh rp⟩ e:Nat):Int)):=by
   rw [show 0 + (e:Int).toNat * 1=e by omega,cZ_set]
  have hw4:IntKind.i64.wrap (((firstA ⟨levels,order,types,.mk rh rp⟩ e:Nat):Int) + (Ty.mk xh xp).nn)=((firstA ⟨levels,order,types,.mk rh rp⟩ (e + 1):Nat):Int):=by
   rw [hfe,wrap64 (by omega) (by omega)];omega
  refine ⟨plSt ⟨levels,order,types,.mk rh rp⟩ lc (pC0 ⟨levels,order,types,.mk rh rp⟩ ord lc) m (l.set e ((firstA ⟨levels,order,types,.mk rh rp⟩ e:Nat):Int)) (firstA ⟨levels,order,types,.mk rh rp⟩ (e + 1)) (e + 1),(weak_b 3 rfl (by repeat' (first | exact rfl | exact we_rfl rfl | exact weL_cZ' hb1 | exact we_int hw4 | exact we_int (nxt hlt (by omega)) | refine ⟨_,_,rfl,?_,?_⟩)) rfl rfl rfl (by repeat' (first | exact trivial | exact we_rfl rfl | exact weL_cZ' hb1 | exact we_int hw4 | exact we_int (nxt hlt (by omega)) | refine ⟨⟨_,rfl,?_⟩,?_⟩))),types.length - (e + 1),by omega,e + 1,_,rfl,by omega,by rw [List.length_set];exact hll,fun i hi=>?_,rfl⟩;by_cases hie:i=e
  ·subst hie;rw [List.getElem?_set_self (by omega)]
  ·rw [List.getElem?_set_ne (Ne.symm hie)];exact hlv i (by omega)
 ·have hge:e=types.length:=by have:=hL;simp [hN] at this;omega
  subst hge;refine loop_i (fun j st=>∃ e:Nat,st=pl2St ⟨levels,order,types,.mk rh rp⟩ ord lc m l e e/\e<=types.length/\j=types.length - e) types.length (pl2St ⟨levels,order,types,.mk rh rp⟩ ord lc m l 0 0) (weak_bt 3 ⟨0,3,1,none⟩ rfl rfl rfl (by repeat' (first | exact rfl | exact we_rfl rfl | exact weL_cZ _ | exact we_tok (Nat.le_refl _) rfl | exact we_tok (Nat.le_refl _) rfl | refine ⟨_,_,rfl,?_,?_⟩)) rfl rfl (by repeat' (first | exact trivial | exact we_rfl rfl | exact weL_cZ _ | exact we_tok (Nat.le_refl _) rfl | refine ⟨⟨_,rfl,?_⟩,?_⟩))) ⟨0,rfl,by omega,by omega⟩ ?_;rintro j st ⟨e,rfl,he,rfl⟩;refine br (fun hL=>?_) (fun hL=>?_)
  ·have hlt:e < types.length:=by have:=hL;simp [hN] at this;exact this
   obtain ⟨k,hk⟩:=hlo e hlt;have hkl:=(endI_lt hk).1;simp only at hkl;have hE:=hend (.sl 1 (dInts ((namedL ⟨levels,order,types,.mk rh rp⟩).take e)) none) e hlt;rw [hk] at hE;have hnn:namedN ⟨levels,order,types,.mk rh rp⟩ e=firstA ⟨levels,order,types,.mk rh rp⟩ k:=by unfold namedN;rw [hk];all_goals rfl
   have hget:(namedL ⟨levels,order,types,.mk rh rp⟩)[e]? = some (firstA ⟨levels,order,types,.mk rh rp⟩ k):=by
    unfold namedL;rw [List.getElem?_map,List.getElem?_range hlt,Option.map_some,hnn]
   have hsn:dInts ((namedL ⟨levels,order,types,.mk rh rp⟩).take e) ++ [[DV.v (.int .i64 ((firstA ⟨levels,order,types,.mk rh rp⟩ k:Nat):Int))]]=dInts ((namedL ⟨levels,order,types,.mk rh rp⟩).take (e + 1)):=by
    rw [List.take_add_one,hget];simp [dInts]
   refine drawG_s mo (by decide +kernel) ?_;refine callD_b en189 hE ax rfl rfl ?_;refine ⟨⟨by simp only [oz];omega,by simp only [oz];omega⟩,?_⟩
   have hld:(cZ l)[0 + (oz (some k)).toNat * 1]? = some (DV.v (.int .i64 ((firstA ⟨levels,order,types,.mk rh rp⟩ k:Nat):Int))):=by
    rw [show 0 + (oz (some k)).toNat * 1=k by simp only [oz];omega];exact cZ_get (hlv k hkl)
   refine ⟨_,hld,?_⟩;refine ⟨by simp [dInts_len];omega,⟨by simp [dInts_len,maxLen];omega,by simp [dInts_len];omega⟩,?_⟩;exact ⟨pl2St ⟨levels,order,types,.mk rh rp⟩ ord lc m l (e + 1) (e + 1),(weak_b 3 rfl (by repeat' (first | exact rfl | exact we_rfl rfl | exact weL_cZ _ | exact we_int (nxt hlt (by omega)) | exact we_sl hsn rfl | refine ⟨_,_,rfl,?_,?_⟩)) rfl rfl rfl (by repeat' (first | exact trivial | exact we_rfl rfl | exact weL_cZ _ | exact we_int (nxt hlt (by omega)) | exact we_sl hsn rfl | refine ⟨⟨_,rfl,?_⟩,?_⟩))),types.length - (e + 1),by omega,e + 1,rfl,by omega,rfl⟩
  ·have hge:e=types.length:=by have:=hL;simp [hN] at this;omega
   subst hge;have ht:(namedL ⟨levels,order,types,.mk rh rp⟩).take types.length=namedL ⟨levels,order,types,.mk rh rp⟩:=by rw [<- hnl,List.take_length]
   rw [ht];exact ⟨.tup [],[bC ⟨levels,order,types,.mk rh rp⟩ (.pt lc 0) (.loc 1 0) m,pC ⟨levels,order,types,.mk rh rp⟩ ord (.pt lc 0) (.v (.slice none 0 0)) (.v (.int .i64 0)) (.sl 1 (dInts (namedL ⟨levels,order,types,.mk rh rp⟩)) none)],ax,aL,rfl⟩
structure Ed where
 name:ByteArray
 bare:Bool
 at':Int
 to:Int
 label:Int
 wide:Int
 ck:Int
 cn:Int
 seen:Int
 ca:Int
structure Nd where
 kind:Int
 at':Int
 lo:Int
 hi:Int
 most:Int
 names:List ByteArray
 edges:List Ed
def dEd (e:Ed):List DV:=[.v (.string e.name),.v (.bool e.bare),.v (.int .i64 e.at'),.v (.int .i64 e.to),.v (.int .i64 e.label),.v (.int .i64 e.wide),.v (.int .i64 e.ck),.v (.int .i64 e.cn),.v (.int .i64 e.seen),.v (.int .i64 e.ca)]
def dEds (l:List Ed):List (List DV):=l.map dEd
def dNd (n:Nd):List DV:=[.v (.int .i64 n.kind),.v (.int .i64 n.at'),.v (.int .i64 n.lo),.v (.int .i64 n.hi),.v (.int .i64 n.most),.sl 1 (dBs n.names) none,.sl 10 (dEds n.edges) none]
def dNds (l:List Nd):List (List DV):=l.map dNd
def wideF (w:Int):Int:=if w=0 then 3 else w
def mkEd (lev:List Wd->Int) (p:Ph) (to:Int):Ed:=⟨p.name.s,p.bare,p.name.a,to,lev p.label,wideF p.wide,p.ck,p.cn,lev p.cl,p.ca⟩
def nmF (s:Sch) (name:ByteArray):Int:=(namedN s ((ixOf (tL s) name).getD 0):Int)
def idxF (s:Sch) (t:Ty) (k:Nat):Int:=if t.h.kind=9 then nmF s t.h.name.s else (k:Int)
def toF (s:Sch) (p:Ph) (u:Ty) (k:Nat):Int:=if p.bare then -1 else idxF s u k
mutual
def ndsT (lev:List Wd->Int) (s:Sch):Ty->Nat->List Nd
 | .mk h ps,k=>if h.kind=9 then [] else ⟨h.kind,h.at',h.lo,h.hi,h.most,nmTx h.names,edsP lev s ps (k + 1)⟩ :: ndsP lev s ps (k + 1)
def edsP (lev:List Wd->Int) (s:Sch):Pts->Nat->List Ed
 | .nil,_=>[]
 | .cons p u r,k=>mkEd lev p (toF s p u k) :: edsP lev s r (k + if p.bare then 0 else u.nn)
def ndsP (lev:List Wd->Int) (s:Sch):Pts->Nat->List Nd
 | .nil,_=>[]
 | .cons p u r,k=>(if p.bare then [] else ndsT lev s u k) ++ ndsP lev s r (k + if p.bare then 0 else u.nn)
end
mutual
theorem ndsT_len (lev:List Wd->Int) (s:Sch):∀ (t:Ty) (k:Nat),(ndsT lev s t k).length=t.nn
 | .mk h ps,k=>by
  simp only [ndsT,Ty.nn];split
  ·rfl
  ·rw [List.length_cons,ndsP_len lev s ps];omega
theorem ndsP_len (lev:List Wd->Int) (s:Sch):∀ (ps:Pts) (k:Nat),(ndsP lev s ps k).length=ps.nn
 | .nil,k=>rfl
 | .cons p u r,k=>by
  simp only [ndsP,Pts.nn,List.length_append,ndsP_len lev s r];split
  ·rfl
  ·rw [ndsT_len lev s u]
end
abbrev pCn (s:Sch) (ord:List Nat) (lc:List DV) (n:Nat):List DV:=pC s ord (.pt lc 0) (.sl 0 (List.replicate n []) (some 0)) (.v (.int .i64 0)) (.sl 1 (dInts (namedL s)) none)
abbrev rowN (n:Nat) (base:List DV):TkE:=⟨n,176,7,some base⟩
def MadeΦ (s:Sch) (ord:List Nat) (lc:List DV) (m:Int) (n:Nat) (base:List DV) (y:DV) (nds:List Nd) (r:DV) (os:List (List DV)) (tk:List TkE):Prop:=
 r=y/\os=[bC s (.pt lc 0) (.loc 1 0) m,pCn s ord lc (n + nds.length)]/\tk=[rowN (n + nds.length) (base ++ (dNds nds).flatten)]
def NodeOK (lev:List Wd->Int) (s:Sch) (ord:List Nat) (lc:List DV) (m:Int) (t:Ty):Prop:=
 ∀ (n:Nat) (base:List DV),n + t.nn<=1099511627776->base.length=n * 7 ->
  Ev Tryz.prog 81 [.loc 0 0,.agg (dTy t)] [bC s (.pt lc 0) (.loc 1 0) m,pCn s ord lc n] [rowN n base] (MadeΦ s ord lc m n base (.v (.int .i64 (idxF s t n))) (ndsT lev s t n))
theorem edge_spec {X:Lx} (hX:X.OK) (s:Sch) (ord:List Nat) (m:Int) (p:Ph) (u:Ty) (hp:p.wt<=1099511627776) (hnode:p.bare=false->NodeOK X.lev s ord (dLs X.names (dTbl X.names X.ord) X.rows X.js) m u)
  (n:Nat) (base:List DV) (hb:p.bare=false->n + u.nn<=1099511627776) (hbl:base.length=n * 7) :
  Ev Tryz.prog 191 [.loc 0 0,.agg (dPh p (dTy u))] [bC s (.pt (dLs X.names (dTbl X.names X.ord) X.rows X.js) 0) (.loc 1 0) m,pCn s ord (dLs X.names (dTbl X.names X.ord) X.rows X.js) n] [rowN n base]
   (MadeΦ s ord (dLs X.names (dTbl X.names X.ord) X.rows X.js) m n base (.agg (dEd (mkEd X.lev p (toF s p u n)))) (if p.bare then [] else ndsT X.lev s u n)):=by
 have hw1:wdsWt p.label + wdsWt p.cl<=p.wt:=by simp only [Ph.wt];omega
 have hpd:X.pd = .pt (dLs X.names (dTbl X.names X.ord) X.rows X.js) 0:=rfl;have hl1:=fun pc=>level_spec hX s pc m p.label (by omega);have hl2:=fun pc=>level_spec hX s pc m p.cl (by omega);rw [hpd] at hl1 hl2;have hE:=fun to=>mkEd.eq_1 X.lev p to;have hto:=toF.eq_1 s p u n;generalize dLs X.names (dTbl X.names X.ord) X.rows X.js=lc at hl1 hl2 hnode ⊢;obtain ⟨levels,order,types,⟨rh,rp⟩⟩:=s;obtain ⟨uh,us⟩:=u;refine ev_go (P:=Tryz.prog) tt tt_ok 5000 52 [.cell 4 232] Tryz.func191 rfl Tryz.ntmps191 rfl (nL rfl) (fun E9 w9 hn9 hm9=>?_);have hlev1:=hl1 [.pt lc 0,.sl 0 (List.replicate n []) none,.v (.int .i64 0),.pt (dTbl (tL ⟨levels,order,types,.mk rh rp⟩) ord) 0,.sl 1 (dInts (namedL ⟨levels,order,types,.mk rh rp⟩)) none];have hlev2:=hl2 [.pt lc 0,.sl 0 (List.replicate n []) none,.v (.int .i64 0),.pt (dTbl (tL ⟨levels,order,types,.mk rh rp⟩) ord) 0,.sl 1 (dInts (namedL ⟨levels,order,types,.mk rh rp⟩)) none];apply drawG_two (fun _=>false) 11 15 [0,1,2,3,4,5,6,7,8,9,10,11,12,13,14,15,16] [0,1,2,3,4,5,6,7,8,9,10,15,11,12,13,14,16] 4 4 mo (by decide +kernel)
 ·refine callD_b en311 hlev1 ax rfl rfl ?_;refine (?_:@Eq St _ _);exact rfl
 ·refine callD_b en311 hlev1 ax rfl rfl ?_;refine (⟨rfl,rfl,?_⟩:_/\_/\_)
  repeat' (first | exact trivial | refine ⟨rfl,?_⟩)
 ·rfl
 refine br (fun hw=>?_) (fun hw=>?_)
 ·have hw:p.wide=0:=by simpa using hw
  refine drawG_m [4] (fun _=>false) mo (by decide +kernel) ?_;refine callD_b en311 hlev2 ax rfl rfl ?_;refine br (fun hB=>?_) (fun hB=>?_)
  ·have hB:p.bare=false:=by simpa using hB
   refine call_os 2 1 en81 rfl rfl rfl aL aL (hnode hB n base (hb hB) hbl) (fun r os' tk' hΦ h1 h2=>?_);obtain ⟨rfl,rfl,rfl⟩:=hΦ;refine ⟨.agg (dEd ⟨p.name.s,p.bare,p.name.a,idxF ⟨levels,order,types,.mk rh rp⟩ (.mk uh us) n,X.lev p.label,3,p.ck,p.cn,X.lev p.cl,p.ca⟩),[bC ⟨levels,order,types,.mk rh rp⟩ (.pt lc 0) (.loc 1 0) m,pCn ⟨levels,order,types,.mk rh rp⟩ ord lc (n + (ndsT X.lev ⟨levels,order,types,.mk rh rp⟩ (.mk uh us) n).length)],ax,aL,?_,?_,?_⟩
   ·simp [hE,toF,hB,wideF,hw]
   ·simp [hB]
   ·simp [hB]
  ·have hB:p.bare=true:=by simpa using hB
   refine ⟨.agg (dEd ⟨p.name.s,p.bare,p.name.a,-1,X.lev p.label,3,p.ck,p.cn,X.lev p.cl,p.ca⟩),[bC ⟨levels,order,types,.mk rh rp⟩ (.pt lc 0) (.loc 1 0) m,pCn ⟨levels,order,types,.mk rh rp⟩ ord lc n],ax,aL,?_,?_,?_⟩
   ·simp [hE,toF,hB,wideF,hw]
   ·simp [hB]
   ·simp [hB,dNds]
 ·have hw:¬ p.wide=0:=by simpa using hw
  refine drawG_m [4] (fun _=>false) mo (by decide +kernel) ?_;refine callD_b en311 hlev2 ax rfl rfl ?_;refine br (fun hB=>?_) (fun hB=>?_)
  ·have hB:p.bare=false:=by simpa using hB
   refine call_os 2 1 en81 rfl rfl rfl aL aL (hnode hB n base (hb hB) hbl) (fun r os' tk' hΦ h1 h2=>?_);obtain ⟨rfl,rfl,rfl⟩:=hΦ;refine ⟨.agg (dEd ⟨p.name.s,p.bare,p.name.a,idxF ⟨levels,order,types,.mk rh rp⟩ (.mk uh us) n,X.lev p.label,p.wide,p.ck,p.cn,X.lev p.cl,p.ca⟩),[bC ⟨levels,order,types,.mk rh rp⟩ (.pt lc 0) (.loc 1 0) m,pCn ⟨levels,order,types,.mk rh rp⟩ ord lc (n + (ndsT X.lev ⟨levels,order,types,.mk rh rp⟩ (.mk uh us) n).length)],ax,aL,?_,?_,?_⟩
   ·simp [hE,toF,hB,wideF,hw]
   ·simp [hB]
   ·simp [hB]
  ·have hB:p.bare=true:=by simpa using hB
   refine ⟨.agg (dEd ⟨p.name.s,p.bare,p.name.a,-1,X.lev p.label,p.wide,p.ck,p.cn,X.lev p.cl,p.ca⟩),[bC ⟨levels,order,types,.mk rh rp⟩ (.pt lc 0) (.loc 1 0) m,pCn ⟨levels,order,types,.mk rh rp⟩ ord lc n],ax,aL,?_,?_,?_⟩
   ·simp [hE,toF,hB,wideF,hw]
   ·simp [hB]
   ·simp [hB,dNds]
def nd0 (h:Hd):List DV:=[.v (.int .i64 h.kind),.v (.int .i64 h.at'),.v (.int .i64 h.lo),.v (.int .i64 h.hi),.v (.int .i64 h.most),.sl 1 (dBs (nmTx h.names)) none,.v (.slice none 0 0)]
theorem nd0_set {h:Hd} {base R:List DV} {n:Nat} {x:DV} (hb:base.length=n * 7):(base ++ (nd0 h ++ R)).set (n * 7 + 6) x=base ++ ([.v (.int .i64 h.kind),.v (.int .i64 h.at'),.v (.int .i64 h.lo),.v (.int .i64 h.hi),.v (.int .i64 h.most),.sl 1 (dBs (nmTx h.names)) none,x] ++ R):=by
 rw [List.set_append_right _ _ (by omega),hb,Nat.add_sub_cancel_left];rfl
theorem dEds_snoc (l:List Ed) (e:Ed):dEds l ++ [dEd e]=dEds (l ++ [e]):=by simp [dEds]
theorem dEds_len (l:List Ed):(dEds l).length=l.length:=by simp [dEds]
theorem edsP_len (lev:List Wd->Int) (s:Sch):∀ (ps:Pts) (k:Nat),(edsP lev s ps k).length=ps.len
 | .nil,_=>rfl
 | .cons p u r,k=>by simp [edsP,Pts.len,edsP_len lev s r]
abbrev ndASt (s:Sch) (ord:List Nat) (lc:List DV) (m:Int) (n:Nat) (base:List DV) (h:Hd) (ps:Pts) (q e:Nat):St:=
 ⟨[(0,⟨[],.loc 0 0⟩),(3,⟨[],.loc 2 0⟩),(7,⟨[],.v (.int .i64 n)⟩),(8,⟨[],.loc 3 0⟩),(61,⟨[],.sl 2 (dWds h.names) none⟩),(62,⟨[],.v (.int .i64 (dWds h.names).length)⟩),(63,⟨[],.v (.int .i64 e)⟩)],
  [bC s (.pt lc 0) (.loc 1 0) m,pCn s ord lc n,dTy (.mk h ps),[.v (.int .i64 h.kind),.v (.int .i64 h.at'),.v (.int .i64 h.lo),.v (.int .i64 h.hi),.v (.int .i64 h.most),.sl 1 (dBs (nmTx (h.names.take e))) (some 1),.v (.slice none 0 0)]],
  [rowN n base,⟨q,9,1,none⟩]⟩
abbrev ndBSt (s:Sch) (ord:List Nat) (lc:List DV) (m:Int) (n:Nat) (h:Hd) (ps:Pts) (n':Nat) (base':List DV) (Es:List Ed) (q1 q2 e:Nat):St:=
 ⟨[(0,⟨[],.loc 0 0⟩),(3,⟨[],.loc 2 0⟩),(7,⟨[],.v (.int .i64 n)⟩),(11,⟨[],.sl 10 (dEds Es) (some 2)⟩),(92,⟨[],.sl 18 (dPts ps) none⟩),(93,⟨[],.v (.int .i64 (dPts ps).length)⟩),(94,⟨[],.v (.int .i64 e)⟩)],
  [bC s (.pt lc 0) (.loc 1 0) m,pCn s ord lc n',dTy (.mk h ps)],
  [rowN n' base',⟨q1,9,1,none⟩,⟨q2,232,10,none⟩]⟩
theorem knT_ok {X:Lx} {L:List ByteArray} {h:Hd} {ps:Pts} (hk:(knT X L (.mk h ps)).1=0):(h.kind=9->ixOf L h.name.s≠none)/\(knP X L ps).1=0:=by
 rw [knT] at hk;split at hk
 ·cases hk
 ·rename_i h1;exact ⟨fun h9 hn=>h1 ⟨h9,hn⟩,hk⟩
theorem knP_ok {X:Lx} {L:List ByteArray} {p:Ph} {u:Ty} {r:Pts} (hk:(knP X L (.cons p u r)).1=0):(p.bare=false->(knT X L u).1=0)/\(knP X L r).1=0:=by
 rw [knP] at hk;split at hk
 ·rename_i h1;exact (h1 hk).elim
 ·split at hk
  ·rename_i h1;exact (h1 hk).elim
  ·split at hk
   ·rename_i h1;exact ⟨(fun h2=>by rw [h1] at h2;cases h2),hk⟩
   ·split at hk
    ·rename_i h1;exact (h1 hk).elim
    ·rename_i h1;exact ⟨fun _=>by simpa using h1,hk⟩
theorem node_spec {X:Lx} (hX:X.OK) (s:Sch) (ord:List Nat) (m:Int) (hT:TblOK (tL s) ord) (hol:ord.length<=1099511627776):∀ (k:Nat) (t:Ty),t.wt<=k->t.wt<=1099511627776->(knT X (tL s) t).1=0 ->
  NodeOK X.lev s ord (dLs X.names (dTbl X.names X.ord) X.rows X.js) m t
 | 0,t,hn,_,_=>by have:=t.wt_pos;omega
 | k + 1,.mk h ps,hn,hbig,hkn=>by
  have ih:=node_spec hX s ord m hT hol k;intro n base hnb hbl;obtain ⟨hk9,hkp⟩:=knT_ok hkn;have hedge:=fun (p:Ph) (u:Ty)=>edge_spec hX s ord m p u;generalize dLs X.names (dTbl X.names X.ord) X.rows X.js=lc at ih hedge ⊢;simp only [Ty.wt,Hd.wt] at hn hbig;have hpl:=ps.wt_len;have hnl:=wdsWt_len h.names;have hf:=tfind_spec (tL s) ord h.name.s hT hol;have htl:=tL_len s;have hnmL:(namedL s).length=s.types.length:=by simp [namedL]
  have hidx:idxF s (.mk h ps) n=if h.kind=9 then nmF s h.name.s else (n:Int):=rfl
  have hnds:ndsT X.lev s (.mk h ps) n=if h.kind=9 then [] else ⟨h.kind,h.at',h.lo,h.hi,h.most,nmTx h.names,edsP X.lev s ps (n + 1)⟩ :: ndsP X.lev s ps (n + 1):=by rw [ndsT]
  have hnn:(Ty.mk h ps).nn=if h.kind=9 then 0 else 1 + ps.nn:=by rw [Ty.nn]
  generalize hS:s=S at *;subst hS;obtain ⟨levels,order,types,⟨rh,rp⟩⟩:=s;refine ev_go (P:=Tryz.prog) tt tt_ok 5000 117 [.tmp 4] Tryz.func81 rfl Tryz.ntmps81 rfl (nL rfl) (fun E9 w9 hn9 hm9=>?_);refine br (fun h9=>?_) (fun h9=>?_)
  ·have h9:h.kind=9:=by simpa using h9
   obtain ⟨i,hi⟩:=Option.ne_none_iff_exists'.1 (hk9 h9);have hil:=(ixOf_some hi).1;rw [hi] at hf;rw [if_pos h9] at hidx hnds
   have hget:(namedL ⟨levels,order,types,.mk rh rp⟩)[i]? = some (namedN ⟨levels,order,types,.mk rh rp⟩ i):=by
    unfold namedL;rw [List.getElem?_map,List.getElem?_range (by omega)];rfl
   refine drawG_i (fun _=>false) mo (by decide +kernel) ?_;refine callD_p en172 (hf) ax rfl ?_;refine ⟨_,⟨by omega,dInts_get hget⟩,?_⟩;refine ⟨.v (.int .i64 (namedN ⟨levels,order,types,.mk rh rp⟩ i:Nat)),[bC ⟨levels,order,types,.mk rh rp⟩ (.pt lc 0) (.loc 1 0) m,pCn ⟨levels,order,types,.mk rh rp⟩ ord lc n],ax,aL,?_,?_,?_⟩
   ·rw [hidx,nmF,hi];rfl
   ·rw [hnds];rfl
   ·rw [hnds];simp [dNds]
  have h9:¬ h.kind=9:=by simpa using h9
  rw [if_neg h9] at hidx hnds hnn;have hrl:(List.replicate n ([]:List DV)).length=n:=List.length_replicate;refine loop_i (fun j st=>∃ e:Nat,st=ndASt ⟨levels,order,types,.mk rh rp⟩ ord lc m n base h ps e e/\e<=h.names.length/\j=h.names.length - e) h.names.length (ndASt ⟨levels,order,types,.mk rh rp⟩ ord lc m n base h ps 0 0) (weak_bt 4 ⟨0,9,1,none⟩ rfl rfl rfl (by repeat' (first | exact rfl | exact we_rfl rfl | exact we_int (congrArg Nat.cast hrl) | exact we_tok (Nat.le_refl _) rfl | exact we_tok (Nat.le_refl _) rfl | refine ⟨_,_,rfl,?_,?_⟩)) rfl rfl (by repeat' (first | exact trivial | exact we_rfl rfl | exact we_int (congrArg Nat.cast hrl) | exact we_tok (Nat.le_refl _) rfl | refine ⟨⟨_,rfl,?_⟩,?_⟩))) ⟨0,rfl,by omega,by omega⟩ ?_;rintro j st ⟨e,rfl,he,rfl⟩;refine br (fun hL=>?_) (fun hL=>?_)
  ·have hlt:e < h.names.length:=by simpa [dWds_len] using hL
   obtain ⟨w,hw⟩:∃ w,h.names[e]? = some w:=⟨_,gE hlt⟩;have hsn:=nmTx_snoc hw;refine ⟨dWd w,⟨by omega,dWds_get hw⟩,?_⟩;refine ⟨by simp [dBs_len,nmTx];omega,⟨by simp [dBs_len,nmTx,maxLen];omega,by simp [dBs_len,nmTx];omega⟩,?_⟩;exact ⟨ndASt ⟨levels,order,types,.mk rh rp⟩ ord lc m n base h ps (e + 1) (e + 1),(weak_b 4 rfl (wSA hlt hsn) rfl rfl rfl (wSB hlt hsn)),h.names.length - (e + 1),by omega,e + 1,rfl,by omega,rfl⟩
  have hge:e=h.names.length:=by have:=hL;simp [dWds_len] at this;omega
  subst hge;rw [List.take_length];refine drawG_s mo (by decide +kernel) ?_;refine ⟨⟨⟨hrl,by simp⟩,by simp [maxLen];omega,by simp;omega⟩,?_⟩
  refine loop_i (fun j st=>∃ (e n':Nat) (base':List DV) (Es:List Ed) (K:List Nd),st=ndBSt ⟨levels,order,types,.mk rh rp⟩ ord lc m n h ps n' base' Es h.names.length e e/\e<=ps.len/\n'=n + 1 + K.length/\base'=base ++ (nd0 h ++ (dNds K).flatten)/\Es.length=e /\
    K ++ ndsP X.lev ⟨levels,order,types,.mk rh rp⟩ (ps.drop e) (n + 1 + K.length)=ndsP X.lev ⟨levels,order,types,.mk rh rp⟩ ps (n + 1)/\Es ++ edsP X.lev ⟨levels,order,types,.mk rh rp⟩ (ps.drop e) (n + 1 + K.length)=edsP X.lev ⟨levels,order,types,.mk rh rp⟩ ps (n + 1)/\K.length + (ps.drop e).nn=ps.nn/\(knP X (tL ⟨levels,order,types,.mk rh rp⟩) (ps.drop e)).1=0/\j=ps.len - e) ps.len
   (ndBSt ⟨levels,order,types,.mk rh rp⟩ ord lc m n h ps (n + 1) (base ++ (nd0 h ++ [])) [] h.names.length 0 0) (weak_bt 3 ⟨0,232,10,none⟩ rfl rfl rfl (by repeat' (first | exact rfl | exact we_rfl rfl | exact we_tok (Nat.le_refl _) rfl | exact we_tok (Nat.le_refl _) rfl | refine ⟨_,_,rfl,?_,?_⟩)) rfl rfl wTB) ⟨0,n + 1,_,[],[],rfl,by omega,rfl,rfl,rfl,rfl,rfl,by simp [Pts.drop],hkp,by omega⟩ ?_
  rintro j st ⟨e,n',base',Es,K,rfl,he,hn',hb',hEl,hK,hEs,hKn,hkd,rfl⟩
  have hbl':base'.length=n' * 7:=by
   have:∀ l:List Nd,(dNds l).flatten.length=l.length * 7:=by
    intro l
    induction l with
    | nil=>rfl
    | cons a r ih=>simp only [dNds,List.map_cons,List.flatten_cons,List.length_append,List.length_cons] at ih ⊢;rw [ih];simp only [dNd,List.length_cons,List.length_nil];omega
   rw [hb',List.length_append,List.length_append,this,hbl,hn'];simp only [nd0,List.length_cons,List.length_nil];omega
  refine br (fun hL=>?_) (fun hL=>?_)
  ·have hlt:e < ps.len:=by simpa [dPts_len] using hL
   obtain ⟨p,u,hx⟩:=Pts.get_lt hlt;have hwt:=Pts.wt_mem (mG hx);rw [Pts.drop_cons hx] at hK hEs hKn hkd;obtain ⟨hk1,hk2⟩:=knP_ok hkd;simp only [ndsP] at hK;simp only [edsP] at hEs;simp only [Pts.nn] at hKn;rw [<- hn'] at hK hEs;have hun:=u.nn_cnt;have huc:=u.cnt_wt;have hpe:=hedge p u (by omega) (fun hB=>ih u (by omega) (by omega) (hk1 hB)) n' base' (fun hB=>by rw [hB] at hKn;simp only [Bool.false_eq_true,if_false] at hKn;omega) hbl';have hlen1:=ndsT_len X.lev ⟨levels,order,types,.mk rh rp⟩ u n';obtain ⟨uh,us⟩:=u;refine ⟨_,⟨by omega,dPts_get hx⟩,?_⟩;refine call_os 2 1 en191 rfl rfl rfl aL aL hpe (fun r os' tk' hΦ h1 h2=>?_);obtain ⟨rfl,rfl,rfl⟩:=hΦ;refine ⟨by rw [dEds_len,hEl],⟨by simp [dEds_len,hEl,maxLen];omega,by simp [dEds_len,hEl];omega⟩,?_⟩
   have hnl2:(if p.bare then [] else ndsT X.lev ⟨levels,order,types,.mk rh rp⟩ (.mk uh us) n').length=if p.bare then 0 else (Ty.mk uh us).nn:=by
    split
    ·rfl
    ·exact hlen1
   have hidx2:n + 1 + (K.length + (if p.bare then 0 else (Ty.mk uh us).nn))=n' + if p.bare then 0 else (Ty.mk uh us).nn:=by rw [hn'];omega
   refine ⟨ndBSt ⟨levels,order,types,.mk rh rp⟩ ord lc m n h ps (n' + (if p.bare then [] else ndsT X.lev ⟨levels,order,types,.mk rh rp⟩ (.mk uh us) n').length) (base' ++ (dNds (if p.bare then [] else ndsT X.lev ⟨levels,order,types,.mk rh rp⟩ (.mk uh us) n')).flatten) (Es ++ [mkEd X.lev p (toF ⟨levels,order,types,.mk rh rp⟩ p (.mk uh us) n')]) h.names.length (e + 1) (e + 1),(weak_b 3 rfl (by repeat' (first | exact rfl | exact we_rfl rfl | exact we_int (nxt hlt (by omega)) | exact we_sl (dEds_snoc _ _) rfl | refine ⟨_,_,rfl,?_,?_⟩)) rfl rfl rfl (by repeat' (first | exact trivial | exact we_rfl rfl | exact we_int (nxt hlt (by omega)) | exact we_sl (dEds_snoc _ _) rfl | refine ⟨⟨_,rfl,?_⟩,?_⟩))),
    ps.len - (e + 1),by omega,e + 1,_,_,_,K ++ (if p.bare then [] else ndsT X.lev ⟨levels,order,types,.mk rh rp⟩ (.mk uh us) n'),rfl,by omega,?_,?_,?_,?_,?_,?_,hk2,rfl⟩
   ·rw [List.length_append,hn'];omega
   ·rw [hb'];simp [dNds]
   ·simp [hEl]
   ·rw [List.length_append,hnl2,List.append_assoc,hidx2];exact hK
   ·rw [List.length_append,hnl2,List.append_assoc,hidx2];exact hEs
   ·rw [List.length_append,hnl2];omega
  ·have hge:e=ps.len:=by have:=hL;simp [dPts_len] at this;omega
   subst hge;rw [Pts.drop_len] at hK hEs;simp only [ndsP,List.append_nil] at hK;simp only [edsP,List.append_nil] at hEs;have hKl:K.length=ps.nn:=by rw [hK,ndsP_len]
   have hrl2:(List.replicate n' ([]:List DV)).length=n':=List.length_replicate;refine own_store (kt:=0) ⟨rfl,rfl⟩ ⟨rfl,rfl,rfl⟩ ⟨rfl,rfl,rfl⟩ rfl rfl rfl rfl rfl rfl rfl rfl rfl rfl rfl hrl2 ⟨by omega,by omega⟩ (by decide) ?_;have hnl3:n + (ndsT X.lev ⟨levels,order,types,.mk rh rp⟩ (.mk h ps) n).length=n':=by rw [hnds,List.length_cons,<- hK,hn'];omega
   have hrow:base'.set ((n:Int).toNat * 7 + 6) (.sl 10 (dEds Es) none)=base ++ (dNds (ndsT X.lev ⟨levels,order,types,.mk rh rp⟩ (.mk h ps) n)).flatten:=by
    rw [hb',show (n:Int).toNat=n by omega,nd0_set hbl,hnds,hEs,hK];rfl
   refine ⟨.v (.int .i64 n),[bC ⟨levels,order,types,.mk rh rp⟩ (.pt lc 0) (.loc 1 0) m,pCn ⟨levels,order,types,.mk rh rp⟩ ord lc n'],ax,aL,?_,?_,?_⟩
   ·rw [hidx]
   ·rw [hnl3]
   ·rw [hnl3,<- hrow];rfl
end Go.Proofs.YtadbccicdbopcaaGreat
namespace Go.Proofs.YtadbccicdbopcaaGreat
namespace Dv
open Go Go.RowKit
section
variable {X:Ctx} {st:St} {k:List It} {E:En} {a:Act} {w:World} {ops:Array Oper} {W:Nat->Bool} {C:World->Prop} {Q:Act->World->Prop} {i:Nat} {r:List Nat} {o:Oper}
theorem wanted_none (hg:o.guard=none):Region.wanted o (yielded ops a.tmps)=true:=by
 unfold Region.wanted;rw [hg]
theorem rl_mask {bx:List (List DV)} {wr:World} (h:Rel X E st a w) (hE:EnvM E bx wr) (hC:∀ w',C w' -> CC E bx wr w'):Rl E bx C st.sl a where
 tm:=h.tm
 bxs:=fun i cs hi=>by
  by_cases hne:cs=[]
  ·subst hne;have hlt:i < E.β.length:=by rw [hE.len];exact (gS hi).1
   exact ⟨_,[],gE hlt,⟨rvL_nil _,by simp⟩,fun w' _ j u hj=>by simp at hj⟩
  ·obtain ⟨b,ty,arr,hb,hw,hc⟩:=hE.bxs i cs hi hne;exact ⟨b,arr,hb,hc,fun w' h' j u hj=>by rw [cell_blk (((hC w' h').o i b cs hb hi hne).trans hw)];simpa using hj⟩
 cc:=fun x v hx w' h'=>(hC w' h').c x v hx
theorem em_mask {bx:List (List DV)} (h:Env E bx w) (m:List Nat):EnvM E (maskL m 0 bx) w:=⟨by rw [maskL_len];exact h.len,fun i cs hi hne=>by
 rcases maskL_get m _ _ _ _ hi with h1 | h1
 ·exact (hne h1).elim
 ·exact h.bxs i cs h1⟩
theorem runT_np (hR:Rel X E st a w) (ho:ops[i]? = some o) (hE:isE o.op=false) (hL:isL o.op=false) (hg:o.guard=none) {s:DV} (hs:pureT X.P X.T ⟨st.sl,[],[]⟩ [] o.op=some s) (hd:okD X.nt st.sl o.dst=true)
  (hk:∀ a',Rel X E (st.put o.dst ⟨[],s⟩) a' w->runT X.P ops W C Q r a' w):runT X.P ops W C Q (i :: r) a w:=by
 have hrl:Rl E [] (fun _=>False) st.sl a:=⟨hR.tm,fun i cs hi=>by simp at hi,fun _ _ _ _ h=>h.elim⟩;obtain ⟨v,hv,hrun⟩:=pure_sound (st:=⟨st.sl,[],[]⟩) X.hT hrl (holds_nil _) hs;simp only [runT,ho,hE,Bool.false_eq_true,if_false];exact ⟨v,.inl ⟨wanted_none hg,fun w' _=>hrun w' fun h=>by rw [hL] at h;cases h⟩,fun h=>(by rw [hL] at h;cases h),hk _ (put_rel hR hd s v hv)⟩
theorem runT_lo (hR:Rel X E st a w) (ho:ops[i]? = some o) {bx:List (List DV)} (hrl:Rl E bx C st.sl a) (hCw:C w) (hE:isE o.op=false) (hg:o.guard=none) {s:DV} (hs:pureT X.P X.T ⟨st.sl,bx,[]⟩ [] o.op=some s) (hd:okD X.nt st.sl o.dst=true)
  (hk:∀ a',Rel X E (st.put o.dst ⟨[],s⟩) a' w->runT X.P ops W C Q r a' w):runT X.P ops W C Q (i :: r) a w:=by
 obtain ⟨v,hv,hrun⟩:=pure_sound (st:=⟨st.sl,bx,[]⟩) X.hT hrl (holds_nil _) hs;simp only [runT,ho,hE,Bool.false_eq_true,if_false];exact ⟨v,.inl ⟨wanted_none hg,fun w' h=>hrun w' h⟩,fun _=>hCw,hk _ (put_rel hR hd s v hv)⟩
theorem runT_ld (hR:Rel X E st a w) (ho:ops[i]? = some o) {t x d:Nat} {b p j:Nat} {n:Nat} {kd:TK} {z:List Value} (hb:E.β[j]? = some b) (hop:o.op = .load t (.tmp x)) (hdst:o.dst=some d) {i2 off2 b2:Nat} (hb2:E.β[i2]? = some b2) (hx:rv st [] (.tmp x)=some (.loc i2 p)) (hT:X.T.find t=some ⟨n,false,kd,z⟩)
  (hC:∀ w',C w' -> w'.cell? ⟨b2,p,none⟩=some (.pointer (some ⟨b,off2,none⟩))) (hCw:C w) (hg:o.guard=none) (hd:okD X.nt st.sl (some d)=true)
  (hk:∀ a',Rel X E ⟨(d,⟨[],.loc j off2⟩) :: st.sl,st.bx,st.tk⟩ a' w->runT X.P ops W C Q r a' w):runT X.P ops W C Q (i :: r) a w:=by
 have hE:isE o.op=false:=by rw [hop];all_goals rfl
 simp only [runT,ho,hE,Bool.false_eq_true,if_false];have hv:Rv E (.loc j off2) (.pointer (some ⟨b,off2,none⟩)):=by unfold Rv;exact ⟨b,hb,rfl⟩
 refine ⟨.pointer (some ⟨b,off2,none⟩),.inl ⟨wanted_none hg,fun w' h=>?_⟩,fun _=>hCw,?_⟩
 ·have hC':=hC w' (h (by rw [hop];rfl));have e1:=sl_val hR.rl hx;unfold Rv at e1;obtain ⟨b3,hb3,e1⟩:=e1;rw [hb2] at hb3;simp only [oI] at hb3;subst hb3;have hag:=(te_parts X.hT hT).2.1
  have hl:(loadVar t ⟨b2,p,none⟩).run X.P w' = .ok (.pointer (some ⟨b,off2,none⟩)) w':=by
   simp [loadVar,run_isAgg' hag,hC']
  simp only [execOp,hop,e1,Sem.run_bind,Instr.loadAt,Instr.sureAddr,Sem.run_pure,Result.andThen_ok,hl]
 ·rw [hdst];exact hk _ (put_rel hR hd (.loc j off2) _ hv)
theorem runT_call (hR:Rel X E st a w) (ho:ops[i]? = some o) {dst:Option Nat} {f:Operand} {args:Array Operand} {tys:Array TypeId} (hop:o.op = .call ⟨.value f,args,tys⟩) (hdst:o.dst=dst) (hg:o.guard=none) {g:FuncId} {ds:List DV} (hf:rv st [] f=some (.fn g [] [])) (hl:argsV st [] args.toList=some ds) (hen:Enters X.P g)
  {K:Value->World->Prop} (hc:∀ vs,RvL E ds vs->Calls X.P g vs.toArray w fun e w'=>∃ v,e = .returned v/\K v w') (hk:∀ v w',K v w' -> (W i=false->C w->C w')/\runT X.P ops W C Q r (a.put dst v) w'):runT X.P ops W C Q (i :: r) a w:=by
 have hE:isE o.op=true:=by rw [hop];all_goals rfl
 have hwn:=wanted_none (ops:=ops) (a:=a) hg;have hrl:=hR.rl;have e1:=sl_val hrl hf;unfold Rv at e1;obtain ⟨l1,r1,e1,hl1,hr1⟩:=e1;simp only [RvL] at hl1 hr1;subst hl1 hr1;have hargs:=args_sound hrl (holds_nil _) _ _ hl;simp only [runT,ho,hE,if_true,stepX,hwn];subst hdst;obtain ⟨dst,op,ty,pos,after,gu⟩:=o;simp only at hop;subst hop
 have hr:(execOp a.eval ⟨dst,.call ⟨.value f,args,tys⟩,ty,pos,after,gu⟩).run X.P w = .ok (.enter g (args.toList.map a.eval).toArray) w:=by
  have e3:(([]:List Value).toArray ++ args.map a.eval ++ ([]:List Value).toArray)=(args.toList.map a.eval).toArray:=by apply Array.ext';simp
  simp only [execOp,resolve,e1,Deferred.ofValue,Sem.run_bind,Sem.run_pure,Result.andThen_ok,invoke,e3];exact hen _ _
 unfold wq;rw [hr];refine (hc _ hargs).mono ?_;rintro e w' ⟨v,rfl,hK⟩;exact ⟨v,rfl,hk v w' hK⟩
theorem runT_os (hR:Rel X E st a w) (ho:ops[i]? = some o) {dst:Option Nat} {f:Operand} {args:Array Operand} {tys:Array TypeId} (hop:o.op = .call ⟨.value f,args,tys⟩) (hdst:o.dst=dst) (hg:o.guard=none) {g:FuncId} {ds ds':List DV} (hf:rv st [] f=some (.fn g [] [])) (hl:argsV st [] args.toList=some ds) (hen:Enters X.P g)
  {os:List (List DV)} (n1 m1:Nat) (hn1:Nat.ble n1 st.bx.length=true) (hm1:Nat.ble m1 st.tk.length=true) (hos:CcLL [] n1 n1 m1 os (st.bx.take n1)) (ha:CcL [] n1 n1 m1 ds' ds)
  {Φ:DV->List (List DV)->List TkE->Prop} (hc:Ev X.P g ds' os (st.tk.take m1) Φ) (hst:X.still=false) (hX:X.bt=[])
  (hk:∀ v r' os' tk' E' w',Φ r' os' tk' -> os'.length=n1->tk'.length=m1->Rel X E' ⟨st.sl,os' ++ st.bx.drop n1,tk' ++ st.tk.drop m1⟩ a w' -> Rv E' r' v->Ext E E' -> E'.β=E.β->(∀ (i:Nat) b,n1<=i->E.β[i]? = some b->w'.heap[b]? = w.heap[b]?) ->
   (W i=false->C w->C w')/\runT X.P ops W C Q r (a.put dst v) w'):runT X.P ops W C Q (i :: r) a w:=by
 refine runT_call hR ho hop hdst hg hf hl hen (K:=fun v w'=>∃ r' os' tk' E',Φ r' os' tk' /\ os'.length=n1/\tk'.length=m1/\Rel X E' ⟨st.sl,os' ++ st.bx.drop n1,tk' ++ st.tk.drop m1⟩ a w' /\ Rv E' r' v/\Ext E E' /\ E'.β=E.β/\∀ (i:Nat) b,n1<=i->E.β[i]? = some b->w'.heap[b]? = w.heap[b]?)
  (fun vs hv=>?_) ?_
 ·refine (calls_os n1 m1 hn1 hm1 hos ha hc hst hX hR hv).mono ?_;rintro e w' ⟨v,r',os',tk',E',rfl,h⟩;exact ⟨v,rfl,r',os',tk',E',h⟩
 ·rintro v w' ⟨r',os',tk',E',h1,h2,h3,h4,h5,h6,h7,h8⟩;exact hk v r' os' tk' E' w' h1 h2 h3 h4 h5 h6 h7 h8
theorem own_obj (h:Rel X E st a w) (j o k:Nat) {n ty e:Nat} {ocs:List DV} {es ns:List (List DV)} (hq:st.tk[k]? = some ⟨n,ty,e,some ns.flatten⟩) (hns:∀ x∈ns,x.length=e) (hnl:ns.length=n) (hj:st.bx[j]? = some ocs) (ho:ocs[o]? = some (.sl 0 es (some k))) (hes:es.length=n) :
  ∃ E',Rel X E' ⟨st.sl,st.bx.set j (ocs.set o (.sl e ns none)),st.tk.set k ⟨n,ty,e,none⟩⟩ a w:=wk_own hq hns hnl hj ho hes E a w h
theorem runT_last (hR:Rel X E st a w) (ho:ops[i]? = some o) (hE:isE o.op=true) (hg:o.guard=none) (hW:W i=true) (hd:okD X.nt st.sl o.dst=true) {p:Prop} (hp:effC X st o (go X 4000 k)=some p) (h:p):runT X.P ops W C (fun a w=>kq X k .normal a w) [i] a w:=by
 have hwn:=wanted_none (ops:=ops) (a:=a) hg;simp only [runT,ho,hE,if_true,stepX,hwn];refine wq_mono ?_ (effC_sound hd hR hp h);rintro a' w' ⟨st',E',hgo,hr,_⟩;exact ⟨(fun h=>by rw [hW] at h;cases h),go_sound 4000 _ _ hgo _ _ _ hr⟩
mutual
theorem renD_renD {i j:Nat}:∀ d:DV,renD (swp i j) (renD (swp i j) d)=d
 | .v x=>rfl
 | .ud=>rfl
 | .agg l=>by simp only [renD,renL_renL]
 | .tup l=>by simp only [renD,renL_renL]
 | .sl e es tk=>rfl
 | .pt cs o=>rfl
 | .loc k o=>by simp only [renD,swp_swp]
 | .el k o=>by simp only [renD,swp_swp]
 | .ms k e o l c=>by simp only [renD,swp_swp]
 | .fn g l r=>by simp only [renD,renL_renL]
 | .ifc t x=>by simp only [renD,renD_renD]
theorem renL_renL {i j:Nat}:∀ l:List DV,renL (swp i j) (renL (swp i j) l)=l
 | []=>rfl
 | d :: r=>by simp only [renL,renD_renD,renL_renL]
end
theorem renS_renS {i j:Nat}:∀ l:List (Nat × Sl),renS (swp i j) (renS (swp i j) l)=l
 | []=>rfl
 | (k,⟨gs,s⟩) :: r=>by simp only [renS,renD_renD,renS_renS]
theorem renO_renO {i j:Nat}:∀ l:List (List DV),renO (swp i j) (renO (swp i j) l)=l
 | []=>rfl
 | c :: r=>by simp only [renO,renL_renL,renO_renO]
theorem renO_swL {i j:Nat} (f:Nat->Nat) (l:List (List DV)) (hi:i < l.length) (hj:j < l.length):renO f (swL i j l)=swL i j (renO f l):=by
 apply List.ext_getElem?;intro k;rw [renO_get,swL_get hi hj,swL_get (by rw [renO_length];exact hi) (by rw [renO_length];exact hj),renO_get]
theorem renSt_renSt {i j:Nat} {S:St} (hi:i < S.bx.length) (hj:j < S.bx.length):renSt i j (renSt i j S)=S:=by
 obtain ⟨sl,bx,tk⟩:=S;simp only [renSt,renS_renS];rw [renO_swL _ _ (by rw [renO_length];exact hi) (by rw [renO_length];exact hj),renO_renO];congr 1;apply List.ext_getElem?;intro k;rw [swL_get (by rw [swL_length];exact hi) (by rw [swL_length];exact hj),swL_get hi hj,swp_swp]
theorem CallG.ren2 {f:FuncId} {args:List DV} {dst:Option Nat} (i j:Nat) (hi0:Nat.ble X.n0 i=true) (hj0:Nat.ble X.n0 j=true) (hi:Nat.blt i st.bx.length=true) (hj:Nat.blt j st.bx.length=true)
  (h:CallG X f (renL (swp i j) args) dst k (renSt i j st)) (hX:X.bt=[]:=by exact rfl):CallG X f args dst k st:=by
 have hi':=hi;have hj':=hj;simp only [Nat.blt_eq] at hi' hj';have hl:(renSt i j st).bx.length=st.bx.length:=by simp only [renSt,swL_length,renO_length]
 exact CallG.ren i j (renSt_renSt hi' hj').symm (renL_renL args).symm hi0 hj0 (by rw [hl];exact hi) (by rw [hl];exact hj) h hX
theorem equalIn_sl {P:Program} {t e:TypeId} (hu:P.underlying t=some (.slice e)) (d:Nat) (x:Option Addr) (n c:Nat) (w:World):(Op.equalIn (d + 1) t (.slice x n c) (.slice none 0 0)).run P w = .ok x.isNone w:=by
 cases x<;>simp [Op.equalIn,run_underlying hu]
theorem equal_sl {P:Program} {t e:TypeId} (hu:P.underlying t=some (.slice e)) (x:Option Addr) (n c:Nat) (w:World):(Op.equal t (.slice x n c) (.slice none 0 0)).run P w = .ok x.isNone w:=equalIn_sl hu 9999 x n c w
theorem op_nil {t d e:Nat} {x:Operand} {es:List (List DV)} {tk:Option Nat} {n et e' by':Nat} {bb:Bool} {z:List Value} (hop:∃ t',o.op = .binOp .eql t x (.const (.slice none 0 0)) t') (hdst:o.dst=some d) (hx:rv st [] x=some (.sl e es tk)) (hT:X.T.find t=some ⟨n,bb,.sl et e' by',z⟩) (hd:okD X.nt st.sl (some d)=true)
  (hk:∀ b:Bool,(es ≠ []->b=false)->go X 4000 k ⟨(d,⟨[],.v (.bool b)⟩) :: st.sl,st.bx,st.tk⟩):OpG X o k st:=by
 intro E a w h;obtain ⟨t',hop⟩:=hop;have e1:=sl_val h.rl hx;unfold Rv at e1;obtain ⟨b,m,cap,e1,⟨rfl,_⟩,hr,_⟩:=e1;obtain ⟨hu,_⟩:=und_sl X.hT hT;have heq:=equal_sl hu b es.length cap w
 have hrun:(execOp a.eval o).run X.P w = .ok (.value (.bool b.isNone)) w:=by
  have hc:a.eval (.const (.slice none 0 0)) = .slice none 0 0:=rfl;simp [execOp,hop,e1,hc,eqGuard,binOp,heq]
 refine wp_value hrun ?_;rw [hdst];refine go_sound 4000 _ _ (hk b.isNone fun hne=>?_) E _ w (put_rel h hd (.v (.bool b.isNone)) _ (by unfold Rv;exact ⟨rfl,rfl⟩));have:=okA_eq (hr hne).1;rw [this];rfl
theorem emp_s {t d et e by' n:Nat} {bb:Bool} {z:List Value} (hop:o.op = .buildSlice t 0 #[]) (hdst:o.dst=some d) (hT:X.T.find t=some ⟨n,bb,.sl et e by',z⟩) (hd:okD X.nt st.sl (some d)=true) (hst:X.still=false:=by exact rfl) (hX:X.bt=[]:=by exact rfl) :
  OpS X o st ⟨(d,⟨[],.sl e [] (some st.tk.length)⟩) :: st.sl,st.bx,st.tk ++ [⟨0,et,e,none⟩]⟩:=by
 intro E a w h;obtain ⟨hu,ii,zv,hi2,hz,hsz,hby,hzs⟩:=und_sl X.hT hT;have hsz':szOf X.P et=some e:=by rw [size_of_info hi2,hsz]
 have hrun:(execOp a.eval o).run X.P w = .ok (.value (.slice (some ⟨w.heap.size,0,none⟩) 0 0)) (w.alloc (.cells #[] et)):=by
  have h1:(Instr.buildSlice t 0 #[]).run X.P w = .ok (.slice (some ⟨w.heap.size,0,none⟩) 0 0) (w.alloc (.cells #[] et)):=by
   have h0:Array.range 0 = #[]:=rfl;simp [Instr.buildSlice,run_underlying hu,run_sizeOf' hsz',Instr.fill,newRow,h0]
  simp only [execOp,hop,List.map_toArray,List.map_nil,Sem.run_bind,h1,Result.andThen_ok,Sem.run_pure]
 refine wq_value hrun ?_;rw [hdst];have hk1:=h.env.keep (w':=w.alloc (.cells #[] et)) fun i hi=>alloc_old w _ hi
 let E2:En:=⟨E.c,E.β,E.tk ++ [⟨0,et,e,none⟩],E.τ ++ [.slice (some ⟨w.heap.size,0,none⟩) 0 0]⟩
 have hext:Ext E E2:=⟨fun _ _ h=>h,fun _ _ h=>h,fun k q' hk=>by
  have hlt:=(gS hk).1;refine ⟨q',by show (E.tk ++ _)[k]? = _;rw [List.getElem?_append_left hlt];exact hk,.inl ⟨rfl,?_⟩⟩;show (E.τ ++ _)[k]? = _
  rw [List.getElem?_append_left (by rw [h.env.tl];exact hlt)]⟩
 have hτ:∀ (k:Nat) y,E2.τ[k]? = some y->(k < E.τ.length/\E.τ[k]? = some y)∨(k=E.τ.length/\y = .slice (some ⟨w.heap.size,0,none⟩) 0 0):=fun k y hy=>by
  have hy:(E.τ ++ [Value.slice (some ⟨w.heap.size,0,none⟩) 0 0])[k]? = some y:=hy;rw [List.getElem?_append] at hy;split at hy
  ·rename_i hk;exact .inl ⟨hk,hy⟩
  ·rename_i hk
   have h0:k - E.τ.length=0:=by
    rcases Nat.eq_zero_or_pos (k - E.τ.length) with h0 | h0
    ·exact h0
    ·rw [List.getElem?_eq_none (by simp;omega)] at hy;cases hy
   rw [h0] at hy;simp only [List.getElem?_cons_zero,oI] at hy;exact .inr ⟨by omega,hy.symm⟩
 have hown:∀ (k:Nat) y g,E.τ[k]? = some y->y.ownBlock=some g->g < w.heap.size:=fun k y g hy hg=>(h.env.own (mG hy) hg).1
 have hrel:Rel X E2 ⟨st.sl,st.bx,st.tk ++ [⟨0,et,e,none⟩]⟩ a (w.alloc (.cells #[] et)):=by
  refine rel_env h hext ?_ (by show E.tk ++ _=_;rw [h.tk]) ?_ (h.fr.alloc _) (noSt hst) (.nil hX)
  ·exact {
    len:=h.env.len
    tl:=by show (E.τ ++ _).length=(E.tk ++ _).length;simp [h.env.tl]
    bxs:=fun i cs hi=>by
     obtain ⟨b,t,arr,hb,hw,hc⟩:=hk1.bxs i cs hi;exact ⟨b,t,arr,hb,hw,hc.mono hext⟩
    inj:=h.env.inj
    sub:=hk1.sub
    pc:=h.env.pc
    tks:=fun k q' y hkq hy=>by
     rcases hτ k y hy with ⟨hlt,hy'⟩ | ⟨rfl,rfl⟩
     ·have hk':(E.tk ++ [⟨0,et,e,none⟩])[k]? = some q':=hkq;rw [List.getElem?_append_left (by rw [<- h.env.tl];exact hlt)] at hk';exact hk1.tks k q' y hk' hy'
     ·have hk':(E.tk ++ [⟨0,et,e,none⟩])[E.τ.length]? = some q':=hkq;rw [List.getElem?_append_right (by rw [h.env.tl];exact Nat.le_refl _),h.env.tl] at hk';simp only [Nat.sub_self,List.getElem?_cons_zero,oI] at hk';subst hk';refine .inr ⟨w.heap.size,0,#[],rfl,alloc_new w _,⟨by simp,OwnAt.none rfl⟩,Nat.le_refl _,Nat.zero_le _,fun hm=>?_,fun x v hx hxg=>?_⟩
      ·have:=h.env.block_lt hm;omega
      ·have:=World.block_lt_of_cell? w x (h.env.sub x v hx);omega
    tkd:=fun k k' y y' g hkk hy hy' hg hg'=>by
     rcases hτ k y hy with ⟨_,hy1⟩ | ⟨rfl,rfl⟩
     ·rcases hτ k' y' hy' with ⟨_,hy2⟩ | ⟨rfl,rfl⟩
      ·exact h.env.tkd k k' y y' g hkk hy1 hy2 hg hg'
      ·have:=hown k y g hy1 hg;simp only [Value.ownBlock,oI] at hg';omega
     ·rcases hτ k' y' hy' with ⟨_,hy2⟩ | ⟨rfl,rfl⟩
      ·have:=hown k' y' g hy2 hg';simp only [Value.ownBlock,oI] at hg;omega
      ·exact hkk rfl }
  ·exact {
    c:=h.nw.c
    cn:=h.nw.cn
    β:=h.nw.β
    tk:=fun j q0 y0 hq0 hy0=>by
     obtain ⟨q',y',h1,h2,h3⟩:=h.nw.tk j q0 y0 hq0 hy0;exact ⟨q',y',by show (E.tk ++ _)[j]? = _;rw [List.getElem?_append_left (gS h1).1];exact h1,by show (E.τ ++ _)[j]? = _;rw [List.getElem?_append_left (gS h2).1];exact h2,h3⟩
    tn:=fun j y g hj hy hg=>by
     rcases hτ j y hy with ⟨_,hy1⟩ | ⟨_,rfl⟩
     ·exact h.nw.tn j y g hj hy1 hg
     ·simp only [Value.ownBlock,oI] at hg;have:=h.fr.size;omega
    l0:=h.nw.l0 }
 refine ⟨E2,put_rel hrel hd (.sl e [] (some st.tk.length)) _ ?_,hext,⟨[],by simp [E2]⟩,fun i b hb _=>alloc_old w _ (h.env.block_lt (mG hb))⟩;unfold Rv;refine ⟨_,0,0,rfl,⟨rfl,Nat.le_refl _⟩,fun hn=>(hn rfl).elim,fun k' hk'=>?_⟩;cases hk';refine ⟨⟨0,et,e,none⟩,?_,Nat.le_refl _,fun _=>?_⟩
 ·show (E.tk ++ _)[st.tk.length]? = _;rw [h.tk];simp
 ·show (E.τ ++ _)[st.tk.length]? = _;rw [<- h.tk,<- h.env.tl];simp
theorem op_empty {t d et e by' n:Nat} {bb:Bool} {z:List Value} (hop:o.op = .buildSlice t 0 #[]) (hdst:o.dst=some d) (hT:X.T.find t=some ⟨n,bb,.sl et e by',z⟩) (hd:okD X.nt st.sl (some d)=true) (hst:X.still=false:=by exact rfl) (hX:X.bt=[]:=by exact rfl)
  (hk:go X 4000 k ⟨(d,⟨[],.sl e [] (some st.tk.length)⟩) :: st.sl,st.bx,st.tk ++ [⟨0,et,e,none⟩]⟩):OpG X o k st:=(emp_s hop hdst hT hd hst hX).g hk
theorem Wk.frz {st':St} (N:Nat) (hN:Nat.ble X.n0 N=true) (hNl:Nat.ble N st.bx.length=true) (hbx:CcLL st.bx N N st.tk.length st'.bx (st.bx.take N)) (htk:st'.tk=st.tk) (hsl:frzS st.bx N st.tk.length st.sl st'.sl):Wk X st st':=fun _ _ _ h=>
 frz_rel h N (nL hN) (nL hNl) hbx htk hsl
theorem OpG.wk {st':St} {o:Oper} (hw:Wk X st st') (hd:okD X.nt st'.sl o.dst=true) {p:Prop} (hp:effC X st' o (go X 4000 k)=some p) (h:p):OpG X o k st:=fun E a w hr=>by
 obtain ⟨E',hr'⟩:=hw _ _ _ hr;refine wq_wp (wq_mono ?_ (effC_sound hd hr' hp h));rintro a' w' ⟨st2,E2,hgo,hr2,_⟩;exact go_sound 4000 _ _ hgo _ _ _ hr2
theorem tok_rel (h:Rel X E st a w) (hst:X.still=false) (hX:X.bt=[]) {g n ty e cap:Nat} {cur:Array Value} (hw:w.heap[g]? = some (.cells cur ty (0,0))) (hsz:cur.size=cap * e) (hn:n<=cap) (hcap:cap<=maxLen) (hb:g ∉ E.β)
  (hc:∀ x v,E.c x=some v->x.block=g->x.off < n * e) (hown:∀ (k:Nat) y,E.τ[k]? = some y->y.ownBlock≠some g) (hg:X.w0.heap.size<=g) :
  Rel X ⟨E.c,E.β,E.tk ++ [⟨n,ty,e,none⟩],E.τ ++ [.slice (some ⟨g,0,none⟩) n cap]⟩ ⟨st.sl,st.bx,st.tk ++ [⟨n,ty,e,none⟩]⟩ a w:=by
 let E2:En:=⟨E.c,E.β,E.tk ++ [⟨n,ty,e,none⟩],E.τ ++ [.slice (some ⟨g,0,none⟩) n cap]⟩
 have hext:Ext E E2:=⟨fun _ _ h=>h,fun _ _ h=>h,fun k q' hk=>by
  have hlt:=(gS hk).1;refine ⟨q',by show (E.tk ++ _)[k]? = _;rw [List.getElem?_append_left hlt];exact hk,.inl ⟨rfl,?_⟩⟩;show (E.τ ++ _)[k]? = _
  rw [List.getElem?_append_left (by rw [h.env.tl];exact hlt)]⟩
 have hτ:∀ (k:Nat) y,E2.τ[k]? = some y->(k < E.τ.length/\E.τ[k]? = some y)∨(k=E.τ.length/\y = .slice (some ⟨g,0,none⟩) n cap):=fun k y hy=>by
  have hy:(E.τ ++ [Value.slice (some ⟨g,0,none⟩) n cap])[k]? = some y:=hy;rw [List.getElem?_append] at hy;split at hy
  ·rename_i hk;exact .inl ⟨hk,hy⟩
  ·rename_i hk
   have h0:k - E.τ.length=0:=by
    rcases Nat.eq_zero_or_pos (k - E.τ.length) with h0 | h0
    ·exact h0
    ·rw [List.getElem?_eq_none (by simp;omega)] at hy;cases hy
   rw [h0] at hy;simp only [List.getElem?_cons_zero,oI] at hy;exact .inr ⟨by omega,hy.symm⟩
 refine rel_env h hext ?_ (by show E.tk ++ _=_;rw [h.tk]) ?_ h.fr (noSt hst) (.nil hX)
 ·exact {
   len:=h.env.len
   tl:=by show (E.τ ++ _).length=(E.tk ++ _).length;simp [h.env.tl]
   bxs:=fun i cs hi=>by
    obtain ⟨b,t,arr,hb,hw,hc⟩:=h.env.bxs i cs hi;exact ⟨b,t,arr,hb,hw,hc.mono hext⟩
   inj:=h.env.inj
   sub:=h.env.sub
   pc:=h.env.pc
   tks:=fun k q' y hkq hy=>by
    rcases hτ k y hy with ⟨hlt,hy'⟩ | ⟨rfl,rfl⟩
    ·have hk':(E.tk ++ [⟨n,ty,e,none⟩])[k]? = some q':=hkq;rw [List.getElem?_append_left (by rw [<- h.env.tl];exact hlt)] at hk';exact h.env.tks k q' y hk' hy'
    ·have hk':(E.tk ++ [⟨n,ty,e,none⟩])[E.τ.length]? = some q':=hkq;rw [List.getElem?_append_right (by rw [h.env.tl];exact Nat.le_refl _),h.env.tl] at hk';simp only [Nat.sub_self,List.getElem?_cons_zero,oI] at hk';subst hk';exact .inr ⟨g,cap,cur,rfl,hw,⟨hsz,fun cs h=>by cases h⟩,hn,hcap,hb,hc⟩
   tkd:=fun k k' y y' g' hkk hy hy' hg1 hg2=>by
    rcases hτ k y hy with ⟨_,hy1⟩ | ⟨rfl,rfl⟩
    ·rcases hτ k' y' hy' with ⟨_,hy2⟩ | ⟨rfl,rfl⟩
     ·exact h.env.tkd k k' y y' g' hkk hy1 hy2 hg1 hg2
     ·simp only [Value.ownBlock,oI] at hg2;subst hg2;exact hown k y hy1 hg1
    ·rcases hτ k' y' hy' with ⟨_,hy2⟩ | ⟨rfl,rfl⟩
     ·simp only [Value.ownBlock,oI] at hg1;subst hg1;exact hown k' y' hy2 hg2
     ·exact hkk rfl }
 ·exact {
   c:=h.nw.c
   cn:=h.nw.cn
   β:=h.nw.β
   tk:=fun j q0 y0 hq0 hy0=>by
    obtain ⟨q',y',h1,h2,h3⟩:=h.nw.tk j q0 y0 hq0 hy0;exact ⟨q',y',by show (E.tk ++ _)[j]? = _;rw [List.getElem?_append_left (gS h1).1];exact h1,by show (E.τ ++ _)[j]? = _;rw [List.getElem?_append_left (gS h2).1];exact h2,h3⟩
   tn:=fun j y g' hj hy hg'=>by
    rcases hτ j y hy with ⟨_,hy1⟩ | ⟨_,rfl⟩
    ·exact h.nw.tn j y g' hj hy1 hg'
    ·simp only [Value.ownBlock,oI] at hg';omega
   l0:=h.nw.l0 }
theorem op_lit {t d et e by' n len:Nat} {bb:Bool} {z:List Value} {parts:Array (Nat × Operand)} {es:List (List DV)} (hop:o.op = .buildSlice t len parts) (hdst:o.dst=some d) (hT:X.T.find t=some ⟨n,bb,.sl et e by',z⟩) (hes:litL e st parts.toList 0=some es)
  (hc:(Nat.beq es.length len && (Nat.blt 0 len && Nat.blt 0 e && Nat.ble (len * e) 16777216))=true) (hd:okD X.nt st.sl (some d)=true) (hst:X.still=false:=by exact rfl) (hX:X.bt=[]:=by exact rfl)
  (hk:go X 4000 k ⟨(d,⟨[],.sl e es (some st.tk.length)⟩) :: st.sl,st.bx,st.tk ++ [⟨len,et,e,none⟩]⟩):OpG X o k st:=by
 intro E a w h;simp only [Bool.and_eq_true,Nat.beq_eq,Nat.ble_eq,Nat.blt_eq] at hc;obtain ⟨hlen,⟨hpos,hep⟩,hsm⟩:=hc;obtain ⟨hu,ii,zv,hi2,hz,hsz,hby,hzs⟩:=und_sl X.hT hT;obtain ⟨xs,vs,hp,hvs,hvl,hcl,hrc,hel⟩:=litL_sound h.rl hep hes;subst hsz
 have hzc:len * ii.size≠0:=by
  have:=Nat.mul_pos hpos hep;omega
 have hfill:Instr.fill (fun i=>some (i * ii.size,ii.size)) ((Array.range (len * ii.size)).map (zv.cells[·% zv.cells.size]!)) (parts.map fun (i,x)=>(i,a.eval x)).toList=some (cellsL vs).toArray:=by
  have h0:=fill_seq ii.size vs 0 ((Array.range (len * ii.size)).map (zv.cells[·% zv.cells.size]!)).toList hcl (by simp [hvl,hlen])
  have h1:(parts.map fun (i,x)=>(i,a.eval x)).toList=enumF 0 vs:=by
   rw [Array.toList_map,hp,hvs,<- enumF_map]
  rw [h1];simp only [Array.toArray_toList] at h0;rw [h0];simp [hvl,hlen]
 have hrun:(execOp a.eval o).run X.P w = .ok (.value (.slice (some ⟨w.heap.size,0,none⟩) len len)) (w.alloc (.cells (cellsL vs).toArray et)):=by
  simp only [execOp,hop,Sem.run_bind,run_buildSlice w t et len _ _ ii zv hu hi2 hz (by omega) hzc hfill,Result.andThen_ok,Sem.run_pure]
 refine wp_value hrun ?_;rw [hdst];have hr:=fresh_rel (arr:=cellsL vs) h hst et
 have hvlen:(cellsL vs).length=len * ii.size:=by
  have:∀ l:List Value,(∀ v∈l,v.cells.toList.length=ii.size)->(cellsL l).length=l.length * ii.size:=by
   intro l
   induction l with
   | nil=>intro _;simp [cellsL]
   | cons v l ih=>
    intro hl;simp only [cellsL,List.length_append,List.length_cons];rw [ih fun x hx=>hl x (List.mem_cons_of_mem _ hx),hl v List.mem_cons_self,Nat.succ_mul];omega
  rw [this vs hcl,hvl,hlen]
 have hr2:=tok_rel (n:=len) (ty:=et) (e:=ii.size) (cap:=len) hr hst hX (g:=w.heap.size) (cur:=(cellsL vs).toArray) (alloc_new w _) (by simp [hvlen]) (Nat.le_refl _) (by
   have:len<=len * ii.size:=Nat.le_mul_of_pos_right _ hep;unfold maxLen;omega) (fun hm=>by have:=h.env.block_lt hm;omega) (fun x v hx hxg=>by
   have hx:addC E.c (w.alloc (.cells (cellsL vs).toArray et)) w.heap.size (cellsL vs).length x=some v:=hx;unfold addC at hx;split at hx
   ·rename_i hc;rw [<- hvlen];exact hc.2.2
   ·have:=World.block_lt_of_cell? w x (h.env.sub x v hx);omega) (fun j y hy hg=>by
   have:=(h.env.own (mG hy) hg).1
   omega) (h.fr.size)
 refine go_sound 4000 _ _ hk _ _ _ (put_rel hr2 hd (.sl ii.size es (some st.tk.length)) _ ?_);unfold Rv;refine ⟨_,_,_,rfl,⟨hlen.symm,Nat.le_refl _⟩,fun hne=>⟨rfl,?_⟩,fun k' hk'=>?_⟩
 ·have hle:∀ x v,E.c x=some v->addC E.c (w.alloc (.cells (cellsL vs).toArray et)) w.heap.size (cellsL vs).length x=some v:=fun x v hx=>by
   have hlt:=World.block_lt_of_cell? w x (h.env.sub x v hx);unfold addC;rw [if_neg (by omega)];exact hx
  have hm:RvC (En.cl ⟨addC E.c (w.alloc (.cells (cellsL vs).toArray et)) w.heap.size (cellsL vs).length,E.β,E.tk,E.τ⟩) es.flatten (cellsL vs):=hrc.mono (Ext.of_c (E:=E) hle);refine rvEs_flat hm hel fun j u hj=>?_;show addC _ _ _ _ _=_;have hj':=(gS hj).1;simp only [ab,ao,Nat.zero_add];rw [addC_in hj',cell_blk (alloc_new w _)];simpa using hj
 ·cases hk';refine ⟨⟨len,et,ii.size,none⟩,?_,Nat.le_refl _,fun _=>?_⟩
  ·show (E.tk ++ _)[st.tk.length]? = _;rw [h.tk];simp
  ·show (E.τ ++ _)[st.tk.length]? = _;rw [<- h.tk,<- h.env.tl];simp
end
end Dv
end Go.Proofs.YtadbccicdbopcaaGreat
set_option maxRecDepth 100000
namespace Go.Proofs.YtadbccicdbopcaaGreat
open Go Go.RowKit Dv Tryz
theorem latF_parts {l:List Wd} {o:List (Wd × Wd)} (h:(latF l o).1=0):(manyF l o).1=0/\(enumL l 0 l).1=0/\(numF (nmTx l) o).1=0/\firstN (loopP l.length (leqN l.length (numL (nmTx l) o))) l.length=none/\firstN (bndP (leqN l.length (numL (nmTx l) o)) l.length) l.length=none:=by
 unfold latF at h;split at h
 ·rename_i h1;exact (h1 h).elim
 ·rename_i h1;split at h
  ·rename_i h2;exact (h2 h).elim
  ·rename_i h2;split at h
   ·rename_i h3;exact (h3 h).elim
   ·rename_i h3;refine ⟨by simpa using h1,by simpa using h2,by simpa using h3,?_⟩;split at h
    ·cases h
    ·rename_i h4;refine ⟨h4,?_⟩;split at h
     ·cases h
     ·rename_i h5;exact h5
theorem firstN_none_iff {p:Nat->Bool} {n:Nat} (h:firstN p n=none):∀ a,a < n->p a=false:=by
 intro a ha;unfold firstN at h;rw [List.find?_eq_none] at h;have:=h a (by simpa using ha);simpa using this
theorem latOK_of {l:List Wd} {o:List (Wd × Wd)} (h:(latF l o).1=0):LatOK (leqN l.length (numL (nmTx l) o)) l.length/\l.length<=32:=by
 obtain ⟨h1,h2,h3,h4,h5⟩:=latF_parts h;have hP:=numF_ok h3;rw [nmTx_len] at hP
 have hl0:l ≠ []:=by
  rintro rfl;simp [manyF] at h1
 have h32:l.length<=32:=by
  rcases Nat.lt_or_ge 32 l.length with h | h
  ·simp [manyF,hl0,h] at h1
  ·exact h
 have hlk:∀ a b,a < l.length->b < l.length->lackB (leqN l.length (numL (nmTx l) o)) l.length a b=false:=by
  have key:∀ a b,a<=b->b < l.length->lackB (leqN l.length (numL (nmTx l) o)) l.length a b=false:=fun a b hab hb=>by
   have:=firstN_none_iff h5 b hb;unfold bndP at this;rw [List.any_eq_false] at this;have:=this a (by simp;omega);simpa using this
  intro a b ha hb;rcases Nat.le_total a b with h | h
  ·exact key a b h hb
  ·have:=key b a h ha;unfold lackB at this ⊢;rw [joinN_comm,meetN_comm];exact this
 refine ⟨{
  pos:=List.length_pos_iff.2 hl0
  rfl':=fun a ha=>leqN_refl hP ha
  tr:=fun a b c ha hb hc=>leqN_trans hP ha hb hc
  anti:=fun a b ha hb h6 h7=>by
   have:=firstN_none_iff h4 a ha;unfold loopP at this;rw [List.any_eq_false] at this;have:=this b (by simpa using hb);simp only [Bool.and_eq_true,decide_eq_true_eq,not_and] at this;rcases Nat.lt_trichotomy a b with h8 | h8 | h8
   ·exact (this (by omega) h6 h7).elim
   ·exact h8
   ·exact (this (by omega) h6 h7).elim
  jn:=fun a b ha hb=>by
   have:=hlk a b ha hb;unfold lackB at this;simp only [Bool.or_eq_false_iff,Option.isNone_eq_false_iff] at this;exact Option.isSome_iff_exists.1 this.1
  mt:=fun a b ha hb=>by
   have:=hlk a b ha hb;unfold lackB at this;simp only [Bool.or_eq_false_iff,Option.isNone_eq_false_iff] at this
   exact Option.isSome_iff_exists.1 this.2 },h32⟩
def lxOf (s:Sch) (ord:List Nat) (js:List Int):Lx:=⟨nmTx s.levels,ord,closeR (relN s.levels.length (numL (nmTx s.levels) s.order)) s.levels.length,js,leqN s.levels.length (numL (nmTx s.levels) s.order)⟩
theorem lxOf_ok {s:Sch} {d:DV} (h:(latF s.levels s.order).1=0) (hd:LatD s.levels s.order d) (hw:s.levels.length<=1099511627776):∃ ord js,(lxOf s ord js).OK/\d=(lxOf s ord js).pd:=by
 obtain ⟨ord,js,hT,hol,hjl,hjm,rfl⟩:=hd;obtain ⟨h1,h2⟩:=latOK_of h;refine ⟨ord,js,⟨hT,by show ord.length<=_;omega,?_,?_,?_⟩,rfl⟩
 ·show LatOK _ (nmTx s.levels).length;rw [nmTx_len];exact h1
 ·show (nmTx s.levels).length<=32;rw [nmTx_len];exact h2
 ·show ∀ x y,x < (nmTx s.levels).length->y < (nmTx s.levels).length->JM _ (nmTx s.levels).length js x y;rw [nmTx_len];exact hjm
def levS (s:Sch) (l:List Wd):Int:=labN (leqN s.levels.length (numL (nmTx s.levels) s.order)) (nmTx s.levels) l
def knS (s:Sch) (t:Ty):Ft:=knT ⟨nmTx s.levels,[],[],[],fun _ _=>false⟩ (tL s) t
mutual
theorem knT_names {X Y:Lx} (h:X.names=Y.names) (L:List ByteArray):∀ t:Ty,knT X L t=knT Y L t
 | .mk h1 ps=>by rw [knT,knT,knP_names h L ps]
theorem knP_names {X Y:Lx} (h:X.names=Y.names) (L:List ByteArray):∀ ps:Pts,knP X L ps=knP Y L ps
 | .nil=>by rw [knP,knP]
 | .cons p t r=>by
  rw [knP,knP,knP_names h L r,knT_names h L t];unfold Lx.bad;rw [h]
end
theorem knS_eq (s:Sch) (ord:List Nat) (js:List Int) (t:Ty):knT (lxOf s ord js) (tL s) t=knS s t:=knT_names (X:=lxOf s ord js) (Y:=⟨nmTx s.levels,[],[],[],fun _ _=>false⟩) rfl (tL s) t
def resF (s:Sch):Ft:=
 if (latF s.levels s.order).1≠0 then latF s.levels s.order
 else if (namedF s).1≠0 then namedF s
 else if (eaR s.root s.types 0).1.1≠0 then (eaR s.root s.types 0).1
 else if (eaL (knS s) (knS s s.root) s.types).1≠0 then eaL (knS s) (knS s s.root) s.types
 else loopF s
def ndsAll (lev:List Wd->Int) (s:Sch):List (Wd × Ty)->Nat->List Nd
 | [],_=>[]
 | x :: r,k=>ndsT lev s x.2 k ++ ndsAll lev s r (k + x.2.nn)
def resN (s:Sch):List Nd:=ndsAll (levS s) s s.types 0
def resNds (s:Sch):List Nd:=resN s ++ ndsT (levS s) s s.root (resN s).length
def resRoot (s:Sch):Int:=idxF s s.root (resN s).length
def planC (s:Sch) (ord ord2:List Nat) (js:List Int):List DV:=
 [(lxOf s ord js).pd,.sl 7 (dNds (resNds s)) none,.v (.int .i64 (resRoot s)),.pt (dTbl (tL s) ord2) 0,.sl 1 (dInts (namedL s)) none]
def PlanD (s:Sch) (d:DV):Prop:=∃ ord ord2 js,(lxOf s ord js).OK/\TblOK (tL s) ord2/\ord2.length<=s.types.length/\d = .pt (planC s ord ord2 js) 0
def ResΦ (s:Sch) (r:DV) (_:List (List DV)) (_:List TkE):Prop:=
 if (resF s).1≠0 then r = .tup [.v (.pointer none),(resF s).d] else ∃ d,PlanD s d/\r = .tup [d,Ft.d (0,0)]
theorem resΦ_bad {s:Sch} {f:Ft} {os:List (List DV)} {tk:List TkE} (h:resF s=f) (hf:f.1≠0):ResΦ s (.tup [.v (.pointer none),f.d]) os tk:=by
 unfold ResΦ;rw [h,if_pos hf]
theorem resΦ_ok {s:Sch} {d:DV} {os:List (List DV)} {tk:List TkE} (h:(resF s).1=0) (hd:PlanD s d):ResΦ s (.tup [d,Ft.d (0,0)]) os tk:=by
 unfold ResΦ;rw [if_neg (by rw [h];simp)];exact ⟨d,hd,rfl⟩
theorem eaL_ok {F:Ty->Ft} {z:Ft}:∀ {l:List (Wd × Ty)},(eaL F z l).1=0->z.1=0/\∀ x∈l,(F x.2).1=0
 | [],h=>⟨h,fun x hx=>by cases hx⟩
 | x :: r,h=>by
  rw [eaL] at h;split at h
  ·rename_i h1;exact (h1 h).elim
  ·rename_i h1;obtain ⟨h2,h3⟩:=eaL_ok h;refine ⟨h2,fun y hy=>?_⟩;rcases List.mem_cons.1 hy with rfl | hy
   ·simpa using h1
   ·exact h3 y hy
theorem eaR_ok {z:Ty}:∀ {l:List (Wd × Ty)} {m:Int},0<=m->(eaR z l m).1.1=0->(wrong z 1 0).1.1=0/\(∀ x∈l,(wrong x.2 1 0).1.1=0)/\(eaR z l m).2=m + ((l.map fun x=>x.2.cnt).sum + z.cnt:Nat)/\(eaR z l m).2<=512
 | [],m,_,h=>by
  rw [eaR] at h ⊢;obtain ⟨h1,h2,h3,_⟩:=rightF_ok h;exact ⟨h3,(fun x hx=>by cases hx),(by simp [h1]),h2⟩
 | x :: r,m,hm,h=>by
  rw [eaR] at h ⊢;split at h
  ·rename_i h1;exact (h1 h).elim
  ·rename_i h1;rw [if_neg h1];obtain ⟨g1,g2,g3,_⟩:=rightF_ok (by simpa using h1);obtain ⟨h2,h3,h4,h5⟩:=eaR_ok (by omega) h;refine ⟨h2,fun y hy=>?_,(by rw [h4,g1];simp only [List.map_cons,List.sum_cons];omega),h5⟩;rcases List.mem_cons.1 hy with rfl | hy
   ·exact g3
   ·exact h3 y hy
theorem ndsAll_len (lev:List Wd->Int) (s:Sch):∀ (l:List (Wd × Ty)) (k:Nat),(ndsAll lev s l k).length=(l.map fun x=>x.2.nn).sum
 | [],_=>rfl
 | x :: r,k=>by simp only [ndsAll,List.length_append,ndsT_len,ndsAll_len lev s r,List.map_cons,List.sum_cons]
theorem sum_nn_cnt:∀ l:List (Wd × Ty),(l.map fun x=>x.2.nn).sum<=(l.map fun x=>x.2.cnt).sum
 | []=>Nat.le_refl _
 | x :: r=>by
  have:=x.2.nn_cnt;have:=sum_nn_cnt r;simp only [List.map_cons,List.sum_cons];omega
theorem dNds_flen:∀ l:List Nd,(dNds l).flatten.length=l.length * 7
 | []=>rfl
 | a :: r=>by
  have:=dNds_flen r;simp only [dNds,List.map_cons,List.flatten_cons,List.length_append,List.length_cons] at this ⊢;rw [this];simp only [dNd,List.length_cons,List.length_nil];omega
theorem knT_ref {X:Lx} {s:Sch} {t:Ty} (h:(knT X (tL s) t).1=0):refB s t=true:=by
 obtain ⟨hd,ps⟩:=t;have:=(knT_ok h).1;unfold refB;exact decide_eq_true this
theorem loopF_ok {s:Sch} (h:(loopF s).1=0):∀ i,i < s.types.length->∃ k,endI s (s.types.length + 1) i=some k:=by
 intro i hi;unfold loopF at h;split at h
 ·rename_i h1;have:=firstN_none_iff h1 i hi;simp only [Option.isNone_eq_false_iff] at this;exact Option.isSome_iff_exists.1 this
 ·cases h
end Go.Proofs.YtadbccicdbopcaaGreat
