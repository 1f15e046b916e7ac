/- Part 5 of the proof: What is known of a type with which nothing is wrong; labels have levels; What is known of the nodes of a plan; A plan, as its readers know it; Values, plain; how many are in one, how deep they lie; What is read of a value, as the plain data; What the frames of laws over values share; Values that are the same; Which values fit which nodes: plain, as the program finds it and as the document says it; tree's leaf, kids, Fits; tree.Fits; the document's To, Fits; Values as they are written: plain; tree.write, Raw; Typed values out of values as they are written: plain; A lattice, as its readers know it; Leq; joins are the document's; Paths: data, Step compared with itself; ref09.Begins, Same on the same path; ref25.Step; Where steps lead in a plan, and how places are seen, plain; The first edge of a name; A region that draws its order, in which a new object may come at any time among calls: its run with the object made at each of these times serves every order; A region that draws its order, run by a schedule: at each point all that may come and has an effect is tried; Regions that draw their order, in which two new objects may come in either order; Regions that draw their order, in which several new objects may come in any order; Typed: bad, truth, number, text, enum, find, call; The least depths of the values of a plan's nodes: plain; Which nodes have several values: plain; How many unlike values nodes have: plain, as the document counts; The program's nodes, least depths; The document's least depths; fine; the chapter's example; The program's Depths; The law of least depths: fine, the example, the call returns true; The program's several, Several; The document's count, Many; the law of several values: the call returns true; The document's Many; the law of several values: the call returns true; First and second values: tags, sizes: plain; Regions that draw their order and only read: run with one state; Sample: the program's tags and sizes; Sample: the program's turn, part, first, changed; First and second values: the tables, the values: plain; Sample: the program's first, changed, second; Sample: the program's second; Sample: make1: all sizes; Rules for the evaluator: calls that hand back fresh rows; Rules for the evaluator: elements of rows whose cells nobody else knows, read and written whole; Rules for the evaluator: a slice literal without elements, its cells known; Rules for the evaluator: a slice literal, its cells known; A contract that hands back a fresh row is one of data alone, too; Paths of a value: plain; tree.steps; Where steps lead in a value, and that value with another one there: plain; tree: slices.Index of steps, kid, clone, Get; tree: put, Set; Sample: one: first values; Sample: two: second values; Sample: fits, First, Second; no plan; Values along paths: what stands beside, what is alive, the value itself: plain; The document's Bottom, Right of paths; the program's Right of paths; Where steps lead: the document's Edge, Walk; the program's; The program's way along steps: fits, step, Walk; Sample: what stands beside, the nodes and edges of a path, what is alive; With which schemas nothing is wrong: the document's Wrong of chapters 20, 21; the law's fine; Which levels see a place: the program's Who; Sample: the nodes and edges of a path, what is alive; Sample: a value with another one in it; Typed: list, opt; Typed: opt, union; Typed: union; Typed: record. No condition. -/
import Derived.Test.YtfifjddnnmfeoaaGreatMh2
import Derived.Test.YtfifjddnnmfeoaaGreatMh3
import Derived.Test.YtfifjddnnmfeoaaGreatMh4
set_option linter.all false
set_option maxRecDepth 100000
namespace Go.Proofs.YtfifjddnnmfeoaaGreat
open Go Go.RowKit Dv Tryz
def JD (t:Ty):Prop:=∃ d m,(wrong t d m).1.1=0
def A2 (ag:Int) (p:Ph) (t:Ty):Prop:=(p.bare=true/\ag=8/\sameTy t bS=true/\bW p eV=true)∨(p.bare=false/\(dX p).1=0/\JD t)
structure R5 (h:Hd) (ps:Pts):Prop where
 k1:1<=h.ag
 k9:h.ag<=9
 own:qz h ps=true
 int:h.ag=2->h.lo<=h.hi
 text:h.ag=3->0<=h.most/\h.most<=4096
 enum:h.ag=4->jv h=(0,0)
 one:h.ag=5∨h.ag=6->∃ p t,ps = .cons p t .nil/\p.name.s=ap/\bW p eC=true/\0<=h.most/\h.most<=1024/\JD t
 many:h.ag=7∨h.ag=8->ps.len<=64/\(h.ag=8->ps.len≠0)/\∀ i p t,ps.toList[i]? = some (p,t)->aN (pNames ps) i p.name=0/\A2 h.ag p t
theorem Lo {h:Hd} {ps:Pts} (ho:¬ wD (.mk h ps)=false):qz h ps=true:=by
 rw [AJ];cases hb:sameTy (.mk h ps) (mask (.mk h ps))
 ·exact absurd hb ho
 ·rfl
theorem ko {ag:Int} {all:List Wd}:∀ {ps:Pts} {i:Nat} {d m:Int},(wrongPts ag all i ps d m).1.1=0->(ag=7∨ag=8)->∀ j p t,ps.toList[j]? = some (p,t)->aN all (i + j) p.name=0/\A2 ag p t
 | .nil,i,d,m,_,_,j,p,t,hx=>by simp [Pts.toList] at hx
 | .cons q u r,i,d,m,he,hk,j,p,t,hx=>by
  simp only [wrongPts] at he;by_cases c0:aN all i q.name≠0
  ·rw [if_pos c0] at he;exact absurd he c0
  rw [if_neg c0] at he;have c0:aN all i q.name=0:=by simpa using c0
  have step:∀ d' m',(wrongPts ag all (i + 1) r d' m').1.1=0->A2 ag q u->aN all (i + j) p.name=0/\A2 ag p t:=by
   intro d' m' h hq
   cases j with
   | zero=>
    simp only [Pts.toList,List.getElem?_cons_zero,oI,Prod.mk.injEq] at hx;obtain ⟨rfl,rfl⟩:=hx;exact ⟨c0,hq⟩
   | succ j=>
    simp only [Pts.toList,List.getElem?_cons_succ] at hx;have:=ko h hk j p t hx
    rwa [show i + 1 + j=i + (j + 1) by omega] at this
  by_cases c1:q.bare=true
  ·rw [if_pos c1] at he;by_cases c2:ag=7∨sameTy u bS=false∨bW q eV=false
   ·rw [if_pos c2] at he;simp at he
   rw [if_neg c2] at he;refine step d m he (.inl ⟨c1,?_,?_,?_⟩)
   ·rcases hk with hk | hk
    ·exact absurd (.inl hk) c2
    ·exact hk
   ·cases hb:sameTy u bS
    ·exact absurd (.inr (.inl hb)) c2
    ·rfl
   ·cases hb:bW q eV
    ·exact absurd (.inr (.inr hb)) c2
    ·rfl
  ·rw [if_neg c1] at he;by_cases c2:(dX q).1≠0
   ·rw [if_pos c2] at he;exact absurd he c2
   rw [if_neg c2] at he;by_cases c3:(wrong u (d + 1) m).1.1≠0
   ·rw [if_pos c3] at he;exact absurd he c3
   rw [if_neg c3] at he;exact step d _ he (.inr ⟨by simpa using c1,by simpa using c2,d + 1,m,by simpa using c3⟩)
theorem FL:∀ {t:Ty},JD t->R5 t.h t.ps
 | .mk h ps,⟨d,m,he⟩=>by
  simp only [Ty.h,Ty.ps];simp only [wrong] at he;by_cases c0:24 < d
  ·rw [if_pos c0] at he;simp at he
  rw [if_neg c0] at he;by_cases c1:512 < m + 1
  ·rw [if_pos c1] at he;simp at he
  rw [if_neg c1] at he;by_cases c2:h.ag < 1∨9 < h.ag
  ·rw [if_pos c2] at he;simp at he
  rw [if_neg c2] at he;by_cases c3:wD (.mk h ps)=false
  ·rw [if_pos c3] at he;simp at he
  rw [if_neg c3] at he;by_cases c4:(h.ag=2/\h.hi < h.lo)∨(h.ag=3/\(h.most < 0∨4096 < h.most))
  ·rw [if_pos c4] at he;simp at he
  rw [if_neg c4] at he;by_cases c5:h.ag=9/\bK h.name.s=false
  ·rw [if_pos c5] at he;simp at he
  rw [if_neg c5] at he;refine { k1:=by omega,k9:=by omega,own:=Lo c3,int:=fun h2=>by omega,text:=fun h3=>by omega,enum:=fun h4=>?_,one:=fun h5=>?_,many:=fun h7=>?_ }
  ·rw [if_pos h4] at he;exact sX h he
  ·rw [if_neg (by omega),if_pos h5] at he
   match ps,he with
   | .nil,he=>simp [wrongOne] at he
   | .cons p t (.cons _ _ _),he=>simp [wrongOne] at he
   | .cons p t .nil,he=>
    simp only [wrongOne] at he;by_cases e0:p.name.s≠ap∨bW p eC=false
    ·rw [if_pos e0] at he;simp at he
    rw [if_neg e0] at he;by_cases e1:h.most < 0∨1024 < h.most
    ·rw [if_pos e1] at he;simp at he
    rw [if_neg e1] at he;refine ⟨p,t,rfl,Classical.byContradiction fun hn=>e0 (.inl hn),?_,by omega,by omega,d + 1,_,he⟩;cases hb:bW p eC
    ·exact absurd (.inr hb) e0
    ·rfl
  ·rw [if_neg (by omega),if_neg (by omega),if_pos h7] at he;by_cases e0:h.ag=8/\ps.len=0
   ·rw [if_pos e0] at he;simp at he
   rw [if_neg e0] at he;by_cases e1:64 < ps.len
   ·rw [if_pos e1] at he;simp at he
   rw [if_neg e1] at he;refine ⟨by omega,fun h8=>fun hl=>e0 ⟨h8,hl⟩,fun i p t hx=>?_⟩;have:=ko he h7 i p t hx
   rwa [Nat.zero_add] at this
theorem R5.sub {h:Hd} {ps:Pts} (hF:R5 h ps) {p:Ph} {u:Ty} (hm:(p,u)∈ps.toList) (hb:p.bare=false):JD u:=by
 obtain ⟨i,hi⟩:=List.mem_iff_getElem?.1 hm
 have hlen:0 < ps.len:=by
  cases ps with
  | nil=>simp [Pts.toList] at hm
  | cons _ _ _=>simp [Pts.len]
 have hk:5<=h.ag/\h.ag<=8:=by
  have h1:=hF.own;unfold qz at h1;simp only [Bool.and_eq_true,Bool.or_eq_true,decide_eq_true_eq] at h1;have:=h1.1.1.2;omega
 by_cases h5:h.ag=5∨h.ag=6
 ·obtain ⟨q,t,rfl,_,_,_,_,hw⟩:=hF.one h5;simp only [Pts.toList,List.mem_singleton,Prod.mk.injEq] at hm;rw [hm.2];exact hw
 ·rcases ((hF.many (by omega)).2.2 i p u hi).2 with h1 | h1
  ·rw [h1.1] at hb;cases hb
  ·exact h1.2.2
mutual
theorem xC:∀ (t:Ty),JD t->∀ u∈flatT t,JD u
 | .mk h ps,hw,u,hu=>by
  rw [flatT] at hu;split at hu
  ·cases hu
  ·rcases List.mem_cons.1 hu with rfl | hu
   ·exact hw
   ·exact xD ps (fun p v hm hb=>(FL hw).sub hm hb) u hu
theorem xD:∀ (ps:Pts),(∀ p v,(p,v)∈ps.toList->p.bare=false->JD v)->∀ u∈flatP ps,JD u
 | .nil,_,u,hu=>by cases hu
 | .cons p v r,hw,u,hu=>by
  rw [flatP] at hu;rcases List.mem_append.1 hu with hu | hu
  ·cases hb:p.bare with
   | true=>rw [hb] at hu;cases hu
   | false=>rw [hb] at hu;exact xC v (hw p v (by simp [Pts.toList]) hb) u hu
  ·exact xD r (fun q w hm=>hw q w (by simp [Pts.toList,hm])) u hu
end
mutual
theorem xE:∀ (t:Ty),∀ u∈flatT t,u.h.ag≠9
 | .mk h ps,u,hu=>by
  rw [flatT] at hu;split at hu
  ·cases hu
  ·rename_i h9;rcases List.mem_cons.1 hu with rfl | hu
   ·exact h9
   ·exact xF ps u hu
theorem xF:∀ (ps:Pts),∀ u∈flatP ps,u.h.ag≠9
 | .nil,u,hu=>by cases hu
 | .cons p v r,u,hu=>by
  rw [flatP] at hu;rcases List.mem_append.1 hu with hu | hu
  ·split at hu
   ·cases hu
   ·exact xE v u hu
  ·exact xF r u hu
end
mutual
theorem tI:∀ (t:Ty) (j:Nat) (u:Ty),(flatT t)[j]? = some u->j + u.nn<=t.nn
 | .mk h ps,j,u,hu=>by
  rw [flatT] at hu;by_cases h9:h.ag=9
  ·rw [if_pos h9] at hu;simp at hu
  rw [if_neg h9] at hu
  cases j with
  | zero=>
   simp only [List.getElem?_cons_zero,oI] at hu;subst hu;omega
  | succ j=>
   simp only [List.getElem?_cons_succ] at hu;have:=n4 ps j u hu;rw [Ty.nn,if_neg h9];omega
theorem n4:∀ (ps:Pts) (j:Nat) (u:Ty),(flatP ps)[j]? = some u->j + u.nn<=ps.nn
 | .nil,j,u,hu=>by simp [flatP] at hu
 | .cons p v r,j,u,hu=>by
  rw [flatP] at hu;rw [Pts.nn]
  cases hb:p.bare with
  | true=>
   rw [hb] at hu;have:=n4 r j u (by simpa using hu);simp only [if_true];omega
  | false=>
   rw [hb] at hu;simp only [Bool.false_eq_true,if_false] at hu ⊢;by_cases hj:j < (flatT v).length
   ·rw [List.getElem?_append_left hj] at hu;have:=tI v j u hu;omega
   ·rw [List.getElem?_append_right (by omega)] at hu;have:=n4 r _ u hu;have h2:=nY v;omega
end
theorem q7 {lev:List Wd->Int} {s:Sch}:∀ {ps:Pts} {k:Nat} {e:Ed},e∈edsP lev s ps k->∃ p u k',(p,u)∈ps.toList/\e=Cu lev p (zA s p u k')/\(p.bare=false->k' + u.nn<=k + ps.nn)
 | .nil,k,e,he=>by simp [edsP] at he
 | .cons p u r,k,e,he=>by
  rw [edsP] at he;rcases List.mem_cons.1 he with rfl | he
  ·refine ⟨p,u,k,by simp [Pts.toList],rfl,fun hb=>?_⟩;rw [Pts.nn,hb];simp
  ·obtain ⟨q,v,k',h1,h2,h3⟩:=q7 he;refine ⟨q,v,k',by simp [Pts.toList,h1],h2,fun hb=>?_⟩;have:=h3 hb;rw [Pts.nn];omega
theorem lL {lev:List Wd->Int} {s:Sch}:∀ {ps:Pts} {k:Nat},(edsP lev s ps k).map Ed.name=az (pNames ps)
 | .nil,k=>rfl
 | .cons p u r,k=>by
  rw [edsP,List.map_cons,lL (ps:=r)];rfl
theorem tJ {f:Nat->Nat->Bool} {n:Nat} (hL:kh f n):∀ e,e<=n->∃ b,b < n/\∀ x,x < e->f b x=true
 | 0,_=>⟨0,hL.pos,fun x hx=>by omega⟩
 | e + 1,he=>by
  obtain ⟨b,hb,iA⟩:=tJ hL e (by omega);obtain ⟨k,hk⟩:=hL.mt b e hb (by omega);obtain ⟨g1,g2,g3,g4⟩:=lH hk;refine ⟨k,g1,fun x hx=>?_⟩;rcases Nat.lt_succ_iff_lt_or_eq.1 hx with hx | rfl
  ·exact hL.tr k b x g1 hb (by omega) g2 (iA x hx)
  ·exact g3
theorem xG {f:Nat->Nat->Bool} {n:Nat} (hL:kh f n) (l:List Nat) (hl:∀ x∈l,x < n):∃ c,gV f n l=some c:=by
 have key:∀ e,e<=l.length->∃ c,gV f n (l.take e)=some c:=by
  intro e
  induction e with
  | zero=>
   intro _;obtain ⟨b,hb,iA⟩:=tJ hL n (Nat.le_refl _);exact ⟨b,lK hL hb iA⟩
  | succ e ih=>
   intro he;obtain ⟨c,hc⟩:=ih (by omega);obtain ⟨x,hx⟩:∃ x,l[e]? = some x:=⟨_,gE (by omega)⟩;have vA:=hl x (mG hx);obtain ⟨k,hk⟩:=hL.jn c x (nU hc) vA;rw [List.take_add_one,hx];exact ⟨k,oD hL (fun y hy=>hl y (List.mem_of_mem_take hy)) vA hc hk⟩
 have:=key l.length (Nat.le_refl _)
 rwa [List.take_length] at this
theorem tK {L:List ByteArray}:∀ {l:List Wd},(labW L l).1=0->∀ w∈l,∃ i,dc L w.s=some i
 | [],_,w,hw=>by cases hw
 | x :: r,h,w,hw=>by
  rw [labW] at h;split at h
  ·cases h
  ·rename_i h1;rcases List.mem_cons.1 hw with rfl | hw
   ·exact Option.ne_none_iff_exists'.1 h1
   ·exact tK h w hw
theorem CE {f:Nat->Nat->Bool} {L:List ByteArray} (hL:kh f L.length) {l:List Wd} (h:(labW L l).1=0):∃ c:Nat,zs f L l=c/\c < L.length:=by
 obtain ⟨c,hc⟩:=xG hL (u0 L l) (fun x hx=>by
  unfold u0 at hx;obtain ⟨w,hw,rfl⟩:=List.mem_map.1 hx;obtain ⟨i,hi⟩:=tK h w hw;rw [hi]
  exact (dR hi).1)
 refine ⟨c,?_,nU hc⟩;unfold zs;rw [if_pos h,hc];rfl
structure R6 (L N:Nat) (e:Ed):Prop where
 to0:e.bare=true->e.to = -1
 to1:e.bare=false->∃ k:Nat,e.to=k/\k < N
 lab:∃ k:Nat,e.label=k/\k < L
 seen:∃ k:Nat,e.seen=k/\k < L
 wide:1<=e.wide/\e.wide<=64
 ck:0<=e.ck/\e.ck<=3
 cn:(e.ck=0->e.cn=0)/\(e.ck=1->1<=e.cn)/\(e.ck=2->0<=e.cn/\e.cn<=4096)/\(e.ck=3->e.cn=0)
structure n5 (L N:Nat) (n:Nd):Prop where
 k1:1<=n.ag
 k8:n.ag<=8
 R7:n.ag=2->n.lo<=n.hi
 lo0:n.ag≠2->n.lo=0/\n.hi=0
 OJ:n.ag=3->0<=n.most/\n.most<=4096
 JE:n.ag=5->0<=n.most/\n.most<=1024
 OL:n.ag≠3->n.ag≠5->n.most=0
 ae:n.ag=4->n.ae ≠ []/\n.ae.length<=64/\n.ae.Nodup/\∀ s∈n.ae,bK s=true
 Lp:n.ag≠4->n.ae=[]
 leaf:n.ag < 5->n.aD=[]
 one:n.ag=5∨n.ag=6->∃ e,n.aD=[e]/\e.bare=false/\e.name=ap
 many:n.ag=7∨n.ag=8->n.aD.length<=64/\(n.ag=8->n.aD ≠ [])/\(n.aD.map Ed.name).Nodup/\∀ e∈n.aD,bK e.name=true
 bare:∀ e∈n.aD,e.bare=true->n.ag=8
 KX:∀ e∈n.aD,R6 L N e
theorem q8 {l:List Wd} (h:∀ j x,l[j]? = some x->aN l j x=0):(az l).Nodup/\∀ x∈l,bK x.s=true:=by
 have key:∀ e,e<=l.length->(az (l.take e)).Nodup:=by
  intro e
  induction e with
  | zero=>intro _;simp [az]
  | succ e ih=>
   intro he;obtain ⟨x,hx⟩:∃ x,l[e]? = some x:=⟨_,gE (by omega)⟩;exact jC hx (ih (by omega)) (h e x hx)
 refine ⟨by have:=key l.length (Nat.le_refl _);rwa [List.take_length] at this,fun x hx=>?_⟩;obtain ⟨j,hj⟩:=List.mem_iff_getElem?.1 hx;have:=h j x hj;unfold aN at this;cases hb:bK x.s
 ·rw [hb] at this;simp at this
 ·rfl
theorem tM {all:List Wd}:∀ {l:List Wd} {i:Nat},(enumL all i l).1=0->∀ j x,l[j]? = some x->aN all (i + j) x=0
 | [],i,_,j,x,hx=>by simp at hx
 | y :: r,i,h,j,x,hx=>by
  rw [enumL] at h;split at h
  ·rename_i h1;exact (h1 h).elim
  ·rename_i h1
   cases j with
   | zero=>
    simp only [List.getElem?_cons_zero,oI] at hx;subst hx;simpa using h1
   | succ j=>
    simp only [List.getElem?_cons_succ] at hx;have:=tM h j x hx
    rwa [show i + 1 + j=i + (j + 1) by omega] at this
theorem vg {h:Hd} (he:jv h=(0,0)):h.ae ≠ []/\h.ae.length<=64/\(az h.ae).Nodup/\∀ x∈h.ae,bK x.s=true:=by
 unfold jv at he;split at he
 ·cases he
 ·rename_i h1;split at he
  ·cases he
  ·rename_i h2;refine ⟨h1,by omega,?_⟩
   exact q8 fun j x hx=>by
    have:=tM (all:=h.ae) (i:=0) (by rw [he]) j x hx
    rwa [Nat.zero_add] at this
theorem A3 {X:Lx} {L:List ByteArray}:∀ {ps:Pts},(knP X L ps).1=0->∀ {p:Ph} {u:Ty},(p,u)∈ps.toList->(X.bad p.label).1=0/\(X.bad p.cl).1=0
 | .nil,_,p,u,h=>by cases h
 | .cons q v r,hk,p,u,h=>by
  have hr:=(nV hk).2;rw [knP] at hk;split at hk
  ·rename_i h1;exact (h1 hk).elim
  rename_i h1;split at hk
  ·rename_i h2;exact (h2 hk).elim
  rename_i h2;rcases List.mem_cons.1 h with h | h
  ·cases h;exact ⟨by simpa using h1,by simpa using h2⟩
  ·exact A3 hr h
theorem n7 {p q:Ph} (h:bW p q=true):p.bare=q.bare/\p.wide=q.wide/\p.ck=q.ck/\p.cn=q.cn:=by
 unfold bW at h;simp only [Bool.and_eq_true,beq_iff_eq,decide_eq_true_eq] at h;exact ⟨h.1.1.1.1.1,h.1.1.1.1.2,h.1.1.2,h.1.2⟩
theorem FM {w:Int} (h:0<=w/\w<=64):1<=oG w/\oG w<=64:=by
 unfold oG;split<;>omega
theorem zL {p:Ph} (h:(bf p).1=0):(0<=p.ck/\p.ck<=3)/\(p.ck=0->p.cn=0)/\(p.ck=1->1<=p.cn)/\(p.ck=2->0<=p.cn/\p.cn<=4096)/\(p.ck=3->p.cn=0):=by
 unfold bf at h;by_cases c0:p.ck=0
 ·rw [if_pos c0] at h;by_cases c1:p.cn=0/\p.cl=[]
  ·exact ⟨by omega,fun _=>c1.1,by omega,by omega,by omega⟩
  ·rw [if_neg c1] at h;simp at h
 rw [if_neg c0] at h;by_cases c1:p.ck < 0∨3 < p.ck
 ·rw [if_pos c1] at h;simp at h
 rw [if_neg c1] at h;by_cases c2:(p.ck=1/\p.cn < 1)∨(p.ck=2/\(p.cn < 0∨4096 < p.cn))∨(p.ck=3/\p.cn≠0)
 ·rw [if_pos c2] at h;simp at h
 exact ⟨by omega,by omega,by omega,by omega,by omega⟩
theorem CF {p:Ph} (h:(dX p).1=0):(0<=p.wide/\p.wide<=64)/\(bf p).1=0:=by
 unfold dX at h;by_cases c0:p.wide < 0∨64 < p.wide
 ·rw [if_pos c0] at h;simp at h
 rw [if_neg c0] at h;by_cases c1:(cV p.label).1≠0
 ·rw [if_pos c1] at h;exact absurd h c1
 rw [if_neg c1] at h;exact ⟨by omega,h⟩
theorem FN {t:Ty} (h:t.h.ag≠9):1<=t.nn:=by
 obtain ⟨h',ps⟩:=t;have h:¬ h'.ag=9:=h;rw [Ty.nn,if_neg h];omega
theorem CG {S:Sch} {k:Nat} {x:Wd × Ty} (hx:S.types[k]? = some x):firstA S k + x.2.nn<=o7 (ld S):=by
 have h1:=oF hx;rw [<- h1]
 have h2:firstA S (k + 1)=o7 ((oH S).take (k + 1)):=by
  unfold firstA o7 oH;rw [<- List.map_take,List.map_map];rfl
 have h3:=FF (oH S) (k + 1);have h4:o7 (ld S)=o7 (oH S) + o7 [S.root]:=vf _ _;omega
theorem xH {lev:List Wd->Int} {s:Sch} {n:Nd}:∀ {l:List Ty} {k i:Nat},(ndsA lev s l k)[i]? = some n->∃ t∈l,∃ u∈flatT t,n=OE lev s u (k + i)/\i + u.nn<=o7 l
 | [],k,i,h=>by simp [ndsA] at h
 | t :: r,k,i,h=>by
  rw [ndsA] at h;rw [km];have hl:=iN lev s t k;by_cases hi:i < t.nn
  ·rw [List.getElem?_append_left (by omega),vd,List.getElem?_map,List.getElem?_zipIdx] at h
   cases hu:(flatT t)[i]? with
   | none=>rw [hu] at h;simp at h
   | some u=>
    rw [hu] at h;simp only [Option.map_some,oI] at h;have:=tI t i u hu;exact ⟨t,List.mem_cons_self,u,mG hu,by rw [<- h];simp,by omega⟩
  ·rw [List.getElem?_append_right (by omega),hl] at h;obtain ⟨t',h1,u,h2,h3,h4⟩:=xH h;refine ⟨t',List.mem_cons_of_mem _ h1,u,h2,?_,by omega⟩;rw [h3];congr 1;omega
theorem rb (S:Sch):(bL S).length=o7 (ld S):=by rw [nZ,q5]
theorem CH {S:Sch} (hF:FG S) {i:Nat} {n:Nd} (h:(bL S)[i]? = some n):n5 S.af.length (bL S).length n:=by
 rw [rb];rw [nZ] at h;obtain ⟨t,ht,u,hu,rfl,pT⟩:=xH h;rw [Nat.zero_add];have L3:=xC t ⟨_,_,hF.wr t ht⟩ u hu;have hk:=xy t (hF.kn t ht) u hu;have PF:=xE t u hu;have hT:=FL L3;obtain ⟨R8,_⟩:=xm hF.lat;have mw:=fN S.af;have OM:=hF.ends;obtain ⟨uh,us⟩:=u;simp only [Ty.h,Ty.ps] at hT PF;have PG:=(qW hk).2;have ey:=hT.own;unfold qz at ey;simp only [Bool.and_eq_true,Bool.or_eq_true,decide_eq_true_eq] at ey;obtain ⟨⟨⟨⟨o1,o2⟩,o3⟩,o4⟩,o5⟩:=ey;have k1:=hT.k1;have k9:=hT.k9
 have Og:∀ l:List Wd,(labW (az S.af) l).1=0->∃ k:Nat,gW S l=k/\k < S.af.length:=by
  intro l hl;have:=CE (f:=hY S.af.length (fw (az S.af) S.order)) (L:=az S.af) (by rw [mw];exact R8) hl
  rwa [mw] at this
 have PD:∀ (p:Ph) (v:Ty) (k':Nat),(p,v)∈us.toList->(p.bare=false->k' + v.nn<=i + 1 + us.nn)->(p.bare=true->zA S p v k' = -1)/\(p.bare=false->∃ k:Nat,zA S p v k'=k/\k < o7 (ld S)):=by
  intro p v k' hm iA;refine ⟨fun hb=>by simp [zA,hb],fun hb=>?_⟩;have hkv:=A0 PG hm hb;obtain ⟨vh,vs⟩:=v;by_cases h9:vh.ag=9
  ·obtain ⟨j,hj⟩:=Option.ne_none_iff_exists'.1 ((qW hkv).1 h9);have rR:=(dR hj).1;rw [qS] at rR;obtain ⟨k,hk⟩:=OM j rR;have gZ:=u1 hk;obtain ⟨x,hx⟩:∃ x,S.types[k]? = some x:=⟨_,gE gZ.1⟩;have h1:=CG hx;have h2:=FN (gZ.2 x hx);refine ⟨firstA S k,?_,by omega⟩;simp [zA,hb,u6,Ty.h,h9,PB,hj,namedN,hk]
  ·have h1:=FN (t:=.mk vh vs) h9;have h2:=iA hb;have h3:(Ty.mk uh us).nn=1 + us.nn:=by rw [Ty.nn,if_neg PF]
   refine ⟨k',by simp [zA,hb,u6,Ty.h,h9],by omega⟩
 have w7:∀ p v,(p,v)∈us.toList->(0<=p.wide/\p.wide<=64)/\(0<=p.ck/\p.ck<=3)/\((p.ck=0->p.cn=0)/\(p.ck=1->1<=p.cn)/\(p.ck=2->0<=p.cn/\p.cn<=4096)/\(p.ck=3->p.cn=0))/\(p.bare=true->uh.ag=8):=by
  intro p v hm;obtain ⟨j,hj⟩:=List.mem_iff_getElem?.1 hm
  have hlen:us.len≠0:=by
   cases us with
   | nil=>simp [Pts.toList] at hm
   | cons _ _ _=>simp [Pts.len]
  by_cases h5:uh.ag=5∨uh.ag=6
  ·obtain ⟨q,t',rfl,_,sv,_,_,_⟩:=hT.one h5;simp only [Pts.toList,List.mem_singleton,Prod.mk.injEq] at hm;obtain ⟨rfl,rfl⟩:=hm;obtain ⟨w1,w2,w3,w4⟩:=n7 sv;have z1:eC.wide=0:=rfl;have z2:eC.ck=0:=rfl;have z3:eC.cn=0:=rfl;have z4:eC.bare=false:=rfl;rw [z1] at w2;rw [z2] at w3;rw [z3] at w4;rw [z4] at w1;refine ⟨by omega,by omega,⟨by omega,by omega,by omega,by omega⟩,fun hb=>?_⟩;rw [w1] at hb;cases hb
  ·obtain ⟨_,hP⟩:=(hT.many (by omega)).2.2 j p v hj;rcases hP with ⟨hb,h8,_,sv⟩ | ⟨hb,hp,_⟩
   ·obtain ⟨w1,w2,w3,w4⟩:=n7 sv;have z1:eV.wide=0:=rfl;have z2:eV.ck=0:=rfl;have z3:eV.cn=0:=rfl;rw [z1] at w2;rw [z2] at w3;rw [z3] at w4;exact ⟨by omega,by omega,⟨by omega,by omega,by omega,by omega⟩,fun _=>h8⟩
   ·obtain ⟨w1,w2⟩:=CF hp;obtain ⟨w3,w4⟩:=zL w2;exact ⟨w1,w3,w4,fun h=>by rw [hb] at h;cases h⟩
 have ON:us.len=0->us = .nil:=fun h=>by
  cases us with
  | nil=>rfl
  | cons _ _ _=>simp [Pts.len] at h
 refine {
  k1:=k1
  k8:=by show uh.ag<=8;omega
  R7:=hT.int
  lo0:=fun h2=>?_
  OJ:=hT.text
  JE:=fun h5=>?_
  OL:=fun h3 h5=>?_
  ae:=fun h4=>?_
  Lp:=fun h4=>?_
  leaf:=fun h5=>?_
  one:=fun h5=>?_
  many:=fun h7=>?_
  bare:=fun e he hb=>?_
  KX:=fun e he=>?_ }
 ·show uh.lo=0/\uh.hi=0;exact o1.resolve_left h2
 ·obtain ⟨q,t',rfl,_,_,pe,iC,_⟩:=hT.one (.inl h5);exact ⟨pe,iC⟩
 ·show uh.most=0;exact o2.resolve_left (fun h=>h.elim h3 h5)
 ·obtain ⟨e1,e2,e3,e4⟩:=vg (hT.enum h4);show az uh.ae ≠ []/\(az uh.ae).length<=64/\(az uh.ae).Nodup/\∀ s∈az uh.ae,bK s=true;refine ⟨fun h=>e1 (by simpa [az] using h),by rw [fN];exact e2,e3,fun s hs=>?_⟩;unfold az at hs;obtain ⟨w,hw,rfl⟩:=List.mem_map.1 hs;exact e4 w hw
 ·show az uh.ae=[];have:=o4.resolve_right h4;have:uh.ae=[]:=List.eq_nil_of_length_eq_zero this;rw [this];all_goals rfl
 ·show edsP (gW S) S us (i + 1)=[];have TU:uh.ag < 5:=h5;rw [ON (o3.resolve_right (by omega))];rfl
 ·show ∃ e,edsP (gW S) S us (i + 1)=[e]/\_;obtain ⟨q,t',rfl,hn,sv,_,_,_⟩:=hT.one h5;refine ⟨Cu (gW S) q (zA S q t' (i + 1)),rfl,?_,hn⟩;exact (n7 sv).1
 ·show (edsP (gW S) S us (i + 1)).length<=64/\(_->edsP (gW S) S us (i + 1) ≠ [])/\((edsP (gW S) S us (i + 1)).map Ed.name).Nodup/\∀ e∈edsP (gW S) S us (i + 1),bK e.name=true;obtain ⟨m1,m2,m3⟩:=hT.many h7
  have ez:∀ j x,(pNames us)[j]? = some x->aN (pNames us) j x=0:=by
   intro j x hx
   have hj:j < us.len:=by
    have:=(gS hx).1
    rwa [lD] at this
   obtain ⟨p,t',hp⟩:=Pts.gP hj;rw [ju hp] at hx;simp only [oI] at hx;rw [<- hx];exact (m3 j p t' hp).1
  obtain ⟨n1,n2⟩:=q8 ez;refine ⟨by rw [mU];exact m1,fun h8 hn=>m2 h8 ?_,by rw [lL];exact n1,fun e he=>?_⟩
  ·have:=mU (gW S) S us (i + 1);rw [hn] at this;simpa using this.symm
  ·have:e.name∈az (pNames us):=by rw [<- lL (lev:=gW S) (s:=S) (k:=i + 1)];exact List.mem_map_of_mem he
   unfold az at this;obtain ⟨w,hw,h⟩:=List.mem_map.1 this;rw [<- h];exact n2 w hw
 ·obtain ⟨p,v,k',h1,rfl,_⟩:=q7 he;exact (w7 p v h1).2.2.2 hb
 ·obtain ⟨p,v,k',h1,rfl,h3⟩:=q7 he;obtain ⟨h4,h5⟩:=PD p v k' h1 h3;obtain ⟨h6,h7,h8,_⟩:=w7 p v h1;obtain ⟨h9,sA⟩:=A3 PG h1;exact { to0:=h4,to1:=h5,lab:=Og _ h9,seen:=Og _ sA,wide:=FM h6,ck:=h7,cn:=h8 }
theorem xI {lev:List Wd->Int} {s:Sch} {n:Nd}:∀ {l:List Ty} {k:Nat},n∈ndsA lev s l k->∃ t∈l,∃ u∈flatT t,∃ k',n=OE lev s u k'
 | [],_,h=>by cases h
 | t :: r,k,h=>by
  rw [ndsA] at h;rcases List.mem_append.1 h with h | h
  ·rw [vd] at h;obtain ⟨x,hx,rfl⟩:=List.mem_map.1 h;have:=(List.mem_zipIdx hx).2.2;refine ⟨t,List.mem_cons_self,x.1,?_,_,rfl⟩;rw [this];exact List.getElem_mem _
  ·obtain ⟨t',ht,h⟩:=xI h;exact ⟨t',List.mem_cons_of_mem _ ht,h⟩
theorem CI {S:Sch} {n:Nd} (h:n∈bL S) (hS:S.wt<=1099511627776):n.ae.length<=1099511627776/\n.aD.length<=1099511627776:=by
 rw [nZ] at h;obtain ⟨t,ht,u,hu,k,rfl⟩:=xI h;have h1:=HZ hS t ht;have h2:=xA t u hu;obtain ⟨uh,us⟩:=u;have h3:=cv uh.ae;have h4:=us.jr;simp only [Ty.wt,Hd.wt] at h2;simp only [OE,Ty.h,Ty.ps,fN,mU];omega
abbrev zNd:List DV:=[.v (.int .i64 0),.v (.int .i64 0),.v (.int .i64 0),.v (.int .i64 0),.v (.int .i64 0),.v (.slice none 0 0),.v (.slice none 0 0)]
structure lm (S:Sch) (ND:List Nd) (PC:List DV):Prop where
 fine:FG S
 wt:S.wt<=1099511627776
 vH:ND=bL S
 ok:∀ n∈ND,n5 S.af.length ND.length n
 nl:ND.length<=1099511627776
 len:ba Tryz.prog 110 [.pt PC 0] (.v (.int .i64 ND.length))
 root:ba Tryz.prog 19 [.pt PC 0] (.v (.int .i64 (eu S)))
 ai:∀ (i:Nat) n,ND[i]? = some n->ba Tryz.prog 51 [.pt PC 0,.v (.int .i64 i)] (.dV [.agg (jR n),.v (.bool true)])
 FO:∀ i:Int,(i < 0∨ND.length<=i)->ba Tryz.prog 51 [.pt PC 0,.v (.int .i64 i)] (.dV [.agg zNd,.v (.bool false)])
 lat:∃ aC js,(u9 S aC js).OK/\ba Tryz.prog 38 [.pt PC 0] (u9 S aC js).pd
theorem FP {S:Sch} {d:DV} (hS:S.wt<=1099511627776) (h0:(la S).1=0) (hd:Fo S d):∃ PC,d = .pt PC 0/\lm S (bL S) PC:=by
 obtain ⟨aC,iy,js,hX,hT,gk,rfl⟩:=hd;have hF:=FI h0;have cg:=fun n (h:n∈bL S)=>CI h hS
 refine ⟨_,rfl,{
  fine:=hF
  wt:=hS
  vH:=rfl
  ok:=fun n hn=>?_
  nl:=by rw [rb];exact Nat.le_trans (Lm S) hS
  len:=nX _ _ _ _ _ _
  root:=zG _ _ _ _ _ _
  ai:=fun i n h=>zH _ _ _ _ _ _ i n h (cg n (mG h)).1 (cg n (mG h)).2
  FO:=fun i h=>zI _ _ _ _ _ _ i h
  lat:=⟨aC,js,hX,Cz _ _ _ _ _ _⟩ }⟩
 obtain ⟨i,hi⟩:=List.mem_iff_getElem?.1 hn;exact CH hF hi
def zM (S:Sch) (r:DV):Prop:=((la S).1≠0/\r = .dV [.v (.pointer none),(la S).d])∨((la S).1=0/\∃ PC,lm S (bL S) PC/\r = .dV [.pt PC 0,Ft.d (0,0)])
theorem tN {S:Sch} (hS:S.wt<=1099511627776) {r:DV} {os:List (List DV)} {tk:List TkE} (h:zF S r os tk):zM S r:=by
 unfold zF at h;by_cases h0:(la S).1=0
 ·rw [if_neg (by rw [h0];simp)] at h;obtain ⟨d,hd,rfl⟩:=h;obtain ⟨PC,rfl,hP⟩:=FP hS h0 hd;exact .inr ⟨h0,PC,hP,rfl⟩
 ·rw [if_pos h0] at h;exact .inl ⟨h0,h⟩
inductive Val where
 | mk (k n:Int) (s:ByteArray) (ks:List Val)
def Val.k:Val->Int | .mk k _ _ _=>k
def Val.n:Val->Int | .mk _ n _ _=>n
def Val.s:Val->ByteArray | .mk _ _ s _=>s
def Val.ks:Val->List Val | .mk _ _ _ ks=>ks
mutual
def cd:Val->List DV
 | .mk k n s ks=>[.v (.int .i64 k),.v (.int .i64 n),.v (.string s),.sl 4 (dVals ks) none]
def dVals:List Val->List (List DV)
 | []=>[]
 | v :: r=>cd v :: dVals r
end
theorem dA:∀ l:List Val,dVals l=l.map cd
 | []=>rfl
 | v :: r=>by rw [dVals,dA r];all_goals rfl
theorem bH (l:List Val):(dVals l).length=l.length:=by rw [dA,List.length_map]
theorem cI {l:List Val} {e:Nat} {x:Val} (h:l[e]? = some x):(dVals l)[e]? = some (cd x):=by rw [dA,List.getElem?_map,h];all_goals rfl
theorem zN {l:List Val} {e:Nat} {x:Val} (h:l[e]? = some x):dVals (l.take e) ++ [cd x]=dVals (l.take (e + 1)):=by
 rw [dA,dA,List.take_add_one,h];simp
mutual
def Val.wt:Val->Nat
 | .mk _ _ s ks=>64 + s.size + cw ks
def cw:List Val->Nat
 | []=>0
 | v :: r=>v.wt + cw r
end
theorem Val.cT:∀ v:Val,64<=v.wt
 | .mk _ _ _ _=>by rw [Val.wt];omega
theorem cY:∀ {l:List Val} {x:Val},x∈l->x.wt<=cw l
 | v :: r,x,h=>by
  rcases List.mem_cons.1 h with rfl | h
  ·rw [cw];omega
  ·have:=cY h;rw [cw];omega
theorem dL:∀ l:List Val,64 * l.length<=cw l
 | []=>Nat.le_refl _
 | v :: r=>by
  have:=dL r;have:=v.cT;rw [cw,List.length_cons];omega
mutual
def kp:Val->Nat
 | .mk _ _ _ ks=>1 + ej ks
def ej:List Val->Nat
 | []=>0
 | v :: r=>kp v + ej r
end
mutual
def sb:Val->Nat
 | .mk _ _ _ ks=>fi ks + 1
def fi:List Val->Nat
 | []=>0
 | v :: r=>max (sb v) (fi r)
end
mutual
theorem py:∀ v:Val,kp v<=v.wt/\sb v<=v.wt
 | .mk _ _ _ ks=>by
  have:=mX ks;rw [kp,sb,Val.wt];omega
theorem mX:∀ l:List Val,ej l<=cw l/\fi l<=cw l
 | []=>⟨Nat.le_refl _,Nat.le_refl _⟩
 | v :: r=>by
  have h1:=py v;have h2:=mX r;rw [ej,fi,cw];omega
end
theorem lM:∀ (l:List Val) (x:Val),ej (l ++ [x])=ej l + kp x
 | [],x=>by simp [ej]
 | v :: r,x=>by rw [List.cons_append,ej,ej,lM r];omega
theorem rc:∀ (l:List Val) (x:Val),fi (l ++ [x])=max (fi l) (sb x)
 | [],x=>by simp [fi]
 | v :: r,x=>by rw [List.cons_append,fi,fi,rc r];omega
theorem gA {α:Type} {l:List α} {e:Nat} {x:α} (h:l[e]? = some x):l.take (e + 1)=l.take e ++ [x]:=by rw [List.take_add_one,h];all_goals rfl
theorem lN (l:List Val):∀ e,ej (l.take e)<=cw l/\fi (l.take e)<=cw l:=fun e=>by
 have h1:=mX (l.take e)
 have h2:∀ (l:List Val) e,cw (l.take e)<=cw l:=by
  intro l
  induction l with
  | nil=>intro e;simp [cw]
  | cons v r ih=>
   intro e
   cases e with
   | zero=>simp [cw]
   | succ e=>have:=ih e;simp only [List.take_succ_cons,cw];omega
 have:=h2 l e;omega
abbrev R9 (v:Val) (n d e:Nat):St:=
 ⟨[(1,⟨[],.loc 0 0⟩),(4,⟨[],.v (.int .i64 n)⟩),(5,⟨[],.v (.int .i64 d)⟩),(6,⟨[],.v (.int .i64 e)⟩)],[cd v],[]⟩
theorem oJ:∀ (k:Nat) (v:Val),v.wt<=k->v.wt<=1099511627776->ba Tryz.prog 13 [.agg (cd v)] (.dV [.v (.int .i64 (kp v:Nat)),.v (.int .i64 (sb v:Nat))])
 | 0,v,h,_=>by have:=v.cT;omega
 | k + 1,.mk q n s ks,h,hb=>by
  have ih:=oJ k;have ed:=bH ks;have gZ:=dL ks;have oo:=lN ks;rw [Val.wt] at h hb;rw [kp,sb];refine ev_go (P:=Tryz.prog) tt tt_ok 5000 35 [.tmp 2,.tmp 3] Tryz.func13 rfl Tryz.ntmps13 rfl (nL rfl) (fun E9 w9 hn9 hm9=>?_);refine bU (fun j st=>∃ e:Nat,st=R9 (.mk q n s ks) (1 + ej (ks.take e)) (fi (ks.take e)) e/\e<=ks.length/\j=ks.length - e) ks.length (R9 (.mk q n s ks) 1 0 0) (aq ⟨_,rfl⟩ wA rfl rfl rfl wB) ⟨0,rfl,by omega,by omega⟩ ?_;rintro j st ⟨e,rfl,he,rfl⟩;refine br (fun hL=>?_) (fun hL=>?_)
  ·have au:e < ks.length:=by have:=hL;simp [ed] at this;exact this
   obtain ⟨x,hx⟩:∃ x,ks[e]? = some x:=⟨_,gE au⟩;have Fh:=cY (mG hx);have hc:=lM (ks.take e) x;have hd:=rc (ks.take e) x;rw [<- gA hx] at hc hd;have h1:=oo (e + 1);have hi:=ih x (by omega) (by omega);have Lq:=py x;obtain ⟨xk,xn,xs,xl⟩:=x;refine ⟨_,⟨by omega,cI hx⟩,?_⟩;refine call_p MN (hi) ax rfl ?_;have hw:IntKind.i64.wrap (((1 + ej (ks.take e):Nat):Int) + ((kp (.mk xk xn xs xl):Nat):Int))=((1 + ej (ks.take (e + 1)):Nat):Int):=by rw [wrap64 (by omega) (by omega)];omega
   refine br (fun g=>?_) (fun g=>?_)
   ·have g:fi (ks.take e) < sb (.mk xk xn xs xl):=by simpa using g
    have yH:((sb (.mk xk xn xs xl):Nat):Int)=((fi (ks.take (e + 1)):Nat):Int):=by omega
    exact ⟨R9 (.mk q n s ks) (1 + ej (ks.take (e + 1))) (fi (ks.take (e + 1))) (e + 1),(aq ⟨_,rfl⟩ wA rfl rfl rfl (by repeat' (first | exact trivial | exact aw rfl | exact ay hw | exact ay yH | exact ay (bA au (by omega)) | refine ⟨⟨_,rfl,?_⟩,?_⟩))),ks.length - (e + 1),by omega,e + 1,rfl,by omega,rfl⟩
   ·have g:¬ fi (ks.take e) < sb (.mk xk xn xs xl):=by simpa using g
    have yH:((fi (ks.take e):Nat):Int)=((fi (ks.take (e + 1)):Nat):Int):=by omega
    exact ⟨R9 (.mk q n s ks) (1 + ej (ks.take (e + 1))) (fi (ks.take (e + 1))) (e + 1),(aq ⟨_,rfl⟩ wA rfl rfl rfl (by repeat' (first | exact trivial | exact aw rfl | exact ay hw | exact ay yH | exact ay (bA au (by omega)) | refine ⟨⟨_,rfl,?_⟩,?_⟩))),ks.length - (e + 1),by omega,e + 1,rfl,by omega,rfl⟩
  ·have bI:e=ks.length:=by have:=hL;simp [ed] at this;omega
   subst bI;have h1:=oo ks.length;rw [List.take_length] at h1 ⊢;have hw:IntKind.i64.wrap (((fi ks:Nat):Int) + 1)=((fi ks + 1:Nat):Int):=by rw [wrap64 (by omega) (by omega)];omega
   refine ⟨_,(aI hw),rfl⟩
abbrev Sa (ks:List Val) (n e:Nat):St:=
 ⟨[(3,⟨[],.v (.int .i64 n)⟩),(7,⟨[],.sl 4 (dVals ks) none⟩),(8,⟨[],.v (.int .i64 (dVals ks).length)⟩),(9,⟨[],.v (.int .i64 e)⟩)],[],[]⟩
theorem oK:∀ (k:Nat) (v:Val),v.wt<=k->v.wt<=1099511627776->ba Tryz.prog 25 [.agg (cd v)] (.v (.int .i64 (kp v:Nat)))
 | 0,v,h,_=>by have:=v.cT;omega
 | k + 1,.mk q n s ks,h,hb=>by
  have ih:=oK k;have ed:=bH ks;have gZ:=dL ks;have oo:=lN ks;rw [Val.wt] at h hb;rw [kp];refine ev_go (P:=Tryz.prog) tt tt_ok 5000 19 [.tmp 2] Tryz.func25 rfl Tryz.ntmps25 rfl (nL rfl) (fun E9 w9 hn9 hm9=>?_);refine bU (fun j st=>∃ e:Nat,st=Sa ks (1 + ej (ks.take e)) e/\e<=ks.length/\j=ks.length - e) ks.length (Sa ks 1 0) (aq ⟨_,rfl⟩ wA rfl rfl rfl wB) ⟨0,rfl,by omega,by omega⟩ ?_;rintro j st ⟨e,rfl,he,rfl⟩;refine br (fun hL=>?_) (fun hL=>?_)
  ·have au:e < ks.length:=by have:=hL;simp [ed] at this;exact this
   obtain ⟨x,hx⟩:∃ x,ks[e]? = some x:=⟨_,gE au⟩;have Fh:=cY (mG hx);have hc:=lM (ks.take e) x;rw [<- gA hx] at hc;have h1:=oo (e + 1);have hi:=ih x (by omega) (by omega);obtain ⟨xk,xn,xs,xl⟩:=x;refine ⟨_,⟨by omega,cI hx⟩,?_⟩;refine call_p MQ (hi) ax rfl ?_;have hw:IntKind.i64.wrap (((1 + ej (ks.take e):Nat):Int) + ((kp (.mk xk xn xs xl):Nat):Int))=((1 + ej (ks.take (e + 1)):Nat):Int):=by rw [wrap64 (by omega) (by omega)];omega
   exact ⟨Sa ks (1 + ej (ks.take (e + 1))) (e + 1),(aq ⟨_,rfl⟩ wA rfl rfl rfl (by repeat' (first | exact trivial | exact aw rfl | exact ay hw | exact ay (bA au (by omega)) | refine ⟨⟨_,rfl,?_⟩,?_⟩))),ks.length - (e + 1),by omega,e + 1,rfl,by omega,rfl⟩
  ·have bI:e=ks.length:=by have:=hL;simp [ed] at this;omega
   subst bI;rw [List.take_length];exact (rfl:_=_)
theorem xJ:Tryz.prog.cellsOf 45=4:=by kernel_rfl
theorem A4 {m:Nat} (ih:∀ k,k<=m->∀ ds,Typ Tryz.prog k 45 ds->∃ v:Val,ds=cd v/\v.wt<=wgL ds) :
  ∀ {es:List (List DV)},(∀ cs∈es,Typ Tryz.prog m 45 cs)->∃ l:List Val,es=dVals l/\cw l<=wgEs es
 | [],h=>⟨[],rfl,by simp [cw]⟩
 | cs :: r,h=>by
  obtain ⟨l,rfl,hl⟩:=A4 ih (es:=r) (fun c hc=>h c (List.mem_cons_of_mem _ hc));obtain ⟨v,rfl,hv⟩:=ih m (Nat.le_refl _) cs (h cs (by simp));exact ⟨v :: l,rfl,by simp only [cw,wgEs];omega⟩
theorem typ_val:∀ (n:Nat) (ds:List DV),Typ Tryz.prog n 45 ds->∃ v:Val,ds=cd v/\v.wt<=wgL ds:=by
 intro n
 induction n using Nat.strongRecOn with
 | _ n ih=>
  intro ds h;obtain ⟨m,rfl,hf⟩:=jx Tryz.underlying45 h;obtain ⟨a1,b1,rfl,h1,a2,b2,rfl,h2,a3,b3,rfl,h3,a4,b4,rfl,h4,rfl⟩:=hf;obtain ⟨k,rfl,_⟩:=ik h1;obtain ⟨z,rfl,_⟩:=ik h2;obtain ⟨s,rfl⟩:=uQ Tryz.underlying9 h3;obtain ⟨j,es,rfl,rfl,ie⟩:=nO Tryz.underlying43 h4;obtain ⟨l,rfl,wl⟩:=A4 (fun i hi=>ih i (by omega)) ie;rw [xJ];refine ⟨.mk k z s l,rfl,?_⟩;simp only [Val.wt,dq,wgL,wgD] at *;omega
end Go.Proofs.YtfifjddnnmfeoaaGreat
namespace Go.Proofs.YtfifjddnnmfeoaaGreat
open Go Go.RowKit Dv
def tyVS:List TypeId:=[45,43,9,3]
theorem tyVS_ok:∀ t∈tyVS,jw Tryz.prog tyVS t=true:=by
 have h:(tyVS.all fun t=>jw Tryz.prog tyVS t)=true:=by kernel_rfl
 exact fun t ht=>List.all_eq_true.1 h t ht
end Go.Proofs.YtfifjddnnmfeoaaGreat
set_option maxRecDepth 100000
namespace Go.Proofs.YtfifjddnnmfeoaaGreat
open Go Go.RowKit Dv Tryz
mutual
def sameV:Val->Val->Bool
 | .mk k n s ks,.mk k' n' s' Sb=>decide (k=k') && decide (n=n') && decide (s=s') && sameVs ks Sb
def sameVs:List Val->List Val->Bool
 | [],[]=>true
 | v :: r,w :: q=>sameV v w && sameVs r q
 | _,_=>false
end
theorem re:∀ {a b:List Val},a.length≠b.length->sameVs a b=false
 | [],[],h=>(h rfl).elim
 | v :: r,w :: q,h=>by rw [sameVs,re (a:=r) (b:=q) (by simpa using h),Bool.and_false]
 | [],_ :: _,_=>by simp [sameVs]
 | _ :: _,[],_=>by simp [sameVs]
mutual
theorem tO:∀ {a b:Val},sameV a b=true↔a=b
 | .mk k n s ks,.mk k' n' s' Sb=>by
  have:=@rf ks Sb;simp only [sameV,Bool.and_eq_true,decide_eq_true_eq,this,Val.mk.injEq,and_assoc]
theorem rf:∀ {a b:List Val},sameVs a b=true↔a=b
 | [],[]=>by simp [sameVs]
 | v :: r,w :: q=>by
  have h1:=@tO v w;have h2:=@rf r q;simp only [sameVs,Bool.and_eq_true,h1,h2,List.cons.injEq]
 | [],_ :: _=>by simp [sameVs]
 | _ :: _,[]=>by simp [sameVs]
end
theorem zO (v:Val):sameV v v=true:=tO.2 rfl
abbrev JF (a b:List Val) (g e:Nat):St:=
 ⟨[(1,⟨[],.sl 4 (dVals b) none⟩),(2,⟨[],.fn g [] []⟩),(15,⟨[],.sl 4 (dVals a) none⟩),(16,⟨[],.v (.int .i64 (dVals a).length)⟩),(17,⟨[],.v (.int .i64 e)⟩)],[],[]⟩
theorem xK (g:Nat) (jh:Enters Tryz.prog g) (a b:List Val) (hs:cw a<=1099511627776)
  (hF:∀ x∈a,∀ y,ba Tryz.prog g [.agg (cd x),.agg (cd y)] (.v (.bool (sameV x y)))) :
  ba Tryz.prog 66 [.sl 4 (dVals a) none,.sl 4 (dVals b) none,.fn g [] []] (.v (.bool (sameVs a b))):=by
 have LN:=dL a;have h1:=bH a;have h2:=bH b;refine ev_go (P:=Tryz.prog) tt tt_ok 5000 32 [.tmp 6] Tryz.func66 rfl Tryz.ntmps66 rfl (nL rfl) (fun E9 w9 hn9 hm9=>?_);refine br (fun h=>?_) (fun h=>?_)
 ·have aQ:a.length≠b.length:=by have:=h;simp [h1,h2] at this;omega
  exact congrArg (fun b=>DV.v (.bool b)) (re aQ).symm
 ·have hl:a.length=b.length:=by have:=h;simp [h1,h2] at this;omega
  refine bU (fun j st=>∃ e:Nat,st=JF a b g e/\e<=a.length/\sameVs a b=sameVs (a.drop e) (b.drop e)/\j=a.length - e) a.length
   (JF a b g 0) (aq ⟨_,rfl⟩ wA rfl rfl rfl wB) ⟨0,rfl,by omega,rfl,by omega⟩ ?_
  rintro j st ⟨e,rfl,he,bm,rfl⟩;refine br (fun h=>?_) (fun h=>?_)
  ·have au:e < a.length:=by simpa [h1] using h
   obtain ⟨x,hx⟩:∃ x,a[e]? = some x:=⟨_,gE au⟩;obtain ⟨y,hy⟩:∃ y,b[e]? = some y:=⟨_,gE (hl ▸ au)⟩;rw [drop_cons hx,drop_cons hy,sameVs] at bm;have J3:=hF x (mG hx) y;obtain ⟨xk,xn,xs,xl⟩:=x;obtain ⟨yk,yn,ys,yl⟩:=y;refine ⟨_,⟨by omega,cI hx⟩,?_⟩;refine ⟨_,⟨by omega,cI hy⟩,?_⟩;refine call_p jh J3 ax rfl ?_;refine br (fun h=>?_) (fun h=>?_)
   ·have aQ:sameV (.mk xk xn xs xl) (.mk yk yn ys yl)=false:=by simpa using h
    refine (congrArg (fun b=>DV.v (.bool b)) ?_:_=_);rw [bm,aQ,Bool.false_and]
   ·have aQ:sameV (.mk xk xn xs xl) (.mk yk yn ys yl)=true:=by simpa using h
    rw [aQ,Bool.true_and] at bm;exact ⟨JF a b g (e + 1),(aq ⟨_,rfl⟩ wA rfl rfl rfl (ah au)),a.length - (e + 1),by omega,e + 1,rfl,by omega,bm,rfl⟩
  ·have bI:e=a.length:=by have:=h;simp [h1] at this;omega
   rw [List.drop_of_length_le (by omega),List.drop_of_length_le (by omega)] at bm;refine (congrArg (fun b=>DV.v (.bool b)) ?_:_=_);rw [bm];simp [sameVs]
theorem ri:∀ (k:Nat) (a:Val),a.wt<=k->a.wt<=1099511627776->∀ b:Val,ba Tryz.prog 24 [.agg (cd a),.agg (cd b)] (.v (.bool (sameV a b)))
 | 0,v,h,_=>by have:=v.cT;omega
 | k + 1,.mk q n s ks,h,hb=>fun b=>by
  have ih:=ri k;rw [Val.wt] at h hb;obtain ⟨bk,bn,bs,bl⟩:=b
  have he:=xK 24 MP ks bl (by omega) fun x hx y=>by
   have:=cY hx;exact ih x (by omega) (by omega) y
  rw [sameV];refine ev_go (P:=Tryz.prog) tt tt_ok 5000 31 [.tmp 4] Tryz.func24 rfl Tryz.ntmps24 rfl (nL rfl) (fun E9 w9 hn9 hm9=>?_);refine br (fun c=>?_) (fun c=>?_)
  ·have c:pickB (pickB (decide (q=bk)) (decide (n=bn)) false) (decide (s=bs)) false=true:=by simpa using c
   refine call_p QT (he) ax rfl ?_;refine (congrArg (fun b=>DV.v (.bool b)) ?_:_=_);simp only [av] at c ⊢;rw [c]
  ·have c:pickB (pickB (decide (q=bk)) (decide (n=bn)) false) (decide (s=bs)) false=false:=by simpa using c
   refine (congrArg (fun b=>DV.v (.bool b)) ?_:_=_);simp only [av] at c ⊢;rw [c];all_goals rfl
def iO (n:Nd) (v:Val):Bool:=
 if 0 < v.ks.length∨(v.k≠3/\v.s≠ap)∨(v.k=3/\v.n≠0) then false
 else if n.ag=1 then decide (v.k=1) && (decide (v.n=0) || decide (v.n=1))
 else if n.ag=2 then decide (v.k=2) && decide (n.lo<=v.n) && decide (v.n<=n.hi)
 else if n.ag=3 then decide (v.k=3) && decide ((v.s.size:Int)<=n.most)
 else decide (v.k=4) && decide (0<=v.n) && decide (v.n < n.ae.length)
def cN (v:Val):Bool:=decide (v.s=ap) && (decide (v.n=0) || decide (v.k=8))
def to0 (n:Nd):Int:=match n.aD[0]? with | some e=>e.to | none=>0
def kr (n:Nd) (v:Val):Option Ed:=if v.k=8/\0<=v.n/\v.n < n.aD.length then n.aD[v.n.toNat]? else none
def kidsL (n:Nd) (v:Val):List Int:=
 if n.ag=5∨n.ag=6 then List.replicate v.ks.length (to0 n)
 else if n.ag=7 then n.aD.map Ed.to
 else match kr n v with | none=>[] | some e=>if e.bare=true then [] else [e.to]
def cF (n:Nd) (v:Val):Bool:=
 if n.ag=5∨n.ag=6 then cN v && decide (v.k=n.ag) && decide ((v.ks.length:Int)<=if n.ag=6 then 1 else n.most)
 else if n.ag=7 then cN v && decide (v.k=7) && decide (n.aD.length=v.ks.length)
 else match kr n v with | none=>false | some _=>cN v && decide ((kidsL n v).length=v.ks.length)
def ek (ND:List Nd) (i:Int):Option Nd:=if i < 0 then none else ND[i.toNat]?
mutual
def fitV (ND:List Nd):Val->Int->Bool
 | .mk k n s ks,i=>match ek ND i with
  | none=>false
  | some d=>if d.ag < 5 then iO d (.mk k n s ks) else cF d (.mk k n s ks) && fitVs ND ks (kidsL d (.mk k n s ks))
def fitVs (ND:List Nd):List Val->List Int->Bool
 | v :: r,i :: l=>fitV ND v i && fitVs ND r l
 | _,_=>true
end
def ni (l:List Int):List (List DV):=l.map fun z=>[DV.v (.int .i64 z)]
theorem jF (l:List Int):(ni l).length=l.length:=by simp [ni]
theorem jG {l:List Int} {i:Nat} {z:Int} (h:l[i]? = some z):(ni l)[i]? = some [DV.v (.int .i64 z)]:=by simp [ni,h]
theorem rj (l:List Int) (z:Int):ni l ++ [[DV.v (.int .i64 z)]]=ni (l ++ [z]):=by simp [ni]
theorem tP:(⟨#[]⟩:ByteArray)=ap:=rfl
theorem CJ (n:Nd) (v:Val):ba Tryz.prog 60 [.agg (jR n),.agg (cd v)] (.v (.bool (iO n v))):=by
 have hbl:=bg n.ae;obtain ⟨ag,bp,lo,hi,most,ae,es⟩:=n;obtain ⟨q,z,s,ks⟩:=v;have ed:=bH ks;simp only at hbl
 have hF:iO ⟨ag,bp,lo,hi,most,ae,es⟩ (.mk q z s ks)=if 0 < ks.length∨(q≠3/\s≠ap)∨(q=3/\z≠0) then false
  else if ag=1 then decide (q=1) && (decide (z=0) || decide (z=1))
  else if ag=2 then decide (q=2) && decide (lo<=z) && decide (z<=hi)
  else if ag=3 then decide (q=3) && decide ((s.size:Int)<=most)
  else decide (q=4) && decide (0<=z) && decide (z < ae.length):=rfl
 have hc:∀ b:Bool,b=pickB (pickB (decide (0 < ((dVals ks).length:Int))) true (pickB (!decide (q=3)) (!decide (s=⟨#[]⟩)) false)) true (pickB (decide (q=3)) (!decide (z=0)) false)->b=decide (0 < ks.length∨(q≠3/\s≠ap)∨(q=3/\z≠0)):=fun b h=>by
  rw [h,ed,tP,Bool.eq_iff_iff];simp [aA,av,or_assoc]
 rw [hF];refine ev_go (P:=Tryz.prog) tt tt_ok 5000 94 [.tmp 4] Tryz.func60 rfl Tryz.ntmps60 rfl (nL rfl) (fun E9 w9 hn9 hm9=>?_);refine br (fun c=>?_) (fun c=>?_)
 ·have c:=of_decide_eq_true ((hc _ rfl).symm.trans c);rw [if_pos c];exact (rfl:_=_)
 have c:=of_decide_eq_false ((hc _ rfl).symm.trans c);rw [if_neg c];refine br (fun c1=>?_) (fun c1=>?_)
 ·have c1:ag=1:=by simpa using c1
  refine (congrArg (fun b=>DV.v (.bool b)) ?_:_=_);simp [c1,av,aA]
 have c1:¬ ag=1:=by simpa using c1
 refine br (fun c2=>?_) (fun c2=>?_)
 ·have c2:ag=2:=by simpa using c2
  refine (congrArg (fun b=>DV.v (.bool b)) ?_:_=_);simp [c2,av,aA]
 have c2:¬ ag=2:=by simpa using c2
 refine br (fun c3=>?_) (fun c3=>?_)
 ·have c3:ag=3:=by simpa using c3
  refine (congrArg (fun b=>DV.v (.bool b)) ?_:_=_);simp [c3,av,aA]
 have c3:¬ ag=3:=by simpa using c3
 refine (congrArg (fun b=>DV.v (.bool b)) ?_:_=_);simp [c1,c2,c3,av,aA,hbl]
abbrev JG (n:Nd) (v:Val) (l:List Int) (p:Bool) (kd mo:Int) (q e:Nat):St:=
 ⟨[(2,⟨[],.loc 0 0⟩),(3,⟨[],.loc 1 0⟩),(6,⟨[],.sl 1 (ni l) (some 0)⟩),(7,⟨[],.v (.bool p)⟩),(8,⟨[],.v (.int .i64 kd)⟩),(9,⟨[],.v (.int .i64 mo)⟩),(38,⟨[],.v (.int .i64 v.ks.length)⟩),(39,⟨[],.v (.int .i64 e)⟩)],[jR n,cd v],[⟨q,3,1,none⟩]⟩
abbrev OO (n:Nd) (v:Val) (l:List Int) (p:Bool) (q e:Nat):St:=
 ⟨[(2,⟨[],.loc 0 0⟩),(3,⟨[],.loc 1 0⟩),(6,⟨[],.sl 1 (ni l) (some 0)⟩),(7,⟨[],.v (.bool p)⟩),(67,⟨[],.sl 10 (fy n.aD) none⟩),(68,⟨[],.v (.int .i64 (fy n.aD).length)⟩),(69,⟨[],.v (.int .i64 e)⟩)],[jR n,cd v],[⟨q,3,1,none⟩]⟩
theorem kS {L N:Nat} {n:Nd} (hn:n5 L N n) (h5:5<=n.ag) (v:Val) (hv:v.wt<=1099511627776) :
  ba Tryz.prog 61 [.agg (jR n),.agg (cd v)] (.dV [.sl 1 (ni (kidsL n v)) none,.v (.bool (cF n v))]):=by
 have GC:=hn.k8;have vi:=hn.one;have xL:=hn.many;obtain ⟨ag,bp,lo,hi,most,ae,es⟩:=n;obtain ⟨q,z,s,ks⟩:=v;have ed:=bH ks;have ly:=cK es;have gZ:=dL ks;rw [Val.wt] at hv;simp only at GC h5 vi xL
 have hp:∀ b:Bool,b=pickB (decide (s=⟨#[]⟩)) (pickB (decide (z=0)) true (decide (q=8))) false->b=cN (.mk q z s ks):=fun b h=>by
  rw [h];rw [av,aA,tP];all_goals rfl
 refine ev_go (P:=Tryz.prog) tt tt_ok 5000 134 [.tmp 4,.tmp 5] Tryz.func61 rfl Tryz.ntmps61 rfl (nL rfl) (fun E9 w9 hn9 hm9=>?_);refine br (fun c=>?_) (fun c=>?_)
 ·have c:ag=5:=by simpa using c
  have Lr:ag=5∨ag=6:=.inl c;obtain ⟨x,ie,_,_⟩:=vi Lr;refine br (fun _=>?_) (fun h=>absurd h (by simp [c]));refine Av (fun _=>false) mo (by decide +kernel) ?_;refine br (fun h=>absurd h (by simp [c])) (fun _=>?_);obtain ⟨kd,mo,h1,h2,h3,h4⟩:∃ kd mo:Int,5=kd/\most=mo/\kd=ag/\mo=(if ag=6 then 1 else most):=⟨5,most,rfl,rfl,c.symm,by rw [if_neg (by omega)]⟩;have vR:(fy es)[0]? = some (Fi x):=by rw [ie];all_goals rfl
  have ht0:to0 ⟨ag,bp,lo,hi,most,ae,es⟩=x.to:=by simp [to0,ie]
  refine bU (fun j st=>∃ e:Nat,st=JG ⟨ag,bp,lo,hi,most,ae,es⟩ (.mk q z s ks) (List.replicate e x.to) (cN (.mk q z s ks)) kd mo e e/\e<=ks.length/\j=ks.length - e) ks.length (JG ⟨ag,bp,lo,hi,most,ae,es⟩ (.mk q z s ks) [] (cN (.mk q z s ks)) kd mo 0 0) (dn 2 ⟨0,3,1,none⟩ rfl rfl rfl (by repeat' (first | exact rfl | exact aw rfl | exact cj (hp _ rfl) | exact ay h1 | exact ay h2 | exact ay (congrArg Nat.cast ed) | exact bQ (Nat.le_refl _) rfl | exact bQ (Nat.le_refl _) rfl | refine ⟨_,_,rfl,?_,?_⟩)) rfl rfl (by repeat' (first | exact trivial | exact aw rfl | exact cj (hp _ rfl) | exact ay h1 | exact ay h2 | exact ay (congrArg Nat.cast ed) | exact bQ (Nat.le_refl _) rfl | refine ⟨⟨_,rfl,?_⟩,?_⟩))) ⟨0,rfl,by omega,by omega⟩ ?_;rintro j st ⟨e,rfl,he,rfl⟩;refine br (fun hL=>?_) (fun hL=>?_)
  ·have au:e < ks.length:=by have:=hL;simp [Val.ks] at this;exact this
   have jN:(ni (List.replicate e x.to)).length=e:=by rw [jF,List.length_replicate]
   have eQ:ni (List.replicate e x.to) ++ [[DV.v (.int .i64 x.to)]]=ni (List.replicate (e + 1) x.to):=by rw [rj,List.replicate_succ']
   refine ⟨_,⟨by omega,vR⟩,?_⟩;refine ⟨jN,⟨by rw [jN];simp [maxLen];omega,by rw [jN];simp;omega⟩,?_⟩;exact ⟨JG ⟨ag,bp,lo,hi,most,ae,es⟩ (.mk q z s ks) (List.replicate (e + 1) x.to) (cN (.mk q z s ks)) kd mo (e + 1) (e + 1),(aS 2 rfl (aK au eQ) rfl rfl rfl (aj au eQ)),ks.length - (e + 1),by omega,e + 1,rfl,by omega,rfl⟩
  ·have bI:e=ks.length:=by have:=hL;simp [Val.ks] at this;omega
   subst bI;have sc:kidsL ⟨ag,bp,lo,hi,most,ae,es⟩ (.mk q z s ks)=List.replicate ks.length x.to:=by unfold kidsL;rw [if_pos Lr,ht0];all_goals rfl
   have jN:(ni (List.replicate ks.length x.to)).length=ks.length:=by rw [jF,List.length_replicate]
   have hB:pickB (pickB (cN (.mk q z s ks)) (decide (q=kd)) false) (decide (((ni (List.replicate ks.length x.to)).length:Int)<=mo)) false=cF ⟨ag,bp,lo,hi,most,ae,es⟩ (.mk q z s ks):=by
    rw [jN,h3,h4,av,av];unfold cF;rw [if_pos Lr];rfl
   rw [sc];exact ⟨_,(aB hB),rfl⟩
 have c5:¬ ag=5:=by simpa using c
 refine br (fun c=>?_) (fun c=>?_)
 ·have c:ag=6:=by simpa using c
  have Lr:ag=5∨ag=6:=.inr c;obtain ⟨x,ie,_,_⟩:=vi Lr;refine Av (fun _=>false) mo (by decide +kernel) ?_;refine br (fun _=>?_) (fun h=>absurd h (by simp [c]));obtain ⟨kd,mo,h1,h2,h3,h4⟩:∃ kd mo:Int,6=kd/\1=mo/\kd=ag/\mo=(if ag=6 then 1 else most):=⟨6,1,rfl,rfl,c.symm,by rw [if_pos c]⟩;have vR:(fy es)[0]? = some (Fi x):=by rw [ie];all_goals rfl
  have ht0:to0 ⟨ag,bp,lo,hi,most,ae,es⟩=x.to:=by simp [to0,ie]
  refine bU (fun j st=>∃ e:Nat,st=JG ⟨ag,bp,lo,hi,most,ae,es⟩ (.mk q z s ks) (List.replicate e x.to) (cN (.mk q z s ks)) kd mo e e/\e<=ks.length/\j=ks.length - e) ks.length (JG ⟨ag,bp,lo,hi,most,ae,es⟩ (.mk q z s ks) [] (cN (.mk q z s ks)) kd mo 0 0) (dn 2 ⟨0,3,1,none⟩ rfl rfl rfl (by repeat' (first | exact rfl | exact aw rfl | exact cj (hp _ rfl) | exact ay h1 | exact ay h2 | exact ay (congrArg Nat.cast ed) | exact bQ (Nat.le_refl _) rfl | exact bQ (Nat.le_refl _) rfl | refine ⟨_,_,rfl,?_,?_⟩)) rfl rfl (by repeat' (first | exact trivial | exact aw rfl | exact cj (hp _ rfl) | exact ay h1 | exact ay h2 | exact ay (congrArg Nat.cast ed) | exact bQ (Nat.le_refl _) rfl | refine ⟨⟨_,rfl,?_⟩,?_⟩))) ⟨0,rfl,by omega,by omega⟩ ?_;rintro j st ⟨e,rfl,he,rfl⟩;refine br (fun hL=>?_) (fun hL=>?_)
  ·have au:e < ks.length:=by have:=hL;simp [Val.ks] at this;exact this
   have jN:(ni (List.replicate e x.to)).length=e:=by rw [jF,List.length_replicate]
   have eQ:ni (List.replicate e x.to) ++ [[DV.v (.int .i64 x.to)]]=ni (List.replicate (e + 1) x.to):=by rw [rj,List.replicate_succ']
   refine ⟨_,⟨by omega,vR⟩,?_⟩;refine ⟨jN,⟨by rw [jN];simp [maxLen];omega,by rw [jN];simp;omega⟩,?_⟩;exact ⟨JG ⟨ag,bp,lo,hi,most,ae,es⟩ (.mk q z s ks) (List.replicate (e + 1) x.to) (cN (.mk q z s ks)) kd mo (e + 1) (e + 1),(aS 2 rfl (aK au eQ) rfl rfl rfl (aj au eQ)),ks.length - (e + 1),by omega,e + 1,rfl,by omega,rfl⟩
  ·have bI:e=ks.length:=by have:=hL;simp [Val.ks] at this;omega
   subst bI;have sc:kidsL ⟨ag,bp,lo,hi,most,ae,es⟩ (.mk q z s ks)=List.replicate ks.length x.to:=by unfold kidsL;rw [if_pos Lr,ht0];all_goals rfl
   have jN:(ni (List.replicate ks.length x.to)).length=ks.length:=by rw [jF,List.length_replicate]
   have hB:pickB (pickB (cN (.mk q z s ks)) (decide (q=kd)) false) (decide (((ni (List.replicate ks.length x.to)).length:Int)<=mo)) false=cF ⟨ag,bp,lo,hi,most,ae,es⟩ (.mk q z s ks):=by
    rw [jN,h3,h4,av,av];unfold cF;rw [if_pos Lr];rfl
   rw [sc];exact ⟨_,(aB hB),rfl⟩
 have c6:¬ ag=6:=by simpa using c
 obtain ⟨Sc,hm8,_,_⟩:=xL (by omega);refine br (fun c=>?_) (fun c=>?_)
 ·have c7:ag=7:=by simpa using c
  refine bU (fun j st=>∃ e:Nat,st=OO ⟨ag,bp,lo,hi,most,ae,es⟩ (.mk q z s ks) ((es.take e).map Ed.to) (cN (.mk q z s ks)) e e/\e<=es.length/\j=es.length - e) es.length (OO ⟨ag,bp,lo,hi,most,ae,es⟩ (.mk q z s ks) [] (cN (.mk q z s ks)) 0 0) (dn 2 ⟨0,3,1,none⟩ rfl rfl rfl (by repeat' (first | exact rfl | exact aw rfl | exact cj (hp _ rfl) | exact bQ (Nat.le_refl _) rfl | exact bQ (Nat.le_refl _) rfl | refine ⟨_,_,rfl,?_,?_⟩)) rfl rfl (by repeat' (first | exact trivial | exact aw rfl | exact cj (hp _ rfl) | exact bQ (Nat.le_refl _) rfl | refine ⟨⟨_,rfl,?_⟩,?_⟩))) ⟨0,rfl,by omega,by omega⟩ ?_;rintro j st ⟨e,rfl,he,rfl⟩;refine br (fun hL=>?_) (fun hL=>?_)
  ·have au:e < es.length:=by have:=hL;simp [ly] at this;exact this
   obtain ⟨x,hx⟩:∃ x,es[e]? = some x:=⟨_,gE au⟩;have jN:(ni ((es.take e).map Ed.to)).length=e:=by rw [jF,List.length_map,List.length_take];omega
   have eQ:ni ((es.take e).map Ed.to) ++ [[DV.v (.int .i64 x.to)]]=ni ((es.take (e + 1)).map Ed.to):=by rw [rj,gA hx,List.map_append];all_goals rfl
   refine ⟨_,⟨by omega,cX hx⟩,?_⟩;refine ⟨jN,⟨by rw [jN];simp [maxLen];omega,by rw [jN];simp;omega⟩,?_⟩;exact ⟨OO ⟨ag,bp,lo,hi,most,ae,es⟩ (.mk q z s ks) ((es.take (e + 1)).map Ed.to) (cN (.mk q z s ks)) (e + 1) (e + 1),(aS 2 rfl (aK au eQ) rfl rfl rfl (aj au eQ)),es.length - (e + 1),by omega,e + 1,rfl,by omega,rfl⟩
  ·have bI:e=es.length:=by have:=hL;simp [ly] at this;omega
   subst bI;rw [List.take_length];have sc:kidsL ⟨ag,bp,lo,hi,most,ae,es⟩ (.mk q z s ks)=es.map Ed.to:=by unfold kidsL;rw [if_neg (by simp only;omega),if_pos c7]
   have jN:(ni (es.map Ed.to)).length=es.length:=by rw [jF,List.length_map]
   have hB:pickB (pickB (cN (.mk q z s ks)) (decide (q=7)) false) (decide (((ni (es.map Ed.to)).length:Int)=((dVals ks).length:Int))) false=cF ⟨ag,bp,lo,hi,most,ae,es⟩ (.mk q z s ks):=by
    rw [jN,ed,av,av];unfold cF;rw [if_neg (by simp only;omega),if_pos c7];have:((es.length:Int)=(ks.length:Int))↔es.length=ks.length:=by omega
    simp only [this,Val.k,Val.ks];rfl
   rw [sc];refine Av (fun _=>false) mo (by decide +kernel) ?_;exact ⟨_,(aB hB),rfl⟩
 have c7:¬ ag=7:=by simpa using c
 have sc:kidsL ⟨ag,bp,lo,hi,most,ae,es⟩ (.mk q z s ks)=(match kr ⟨ag,bp,lo,hi,most,ae,es⟩ (.mk q z s ks) with | none=>[] | some e=>if e.bare=true then [] else [e.to]):=by unfold kidsL;rw [if_neg (by simp only;omega),if_neg c7];all_goals rfl
 have H3:cF ⟨ag,bp,lo,hi,most,ae,es⟩ (.mk q z s ks)=(match kr ⟨ag,bp,lo,hi,most,ae,es⟩ (.mk q z s ks) with | none=>false | some _=>cN (.mk q z s ks) && decide ((kidsL ⟨ag,bp,lo,hi,most,ae,es⟩ (.mk q z s ks)).length=ks.length)):=by unfold cF;rw [if_neg (by simp only;omega),if_neg c7];all_goals rfl
 have hc:∀ b:Bool,b=pickB (pickB (!decide (q=8)) true (decide (z < 0))) true (decide (((fy es).length:Int)<=z))->b = !decide (q=8/\0<=z/\z < es.length):=fun b h=>by
  rw [h,ly,aA,aA,Bool.eq_iff_iff];simp;omega
 refine br (fun c=>?_) (fun c=>?_)
 ·have c:¬ (q=8/\0<=z/\z < es.length):=by have:=(hc _ rfl).symm.trans c;simpa only [Bool.not_eq_true',decide_eq_false_iff_not] using this
  have ht:kr ⟨ag,bp,lo,hi,most,ae,es⟩ (.mk q z s ks)=none:=by show (if q=8/\0<=z/\z < es.length then es[z.toNat]? else none)=_;rw [if_neg c]
  rw [H3,sc,ht];exact ⟨_,ax,rfl⟩
 ·have c:q=8/\0<=z/\z < es.length:=by have:=(hc _ rfl).symm.trans c;simpa only [Bool.not_eq_false',decide_eq_true_eq] using this
  obtain ⟨x,hx⟩:∃ x,es[z.toNat]? = some x:=⟨_,gE (by omega)⟩;have ht:kr ⟨ag,bp,lo,hi,most,ae,es⟩ (.mk q z s ks)=some x:=by show (if q=8/\0<=z/\z < es.length then es[z.toNat]? else none)=_;rw [if_pos c];exact hx
  rw [ht] at H3 sc;refine ⟨_,⟨by omega,cX hx⟩,?_⟩;refine br (fun hb=>?_) (fun hb=>?_)
  ·have hb:x.bare=false:=by simpa using hb
   have FQ:kidsL ⟨ag,bp,lo,hi,most,ae,es⟩ (.mk q z s ks)=[x.to]:=by rw [sc];simp [hb]
   have hB:pickB (cN (.mk q z s ks)) (decide ((1:Int)=((dVals ks).length:Int))) false=cF ⟨ag,bp,lo,hi,most,ae,es⟩ (.mk q z s ks):=by
    rw [H3,FQ,ed,av];have:((1:Int)=(ks.length:Int)) ↔ [x.to].length=ks.length:=by simp;omega
    simp only [this]
   rw [FQ,<- hB];refine ⟨⟨by simp [maxLen],by simp⟩,?_⟩;refine Av (fun _=>false) mo (by decide +kernel) ?_;exact ⟨_,(by repeat' (first | exact rfl | exact trivial | exact Or.inr (Or.inl ⟨_,rfl⟩) | exact Or.inr ⟨_,rfl⟩ | exact Or.inl ⟨rfl,rfl⟩ | exact Or.inl rfl | refine Or.inr ⟨_,_,rfl,Nat.zero_le _,rfl,?_⟩ | refine ⟨_,_,rfl,?_,?_⟩ | refine ⟨_,rfl,?_⟩ | exact congrArg (fun b=>DV.v (.bool (pickB b _ false))) (hp _ rfl) | refine Or.inr (Or.inr (Or.inr ⟨_,_,rfl,?_⟩)) | exact Or.inl rfl | refine Or.inr ?_)),rfl⟩
  ·have hb:x.bare=true:=by simpa using hb
   have FQ:kidsL ⟨ag,bp,lo,hi,most,ae,es⟩ (.mk q z s ks)=[]:=by rw [sc];simp [hb]
   have hB:pickB (cN (.mk q z s ks)) (decide ((0:Int)=((dVals ks).length:Int))) false=cF ⟨ag,bp,lo,hi,most,ae,es⟩ (.mk q z s ks):=by
    rw [H3,FQ,ed,av];have:((0:Int)=(ks.length:Int))↔([]:List Int).length=ks.length:=by simp;omega
    simp only [this]
   rw [FQ,<- hB];refine Av (fun _=>false) mo (by decide +kernel) ?_;exact ⟨_,(by repeat' (first | exact rfl | exact trivial | exact Or.inr (Or.inl ⟨_,rfl⟩) | exact Or.inr ⟨_,rfl⟩ | exact Or.inl ⟨rfl,rfl⟩ | exact Or.inl rfl | refine Or.inr ⟨_,_,rfl,Nat.zero_le _,rfl,?_⟩ | refine ⟨_,_,rfl,?_,?_⟩ | refine ⟨_,rfl,?_⟩ | exact congrArg (fun b=>DV.v (.bool (pickB b _ false))) (hp _ rfl) | refine Or.inr (Or.inr (Or.inr ⟨_,_,rfl,?_⟩)) | exact Or.inl rfl | refine Or.inr ?_)),rfl⟩
theorem n8 {n:Nd} {v:Val} (hk:5<=n.ag) (h:cF n v=true):(kidsL n v).length=v.ks.length:=by
 unfold cF at h;by_cases c:n.ag=5∨n.ag=6
 ·unfold kidsL;rw [if_pos c];simp
 rw [if_neg c] at h;by_cases c7:n.ag=7
 ·rw [if_pos c7] at h;unfold kidsL;rw [if_neg c,if_pos c7,List.length_map];simp at h;exact h.2
 rw [if_neg c7] at h
 cases ht:kr n v with
 | none=>rw [ht] at h;cases h
 | some e=>rw [ht] at h;simp only [Bool.and_eq_true,decide_eq_true_eq] at h;exact h.2
theorem zP {ND:List Nd} {ks:List Val} {l:List Int} {e:Nat} {x:Val} {i:Int} (h1:ks[e]? = some x) (h2:l[e]? = some i):fitVs ND (ks.drop e) (l.drop e)=(fitV ND x i && fitVs ND (ks.drop (e + 1)) (l.drop (e + 1))):=by
 rw [drop_cons h1,drop_cons h2,fitVs]
theorem bT {ND:List Nd} {i:Int} {d:Nd} (h:ek ND i=some d):0<=i/\ND[i.toNat]? = some d:=by
 unfold ek at h;split at h
 ·cases h
 ·exact ⟨by omega,h⟩
theorem rm {ND:List Nd} {i:Int} (h:ek ND i=none):i < 0∨(ND.length:Int)<=i:=by
 unfold ek at h;split at h
 ·left;assumption
 ·right;have:=List.getElem?_eq_none_iff.1 h;omega
abbrev Sd (PC:List DV) (v:Val) (l:List Int) (e:Nat):St:=
 ⟨[(0,⟨[],.pt PC 0⟩),(5,⟨[],.loc 0 0⟩),(36,⟨[],.sl 1 (ni l) none⟩),(37,⟨[],.v (.int .i64 l.length)⟩),(38,⟨[],.v (.int .i64 e)⟩)],[cd v],[]⟩
theorem fA {S:Sch} {ND:List Nd} {PC:List DV} (hP:lm S ND PC):∀ (k:Nat) (v:Val),v.wt<=k->v.wt<=1099511627776->∀ i:Int,ba Tryz.prog 20 [.pt PC 0,.v (.int .i64 i),.agg (cd v)] (.v (.bool (fitV ND v i)))
 | 0,v,h,_=>by have:=v.cT;omega
 | k + 1,.mk q z s ks,h,hb=>fun i=>by
  have ih:=fA hP k;have gZ:=dL ks;have ed:=bH ks;have dY:=hb;rw [Val.wt] at h hb;rw [fitV];have dy:=hP.ai;have zQ:=hP.FO;have dh:=hP.ok
  cases hd:ek ND i with
  | none=>
   refine ev_go (P:=Tryz.prog) tt tt_ok 5000 53 [.tmp 6] Tryz.func20 rfl Tryz.ntmps20 rfl (nL rfl) (fun E9 w9 hn9 hm9=>?_);refine call_p mB (zQ i (rm hd)) ax rfl ?_;exact (rfl:_=_)
  | some d=>
   obtain ⟨h0,hg⟩:=bT hd;obtain ⟨j,rfl⟩:∃ j:Nat,i=j:=⟨i.toNat,by omega⟩;have hg:ND[j]? = some d:=by simpa using hg
   have hN:=dh d (mG hg);have LY:=CJ d (.mk q z s ks);have sa:=fun h5=>kS hN h5 (.mk q z s ks) dY;have hlen:=fun h5=>n8 (n:=d) (v:=.mk q z s ks) h5;simp only;obtain ⟨ag,bp,lo,hi,most,ae,es⟩:=d;simp only at sa hlen;refine ev_go (P:=Tryz.prog) tt tt_ok 5000 53 [.tmp 6] Tryz.func20 rfl Tryz.ntmps20 rfl (nL rfl) (fun E9 w9 hn9 hm9=>?_);refine call_p mB (dy j _ hg) ax rfl ?_;refine br (fun c=>?_) (fun c=>?_)
   ·have c:ag < 5:=by simpa using c
    rw [if_pos c];refine call_p QR (LY) ax rfl ?_;exact (rfl:_=_)
   have c:¬ ag < 5:=by simpa using c
   rw [if_neg c];have sa:=sa (by omega);have hlen:=hlen (by omega);generalize kidsL ⟨ag,bp,lo,hi,most,ae,es⟩ (.mk q z s ks)=l at sa hlen ⊢;have hzl:=jF l;refine call_p Hj (sa) ax rfl ?_
   cases hB:cF ⟨ag,bp,lo,hi,most,ae,es⟩ (.mk q z s ks) with
   | false=>
    exact (rfl:_=_)
   | true=>
    have hlen:l.length=ks.length:=hlen hB;rw [Bool.true_and];refine bU (fun j st=>∃ e:Nat,st=Sd PC (.mk q z s ks) l e/\e<=l.length/\fitVs ND ks l=fitVs ND (ks.drop e) (l.drop e)/\j=l.length - e) l.length (Sd PC (.mk q z s ks) l 0) (aq ⟨_,rfl⟩ wA rfl rfl rfl (by repeat' (first | exact trivial | exact aw rfl | exact ay (congrArg Nat.cast hzl) | refine ⟨⟨_,rfl,?_⟩,?_⟩))) ⟨0,rfl,by omega,rfl,by omega⟩ ?_;rintro _ st ⟨e,rfl,he,bm,rfl⟩;refine br (fun hL=>?_) (fun hL=>?_)
    ·have au:e < l.length:=by have:=hL;simp at this;exact this
     obtain ⟨x,hx⟩:∃ x,ks[e]? = some x:=⟨_,gE (by omega)⟩;obtain ⟨y,hy⟩:∃ y,l[e]? = some y:=⟨_,gE au⟩;have Fh:=cY (mG hx);rw [zP hx hy] at bm;have eP:=ih x (by omega) (by omega) y;obtain ⟨xk,xn,xs,xl⟩:=x;refine ⟨_,⟨by omega,jG hy⟩,?_⟩;refine ⟨_,⟨by omega,cI hx⟩,?_⟩;refine call_p yQ (eP) ax rfl ?_;refine br (fun g=>?_) (fun g=>?_)
     ·have g:fitV ND (.mk xk xn xs xl) y=false:=by simpa using g
      rw [bm,g];exact (rfl:_=_)
     ·have g:fitV ND (.mk xk xn xs xl) y=true:=by simpa using g
      rw [g,Bool.true_and] at bm;exact ⟨Sd PC (.mk q z s ks) l (e + 1),(aq ⟨_,rfl⟩ wA rfl rfl rfl (ah au)),l.length - (e + 1),by omega,e + 1,rfl,by omega,bm,rfl⟩
    ·have bI:e=l.length:=by have:=hL;simp at this;omega
     rw [List.drop_of_length_le (by omega),List.drop_of_length_le (by omega)] at bm;rw [bm];exact (rfl:_=_)
inductive Rw where
 | mk (k bp n:Int) (s:ByteArray) (keys:List Wd) (ks:List Rw)
mutual
def dRw:Rw->List DV
 | .mk k a n s keys ks=>[.v (.int .i64 k),.v (.int .i64 a),.v (.int .i64 n),.v (.string s),.sl 2 (bJ keys) none,.sl 6 (dRws ks) none]
def dRws:List Rw->List (List DV)
 | []=>[]
 | v :: r=>dRw v :: dRws r
end
theorem iP:∀ l:List Rw,dRws l=l.map dRw
 | []=>rfl
 | v :: r=>by rw [dRws,iP r];all_goals rfl
theorem gY (l:List Rw):(dRws l).length=l.length:=by rw [iP,List.length_map]
theorem rr {l:List Rw} {e:Nat} {x:Rw} (h:l[e]? = some x):(dRws l)[e]? = some (dRw x):=by rw [iP,List.getElem?_map,h];all_goals rfl
theorem tQ (l:List Rw) (x:Rw):dRws l ++ [dRw x]=dRws (l ++ [x]):=by rw [iP,iP];simp
mutual
def ku:Rw->Nat
 | .mk _ _ _ _ _ ks=>1 + gg ks
def gg:List Rw->Nat
 | []=>0
 | v :: r=>ku v + gg r
end
theorem ru:∀ r:Rw,1<=ku r
 | .mk _ _ _ _ _ _=>by rw [ku];omega
theorem kT:∀ {l:List Rw} {x:Rw},x∈l->ku x<=gg l
 | v :: r,x,h=>by
  rcases List.mem_cons.1 h with rfl | h
  ·rw [gg];omega
  ·have:=kT h;rw [gg];omega
def ln:ByteArray:=⟨#[116,114,117,101]⟩
def jH:ByteArray:=⟨#[102,97,108,115,101]⟩
def mY:ByteArray:=⟨#[115,111,109,101]⟩
def mZ:ByteArray:=⟨#[110,111,110,101]⟩
def zR (d:Nd) (v:Val):ByteArray:=match kr d v with | some e=>e.name | none=>ap
def A5 (d:Nd) (v:Val) (rs:List Rw):Rw:=
 if v.k=1 then .mk 1 0 0 (if v.n=1 then ln else jH) [] []
 else if v.k=2 then .mk 2 0 v.n ap [] []
 else if v.k=3 then .mk 3 0 0 v.s [] []
 else if v.k=4 then .mk 1 0 0 (d.ae[v.n.toNat]?.getD ap) [] []
 else if v.k=5 then .mk 4 0 0 ap [] rs
 else if v.k=7 then .mk 5 0 0 ap (d.aD.map fun e=>⟨e.name,0⟩) rs
 else .mk (if 0 < v.ks.length then 6 else 1) 0 0 (if v.k=8 then zR d v else if 0 < v.ks.length then mY else mZ) [] rs
mutual
def rawV (ND:List Nd):Val->Int->Rw
 | .mk k n s ks,i=>match ek ND i with
  | none=>.mk 0 0 0 ap [] []
  | some d=>A5 d (.mk k n s ks) (rawVs ND ks (kidsL d (.mk k n s ks)))
def rawVs (ND:List Nd):List Val->List Int->List Rw
 | v :: r,i :: l=>rawV ND v i :: rawVs ND r l
 | _,_=>[]
end
theorem iQ (ND:List Nd):∀ (ks:List Val) (l:List Int),l.length=ks.length->(rawVs ND ks l).length=ks.length
 | [],[],_=>rfl
 | v :: r,i :: l,h=>by rw [rawVs,List.length_cons,iQ ND r l (by simpa using h)];all_goals rfl
 | [],_ :: _,h=>by simp at h
 | _ :: _,[],h=>by simp at h
theorem ry {ND:List Nd}:∀ {ks:List Val} {l:List Int} {e:Nat} {x:Val} {i:Int},ks[e]? = some x->l[e]? = some i->rawVs ND (ks.take (e + 1)) (l.take (e + 1))=rawVs ND (ks.take e) (l.take e) ++ [rawV ND x i]
 | [],_,e,x,i,h,_=>by simp at h
 | _ :: _,[],e,x,i,_,h=>by simp at h
 | v :: r,j :: l,0,x,i,h1,h2=>by
  simp only [List.getElem?_cons_zero,oI] at h1 h2;subst h1 h2;simp [rawVs]
 | v :: r,j :: l,e + 1,x,i,h1,h2=>by
  simp only [List.getElem?_cons_succ] at h1 h2;simp only [List.take_succ_cons,rawVs,List.cons_append];rw [ry h1 h2]
structure FR (ND:List Nd) (v:Val) (i:Int) (d:Nd):Prop where
 ai:ek ND i=some d
 k:v.k=d.ag
 leaf:d.ag < 5->v.ks=[]
 enum:d.ag=4->0<=v.n/\v.n < d.ae.length
 kids:5<=d.ag->(kidsL d v).length=v.ks.length/\fitVs ND v.ks (kidsL d v)=true
 tag:d.ag=8->∃ e,kr d v=some e/\d.aD[v.n.toNat]? = some e/\0<=v.n/\v.n < d.aD.length/\(e.bare=true↔v.ks=[])
 opt:d.ag=6->v.ks.length<=1
theorem gB {L:Nat} {ND:List Nd} (dh:∀ n∈ND,n5 L ND.length n) {v:Val} {i:Int} (h:fitV ND v i=true):∃ d,FR ND v i d:=by
 obtain ⟨k,n,s,ks⟩:=v;rw [fitV] at h
 cases hd:ek ND i with
 | none=>rw [hd] at h;cases h
 | some d=>
  rw [hd] at h;simp only at h;have hN:=dh d (mG (bT hd).2);have gO:=hN.k1;have GC:=hN.k8;by_cases h5:d.ag < 5
  ·rw [if_pos h5] at h;unfold iO at h;by_cases hc:0 < (Val.mk k n s ks).ks.length∨((Val.mk k n s ks).k≠3/\(Val.mk k n s ks).s≠ap)∨((Val.mk k n s ks).k=3/\(Val.mk k n s ks).n≠0)
   ·rw [if_pos hc] at h;cases h
   rw [if_neg hc] at h
   have Ls:ks=[]:=by
    cases ks with
    | nil=>rfl
    | cons a b=>exact (hc (.inl (by simp [Val.ks]))).elim
   have hk:k=d.ag/\(d.ag=4->0<=n/\n < d.ae.length):=by
    rcases (show d.ag=1∨d.ag=2∨d.ag=3∨d.ag=4 by omega) with c | c | c | c
    all_goals
     simp [c,Val.k,Val.n] at h;simp only [c];constructor
     ·first | exact of_decide_eq_true h.1 | exact of_decide_eq_true h.1.1
     ·first | (intro;omega) | exact fun _=>⟨of_decide_eq_true h.1.2,of_decide_eq_true h.2⟩
   exact ⟨d,{ ai:=hd,k:=hk.1,leaf:=fun _=>Ls,enum:=hk.2,kids:=fun h=>by omega,tag:=fun h=>by omega,opt:=fun h=>by omega }⟩
  ·rw [if_neg h5,Bool.and_eq_true] at h;obtain ⟨hB,hf⟩:=h;have hlen:=n8 (by omega) hB;have hB2:=hB;unfold cF at hB;by_cases c:d.ag=5∨d.ag=6
   ·rw [if_pos c] at hB;simp only [Bool.and_eq_true,decide_eq_true_eq] at hB;exact ⟨d,{ ai:=hd,k:=hB.1.2,leaf:=fun h=>by omega,enum:=fun h=>by omega,kids:=fun _=>⟨hlen,hf⟩,tag:=fun h=>by omega,opt:=fun h=>by have:=hB.2;rw [if_pos h] at this;omega }⟩
   rw [if_neg c] at hB;by_cases c7:d.ag=7
   ·rw [if_pos c7] at hB;simp only [Bool.and_eq_true,decide_eq_true_eq] at hB;exact ⟨d,{ ai:=hd,k:=by rw [c7];exact hB.1.2,leaf:=fun h=>by omega,enum:=fun h=>by omega,kids:=fun _=>⟨hlen,hf⟩,tag:=fun h=>by omega,opt:=fun h=>by omega }⟩
   rw [if_neg c7] at hB
   cases ht:kr d (.mk k n s ks) with
   | none=>rw [ht] at hB;cases hB
   | some e=>
    have ht2:=ht;unfold kr at ht2;split at ht2
    ·rename_i hr;have gZ:kidsL d (.mk k n s ks)=if e.bare=true then [] else [e.to]:=by unfold kidsL;rw [if_neg c,if_neg c7,ht]
     refine ⟨d,{ ai:=hd,k:=by have:=hr.1;omega,leaf:=fun h=>by omega,enum:=fun h=>by omega,kids:=fun _=>⟨hlen,hf⟩,tag:=fun _=>⟨e,ht,ht2,hr.2.1,hr.2.2,?_⟩,opt:=fun h=>by omega }⟩;rw [gZ] at hlen;constructor
     ·intro hb;rw [if_pos hb] at hlen;exact List.eq_nil_of_length_eq_zero hlen.symm
     ·intro Ls;rw [Ls] at hlen;cases hb:e.bare
      ·rw [hb] at hlen;simp at hlen
      ·rfl
    ·cases ht2
theorem na {ND:List Nd}:∀ {ks:List Val} {l:List Int} {e:Nat} {x:Val} {i:Int},fitVs ND ks l=true->ks[e]? = some x->l[e]? = some i->fitV ND x i=true
 | [],_,e,x,i,_,h,_=>by simp at h
 | _ :: _,[],e,x,i,_,_,h=>by simp at h
 | v :: r,j :: l,0,x,i,h,h1,h2=>by
  simp only [List.getElem?_cons_zero,oI] at h1 h2;subst h1 h2;rw [fitVs,Bool.and_eq_true] at h;exact h.1
 | v :: r,j :: l,e + 1,x,i,h,h1,h2=>by
  simp only [List.getElem?_cons_succ] at h1 h2;rw [fitVs,Bool.and_eq_true] at h;exact na h.2 h1 h2
abbrev FT:=Val × Int × Int
def hU (v:Val):FT:=(v,0,0)
def cp (e a:Int):FT:=(.mk 0 0 ap [],e,a)
def ckLeaf (d:Nd) (k a n:Int) (s:ByteArray):FT:=
 if d.ag=1 then (if k=1/\s=ln then hU (.mk 1 1 ap []) else if k=1/\s=jH then hU (.mk 1 0 ap []) else cp 14 a)
 else if d.ag=2 then (if k≠2 then cp 14 a else if n < d.lo∨d.hi < n then cp 20 a else hU (.mk 2 n ap []))
 else if d.ag=3 then (if k≠3 then cp 14 a else if d.most < (s.size:Int) then cp 20 a else hU (.mk 3 0 s []))
 else if k≠1 then cp 14 a else match dc d.ae s with | none=>cp 9 a | some i=>hU (.mk 4 i ap [])
def vj (d:Nd) (s:ByteArray):Option Nat:=dc (d.aD.map Ed.name) s
def rz (d:Nd) (c:Nat):Int:=match d.aD[c]? with | some e=>e.to | none=>0
def eF (k n:Int) (t:List Val × Int × Int):FT:=if t.2.1≠0 then (.mk 0 0 ap [],t.2) else hU (.mk k n ap t.1)
def recC (a:Int) (t:List (Option Val) × Int × Int):FT:=if t.2.1≠0 then (.mk 0 0 ap [],t.2) else if t.1.any Option.isNone=true then cp 15 a else hU (.mk 7 0 ap (t.1.map fun x=>x.getD (.mk 0 0 ap [])))
mutual
def ckV (ND:List Nd):Rw->Int->FT
 | .mk k a n s keys ks,i=>match ek ND i with
  | none=>cp 1 0
  | some d=>
   if d.ag < 5 then ckLeaf d k a n s
   else if d.ag=5 then (if k≠4 then cp 14 a else if d.most < (ks.length:Int) then cp 20 a else eF 5 0 (ckL ND ks (rz d 0) []))
   else if d.ag=6 then (if k=1/\s=mZ then hU (.mk 6 0 ap []) else if k≠6∨ks.length≠1∨s≠mY then cp 14 a else eF 6 0 (ckL ND ks (rz d 0) []))
   else if d.ag=7 then (if k≠5∨keys.length≠ks.length then cp 14 a else recC a (ckK ND d ks keys (List.replicate d.aD.length none)))
   else if k≠1/\(k≠6∨ks.length≠1) then cp 14 a
   else match vj d s with
    | none=>cp 9 a
    | some c=>match d.aD[c]? with
     | none=>cp 9 a
     | some e=>if k=1 then (if e.bare=true then hU (.mk 8 c ap []) else cp 15 a) else if e.bare=true then cp 19 a else eF 8 c (ckL ND ks e.to [])
def ckL (ND:List Nd):List Rw->Int->List Val->List Val × Int × Int
 | [],_,acc=>(acc,0,0)
 | r :: l,i,acc=>if (ckV ND r i).2.1≠0 then ([],(ckV ND r i).2) else ckL ND l i (acc ++ [(ckV ND r i).1])
def ckK (ND:List Nd) (d:Nd):List Rw->List Wd->List (Option Val)->List (Option Val) × Int × Int
 | r :: l,w :: ws,acc=>match vj d w.s with
  | none=>([],9,w.a)
  | some c=>if (acc.getD c none).isSome=true then ([],10,w.a) else if (ckV ND r (rz d c)).2.1≠0 then ([],(ckV ND r (rz d c)).2) else ckK ND d l ws (acc.set c (some (ckV ND r (rz d c)).1))
 | _,_,acc=>(acc,0,0)
end
theorem FU {ND:List Nd}:∀ {l:List Rw} {i:Int} {acc:List Val},(ckL ND l i acc).2.1=0->(∀ r∈l,(ckV ND r i).2.1=0)/\(ckL ND l i acc)=(acc ++ l.map fun r=>(ckV ND r i).1,0,0)
 | [],i,acc,_=>⟨fun r hr=>(by cases hr),by simp [ckL]⟩
 | r :: l,i,acc,h=>by
  rw [ckL] at h ⊢;split at h
  ·rename_i h1;exact (h1 h).elim
  ·rename_i h1;rw [if_neg h1];obtain ⟨h2,h3⟩:=FU h;refine ⟨fun x hx=>?_,by rw [h3];simp⟩;rcases List.mem_cons.1 hx with rfl | hx
   ·exact Decidable.not_not.1 h1
   ·exact h2 x hx
theorem FV {ND:List Nd}:∀ {l:List Rw} {i:Int} {acc:List Val},(∀ r∈l,(ckV ND r i).2.1=0)->ckL ND l i acc=(acc ++ l.map fun r=>(ckV ND r i).1,0,0)
 | [],i,acc,_=>by simp [ckL]
 | r :: l,i,acc,h=>by
  rw [ckL,if_neg (by rw [h r List.mem_cons_self];simp),FV fun x hx=>h x (List.mem_cons_of_mem _ hx)];simp
def FW (ND:List Nd) (d:Nd) (acc:List (Option Val)):Prop:=acc.length=d.aD.length/\∀ (c:Nat) v,acc[c]? = some (some v)->fitV ND v (rz d c)=true
theorem kv {d:Nd} {s:ByteArray} {c:Nat} (h:vj d s=some c):∃ e,d.aD[c]? = some e/\e.name=s:=by
 obtain ⟨_,h2,_⟩:=dR h;rw [List.getElem?_map] at h2
 cases he:d.aD[c]? with
 | none=>rw [he] at h2;cases h2
 | some e=>rw [he] at h2;cases h2;exact ⟨e,rfl,rfl⟩
theorem xM {ND:List Nd} {d:Nd}:∀ {l:List Rw} {ws:List Wd} {acc:List (Option Val)},(∀ r∈l,∀ i,(ckV ND r i).2.1=0->fitV ND (ckV ND r i).1 i=true)->FW ND d acc->(ckK ND d l ws acc).2.1=0->FW ND d (ckK ND d l ws acc).1
 | [],ws,acc,_,hF,_=>by rw [ckK];exact hF;simp
 | r :: l,[],acc,_,hF,_=>by rw [ckK];exact hF;simp
 | r :: l,w :: ws,acc,ih,hF,h=>by
  rw [ckK] at h ⊢
  cases hc:vj d w.s with
  | none=>rw [hc] at h;simp at h
  | some c=>
   rw [hc] at h;simp only at h ⊢;split at h
   ·simp at h
   ·rename_i h1;rw [if_neg h1];split at h
    ·rename_i h2;exact (h2 h).elim
    ·rename_i h2;rw [if_neg h2];refine xM (fun x hx=>ih x (List.mem_cons_of_mem _ hx)) ⟨by rw [List.length_set];exact hF.1,fun c' v hv=>?_⟩ h;obtain ⟨e,he,_⟩:=kv hc;have dZ:=(gS he).1;by_cases uA:c'=c
     ·subst uA;rw [List.getElem?_set_self (by rw [hF.1];exact dZ)] at hv;cases hv;exact ih r List.mem_cons_self _ (Decidable.not_not.1 h2)
     ·rw [List.getElem?_set_ne (fun h=>uA h.symm)] at hv;exact hF.2 c' v hv
theorem kU {ND:List Nd} {i:Int}:∀ {l:List Val},(∀ v∈l,fitV ND v i=true)->fitVs ND l (List.replicate l.length i)=true
 | [],_=>rfl
 | v :: r,h=>by
  rw [List.length_cons,List.replicate_succ,fitVs,h v List.mem_cons_self,Bool.true_and];exact kU fun x hx=>h x (List.mem_cons_of_mem _ hx)
theorem tR {ND:List Nd}:∀ {l:List Val} {is:List Int},(∀ (e:Nat) v i,l[e]? = some v->is[e]? = some i->fitV ND v i=true)->fitVs ND l is=true
 | [],is,_=>by cases is<;>rfl
 | v :: r,[],_=>rfl
 | v :: r,i :: is,h=>by
  rw [fitVs,h 0 v i rfl rfl,Bool.true_and];exact tR fun e x j hx hj=>h (e + 1) x j (by simpa using hx) (by simpa using hj)
theorem xN (d:Nd):rz d 0=to0 d:=rfl
theorem CK {d:Nd} {s:ByteArray} {c:Nat} (h:vj d s=some c):c < d.aD.length:=by
 obtain ⟨e,he,_⟩:=kv h;exact (gS he).1
theorem A6 {L:Nat} {ND:List Nd} (dh:∀ n∈ND,n5 L ND.length n):∀ (m:Nat) (r:Rw),ku r<=m->∀ i,(ckV ND r i).2.1=0->fitV ND (ckV ND r i).1 i=true
 | 0,r,h=>by have:=ru r;omega
 | m + 1,.mk k a n s keys ks,h=>fun i h0=>by
  have ih:∀ r∈ks,∀ i,(ckV ND r i).2.1=0->fitV ND (ckV ND r i).1 i=true:=fun r hr=>A6 dh m r (by have:=kT hr;rw [ku] at h;omega);rw [ckV] at h0 ⊢
  cases hd:ek ND i with
  | none=>rw [hd] at h0;simp [cp] at h0
  | some d=>
   rw [hd] at h0;simp only at h0 ⊢;have hN:=dh d (mG (bT hd).2);have gO:=hN.k1;have GC:=hN.k8;by_cases h5:d.ag < 5
   ·rw [if_pos h5] at h0 ⊢
    have oL:∀ v:Val,iO d v=true->fitV ND v i=true:=fun v hv=>by
     obtain ⟨vk,vn,vs,vks⟩:=v;rw [fitV,hd];simp only;rw [if_pos h5];exact hv
    refine oL _ ?_;unfold ckLeaf at h0 ⊢;have he:(ByteArray.size ap)=0:=rfl;rcases (show d.ag=1∨d.ag=2∨d.ag=3∨d.ag=4 by omega) with c | c | c | c
    ·have aQ:¬ jH=ln:=by decide
     simp only [c,if_true] at h0 ⊢
     repeat' split at h0
     all_goals first | (simp [cp] at h0;done) | (rename_i h1 h2;simp [h1,h2,aQ,hU,iO,c,Val.ks,Val.k,Val.s,Val.n];done) | (rename_i h1;simp [h1,hU,iO,c,Val.ks,Val.k,Val.s,Val.n])
    ·simp only [c,show ¬ ((2:Int)=1) by decide,if_true,if_false] at h0 ⊢
     repeat' split at h0
     ·simp [cp] at h0
     ·simp [cp] at h0
     ·rename_i h1 h2;rw [if_neg h1,if_neg h2];simp [hU,iO,c,Val.ks,Val.k,Val.s,Val.n]
      first | exact ⟨decide_eq_true (by omega),decide_eq_true (by omega)⟩ | exact decide_eq_true (by omega)
    ·simp only [c,show ¬ ((3:Int)=1) by decide,show ¬ ((3:Int)=2) by decide,if_true,if_false] at h0 ⊢
     repeat' split at h0
     ·simp [cp] at h0
     ·simp [cp] at h0
     ·rename_i h1 h2;rw [if_neg h1,if_neg h2];simp [hU,iO,c,Val.ks,Val.k,Val.s,Val.n]
      first | exact ⟨decide_eq_true (by omega),decide_eq_true (by omega)⟩ | exact decide_eq_true (by omega)
    ·simp only [c,show ¬ ((4:Int)=1) by decide,show ¬ ((4:Int)=2) by decide,show ¬ ((4:Int)=3) by decide,if_false] at h0 ⊢;split at h0
     ·simp [cp] at h0
     ·rename_i h1;rw [if_neg h1]
      cases hx:dc d.ae s with
      | none=>rw [hx] at h0;simp [cp] at h0
      | some j=>
       have:=(dR hx).1;simp [hU,iO,c,Val.ks,Val.k,Val.s,Val.n];omega
   rw [if_neg h5] at h0 ⊢
   have oL:∀ v:Val,cF d v=true->fitVs ND v.ks (kidsL d v)=true->fitV ND v i=true:=fun v hv C4=>by
    obtain ⟨vk,vn,vs,vks⟩:=v;rw [fitV,hd];simp only;rw [if_neg h5,hv,Bool.true_and];exact C4
   have Lt:∀ (kk nn:Int) (ii:Int),(eF kk nn (ckL ND ks ii [])).2.1=0->eF kk nn (ckL ND ks ii [])=hU (.mk kk nn ap (ks.map fun r=>(ckV ND r ii).1))/\∀ v∈(ks.map fun r=>(ckV ND r ii).1),fitV ND v ii=true:=fun kk nn ii hh=>by
    unfold eF at hh ⊢;split at hh
    ·rename_i h1;exact (h1 hh).elim
    ·rename_i h1;obtain ⟨h2,h3⟩:=FU (Decidable.not_not.1 h1);rw [if_neg h1,h3,List.nil_append];refine ⟨rfl,fun v hv=>?_⟩;obtain ⟨r,hr,rfl⟩:=List.mem_map.1 hv;exact ih r hr ii (h2 r hr)
   by_cases c5:d.ag=5
   ·rw [if_pos c5] at h0 ⊢;split at h0
    ·simp [cp] at h0
    ·rename_i h1;rw [if_neg h1];split at h0
     ·simp [cp] at h0
     ·rename_i h2;rw [if_neg h2];obtain ⟨h3,h4⟩:=Lt _ _ _ h0;rw [h3];refine oL _ ?_ ?_
      ·simp [hU,cF,c5,cN,Val.ks,Val.k,Val.s,Val.n];omega
      ·simp only [hU,kidsL,c5,true_or,if_true,Val.ks];exact kU h4
   rw [if_neg c5] at h0 ⊢;by_cases c6:d.ag=6
   ·rw [if_pos c6] at h0 ⊢;split at h0
    ·rename_i h1;rw [if_pos h1];refine oL _ ?_ ?_
     ·simp [hU,cF,c6,cN,Val.ks,Val.k,Val.s,Val.n]
     ·simp [hU,kidsL,c6,Val.ks,fitVs]
    ·rename_i h1;rw [if_neg h1];split at h0
     ·simp [cp] at h0
     ·rename_i h2;rw [if_neg h2];obtain ⟨h3,h4⟩:=Lt _ _ _ h0;rw [h3];refine oL _ ?_ ?_
      ·simp [hU,cF,c6,cN,Val.ks,Val.k,Val.s,Val.n];omega
      ·simp only [hU,kidsL,c6,or_true,if_true,Val.ks];exact kU h4
   rw [if_neg c6] at h0 ⊢;by_cases c7:d.ag=7
   ·rw [if_pos c7] at h0 ⊢;split at h0
    ·simp [cp] at h0
    ·rename_i h1;rw [if_neg h1];unfold recC at h0 ⊢;split at h0
     ·rename_i h2;exact (h2 h0).elim
     ·rename_i h2;rw [if_neg h2];split at h0
      ·simp [cp] at h0
      ·rename_i h3;rw [if_neg h3]
       have hF:=xM (ws:=keys) ih (acc:=List.replicate d.aD.length none) ⟨List.length_replicate,fun c v hv=>by
        rw [List.getElem?_replicate] at hv
        split at hv<;>simp at hv⟩ (Decidable.not_not.1 h2)
       generalize (ckK ND d ks keys (List.replicate d.aD.length none)).1=T at hF h3 ⊢;refine oL _ ?_ ?_
       ·simp [hU,cF,c7,cN,Val.ks,Val.k,Val.s,Val.n,hF.1]
       ·simp only [hU,kidsL,c7,show ¬ ((7:Int)=5∨(7:Int)=6) by decide,if_true,if_false,Val.ks];refine tR fun e v j hv hj=>?_;rw [List.getElem?_map] at hv hj
        cases ht:T[e]? with
        | none=>rw [ht] at hv;cases hv
        | some o=>
         rw [ht] at hv
         cases o with
         | none=>exact (h3 (List.any_eq_true.2 ⟨none,mG ht,rfl⟩)).elim
         | some v'=>
          cases hv
          cases he:d.aD[e]? with
          | none=>rw [he] at hj;cases hj
          | some x=>
           rw [he] at hj;cases hj;have:=hF.2 e v' ht;unfold rz at this;rw [he] at this;exact this
   rw [if_neg c7] at h0 ⊢;have c8:d.ag=8:=by omega
   split at h0
   ·simp [cp] at h0
   ·rename_i h1;rw [if_neg h1]
    cases hc:vj d s with
    | none=>rw [hc] at h0;simp [cp] at h0
    | some c=>
     rw [hc] at h0;simp only at h0 ⊢;obtain ⟨e,he,_⟩:=kv hc;have dZ:=CK hc;rw [he] at h0;simp only [he] at h0 ⊢
     have xO:∀ l,kr d (.mk 8 c ap l)=some e:=fun l=>by
      unfold kr;rw [if_pos ⟨rfl,by simp [Val.n],by simpa [Val.n] using dZ⟩];exact he
     split at h0
     ·rename_i h2;rw [if_pos h2];split at h0
      ·rename_i h3;rw [if_pos h3];refine oL _ ?_ ?_
       ·simp [hU,cF,kidsL,c8,xO,h3,cN,Val.ks,Val.k,Val.s,Val.n]
       ·simp [hU,kidsL,c8,xO,h3,Val.ks,fitVs]
      ·simp [cp] at h0
     ·rename_i h2;rw [if_neg h2];split at h0
      ·simp [cp] at h0
      ·rename_i h3;rw [if_neg h3];obtain ⟨h4,h5'⟩:=Lt _ _ _ h0;rw [h4];have h6:ks.length=1:=Decidable.byContradiction fun h7=>h1 ⟨h2,.inr h7⟩;have h3:e.bare=false:=by simpa using h3
       refine oL _ ?_ ?_
       ·simp [hU,cF,kidsL,c8,xO,h3,cN,Val.ks,Val.k,Val.s,Val.n,h6]
       ·simp only [hU,kidsL,c8,xO,h3,show ¬ ((8:Int)=5∨(8:Int)=6) by decide,show ¬ ((8:Int)=7) by decide,if_false,Val.ks,Bool.false_eq_true];have:=kU h5';rw [List.length_map,h6] at this;exact this
section
variable (ae:List ByteArray) (tc:List DV) (rows:List Nat) (js:List Int)
end
structure di where
 k:Int
 n:Int
 s:ByteArray
def vl (x:di):List DV:=[.v (.int .i64 x.k),.v (.int .i64 x.n),.v (.string x.s)]
def bO (l:List di):List (List DV):=l.map vl
def fQ (l:List (List di)):List (List DV):=l.map fun p=>[.sl 3 (bO p) none]
theorem gC (l:List di):(bO l).length=l.length:=by simp [bO]
theorem n9 (l:List (List di)):(fQ l).length=l.length:=by simp [fQ]
theorem oa {l:List di} {e:Nat} {x:di} (h:l[e]? = some x):(bO l)[e]? = some (vl x):=by simp [bO,h]
theorem CL {l:List (List di)} {e:Nat} {x:List di} (h:l[e]? = some x):(fQ l)[e]? = some [.sl 3 (bO x) none]:=by simp [fQ,h]
def jI (a b:di):Bool:=decide (a.k=b.k) && (decide (a.n=b.n) && decide (a.s=b.s))
theorem nb {a b:di}:jI a b=true↔a=b:=by
 obtain ⟨k,n,s⟩:=a;obtain ⟨k',n',s'⟩:=b;simp only [jI,Bool.and_eq_true,decide_eq_true_eq,di.mk.injEq]
def zS (a:di):Array Value:=#[.int .i64 a.k,.int .i64 a.n,.string a.s]
theorem CM (a b:di) (w:World):(Op.equal 137 (.agg (zS a)) (.agg (zS b))).run Tryz.prog w = .ok (jI a b) w:=by
 have hf:Tryz.prog.underlying 137=some (.struct (Tryz.prog.fieldsOf 137)):=by simp [Program.fieldsOf,Tryz.underlying137]
 have lU:(Tryz.prog.fieldsOf 137).toList=[⟨ "Kind",3,0,false, "", "",0⟩,⟨ "N",3,1,false, "", "",8⟩,⟨ "Name",9,2,false, "", "",16⟩]:=by simp [Program.fieldsOf,Tryz.underlying137]
 have hs:Tryz.prog.stoodInHeld 137=false:=by kernel_rfl
 obtain ⟨d,hm⟩:∃ d,Op.maxDepth=d + 1 + 1:=⟨Op.maxDepth - 2,by decide⟩
 have q9:∀ cs:Array Value,∀ off v,cs[off]? = some v->(part 9 cs off).run Tryz.prog w = .ok v w:=fun cs off v h=>by
  simp [part,Tryz.isAgg9,h]
 have q3:∀ cs:Array Value,∀ off v,cs[off]? = some v->(part 3 cs off).run Tryz.prog w = .ok v w:=fun cs off v h=>by
  simp [part,Tryz.isAgg3,h]
 have g0:=fun x:di=>q3 (zS x) 0 (.int .i64 x.k) rfl;have g1:=fun x:di=>q3 (zS x) 1 (.int .i64 x.n) rfl;have g2:=fun x:di=>q9 (zS x) 2 (.string x.s) rfl;have r9:=fun a b=>run_equalIn_string w d 9 a b Tryz.underlying9;have r3:=fun a b=>run_equalIn_int w d 3 .i64 .i64 a b Tryz.underlying3
 have e1:(a.s.toList == b.s.toList)=decide (a.s=b.s):=by
  rw [ByteArray.toList_eq,ByteArray.toList_eq];by_cases h:a.s=b.s
  ·rw [h];simp
  ·have:¬ a.s.data=b.s.data:=fun e=>h (ByteArray.ext e);simp [h,this]
 unfold Op.equal;rw [hm,run_equalIn_struct w (d + 1) 137 _ _ hf hs,lU];simp only [Op.eqFields,ne_eq,String.reduceEq,not_false_eq_true,if_true,Sem.run_bind,g0,g1,g2,r9,r3,Result.andThen_ok];by_cases h1:a.k=b.k
 ·by_cases h2:a.n=b.n
  ·by_cases h3:a.s=b.s
   ·simp [h1,h2,h3,jI,Sem.run_pure,r3,r9,g1,g2]
   ·simp [h1,h2,h3,jI,Sem.run_pure,r3,r9,g1,g2,e1]
  ·simp [h1,h2,jI,Sem.run_pure,r3,g1]
 ·simp [h1,jI,Sem.run_pure]
theorem CN (o:BinOp) (ho:o = .eql∨o = .neq) (w:World) (x y:Operand) (vs vs':Array Value):(eqGuard o 137 x y (.agg vs) (.agg vs')).run Tryz.prog w = .ok () w:=by
 have h:Tryz.prog.eqGuardType Tryz.prog.depth 137=false:=by kernel_rfl
 rcases ho with rfl | rfl<;>simp [eqGuard,run_program,h]
theorem H4 (x y:Operand) (a b:di):uj Tryz.prog .eql x y 137 (vl a) (vl b) (jI a b):=
 ⟨[.int .i64 a.k,.int .i64 a.n,.string a.s],[.int .i64 b.k,.int .i64 b.n,.string b.s],rfl,rfl,fun w=>⟨CN _ (.inl rfl) w x y _ _,by
  show ((do let r <- Op.equal 137 (.agg (zS a)) (.agg (zS b));pure (Value.bool r)):Sem Value).run Tryz.prog w=_
  simp only [Sem.run_bind,CM,Result.andThen_ok,Sem.run_pure]⟩⟩
def stpR (d:Nd) (v:Val) (j:Nat):di:=
 if d.ag=5 then ⟨2,j,ap⟩
 else if d.ag=6 then ⟨4,0,ap⟩
 else if d.ag=7 then ⟨1,0,match d.aD[j]? with | some e=>e.name | none=>ap⟩
 else ⟨5,0,match d.aD[v.n.toNat]? with | some e=>e.name | none=>ap⟩
section
variable (ND:List Nd) (f:Nat->Nat->Bool) (n obs dep:Nat)
end
def tS (es:List Ed) (s:ByteArray) (k:Nat):Bool:=match es[k]? with | some e=>decide (e.name=s) | none=>false
end Go.Proofs.YtfifjddnnmfeoaaGreat
namespace Go.Proofs.YtfifjddnnmfeoaaGreat
namespace Dv
open Go Go.RowKit
section
variable {P:Program} {ops:Array Oper} {C:World->Prop} {Q:Act->World->Prop} {W:Nat->Bool} {x:Nat}
def runX (P:Program) (ops:Array Oper) (W:Nat->Bool) (C:World->Prop) (Q:Act->World->Prop) (x:Nat):List Nat->Act->World->Prop
 | [],a,w=>runT P ops W C Q [x] a w
 | i :: r,a,w=>
  match ops[i]? with
  | none=>False
  | some o=>
   if ordB ops ops.size x i=true then runT P ops W C Q (x :: i :: r) a w
   else if eI o.op=true then runT P ops W C Q (x :: i :: r) a w/\cz P ops o a w fun a' w'=>(W i=false->C w->C w')/\runX P ops W C Q x r a' w'
   else ∃ v,Yl P ops C o v a/\(iY o.op=true->C w)/\runX P ops W C Q x r (a.put o.dst v) w
theorem xP {xo:Oper} (bY:∀ (j:Nat) (o:Oper) cs b,ops[j]? = some o->o.op ≠ .select cs b) (hx:ops[x]? = some xo) (Lu:eI xo.op=true) (OP:∀ (j:Nat) (o:Oper),ops[j]? = some o->iY o.op=true->W x=false) :
  ∀ (rem:List Nat) (a:Act) (w:World),runX P ops W C Q x rem a w->(∀ j∈rem,∀ o,ops[j]? = some o->eI o.op=false->ordB ops ops.size x j=false->dH ops W x j=true) ->
   cz P ops xo a w (fun a' w'=>(W x=false->C w->C w')/\runT P ops W C Q rem a' w')
 | [],a,w,hr,_=>by
  simp only [runX,runT,hx,Lu,if_true] at hr;exact hr
 | i :: r,a,w,hr,ou=>by
  have OQ:runT P ops W C Q (x :: i :: r) a w->cz P ops xo a w (fun a' w'=>(W x=false->C w->C w')/\runT P ops W C Q (i :: r) a' w'):=fun h=>by
   unfold runT at h;rw [hx] at h;simp only [Lu,if_true] at h;exact h
  cases ho:ops[i]? with
  | none=>simp only [runX,ho] at hr
  | some o=>
   simp only [runX,ho] at hr;by_cases hd:ordB ops ops.size x i=true
   ·rw [if_pos hd] at hr;exact OQ hr
   ·rw [if_neg hd] at hr;by_cases he:eI o.op=true
    ·rw [if_pos he] at hr;exact OQ hr.1
    ·rw [if_neg he] at hr;obtain ⟨v,hy,hc,ff⟩:=hr;have uG:ordB ops ops.size x i=false:=by simpa using hd
     have BJ:eI o.op=false:=by simpa using he
     obtain ⟨yE,C8,_,_⟩:=cM (ou i (by simp) o ho BJ uG) hx ho;have uF:=fun cs b=>bY x xo cs b hx;have BI:=fun cs b=>bY i o cs b ho;have ih:=xP bY hx Lu OP r (a.put o.dst v) w ff (fun j hj=>ou j (List.mem_cons_of_mem _ hj));refine bu ?_ (fp ((gw C8 uF).1 ih));rintro a' w' ⟨⟨k0,hr2⟩,u,rfl⟩;refine ⟨k0,?_⟩;simp only [runT,ho];rw [if_neg he];exact ⟨v,(Yl.same (u:=u) yE BI).2 hy,fun hL=>k0 (OP i o ho hL) (hc hL),hr2⟩
theorem ob {π:Nat->Nat} (bY:∀ (j:Nat) (o:Oper) cs b,ops[j]? = some o->o.op ≠ .select cs b) (nh:∀ j i x y,π j < π i->ops[i]? = some x->ops[j]? = some y->iY x.op=true->W j=false)
  {i:Nat} {o:Oper} (hi:ops[i]? = some o) (H5:∀ z,ops[x]? = some z->iY z.op=false) (OR:x≠i) (hnd:ordB ops ops.size x i=false) (uF:eI o.op=false->dH ops W x i=true) :
  ∀ (rem:List Nat) (a:Act) (w:World),(rY ops (x :: rem)->C w)->runX P ops W C Q x rem a w->i∈rem->(∀ j∈rem,j≠i->π j < π i->dH ops W j i=true)->(x :: rem).Pairwise (fun a b=>π a < π b) ->
   (eI o.op=true->∀ j∈rem,π j < π i->ordB ops ops.size x j=false) ->
   cz P ops o a w (fun a' w'=>(W i=false->C w->C w')/\runX P ops W C Q x (rem.erase i) a' w')
 | [],_,_,_,_,hm,_,_,_=>by cases hm
 | h :: rem,a,w,hC,hr,hm,ou,hp,yW=>by
  by_cases rT:h=i
  ·subst rT;rw [List.erase_cons_head];simp only [runX,hi] at hr;rw [if_neg (by simp [hnd])] at hr;split at hr
   ·exact hr.2
   ·obtain ⟨v,hy,hc,ff⟩:=hr;exact eK hy hc ⟨fun _ h=>h,ff⟩
  ·have jS:i∈rem:=by
    rcases List.mem_cons.1 hm with e | e
    ·exact (rT e.symm).elim
    ·exact e
   have ow:=List.pairwise_cons.1 hp;have ym:=List.pairwise_cons.1 ow.2;have au:π h < π i:=ym.1 i jS;have TV:(x :: rem).Pairwise (fun a b=>π a < π b):=List.pairwise_cons.2 ⟨fun y hy=>ow.1 y (List.mem_cons_of_mem _ hy),ym.2⟩
   have Lv:eI o.op=false->∀ j∈x :: h :: rem,j≠i->π j < π i->dH ops W j i=true:=fun he j hj aQ hl=>by
    rcases List.mem_cons.1 hj with rfl | hj
    ·exact uF he
    ·exact ou j hj aQ hl
   have H6:i∈x :: h :: rem:=List.mem_cons_of_mem _ hm
   have OS:(x :: h :: rem).erase i=x :: h :: rem.erase i:=by
    rw [List.erase_cons_tail (by simpa using OR),List.erase_cons_tail (by simpa using rT)]
   rw [List.erase_cons_tail (by simpa using rT)];have DM:∀ j∈rem,j≠i->π j < π i->dH ops W j i=true:=fun j hj=>ou j (List.mem_cons_of_mem _ hj);have OT:eI o.op=true->∀ j∈rem,π j < π i->ordB ops ops.size x j=false:=fun he j hj=>yW he j (List.mem_cons_of_mem _ hj)
   have TW:rY ops (x :: rem)->C w:=fun hl=>hC (by
    obtain ⟨l,z,DN,hz,hL⟩:=hl;rcases List.mem_cons.1 DN with rfl | DN
    ·exact ⟨l,z,by simp,hz,hL⟩
    ·exact ⟨l,z,by simp [DN],hz,hL⟩)
   cases hh:ops[h]? with
   | none=>simp only [runX,hh] at hr
   | some y=>
    obtain ⟨yE,C8,Qm,Mz⟩:=cM (ou h (by simp) rT au) hh hi;have L6:=fun cs b=>bY h y cs b hh;have BI:=fun cs b=>bY i o cs b hi;simp only [runX,hh] at hr;by_cases hd:ordB ops ops.size x h=true
    ·rw [if_pos hd] at hr
     have he:eI o.op=false:=by
      cases he:eI o.op
      ·rfl
      ·have:=yW he h (by simp) au;rw [hd] at this;cases this
     have aZ:=ef bY nh hi (x :: h :: rem) a w hC hr H6 (Lv he) hp;refine bu ?_ aZ;rintro a' w' ⟨k0,hr2⟩;refine ⟨k0,?_⟩;simp only [runX,hh];rw [if_pos hd,<- OS];exact hr2
    ·rw [if_neg hd] at hr;by_cases hE:eI y.op=true
     ·rw [if_pos hE] at hr;obtain ⟨hl,hr⟩:=hr
      have he:eI o.op=false:=by
       cases he:eI o.op
       ·rfl
       ·exact (Qm ⟨hE,he⟩).elim
      obtain ⟨v,Aw⟩:=gN (π:=π) bY hi he (x :: h :: rem) a w hl H6 (Lv he) hp;have Kh:iY o.op=true->C w:=fun hL=>hC ⟨i,o,H6,hi,hL⟩;have aZ:=ef bY nh hi (x :: h :: rem) a w hC hl H6 (Lv he) hp;have gO:=eL Aw Kh aZ;refine eK Aw Kh ⟨fun _ h=>h,?_⟩;simp only [runX,hh];rw [if_neg hd,if_pos hE];refine ⟨by rw [<- OS];exact gO.2,?_⟩;refine (gw C8 L6).2 ?_;refine bu ?_ (fp hr);rintro a' w' ⟨⟨k0,ff⟩,u,rfl⟩;refine ⟨k0,?_⟩
      have Ki:rY ops (x :: rem)->C w':=by
       intro ov;have Fk:=ov;obtain ⟨l,z,DN,hz,hL⟩:=ov;refine k0 ?_ (TW Fk);rcases List.mem_cons.1 DN with e | DN
       ·rw [e] at hz;rw [H5 z hz] at hL;cases hL
       ·exact nh h l z y (ym.1 l DN) hz hh hL
      have ih:=ob bY nh hi H5 OR hnd uF rem _ w' Ki ff jS DM TV OT;have dW:=(Yl.same (u:=u) yE BI).2 Aw;exact (eL dW (fun hL=>Ki ⟨i,o,List.mem_cons_of_mem _ jS,hi,hL⟩) ih).2
     ·rw [if_neg hE] at hr;obtain ⟨v,Aw,hc,ff⟩:=hr;have ih:=ob bY nh hi H5 OR hnd uF rem (a.put y.dst v) w TW ff jS DM TV OT;refine bu ?_ (fp ((gw yE BI).1 ih));rintro a' w' ⟨⟨k0,hr2⟩,u,rfl⟩;refine ⟨k0,?_⟩;simp only [runX,hh];rw [if_neg hd,if_neg hE];refine ⟨v,(Yl.same (u:=u) C8 L6).2 Aw,fun hL=>?_,hr2⟩
      have MA:W i=false:=by
       cases hw:W i
       ·rfl
       ·exact (Mz ⟨hL,hw⟩).elim
      exact k0 MA (hc hL)
def exX (ops:Array Oper) (x:Nat) (j i:Nat):Bool:=Nat.beq j x && (match ops[i]? with | some o=>eI o.op | none=>false)
def Lw (ops:Array Oper) (x:Nat) (π:Nat->Nat):Bool:=
 (List.range ops.size).all fun i=>
  match ops[i]? with
  | none=>true
  | some o=>!eI o.op || Nat.beq i x || ordB ops ops.size x i || (List.range ops.size).all fun j=>Nat.beq j x || !Nat.blt (π j) (π i) || !ordB ops ops.size x j
theorem FX {π:Nat->Nat} {xo:Oper} {Q':Exit->Act->World->Prop} (hx:ops[x]? = some xo) (Lu:eI xo.op=true) (H5:iY xo.op=false) (GD:∀ j,j≠x->π x < π j) (IE:mi ops W π=true) (Kj:oV ops W π (exX ops x)=true) (hD:Lw ops x π=true)
  (hQ:∀ a w,Q a w->Q' .normal a w):∀ (fb:Nat) (listed:Array Bool) (rem:List Nat) (a:Act) (w:World),
  listed.size=ops.size->Dn ops listed->listed.getD x true=false->(∀ i,i∈rem↔i≠x/\i < ops.size/\listed.getD i true=false)->(x :: rem).Pairwise (fun a b=>π a < π b)->rem.length + 1<=fb->(rY ops (x :: rem)->C w) ->
   runX P ops W C Q x rem a w->wpAny P .any ops Q' fb listed a w:=by
 have bY:=ml IE;have nh:=mj IE;have v8:=nC IE;have Se:=Kj;have rS:=(Array.getElem?_eq_some_iff.1 hx).1
 have OP:∀ (j:Nat) (o:Oper),ops[j]? = some o->iY o.op=true->W x=false:=fun j o hj hL=>by
  refine nh x j o xo (GD j ?_) hj hx hL;rintro rfl;rw [hx] at hj;simp only [oI] at hj;rw [<- hj,H5] at hL;cases hL
 simp only [oV,List.all_eq_true,List.mem_range,Bool.or_eq_true,Bool.not_eq_true'] at Kj
 have uF:∀ (i:Nat) (o:Oper),ops[i]? = some o->i≠x->eI o.op=false->ordB ops ops.size x i=false->dH ops W x i=true:=fun i o ho aQ he hd=>by
  rcases Kj i (Array.getElem?_eq_some_iff.1 ho).1 x rS with ((h1 | h1) | h1) | h1
  ·have:¬ Nat.blt (π x) (π i)=true:=by simp [h1]
   have:=GD i aQ;simp at *;omega
  ·simp [exX,ho,he] at h1
  ·rw [hd] at h1;cases h1
  ·exact h1
 intro fb
 induction fb with
 | zero=>intro listed rem a w _ _ _ _ _ hlen;omega
 | succ fb ih=>
  intro listed rem a w cg Gw Sf eO hp hlen hC hr;have ow:=List.pairwise_cons.1 hp;have hnd:rem.Nodup:=jU ow.2;refine ⟨fun h0=>?_,fun i hi=>?_⟩
  ·have:x∈Region.ready .any ops listed:=by
    refine mem_ready.2 ⟨Sf,_,hx,fun e he hb=>?_⟩;obtain ⟨au,MC⟩:=v8 x _ hx e he hb;cases hg:listed.getD e.on false
    ·have aQ:e.on≠x:=fun h=>by rw [h] at au;omega
     have:=GD e.on aQ;omega
    ·rfl
   rw [h0] at this;cases this
  ·obtain ⟨MD,o,ho,ez⟩:=mem_ready.1 hi;have eP:=(Array.getElem?_eq_some_iff.1 ho).1
   have BK:Dn ops (listed.setIfInBounds i true):=by
    intro k z hz hk e he hb;by_cases gI:k=i
    ·subst gI;rw [ho] at hz;simp only [oI] at hz;subst hz;exact getD_set_true (ez e he hb)
    ·rw [getD_set_ne true (Ne.symm gI)] at hk;exact getD_set_true (Gw k z hz hk e he hb)
   refine nG ho ?_;by_cases jP:i=x
   ·subst jP;rw [hx] at ho;simp only [oI] at ho;subst ho;have aZ:=xP bY hx Lu OP rem a w hr (fun j hj o ho he hd=>uF j o ho ((eO j).1 hj).1 he hd);refine bu ?_ aZ;rintro a' w' ⟨k0,ff⟩;refine jk (C:=C) (exX ops i) IE Se hQ fb _ rem a' w' (by simp [cg]) BK ?_ ow.2 (by omega) ?_ ?_ ff
    ·intro k;rw [eO k];by_cases gI:k=i
     ·subst gI;simp [cg,eP]
     ·rw [getD_set_ne true (Ne.symm gI)];simp [gI]
    ·intro j hj k _;have:=((eO j).1 hj).1;simp [exX,this]
    ·rintro ⟨l,z,hl,hz,hL⟩;exact k0 (OP l z hz hL) (hC ⟨l,z,List.mem_cons_of_mem _ hl,hz,hL⟩)
   ·have ja:i∈rem:=(eO i).2 ⟨jP,eP,MD⟩
    have mw:∀ j,j < ops.size->listed.getD j true=false->ordB ops ops.size j i=false:=by
     intro j hj hu;cases h1:ordB ops ops.size j i
     ·rfl
     ·have h2:=ig Gw _ _ _ _ ho ez h1;have:j < listed.size:=by rw [cg];exact hj
      simp [this] at h2 hu;rw [h2] at hu;cases hu
    have Ly:=mw x rS Sf
    have ou:∀ j∈rem,j≠i->π j < π i->dH ops W j i=true:=by
     intro j hj _ au;have eJ:=(eO j).1 hj;rcases Kj i eP j eJ.2.1 with ((h1 | h1) | h1) | h1
     ·have:¬ Nat.blt (π j) (π i)=true:=by simp [h1]
      simp at this;omega
     ·simp [exX,eJ.1] at h1
     ·rw [mw j eJ.2.1 eJ.2.2] at h1;cases h1
     ·exact h1
    have yW:eI o.op=true->∀ j∈rem,π j < π i->ordB ops ops.size x j=false:=by
     intro he j hj au;simp only [Lw,List.all_eq_true,List.mem_range] at hD;have h1:=hD i eP;rw [ho] at h1;simp only [he,Ly,Bool.not_true,Bool.false_or,Bool.or_false,Bool.or_eq_true,List.all_eq_true,List.mem_range,Bool.not_eq_true',Nat.beq_eq] at h1;rcases h1 with h1 | h1
     ·exact (jP h1).elim
     ·have eJ:=(eO j).1 hj;rcases h1 j eJ.2.1 with (h2 | h2) | h2
      ·exact (eJ.1 h2).elim
      ·have:¬ Nat.blt (π j) (π i)=true:=by simp [h2]
       simp at this;omega
      ·exact h2
    have aZ:=ob (π:=π) bY nh ho (fun z hz=>by rw [hx] at hz;simp only [oI] at hz;rw [<- hz];exact H5) (Ne.symm jP) Ly (fun he=>uF i o ho jP he Ly) rem a w hC hr ja ou hp yW;refine bu ?_ aZ;rintro a' w' ⟨k0,ff⟩;have OR:=getD_set_ne (listed:=listed) true jP;refine ih (listed.setIfInBounds i true) (rem.erase i) a' w' (by simp [cg]) BK (by rw [OR];exact Sf) ?_ (List.pairwise_cons.2 ⟨fun y hy=>ow.1 y (List.mem_of_mem_erase hy),ow.2.sublist List.erase_sublist⟩) (by rw [List.length_erase_of_mem ja];have:=List.length_pos_of_mem ja;omega) ?_ ff
    ·intro k;rw [List.Nodup.mem_erase_iff hnd];by_cases gI:k=i
     ·subst gI;simp [cg,eP]
     ·rw [getD_set_ne true (Ne.symm gI)];simp only [ne_eq,gI,not_false_eq_true,true_and];exact eO k
    ·rintro ⟨l,z,hl,hz,hL⟩
     have hlx:l≠x:=by
      rintro rfl;rw [hx] at hz;simp only [oI] at hz;rw [<- hz,H5] at hL;cases hL
     have hl:l∈rem.erase i:=by
      rcases List.mem_cons.1 hl with h | h
      ·exact (hlx h).elim
      ·exact h
     have ov:=List.mem_of_mem_erase hl;have aQ:l≠i:=((List.Nodup.mem_erase_iff hnd).1 hl).1;have Kl:=hC ⟨l,z,List.mem_cons_of_mem _ ov,hz,hL⟩;refine k0 ?_ Kl;rcases qb ow.2 ja ov aQ.symm with h1 | h1
     ·exact nh i l z o h1 hz ho hL
     ·have:=ou l ov aQ h1;obtain ⟨_,_,_,h4⟩:=cM this hz ho;cases hw:W i
      ·rfl
      ·exact (h4 ⟨hL,hw⟩).elim
theorem tT {π:Nat->Nat} (bY:∀ (j:Nat) (o:Oper) cs b,ops[j]? = some o->o.op ≠ .select cs b) (nh:∀ j i x y,π j < π i->ops[i]? = some x->ops[j]? = some y->iY x.op=true->W j=false)
  (uF:∀ (i:Nat) (o:Oper),ops[i]? = some o->i≠x->eI o.op=false->ordB ops ops.size x i=false->dH ops W x i=true) :
  ∀ (l:List Nat) (a:Act) (w:World),(rY ops (x :: l)->C w)->runT P ops W C Q (x :: l) a w->(∀ i∈l,i≠x/\∃ o,ops[i]? = some o/\(ordB ops ops.size x i=true∨eI o.op=false))->(x :: l).Pairwise (fun a b=>π a < π b)->runX P ops W C Q x l a w
 | [],a,w,_,h,_,_=>by simpa only [runX] using h
 | i :: r,a,w,hC,h,hl,hp=>by
  obtain ⟨aQ,o,ho,G3⟩:=hl i (by simp);simp only [runX,ho];by_cases hd:ordB ops ops.size x i=true
  ·rw [if_pos hd];exact h
  ·rw [if_neg hd]
   have he:eI o.op=false:=by
    rcases G3 with h | h
    ·exact (hd h).elim
    ·exact h
   rw [if_neg (by simp [he])];have uG:ordB ops ops.size x i=false:=by simpa using hd
   have ow:=List.pairwise_cons.1 hp;have ym:=List.pairwise_cons.1 ow.2
   have ou:∀ j∈x :: i :: r,j≠i->π j < π i->dH ops W j i=true:=fun j hj GR au=>by
    rcases List.mem_cons.1 hj with rfl | hj
    ·exact uF i o ho aQ he uG
    ·rcases List.mem_cons.1 hj with rfl | hj
     ·exact (GR rfl).elim
     ·have:=ym.1 j hj;omega
   have Kh:iY o.op=true->C w:=fun hL=>hC ⟨i,o,by simp,ho,hL⟩;obtain ⟨v,hy⟩:=gN (π:=π) bY ho he _ a w h (by simp) ou hp;have aZ:=ef bY nh ho _ a w hC h (by simp) ou hp;have hk:=(eL hy Kh aZ).2;rw [List.erase_cons_tail (by simpa using Ne.symm aQ),List.erase_cons_head] at hk;refine ⟨v,hy,Kh,tT bY nh uF r _ w (fun hl=>?_) hk (fun j hj=>hl j (List.mem_cons_of_mem _ hj)) (List.pairwise_cons.2 ⟨fun y hy=>ow.1 y (List.mem_cons_of_mem _ hy),ym.2⟩)⟩;obtain ⟨l,z,DN,hz,hL⟩:=hl;refine hC ⟨l,z,?_,hz,hL⟩;rcases List.mem_cons.1 DN with h | h
   ·simp [h]
   ·simp [h]
end
theorem rA {ops:Array Oper}:∀ {l:List Nat},(∀ i∈l,i < ops.size)->(selL ops.toList l).map (·.1)=l
 | [],_=>rfl
 | i :: r,h=>by
  have hi:ops.toList[i]? = some (ops[i]'(h i (by simp))):=by
   rw [gE (by simpa using h i (by simp))];simp
  unfold selL;rw [hi];simp only [List.map_cons];rw [rA fun j hj=>h j (List.mem_cons_of_mem _ hj)]
def goX (X:Ctx) (D:Dr) (x:Nat) (tail:List Nat):List Nat->Bool->List (Nat × Sl)->St->Prop
 | [],c,s0,st=>
  match c with
  | true=>goD X D 3000 true (selL D.ops.toList (x :: tail)) s0 st
  | false=>False
 | i :: r,c,s0,st=>
  match D.ops.toList[i]? with
  | none=>False
  | some o=>
   match eI o.op with
   | true=>goD X D 3000 c (selL D.ops.toList (x :: i :: (r ++ tail))) s0 st/\goD X ⟨D.ops,D.W,D.k,D.fZ,some (goX X D x tail r)⟩ 3000 c [(i,o)] s0 st
   | false=>goD X ⟨D.ops,D.W,D.k,D.fZ,some (goX X D x tail r)⟩ 3000 c [(i,o)] s0 st
def OU (ops:Array Oper) (W:Nat->Bool) (x:Nat) (pre tail:List Nat):Bool:=
 yN ops (x :: (pre ++ tail)) && mi ops W (plc (x :: (pre ++ tail))) && oV ops W (plc (x :: (pre ++ tail))) (exX ops x) && Lw ops x (plc (x :: (pre ++ tail))) &&
  (match ops[x]? with | some o=>eI o.op && !iY o.op | none=>false) && pre.all (fun i=>!ordB ops ops.size x i) && tail.all (fun i=>match ops[i]? with | some o=>ordB ops ops.size x i || !eI o.op | none=>false)
section
variable {X:Ctx} {D:Dw} {x:Nat} {tail:List Nat} {π:Nat->Nat}
theorem tU (hD:nD D.E0 D.d.fZ.bx D.wr) (bY:∀ (j:Nat) (o:Oper) cs b,D.d.ops[j]? = some o->o.op ≠ .select cs b) (nh:∀ j i x y,π j < π i->D.d.ops[i]? = some x->D.d.ops[j]? = some y->iY x.op=true->D.d.W j=false)
  (uF:∀ (i:Nat) (o:Oper),D.d.ops[i]? = some o->i≠x->eI o.op=false->ordB D.d.ops D.d.ops.size x i=false->dH D.d.ops D.d.W x i=true)
  (nN:∀ i∈tail,i≠x/\∃ o,D.d.ops[i]? = some o/\(ordB D.d.ops D.d.ops.size x i=true∨eI o.op=false)) (rS:x < D.d.ops.size):∀ (pre:List Nat),(∀ i∈pre,i < D.d.ops.size/\ordB D.d.ops D.d.ops.size x i=false)->(x :: (pre ++ tail)).Pairwise (fun a b=>π a < π b) ->
  ∀ c s0 st,goX X D.d x tail pre c s0 st->∀ E a w,dC X D c E s0 st a w->runX X.P D.d.ops D.d.W D.C (D.Q X) x (pre ++ tail) a w
 | [],_,hp,c,s0,st,hg,E,a,w,h=>by
  have Sg:∀ i∈x :: tail,i < D.d.ops.size:=fun i hi=>by
   rcases List.mem_cons.1 hi with rfl | hi
   ·exact rS
   ·obtain ⟨_,o,ho,_⟩:=nN i hi;exact (Array.getElem?_eq_some_iff.1 ho).1
  simp only [goX] at hg;split at hg
  ·have h1:=cH hD 3000 true _ _ _ hg (fun p hp=>by simpa using qg hp) E a w h;rw [rA Sg] at h1;exact tT bY nh uF tail a w (fun _=>h.cc rfl) h1 nN hp
  ·exact hg.elim
 | i :: r,FY,hp,c,s0,st,hg,E,a,w,h=>by
  obtain ⟨NI,hnd⟩:=FY i (by simp);have ho:D.d.ops[i]? = some D.d.ops[i]:=Array.getElem?_eq_getElem NI;have gk:D.d.ops.toList[i]? = some D.d.ops[i]:=by simpa using ho
  have ow:=List.pairwise_cons.1 hp;have ym:=List.pairwise_cons.1 ow.2
  have ez:∀ j∈x :: i :: (r ++ tail),j < D.d.ops.size:=fun j hj=>by
   rcases List.mem_cons.1 hj with rfl | hj
   ·exact rS
   ·rcases List.mem_cons.1 hj with rfl | hj
    ·exact NI
    ·rcases List.mem_append.1 hj with hj | hj
     ·exact (FY j (by simp [hj])).1
     ·obtain ⟨_,o,ho,_⟩:=nN j hj;exact (Array.getElem?_eq_some_iff.1 ho).1
  have ih:=tU hD bY nh uF nN rS r (fun j hj=>FY j (by simp [hj])) (List.pairwise_cons.2 ⟨fun y hy=>ow.1 y (List.mem_cons_of_mem _ hy),ym.2⟩);generalize D.d.ops[i]=o at ho gk
  have vi:∀ c s0 st,goD X ⟨D.d.ops,D.d.W,D.d.k,D.d.fZ,some (goX X D.d x tail r)⟩ 3000 c [(i,o)] s0 st->dC X D c E s0 st a w->runT X.P D.d.ops D.d.W D.C (fun a w=>runX X.P D.d.ops D.d.W D.C (D.Q X) x (r ++ tail) a w) [i] a w:=fun c s0 st hg h=>by
   have h1:=cH (D:=⟨⟨D.d.ops,D.d.W,D.d.k,D.d.fZ,some (goX X D.d x tail r)⟩,D.E0,D.wr⟩) hD 3000 c [(i,o)] s0 st hg (fun p hp=>by
    rw [List.mem_singleton] at hp;rw [hp]
    exact ho) E a w ⟨h.rel,h.x,h.β,h.t0,h.cc⟩
   refine iH ?_ h1;rintro a w ⟨c,E,s0,st,h2,h3⟩;exact ih c s0 st h3 E a w ⟨h2.rel,h2.x,h2.β,h2.t0,h2.cc⟩
  simp only [goX,gk] at hg;simp only [List.cons_append,runX,ho];rw [if_neg (by simp [hnd])];split at hg
  ·rename_i hE;obtain ⟨h1,h2⟩:=hg;rw [if_pos hE];have h3:=cH hD 3000 c _ _ _ h1 (fun p hp=>by simpa using qg hp) E a w h;rw [rA ez] at h3;refine ⟨h3,?_⟩;have h4:=vi c s0 st h2 h;simp only [runT,ho,hE,if_true] at h4;exact h4
  ·rename_i hE;rw [if_neg (by simp [hE])];have h4:=vi c s0 st hg h;simp only [runT,ho,hE,Bool.false_eq_true,if_false] at h4;exact h4
theorem FZ (x:Nat) (l:List Nat):plc (x :: l) x=0:=by simp [plc]
theorem H7 {x j:Nat} (l:List Nat) (h:j≠x):0 < plc (x :: l) j:=by
 have:Nat.beq x j=false:=by
  cases hb:Nat.beq x j
  ·rfl
  ·exact (h (Nat.eq_of_beq_eq_true hb).symm).elim
 simp [plc,this]
theorem lO {s S:St} (h:bV s S:=by refine ⟨rfl,rfl,?_⟩;repeat' (first | exact trivial | refine ⟨rfl,?_⟩)):s=S∨bV s S:=.inr h
theorem vm {id:Nat} {ops:Array Oper} {k:List It} {st:St} (W:Nat->Bool) (x:Nat) (pre tail:List Nat) (hm:X.P.follows .mixedOrders=true) (hc:OU ops W x pre tail=true) (S:St)
  (h:goX X ⟨ops,W,[.pK fun s=>s=S∨bV s S],st,none⟩ x tail pre true st.sl st) (hk:go X 4000 k S):lf X id ops k st:=by
 intro E a w hr;have ff:=gJ hr;simp only [OU,Bool.and_eq_true] at hc;obtain ⟨⟨⟨⟨⟨⟨hL,hO⟩,hS⟩,hDD⟩,hX⟩,FY⟩,OV⟩:=hc
 cases Gp:ops[x]? with
 | none=>rw [Gp] at hX;cases hX
 | some xo=>
 rw [Gp] at hX;simp only [Bool.and_eq_true,Bool.not_eq_true'] at hX;obtain ⟨Lu,H5⟩:=hX;simp only [yN,Bool.and_eq_true,List.all_eq_true,Nat.blt_eq,Nat.ble_eq,beq_iff_eq,List.mem_range] at hL;obtain ⟨⟨⟨⟨_,IH⟩,Pn⟩,hlen⟩,Qu⟩:=hL;have hp:=my Qu;have ow:=List.pairwise_cons.1 hp;have bY:=ml hO;have nh:=mj hO
 have GD:∀ j,j≠x->plc (x :: (pre ++ tail)) x < plc (x :: (pre ++ tail)) j:=fun j hj=>by
  rw [FZ];exact H7 _ hj
 have rS:=(Array.getElem?_eq_some_iff.1 Gp).1;have TX:=hS;simp only [oV,List.all_eq_true,List.mem_range,Bool.or_eq_true,Bool.not_eq_true'] at TX
 have uF:∀ (i:Nat) (o:Oper),ops[i]? = some o->i≠x->eI o.op=false->ordB ops ops.size x i=false->dH ops W x i=true:=fun i o ho aQ he hd=>by
  rcases TX i (Array.getElem?_eq_some_iff.1 ho).1 x rS with ((h1 | h1) | h1) | h1
  ·have:¬ Nat.blt (plc (x :: (pre ++ tail)) x) (plc (x :: (pre ++ tail)) i)=true:=by simp [h1]
   have:=GD i aQ;simp at *;omega
  ·simp [exX,ho,he] at h1
  ·rw [hd] at h1;cases h1
  ·exact h1
 have aQ:∀ i∈pre ++ tail,i≠x:=fun i hi e=>by
  have:=ow.1 i hi;rw [e] at this;omega
 have hs:=jo ff (ops:=ops) (W:=W) (k:=[.pK fun s=>s=S∨bV s S])
 have bz:=tU (D:=⟨⟨ops,W,[.pK fun s=>s=S∨bV s S],st,none⟩,E,w.drew⟩) ff.env.em bY nh uF (fun i hi=>by
  refine ⟨aQ i (List.mem_append_right _ hi),?_⟩;have:=List.all_eq_true.1 OV i hi
  cases ho:ops[i]? with
  | none=>rw [ho] at this;cases this
  | some o=>
   rw [ho] at this;simp only [Bool.or_eq_true,Bool.not_eq_true'] at this;exact ⟨o,rfl,this⟩) rS pre (fun i hi=>by
  refine ⟨Pn i (by simp [hi]),?_⟩;have:=List.all_eq_true.1 FY i hi
  simpa using this) hp true st.sl st h E a w.drew hs
 refine wp_region_any hm ?_;refine FX (C:=CC E st.bx w.drew) (Q:=kq X [.pK fun s=>s=S∨bV s S] .normal) (π:=plc (x :: (pre ++ tail))) Gp Lu H5 GD hO hS hDD (fun a w hq=>?_) ops.size (Array.replicate ops.size false) (pre ++ tail) a _ (by simp) ?_ (by simp [rS]) ?_ hp ?_ (fun _=>hs.cc rfl) bz
 ·obtain ⟨lW,E1,bq,hJ⟩:=hq;rcases hJ with rfl | hJ
  ·exact go_sound 4000 _ _ hk E1 a w bq
  ·exact go_sound 4000 _ _ hk E1 a w (mA bq hJ)
 ·intro i o ho hl;have:i < ops.size:=(Array.getElem?_eq_some_iff.1 ho).1;simp [this] at hl
 ·intro i;constructor
  ·intro hi;have:=Pn i (by simp [List.mem_append.1 hi]);exact ⟨aQ i hi,this,by simp [this]⟩
  ·rintro ⟨h1,h2,_⟩;have:=IH i h2;have h4:i=x∨i∈pre ++ tail:=by simpa using this
   exact h4.resolve_left h1
 ·simp only [List.length_cons] at hlen;exact hlen
end
end Dv
end Go.Proofs.YtfifjddnnmfeoaaGreat
namespace Go.Proofs.YtfifjddnnmfeoaaGreat
namespace Dv
open Go Go.RowKit
inductive iR
 | fin
 | op (i:Nat) (t:iR)
 | ev (i:Nat) (t alt:iR)
 | stop
section
variable {P:Program} {ops:Array Oper} {C:World->Prop} {Q:Act->World->Prop} {W:Nat->Bool}
def rdy (ops:Array Oper) (rem:List Nat) (i:Nat):Bool:=
 match ops[i]? with
 | some o=>o.after.toList.all fun e=>!Region.binds .any e || !rem.contains e.on
 | none=>false
def H8 (ops:Array Oper) (i:Nat):Bool:=match ops[i]? with | some o=>eI o.op | none=>false
def chkA (ops:Array Oper):iR->List Nat->Option (List Nat)->Bool
 | .fin,rem,m=>m.isNone && rem.isEmpty
 | .op i t,rem,m=>m.isNone && (rem.contains i && (!H8 ops i && (rdy ops rem i && chkA ops t (rem.erase i) none)))
 | .ev i t alt,rem,m=>rem.contains i && (H8 ops i && (rdy ops rem i && (chkA ops t (rem.erase i) none && chkA ops alt rem (some (i :: m.getD [])))))
 | .stop,rem,m=>match m with
  | some seen=>rem.all fun j=>!rdy ops rem j || seen.contains j
  | none=>false
def zT (ops:Array Oper) (W:Nat->Bool):Bool:=
 (List.range ops.size).all fun i=>(List.range ops.size).all fun j=>
  Nat.beq i j || ordB ops ops.size i j || ordB ops ops.size j i || (H8 ops i && H8 ops j) || (dH ops W j i && dH ops W i j)
def runS (P:Program) (ops:Array Oper) (W:Nat->Bool) (C:World->Prop) (Q:Act->World->Prop):iR->Act->World->Prop
 | .fin,a,w=>Q a w
 | .op i t,a,w=>∃ o,ops[i]? = some o/\∃ v,Yl P ops C o v a/\(iY o.op=true->C w)/\runS P ops W C Q t (a.put o.dst v) w
 | .ev i t alt,a,w=>(∃ o,ops[i]? = some o/\cz P ops o a w fun a' w'=>(W i=false->C w->C w')/\runS P ops W C Q t a' w')/\runS P ops W C Q alt a w
 | .stop,_,_=>True
def H9 (P:Program) (ops:Array Oper) (W:Nat->Bool) (C:World->Prop) (Q:Act->World->Prop) (rem:List Nat) (a:Act) (w:World):Prop:=∃ T,chkA ops T rem none=true/\runS P ops W C Q T a w
def Cl (ops:Array Oper) (rem:List Nat):Prop:=∀ (k:Nat) o,ops[k]? = some o->k ∉ rem->∀ e∈o.after,Region.binds .any e=true->e.on ∉ rem
theorem iS {rem:List Nat} {i:Nat} (h:rdy ops rem i=true):∃ o,ops[i]? = some o/\∀ e∈o.after,Region.binds .any e=true->e.on ∉ rem:=by
 unfold rdy at h;split at h
 ·rename_i o ho;refine ⟨o,ho,fun e he hb=>?_⟩;have:=List.all_eq_true.1 h e (by simpa using he);rw [hb] at this;simpa using this
 ·cases h
theorem kV {rem:List Nat} {i j:Nat} (h:rdy ops rem i=true):rdy ops (rem.erase j) i=true:=by
 obtain ⟨o,ho,ha⟩:=iS h;unfold rdy;rw [ho];simp only [List.all_eq_true,Bool.or_eq_true,Bool.not_eq_true'];intro e he;cases hb:Region.binds .any e
 ·exact .inl rfl
 ·right;have:=ha e (by simpa using he) hb;simp only [List.contains_eq_mem,decide_eq_false_iff_not];exact fun hm=>this (List.mem_of_mem_erase hm)
theorem rB {rem:List Nat} (hn:rem.Nodup) (hc:Cl ops rem) {i:Nat} (h:rdy ops rem i=true):Cl ops (rem.erase i):=by
 intro k o ho hk e he hb hm;have jS:=List.mem_of_mem_erase hm;by_cases gI:k=i
 ·subst gI;obtain ⟨o',ur,ha⟩:=iS h;rw [ho] at ur;simp only [oI] at ur;subst ur;exact ha e he hb jS
 ·exact hc k o ho (fun hkm=>hk ((List.mem_erase_of_ne gI).2 hkm)) e he hb jS
theorem zU {rem:List Nat} (hc:Cl ops rem):∀ (n:Nat) (j k:Nat) o,ops[k]? = some o->(∀ e∈o.after,Region.binds .any e=true->e.on ∉ rem)->ordB ops n j k=true->j ∉ rem
 | 0,j,k,o,_,_,h=>by simp [ordB] at h
 | n + 1,j,k,o,ho,ez,h=>by
  simp only [ordB,ho,List.any_eq_true,Bool.and_eq_true,Bool.or_eq_true] at h;obtain ⟨e,he,hb,hj⟩:=h;have BJ:e∈o.after:=by simpa using he
  have h1:=ez e BJ hb;rcases hj with hj | hj
  ·have:e.on=j:=by simpa using hj
   rw [<- this];exact h1
  ·cases G3:ops[e.on]? with
   | none=>
    cases n with
    | zero=>simp [ordB] at hj
    | succ n=>simp [ordB,G3] at hj
   | some o'=>exact zU hc n j e.on o' G3 (hc e.on o' G3 h1) hj
theorem xQ {rem:List Nat} (hP:zT ops W=true) (hc:Cl ops rem) {i j:Nat} (hi:rdy ops rem i=true) (hj:rdy ops rem j=true) (ja:i∈rem) (pq:j∈rem) (gv:i≠j) (J3:H8 ops i=false∨H8 ops j=false):dH ops W j i=true:=by
 obtain ⟨o,ho,ha⟩:=iS hi;obtain ⟨o',ur,ha'⟩:=iS hj;simp only [zT,List.all_eq_true,List.mem_range] at hP;have h1:=hP i (Array.getElem?_eq_some_iff.1 ho).1 j (Array.getElem?_eq_some_iff.1 ur).1;simp only [Bool.or_eq_true,Bool.and_eq_true,Nat.beq_eq] at h1;rcases h1 with (((h1 | h1) | h1) | h1) | h1
 ·exact (gv h1).elim
 ·exact (zU hc _ _ _ o' ur ha' h1 ja).elim
 ·exact (zU hc _ _ _ o ho ha h1 pq).elim
 ·rcases J3 with h | h
  ·rw [h] at h1;simp at h1
  ·rw [h] at h1;simp at h1
 ·exact h1.1
theorem vo {i:Nat} {o:Oper} (h:ops[i]? = some o):H8 ops i=eI o.op:=by unfold H8;rw [h]
theorem tV (bY:∀ (j:Nat) (o:Oper) cs b,ops[j]? = some o->o.op ≠ .select cs b) (hP:zT ops W=true) {i:Nat} {o:Oper} (hi:ops[i]? = some o) (hE:eI o.op=false) :
  ∀ (T:iR) (rem:List Nat) (a:Act) (w:World),rem.Nodup->Cl ops rem->chkA ops T rem none=true->runS P ops W C Q T a w->i∈rem->rdy ops rem i=true ->
   ∃ v,Yl P ops C o v a/\(iY o.op=true->C w)/\H9 P ops W C Q (rem.erase i) (a.put o.dst v) w
 | .fin,rem,a,w,_,_,hc,_,ja,_=>by
  simp only [chkA,Bool.and_eq_true,List.isEmpty_iff] at hc;rw [hc.2] at ja;cases ja
 | .stop,rem,a,w,_,_,hc,_,_,_=>by simp [chkA] at hc
 | .ev j t alt,rem,a,w,hn,dZ,hc,hr,ja,F0=>by
  exfalso
  have key:∀ (T:iR) (seen:List Nat),(∀ k∈seen,H8 ops k=true)->chkA ops T rem (some seen)=true->False:=by
   intro T
   induction T with
   | fin=>intro seen _ h;simp [chkA] at h
   | op=>intro seen _ h;simp [chkA] at h
   | ev k t alt _ ih=>
    intro seen hs h;simp only [chkA,Bool.and_eq_true,Option.getD_some] at h
    exact ih (k :: seen) (fun q hq=>by
     rcases List.mem_cons.1 hq with rfl | hq
     ·exact h.2.1
     ·exact hs q hq) h.2.2.2.2
   | stop=>
    intro seen hs h;simp only [chkA,List.all_eq_true,Bool.or_eq_true,Bool.not_eq_true'] at h;rcases h i ja with h1 | h1
    ·rw [F0] at h1;cases h1
    ·have:=hs i (by simpa using h1);rw [vo hi,hE] at this;cases this
  simp only [chkA,Bool.and_eq_true,Option.getD_none] at hc;exact key alt [j] (fun k hk=>by rw [List.mem_singleton] at hk;rw [hk];exact hc.2.1) hc.2.2.2.2
 | .op j t,rem,a,w,hn,dZ,hc,hr,ja,F0=>by
  simp only [chkA,Bool.and_eq_true,Bool.not_eq_true'] at hc;obtain ⟨_,pq,Dd,Lz,B2⟩:=hc;have pq:j∈rem:=by simpa using pq
  simp only [runS] at hr;obtain ⟨y,hy,v,Aw,PN,PO⟩:=hr;by_cases gv:i=j
  ·subst gv;rw [hi] at hy;simp only [oI] at hy;subst hy;exact ⟨v,Aw,PN,t,B2,PO⟩
  ·have ou:=xQ hP dZ F0 Lz ja pq gv (.inr Dd);obtain ⟨yE,C8,_,_⟩:=cM ou hy hi;obtain ⟨u,hu,TD,T',Sh,Ia⟩:=tV bY hP hi hE t (rem.erase j) (a.put y.dst v) w (hn.erase j) (rB hn dZ Lz) B2 PO ((List.mem_erase_of_ne gv).2 ja) (kV F0);have BI:=fun cs b=>bY i o cs b hi;have L6:=fun cs b=>bY j y cs b hy;obtain ⟨_,hdd,_⟩:=Oper.apart_spec yE;refine ⟨u,(Yl.same yE BI).1 hu,TD,.op j T',?_,?_⟩
   ·simp only [chkA,Bool.and_eq_true,Bool.not_eq_true'];refine ⟨rfl,?_,Dd,kV Lz,?_⟩
    ·simpa using (List.mem_erase_of_ne (Ne.symm gv)).2 pq
    ·rw [List.erase_comm];exact Sh
   ·simp only [runS];refine ⟨y,hy,v,(Yl.same C8 L6).2 Aw,PN,?_⟩;rw [<- Act.put_comm a v u hdd];exact Ia
theorem xR {e:Nat}:∀ (T:iR) (rem:List Nat) (seen:List Nat) (a:Act) (w:World),chkA ops T rem (some seen)=true->runS P ops W C Q T a w->e∈rem->rdy ops rem e=true->e ∉ seen ->
  ∃ o t,ops[e]? = some o/\chkA ops t (rem.erase e) none=true/\cz P ops o a w fun a' w'=>(W e=false->C w->C w')/\runS P ops W C Q t a' w'
 | .fin,rem,seen,a,w,hc,_,_,_,_=>by simp [chkA] at hc
 | .op _ _,rem,seen,a,w,hc,_,_,_,_=>by simp [chkA] at hc
 | .stop,rem,seen,a,w,hc,_,hm,hr,hs=>by
  simp only [chkA,List.all_eq_true,Bool.or_eq_true,Bool.not_eq_true'] at hc;rcases hc e hm with h | h
  ·rw [hr] at h;cases h
  ·exact (hs (by simpa using h)).elim
 | .ev i t alt,rem,seen,a,w,hc,hr,hm,F0,hs=>by
  simp only [chkA,Bool.and_eq_true,Option.getD_some] at hc;simp only [runS] at hr;obtain ⟨⟨o,ho,aZ⟩,Si⟩:=hr;by_cases I5:i=e
  ·subst I5;exact ⟨o,t,ho,hc.2.2.2.1,aZ⟩
  ·exact xR alt rem (i :: seen) a w hc.2.2.2.2 Si hm F0 (fun h=>by
    rcases List.mem_cons.1 h with h | h
    ·exact I5 h.symm
    ·exact hs h)
theorem A7 (bY:∀ (j:Nat) (o:Oper) cs b,ops[j]? = some o->o.op ≠ .select cs b) (hP:zT ops W=true) {i:Nat} {o:Oper} (hi:ops[i]? = some o) (hE:eI o.op=true) :
  ∀ (T:iR) (rem:List Nat) (a:Act) (w:World),rem.Nodup->Cl ops rem->chkA ops T rem none=true->runS P ops W C Q T a w->i∈rem->rdy ops rem i=true ->
   cz P ops o a w (fun a' w'=>(W i=false->C w->C w')/\H9 P ops W C Q (rem.erase i) a' w')
 | .fin,rem,a,w,_,_,hc,_,ja,_=>by
  simp only [chkA,Bool.and_eq_true,List.isEmpty_iff] at hc;rw [hc.2] at ja;cases ja
 | .stop,rem,a,w,_,_,hc,_,_,_=>by simp [chkA] at hc
 | .ev j t alt,rem,a,w,hn,dZ,hc,hr,ja,F0=>by
  simp only [chkA,Bool.and_eq_true,Option.getD_none] at hc;simp only [runS] at hr;obtain ⟨⟨y,hy,aZ⟩,Si⟩:=hr;by_cases gv:i=j
  ·subst gv;rw [hi] at hy;simp only [oI] at hy;subst hy;exact bu (fun a' w' h=>⟨h.1,t,hc.2.2.2.1,h.2⟩) aZ
  ·obtain ⟨o',t',ur,B2,hs⟩:=xR alt rem [j] a w hc.2.2.2.2 Si ja F0 (by simpa using gv);rw [hi] at ur;simp only [oI] at ur;subst ur;exact bu (fun a' w' h=>⟨h.1,t',B2,h.2⟩) hs
 | .op j t,rem,a,w,hn,dZ,hc,hr,ja,F0=>by
  simp only [chkA,Bool.and_eq_true,Bool.not_eq_true'] at hc;obtain ⟨_,pq,Dd,Lz,B2⟩:=hc;have pq:j∈rem:=by simpa using pq
  simp only [runS] at hr;obtain ⟨y,hy,v,Aw,PN,PO⟩:=hr
  have gv:i≠j:=by
   rintro rfl;rw [vo hi,hE] at Dd;cases Dd
  have ou:=xQ hP dZ F0 Lz ja pq gv (.inr Dd);obtain ⟨yE,C8,_,Mz⟩:=cM ou hy hi;have BI:=fun cs b=>bY i o cs b hi;have L6:=fun cs b=>bY j y cs b hy;have ih:=A7 bY hP hi hE t (rem.erase j) (a.put y.dst v) w (hn.erase j) (rB hn dZ Lz) B2 PO ((List.mem_erase_of_ne gv).2 ja) (kV F0);refine bu ?_ (fp ((gw yE BI).1 ih));rintro a' w' ⟨⟨k0,T',Sh,Ia⟩,u,rfl⟩;refine ⟨k0,.op j T',?_,?_⟩
  ·simp only [chkA,Bool.and_eq_true,Bool.not_eq_true'];refine ⟨rfl,?_,Dd,kV Lz,?_⟩
   ·simpa using (List.mem_erase_of_ne (Ne.symm gv)).2 pq
   ·rw [List.erase_comm];exact Sh
  ·simp only [runS];refine ⟨y,hy,v,(Yl.same (u:=u) C8 L6).2 Aw,fun hL=>?_,Ia⟩
   have MA:W i=false:=by
    cases hw:W i
    ·rfl
    ·exact (Mz ⟨hL,hw⟩).elim
   exact k0 MA (PN hL)
theorem F1 {Q':Exit->Act->World->Prop} (bY:∀ (j:Nat) (o:Oper) cs b,ops[j]? = some o->o.op ≠ .select cs b) (hP:zT ops W=true) (hb:∀ (i:Nat) (o:Oper),ops[i]? = some o->∀ e∈o.after,Region.binds .any e=true->e.on < ops.size)
  (hQ:∀ a w,Q a w->Q' .normal a w):∀ (fb:Nat) (listed:Array Bool) (rem:List Nat) (a:Act) (w:World),
  listed.size=ops.size->(∀ i,i∈rem↔i < ops.size/\listed.getD i true=false)->rem.Nodup->Cl ops rem->rem.length<=fb->H9 P ops W C Q rem a w->wpAny P .any ops Q' fb listed a w:=by
 have Ib:∀ (listed:Array Bool) (rem:List Nat),listed.size=ops.size->(∀ i,i∈rem↔i < ops.size/\listed.getD i true=false)->∀ i,i∈Region.ready .any ops listed↔i∈rem/\rdy ops rem i=true:=by
  intro listed rem cg eO i
  have hl:∀ k,k < ops.size->(listed.getD k false=true↔k ∉ rem):=fun k hk=>by
   have eT:k < listed.size:=by rw [cg];exact hk
   rw [eO k];simp [hk,eT]
  rw [mem_ready];constructor
  ·rintro ⟨h1,o,ho,h2⟩;have hi:=(Array.getElem?_eq_some_iff.1 ho).1;refine ⟨(eO i).2 ⟨hi,h1⟩,?_⟩;unfold rdy;rw [ho];simp only [List.all_eq_true,Bool.or_eq_true,Bool.not_eq_true'];intro e he;cases yj:Region.binds .any e
   ·exact .inl rfl
   ·right;have BJ:e∈o.after:=by simpa using he
    simp only [List.contains_eq_mem,decide_eq_false_iff_not];exact (hl _ (hb i o ho e BJ yj)).1 (h2 e BJ yj)
  ·rintro ⟨h1,h2⟩;obtain ⟨o,ho,h3⟩:=iS h2;exact ⟨((eO i).1 h1).2,o,ho,fun e he yj=>(hl _ (hb i o ho e he yj)).2 (h3 e he yj)⟩
 intro fb
 induction fb with
 | zero=>
  intro listed rem a w cg eO hn dZ hlen hr;have:rem=[]:=List.length_eq_zero_iff.1 (by omega);subst this;obtain ⟨T,hT,Ia⟩:=hr;refine ⟨?_,hQ _ _ ?_⟩
  ·rw [List.eq_nil_iff_forall_not_mem];intro i hi;cases ((Ib listed [] cg eO i).1 hi).1
  ·cases T with
   | fin=>exact Ia
   | op i t=>simp [chkA] at hT
   | ev i t alt=>simp [chkA] at hT
   | stop=>simp [chkA] at hT
 | succ fb ih=>
  intro listed rem a w cg eO hn dZ hlen hr;obtain ⟨T,hT,Ia⟩:=hr;refine ⟨fun h0=>?_,fun i hi=>?_⟩
  ·cases T with
   | fin=>exact hQ _ _ Ia
   | op i t=>
    exfalso;simp only [chkA,Bool.and_eq_true] at hT;have:=(Ib listed rem cg eO i).2 ⟨by simpa using hT.2.1,hT.2.2.2.1⟩;rw [h0] at this;cases this
   | ev i t alt=>
    exfalso;simp only [chkA,Bool.and_eq_true] at hT;have:=(Ib listed rem cg eO i).2 ⟨by simpa using hT.1,hT.2.2.1⟩;rw [h0] at this;cases this
   | stop=>simp [chkA] at hT
  ·obtain ⟨ja,PQ⟩:=(Ib listed rem cg eO i).1 hi;obtain ⟨o,ho,_⟩:=iS PQ;have eP:=(Array.getElem?_eq_some_iff.1 ho).1
   have sK:∀ k,k∈rem.erase i↔k < ops.size/\(listed.setIfInBounds i true).getD k true=false:=by
    intro k;rw [List.Nodup.mem_erase_iff hn];by_cases gI:k=i
    ·subst gI;simp [cg,eP]
    ·rw [getD_set_ne true (Ne.symm gI)];simp only [ne_eq,gI,not_false_eq_true,true_and];exact eO k
   have JH:∀ a' w',H9 P ops W C Q (rem.erase i) a' w' -> wpAny P .any ops Q' fb (listed.setIfInBounds i true) a' w':=fun a' w' h=>
    ih _ (rem.erase i) a' w' (by simp [cg]) sK (hn.erase i) (rB hn dZ PQ) (by rw [List.length_erase_of_mem ja];have:=List.length_pos_of_mem ja;omega) h
   refine nG ho ?_
   cases hE:eI o.op with
   | true=>exact bu (fun a' w' h=>JH a' w' h.2) (A7 bY hP ho hE T rem a w hn dZ hT Ia ja PQ)
   | false=>
    obtain ⟨v,hy,hc,h⟩:=tV bY hP ho hE T rem a w hn dZ hT Ia ja PQ;exact eK hy hc (JH _ _ h)
end
def goA (X:Ctx) (D:Dr):iR->Bool->List (Nat × Sl)->St->Prop
 | .fin,_,_,st=>go X 4000 D.k st
 | .op i t,c,s0,st=>
  match D.ops.toList[i]? with
  | some o=>goD X ⟨D.ops,D.W,D.k,D.fZ,some (goA X D t)⟩ 3000 c [(i,o)] s0 st
  | none=>False
 | .ev i t alt,c,s0,st=>
  (match D.ops.toList[i]? with
  | some o=>goD X ⟨D.ops,D.W,D.k,D.fZ,some (goA X D t)⟩ 3000 c [(i,o)] s0 st
  | none=>False)/\goA X D alt c s0 st
 | .stop,_,_,_=>True
def LA (ops:Array Oper):Bool:=Region.noSelect ops && (List.range ops.size).all fun i=>match ops[i]? with | some o=>o.after.toList.all fun e=>!Region.binds .any e || Nat.blt e.on ops.size | none=>true
section
variable {X:Ctx} {D:Dw}
theorem CO (hD:nD D.E0 D.d.fZ.bx D.wr) (hf:D.d.fin=none):∀ (T:iR) (rem:List Nat) m,chkA D.d.ops T rem m=true->∀ c s0 st,goA X D.d T c s0 st->∀ E a w,dC X D c E s0 st a w->runS X.P D.d.ops D.d.W D.C (D.Q X) T a w:=by
 intro T
 have vi:∀ (t:iR) (i:Nat) (o:Oper),D.d.ops[i]? = some o->(∀ c s0 st,goA X D.d t c s0 st->∀ E a w,dC X D c E s0 st a w->runS X.P D.d.ops D.d.W D.C (D.Q X) t a w)->∀ c s0 st,goD X ⟨D.d.ops,D.d.W,D.d.k,D.d.fZ,some (goA X D.d t)⟩ 3000 c [(i,o)] s0 st->∀ E a w,dC X D c E s0 st a w ->
   runT X.P D.d.ops D.d.W D.C (fun a w=>runS X.P D.d.ops D.d.W D.C (D.Q X) t a w) [i] a w:=fun t i o ho ih c s0 st hg E a w h=>by
  have h1:=cH (D:=⟨⟨D.d.ops,D.d.W,D.d.k,D.d.fZ,some (goA X D.d t)⟩,D.E0,D.wr⟩) hD 3000 c [(i,o)] s0 st hg (fun p hp=>by
   rw [List.mem_singleton] at hp;rw [hp]
   exact ho) E a w ⟨h.rel,h.x,h.β,h.t0,h.cc⟩
  refine iH ?_ h1;rintro a w ⟨c,E,s0,st,h2,h3⟩;exact ih c s0 st h3 E a w ⟨h2.rel,h2.x,h2.β,h2.t0,h2.cc⟩
 induction T with
 | fin=>
  intro rem m _ c s0 st hg E a w h;show D.Q X a w;unfold Dw.Q;rw [hf];exact go_sound 4000 _ _ hg E a w h.rel
 | stop=>intro rem m _ c s0 st hg E a w h;exact trivial
 | op i t ih=>
  intro rem m hc c s0 st hg E a w h;simp only [chkA,Bool.and_eq_true,Bool.not_eq_true'] at hc;simp only [goA] at hg;split at hg
  ·rename_i o ho;have ho:D.d.ops[i]? = some o:=by simpa using ho
   have h4:=vi t i o ho (ih _ _ hc.2.2.2.2) c s0 st hg E a w h;have hE:eI o.op=false:=by rw [<- vo ho];exact hc.2.2.1
   simp only [runT,ho,hE,Bool.false_eq_true,if_false] at h4;exact ⟨o,ho,h4⟩
  ·exact hg.elim
 | ev i t alt ih1 ih2=>
  intro rem m hc c s0 st hg E a w h;simp only [chkA,Bool.and_eq_true] at hc;obtain ⟨hg,Gx⟩:=hg;refine ⟨?_,ih2 _ _ hc.2.2.2.2 c s0 st Gx E a w h⟩;split at hg
  ·rename_i o ho;have ho:D.d.ops[i]? = some o:=by simpa using ho
   have h4:=vi t i o ho (ih1 _ _ hc.2.2.2.1) c s0 st hg E a w h;have hE:eI o.op=true:=by rw [<- vo ho];exact hc.2.1
   simp only [runT,ho,hE,if_true] at h4;exact ⟨o,ho,h4⟩
  ·exact hg.elim
end
end Dv
end Go.Proofs.YtfifjddnnmfeoaaGreat
set_option maxRecDepth 100000
namespace Go.Proofs.YtfifjddnnmfeoaaGreat
open Go Go.RowKit
namespace Dv
section
variable {X:Ctx} {st:St}
theorem Ic {id:Nat} {ops:Array Oper} {k:List It} (W:Nat->Bool) (T:iR) (i j:Nat) (hm:X.P.follows .mixedOrders=true) (hc:(LA ops && zT ops W && chkA ops T (List.range ops.size) none)=true) (S:St)
  (h:goA X ⟨ops,W,[.pK fun s=>(s=S∨bV s S)∨bV s (cE i j S)],st,none⟩ T true st.sl st) (gv:(Nat.ble X.n0 i && Nat.ble X.n0 j && Nat.blt i S.bx.length && Nat.blt j S.bx.length)=true) (hk:go X 4000 k S) (hX:X.bt=[]:=by exact rfl):lf X id ops k st:=by
 intro E a w hr;have ff:=gJ hr;simp only [Bool.and_eq_true] at hc;simp only [Bool.and_eq_true,Nat.ble_eq,Nat.blt_eq] at gv;obtain ⟨⟨hN,hP⟩,hT⟩:=hc;simp only [LA,Bool.and_eq_true,List.all_eq_true,List.mem_range] at hN;have hs:=jo ff (ops:=ops) (W:=W) (k:=[.pK fun s=>(s=S∨bV s S)∨bV s (cE i j S)]);have bz:=CO (D:=⟨⟨ops,W,[.pK fun s=>(s=S∨bV s S)∨bV s (cE i j S)],st,none⟩,E,w.drew⟩) ff.env.em rfl T _ _ hT true st.sl st h E a w.drew hs;refine wp_region_any hm ?_;refine F1 (C:=CC E st.bx w.drew) (Q:=kq X [.pK fun s=>(s=S∨bV s S)∨bV s (cE i j S)] .normal) (Region.noSelect_spec hN.1) hP (fun i o ho e he hb=>?_) (fun a w hq=>?_) ops.size (Array.replicate ops.size false) (List.range ops.size) a _ (by simp) ?_ List.nodup_range ?_ (by simp) ⟨T,hT,bz⟩
 ·have h1:=hN.2 i (Array.getElem?_eq_some_iff.1 ho).1;rw [ho] at h1;have h2:=List.all_eq_true.1 h1 e (by simpa using he);rw [hb] at h2;simpa using h2
 ·obtain ⟨lW,E1,bq,hJ⟩:=hq;rcases hJ with (rfl | hJ) | hJ
  ·exact go_sound 4000 _ _ hk E1 a w bq
  ·exact go_sound 4000 _ _ hk E1 a w (mA bq hJ)
  ·obtain ⟨E2,p9⟩:=uI hX (mA bq hJ) gv.1.1.1 gv.1.1.2 gv.1.2 gv.2;exact go_sound 4000 _ _ hk E2 a w p9
 ·intro i;simp only [List.mem_range];constructor
  ·intro hi;exact ⟨hi,by simp [hi]⟩
  ·intro hi;exact hi.1
 ·intro k o ho hk;exact (hk (List.mem_range.2 (Array.getElem?_eq_some_iff.1 ho).1)).elim
theorem iT {id:Nat} {ops:Array Oper} {k:List It} (T:iR) (i j:Nat) (hm:X.P.follows .mixedOrders=true) (hc:(LA ops && zT ops (IG ops) && chkA ops T (List.range ops.size) none)=true) (S:St)
  (h:goA X ⟨ops,IG ops,[.pK fun s=>(s=S∨bV s S)∨bV s (cE i j S)],st,none⟩ T true st.sl st) (gv:(Nat.ble X.n0 i && Nat.ble X.n0 j && Nat.blt i S.bx.length && Nat.blt j S.bx.length)=true) (hk:go X 4000 k S) (hX:X.bt=[]:=by exact rfl):lf X id ops k st:=
 Ic (IG ops) T i j hm hc S h gv hk hX
end
end Dv
namespace Dv
section
variable {X:Ctx} {st:St}
end
end Dv
end Go.Proofs.YtfifjddnnmfeoaaGreat
set_option maxRecDepth 100000
namespace Go.Proofs.YtfifjddnnmfeoaaGreat
open Go Go.RowKit Dv Tryz
abbrev rC (r:FT):DV:=.dV [.agg (cd r.1),Ft.d r.2]
def rwA:Rw->Int
 | .mk _ a _ _ _ _=>a
theorem dM (e:Int) (r:Rw):ba Tryz.prog 113 [.v (.int .i64 e),.agg (dRw r)] (rC (cp e (rwA r))):=by
 obtain ⟨k,a,n,s,keys,ks⟩:=r;refine ev_go (P:=Tryz.prog) tt tt_ok 5000 11 [.cell 4 45,.cell 5 54] Tryz.func113 rfl Tryz.ntmps113 rfl (nL rfl) (fun E9 w9 hn9 hm9=>?_);refine eo [1,2] (fun _=>false) mo (by decide +kernel) ?_;exact ⟨_,ax,rfl⟩
theorem oM (k a n:Int) (s:ByteArray) (keys:List Wd) (ks:List Rw):ba Tryz.prog 115 [.agg (dRw (.mk k a n s keys ks))] (.v (.bool (decide (k=6) && decide (ks.length=1)))):=by
 have hl:(dRws ks).length=ks.length:=by rw [iP,List.length_map]
 refine ev_go (P:=Tryz.prog) tt tt_ok 5000 12 [.tmp 2] Tryz.func115 rfl Tryz.ntmps115 rfl (nL rfl) (fun E9 w9 hn9 hm9=>?_);refine (congrArg (fun b=>DV.v (.bool b)) ?_:_=_);rw [av,hl];congr 1;exact decide_eq_decide.2 (by omega)
theorem vp (d:Nd) (h1:d.ag=1) (k a n:Int) (s:ByteArray) (keys:List Wd) (ks:List Rw):ba Tryz.prog 52 [.agg (dRw (.mk k a n s keys ks))] (rC (ckLeaf d k a n s)):=by
 have hb:=dM 14 (Rw.mk k a n s keys ks);unfold ckLeaf;rw [if_pos h1];refine ev_go (P:=Tryz.prog) tt tt_ok 5000 30 [.cell 2 45,.cell 3 54] Tryz.func52 rfl Tryz.ntmps52 rfl (nL rfl) (fun E9 w9 hn9 hm9=>?_);refine br (fun c=>?_) (fun c=>?_)
 ·have c:k=1/\s=ln:=by
   have c:k=1/\s=⟨#[116,114,117,101]⟩:=by simpa [av] using c
   exact c
  rw [if_pos c];exact ⟨_,ax,rfl⟩
 have c1:¬ (k=1/\s=ln):=by
  intro h;have h2:s=⟨#[116,114,117,101]⟩:=h.2;simp [av,h.1,h2] at c
 rw [if_neg c1];refine br (fun c=>?_) (fun c=>?_)
 ·have c:k=1/\s=jH:=by
   have c:k=1/\s=⟨#[102,97,108,115,101]⟩:=by simpa [av] using c
   exact c
  rw [if_pos c];exact ⟨_,ax,rfl⟩
 have c2:¬ (k=1/\s=jH):=by
  intro h;have h2:s=⟨#[102,97,108,115,101]⟩:=h.2;simp [av,h.1,h2] at c
 rw [if_neg c2];refine call_p fH (hb) ax rfl ?_;exact ⟨_,ax,rfl⟩
theorem se (d:Nd) (h2:d.ag=2) (k a n:Int) (s:ByteArray) (keys:List Wd) (ks:List Rw):ba Tryz.prog 53 [.agg (jR d),.agg (dRw (.mk k a n s keys ks))] (rC (ckLeaf d k a n s)):=by
 have hb:=fun e=>dM e (Rw.mk k a n s keys ks);unfold ckLeaf;rw [if_neg (by omega),if_pos h2];obtain ⟨ag,bp,lo,hi,most,ae,es⟩:=d;simp only;refine ev_go (P:=Tryz.prog) tt tt_ok 5000 35 [.cell 4 45,.cell 5 54] Tryz.func53 rfl Tryz.ntmps53 rfl (nL rfl) (fun E9 w9 hn9 hm9=>?_);refine br (fun c=>?_) (fun c=>?_)
 ·have c:k≠2:=by simpa using c
  rw [if_pos c];refine call_p fH (hb 14) ax rfl ?_;exact ⟨_,ax,rfl⟩
 have c:¬ k≠2:=by simpa using c
 rw [if_neg c];refine br (fun c=>?_) (fun c=>?_)
 ·have c:n < lo∨hi < n:=by simpa [aA] using c
  rw [if_pos c];refine call_p fH (hb 20) ax rfl ?_;exact ⟨_,ax,rfl⟩
 ·have c:¬ (n < lo∨hi < n):=by
   intro h;rw [aA,Bool.or_eq_false_iff] at c;have h1:¬ n < lo:=of_decide_eq_false c.1;have h2:¬ hi < n:=of_decide_eq_false c.2;omega
  rw [if_neg c];exact ⟨_,ax,rfl⟩
theorem xS (d:Nd) (h3:d.ag=3) (k a n:Int) (s:ByteArray) (keys:List Wd) (ks:List Rw):ba Tryz.prog 54 [.agg (jR d),.agg (dRw (.mk k a n s keys ks))] (rC (ckLeaf d k a n s)):=by
 have hb:=fun e=>dM e (Rw.mk k a n s keys ks);unfold ckLeaf;rw [if_neg (by omega),if_neg (by omega),if_pos h3];obtain ⟨ag,bp,lo,hi,most,ae,es⟩:=d;simp only;refine ev_go (P:=Tryz.prog) tt tt_ok 5000 29 [.cell 4 45,.cell 5 54] Tryz.func54 rfl Tryz.ntmps54 rfl (nL rfl) (fun E9 w9 hn9 hm9=>?_);refine br (fun c=>?_) (fun c=>?_)
 ·have c:k≠3:=by simpa using c
  rw [if_pos c];refine call_p fH (hb 14) ax rfl ?_;exact ⟨_,ax,rfl⟩
 have c:¬ k≠3:=by simpa using c
 rw [if_neg c];refine br (fun c=>?_) (fun c=>?_)
 ·have c:most < (s.size:Int):=by simpa using c
  rw [if_pos c];refine call_p fH (hb 20) ax rfl ?_;exact ⟨_,ax,rfl⟩
 ·have c:¬ most < (s.size:Int):=by simpa using c
  rw [if_neg c];exact ⟨_,ax,rfl⟩
abbrev LB (L:List ByteArray) (s:ByteArray) (e:Nat):St:=
 ⟨[(0,⟨[],.sl 1 (dz L) none⟩),(1,⟨[],.v (.string s)⟩),(7,⟨[],.v (.int .i64 (dz L).length)⟩),(8,⟨[],.v (.int .i64 e)⟩)],[],[]⟩
theorem vq (L:List ByteArray) (s:ByteArray) (hl:L.length<=1099511627776):ba Tryz.prog 114 [.sl 1 (dz L) none,.v (.string s)] (.v (.int .i64 (oz (dc L s)))):=by
 have ed:=bg L;have hI:dc L s=bi (fun i=>decide (L[i]? = some s)) L.length:=rfl;rw [hI];refine ev_go (P:=Tryz.prog) tt tt_ok 5000 19 [.tmp 4] Tryz.func114 rfl Tryz.ntmps114 rfl (nL rfl) (fun E9 w9 hn9 hm9=>?_);refine bU (fun j st=>∃ e:Nat,st=LB L s e/\e<=L.length/\(∀ c,c < e->decide (L[c]? = some s)=false)/\j=L.length - e) L.length (LB L s 0) (aq ⟨_,rfl⟩ wA rfl rfl rfl wB) ⟨0,rfl,by omega,fun _ h=>by omega,by omega⟩ ?_;rintro j st ⟨e,rfl,he,iG,rfl⟩;refine br (fun hL=>?_) (fun hL=>?_)
 ·have au:e < L.length:=by simpa [ed] using hL
  obtain ⟨x,hx⟩:∃ x,L[e]? = some x:=⟨_,gE au⟩;refine ⟨_,⟨by omega,dN hx⟩,?_⟩;refine br (fun g=>?_) (fun g=>?_)
  ·have g:s=x:=by simpa using g
   rw [dg au (decide_eq_true (by rw [hx,g])) iG];exact (rfl:_=_)
  ·have g:¬ s=x:=by simpa using g
   exact ⟨LB L s (e + 1),(aq ⟨_,rfl⟩ wA rfl rfl rfl (ah au)),L.length - (e + 1),by omega,e + 1,rfl,by omega,fun c jY=>by
     rcases Nat.lt_succ_iff_lt_or_eq.1 jY with h | h
     ·exact iG c h
     ·rw [h,hx];exact decide_eq_false (fun h=>g (Option.some.inj h).symm),rfl⟩
 ·have bI:e=L.length:=by have:=hL;simp [ed] at this;omega
  subst bI;rw [dK iG];exact (rfl:_=_)
theorem xT (d:Nd) (h4:d.ag=4) (hl:d.ae.length<=1099511627776) (k a n:Int) (s:ByteArray) (keys:List Wd) (ks:List Rw):ba Tryz.prog 55 [.agg (jR d),.agg (dRw (.mk k a n s keys ks))] (rC (ckLeaf d k a n s)):=by
 have hb:=fun e=>dM e (Rw.mk k a n s keys ks);have jP:=vq d.ae s hl;unfold ckLeaf;rw [if_neg (by omega),if_neg (by omega),if_neg (by omega)];generalize dc d.ae s=I at jP ⊢;obtain ⟨ag,bp,lo,hi,most,ae,es⟩:=d;simp only at jP ⊢;by_cases c1:k≠1
 ·rw [if_pos c1];refine ev_go (P:=Tryz.prog) tt tt_ok 5000 30 [.cell 4 45,.cell 5 54] Tryz.func55 rfl Tryz.ntmps55 rfl (nL rfl) (fun E9 w9 hn9 hm9=>?_);refine call_p DU (jP) ax rfl ?_;refine br (fun _=>?_) (fun c=>absurd c (by simpa using c1));refine call_p fH (hb 14) ax rfl ?_;exact ⟨_,ax,rfl⟩
 ·rw [if_neg c1]
  cases I with
  | none=>
   refine ev_go (P:=Tryz.prog) tt tt_ok 5000 30 [.cell 4 45,.cell 5 54] Tryz.func55 rfl Tryz.ntmps55 rfl (nL rfl) (fun E9 w9 hn9 hm9=>?_);refine call_p DU (jP) ax rfl ?_;refine br (fun c=>absurd c (by simpa using c1)) (fun _=>?_);refine call_p fH (hb 9) ax rfl ?_;exact ⟨_,ax,rfl⟩
  | some i=>
   obtain ⟨J,hJ⟩:∃ J:Int,J=(i:Int):=⟨_,rfl⟩;have jP:ba Tryz.prog 114 [.sl 1 (dz ae) none,.v (.string s)] (.v (.int .i64 J)):=by rw [hJ];exact jP
   simp only;rw [<- hJ];refine ev_go (P:=Tryz.prog) tt tt_ok 5000 30 [.cell 4 45,.cell 5 54] Tryz.func55 rfl Tryz.ntmps55 rfl (nL rfl) (fun E9 w9 hn9 hm9=>?_);refine call_p DU (jP) ax rfl ?_;refine br (fun c=>absurd c (by simpa using c1)) (fun _=>?_);refine br (fun c=>?_) (fun _=>?_)
   ·exfalso;have c:J < 0:=by simpa using c
    omega
   exact ⟨_,ax,rfl⟩
theorem zV (x:Ed) (s:ByteArray):ba Tryz.prog 176 [.agg (Fi x),.pt [.v (.string s)] 0] (.v (.bool (decide (x.name=s)))):=by
 obtain ⟨en,eb,ea,et,PR,ew,PS,PT,PU,PV⟩:=x;refine ev_go (P:=Tryz.prog) tt tt_ok 5000 8 [.tmp 3] Tryz.func176 rfl Tryz.ntmps176 rfl (nL rfl) (fun E9 w9 hn9 hm9=>?_);exact (rfl:_=_)
abbrev Ie (es:List Ed) (s:ByteArray) (e:Nat):St:=
 ⟨[(0,⟨[],.sl 10 (fy es) none⟩),(1,⟨[],.fn 176 [] [.pt [.v (.string s)] 0]⟩),(7,⟨[],.v (.int .i64 (fy es).length)⟩),(8,⟨[],.v (.int .i64 e)⟩)],[],[]⟩
theorem zW (es:List Ed) (s:ByteArray) (ly:es.length<=1099511627776) :
  ba Tryz.prog 175 [.sl 10 (fy es) none,.fn 176 [] [.pt [.v (.string s)] 0]] (.v (.int .i64 (oz (bi (tS es s) es.length)))):=by
 have ed:=cK es;refine ev_go (P:=Tryz.prog) tt tt_ok 5000 19 [.tmp 4] Tryz.func175 rfl Tryz.ntmps175 rfl (nL rfl) (fun E9 w9 hn9 hm9=>?_);refine bU (fun j st=>∃ e:Nat,st=Ie es s e/\e<=es.length/\(∀ c,c < e->tS es s c=false)/\j=es.length - e) es.length (Ie es s 0) (aq ⟨_,rfl⟩ wA rfl rfl rfl wB) ⟨0,rfl,by omega,fun _ h=>by omega,by omega⟩ ?_;rintro j st ⟨e,rfl,he,iG,rfl⟩;refine br (fun hL=>?_) (fun hL=>?_)
 ·have au:e < es.length:=by simpa [ed] using hL
  obtain ⟨x,hx⟩:∃ x,es[e]? = some x:=⟨_,gE au⟩;have hP:tS es s e=decide (x.name=s):=by unfold tS;rw [hx]
  refine ⟨_,⟨by omega,cX hx⟩,?_⟩;refine call_p Nh (zV x s) ax rfl ?_;refine br (fun g=>?_) (fun g=>?_)
  ·rw [dg au (hP.trans g) iG];exact (rfl:_=_)
  ·exact ⟨Ie es s (e + 1),(aq ⟨_,rfl⟩ wA rfl rfl rfl (ah au)),es.length - (e + 1),by omega,e + 1,rfl,by omega,fun c jY=>by
     rcases Nat.lt_succ_iff_lt_or_eq.1 jY with h | h
     ·exact iG c h
     ·rw [h];exact hP.trans g,rfl⟩
 ·have bI:e=es.length:=by have:=hL;simp [ed] at this;omega
  subst bI;rw [dK iG];exact (rfl:_=_)
theorem CP (d:Nd) (s:ByteArray):bi (tS d.aD s) d.aD.length=vj d s:=by
 unfold vj dc;rw [List.length_map];congr 1;funext i;unfold tS;rw [List.getElem?_map]
 cases d.aD[i]? with
 | none=>simp
 | some e=>simp
theorem oN (d:Nd) (s:ByteArray) (ly:d.aD.length<=1099511627776):ba Tryz.prog 116 [.agg (jR d),.v (.string s)] (.v (.int .i64 (oz (vj d s)))):=by
 have jP:=zW d.aD s ly;rw [CP] at jP;generalize vj d s=I at jP ⊢;obtain ⟨ag,bp,lo,hi,most,ae,es⟩:=d;refine ev_go (P:=Tryz.prog) tt tt_ok 5000 9 [.tmp 4] Tryz.func116 rfl Tryz.ntmps116 rfl (nL rfl) (fun E9 w9 hn9 hm9=>?_);refine nJ Ng jP ax rfl ?_;exact (rfl:_=_)
end Go.Proofs.YtfifjddnnmfeoaaGreat
set_option maxRecDepth 100000
namespace Go.Proofs.YtfifjddnnmfeoaaGreat
open Go Go.RowKit Dv Tryz
end Go.Proofs.YtfifjddnnmfeoaaGreat
set_option maxRecDepth 100000
namespace Go.Proofs.YtfifjddnnmfeoaaGreat
open Go Go.RowKit Dv Tryz
end Go.Proofs.YtfifjddnnmfeoaaGreat
set_option maxRecDepth 100000
namespace Go.Proofs.YtfifjddnnmfeoaaGreat
open Go Go.RowKit Dv Tryz
end Go.Proofs.YtfifjddnnmfeoaaGreat
set_option maxRecDepth 100000
namespace Go.Proofs.YtfifjddnnmfeoaaGreat
open Go Go.RowKit Dv Tryz
end Go.Proofs.YtfifjddnnmfeoaaGreat
set_option maxRecDepth 100000
namespace Go.Proofs.YtfifjddnnmfeoaaGreat
open Go Go.RowKit Dv Tryz
theorem Sj {bx:List (List DV)} {N n0 m0 n i:Nat} {r:List Bool} (hr:r.length=n) (hN:N<=i) (hb:bx[i]? = some (cB r)):Cc bx N n0 m0 (.sl 1 (CB r) none) (.ms i 1 0 n n):=by
 simp only [Cc];refine Or.inr (Or.inr (Or.inl ⟨i,0,n,_,by rw [vb,hr],hN,hb,?_,?_,?_⟩))
 ·rw [xu,List.drop_zero,List.take_of_length_le (by rw [FA,vb];omega)]
 ·intro x hx;simp only [CB,List.mem_map] at hx;obtain ⟨_,_,rfl⟩:=hx;rfl
 ·intro x hx;rw [xu] at hx;obtain ⟨_,_,rfl⟩:=List.mem_map.1 hx;exact .inl ⟨_,rfl⟩
end Go.Proofs.YtfifjddnnmfeoaaGreat
set_option maxRecDepth 100000
namespace Go.Proofs.YtfifjddnnmfeoaaGreat
open Go Go.RowKit Dv Tryz
end Go.Proofs.YtfifjddnnmfeoaaGreat
set_option maxRecDepth 100000
namespace Go.Proofs.YtfifjddnnmfeoaaGreat
open Go Go.RowKit Dv Tryz
def exH (k:Int):Hd:=⟨k,0,0,0,0,[],⟨ap,0⟩⟩
end Go.Proofs.YtfifjddnnmfeoaaGreat
set_option maxRecDepth 100000
namespace Go.Proofs.YtfifjddnnmfeoaaGreat
open Go Go.RowKit Dv Tryz
end Go.Proofs.YtfifjddnnmfeoaaGreat
set_option maxRecDepth 100000
namespace Go.Proofs.YtfifjddnnmfeoaaGreat
open Go Go.RowKit Dv Tryz
end Go.Proofs.YtfifjddnnmfeoaaGreat
set_option maxRecDepth 100000
namespace Go.Proofs.YtfifjddnnmfeoaaGreat
open Go Go.RowKit Dv Tryz
end Go.Proofs.YtfifjddnnmfeoaaGreat
set_option maxRecDepth 100000
namespace Go.Proofs.YtfifjddnnmfeoaaGreat
open Go Go.RowKit Dv Tryz
def Sk (n:Nat):Nat:=min n 4097
def othE (t:List Nat) (k:Nat × Option Nat):Nat:=match k.2 with
 | none=>k.1
 | some j=>if t.getD j 0=0 then 0 else Sk (k.1 + t.getD j 0)
end Go.Proofs.YtfifjddnnmfeoaaGreat
set_option maxRecDepth 100000
namespace Go.Proofs.YtfifjddnnmfeoaaGreat
open Go Go.RowKit
namespace Dv
section
variable {X:Ctx} {ops:Array Oper} {bx:List (List DV)} {tk:List TkE} {W:Nat->Bool} {k:List It} {s00:List (Nat × Sl)} {t00:List TkE}
end
end Dv
end Go.Proofs.YtfifjddnnmfeoaaGreat
set_option maxRecDepth 100000
namespace Go.Proofs.YtfifjddnnmfeoaaGreat
open Go Go.RowKit Dv Tryz
section
variable (PC:List DV) (ND:List Nd) (D:List Nat) (K:List Bool) (sz ot:List Nat) {L:Nat}
end
section
variable (PC:List DV) (ND:List Nd) (D:List Nat) (K:List Bool) (sz ot:List Nat) {L:Nat}
end
def Sm (kf:Nat->Option (Nat × Option Nat)) (t:List Nat):Prop:=∀ i,t.getD i 0≠0->∃ k,kf i=some k/\t.getD i 0=othE t k
section
variable {kf:Nat->Option (Nat × Option Nat)} {N:Nat}
theorem kC (kf:Nat->Option (Nat × Option Nat)) (N:Nat):Sm kf (List.replicate N 0):=fun i hi=>by
 rw [List.getD_eq_getElem?_getD,List.getElem?_replicate] at hi;split at hi<;>exact (hi rfl).elim
end
section
variable (PC:List DV) (ND:List Nd) (D:List Nat) (K:List Bool) (sz ot:List Nat) {L:Nat}
end
section
variable (PC:List DV) (ND:List Nd) (D:List Nat) (K:List Bool) (sz ot:List Nat) {L:Nat}
end
section
variable (PC:List DV) (ND:List Nd) (D:List Nat) (K:List Bool)
end
end Go.Proofs.YtfifjddnnmfeoaaGreat
namespace Go.Proofs.YtfifjddnnmfeoaaGreat
namespace Dv
open Go Go.RowKit
mutual
def shD (m:Nat):DV->DV
 | .agg l=>.agg (shL m l)
 | .dV l=>.dV (shL m l)
 | .sl e es tk=>.sl e es (match tk with | some k=>some (m + k) | none=>none)
 | .fn f a b=>.fn f (shL m a) (shL m b)
 | .lZ t x=>.lZ t (shD m x)
 | .v x=>.v x
 | .ud=>.ud
 | .pt cs o=>.pt cs o
 | .loc i o=>.loc i o
 | .el i o=>.el i o
 | .ms i e o l c=>.ms i e o l c
def shL (m:Nat):List DV->List DV
 | []=>[]
 | d :: r=>shD m d :: shL m r
end
mutual
theorem oc {m:Nat} {E2 E:En} (hβ:E2.β=[]) (hc:E.c=E2.c) (ht:∀ (k:Nat) q,E2.tk[k]? = some q->E.tk[m + k]? = some q/\E.τ[m + k]? = E2.τ[k]?):∀ {d:DV} {v:Value},Rv E2 d v->Rv E (shD m d) v
 | .v x,v,h=>by simpa only [Rv,shD] using h
 | .ud,v,h=>by simpa only [Rv,shD] using h
 | .agg l,v,h=>by
  simp only [Rv,shD] at h ⊢;obtain ⟨vs,h1,h2,h3⟩:=h;exact ⟨vs,h1,iU hβ hc ht h2,h3⟩
 | .dV l,v,h=>by
  simp only [Rv,shD] at h ⊢;obtain ⟨vs,h1,h2⟩:=h;exact ⟨vs,h1,iU hβ hc ht h2⟩
 | .sl e es tk,v,h=>by
  have he:E.cl=E2.cl:=by simp [En.cl,hc]
  simp only [Rv,shD] at h ⊢;obtain ⟨b,n,cap,h1,h2,h3,h4⟩:=h;refine ⟨b,n,cap,h1,h2,fun hn=>⟨(h3 hn).1,by rw [he];exact (h3 hn).2⟩,?_⟩;intro k' eT
  cases tk with
  | none=>cases eT
  | some k=>
   simp only [oI] at eT;subst eT;obtain ⟨q,g1,g2,g3⟩:=h4 k rfl;obtain ⟨g4,g5⟩:=ht k q g1;exact ⟨q,g4,g2,fun hn=>by rw [g5];exact g3 hn⟩
 | .pt cs off,v,h=>by
  have he:E.cl=E2.cl:=by simp [En.cl,hc]
  simp only [Rv,shD] at h ⊢;rw [he];exact h
 | .loc i off,v,h=>by
  simp only [Rv] at h;obtain ⟨b,h1,_⟩:=h;rw [hβ] at h1;simp at h1
 | .el i off,v,h=>by
  simp only [Rv] at h;obtain ⟨b,h1,_⟩:=h;rw [hβ] at h1;simp at h1
 | .ms i e off len cap,v,h=>by
  simp only [Rv] at h;obtain ⟨b,_,h1,_⟩:=h;rw [hβ] at h1;simp at h1
 | .fn f a b,v,h=>by
  simp only [Rv,shD] at h ⊢;obtain ⟨l,r,h1,h2,h3⟩:=h;exact ⟨l,r,h1,iU hβ hc ht h2,iU hβ hc ht h3⟩
 | .lZ t x,v,h=>by
  simp only [Rv,shD] at h ⊢;obtain ⟨z,h1,h2⟩:=h;exact ⟨z,h1,oc hβ hc ht h2⟩
theorem iU {m:Nat} {E2 E:En} (hβ:E2.β=[]) (hc:E.c=E2.c) (ht:∀ (k:Nat) q,E2.tk[k]? = some q->E.tk[m + k]? = some q/\E.τ[m + k]? = E2.τ[k]?):∀ {l:List DV} {vs:List Value},RvL E2 l vs->RvL E (shL m l) vs
 | [],vs,h=>by simpa only [RvL,shL] using h
 | d :: r,vs,h=>by
  simp only [RvL,shL] at h ⊢;obtain ⟨v,s,h1,h2,h3⟩:=h;exact ⟨v,s,h1,oc hβ hc ht h2,iU hβ hc ht h3⟩
end
section
variable {X:Ctx} {st:St} {k:List It} {E:En} {a:Act} {w:World}
theorem zX (h:Rel X E st a w) (aZ:X.still=false) {E2:En} {w':World} (hm:l4 (E.cl).S w w') (he:Env E2 [] w') (hn:Nw E.cl E2 w):Rel X ⟨E2.c,E.β,E.tk ++ E2.tk,E.τ ++ E2.τ⟩ ⟨st.sl,st.bx,st.tk ++ E2.tk⟩ a w':=by
 have hq:=sG h aZ hm he hn;have GW:∀ (j:Nat) y g,E2.τ[j]? = some y->y.ownBlock=some g->w.heap.size<=g:=fun j y g hy hg=>hn.tn j y g (Nat.zero_le _) hy hg;have hold:∀ (k:Nat) y g,E.τ[k]? = some y->y.ownBlock=some g->g < w.heap.size:=fun k y g hy hg=>(h.env.own (mG hy) hg).1;have nN:E.τ.length=E.tk.length:=h.env.tl
 have hτ:∀ (k:Nat) y,(E.τ ++ E2.τ)[k]? = some y->(k < E.τ.length/\E.τ[k]? = some y)∨(E.τ.length<=k/\E2.τ[k - E.τ.length]? = some y):=fun k y hy=>by
  rw [List.getElem?_append] at hy;split at hy
  ·rename_i hk;exact .inl ⟨hk,hy⟩
  ·rename_i hk;exact .inr ⟨by omega,hy⟩
 have hx:Ext ⟨E2.c,E.β,E.tk,E.τ⟩ ⟨E2.c,E.β,E.tk ++ E2.tk,E.τ ++ E2.τ⟩:=⟨fun _ _ h=>h,fun _ _ h=>h,fun j q hj=>by
  have hj:E.tk[j]? = some q:=hj;have au:=(gS hj).1;refine ⟨q,by show (E.tk ++ _)[j]? = _;rw [List.getElem?_append_left au];exact hj,.inl ⟨rfl,?_⟩⟩;show (E.τ ++ _)[j]? = _
  rw [List.getElem?_append_left (by rw [nN];exact au)]⟩
 refine ch hq hx ?_ (by show E.tk ++ _=_;rw [h.tk]) ?_ hq.fr (kX aZ) hq.bt
 ·exact {
   len:=h.env.len
   tl:=by show (E.τ ++ _).length=(E.tk ++ _).length;simp [nN,he.tl]
   dB:=fun i cs hi=>by
    obtain ⟨b,t,arr,hb,hw,hc⟩:=hq.env.dB i cs hi;exact ⟨b,t,arr,hb,hw,hc.mono hx⟩
   inj:=h.env.inj
   sub:=he.sub
   pc:=hq.env.pc
   bD:=fun j q y EU hy=>by
    have EU:(E.tk ++ E2.tk)[j]? = some q:=EU;rcases hτ j y hy with ⟨au,dW⟩ | ⟨iA,dW⟩
    ·rw [List.getElem?_append_left (by rw [<- nN];exact au)] at EU;exact hq.env.bD j q y EU dW
    ·rw [List.getElem?_append_right (by rw [<- nN];exact iA),<- nN] at EU;rcases he.bD _ q y EU dW with h1 | ⟨g,cap,cur,rfl,h1,h2,h3,h4,_,h6⟩
     ·exact .inl h1
     ·refine .inr ⟨g,cap,cur,rfl,h1,h2,h3,h4,fun jS=>?_,h6⟩;have:=GW _ _ g dW rfl;have:=h.env.aM jS;omega
   fY:=fun i j y y' g gv hy dW hg ph=>by
    rcases hτ i y hy with ⟨_,h1⟩ | ⟨h0,h1⟩
    ·rcases hτ j y' dW with ⟨_,h2⟩ | ⟨_,h2⟩
     ·exact h.env.fY i j y y' g gv h1 h2 hg ph
     ·have:=hold i y g h1 hg;have:=GW _ y' g h2 ph;omega
    ·rcases hτ j y' dW with ⟨_,h2⟩ | ⟨Tj,h2⟩
     ·have:=hold j y' g h2 ph;have:=GW _ y g h1 hg;omega
     ·exact he.fY _ _ y y' g (by omega) h1 h2 hg ph }
 ·exact {
   c:=hq.nw.c
   cn:=hq.nw.cn
   β:=h.nw.β
   tk:=fun j q0 y0 uv pP=>by
    obtain ⟨q',y',h1,h2,h3⟩:=h.nw.tk j q0 y0 uv pP;exact ⟨q',y',by show (E.tk ++ _)[j]? = _;rw [List.getElem?_append_left (gS h1).1];exact h1,by show (E.τ ++ _)[j]? = _;rw [List.getElem?_append_left (gS h2).1];exact h2,h3⟩
   tn:=fun j y g hj hy hg=>by
    rcases hτ j y hy with ⟨_,h1⟩ | ⟨_,h1⟩
    ·exact h.nw.tn j y g hj h1 hg
    ·exact Nat.le_trans h.fr.size (GW _ y g h1 hg)
   l0:=h.nw.l0 }
theorem Ig {P:Program} (h:Rel X E st a w) (aZ:X.still=false) {f:FuncId} {args aT:List DV} {vs:List Value} {Φ:DV->List (List DV)->List TkE->Prop} (hc:Qi P f aT [] [] Φ) (ha:CcL [] 0 0 0 aT args) (hv:RvL E args vs) :
  Calls P f vs.toArray w fun e w'=>∃ v E' d bD,e = .returned v/\Rel X E' ⟨st.sl,st.bx,st.tk ++ bD⟩ a w' /\ Rv E' (shD st.tk.length d) v/\Φ d [] bD/\l4 E.cl.S w w' /\ Ext E E' /\ E'.β=E.β:=by
 have JN:RvL E.cl aT vs:=CcL.sound (E:=E) (E':=E.cl) ⟨fun _ _ h=>h,fun i cs _ hi=>by simp at hi⟩ (Ar.zero _ _) ha hv;refine (hc E.cl w vs (DK h.env) rfl JN).mono ?_;rintro e w' ⟨v,rfl,hm,_,d,os,E2,he,hβ,_,hn,G2,hΦ⟩;have hβ:E2.β=[]:=hβ
 have rW:os=[]:=by
  have:=he.len;rw [hβ] at this;exact List.eq_nil_of_length_eq_zero this.symm
 subst rW;have nN:E.τ.length=E.tk.length:=h.env.tl
 have hx:Ext E ⟨E2.c,E.β,E.tk ++ E2.tk,E.τ ++ E2.τ⟩:=⟨hn.c,fun _ _ h=>h,fun j q hj=>by
  have au:=(gS hj).1;refine ⟨q,by show (E.tk ++ _)[j]? = _;rw [List.getElem?_append_left au];exact hj,.inl ⟨rfl,?_⟩⟩;show (E.τ ++ _)[j]? = _
  rw [List.getElem?_append_left (by rw [nN];exact au)]⟩
 refine ⟨v,_,d,E2.tk,rfl,zX h aZ hm he hn,oc (E2:=E2) (E:=⟨E2.c,E.β,E.tk ++ E2.tk,E.τ ++ E2.τ⟩) (m:=st.tk.length) hβ rfl (fun k q hq=>?_) G2,hΦ,hm,hx,rfl⟩;rw [<- h.tk];constructor
 ·show (E.tk ++ E2.tk)[_]? = _;rw [List.getElem?_append_right (by omega)];simpa using hq
 ·show (E.τ ++ E2.τ)[_]? = _;rw [List.getElem?_append_right (by omega),nN];simp
theorem A8 {D:Dr} {c:Bool} {i:Nat} {s0:List (Nat × Sl)} {f:FuncId} {args aT:List DV} {d:Nat} {r:List (Nat × Oper)} (jh:Enters X.P f) (hd:(eN X.nt st.sl (some d) && eN X.nt s0 (some d))=true) {Φ:DV->List (List DV)->List TkE->Prop} (hc:Qi X.P f aT [] [] Φ) (ha:CcL [] 0 0 0 aT args)
  (hk:∀ uH bD,Φ uH [] bD->put2 s0 ⟨st.sl,st.bx,st.tk ++ bD⟩ (some d) false [] (shD st.tk.length uH) (goD X D 3000 c r)) (aZ:X.still=false:=by exact rfl):sJ X D c i r f args (some d) s0 st:=by
 refine ⟨jh,fun hl E0 wr hD E a w vs h hv=>(Ig h.rel aZ hc ha hv).mono ?_⟩;rintro e w' ⟨v,E',uH,bD,rfl,bq,hr,hΦ,hm,hx,hβ⟩
 have hh:∀ b,b < w.heap.size->w'.heap[b]? = w.heap[b]?:=fun b hb=>hm.block b hb (by
  rintro (h1 | ⟨y,h1,_⟩)
  ·simp [En.cl] at h1
  ·simp [En.cl] at h1)
 have hs:di none E w E' w':=⟨hx,⟨[],by rw [hβ];simp⟩,fun j b hb _=>hh b (h.rel.env.aM (mG hb))⟩;have hC:=we h hs bq (fun j hj=>by cases hj);refine ⟨v,rfl,fun _=>hC,?_⟩;have wg:dC X ⟨D,E0,wr⟩ c E' s0 ⟨st.sl,st.bx,st.tk ++ bD⟩ (a.put none v) w':=mq h hs bq (fun h1=>hC (h.cc h1)) (fun i x hx=>.inr ⟨hx,fun d hd=>by cases hd⟩) rfl;obtain ⟨s1,lW,gO,de⟩:=fG wg hd false [] _ v (fun _ _ p hp=>by cases hp) (fun _=>hr) (fun hb=>by cases hb) (fun hn=>(hn (aO _)).elim) (hk uH bD hΦ);exact cH (D:=⟨D,E0,wr⟩) hD 3000 c r _ _ gO hl E' _ w' de
theorem A9 {n0 m0:Nat} {st aP:St} (n:Nat) (hn:Nat.ble n st.bx.length=true) (h2:WeLL n aP.tk.length aP.tk (st.bx.take n) aP.bx) (h3:∃ dr,st.tk=aP.tk ++ dr) (h4:Nat.ble n0 n=true) (h5:Nat.ble m0 aP.tk.length=true)
  (h:mg n aP.tk.length aP.tk st.sl aP.sl):nB n0 m0 st aP:=by
 have hl:(st.bx.take n).length=n:=by
  have:=nL hn;rw [List.length_take];omega
 obtain ⟨dr,h3⟩:=h3;exact ⟨aP.tk,dr,[],st.bx.take n,st.bx.drop n,by simpa using h5,by rw [hl];simpa using h4,h3,by simp,by simp,(List.take_append_drop n st.bx).symm,by rw [hl];exact h2,by rw [hl];exact h⟩
theorem Ba {o:Oper} {t d et e' hZ n:Nat} {x:Operand} {bb:Bool} {z:List Value} (lV:∃ t',o.op = .binOp .eql t x (.const (.slice none 0 0)) t') (fW:o.dst=some d) (hx:rv st [] x=some (.v (.slice none 0 0))) (hT:X.T.find t=some ⟨n,bb,.sl et e' hZ,z⟩) (hd:eN X.nt st.sl (some d)=true)
  (hk:go X 4000 k ⟨(d,⟨[],.v (.bool true)⟩) :: st.sl,st.bx,st.tk⟩):Iu X o k st:=by
 intro E a w h;obtain ⟨t',lV⟩:=lV;have e1:=aJ h.rl hx;unfold Rv at e1;obtain ⟨hu,_⟩:=dD X.hT hT;have bm:=xj hu none 0 0 w
 have bz:(execOp a.eval o).run X.P w = .ok (.value (.bool true)) w:=by
  have hc:a.eval (.const (.slice none 0 0)) = .slice none 0 0:=rfl;simp [execOp,lV,e1.1,hc,eqGuard,binOp,bm]
 refine gL bz ?_;rw [fW];exact go_sound 4000 _ _ hk E _ w (aW h hd (.v (.bool true)) _ (by unfold Rv;exact ⟨rfl,rfl⟩))
end
end Dv
end Go.Proofs.YtfifjddnnmfeoaaGreat
namespace Go.Proofs.YtfifjddnnmfeoaaGreat
namespace Dv
open Go Go.RowKit
section
variable {X:Ctx} {st:St} {k:List It} {E:En} {a:Act} {w:World}
end
end Dv
end Go.Proofs.YtfifjddnnmfeoaaGreat
namespace Go.Proofs.YtfifjddnnmfeoaaGreat
namespace Dv
open Go Go.RowKit
section
variable {X:Ctx} {st:St} {k:List It} {E:En} {a:Act} {w:World} {o:Oper}
end
end Dv
end Go.Proofs.YtfifjddnnmfeoaaGreat
namespace Go.Proofs.YtfifjddnnmfeoaaGreat
namespace Dv
open Go Go.RowKit
section
variable {X:Ctx} {st:St} {k:List It} {E:En} {a:Act} {w:World} {o:Oper}
end
end Dv
end Go.Proofs.YtfifjddnnmfeoaaGreat
namespace Go.Proofs.YtfifjddnnmfeoaaGreat
namespace Dv
open Go Go.RowKit
end Dv
end Go.Proofs.YtfifjddnnmfeoaaGreat
set_option maxRecDepth 100000
namespace Go.Proofs.YtfifjddnnmfeoaaGreat
open Go Go.RowKit Dv Tryz
mutual
def pathV (ND:List Nd):Val->Int->List di->List (List di)
 | .mk q z s ks,i,p=>p :: match ek ND i with
  | none=>[]
  | some d=>pathVs ND ks (kidsL d (.mk q z s ks)) (fun e=>p ++ [stpR d (.mk q z s ks) e]) 0
def pathVs (ND:List Nd):List Val->List Int->(Nat->List di)->Nat->List (List di)
 | v :: r,i :: l,f,e=>pathV ND v i (f e) ++ pathVs ND r l f (e + 1)
 | _,_,_,_=>[]
end
theorem oO {ND:List Nd} {f:Nat->List di}:∀ {ks:List Val} {l:List Int} {e b:Nat} {x:Val} {i:Int},ks[e]? = some x->l[e]? = some i->pathVs ND (ks.take (e + 1)) (l.take (e + 1)) f b=pathVs ND (ks.take e) (l.take e) f b ++ pathV ND x i (f (b + e))
 | [],_,e,b,x,i,h,_=>by simp at h
 | _ :: _,[],e,b,x,i,_,h=>by simp at h
 | v :: r,j :: l,0,b,x,i,h1,h2=>by
  simp only [List.getElem?_cons_zero,oI] at h1 h2;subst h1 h2;simp [pathVs]
 | v :: r,j :: l,e + 1,b,x,i,h1,h2=>by
  simp only [List.getElem?_cons_succ] at h1 h2;simp only [List.take_succ_cons,pathVs];rw [oO h1 h2,List.append_assoc,Nat.add_right_comm,Nat.add_assoc]
mutual
theorem tW {ND:List Nd}:∀ (v:Val) (i:Int) (p:List di),(pathV ND v i p).length<=kp v
 | .mk q z s ks,i,p=>by
  rw [pathV,kp,List.length_cons];split
  ·simp
  ·rename_i d _;have:=lP (ND:=ND) ks (kidsL d (.mk q z s ks)) (fun e=>p ++ [stpR d (.mk q z s ks) e]) 0;omega
theorem lP {ND:List Nd}:∀ (ks:List Val) (l:List Int) (f:Nat->List di) (e:Nat),(pathVs ND ks l f e).length<=ej ks
 | v :: r,i :: l,f,e=>by
  have h1:=tW (ND:=ND) v i (f e);have h2:=lP (ND:=ND) r l f (e + 1);rw [pathVs,ej,List.length_append];omega
 | [],_,_,_=>by simp [pathVs]
 | _ :: _,[],_,_=>by simp [pathVs]
end
mutual
theorem xU {ND:List Nd}:∀ (v:Val) (i:Int) (p:List di),∀ x∈pathV ND v i p,x.length<=p.length + v.wt
 | .mk q z s ks,i,p,x,h=>by
  rw [pathV] at h;rw [Val.wt];rcases List.mem_cons.1 h with h | h
  ·rw [h];omega
  ·split at h
   ·cases h
   ·rename_i d _;have:=tX (ND:=ND) ks (kidsL d (.mk q z s ks)) (fun e=>p ++ [stpR d (.mk q z s ks) e]) 0 (p.length + 1) (fun e=>by simp) x h;omega
theorem tX {ND:List Nd}:∀ (ks:List Val) (l:List Int) (f:Nat->List di) (e n:Nat),(∀ e,(f e).length<=n)->∀ x∈pathVs ND ks l f e,x.length<=n + cw ks
 | v :: r,i :: l,f,e,n,hf,x,h=>by
  rw [pathVs] at h;rw [cw];rcases List.mem_append.1 h with h | h
  ·have:=xU (ND:=ND) v i (f e) x h;have:=hf e;omega
  ·have:=tX (ND:=ND) r l f (e + 1) n hf x h;omega
 | [],_,_,_,_,_,x,h=>by simp [pathVs] at h
 | _ :: _,[],_,_,_,_,x,h=>by simp [pathVs] at h
end
def xV (d:Nd) (v:Val):List di:=(List.range v.ks.length).map (stpR d v)
theorem CQ (d:Nd) (v:Val) (e:Nat):bO ((List.range e).map (stpR d v)) ++ [vl (stpR d v e)]=bO ((List.range (e + 1)).map (stpR d v)):=by
 rw [List.range_succ];simp [bO]
abbrev F2 (d:Nd) (v:Val) (q e:Nat):St:=
 ⟨[(2,⟨[],.loc 0 0⟩),(3,⟨[],.loc 1 0⟩),(5,⟨[],.sl 3 (bO ((List.range e).map (stpR d v))) (some 0)⟩),(9,⟨[],.v (.int .i64 (dVals v.ks).length)⟩),(10,⟨[],.v (.int .i64 e)⟩)],[jR d,cd v],[⟨q,137,3,none⟩]⟩
theorem zY (d:Nd) (v:Val) (hv:v.wt<=1099511627776) (hk:v.k=d.ag) (h5:5<=d.ag) (GC:d.ag<=8) (h7:d.ag=7->v.ks.length=d.aD.length) (h8:d.ag=8->0<=v.n/\v.n < d.aD.length) :
  ba Tryz.prog 120 [.agg (jR d),.agg (cd v)] (.sl 3 (bO (xV d v)) none):=by
 obtain ⟨ag,bp,lo,hi,most,ae,es⟩:=d;obtain ⟨q,z,s,ks⟩:=v;have ly:=cK es;have ed:=bH ks;have gZ:=dL ks;rw [Val.wt] at hv;simp only [Val.k,Val.n,Val.ks] at hk h5 GC h7 h8;subst hk;refine ev_go (P:=Tryz.prog) tt tt_ok 5000 55 [.tmp 4] Tryz.func120 rfl Tryz.ntmps120 rfl (nL rfl) (fun E9 w9 hn9 hm9=>?_);refine bU (fun j st=>∃ e:Nat,st=F2 ⟨q,bp,lo,hi,most,ae,es⟩ (.mk q z s ks) e e/\e<=ks.length/\j=ks.length - e) ks.length (F2 ⟨q,bp,lo,hi,most,ae,es⟩ (.mk q z s ks) 0 0) (dn 2 ⟨0,137,3,none⟩ rfl rfl rfl (by repeat' (first | exact rfl | exact aw rfl | exact bQ (Nat.le_refl _) rfl | exact bQ (Nat.le_refl _) rfl | refine ⟨_,_,rfl,?_,?_⟩)) rfl rfl aX) ⟨0,rfl,by omega,by omega⟩ ?_;rintro j st ⟨e,rfl,he,rfl⟩;refine br (fun hL=>?_) (fun hL=>?_)
 ·have au:e < ks.length:=by simpa [ed,Val.ks] using hL
  have jN:(bO ((List.range e).map (stpR ⟨q,bp,lo,hi,most,ae,es⟩ (.mk q z s ks)))).length=e:=by simp [bO]
  have eQ:=CQ ⟨q,bp,lo,hi,most,ae,es⟩ (.mk q z s ks) e
  have hS:stpR ⟨q,bp,lo,hi,most,ae,es⟩ (.mk q z s ks) e=if q=5 then ⟨2,e,ap⟩
   else if q=6 then ⟨4,0,ap⟩
   else if q=7 then ⟨1,0,match es[e]? with | some e=>e.name | none=>ap⟩
   else ⟨5,0,match es[z.toNat]? with | some e=>e.name | none=>ap⟩:=rfl
  refine br (fun c=>?_) (fun c=>?_)
  ·have c:q=7:=by simpa using c
   obtain ⟨x,hx⟩:∃ x,es[e]? = some x:=⟨_,gE (by have:=h7 c;omega)⟩;rw [if_neg (by omega),if_neg (by omega),if_pos c] at hS;simp only [hx] at hS;rw [hS] at eQ;refine ⟨_,⟨by omega,cX hx⟩,?_⟩;refine ⟨jN,⟨by rw [jN];simp [maxLen];omega,by rw [jN];simp;omega⟩,?_⟩;exact ⟨F2 ⟨q,bp,lo,hi,most,ae,es⟩ (.mk q z s ks) (e + 1) (e + 1),(aS 2 rfl (aK au eQ) rfl rfl rfl (aj au eQ)),ks.length - (e + 1),by omega,e + 1,rfl,by omega,rfl⟩
  have c7:¬ q=7:=by simpa using c
  refine br (fun c=>?_) (fun c=>?_)
  ·have c:q=5:=by simpa using c
   rw [if_pos c] at hS;rw [hS] at eQ;refine ⟨jN,⟨by rw [jN];simp [maxLen];omega,by rw [jN];simp;omega⟩,?_⟩;exact ⟨F2 ⟨q,bp,lo,hi,most,ae,es⟩ (.mk q z s ks) (e + 1) (e + 1),(aS 2 rfl (aK au eQ) rfl rfl rfl (aj au eQ)),ks.length - (e + 1),by omega,e + 1,rfl,by omega,rfl⟩
  have c5:¬ q=5:=by simpa using c
  refine br (fun c=>?_) (fun c=>?_)
  ·have c:q=6:=by simpa using c
   rw [if_neg c5,if_pos c] at hS;rw [hS] at eQ;refine ⟨jN,⟨by rw [jN];simp [maxLen];omega,by rw [jN];simp;omega⟩,?_⟩;exact ⟨F2 ⟨q,bp,lo,hi,most,ae,es⟩ (.mk q z s ks) (e + 1) (e + 1),(aS 2 rfl (aK au eQ) rfl rfl rfl (aj au eQ)),ks.length - (e + 1),by omega,e + 1,rfl,by omega,rfl⟩
  have c6:¬ q=6:=by simpa using c
  refine br (fun c=>?_) (fun c=>?_)
  ·have c:q=8:=by simpa using c
   obtain ⟨z0,z1⟩:=h8 c;obtain ⟨x,hx⟩:∃ x,es[z.toNat]? = some x:=⟨_,gE (by omega)⟩;rw [if_neg c5,if_neg c6,if_neg c7] at hS;simp only [hx] at hS;rw [hS] at eQ;refine ⟨_,⟨by omega,cX hx⟩,?_⟩;refine ⟨jN,⟨by rw [jN];simp [maxLen];omega,by rw [jN];simp;omega⟩,?_⟩;exact ⟨F2 ⟨q,bp,lo,hi,most,ae,es⟩ (.mk q z s ks) (e + 1) (e + 1),(aS 2 rfl (aK au eQ) rfl rfl rfl (aj au eQ)),ks.length - (e + 1),by omega,e + 1,rfl,by omega,rfl⟩
  ·have c:¬ q=8:=by simpa using c
   omega
 ·have bI:e=ks.length:=by
   have:=hL;simp [ed,Val.ks] at this;omega
  rw [bI];exact ⟨_,ax,rfl⟩
def sf (d:Nd) (v:Val) (s:di):Option Nat:=(List.range v.ks.length).find? fun e=>jI (stpR d v e) s
def stepV (ND:List Nd) (v:Val) (i:Int) (s:di):Option (Nat × Val × Int):=
 match ek ND i with
 | none=>none
 | some d=>match sf d v s with
  | none=>none
  | some e=>match v.ks[e]?,(kidsL d v)[e]? with
   | some x,some j=>some (e,x,j)
   | _,_=>none
def getV (ND:List Nd):List di->Val->Int->Option (Val × Int)
 | [],v,i=>some (v,i)
 | s :: p,v,i=>match stepV ND v i s with
  | none=>none
  | some (_,x,j)=>getV ND p x j
theorem tY {f:Nat->Bool} {n e:Nat} (h:(List.range n).find? f=some e):e < n/\f e=true:=by
 have h1:=List.find?_some h;have h2:=List.mem_of_find?_eq_some h;exact ⟨by simpa using h2,h1⟩
theorem lQ {ND:List Nd} {v:Val} {i:Int} {s:di} {e:Nat} {x:Val} {j:Int} (h:stepV ND v i s=some (e,x,j)) :
  ∃ d,ek ND i=some d/\sf d v s=some e/\v.ks[e]? = some x/\(kidsL d v)[e]? = some j:=by
 unfold stepV at h;split at h
 ·cases h
 ·rename_i d hd;split at h
  ·cases h
  ·rename_i e' he;split at h
   ·rename_i x' j' hx hj;simp only [oI,Prod.mk.injEq] at h;obtain ⟨rfl,rfl,rfl⟩:=h;exact ⟨d,hd,he,hx,hj⟩
   ·cases h
theorem F3 {ND:List Nd} {v:Val} {i:Int} {s:di} {e:Nat} {x:Val} {j:Int} {d:Nd} (h1:ek ND i=some d) (h2:sf d v s=some e) (h3:v.ks[e]? = some x) (h4:(kidsL d v)[e]? = some j):stepV ND v i s=some (e,x,j):=by
 unfold stepV;rw [h1];simp only;rw [h2];simp only;rw [h3,h4]
section
variable {L:Nat} {ND:List Nd} (dh:∀ n∈ND,n5 L ND.length n)
include dh
theorem rD {v:Val} {i:Int} {d:Nd} (hF:FR ND v i d) {e:Nat} {x:Val} (hx:v.ks[e]? = some x):5<=d.ag/\d.ag<=8:=by
 have hN:=dh d (mG (bT hF.ai).2);refine ⟨?_,hN.k8⟩;have h1:=hN.k1;rcases Int.lt_or_le d.ag 5 with h | h
 ·rw [hF.leaf h] at hx;simp at hx
 ·exact h
theorem rF {v:Val} {i:Int} (hf:fitV ND v i=true) {s:di} {e:Nat} {x:Val} {j:Int} (h:stepV ND v i s=some (e,x,j)):fitV ND x j=true:=by
 obtain ⟨d,hF⟩:=gB dh hf;obtain ⟨d',h1,h2,h3,h4⟩:=lQ h;rw [hF.ai] at h1;cases h1;exact na (hF.kids (rD dh hF h3).1).2 h3 h4
theorem xW:∀ (p:List di) {v:Val} {i:Int},fitV ND v i=true->∀ {x:Val} {j:Int},getV ND p v i=some (x,j)->fitV ND x j=true
 | [],v,i,hf,x,j,h=>by
  simp only [getV,oI,Prod.mk.injEq] at h;obtain ⟨rfl,rfl⟩:=h;exact hf
 | s :: p,v,i,hf,x,j,h=>by
  rw [getV] at h;split at h
  ·cases h
  ·rename_i e y k hs;exact xW p (rF dh hf hs) h
end
theorem Val.OW (v:Val):v.wt=64 + v.s.size + cw v.ks:=by cases v;rw [Val.wt];all_goals rfl
theorem Bb {ND:List Nd}:∀ (p:List di) {v:Val} {i:Int} {x:Val} {j:Int},getV ND p v i=some (x,j)->x.wt<=v.wt
 | [],v,i,x,j,h=>by
  simp only [getV,oI,Prod.mk.injEq] at h;obtain ⟨rfl,rfl⟩:=h;exact Nat.le_refl _
 | s :: p,v,i,x,j,h=>by
  rw [getV] at h;split at h
  ·cases h
  ·rename_i e z k hs;obtain ⟨d,_,_,h3,_⟩:=lQ hs;have h1:=Bb p h;have h2:=cY (mG h3);have:=v.OW;omega
section
variable {L:Nat} {ND:List Nd} (dh:∀ n∈ND,n5 L ND.length n)
include dh
theorem Ih {v:Val} {i:Int} {d:Nd} (hF:FR ND v i d) {e e':Nat} (he:e < v.ks.length) (BJ:e' < v.ks.length) (h:stpR d v e=stpR d v e'):e=e':=by
 obtain ⟨x,hx⟩:∃ x,v.ks[e]? = some x:=⟨_,gE he⟩;obtain ⟨h5,h8⟩:=rD dh hF hx;have hN:=dh d (mG (bT hF.ai).2);have hl:=(hF.kids h5).1;unfold stpR at h;by_cases c5:d.ag=5
 ·rw [if_pos c5,if_pos c5] at h;simp only [di.mk.injEq] at h;omega
 rw [if_neg c5,if_neg c5] at h;by_cases c6:d.ag=6
 ·have:=hF.opt c6;omega
 rw [if_neg c6,if_neg c6] at h;by_cases c7:d.ag=7
 ·rw [if_pos c7,if_pos c7] at h;have gZ:(kidsL d v).length=d.aD.length:=by unfold kidsL;rw [if_neg (by omega),if_pos c7,List.length_map]
  have hn:=(hN.many (.inl c7)).2.2.1;simp only [di.mk.injEq,true_and] at h;have g1:d.aD[e]? = some (d.aD[e]'(by omega)):=gE (by omega);have g2:d.aD[e']? = some (d.aD[e']'(by omega)):=gE (by omega);rw [g1,g2] at h;exact (List.getElem?_inj (l:=d.aD.map Ed.name) (by rw [List.length_map];omega) hn).1 (by rw [List.getElem?_map,List.getElem?_map,g1,g2];exact congrArg some h)
 ·have gZ:(kidsL d v).length<=1:=by
   unfold kidsL;rw [if_neg (by omega),if_neg c7];split
   ·simp
   ·split<;>simp
  omega
theorem CR {v:Val} {i:Int} {d:Nd} (hF:FR ND v i d) {e:Nat} (he:e < v.ks.length):sf d v (stpR d v e)=some e:=by
 cases h:sf d v (stpR d v e) with
 | none=>
  unfold sf at h;rw [List.find?_eq_none] at h;have:=h e (by simpa using he);exact absurd (nb.2 rfl) this
 | some e'=>
  obtain ⟨h1,h2⟩:=tY h;rw [Ih dh hF h1 he (nb.1 h2)]
omit dh in
theorem rG {x:List di}:∀ {ks:List Val} {l:List Int} {f:Nat->List di} {b:Nat},x∈pathVs ND ks l f b->∃ e v j,ks[e]? = some v/\l[e]? = some j/\x∈pathV ND v j (f (b + e))
 | [],l,f,b,h=>by simp [pathVs] at h
 | v :: r,[],f,b,h=>by simp [pathVs] at h
 | v :: r,i :: l,f,b,h=>by
  rw [pathVs] at h;rcases List.mem_append.1 h with h | h
  ·exact ⟨0,v,i,rfl,rfl,h⟩
  ·obtain ⟨e,y,j,h1,h2,h3⟩:=rG h;exact ⟨e + 1,y,j,by simpa using h1,by simpa using h2,by rw [show b + (e + 1)=b + 1 + e by omega];exact h3⟩
theorem xX:∀ (k:Nat) (v:Val),v.wt<=k->∀ {i:Int},fitV ND v i=true->∀ {p x:List di},x∈pathV ND v i p->∃ q r,x=p ++ q/\getV ND q v i=some r
 | 0,v,hk,i,hf,p,x,h=>by have:=v.cT;omega
 | k + 1,v,hk,i,hf,p,x,h=>by
  obtain ⟨d,hF⟩:=gB dh hf;have wR:=@CR L ND dh v i d hF;have Eo:=@rF L ND dh v i hf;have hn:=hF.ai;obtain ⟨q,z,s,ks⟩:=v;rw [Val.wt] at hk;rw [pathV,hn] at h;rcases List.mem_cons.1 h with h | h
  ·subst h;exact ⟨[],_,by simp,rfl⟩
  ·simp only at h;obtain ⟨e,y,j,h1,h2,h3⟩:=rG h;have au:=(gS h1).1;have hw:=cY (mG h1);have hs:=F3 (v:=.mk q z s ks) hn (wR au) h1 h2;have hfy:fitV ND y j=true:=Eo hs;obtain ⟨q',r,g1,g2⟩:=xX k y (by omega) hfy h3;rw [Nat.zero_add] at g1;refine ⟨stpR d (.mk q z s ks) e :: q',r,by rw [g1];simp,?_⟩;rw [getV,hs];exact g2
end
theorem Bc {p:Nat->Bool}:∀ {n e:Nat},e < n->p e=true->(∀ e' < e,p e'=false)->(List.range n).find? p=some e
 | 0,e,h,_,_=>by omega
 | n + 1,e,h,h1,h2=>by
  rw [List.range_succ,List.find?_append];by_cases he:e < n
  ·rw [Bc he h1 h2];all_goals rfl
  ·have:e=n:=by omega
   subst this;have h3:(List.range e).find? p=none:=List.find?_eq_none.2 fun x hx=>by rw [h2 x (by simpa using hx)];simp
   rw [h3];simp [h1]
theorem Ii {p:Nat->Bool} {n:Nat} (h:∀ e < n,p e=false):(List.range n).find? p=none:=List.find?_eq_none.2 fun x hx=>by rw [h x (by simpa using hx)];simp
theorem tZ (a b:di):jI a b=jI b a:=by
 rw [Bool.eq_iff_iff,nb,nb];exact eq_comm
abbrev Sn (l:List di) (s:di) (e:Nat):St:=⟨[(0,⟨[],.sl 3 (bO l) none⟩),(3,⟨[],.loc 0 0⟩),(6,⟨[],.sl 3 (bO l) none⟩),(7,⟨[],.v (.int .i64 (bO l).length)⟩),(8,⟨[],.v (.int .i64 e)⟩)],[vl s],[]⟩
theorem zZ (f:Nat->di) (n:Nat) (s:di) (hn:n<=1099511627776) :
  ba Tryz.prog 121 [.sl 3 (bO ((List.range n).map f)) none,.agg (vl s)] (.v (.int .i64 (oz ((List.range n).find? fun e=>jI (f e) s)))):=by
 have ed:(bO ((List.range n).map f)).length=n:=by rw [gC];simp
 refine ev_go (P:=Tryz.prog) tt tt_ok 5000 19 [.tmp 4] Tryz.func121 rfl Tryz.ntmps121 rfl (nL rfl) (fun E9 w9 hn9 hm9=>?_);refine bU (fun j st=>∃ e:Nat,st=Sn ((List.range n).map f) s e/\e<=n/\(∀ e' < e,jI (f e') s=false)/\j=n - e) n (Sn ((List.range n).map f) s 0) (aq ⟨_,rfl⟩ wA rfl rfl rfl wB) ⟨0,rfl,by omega,(fun _ h=>by omega),by omega⟩ ?_;rintro _ st ⟨e,rfl,he,iG,rfl⟩;refine br (fun hL=>?_) (fun hL=>?_)
 ·have au:e < n:=by simpa [ed] using hL
  have hx:((List.range n).map f)[e]? = some (f e):=by rw [List.getElem?_map,List.getElem?_range au];all_goals rfl
  refine Av (fun _=>false) mo (by decide +kernel) ?_;refine ⟨_,⟨by omega,oa hx⟩,_,H4 _ _ s (f e),?_⟩;refine br (fun c=>?_) (fun c=>?_)
  ·have c:jI s (f e)=true:=c;have:=Bc (p:=fun e=>jI (f e) s) au (by show jI (f e) s=true;rw [tZ];exact c) iG;rw [this];exact (rfl:_=_)
  ·have c:jI s (f e)=false:=c
   exact ⟨Sn ((List.range n).map f) s (e + 1),(aq ⟨_,rfl⟩ wA rfl rfl rfl (ah au)),n - (e + 1),by omega,e + 1,rfl,by omega,(fun e' h=>by
    rcases Nat.lt_or_ge e' e with h1 | h1
    ·exact iG e' h1
    ·have:e'=e:=by omega
     subst this
     rw [tZ];exact c),rfl⟩
 ·have bI:n<=e:=by simpa [ed] using hL
  have:=Ii (p:=fun e=>jI (f e) s) (n:=n) fun e' h=>iG e' (by omega);rw [this];exact (rfl:_=_)
theorem xY (d:Nd) (q z:Int) (s:ByteArray):ba Tryz.prog 120 [.agg (jR d),.agg (cd (.mk q z s []))] (.sl 3 [] none):=by
 obtain ⟨ag,bp,lo,hi,most,ae,es⟩:=d;refine ev_go (P:=Tryz.prog) tt tt_ok 5000 55 [.tmp 4] Tryz.func120 rfl Tryz.ntmps120 rfl (nL rfl) (fun E9 w9 hn9 hm9=>?_);refine bU (fun j st=>st=F2 ⟨ag,bp,lo,hi,most,ae,es⟩ (.mk q z s []) 0 0) 0 (F2 ⟨ag,bp,lo,hi,most,ae,es⟩ (.mk q z s []) 0 0) (dn 2 ⟨0,137,3,none⟩ rfl rfl rfl (by repeat' (first | exact rfl | exact aw rfl | exact bQ (Nat.le_refl _) rfl | exact bQ (Nat.le_refl _) rfl | refine ⟨_,_,rfl,?_,?_⟩)) rfl rfl aX) rfl ?_;rintro _ st rfl;exact ⟨_,ax,rfl⟩
def Sp (o:Option (Nat × Val × Int)):DV:=match o with
 | some (e,_,j)=>.dV [.v (.int .i64 (e:Nat)),.v (.int .i64 j)]
 | none=>.dV [.v (.int .i64 (-1)),.v (.int .i64 (-1))]
theorem oP {L:Nat} {ND:List Nd} (dh:∀ n∈ND,n5 L ND.length n) {v:Val} (hv:v.wt<=1099511627776) {i:Int} {d:Nd} (hF:FR ND v i d):ba Tryz.prog 120 [.agg (jR d),.agg (cd v)] (.sl 3 (bO (xV d v)) none):=by
 have hN:=dh d (mG (bT hF.ai).2);rcases Int.lt_or_le d.ag 5 with h5 | h5
 ·have h:=hF.leaf h5;obtain ⟨q,z,s,ks⟩:=v;simp only [Val.ks] at h;subst h;exact xY d q z s
 ·refine zY d v hv hF.k h5 hN.k8 (fun c=>?_) (fun c=>?_)
  ·have:=(hF.kids h5).1;rw [<- this];unfold kidsL;rw [if_neg (by omega),if_pos c,List.length_map]
  ·obtain ⟨_,_,_,h3,h4,_⟩:=hF.tag c;exact ⟨h3,h4⟩
theorem F4 {S:Sch} {ND:List Nd} {PC:List DV} (hP:lm S ND PC) {v:Val} (hv:v.wt<=1099511627776) {i:Int} (hf:fitV ND v i=true) (s:di) :
  ba Tryz.prog 64 [.pt PC 0,.v (.int .i64 i),.agg (cd v),.agg (vl s)] (Sp (stepV ND v i s)):=by
 obtain ⟨d,hF⟩:=gB hP.ok hf
 have Iz:stepV ND v i s=match sf d v s with | none=>none | some e=>match v.ks[e]?,(kidsL d v)[e]? with | some x,some j=>some (e,x,j) | _,_=>none:=by
  unfold stepV;rw [hF.ai];all_goals rfl
 have JI:∀ e,sf d v s=some e->∃ x j,v.ks[e]? = some x/\(kidsL d v)[e]? = some j/\5<=d.ag:=fun e he=>by
  have au:=(tY he).1;have hx:v.ks[e]? = some v.ks[e]:=gE au;have h5:=rD hP.ok hF hx;exact ⟨_,_,hx,gE (by rw [(hF.kids h5.1).1];exact au),h5.1⟩
 have jP:sf d v s=(List.range v.ks.length).find? fun e=>jI (stpR d v e) s:=rfl;have h1:=oP hP.ok hv hF;have gZ:=dL v.ks;have hvw:v.wt=64 + v.s.size + cw v.ks:=by cases v;rw [Val.wt];all_goals rfl
 have h2:=zZ (stpR d v) v.ks.length s (by omega);obtain ⟨h0,hg⟩:=bT hF.ai;have hN:=hP.ok d (mG hg);have h3:=fun h5=>kS hN h5 v hv;obtain ⟨j0,rfl⟩:∃ j:Nat,i=j:=⟨i.toNat,by omega⟩;have hg:ND[j0]? = some d:=by simpa using hg
 have dy:=hP.ai j0 d hg;rw [<- jP] at h2;rw [Iz];have CS:xV d v=(List.range v.ks.length).map (stpR d v):=rfl;rw [CS] at h1;generalize (List.range v.ks.length).map (stpR d v)=SL at h1 h2;generalize sf d v s=o at h2 JI ⊢;clear Iz;obtain ⟨q,z,t,ks⟩:=v;obtain ⟨ag,bp,lo,hi,most,ae,es⟩:=d;obtain ⟨sk,sn,ss⟩:=s;refine ev_go (P:=Tryz.prog) tt tt_ok 5000 38 [.tmp 8,.tmp 9] Tryz.func64 rfl Tryz.ntmps64 rfl (nL rfl) (fun E9 w9 hn9 hm9=>?_);refine call_p mB (dy) ax rfl ?_;refine Av (fun _=>false) mo (by decide +kernel) ?_;refine G8 IU (h1) ax rfl ?_;refine G8 M6 (h2) ax rfl ?_
 cases o with
 | none=>
  exact ⟨_,ax,rfl⟩
 | some e=>
  obtain ⟨x,j,hx,hj,h5⟩:=JI e rfl;refine call_p Hj (h3 h5) ax rfl ?_;refine Av (fun _=>false) mo (by decide +kernel) ?_;refine ⟨_,⟨by simp [oz],by simp [oz];exact jG hj⟩,?_⟩;simp only [hx,hj];exact ⟨_,ax,rfl⟩
abbrev CT:List DV:=[.v (.int .i64 0),.v (.int .i64 0),.v (.string ap),.v (.slice none 0 0)]
abbrev zeroV:Val:=.mk 0 0 ap []
abbrev Sq (v:Val) (n e:Nat):St:=
 ⟨[(1,⟨[],.loc 0 0⟩),(2,⟨[],.loc 1 0⟩),(3,⟨[],.sl 4 (dVals (v.ks.take e)) (some 0)⟩),(7,⟨[],.sl 4 (dVals v.ks) none⟩),(8,⟨[],.v (.int .i64 (dVals v.ks).length)⟩),(9,⟨[],.v (.int .i64 e)⟩)],[cd v,CT],[⟨n,45,4,none⟩]⟩
theorem rH:∀ (k:Nat) (v:Val),v.wt<=k->v.wt<=1099511627776->ba Tryz.prog 65 [.agg (cd v)] (.agg (cd v))
 | 0,v,h,_=>by have:=v.cT;omega
 | k + 1,.mk q z s ks,h,hb=>by
  have gZ:=dL ks;have ed:=bH ks;rw [Val.wt] at h hb;refine ev_go (P:=Tryz.prog) tt tt_ok 5000 22 [.cell 2 45] Tryz.func65 rfl Tryz.ntmps65 rfl (nL rfl) (fun E9 w9 hn9 hm9=>?_);refine bU (fun j st=>∃ e n:Nat,st=Sq (.mk q z s ks) n e/\n=e/\e<=ks.length/\j=ks.length - e) ks.length (Sq (.mk q z s ks) 0 0) (dn 2 ⟨0,45,4,none⟩ rfl rfl rfl (by repeat' (first | exact rfl | exact aw rfl | exact bQ (Nat.le_refl _) rfl | exact bQ (Nat.le_refl _) rfl | refine ⟨_,_,rfl,?_,?_⟩)) rfl rfl aX) ⟨0,0,rfl,rfl,by omega,by omega⟩ ?_;rintro _ st ⟨e,n,rfl,rfl,he,rfl⟩;refine br (fun hL=>?_) (fun hL=>?_)
  ·have au:n < ks.length:=by simpa [ed,Val.ks] using hL
   obtain ⟨x,hx⟩:∃ x,ks[n]? = some x:=⟨_,gE au⟩;have Fh:=cY (mG hx);have hw:=rH k x (by omega) (by omega);have eQ:=zN hx;have jN:(dVals (ks.take n)).length=n:=by rw [bH,List.length_take];omega
   obtain ⟨xk,xn,xs,xl⟩:=x;refine ⟨_,⟨by omega,cI hx⟩,?_⟩;refine call_p MV (hw) ax rfl ?_;refine ⟨jN,⟨by simp only [Val.ks];rw [jN];simp [maxLen];omega,by simp only [Val.ks];rw [jN];simp;omega⟩,?_⟩;exact ⟨Sq (.mk q z s ks) (n + 1) (n + 1),(aS 2 rfl (aK au eQ) rfl rfl rfl (aj au eQ)),ks.length - (n + 1),by omega,n + 1,n + 1,rfl,rfl,by omega,rfl⟩
  ·have bI:n=ks.length:=by
    have:=hL;simp [ed,Val.ks] at this;omega
   subst bI;have h1:dVals (Val.mk q z s ks).ks=dVals ks:=rfl;have h2:ks.take ks.length=ks:=List.take_length;have h3:(Val.mk q z s ks).ks.take ks.length=ks:=h2;rw [h3];exact ⟨_,ax,rfl⟩
def Sr (o:Option (Val × Int)):DV:=match o with
 | some (x,j)=>.dV [.agg (cd x),.v (.int .i64 j),.v (.bool true)]
 | none=>.dV [.agg (cd zeroV),.v (.int .i64 (-1)),.v (.bool false)]
abbrev LC (PC:List DV) (p:List di) (v:Val) (i:Int) (e:Nat):St:=
 ⟨[(0,⟨[],.pt PC 0⟩),(1,⟨[],.v (.int .i64 i)⟩),(6,⟨[],.loc 0 0⟩),(8,⟨[],.loc 1 0⟩),(21,⟨[],.sl 3 (bO p) none⟩),(22,⟨[],.v (.int .i64 (bO p).length)⟩),(23,⟨[],.v (.int .i64 e)⟩)],[cd v,CT],[]⟩
theorem tget_spec {S:Sch} {ND:List Nd} {PC:List DV} (hP:lm S ND PC) {v:Val} (hv:v.wt<=1099511627776) (i:Int) (p:List di) (hp:p.length<=1099511627776) :
  ba Tryz.prog 23 [.pt PC 0,.v (.int .i64 i),.agg (cd v),.sl 3 (bO p) none] (Sr (if fitV ND v i=true then getV ND p v i else none)):=by
 have pG:=fA hP _ v (Nat.le_refl _) hv i;have yW:=gC p
 have j2:∀ e vc ic,e<=p.length->getV ND (p.drop e) vc ic=match p[e]? with | none=>some (vc,ic) | some s=>match stepV ND vc ic s with | none=>none | some (_,x,j)=>getV ND (p.drop (e + 1)) x j:=fun e vc ic he=>by
  cases hs:p[e]? with
  | none=>rw [List.drop_eq_nil_of_le (List.getElem?_eq_none_iff.1 hs)];all_goals rfl
  | some s=>
   obtain ⟨h1,h2⟩:=List.getElem?_eq_some_iff.1 hs;rw [List.drop_eq_getElem_cons h1,h2,getV];all_goals rfl
 generalize hR:(if fitV ND v i=true then getV ND p v i else none)=R;have hvq:cd v=cd v:=rfl;generalize hvV:v=V at *;obtain ⟨q,z,s,ks⟩:=V;refine ev_go (P:=Tryz.prog) tt tt_ok 5000 48 [.cell 8 45,.tmp 9,.tmp 10] Tryz.func23 rfl Tryz.ntmps23 rfl (nL rfl) (fun E9 w9 hn9 hm9=>?_);refine call_p yQ (pG) ax rfl ?_;refine br (fun c=>?_) (fun c=>?_)
 ·have c:fitV ND (.mk q z s ks) i=false:=by simpa using c
  rw [c] at hR;subst hR;exact ⟨_,ax,rfl⟩
 have c:fitV ND (.mk q z s ks) i=true:=by simpa using c
 rw [if_pos c] at hR;refine bU (fun j st=>∃ (e:Nat) (vc:Val) (ic:Int),st=LC PC p vc ic e/\e<=p.length/\getV ND (p.drop e) vc ic=R/\fitV ND vc ic=true/\vc.wt<=1099511627776/\j=p.length - e) p.length (LC PC p (.mk q z s ks) i 0) (aS 2 rfl (by repeat' (first | exact rfl | exact aw rfl | exact aw rfl | refine ⟨_,_,rfl,?_,?_⟩)) rfl rfl rfl (by repeat' (first | exact trivial | exact aw rfl | exact aw rfl | refine ⟨⟨_,rfl,?_⟩,?_⟩))) ⟨0,_,_,rfl,by omega,hR,c,hv,by omega⟩ ?_;rintro _ st ⟨e,vc,ic,rfl,he,hg,OX,hvc,rfl⟩;have j2:=j2 e vc ic he;rw [hg] at j2;refine br (fun hL=>?_) (fun hL=>?_)
 ·have au:e < p.length:=by simpa [yW] using hL
  obtain ⟨y,hy⟩:∃ y,p[e]? = some y:=⟨_,gE au⟩;rw [hy] at j2;simp only at j2;have hk:=F4 hP hvc OX y;have TY:=@rF _ _ hP.ok vc ic OX y;have JJ:=@lQ ND vc ic y;generalize stepV ND vc ic y=o at hk j2 TY JJ;obtain ⟨yk,yn,ys⟩:=y;obtain ⟨ck,cn,cs,cks⟩:=vc;refine ⟨_,⟨by omega,oa hy⟩,?_⟩;refine call_p QS (hk) ax rfl ?_
  cases o with
  | none=>
   simp only at j2;subst j2;exact ⟨_,ax,rfl⟩
  | some o=>
   obtain ⟨e2,x,j⟩:=o;obtain ⟨d,_,_,hx,_⟩:=JJ rfl;have hxf:=TY rfl;simp only [Val.ks] at hx;have Fh:=cY (mG hx);rw [Val.wt] at hvc;simp only at j2;refine ⟨_,⟨by omega,by simpa using cI hx⟩,?_⟩;obtain ⟨xk,xn,xs,xl⟩:=x;exact ⟨LC PC p (.mk xk xn xs xl) j (e + 1),(aS 2 rfl (bh au) rfl rfl rfl (ah au)),p.length - (e + 1),by omega,e + 1,_,_,rfl,by omega,j2.symm,hxf,by omega,rfl⟩
 ·have bI:e=p.length:=by
   have:=hL;simp [yW] at this;omega
  have:p[e]? = none:=List.getElem?_eq_none (by omega);rw [this] at j2;simp only at j2;subst j2;have hw:=rH _ vc (Nat.le_refl _) hvc;obtain ⟨ck,cn,cs,cks⟩:=vc;refine call_p MV (hw) ax rfl ?_;exact ⟨_,ax,rfl⟩
theorem ua {α:Type} {c:Nat} {x:List α}:∀ {l:List (List α)} {e:Nat},(∀ y∈l,y.length=c)->e < l.length->(l.set e x).flatten=l.flatten.take (e * c) ++ x ++ l.flatten.drop (e * c + c)
 | [],e,_,h=>by simp at h
 | y :: r,0,hl,h=>by
  have hy:=hl y (by simp);subst hy;simp
 | y :: r,e + 1,hl,h=>by
  have hy:=hl y (by simp);have ih:=ua (x:=x) (l:=r) (e:=e) (fun z hz=>hl z (by simp [hz])) (by simpa using h);have h1:(e + 1) * c=y.length + e * c:=by rw [hy,Nat.add_mul,Nat.one_mul,Nat.add_comm]
  have h2:(e + 1) * c + c=y.length + (e * c + c):=by rw [h1];omega
  rw [List.set_cons_succ,List.flatten_cons,List.flatten_cons,ih,h2,h1,List.take_length_add_append,List.drop_length_add_append];simp
theorem kx:∀ (l:List Val),∀ x∈dVals l,x.length=4
 | [],x,h=>by simp [dVals] at h
 | .mk _ _ _ _ :: r,x,h=>by
  rw [dVals] at h;rcases List.mem_cons.1 h with h | h
  ·rw [h];all_goals rfl
  ·exact kx r x h
theorem CU (l:List Val) (e:Nat) (y:Val):dVals (l.set e y)=(dVals l).set e (cd y):=by rw [dA,dA,List.map_set]
section
variable (PC:List DV) (ND:List Nd) (D:List Nat) (K:List Bool) (sz ot:List Nat) {L:Nat}
end
section
variable (PC:List DV) (ND:List Nd) (D:List Nat) (K:List Bool) (sz T:List Nat) {L:Nat}
end
end Go.Proofs.YtfifjddnnmfeoaaGreat
set_option maxRecDepth 100000
namespace Go.Proofs.YtfifjddnnmfeoaaGreat
open Go Go.RowKit Dv Tryz
end Go.Proofs.YtfifjddnnmfeoaaGreat
set_option maxRecDepth 100000
namespace Go.Proofs.YtfifjddnnmfeoaaGreat
open Go Go.RowKit Dv Tryz
structure Pl where
 i:Nat
 d:Nd
 k:Nat
 s:di
end Go.Proofs.YtfifjddnnmfeoaaGreat
set_option maxRecDepth 100000
namespace Go.Proofs.YtfifjddnnmfeoaaGreat
open Go Go.RowKit Dv Tryz
end Go.Proofs.YtfifjddnnmfeoaaGreat
set_option maxRecDepth 100000
namespace Go.Proofs.YtfifjddnnmfeoaaGreat
open Go Go.RowKit Dv Tryz
end Go.Proofs.YtfifjddnnmfeoaaGreat
set_option maxRecDepth 100000
namespace Go.Proofs.YtfifjddnnmfeoaaGreat
open Go Go.RowKit Dv Tryz
end Go.Proofs.YtfifjddnnmfeoaaGreat
set_option maxRecDepth 100000
namespace Go.Proofs.YtfifjddnnmfeoaaGreat
open Go Go.RowKit Dv Tryz
section
variable (PC:List DV) (ND:List Nd) (D:List Nat) (K:List Bool) (sz ot:List Nat) {L:Nat}
end
end Go.Proofs.YtfifjddnnmfeoaaGreat
set_option maxRecDepth 100000
namespace Go.Proofs.YtfifjddnnmfeoaaGreat
open Go Go.RowKit Dv Tryz
end Go.Proofs.YtfifjddnnmfeoaaGreat
set_option maxRecDepth 100000
namespace Go.Proofs.YtfifjddnnmfeoaaGreat
open Go Go.RowKit Dv Tryz
end Go.Proofs.YtfifjddnnmfeoaaGreat
set_option maxRecDepth 100000
namespace Go.Proofs.YtfifjddnnmfeoaaGreat
open Go Go.RowKit Dv Tryz
section
variable (PC:List DV) (p:List di) (l:List Pl)
end
section
variable (PC:List DV) (ND:List Nd) (D:List Nat) (K:List Bool) (sz ot:List Nat) (p:List di) (l:List Pl)
end
section
variable (PC:List DV) (ND:List Nd) (D:List Nat) (K:List Bool) (sz ot:List Nat) {L:Nat}
abbrev Ss (k:Int) (l:List Val):List DV:=[.v (.int .i64 k),.v (.int .i64 0),.v (.string .empty),.sl 4 (dVals l) (some 0)]
end
theorem xZ {ND:List Nd} {i:Int}:∀ {l:List Rw} {acc:List Val} {e:Nat} {x:Rw},l[e]? = some x->(∀ r∈l.take e,(ckV ND r i).2.1=0)->ckL ND l i acc=if (ckV ND x i).2.1≠0 then ([],(ckV ND x i).2) else ckL ND (l.drop (e + 1)) i (acc ++ (l.take (e + 1)).map fun r=>(ckV ND r i).1)
 | [],acc,e,x,h,_=>by simp at h
 | r :: l,acc,0,x,h,_=>by
  simp at h;subst h;rw [ckL];simp
 | r :: l,acc,e + 1,x,h,hr=>by
  have h0:=hr r (by simp);rw [ckL,if_neg (by simpa using h0),xZ (l:=l) (e:=e) (x:=x) (by simpa using h) (fun y hy=>hr y (by simp [hy]))];simp
theorem F5 {i j:Nat} {s S:St} (h:bV s (cE i j S):=by refine (⟨rfl,rfl,?_⟩:_/\_/\_);(repeat (refine (⟨?_,?_⟩:_/\_);exact rfl));exact trivial):(s=S∨bV s S)∨bV s (cE i j S):=.inr h
section
variable (PC:List DV)
abbrev TZ:List DV:=[.v (.int .i64 0),.v (.int .i64 0)]
abbrev LD (d:Nd) (r:Rw) (ks:List Rw) (vs:List Val) (n e:Nat):St:=
 ⟨[(0,⟨[],.pt PC 0⟩),(4,⟨[],.loc 0 0⟩),(6,⟨[],.loc 2 0⟩),(7,⟨[],.loc 3 0⟩),(8,⟨[],.loc 4 0⟩),(34,⟨[],.sl 6 (dRws ks) none⟩),(35,⟨[],.v (.int .i64 (dRws ks).length)⟩),(36,⟨[],.v (.int .i64 e)⟩)],[jR d,dRw r,CT,TZ,Ss 5 vs],[⟨n,45,4,none⟩]⟩
set_option maxHeartbeats 4000000 in
theorem x4 {ND:List Nd} (d:Nd) (h5:d.ag=5) {y:Ed} (hy:d.aD[0]? = some y) (hm:d.most<=1024) (k a n:Int) (s:ByteArray) (keys:List Wd) (ks:List Rw) (lX:∀ r∈ks,ba Tryz.prog 18 [.pt PC 0,.v (.int .i64 y.to),.agg (dRw r)] (rC (ckV ND r y.to))) :
  ba Tryz.prog 56 [.pt PC 0,.agg (jR d),.agg (dRw (.mk k a n s keys ks))] (rC (if k≠4 then cp 14 a else if d.most < (ks.length:Int) then cp 20 a else eF 5 0 (ckL ND ks y.to []))):=by
 have hb:=fun e=>dM e (Rw.mk k a n s keys ks);have gZ:=gY ks;obtain ⟨ag,bp,lo,hi,most,ae,es⟩:=d;simp only at hy hm h5 ⊢;refine ev_go (P:=Tryz.prog) tt tt_ok 5000 65 [.cell 6 45,.cell 7 54] Tryz.func56 rfl Tryz.ntmps56 rfl (nL rfl) (fun E9 w9 hn9 hm9=>?_);refine br (fun c=>?_) (fun c=>?_)
 ·have c:k≠4:=by simpa using c
  rw [if_pos c];refine call_p fH (hb 14) ax rfl ?_;exact ⟨_,ax,rfl⟩
 have c:¬ k≠4:=by simpa using c
 rw [if_neg c];refine br (fun c=>?_) (fun c=>?_)
 ·have c:most < (ks.length:Int):=by simpa [gZ] using c
  rw [if_pos c];refine call_p fH (hb 20) ax rfl ?_;exact ⟨_,ax,rfl⟩
 have c:¬ most < (ks.length:Int):=by simpa [gZ] using c
 rw [if_neg c];refine bU (fun j st=>∃ e:Nat,st=LD PC ⟨ag,bp,lo,hi,most,ae,es⟩ (.mk k a n s keys ks) ks ((ks.take e).map fun r=>(ckV ND r y.to).1) e e/\e<=ks.length/\(∀ r∈ks.take e,(ckV ND r y.to).2.1=0)/\j=ks.length - e) ks.length (LD PC ⟨ag,bp,lo,hi,most,ae,es⟩ (.mk k a n s keys ks) ks [] 0 0) (dn 5 ⟨0,45,4,none⟩ rfl rfl rfl (by repeat' (first | exact rfl | exact aw rfl | exact bQ (Nat.le_refl _) rfl | exact bQ (Nat.le_refl _) rfl | refine ⟨_,_,rfl,?_,?_⟩)) rfl rfl aX) ⟨0,rfl,by omega,fun r hr=>by simp at hr,by omega⟩ ?_;rintro j st ⟨e,rfl,he,iG,rfl⟩;refine br (fun hL=>?_) (fun hL=>?_)
 ·have au:e < ks.length:=by simpa [gZ] using hL
  obtain ⟨x,hx⟩:∃ x,ks[e]? = some x:=⟨_,gE au⟩;have lX:=lX x (mG hx);have aZ:=xZ (ND:=ND) (i:=y.to) (acc:=[]) hx iG;have Su:(dVals ((ks.take e).map fun r=>(ckV ND r y.to).1)).length=e:=by rw [bH,List.length_map,List.length_take];omega
  have eQ:dVals ((ks.take e).map fun r=>(ckV ND r y.to).1) ++ [cd (ckV ND x y.to).1]=dVals ((ks.take (e + 1)).map fun r=>(ckV ND r y.to).1):=by
   rw [gA hx,List.map_append,dA,dA,List.map_append];all_goals rfl
  have LF:(ckV ND x y.to).2.1=0->∀ r∈ks.take (e + 1),(ckV ND r y.to).2.1=0:=fun h r hr=>by
   rw [gA hx] at hr;rcases List.mem_append.1 hr with hr | hr
   ·exact iG r hr
   ·simp at hr;rw [hr];exact h
  have hF:eF 5 0 (ckL ND ks y.to [])=if (ckV ND x y.to).2.1≠0 then (.mk 0 0 ap [],(ckV ND x y.to).2) else eF 5 0 (ckL ND ks y.to []):=by
   split
   ·rename_i h;rw [aZ,if_pos h];unfold eF;rw [if_pos h]
   ·rfl
  generalize ckV ND x y.to=R at lX eQ LF hF;obtain ⟨⟨Rk,Rn,Rs,Rl⟩,Re,Ra⟩:=R;obtain ⟨xk,xa,xn,xs,xq,xl⟩:=x;obtain ⟨en,eb,ea,et,PR,ew,PS,PT,PU,PV⟩:=y;simp only at lX eQ LF hF;refine ⟨_,⟨by omega,rr hx⟩,?_⟩;apply iT (.op 0 (.op 1 (.op 2 (.op 3 (.op 4 (.op 5 (.op 6 (.ev 7 (.op 8 (.op 9 (.op 10 (.ev 11 (.ev 12 (.ev 13 (.ev 14 .fin .stop) .stop) .stop) (.ev 12 (.ev 11 (.ev 13 (.ev 14 .fin .stop) .stop) .stop) .stop))))) (.ev 11 (.ev 7 (.op 8 (.op 9 (.op 10 (.ev 12 (.ev 13 (.ev 14 .fin .stop) .stop) .stop)))) (.ev 12 (.ev 7 (.op 8 (.op 9 (.op 10 (.ev 13 (.ev 14 .fin .stop) .stop)))) .stop) .stop)) (.ev 12 (.ev 7 (.op 8 (.op 9 (.op 10 (.ev 11 (.ev 13 (.ev 14 .fin .stop) .stop) .stop)))) (.ev 11 (.ev 7 (.op 8 (.op 9 (.op 10 (.ev 13 (.ev 14 .fin .stop) .stop)))) .stop) .stop)) .stop)))))))))) 6 7 mo (by decide +kernel);·repeat' (first | refine ⟨_,⟨by omega,cX hy⟩,?_⟩ | refine G8 BN (lX) ax rfl ?_ | exact Or.inl (Or.inl rfl) | exact Or.inl lO | exact F5 | exact trivial | exact Or.inl (Or.inl rfl) | exact Or.inl lO | exact CD | refine ⟨?_,?_⟩)
  ·exact (rfl:_=_)
  refine br (fun g=>?_) (fun g=>?_)
  ·have g:Re≠0:=by simpa using g
   rw [hF,if_pos g];refine eo [2,3] (fun _=>false) mo (by decide +kernel) ?_;exact ⟨_,ax,rfl⟩
  ·have g:Re=0:=by simpa using g
   refine ⟨Su,⟨by rw [Su];simp [maxLen];omega,by rw [Su];simp;omega⟩,?_⟩;exact ⟨LD PC ⟨ag,bp,lo,hi,most,ae,es⟩ (.mk k a n s keys ks) ks ((ks.take (e + 1)).map fun r=>(ckV ND r et).1) (e + 1) (e + 1),(aS 5 rfl (aK au eQ) rfl rfl rfl (aj au eQ)),ks.length - (e + 1),by omega,e + 1,rfl,by omega,LF g,rfl⟩
 ·have bI:e=ks.length:=by have:=hL;simp [gZ] at this;omega
  subst bI;rw [List.take_length] at iG;rw [FV iG,List.take_length];exact ⟨_,ax,rfl⟩
end
theorem Bd (ND:List Nd) (r:Rw) (i:Int):ckL ND [r] i []=if (ckV ND r i).2.1≠0 then ([],(ckV ND r i).2) else ([(ckV ND r i).1],0,0):=by
 rw [ckL];split
 ·rfl
 ·rw [ckL];all_goals rfl
theorem vt {k n:Int} {t:List Val × Int × Int} (h:(eF k n t).2.1=0):(eF k n t).2.2=0:=by
 unfold eF at h ⊢;split at h
 ·rename_i h1;exact (h1 h).elim
 ·rename_i h1;rw [if_neg h1];all_goals rfl
theorem Ij {a:Int} {t:List (Option Val) × Int × Int} (h:(recC a t).2.1=0):(recC a t).2.2=0:=by
 unfold recC at h ⊢;split at h
 ·rename_i h1;exact (h1 h).elim
 ·rename_i h1;rw [if_neg h1];split at h
  ·exact (by cases h)
  ·rename_i h2;rw [if_neg h2];all_goals rfl
theorem CV {d:Nd} {k a n:Int} {s:ByteArray}:(ckLeaf d k a n s).2.1=0->(ckLeaf d k a n s).2.2=0:=by
 unfold ckLeaf
 repeat' split
 all_goals first | exact fun _=>rfl | exact fun h=>by cases h
theorem Be {ND:List Nd} (r:Rw) (i:Int) (h:(ckV ND r i).2.1=0):(ckV ND r i).2.2=0:=by
 obtain ⟨k,a,n,s,keys,ks⟩:=r;rw [ckV] at h ⊢;split
 ·rename_i hd;rw [hd] at h;exact (by cases h)
 ·rename_i d hd;rw [hd] at h;simp only at h;by_cases c5:d.ag < 5
  ·rw [if_pos c5] at h ⊢;exact CV h
  rw [if_neg c5] at h ⊢;by_cases c:d.ag=5
  ·rw [if_pos c] at h ⊢;by_cases c1:k≠4
   ·rw [if_pos c1] at h;cases h
   rw [if_neg c1] at h ⊢;by_cases c2:d.most < (ks.length:Int)
   ·rw [if_pos c2] at h;cases h
   rw [if_neg c2] at h ⊢;exact vt h
  rw [if_neg c] at h ⊢;by_cases c6:d.ag=6
  ·rw [if_pos c6] at h ⊢;by_cases c1:k=1/\s=mZ
   ·rw [if_pos c1];all_goals rfl
   rw [if_neg c1] at h ⊢;by_cases c2:k≠6∨ks.length≠1∨s≠mY
   ·rw [if_pos c2] at h;cases h
   rw [if_neg c2] at h ⊢;exact vt h
  rw [if_neg c6] at h ⊢;by_cases c7:d.ag=7
  ·rw [if_pos c7] at h ⊢;by_cases c1:k≠5∨keys.length≠ks.length
   ·rw [if_pos c1] at h;cases h
   rw [if_neg c1] at h ⊢;exact Ij h
  rw [if_neg c7] at h ⊢;by_cases c8:k≠1/\(k≠6∨ks.length≠1)
  ·rw [if_pos c8] at h;cases h
  rw [if_neg c8] at h ⊢
  cases Ik:vj d s with
  | none=>rw [Ik] at h;cases h
  | some c=>
   rw [Ik] at h;simp only at h ⊢
   cases he:d.aD[c]? with
   | none=>rw [he] at h;cases h
   | some e=>
    rw [he] at h;simp only at h ⊢;by_cases c1:k=1
    ·rw [if_pos c1] at h ⊢;by_cases cb:e.bare=true
     ·rw [if_pos cb];all_goals rfl
     ·rw [if_neg cb] at h;cases h
    ·rw [if_neg c1] at h ⊢;by_cases cb:e.bare=true
     ·rw [if_pos cb] at h;cases h
     ·rw [if_neg cb] at h ⊢;exact vt h
section
variable (PC:List DV)
set_option maxHeartbeats 4000000 in
theorem z6 {ND:List Nd} (d:Nd) {y:Ed} (hy:d.aD[0]? = some y) (k a n:Int) (s:ByteArray) (keys:List Wd) (ks:List Rw) (lX:∀ r∈ks,ba Tryz.prog 18 [.pt PC 0,.v (.int .i64 y.to),.agg (dRw r)] (rC (ckV ND r y.to))) :
  ba Tryz.prog 57 [.pt PC 0,.agg (jR d),.agg (dRw (.mk k a n s keys ks))] (rC (if k=1/\s=mZ then hU (.mk 6 0 ap []) else if k≠6∨ks.length≠1∨s≠mY then cp 14 a else eF 6 0 (ckL ND ks y.to []))):=by
 have hb:=fun e=>dM e (Rw.mk k a n s keys ks);have gZ:=gY ks;have mr:=oM k a n s keys ks;generalize dZ:(decide (k=6) && decide (ks.length=1))=cl at mr;have CW:cl=true↔k=6/\ks.length=1:=by rw [<- dZ];simp
 obtain ⟨ag,bp,lo,hi,most,ae,es⟩:=d;simp only at hy;refine ev_go (P:=Tryz.prog) tt tt_ok 5000 57 [.cell 6 45,.cell 7 54] Tryz.func57 rfl Tryz.ntmps57 rfl (nL rfl) (fun E9 w9 hn9 hm9=>?_);refine br (fun c=>?_) (fun c=>?_)
 ·have c:k=1/\s=mZ:=by
   have c:k=1/\s=⟨#[110,111,110,101]⟩:=by simpa [av] using c
   exact c
  rw [if_pos c];exact ⟨_,ax,rfl⟩
 have c1:¬ (k=1/\s=mZ):=by
  intro h;have h2:s=⟨#[110,111,110,101]⟩:=h.2;simp [av,h.1,h2] at c
 rw [if_neg c1];refine call_p Az (mr) ax rfl ?_;refine br (fun c=>?_) (fun c=>?_)
 ·have c:k≠6∨ks.length≠1∨s≠mY:=by
   by_cases h1:k=6
   ·by_cases h2:ks.length=1
    ·refine .inr (.inr fun h3=>?_);have h3:s=⟨#[115,111,109,101]⟩:=h3;rw [CW.2 ⟨h1,h2⟩] at c;simp [aA,h3] at c
    ·exact .inr (.inl h2)
   ·exact .inl h1
  rw [if_pos c];refine call_p fH (hb 14) ax rfl ?_;exact ⟨_,ax,rfl⟩
 have c2:cl=true/\s=mY:=by
  cases cl with
  | false=>simp [aA] at c
  | true=>
   refine ⟨rfl,?_⟩;have:s=⟨#[115,111,109,101]⟩:=by simpa [aA] using c
   exact this
 obtain ⟨LG,gO⟩:=CW.1 c2.1
 rw [if_neg (by
  intro h;rcases h with h | h | h
  ·exact h LG
  ·exact h gO
  ·exact h c2.2)]
 obtain ⟨x,rfl⟩:=List.length_eq_one_iff.1 gO;have lX:=lX x (by simp);have ux:=Be (ND:=ND) x y.to;rw [Bd];generalize ckV ND x y.to=R at lX ux ⊢;obtain ⟨⟨Rk,Rn,Rs,Rl⟩,Re,Ra⟩:=R;have GD:(dRws [x])[0]? = some (dRw x):=rfl;obtain ⟨xk,xa,xn,xs,xq,xl⟩:=x;obtain ⟨en,eb,ea,et,PR,ew,PS,PT,PU,PV⟩:=y;simp only at lX ux ⊢;apply iT (.op 0 (.op 1 (.op 2 (.op 3 (.op 4 (.op 5 (.op 6 (.op 7 (.op 8 (.op 9 (.ev 10 (.op 11 (.op 12 (.op 13 (.ev 14 (.ev 15 (.ev 16 (.ev 17 .fin .stop) .stop) .stop) (.ev 15 (.ev 14 (.ev 16 (.ev 17 .fin .stop) .stop) .stop) .stop))))) (.ev 14 (.ev 10 (.op 11 (.op 12 (.op 13 (.ev 15 (.ev 16 (.ev 17 .fin .stop) .stop) .stop)))) (.ev 15 (.ev 10 (.op 11 (.op 12 (.op 13 (.ev 16 (.ev 17 .fin .stop) .stop)))) .stop) .stop)) (.ev 15 (.ev 10 (.op 11 (.op 12 (.op 13 (.ev 14 (.ev 16 (.ev 17 .fin .stop) .stop) .stop)))) (.ev 14 (.ev 10 (.op 11 (.op 12 (.op 13 (.ev 16 (.ev 17 .fin .stop) .stop)))) .stop) .stop)) .stop))))))))))))) 4 5 mo (by decide +kernel);·repeat' (first | refine ⟨_,⟨by omega,cX hy⟩,?_⟩ | refine ⟨_,⟨by omega,GD⟩,?_⟩ | refine G8 BN (lX) ax rfl ?_ | exact Or.inl (Or.inl rfl) | exact Or.inl lO | exact F5 | exact trivial | exact Or.inl (Or.inl rfl) | exact Or.inl lO | exact CD | refine ⟨?_,?_⟩)
 ·exact (rfl:_=_)
 refine br (fun g=>?_) (fun g=>?_)
 ·have g:Re≠0:=by simpa using g
  rw [if_pos g];have hl:eF 6 0 (([],Re,Ra):List Val × Int × Int)=(.mk 0 0 ap [],Re,Ra):=by unfold eF;rw [if_pos g]
  rw [hl];refine eo [2,3] (fun _=>false) mo (by decide +kernel) ?_;exact ⟨_,ax,rfl⟩
 ·have g:Re=0:=by simpa using g
  have LH:Ra=0:=ux g;subst g;subst LH;rw [if_neg (by simp)];have hl:eF 6 0 (([Val.mk Rk Rn Rs Rl],0,0):List Val × Int × Int)=(.mk 6 0 ap [.mk Rk Rn Rs Rl],0,0):=by unfold eF;rw [if_neg (by simp)];all_goals rfl
  rw [hl];refine eo [2,3] (fun _=>false) mo (by decide +kernel) ?_;exact ⟨_,ax,rfl⟩
end
section
variable (PC:List DV)
set_option maxHeartbeats 8000000 in
theorem union24_spec {ND:List Nd} (d:Nd) (ly:d.aD.length<=1099511627776) (k a n:Int) (s:ByteArray) (keys:List Wd) (ks:List Rw) (lX:∀ r∈ks,∀ e∈d.aD,e.bare=false->ba Tryz.prog 18 [.pt PC 0,.v (.int .i64 e.to),.agg (dRw r)] (rC (ckV ND r e.to))) :
  ba Tryz.prog 59 [.pt PC 0,.agg (jR d),.agg (dRw (.mk k a n s keys ks))] (rC (if k≠1/\(k≠6∨ks.length≠1) then cp 14 a
   else match vj d s with
    | none=>cp 9 a
    | some c=>match d.aD[c]? with
     | none=>cp 9 a
     | some e=>if k=1 then (if e.bare=true then hU (.mk 8 c ap []) else cp 15 a) else if e.bare=true then cp 19 a else eF 8 c (ckL ND ks e.to []))):=by
 have hb:=fun e=>dM e (Rw.mk k a n s keys ks);have mr:=oM k a n s keys ks;have dF:=oN d s ly;generalize dZ:(decide (k=6) && decide (ks.length=1))=cl at mr;have CW:cl=true↔k=6/\ks.length=1:=by rw [<- dZ];simp
 have ie:=fun {c}=>@kv d s c;generalize vj d s=I at dF ie ⊢;obtain ⟨ag,bp,lo,hi,most,ae,es⟩:=d;simp only at lX ie ⊢;by_cases c0:k≠1/\(k≠6∨ks.length≠1)
 ·rw [if_pos c0]
  have Sv:cl=false:=by
   cases cl with
   | false=>rfl
   | true=>have:=CW.1 rfl;omega
  subst Sv;refine ev_go (P:=Tryz.prog) tt tt_ok 5000 98 [.cell 6 45,.cell 7 54] Tryz.func59 rfl Tryz.ntmps59 rfl (nL rfl) (fun E9 w9 hn9 hm9=>?_);refine br (fun c=>?_) (fun c=>absurd c (by simpa using c0.1));refine call_p Az (mr) ax rfl ?_;refine call_p fH (hb 14) ax rfl ?_;exact ⟨_,ax,rfl⟩
 rw [if_neg c0];have ma:k=1∨(k=6/\ks.length=1):=by omega
 cases I with
 | none=>
  rcases ma with gO | ⟨LG,gO⟩
  ·subst gO;refine ev_go (P:=Tryz.prog) tt tt_ok 5000 98 [.cell 6 45,.cell 7 54] Tryz.func59 rfl Tryz.ntmps59 rfl (nL rfl) (fun E9 w9 hn9 hm9=>?_);refine call_p sN (dF) ax rfl ?_;refine call_p fH (hb 9) ax rfl ?_;exact ⟨_,ax,rfl⟩
  ·have F6:cl=true:=CW.2 ⟨LG,gO⟩;subst F6 LG;refine ev_go (P:=Tryz.prog) tt tt_ok 5000 98 [.cell 6 45,.cell 7 54] Tryz.func59 rfl Tryz.ntmps59 rfl (nL rfl) (fun E9 w9 hn9 hm9=>?_);refine call_p Az (mr) ax rfl ?_;refine call_p sN (dF) ax rfl ?_;refine call_p fH (hb 9) ax rfl ?_;exact ⟨_,ax,rfl⟩
 | some c=>
  obtain ⟨e,he,hnm⟩:=ie rfl;have G6:=mG he;obtain ⟨J,hJ⟩:∃ J:Int,J=(c:Int):=⟨_,rfl⟩;have dF:ba Tryz.prog 116 [.agg (jR ⟨ag,bp,lo,hi,most,ae,es⟩),.v (.string s)] (.v (.int .i64 J)):=by rw [hJ];exact dF
  have PW:¬ J < 0:=by omega
  have OY:J.toNat=c:=by omega
  simp only [he];rw [<- hJ];rcases ma with gO | ⟨LG,gO⟩
  ·subst gO;rw [if_pos rfl];refine ev_go (P:=Tryz.prog) tt tt_ok 5000 98 [.cell 6 45,.cell 7 54] Tryz.func59 rfl Tryz.ntmps59 rfl (nL rfl) (fun E9 w9 hn9 hm9=>?_);refine call_p sN (dF) ax rfl ?_;refine br (fun c=>absurd (show J < 0 by simpa using c) PW) (fun _=>?_);refine ⟨_,⟨by omega,by rw [OY];exact cX he⟩,?_⟩;refine br (fun c=>?_) (fun c=>?_)
   ·have c:e.bare=false:=by simpa [pickB] using c
    rw [if_neg (by rw [c];simp)];refine call_p fH (hb 15) ax rfl ?_;exact ⟨_,ax,rfl⟩
   ·have c:e.bare=true:=by simpa [pickB] using c
    rw [if_pos c];exact ⟨_,ax,rfl⟩
  ·obtain ⟨x,rfl⟩:=List.length_eq_one_iff.1 gO;have F6:cl=true:=CW.2 ⟨LG,rfl⟩;subst F6 LG;rw [if_neg (by omega)];have lX:=lX x (by simp) e G6;have ux:=Be (ND:=ND) x e.to;rw [Bd];generalize ckV ND x e.to=R at lX ux ⊢;obtain ⟨⟨Rk,Rn,Rs,Rl⟩,Re,Ra⟩:=R;have GD:(dRws [x])[0]? = some (dRw x):=rfl;obtain ⟨xk,xa,xn,xs,xq,xl⟩:=x;simp only at lX ux ⊢;refine ev_go (P:=Tryz.prog) tt tt_ok 5000 98 [.cell 6 45,.cell 7 54] Tryz.func59 rfl Tryz.ntmps59 rfl (nL rfl) (fun E9 w9 hn9 hm9=>?_);refine call_p Az (mr) ax rfl ?_;refine call_p sN (dF) ax rfl ?_;refine br (fun c=>absurd (show J < 0 by simpa using c) PW) (fun _=>?_);refine ⟨_,⟨by omega,by rw [OY];exact cX he⟩,?_⟩;refine br (fun c=>?_) (fun c=>?_)
   ·have c:e.bare=true:=by simpa [pickB] using c
    rw [if_pos c];refine call_p fH (hb 19) ax rfl ?_;exact ⟨_,ax,rfl⟩
   ·have c:e.bare=false:=by simpa [pickB] using c
    have lX:=lX c;rw [if_neg (by rw [c];simp)];obtain ⟨en,eb,ea,et,PR,ew,PS,PT,PU,PV⟩:=e;simp only at lX;apply iT (.op 0 (.op 1 (.op 2 (.op 3 (.op 4 (.op 5 (.op 6 (.op 7 (.op 8 (.op 9 (.op 10 (.ev 11 (.op 12 (.op 13 (.op 14 (.ev 15 (.ev 16 (.ev 17 (.ev 18 .fin .stop) .stop) .stop) (.ev 16 (.ev 15 (.ev 17 (.ev 18 .fin .stop) .stop) .stop) .stop))))) (.ev 15 (.ev 11 (.op 12 (.op 13 (.op 14 (.ev 16 (.ev 17 (.ev 18 .fin .stop) .stop) .stop)))) (.ev 16 (.ev 11 (.op 12 (.op 13 (.op 14 (.ev 17 (.ev 18 .fin .stop) .stop)))) .stop) .stop)) (.ev 16 (.ev 11 (.op 12 (.op 13 (.op 14 (.ev 15 (.ev 17 (.ev 18 .fin .stop) .stop) .stop)))) (.ev 15 (.ev 11 (.op 12 (.op 13 (.op 14 (.ev 17 (.ev 18 .fin .stop) .stop)))) .stop) .stop)) .stop)))))))))))))) 5 6 mo (by decide +kernel);·repeat' (first | refine ⟨_,⟨by omega,by rw [OY];exact cX he⟩,?_⟩ | refine ⟨_,⟨by omega,GD⟩,?_⟩ | refine G8 BN (lX) ax rfl ?_ | exact Or.inl (Or.inl rfl) | exact Or.inl lO | exact F5 | exact trivial | exact Or.inl (Or.inl rfl) | exact Or.inl lO | exact CD | refine ⟨?_,?_⟩)
    ·exact (rfl:_=_)
    refine br (fun g=>?_) (fun g=>?_)
    ·have g:Re≠0:=by simpa using g
     rw [if_pos g];have hl:eF 8 J (([],Re,Ra):List Val × Int × Int)=(.mk 0 0 ap [],Re,Ra):=by unfold eF;rw [if_pos g]
     rw [hl];refine eo [2,3] (fun _=>false) mo (by decide +kernel) ?_;exact ⟨_,ax,rfl⟩
    ·have g:Re=0:=by simpa using g
     have LH:Ra=0:=ux g;subst g;subst LH;rw [if_neg (by simp)];have hl:eF 8 J (([Val.mk Rk Rn Rs Rl],0,0):List Val × Int × Int)=(.mk 8 J ap [.mk Rk Rn Rs Rl],0,0):=by unfold eF;rw [if_neg (by simp)];all_goals rfl
     rw [hl];exact ⟨_,ax,rfl⟩
end
theorem vu {n m:Nat} {tk:List TkE}:∀ {a a' b b':List DV},WeL n m tk a a' -> WeL n m tk b b' -> WeL n m tk (a ++ b) (a' ++ b')
 | [],a',b,b',h,h2=>by simp only [WeL] at h;subst h;exact h2
 | x :: r,a',b,b',h,h2=>by
  simp only [WeL] at h;obtain ⟨x',r',rfl,h3,h4⟩:=h;simp only [List.cons_append,WeL];exact ⟨x',r' ++ b',rfl,h3,vu h4 h2⟩
theorem F7 {n m:Nat} {tk:List TkE}:∀ k:Nat,WeL n m tk (List.replicate k CT).flatten (dVals (List.replicate k zeroV)).flatten
 | 0=>by simp [dVals,WeL]
 | k + 1=>by
  rw [List.replicate_succ,List.replicate_succ,List.flatten_cons,dVals,List.flatten_cons];refine vu ?_ (F7 k);exact ⟨_,_,rfl,aw rfl,_,_,rfl,aw rfl,_,_,rfl,aw rfl,_,_,rfl,Ke,rfl⟩
theorem F8 {n m:Nat} {tk:List TkE}:∀ vs:List Val,WeL n m tk (dVals vs).flatten (dVals vs).flatten
 | []=>by simp [dVals,WeL]
 | v :: r=>by
  obtain ⟨k,z,s,ks⟩:=v;rw [dVals,List.flatten_cons];exact vu ⟨_,_,rfl,aw rfl,_,_,rfl,aw rfl,_,_,rfl,aw rfl,_,_,rfl,aw rfl,rfl⟩ (F8 r)
theorem F9 {n m:Nat} {tk:List TkE} {l:List DV} {vs:List Val} (h:l=(dVals vs).flatten):WeL n m tk l (dVals vs).flatten:=by rw [h];exact F8 vs
theorem Sw {bx:List (List DV)} {N n0 m0 n i:Nat} {vs:List Val} (hr:vs.length=n) (hN:N<=i) (hb:bx[i]? = some (dVals vs).flatten):Cc bx N n0 m0 (.sl 4 (dVals vs) none) (.ms i 4 0 n n):=by
 simp only [Cc]
 have hl:(dVals vs).flatten.length=vs.length * 4:=by
  clear hr hb
  induction vs with
  | nil=>rfl
  | cons v r ih=>
   obtain ⟨k,z,s,ks⟩:=v;rw [dVals,List.flatten_cons,List.length_append,ih,List.length_cons];show 4 + r.length * 4=_;omega
 refine Or.inr (Or.inr (Or.inl ⟨i,0,n,_,by rw [bH,hr],hN,hb,?_,kx vs,?_⟩))
 ·rw [List.drop_zero,List.take_of_length_le (by rw [hl,bH];omega)]
 ·intro x hx;obtain ⟨l,Fk,hx⟩:=List.mem_flatten.1 hx;rw [dA] at Fk;obtain ⟨⟨k,z,s,ks⟩,_,rfl⟩:=List.mem_map.1 Fk;simp [cd] at hx;rcases hx with rfl | rfl | rfl | rfl
  ·exact .inl ⟨_,rfl⟩
  ·exact .inl ⟨_,rfl⟩
  ·exact .inl ⟨_,rfl⟩
  ·exact .inr ⟨_,_,rfl⟩
abbrev OZ (L:List Bool) (e:Nat):St:=
 ⟨[(0,⟨[],.sl 1 (CB L) none⟩),(1,⟨[],.v (.bool false)⟩),(7,⟨[],.v (.int .i64 (CB L).length)⟩),(8,⟨[],.v (.int .i64 e)⟩)],[],[]⟩
theorem x5 (L:List Bool) (hl:L.length<=1099511627776):ba Tryz.prog 177 [.sl 1 (CB L) none,.v (.bool false)] (.v (.int .i64 (oz (bi (fun i=>decide (L[i]? = some false)) L.length)))):=by
 have ed:=vb L;refine ev_go (P:=Tryz.prog) tt tt_ok 5000 19 [.tmp 4] Tryz.func177 rfl Tryz.ntmps177 rfl (nL rfl) (fun E9 w9 hn9 hm9=>?_);refine bU (fun j st=>∃ e:Nat,st=OZ L e/\e<=L.length/\(∀ c,c < e->decide (L[c]? = some false)=false)/\j=L.length - e) L.length (OZ L 0) (aq ⟨_,rfl⟩ wA rfl rfl rfl wB) ⟨0,rfl,by omega,fun _ h=>by omega,by omega⟩ ?_;rintro j st ⟨e,rfl,he,iG,rfl⟩;refine br (fun hL=>?_) (fun hL=>?_)
 ·have au:e < L.length:=by simpa [ed] using hL
  obtain ⟨x,hx⟩:∃ x,L[e]? = some x:=⟨_,gE au⟩;refine ⟨_,⟨by omega,HW hx⟩,?_⟩
  cases x with
  | false=>
   rw [dg au (decide_eq_true hx) iG];exact (rfl:_=_)
  | true=>
   exact ⟨OZ L (e + 1),(aq ⟨_,rfl⟩ wA rfl rfl rfl (ah au)),L.length - (e + 1),by omega,e + 1,rfl,by omega,fun c jY=>by
     rcases Nat.lt_succ_iff_lt_or_eq.1 jY with h | h
     ·exact iG c h
     ·rw [h,hx];rfl,rfl⟩
 ·have bI:e=L.length:=by have:=hL;simp [ed] at this;omega
  subst bI;rw [dK iG];exact (rfl:_=_)
theorem sg (L:List Bool) (hl:L.length<=1099511627776):ba Tryz.prog 117 [.sl 1 (CB L) none,.v (.bool false)] (.v (.bool (!L.all id))):=by
 have jP:=x5 L hl
 cases hI:bi (fun i=>decide (L[i]? = some false)) L.length with
 | none=>
  rw [hI] at jP
  have ez:L.all id=true:=by
   rw [List.all_eq_true];intro x hx;obtain ⟨i,hi,rfl⟩:=List.getElem_of_mem hx;have:=er hI i hi;rw [gE hi] at this
   cases h:L[i] with
   | true=>rfl
   | false=>rw [h] at this;simp at this
  rw [ez];refine ev_go (P:=Tryz.prog) tt tt_ok 5000 9 [.tmp 4] Tryz.func117 rfl Tryz.ntmps117 rfl (nL rfl) (fun E9 w9 hn9 hm9=>?_);refine call_p IZ (jP) ax rfl ?_;exact (rfl:_=_)
 | some i=>
  rw [hI] at jP;obtain ⟨J,hJ⟩:∃ J:Int,J=(i:Int):=⟨_,rfl⟩;have jP:ba Tryz.prog 177 [.sl 1 (CB L) none,.v (.bool false)] (.v (.int .i64 J)):=by rw [hJ];exact jP
  have ez:L.all id=false:=by
   have h:=of_decide_eq_true (eM hI).2.1;rw [List.all_eq_false];exact ⟨false,mG h,by simp⟩
  rw [ez];refine ev_go (P:=Tryz.prog) tt tt_ok 5000 9 [.tmp 4] Tryz.func117 rfl Tryz.ntmps117 rfl (nL rfl) (fun E9 w9 hn9 hm9=>?_);refine call_p IZ (jP) ax rfl ?_;refine (congrArg (fun b=>DV.v (.bool b)) ?_:_=_);exact decide_eq_true (by omega)
end Go.Proofs.YtfifjddnnmfeoaaGreat
