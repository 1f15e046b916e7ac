/- Part 5 of the proof: What is known of a type with which nothing is wrong; labels have levels; What is known of the nodes of a plan; A plan, as its readers know it; Values, plain; how many are in one, how deep they lie; What is read of a value, as the plain data; What the frames of laws over values share; Values that are the same; Which values fit which nodes: plain, as the program finds it and as the document says it; tree's leaf, kids, Fits; tree.Fits; the document's To, Fits; Values as they are written: plain; tree.write, Raw; tree.write, Raw; The least depths of the values of a plan's nodes: plain; The program's nodes, least depths; The document's least depths; fine; the chapter's example; The program's Depths; The law of least depths: fine, the example, the call returns true; The document's Fits; Written values: well formed; the document's Same on the same value; its Raw; The document's Raw; The law of values that fit: fine, the example, the call returns true; Paths: data, Step compared with itself; ref09.Begins, Same on the same path; ref25.Step; Paths of a value: plain; tree.steps; Where steps lead in a value, and that value with another one there: plain; Rules for the evaluator: calls that hand back fresh rows; Rules for the evaluator: elements of rows whose cells nobody else knows, read and written whole; tree: slices.Index of steps, kid, clone, Get; tree: put, Set; ref25.Paths; tree: walk, Paths; What is read of steps, and of steps with a value; A region that draws its order, in which a new object may come at any time among calls: its run with the object made at each of these times serves every order; The law of Set without the document: the call returns true. No condition. -/
import Derived.Test.YtdeaicofhmkebaaGreatMg2
import Derived.Test.YtdeaicofhmkebaaGreatMg3
import Derived.Test.YtdeaicofhmkebaaGreatMg4
set_option linter.all false
set_option maxRecDepth 100000
namespace Go.Proofs.YtdeaicofhmkebaaGreat
open Go Go.RowKit Dv Tryz
def WrT (t:Ty):Prop:=∃ d m,(wrong t d m).1.1=0
def PartF (kind:Int) (p:Ph) (t:Ty):Prop:=(p.bare=true∧kind=8∧sameTy t zeroTy=true∧plainP p barePh=true)∨(p.bare=false∧(partWd p).1=0∧WrT t)
structure TyF (h:Hd) (ps:Pts):Prop where
 k1:1≤h.kind
 k9:h.kind≤9
 own:ownF h ps=true
 int:h.kind=2→h.lo≤h.hi
 text:h.kind=3→0≤h.most∧h.most≤4096
 enum:h.kind=4→enumWd h=(0,0)
 one:h.kind=5∨h.kind=6→∃ p t,ps = .cons p t .nil∧p.name.s=emptyB∧plainP p zeroPh=true∧0≤h.most∧h.most≤1024∧WrT t
 many:h.kind=7∨h.kind=8→ps.len≤64∧(h.kind=8→ps.len≠0)∧∀ i p t,ps.toList[i]? = some (p,t)→listedF (pNames ps) i p.name=0∧PartF h.kind p t
theorem own_of {h:Hd} {ps:Pts} (ho:¬ ownB (.mk h ps)=false):ownF h ps=true:=by
 rw [ownF_eq]
 cases hb:sameTy (.mk h ps) (mask (.mk h ps))
 ·exact absurd hb ho
 ·rfl
theorem wrongPts_parts {kind:Int} {all:List Wd}:∀ {ps:Pts} {i:Nat} {d m:Int},(wrongPts kind all i ps d m).1.1=0→(kind=7∨kind=8)→∀ j p t,ps.toList[j]? = some (p,t)→listedF all (i + j) p.name=0∧PartF kind p t
 | .nil,i,d,m,_,_,j,p,t,hx=>by simp [Pts.toList] at hx
 | .cons q u r,i,d,m,he,hk,j,p,t,hx=>by
  simp only [wrongPts] at he
  by_cases c0:listedF all i q.name≠0
  ·rw [if_pos c0] at he;exact absurd he c0
  rw [if_neg c0] at he
  have c0:listedF all i q.name=0:=by simpa using c0
  have step:∀ d' m',(wrongPts kind all (i + 1) r d' m').1.1=0→PartF kind q u→listedF all (i + j) p.name=0∧PartF kind p t:=by
   intro d' m' h hq
   cases j with
   | zero=>
    simp only [Pts.toList,List.getElem?_cons_zero,Option.some.injEq,Prod.mk.injEq] at hx
    obtain ⟨rfl,rfl⟩:=hx
    exact ⟨c0,hq⟩
   | succ j=>
    simp only [Pts.toList,List.getElem?_cons_succ] at hx
    have:=wrongPts_parts h hk j p t hx
    rwa [show i + 1 + j=i + (j + 1) by omega] at this
  by_cases c1:q.bare=true
  ·rw [if_pos c1] at he
   by_cases c2:kind=7∨sameTy u zeroTy=false∨plainP q barePh=false
   ·rw [if_pos c2] at he;simp at he
   rw [if_neg c2] at he
   refine step d m he (.inl ⟨c1,?_,?_,?_⟩)
   ·rcases hk with hk | hk
    ·exact absurd (.inl hk) c2
    ·exact hk
   ·cases hb:sameTy u zeroTy
    ·exact absurd (.inr (.inl hb)) c2
    ·rfl
   ·cases hb:plainP q barePh
    ·exact absurd (.inr (.inr hb)) c2
    ·rfl
  ·rw [if_neg c1] at he
   by_cases c2:(partWd q).1≠0
   ·rw [if_pos c2] at he;exact absurd he c2
   rw [if_neg c2] at he
   by_cases c3:(wrong u (d + 1) m).1.1≠0
   ·rw [if_pos c3] at he;exact absurd he c3
   rw [if_neg c3] at he
   exact step d _ he (.inr ⟨by simpa using c1,by simpa using c2,d + 1,m,by simpa using c3⟩)
theorem tyF_of:∀ {t:Ty},WrT t→TyF t.h t.ps
 | .mk h ps,⟨d,m,he⟩=>by
  simp only [Ty.h,Ty.ps]
  simp only [wrong] at he
  by_cases c0:24 < d
  ·rw [if_pos c0] at he;simp at he
  rw [if_neg c0] at he
  by_cases c1:512 < m + 1
  ·rw [if_pos c1] at he;simp at he
  rw [if_neg c1] at he
  by_cases c2:h.kind < 1∨9 < h.kind
  ·rw [if_pos c2] at he;simp at he
  rw [if_neg c2] at he
  by_cases c3:ownB (.mk h ps)=false
  ·rw [if_pos c3] at he;simp at he
  rw [if_neg c3] at he
  by_cases c4:(h.kind=2∧h.hi < h.lo)∨(h.kind=3∧(h.most < 0∨4096 < h.most))
  ·rw [if_pos c4] at he;simp at he
  rw [if_neg c4] at he
  by_cases c5:h.kind=9∧nameOK h.name.s=false
  ·rw [if_pos c5] at he;simp at he
  rw [if_neg c5] at he
  refine { k1:=by omega,k9:=by omega,own:=own_of c3,int:=fun h2=>by omega,text:=fun h3=>by omega,enum:=fun h4=>?_,one:=fun h5=>?_,many:=fun h7=>?_ }
  ·rw [if_pos h4] at he
   exact enumWd_ok h he
  ·rw [if_neg (by omega),if_pos h5] at he
   match ps,he with
   | .nil,he=>simp [wrongOne] at he
   | .cons p t (.cons _ _ _),he=>simp [wrongOne] at he
   | .cons p t .nil,he=>
    simp only [wrongOne] at he
    by_cases e0:p.name.s≠emptyB∨plainP p zeroPh=false
    ·rw [if_pos e0] at he;simp at he
    rw [if_neg e0] at he
    by_cases e1:h.most < 0∨1024 < h.most
    ·rw [if_pos e1] at he;simp at he
    rw [if_neg e1] at he
    refine ⟨p,t,rfl,Classical.byContradiction fun hn=>e0 (.inl hn),?_,by omega,by omega,d + 1,_,he⟩
    cases hb:plainP p zeroPh
    ·exact absurd (.inr hb) e0
    ·rfl
  ·rw [if_neg (by omega),if_neg (by omega),if_pos h7] at he
   by_cases e0:h.kind=8∧ps.len=0
   ·rw [if_pos e0] at he;simp at he
   rw [if_neg e0] at he
   by_cases e1:64 < ps.len
   ·rw [if_pos e1] at he;simp at he
   rw [if_neg e1] at he
   refine ⟨by omega,fun h8=>fun hl=>e0 ⟨h8,hl⟩,fun i p t hx=>?_⟩
   have:=wrongPts_parts he h7 i p t hx
   rwa [Nat.zero_add] at this
theorem TyF.sub {h:Hd} {ps:Pts} (hF:TyF h ps) {p:Ph} {u:Ty} (hm:(p,u)∈ps.toList) (hb:p.bare=false):WrT u:=by
 obtain ⟨i,hi⟩:=List.mem_iff_getElem?.1 hm
 have hlen:0 < ps.len:=by
  cases ps with
  | nil=>simp [Pts.toList] at hm
  | cons _ _ _=>simp [Pts.len]
 have hk:5≤h.kind∧h.kind≤8:=by
  have h1:=hF.own
  unfold ownF at h1
  simp only [Bool.and_eq_true,Bool.or_eq_true,decide_eq_true_eq] at h1
  have:=h1.1.1.2
  omega
 by_cases h5:h.kind=5∨h.kind=6
 ·obtain ⟨q,t,rfl,_,_,_,_,hw⟩:=hF.one h5
  simp only [Pts.toList,List.mem_singleton,Prod.mk.injEq] at hm
  rw [hm.2];exact hw
 ·rcases ((hF.many (by omega)).2.2 i p u hi).2 with h1 | h1
  ·rw [h1.1] at hb;cases hb
  ·exact h1.2.2
mutual
theorem flatT_wr:∀ (t:Ty),WrT t→∀ u∈flatT t,WrT u
 | .mk h ps,hw,u,hu=>by
  rw [flatT] at hu
  split at hu
  ·cases hu
  ·rcases List.mem_cons.1 hu with rfl | hu
   ·exact hw
   ·exact flatP_wr ps (fun p v hm hb=>(tyF_of hw).sub hm hb) u hu
theorem flatP_wr:∀ (ps:Pts),(∀ p v,(p,v)∈ps.toList→p.bare=false→WrT v)→∀ u∈flatP ps,WrT u
 | .nil,_,u,hu=>by cases hu
 | .cons p v r,hw,u,hu=>by
  rw [flatP] at hu
  rcases List.mem_append.1 hu with hu | hu
  ·cases hb:p.bare with
   | true=>rw [hb] at hu;cases hu
   | false=>rw [hb] at hu;exact flatT_wr v (hw p v (by simp [Pts.toList]) hb) u hu
  ·exact flatP_wr r (fun q w hm=>hw q w (by simp [Pts.toList,hm])) u hu
end
mutual
theorem flatT_k9:∀ (t:Ty),∀ u∈flatT t,u.h.kind≠9
 | .mk h ps,u,hu=>by
  rw [flatT] at hu
  split at hu
  ·cases hu
  ·rename_i h9
   rcases List.mem_cons.1 hu with rfl | hu
   ·exact h9
   ·exact flatP_k9 ps u hu
theorem flatP_k9:∀ (ps:Pts),∀ u∈flatP ps,u.h.kind≠9
 | .nil,u,hu=>by cases hu
 | .cons p v r,u,hu=>by
  rw [flatP] at hu
  rcases List.mem_append.1 hu with hu | hu
  ·split at hu
   ·cases hu
   ·exact flatT_k9 v u hu
  ·exact flatP_k9 r u hu
end
mutual
theorem flatT_pos:∀ (t:Ty) (j:Nat) (u:Ty),(flatT t)[j]? = some u→j + u.nn≤t.nn
 | .mk h ps,j,u,hu=>by
  rw [flatT] at hu
  by_cases h9:h.kind=9
  ·rw [if_pos h9] at hu;simp at hu
  rw [if_neg h9] at hu
  cases j with
  | zero=>
   simp only [List.getElem?_cons_zero,Option.some.injEq] at hu
   subst hu;omega
  | succ j=>
   simp only [List.getElem?_cons_succ] at hu
   have:=flatP_pos ps j u hu
   rw [Ty.nn,if_neg h9];omega
theorem flatP_pos:∀ (ps:Pts) (j:Nat) (u:Ty),(flatP ps)[j]? = some u→j + u.nn≤ps.nn
 | .nil,j,u,hu=>by simp [flatP] at hu
 | .cons p v r,j,u,hu=>by
  rw [flatP] at hu
  rw [Pts.nn]
  cases hb:p.bare with
  | true=>
   rw [hb] at hu
   have:=flatP_pos r j u (by simpa using hu)
   simp only [if_true];omega
  | false=>
   rw [hb] at hu
   simp only [Bool.false_eq_true,if_false] at hu ⊢
   by_cases hj:j < (flatT v).length
   ·rw [List.getElem?_append_left hj] at hu
    have:=flatT_pos v j u hu
    omega
   ·rw [List.getElem?_append_right (by omega)] at hu
    have:=flatP_pos r _ u hu
    have h2:=flatT_len v
    omega
end
theorem edsP_mem {lev:List Wd→Int} {s:Sch}:∀ {ps:Pts} {k:Nat} {e:Ed},e∈edsP lev s ps k→∃ p u k',(p,u)∈ps.toList∧e=mkEd lev p (toF s p u k')∧(p.bare=false→k' + u.nn≤k + ps.nn)
 | .nil,k,e,he=>by simp [edsP] at he
 | .cons p u r,k,e,he=>by
  rw [edsP] at he
  rcases List.mem_cons.1 he with rfl | he
  ·refine ⟨p,u,k,by simp [Pts.toList],rfl,fun hb=>?_⟩
   rw [Pts.nn,hb];simp
  ·obtain ⟨q,v,k',h1,h2,h3⟩:=edsP_mem he
   refine ⟨q,v,k',by simp [Pts.toList,h1],h2,fun hb=>?_⟩
   have:=h3 hb
   rw [Pts.nn];omega
theorem edsP_names {lev:List Wd→Int} {s:Sch}:∀ {ps:Pts} {k:Nat},(edsP lev s ps k).map Ed.name=nmTx (pNames ps)
 | .nil,k=>rfl
 | .cons p u r,k=>by
  rw [edsP,List.map_cons,edsP_names (ps:=r)]
  rfl
theorem botN_some {f:Nat→Nat→Bool} {n:Nat} (hL:LatOK f n):∀ e,e≤n→∃ b,b < n∧∀ x,x < e→f b x=true
 | 0,_=>⟨0,hL.pos,fun x hx=>by omega⟩
 | e + 1,he=>by
  obtain ⟨b,hb,hle⟩:=botN_some hL e (by omega)
  obtain ⟨k,hk⟩:=hL.mt b e hb (by omega)
  obtain ⟨g1,g2,g3,g4⟩:=meetN_spec hk
  refine ⟨k,g1,fun x hx=>?_⟩
  rcases Nat.lt_succ_iff_lt_or_eq.1 hx with hx | rfl
  ·exact hL.tr k b x g1 hb (by omega) g2 (hle x hx)
  ·exact g3
theorem leastN_some {f:Nat→Nat→Bool} {n:Nat} (hL:LatOK f n) (l:List Nat) (hl:∀ x∈l,x < n):∃ c,leastN f n l=some c:=by
 have key:∀ e,e≤l.length→∃ c,leastN f n (l.take e)=some c:=by
  intro e
  induction e with
  | zero=>
   intro _
   obtain ⟨b,hb,hle⟩:=botN_some hL n (Nat.le_refl _)
   exact ⟨b,leastN_nil hL hb hle⟩
  | succ e ih=>
   intro he
   obtain ⟨c,hc⟩:=ih (by omega)
   obtain ⟨x,hx⟩:∃ x,l[e]? = some x:=⟨_,List.getElem?_eq_getElem (by omega)⟩
   have hxl:=hl x (List.mem_of_getElem? hx)
   obtain ⟨k,hk⟩:=hL.jn c x (leastN_lt hc) hxl
   rw [List.take_add_one,hx]
   exact ⟨k,leastN_snoc hL (fun y hy=>hl y (List.mem_of_mem_take hy)) hxl hc hk⟩
 have:=key l.length (Nat.le_refl _)
 rwa [List.take_length] at this
theorem labW_some {L:List ByteArray}:∀ {l:List Wd},(labW L l).1=0→∀ w∈l,∃ i,ixOf L w.s=some i
 | [],_,w,hw=>by cases hw
 | x :: r,h,w,hw=>by
  rw [labW] at h
  split at h
  ·cases h
  ·rename_i h1
   rcases List.mem_cons.1 hw with rfl | hw
   ·exact Option.ne_none_iff_exists'.1 h1
   ·exact labW_some h w hw
theorem labN_some {f:Nat→Nat→Bool} {L:List ByteArray} (hL:LatOK f L.length) {l:List Wd} (h:(labW L l).1=0):∃ c:Nat,labN f L l=c∧c < L.length:=by
 obtain ⟨c,hc⟩:=leastN_some hL (labI L l) (fun x hx=>by
  unfold labI at hx
  obtain ⟨w,hw,rfl⟩:=List.mem_map.1 hx
  obtain ⟨i,hi⟩:=labW_some h w hw
  rw [hi]
  exact (ixOf_some hi).1)
 refine ⟨c,?_,leastN_lt hc⟩
 unfold labN
 rw [if_pos h,hc]
 rfl
end Go.Proofs.YtdeaicofhmkebaaGreat
set_option maxRecDepth 100000
namespace Go.Proofs.YtdeaicofhmkebaaGreat
open Go Go.RowKit Dv Tryz
structure EdOK (L N:Nat) (e:Ed):Prop where
 to0:e.bare=true→e.to = -1
 to1:e.bare=false→∃ k:Nat,e.to=k∧k < N
 lab:∃ k:Nat,e.label=k∧k < L
 seen:∃ k:Nat,e.seen=k∧k < L
 wide:1≤e.wide∧e.wide≤64
 ck:0≤e.ck∧e.ck≤3
 cn:(e.ck=0→e.cn=0)∧(e.ck=1→1≤e.cn)∧(e.ck=2→0≤e.cn∧e.cn≤4096)∧(e.ck=3→e.cn=0)
structure NdOK (L N:Nat) (n:Nd):Prop where
 k1:1≤n.kind
 k8:n.kind≤8
 lohi:n.kind=2→n.lo≤n.hi
 lo0:n.kind≠2→n.lo=0∧n.hi=0
 most3:n.kind=3→0≤n.most∧n.most≤4096
 most5:n.kind=5→0≤n.most∧n.most≤1024
 most0:n.kind≠3→n.kind≠5→n.most=0
 names:n.kind=4→n.names ≠ []∧n.names.length≤64∧n.names.Nodup∧∀ s∈n.names,nameOK s=true
 names0:n.kind≠4→n.names=[]
 leaf:n.kind < 5→n.edges=[]
 one:n.kind=5∨n.kind=6→∃ e,n.edges=[e]∧e.bare=false∧e.name=emptyB
 many:n.kind=7∨n.kind=8→n.edges.length≤64∧(n.kind=8→n.edges ≠ [])∧(n.edges.map Ed.name).Nodup∧∀ e∈n.edges,nameOK e.name=true
 bare:∀ e∈n.edges,e.bare=true→n.kind=8
 edge:∀ e∈n.edges,EdOK L N e
theorem listed_all {l:List Wd} (h:∀ j x,l[j]? = some x→listedF l j x=0):(nmTx l).Nodup∧∀ x∈l,nameOK x.s=true:=by
 have key:∀ e,e≤l.length→(nmTx (l.take e)).Nodup:=by
  intro e
  induction e with
  | zero=>intro _;simp [nmTx]
  | succ e ih=>
   intro he
   obtain ⟨x,hx⟩:∃ x,l[e]? = some x:=⟨_,List.getElem?_eq_getElem (by omega)⟩
   exact listed_nodup hx (ih (by omega)) (h e x hx)
 refine ⟨by have:=key l.length (Nat.le_refl _);rwa [List.take_length] at this,fun x hx=>?_⟩
 obtain ⟨j,hj⟩:=List.mem_iff_getElem?.1 hx
 have:=h j x hj
 unfold listedF at this
 cases hb:nameOK x.s
 ·rw [hb] at this;simp at this
 ·rfl
theorem enumL_all {all:List Wd}:∀ {l:List Wd} {i:Nat},(enumL all i l).1=0→∀ j x,l[j]? = some x→listedF all (i + j) x=0
 | [],i,_,j,x,hx=>by simp at hx
 | y :: r,i,h,j,x,hx=>by
  rw [enumL] at h
  split at h
  ·rename_i h1;exact (h1 h).elim
  ·rename_i h1
   cases j with
   | zero=>
    simp only [List.getElem?_cons_zero,Option.some.injEq] at hx
    subst hx
    simpa using h1
   | succ j=>
    simp only [List.getElem?_cons_succ] at hx
    have:=enumL_all h j x hx
    rwa [show i + 1 + j=i + (j + 1) by omega] at this
theorem enumWd_facts {h:Hd} (he:enumWd h=(0,0)):h.names ≠ []∧h.names.length≤64∧(nmTx h.names).Nodup∧∀ x∈h.names,nameOK x.s=true:=by
 unfold enumWd at he
 split at he
 ·cases he
 ·rename_i h1
  split at he
  ·cases he
  ·rename_i h2
   refine ⟨h1,by omega,?_⟩
   exact listed_all fun j x hx=>by
    have:=enumL_all (all:=h.names) (i:=0) (by rw [he]) j x hx
    rwa [Nat.zero_add] at this
theorem knP_lab {X:Lx} {L:List ByteArray}:∀ {ps:Pts},(knP X L ps).1=0→∀ {p:Ph} {u:Ty},(p,u)∈ps.toList→(X.bad p.label).1=0∧(X.bad p.cl).1=0
 | .nil,_,p,u,h=>by cases h
 | .cons q v r,hk,p,u,h=>by
  have hr:=(knP_ok hk).2
  rw [knP] at hk
  split at hk
  ·rename_i h1;exact (h1 hk).elim
  rename_i h1
  split at hk
  ·rename_i h2;exact (h2 hk).elim
  rename_i h2
  rcases List.mem_cons.1 h with h | h
  ·cases h;exact ⟨by simpa using h1,by simpa using h2⟩
  ·exact knP_lab hr h
theorem wide_zero {p q:Ph} (h:plainP p q=true):p.bare=q.bare∧p.wide=q.wide∧p.ck=q.ck∧p.cn=q.cn:=by
 unfold plainP at h
 simp only [Bool.and_eq_true,beq_iff_eq,decide_eq_true_eq] at h
 exact ⟨h.1.1.1.1.1,h.1.1.1.1.2,h.1.1.2,h.1.2⟩
theorem wideF_ok {w:Int} (h:0≤w∧w≤64):1≤wideF w∧wideF w≤64:=by
 unfold wideF
 split<;>omega
theorem coarseF_ok {p:Ph} (h:(coarseF p).1=0):(0≤p.ck∧p.ck≤3)∧(p.ck=0→p.cn=0)∧(p.ck=1→1≤p.cn)∧(p.ck=2→0≤p.cn∧p.cn≤4096)∧(p.ck=3→p.cn=0):=by
 unfold coarseF at h
 by_cases c0:p.ck=0
 ·rw [if_pos c0] at h
  by_cases c1:p.cn=0∧p.cl=[]
  ·exact ⟨by omega,fun _=>c1.1,by omega,by omega,by omega⟩
  ·rw [if_neg c1] at h;simp at h
 rw [if_neg c0] at h
 by_cases c1:p.ck < 0∨3 < p.ck
 ·rw [if_pos c1] at h;simp at h
 rw [if_neg c1] at h
 by_cases c2:(p.ck=1∧p.cn < 1)∨(p.ck=2∧(p.cn < 0∨4096 < p.cn))∨(p.ck=3∧p.cn≠0)
 ·rw [if_pos c2] at h;simp at h
 exact ⟨by omega,by omega,by omega,by omega,by omega⟩
theorem partWd_ok {p:Ph} (h:(partWd p).1=0):(0≤p.wide∧p.wide≤64)∧(coarseF p).1=0:=by
 unfold partWd at h
 by_cases c0:p.wide < 0∨64 < p.wide
 ·rw [if_pos c0] at h;simp at h
 rw [if_neg c0] at h
 by_cases c1:(labelF p.label).1≠0
 ·rw [if_pos c1] at h;exact absurd h c1
 rw [if_neg c1] at h
 exact ⟨by omega,h⟩
theorem nn_pos {t:Ty} (h:t.h.kind≠9):1≤t.nn:=by
 obtain ⟨h',ps⟩:=t
 have h:¬ h'.kind=9:=h
 rw [Ty.nn,if_neg h]
 omega
theorem firstA_lt {S:Sch} {k:Nat} {x:Wd × Ty} (hx:S.types[k]? = some x):firstA S k + x.2.nn≤nnS (allT S):=by
 have h1:=firstA_succ hx
 rw [← h1]
 have h2:firstA S (k + 1)=nnS ((tysOf S).take (k + 1)):=by
  unfold firstA nnS tysOf
  rw [← List.map_take,List.map_map]
  rfl
 have h3:=nnS_take (tysOf S) (k + 1)
 have h4:nnS (allT S)=nnS (tysOf S) + nnS [S.root]:=nnS_app _ _
 omega
theorem ndsA_get {lev:List Wd→Int} {s:Sch} {n:Nd}:∀ {l:List Ty} {k i:Nat},(ndsA lev s l k)[i]? = some n→∃ t∈l,∃ u∈flatT t,n=ndR lev s u (k + i)∧i + u.nn≤nnS l
 | [],k,i,h=>by simp [ndsA] at h
 | t :: r,k,i,h=>by
  rw [ndsA] at h
  rw [nnS_cons]
  have hl:=ndsT_len lev s t k
  by_cases hi:i < t.nn
  ·rw [List.getElem?_append_left (by omega),ndsT_eq,List.getElem?_map,List.getElem?_zipIdx] at h
   cases hu:(flatT t)[i]? with
   | none=>rw [hu] at h;simp at h
   | some u=>
    rw [hu] at h
    simp only [Option.map_some,Option.some.injEq] at h
    have:=flatT_pos t i u hu
    exact ⟨t,List.mem_cons_self,u,List.mem_of_getElem? hu,by rw [← h];simp,by omega⟩
  ·rw [List.getElem?_append_right (by omega),hl] at h
   obtain ⟨t',h1,u,h2,h3,h4⟩:=ndsA_get h
   refine ⟨t',List.mem_cons_of_mem _ h1,u,h2,?_,by omega⟩
   rw [h3]
   congr 1
   omega
theorem resNds_len (S:Sch):(resNds S).length=nnS (allT S):=by rw [resNds_eq,ndsA_len]
theorem resNds_ok {S:Sch} (hF:FineS S) {i:Nat} {n:Nd} (h:(resNds S)[i]? = some n):NdOK S.levels.length (resNds S).length n:=by
 rw [resNds_len]
 rw [resNds_eq] at h
 obtain ⟨t,ht,u,hu,rfl,hpos⟩:=ndsA_get h
 rw [Nat.zero_add]
 have hwr:=flatT_wr t ⟨_,_,hF.wr t ht⟩ u hu
 have hk:=flatT_kn t (hF.kn t ht) u hu
 have hk9:=flatT_k9 t u hu
 have hT:=tyF_of hwr
 obtain ⟨hLat,_⟩:=latOK_of hF.lat
 have hnl:=nmTx_len S.levels
 have hends:=hF.ends
 obtain ⟨uh,us⟩:=u
 simp only [Ty.h,Ty.ps] at hT hk9
 have hkp:=(knT_ok hk).2
 have hown:=hT.own
 unfold ownF at hown
 simp only [Bool.and_eq_true,Bool.or_eq_true,decide_eq_true_eq] at hown
 obtain ⟨⟨⟨⟨o1,o2⟩,o3⟩,o4⟩,o5⟩:=hown
 have k1:=hT.k1
 have k9:=hT.k9
 have hlv:∀ l:List Wd,(labW (nmTx S.levels) l).1=0→∃ k:Nat,levS S l=k∧k < S.levels.length:=by
  intro l hl
  have:=labN_some (f:=leqN S.levels.length (numL (nmTx S.levels) S.order)) (L:=nmTx S.levels) (by rw [hnl];exact hLat) hl
  rwa [hnl] at this
 have hto:∀ (p:Ph) (v:Ty) (k':Nat),(p,v)∈us.toList→(p.bare=false→k' + v.nn≤i + 1 + us.nn)→(p.bare=true→toF S p v k' = -1)∧(p.bare=false→∃ k:Nat,toF S p v k'=k∧k < nnS (allT S)):=by
  intro p v k' hm hle
  refine ⟨fun hb=>by simp [toF,hb],fun hb=>?_⟩
  have hkv:=knP_mem hkp hm hb
  obtain ⟨vh,vs⟩:=v
  by_cases h9:vh.kind=9
  ·obtain ⟨j,hj⟩:=Option.ne_none_iff_exists'.1 ((knT_ok hkv).1 h9)
   have hjl:=(ixOf_some hj).1
   rw [tL_len] at hjl
   obtain ⟨k,hk⟩:=hends j hjl
   have hkl:=endI_lt hk
   obtain ⟨x,hx⟩:∃ x,S.types[k]? = some x:=⟨_,List.getElem?_eq_getElem hkl.1⟩
   have h1:=firstA_lt hx
   have h2:=nn_pos (hkl.2 x hx)
   refine ⟨firstA S k,?_,by omega⟩
   simp [toF,hb,idxF,Ty.h,h9,nmF,hj,namedN,hk]
  ·have h1:=nn_pos (t:=.mk vh vs) h9
   have h2:=hle hb
   have h3:(Ty.mk uh us).nn=1 + us.nn:=by rw [Ty.nn,if_neg hk9]
   refine ⟨k',by simp [toF,hb,idxF,Ty.h,h9],by omega⟩
 have hpart:∀ p v,(p,v)∈us.toList→(0≤p.wide∧p.wide≤64)∧(0≤p.ck∧p.ck≤3)∧((p.ck=0→p.cn=0)∧(p.ck=1→1≤p.cn)∧(p.ck=2→0≤p.cn∧p.cn≤4096)∧(p.ck=3→p.cn=0))∧(p.bare=true→uh.kind=8):=by
  intro p v hm
  obtain ⟨j,hj⟩:=List.mem_iff_getElem?.1 hm
  have hlen:us.len≠0:=by
   cases us with
   | nil=>simp [Pts.toList] at hm
   | cons _ _ _=>simp [Pts.len]
  by_cases h5:uh.kind=5∨uh.kind=6
  ·obtain ⟨q,t',rfl,_,hpl,_,_,_⟩:=hT.one h5
   simp only [Pts.toList,List.mem_singleton,Prod.mk.injEq] at hm
   obtain ⟨rfl,rfl⟩:=hm
   obtain ⟨w1,w2,w3,w4⟩:=wide_zero hpl
   have z1:zeroPh.wide=0:=rfl
   have z2:zeroPh.ck=0:=rfl
   have z3:zeroPh.cn=0:=rfl
   have z4:zeroPh.bare=false:=rfl
   rw [z1] at w2;rw [z2] at w3;rw [z3] at w4;rw [z4] at w1
   refine ⟨by omega,by omega,⟨by omega,by omega,by omega,by omega⟩,fun hb=>?_⟩
   rw [w1] at hb;cases hb
  ·obtain ⟨_,hP⟩:=(hT.many (by omega)).2.2 j p v hj
   rcases hP with ⟨hb,h8,_,hpl⟩ | ⟨hb,hp,_⟩
   ·obtain ⟨w1,w2,w3,w4⟩:=wide_zero hpl
    have z1:barePh.wide=0:=rfl
    have z2:barePh.ck=0:=rfl
    have z3:barePh.cn=0:=rfl
    rw [z1] at w2;rw [z2] at w3;rw [z3] at w4
    exact ⟨by omega,by omega,⟨by omega,by omega,by omega,by omega⟩,fun _=>h8⟩
   ·obtain ⟨w1,w2⟩:=partWd_ok hp
    obtain ⟨w3,w4⟩:=coarseF_ok w2
    exact ⟨w1,w3,w4,fun h=>by rw [hb] at h;cases h⟩
 have hlen0:us.len=0→us = .nil:=fun h=>by
  cases us with
  | nil=>rfl
  | cons _ _ _=>simp [Pts.len] at h
 refine {
  k1:=k1
  k8:=by show uh.kind≤8;omega
  lohi:=hT.int
  lo0:=fun h2=>?_
  most3:=hT.text
  most5:=fun h5=>?_
  most0:=fun h3 h5=>?_
  names:=fun h4=>?_
  names0:=fun h4=>?_
  leaf:=fun h5=>?_
  one:=fun h5=>?_
  many:=fun h7=>?_
  bare:=fun e he hb=>?_
  edge:=fun e he=>?_ }
 ·show uh.lo=0∧uh.hi=0
  exact o1.resolve_left h2
 ·obtain ⟨q,t',rfl,_,_,hm0,hm1,_⟩:=hT.one (.inl h5)
  exact ⟨hm0,hm1⟩
 ·show uh.most=0
  exact o2.resolve_left (fun h=>h.elim h3 h5)
 ·obtain ⟨e1,e2,e3,e4⟩:=enumWd_facts (hT.enum h4)
  show nmTx uh.names ≠ []∧(nmTx uh.names).length≤64∧(nmTx uh.names).Nodup∧∀ s∈nmTx uh.names,nameOK s=true
  refine ⟨fun h=>e1 (by simpa [nmTx] using h),by rw [nmTx_len];exact e2,e3,fun s hs=>?_⟩
  unfold nmTx at hs
  obtain ⟨w,hw,rfl⟩:=List.mem_map.1 hs
  exact e4 w hw
 ·show nmTx uh.names=[]
  have:=o4.resolve_right h4
  have:uh.names=[]:=List.eq_nil_of_length_eq_zero this
  rw [this];all_goals rfl
 ·show edsP (levS S) S us (i + 1)=[]
  have hk5:uh.kind < 5:=h5
  rw [hlen0 (o3.resolve_right (by omega))]
  rfl
 ·show ∃ e,edsP (levS S) S us (i + 1)=[e]∧_
  obtain ⟨q,t',rfl,hn,hpl,_,_,_⟩:=hT.one h5
  refine ⟨mkEd (levS S) q (toF S q t' (i + 1)),rfl,?_,hn⟩
  exact (wide_zero hpl).1
 ·show (edsP (levS S) S us (i + 1)).length≤64∧(_→edsP (levS S) S us (i + 1) ≠ [])∧((edsP (levS S) S us (i + 1)).map Ed.name).Nodup∧∀ e∈edsP (levS S) S us (i + 1),nameOK e.name=true
  obtain ⟨m1,m2,m3⟩:=hT.many h7
  have hall:∀ j x,(pNames us)[j]? = some x→listedF (pNames us) j x=0:=by
   intro j x hx
   have hj:j < us.len:=by
    have:=(List.getElem?_eq_some_iff.1 hx).1
    rwa [pNames_len] at this
   obtain ⟨p,t',hp⟩:=Pts.get_lt hj
   rw [pNames_get hp] at hx
   simp only [Option.some.injEq] at hx
   rw [← hx]
   exact (m3 j p t' hp).1
  obtain ⟨n1,n2⟩:=listed_all hall
  refine ⟨by rw [edsP_len];exact m1,fun h8 hn=>m2 h8 ?_,by rw [edsP_names];exact n1,fun e he=>?_⟩
  ·have:=edsP_len (levS S) S us (i + 1)
   rw [hn] at this
   simpa using this.symm
  ·have:e.name∈nmTx (pNames us):=by rw [← edsP_names (lev:=levS S) (s:=S) (k:=i + 1)];exact List.mem_map_of_mem he
   unfold nmTx at this
   obtain ⟨w,hw,h⟩:=List.mem_map.1 this
   rw [← h]
   exact n2 w hw
 ·obtain ⟨p,v,k',h1,rfl,_⟩:=edsP_mem he
  exact (hpart p v h1).2.2.2 hb
 ·obtain ⟨p,v,k',h1,rfl,h3⟩:=edsP_mem he
  obtain ⟨h4,h5⟩:=hto p v k' h1 h3
  obtain ⟨h6,h7,h8,_⟩:=hpart p v h1
  obtain ⟨h9,h10⟩:=knP_lab hkp h1
  exact { to0:=h4,to1:=h5,lab:=hlv _ h9,seen:=hlv _ h10,wide:=wideF_ok h6,ck:=h7,cn:=h8 }
end Go.Proofs.YtdeaicofhmkebaaGreat
set_option maxRecDepth 100000
namespace Go.Proofs.YtdeaicofhmkebaaGreat
open Go Go.RowKit Dv Tryz
theorem ndsA_mem {lev:List Wd→Int} {s:Sch} {n:Nd}:∀ {l:List Ty} {k:Nat},n∈ndsA lev s l k→∃ t∈l,∃ u∈flatT t,∃ k',n=ndR lev s u k'
 | [],_,h=>by cases h
 | t :: r,k,h=>by
  rw [ndsA] at h
  rcases List.mem_append.1 h with h | h
  ·rw [ndsT_eq] at h
   obtain ⟨x,hx,rfl⟩:=List.mem_map.1 h
   have:=(List.mem_zipIdx hx).2.2
   refine ⟨t,List.mem_cons_self,x.1,?_,_,rfl⟩
   rw [this]
   exact List.getElem_mem _
  ·obtain ⟨t',ht,h⟩:=ndsA_mem h
   exact ⟨t',List.mem_cons_of_mem _ ht,h⟩
theorem resNds_sz {S:Sch} {n:Nd} (h:n∈resNds S) (hS:S.wt≤1099511627776):n.names.length≤1099511627776∧n.edges.length≤1099511627776:=by
 rw [resNds_eq] at h
 obtain ⟨t,ht,u,hu,k,rfl⟩:=ndsA_mem h
 have h1:=allT_wt hS t ht
 have h2:=flatT_wt t u hu
 obtain ⟨uh,us⟩:=u
 have h3:=wdsWt_len uh.names
 have h4:=us.wt_len
 simp only [Ty.wt,Hd.wt] at h2
 simp only [ndR,Ty.h,Ty.ps,nmTx_len,edsP_len]
 omega
abbrev zNd:List DV:=[.v (.int .i64 0),.v (.int .i64 0),.v (.int .i64 0),.v (.int .i64 0),.v (.int .i64 0),.v (.slice none 0 0),.v (.slice none 0 0)]
structure PlanR (S:Sch) (ND:List Nd) (PC:List DV):Prop where
 fine:FineS S
 wt:S.wt≤1099511627776
 nds:ND=resNds S
 ok:∀ n∈ND,NdOK S.levels.length ND.length n
 nl:ND.length≤1099511627776
 len:EvP Tryz.prog 21 [.pt PC 0] (.v (.int .i64 ND.length))
 root:EvP Tryz.prog 20 [.pt PC 0] (.v (.int .i64 (resRoot S)))
 node:∀ (i:Nat) n,ND[i]? = some n→EvP Tryz.prog 19 [.pt PC 0,.v (.int .i64 i)] (.tup [.agg (dNd n),.v (.bool true)])
 nodeN:∀ i:Int,(i < 0∨ND.length≤i)→EvP Tryz.prog 19 [.pt PC 0,.v (.int .i64 i)] (.tup [.agg zNd,.v (.bool false)])
 lat:∃ ord js,(lxOf S ord js).OK∧EvP Tryz.prog 22 [.pt PC 0] (lxOf S ord js).pd
theorem planR_of {S:Sch} {d:DV} (hS:S.wt≤1099511627776) (h0:(resF S).1=0) (hd:PlanD S d):∃ PC,d = .pt PC 0∧PlanR S (resNds S) PC:=by
 obtain ⟨ord,ord2,js,hX,hT,hol,rfl⟩:=hd
 have hF:=fineS_of h0
 have hsz:=fun n (h:n∈resNds S)=>resNds_sz h hS
 refine ⟨_,rfl,{
  fine:=hF
  wt:=hS
  nds:=rfl
  ok:=fun n hn=>?_
  nl:=by rw [resNds_len];exact Nat.le_trans (nnS_wt S) hS
  len:=plen_spec _ _ _ _ _ _
  root:=proot_spec _ _ _ _ _ _
  node:=fun i n h=>pnode_spec _ _ _ _ _ _ i n h (hsz n (List.mem_of_getElem? h)).1 (hsz n (List.mem_of_getElem? h)).2
  nodeN:=fun i h=>pnode_none _ _ _ _ _ _ i h
  lat:=⟨ord,js,hX,plat_spec _ _ _ _ _ _⟩ }⟩
 obtain ⟨i,hi⟩:=List.mem_iff_getElem?.1 hn
 exact resNds_ok hF hi
def BuiltΦ (S:Sch) (r:DV):Prop:=((resF S).1≠0∧r = .tup [.v (.pointer none),(resF S).d])∨((resF S).1=0∧∃ PC,PlanR S (resNds S) PC∧r = .tup [.pt PC 0,Ft.d (0,0)])
theorem builtΦ_of {S:Sch} (hS:S.wt≤1099511627776) {r:DV} {os:List (List DV)} {tk:List TkE} (h:ResΦ S r os tk):BuiltΦ S r:=by
 unfold ResΦ at h
 by_cases h0:(resF S).1=0
 ·rw [if_neg (by rw [h0];simp)] at h
  obtain ⟨d,hd,rfl⟩:=h
  obtain ⟨PC,rfl,hP⟩:=planR_of hS h0 hd
  exact .inr ⟨h0,PC,hP,rfl⟩
 ·rw [if_pos h0] at h
  exact .inl ⟨h0,h⟩
end Go.Proofs.YtdeaicofhmkebaaGreat
set_option maxRecDepth 100000
namespace Go.Proofs.YtdeaicofhmkebaaGreat
open Go Go.RowKit Dv Tryz
inductive Val where
 | mk (k n:Int) (s:ByteArray) (ks:List Val)
def Val.k:Val→Int | .mk k _ _ _=>k
def Val.n:Val→Int | .mk _ n _ _=>n
def Val.s:Val→ByteArray | .mk _ _ s _=>s
def Val.ks:Val→List Val | .mk _ _ _ ks=>ks
mutual
def dVal:Val→List DV
 | .mk k n s ks=>[.v (.int .i64 k),.v (.int .i64 n),.v (.string s),.sl 4 (dVals ks) none]
def dVals:List Val→List (List DV)
 | []=>[]
 | v :: r=>dVal v :: dVals r
end
theorem dVals_map:∀ l:List Val,dVals l=l.map dVal
 | []=>rfl
 | v :: r=>by rw [dVals,dVals_map r];all_goals rfl
theorem dVals_len (l:List Val):(dVals l).length=l.length:=by rw [dVals_map,List.length_map]
theorem dVals_get {l:List Val} {e:Nat} {x:Val} (h:l[e]? = some x):(dVals l)[e]? = some (dVal x):=by rw [dVals_map,List.getElem?_map,h];all_goals rfl
theorem dVals_snoc {l:List Val} {e:Nat} {x:Val} (h:l[e]? = some x):dVals (l.take e) ++ [dVal x]=dVals (l.take (e + 1)):=by
 rw [dVals_map,dVals_map,List.take_add_one,h];simp
mutual
def Val.wt:Val→Nat
 | .mk _ _ s ks=>64 + s.size + wtVs ks
def wtVs:List Val→Nat
 | []=>0
 | v :: r=>v.wt + wtVs r
end
theorem Val.wt_pos:∀ v:Val,64≤v.wt
 | .mk _ _ _ _=>by rw [Val.wt];omega
theorem wtVs_mem:∀ {l:List Val} {x:Val},x∈l→x.wt≤wtVs l
 | v :: r,x,h=>by
  rcases List.mem_cons.1 h with rfl | h
  ·rw [wtVs];omega
  ·have:=wtVs_mem h;rw [wtVs];omega
theorem wtVs_len:∀ l:List Val,64 * l.length≤wtVs l
 | []=>Nat.le_refl _
 | v :: r=>by
  have:=wtVs_len r
  have:=v.wt_pos
  rw [wtVs,List.length_cons];omega
mutual
def cntV:Val→Nat
 | .mk _ _ _ ks=>1 + cntVs ks
def cntVs:List Val→Nat
 | []=>0
 | v :: r=>cntV v + cntVs r
end
mutual
def depV:Val→Nat
 | .mk _ _ _ ks=>depVs ks + 1
def depVs:List Val→Nat
 | []=>0
 | v :: r=>max (depV v) (depVs r)
end
mutual
theorem cntV_wt:∀ v:Val,cntV v≤v.wt∧depV v≤v.wt
 | .mk _ _ _ ks=>by
  have:=cntVs_wt ks
  rw [cntV,depV,Val.wt];omega
theorem cntVs_wt:∀ l:List Val,cntVs l≤wtVs l∧depVs l≤wtVs l
 | []=>⟨Nat.le_refl _,Nat.le_refl _⟩
 | v :: r=>by
  have h1:=cntV_wt v
  have h2:=cntVs_wt r
  rw [cntVs,depVs,wtVs];omega
end
theorem cntVs_snoc:∀ (l:List Val) (x:Val),cntVs (l ++ [x])=cntVs l + cntV x
 | [],x=>by simp [cntVs]
 | v :: r,x=>by rw [List.cons_append,cntVs,cntVs,cntVs_snoc r];omega
theorem depVs_snoc:∀ (l:List Val) (x:Val),depVs (l ++ [x])=max (depVs l) (depV x)
 | [],x=>by simp [depVs]
 | v :: r,x=>by rw [List.cons_append,depVs,depVs,depVs_snoc r];omega
theorem take_snoc {α:Type} {l:List α} {e:Nat} {x:α} (h:l[e]? = some x):l.take (e + 1)=l.take e ++ [x]:=by rw [List.take_add_one,h];all_goals rfl
theorem cntVs_take (l:List Val):∀ e,cntVs (l.take e)≤wtVs l∧depVs (l.take e)≤wtVs l:=fun e=>by
 have h1:=cntVs_wt (l.take e)
 have h2:∀ (l:List Val) e,wtVs (l.take e)≤wtVs l:=by
  intro l
  induction l with
  | nil=>intro e;simp [wtVs]
  | cons v r ih=>
   intro e
   cases e with
   | zero=>simp [wtVs]
   | succ e=>have:=ih e;simp only [List.take_succ_cons,wtVs];omega
 have:=h2 l e
 omega
abbrev szSt (v:Val) (n d e:Nat):St:=
 ⟨[(1,⟨[],.loc 0 0⟩),(4,⟨[],.v (.int .i64 n)⟩),(5,⟨[],.v (.int .i64 d)⟩),(6,⟨[],.v (.int .i64 e)⟩)],[dVal v],[]⟩
theorem size25_spec:∀ (k:Nat) (v:Val),v.wt≤k→v.wt≤1099511627776→EvP Tryz.prog 26 [.agg (dVal v)] (.tup [.v (.int .i64 (cntV v:Nat)),.v (.int .i64 (depV v:Nat))])
 | 0,v,h,_=>by have:=v.wt_pos;omega
 | k + 1,.mk q n s ks,h,hb=>by
  have ih:=size25_spec k
  have hdl:=dVals_len ks
  have hkl:=wtVs_len ks
  have htk:=cntVs_take ks
  rw [Val.wt] at h hb
  rw [cntV,depV]
  refine ev_go (P:=Tryz.prog) tt tt_ok 5000 35 [.tmp 2,.tmp 3] Tryz.func26 rfl Tryz.ntmps26 rfl (Nat.le_of_ble_eq_true rfl) (fun E9 w9 hn9 hm9=>?_)
  refine loop_i (fun j st=>∃ e:Nat,st=szSt (.mk q n s ks) (1 + cntVs (ks.take e)) (depVs (ks.take e)) e∧e≤ks.length∧j=ks.length - e) ks.length (szSt (.mk q n s ks) 1 0 0) (weak_mk ⟨_,rfl⟩ wA rfl rfl rfl wB) ⟨0,rfl,by omega,by omega⟩ ?_
  rintro j st ⟨e,rfl,he,rfl⟩
  refine br (fun hL=>?_) (fun hL=>?_)
  ·have hlt:e < ks.length:=by have:=hL;simp [hdl] at this;exact this
   obtain ⟨x,hx⟩:∃ x,ks[e]? = some x:=⟨_,List.getElem?_eq_getElem hlt⟩
   have hxw:=wtVs_mem (List.mem_of_getElem? hx)
   have hc:=cntVs_snoc (ks.take e) x
   have hd:=depVs_snoc (ks.take e) x
   rw [← take_snoc hx] at hc hd
   have h1:=htk (e + 1)
   have hi:=ih x (by omega) (by omega)
   have hcx:=cntV_wt x
   obtain ⟨xk,xn,xs,xl⟩:=x
   refine ⟨_,⟨by omega,dVals_get hx⟩,?_⟩
   refine call_p en26 (hi) ax rfl ?_
   have hw:IntKind.i64.wrap (((1 + cntVs (ks.take e):Nat):Int) + ((cntV (.mk xk xn xs xl):Nat):Int))=((1 + cntVs (ks.take (e + 1)):Nat):Int):=by rw [wrap64 (by omega) (by omega)];omega
   refine br (fun g=>?_) (fun g=>?_)
   ·have g:depVs (ks.take e) < depV (.mk xk xn xs xl):=by simpa using g
    have hd2:((depV (.mk xk xn xs xl):Nat):Int)=((depVs (ks.take (e + 1)):Nat):Int):=by omega
    exact ⟨szSt (.mk q n s ks) (1 + cntVs (ks.take (e + 1))) (depVs (ks.take (e + 1))) (e + 1),(weak_mk ⟨_,rfl⟩ wA rfl rfl rfl (by repeat' (first | exact trivial | exact we_rfl rfl | exact we_int hw | exact we_int hd2 | exact we_int (nxt hlt (by omega)) | refine ⟨⟨_,rfl,?_⟩,?_⟩))),ks.length - (e + 1),by omega,e + 1,rfl,by omega,rfl⟩
   ·have g:¬ depVs (ks.take e) < depV (.mk xk xn xs xl):=by simpa using g
    have hd2:((depVs (ks.take e):Nat):Int)=((depVs (ks.take (e + 1)):Nat):Int):=by omega
    exact ⟨szSt (.mk q n s ks) (1 + cntVs (ks.take (e + 1))) (depVs (ks.take (e + 1))) (e + 1),(weak_mk ⟨_,rfl⟩ wA rfl rfl rfl (by repeat' (first | exact trivial | exact we_rfl rfl | exact we_int hw | exact we_int hd2 | exact we_int (nxt hlt (by omega)) | refine ⟨⟨_,rfl,?_⟩,?_⟩))),ks.length - (e + 1),by omega,e + 1,rfl,by omega,rfl⟩
  ·have hge:e=ks.length:=by have:=hL;simp [hdl] at this;omega
   subst hge
   have h1:=htk ks.length
   rw [List.take_length] at h1 ⊢
   have hw:IntKind.i64.wrap (((depVs ks:Nat):Int) + 1)=((depVs ks + 1:Nat):Int):=by rw [wrap64 (by omega) (by omega)];omega
   refine ⟨_,(by repeat' (first | exact rfl | exact trivial | exact Or.inr (Or.inl ⟨_,rfl⟩) | exact Or.inr ⟨_,rfl⟩ | exact Or.inl ⟨rfl,rfl⟩ | exact Or.inl rfl | refine Or.inr ⟨_,_,rfl,Nat.zero_le _,rfl,?_⟩ | refine ⟨_,_,rfl,?_,?_⟩ | refine ⟨_,rfl,?_⟩ | exact congrArg (fun z=>DV.v (.int .i64 z)) hw | refine Or.inr (Or.inr (Or.inr ⟨_,_,rfl,?_⟩)) | exact Or.inl rfl | refine Or.inr ?_)),rfl⟩
end Go.Proofs.YtdeaicofhmkebaaGreat
set_option maxRecDepth 100000
namespace Go.Proofs.YtdeaicofhmkebaaGreat
open Go Go.RowKit Dv Tryz
theorem cells_value:Tryz.prog.cellsOf 60=4:=by kernel_rfl
theorem es_vals {m:Nat} (ih:∀ k,k≤m→∀ ds,Typ Tryz.prog k 60 ds→∃ v:Val,ds=dVal v∧v.wt≤wgL ds) :
  ∀ {es:List (List DV)},(∀ cs∈es,Typ Tryz.prog m 60 cs)→∃ l:List Val,es=dVals l∧wtVs l≤wgEs es
 | [],h=>⟨[],rfl,by simp [wtVs]⟩
 | cs :: r,h=>by
  obtain ⟨l,rfl,hl⟩:=es_vals ih (es:=r) (fun c hc=>h c (List.mem_cons_of_mem _ hc))
  obtain ⟨v,rfl,hv⟩:=ih m (Nat.le_refl _) cs (h cs (by simp))
  exact ⟨v :: l,rfl,by simp only [wtVs,wgEs];omega⟩
theorem typ_val:∀ (n:Nat) (ds:List DV),Typ Tryz.prog n 60 ds→∃ v:Val,ds=dVal v∧v.wt≤wgL ds:=by
 intro n
 induction n using Nat.strongRecOn with
 | _ n ih=>
  intro ds h
  obtain ⟨m,rfl,hf⟩:=typ_st Tryz.underlying60 h
  obtain ⟨a1,b1,rfl,h1,a2,b2,rfl,h2,a3,b3,rfl,h3,a4,b4,rfl,h4,rfl⟩:=hf
  obtain ⟨k,rfl,_⟩:=typ_i h1
  obtain ⟨z,rfl,_⟩:=typ_i h2
  obtain ⟨s,rfl⟩:=typ_str Tryz.underlying9 h3
  obtain ⟨j,es,rfl,rfl,hes⟩:=typ_sl Tryz.underlying58 h4
  obtain ⟨l,rfl,wl⟩:=es_vals (fun i hi=>ih i (by omega)) hes
  rw [cells_value]
  refine ⟨.mk k z s l,rfl,?_⟩
  simp only [Val.wt,wgL_append,wgL,wgD] at *
  omega
end Go.Proofs.YtdeaicofhmkebaaGreat
namespace Go.Proofs.YtdeaicofhmkebaaGreat
open Go Go.RowKit Dv
def tyVS:List TypeId:=[60,58,9,3]
theorem tyVS_ok:∀ t∈tyVS,flatOK Tryz.prog tyVS t=true:=by
 have h:(tyVS.all fun t=>flatOK Tryz.prog tyVS t)=true:=by kernel_rfl
 exact fun t ht=>List.all_eq_true.1 h t ht
end Go.Proofs.YtdeaicofhmkebaaGreat
set_option maxRecDepth 100000
namespace Go.Proofs.YtdeaicofhmkebaaGreat
open Go Go.RowKit Dv Tryz
mutual
def sameV:Val→Val→Bool
 | .mk k n s ks,.mk k' n' s' ks'=>decide (k=k') && decide (n=n') && decide (s=s') && sameVs ks ks'
def sameVs:List Val→List Val→Bool
 | [],[]=>true
 | v :: r,w :: q=>sameV v w && sameVs r q
 | _,_=>false
end
theorem sameVs_len:∀ {a b:List Val},a.length≠b.length→sameVs a b=false
 | [],[],h=>(h rfl).elim
 | v :: r,w :: q,h=>by rw [sameVs,sameVs_len (a:=r) (b:=q) (by simpa using h),Bool.and_false]
 | [],_ :: _,_=>by simp [sameVs]
 | _ :: _,[],_=>by simp [sameVs]
mutual
theorem sameV_iff:∀ {a b:Val},sameV a b=true↔a=b
 | .mk k n s ks,.mk k' n' s' ks'=>by
  have:=@sameVs_iff ks ks'
  simp only [sameV,Bool.and_eq_true,decide_eq_true_eq,this,Val.mk.injEq,and_assoc]
theorem sameVs_iff:∀ {a b:List Val},sameVs a b=true↔a=b
 | [],[]=>by simp [sameVs]
 | v :: r,w :: q=>by
  have h1:=@sameV_iff v w
  have h2:=@sameVs_iff r q
  simp only [sameVs,Bool.and_eq_true,h1,h2,List.cons.injEq]
 | [],_ :: _=>by simp [sameVs]
 | _ :: _,[]=>by simp [sameVs]
end
theorem sameV_refl (v:Val):sameV v v=true:=sameV_iff.2 rfl
abbrev eqvSt (a b:List Val) (g e:Nat):St:=
 ⟨[(1,⟨[],.sl 4 (dVals b) none⟩),(2,⟨[],.fn g [] []⟩),(15,⟨[],.sl 4 (dVals a) none⟩),(16,⟨[],.v (.int .i64 (dVals a).length)⟩),(17,⟨[],.v (.int .i64 e)⟩)],[],[]⟩
theorem equalV_spec (g:Nat) (hen:Enters Tryz.prog g) (a b:List Val) (hs:wtVs a≤1099511627776)
  (hF:∀ x∈a,∀ y,EvP Tryz.prog g [.agg (dVal x),.agg (dVal y)] (.v (.bool (sameV x y)))) :
  EvP Tryz.prog 116 [.sl 4 (dVals a) none,.sl 4 (dVals b) none,.fn g [] []] (.v (.bool (sameVs a b))):=by
 have hal:=wtVs_len a
 have h1:=dVals_len a
 have h2:=dVals_len b
 refine ev_go (P:=Tryz.prog) tt tt_ok 5000 32 [.tmp 6] Tryz.func116 rfl Tryz.ntmps116 rfl (Nat.le_of_ble_eq_true rfl) (fun E9 w9 hn9 hm9=>?_)
 refine br (fun h=>?_) (fun h=>?_)
 ·have hne:a.length≠b.length:=by have:=h;simp [h1,h2] at this;omega
  exact congrArg (fun b=>DV.v (.bool b)) (sameVs_len hne).symm
 ·have hl:a.length=b.length:=by have:=h;simp [h1,h2] at this;omega
  refine loop_i (fun j st=>∃ e:Nat,st=eqvSt a b g e∧e≤a.length∧sameVs a b=sameVs (a.drop e) (b.drop e)∧j=a.length - e) a.length
   (eqvSt a b g 0) (weak_mk ⟨_,rfl⟩ wA rfl rfl rfl wB) ⟨0,rfl,by omega,rfl,by omega⟩ ?_
  rintro j st ⟨e,rfl,he,heq,rfl⟩
  refine br (fun h=>?_) (fun h=>?_)
  ·have hlt:e < a.length:=by simpa [h1] using h
   obtain ⟨x,hx⟩:∃ x,a[e]? = some x:=⟨_,List.getElem?_eq_getElem hlt⟩
   obtain ⟨y,hy⟩:∃ y,b[e]? = some y:=⟨_,List.getElem?_eq_getElem (hl ▸ hlt)⟩
   rw [drop_cons hx,drop_cons hy,sameVs] at heq
   have hev:=hF x (List.mem_of_getElem? hx) y
   obtain ⟨xk,xn,xs,xl⟩:=x
   obtain ⟨yk,yn,ys,yl⟩:=y
   refine ⟨_,⟨by omega,dVals_get hx⟩,?_⟩
   refine ⟨_,⟨by omega,dVals_get hy⟩,?_⟩
   refine call_p hen hev ax rfl ?_
   refine br (fun h=>?_) (fun h=>?_)
   ·have hne:sameV (.mk xk xn xs xl) (.mk yk yn ys yl)=false:=by simpa using h
    refine (congrArg (fun b=>DV.v (.bool b)) ?_:_=_)
    rw [heq,hne,Bool.false_and]
   ·have hne:sameV (.mk xk xn xs xl) (.mk yk yn ys yl)=true:=by simpa using h
    rw [hne,Bool.true_and] at heq
    exact ⟨eqvSt a b g (e + 1),(weak_mk ⟨_,rfl⟩ wA rfl rfl rfl (by repeat' (first | exact trivial | exact we_rfl rfl | exact we_int (nxt hlt (by omega)) | refine ⟨⟨_,rfl,?_⟩,?_⟩))),a.length - (e + 1),by omega,e + 1,rfl,by omega,heq,rfl⟩
  ·have hge:e=a.length:=by have:=h;simp [h1] at this;omega
   rw [List.drop_of_length_le (by omega),List.drop_of_length_le (by omega)] at heq
   refine (congrArg (fun b=>DV.v (.bool b)) ?_:_=_)
   rw [heq];simp [sameVs]
theorem tsame_spec:∀ (k:Nat) (a:Val),a.wt≤k→a.wt≤1099511627776→∀ b:Val,EvP Tryz.prog 49 [.agg (dVal a),.agg (dVal b)] (.v (.bool (sameV a b)))
 | 0,v,h,_=>by have:=v.wt_pos;omega
 | k + 1,.mk q n s ks,h,hb=>fun b=>by
  have ih:=tsame_spec k
  rw [Val.wt] at h hb
  obtain ⟨bk,bn,bs,bl⟩:=b
  have he:=equalV_spec 49 en49 ks bl (by omega) fun x hx y=>by
   have:=wtVs_mem hx
   exact ih x (by omega) (by omega) y
  rw [sameV]
  refine ev_go (P:=Tryz.prog) tt tt_ok 5000 31 [.tmp 4] Tryz.func49 rfl Tryz.ntmps49 rfl (Nat.le_of_ble_eq_true rfl) (fun E9 w9 hn9 hm9=>?_)
  refine br (fun c=>?_) (fun c=>?_)
  ·have c:pickB (pickB (decide (q=bk)) (decide (n=bn)) false) (decide (s=bs)) false=true:=by simpa using c
   refine call_p en116 (he) ax rfl ?_
   refine (congrArg (fun b=>DV.v (.bool b)) ?_:_=_)
   simp only [pickB_and] at c ⊢
   rw [c]
  ·have c:pickB (pickB (decide (q=bk)) (decide (n=bn)) false) (decide (s=bs)) false=false:=by simpa using c
   refine (congrArg (fun b=>DV.v (.bool b)) ?_:_=_)
   simp only [pickB_and] at c ⊢
   rw [c];all_goals rfl
end Go.Proofs.YtdeaicofhmkebaaGreat
set_option maxRecDepth 100000
namespace Go.Proofs.YtdeaicofhmkebaaGreat
open Go Go.RowKit Dv Tryz
def leafF (n:Nd) (v:Val):Bool:=
 if 0 < v.ks.length∨(v.k≠3∧v.s≠emptyB)∨(v.k=3∧v.n≠0) then false
 else if n.kind=1 then decide (v.k=1) && (decide (v.n=0) || decide (v.n=1))
 else if n.kind=2 then decide (v.k=2) && decide (n.lo≤v.n) && decide (v.n≤n.hi)
 else if n.kind=3 then decide (v.k=3) && decide ((v.s.size:Int)≤n.most)
 else decide (v.k=4) && decide (0≤v.n) && decide (v.n < n.names.length)
def plainV (v:Val):Bool:=decide (v.s=emptyB) && (decide (v.n=0) || decide (v.k=8))
def to0 (n:Nd):Int:=match n.edges[0]? with | some e=>e.to | none=>0
def tagE (n:Nd) (v:Val):Option Ed:=if v.k=8∧0≤v.n∧v.n < n.edges.length then n.edges[v.n.toNat]? else none
def kidsL (n:Nd) (v:Val):List Int:=
 if n.kind=5∨n.kind=6 then List.replicate v.ks.length (to0 n)
 else if n.kind=7 then n.edges.map Ed.to
 else match tagE n v with | none=>[] | some e=>if e.bare=true then [] else [e.to]
def kidsB (n:Nd) (v:Val):Bool:=
 if n.kind=5∨n.kind=6 then plainV v && decide (v.k=n.kind) && decide ((v.ks.length:Int)≤if n.kind=6 then 1 else n.most)
 else if n.kind=7 then plainV v && decide (v.k=7) && decide (n.edges.length=v.ks.length)
 else match tagE n v with | none=>false | some _=>plainV v && decide ((kidsL n v).length=v.ks.length)
def nodeA (ND:List Nd) (i:Int):Option Nd:=if i < 0 then none else ND[i.toNat]?
mutual
def fitV (ND:List Nd):Val→Int→Bool
 | .mk k n s ks,i=>match nodeA ND i with
  | none=>false
  | some d=>if d.kind < 5 then leafF d (.mk k n s ks) else kidsB d (.mk k n s ks) && fitVs ND ks (kidsL d (.mk k n s ks))
def fitVs (ND:List Nd):List Val→List Int→Bool
 | v :: r,i :: l=>fitV ND v i && fitVs ND r l
 | _,_=>true
end
end Go.Proofs.YtdeaicofhmkebaaGreat
set_option maxRecDepth 100000
namespace Go.Proofs.YtdeaicofhmkebaaGreat
open Go Go.RowKit Dv Tryz
def dZs (l:List Int):List (List DV):=l.map fun z=>[DV.v (.int .i64 z)]
theorem dZs_len (l:List Int):(dZs l).length=l.length:=by simp [dZs]
theorem dZs_get {l:List Int} {i:Nat} {z:Int} (h:l[i]? = some z):(dZs l)[i]? = some [DV.v (.int .i64 z)]:=by simp [dZs,h]
theorem dZs_snoc (l:List Int) (z:Int):dZs l ++ [[DV.v (.int .i64 z)]]=dZs (l ++ [z]):=by simp [dZs]
theorem emptyB_eq:(⟨#[]⟩:ByteArray)=emptyB:=rfl
theorem leaf_spec (n:Nd) (v:Val):EvP Tryz.prog 117 [.agg (dNd n),.agg (dVal v)] (.v (.bool (leafF n v))):=by
 have hbl:=dBs_len n.names
 obtain ⟨kind,at',lo,hi,most,names,es⟩:=n
 obtain ⟨q,z,s,ks⟩:=v
 have hdl:=dVals_len ks
 simp only at hbl
 have hF:leafF ⟨kind,at',lo,hi,most,names,es⟩ (.mk q z s ks)=if 0 < ks.length∨(q≠3∧s≠emptyB)∨(q=3∧z≠0) then false
  else if kind=1 then decide (q=1) && (decide (z=0) || decide (z=1))
  else if kind=2 then decide (q=2) && decide (lo≤z) && decide (z≤hi)
  else if kind=3 then decide (q=3) && decide ((s.size:Int)≤most)
  else decide (q=4) && decide (0≤z) && decide (z < names.length):=rfl
 have hc:∀ b:Bool,b=pickB (pickB (decide (0 < ((dVals ks).length:Int))) true (pickB (!decide (q=3)) (!decide (s=⟨#[]⟩)) false)) true (pickB (decide (q=3)) (!decide (z=0)) false)→b=decide (0 < ks.length∨(q≠3∧s≠emptyB)∨(q=3∧z≠0)):=fun b h=>by
  rw [h,hdl,emptyB_eq,Bool.eq_iff_iff]
  simp [pickB_or,pickB_and,or_assoc]
 rw [hF]
 refine ev_go (P:=Tryz.prog) tt tt_ok 5000 94 [.tmp 4] Tryz.func117 rfl Tryz.ntmps117 rfl (Nat.le_of_ble_eq_true rfl) (fun E9 w9 hn9 hm9=>?_)
 refine br (fun c=>?_) (fun c=>?_)
 ·have c:=of_decide_eq_true ((hc _ rfl).symm.trans c)
  rw [if_pos c]
  exact (rfl:_=_)
 have c:=of_decide_eq_false ((hc _ rfl).symm.trans c)
 rw [if_neg c]
 refine br (fun c1=>?_) (fun c1=>?_)
 ·have c1:kind=1:=by simpa using c1
  refine (congrArg (fun b=>DV.v (.bool b)) ?_:_=_)
  simp [c1,pickB_and,pickB_or]
 have c1:¬ kind=1:=by simpa using c1
 refine br (fun c2=>?_) (fun c2=>?_)
 ·have c2:kind=2:=by simpa using c2
  refine (congrArg (fun b=>DV.v (.bool b)) ?_:_=_)
  simp [c2,pickB_and,pickB_or]
 have c2:¬ kind=2:=by simpa using c2
 refine br (fun c3=>?_) (fun c3=>?_)
 ·have c3:kind=3:=by simpa using c3
  refine (congrArg (fun b=>DV.v (.bool b)) ?_:_=_)
  simp [c3,pickB_and,pickB_or]
 have c3:¬ kind=3:=by simpa using c3
 refine (congrArg (fun b=>DV.v (.bool b)) ?_:_=_)
 simp [c1,c2,c3,pickB_and,pickB_or,hbl]
abbrev kd5St (n:Nd) (v:Val) (l:List Int) (p:Bool) (kd mo:Int) (q e:Nat):St:=
 ⟨[(2,⟨[],.loc 0 0⟩),(3,⟨[],.loc 1 0⟩),(6,⟨[],.sl 1 (dZs l) (some 0)⟩),(7,⟨[],.v (.bool p)⟩),(8,⟨[],.v (.int .i64 kd)⟩),(9,⟨[],.v (.int .i64 mo)⟩),(38,⟨[],.v (.int .i64 v.ks.length)⟩),(39,⟨[],.v (.int .i64 e)⟩)],[dNd n,dVal v],[⟨q,3,1,none⟩]⟩
abbrev kd7St (n:Nd) (v:Val) (l:List Int) (p:Bool) (q e:Nat):St:=
 ⟨[(2,⟨[],.loc 0 0⟩),(3,⟨[],.loc 1 0⟩),(6,⟨[],.sl 1 (dZs l) (some 0)⟩),(7,⟨[],.v (.bool p)⟩),(67,⟨[],.sl 10 (dEds n.edges) none⟩),(68,⟨[],.v (.int .i64 (dEds n.edges).length)⟩),(69,⟨[],.v (.int .i64 e)⟩)],[dNd n,dVal v],[⟨q,3,1,none⟩]⟩
theorem kids_spec {L N:Nat} {n:Nd} (hn:NdOK L N n) (h5:5≤n.kind) (v:Val) (hv:v.wt≤1099511627776) :
  EvP Tryz.prog 118 [.agg (dNd n),.agg (dVal v)] (.tup [.sl 1 (dZs (kidsL n v)) none,.v (.bool (kidsB n v))]):=by
 have hk8:=hn.k8
 have hone:=hn.one
 have hmany:=hn.many
 obtain ⟨kind,at',lo,hi,most,names,es⟩:=n
 obtain ⟨q,z,s,ks⟩:=v
 have hdl:=dVals_len ks
 have hel:=dEds_len es
 have hkl:=wtVs_len ks
 rw [Val.wt] at hv
 simp only at hk8 h5 hone hmany
 have hp:∀ b:Bool,b=pickB (decide (s=⟨#[]⟩)) (pickB (decide (z=0)) true (decide (q=8))) false→b=plainV (.mk q z s ks):=fun b h=>by
  rw [h]
  rw [pickB_and,pickB_or,emptyB_eq];all_goals rfl
 refine ev_go (P:=Tryz.prog) tt tt_ok 5000 134 [.tmp 4,.tmp 5] Tryz.func118 rfl Tryz.ntmps118 rfl (Nat.le_of_ble_eq_true rfl) (fun E9 w9 hn9 hm9=>?_)
 refine br (fun c=>?_) (fun c=>?_)
 ·have c:kind=5:=by simpa using c
  have c56:kind=5∨kind=6:=.inl c
  obtain ⟨x,hes,_,_⟩:=hone c56
  refine br (fun _=>?_) (fun h=>absurd h (by simp [c]))
  refine drawG_i (fun _=>false) mo (by decide +kernel) ?_
  refine br (fun h=>absurd h (by simp [c])) (fun _=>?_)
  obtain ⟨kd,mo,h1,h2,h3,h4⟩:∃ kd mo:Int,5=kd∧most=mo∧kd=kind∧mo=(if kind=6 then 1 else most):=⟨5,most,rfl,rfl,c.symm,by rw [if_neg (by omega)]⟩
  have hg0:(dEds es)[0]? = some (dEd x):=by rw [hes];all_goals rfl
  have ht0:to0 ⟨kind,at',lo,hi,most,names,es⟩=x.to:=by simp [to0,hes]
  refine loop_i (fun j st=>∃ e:Nat,st=kd5St ⟨kind,at',lo,hi,most,names,es⟩ (.mk q z s ks) (List.replicate e x.to) (plainV (.mk q z s ks)) kd mo e e∧e≤ks.length∧j=ks.length - e) ks.length (kd5St ⟨kind,at',lo,hi,most,names,es⟩ (.mk q z s ks) [] (plainV (.mk q z s ks)) kd mo 0 0) (weak_bt 2 ⟨0,3,1,none⟩ rfl rfl rfl (by repeat' (first | exact rfl | exact we_rfl rfl | exact we_bool (hp _ rfl) | exact we_int h1 | exact we_int h2 | exact we_int (congrArg Nat.cast hdl) | exact we_tok (Nat.le_refl _) rfl | exact we_tok (Nat.le_refl _) rfl | refine ⟨_,_,rfl,?_,?_⟩)) rfl rfl (by repeat' (first | exact trivial | exact we_rfl rfl | exact we_bool (hp _ rfl) | exact we_int h1 | exact we_int h2 | exact we_int (congrArg Nat.cast hdl) | exact we_tok (Nat.le_refl _) rfl | refine ⟨⟨_,rfl,?_⟩,?_⟩))) ⟨0,rfl,by omega,by omega⟩ ?_
  rintro j st ⟨e,rfl,he,rfl⟩
  refine br (fun hL=>?_) (fun hL=>?_)
  ·have hlt:e < ks.length:=by have:=hL;simp [Val.ks] at this;exact this
   have hml:(dZs (List.replicate e x.to)).length=e:=by rw [dZs_len,List.length_replicate]
   have hsn:dZs (List.replicate e x.to) ++ [[DV.v (.int .i64 x.to)]]=dZs (List.replicate (e + 1) x.to):=by rw [dZs_snoc,List.replicate_succ']
   refine ⟨_,⟨by omega,hg0⟩,?_⟩
   refine ⟨hml,⟨by rw [hml];simp [maxLen];omega,by rw [hml];simp;omega⟩,?_⟩
   exact ⟨kd5St ⟨kind,at',lo,hi,most,names,es⟩ (.mk q z s ks) (List.replicate (e + 1) x.to) (plainV (.mk q z s ks)) kd mo (e + 1) (e + 1),(weak_b 2 rfl (by repeat' (first | exact rfl | exact we_rfl rfl | exact we_int (nxt hlt (by omega)) | exact we_sl hsn rfl | refine ⟨_,_,rfl,?_,?_⟩)) rfl rfl rfl (by repeat' (first | exact trivial | exact we_rfl rfl | exact we_int (nxt hlt (by omega)) | exact we_sl hsn rfl | refine ⟨⟨_,rfl,?_⟩,?_⟩))),ks.length - (e + 1),by omega,e + 1,rfl,by omega,rfl⟩
  ·have hge:e=ks.length:=by have:=hL;simp [Val.ks] at this;omega
   subst hge
   have hkl2:kidsL ⟨kind,at',lo,hi,most,names,es⟩ (.mk q z s ks)=List.replicate ks.length x.to:=by unfold kidsL;rw [if_pos c56,ht0];all_goals rfl
   have hml:(dZs (List.replicate ks.length x.to)).length=ks.length:=by rw [dZs_len,List.length_replicate]
   have hB:pickB (pickB (plainV (.mk q z s ks)) (decide (q=kd)) false) (decide (((dZs (List.replicate ks.length x.to)).length:Int)≤mo)) false=kidsB ⟨kind,at',lo,hi,most,names,es⟩ (.mk q z s ks):=by
    rw [hml,h3,h4,pickB_and,pickB_and]
    unfold kidsB
    rw [if_pos c56]
    rfl
   rw [hkl2]
   exact ⟨_,(by repeat' (first | exact rfl | exact trivial | exact Or.inr (Or.inl ⟨_,rfl⟩) | exact Or.inr ⟨_,rfl⟩ | exact Or.inl ⟨rfl,rfl⟩ | exact Or.inl rfl | refine Or.inr ⟨_,_,rfl,Nat.zero_le _,rfl,?_⟩ | refine ⟨_,_,rfl,?_,?_⟩ | refine ⟨_,rfl,?_⟩ | exact congrArg (fun b=>DV.v (.bool b)) hB | refine Or.inr (Or.inr (Or.inr ⟨_,_,rfl,?_⟩)) | exact Or.inl rfl | refine Or.inr ?_)),rfl⟩
 have c5:¬ kind=5:=by simpa using c
 refine br (fun c=>?_) (fun c=>?_)
 ·have c:kind=6:=by simpa using c
  have c56:kind=5∨kind=6:=.inr c
  obtain ⟨x,hes,_,_⟩:=hone c56
  refine drawG_i (fun _=>false) mo (by decide +kernel) ?_
  refine br (fun _=>?_) (fun h=>absurd h (by simp [c]))
  obtain ⟨kd,mo,h1,h2,h3,h4⟩:∃ kd mo:Int,6=kd∧1=mo∧kd=kind∧mo=(if kind=6 then 1 else most):=⟨6,1,rfl,rfl,c.symm,by rw [if_pos c]⟩
  have hg0:(dEds es)[0]? = some (dEd x):=by rw [hes];all_goals rfl
  have ht0:to0 ⟨kind,at',lo,hi,most,names,es⟩=x.to:=by simp [to0,hes]
  refine loop_i (fun j st=>∃ e:Nat,st=kd5St ⟨kind,at',lo,hi,most,names,es⟩ (.mk q z s ks) (List.replicate e x.to) (plainV (.mk q z s ks)) kd mo e e∧e≤ks.length∧j=ks.length - e) ks.length (kd5St ⟨kind,at',lo,hi,most,names,es⟩ (.mk q z s ks) [] (plainV (.mk q z s ks)) kd mo 0 0) (weak_bt 2 ⟨0,3,1,none⟩ rfl rfl rfl (by repeat' (first | exact rfl | exact we_rfl rfl | exact we_bool (hp _ rfl) | exact we_int h1 | exact we_int h2 | exact we_int (congrArg Nat.cast hdl) | exact we_tok (Nat.le_refl _) rfl | exact we_tok (Nat.le_refl _) rfl | refine ⟨_,_,rfl,?_,?_⟩)) rfl rfl (by repeat' (first | exact trivial | exact we_rfl rfl | exact we_bool (hp _ rfl) | exact we_int h1 | exact we_int h2 | exact we_int (congrArg Nat.cast hdl) | exact we_tok (Nat.le_refl _) rfl | refine ⟨⟨_,rfl,?_⟩,?_⟩))) ⟨0,rfl,by omega,by omega⟩ ?_
  rintro j st ⟨e,rfl,he,rfl⟩
  refine br (fun hL=>?_) (fun hL=>?_)
  ·have hlt:e < ks.length:=by have:=hL;simp [Val.ks] at this;exact this
   have hml:(dZs (List.replicate e x.to)).length=e:=by rw [dZs_len,List.length_replicate]
   have hsn:dZs (List.replicate e x.to) ++ [[DV.v (.int .i64 x.to)]]=dZs (List.replicate (e + 1) x.to):=by rw [dZs_snoc,List.replicate_succ']
   refine ⟨_,⟨by omega,hg0⟩,?_⟩
   refine ⟨hml,⟨by rw [hml];simp [maxLen];omega,by rw [hml];simp;omega⟩,?_⟩
   exact ⟨kd5St ⟨kind,at',lo,hi,most,names,es⟩ (.mk q z s ks) (List.replicate (e + 1) x.to) (plainV (.mk q z s ks)) kd mo (e + 1) (e + 1),(weak_b 2 rfl (by repeat' (first | exact rfl | exact we_rfl rfl | exact we_int (nxt hlt (by omega)) | exact we_sl hsn rfl | refine ⟨_,_,rfl,?_,?_⟩)) rfl rfl rfl (by repeat' (first | exact trivial | exact we_rfl rfl | exact we_int (nxt hlt (by omega)) | exact we_sl hsn rfl | refine ⟨⟨_,rfl,?_⟩,?_⟩))),ks.length - (e + 1),by omega,e + 1,rfl,by omega,rfl⟩
  ·have hge:e=ks.length:=by have:=hL;simp [Val.ks] at this;omega
   subst hge
   have hkl2:kidsL ⟨kind,at',lo,hi,most,names,es⟩ (.mk q z s ks)=List.replicate ks.length x.to:=by unfold kidsL;rw [if_pos c56,ht0];all_goals rfl
   have hml:(dZs (List.replicate ks.length x.to)).length=ks.length:=by rw [dZs_len,List.length_replicate]
   have hB:pickB (pickB (plainV (.mk q z s ks)) (decide (q=kd)) false) (decide (((dZs (List.replicate ks.length x.to)).length:Int)≤mo)) false=kidsB ⟨kind,at',lo,hi,most,names,es⟩ (.mk q z s ks):=by
    rw [hml,h3,h4,pickB_and,pickB_and]
    unfold kidsB
    rw [if_pos c56]
    rfl
   rw [hkl2]
   exact ⟨_,(by repeat' (first | exact rfl | exact trivial | exact Or.inr (Or.inl ⟨_,rfl⟩) | exact Or.inr ⟨_,rfl⟩ | exact Or.inl ⟨rfl,rfl⟩ | exact Or.inl rfl | refine Or.inr ⟨_,_,rfl,Nat.zero_le _,rfl,?_⟩ | refine ⟨_,_,rfl,?_,?_⟩ | refine ⟨_,rfl,?_⟩ | exact congrArg (fun b=>DV.v (.bool b)) hB | refine Or.inr (Or.inr (Or.inr ⟨_,_,rfl,?_⟩)) | exact Or.inl rfl | refine Or.inr ?_)),rfl⟩
 have c6:¬ kind=6:=by simpa using c
 obtain ⟨hm64,hm8,_,_⟩:=hmany (by omega)
 refine br (fun c=>?_) (fun c=>?_)
 ·have c7:kind=7:=by simpa using c
  refine loop_i (fun j st=>∃ e:Nat,st=kd7St ⟨kind,at',lo,hi,most,names,es⟩ (.mk q z s ks) ((es.take e).map Ed.to) (plainV (.mk q z s ks)) e e∧e≤es.length∧j=es.length - e) es.length (kd7St ⟨kind,at',lo,hi,most,names,es⟩ (.mk q z s ks) [] (plainV (.mk q z s ks)) 0 0) (weak_bt 2 ⟨0,3,1,none⟩ rfl rfl rfl (by repeat' (first | exact rfl | exact we_rfl rfl | exact we_bool (hp _ rfl) | exact we_tok (Nat.le_refl _) rfl | exact we_tok (Nat.le_refl _) rfl | refine ⟨_,_,rfl,?_,?_⟩)) rfl rfl (by repeat' (first | exact trivial | exact we_rfl rfl | exact we_bool (hp _ rfl) | exact we_tok (Nat.le_refl _) rfl | refine ⟨⟨_,rfl,?_⟩,?_⟩))) ⟨0,rfl,by omega,by omega⟩ ?_
  rintro j st ⟨e,rfl,he,rfl⟩
  refine br (fun hL=>?_) (fun hL=>?_)
  ·have hlt:e < es.length:=by have:=hL;simp [hel] at this;exact this
   obtain ⟨x,hx⟩:∃ x,es[e]? = some x:=⟨_,List.getElem?_eq_getElem hlt⟩
   have hml:(dZs ((es.take e).map Ed.to)).length=e:=by rw [dZs_len,List.length_map,List.length_take];omega
   have hsn:dZs ((es.take e).map Ed.to) ++ [[DV.v (.int .i64 x.to)]]=dZs ((es.take (e + 1)).map Ed.to):=by rw [dZs_snoc,take_snoc hx,List.map_append];all_goals rfl
   refine ⟨_,⟨by omega,dEds_get hx⟩,?_⟩
   refine ⟨hml,⟨by rw [hml];simp [maxLen];omega,by rw [hml];simp;omega⟩,?_⟩
   exact ⟨kd7St ⟨kind,at',lo,hi,most,names,es⟩ (.mk q z s ks) ((es.take (e + 1)).map Ed.to) (plainV (.mk q z s ks)) (e + 1) (e + 1),(weak_b 2 rfl (by repeat' (first | exact rfl | exact we_rfl rfl | exact we_int (nxt hlt (by omega)) | exact we_sl hsn rfl | refine ⟨_,_,rfl,?_,?_⟩)) rfl rfl rfl (by repeat' (first | exact trivial | exact we_rfl rfl | exact we_int (nxt hlt (by omega)) | exact we_sl hsn rfl | refine ⟨⟨_,rfl,?_⟩,?_⟩))),es.length - (e + 1),by omega,e + 1,rfl,by omega,rfl⟩
  ·have hge:e=es.length:=by have:=hL;simp [hel] at this;omega
   subst hge
   rw [List.take_length]
   have hkl2:kidsL ⟨kind,at',lo,hi,most,names,es⟩ (.mk q z s ks)=es.map Ed.to:=by unfold kidsL;rw [if_neg (by simp only;omega),if_pos c7]
   have hml:(dZs (es.map Ed.to)).length=es.length:=by rw [dZs_len,List.length_map]
   have hB:pickB (pickB (plainV (.mk q z s ks)) (decide (q=7)) false) (decide (((dZs (es.map Ed.to)).length:Int)=((dVals ks).length:Int))) false=kidsB ⟨kind,at',lo,hi,most,names,es⟩ (.mk q z s ks):=by
    rw [hml,hdl,pickB_and,pickB_and]
    unfold kidsB
    rw [if_neg (by simp only;omega),if_pos c7]
    have:((es.length:Int)=(ks.length:Int))↔es.length=ks.length:=by omega
    simp only [this,Val.k,Val.ks]
    rfl
   rw [hkl2]
   refine drawG_i (fun _=>false) mo (by decide +kernel) ?_
   exact ⟨_,(by repeat' (first | exact rfl | exact trivial | exact Or.inr (Or.inl ⟨_,rfl⟩) | exact Or.inr ⟨_,rfl⟩ | exact Or.inl ⟨rfl,rfl⟩ | exact Or.inl rfl | refine Or.inr ⟨_,_,rfl,Nat.zero_le _,rfl,?_⟩ | refine ⟨_,_,rfl,?_,?_⟩ | refine ⟨_,rfl,?_⟩ | exact congrArg (fun b=>DV.v (.bool b)) hB | refine Or.inr (Or.inr (Or.inr ⟨_,_,rfl,?_⟩)) | exact Or.inl rfl | refine Or.inr ?_)),rfl⟩
 have c7:¬ kind=7:=by simpa using c
 have hkl2:kidsL ⟨kind,at',lo,hi,most,names,es⟩ (.mk q z s ks)=(match tagE ⟨kind,at',lo,hi,most,names,es⟩ (.mk q z s ks) with | none=>[] | some e=>if e.bare=true then [] else [e.to]):=by unfold kidsL;rw [if_neg (by simp only;omega),if_neg c7];all_goals rfl
 have hkb2:kidsB ⟨kind,at',lo,hi,most,names,es⟩ (.mk q z s ks)=(match tagE ⟨kind,at',lo,hi,most,names,es⟩ (.mk q z s ks) with | none=>false | some _=>plainV (.mk q z s ks) && decide ((kidsL ⟨kind,at',lo,hi,most,names,es⟩ (.mk q z s ks)).length=ks.length)):=by unfold kidsB;rw [if_neg (by simp only;omega),if_neg c7];all_goals rfl
 have hc:∀ b:Bool,b=pickB (pickB (!decide (q=8)) true (decide (z < 0))) true (decide (((dEds es).length:Int)≤z))→b = !decide (q=8∧0≤z∧z < es.length):=fun b h=>by
  rw [h,hel,pickB_or,pickB_or,Bool.eq_iff_iff]
  simp
  omega
 refine br (fun c=>?_) (fun c=>?_)
 ·have c:¬ (q=8∧0≤z∧z < es.length):=by have:=(hc _ rfl).symm.trans c;simpa only [Bool.not_eq_true',decide_eq_false_iff_not] using this
  have ht:tagE ⟨kind,at',lo,hi,most,names,es⟩ (.mk q z s ks)=none:=by show (if q=8∧0≤z∧z < es.length then es[z.toNat]? else none)=_;rw [if_neg c]
  rw [hkb2,hkl2,ht]
  exact ⟨_,ax,rfl⟩
 ·have c:q=8∧0≤z∧z < es.length:=by have:=(hc _ rfl).symm.trans c;simpa only [Bool.not_eq_false',decide_eq_true_eq] using this
  obtain ⟨x,hx⟩:∃ x,es[z.toNat]? = some x:=⟨_,List.getElem?_eq_getElem (by omega)⟩
  have ht:tagE ⟨kind,at',lo,hi,most,names,es⟩ (.mk q z s ks)=some x:=by show (if q=8∧0≤z∧z < es.length then es[z.toNat]? else none)=_;rw [if_pos c];exact hx
  rw [ht] at hkb2 hkl2
  refine ⟨_,⟨by omega,dEds_get hx⟩,?_⟩
  refine br (fun hb=>?_) (fun hb=>?_)
  ·have hb:x.bare=false:=by simpa using hb
   have hkl3:kidsL ⟨kind,at',lo,hi,most,names,es⟩ (.mk q z s ks)=[x.to]:=by rw [hkl2];simp [hb]
   have hB:pickB (plainV (.mk q z s ks)) (decide ((1:Int)=((dVals ks).length:Int))) false=kidsB ⟨kind,at',lo,hi,most,names,es⟩ (.mk q z s ks):=by
    rw [hkb2,hkl3,hdl,pickB_and]
    have:((1:Int)=(ks.length:Int)) ↔ [x.to].length=ks.length:=by simp;omega
    simp only [this]
   rw [hkl3,← hB]
   refine ⟨⟨by simp [maxLen],by simp⟩,?_⟩
   refine drawG_i (fun _=>false) mo (by decide +kernel) ?_
   exact ⟨_,(by repeat' (first | exact rfl | exact trivial | exact Or.inr (Or.inl ⟨_,rfl⟩) | exact Or.inr ⟨_,rfl⟩ | exact Or.inl ⟨rfl,rfl⟩ | exact Or.inl rfl | refine Or.inr ⟨_,_,rfl,Nat.zero_le _,rfl,?_⟩ | refine ⟨_,_,rfl,?_,?_⟩ | refine ⟨_,rfl,?_⟩ | exact congrArg (fun b=>DV.v (.bool (pickB b _ false))) (hp _ rfl) | refine Or.inr (Or.inr (Or.inr ⟨_,_,rfl,?_⟩)) | exact Or.inl rfl | refine Or.inr ?_)),rfl⟩
  ·have hb:x.bare=true:=by simpa using hb
   have hkl3:kidsL ⟨kind,at',lo,hi,most,names,es⟩ (.mk q z s ks)=[]:=by rw [hkl2];simp [hb]
   have hB:pickB (plainV (.mk q z s ks)) (decide ((0:Int)=((dVals ks).length:Int))) false=kidsB ⟨kind,at',lo,hi,most,names,es⟩ (.mk q z s ks):=by
    rw [hkb2,hkl3,hdl,pickB_and]
    have:((0:Int)=(ks.length:Int))↔([]:List Int).length=ks.length:=by simp;omega
    simp only [this]
   rw [hkl3,← hB]
   refine drawG_i (fun _=>false) mo (by decide +kernel) ?_
   exact ⟨_,(by repeat' (first | exact rfl | exact trivial | exact Or.inr (Or.inl ⟨_,rfl⟩) | exact Or.inr ⟨_,rfl⟩ | exact Or.inl ⟨rfl,rfl⟩ | exact Or.inl rfl | refine Or.inr ⟨_,_,rfl,Nat.zero_le _,rfl,?_⟩ | refine ⟨_,_,rfl,?_,?_⟩ | refine ⟨_,rfl,?_⟩ | exact congrArg (fun b=>DV.v (.bool (pickB b _ false))) (hp _ rfl) | refine Or.inr (Or.inr (Or.inr ⟨_,_,rfl,?_⟩)) | exact Or.inl rfl | refine Or.inr ?_)),rfl⟩
end Go.Proofs.YtdeaicofhmkebaaGreat
set_option maxRecDepth 100000
namespace Go.Proofs.YtdeaicofhmkebaaGreat
open Go Go.RowKit Dv Tryz
theorem kidsB_len {n:Nd} {v:Val} (hk:5≤n.kind) (h:kidsB n v=true):(kidsL n v).length=v.ks.length:=by
 unfold kidsB at h
 by_cases c:n.kind=5∨n.kind=6
 ·unfold kidsL;rw [if_pos c];simp
 rw [if_neg c] at h
 by_cases c7:n.kind=7
 ·rw [if_pos c7] at h
  unfold kidsL;rw [if_neg c,if_pos c7,List.length_map]
  simp at h;exact h.2
 rw [if_neg c7] at h
 cases ht:tagE n v with
 | none=>rw [ht] at h;cases h
 | some e=>rw [ht] at h;simp only [Bool.and_eq_true,decide_eq_true_eq] at h;exact h.2
theorem fitVs_drop {ND:List Nd} {ks:List Val} {l:List Int} {e:Nat} {x:Val} {i:Int} (h1:ks[e]? = some x) (h2:l[e]? = some i):fitVs ND (ks.drop e) (l.drop e)=(fitV ND x i && fitVs ND (ks.drop (e + 1)) (l.drop (e + 1))):=by
 rw [drop_cons h1,drop_cons h2,fitVs]
theorem nodeA_some {ND:List Nd} {i:Int} {d:Nd} (h:nodeA ND i=some d):0≤i∧ND[i.toNat]? = some d:=by
 unfold nodeA at h
 split at h
 ·cases h
 ·exact ⟨by omega,h⟩
theorem nodeA_none {ND:List Nd} {i:Int} (h:nodeA ND i=none):i < 0∨(ND.length:Int)≤i:=by
 unfold nodeA at h
 split at h
 ·left;assumption
 ·right
  have:=List.getElem?_eq_none_iff.1 h
  omega
abbrev tfSt (PC:List DV) (v:Val) (l:List Int) (e:Nat):St:=
 ⟨[(0,⟨[],.pt PC 0⟩),(5,⟨[],.loc 0 0⟩),(36,⟨[],.sl 1 (dZs l) none⟩),(37,⟨[],.v (.int .i64 l.length)⟩),(38,⟨[],.v (.int .i64 e)⟩)],[dVal v],[]⟩
theorem tfits_spec {S:Sch} {ND:List Nd} {PC:List DV} (hP:PlanR S ND PC):∀ (k:Nat) (v:Val),v.wt≤k→v.wt≤1099511627776→∀ i:Int,EvP Tryz.prog 51 [.pt PC 0,.v (.int .i64 i),.agg (dVal v)] (.v (.bool (fitV ND v i)))
 | 0,v,h,_=>by have:=v.wt_pos;omega
 | k + 1,.mk q z s ks,h,hb=>fun i=>by
  have ih:=tfits_spec hP k
  have hkl:=wtVs_len ks
  have hdl:=dVals_len ks
  have hb':=hb
  rw [Val.wt] at h hb
  rw [fitV]
  have hnode:=hP.node
  have hnodeN:=hP.nodeN
  have hok:=hP.ok
  cases hd:nodeA ND i with
  | none=>
   refine ev_go (P:=Tryz.prog) tt tt_ok 5000 53 [.tmp 6] Tryz.func51 rfl Tryz.ntmps51 rfl (Nat.le_of_ble_eq_true rfl) (fun E9 w9 hn9 hm9=>?_)
   refine call_p en19 (hnodeN i (nodeA_none hd)) ax rfl ?_
   exact (rfl:_=_)
  | some d=>
   obtain ⟨h0,hg⟩:=nodeA_some hd
   obtain ⟨j,rfl⟩:∃ j:Nat,i=j:=⟨i.toNat,by omega⟩
   have hg:ND[j]? = some d:=by simpa using hg
   have hN:=hok d (List.mem_of_getElem? hg)
   have hlf:=leaf_spec d (.mk q z s ks)
   have hkd:=fun h5=>kids_spec hN h5 (.mk q z s ks) hb'
   have hlen:=fun h5=>kidsB_len (n:=d) (v:=.mk q z s ks) h5
   simp only
   obtain ⟨kind,at',lo,hi,most,names,es⟩:=d
   simp only at hkd hlen
   refine ev_go (P:=Tryz.prog) tt tt_ok 5000 53 [.tmp 6] Tryz.func51 rfl Tryz.ntmps51 rfl (Nat.le_of_ble_eq_true rfl) (fun E9 w9 hn9 hm9=>?_)
   refine call_p en19 (hnode j _ hg) ax rfl ?_
   refine br (fun c=>?_) (fun c=>?_)
   ·have c:kind < 5:=by simpa using c
    rw [if_pos c]
    refine call_p en117 (hlf) ax rfl ?_
    exact (rfl:_=_)
   have c:¬ kind < 5:=by simpa using c
   rw [if_neg c]
   have hkd:=hkd (by omega)
   have hlen:=hlen (by omega)
   generalize kidsL ⟨kind,at',lo,hi,most,names,es⟩ (.mk q z s ks)=l at hkd hlen ⊢
   have hzl:=dZs_len l
   refine call_p en118 (hkd) ax rfl ?_
   cases hB:kidsB ⟨kind,at',lo,hi,most,names,es⟩ (.mk q z s ks) with
   | false=>
    exact (rfl:_=_)
   | true=>
    have hlen:l.length=ks.length:=hlen hB
    rw [Bool.true_and]
    refine loop_i (fun j st=>∃ e:Nat,st=tfSt PC (.mk q z s ks) l e∧e≤l.length∧fitVs ND ks l=fitVs ND (ks.drop e) (l.drop e)∧j=l.length - e) l.length (tfSt PC (.mk q z s ks) l 0) (weak_mk ⟨_,rfl⟩ wA rfl rfl rfl (by repeat' (first | exact trivial | exact we_rfl rfl | exact we_int (congrArg Nat.cast hzl) | refine ⟨⟨_,rfl,?_⟩,?_⟩))) ⟨0,rfl,by omega,rfl,by omega⟩ ?_
    rintro _ st ⟨e,rfl,he,heq,rfl⟩
    refine br (fun hL=>?_) (fun hL=>?_)
    ·have hlt:e < l.length:=by have:=hL;simp at this;exact this
     obtain ⟨x,hx⟩:∃ x,ks[e]? = some x:=⟨_,List.getElem?_eq_getElem (by omega)⟩
     obtain ⟨y,hy⟩:∃ y,l[e]? = some y:=⟨_,List.getElem?_eq_getElem hlt⟩
     have hxw:=wtVs_mem (List.mem_of_getElem? hx)
     rw [fitVs_drop hx hy] at heq
     have hi':=ih x (by omega) (by omega) y
     obtain ⟨xk,xn,xs,xl⟩:=x
     refine ⟨_,⟨by omega,dZs_get hy⟩,?_⟩
     refine ⟨_,⟨by omega,dVals_get hx⟩,?_⟩
     refine call_p en51 (hi') ax rfl ?_
     refine br (fun g=>?_) (fun g=>?_)
     ·have g:fitV ND (.mk xk xn xs xl) y=false:=by simpa using g
      rw [heq,g]
      exact (rfl:_=_)
     ·have g:fitV ND (.mk xk xn xs xl) y=true:=by simpa using g
      rw [g,Bool.true_and] at heq
      exact ⟨tfSt PC (.mk q z s ks) l (e + 1),(weak_mk ⟨_,rfl⟩ wA rfl rfl rfl (by repeat' (first | exact trivial | exact we_rfl rfl | exact we_int (nxt hlt (by omega)) | refine ⟨⟨_,rfl,?_⟩,?_⟩))),l.length - (e + 1),by omega,e + 1,rfl,by omega,heq,rfl⟩
    ·have hge:e=l.length:=by have:=hL;simp at this;omega
     rw [List.drop_of_length_le (by omega),List.drop_of_length_le (by omega)] at heq
     rw [heq]
     exact (rfl:_=_)
end Go.Proofs.YtdeaicofhmkebaaGreat
set_option maxRecDepth 100000
namespace Go.Proofs.YtdeaicofhmkebaaGreat
open Go Go.RowKit Dv Tryz
inductive Rw where
 | mk (k at' n:Int) (s:ByteArray) (keys:List Wd) (ks:List Rw)
mutual
def dRw:Rw→List DV
 | .mk k a n s keys ks=>[.v (.int .i64 k),.v (.int .i64 a),.v (.int .i64 n),.v (.string s),.sl 2 (dWds keys) none,.sl 6 (dRws ks) none]
def dRws:List Rw→List (List DV)
 | []=>[]
 | v :: r=>dRw v :: dRws r
end
theorem dRws_map:∀ l:List Rw,dRws l=l.map dRw
 | []=>rfl
 | v :: r=>by rw [dRws,dRws_map r];all_goals rfl
theorem dRws_len (l:List Rw):(dRws l).length=l.length:=by rw [dRws_map,List.length_map]
theorem dRws_snoc (l:List Rw) (x:Rw):dRws l ++ [dRw x]=dRws (l ++ [x]):=by rw [dRws_map,dRws_map];simp
def trueB:ByteArray:=⟨#[116,114,117,101]⟩
def falseB:ByteArray:=⟨#[102,97,108,115,101]⟩
def someB:ByteArray:=⟨#[115,111,109,101]⟩
def noneB:ByteArray:=⟨#[110,111,110,101]⟩
def tagN (d:Nd) (v:Val):ByteArray:=match tagE d v with | some e=>e.name | none=>emptyB
def wrF (d:Nd) (v:Val) (rs:List Rw):Rw:=
 if v.k=1 then .mk 1 0 0 (if v.n=1 then trueB else falseB) [] []
 else if v.k=2 then .mk 2 0 v.n emptyB [] []
 else if v.k=3 then .mk 3 0 0 v.s [] []
 else if v.k=4 then .mk 1 0 0 (d.names[v.n.toNat]?.getD emptyB) [] []
 else if v.k=5 then .mk 4 0 0 emptyB [] rs
 else if v.k=7 then .mk 5 0 0 emptyB (d.edges.map fun e=>⟨e.name,0⟩) rs
 else .mk (if 0 < v.ks.length then 6 else 1) 0 0 (if v.k=8 then tagN d v else if 0 < v.ks.length then someB else noneB) [] rs
mutual
def rawV (ND:List Nd):Val→Int→Rw
 | .mk k n s ks,i=>match nodeA ND i with
  | none=>.mk 0 0 0 emptyB [] []
  | some d=>wrF d (.mk k n s ks) (rawVs ND ks (kidsL d (.mk k n s ks)))
def rawVs (ND:List Nd):List Val→List Int→List Rw
 | v :: r,i :: l=>rawV ND v i :: rawVs ND r l
 | _,_=>[]
end
theorem rawVs_len (ND:List Nd):∀ (ks:List Val) (l:List Int),l.length=ks.length→(rawVs ND ks l).length=ks.length
 | [],[],_=>rfl
 | v :: r,i :: l,h=>by rw [rawVs,List.length_cons,rawVs_len ND r l (by simpa using h)];all_goals rfl
 | [],_ :: _,h=>by simp at h
 | _ :: _,[],h=>by simp at h
theorem rawVs_snoc {ND:List Nd}:∀ {ks:List Val} {l:List Int} {e:Nat} {x:Val} {i:Int},ks[e]? = some x→l[e]? = some i→rawVs ND (ks.take (e + 1)) (l.take (e + 1))=rawVs ND (ks.take e) (l.take e) ++ [rawV ND x i]
 | [],_,e,x,i,h,_=>by simp at h
 | _ :: _,[],e,x,i,_,h=>by simp at h
 | v :: r,j :: l,0,x,i,h1,h2=>by
  simp only [List.getElem?_cons_zero,Option.some.injEq] at h1 h2
  subst h1 h2
  simp [rawVs]
 | v :: r,j :: l,e + 1,x,i,h1,h2=>by
  simp only [List.getElem?_cons_succ] at h1 h2
  simp only [List.take_succ_cons,rawVs,List.cons_append]
  rw [rawVs_snoc h1 h2]
structure FitF (ND:List Nd) (v:Val) (i:Int) (d:Nd):Prop where
 node:nodeA ND i=some d
 k:v.k=d.kind
 leaf:d.kind < 5→v.ks=[]
 enum:d.kind=4→0≤v.n∧v.n < d.names.length
 kids:5≤d.kind→(kidsL d v).length=v.ks.length∧fitVs ND v.ks (kidsL d v)=true
 tag:d.kind=8→∃ e,tagE d v=some e∧d.edges[v.n.toNat]? = some e∧0≤v.n∧v.n < d.edges.length∧(e.bare=true↔v.ks=[])
 opt:d.kind=6→v.ks.length≤1
theorem fit_facts {L:Nat} {ND:List Nd} (hok:∀ n∈ND,NdOK L ND.length n) {v:Val} {i:Int} (h:fitV ND v i=true):∃ d,FitF ND v i d:=by
 obtain ⟨k,n,s,ks⟩:=v
 rw [fitV] at h
 cases hd:nodeA ND i with
 | none=>rw [hd] at h;cases h
 | some d=>
  rw [hd] at h
  simp only at h
  have hN:=hok d (List.mem_of_getElem? (nodeA_some hd).2)
  have hk1:=hN.k1
  have hk8:=hN.k8
  by_cases h5:d.kind < 5
  ·rw [if_pos h5] at h
   unfold leafF at h
   by_cases hc:0 < (Val.mk k n s ks).ks.length∨((Val.mk k n s ks).k≠3∧(Val.mk k n s ks).s≠emptyB)∨((Val.mk k n s ks).k=3∧(Val.mk k n s ks).n≠0)
   ·rw [if_pos hc] at h;cases h
   rw [if_neg hc] at h
   have hnil:ks=[]:=by
    cases ks with
    | nil=>rfl
    | cons a b=>exact (hc (.inl (by simp [Val.ks]))).elim
   have hk:k=d.kind∧(d.kind=4→0≤n∧n < d.names.length):=by
    rcases (show d.kind=1∨d.kind=2∨d.kind=3∨d.kind=4 by omega) with c | c | c | c
    all_goals
     simp [c,Val.k,Val.n] at h
     simp only [c]
     constructor
     ·first | exact of_decide_eq_true h.1 | exact of_decide_eq_true h.1.1
     ·first | (intro;omega) | exact fun _=>⟨of_decide_eq_true h.1.2,of_decide_eq_true h.2⟩
   exact ⟨d,{ node:=hd,k:=hk.1,leaf:=fun _=>hnil,enum:=hk.2,kids:=fun h=>by omega,tag:=fun h=>by omega,opt:=fun h=>by omega }⟩
  ·rw [if_neg h5,Bool.and_eq_true] at h
   obtain ⟨hB,hf⟩:=h
   have hlen:=kidsB_len (by omega) hB
   have hB2:=hB
   unfold kidsB at hB
   by_cases c:d.kind=5∨d.kind=6
   ·rw [if_pos c] at hB
    simp only [Bool.and_eq_true,decide_eq_true_eq] at hB
    exact ⟨d,{ node:=hd,k:=hB.1.2,leaf:=fun h=>by omega,enum:=fun h=>by omega,kids:=fun _=>⟨hlen,hf⟩,tag:=fun h=>by omega,opt:=fun h=>by have:=hB.2;rw [if_pos h] at this;omega }⟩
   rw [if_neg c] at hB
   by_cases c7:d.kind=7
   ·rw [if_pos c7] at hB
    simp only [Bool.and_eq_true,decide_eq_true_eq] at hB
    exact ⟨d,{ node:=hd,k:=by rw [c7];exact hB.1.2,leaf:=fun h=>by omega,enum:=fun h=>by omega,kids:=fun _=>⟨hlen,hf⟩,tag:=fun h=>by omega,opt:=fun h=>by omega }⟩
   rw [if_neg c7] at hB
   cases ht:tagE d (.mk k n s ks) with
   | none=>rw [ht] at hB;cases hB
   | some e=>
    have ht2:=ht
    unfold tagE at ht2
    split at ht2
    ·rename_i hr
     have hkl:kidsL d (.mk k n s ks)=if e.bare=true then [] else [e.to]:=by unfold kidsL;rw [if_neg c,if_neg c7,ht]
     refine ⟨d,{ node:=hd,k:=by have:=hr.1;omega,leaf:=fun h=>by omega,enum:=fun h=>by omega,kids:=fun _=>⟨hlen,hf⟩,tag:=fun _=>⟨e,ht,ht2,hr.2.1,hr.2.2,?_⟩,opt:=fun h=>by omega }⟩
     rw [hkl] at hlen
     constructor
     ·intro hb
      rw [if_pos hb] at hlen
      exact List.eq_nil_of_length_eq_zero hlen.symm
     ·intro hnil
      rw [hnil] at hlen
      cases hb:e.bare
      ·rw [hb] at hlen;simp at hlen
      ·rfl
    ·cases ht2
theorem fitVs_at {ND:List Nd}:∀ {ks:List Val} {l:List Int} {e:Nat} {x:Val} {i:Int},fitVs ND ks l=true→ks[e]? = some x→l[e]? = some i→fitV ND x i=true
 | [],_,e,x,i,_,h,_=>by simp at h
 | _ :: _,[],e,x,i,_,_,h=>by simp at h
 | v :: r,j :: l,0,x,i,h,h1,h2=>by
  simp only [List.getElem?_cons_zero,Option.some.injEq] at h1 h2
  subst h1 h2
  rw [fitVs,Bool.and_eq_true] at h
  exact h.1
 | v :: r,j :: l,e + 1,x,i,h,h1,h2=>by
  simp only [List.getElem?_cons_succ] at h1 h2
  rw [fitVs,Bool.and_eq_true] at h
  exact fitVs_at h.2 h1 h2
end Go.Proofs.YtdeaicofhmkebaaGreat
set_option maxRecDepth 100000
namespace Go.Proofs.YtdeaicofhmkebaaGreat
open Go Go.RowKit Dv Tryz
theorem truth_spec (z:Int):EvP Tryz.prog 229 [.v (.int .i64 z)] (.v (.string (if z=1 then trueB else falseB))):=by
 refine ev_go (P:=Tryz.prog) tt tt_ok 5000 5 [.tmp 2] Tryz.func229 rfl Tryz.ntmps229 rfl (Nat.le_of_ble_eq_true rfl) (fun E9 w9 hn9 hm9=>?_)
 refine br (fun c=>?_) (fun c=>?_)
 ·have c:z=1:=by simpa using c
  rw [if_pos c]
  exact (rfl:_=_)
 ·have c:¬ z=1:=by simpa using c
  rw [if_neg c]
  exact (rfl:_=_)
abbrev zRw:List DV:=[.v (.int .i64 0),.v (.int .i64 0),.v (.int .i64 0),.v (.string emptyB),.v (.slice none 0 0),.v (.slice none 0 0)]
abbrev oRw (k:Int) (s:ByteArray) (ky kd:DV):List DV:=[.v (.int .i64 k),.v (.int .i64 0),.v (.int .i64 0),.v (.string s),ky,kd]
abbrev wrSt (PC:List DV) (v:Val) (d:Nd) (l:List Int) (rs:List Rw) (q e:Nat):St:=
 ⟨[(0,⟨[],.pt PC 0⟩),(5,⟨[],.loc 0 0⟩),(6,⟨[],.loc 1 0⟩),(7,⟨[],.loc 2 0⟩),(9,⟨[],.sl 1 (dZs l) none⟩),(11,⟨[],.loc 3 0⟩),(58,⟨[],.sl 4 (dVals v.ks) none⟩),(59,⟨[],.v (.int .i64 (dVals v.ks).length)⟩),(60,⟨[],.v (.int .i64 e)⟩)],
  [dVal v,zRw,dNd d,oRw 4 emptyB (.v (.slice none 0 0)) (.sl 6 (dRws rs) (some 0))],[⟨q,161,6,none⟩]⟩
abbrev kySt (v:Val) (d:Nd) (rs:List Rw) (n e:Nat):St:=
 ⟨[(6,⟨[],.loc 1 0⟩),(11,⟨[],.loc 3 0⟩),(87,⟨[],.sl 10 (dEds d.edges) none⟩),(88,⟨[],.v (.int .i64 (dEds d.edges).length)⟩),(89,⟨[],.v (.int .i64 e)⟩)],
  [dVal v,zRw,dNd d,oRw 5 emptyB (.sl 2 (dWds ((d.edges.take e).map fun x=>⟨x.name,0⟩)) (some 1)) (.sl 6 (dRws rs) (some 0))],[⟨n,161,6,none⟩,⟨e,27,2,none⟩]⟩
theorem twrite_spec {S:Sch} {ND:List Nd} {PC:List DV} (hP:PlanR S ND PC):∀ (k:Nat) (v:Val),v.wt≤k→v.wt≤1099511627776→∀ i:Int,fitV ND v i=true→EvP Tryz.prog 162 [.pt PC 0,.v (.int .i64 i),.agg (dVal v)] (.agg (dRw (rawV ND v i)))
 | 0,v,h,_=>by have:=v.wt_pos;omega
 | k + 1,v,h,hb=>fun i hfit=>by
  have ih:=twrite_spec hP k
  obtain ⟨d,hF⟩:=fit_facts hP.ok hfit
  have hraw:rawV ND v i=wrF d v (rawVs ND v.ks (kidsL d v)):=by
   obtain ⟨q,z,s,ks⟩:=v
   rw [rawV,hF.node]
   rfl
  obtain ⟨h0,hg⟩:=nodeA_some hF.node
  obtain ⟨j,rfl⟩:∃ j:Nat,i=j:=⟨i.toNat,by omega⟩
  have hg:ND[j]? = some d:=by simpa using hg
  have hN:=hP.ok d (List.mem_of_getElem? hg)
  have hk1:=hN.k1
  have hk8:=hN.k8
  have hkd:=fun h5=>kids_spec hN h5 v hb
  have hnode:=hP.node j d hg
  have hkk:=hF.k
  have hkids:=hF.kids
  have henum:=hF.enum
  have htag:=hF.tag
  have hopt:=hF.opt
  have hmany:=hN.many
  rw [hraw]
  obtain ⟨q,z,s,ks⟩:=v
  have hkl:=wtVs_len ks
  have hdl:=dVals_len ks
  rw [Val.wt] at h hb
  simp only [Val.k,Val.n,Val.ks] at hkk hkids henum htag hopt
  generalize kidsL d (.mk q z s ks)=l at hkd hkids ⊢
  generalize hB:kidsB d (.mk q z s ks)=kb at hkd
  have hel:=dEds_len d.edges
  have hbl:=dBs_len d.names
  have hwr:wrF d (.mk q z s ks) (rawVs ND ks l)=if q=1 then .mk 1 0 0 (if z=1 then trueB else falseB) [] []
   else if q=2 then .mk 2 0 z emptyB [] []
   else if q=3 then .mk 3 0 0 s [] []
   else if q=4 then .mk 1 0 0 (d.names[z.toNat]?.getD emptyB) [] []
   else if q=5 then .mk 4 0 0 emptyB [] (rawVs ND ks l)
   else if q=7 then .mk 5 0 0 emptyB (d.edges.map fun e=>⟨e.name,0⟩) (rawVs ND ks l)
   else .mk (if 0 < ks.length then 6 else 1) 0 0 (if q=8 then tagN d (.mk q z s ks) else if 0 < ks.length then someB else noneB) [] (rawVs ND ks l):=rfl
  simp only [Val.ks] at *
  rw [hwr]
  generalize hR:rawVs ND ks l=R
  obtain ⟨kind,at',lo,hi,most,names,es⟩:=d
  simp only at hkk hk1 hk8 hkd hkids henum htag hopt hmany hel hbl
  refine ev_go (P:=Tryz.prog) tt tt_ok 5000 127 [.cell 6 161] Tryz.func162 rfl Tryz.ntmps162 rfl (Nat.le_of_ble_eq_true rfl) (fun E9 w9 hn9 hm9=>?_)
  refine call_p en19 (hnode) ax rfl ?_
  refine br (fun c=>?_) (fun c=>?_)
  ·have c:q=1:=by simpa using c
   refine call_p en229 (truth_spec z) ax rfl ?_
   rw [if_pos c]
   exact ⟨_,ax,rfl⟩
  have c1:¬ q=1:=by simpa using c
  rw [if_neg c1]
  refine br (fun c=>?_) (fun c=>?_)
  ·have c:q=2:=by simpa using c
   rw [if_pos c]
   exact ⟨_,ax,rfl⟩
  have c2:¬ q=2:=by simpa using c
  rw [if_neg c2]
  refine br (fun c=>?_) (fun c=>?_)
  ·have c:q=3:=by simpa using c
   rw [if_pos c]
   exact ⟨_,ax,rfl⟩
  have c3:¬ q=3:=by simpa using c
  rw [if_neg c3]
  refine br (fun c=>?_) (fun c=>?_)
  ·have c:q=4:=by simpa using c
   obtain ⟨z0,z1⟩:=henum (by omega)
   obtain ⟨x,hx⟩:∃ x,names[z.toNat]? = some x:=⟨_,List.getElem?_eq_getElem (by omega)⟩
   rw [if_pos c]
   simp only [hx,Option.getD_some]
   refine ⟨_,⟨by omega,dBs_get hx⟩,?_⟩
   exact ⟨_,ax,rfl⟩
  have c4:¬ q=4:=by simpa using c
  rw [if_neg c4]
  obtain ⟨hll,hfs⟩:=hkids (by omega)
  refine call_p en118 (hkd (by omega)) ax rfl ?_
  refine loop_i (fun j st=>∃ e:Nat,st=wrSt PC (.mk q z s ks) ⟨kind,at',lo,hi,most,names,es⟩ l (rawVs ND (ks.take e) (l.take e)) e e∧e≤ks.length∧j=ks.length - e) ks.length (wrSt PC (.mk q z s ks) ⟨kind,at',lo,hi,most,names,es⟩ l [] 0 0) (weak_bt 4 ⟨0,161,6,none⟩ rfl rfl rfl (by repeat' (first | exact rfl | exact we_rfl rfl | exact we_tok (Nat.le_refl _) rfl | exact we_tok (Nat.le_refl _) rfl | refine ⟨_,_,rfl,?_,?_⟩)) rfl rfl (by repeat' (first | exact trivial | exact we_rfl rfl | exact we_tok (Nat.le_refl _) rfl | refine ⟨⟨_,rfl,?_⟩,?_⟩))) ⟨0,rfl,by omega,by omega⟩ ?_
  rintro _ st ⟨e,rfl,he,rfl⟩
  refine br (fun hL=>?_) (fun hL=>?_)
  ·have hlt:e < ks.length:=by simpa [hdl,Val.ks] using hL
   obtain ⟨x,hx⟩:∃ x,ks[e]? = some x:=⟨_,List.getElem?_eq_getElem hlt⟩
   obtain ⟨i',hi'⟩:∃ i',l[e]? = some i':=⟨_,List.getElem?_eq_getElem (by omega)⟩
   have hxw:=wtVs_mem (List.mem_of_getElem? hx)
   have hw:=ih x (by omega) (by omega) i' (fitVs_at hfs hx hi')
   have hsn:=rawVs_snoc (ND:=ND) hx hi'
   generalize rawV ND x i'=r at hw hsn
   obtain ⟨xk,xn,xs,xl⟩:=x
   refine ⟨_,⟨by omega,dVals_get (by simpa [Val.ks] using hx)⟩,?_⟩
   have hRl:(rawVs ND (ks.take e) (l.take e)).length=e:=by
    rw [rawVs_len]
    ·rw [List.length_take];omega
    ·rw [List.length_take,List.length_take];omega
   obtain ⟨rk,ra,rn,rs,rky,rks⟩:=r
   refine drawG_s mo (by decide +kernel) ?_
   refine ⟨_,⟨by omega,dZs_get hi'⟩,?_⟩
   refine callD_p en162 (hw) ax rfl ?_
   refine ⟨by rw [dRws_len,hRl],⟨by rw [dRws_len,hRl];simp [maxLen];omega,by rw [dRws_len,hRl];simp;omega⟩,?_⟩
   exact ⟨wrSt PC (.mk q z s ks) ⟨kind,at',lo,hi,most,names,es⟩ l (rawVs ND (ks.take (e + 1)) (l.take (e + 1))) (e + 1) (e + 1),(weak_b 4 rfl (by repeat' (first | exact rfl | exact we_rfl rfl | exact we_int (nxt hlt (by omega)) | exact we_sl ((dRws_snoc _ _).trans (congrArg dRws hsn.symm)) rfl | refine ⟨_,_,rfl,?_,?_⟩)) rfl rfl rfl (by repeat' (first | exact trivial | exact we_rfl rfl | exact we_int (nxt hlt (by omega)) | exact we_sl ((dRws_snoc _ _).trans (congrArg dRws hsn.symm)) rfl | refine ⟨⟨_,rfl,?_⟩,?_⟩))),ks.length - (e + 1),by omega,e + 1,rfl,by omega,rfl⟩
  ·have hge:e=ks.length:=by
    have:=hL;simp [hdl,Val.ks] at this;omega
   have ht:rawVs ND (ks.take e) (l.take e)=R:=by rw [hge,List.take_length,← hll,List.take_length,hR]
   rw [ht]
   refine br (fun c=>?_) (fun c=>?_)
   ·have c:q=5:=by simpa using c
    rw [if_pos c]
    exact ⟨_,ax,rfl⟩
   have c5:¬ q=5:=by simpa using c
   rw [if_neg c5]
   refine br (fun c=>?_) (fun c=>?_)
   ·have c:q=7:=by simpa using c
    rw [if_pos c]
    have hm64:=(hmany (.inl (by omega))).1
    refine loop_i (fun j st=>∃ u:Nat,st=kySt (.mk q z s ks) ⟨kind,at',lo,hi,most,names,es⟩ R e u∧u≤es.length∧j=es.length - u) es.length (kySt (.mk q z s ks) ⟨kind,at',lo,hi,most,names,es⟩ R e 0) (weak_bt 4 ⟨0,27,2,none⟩ rfl rfl rfl (by repeat' (first | exact rfl | exact we_rfl rfl | exact we_tok (Nat.le_refl _) rfl | exact we_tok (Nat.le_refl _) rfl | refine ⟨_,_,rfl,?_,?_⟩)) rfl rfl (by repeat' (first | exact trivial | exact we_rfl rfl | exact we_tok (Nat.le_refl _) rfl | refine ⟨⟨_,rfl,?_⟩,?_⟩))) ⟨0,rfl,by omega,by omega⟩ ?_
    rintro _ st ⟨u,rfl,hu,rfl⟩
    refine br (fun hL=>?_) (fun hL=>?_)
    ·have hlt:u < es.length:=by simpa [hel] using hL
     obtain ⟨x,hx⟩:∃ x,es[u]? = some x:=⟨_,List.getElem?_eq_getElem hlt⟩
     have hml:(dWds ((es.take u).map fun x=>⟨x.name,0⟩)).length=u:=by simp [dWds];omega
     have hsn:dWds ((es.take u).map fun x=>⟨x.name,0⟩) ++ [dWd ⟨x.name,0⟩]=dWds ((es.take (u + 1)).map fun x=>⟨x.name,0⟩):=by rw [List.take_add_one,hx];simp [dWds]
     refine ⟨_,⟨by omega,dEds_get hx⟩,?_⟩
     refine ⟨hml,⟨by rw [hml];simp [maxLen];omega,by rw [hml];simp;omega⟩,?_⟩
     exact ⟨kySt (.mk q z s ks) ⟨kind,at',lo,hi,most,names,es⟩ R e (u + 1),(weak_b 4 rfl (by repeat' (first | exact rfl | exact we_rfl rfl | exact we_int (nxt hlt (by omega)) | exact we_sl hsn rfl | refine ⟨_,_,rfl,?_,?_⟩)) rfl rfl rfl (by repeat' (first | exact trivial | exact we_rfl rfl | exact we_int (nxt hlt (by omega)) | exact we_sl hsn rfl | refine ⟨⟨_,rfl,?_⟩,?_⟩))),es.length - (u + 1),by omega,u + 1,rfl,by omega,rfl⟩
    ·have hge:u=es.length:=by
      have:=hL;simp [hel] at this;omega
     have ht:es.take u=es:=by rw [hge,List.take_length]
     rw [ht]
     exact ⟨_,ax,rfl⟩
   have c7:¬ q=7:=by simpa using c
   rw [if_neg c7]
   refine br (fun c=>?_) (fun c=>?_)
   ·have c:q=8:=by simpa using c
    obtain ⟨x,htg,hx,z0,z1,hbr⟩:=htag (by omega)
    rw [if_pos c]
    have hn:tagN ⟨kind,at',lo,hi,most,names,es⟩ (.mk q z s ks)=x.name:=by unfold tagN;rw [htg]
    rw [hn]
    refine ⟨_,⟨by omega,dEds_get hx⟩,?_⟩
    refine br (fun c=>?_) (fun c=>?_)
    ·have c:0 < ks.length:=by simpa [hdl] using c
     rw [if_pos c]
     exact ⟨_,ax,rfl⟩
    ·have c:¬ 0 < ks.length:=by simpa [hdl] using c
     rw [if_neg c]
     exact ⟨_,ax,rfl⟩
   have c8:¬ q=8:=by simpa using c
   rw [if_neg c8]
   refine br (fun c=>?_) (fun c=>?_)
   ·refine br (fun c=>?_) (fun c=>?_)
    ·have c:0 < ks.length:=by simpa [hdl,Val.ks] using c
     rw [if_pos c,if_pos c]
     refine br (fun _=>?_) (fun c'=>?_)
     ·exact ⟨_,ax,rfl⟩
     ·exact absurd c (by simpa [hdl,Val.ks] using c')
    ·have c:¬ 0 < ks.length:=by simpa [hdl,Val.ks] using c
     rw [if_neg c,if_neg c]
     refine br (fun c'=>?_) (fun _=>?_)
     ·exact absurd (by simpa [hdl,Val.ks] using c') c
     ·exact ⟨_,ax,rfl⟩
   ·have c:¬ q=6:=by simpa using c
    omega
abbrev zeroR:Rw:=.mk 0 0 0 emptyB [] []
theorem traw_spec {S:Sch} {ND:List Nd} {PC:List DV} (hP:PlanR S ND PC) (v:Val) (hv:v.wt≤1099511627776) (i:Int) :
  EvP Tryz.prog 89 [.pt PC 0,.v (.int .i64 i),.agg (dVal v)] (.tup [.agg (dRw (if fitV ND v i=true then rawV ND v i else zeroR)),.v (.bool (fitV ND v i))]):=by
 have hf:=tfits_spec hP v.wt v (Nat.le_refl _) hv i
 have hw:=twrite_spec hP v.wt v (Nat.le_refl _) hv i
 cases hc:fitV ND v i with
 | false=>
  rw [hc] at hf
  rw [if_neg (by simp)]
  obtain ⟨q,z,s,ks⟩:=v
  refine ev_go (P:=Tryz.prog) tt tt_ok 5000 18 [.cell 6 161,.tmp 7] Tryz.func89 rfl Tryz.ntmps89 rfl (Nat.le_of_ble_eq_true rfl) (fun E9 w9 hn9 hm9=>?_)
  refine call_p en51 (hf) ax rfl ?_
  exact ⟨_,ax,rfl⟩
 | true=>
  rw [hc] at hf
  have hw:=hw hc
  rw [if_pos rfl]
  generalize rawV ND v i=r at hw ⊢
  obtain ⟨rk,ra,rn,rs,rky,rks⟩:=r
  obtain ⟨q,z,s,ks⟩:=v
  refine ev_go (P:=Tryz.prog) tt tt_ok 5000 18 [.cell 6 161,.tmp 7] Tryz.func89 rfl Tryz.ntmps89 rfl (Nat.le_of_ble_eq_true rfl) (fun E9 w9 hn9 hm9=>?_)
  refine call_p en51 (hf) ax rfl ?_
  refine call_p en162 (hw) ax rfl ?_
  exact ⟨_,ax,rfl⟩
end Go.Proofs.YtdeaicofhmkebaaGreat
set_option maxRecDepth 100000
namespace Go.Proofs.YtdeaicofhmkebaaGreat
open Go Go.RowKit Dv Tryz
end Go.Proofs.YtdeaicofhmkebaaGreat
set_option maxRecDepth 100000
namespace Go.Proofs.YtdeaicofhmkebaaGreat
open Go Go.RowKit Dv Tryz
end Go.Proofs.YtdeaicofhmkebaaGreat
set_option maxRecDepth 100000
namespace Go.Proofs.YtdeaicofhmkebaaGreat
open Go Go.RowKit Dv Tryz
end Go.Proofs.YtdeaicofhmkebaaGreat
set_option maxRecDepth 100000
namespace Go.Proofs.YtdeaicofhmkebaaGreat
open Go Go.RowKit Dv Tryz
end Go.Proofs.YtdeaicofhmkebaaGreat
set_option maxRecDepth 100000
namespace Go.Proofs.YtdeaicofhmkebaaGreat
open Go Go.RowKit Dv Tryz
def exH (k:Int):Hd:=⟨k,0,0,0,0,[],⟨emptyB,0⟩⟩
end Go.Proofs.YtdeaicofhmkebaaGreat
set_option maxRecDepth 100000
namespace Go.Proofs.YtdeaicofhmkebaaGreat
open Go Go.RowKit Dv Tryz
end Go.Proofs.YtdeaicofhmkebaaGreat
set_option maxRecDepth 100000
namespace Go.Proofs.YtdeaicofhmkebaaGreat
open Go Go.RowKit Dv Tryz
end Go.Proofs.YtdeaicofhmkebaaGreat
set_option maxRecDepth 100000
namespace Go.Proofs.YtdeaicofhmkebaaGreat
open Go Go.RowKit Dv Tryz
end Go.Proofs.YtdeaicofhmkebaaGreat
set_option maxRecDepth 100000
namespace Go.Proofs.YtdeaicofhmkebaaGreat
open Go Go.RowKit Dv Tryz
def exS25:Sch:=⟨[⟨⟨#[97]⟩,0⟩],[],[],.mk (exH 1) .nil⟩
def exV25:Val:=.mk 1 1 emptyB []
theorem ex25_fine:(resF exS25).1=0:=by decide +kernel
theorem ex25_fit:fitV (resNds exS25) exV25 0=true:=by decide +kernel
theorem ex25_raw:rawV (resNds exS25) exV25 0 = .mk 1 0 0 trueB [] []:=by kernel_rfl
theorem lives25_spec:EvP Tryz.prog 28 [] (.v (.bool true)):=by
 have hwt:exS25.wt≤1099511627776:=by decide +kernel
 have hwv:exV25.wt≤1099511627776:=by decide +kernel
 have hb:=(build_spec exS25 hwt).mono (Ψ:=fun r _ _=>BuiltΦ exS25 r) fun _ _ _ h=>builtΦ_of hwt h
 refine ev_go (P:=Tryz.prog) tt tt_ok 5000 30 [.tmp 0] Tryz.func28 rfl Tryz.ntmps28 rfl (Nat.le_of_ble_eq_true rfl) (fun E9 w9 hn9 hm9=>?_)
 refine call_e en17 rfl hb ax (fun r hr=>?_)
 rcases hr with ⟨hr,_⟩ | ⟨_,PC,hP,rfl⟩
 ·exact (hr ex25_fine).elim
 have hr:=traw_spec hP exV25 hwv 0
 rw [if_pos ex25_fit,ex25_fit,ex25_raw] at hr
 refine call_p en89 (hr) ax rfl ?_
 exact (rfl:_=_)
end Go.Proofs.YtdeaicofhmkebaaGreat
set_option maxRecDepth 100000
namespace Go.Proofs.YtdeaicofhmkebaaGreat
open Go Go.RowKit Dv Tryz
structure Stp where
 k:Int
 n:Int
 s:ByteArray
def dStp (x:Stp):List DV:=[.v (.int .i64 x.k),.v (.int .i64 x.n),.v (.string x.s)]
def dStps (l:List Stp):List (List DV):=l.map dStp
def dPths (l:List (List Stp)):List (List DV):=l.map fun p=>[.sl 3 (dStps p) none]
theorem dStps_len (l:List Stp):(dStps l).length=l.length:=by simp [dStps]
theorem dPths_len (l:List (List Stp)):(dPths l).length=l.length:=by simp [dPths]
theorem dStps_get {l:List Stp} {e:Nat} {x:Stp} (h:l[e]? = some x):(dStps l)[e]? = some (dStp x):=by simp [dStps,h]
theorem dPths_get {l:List (List Stp)} {e:Nat} {x:List Stp} (h:l[e]? = some x):(dPths l)[e]? = some [.sl 3 (dStps x) none]:=by simp [dPths,h]
def stpE (a b:Stp):Bool:=decide (a.k=b.k) && (decide (a.n=b.n) && decide (a.s=b.s))
theorem stpE_iff {a b:Stp}:stpE a b=true↔a=b:=by
 obtain ⟨k,n,s⟩:=a
 obtain ⟨k',n',s'⟩:=b
 simp only [stpE,Bool.and_eq_true,decide_eq_true_eq,Stp.mk.injEq]
def stpA (a:Stp):Array Value:=#[.int .i64 a.k,.int .i64 a.n,.string a.s]
theorem stp_equal (a b:Stp) (w:World):(Op.equal 173 (.agg (stpA a)) (.agg (stpA b))).run Tryz.prog w = .ok (stpE a b) w:=by
 have hf:Tryz.prog.underlying 173=some (.struct (Tryz.prog.fieldsOf 173)):=by simp [Program.fieldsOf,Tryz.underlying173]
 have hf2:(Tryz.prog.fieldsOf 173).toList=[⟨ "Kind",3,0,false, "", "",0⟩,⟨ "N",3,1,false, "", "",8⟩,⟨ "Name",9,2,false, "", "",16⟩]:=by simp [Program.fieldsOf,Tryz.underlying173]
 have hs:Tryz.prog.stoodInHeld 173=false:=by kernel_rfl
 obtain ⟨d,hm⟩:∃ d,Op.maxDepth=d + 1 + 1:=⟨Op.maxDepth - 2,by decide⟩
 have q9:∀ cs:Array Value,∀ off v,cs[off]? = some v→(part 9 cs off).run Tryz.prog w = .ok v w:=fun cs off v h=>by
  simp [part,Tryz.isAgg9,h]
 have q3:∀ cs:Array Value,∀ off v,cs[off]? = some v→(part 3 cs off).run Tryz.prog w = .ok v w:=fun cs off v h=>by
  simp [part,Tryz.isAgg3,h]
 have g0:=fun x:Stp=>q3 (stpA x) 0 (.int .i64 x.k) rfl
 have g1:=fun x:Stp=>q3 (stpA x) 1 (.int .i64 x.n) rfl
 have g2:=fun x:Stp=>q9 (stpA x) 2 (.string x.s) rfl
 have r9:=fun a b=>run_equalIn_string w d 9 a b Tryz.underlying9
 have r3:=fun a b=>run_equalIn_int w d 3 .i64 .i64 a b Tryz.underlying3
 have e1:(a.s.toList == b.s.toList)=decide (a.s=b.s):=by
  rw [ByteArray.toList_eq,ByteArray.toList_eq]
  by_cases h:a.s=b.s
  ·rw [h];simp
  ·have:¬ a.s.data=b.s.data:=fun e=>h (ByteArray.ext e)
   simp [h,this]
 unfold Op.equal
 rw [hm,run_equalIn_struct w (d + 1) 173 _ _ hf hs,hf2]
 simp only [Op.eqFields,ne_eq,String.reduceEq,not_false_eq_true,if_true,Sem.run_bind,g0,g1,g2,r9,r3,Result.andThen_ok]
 by_cases h1:a.k=b.k
 ·by_cases h2:a.n=b.n
  ·by_cases h3:a.s=b.s
   ·simp [h1,h2,h3,stpE,Sem.run_pure,r3,r9,g1,g2]
   ·simp [h1,h2,h3,stpE,Sem.run_pure,r3,r9,g1,g2,e1]
  ·simp [h1,h2,stpE,Sem.run_pure,r3,g1]
 ·simp [h1,stpE,Sem.run_pure]
theorem stp_guard (o:BinOp) (ho:o = .eql∨o = .neq) (w:World) (x y:Operand) (vs vs':Array Value):(eqGuard o 173 x y (.agg vs) (.agg vs')).run Tryz.prog w = .ok () w:=by
 have h:Tryz.prog.eqGuardType Tryz.prog.depth 173=false:=by kernel_rfl
 rcases ho with rfl | rfl<;>simp [eqGuard,run_program,h]
theorem stp_neq (x y:Operand) (a b:Stp):AggCmp Tryz.prog .neq x y 173 (dStp a) (dStp b) (!stpE a b):=
 ⟨[.int .i64 a.k,.int .i64 a.n,.string a.s],[.int .i64 b.k,.int .i64 b.n,.string b.s],rfl,rfl,fun w=>⟨stp_guard _ (.inr rfl) w x y _ _,by
  show ((do let r ← Op.equal 173 (.agg (stpA a)) (.agg (stpA b));pure (Value.bool !r)):Sem Value).run Tryz.prog w=_
  simp only [Sem.run_bind,stp_equal,Result.andThen_ok,Sem.run_pure]⟩⟩
theorem stp_eql (x y:Operand) (a b:Stp):AggCmp Tryz.prog .eql x y 173 (dStp a) (dStp b) (stpE a b):=
 ⟨[.int .i64 a.k,.int .i64 a.n,.string a.s],[.int .i64 b.k,.int .i64 b.n,.string b.s],rfl,rfl,fun w=>⟨stp_guard _ (.inl rfl) w x y _ _,by
  show ((do let r ← Op.equal 173 (.agg (stpA a)) (.agg (stpA b));pure (Value.bool r)):Sem Value).run Tryz.prog w=_
  simp only [Sem.run_bind,stp_equal,Result.andThen_ok,Sem.run_pure]⟩⟩
def begF:List Stp→List Stp→Bool
 | _,[]=>true
 | [],_ :: _=>false
 | a :: r,b :: q=>stpE a b && begF r q
theorem begF_at {a b:List Stp} {e:Nat} {y:Stp} (h:b[e]? = some y):begF (a.drop e) (b.drop e)=match a[e]? with | none=>false | some x=>stpE x y && begF (a.drop (e + 1)) (b.drop (e + 1)):=by
 have hb:b.drop e=y :: b.drop (e + 1):=by
  obtain ⟨h1,h2⟩:=List.getElem?_eq_some_iff.1 h
  rw [List.drop_eq_getElem_cons h1,h2]
 rw [hb]
 cases ha:a[e]? with
 | none=>
  rw [List.drop_eq_nil_of_le (List.getElem?_eq_none_iff.1 ha)];all_goals rfl
 | some x=>
  obtain ⟨h1,h2⟩:=List.getElem?_eq_some_iff.1 ha
  rw [List.drop_eq_getElem_cons h1,h2];all_goals rfl
abbrev bg09St (a b:List Stp) (e:Nat):St:=⟨[(0,⟨[],.sl 3 (dStps a) none⟩),(1,⟨[],.sl 3 (dStps b) none⟩),(5,⟨[],.v (.int .i64 e)⟩)],[],[]⟩
theorem begins09_spec (a b:List Stp) (hl:b.length≤1099511627776):EvP Tryz.prog 52 [.sl 3 (dStps a) none,.sl 3 (dStps b) none] (.v (.bool (begF a b))):=by
 have hda:=dStps_len a
 have hdb:=dStps_len b
 refine ev_go (P:=Tryz.prog) tt tt_ok 5000 27 [.tmp 4] Tryz.func52 rfl Tryz.ntmps52 rfl (Nat.le_of_ble_eq_true rfl) (fun E9 w9 hn9 hm9=>?_)
 refine loop_i (fun j st=>∃ e:Nat,st=bg09St a b e∧e≤b.length∧begF a b=begF (a.drop e) (b.drop e)∧j=b.length - e) b.length (bg09St a b 0) (weak_mk ⟨_,rfl⟩ wA rfl rfl rfl wB) ⟨0,rfl,by omega,rfl,by omega⟩ ?_
 rintro j st ⟨e,rfl,he,hb,rfl⟩
 refine br (fun hL=>?_) (fun hL=>?_)
 ·have hlt:e < b.length:=by have:=hL;simp [hdb] at this;exact this
  obtain ⟨y,hy⟩:∃ y,b[e]? = some y:=⟨_,List.getElem?_eq_getElem hlt⟩
  rw [begF_at hy] at hb
  refine drawG_i (fun _=>false) mo (by decide +kernel) ?_
  refine br (fun g=>?_) (fun g=>?_)
  ·have g:e < a.length:=by have:=g;simp [hda] at this;omega
   obtain ⟨x,hx⟩:∃ x,a[e]? = some x:=⟨_,List.getElem?_eq_getElem g⟩
   rw [hx] at hb
   simp only at hb
   refine ⟨_,⟨by omega,dStps_get hx⟩,_,⟨by omega,dStps_get hy⟩,_,stp_neq _ _ x y,?_⟩
   cases hc:stpE x y with
   | true=>
    rw [hc] at hb
    exact ⟨bg09St a b (e + 1),(weak_mk ⟨_,rfl⟩ wA rfl rfl rfl (by repeat' (first | exact trivial | exact we_rfl rfl | exact we_int (nxt hlt (by omega)) | refine ⟨⟨_,rfl,?_⟩,?_⟩))),b.length - (e + 1),by omega,e + 1,rfl,by omega,by simpa using hb,rfl⟩
   | false=>
    rw [hc] at hb
    exact congrArg (fun b=>DV.v (.bool b)) hb.symm
  ·have g:a[e]? = none:=List.getElem?_eq_none (by have:=g;simp [hda] at this;omega)
   rw [g] at hb
   exact congrArg (fun b=>DV.v (.bool b)) hb.symm
 ·have hge:e=b.length:=by have:=hL;simp [hdb] at this;omega
  subst hge
  rw [List.drop_length] at hb
  have:begF (a.drop b.length) []=true:=by cases a.drop b.length<;>rfl
  rw [this] at hb
  exact congrArg (fun b=>DV.v (.bool b)) hb.symm
def stpR (d:Nd) (v:Val) (j:Nat):Stp:=
 if d.kind=5 then ⟨2,j,emptyB⟩
 else if d.kind=6 then ⟨4,0,emptyB⟩
 else if d.kind=7 then ⟨1,0,match d.edges[j]? with | some e=>e.name | none=>emptyB⟩
 else ⟨5,0,match d.edges[v.n.toNat]? with | some e=>e.name | none=>emptyB⟩
end Go.Proofs.YtdeaicofhmkebaaGreat
set_option maxRecDepth 100000
namespace Go.Proofs.YtdeaicofhmkebaaGreat
open Go Go.RowKit Dv Tryz
mutual
def pathV (ND:List Nd):Val→Int→List Stp→List (List Stp)
 | .mk q z s ks,i,p=>p :: match nodeA ND i with
  | none=>[]
  | some d=>pathVs ND ks (kidsL d (.mk q z s ks)) (fun e=>p ++ [stpR d (.mk q z s ks) e]) 0
def pathVs (ND:List Nd):List Val→List Int→(Nat→List Stp)→Nat→List (List Stp)
 | v :: r,i :: l,f,e=>pathV ND v i (f e) ++ pathVs ND r l f (e + 1)
 | _,_,_,_=>[]
end
theorem pathVs_snoc {ND:List Nd} {f:Nat→List Stp}:∀ {ks:List Val} {l:List Int} {e b:Nat} {x:Val} {i:Int},ks[e]? = some x→l[e]? = some i→pathVs ND (ks.take (e + 1)) (l.take (e + 1)) f b=pathVs ND (ks.take e) (l.take e) f b ++ pathV ND x i (f (b + e))
 | [],_,e,b,x,i,h,_=>by simp at h
 | _ :: _,[],e,b,x,i,_,h=>by simp at h
 | v :: r,j :: l,0,b,x,i,h1,h2=>by
  simp only [List.getElem?_cons_zero,Option.some.injEq] at h1 h2
  subst h1 h2
  simp [pathVs]
 | v :: r,j :: l,e + 1,b,x,i,h1,h2=>by
  simp only [List.getElem?_cons_succ] at h1 h2
  simp only [List.take_succ_cons,pathVs]
  rw [pathVs_snoc h1 h2,List.append_assoc,Nat.add_right_comm,Nat.add_assoc]
mutual
theorem pathV_len {ND:List Nd}:∀ (v:Val) (i:Int) (p:List Stp),(pathV ND v i p).length≤cntV v
 | .mk q z s ks,i,p=>by
  rw [pathV,cntV,List.length_cons]
  split
  ·simp
  ·rename_i d _
   have:=pathVs_len (ND:=ND) ks (kidsL d (.mk q z s ks)) (fun e=>p ++ [stpR d (.mk q z s ks) e]) 0
   omega
theorem pathVs_len {ND:List Nd}:∀ (ks:List Val) (l:List Int) (f:Nat→List Stp) (e:Nat),(pathVs ND ks l f e).length≤cntVs ks
 | v :: r,i :: l,f,e=>by
  have h1:=pathV_len (ND:=ND) v i (f e)
  have h2:=pathVs_len (ND:=ND) r l f (e + 1)
  rw [pathVs,cntVs,List.length_append];omega
 | [],_,_,_=>by simp [pathVs]
 | _ :: _,[],_,_=>by simp [pathVs]
end
mutual
theorem pathV_sz {ND:List Nd}:∀ (v:Val) (i:Int) (p:List Stp),∀ x∈pathV ND v i p,x.length≤p.length + v.wt
 | .mk q z s ks,i,p,x,h=>by
  rw [pathV] at h
  rw [Val.wt]
  rcases List.mem_cons.1 h with h | h
  ·rw [h];omega
  ·split at h
   ·cases h
   ·rename_i d _
    have:=pathVs_sz (ND:=ND) ks (kidsL d (.mk q z s ks)) (fun e=>p ++ [stpR d (.mk q z s ks) e]) 0 (p.length + 1) (fun e=>by simp) x h
    omega
theorem pathVs_sz {ND:List Nd}:∀ (ks:List Val) (l:List Int) (f:Nat→List Stp) (e n:Nat),(∀ e,(f e).length≤n)→∀ x∈pathVs ND ks l f e,x.length≤n + wtVs ks
 | v :: r,i :: l,f,e,n,hf,x,h=>by
  rw [pathVs] at h
  rw [wtVs]
  rcases List.mem_append.1 h with h | h
  ·have:=pathV_sz (ND:=ND) v i (f e) x h
   have:=hf e
   omega
  ·have:=pathVs_sz (ND:=ND) r l f (e + 1) n hf x h
   omega
 | [],_,_,_,_,_,x,h=>by simp [pathVs] at h
 | _ :: _,[],_,_,_,_,x,h=>by simp [pathVs] at h
end
def stpL (d:Nd) (v:Val):List Stp:=(List.range v.ks.length).map (stpR d v)
theorem stpL_snoc (d:Nd) (v:Val) (e:Nat):dStps ((List.range e).map (stpR d v)) ++ [dStp (stpR d v e)]=dStps ((List.range (e + 1)).map (stpR d v)):=by
 rw [List.range_succ];simp [dStps]
abbrev stsSt (d:Nd) (v:Val) (q e:Nat):St:=
 ⟨[(2,⟨[],.loc 0 0⟩),(3,⟨[],.loc 1 0⟩),(5,⟨[],.sl 3 (dStps ((List.range e).map (stpR d v))) (some 0)⟩),(9,⟨[],.v (.int .i64 (dVals v.ks).length)⟩),(10,⟨[],.v (.int .i64 e)⟩)],[dNd d,dVal v],[⟨q,173,3,none⟩]⟩
theorem steps_spec (d:Nd) (v:Val) (hv:v.wt≤1099511627776) (hk:v.k=d.kind) (h5:5≤d.kind) (hk8:d.kind≤8) (h7:d.kind=7→v.ks.length=d.edges.length) (h8:d.kind=8→0≤v.n∧v.n < d.edges.length) :
  EvP Tryz.prog 168 [.agg (dNd d),.agg (dVal v)] (.sl 3 (dStps (stpL d v)) none):=by
 obtain ⟨kind,at',lo,hi,most,names,es⟩:=d
 obtain ⟨q,z,s,ks⟩:=v
 have hel:=dEds_len es
 have hdl:=dVals_len ks
 have hkl:=wtVs_len ks
 rw [Val.wt] at hv
 simp only [Val.k,Val.n,Val.ks] at hk h5 hk8 h7 h8
 subst hk
 refine ev_go (P:=Tryz.prog) tt tt_ok 5000 55 [.tmp 4] Tryz.func168 rfl Tryz.ntmps168 rfl (Nat.le_of_ble_eq_true rfl) (fun E9 w9 hn9 hm9=>?_)
 refine loop_i (fun j st=>∃ e:Nat,st=stsSt ⟨q,at',lo,hi,most,names,es⟩ (.mk q z s ks) e e∧e≤ks.length∧j=ks.length - e) ks.length (stsSt ⟨q,at',lo,hi,most,names,es⟩ (.mk q z s ks) 0 0) (weak_bt 2 ⟨0,173,3,none⟩ rfl rfl rfl (by repeat' (first | exact rfl | exact we_rfl rfl | exact we_tok (Nat.le_refl _) rfl | exact we_tok (Nat.le_refl _) rfl | refine ⟨_,_,rfl,?_,?_⟩)) rfl rfl (by repeat' (first | exact trivial | exact we_rfl rfl | exact we_tok (Nat.le_refl _) rfl | refine ⟨⟨_,rfl,?_⟩,?_⟩))) ⟨0,rfl,by omega,by omega⟩ ?_
 rintro j st ⟨e,rfl,he,rfl⟩
 refine br (fun hL=>?_) (fun hL=>?_)
 ·have hlt:e < ks.length:=by simpa [hdl,Val.ks] using hL
  have hml:(dStps ((List.range e).map (stpR ⟨q,at',lo,hi,most,names,es⟩ (.mk q z s ks)))).length=e:=by simp [dStps]
  have hsn:=stpL_snoc ⟨q,at',lo,hi,most,names,es⟩ (.mk q z s ks) e
  have hS:stpR ⟨q,at',lo,hi,most,names,es⟩ (.mk q z s ks) e=if q=5 then ⟨2,e,emptyB⟩
   else if q=6 then ⟨4,0,emptyB⟩
   else if q=7 then ⟨1,0,match es[e]? with | some e=>e.name | none=>emptyB⟩
   else ⟨5,0,match es[z.toNat]? with | some e=>e.name | none=>emptyB⟩:=rfl
  refine br (fun c=>?_) (fun c=>?_)
  ·have c:q=7:=by simpa using c
   obtain ⟨x,hx⟩:∃ x,es[e]? = some x:=⟨_,List.getElem?_eq_getElem (by have:=h7 c;omega)⟩
   rw [if_neg (by omega),if_neg (by omega),if_pos c] at hS
   simp only [hx] at hS
   rw [hS] at hsn
   refine ⟨_,⟨by omega,dEds_get hx⟩,?_⟩
   refine ⟨hml,⟨by rw [hml];simp [maxLen];omega,by rw [hml];simp;omega⟩,?_⟩
   exact ⟨stsSt ⟨q,at',lo,hi,most,names,es⟩ (.mk q z s ks) (e + 1) (e + 1),(weak_b 2 rfl (by repeat' (first | exact rfl | exact we_rfl rfl | exact we_int (nxt hlt (by omega)) | exact we_sl hsn rfl | refine ⟨_,_,rfl,?_,?_⟩)) rfl rfl rfl (by repeat' (first | exact trivial | exact we_rfl rfl | exact we_int (nxt hlt (by omega)) | exact we_sl hsn rfl | refine ⟨⟨_,rfl,?_⟩,?_⟩))),ks.length - (e + 1),by omega,e + 1,rfl,by omega,rfl⟩
  have c7:¬ q=7:=by simpa using c
  refine br (fun c=>?_) (fun c=>?_)
  ·have c:q=5:=by simpa using c
   rw [if_pos c] at hS
   rw [hS] at hsn
   refine ⟨hml,⟨by rw [hml];simp [maxLen];omega,by rw [hml];simp;omega⟩,?_⟩
   exact ⟨stsSt ⟨q,at',lo,hi,most,names,es⟩ (.mk q z s ks) (e + 1) (e + 1),(weak_b 2 rfl (by repeat' (first | exact rfl | exact we_rfl rfl | exact we_int (nxt hlt (by omega)) | exact we_sl hsn rfl | refine ⟨_,_,rfl,?_,?_⟩)) rfl rfl rfl (by repeat' (first | exact trivial | exact we_rfl rfl | exact we_int (nxt hlt (by omega)) | exact we_sl hsn rfl | refine ⟨⟨_,rfl,?_⟩,?_⟩))),ks.length - (e + 1),by omega,e + 1,rfl,by omega,rfl⟩
  have c5:¬ q=5:=by simpa using c
  refine br (fun c=>?_) (fun c=>?_)
  ·have c:q=6:=by simpa using c
   rw [if_neg c5,if_pos c] at hS
   rw [hS] at hsn
   refine ⟨hml,⟨by rw [hml];simp [maxLen];omega,by rw [hml];simp;omega⟩,?_⟩
   exact ⟨stsSt ⟨q,at',lo,hi,most,names,es⟩ (.mk q z s ks) (e + 1) (e + 1),(weak_b 2 rfl (by repeat' (first | exact rfl | exact we_rfl rfl | exact we_int (nxt hlt (by omega)) | exact we_sl hsn rfl | refine ⟨_,_,rfl,?_,?_⟩)) rfl rfl rfl (by repeat' (first | exact trivial | exact we_rfl rfl | exact we_int (nxt hlt (by omega)) | exact we_sl hsn rfl | refine ⟨⟨_,rfl,?_⟩,?_⟩))),ks.length - (e + 1),by omega,e + 1,rfl,by omega,rfl⟩
  have c6:¬ q=6:=by simpa using c
  refine br (fun c=>?_) (fun c=>?_)
  ·have c:q=8:=by simpa using c
   obtain ⟨z0,z1⟩:=h8 c
   obtain ⟨x,hx⟩:∃ x,es[z.toNat]? = some x:=⟨_,List.getElem?_eq_getElem (by omega)⟩
   rw [if_neg c5,if_neg c6,if_neg c7] at hS
   simp only [hx] at hS
   rw [hS] at hsn
   refine ⟨_,⟨by omega,dEds_get hx⟩,?_⟩
   refine ⟨hml,⟨by rw [hml];simp [maxLen];omega,by rw [hml];simp;omega⟩,?_⟩
   exact ⟨stsSt ⟨q,at',lo,hi,most,names,es⟩ (.mk q z s ks) (e + 1) (e + 1),(weak_b 2 rfl (by repeat' (first | exact rfl | exact we_rfl rfl | exact we_int (nxt hlt (by omega)) | exact we_sl hsn rfl | refine ⟨_,_,rfl,?_,?_⟩)) rfl rfl rfl (by repeat' (first | exact trivial | exact we_rfl rfl | exact we_int (nxt hlt (by omega)) | exact we_sl hsn rfl | refine ⟨⟨_,rfl,?_⟩,?_⟩))),ks.length - (e + 1),by omega,e + 1,rfl,by omega,rfl⟩
  ·have c:¬ q=8:=by simpa using c
   omega
 ·have hge:e=ks.length:=by
   have:=hL;simp [hdl,Val.ks] at this;omega
  rw [hge]
  exact ⟨_,ax,rfl⟩
end Go.Proofs.YtdeaicofhmkebaaGreat
set_option maxRecDepth 100000
namespace Go.Proofs.YtdeaicofhmkebaaGreat
open Go Go.RowKit Dv Tryz
def kidI (d:Nd) (v:Val) (s:Stp):Option Nat:=(List.range v.ks.length).find? fun e=>stpE (stpR d v e) s
def stepV (ND:List Nd) (v:Val) (i:Int) (s:Stp):Option (Nat × Val × Int):=
 match nodeA ND i with
 | none=>none
 | some d=>match kidI d v s with
  | none=>none
  | some e=>match v.ks[e]?,(kidsL d v)[e]? with
   | some x,some j=>some (e,x,j)
   | _,_=>none
def getV (ND:List Nd):List Stp→Val→Int→Option (Val × Int)
 | [],v,i=>some (v,i)
 | s :: p,v,i=>match stepV ND v i s with
  | none=>none
  | some (_,x,j)=>getV ND p x j
def vset (v:Val) (e:Nat) (y:Val):Val:=.mk v.k v.n v.s (v.ks.set e y)
def setV (ND:List Nd):List Stp→Val→Int→Val→Val
 | [],_,_,x=>x
 | s :: p,v,i,x=>match stepV ND v i s with
  | none=>v
  | some (e,y,j)=>vset v e (setV ND p y j x)
theorem find_some {f:Nat→Bool} {n e:Nat} (h:(List.range n).find? f=some e):e < n∧f e=true:=by
 have h1:=List.find?_some h
 have h2:=List.mem_of_find?_eq_some h
 exact ⟨by simpa using h2,h1⟩
theorem stepV_some {ND:List Nd} {v:Val} {i:Int} {s:Stp} {e:Nat} {x:Val} {j:Int} (h:stepV ND v i s=some (e,x,j)) :
  ∃ d,nodeA ND i=some d∧kidI d v s=some e∧v.ks[e]? = some x∧(kidsL d v)[e]? = some j:=by
 unfold stepV at h
 split at h
 ·cases h
 ·rename_i d hd
  split at h
  ·cases h
  ·rename_i e' he
   split at h
   ·rename_i x' j' hx hj
    simp only [Option.some.injEq,Prod.mk.injEq] at h
    obtain ⟨rfl,rfl,rfl⟩:=h
    exact ⟨d,hd,he,hx,hj⟩
   ·cases h
theorem stepV_of {ND:List Nd} {v:Val} {i:Int} {s:Stp} {e:Nat} {x:Val} {j:Int} {d:Nd} (h1:nodeA ND i=some d) (h2:kidI d v s=some e) (h3:v.ks[e]? = some x) (h4:(kidsL d v)[e]? = some j):stepV ND v i s=some (e,x,j):=by
 unfold stepV
 rw [h1];simp only
 rw [h2];simp only
 rw [h3,h4]
def kidsM (n:Nd) (k z:Int) (m:Nat):List Int:=
 if n.kind=5∨n.kind=6 then List.replicate m (to0 n)
 else if n.kind=7 then n.edges.map Ed.to
 else match (if k=8∧0≤z∧z < n.edges.length then n.edges[z.toNat]? else none) with | none=>[] | some e=>if e.bare=true then [] else [e.to]
def kidsC (n:Nd) (k z:Int) (s:ByteArray) (m:Nat):Bool:=
 if n.kind=5∨n.kind=6 then (decide (s=emptyB) && (decide (z=0) || decide (k=8))) && decide (k=n.kind) && decide ((m:Int)≤if n.kind=6 then 1 else n.most)
 else if n.kind=7 then (decide (s=emptyB) && (decide (z=0) || decide (k=8))) && decide (k=7) && decide (n.edges.length=m)
 else match (if k=8∧0≤z∧z < n.edges.length then n.edges[z.toNat]? else none) with | none=>false | some _=>(decide (s=emptyB) && (decide (z=0) || decide (k=8))) && decide ((kidsM n k z m).length=m)
theorem vset_kids (d:Nd) (v:Val) (e:Nat) (y:Val):kidsL d (vset v e y)=kidsL d v:=by
 obtain ⟨k,n,s,ks⟩:=v
 show kidsM d k n (ks.set e y).length=kidsM d k n ks.length
 rw [List.length_set]
theorem vset_kidsB (d:Nd) (v:Val) (e:Nat) (y:Val):kidsB d (vset v e y)=kidsB d v:=by
 obtain ⟨k,n,s,ks⟩:=v
 show kidsC d k n s (ks.set e y).length=kidsC d k n s ks.length
 rw [List.length_set]
theorem vset_kid (d:Nd) (v:Val) (e:Nat) (y:Val) (s:Stp):kidI d (vset v e y) s=kidI d v s:=by
 obtain ⟨k,n,s,ks⟩:=v
 simp [kidI,vset,Val.k,Val.n,Val.s,Val.ks,stpR]
theorem stepV_set {ND:List Nd} {v:Val} {i:Int} {s:Stp} {e e':Nat} {x y:Val} {j:Int} (h:stepV ND v i s=some (e,x,j)):stepV ND (vset v e' y) i s=some (e,if e=e' then y else x,j):=by
 obtain ⟨d,h1,h2,h3,h4⟩:=stepV_some h
 refine stepV_of h1 (by rw [vset_kid];exact h2) ?_ (by rw [vset_kids];exact h4)
 have hlt:=(List.getElem?_eq_some_iff.1 h3).1
 show (v.ks.set e' y)[e]? = _
 rw [List.getElem?_set]
 by_cases he:e=e'
 ·subst he
  simp [hlt]
 ·rw [if_neg (Ne.symm he),if_neg he,h3]
theorem fitVs_set {ND:List Nd} {y:Val} {j:Int} (hy:fitV ND y j=true):∀ {ks:List Val} {l:List Int} {e:Nat},fitVs ND ks l=true→l[e]? = some j→fitVs ND (ks.set e y) l=true
 | [],l,e,_,_=>by simp [fitVs]
 | v :: r,[],e,_,h=>by simp at h
 | v :: r,i :: l,0,h,hj=>by
  simp only [List.getElem?_cons_zero,Option.some.injEq] at hj
  subst hj
  rw [fitVs,Bool.and_eq_true] at h
  rw [List.set_cons_zero,fitVs,hy,h.2];all_goals rfl
 | v :: r,i :: l,e + 1,h,hj=>by
  simp only [List.getElem?_cons_succ] at hj
  rw [fitVs,Bool.and_eq_true] at h
  rw [List.set_cons_succ,fitVs,h.1,fitVs_set hy h.2 hj];all_goals rfl
section
variable {L:Nat} {ND:List Nd} (hok:∀ n∈ND,NdOK L ND.length n)
include hok
theorem kind5_of {v:Val} {i:Int} {d:Nd} (hF:FitF ND v i d) {e:Nat} {x:Val} (hx:v.ks[e]? = some x):5≤d.kind∧d.kind≤8:=by
 have hN:=hok d (List.mem_of_getElem? (nodeA_some hF.node).2)
 refine ⟨?_,hN.k8⟩
 have h1:=hN.k1
 rcases Int.lt_or_le d.kind 5 with h | h
 ·rw [hF.leaf h] at hx;simp at hx
 ·exact h
theorem step_fit {v:Val} {i:Int} (hf:fitV ND v i=true) {s:Stp} {e:Nat} {x:Val} {j:Int} (h:stepV ND v i s=some (e,x,j)):fitV ND x j=true:=by
 obtain ⟨d,hF⟩:=fit_facts hok hf
 obtain ⟨d',h1,h2,h3,h4⟩:=stepV_some h
 rw [hF.node] at h1
 cases h1
 exact fitVs_at (hF.kids (kind5_of hok hF h3).1).2 h3 h4
theorem vset_fit {v:Val} {i:Int} (hf:fitV ND v i=true) {s:Stp} {e:Nat} {x y:Val} {j:Int} (h:stepV ND v i s=some (e,x,j)) (hy:fitV ND y j=true):fitV ND (vset v e y) i=true:=by
 obtain ⟨d,hF⟩:=fit_facts hok hf
 obtain ⟨d',h1,h2,h3,h4⟩:=stepV_some h
 rw [hF.node] at h1
 cases h1
 have h5:=kind5_of hok hF h3
 have hk:=hF.kids h5.1
 have hB:kidsB d v=true:=by
  obtain ⟨k,n,s,ks⟩:=v
  rw [fitV,hF.node] at hf
  simp only at hf
  rw [if_neg (by omega),Bool.and_eq_true] at hf
  exact hf.1
 have hn:=hF.node
 have e1:=vset_kids d v e y
 have e2:=vset_kidsB d v e y
 obtain ⟨k,n,s,ks⟩:=v
 unfold vset at e1 e2 ⊢
 rw [fitV,hn]
 simp only
 rw [if_neg (by omega),e1,e2,hB]
 simp only [Val.ks,Bool.true_and] at hk ⊢
 exact fitVs_set hy hk.2 h4
theorem getV_fit:∀ (p:List Stp) {v:Val} {i:Int},fitV ND v i=true→∀ {x:Val} {j:Int},getV ND p v i=some (x,j)→fitV ND x j=true
 | [],v,i,hf,x,j,h=>by
  simp only [getV,Option.some.injEq,Prod.mk.injEq] at h
  obtain ⟨rfl,rfl⟩:=h
  exact hf
 | s :: p,v,i,hf,x,j,h=>by
  rw [getV] at h
  split at h
  ·cases h
  ·rename_i e y k hs
   exact getV_fit p (step_fit hok hf hs) h
theorem setV_fit:∀ (p:List Stp) {v:Val} {i:Int},fitV ND v i=true→∀ {x y:Val} {j:Int},getV ND p v i=some (x,j)→fitV ND y j=true→fitV ND (setV ND p v i y) i=true
 | [],v,i,hf,x,y,j,h,hy=>by
  simp only [getV,Option.some.injEq,Prod.mk.injEq] at h
  obtain ⟨rfl,rfl⟩:=h
  exact hy
 | s :: p,v,i,hf,x,y,j,h,hy=>by
  rw [getV] at h
  split at h
  ·cases h
  ·rename_i e z k hs
   rw [setV,hs]
   exact vset_fit hok hf hs (setV_fit p (step_fit hok hf hs) h hy)
end
theorem get_setV {ND:List Nd}:∀ (p:List Stp) {v:Val} {i:Int} {x y:Val} {j:Int},getV ND p v i=some (x,j)→getV ND p (setV ND p v i y) i=some (y,j)
 | [],v,i,x,y,j,h=>by
  simp only [getV,Option.some.injEq,Prod.mk.injEq] at h
  obtain ⟨rfl,rfl⟩:=h
  rfl
 | s :: p,v,i,x,y,j,h=>by
  rw [getV] at h
  split at h
  ·cases h
  ·rename_i e z k hs
   rw [setV,hs]
   simp only
   rw [getV,stepV_set hs,if_pos rfl]
   exact get_setV p h
theorem vset_back {v:Val} {e:Nat} {x y:Val} (h:v.ks[e]? = some x):vset (vset v e y) e x=v:=by
 obtain ⟨k,n,s,ks⟩:=v
 simp only [vset,Val.k,Val.n,Val.s,Val.ks,List.set_set,Val.mk.injEq,true_and] at h ⊢
 exact List.ext_getElem? fun i=>by
  rw [List.getElem?_set]
  by_cases hi:e=i
  ·subst hi
   rw [if_pos rfl,h]
   simp [(List.getElem?_eq_some_iff.1 h).1]
  ·rw [if_neg hi]
theorem set_back {ND:List Nd}:∀ (p:List Stp) {v:Val} {i:Int} {x y:Val} {j:Int},getV ND p v i=some (x,j)→setV ND p (setV ND p v i y) i x=v
 | [],v,i,x,y,j,h=>by
  simp only [getV,Option.some.injEq,Prod.mk.injEq] at h
  obtain ⟨rfl,rfl⟩:=h
  rfl
 | s :: p,v,i,x,y,j,h=>by
  rw [getV] at h
  split at h
  ·cases h
  ·rename_i e z k hs
   have e1:setV ND (s :: p) v i y=vset v e (setV ND p z k y):=by rw [setV,hs]
   rw [e1,setV,stepV_set hs,if_pos rfl]
   simp only
   rw [set_back p h]
   obtain ⟨d,_,_,h3,_⟩:=stepV_some hs
   exact vset_back h3
theorem get_other {ND:List Nd} {y:Val}:∀ (p q:List Stp) {v:Val} {i:Int} {x a:Val} {j k:Int},getV ND p v i=some (x,j)→getV ND q v i=some (a,k)→begF q p=false→begF p q=false→getV ND q (setV ND p v i y) i=some (a,k)
 | [],q,v,i,x,a,j,k,_,_,h1,_=>by simp [begF] at h1
 | s :: p,[],v,i,x,a,j,k,_,_,_,h2=>by simp [begF] at h2
 | s :: p,t :: q,v,i,x,a,j,k,hp,hq,h1,h2=>by
  rw [getV] at hp hq
  split at hp
  ·cases hp
  ·rename_i e z m hs
   split at hq
   ·cases hq
   ·rename_i e' z' m' ht
    rw [setV,hs]
    simp only
    rw [getV,stepV_set ht]
    simp only
    by_cases hst:s=t
    ·subst hst
     rw [hs] at ht
     simp only [Option.some.injEq,Prod.mk.injEq] at ht
     obtain ⟨rfl,rfl,rfl⟩:=ht
     rw [if_pos rfl]
     have hr:stpE s s=true:=stpE_iff.2 rfl
     simp only [begF,hr,Bool.true_and] at h1 h2
     exact get_other p q hp hq h1 h2
    ·obtain ⟨d,g1,g2,_,_⟩:=stepV_some hs
     obtain ⟨d',g3,g4,_,_⟩:=stepV_some ht
     rw [g1] at g3
     cases g3
     have hne:¬ e'=e:=by
      rintro rfl
      exact hst ((stpE_iff.1 (find_some g2).2).symm.trans (stpE_iff.1 (find_some g4).2))
     rw [if_neg hne]
     exact hq
theorem wtVs_set:∀ {l:List Val} {e:Nat} {x y:Val},l[e]? = some x→wtVs (l.set e y) + x.wt=wtVs l + y.wt
 | [],e,x,y,h=>by simp at h
 | v :: r,0,x,y,h=>by
  simp only [List.getElem?_cons_zero,Option.some.injEq] at h
  subst h
  simp only [List.set_cons_zero,wtVs];omega
 | v :: r,e + 1,x,y,h=>by
  simp only [List.getElem?_cons_succ] at h
  have:=wtVs_set (y:=y) h
  simp only [List.set_cons_succ,wtVs];omega
theorem Val.wt_eq (v:Val):v.wt=64 + v.s.size + wtVs v.ks:=by cases v;rw [Val.wt];all_goals rfl
theorem getV_wt {ND:List Nd}:∀ (p:List Stp) {v:Val} {i:Int} {x:Val} {j:Int},getV ND p v i=some (x,j)→x.wt≤v.wt
 | [],v,i,x,j,h=>by
  simp only [getV,Option.some.injEq,Prod.mk.injEq] at h
  obtain ⟨rfl,rfl⟩:=h
  exact Nat.le_refl _
 | s :: p,v,i,x,j,h=>by
  rw [getV] at h
  split at h
  ·cases h
  ·rename_i e z k hs
   obtain ⟨d,_,_,h3,_⟩:=stepV_some hs
   have h1:=getV_wt p h
   have h2:=wtVs_mem (List.mem_of_getElem? h3)
   have:=v.wt_eq
   omega
theorem setV_wt {ND:List Nd} {y:Val}:∀ (p:List Stp) {v:Val} {i:Int} {x:Val} {j:Int},getV ND p v i=some (x,j)→(setV ND p v i y).wt≤v.wt + y.wt
 | [],v,i,x,j,h=>by rw [setV];omega
 | s :: p,v,i,x,j,h=>by
  rw [getV] at h
  split at h
  ·cases h
  ·rename_i e z k hs
   obtain ⟨d,_,_,h3,_⟩:=stepV_some hs
   have h1:=setV_wt (y:=y) p h
   have h2:=wtVs_set (y:=setV ND p z k y) h3
   have h4:=v.wt_eq
   have e1:setV ND (s :: p) v i y=vset v e (setV ND p z k y):=by rw [setV,hs]
   have h5:(vset v e (setV ND p z k y)).wt=64 + v.s.size + wtVs (v.ks.set e (setV ND p z k y)):=by rw [vset,Val.wt]
   rw [e1,h5]
   omega
section
variable {L:Nat} {ND:List Nd} (hok:∀ n∈ND,NdOK L ND.length n)
include hok
theorem stp_inj {v:Val} {i:Int} {d:Nd} (hF:FitF ND v i d) {e e':Nat} (he:e < v.ks.length) (he':e' < v.ks.length) (h:stpR d v e=stpR d v e'):e=e':=by
 obtain ⟨x,hx⟩:∃ x,v.ks[e]? = some x:=⟨_,List.getElem?_eq_getElem he⟩
 obtain ⟨h5,h8⟩:=kind5_of hok hF hx
 have hN:=hok d (List.mem_of_getElem? (nodeA_some hF.node).2)
 have hl:=(hF.kids h5).1
 unfold stpR at h
 by_cases c5:d.kind=5
 ·rw [if_pos c5,if_pos c5] at h
  simp only [Stp.mk.injEq] at h
  omega
 rw [if_neg c5,if_neg c5] at h
 by_cases c6:d.kind=6
 ·have:=hF.opt c6
  omega
 rw [if_neg c6,if_neg c6] at h
 by_cases c7:d.kind=7
 ·rw [if_pos c7,if_pos c7] at h
  have hkl:(kidsL d v).length=d.edges.length:=by unfold kidsL;rw [if_neg (by omega),if_pos c7,List.length_map]
  have hn:=(hN.many (.inl c7)).2.2.1
  simp only [Stp.mk.injEq,true_and] at h
  have g1:d.edges[e]? = some (d.edges[e]'(by omega)):=List.getElem?_eq_getElem (by omega)
  have g2:d.edges[e']? = some (d.edges[e']'(by omega)):=List.getElem?_eq_getElem (by omega)
  rw [g1,g2] at h
  exact (List.getElem?_inj (l:=d.edges.map Ed.name) (by rw [List.length_map];omega) hn).1 (by rw [List.getElem?_map,List.getElem?_map,g1,g2];exact congrArg some h)
 ·have hkl:(kidsL d v).length≤1:=by
   unfold kidsL
   rw [if_neg (by omega),if_neg c7]
   split
   ·simp
   ·split<;>simp
  omega
theorem kidI_self {v:Val} {i:Int} {d:Nd} (hF:FitF ND v i d) {e:Nat} (he:e < v.ks.length):kidI d v (stpR d v e)=some e:=by
 cases h:kidI d v (stpR d v e) with
 | none=>
  unfold kidI at h
  rw [List.find?_eq_none] at h
  have:=h e (by simpa using he)
  exact absurd (stpE_iff.2 rfl) this
 | some e'=>
  obtain ⟨h1,h2⟩:=find_some h
  rw [stp_inj hok hF h1 he (stpE_iff.1 h2)]
omit hok in
theorem pathVs_mem {x:List Stp}:∀ {ks:List Val} {l:List Int} {f:Nat→List Stp} {b:Nat},x∈pathVs ND ks l f b→∃ e v j,ks[e]? = some v∧l[e]? = some j∧x∈pathV ND v j (f (b + e))
 | [],l,f,b,h=>by simp [pathVs] at h
 | v :: r,[],f,b,h=>by simp [pathVs] at h
 | v :: r,i :: l,f,b,h=>by
  rw [pathVs] at h
  rcases List.mem_append.1 h with h | h
  ·exact ⟨0,v,i,rfl,rfl,h⟩
  ·obtain ⟨e,y,j,h1,h2,h3⟩:=pathVs_mem h
   exact ⟨e + 1,y,j,by simpa using h1,by simpa using h2,by rw [show b + (e + 1)=b + 1 + e by omega];exact h3⟩
theorem path_get:∀ (k:Nat) (v:Val),v.wt≤k→∀ {i:Int},fitV ND v i=true→∀ {p x:List Stp},x∈pathV ND v i p→∃ q r,x=p ++ q∧getV ND q v i=some r
 | 0,v,hk,i,hf,p,x,h=>by have:=v.wt_pos;omega
 | k + 1,v,hk,i,hf,p,x,h=>by
  obtain ⟨d,hF⟩:=fit_facts hok hf
  have hself:=@kidI_self L ND hok v i d hF
  have hstep:=@step_fit L ND hok v i hf
  have hn:=hF.node
  obtain ⟨q,z,s,ks⟩:=v
  rw [Val.wt] at hk
  rw [pathV,hn] at h
  rcases List.mem_cons.1 h with h | h
  ·subst h
   exact ⟨[],_,by simp,rfl⟩
  ·simp only at h
   obtain ⟨e,y,j,h1,h2,h3⟩:=pathVs_mem h
   have hlt:=(List.getElem?_eq_some_iff.1 h1).1
   have hw:=wtVs_mem (List.mem_of_getElem? h1)
   have hs:=stepV_of (v:=.mk q z s ks) hn (hself hlt) h1 h2
   have hfy:fitV ND y j=true:=hstep hs
   obtain ⟨q',r,g1,g2⟩:=path_get k y (by omega) hfy h3
   rw [Nat.zero_add] at g1
   refine ⟨stpR d (.mk q z s ks) e :: q',r,by rw [g1];simp,?_⟩
   rw [getV,hs]
   exact g2
end
end Go.Proofs.YtdeaicofhmkebaaGreat
namespace Go.Proofs.YtdeaicofhmkebaaGreat
namespace Dv
open Go Go.RowKit
mutual
def shD (m:Nat):DV→DV
 | .agg l=>.agg (shL m l)
 | .tup l=>.tup (shL m l)
 | .sl e es tk=>.sl e es (match tk with | some k=>some (m + k) | none=>none)
 | .fn f a b=>.fn f (shL m a) (shL m b)
 | .ifc t x=>.ifc t (shD m x)
 | .v x=>.v x
 | .ud=>.ud
 | .pt cs o=>.pt cs o
 | .loc i o=>.loc i o
 | .el i o=>.el i o
 | .ms i e o l c=>.ms i e o l c
def shL (m:Nat):List DV→List DV
 | []=>[]
 | d :: r=>shD m d :: shL m r
end
mutual
theorem shD_sound {m:Nat} {E2 E:En} (hβ:E2.β=[]) (hc:E.c=E2.c) (ht:∀ (k:Nat) q,E2.tk[k]? = some q→E.tk[m + k]? = some q∧E.τ[m + k]? = E2.τ[k]?):∀ {d:DV} {v:Value},Rv E2 d v→Rv E (shD m d) v
 | .v x,v,h=>by simpa only [Rv,shD] using h
 | .ud,v,h=>by simpa only [Rv,shD] using h
 | .agg l,v,h=>by
  simp only [Rv,shD] at h ⊢
  obtain ⟨vs,h1,h2,h3⟩:=h
  exact ⟨vs,h1,shL_sound hβ hc ht h2,h3⟩
 | .tup l,v,h=>by
  simp only [Rv,shD] at h ⊢
  obtain ⟨vs,h1,h2⟩:=h
  exact ⟨vs,h1,shL_sound hβ hc ht h2⟩
 | .sl e es tk,v,h=>by
  have he:E.cl=E2.cl:=by simp [En.cl,hc]
  simp only [Rv,shD] at h ⊢
  obtain ⟨b,n,cap,h1,h2,h3,h4⟩:=h
  refine ⟨b,n,cap,h1,h2,fun hn=>⟨(h3 hn).1,by rw [he];exact (h3 hn).2⟩,?_⟩
  intro k' hk'
  cases tk with
  | none=>cases hk'
  | some k=>
   simp only [Option.some.injEq] at hk'
   subst hk'
   obtain ⟨q,g1,g2,g3⟩:=h4 k rfl
   obtain ⟨g4,g5⟩:=ht k q g1
   exact ⟨q,g4,g2,fun hn=>by rw [g5];exact g3 hn⟩
 | .pt cs off,v,h=>by
  have he:E.cl=E2.cl:=by simp [En.cl,hc]
  simp only [Rv,shD] at h ⊢
  rw [he]
  exact h
 | .loc i off,v,h=>by
  simp only [Rv] at h
  obtain ⟨b,h1,_⟩:=h
  rw [hβ] at h1;simp at h1
 | .el i off,v,h=>by
  simp only [Rv] at h
  obtain ⟨b,h1,_⟩:=h
  rw [hβ] at h1;simp at h1
 | .ms i e off len cap,v,h=>by
  simp only [Rv] at h
  obtain ⟨b,_,h1,_⟩:=h
  rw [hβ] at h1;simp at h1
 | .fn f a b,v,h=>by
  simp only [Rv,shD] at h ⊢
  obtain ⟨l,r,h1,h2,h3⟩:=h
  exact ⟨l,r,h1,shL_sound hβ hc ht h2,shL_sound hβ hc ht h3⟩
 | .ifc t x,v,h=>by
  simp only [Rv,shD] at h ⊢
  obtain ⟨z,h1,h2⟩:=h
  exact ⟨z,h1,shD_sound hβ hc ht h2⟩
theorem shL_sound {m:Nat} {E2 E:En} (hβ:E2.β=[]) (hc:E.c=E2.c) (ht:∀ (k:Nat) q,E2.tk[k]? = some q→E.tk[m + k]? = some q∧E.τ[m + k]? = E2.τ[k]?):∀ {l:List DV} {vs:List Value},RvL E2 l vs→RvL E (shL m l) vs
 | [],vs,h=>by simpa only [RvL,shL] using h
 | d :: r,vs,h=>by
  simp only [RvL,shL] at h ⊢
  obtain ⟨v,s,h1,h2,h3⟩:=h
  exact ⟨v,s,h1,shD_sound hβ hc ht h2,shL_sound hβ hc ht h3⟩
end
section
variable {X:Ctx} {st:St} {k:List It} {E:En} {a:Act} {w:World}
theorem quiet_relF (h:Rel X E st a w) (hst:X.still=false) {E2:En} {w':World} (hm:Modd (E.cl).S w w') (he:Env E2 [] w') (hn:Nw E.cl E2 w):Rel X ⟨E2.c,E.β,E.tk ++ E2.tk,E.τ ++ E2.τ⟩ ⟨st.sl,st.bx,st.tk ++ E2.tk⟩ a w':=by
 have hq:=quiet_rel h hst hm he hn
 have hfr:∀ (j:Nat) y g,E2.τ[j]? = some y→y.ownBlock=some g→w.heap.size≤g:=fun j y g hy hg=>hn.tn j y g (Nat.zero_le _) hy hg
 have hold:∀ (k:Nat) y g,E.τ[k]? = some y→y.ownBlock=some g→g < w.heap.size:=fun k y g hy hg=>(h.env.own (List.mem_of_getElem? hy) hg).1
 have htl:E.τ.length=E.tk.length:=h.env.tl
 have hτ:∀ (k:Nat) y,(E.τ ++ E2.τ)[k]? = some y→(k < E.τ.length∧E.τ[k]? = some y)∨(E.τ.length≤k∧E2.τ[k - E.τ.length]? = some y):=fun k y hy=>by
  rw [List.getElem?_append] at hy
  split at hy
  ·rename_i hk;exact .inl ⟨hk,hy⟩
  ·rename_i hk;exact .inr ⟨by omega,hy⟩
 have hx:Ext ⟨E2.c,E.β,E.tk,E.τ⟩ ⟨E2.c,E.β,E.tk ++ E2.tk,E.τ ++ E2.τ⟩:=⟨fun _ _ h=>h,fun _ _ h=>h,fun j q hj=>by
  have hj:E.tk[j]? = some q:=hj
  have hlt:=(List.getElem?_eq_some_iff.1 hj).1
  refine ⟨q,by show (E.tk ++ _)[j]? = _;rw [List.getElem?_append_left hlt];exact hj,.inl ⟨rfl,?_⟩⟩
  show (E.τ ++ _)[j]? = _
  rw [List.getElem?_append_left (by rw [htl];exact hlt)]⟩
 refine rel_env hq hx ?_ (by show E.tk ++ _=_;rw [h.tk]) ?_ hq.fr (noSt hst) hq.bt
 ·exact {
   len:=h.env.len
   tl:=by show (E.τ ++ _).length=(E.tk ++ _).length;simp [htl,he.tl]
   bxs:=fun i cs hi=>by
    obtain ⟨b,t,arr,hb,hw,hc⟩:=hq.env.bxs i cs hi
    exact ⟨b,t,arr,hb,hw,hc.mono hx⟩
   inj:=h.env.inj
   sub:=he.sub
   pc:=hq.env.pc
   tks:=fun j q y hqj hy=>by
    have hqj:(E.tk ++ E2.tk)[j]? = some q:=hqj
    rcases hτ j y hy with ⟨hlt,hy'⟩ | ⟨hle,hy'⟩
    ·rw [List.getElem?_append_left (by rw [← htl];exact hlt)] at hqj
     exact hq.env.tks j q y hqj hy'
    ·rw [List.getElem?_append_right (by rw [← htl];exact hle),← htl] at hqj
     rcases he.tks _ q y hqj hy' with h1 | ⟨g,cap,cur,rfl,h1,h2,h3,h4,_,h6⟩
     ·exact .inl h1
     ·refine .inr ⟨g,cap,cur,rfl,h1,h2,h3,h4,fun hm'=>?_,h6⟩
      have:=hfr _ _ g hy' rfl
      have:=h.env.block_lt hm'
      omega
   tkd:=fun i j y y' g hij hy hy' hg hg'=>by
    rcases hτ i y hy with ⟨_,h1⟩ | ⟨h0,h1⟩
    ·rcases hτ j y' hy' with ⟨_,h2⟩ | ⟨_,h2⟩
     ·exact h.env.tkd i j y y' g hij h1 h2 hg hg'
     ·have:=hold i y g h1 hg
      have:=hfr _ y' g h2 hg'
      omega
    ·rcases hτ j y' hy' with ⟨_,h2⟩ | ⟨h00,h2⟩
     ·have:=hold j y' g h2 hg'
      have:=hfr _ y g h1 hg
      omega
     ·exact he.tkd _ _ y y' g (by omega) h1 h2 hg hg' }
 ·exact {
   c:=hq.nw.c
   cn:=hq.nw.cn
   β:=h.nw.β
   tk:=fun j q0 y0 hq0 hy0=>by
    obtain ⟨q',y',h1,h2,h3⟩:=h.nw.tk j q0 y0 hq0 hy0
    exact ⟨q',y',by show (E.tk ++ _)[j]? = _;rw [List.getElem?_append_left (List.getElem?_eq_some_iff.1 h1).1];exact h1,by show (E.τ ++ _)[j]? = _;rw [List.getElem?_append_left (List.getElem?_eq_some_iff.1 h2).1];exact h2,h3⟩
   tn:=fun j y g hj hy hg=>by
    rcases hτ j y hy with ⟨_,h1⟩ | ⟨_,h1⟩
    ·exact h.nw.tn j y g hj h1 hg
    ·exact Nat.le_trans h.fr.size (hfr _ y g h1 hg)
   l0:=h.nw.l0 }
theorem calls_f {P:Program} (h:Rel X E st a w) (hst:X.still=false) {f:FuncId} {args args':List DV} {vs:List Value} {Φ:DV→List (List DV)→List TkE→Prop} (hc:EvF P f args' [] [] Φ) (ha:CcL [] 0 0 0 args' args) (hv:RvL E args vs) :
  Calls P f vs.toArray w fun e w'=>∃ v E' d tks,e = .returned v∧Rel X E' ⟨st.sl,st.bx,st.tk ++ tks⟩ a w' ∧ Rv E' (shD st.tk.length d) v∧Φ d [] tks∧Modd E.cl.S w w' ∧ Ext E E' ∧ E'.β=E.β:=by
 have hv':RvL E.cl args' vs:=CcL.sound (E:=E) (E':=E.cl) ⟨fun _ _ h=>h,fun i cs _ hi=>by simp at hi⟩ (Low.zero _ _) ha hv
 refine (hc E.cl w vs (env_cl h.env) rfl hv').mono ?_
 rintro e w' ⟨v,rfl,hm,_,d,os,E2,he,hβ,_,hn,hvd,hΦ⟩
 have hβ:E2.β=[]:=hβ
 have hos:os=[]:=by
  have:=he.len
  rw [hβ] at this
  exact List.eq_nil_of_length_eq_zero this.symm
 subst hos
 have htl:E.τ.length=E.tk.length:=h.env.tl
 have hx:Ext E ⟨E2.c,E.β,E.tk ++ E2.tk,E.τ ++ E2.τ⟩:=⟨hn.c,fun _ _ h=>h,fun j q hj=>by
  have hlt:=(List.getElem?_eq_some_iff.1 hj).1
  refine ⟨q,by show (E.tk ++ _)[j]? = _;rw [List.getElem?_append_left hlt];exact hj,.inl ⟨rfl,?_⟩⟩
  show (E.τ ++ _)[j]? = _
  rw [List.getElem?_append_left (by rw [htl];exact hlt)]⟩
 refine ⟨v,_,d,E2.tk,rfl,quiet_relF h hst hm he hn,shD_sound (E2:=E2) (E:=⟨E2.c,E.β,E.tk ++ E2.tk,E.τ ++ E2.τ⟩) (m:=st.tk.length) hβ rfl (fun k q hq=>?_) hvd,hΦ,hm,hx,rfl⟩
 rw [← h.tk]
 constructor
 ·show (E.tk ++ E2.tk)[_]? = _
  rw [List.getElem?_append_right (by omega)]
  simpa using hq
 ·show (E.τ ++ E2.τ)[_]? = _
  rw [List.getElem?_append_right (by omega),htl]
  simp
theorem call_f {f:FuncId} {args args':List DV} {d:Nat} (hen:Enters X.P f) (hd:okD X.nt st.sl (some d)=true) {Φ:DV→List (List DV)→List TkE→Prop} (hc:EvF X.P f args' [] [] Φ) (ha:CcL [] 0 0 0 args' args)
  (hk:∀ r tks,Φ r [] tks→go X 4000 k ⟨(d,⟨[],shD st.tk.length r⟩) :: st.sl,st.bx,st.tk ++ tks⟩) (hst:X.still=false:=by exact rfl):CallG X f args (some d) k st:=by
 refine ⟨hen,hst,fun E a w vs h hv=>(calls_f h hst hc ha hv).mono ?_⟩
 rintro e w' ⟨v,E',r,tks,rfl,hrel,hr,hΦ,_⟩
 exact go_sound 4000 _ _ (hk r tks hΦ) E' _ w' (put_rel hrel hd _ v hr)
theorem callD_f {D:Dr} {c:Bool} {i:Nat} {s0:List (Nat × Sl)} {f:FuncId} {args args':List DV} {d:Nat} {r:List (Nat × Oper)} (hen:Enters X.P f) (hd:(okD X.nt st.sl (some d) && okD X.nt s0 (some d))=true) {Φ:DV→List (List DV)→List TkE→Prop} (hc:EvF X.P f args' [] [] Φ) (ha:CcL [] 0 0 0 args' args)
  (hk:∀ res tks,Φ res [] tks→put2 s0 ⟨st.sl,st.bx,st.tk ++ tks⟩ (some d) false [] (shD st.tk.length res) (goD X D 3000 c r)) (hst:X.still=false:=by exact rfl):CallD X D c i r f args (some d) s0 st:=by
 refine ⟨hen,fun hl E0 wr hD E a w vs h hv=>(calls_f h.rel hst hc ha hv).mono ?_⟩
 rintro e w' ⟨v,E',res,tks,rfl,hrel,hr,hΦ,hm,hx,hβ⟩
 have hh:∀ b,b < w.heap.size→w'.heap[b]? = w.heap[b]?:=fun b hb=>hm.block b hb (by
  rintro (h1 | ⟨y,h1,_⟩)
  ·simp [En.cl] at h1
  ·simp [En.cl] at h1)
 have hs:Stp none E w E' w':=⟨hx,⟨[],by rw [hβ];simp⟩,fun j b hb _=>hh b (h.rel.env.block_lt (List.mem_of_getElem? hb))⟩
 have hC:=stp_C h hs hrel (fun j hj=>by cases hj)
 refine ⟨v,rfl,fun _=>hC,?_⟩
 have hrelD:RelD X ⟨D,E0,wr⟩ c E' s0 ⟨st.sl,st.bx,st.tk ++ tks⟩ (a.put none v) w':=stp_relD h hs hrel (fun h1=>hC (h.cc h1)) (fun i x hx=>.inr ⟨hx,fun d hd=>by cases hd⟩) rfl
 obtain ⟨s1,st1,hk1,hrel1⟩:=put2_rel hrelD hd false [] _ v (fun _ _ p hp=>by cases hp) (fun _=>hr) (fun hb=>by cases hb) (fun hn=>(hn (holds_nil _)).elim) (hk res tks hΦ)
 exact goD_sound (D:=⟨D,E0,wr⟩) hD 3000 c r _ _ hk1 hl E' _ w' hrel1
theorem weak_bd {n0 m0:Nat} {st st':St} (n:Nat) (hn:Nat.ble n st.bx.length=true) (h2:WeLL n st'.tk.length st'.tk (st.bx.take n) st'.bx) (h3:∃ dr,st.tk=st'.tk ++ dr) (h4:Nat.ble n0 n=true) (h5:Nat.ble m0 st'.tk.length=true)
  (h:sameW n st'.tk.length st'.tk st.sl st'.sl):Weak n0 m0 st st':=by
 have hl:(st.bx.take n).length=n:=by
  have:=Nat.le_of_ble_eq_true hn
  rw [List.length_take];omega
 obtain ⟨dr,h3⟩:=h3
 exact ⟨st'.tk,dr,[],st.bx.take n,st.bx.drop n,by simpa using h5,by rw [hl];simpa using h4,h3,by simp,by simp,(List.take_append_drop n st.bx).symm,by rw [hl];exact h2,by rw [hl];exact h⟩
theorem op_nilv {o:Oper} {t d et e' by' n:Nat} {x:Operand} {bb:Bool} {z:List Value} (hop:∃ t',o.op = .binOp .eql t x (.const (.slice none 0 0)) t') (hdst:o.dst=some d) (hx:rv st [] x=some (.v (.slice none 0 0))) (hT:X.T.find t=some ⟨n,bb,.sl et e' by',z⟩) (hd:okD X.nt st.sl (some d)=true)
  (hk:go X 4000 k ⟨(d,⟨[],.v (.bool true)⟩) :: st.sl,st.bx,st.tk⟩):OpG X o k st:=by
 intro E a w h
 obtain ⟨t',hop⟩:=hop
 have e1:=sl_val h.rl hx
 unfold Rv at e1
 obtain ⟨hu,_⟩:=und_sl X.hT hT
 have heq:=equal_sl hu none 0 0 w
 have hrun:(execOp a.eval o).run X.P w = .ok (.value (.bool true)) w:=by
  have hc:a.eval (.const (.slice none 0 0)) = .slice none 0 0:=rfl
  simp [execOp,hop,e1.1,hc,eqGuard,binOp,heq]
 refine wp_value hrun ?_
 rw [hdst]
 exact go_sound 4000 _ _ hk E _ w (put_rel h hd (.v (.bool true)) _ (by unfold Rv;exact ⟨rfl,rfl⟩))
end
end Dv
end Go.Proofs.YtdeaicofhmkebaaGreat
namespace Go.Proofs.YtdeaicofhmkebaaGreat
namespace Dv
open Go Go.RowKit
section
variable {X:Ctx} {st:St} {k:List It} {E:En} {a:Act} {w:World}
theorem own_row (h:Rel X E st a w) {es:List (List DV)} {cs:List DV} {kt m ety e:Nat} {v:Value} (hv:Rv E (.sl 0 es (some kt)) v) (hq:st.tk[kt]? = some ⟨m,ety,e,some cs⟩) (hes:es.length=m) (hm:0 < m) :
  ∃ g cap,∃ cur:Array Value,v = .slice (some ⟨g,0,none⟩) m cap∧E.tk[kt]? = some ⟨m,ety,e,some cs⟩∧E.τ[kt]? = some v∧w.heap[g]? = some (.cells cur ety (0,0))∧cur.size=cap * e∧cs.length=m * e∧RvC E.cl cs (cur.toList.take (m * e))∧m≤cap∧cap≤maxLen∧g ∉ E.β∧∀ x u,E.c x=some u→x.block=g→x.off < 0:=by
 unfold Rv at hv
 obtain ⟨bs,ns,caps,e1,⟨hns,hsc⟩,hsr,hstk⟩:=hv
 subst hns
 obtain ⟨q',hq',_,hτk⟩:=hstk kt rfl
 have hq2:E.tk[kt]? = some ⟨m,ety,e,some cs⟩:=by rw [h.tk];exact hq
 rw [hq2] at hq'
 simp only [Option.some.injEq] at hq'
 subst hq'
 have hy:=hτk hes
 rcases h.env.tks kt _ _ hq2 hy with ⟨_,hn0,_⟩ | ⟨g,cap,cur,hv0,hw0,⟨hs0,hown0⟩,hnc0,hcm0,hb0,hc0⟩
 ·simp only at hn0;omega
 obtain ⟨h5,h6⟩:=hown0 cs rfl
 exact ⟨g,cap,cur,hv0,hq2,hy,hw0,hs0,h5,h6,hnc0,hcm0,hb0,hc0⟩
theorem own_idx {o1:Oper} {t et e by' nn m g cap:Nat} {bb:Bool} {zz:List Value} {z:Int} {kd:IntKind} {s ix:Operand} (h1:o1.op = .indexAddr t s ix) (e1:a.eval s = .slice (some ⟨g,0,none⟩) m cap) (e2:a.eval ix = .int kd z)
  (hT:X.T.find t=some ⟨nn,bb,.sl et e by',zz⟩) (hz:0≤z∧z < m) (w:World):(execOp a.eval o1).run X.P w = .ok (.value (.pointer (some ⟨g,z.toNat * e,none⟩))) w:=by
 obtain ⟨hu,ii,zv,hi2,_,hsz2,_,_⟩:=und_sl X.hT hT
 have hsz':szOf X.P et=some e:=by rw [size_of_info hi2,hsz2]
 have hrun:(Instr.indexAt t (.slice (some ⟨g,0,none⟩) m cap) (.int kd z)).run X.P w = .ok (.pointer (some ⟨g,z.toNat * e,none⟩)) w:=by
  simp [Instr.indexAt,asIntOf,run_underlying hu,hz.1,hz.2,run_sizeOf' hsz',Addr.add_lit]
 simp only [execOp,h1,e1,e2,Sem.run_bind,hrun,Result.andThen_ok,Sem.run_pure]
theorem own_sto {o2:Oper} {d1 kt ty e m ety:Nat} {z:Int} {es:List (List DV)} {cs cs':List DV} {v:Value} {x:Operand} {dv:DV} {g cap:Nat}
  (hr1:Rel X E st a w) (h2:o2.op = .store ty (.tmp d1) x) (ht1:a.eval (.tmp d1) = .pointer (some ⟨g,z.toNat * e,none⟩)) (hv:Rv E (.sl 0 es (some kt)) v) (hvg:v = .slice (some ⟨g,0,none⟩) m cap)
  (hx:rv st [] x=some dv) (hdv:eraL dv.cells (fun l=>some l)=some cs') (hdc:dv.cells.length=e) (he0:0 < e)
  (hsz:X.T.sz ty=some e) (hq:st.tk[kt]? = some ⟨m,ety,e,some cs⟩) (hes:es.length=m) (hz:0≤z∧z < m) (hst:X.still=false) :
  ∃ w' E',(execOp a.eval o2).run X.P w = .ok .skip w' ∧ Rel X E' ⟨st.sl,st.bx,st.tk.set kt ⟨m,ety,e,some (cs.take (z.toNat * e) ++ cs' ++ cs.drop (z.toNat * e + e))⟩⟩ a w':=by
 obtain ⟨g',caps,cur,e1,hq2,hy,hw0,hs0,h5,h6,hnc0,hcm0,hb0,hc0⟩:=own_row hr1 hv hq hes (by omega)
 rw [hvg] at e1
 injection e1 with i1 i2 i3
 injection i1 with i1
 injection i1 with i1
 subst i1 i3
 rw [hvg] at hy
 have e3:=sl_val hr1.rl hx
 have hcl:RvC E dv.cells (a.eval x).cells.toList:=e3.cells (fills_len (n:=e) hdc (by omega))
 have hvl:(a.eval x).cells.toList.length=e:=by rw [hcl.1.length];exact hdc
 obtain ⟨l',hl1,hx1,_⟩:=eraL_sound hdv hcl
 simp only [Option.some.injEq] at hl1
 rw [hl1] at hx1
 have hme:m * e≤cap * e:=Nat.mul_le_mul_right _ hnc0
 have hpos:z.toNat * e + e≤m * e:=by
  have:(z.toNat + 1) * e≤m * e:=Nat.mul_le_mul_right _ (by omega)
  rw [Nat.add_mul] at this
  omega
 have hcurl:cur.toList.length=cap * e:=by simpa using hs0
 have hsv:=storeVar_blk (P:=X.P) (t:=ty) (off:=z.toNat * e) (n:=e) hw0 (sz_ok X.hT hsz) hvl (by rw [hs0];omega) (List.all_eq_true.2 hcl.2)
 generalize hN:cur.toList.take (z.toNat * e) ++ (a.eval x).cells.toList ++ cur.toList.drop (z.toNat * e + e)=N at hsv
 have hNl:N.length=cap * e:=by
  subst hN
  simp only [List.length_append,List.length_take,List.length_drop,hvl,hcurl]
  omega
 have hNt:N.take (m * e)=(cur.toList.take (m * e)).take (z.toNat * e) ++ (a.eval x).cells.toList ++ (cur.toList.take (m * e)).drop (z.toNat * e + e):=by
  subst hN
  rw [List.take_append,List.take_append,List.take_take,List.take_take]
  have h1:(cur.toList.take (z.toNat * e)).length=z.toNat * e:=by rw [List.length_take];omega
  rw [List.length_append,h1,hvl,Nat.min_eq_right (by omega),Nat.min_eq_left (by omega),List.take_of_length_le (l:=(a.eval x).cells.toList) (by rw [hvl];omega),List.drop_take]
 have hat:TkAt (World.setBlk w g (.cells N.toArray ety (0,0))) E.c E.β ⟨m,ety,e,some (cs.take (z.toNat * e) ++ cs' ++ cs.drop (z.toNat * e + e))⟩ (.slice (some ⟨g,0,none⟩) m cap):=by
  refine .inr ⟨g,cap,_,rfl,setBlk_same hw0,⟨by simpa using hNl,fun cs2 hc'=>?_⟩,hnc0,hcm0,hb0,hc0⟩
  simp only [Option.some.injEq] at hc'
  subst hc'
  simp only
  have h8:=((RvC.take (z.toNat * e) h6).append hx1).append (RvC.drop (z.toNat * e + e) h6)
  rw [← hNt] at h8
  have hl8:=h8.1.length
  refine ⟨?_,by show RvC E.cl _ (N.toArray.toList.take (m * e));simpa using h8⟩
  rw [← hl8,List.length_take,hNl]
  omega
 obtain ⟨hrel,_⟩:=own_rel (q':=⟨m,ety,e,some (cs.take (z.toNat * e) ++ cs' ++ cs.drop (z.toNat * e + e))⟩) (w':=World.setBlk w g (.cells N.toArray ety (0,0))) hr1 hst hq2 hy rfl rfl rfl (.inl ⟨rfl,rfl⟩) hat (.inl rfl) rfl rfl rfl (by rw [setBlk_size];exact Nat.le_refl _) (fun j _ hne=>setBlk_other (by
  rintro rfl
  exact hne rfl))
 refine ⟨_,_,?_,hrel⟩
 simp only [execOp,h2,ht1,Instr.storeAt,Instr.sureAddr,Sem.run_bind,Sem.run_pure,Result.andThen_ok,hsv]
theorem callD_own {D:Dr} {c:Bool} {i i1 i2:Nat} {s0:List (Nat × Sl)} {o1 o2:Oper} {f:FuncId} {args args':List DV} {d d1 kt t ty et e by' m ety nn:Nat} {bb:Bool} {zz:List Value} {z:Int} {kd:IntKind} {es:List (List DV)} {cs cs':List DV} {s ix x:Operand} {res dv:DV}
  (hen:Enters X.P f) (hd:okD X.nt st.sl (some d)=true) (hc:EvP X.P f args' res) (ha:CcL [] 0 0 0 args' args)
  (h1:o1.op = .indexAddr t s ix∧o1.dst=some d1∧o1.guard=none) (h2:o2.op = .store ty (.tmp d1) x∧o2.dst=none∧o2.guard=none) (hd1:okD X.nt ((d,⟨[],res⟩) :: st.sl) (some d1)=true)
  (hs:rv ⟨(d,⟨[],res⟩) :: st.sl,st.bx,st.tk⟩ [] s=some (.sl 0 es (some kt))) (hi:rv ⟨(d,⟨[],res⟩) :: st.sl,st.bx,st.tk⟩ [] ix=some (.v (.int kd z)))
  (hx:rv ⟨(d1,⟨[],.pt [] 0⟩) :: (d,⟨[],res⟩) :: st.sl,st.bx,st.tk⟩ [] x=some dv) (hdv:eraL dv.cells (fun l=>some l)=some cs') (hdc:dv.cells.length=e) (he0:0 < e)
  (hT:X.T.find t=some ⟨nn,bb,.sl et e by',zz⟩) (hsz:X.T.sz ty=some e) (hq:st.tk[kt]? = some ⟨m,ety,e,some cs⟩) (hes:es.length=m) (hz:0≤z∧z < m) (hW2:D.W i2=true)
  (hk:∃ st2,Wk X ⟨(d1,⟨[],.pt [] 0⟩) :: (d,⟨[],res⟩) :: st.sl,st.bx,st.tk.set kt ⟨m,ety,e,some (cs.take (z.toNat * e) ++ cs' ++ cs.drop (z.toNat * e + e))⟩⟩ st2∧go X 4000 D.k st2)
  (hst:X.still=false:=by exact rfl) (hf:D.fin=none:=by exact rfl):CallD X D c i [(i1,o1),(i2,o2)] f args (some d) s0 st:=by
 refine ⟨hen,fun hl E0 wr hD E a w vs h hv=>(calls_quiet h.rel hst hc ha hv).mono ?_⟩
 rintro e9 w' ⟨v,E',r,rfl,hrel,hr,rfl,hm9,hx9,hβ9⟩
 have hh9:∀ b,b < w.heap.size→w'.heap[b]? = w.heap[b]?:=fun b hb=>hm9.block b hb (by
  rintro (h1 | ⟨y,h1,_⟩)
  ·simp [En.cl] at h1
  ·simp [En.cl] at h1)
 have hs9:Stp none E w E' w':=⟨hx9,⟨[],by rw [hβ9];simp⟩,fun j b hb _=>hh9 b (h.rel.env.block_lt (List.mem_of_getElem? hb))⟩
 refine ⟨v,rfl,(fun _=>stp_C h hs9 hrel (fun j hj=>by cases hj)),?_⟩
 have hr0:=put_rel hrel hd r v hr
 generalize ha0:a.put (some d) v=a0 at hr0
 have hrl:=hr0.rl
 have e2:=rv_int_eq (sl_val hrl hi)
 have hv:=sl_val hrl hs
 obtain ⟨g,cap,cur,e1,_⟩:=own_row hr0 hv hq hes (by omega)
 have hE1:isE o1.op=false:=by rw [h1.1];all_goals rfl
 have hL1:isL o1.op=false:=by rw [h1.1];all_goals rfl
 have hE2:isE o2.op=true:=by rw [h2.1];all_goals rfl
 have g1:D.ops[i1]? = some o1:=hl (i1,o1) (by simp)
 have g2:D.ops[i2]? = some o2:=hl (i2,o2) (by simp)
 show runT X.P D.ops D.W _ (Dw.Q ⟨D,E0,wr⟩ X) [i1,i2] a0 w'
 have hr1:Rel X E' ⟨(d1,⟨[],.pt [] 0⟩) :: (d,⟨[],r⟩) :: st.sl,st.bx,st.tk⟩ (a0.put (some d1) (.pointer (some ⟨g,z.toNat * e,none⟩))) w':=put_rel hr0 hd1 (.pt [] 0) _ (by unfold Rv;exact ⟨g,z.toNat * e,rfl,by simp only [RvAt]⟩)
 have ht1:(a0.put (some d1) (.pointer (some ⟨g,z.toNat * e,none⟩))).eval (.tmp d1) = .pointer (some ⟨g,z.toNat * e,none⟩):=by
  simp only [okD,Bool.and_eq_true,Nat.blt_eq] at hd1
  simp [Act.eval,Act.put,hr0.sz,hd1.1]
 simp only [runT,g1,hE1,Bool.false_eq_true,if_false]
 refine ⟨.pointer (some ⟨g,z.toNat * e,none⟩),.inl ⟨wanted_none h1.2.2,fun w9 _=>own_idx h1.1 e1 e2 hT hz w9⟩,fun h9=>(by rw [hL1] at h9;cases h9),?_⟩
 rw [h1.2.1]
 generalize a0.put (some d1) (.pointer (some ⟨g,z.toNat * e,none⟩))=a1 at hr1 ht1
 have hwn:=wanted_none (ops:=D.ops) (a:=a1) h2.2.2
 simp only [g2,hE2,if_true,stepX,hwn]
 obtain ⟨w2,E2,hrun,hrel2⟩:=own_sto hr1 h2.1 ht1 hv e1 hx hdv hdc he0 hsz hq hes hz hst
 refine wq_unit hrun ?_
 rw [h2.2.1]
 refine ⟨(fun hw=>by rw [hW2] at hw;cases hw),?_⟩
 obtain ⟨st2,hwk,hgo⟩:=hk
 obtain ⟨E3,hr3⟩:=hwk _ _ _ hrel2
 show Dw.Q ⟨D,E0,wr⟩ X _ _
 unfold Dw.Q
 simp only [hf]
 exact go_sound 4000 _ _ hgo _ _ _ hr3
end
end Dv
end Go.Proofs.YtdeaicofhmkebaaGreat
set_option maxRecDepth 100000
namespace Go.Proofs.YtdeaicofhmkebaaGreat
open Go Go.RowKit Dv Tryz
theorem find_is {p:Nat→Bool}:∀ {n e:Nat},e < n→p e=true→(∀ e' < e,p e'=false)→(List.range n).find? p=some e
 | 0,e,h,_,_=>by omega
 | n + 1,e,h,h1,h2=>by
  rw [List.range_succ,List.find?_append]
  by_cases he:e < n
  ·rw [find_is he h1 h2];all_goals rfl
  ·have:e=n:=by omega
   subst this
   have h3:(List.range e).find? p=none:=List.find?_eq_none.2 fun x hx=>by rw [h2 x (by simpa using hx)];simp
   rw [h3]
   simp [h1]
theorem find_no {p:Nat→Bool} {n:Nat} (h:∀ e < n,p e=false):(List.range n).find? p=none:=List.find?_eq_none.2 fun x hx=>by rw [h x (by simpa using hx)];simp
theorem stpE_comm (a b:Stp):stpE a b=stpE b a:=by
 rw [Bool.eq_iff_iff,stpE_iff,stpE_iff];exact eq_comm
abbrev ixSt (l:List Stp) (s:Stp) (e:Nat):St:=⟨[(0,⟨[],.sl 3 (dStps l) none⟩),(3,⟨[],.loc 0 0⟩),(6,⟨[],.sl 3 (dStps l) none⟩),(7,⟨[],.v (.int .i64 (dStps l).length)⟩),(8,⟨[],.v (.int .i64 e)⟩)],[dStp s],[]⟩
theorem index_spec (f:Nat→Stp) (n:Nat) (s:Stp) (hn:n≤1099511627776) :
  EvP Tryz.prog 183 [.sl 3 (dStps ((List.range n).map f)) none,.agg (dStp s)] (.v (.int .i64 (oz ((List.range n).find? fun e=>stpE (f e) s)))):=by
 have hdl:(dStps ((List.range n).map f)).length=n:=by rw [dStps_len];simp
 refine ev_go (P:=Tryz.prog) tt tt_ok 5000 19 [.tmp 4] Tryz.func183 rfl Tryz.ntmps183 rfl (Nat.le_of_ble_eq_true rfl) (fun E9 w9 hn9 hm9=>?_)
 refine loop_i (fun j st=>∃ e:Nat,st=ixSt ((List.range n).map f) s e∧e≤n∧(∀ e' < e,stpE (f e') s=false)∧j=n - e) n (ixSt ((List.range n).map f) s 0) (weak_mk ⟨_,rfl⟩ wA rfl rfl rfl wB) ⟨0,rfl,by omega,(fun _ h=>by omega),by omega⟩ ?_
 rintro _ st ⟨e,rfl,he,hno,rfl⟩
 refine br (fun hL=>?_) (fun hL=>?_)
 ·have hlt:e < n:=by simpa [hdl] using hL
  have hx:((List.range n).map f)[e]? = some (f e):=by rw [List.getElem?_map,List.getElem?_range hlt];all_goals rfl
  refine drawG_i (fun _=>false) mo (by decide +kernel) ?_
  refine ⟨_,⟨by omega,dStps_get hx⟩,_,stp_eql _ _ s (f e),?_⟩
  refine br (fun c=>?_) (fun c=>?_)
  ·have c:stpE s (f e)=true:=c
   have:=find_is (p:=fun e=>stpE (f e) s) hlt (by show stpE (f e) s=true;rw [stpE_comm];exact c) hno
   rw [this]
   exact (rfl:_=_)
  ·have c:stpE s (f e)=false:=c
   exact ⟨ixSt ((List.range n).map f) s (e + 1),(weak_mk ⟨_,rfl⟩ wA rfl rfl rfl (by repeat' (first | exact trivial | exact we_rfl rfl | exact we_int (nxt hlt (by omega)) | refine ⟨⟨_,rfl,?_⟩,?_⟩))),n - (e + 1),by omega,e + 1,rfl,by omega,(fun e' h=>by
    rcases Nat.lt_or_ge e' e with h1 | h1
    ·exact hno e' h1
    ·have:e'=e:=by omega
     subst this
     rw [stpE_comm];exact c),rfl⟩
 ·have hge:n≤e:=by simpa [hdl] using hL
  have:=find_no (p:=fun e=>stpE (f e) s) (n:=n) fun e' h=>hno e' (by omega)
  rw [this]
  exact (rfl:_=_)
theorem steps0_spec (d:Nd) (q z:Int) (s:ByteArray):EvP Tryz.prog 168 [.agg (dNd d),.agg (dVal (.mk q z s []))] (.sl 3 [] none):=by
 obtain ⟨kind,at',lo,hi,most,names,es⟩:=d
 refine ev_go (P:=Tryz.prog) tt tt_ok 5000 55 [.tmp 4] Tryz.func168 rfl Tryz.ntmps168 rfl (Nat.le_of_ble_eq_true rfl) (fun E9 w9 hn9 hm9=>?_)
 refine loop_i (fun j st=>st=stsSt ⟨kind,at',lo,hi,most,names,es⟩ (.mk q z s []) 0 0) 0 (stsSt ⟨kind,at',lo,hi,most,names,es⟩ (.mk q z s []) 0 0) (weak_bt 2 ⟨0,173,3,none⟩ rfl rfl rfl (by repeat' (first | exact rfl | exact we_rfl rfl | exact we_tok (Nat.le_refl _) rfl | exact we_tok (Nat.le_refl _) rfl | refine ⟨_,_,rfl,?_,?_⟩)) rfl rfl (by repeat' (first | exact trivial | exact we_rfl rfl | exact we_tok (Nat.le_refl _) rfl | refine ⟨⟨_,rfl,?_⟩,?_⟩))) rfl ?_
 rintro _ st rfl
 exact ⟨_,ax,rfl⟩
def kidR (o:Option (Nat × Val × Int)):DV:=match o with
 | some (e,_,j)=>.tup [.v (.int .i64 (e:Nat)),.v (.int .i64 j)]
 | none=>.tup [.v (.int .i64 (-1)),.v (.int .i64 (-1))]
theorem tsteps_spec {L:Nat} {ND:List Nd} (hok:∀ n∈ND,NdOK L ND.length n) {v:Val} (hv:v.wt≤1099511627776) {i:Int} {d:Nd} (hF:FitF ND v i d):EvP Tryz.prog 168 [.agg (dNd d),.agg (dVal v)] (.sl 3 (dStps (stpL d v)) none):=by
 have hN:=hok d (List.mem_of_getElem? (nodeA_some hF.node).2)
 rcases Int.lt_or_le d.kind 5 with h5 | h5
 ·have h:=hF.leaf h5
  obtain ⟨q,z,s,ks⟩:=v
  simp only [Val.ks] at h
  subst h
  exact steps0_spec d q z s
 ·refine steps_spec d v hv hF.k h5 hN.k8 (fun c=>?_) (fun c=>?_)
  ·have:=(hF.kids h5).1
   rw [← this]
   unfold kidsL;rw [if_neg (by omega),if_pos c,List.length_map]
  ·obtain ⟨_,_,_,h3,h4,_⟩:=hF.tag c
   exact ⟨h3,h4⟩
theorem kid_spec {S:Sch} {ND:List Nd} {PC:List DV} (hP:PlanR S ND PC) {v:Val} (hv:v.wt≤1099511627776) {i:Int} (hf:fitV ND v i=true) (s:Stp) :
  EvP Tryz.prog 111 [.pt PC 0,.v (.int .i64 i),.agg (dVal v),.agg (dStp s)] (kidR (stepV ND v i s)):=by
 obtain ⟨d,hF⟩:=fit_facts hP.ok hf
 have hsv:stepV ND v i s=match kidI d v s with | none=>none | some e=>match v.ks[e]?,(kidsL d v)[e]? with | some x,some j=>some (e,x,j) | _,_=>none:=by
  unfold stepV;rw [hF.node];all_goals rfl
 have hks:∀ e,kidI d v s=some e→∃ x j,v.ks[e]? = some x∧(kidsL d v)[e]? = some j∧5≤d.kind:=fun e he=>by
  have hlt:=(find_some he).1
  have hx:v.ks[e]? = some v.ks[e]:=List.getElem?_eq_getElem hlt
  have h5:=kind5_of hP.ok hF hx
  exact ⟨_,_,hx,List.getElem?_eq_getElem (by rw [(hF.kids h5.1).1];exact hlt),h5.1⟩
 have hix:kidI d v s=(List.range v.ks.length).find? fun e=>stpE (stpR d v e) s:=rfl
 have h1:=tsteps_spec hP.ok hv hF
 have hkl:=wtVs_len v.ks
 have hvw:v.wt=64 + v.s.size + wtVs v.ks:=by cases v;rw [Val.wt];all_goals rfl
 have h2:=index_spec (stpR d v) v.ks.length s (by omega)
 obtain ⟨h0,hg⟩:=nodeA_some hF.node
 have hN:=hP.ok d (List.mem_of_getElem? hg)
 have h3:=fun h5=>kids_spec hN h5 v hv
 obtain ⟨j0,rfl⟩:∃ j:Nat,i=j:=⟨i.toNat,by omega⟩
 have hg:ND[j0]? = some d:=by simpa using hg
 have hnode:=hP.node j0 d hg
 rw [← hix] at h2
 rw [hsv]
 have hstl:stpL d v=(List.range v.ks.length).map (stpR d v):=rfl
 rw [hstl] at h1
 generalize (List.range v.ks.length).map (stpR d v)=SL at h1 h2
 generalize kidI d v s=o at h2 hks ⊢
 clear hsv
 obtain ⟨q,z,t,ks⟩:=v
 obtain ⟨kind,at',lo,hi,most,names,es⟩:=d
 obtain ⟨sk,sn,ss⟩:=s
 refine ev_go (P:=Tryz.prog) tt tt_ok 5000 38 [.tmp 8,.tmp 9] Tryz.func111 rfl Tryz.ntmps111 rfl (Nat.le_of_ble_eq_true rfl) (fun E9 w9 hn9 hm9=>?_)
 refine call_p en19 (hnode) ax rfl ?_
 refine drawG_i (fun _=>false) mo (by decide +kernel) ?_
 refine callD_p en168 (h1) ax rfl ?_
 refine callD_p en183 (h2) ax rfl ?_
 cases o with
 | none=>
  exact ⟨_,ax,rfl⟩
 | some e=>
  obtain ⟨x,j,hx,hj,h5⟩:=hks e rfl
  refine call_p en118 (h3 h5) ax rfl ?_
  refine drawG_i (fun _=>false) mo (by decide +kernel) ?_
  refine ⟨_,⟨by simp [oz],by simp [oz];exact dZs_get hj⟩,?_⟩
  simp only [hx,hj]
  exact ⟨_,ax,rfl⟩
abbrev zVal:List DV:=[.v (.int .i64 0),.v (.int .i64 0),.v (.string emptyB),.v (.slice none 0 0)]
abbrev zeroV:Val:=.mk 0 0 emptyB []
abbrev tcSt (v:Val) (n e:Nat):St:=
 ⟨[(1,⟨[],.loc 0 0⟩),(2,⟨[],.loc 1 0⟩),(3,⟨[],.sl 4 (dVals (v.ks.take e)) (some 0)⟩),(7,⟨[],.sl 4 (dVals v.ks) none⟩),(8,⟨[],.v (.int .i64 (dVals v.ks).length)⟩),(9,⟨[],.v (.int .i64 e)⟩)],[dVal v,zVal],[⟨n,60,4,none⟩]⟩
theorem clone_spec:∀ (k:Nat) (v:Val),v.wt≤k→v.wt≤1099511627776→EvP Tryz.prog 112 [.agg (dVal v)] (.agg (dVal v))
 | 0,v,h,_=>by have:=v.wt_pos;omega
 | k + 1,.mk q z s ks,h,hb=>by
  have hkl:=wtVs_len ks
  have hdl:=dVals_len ks
  rw [Val.wt] at h hb
  refine ev_go (P:=Tryz.prog) tt tt_ok 5000 22 [.cell 2 60] Tryz.func112 rfl Tryz.ntmps112 rfl (Nat.le_of_ble_eq_true rfl) (fun E9 w9 hn9 hm9=>?_)
  refine loop_i (fun j st=>∃ e n:Nat,st=tcSt (.mk q z s ks) n e∧n=e∧e≤ks.length∧j=ks.length - e) ks.length (tcSt (.mk q z s ks) 0 0) (weak_bt 2 ⟨0,60,4,none⟩ rfl rfl rfl (by repeat' (first | exact rfl | exact we_rfl rfl | exact we_tok (Nat.le_refl _) rfl | exact we_tok (Nat.le_refl _) rfl | refine ⟨_,_,rfl,?_,?_⟩)) rfl rfl (by repeat' (first | exact trivial | exact we_rfl rfl | exact we_tok (Nat.le_refl _) rfl | refine ⟨⟨_,rfl,?_⟩,?_⟩))) ⟨0,0,rfl,rfl,by omega,by omega⟩ ?_
  rintro _ st ⟨e,n,rfl,rfl,he,rfl⟩
  refine br (fun hL=>?_) (fun hL=>?_)
  ·have hlt:n < ks.length:=by simpa [hdl,Val.ks] using hL
   obtain ⟨x,hx⟩:∃ x,ks[n]? = some x:=⟨_,List.getElem?_eq_getElem hlt⟩
   have hxw:=wtVs_mem (List.mem_of_getElem? hx)
   have hw:=clone_spec k x (by omega) (by omega)
   have hsn:=dVals_snoc hx
   have hml:(dVals (ks.take n)).length=n:=by rw [dVals_len,List.length_take];omega
   obtain ⟨xk,xn,xs,xl⟩:=x
   refine ⟨_,⟨by omega,dVals_get hx⟩,?_⟩
   refine call_p en112 (hw) ax rfl ?_
   refine ⟨hml,⟨by simp only [Val.ks];rw [hml];simp [maxLen];omega,by simp only [Val.ks];rw [hml];simp;omega⟩,?_⟩
   exact ⟨tcSt (.mk q z s ks) (n + 1) (n + 1),(weak_b 2 rfl (by repeat' (first | exact rfl | exact we_rfl rfl | exact we_int (nxt hlt (by omega)) | exact we_sl hsn rfl | refine ⟨_,_,rfl,?_,?_⟩)) rfl rfl rfl (by repeat' (first | exact trivial | exact we_rfl rfl | exact we_int (nxt hlt (by omega)) | exact we_sl hsn rfl | refine ⟨⟨_,rfl,?_⟩,?_⟩))),ks.length - (n + 1),by omega,n + 1,n + 1,rfl,rfl,by omega,rfl⟩
  ·have hge:n=ks.length:=by
    have:=hL;simp [hdl,Val.ks] at this;omega
   subst hge
   have h1:dVals (Val.mk q z s ks).ks=dVals ks:=rfl
   have h2:ks.take ks.length=ks:=List.take_length
   have h3:(Val.mk q z s ks).ks.take ks.length=ks:=h2
   rw [h3]
   exact ⟨_,ax,rfl⟩
abbrev coSt (v:Val) (cs:List DV) (n e:Nat):St:=
 ⟨[(1,⟨[],.loc 0 0⟩),(2,⟨[],.loc 1 0⟩),(3,⟨[],.sl 0 (List.replicate e []) (some 0)⟩),(7,⟨[],.sl 4 (dVals v.ks) none⟩),(8,⟨[],.v (.int .i64 (dVals v.ks).length)⟩),(9,⟨[],.v (.int .i64 e)⟩)],[dVal v,zVal],[⟨n,60,4,some cs⟩]⟩
theorem clone_own (v:Val) (hv:v.wt≤1099511627776):EvF Tryz.prog 112 [.agg (dVal v)] [] [] (fun r _ tks=>r = .agg [.v (.int .i64 v.k),.v (.int .i64 v.n),.v (.string v.s),.sl 0 (List.replicate v.ks.length []) (some 0)]∧tks=[⟨v.ks.length,60,4,some (dVals v.ks).flatten⟩]):=by
 obtain ⟨q,z,s,ks⟩:=v
 have hkl:=wtVs_len ks
 have hdl:=dVals_len ks
 rw [Val.wt] at hv
 refine evB_gom (s:=false) (bt:=[]) (mu:=[]) (hbt:=fun p hp=>by cases hp) (fr:=true) (P:=Tryz.prog) tt tt_ok 5000 22 [.cell 2 60] Tryz.func112 rfl Tryz.ntmps112 rfl (Nat.le_of_ble_eq_true rfl) (fun E9 w9 hn9 hm9=>?_)
 refine loop_i (fun j st=>∃ (e:Nat) (cs:List DV),st=coSt (.mk q z s ks) cs e e∧cs=(dVals (ks.take e)).flatten∧e≤ks.length∧j=ks.length - e) ks.length (coSt (.mk q z s ks) [] 0 0) (weak_bt 2 ⟨0,60,4,some []⟩ rfl rfl rfl (by repeat' (first | exact rfl | exact we_rfl rfl | exact we_tok (Nat.le_refl _) rfl | exact we_tok (Nat.le_refl _) rfl | refine ⟨_,_,rfl,?_,?_⟩)) rfl rfl (by repeat' (first | exact trivial | exact we_rfl rfl | exact we_tok (Nat.le_refl _) rfl | refine ⟨⟨_,rfl,?_⟩,?_⟩))) ⟨0,[],rfl,rfl,by omega,by omega⟩ ?_
 rintro _ st ⟨e,cs,rfl,hcs,he,rfl⟩
 refine br (fun hL=>?_) (fun hL=>?_)
 ·have hlt:e < ks.length:=by simpa [hdl,Val.ks] using hL
  obtain ⟨x,hx⟩:∃ x,ks[e]? = some x:=⟨_,List.getElem?_eq_getElem hlt⟩
  have hxw:=wtVs_mem (List.mem_of_getElem? hx)
  have hw:=clone_spec _ x (Nat.le_refl _) (by omega)
  have hsn:=congrArg List.flatten (dVals_snoc hx)
  rw [List.flatten_append,← hcs] at hsn
  obtain ⟨xk,xn,xs,xl⟩:=x
  refine ⟨_,⟨by omega,dVals_get hx⟩,?_⟩
  refine call_p en112 (hw) ax rfl ?_
  refine ⟨⟨⟨List.length_replicate,by simp⟩,by simp [maxLen];omega,by simp;omega⟩,?_⟩
  exact ⟨coSt (.mk q z s ks) _ (e + 1) (e + 1),(weak_b 2 rfl (by repeat' (first | exact rfl | exact we_rfl rfl | exact we_int (nxt hlt (by omega)) | refine ⟨_,_,rfl,?_,?_⟩)) rfl rfl rfl (by repeat' (first | exact trivial | exact we_rfl rfl | exact we_int (nxt hlt (by omega)) | refine ⟨⟨_,rfl,?_⟩,?_⟩))),ks.length - (e + 1),by omega,e + 1,_,rfl,hsn,by omega,rfl⟩
 ·have hge:e=ks.length:=by
   have:=hL;simp [hdl,Val.ks] at this;omega
  subst hge
  rw [List.take_length] at hcs
  subst hcs
  exact ⟨_,[],(by repeat' (first | exact rfl | exact trivial | exact Or.inr (Or.inl ⟨_,rfl⟩) | exact Or.inr ⟨_,rfl⟩ | exact Or.inl ⟨rfl,rfl⟩ | exact Or.inl rfl | refine Or.inr ⟨_,_,rfl,Nat.zero_le _,rfl,?_⟩ | refine ⟨_,_,rfl,?_,?_⟩ | refine ⟨_,rfl,?_⟩ | exact ⟨Nat.le_of_ble_eq_true rfl,rfl⟩ | refine Or.inr (Or.inr (Or.inr ⟨_,_,rfl,?_⟩)) | exact Or.inl rfl | refine Or.inr ?_)),rfl,rfl,rfl⟩
def resG (o:Option (Val × Int)):DV:=match o with
 | some (x,j)=>.tup [.agg (dVal x),.v (.int .i64 j),.v (.bool true)]
 | none=>.tup [.agg (dVal zeroV),.v (.int .i64 (-1)),.v (.bool false)]
theorem sl_tail (s:Stp) (p:List Stp):DV.sl 3 (((dStps (s :: p)).take (((dStps (s :: p)).length:Nat):Int).toNat).drop (1:Int).toNat) none = .sl 3 (dStps p) none:=by
 rw [Int.toNat_natCast,List.take_length];all_goals rfl
abbrev gtSt (PC:List DV) (p:List Stp) (v:Val) (i:Int) (e:Nat):St:=
 ⟨[(0,⟨[],.pt PC 0⟩),(1,⟨[],.v (.int .i64 i)⟩),(6,⟨[],.loc 0 0⟩),(8,⟨[],.loc 1 0⟩),(21,⟨[],.sl 3 (dStps p) none⟩),(22,⟨[],.v (.int .i64 (dStps p).length)⟩),(23,⟨[],.v (.int .i64 e)⟩)],[dVal v,zVal],[]⟩
theorem tget_spec {S:Sch} {ND:List Nd} {PC:List DV} (hP:PlanR S ND PC) {v:Val} (hv:v.wt≤1099511627776) (i:Int) (p:List Stp) (hp:p.length≤1099511627776) :
  EvP Tryz.prog 45 [.pt PC 0,.v (.int .i64 i),.agg (dVal v),.sl 3 (dStps p) none] (resG (if fitV ND v i=true then getV ND p v i else none)):=by
 have hfit:=tfits_spec hP _ v (Nat.le_refl _) hv i
 have hdp:=dStps_len p
 have hgo:∀ e vc ic,e≤p.length→getV ND (p.drop e) vc ic=match p[e]? with | none=>some (vc,ic) | some s=>match stepV ND vc ic s with | none=>none | some (_,x,j)=>getV ND (p.drop (e + 1)) x j:=fun e vc ic he=>by
  cases hs:p[e]? with
  | none=>rw [List.drop_eq_nil_of_le (List.getElem?_eq_none_iff.1 hs)];all_goals rfl
  | some s=>
   obtain ⟨h1,h2⟩:=List.getElem?_eq_some_iff.1 hs
   rw [List.drop_eq_getElem_cons h1,h2,getV];all_goals rfl
 generalize hR:(if fitV ND v i=true then getV ND p v i else none)=R
 have hvq:dVal v=dVal v:=rfl
 generalize hvV:v=V at *
 obtain ⟨q,z,s,ks⟩:=V
 refine ev_go (P:=Tryz.prog) tt tt_ok 5000 48 [.cell 8 60,.tmp 9,.tmp 10] Tryz.func45 rfl Tryz.ntmps45 rfl (Nat.le_of_ble_eq_true rfl) (fun E9 w9 hn9 hm9=>?_)
 refine call_p en51 (hfit) ax rfl ?_
 refine br (fun c=>?_) (fun c=>?_)
 ·have c:fitV ND (.mk q z s ks) i=false:=by simpa using c
  rw [c] at hR
  subst hR
  exact ⟨_,ax,rfl⟩
 have c:fitV ND (.mk q z s ks) i=true:=by simpa using c
 rw [if_pos c] at hR
 refine loop_i (fun j st=>∃ (e:Nat) (vc:Val) (ic:Int),st=gtSt PC p vc ic e∧e≤p.length∧getV ND (p.drop e) vc ic=R∧fitV ND vc ic=true∧vc.wt≤1099511627776∧j=p.length - e) p.length (gtSt PC p (.mk q z s ks) i 0) (weak_b 2 rfl (by repeat' (first | exact rfl | exact we_rfl rfl | exact we_rfl rfl | refine ⟨_,_,rfl,?_,?_⟩)) rfl rfl rfl (by repeat' (first | exact trivial | exact we_rfl rfl | exact we_rfl rfl | refine ⟨⟨_,rfl,?_⟩,?_⟩))) ⟨0,_,_,rfl,by omega,hR,c,hv,by omega⟩ ?_
 rintro _ st ⟨e,vc,ic,rfl,he,hg,hfc,hvc,rfl⟩
 have hgo:=hgo e vc ic he
 rw [hg] at hgo
 refine br (fun hL=>?_) (fun hL=>?_)
 ·have hlt:e < p.length:=by simpa [hdp] using hL
  obtain ⟨y,hy⟩:∃ y,p[e]? = some y:=⟨_,List.getElem?_eq_getElem hlt⟩
  rw [hy] at hgo
  simp only at hgo
  have hk:=kid_spec hP hvc hfc y
  have hsf:=@step_fit _ _ hP.ok vc ic hfc y
  have hss:=@stepV_some ND vc ic y
  generalize stepV ND vc ic y=o at hk hgo hsf hss
  obtain ⟨yk,yn,ys⟩:=y
  obtain ⟨ck,cn,cs,cks⟩:=vc
  refine ⟨_,⟨by omega,dStps_get hy⟩,?_⟩
  refine call_p en111 (hk) ax rfl ?_
  cases o with
  | none=>
   simp only at hgo
   subst hgo
   exact ⟨_,ax,rfl⟩
  | some o=>
   obtain ⟨e2,x,j⟩:=o
   obtain ⟨d,_,_,hx,_⟩:=hss rfl
   have hxf:=hsf rfl
   simp only [Val.ks] at hx
   have hxw:=wtVs_mem (List.mem_of_getElem? hx)
   rw [Val.wt] at hvc
   simp only at hgo
   refine ⟨_,⟨by omega,by simpa using dVals_get hx⟩,?_⟩
   obtain ⟨xk,xn,xs,xl⟩:=x
   exact ⟨gtSt PC p (.mk xk xn xs xl) j (e + 1),(weak_b 2 rfl (by repeat' (first | exact rfl | exact we_rfl rfl | exact we_int (nxt hlt (by omega)) | refine ⟨_,_,rfl,?_,?_⟩)) rfl rfl rfl (by repeat' (first | exact trivial | exact we_rfl rfl | exact we_int (nxt hlt (by omega)) | refine ⟨⟨_,rfl,?_⟩,?_⟩))),p.length - (e + 1),by omega,e + 1,_,_,rfl,by omega,hgo.symm,hxf,by omega,rfl⟩
 ·have hge:e=p.length:=by
   have:=hL;simp [hdp] at this;omega
  have:p[e]? = none:=List.getElem?_eq_none (by omega)
  rw [this] at hgo
  simp only at hgo
  subst hgo
  have hw:=clone_spec _ vc (Nat.le_refl _) hvc
  obtain ⟨ck,cn,cs,cks⟩:=vc
  refine call_p en112 (hw) ax rfl ?_
  exact ⟨_,ax,rfl⟩
end Go.Proofs.YtdeaicofhmkebaaGreat
set_option maxRecDepth 100000
namespace Go.Proofs.YtdeaicofhmkebaaGreat
open Go Go.RowKit Dv Tryz
theorem flat_set {α:Type} {c:Nat} {x:List α}:∀ {l:List (List α)} {e:Nat},(∀ y∈l,y.length=c)→e < l.length→(l.set e x).flatten=l.flatten.take (e * c) ++ x ++ l.flatten.drop (e * c + c)
 | [],e,_,h=>by simp at h
 | y :: r,0,hl,h=>by
  have hy:=hl y (by simp)
  subst hy
  simp
 | y :: r,e + 1,hl,h=>by
  have hy:=hl y (by simp)
  have ih:=flat_set (x:=x) (l:=r) (e:=e) (fun z hz=>hl z (by simp [hz])) (by simpa using h)
  have h1:(e + 1) * c=y.length + e * c:=by rw [hy,Nat.add_mul,Nat.one_mul,Nat.add_comm]
  have h2:(e + 1) * c + c=y.length + (e * c + c):=by rw [h1];omega
  rw [List.set_cons_succ,List.flatten_cons,List.flatten_cons,ih,h2,h1,List.take_length_add_append,List.drop_length_add_append]
  simp
theorem dVals_cells:∀ (l:List Val),∀ x∈dVals l,x.length=4
 | [],x,h=>by simp [dVals] at h
 | .mk _ _ _ _ :: r,x,h=>by
  rw [dVals] at h
  rcases List.mem_cons.1 h with h | h
  ·rw [h];all_goals rfl
  ·exact dVals_cells r x h
theorem dVals_set (l:List Val) (e:Nat) (y:Val):dVals (l.set e y)=(dVals l).set e (dVal y):=by rw [dVals_map,dVals_map,List.map_set]
theorem tput_spec {S:Sch} {ND:List Nd} {PC:List DV} (hP:PlanR S ND PC) (x:Val) (hx:x.wt≤1099511627776):∀ (p:List Stp),p.length≤1099511627776→∀ (v:Val),v.wt≤1099511627776→∀ (i:Int),fitV ND v i=true→∀ r,getV ND p v i=some r →
  EvP Tryz.prog 113 [.pt PC 0,.v (.int .i64 i),.agg (dVal v),.sl 3 (dStps p) none,.agg (dVal x)] (.agg (dVal (setV ND p v i x)))
 | [],_,v,hv,i,hf,r,hg=>by
  have hw:=clone_spec _ x (Nat.le_refl _) hx
  rw [setV]
  obtain ⟨q,z,s,ks⟩:=v
  obtain ⟨xk,xn,xs,xl⟩:=x
  refine ev_go (P:=Tryz.prog) tt tt_ok 5000 47 [.cell 10 60] Tryz.func113 rfl Tryz.ntmps113 rfl (Nat.le_of_ble_eq_true rfl) (fun E9 w9 hn9 hm9=>?_)
  refine call_p en112 (hw) ax rfl ?_
  exact ⟨_,ax,rfl⟩
 | s :: p,hp,v,hv,i,hf,r,hg=>by
  have hkid:=kid_spec hP hv hf s
  have hsf:=@step_fit _ _ hP.ok v i hf s
  have hss:=@stepV_some ND v i s
  rw [getV] at hg
  rw [setV]
  rw [List.length_cons] at hp
  have htail:=sl_tail s p
  have hco:=clone_own v hv
  generalize stepV ND v i s=o at hkid hsf hss hg ⊢
  cases o with
  | none=>cases hg
  | some o=>
   obtain ⟨e,y,j⟩:=o
   obtain ⟨d,_,_,hy,_⟩:=hss rfl
   have hyf:=hsf rfl
   have hyw:=wtVs_mem (List.mem_of_getElem? hy)
   have hlt:=(List.getElem?_eq_some_iff.1 hy).1
   have hvw:v.wt=64 + v.s.size + wtVs v.ks:=by cases v;rw [Val.wt];all_goals rfl
   have hw:=tput_spec hP x hx p (by omega) y (by omega) j hyf r hg
   simp only
   generalize setV ND p y j x=u at hw
   obtain ⟨q,z,t,ks⟩:=v
   obtain ⟨xk,xn,xs,xl⟩:=x
   obtain ⟨uk,un,us,ul⟩:=u
   obtain ⟨yk,yn,ys,yl⟩:=y
   have hflat:=flat_set (x:=dVal (.mk uk un us ul)) (dVals_cells ks) (e:=e) (by rw [dVals_len];exact hlt)
   rw [← dVals_set] at hflat
   have hsc:=dVals_cells (ks.set e (.mk uk un us ul))
   have hsl:(dVals (ks.set e (.mk uk un us ul))).length=ks.length:=by rw [dVals_len,List.length_set]
   have hdl:=dVals_len ks
   have hds:=dStps_get (l:=s :: p) (e:=0) rfl
   have hdsl:=dStps_len (s :: p)
   rw [List.length_cons] at hdsl
   obtain ⟨sk,sn,ss⟩:=s
   simp only [Val.ks] at hlt hy hco
   simp only [vset,Val.k,Val.n,Val.s,Val.ks] at hco ⊢
   refine ev_go (P:=Tryz.prog) tt tt_ok 5000 47 [.cell 10 60] Tryz.func113 rfl Tryz.ntmps113 rfl (Nat.le_of_ble_eq_true rfl) (fun E9 w9 hn9 hm9=>?_)
   refine drawG_i (fun _=>false) mo (by decide +kernel) ?_
   refine ⟨_,⟨by omega,hds⟩,?_⟩
   refine callD_p en111 (hkid) ax rfl ?_
   refine call_f en112 rfl hco ax (fun r1 tks hr=>?_)
   obtain ⟨rfl,rfl⟩:=hr
   refine drawG_s mo (by decide +kernel) ?_
   refine ⟨_,⟨by omega,by simpa using dVals_get hy⟩,?_⟩
   refine ⟨⟨by omega,by omega,by omega⟩,?_⟩
   refine callD_own (e:=4) (es:=List.replicate ks.length []) (m:=ks.length) en113 rfl hw (by repeat' (first | exact rfl | exact trivial | exact Or.inr (Or.inl ⟨_,rfl⟩) | exact Or.inr ⟨_,rfl⟩ | exact Or.inl ⟨rfl,rfl⟩ | exact Or.inl rfl | refine Or.inr ⟨_,_,rfl,Nat.zero_le _,rfl,?_⟩ | refine ⟨_,_,rfl,?_,?_⟩ | refine ⟨_,rfl,?_⟩ | exact Or.inr (Or.inl ⟨_,htail⟩) | refine Or.inr (Or.inr (Or.inr ⟨_,_,rfl,?_⟩)) | exact Or.inl rfl | refine Or.inr ?_)) ⟨rfl,rfl,rfl⟩ ⟨rfl,rfl,rfl⟩ rfl rfl rfl rfl rfl rfl (by decide) rfl rfl rfl List.length_replicate ⟨by omega,by omega⟩ rfl ?_
   refine ⟨_,wk_own (j:=3) (o:=3) (k:=0) (ty:=60) (e:=4) (ocs:=[.v (.int .i64 q),.v (.int .i64 z),.v (.string t),.sl 0 (List.replicate ks.length []) (some 0)]) (n:=ks.length) (es:=List.replicate ks.length []) (ns:=dVals (ks.set e (.mk uk un us ul))) ?_ hsc hsl rfl rfl List.length_replicate,?_⟩
   ·rw [hflat]
    rfl
   ·exact ⟨_,ax,rfl⟩
def resS (o:Option Val):DV:=match o with
 | some y=>.tup [.agg (dVal y),.v (.bool true)]
 | none=>.tup [.agg (dVal zeroV),.v (.bool false)]
theorem tset_spec {S:Sch} {ND:List Nd} {PC:List DV} (hP:PlanR S ND PC) {v x:Val} (hv:v.wt≤1099511627776) (hx:x.wt≤1099511627776) (i:Int) (p:List Stp) (hp:p.length≤1099511627776) :
  EvP Tryz.prog 46 [.pt PC 0,.v (.int .i64 i),.agg (dVal v),.sl 3 (dStps p) none,.agg (dVal x)]
   (resS (match (if fitV ND v i=true then getV ND p v i else none) with | none=>none | some (_,j)=>if fitV ND x j=true then some (setV ND p v i x) else none)):=by
 have hget:=tget_spec hP hv i p hp
 have hfx:=fun j=>tfits_spec hP _ x (Nat.le_refl _) hx j
 have hput:=fun hf r hr=>tput_spec hP x hx p hp v hv i hf r hr
 by_cases hf:fitV ND v i=true
 ·rw [if_pos hf] at hget ⊢
  have hput:=hput hf
  generalize getV ND p v i=o at hget hput ⊢
  cases o with
  | none=>
   obtain ⟨q,z,s,ks⟩:=v
   obtain ⟨xk,xn,xs,xl⟩:=x
   refine ev_go (P:=Tryz.prog) tt tt_ok 5000 40 [.cell 10 60,.tmp 11] Tryz.func46 rfl Tryz.ntmps46 rfl (Nat.le_of_ble_eq_true rfl) (fun E9 w9 hn9 hm9=>?_)
   refine call_p en45 (hget) ax rfl ?_
   exact ⟨_,ax,rfl⟩
  | some r=>
   obtain ⟨y,j⟩:=r
   have hput2:=hput _ rfl
   clear hput
   have hfx:=hfx j
   generalize setV ND p v i x=u at hput2 ⊢
   simp only
   obtain ⟨q,z,s,ks⟩:=v
   obtain ⟨xk,xn,xs,xl⟩:=x
   obtain ⟨uk,un,us,ul⟩:=u
   obtain ⟨yk,yn,ys,yl⟩:=y
   refine ev_go (P:=Tryz.prog) tt tt_ok 5000 40 [.cell 10 60,.tmp 11] Tryz.func46 rfl Tryz.ntmps46 rfl (Nat.le_of_ble_eq_true rfl) (fun E9 w9 hn9 hm9=>?_)
   refine call_p en45 (hget) ax rfl ?_
   refine call_p en51 (hfx) ax rfl ?_
   cases hc:fitV ND (.mk xk xn xs xl) j with
   | false=>exact ⟨_,ax,rfl⟩
   | true=>
    refine call_p en113 (hput2) ax rfl ?_
    exact ⟨_,ax,rfl⟩
 ·rw [if_neg hf] at hget ⊢
  obtain ⟨q,z,s,ks⟩:=v
  obtain ⟨xk,xn,xs,xl⟩:=x
  refine ev_go (P:=Tryz.prog) tt tt_ok 5000 40 [.cell 10 60,.tmp 11] Tryz.func46 rfl Tryz.ntmps46 rfl (Nat.le_of_ble_eq_true rfl) (fun E9 w9 hn9 hm9=>?_)
  refine call_p en45 (hget) ax rfl ?_
  exact ⟨_,ax,rfl⟩
end Go.Proofs.YtdeaicofhmkebaaGreat
set_option maxRecDepth 100000
namespace Go.Proofs.YtdeaicofhmkebaaGreat
open Go Go.RowKit Dv Tryz
theorem dStps_snoc (l:List Stp) (x:Stp):dStps l ++ [dStp x]=dStps (l ++ [x]):=by simp [dStps]
theorem dPths_app (a b:List (List Stp)):dPths a ++ dPths b=dPths (a ++ b):=by simp [dPths]
end Go.Proofs.YtdeaicofhmkebaaGreat
set_option maxRecDepth 100000
namespace Go.Proofs.YtdeaicofhmkebaaGreat
open Go Go.RowKit Dv Tryz
def dP:List Stp→DV
 | []=>.v (.slice none 0 0)
 | s :: p=>.sl 3 (dStps (s :: p)) none
theorem clonep_spec (p:List Stp) (hl:p.length≤1099511627776):EvP Tryz.prog 167 [dP p] (.sl 3 (dStps p) none):=by
 cases p with
 | nil=>
  refine evp_nil ?_
  refine ev_go (P:=Tryz.prog) tt tt_ok 5000 8 [.tmp 2] Tryz.func167 rfl Tryz.ntmps167 rfl (Nat.le_of_ble_eq_true rfl) (fun E9 w9 hn9 hm9=>?_)
  refine op_nilv ⟨_,rfl⟩ rfl rfl rfl rfl ?_
  exact Or.inr ⟨rfl,rfl⟩
 | cons s p=>
  have hdl:=dStps_len (s :: p)
  have hne:dStps (s :: p) ≠ []:=by simp [dStps]
  refine ev_go (P:=Tryz.prog) tt tt_ok 5000 8 [.tmp 2] Tryz.func167 rfl Tryz.ntmps167 rfl (Nat.le_of_ble_eq_true rfl) (fun E9 w9 hn9 hm9=>?_)
  refine op_nil ⟨_,rfl⟩ rfl rfl rfl rfl (fun b hb=>?_)
  rw [hb hne]
  refine op_empty rfl rfl rfl rfl (hk:=?_)
  refine ⟨rfl,⟨by simp [maxLen,hdl];simp at hl;omega,by simp [hdl];simp at hl;omega⟩,?_⟩
  exact ⟨_,ax,rfl⟩
theorem clonep_n:EvP Tryz.prog 167 [.v (.slice none 0 0)] (.v (.slice none 0 0)):=by
 refine ev_go (P:=Tryz.prog) tt tt_ok 5000 8 [.tmp 2] Tryz.func167 rfl Tryz.ntmps167 rfl (Nat.le_of_ble_eq_true rfl) (fun E9 w9 hn9 hm9=>?_)
 refine op_nilv ⟨_,rfl⟩ rfl rfl rfl rfl ?_
 exact (rfl:_=_)
theorem clonep_f (s:Stp) (p:List Stp) (hl:(s :: p).length≤1099511627776):EvF Tryz.prog 167 [.sl 3 (dStps (s :: p)) none] [] [] (fun r _ tks=>r = .sl 3 (dStps (s :: p)) (some 0)∧tks=[⟨(s :: p).length,173,3,none⟩]):=by
 have hdl:=dStps_len (s :: p)
 have hne:dStps (s :: p) ≠ []:=by simp [dStps]
 refine evB_gom (s:=false) (bt:=[]) (mu:=[]) (hbt:=fun p hp=>by cases hp) (fr:=true) (P:=Tryz.prog) tt tt_ok 5000 8 [.tmp 2] Tryz.func167 rfl Tryz.ntmps167 rfl (Nat.le_of_ble_eq_true rfl) (fun E9 w9 hn9 hm9=>?_)
 refine op_nil ⟨_,rfl⟩ rfl rfl rfl rfl (fun b hb=>?_)
 rw [hb hne]
 refine op_empty rfl rfl rfl rfl (hk:=?_)
 refine ⟨rfl,⟨by simp [maxLen,hdl];simp at hl;omega,by simp [hdl];simp at hl;omega⟩,?_⟩
 refine ⟨_,[],(by repeat' (first | exact rfl | exact trivial | exact Or.inr (Or.inl ⟨_,rfl⟩) | exact Or.inr ⟨_,rfl⟩ | exact Or.inl ⟨rfl,rfl⟩ | exact Or.inl rfl | refine Or.inr ⟨_,_,rfl,Nat.zero_le _,rfl,?_⟩ | refine ⟨_,_,rfl,?_,?_⟩ | refine ⟨_,rfl,?_⟩ | exact ⟨Nat.le_of_ble_eq_true rfl,rfl⟩ | refine Or.inr (Or.inr (Or.inr ⟨_,_,rfl,?_⟩)) | exact Or.inl rfl | refine Or.inr ?_)),rfl,rfl,?_⟩
 show [(⟨0 + (dStps (s :: p)).length,_,3,none⟩:TkE)]=_
 rw [hdl,Nat.zero_add]
abbrev twkSt (PC:List DV) (v:Val) (d:Nd) (p:List Stp) (L:List (List Stp)) (l:List Int) (SL:List Stp) (n e:Nat):St:=
 ⟨[(0,⟨[],.pt PC 0⟩),(3,⟨[],dP p⟩),(6,⟨[],.loc 0 0⟩),(9,⟨[],.sl 1 (dPths L) (some 0)⟩),(10,⟨[],.loc 1 0⟩),(12,⟨[],.sl 1 (dZs l) none⟩),(38,⟨[],.sl 3 (dStps SL) none⟩),(39,⟨[],.v (.int .i64 (dStps SL).length)⟩),(40,⟨[],.v (.int .i64 e)⟩)],[dVal v,dNd d],[⟨n,74,1,none⟩]⟩
theorem walk_spec {S:Sch} {ND:List Nd} {PC:List DV} (hP:PlanR S ND PC):∀ (k:Nat) (v:Val),v.wt≤k→∀ (i:Int) (p:List Stp),p.length + v.wt≤1099511627776→fitV ND v i=true →
  EvP Tryz.prog 95 [.pt PC 0,.v (.int .i64 i),.agg (dVal v),dP p] (.sl 1 (dPths (pathV ND v i p)) none)
 | 0,v,h=>by have:=v.wt_pos;omega
 | k + 1,v,h=>fun i p hb hfit=>by
  have ih:=walk_spec hP k
  obtain ⟨d,hF⟩:=fit_facts hP.ok hfit
  have hpV:pathV ND v i p=p :: pathVs ND v.ks (kidsL d v) (fun e=>p ++ [stpR d v e]) 0:=by
   obtain ⟨q,z,s,ks⟩:=v
   rw [pathV,hF.node]
   rfl
  have hsts:=tsteps_spec hP.ok (by omega) hF
  have hstg:∀ e,e < v.ks.length→(stpL d v)[e]? = some (stpR d v e):=fun e he=>by
   unfold stpL
   rw [List.getElem?_map,List.getElem?_range he];all_goals rfl
  have hstl:(stpL d v).length=v.ks.length:=by simp [stpL]
  obtain ⟨h0,hg⟩:=nodeA_some hF.node
  have hN:=hP.ok d (List.mem_of_getElem? hg)
  have hkd:=fun h5=>kids_spec hN h5 v (by omega)
  obtain ⟨j,rfl⟩:∃ j:Nat,i=j:=⟨i.toNat,by omega⟩
  have hg:ND[j]? = some d:=by simpa using hg
  have hnode:=hP.node j d hg
  have hkids:=hF.kids
  have hleaf:=hF.leaf
  rw [hpV]
  generalize hfs:(fun e=>p ++ [stpR d v e])=fS
  have hfS:∀ e,fS e=p ++ [stpR d v e]:=fun e=>by rw [← hfs]
  have hpl:=fun a b=>pathVs_len (ND:=ND) a b fS 0
  have hpc:=fun x i' e=>pathV_len (ND:=ND) x i' (fS e)
  generalize hst:stpR d v=sR at hfS hstg
  generalize stpL d v=SL at hsts hstg hstl
  have hcl:=clonep_spec p (by omega)
  have hcf:=fun s q (h:p=s :: q)=>clonep_f s q (by rw [← h];omega)
  have hccP:∀ bx N n0 m0,Cc bx N n0 m0 (dP p) (dP p):=fun bx N n0 m0=>by
   cases p with
   | nil=>simp only [dP,Cc]
   | cons s p=>simp only [dP,Cc];exact .inr (.inl ⟨_,rfl⟩)
  have hclP:∀ n m tk,We n m tk (dP p) (dP p):=fun n m tk=>.inl ⟨rfl,by cases p<;>rfl⟩
  obtain ⟨q,z,s,ks⟩:=v
  have hdl:=dVals_len ks
  have hkl:=wtVs_len ks
  have hdp:=dStps_len p
  have hsl:=dStps_len SL
  have hcw:=(cntVs_wt ks).1
  rw [Val.wt] at h hb
  simp only [Val.ks] at hkids hleaf hstg hstl ⊢
  generalize kidsL d (.mk q z s ks)=l at hkids hkd ⊢
  generalize kidsB d (.mk q z s ks)=lb at hkd
  obtain ⟨kind,at',lo,hi,most,names,es⟩:=d
  simp only at hkids hleaf
  refine evB_gom (s:=false) (bt:=[]) (mu:=[18]) (hbt:=fun p hp=>by cases hp) (fr:=false) (P:=Tryz.prog) tt tt_ok 5000 65 [.tmp 8] Tryz.func95 rfl Tryz.ntmps95 rfl (Nat.le_of_ble_eq_true rfl) (fun E9 w9 hn9 hm9=>?_)
  refine call_p en167 (hcl) (by repeat' (first | exact rfl | exact trivial | exact Or.inr (Or.inl ⟨_,rfl⟩) | exact Or.inr ⟨_,rfl⟩ | exact Or.inl ⟨rfl,rfl⟩ | exact Or.inl rfl | refine Or.inr ⟨_,_,rfl,Nat.zero_le _,rfl,?_⟩ | refine ⟨_,_,rfl,?_,?_⟩ | refine ⟨_,rfl,?_⟩ | exact hccP _ _ _ _| refine Or.inr (Or.inr (Or.inr ⟨_,_,rfl,?_⟩)) | exact Or.inl rfl | refine Or.inr ?_)) rfl ?_
  refine op_lit rfl rfl rfl rfl rfl rfl rfl rfl ?_
  refine call_p en19 (hnode) ax rfl ?_
  refine br (fun hz=>?_) (fun hz=>?_)
  ·have hz:ks=[]:=by
    have:=hz;simp [hdl] at this;exact this
   subst hz
   exact ⟨_,ax,rfl⟩
  have hz:0 < ks.length:=by
   have:=hz;simp [hdl] at this;exact List.length_pos_iff.2 this
  have h5:5≤kind:=by
   rcases Int.lt_or_le kind 5 with h5 | h5
   ·rw [hleaf h5] at hz;simp at hz
   ·exact h5
  obtain ⟨hll,hfs2⟩:=hkids h5
  have hkd:=hkd h5
  refine call_p en118 (hkd) ax rfl ?_
  refine call_p en168 (hsts) ax rfl ?_
  refine loop_i (fun j st=>∃ (e n:Nat),st=twkSt PC (.mk q z s ks) ⟨kind,at',lo,hi,most,names,es⟩ p (p :: pathVs ND (ks.take e) (l.take e) fS 0) l SL n e∧n=(p :: pathVs ND (ks.take e) (l.take e) fS 0).length∧e≤ks.length∧j=ks.length - e) ks.length
   (twkSt PC (.mk q z s ks) ⟨kind,at',lo,hi,most,names,es⟩ p [p] l SL 1 0) (weak_b 2 rfl (by repeat' (first | exact rfl | exact we_rfl rfl | exact hclP _ _ _ | refine ⟨_,_,rfl,?_,?_⟩)) rfl rfl rfl (by repeat' (first | exact trivial | exact we_rfl rfl | exact hclP _ _ _ | refine ⟨⟨_,rfl,?_⟩,?_⟩))) ⟨0,1,rfl,rfl,by omega,by omega⟩ ?_
  rintro _ st ⟨e,n,rfl,hn,he,rfl⟩
  refine br (fun hL=>?_) (fun hL=>?_)
  ·have hlt:e < ks.length:=by simpa [hsl,hstl] using hL
   obtain ⟨x,hx⟩:∃ x,ks[e]? = some x:=⟨_,List.getElem?_eq_getElem hlt⟩
   obtain ⟨i',hi'⟩:∃ i',l[e]? = some i':=⟨_,List.getElem?_eq_getElem (by omega)⟩
   have hxw:=wtVs_mem (List.mem_of_getElem? hx)
   have hw:=ih x (by omega) i' (p ++ [sR e]) (by simp;omega) (fitVs_at hfs2 hx hi')
   have hsn:=pathVs_snoc (ND:=ND) (f:=fS) (b:=0) hx hi'
   rw [Nat.zero_add,hfS] at hsn
   have hl1:=hpl (ks.take e) (l.take e)
   have hl2:=hpc x i' e
   rw [hfS] at hl2
   have hl3:=(cntVs_take ks e).1
   have hl4:=(cntV_wt x).1
   have hsg:=hstg e hlt
   have hsn2:dPths (p :: pathVs ND (ks.take e) (l.take e) fS 0) ++ dPths (pathV ND x i' (p ++ [sR e]))=dPths (p :: pathVs ND (ks.take (e + 1)) (l.take (e + 1)) fS 0):=by
    rw [dPths_app,hsn];all_goals rfl
   have hdl1:=dPths_len (p :: pathVs ND (ks.take e) (l.take e) fS 0)
   rw [List.length_cons] at hdl1 hn
   generalize pathVs ND (ks.take e) (l.take e) fS 0=P1 at hsn hl1 hsn2 hdl1 hn ⊢
   have hdl2:=dPths_len (pathV ND x i' (p ++ [sR e]))
   have hsl2:(pathVs ND (ks.take (e + 1)) (l.take (e + 1)) fS 0).length=P1.length + (pathV ND x i' (p ++ [sR e])).length:=by rw [hsn,List.length_append]
   generalize pathV ND x i' (p ++ [sR e])=P2 at hw hsn2 hdl2 hl2 hsl2
   obtain ⟨xk,xn,xs,xl⟩:=x
   have hss:=dStps_snoc p (sR e)
   generalize hsr:sR e=sr at hw hss hsg
   have hdP:dP (p ++ [sr]) = .sl 3 (dStps (p ++ [sr])) none:=by cases p<;>rfl
   rw [hdP] at hw
   refine ⟨_,⟨by omega,dStps_get hsg⟩,?_⟩
   rcases p with _ | ⟨s0,p⟩
   ·apply drawG_two (fun _=>false) 12 14 [0,1,2,3,4,5,6,7,8,9,10,11,12,13,14,15,16,17,18] [0,1,2,3,4,5,6,7,8,9,10,11,13,14,12,15,16,17,18] 0 0 mo (by decide +kernel)
    ·refine ⟨_,⟨by omega,dZs_get hi'⟩,?_⟩
     refine ⟨_,⟨by omega,dVals_get hx⟩,?_⟩
     refine callD_p en167 (clonep_n) ax rfl ?_
     refine ⟨by simp [maxLen],?_⟩
     refine callD_p en95 (hw) (by repeat' (first | exact rfl | exact trivial | exact Or.inr (Or.inl ⟨_,rfl⟩) | exact Or.inr ⟨_,rfl⟩ | exact Or.inl ⟨rfl,rfl⟩ | exact Or.inl rfl | refine Or.inr ⟨_,_,rfl,Nat.zero_le _,rfl,?_⟩ | refine ⟨_,_,rfl,?_,?_⟩ | refine ⟨_,rfl,?_⟩ | exact Or.inr (Or.inl ⟨_,congrArg (fun l=>DV.sl 3 l _) hss⟩)| refine Or.inr (Or.inr (Or.inr ⟨_,_,rfl,?_⟩)) | exact Or.inl rfl | refine Or.inr ?_)) rfl ?_
     refine ⟨by rw [hdl1,hn],⟨by rw [hdl1,hdl2];simp [maxLen];omega,by rw [hdl1,hdl2];omega⟩,?_⟩
     refine (?_:@Eq St _ _)
     exact rfl
    ·refine ⟨_,⟨by omega,dZs_get hi'⟩,?_⟩
     refine ⟨_,⟨by omega,dVals_get hx⟩,?_⟩
     refine callD_p en167 (clonep_n) ax rfl ?_
     refine ⟨by simp [maxLen],?_⟩
     refine callD_p en95 (hw) (by repeat' (first | exact rfl | exact trivial | exact Or.inr (Or.inl ⟨_,rfl⟩) | exact Or.inr ⟨_,rfl⟩ | exact Or.inl ⟨rfl,rfl⟩ | exact Or.inl rfl | refine Or.inr ⟨_,_,rfl,Nat.zero_le _,rfl,?_⟩ | refine ⟨_,_,rfl,?_,?_⟩ | refine ⟨_,rfl,?_⟩ | exact Or.inr (Or.inl ⟨_,congrArg (fun l=>DV.sl 3 l _) hss⟩)| refine Or.inr (Or.inr (Or.inr ⟨_,_,rfl,?_⟩)) | exact Or.inl rfl | refine Or.inr ?_)) rfl ?_
     refine ⟨by rw [hdl1,hn],⟨by rw [hdl1,hdl2];simp [maxLen];omega,by rw [hdl1,hdl2];omega⟩,?_⟩
     refine (⟨rfl,rfl,?_⟩:_∧_∧_)
     repeat' (first | exact trivial | refine ⟨rfl,?_⟩)
    ·rfl
    exact ⟨twkSt PC (.mk q z s ks) ⟨kind,at',lo,hi,most,names,es⟩ [] ([] :: pathVs ND (ks.take (e + 1)) (l.take (e + 1)) fS 0) l SL (n + (dPths P2).length) (e + 1),(weak_bd 2 rfl (by repeat' (first | exact rfl | exact we_rfl rfl | exact we_int (nxt hlt (by omega)) | exact we_sl hsn2 rfl | refine ⟨_,_,rfl,?_,?_⟩)) ⟨_,rfl⟩ rfl rfl (by repeat' (first | exact trivial | exact we_rfl rfl | exact we_int (nxt hlt (by omega)) | exact we_sl hsn2 rfl | refine ⟨⟨_,rfl,?_⟩,?_⟩))),ks.length - (e + 1),by omega,e + 1,_,rfl,by rw [hdl2,List.length_cons,hsl2,hn];omega,by omega,rfl⟩
   ·apply drawG_two (fun _=>false) 12 14 [0,1,2,3,4,5,6,7,8,9,10,11,12,13,14,15,16,17,18] [0,1,2,3,4,5,6,7,8,9,10,11,13,14,12,15,16,17,18] 0 0 mo (by decide +kernel)
    ·refine ⟨_,⟨by omega,dZs_get hi'⟩,?_⟩
     refine ⟨_,⟨by omega,dVals_get hx⟩,?_⟩
     refine callD_f en167 rfl (hcf s0 p rfl) ax (fun res tks hr=>?_)
     obtain ⟨rfl,rfl⟩:=hr
     refine ⟨by rw [hdp],⟨by rw [hdp];simp [maxLen];simp at hb;omega,by rw [hdp];simp;simp at hb;omega⟩,?_⟩
     refine callD_p en95 (hw) (by repeat' (first | exact rfl | exact trivial | exact Or.inr (Or.inl ⟨_,rfl⟩) | exact Or.inr ⟨_,rfl⟩ | exact Or.inl ⟨rfl,rfl⟩ | exact Or.inl rfl | refine Or.inr ⟨_,_,rfl,Nat.zero_le _,rfl,?_⟩ | refine ⟨_,_,rfl,?_,?_⟩ | refine ⟨_,rfl,?_⟩ | exact Or.inr (Or.inl ⟨_,congrArg (fun l=>DV.sl 3 l _) hss⟩)| refine Or.inr (Or.inr (Or.inr ⟨_,_,rfl,?_⟩)) | exact Or.inl rfl | refine Or.inr ?_)) rfl ?_
     refine ⟨by rw [hdl1,hn],⟨by rw [hdl1,hdl2];simp [maxLen];omega,by rw [hdl1,hdl2];omega⟩,?_⟩
     refine (?_:@Eq St _ _)
     exact rfl
    ·refine ⟨_,⟨by omega,dZs_get hi'⟩,?_⟩
     refine ⟨_,⟨by omega,dVals_get hx⟩,?_⟩
     refine callD_f en167 rfl (hcf s0 p rfl) ax (fun res tks hr=>?_)
     obtain ⟨rfl,rfl⟩:=hr
     refine ⟨by rw [hdp],⟨by rw [hdp];simp [maxLen];simp at hb;omega,by rw [hdp];simp;simp at hb;omega⟩,?_⟩
     refine callD_p en95 (hw) (by repeat' (first | exact rfl | exact trivial | exact Or.inr (Or.inl ⟨_,rfl⟩) | exact Or.inr ⟨_,rfl⟩ | exact Or.inl ⟨rfl,rfl⟩ | exact Or.inl rfl | refine Or.inr ⟨_,_,rfl,Nat.zero_le _,rfl,?_⟩ | refine ⟨_,_,rfl,?_,?_⟩ | refine ⟨_,rfl,?_⟩ | exact Or.inr (Or.inl ⟨_,congrArg (fun l=>DV.sl 3 l _) hss⟩)| refine Or.inr (Or.inr (Or.inr ⟨_,_,rfl,?_⟩)) | exact Or.inl rfl | refine Or.inr ?_)) rfl ?_
     refine ⟨by rw [hdl1,hn],⟨by rw [hdl1,hdl2];simp [maxLen];omega,by rw [hdl1,hdl2];omega⟩,?_⟩
     refine (⟨rfl,rfl,?_⟩:_∧_∧_)
     repeat' (first | exact trivial | refine ⟨rfl,?_⟩)
    ·rfl
    exact ⟨twkSt PC (.mk q z s ks) ⟨kind,at',lo,hi,most,names,es⟩ (s0 :: p) ((s0 :: p) :: pathVs ND (ks.take (e + 1)) (l.take (e + 1)) fS 0) l SL (n + (dPths P2).length) (e + 1),(weak_bd 2 rfl (by repeat' (first | exact rfl | exact we_rfl rfl | exact we_int (nxt hlt (by omega)) | exact we_sl hsn2 rfl | refine ⟨_,_,rfl,?_,?_⟩)) ⟨_,rfl⟩ rfl rfl (by repeat' (first | exact trivial | exact we_rfl rfl | exact we_int (nxt hlt (by omega)) | exact we_sl hsn2 rfl | refine ⟨⟨_,rfl,?_⟩,?_⟩))),ks.length - (e + 1),by omega,e + 1,_,rfl,by rw [hdl2,List.length_cons,hsl2,hn];omega,by omega,rfl⟩
  ·have hge:e=ks.length:=by
    have:=hL;simp [hsl,hstl] at this;omega
   subst hge
   have h1:pathVs ND (ks.take ks.length) (l.take ks.length) fS 0=pathVs ND ks l fS 0:=by
    rw [List.take_length,← hll,List.take_length]
   rw [h1]
   exact ⟨_,ax,rfl⟩
def resP (o:Option (List (List Stp))):DV:=match o with
 | some l=>.sl 1 (dPths l) none
 | none=>.v (.slice none 0 0)
theorem tpaths_spec {S:Sch} {ND:List Nd} {PC:List DV} (hP:PlanR S ND PC) {v:Val} (hv:v.wt≤1099511627776) (i:Int) :
  EvP Tryz.prog 30 [.pt PC 0,.v (.int .i64 i),.agg (dVal v)] (resP (if fitV ND v i=true then some (pathV ND v i []) else none)):=by
 have hfit:=tfits_spec hP _ v (Nat.le_refl _) hv i
 have hw:=walk_spec hP _ v (Nat.le_refl _) i [] (by simpa using hv)
 generalize fitV ND v i=b at hfit hw ⊢
 obtain ⟨q,z,s,ks⟩:=v
 refine ev_go (P:=Tryz.prog) tt tt_ok 5000 16 [.tmp 6] Tryz.func30 rfl Tryz.ntmps30 rfl (Nat.le_of_ble_eq_true rfl) (fun E9 w9 hn9 hm9=>?_)
 refine call_p en51 (hfit) ax rfl ?_
 cases b with
 | false=>exact (rfl:_=_)
 | true=>
  refine call_p en95 (hw rfl) ax rfl ?_
  exact ⟨_,ax,rfl⟩
end Go.Proofs.YtdeaicofhmkebaaGreat
set_option maxRecDepth 100000
namespace Go.Proofs.YtdeaicofhmkebaaGreat
open Go Go.RowKit Dv Tryz
theorem cells_step:Tryz.prog.cellsOf 173=3:=by kernel_rfl
def rngStp (p:List Stp):Prop:=∀ s∈p,(-9223372036854775808≤s.k∧s.k≤9223372036854775807)∧(-9223372036854775808≤s.n∧s.n≤9223372036854775807)
def wtStp:List Stp→Nat
 | []=>0
 | s :: p=>64 + s.s.size + wtStp p
theorem wtStp_len:∀ p:List Stp,64 * p.length≤wtStp p
 | []=>Nat.le_refl _
 | s :: p=>by
  have:=wtStp_len p
  rw [wtStp,List.length_cons];omega
theorem typ_stps {m:Nat}:∀ {es:List (List DV)},(∀ cs∈es,Typ Tryz.prog m 173 cs)→∃ p:List Stp,es=dStps p∧rngStp p∧wtStp p≤wgEs es
 | [],h=>⟨[],rfl,(fun _ h=>by cases h),by simp [wtStp]⟩
 | cs :: r,h=>by
  obtain ⟨p,rfl,hr,hl⟩:=typ_stps (es:=r) (fun c hc=>h c (List.mem_cons_of_mem _ hc))
  obtain ⟨m',rfl,hf⟩:=typ_st Tryz.underlying173 (h cs (by simp))
  obtain ⟨a1,b1,rfl,h1,a2,b2,rfl,h2,a3,b3,rfl,h3,rfl⟩:=hf
  obtain ⟨k,rfl,hk⟩:=typ_i h1
  obtain ⟨z,rfl,hz⟩:=typ_i h2
  obtain ⟨s,rfl⟩:=typ_str Tryz.underlying9 h3
  refine ⟨⟨k,z,s⟩ :: p,rfl,fun x hx=>?_,?_⟩
  ·rcases List.mem_cons.1 hx with rfl | hx
   ·exact ⟨hk,hz⟩
   ·exact hr x hx
  ·simp only [wtStp,wgEs,wgL_append,wgL,wgD] at *
   omega
theorem typ_path {n:Nat} {ds:List DV} (h:Typ Tryz.prog n 74 ds):∃ p:List Stp,ds=[.sl 3 (dStps p) none]∧rngStp p∧wtStp p≤wgL ds:=by
 obtain ⟨j,es,rfl,rfl,hes⟩:=typ_sl Tryz.underlying74 h
 obtain ⟨p,rfl,hr,hl⟩:=typ_stps hes
 rw [cells_step]
 exact ⟨p,rfl,hr,by simp only [wgL,wgD];omega⟩
def dQ (p:List Stp) (x:Val):List DV:=.sl 3 (dStps p) none :: dVal x
theorem typ_q {n:Nat} {ds:List DV} (h:Typ Tryz.prog n 92 ds):∃ p x,ds=dQ p x∧rngStp p∧wtStp p + x.wt≤wgL ds:=by
 obtain ⟨m,rfl,hf⟩:=typ_st Tryz.underlying92 h
 obtain ⟨a1,b1,rfl,h1,a2,b2,rfl,h2,rfl⟩:=hf
 obtain ⟨p,rfl,hr,wp⟩:=typ_path h1
 obtain ⟨x,rfl,wx⟩:=typ_val m a2 h2
 refine ⟨p,x,by simp [dQ],hr,?_⟩
 simp only [wgL_append]
 omega
def tyQS:List TypeId:=[92,74,173,60,58,9,3]
theorem tyQS_ok:∀ t∈tyQS,flatOK Tryz.prog tyQS t=true:=by
 have h:(tyQS.all fun t=>flatOK Tryz.prog tyQS t)=true:=by kernel_rfl
 exact fun t ht=>List.all_eq_true.1 h t ht
end Go.Proofs.YtdeaicofhmkebaaGreat
namespace Go.Proofs.YtdeaicofhmkebaaGreat
namespace Dv
open Go Go.RowKit
section
variable {P:Program} {ops:Array Oper} {C:World→Prop} {Q:Act→World→Prop} {W:Nat→Bool} {x:Nat}
def runX (P:Program) (ops:Array Oper) (W:Nat→Bool) (C:World→Prop) (Q:Act→World→Prop) (x:Nat):List Nat→Act→World→Prop
 | [],a,w=>runT P ops W C Q [x] a w
 | i :: r,a,w=>
  match ops[i]? with
  | none=>False
  | some o=>
   if ordB ops ops.size x i=true then runT P ops W C Q (x :: i :: r) a w
   else if isE o.op=true then runT P ops W C Q (x :: i :: r) a w∧stepX P ops o a w fun a' w'=>(W i=false→C w→C w')∧runX P ops W C Q x r a' w'
   else ∃ v,Yl P ops C o v a∧(isL o.op=true→C w)∧runX P ops W C Q x r (a.put o.dst v) w
theorem runX_now {xo:Oper} (hsel:∀ (j:Nat) (o:Oper) cs b,ops[j]? = some o→o.op ≠ .select cs b) (hx:ops[x]? = some xo) (hxE:isE xo.op=true) (hWx:∀ (j:Nat) (o:Oper),ops[j]? = some o→isL o.op=true→W x=false) :
  ∀ (rem:List Nat) (a:Act) (w:World),runX P ops W C Q x rem a w→(∀ j∈rem,∀ o,ops[j]? = some o→isE o.op=false→ordB ops ops.size x j=false→swapB ops W x j=true) →
   stepX P ops xo a w (fun a' w'=>(W x=false→C w→C w')∧runT P ops W C Q rem a' w')
 | [],a,w,hr,_=>by
  simp only [runX,runT,hx,hxE,if_true] at hr
  exact hr
 | i :: r,a,w,hr,hsw=>by
  have hnow:runT P ops W C Q (x :: i :: r) a w→stepX P ops xo a w (fun a' w'=>(W x=false→C w→C w')∧runT P ops W C Q (i :: r) a' w'):=fun h=>by
   unfold runT at h
   rw [hx] at h
   simp only [hxE,if_true] at h
   exact h
  cases ho:ops[i]? with
  | none=>simp only [runX,ho] at hr
  | some o=>
   simp only [runX,ho] at hr
   by_cases hd:ordB ops ops.size x i=true
   ·rw [if_pos hd] at hr;exact hnow hr
   ·rw [if_neg hd] at hr
    by_cases he:isE o.op=true
    ·rw [if_pos he] at hr;exact hnow hr.1
    ·rw [if_neg he] at hr
     obtain ⟨v,hy,hc,hr'⟩:=hr
     have hd':ordB ops ops.size x i=false:=by simpa using hd
     have he':isE o.op=false:=by simpa using he
     obtain ⟨ap1,ap2,_,_⟩:=swapB_spec (hsw i (by simp) o ho he' hd') hx ho
     have hsx:=fun cs b=>hsel x xo cs b hx
     have hso:=fun cs b=>hsel i o cs b ho
     have ih:=runX_now hsel hx hxE hWx r (a.put o.dst v) w hr' (fun j hj=>hsw j (List.mem_cons_of_mem _ hj))
     refine stepX_mono ?_ (stepX_form ((stepX_put ap2 hsx).1 ih))
     rintro a' w' ⟨⟨hcw,hr2⟩,u,rfl⟩
     refine ⟨hcw,?_⟩
     simp only [runT,ho]
     rw [if_neg he]
     exact ⟨v,(Yl.same (u:=u) ap1 hso).2 hy,fun hL=>hcw (hWx i o ho hL) (hc hL),hr2⟩
theorem runX_step {π:Nat→Nat} (hsel:∀ (j:Nat) (o:Oper) cs b,ops[j]? = some o→o.op ≠ .select cs b) (hWL:∀ j i x y,π j < π i→ops[i]? = some x→ops[j]? = some y→isL x.op=true→W j=false)
  {i:Nat} {o:Oper} (hi:ops[i]? = some o) (hxL:∀ z,ops[x]? = some z→isL z.op=false) (hxi:x≠i) (hnd:ordB ops ops.size x i=false) (hsx:isE o.op=false→swapB ops W x i=true) :
  ∀ (rem:List Nat) (a:Act) (w:World),(HasL ops (x :: rem)→C w)→runX P ops W C Q x rem a w→i∈rem→(∀ j∈rem,j≠i→π j < π i→swapB ops W j i=true)→(x :: rem).Pairwise (fun a b=>π a < π b) →
   (isE o.op=true→∀ j∈rem,π j < π i→ordB ops ops.size x j=false) →
   stepX P ops o a w (fun a' w'=>(W i=false→C w→C w')∧runX P ops W C Q x (rem.erase i) a' w')
 | [],_,_,_,_,hm,_,_,_=>by cases hm
 | h :: rem,a,w,hC,hr,hm,hsw,hp,hdp=>by
  by_cases hih:h=i
  ·subst hih
   rw [List.erase_cons_head]
   simp only [runX,hi] at hr
   rw [if_neg (by simp [hnd])] at hr
   split at hr
   ·exact hr.2
   ·obtain ⟨v,hy,hc,hr'⟩:=hr
    exact stepX_of_Yl hy hc ⟨fun _ h=>h,hr'⟩
  ·have hm':i∈rem:=by
    rcases List.mem_cons.1 hm with e | e
    ·exact (hih e.symm).elim
    ·exact e
   have hp1:=List.pairwise_cons.1 hp
   have hp2:=List.pairwise_cons.1 hp1.2
   have hlt:π h < π i:=hp2.1 i hm'
   have hpr:(x :: rem).Pairwise (fun a b=>π a < π b):=List.pairwise_cons.2 ⟨fun y hy=>hp1.1 y (List.mem_cons_of_mem _ hy),hp2.2⟩
   have hswx:isE o.op=false→∀ j∈x :: h :: rem,j≠i→π j < π i→swapB ops W j i=true:=fun he j hj hne hl=>by
    rcases List.mem_cons.1 hj with rfl | hj
    ·exact hsx he
    ·exact hsw j hj hne hl
   have himx:i∈x :: h :: rem:=List.mem_cons_of_mem _ hm
   have herx:(x :: h :: rem).erase i=x :: h :: rem.erase i:=by
    rw [List.erase_cons_tail (by simpa using hxi),List.erase_cons_tail (by simpa using hih)]
   rw [List.erase_cons_tail (by simpa using hih)]
   have hsw':∀ j∈rem,j≠i→π j < π i→swapB ops W j i=true:=fun j hj=>hsw j (List.mem_cons_of_mem _ hj)
   have hdp':isE o.op=true→∀ j∈rem,π j < π i→ordB ops ops.size x j=false:=fun he j hj=>hdp he j (List.mem_cons_of_mem _ hj)
   have hCt:HasL ops (x :: rem)→C w:=fun hl=>hC (by
    obtain ⟨l,z,hlm,hz,hL⟩:=hl
    rcases List.mem_cons.1 hlm with rfl | hlm
    ·exact ⟨l,z,by simp,hz,hL⟩
    ·exact ⟨l,z,by simp [hlm],hz,hL⟩)
   cases hh:ops[h]? with
   | none=>simp only [runX,hh] at hr
   | some y=>
    obtain ⟨ap1,ap2,hEE,hLW⟩:=swapB_spec (hsw h (by simp) hih hlt) hh hi
    have hsy:=fun cs b=>hsel h y cs b hh
    have hso:=fun cs b=>hsel i o cs b hi
    simp only [runX,hh] at hr
    by_cases hd:ordB ops ops.size x h=true
    ·rw [if_pos hd] at hr
     have he:isE o.op=false:=by
      cases he:isE o.op
      ·rfl
      ·have:=hdp he h (by simp) hlt
       rw [hd] at this;cases this
     have hst:=run_step hsel hWL hi (x :: h :: rem) a w hC hr himx (hswx he) hp
     refine stepX_mono ?_ hst
     rintro a' w' ⟨hcw,hr2⟩
     refine ⟨hcw,?_⟩
     simp only [runX,hh]
     rw [if_pos hd,← herx]
     exact hr2
    ·rw [if_neg hd] at hr
     by_cases hE:isE y.op=true
     ·rw [if_pos hE] at hr
      obtain ⟨hl,hr⟩:=hr
      have he:isE o.op=false:=by
       cases he:isE o.op
       ·rfl
       ·exact (hEE ⟨hE,he⟩).elim
      obtain ⟨v,hyv⟩:=run_yields (π:=π) hsel hi he (x :: h :: rem) a w hl himx (hswx he) hp
      have hci:isL o.op=true→C w:=fun hL=>hC ⟨i,o,himx,hi,hL⟩
      have hst:=run_step hsel hWL hi (x :: h :: rem) a w hC hl himx (hswx he) hp
      have hk1:=Yl_of_stepX hyv hci hst
      refine stepX_of_Yl hyv hci ⟨fun _ h=>h,?_⟩
      simp only [runX,hh]
      rw [if_neg hd,if_pos hE]
      refine ⟨by rw [← herx];exact hk1.2,?_⟩
      refine (stepX_put ap2 hsy).2 ?_
      refine stepX_mono ?_ (stepX_form hr)
      rintro a' w' ⟨⟨hcw,hr'⟩,u,rfl⟩
      refine ⟨hcw,?_⟩
      have hC':HasL ops (x :: rem)→C w':=by
       intro hl'
       have hl2:=hl'
       obtain ⟨l,z,hlm,hz,hL⟩:=hl'
       refine hcw ?_ (hCt hl2)
       rcases List.mem_cons.1 hlm with e | hlm
       ·rw [e] at hz
        rw [hxL z hz] at hL
        cases hL
       ·exact hWL h l z y (hp2.1 l hlm) hz hh hL
      have ih:=runX_step hsel hWL hi hxL hxi hnd hsx rem _ w' hC' hr' hm' hsw' hpr hdp'
      have hy':=(Yl.same (u:=u) ap1 hso).2 hyv
      exact (Yl_of_stepX hy' (fun hL=>hC' ⟨i,o,List.mem_cons_of_mem _ hm',hi,hL⟩) ih).2
     ·rw [if_neg hE] at hr
      obtain ⟨v,hyv,hc,hr'⟩:=hr
      have ih:=runX_step hsel hWL hi hxL hxi hnd hsx rem (a.put y.dst v) w hCt hr' hm' hsw' hpr hdp'
      refine stepX_mono ?_ (stepX_form ((stepX_put ap1 hso).1 ih))
      rintro a' w' ⟨⟨hcw,hr2⟩,u,rfl⟩
      refine ⟨hcw,?_⟩
      simp only [runX,hh]
      rw [if_neg hd,if_neg hE]
      refine ⟨v,(Yl.same (u:=u) ap2 hsy).2 hyv,fun hL=>?_,hr2⟩
      have hWi:W i=false:=by
       cases hw:W i
       ·rfl
       ·exact (hLW ⟨hL,hw⟩).elim
      exact hcw hWi (hc hL)
def exX (ops:Array Oper) (x:Nat) (j i:Nat):Bool:=Nat.beq j x && (match ops[i]? with | some o=>isE o.op | none=>false)
def chkD (ops:Array Oper) (x:Nat) (π:Nat→Nat):Bool:=
 (List.range ops.size).all fun i=>
  match ops[i]? with
  | none=>true
  | some o=>!isE o.op || Nat.beq i x || ordB ops ops.size x i || (List.range ops.size).all fun j=>Nat.beq j x || !Nat.blt (π j) (π i) || !ordB ops ops.size x j
theorem any_of_x {π:Nat→Nat} {xo:Oper} {Q':Exit→Act→World→Prop} (hx:ops[x]? = some xo) (hxE:isE xo.op=true) (hxL:isL xo.op=false) (hx0:∀ j,j≠x→π x < π j) (hcO:chkO ops W π=true) (hcS:chkS ops W π (exX ops x)=true) (hD:chkD ops x π=true)
  (hQ:∀ a w,Q a w→Q' .normal a w):∀ (fuel:Nat) (listed:Array Bool) (rem:List Nat) (a:Act) (w:World),
  listed.size=ops.size→Dn ops listed→listed.getD x true=false→(∀ i,i∈rem↔i≠x∧i < ops.size∧listed.getD i true=false)→(x :: rem).Pairwise (fun a b=>π a < π b)→rem.length + 1≤fuel→(HasL ops (x :: rem)→C w) →
   runX P ops W C Q x rem a w→wpAny P .any ops Q' fuel listed a w:=by
 have hsel:=chkO_sel hcO
 have hWL:=chkO_wl hcO
 have hback:=chkO_back hcO
 have hcS':=hcS
 have hxs:=(Array.getElem?_eq_some_iff.1 hx).1
 have hWx:∀ (j:Nat) (o:Oper),ops[j]? = some o→isL o.op=true→W x=false:=fun j o hj hL=>by
  refine hWL x j o xo (hx0 j ?_) hj hx hL
  rintro rfl
  rw [hx] at hj
  simp only [Option.some.injEq] at hj
  rw [← hj,hxL] at hL
  cases hL
 simp only [chkS,List.all_eq_true,List.mem_range,Bool.or_eq_true,Bool.not_eq_true'] at hcS
 have hsx:∀ (i:Nat) (o:Oper),ops[i]? = some o→i≠x→isE o.op=false→ordB ops ops.size x i=false→swapB ops W x i=true:=fun i o ho hne he hd=>by
  rcases hcS i (Array.getElem?_eq_some_iff.1 ho).1 x hxs with ((h1 | h1) | h1) | h1
  ·have:¬ Nat.blt (π x) (π i)=true:=by simp [h1]
   have:=hx0 i hne
   simp at *;omega
  ·simp [exX,ho,he] at h1
  ·rw [hd] at h1;cases h1
  ·exact h1
 intro fuel
 induction fuel with
 | zero=>intro listed rem a w _ _ _ _ _ hlen;omega
 | succ fuel ih=>
  intro listed rem a w hsz hdn hxu hrem hp hlen hC hr
  have hp1:=List.pairwise_cons.1 hp
  have hnd:rem.Nodup:=nodup_lt hp1.2
  refine ⟨fun h0=>?_,fun i hi=>?_⟩
  ·have:x∈Region.ready .any ops listed:=by
    refine mem_ready.2 ⟨hxu,_,hx,fun e he hb=>?_⟩
    obtain ⟨hlt,hlt2⟩:=hback x _ hx e he hb
    cases hg:listed.getD e.on false
    ·have hne:e.on≠x:=fun h=>by rw [h] at hlt;omega
     have:=hx0 e.on hne
     omega
    ·rfl
   rw [h0] at this;cases this
  ·obtain ⟨hun,o,ho,hall⟩:=mem_ready.1 hi
   have hi':=(Array.getElem?_eq_some_iff.1 ho).1
   have hDn':Dn ops (listed.setIfInBounds i true):=by
    intro k z hz hk e he hb
    by_cases hki:k=i
    ·subst hki
     rw [ho] at hz
     simp only [Option.some.injEq] at hz
     subst hz
     exact getD_set_true (hall e he hb)
    ·rw [getD_set_ne true (Ne.symm hki)] at hk
     exact getD_set_true (hdn k z hz hk e he hb)
   refine step_wpOp ho ?_
   by_cases hix:i=x
   ·subst hix
    rw [hx] at ho
    simp only [Option.some.injEq] at ho
    subst ho
    have hst:=runX_now hsel hx hxE hWx rem a w hr (fun j hj o ho he hd=>hsx j o ho ((hrem j).1 hj).1 he hd)
    refine stepX_mono ?_ hst
    rintro a' w' ⟨hcw,hr'⟩
    refine any_of_run (C:=C) (exX ops i) hcO hcS' hQ fuel _ rem a' w' (by simp [hsz]) hDn' ?_ hp1.2 (by omega) ?_ ?_ hr'
    ·intro k
     rw [hrem k]
     by_cases hki:k=i
     ·subst hki
      simp [hsz,hi']
     ·rw [getD_set_ne true (Ne.symm hki)]
      simp [hki]
    ·intro j hj k _
     have:=((hrem j).1 hj).1
     simp [exX,this]
    ·rintro ⟨l,z,hl,hz,hL⟩
     exact hcw (hWx l z hz hL) (hC ⟨l,z,List.mem_cons_of_mem _ hl,hz,hL⟩)
   ·have him:i∈rem:=(hrem i).2 ⟨hix,hi',hun⟩
    have hnl:∀ j,j < ops.size→listed.getD j true=false→ordB ops ops.size j i=false:=by
     intro j hj hu
     cases h1:ordB ops ops.size j i
     ·rfl
     ·have h2:=ordB_listed hdn _ _ _ _ ho hall h1
      have:j < listed.size:=by rw [hsz];exact hj
      simp [this] at h2 hu
      rw [h2] at hu;cases hu
    have hndx:=hnl x hxs hxu
    have hsw:∀ j∈rem,j≠i→π j < π i→swapB ops W j i=true:=by
     intro j hj _ hlt
     have hj':=(hrem j).1 hj
     rcases hcS i hi' j hj'.2.1 with ((h1 | h1) | h1) | h1
     ·have:¬ Nat.blt (π j) (π i)=true:=by simp [h1]
      simp at this;omega
     ·simp [exX,hj'.1] at h1
     ·rw [hnl j hj'.2.1 hj'.2.2] at h1;cases h1
     ·exact h1
    have hdp:isE o.op=true→∀ j∈rem,π j < π i→ordB ops ops.size x j=false:=by
     intro he j hj hlt
     simp only [chkD,List.all_eq_true,List.mem_range] at hD
     have h1:=hD i hi'
     rw [ho] at h1
     simp only [he,hndx,Bool.not_true,Bool.false_or,Bool.or_false,Bool.or_eq_true,List.all_eq_true,List.mem_range,Bool.not_eq_true',Nat.beq_eq] at h1
     rcases h1 with h1 | h1
     ·exact (hix h1).elim
     ·have hj':=(hrem j).1 hj
      rcases h1 j hj'.2.1 with (h2 | h2) | h2
      ·exact (hj'.1 h2).elim
      ·have:¬ Nat.blt (π j) (π i)=true:=by simp [h2]
       simp at this;omega
      ·exact h2
    have hst:=runX_step (π:=π) hsel hWL ho (fun z hz=>by rw [hx] at hz;simp only [Option.some.injEq] at hz;rw [← hz];exact hxL) (Ne.symm hix) hndx (fun he=>hsx i o ho hix he hndx) rem a w hC hr him hsw hp hdp
    refine stepX_mono ?_ hst
    rintro a' w' ⟨hcw,hr'⟩
    have hxi:=getD_set_ne (listed:=listed) true hix
    refine ih (listed.setIfInBounds i true) (rem.erase i) a' w' (by simp [hsz]) hDn' (by rw [hxi];exact hxu) ?_ (List.pairwise_cons.2 ⟨fun y hy=>hp1.1 y (List.mem_of_mem_erase hy),hp1.2.sublist List.erase_sublist⟩) (by rw [List.length_erase_of_mem him];have:=List.length_pos_of_mem him;omega) ?_ hr'
    ·intro k
     rw [List.Nodup.mem_erase_iff hnd]
     by_cases hki:k=i
     ·subst hki
      simp [hsz,hi']
     ·rw [getD_set_ne true (Ne.symm hki)]
      simp only [ne_eq,hki,not_false_eq_true,true_and]
      exact hrem k
    ·rintro ⟨l,z,hl,hz,hL⟩
     have hlx:l≠x:=by
      rintro rfl
      rw [hx] at hz
      simp only [Option.some.injEq] at hz
      rw [← hz,hxL] at hL;cases hL
     have hl:l∈rem.erase i:=by
      rcases List.mem_cons.1 hl with h | h
      ·exact (hlx h).elim
      ·exact h
     have hl':=List.mem_of_mem_erase hl
     have hne:l≠i:=((List.Nodup.mem_erase_iff hnd).1 hl).1
     have hCw:=hC ⟨l,z,List.mem_cons_of_mem _ hl',hz,hL⟩
     refine hcw ?_ hCw
     rcases pw_rel hp1.2 him hl' hne.symm with h1 | h1
     ·exact hWL i l z o h1 hz ho hL
     ·have:=hsw l hl' hne h1
      obtain ⟨_,_,_,h4⟩:=swapB_spec this hz ho
      cases hw:W i
      ·rfl
      ·exact (h4 ⟨hL,hw⟩).elim
theorem runX_tail {π:Nat→Nat} (hsel:∀ (j:Nat) (o:Oper) cs b,ops[j]? = some o→o.op ≠ .select cs b) (hWL:∀ j i x y,π j < π i→ops[i]? = some x→ops[j]? = some y→isL x.op=true→W j=false)
  (hsx:∀ (i:Nat) (o:Oper),ops[i]? = some o→i≠x→isE o.op=false→ordB ops ops.size x i=false→swapB ops W x i=true) :
  ∀ (l:List Nat) (a:Act) (w:World),(HasL ops (x :: l)→C w)→runT P ops W C Q (x :: l) a w→(∀ i∈l,i≠x∧∃ o,ops[i]? = some o∧(ordB ops ops.size x i=true∨isE o.op=false))→(x :: l).Pairwise (fun a b=>π a < π b)→runX P ops W C Q x l a w
 | [],a,w,_,h,_,_=>by simpa only [runX] using h
 | i :: r,a,w,hC,h,hl,hp=>by
  obtain ⟨hne,o,ho,hoe⟩:=hl i (by simp)
  simp only [runX,ho]
  by_cases hd:ordB ops ops.size x i=true
  ·rw [if_pos hd];exact h
  ·rw [if_neg hd]
   have he:isE o.op=false:=by
    rcases hoe with h | h
    ·exact (hd h).elim
    ·exact h
   rw [if_neg (by simp [he])]
   have hd':ordB ops ops.size x i=false:=by simpa using hd
   have hp1:=List.pairwise_cons.1 hp
   have hp2:=List.pairwise_cons.1 hp1.2
   have hsw:∀ j∈x :: i :: r,j≠i→π j < π i→swapB ops W j i=true:=fun j hj hji hlt=>by
    rcases List.mem_cons.1 hj with rfl | hj
    ·exact hsx i o ho hne he hd'
    ·rcases List.mem_cons.1 hj with rfl | hj
     ·exact (hji rfl).elim
     ·have:=hp2.1 j hj;omega
   have hci:isL o.op=true→C w:=fun hL=>hC ⟨i,o,by simp,ho,hL⟩
   obtain ⟨v,hy⟩:=run_yields (π:=π) hsel ho he _ a w h (by simp) hsw hp
   have hst:=run_step hsel hWL ho _ a w hC h (by simp) hsw hp
   have hk:=(Yl_of_stepX hy hci hst).2
   rw [List.erase_cons_tail (by simpa using Ne.symm hne),List.erase_cons_head] at hk
   refine ⟨v,hy,hci,runX_tail hsel hWL hsx r _ w (fun hl=>?_) hk (fun j hj=>hl j (List.mem_cons_of_mem _ hj)) (List.pairwise_cons.2 ⟨fun y hy=>hp1.1 y (List.mem_cons_of_mem _ hy),hp2.2⟩)⟩
   obtain ⟨l,z,hlm,hz,hL⟩:=hl
   refine hC ⟨l,z,?_,hz,hL⟩
   rcases List.mem_cons.1 hlm with h | h
   ·simp [h]
   ·simp [h]
end
theorem selL_all {ops:Array Oper}:∀ {l:List Nat},(∀ i∈l,i < ops.size)→(selL ops.toList l).map (·.1)=l
 | [],_=>rfl
 | i :: r,h=>by
  have hi:ops.toList[i]? = some (ops[i]'(h i (by simp))):=by
   rw [List.getElem?_eq_getElem (by simpa using h i (by simp))];simp
  unfold selL
  rw [hi]
  simp only [List.map_cons]
  rw [selL_all fun j hj=>h j (List.mem_cons_of_mem _ hj)]
def goX (X:Ctx) (D:Dr) (x:Nat) (tail:List Nat):List Nat→Bool→List (Nat × Sl)→St→Prop
 | [],c,s0,st=>
  match c with
  | true=>goD X D 3000 true (selL D.ops.toList (x :: tail)) s0 st
  | false=>False
 | i :: r,c,s0,st=>
  match D.ops.toList[i]? with
  | none=>False
  | some o=>
   match isE o.op with
   | true=>goD X D 3000 c (selL D.ops.toList (x :: i :: (r ++ tail))) s0 st∧goD X ⟨D.ops,D.W,D.k,D.st0,some (goX X D x tail r)⟩ 3000 c [(i,o)] s0 st
   | false=>goD X ⟨D.ops,D.W,D.k,D.st0,some (goX X D x tail r)⟩ 3000 c [(i,o)] s0 st
def chkX (ops:Array Oper) (W:Nat→Bool) (x:Nat) (pre tail:List Nat):Bool:=
 chkL ops (x :: (pre ++ tail)) && chkO ops W (plc (x :: (pre ++ tail))) && chkS ops W (plc (x :: (pre ++ tail))) (exX ops x) && chkD ops x (plc (x :: (pre ++ tail))) &&
  (match ops[x]? with | some o=>isE o.op && !isL o.op | none=>false) && pre.all (fun i=>!ordB ops ops.size x i) && tail.all (fun i=>match ops[i]? with | some o=>ordB ops ops.size x i || !isE o.op | none=>false)
section
variable {X:Ctx} {D:Dw} {x:Nat} {tail:List Nat} {π:Nat→Nat}
theorem goX_sound (hD:EnvM D.E0 D.d.st0.bx D.wr) (hsel:∀ (j:Nat) (o:Oper) cs b,D.d.ops[j]? = some o→o.op ≠ .select cs b) (hWL:∀ j i x y,π j < π i→D.d.ops[i]? = some x→D.d.ops[j]? = some y→isL x.op=true→D.d.W j=false)
  (hsx:∀ (i:Nat) (o:Oper),D.d.ops[i]? = some o→i≠x→isE o.op=false→ordB D.d.ops D.d.ops.size x i=false→swapB D.d.ops D.d.W x i=true)
  (htl:∀ i∈tail,i≠x∧∃ o,D.d.ops[i]? = some o∧(ordB D.d.ops D.d.ops.size x i=true∨isE o.op=false)) (hxs:x < D.d.ops.size):∀ (pre:List Nat),(∀ i∈pre,i < D.d.ops.size∧ordB D.d.ops D.d.ops.size x i=false)→(x :: (pre ++ tail)).Pairwise (fun a b=>π a < π b) →
  ∀ c s0 st,goX X D.d x tail pre c s0 st→∀ E a w,RelD X D c E s0 st a w→runX X.P D.d.ops D.d.W D.C (D.Q X) x (pre ++ tail) a w
 | [],_,hp,c,s0,st,hg,E,a,w,h=>by
  have htl2:∀ i∈x :: tail,i < D.d.ops.size:=fun i hi=>by
   rcases List.mem_cons.1 hi with rfl | hi
   ·exact hxs
   ·obtain ⟨_,o,ho,_⟩:=htl i hi
    exact (Array.getElem?_eq_some_iff.1 ho).1
  simp only [goX] at hg
  split at hg
  ·have h1:=goD_sound hD 3000 true _ _ _ hg (fun p hp=>by simpa using selL_mem hp) E a w h
   rw [selL_all htl2] at h1
   exact runX_tail hsel hWL hsx tail a w (fun _=>h.cc rfl) h1 htl hp
  ·exact hg.elim
 | i :: r,hpre,hp,c,s0,st,hg,E,a,w,h=>by
  obtain ⟨his,hnd⟩:=hpre i (by simp)
  have ho:D.d.ops[i]? = some D.d.ops[i]:=Array.getElem?_eq_getElem his
  have hol:D.d.ops.toList[i]? = some D.d.ops[i]:=by simpa using ho
  have hp1:=List.pairwise_cons.1 hp
  have hp2:=List.pairwise_cons.1 hp1.2
  have hall:∀ j∈x :: i :: (r ++ tail),j < D.d.ops.size:=fun j hj=>by
   rcases List.mem_cons.1 hj with rfl | hj
   ·exact hxs
   ·rcases List.mem_cons.1 hj with rfl | hj
    ·exact his
    ·rcases List.mem_append.1 hj with hj | hj
     ·exact (hpre j (by simp [hj])).1
     ·obtain ⟨_,o,ho,_⟩:=htl j hj
      exact (Array.getElem?_eq_some_iff.1 ho).1
  have ih:=goX_sound hD hsel hWL hsx htl hxs r (fun j hj=>hpre j (by simp [hj])) (List.pairwise_cons.2 ⟨fun y hy=>hp1.1 y (List.mem_cons_of_mem _ hy),hp2.2⟩)
  generalize D.d.ops[i]=o at ho hol
  have hone:∀ c s0 st,goD X ⟨D.d.ops,D.d.W,D.d.k,D.d.st0,some (goX X D.d x tail r)⟩ 3000 c [(i,o)] s0 st→RelD X D c E s0 st a w→runT X.P D.d.ops D.d.W D.C (fun a w=>runX X.P D.d.ops D.d.W D.C (D.Q X) x (r ++ tail) a w) [i] a w:=fun c s0 st hg h=>by
   have h1:=goD_sound (D:=⟨⟨D.d.ops,D.d.W,D.d.k,D.d.st0,some (goX X D.d x tail r)⟩,D.E0,D.wr⟩) hD 3000 c [(i,o)] s0 st hg (fun p hp=>by
    rw [List.mem_singleton] at hp
    rw [hp]
    exact ho) E a w ⟨h.rel,h.x,h.β,h.t0,h.cc⟩
   refine runT_mono ?_ h1
   rintro a w ⟨c,E,s0,st,h2,h3⟩
   exact ih c s0 st h3 E a w ⟨h2.rel,h2.x,h2.β,h2.t0,h2.cc⟩
  simp only [goX,hol] at hg
  simp only [List.cons_append,runX,ho]
  rw [if_neg (by simp [hnd])]
  split at hg
  ·rename_i hE
   obtain ⟨h1,h2⟩:=hg
   rw [if_pos hE]
   have h3:=goD_sound hD 3000 c _ _ _ h1 (fun p hp=>by simpa using selL_mem hp) E a w h
   rw [selL_all hall] at h3
   refine ⟨h3,?_⟩
   have h4:=hone c s0 st h2 h
   simp only [runT,ho,hE,if_true] at h4
   exact h4
  ·rename_i hE
   rw [if_neg (by simp [hE])]
   have h4:=hone c s0 st hg h
   simp only [runT,ho,hE,Bool.false_eq_true,if_false] at h4
   exact h4
theorem plc_zero (x:Nat) (l:List Nat):plc (x :: l) x=0:=by simp [plc]
theorem plc_pos {x j:Nat} (l:List Nat) (h:j≠x):0 < plc (x :: l) j:=by
 have:Nat.beq x j=false:=by
  cases hb:Nat.beq x j
  ·rfl
  ·exact (h (Nat.eq_of_beq_eq_true hb).symm).elim
 simp [plc,this]
theorem endS {s S:St} (h:SameSt s S:=by refine ⟨rfl,rfl,?_⟩;repeat' (first | exact trivial | refine ⟨rfl,?_⟩)):s=S∨SameSt s S:=.inr h
theorem drawG_x {id:Nat} {ops:Array Oper} {k:List It} {st:St} (W:Nat→Bool) (x:Nat) (pre tail:List Nat) (hm:X.P.follows .mixedOrders=true) (hc:chkX ops W x pre tail=true) (S:St)
  (h:goX X ⟨ops,W,[.rnd fun s=>s=S∨SameSt s S],st,none⟩ x tail pre true st.sl st) (hk:go X 4000 k S):DrawG X id ops k st:=by
 intro E a w hr
 have hr':=drew_rel hr
 simp only [chkX,Bool.and_eq_true] at hc
 obtain ⟨⟨⟨⟨⟨⟨hL,hO⟩,hS⟩,hDD⟩,hX⟩,hpre⟩,htail⟩:=hc
 cases hxo:ops[x]? with
 | none=>rw [hxo] at hX;cases hX
 | some xo=>
 rw [hxo] at hX
 simp only [Bool.and_eq_true,Bool.not_eq_true'] at hX
 obtain ⟨hxE,hxL⟩:=hX
 simp only [chkL,Bool.and_eq_true,List.all_eq_true,Nat.blt_eq,Nat.ble_eq,beq_iff_eq,List.mem_range] at hL
 obtain ⟨⟨⟨⟨_,h1b⟩,h1c⟩,hlen⟩,h1d⟩:=hL
 have hp:=pwB_spec h1d
 have hp1:=List.pairwise_cons.1 hp
 have hsel:=chkO_sel hO
 have hWL:=chkO_wl hO
 have hx0:∀ j,j≠x→plc (x :: (pre ++ tail)) x < plc (x :: (pre ++ tail)) j:=fun j hj=>by
  rw [plc_zero];exact plc_pos _ hj
 have hxs:=(Array.getElem?_eq_some_iff.1 hxo).1
 have hS':=hS
 simp only [chkS,List.all_eq_true,List.mem_range,Bool.or_eq_true,Bool.not_eq_true'] at hS'
 have hsx:∀ (i:Nat) (o:Oper),ops[i]? = some o→i≠x→isE o.op=false→ordB ops ops.size x i=false→swapB ops W x i=true:=fun i o ho hne he hd=>by
  rcases hS' i (Array.getElem?_eq_some_iff.1 ho).1 x hxs with ((h1 | h1) | h1) | h1
  ·have:¬ Nat.blt (plc (x :: (pre ++ tail)) x) (plc (x :: (pre ++ tail)) i)=true:=by simp [h1]
   have:=hx0 i hne
   simp at *;omega
  ·simp [exX,ho,he] at h1
  ·rw [hd] at h1;cases h1
  ·exact h1
 have hne:∀ i∈pre ++ tail,i≠x:=fun i hi e=>by
  have:=hp1.1 i hi
  rw [e] at this;omega
 have hs:=relD_start hr' (ops:=ops) (W:=W) (k:=[.rnd fun s=>s=S∨SameSt s S])
 have hrun:=goX_sound (D:=⟨⟨ops,W,[.rnd fun s=>s=S∨SameSt s S],st,none⟩,E,w.drew⟩) hr'.env.em hsel hWL hsx (fun i hi=>by
  refine ⟨hne i (List.mem_append_right _ hi),?_⟩
  have:=List.all_eq_true.1 htail i hi
  cases ho:ops[i]? with
  | none=>rw [ho] at this;cases this
  | some o=>
   rw [ho] at this
   simp only [Bool.or_eq_true,Bool.not_eq_true'] at this
   exact ⟨o,rfl,this⟩) hxs pre (fun i hi=>by
  refine ⟨h1c i (by simp [hi]),?_⟩
  have:=List.all_eq_true.1 hpre i hi
  simpa using this) hp true st.sl st h E a w.drew hs
 refine wp_region_any hm ?_
 refine any_of_x (C:=CC E st.bx w.drew) (Q:=kq X [.rnd fun s=>s=S∨SameSt s S] .normal) (π:=plc (x :: (pre ++ tail))) hxo hxE hxL hx0 hO hS hDD (fun a w hq=>?_) ops.size (Array.replicate ops.size false) (pre ++ tail) a _ (by simp) ?_ (by simp [hxs]) ?_ hp ?_ (fun _=>hs.cc rfl) hrun
 ·obtain ⟨st1,E1,hrel,hJ⟩:=hq
  rcases hJ with rfl | hJ
  ·exact go_sound 4000 _ _ hk E1 a w hrel
  ·exact go_sound 4000 _ _ hk E1 a w (same_rel hrel hJ)
 ·intro i o ho hl
  have:i < ops.size:=(Array.getElem?_eq_some_iff.1 ho).1
  simp [this] at hl
 ·intro i
  constructor
  ·intro hi
   have:=h1c i (by simp [List.mem_append.1 hi])
   exact ⟨hne i hi,this,by simp [this]⟩
  ·rintro ⟨h1,h2,_⟩
   have:=h1b i h2
   have h4:i=x∨i∈pre ++ tail:=by simpa using this
   exact h4.resolve_left h1
 ·simp only [List.length_cons] at hlen
  exact hlen
end
end Dv
end Go.Proofs.YtdeaicofhmkebaaGreat
set_option maxRecDepth 100000
namespace Go.Proofs.YtdeaicofhmkebaaGreat
open Go Go.RowKit Dv Tryz
abbrev tsSt (PC:List DV) (S:Sch) (v:Val) (p:List Stp) (x u y:Val) (L:List (List Stp)) (e:Nat):St:=
 ⟨[(4,⟨[],.loc 1 0⟩),(5,⟨[],.loc 2 0⟩),(9,⟨[],.pt PC 0⟩),(16,⟨[],.loc 5 0⟩),(23,⟨[],.sl 1 (dPths L) none⟩),(24,⟨[],.v (.int .i64 e)⟩)],
  [dSch S,dVal v,dQ p x,[.v (.int .i64 0),.v (.int .i64 0)],dVal u,dVal y],[]⟩
set_option maxHeartbeats 4000000 in
theorem sets25_law (S:Sch) (hS:S.wt≤1099511627776) (_:rngS S) (v:Val) (hv2:v.wt≤549755813888) (p:List Stp) (x:Val) (hq:wtStp p + x.wt≤549755813888):EvP Tryz.prog 9 [.agg (dSch S),.agg (dVal v),.agg (dQ p x)] (.v (.bool true)):=by
 have hv:v.wt≤1099511627776:=by omega
 have hpl:=wtStp_len p
 have hp:p.length≤1099511627776:=by omega
 have hx:x.wt≤1099511627776:=by omega
 have ga:=great17_spec S hS
 have hb:=(build_spec S hS).mono (Ψ:=fun r _ _=>BuiltΦ S r) fun _ _ _ h=>builtΦ_of hS h
 have hsz:=size25_spec v.wt v (Nat.le_refl _) hv
 have hsx:=size25_spec x.wt x (Nat.le_refl _) hx
 have hz:=tsame_spec _ zeroV (Nat.le_refl _) (by decide) zeroV
 have hxx:=tsame_spec _ x (Nat.le_refl _) hx x
 have hvv:=tsame_spec _ v (Nat.le_refl _) hv v
 rw [sameV_refl] at hz hxx hvv
 have hbg:=fun l (hl:l.length≤1099511627776)=>begins09_spec l p hp
 have hbg2:=fun l (hl:l.length≤1099511627776)=>begins09_spec p l hl
 have hplen:=fun ND i=>pathV_len (ND:=ND) v i []
 have hpsz:=fun ND i=>pathV_sz (ND:=ND) v i []
 have hcw:=(cntV_wt v).1
 generalize cntV v=ct at hsz hplen hcw
 generalize depV v=dp at hsz
 generalize cntV x=cx at hsx
 generalize depV x=dx at hsx
 refine ev_go (P:=Tryz.prog) tt tt_ok 5000 218 [.tmp 6] Tryz.func9 rfl Tryz.ntmps9 rfl (Nat.le_of_ble_eq_true rfl) (fun E9 w9 hn9 hm9=>?_)
 obtain ⟨levels,order,types,⟨rh,rp⟩⟩:=S
 obtain ⟨q,z,s,ks⟩:=v
 obtain ⟨xk,xn,xs,xl⟩:=x
 refine call_p en26 (hsz) ax rfl ?_
 refine br (fun c=>?_) (fun c=>?_)
 rotate_left
 ·refine call_p en28 (lives25_spec) ax rfl ?_
  exact (rfl:_=_)
 refine call_e en15 rfl ga ax (fun r hr=>?_)
 obtain ⟨g,rfl⟩:=hr
 cases g with
 | true=>
  refine call_p en28 (lives25_spec) ax rfl ?_
  exact (rfl:_=_)
 | false=>
 refine call_e en17 rfl hb ax (fun r hr=>?_)
 rcases hr with ⟨hr,rfl⟩ | ⟨_,PC,hP,rfl⟩
 ·generalize resF ⟨levels,order,types,.mk rh rp⟩=R at hr ⊢
  obtain ⟨R1,R2⟩:=R
  simp only at hr
  refine call_p en26 (hsx) ax rfl ?_
  refine br (fun _=>?_) (fun g=>absurd g (by simp [pickB_or,hr]))
  refine call_p en28 (lives25_spec) ax rfl ?_
  exact (rfl:_=_)
 refine call_p en26 (hsx) ax rfl ?_
 refine br (fun _=>?_) (fun _=>?_)
 ·refine call_p en28 (lives25_spec) ax rfl ?_
  exact (rfl:_=_)
 have hroot:=hP.root
 have hget:=tget_spec hP hv (resRoot ⟨levels,order,types,.mk rh rp⟩) p hp
 have hset:=tset_spec hP hv hx (resRoot ⟨levels,order,types,.mk rh rp⟩) p hp
 have hfx:=fun j=>tfits_spec hP _ (Val.mk xk xn xs xl) (Nat.le_refl _) hx j
 have hpt:=tpaths_spec hP hv (resRoot ⟨levels,order,types,.mk rh rp⟩)
 have hgv:=fun l hl=>tget_spec hP hv (resRoot ⟨levels,order,types,.mk rh rp⟩) l hl
 have hplen:=hplen (resNds ⟨levels,order,types,.mk rh rp⟩) (resRoot ⟨levels,order,types,.mk rh rp⟩)
 have hpsz:=hpsz (resNds ⟨levels,order,types,.mk rh rp⟩) (resRoot ⟨levels,order,types,.mk rh rp⟩)
 generalize resRoot ⟨levels,order,types,.mk rh rp⟩=rt at *
 have hok:=hP.ok
 by_cases hF:fitV (resNds ⟨levels,order,types,.mk rh rp⟩) (.mk q z s ks) rt=true
 case neg=>
  rw [if_neg hF] at hget hset
  apply drawG_x (fun _=>false) 11 [0,1,2,3,4,5,6,7,8,9,10] [12,13,14] mo (by decide +kernel);·repeat' (first | refine callD_p en20 (hroot) ax rfl ?_ | refine callD_p en45 (hget) ax rfl ?_ | exact Or.inl rfl | exact endS | refine ⟨?_,?_⟩)
  apply drawG_x (fun _=>false) 12 [0,1,2,3,4,5,6,7,8,9,10,11] [13,14] mo (by decide +kernel);·repeat' (first | refine callD_p en20 (hroot) ax rfl ?_ | refine callD_p en46 (hset) ax rfl ?_ | exact Or.inl rfl | exact endS | refine ⟨?_,?_⟩)
  refine call_p en49 (hz) ax rfl ?_
  refine call_p en28 (lives25_spec) ax rfl ?_
  exact (rfl:_=_)
 rw [if_pos hF] at hget hset hpt
 cases hG:getV (resNds ⟨levels,order,types,.mk rh rp⟩) p (.mk q z s ks) rt with
 | none=>
  rw [hG] at hget hset
  apply drawG_x (fun _=>false) 11 [0,1,2,3,4,5,6,7,8,9,10] [12,13,14] mo (by decide +kernel);·repeat' (first | refine callD_p en20 (hroot) ax rfl ?_ | refine callD_p en45 (hget) ax rfl ?_ | exact Or.inl rfl | exact endS | refine ⟨?_,?_⟩)
  apply drawG_x (fun _=>false) 12 [0,1,2,3,4,5,6,7,8,9,10,11] [13,14] mo (by decide +kernel);·repeat' (first | refine callD_p en20 (hroot) ax rfl ?_ | refine callD_p en46 (hset) ax rfl ?_ | exact Or.inl rfl | exact endS | refine ⟨?_,?_⟩)
  refine call_p en49 (hz) ax rfl ?_
  refine call_p en28 (lives25_spec) ax rfl ?_
  exact (rfl:_=_)
 | some r=>
 obtain ⟨u,j⟩:=r
 rw [hG] at hget hset
 simp only at hset
 have huf:=getV_fit hok p hF hG
 cases hfj:fitV (resNds ⟨levels,order,types,.mk rh rp⟩) (.mk xk xn xs xl) j with
 | false=>
  rw [hfj,if_neg (by simp)] at hset
  obtain ⟨uk,un,us,ul⟩:=u
  apply drawG_x (fun _=>false) 11 [0,1,2,3,4,5,6,7,8,9,10] [12,13,14] mo (by decide +kernel);·repeat' (first | refine callD_p en20 (hroot) ax rfl ?_ | refine callD_p en45 (hget) ax rfl ?_ | exact Or.inl rfl | exact endS | refine ⟨?_,?_⟩)
  apply drawG_x (fun _=>false) 12 [0,1,2,3,4,5,6,7,8,9,10,11] [13,14] mo (by decide +kernel);·repeat' (first | refine callD_p en20 (hroot) ax rfl ?_ | refine callD_p en46 (hset) ax rfl ?_ | exact Or.inl rfl | exact endS | refine ⟨?_,?_⟩)
  refine call_p en28 (lives25_spec) ax rfl ?_
  exact (rfl:_=_)
 | true=>
 rw [hfj,if_pos rfl] at hset
 have hfx:=hfx j
 rw [hfj] at hfx
 have hyw:=setV_wt (y:=.mk xk xn xs xl) p hG
 have huw:=getV_wt p hG
 have hyf:=setV_fit hok p hF hG hfj
 have hgy:=get_setV p hG (y:=.mk xk xn xs xl)
 have hbk:=set_back p hG (y:=.mk xk xn xs xl)
 have hot:=fun l a k h1 h2 h3=>get_other (y:=.mk xk xn xs xl) p l hG h1 h2 h3 (a:=a) (k:=k)
 have hpg:=fun {l}=>@path_get _ _ hok _ (.mk q z s ks) (Nat.le_refl _) rt hF [] l
 generalize setV (resNds ⟨levels,order,types,.mk rh rp⟩) p (.mk q z s ks) rt (.mk xk xn xs xl)=y at hset hyw hyf hgy hbk hot
 have hy:y.wt≤1099511627776:=by omega
 have hgety:=fun l hl=>tget_spec hP hy rt l hl
 have hsety:=tset_spec hP hy (x:=u) (by omega) rt p hp
 have hfy:=tfits_spec hP _ y (Nat.le_refl _) hy rt
 simp only [hF,hyf,if_true] at hgv hgety hsety hfy
 have hgety1:=hgety p hp
 rw [hgy] at hgety1 hsety
 simp only at hsety
 rw [huf,if_pos rfl,hbk] at hsety
 generalize pathV (resNds ⟨levels,order,types,.mk rh rp⟩) (.mk q z s ks) rt []=L at hpt hplen hpsz hpg
 have hdl:=dPths_len L
 obtain ⟨uk,un,us,ul⟩:=u
 obtain ⟨yk,yn,ys,yl⟩:=y
 apply drawG_x (fun _=>false) 11 [0,1,2,3,4,5,6,7,8,9,10] [12,13,14] mo (by decide +kernel);·repeat' (first | refine callD_p en20 (hroot) ax rfl ?_ | refine callD_p en45 (hget) ax rfl ?_ | exact Or.inl rfl | exact endS | refine ⟨?_,?_⟩)
 apply drawG_x (fun _=>false) 12 [0,1,2,3,4,5,6,7,8,9,10,11] [13,14] mo (by decide +kernel);·repeat' (first | refine callD_p en20 (hroot) ax rfl ?_ | refine callD_p en46 (hset) ax rfl ?_ | exact Or.inl rfl | exact endS | refine ⟨?_,?_⟩)
 apply drawG_x (fun _=>false) 11 [0,1,2,3,4,5,6,7,8,9,10] [12,13,14] mo (by decide +kernel);·repeat' (first | refine callD_p en20 (hroot) ax rfl ?_ | refine callD_p en45 (hgety1) ax rfl ?_ | exact Or.inl rfl | exact endS | refine ⟨?_,?_⟩)
 apply drawG_x (fun _=>false) 11 [0,1,2,3,4,5,6,7,8,9,10] [12,13] mo (by decide +kernel);·repeat' (first | refine callD_p en20 (hroot) ax rfl ?_ | refine callD_p en46 (hsety) ax rfl ?_ | exact Or.inl rfl | exact endS | refine ⟨?_,?_⟩)
 refine drawG_i (fun _=>false) mo (by decide +kernel) ?_
 refine callD_p en49 (hxx) ax rfl ?_
 refine callD_p en51 (hfx) ax rfl ?_
 refine callD_p en20 (hroot) ax rfl ?_
 refine callD_p en51 (hfy) ax rfl ?_
 refine callD_p en49 (hvv) ax rfl ?_
 refine drawG_i (fun _=>false) mo (by decide +kernel) ?_
 refine callD_p en20 (hroot) ax rfl ?_
 refine callD_p en30 (hpt) ax rfl ?_
 refine loop_i (fun j0 st=>∃ e:Nat,st=tsSt PC ⟨levels,order,types,.mk rh rp⟩ (.mk q z s ks) p (.mk xk xn xs xl) (.mk uk un us ul) (.mk yk yn ys yl) L e∧e≤L.length∧j0=L.length - e) L.length
  (tsSt PC ⟨levels,order,types,.mk rh rp⟩ (.mk q z s ks) p (.mk xk xn xs xl) (.mk uk un us ul) (.mk yk yn ys yl) L 0) (weak_mk ⟨_,rfl⟩ wA rfl rfl rfl wB) ⟨0,rfl,by omega,by omega⟩ ?_
 rintro _ st ⟨e,rfl,he,rfl⟩
 refine br (fun hL=>?_) (fun hL=>?_)
 ·have hlt:e < L.length:=by simpa [hdl] using hL
  obtain ⟨l,hl⟩:∃ l,L[e]? = some l:=⟨_,List.getElem?_eq_getElem hlt⟩
  have hll:=hpsz l (List.mem_of_getElem? hl)
  rw [List.length_nil] at hll
  obtain ⟨l',r,hl',hgl⟩:=hpg (List.mem_of_getElem? hl)
  rw [List.nil_append] at hl'
  subst hl'
  obtain ⟨a,k⟩:=r
  have haw:=getV_wt l hgl
  have hb1:=hbg l (by omega)
  have hb2:=hbg2 l (by omega)
  have hg1:=hgv l (by omega)
  have hg2:=hgety l (by omega)
  have haa:=tsame_spec _ a (Nat.le_refl _) (by omega) a
  rw [sameV_refl] at haa
  rw [hgl] at hg1
  refine drawG_i (fun _=>false) mo (by decide +kernel) ?_
  refine ⟨_,⟨by omega,dPths_get hl⟩,?_⟩
  refine callD_p en52 (hb1) ax rfl ?_
  cases c1:begF l p with
  | true=>
   exact ⟨tsSt PC ⟨levels,order,types,.mk rh rp⟩ (.mk q z s ks) p (.mk xk xn xs xl) (.mk uk un us ul) (.mk yk yn ys yl) L (e + 1),(weak_mk ⟨_,rfl⟩ wA rfl rfl rfl (by repeat' (first | exact trivial | exact we_rfl rfl | exact we_int (nxt hlt (by omega)) | refine ⟨⟨_,rfl,?_⟩,?_⟩))),L.length - (e + 1),by omega,e + 1,rfl,by omega,rfl⟩
  | false=>
  refine ⟨_,⟨by omega,dPths_get hl⟩,?_⟩
  refine callD_p en52 (hb2) ax rfl ?_
  cases c2:begF p l with
  | true=>
   exact ⟨tsSt PC ⟨levels,order,types,.mk rh rp⟩ (.mk q z s ks) p (.mk xk xn xs xl) (.mk uk un us ul) (.mk yk yn ys yl) L (e + 1),(weak_mk ⟨_,rfl⟩ wA rfl rfl rfl (by repeat' (first | exact trivial | exact we_rfl rfl | exact we_int (nxt hlt (by omega)) | refine ⟨⟨_,rfl,?_⟩,?_⟩))),L.length - (e + 1),by omega,e + 1,rfl,by omega,rfl⟩
  | false=>
  have hgo:=hot l a k hgl c1 c2
  rw [hgo] at hg2
  obtain ⟨ak,an,at9,al⟩:=a
  apply drawG_x (fun _=>false) 13 [0,1,2,3,4,5,6,7,8,9,10,11,12] [14,15,16] mo (by decide +kernel);·repeat' (first | refine callD_p en20 (hroot) ax rfl ?_ | refine callD_p en45 (hg1) ax rfl ?_ | refine ⟨_,⟨by omega,dPths_get hl⟩,?_⟩ | exact Or.inl rfl | exact endS | refine ⟨?_,?_⟩)
  apply drawG_x (fun _=>false) 13 [0,1,2,3,4,5,6,7,8,9,10,11,12] [14,15,16] mo (by decide +kernel);·repeat' (first | refine callD_p en20 (hroot) ax rfl ?_ | refine callD_p en45 (hg2) ax rfl ?_ | refine ⟨_,⟨by omega,dPths_get hl⟩,?_⟩ | exact Or.inl rfl | exact endS | refine ⟨?_,?_⟩)
  refine call_p en49 (haa) ax rfl ?_
  exact ⟨tsSt PC ⟨levels,order,types,.mk rh rp⟩ (.mk q z s ks) p (.mk xk xn xs xl) (.mk uk un us ul) (.mk yk yn ys yl) L (e + 1),(weak_mk ⟨_,rfl⟩ wA rfl rfl rfl (by repeat' (first | exact trivial | exact we_rfl rfl | exact we_int (nxt hlt (by omega)) | refine ⟨⟨_,rfl,?_⟩,?_⟩))),L.length - (e + 1),by omega,e + 1,rfl,by omega,rfl⟩
 ·refine call_p en28 (lives25_spec) ax rfl ?_
  exact (rfl:_=_)
end Go.Proofs.YtdeaicofhmkebaaGreat
