/- Part 5 of the proof: What is known of a type with which nothing is wrong; labels have levels; What is known of the nodes of a plan; The reference of chapters 15 and 17 on schemas: Placeless, Same, Great; The law of a type's text: the call returns true; The law of schemas without places: the call returns true; What is wrong with a schema without places; the nodes of its plan; A plan, as its readers know it; Rules for the evaluator: calls that hand back fresh rows; Rules for the evaluator: elements of rows whose cells nobody else knows, read and written whole; Rules for the evaluator: a slice literal without elements, its cells known; Nodes whose edges may be written: slices.Clone, Plan.Node; A lattice, as its readers know it; Leq; joins are the document's; The law that a plan's edges lead to nodes: rows of edges, with and without places. No condition. -/
import Derived.Test.YtbfdbhechmhpoaaGreatMg2
import Derived.Test.YtbfdbhechmhpoaaGreatMg3
import Derived.Test.YtbfdbhechmhpoaaGreatMg4
set_option linter.all false
set_option maxRecDepth 100000
namespace Go.Proofs.YtbfdbhechmhpoaaGreat
open Go Go.RowKit Dv Tryz
def WrT (t:Ty):Prop:=∃ d m,(wrong t d m).1.1=0
def PartF (kind:Int) (p:Ph) (t:Ty):Prop:=(p.bare=true∧kind=8∧sameTy t zeroTy=true∧plainP p barePh=true)∨(p.bare=false∧(partWd p).1=0∧WrT t)
structure TyF (h:Hd) (ps:Pts):Prop where
 k1:1≤h.kind
 k9:h.kind≤9
 own:ownF h ps=true
 int:h.kind=2→h.lo≤h.hi
 text:h.kind=3→0≤h.most∧h.most≤4096
 enum:h.kind=4→enumWd h=(0,0)
 one:h.kind=5∨h.kind=6→∃ p t,ps = .cons p t .nil∧p.name.s=emptyB∧plainP p zeroPh=true∧0≤h.most∧h.most≤1024∧WrT t
 many:h.kind=7∨h.kind=8→ps.len≤64∧(h.kind=8→ps.len≠0)∧∀ i p t,ps.toList[i]? = some (p,t)→listedF (pNames ps) i p.name=0∧PartF h.kind p t
theorem own_of {h:Hd} {ps:Pts} (ho:¬ ownB (.mk h ps)=false):ownF h ps=true:=by
 rw [ownF_eq]
 cases hb:sameTy (.mk h ps) (mask (.mk h ps))
 ·exact absurd hb ho
 ·rfl
theorem wrongPts_parts {kind:Int} {all:List Wd}:∀ {ps:Pts} {i:Nat} {d m:Int},(wrongPts kind all i ps d m).1.1=0→(kind=7∨kind=8)→∀ j p t,ps.toList[j]? = some (p,t)→listedF all (i + j) p.name=0∧PartF kind p t
 | .nil,i,d,m,_,_,j,p,t,hx=>by simp [Pts.toList] at hx
 | .cons q u r,i,d,m,he,hk,j,p,t,hx=>by
  simp only [wrongPts] at he
  by_cases c0:listedF all i q.name≠0
  ·rw [if_pos c0] at he;exact absurd he c0
  rw [if_neg c0] at he
  have c0:listedF all i q.name=0:=by simpa using c0
  have step:∀ d' m',(wrongPts kind all (i + 1) r d' m').1.1=0→PartF kind q u→listedF all (i + j) p.name=0∧PartF kind p t:=by
   intro d' m' h hq
   cases j with
   | zero=>
    simp only [Pts.toList,List.getElem?_cons_zero,Option.some.injEq,Prod.mk.injEq] at hx
    obtain ⟨rfl,rfl⟩:=hx
    exact ⟨c0,hq⟩
   | succ j=>
    simp only [Pts.toList,List.getElem?_cons_succ] at hx
    have:=wrongPts_parts h hk j p t hx
    rwa [show i + 1 + j=i + (j + 1) by omega] at this
  by_cases c1:q.bare=true
  ·rw [if_pos c1] at he
   by_cases c2:kind=7∨sameTy u zeroTy=false∨plainP q barePh=false
   ·rw [if_pos c2] at he;simp at he
   rw [if_neg c2] at he
   refine step d m he (.inl ⟨c1,?_,?_,?_⟩)
   ·rcases hk with hk | hk
    ·exact absurd (.inl hk) c2
    ·exact hk
   ·cases hb:sameTy u zeroTy
    ·exact absurd (.inr (.inl hb)) c2
    ·rfl
   ·cases hb:plainP q barePh
    ·exact absurd (.inr (.inr hb)) c2
    ·rfl
  ·rw [if_neg c1] at he
   by_cases c2:(partWd q).1≠0
   ·rw [if_pos c2] at he;exact absurd he c2
   rw [if_neg c2] at he
   by_cases c3:(wrong u (d + 1) m).1.1≠0
   ·rw [if_pos c3] at he;exact absurd he c3
   rw [if_neg c3] at he
   exact step d _ he (.inr ⟨by simpa using c1,by simpa using c2,d + 1,m,by simpa using c3⟩)
theorem tyF_of:∀ {t:Ty},WrT t→TyF t.h t.ps
 | .mk h ps,⟨d,m,he⟩=>by
  simp only [Ty.h,Ty.ps]
  simp only [wrong] at he
  by_cases c0:24 < d
  ·rw [if_pos c0] at he;simp at he
  rw [if_neg c0] at he
  by_cases c1:512 < m + 1
  ·rw [if_pos c1] at he;simp at he
  rw [if_neg c1] at he
  by_cases c2:h.kind < 1∨9 < h.kind
  ·rw [if_pos c2] at he;simp at he
  rw [if_neg c2] at he
  by_cases c3:ownB (.mk h ps)=false
  ·rw [if_pos c3] at he;simp at he
  rw [if_neg c3] at he
  by_cases c4:(h.kind=2∧h.hi < h.lo)∨(h.kind=3∧(h.most < 0∨4096 < h.most))
  ·rw [if_pos c4] at he;simp at he
  rw [if_neg c4] at he
  by_cases c5:h.kind=9∧nameOK h.name.s=false
  ·rw [if_pos c5] at he;simp at he
  rw [if_neg c5] at he
  refine { k1:=by omega,k9:=by omega,own:=own_of c3,int:=fun h2=>by omega,text:=fun h3=>by omega,enum:=fun h4=>?_,one:=fun h5=>?_,many:=fun h7=>?_ }
  ·rw [if_pos h4] at he
   exact enumWd_ok h he
  ·rw [if_neg (by omega),if_pos h5] at he
   match ps,he with
   | .nil,he=>simp [wrongOne] at he
   | .cons p t (.cons _ _ _),he=>simp [wrongOne] at he
   | .cons p t .nil,he=>
    simp only [wrongOne] at he
    by_cases e0:p.name.s≠emptyB∨plainP p zeroPh=false
    ·rw [if_pos e0] at he;simp at he
    rw [if_neg e0] at he
    by_cases e1:h.most < 0∨1024 < h.most
    ·rw [if_pos e1] at he;simp at he
    rw [if_neg e1] at he
    refine ⟨p,t,rfl,Classical.byContradiction fun hn=>e0 (.inl hn),?_,by omega,by omega,d + 1,_,he⟩
    cases hb:plainP p zeroPh
    ·exact absurd (.inr hb) e0
    ·rfl
  ·rw [if_neg (by omega),if_neg (by omega),if_pos h7] at he
   by_cases e0:h.kind=8∧ps.len=0
   ·rw [if_pos e0] at he;simp at he
   rw [if_neg e0] at he
   by_cases e1:64 < ps.len
   ·rw [if_pos e1] at he;simp at he
   rw [if_neg e1] at he
   refine ⟨by omega,fun h8=>fun hl=>e0 ⟨h8,hl⟩,fun i p t hx=>?_⟩
   have:=wrongPts_parts he h7 i p t hx
   rwa [Nat.zero_add] at this
theorem TyF.sub {h:Hd} {ps:Pts} (hF:TyF h ps) {p:Ph} {u:Ty} (hm:(p,u)∈ps.toList) (hb:p.bare=false):WrT u:=by
 obtain ⟨i,hi⟩:=List.mem_iff_getElem?.1 hm
 have hlen:0 < ps.len:=by
  cases ps with
  | nil=>simp [Pts.toList] at hm
  | cons _ _ _=>simp [Pts.len]
 have hk:5≤h.kind∧h.kind≤8:=by
  have h1:=hF.own
  unfold ownF at h1
  simp only [Bool.and_eq_true,Bool.or_eq_true,decide_eq_true_eq] at h1
  have:=h1.1.1.2
  omega
 by_cases h5:h.kind=5∨h.kind=6
 ·obtain ⟨q,t,rfl,_,_,_,_,hw⟩:=hF.one h5
  simp only [Pts.toList,List.mem_singleton,Prod.mk.injEq] at hm
  rw [hm.2];exact hw
 ·rcases ((hF.many (by omega)).2.2 i p u hi).2 with h1 | h1
  ·rw [h1.1] at hb;cases hb
  ·exact h1.2.2
mutual
theorem flatT_wr:∀ (t:Ty),WrT t→∀ u∈flatT t,WrT u
 | .mk h ps,hw,u,hu=>by
  rw [flatT] at hu
  split at hu
  ·cases hu
  ·rcases List.mem_cons.1 hu with rfl | hu
   ·exact hw
   ·exact flatP_wr ps (fun p v hm hb=>(tyF_of hw).sub hm hb) u hu
theorem flatP_wr:∀ (ps:Pts),(∀ p v,(p,v)∈ps.toList→p.bare=false→WrT v)→∀ u∈flatP ps,WrT u
 | .nil,_,u,hu=>by cases hu
 | .cons p v r,hw,u,hu=>by
  rw [flatP] at hu
  rcases List.mem_append.1 hu with hu | hu
  ·cases hb:p.bare with
   | true=>rw [hb] at hu;cases hu
   | false=>rw [hb] at hu;exact flatT_wr v (hw p v (by simp [Pts.toList]) hb) u hu
  ·exact flatP_wr r (fun q w hm=>hw q w (by simp [Pts.toList,hm])) u hu
end
mutual
theorem flatT_k9:∀ (t:Ty),∀ u∈flatT t,u.h.kind≠9
 | .mk h ps,u,hu=>by
  rw [flatT] at hu
  split at hu
  ·cases hu
  ·rename_i h9
   rcases List.mem_cons.1 hu with rfl | hu
   ·exact h9
   ·exact flatP_k9 ps u hu
theorem flatP_k9:∀ (ps:Pts),∀ u∈flatP ps,u.h.kind≠9
 | .nil,u,hu=>by cases hu
 | .cons p v r,u,hu=>by
  rw [flatP] at hu
  rcases List.mem_append.1 hu with hu | hu
  ·split at hu
   ·cases hu
   ·exact flatT_k9 v u hu
  ·exact flatP_k9 r u hu
end
mutual
theorem flatT_pos:∀ (t:Ty) (j:Nat) (u:Ty),(flatT t)[j]? = some u→j + u.nn≤t.nn
 | .mk h ps,j,u,hu=>by
  rw [flatT] at hu
  by_cases h9:h.kind=9
  ·rw [if_pos h9] at hu;simp at hu
  rw [if_neg h9] at hu
  cases j with
  | zero=>
   simp only [List.getElem?_cons_zero,Option.some.injEq] at hu
   subst hu;omega
  | succ j=>
   simp only [List.getElem?_cons_succ] at hu
   have:=flatP_pos ps j u hu
   rw [Ty.nn,if_neg h9];omega
theorem flatP_pos:∀ (ps:Pts) (j:Nat) (u:Ty),(flatP ps)[j]? = some u→j + u.nn≤ps.nn
 | .nil,j,u,hu=>by simp [flatP] at hu
 | .cons p v r,j,u,hu=>by
  rw [flatP] at hu
  rw [Pts.nn]
  cases hb:p.bare with
  | true=>
   rw [hb] at hu
   have:=flatP_pos r j u (by simpa using hu)
   simp only [if_true];omega
  | false=>
   rw [hb] at hu
   simp only [Bool.false_eq_true,if_false] at hu ⊢
   by_cases hj:j < (flatT v).length
   ·rw [List.getElem?_append_left hj] at hu
    have:=flatT_pos v j u hu
    omega
   ·rw [List.getElem?_append_right (by omega)] at hu
    have:=flatP_pos r _ u hu
    have h2:=flatT_len v
    omega
end
theorem edsP_mem {lev:List Wd→Int} {s:Sch}:∀ {ps:Pts} {k:Nat} {e:Ed},e∈edsP lev s ps k→∃ p u k',(p,u)∈ps.toList∧e=mkEd lev p (toF s p u k')∧(p.bare=false→k' + u.nn≤k + ps.nn)
 | .nil,k,e,he=>by simp [edsP] at he
 | .cons p u r,k,e,he=>by
  rw [edsP] at he
  rcases List.mem_cons.1 he with rfl | he
  ·refine ⟨p,u,k,by simp [Pts.toList],rfl,fun hb=>?_⟩
   rw [Pts.nn,hb];simp
  ·obtain ⟨q,v,k',h1,h2,h3⟩:=edsP_mem he
   refine ⟨q,v,k',by simp [Pts.toList,h1],h2,fun hb=>?_⟩
   have:=h3 hb
   rw [Pts.nn];omega
theorem edsP_names {lev:List Wd→Int} {s:Sch}:∀ {ps:Pts} {k:Nat},(edsP lev s ps k).map Ed.name=nmTx (pNames ps)
 | .nil,k=>rfl
 | .cons p u r,k=>by
  rw [edsP,List.map_cons,edsP_names (ps:=r)]
  rfl
theorem botN_some {f:Nat→Nat→Bool} {n:Nat} (hL:LatOK f n):∀ e,e≤n→∃ b,b < n∧∀ x,x < e→f b x=true
 | 0,_=>⟨0,hL.pos,fun x hx=>by omega⟩
 | e + 1,he=>by
  obtain ⟨b,hb,hle⟩:=botN_some hL e (by omega)
  obtain ⟨k,hk⟩:=hL.mt b e hb (by omega)
  obtain ⟨g1,g2,g3,g4⟩:=meetN_spec hk
  refine ⟨k,g1,fun x hx=>?_⟩
  rcases Nat.lt_succ_iff_lt_or_eq.1 hx with hx | rfl
  ·exact hL.tr k b x g1 hb (by omega) g2 (hle x hx)
  ·exact g3
theorem leastN_some {f:Nat→Nat→Bool} {n:Nat} (hL:LatOK f n) (l:List Nat) (hl:∀ x∈l,x < n):∃ c,leastN f n l=some c:=by
 have key:∀ e,e≤l.length→∃ c,leastN f n (l.take e)=some c:=by
  intro e
  induction e with
  | zero=>
   intro _
   obtain ⟨b,hb,hle⟩:=botN_some hL n (Nat.le_refl _)
   exact ⟨b,leastN_nil hL hb hle⟩
  | succ e ih=>
   intro he
   obtain ⟨c,hc⟩:=ih (by omega)
   obtain ⟨x,hx⟩:∃ x,l[e]? = some x:=⟨_,List.getElem?_eq_getElem (by omega)⟩
   have hxl:=hl x (List.mem_of_getElem? hx)
   obtain ⟨k,hk⟩:=hL.jn c x (leastN_lt hc) hxl
   rw [List.take_add_one,hx]
   exact ⟨k,leastN_snoc hL (fun y hy=>hl y (List.mem_of_mem_take hy)) hxl hc hk⟩
 have:=key l.length (Nat.le_refl _)
 rwa [List.take_length] at this
theorem labW_some {L:List ByteArray}:∀ {l:List Wd},(labW L l).1=0→∀ w∈l,∃ i,ixOf L w.s=some i
 | [],_,w,hw=>by cases hw
 | x :: r,h,w,hw=>by
  rw [labW] at h
  split at h
  ·cases h
  ·rename_i h1
   rcases List.mem_cons.1 hw with rfl | hw
   ·exact Option.ne_none_iff_exists'.1 h1
   ·exact labW_some h w hw
theorem labN_some {f:Nat→Nat→Bool} {L:List ByteArray} (hL:LatOK f L.length) {l:List Wd} (h:(labW L l).1=0):∃ c:Nat,labN f L l=c∧c < L.length:=by
 obtain ⟨c,hc⟩:=leastN_some hL (labI L l) (fun x hx=>by
  unfold labI at hx
  obtain ⟨w,hw,rfl⟩:=List.mem_map.1 hx
  obtain ⟨i,hi⟩:=labW_some h w hw
  rw [hi]
  exact (ixOf_some hi).1)
 refine ⟨c,?_,leastN_lt hc⟩
 unfold labN
 rw [if_pos h,hc]
 rfl
end Go.Proofs.YtbfdbhechmhpoaaGreat
set_option maxRecDepth 100000
namespace Go.Proofs.YtbfdbhechmhpoaaGreat
open Go Go.RowKit Dv Tryz
structure EdOK (L N:Nat) (e:Ed):Prop where
 to0:e.bare=true→e.to = -1
 to1:e.bare=false→∃ k:Nat,e.to=k∧k < N
 lab:∃ k:Nat,e.label=k∧k < L
 seen:∃ k:Nat,e.seen=k∧k < L
 wide:1≤e.wide∧e.wide≤64
 ck:0≤e.ck∧e.ck≤3
 cn:(e.ck=0→e.cn=0)∧(e.ck=1→1≤e.cn)∧(e.ck=2→0≤e.cn∧e.cn≤4096)∧(e.ck=3→e.cn=0)
structure NdOK (L N:Nat) (n:Nd):Prop where
 k1:1≤n.kind
 k8:n.kind≤8
 lohi:n.kind=2→n.lo≤n.hi
 lo0:n.kind≠2→n.lo=0∧n.hi=0
 most3:n.kind=3→0≤n.most∧n.most≤4096
 most5:n.kind=5→0≤n.most∧n.most≤1024
 most0:n.kind≠3→n.kind≠5→n.most=0
 names:n.kind=4→n.names ≠ []∧n.names.length≤64∧n.names.Nodup∧∀ s∈n.names,nameOK s=true
 names0:n.kind≠4→n.names=[]
 leaf:n.kind < 5→n.edges=[]
 one:n.kind=5∨n.kind=6→∃ e,n.edges=[e]∧e.bare=false∧e.name=emptyB
 many:n.kind=7∨n.kind=8→n.edges.length≤64∧(n.kind=8→n.edges ≠ [])∧(n.edges.map Ed.name).Nodup∧∀ e∈n.edges,nameOK e.name=true
 bare:∀ e∈n.edges,e.bare=true→n.kind=8
 edge:∀ e∈n.edges,EdOK L N e
theorem listed_all {l:List Wd} (h:∀ j x,l[j]? = some x→listedF l j x=0):(nmTx l).Nodup∧∀ x∈l,nameOK x.s=true:=by
 have key:∀ e,e≤l.length→(nmTx (l.take e)).Nodup:=by
  intro e
  induction e with
  | zero=>intro _;simp [nmTx]
  | succ e ih=>
   intro he
   obtain ⟨x,hx⟩:∃ x,l[e]? = some x:=⟨_,List.getElem?_eq_getElem (by omega)⟩
   exact listed_nodup hx (ih (by omega)) (h e x hx)
 refine ⟨by have:=key l.length (Nat.le_refl _);rwa [List.take_length] at this,fun x hx=>?_⟩
 obtain ⟨j,hj⟩:=List.mem_iff_getElem?.1 hx
 have:=h j x hj
 unfold listedF at this
 cases hb:nameOK x.s
 ·rw [hb] at this;simp at this
 ·rfl
theorem enumL_all {all:List Wd}:∀ {l:List Wd} {i:Nat},(enumL all i l).1=0→∀ j x,l[j]? = some x→listedF all (i + j) x=0
 | [],i,_,j,x,hx=>by simp at hx
 | y :: r,i,h,j,x,hx=>by
  rw [enumL] at h
  split at h
  ·rename_i h1;exact (h1 h).elim
  ·rename_i h1
   cases j with
   | zero=>
    simp only [List.getElem?_cons_zero,Option.some.injEq] at hx
    subst hx
    simpa using h1
   | succ j=>
    simp only [List.getElem?_cons_succ] at hx
    have:=enumL_all h j x hx
    rwa [show i + 1 + j=i + (j + 1) by omega] at this
theorem enumWd_facts {h:Hd} (he:enumWd h=(0,0)):h.names ≠ []∧h.names.length≤64∧(nmTx h.names).Nodup∧∀ x∈h.names,nameOK x.s=true:=by
 unfold enumWd at he
 split at he
 ·cases he
 ·rename_i h1
  split at he
  ·cases he
  ·rename_i h2
   refine ⟨h1,by omega,?_⟩
   exact listed_all fun j x hx=>by
    have:=enumL_all (all:=h.names) (i:=0) (by rw [he]) j x hx
    rwa [Nat.zero_add] at this
theorem knP_lab {X:Lx} {L:List ByteArray}:∀ {ps:Pts},(knP X L ps).1=0→∀ {p:Ph} {u:Ty},(p,u)∈ps.toList→(X.bad p.label).1=0∧(X.bad p.cl).1=0
 | .nil,_,p,u,h=>by cases h
 | .cons q v r,hk,p,u,h=>by
  have hr:=(knP_ok hk).2
  rw [knP] at hk
  split at hk
  ·rename_i h1;exact (h1 hk).elim
  rename_i h1
  split at hk
  ·rename_i h2;exact (h2 hk).elim
  rename_i h2
  rcases List.mem_cons.1 h with h | h
  ·cases h;exact ⟨by simpa using h1,by simpa using h2⟩
  ·exact knP_lab hr h
theorem wide_zero {p q:Ph} (h:plainP p q=true):p.bare=q.bare∧p.wide=q.wide∧p.ck=q.ck∧p.cn=q.cn:=by
 unfold plainP at h
 simp only [Bool.and_eq_true,beq_iff_eq,decide_eq_true_eq] at h
 exact ⟨h.1.1.1.1.1,h.1.1.1.1.2,h.1.1.2,h.1.2⟩
theorem wideF_ok {w:Int} (h:0≤w∧w≤64):1≤wideF w∧wideF w≤64:=by
 unfold wideF
 split<;>omega
theorem coarseF_ok {p:Ph} (h:(coarseF p).1=0):(0≤p.ck∧p.ck≤3)∧(p.ck=0→p.cn=0)∧(p.ck=1→1≤p.cn)∧(p.ck=2→0≤p.cn∧p.cn≤4096)∧(p.ck=3→p.cn=0):=by
 unfold coarseF at h
 by_cases c0:p.ck=0
 ·rw [if_pos c0] at h
  by_cases c1:p.cn=0∧p.cl=[]
  ·exact ⟨by omega,fun _=>c1.1,by omega,by omega,by omega⟩
  ·rw [if_neg c1] at h;simp at h
 rw [if_neg c0] at h
 by_cases c1:p.ck < 0∨3 < p.ck
 ·rw [if_pos c1] at h;simp at h
 rw [if_neg c1] at h
 by_cases c2:(p.ck=1∧p.cn < 1)∨(p.ck=2∧(p.cn < 0∨4096 < p.cn))∨(p.ck=3∧p.cn≠0)
 ·rw [if_pos c2] at h;simp at h
 exact ⟨by omega,by omega,by omega,by omega,by omega⟩
theorem partWd_ok {p:Ph} (h:(partWd p).1=0):(0≤p.wide∧p.wide≤64)∧(coarseF p).1=0:=by
 unfold partWd at h
 by_cases c0:p.wide < 0∨64 < p.wide
 ·rw [if_pos c0] at h;simp at h
 rw [if_neg c0] at h
 by_cases c1:(labelF p.label).1≠0
 ·rw [if_pos c1] at h;exact absurd h c1
 rw [if_neg c1] at h
 exact ⟨by omega,h⟩
theorem nn_pos {t:Ty} (h:t.h.kind≠9):1≤t.nn:=by
 obtain ⟨h',ps⟩:=t
 have h:¬ h'.kind=9:=h
 rw [Ty.nn,if_neg h]
 omega
theorem firstA_lt {S:Sch} {k:Nat} {x:Wd × Ty} (hx:S.types[k]? = some x):firstA S k + x.2.nn≤nnS (allT S):=by
 have h1:=firstA_succ hx
 rw [← h1]
 have h2:firstA S (k + 1)=nnS ((tysOf S).take (k + 1)):=by
  unfold firstA nnS tysOf
  rw [← List.map_take,List.map_map]
  rfl
 have h3:=nnS_take (tysOf S) (k + 1)
 have h4:nnS (allT S)=nnS (tysOf S) + nnS [S.root]:=nnS_app _ _
 omega
theorem ndsA_get {lev:List Wd→Int} {s:Sch} {n:Nd}:∀ {l:List Ty} {k i:Nat},(ndsA lev s l k)[i]? = some n→∃ t∈l,∃ u∈flatT t,n=ndR lev s u (k + i)∧i + u.nn≤nnS l
 | [],k,i,h=>by simp [ndsA] at h
 | t :: r,k,i,h=>by
  rw [ndsA] at h
  rw [nnS_cons]
  have hl:=ndsT_len lev s t k
  by_cases hi:i < t.nn
  ·rw [List.getElem?_append_left (by omega),ndsT_eq,List.getElem?_map,List.getElem?_zipIdx] at h
   cases hu:(flatT t)[i]? with
   | none=>rw [hu] at h;simp at h
   | some u=>
    rw [hu] at h
    simp only [Option.map_some,Option.some.injEq] at h
    have:=flatT_pos t i u hu
    exact ⟨t,List.mem_cons_self,u,List.mem_of_getElem? hu,by rw [← h];simp,by omega⟩
  ·rw [List.getElem?_append_right (by omega),hl] at h
   obtain ⟨t',h1,u,h2,h3,h4⟩:=ndsA_get h
   refine ⟨t',List.mem_cons_of_mem _ h1,u,h2,?_,by omega⟩
   rw [h3]
   congr 1
   omega
theorem resNds_len (S:Sch):(resNds S).length=nnS (allT S):=by rw [resNds_eq,ndsA_len]
theorem resNds_ok {S:Sch} (hF:FineS S) {i:Nat} {n:Nd} (h:(resNds S)[i]? = some n):NdOK S.levels.length (resNds S).length n:=by
 rw [resNds_len]
 rw [resNds_eq] at h
 obtain ⟨t,ht,u,hu,rfl,hpos⟩:=ndsA_get h
 rw [Nat.zero_add]
 have hwr:=flatT_wr t ⟨_,_,hF.wr t ht⟩ u hu
 have hk:=flatT_kn t (hF.kn t ht) u hu
 have hk9:=flatT_k9 t u hu
 have hT:=tyF_of hwr
 obtain ⟨hLat,_⟩:=latOK_of hF.lat
 have hnl:=nmTx_len S.levels
 have hends:=hF.ends
 obtain ⟨uh,us⟩:=u
 simp only [Ty.h,Ty.ps] at hT hk9
 have hkp:=(knT_ok hk).2
 have hown:=hT.own
 unfold ownF at hown
 simp only [Bool.and_eq_true,Bool.or_eq_true,decide_eq_true_eq] at hown
 obtain ⟨⟨⟨⟨o1,o2⟩,o3⟩,o4⟩,o5⟩:=hown
 have k1:=hT.k1
 have k9:=hT.k9
 have hlv:∀ l:List Wd,(labW (nmTx S.levels) l).1=0→∃ k:Nat,levS S l=k∧k < S.levels.length:=by
  intro l hl
  have:=labN_some (f:=leqN S.levels.length (numL (nmTx S.levels) S.order)) (L:=nmTx S.levels) (by rw [hnl];exact hLat) hl
  rwa [hnl] at this
 have hto:∀ (p:Ph) (v:Ty) (k':Nat),(p,v)∈us.toList→(p.bare=false→k' + v.nn≤i + 1 + us.nn)→(p.bare=true→toF S p v k' = -1)∧(p.bare=false→∃ k:Nat,toF S p v k'=k∧k < nnS (allT S)):=by
  intro p v k' hm hle
  refine ⟨fun hb=>by simp [toF,hb],fun hb=>?_⟩
  have hkv:=knP_mem hkp hm hb
  obtain ⟨vh,vs⟩:=v
  by_cases h9:vh.kind=9
  ·obtain ⟨j,hj⟩:=Option.ne_none_iff_exists'.1 ((knT_ok hkv).1 h9)
   have hjl:=(ixOf_some hj).1
   rw [tL_len] at hjl
   obtain ⟨k,hk⟩:=hends j hjl
   have hkl:=endI_lt hk
   obtain ⟨x,hx⟩:∃ x,S.types[k]? = some x:=⟨_,List.getElem?_eq_getElem hkl.1⟩
   have h1:=firstA_lt hx
   have h2:=nn_pos (hkl.2 x hx)
   refine ⟨firstA S k,?_,by omega⟩
   simp [toF,hb,idxF,Ty.h,h9,nmF,hj,namedN,hk]
  ·have h1:=nn_pos (t:=.mk vh vs) h9
   have h2:=hle hb
   have h3:(Ty.mk uh us).nn=1 + us.nn:=by rw [Ty.nn,if_neg hk9]
   refine ⟨k',by simp [toF,hb,idxF,Ty.h,h9],by omega⟩
 have hpart:∀ p v,(p,v)∈us.toList→(0≤p.wide∧p.wide≤64)∧(0≤p.ck∧p.ck≤3)∧((p.ck=0→p.cn=0)∧(p.ck=1→1≤p.cn)∧(p.ck=2→0≤p.cn∧p.cn≤4096)∧(p.ck=3→p.cn=0))∧(p.bare=true→uh.kind=8):=by
  intro p v hm
  obtain ⟨j,hj⟩:=List.mem_iff_getElem?.1 hm
  have hlen:us.len≠0:=by
   cases us with
   | nil=>simp [Pts.toList] at hm
   | cons _ _ _=>simp [Pts.len]
  by_cases h5:uh.kind=5∨uh.kind=6
  ·obtain ⟨q,t',rfl,_,hpl,_,_,_⟩:=hT.one h5
   simp only [Pts.toList,List.mem_singleton,Prod.mk.injEq] at hm
   obtain ⟨rfl,rfl⟩:=hm
   obtain ⟨w1,w2,w3,w4⟩:=wide_zero hpl
   have z1:zeroPh.wide=0:=rfl
   have z2:zeroPh.ck=0:=rfl
   have z3:zeroPh.cn=0:=rfl
   have z4:zeroPh.bare=false:=rfl
   rw [z1] at w2;rw [z2] at w3;rw [z3] at w4;rw [z4] at w1
   refine ⟨by omega,by omega,⟨by omega,by omega,by omega,by omega⟩,fun hb=>?_⟩
   rw [w1] at hb;cases hb
  ·obtain ⟨_,hP⟩:=(hT.many (by omega)).2.2 j p v hj
   rcases hP with ⟨hb,h8,_,hpl⟩ | ⟨hb,hp,_⟩
   ·obtain ⟨w1,w2,w3,w4⟩:=wide_zero hpl
    have z1:barePh.wide=0:=rfl
    have z2:barePh.ck=0:=rfl
    have z3:barePh.cn=0:=rfl
    rw [z1] at w2;rw [z2] at w3;rw [z3] at w4
    exact ⟨by omega,by omega,⟨by omega,by omega,by omega,by omega⟩,fun _=>h8⟩
   ·obtain ⟨w1,w2⟩:=partWd_ok hp
    obtain ⟨w3,w4⟩:=coarseF_ok w2
    exact ⟨w1,w3,w4,fun h=>by rw [hb] at h;cases h⟩
 have hlen0:us.len=0→us = .nil:=fun h=>by
  cases us with
  | nil=>rfl
  | cons _ _ _=>simp [Pts.len] at h
 refine {
  k1:=k1
  k8:=by show uh.kind≤8;omega
  lohi:=hT.int
  lo0:=fun h2=>?_
  most3:=hT.text
  most5:=fun h5=>?_
  most0:=fun h3 h5=>?_
  names:=fun h4=>?_
  names0:=fun h4=>?_
  leaf:=fun h5=>?_
  one:=fun h5=>?_
  many:=fun h7=>?_
  bare:=fun e he hb=>?_
  edge:=fun e he=>?_ }
 ·show uh.lo=0∧uh.hi=0
  exact o1.resolve_left h2
 ·obtain ⟨q,t',rfl,_,_,hm0,hm1,_⟩:=hT.one (.inl h5)
  exact ⟨hm0,hm1⟩
 ·show uh.most=0
  exact o2.resolve_left (fun h=>h.elim h3 h5)
 ·obtain ⟨e1,e2,e3,e4⟩:=enumWd_facts (hT.enum h4)
  show nmTx uh.names ≠ []∧(nmTx uh.names).length≤64∧(nmTx uh.names).Nodup∧∀ s∈nmTx uh.names,nameOK s=true
  refine ⟨fun h=>e1 (by simpa [nmTx] using h),by rw [nmTx_len];exact e2,e3,fun s hs=>?_⟩
  unfold nmTx at hs
  obtain ⟨w,hw,rfl⟩:=List.mem_map.1 hs
  exact e4 w hw
 ·show nmTx uh.names=[]
  have:=o4.resolve_right h4
  have:uh.names=[]:=List.eq_nil_of_length_eq_zero this
  rw [this];all_goals rfl
 ·show edsP (levS S) S us (i + 1)=[]
  have hk5:uh.kind < 5:=h5
  rw [hlen0 (o3.resolve_right (by omega))]
  rfl
 ·show ∃ e,edsP (levS S) S us (i + 1)=[e]∧_
  obtain ⟨q,t',rfl,hn,hpl,_,_,_⟩:=hT.one h5
  refine ⟨mkEd (levS S) q (toF S q t' (i + 1)),rfl,?_,hn⟩
  exact (wide_zero hpl).1
 ·show (edsP (levS S) S us (i + 1)).length≤64∧(_→edsP (levS S) S us (i + 1) ≠ [])∧((edsP (levS S) S us (i + 1)).map Ed.name).Nodup∧∀ e∈edsP (levS S) S us (i + 1),nameOK e.name=true
  obtain ⟨m1,m2,m3⟩:=hT.many h7
  have hall:∀ j x,(pNames us)[j]? = some x→listedF (pNames us) j x=0:=by
   intro j x hx
   have hj:j < us.len:=by
    have:=(List.getElem?_eq_some_iff.1 hx).1
    rwa [pNames_len] at this
   obtain ⟨p,t',hp⟩:=Pts.get_lt hj
   rw [pNames_get hp] at hx
   simp only [Option.some.injEq] at hx
   rw [← hx]
   exact (m3 j p t' hp).1
  obtain ⟨n1,n2⟩:=listed_all hall
  refine ⟨by rw [edsP_len];exact m1,fun h8 hn=>m2 h8 ?_,by rw [edsP_names];exact n1,fun e he=>?_⟩
  ·have:=edsP_len (levS S) S us (i + 1)
   rw [hn] at this
   simpa using this.symm
  ·have:e.name∈nmTx (pNames us):=by rw [← edsP_names (lev:=levS S) (s:=S) (k:=i + 1)];exact List.mem_map_of_mem he
   unfold nmTx at this
   obtain ⟨w,hw,h⟩:=List.mem_map.1 this
   rw [← h]
   exact n2 w hw
 ·obtain ⟨p,v,k',h1,rfl,_⟩:=edsP_mem he
  exact (hpart p v h1).2.2.2 hb
 ·obtain ⟨p,v,k',h1,rfl,h3⟩:=edsP_mem he
  obtain ⟨h4,h5⟩:=hto p v k' h1 h3
  obtain ⟨h6,h7,h8,_⟩:=hpart p v h1
  obtain ⟨h9,h10⟩:=knP_lab hkp h1
  exact { to0:=h4,to1:=h5,lab:=hlv _ h9,seen:=hlv _ h10,wide:=wideF_ok h6,ck:=h7,cn:=h8 }
theorem resRoot_ok {S:Sch} (hF:FineS S):∃ k:Nat,resRoot S=k∧k < (resNds S).length:=by
 rw [resNds_len]
 have hkr:=hF.kn S.root (by unfold allT;simp)
 have hends:=hF.ends
 have hrl:=resN_len S
 have hal:nnS (allT S)=nnS (tysOf S) + S.root.nn:=by unfold allT;rw [nnS_app];simp [nnS]
 unfold resRoot
 obtain ⟨levels,order,types,⟨rh,rp⟩⟩:=S
 simp only at hkr hends hal
 by_cases h9:rh.kind=9
 ·obtain ⟨j,hj⟩:=Option.ne_none_iff_exists'.1 ((knT_ok hkr).1 h9)
  have hjl:=(ixOf_some hj).1
  rw [tL_len] at hjl
  obtain ⟨k,hk⟩:=hends j hjl
  have hkl:=endI_lt hk
  obtain ⟨x,hx⟩:∃ x,(Sch.mk levels order types (.mk rh rp)).types[k]? = some x:=⟨_,List.getElem?_eq_getElem hkl.1⟩
  have h1:=firstA_lt hx
  have h2:=nn_pos (hkl.2 x hx)
  exact ⟨firstA ⟨levels,order,types,.mk rh rp⟩ k,by simp [idxF,Ty.h,h9,nmF,hj,namedN,hk],by omega⟩
 ·have h1:=nn_pos (t:=.mk rh rp) h9
  exact ⟨(resN ⟨levels,order,types,.mk rh rp⟩).length,by simp [idxF,Ty.h,h9],by omega⟩
end Go.Proofs.YtbfdbhechmhpoaaGreat
set_option maxRecDepth 100000
namespace Go.Proofs.YtbfdbhechmhpoaaGreat
open Go Go.RowKit Dv Tryz
end Go.Proofs.YtbfdbhechmhpoaaGreat
set_option maxRecDepth 100000
namespace Go.Proofs.YtbfdbhechmhpoaaGreat
open Go Go.RowKit Dv Tryz
end Go.Proofs.YtbfdbhechmhpoaaGreat
set_option maxRecDepth 100000
namespace Go.Proofs.YtbfdbhechmhpoaaGreat
open Go Go.RowKit Dv Tryz
theorem stripS_wt (s:Sch):(stripS s).wt=s.wt:=by
 have h1:∀ l:List (Wd × Wd),prsWt (l.map stripPr)=prsWt l:=by
  intro l
  induction l with
  | nil=>rfl
  | cons x r ih=>simp only [List.map_cons,prsWt,ih,stripPr,stripWd,Wd.wt]
 have h2:∀ l:List (Wd × Ty),nmsWt (l.map stripNm)=nmsWt l:=by
  intro l
  induction l with
  | nil=>rfl
  | cons x r ih=>simp only [List.map_cons,nmsWt,ih,stripNm,stripWd,Wd.wt,stripT_wt]
 simp only [Sch.wt,stripS,plainW_wt,h1,h2,stripT_wt]
end Go.Proofs.YtbfdbhechmhpoaaGreat
set_option maxRecDepth 100000
namespace Go.Proofs.YtbfdbhechmhpoaaGreat
open Go Go.RowKit Dv Tryz
theorem ifx {c c':Prop} [Decidable c] [Decidable c'] {a b a' b':Ft} (hc:c↔c') (h1:a.1=b.1) (h2:¬ c→a'.1=b'.1):(if c then a else a').1=(if c' then b else b').1:=by
 by_cases h:c
 ·rw [if_pos h,if_pos (hc.1 h)];exact h1
 ·rw [if_neg h,if_neg (fun h'=>h (hc.2 h'))];exact h2 h
theorem plainW_nm (l:List Wd):nmTx (plainW l)=nmTx l:=by simp [nmTx,plainW]
theorem plainW_ln (l:List Wd):(plainW l).length=l.length:=by simp [plainW]
theorem plainW_cons (w:Wd) (l:List Wd):plainW (w :: l)=stripWd w :: plainW l:=rfl
theorem plainW_nil_iff (l:List Wd):plainW l=[]↔l=[]:=by simp [plainW]
theorem listedF_st (all:List Wd) (i:Nat) (x:Wd):listedF (plainW all) i (stripWd x)=listedF all i x:=by
 have:dupBefore ((plainW all).take i) (stripWd x).s=dupBefore (all.take i) x.s:=by
  unfold dupBefore plainW
  rw [← List.map_take,List.any_map]
  rfl
 unfold listedF
 rw [this]
 rfl
theorem enumL_st (all:List Wd):∀ (l:List Wd) (i:Nat),(enumL (plainW all) i (plainW l)).1=(enumL all i l).1
 | [],i=>rfl
 | x :: r,i=>by
  rw [plainW_cons,enumL,enumL,listedF_st]
  split
  ·rfl
  ·exact enumL_st all r (i + 1)
theorem badWd_st:∀ l:List Wd,(badWd (plainW l)).1=(badWd l).1
 | []=>rfl
 | x :: r=>by
  rw [plainW_cons,badWd,badWd]
  have:(stripWd x).s=x.s:=rfl
  rw [this]
  split
  ·exact badWd_st r
  ·rfl
theorem labelF_st (l:List Wd):(labelF (plainW l)).1=(labelF l).1:=by
 unfold labelF
 rw [plainW_ln]
 split
 ·exact badWd_st l
 ·rfl
theorem coarseF_st (p:Ph):(coarseF (stripPh p)).1=(coarseF p).1:=by
 unfold coarseF
 have h1:(stripPh p).cl=plainW p.cl:=rfl
 have h2:(stripPh p).ck=p.ck:=rfl
 have h3:(stripPh p).cn=p.cn:=rfl
 rw [h1,h2,h3]
 refine ifx Iff.rfl (ifx (and_congr Iff.rfl (plainW_nil_iff _)) rfl fun _=>rfl) fun _=>?_
 refine ifx Iff.rfl rfl fun _=>?_
 refine ifx Iff.rfl rfl fun _=>?_
 exact labelF_st _
theorem partWd_st (p:Ph):(partWd (stripPh p)).1=(partWd p).1:=by
 unfold partWd
 have h1:(stripPh p).wide=p.wide:=rfl
 have h2:(stripPh p).label=plainW p.label:=rfl
 rw [h1,h2,labelF_st]
 split
 ·rfl
 ·split
  ·exact labelF_st _
  ·exact coarseF_st p
theorem enumWd_st (h:Hd):(enumWd (stripHd h)).1=(enumWd h).1:=by
 unfold enumWd
 have h1:(stripHd h).names=plainW h.names:=rfl
 rw [h1]
 refine ifx (plainW_nil_iff _) rfl fun _=>?_
 rw [plainW_ln]
 exact ifx Iff.rfl rfl fun _=>enumL_st _ _ _
theorem ownF_st (h:Hd) (ps:Pts):ownF (stripHd h) (stripP ps)=ownF h ps:=by
 unfold ownF
 rw [stripP_len]
 have h1:(stripHd h).names=plainW h.names:=rfl
 rw [h1,plainW_ln]
 rfl
theorem ownB_st (h:Hd) (ps:Pts):ownB (.mk (stripHd h) (stripP ps))=ownB (.mk h ps):=by
 unfold ownB
 rw [← ownF_eq,← ownF_eq,ownF_st]
theorem sameWds_st:∀ l m:List Wd,sameWds (plainW l) m=sameWds l m
 | [],m=>rfl
 | x :: r,[]=>rfl
 | x :: r,y :: s=>by
  rw [plainW_cons,sameWds,sameWds,sameWds_st r s]
  rfl
theorem plainP_st (p q:Ph):plainP (stripPh p) q=plainP p q:=by
 unfold plainP
 have h1:(stripPh p).label=plainW p.label:=rfl
 have h2:(stripPh p).cl=plainW p.cl:=rfl
 rw [h1,h2,sameWds_st,sameWds_st]
 rfl
theorem pNames_st:∀ ps:Pts,pNames (stripP ps)=plainW (pNames ps)
 | .nil=>rfl
 | .cons p t r=>by
  rw [stripP,pNames,pNames,plainW_cons,pNames_st r]
  rfl
def EqF (a b:Ft × Int):Prop:=a.1.1=b.1.1∧a.2=b.2
theorem EqF.rfl' (a:Ft × Int):EqF a a:=⟨rfl,rfl⟩
theorem eqF_if {c:Prop} [Decidable c] {a b a' b':Ft × Int} (h1:EqF a b) (h2:¬ c→EqF a' b'):EqF (if c then a else a') (if c then b else b'):=by
 by_cases hc:c
 ·rw [if_pos hc,if_pos hc];exact h1
 ·rw [if_neg hc,if_neg hc];exact h2 hc
mutual
theorem wrong_st:∀ (t:Ty) (d m:Int),EqF (wrong (stripT t) d m) (wrong t d m)
 | .mk h ps,d,m=>by
  have i1:=wrongOne_st h ps d (m + 1)
  have i2:=wrongPts_st h.kind (pNames ps) ps 0 d (m + 1)
  rw [stripT,wrong,wrong,ownB_st,stripP_len,pNames_st]
  have e1:(stripHd h).kind=h.kind:=rfl
  have e2:(stripHd h).hi=h.hi:=rfl
  have e3:(stripHd h).lo=h.lo:=rfl
  have e4:(stripHd h).most=h.most:=rfl
  have e5:(stripHd h).name.s=h.name.s:=rfl
  rw [e1,e2,e3,e4,e5]
  refine eqF_if ⟨rfl,rfl⟩ fun _=>?_
  refine eqF_if ⟨rfl,rfl⟩ fun _=>?_
  refine eqF_if ⟨rfl,rfl⟩ fun _=>?_
  refine eqF_if ⟨rfl,rfl⟩ fun _=>?_
  refine eqF_if ⟨rfl,rfl⟩ fun _=>?_
  refine eqF_if ⟨rfl,rfl⟩ fun _=>?_
  refine eqF_if ⟨enumWd_st h,rfl⟩ fun _=>?_
  refine eqF_if i1 fun _=>?_
  refine eqF_if ?_ fun _=>⟨rfl,rfl⟩
  refine eqF_if ⟨rfl,rfl⟩ fun _=>?_
  exact eqF_if ⟨rfl,rfl⟩ fun _=>i2
theorem wrongOne_st:∀ (h:Hd) (ps:Pts) (d m:Int),EqF (wrongOne (stripHd h) (stripP ps) d m) (wrongOne h ps d m)
 | h,.nil,d,m=>by
  rw [stripP]
  simp only [wrongOne]
  exact ⟨rfl,rfl⟩
 | h,.cons p t .nil,d,m=>by
  have ih:=wrong_st t (d + 1) m
  rw [stripP,stripP,wrongOne,wrongOne,plainP_st]
  have e1:(stripPh p).name.s=p.name.s:=rfl
  have e2:(stripHd h).most=h.most:=rfl
  rw [e1,e2]
  refine eqF_if ⟨rfl,rfl⟩ fun _=>?_
  exact eqF_if ⟨rfl,rfl⟩ fun _=>ih
 | h,.cons p t (.cons q u r),d,m=>by
  rw [stripP,stripP]
  simp only [wrongOne]
  exact ⟨rfl,rfl⟩
theorem wrongPts_st:∀ (kind:Int) (all:List Wd) (ps:Pts) (i:Nat) (d m:Int),EqF (wrongPts kind (plainW all) i (stripP ps) d m) (wrongPts kind all i ps d m)
 | kind,all,.nil,i,d,m=>by rw [stripP,wrongPts,wrongPts];exact ⟨rfl,rfl⟩
 | kind,all,.cons p t r,i,d,m=>by
  have i1:=wrong_st t (d + 1) m
  have i2:=fun m'=>wrongPts_st kind all r (i + 1) d m'
  rw [stripP,wrongPts,wrongPts,plainP_st,sameTy_l,partWd_st,i1.1,i1.2]
  have e1:(stripPh p).name=stripWd p.name:=rfl
  have e2:(stripPh p).bare=p.bare:=rfl
  rw [e1,e2,listedF_st]
  refine eqF_if ⟨rfl,rfl⟩ fun _=>?_
  refine eqF_if ?_ fun _=>?_
  ·exact eqF_if ⟨rfl,rfl⟩ fun _=>i2 _
  ·refine eqF_if ⟨partWd_st p,rfl⟩ fun _=>?_
   exact eqF_if i1 fun _=>i2 _
end
mutual
theorem cnt_st:∀ t:Ty,(stripT t).cnt=t.cnt
 | .mk h ps=>by rw [stripT,Ty.cnt,Ty.cnt,cntP_st ps]
theorem cntP_st:∀ ps:Pts,(stripP ps).cnt=ps.cnt
 | .nil=>by rw [stripP]
 | .cons p t r=>by rw [stripP,Pts.cnt,Pts.cnt,cnt_st t,cntP_st r];all_goals rfl
end
mutual
theorem nn_st:∀ t:Ty,(stripT t).nn=t.nn
 | .mk h ps=>by rw [stripT,Ty.nn,Ty.nn,nnP_st ps];all_goals rfl
theorem nnP_st:∀ ps:Pts,(stripP ps).nn=ps.nn
 | .nil=>by rw [stripP]
 | .cons p t r=>by rw [stripP,Pts.nn,Pts.nn,nn_st t,nnP_st r];all_goals rfl
end
theorem rightF_st (t:Ty) (m:Int):EqF (rightF (stripT t) m) (rightF t m):=by
 unfold rightF
 have:=wrong_st t 1 0
 rw [cnt_st,this.1]
 refine eqF_if ⟨this.1,rfl⟩ fun _=>?_
 exact eqF_if ⟨rfl,rfl⟩ fun _=>⟨rfl,rfl⟩
theorem eaR_st (z:Ty):∀ (l:List (Wd × Ty)) (m:Int),EqF (eaR (stripT z) (l.map stripNm) m) (eaR z l m)
 | [],m=>by rw [List.map_nil,eaR,eaR];exact rightF_st z m
 | x :: r,m=>by
  have h:=rightF_st x.2 m
  have e1:(stripNm x).2=stripT x.2:=rfl
  rw [List.map_cons,eaR,eaR,e1,h.1,h.2]
  exact eqF_if h fun _=>eaR_st z r _
theorem tL_st (s:Sch):tL (stripS s)=tL s:=by
 unfold tL tNm nmTx stripS
 simp [List.map_map,Function.comp_def,stripNm,stripWd]
theorem labW_st (L:List ByteArray):∀ l:List Wd,(labW L (plainW l)).1=(labW L l).1
 | []=>rfl
 | w :: r=>by
  rw [plainW_cons,labW,labW]
  have:(stripWd w).s=w.s:=rfl
  rw [this]
  split
  ·rfl
  ·exact labW_st L r
theorem if1 {c:Prop} [Decidable c] {a b a' b':Ft} (h1:a.1=b.1) (h2:¬ c→a'.1=b'.1):(if c then a else a').1=(if c then b else b').1:=by
 by_cases hc:c
 ·rw [if_pos hc,if_pos hc];exact h1
 ·rw [if_neg hc,if_neg hc];exact h2 hc
mutual
theorem knT_st (X:Lx) (L:List ByteArray):∀ t:Ty,(knT X L (stripT t)).1=(knT X L t).1
 | .mk h ps=>by
  have:=knP_st X L ps
  rw [stripT,knT,knT]
  exact if1 rfl fun _=>this
theorem knP_st (X:Lx) (L:List ByteArray):∀ ps:Pts,(knP X L (stripP ps)).1=(knP X L ps).1
 | .nil=>by rw [stripP]
 | .cons p t r=>by
  have i1:=knT_st X L t
  have i2:=knP_st X L r
  have e1:(X.bad (stripPh p).label).1=(X.bad p.label).1:=labW_st _ _
  have e2:(X.bad (stripPh p).cl).1=(X.bad p.cl).1:=labW_st _ _
  have e3:(stripPh p).bare=p.bare:=rfl
  rw [stripP,knP,knP,e1,e2,e3,i1]
  refine if1 e1 fun _=>?_
  refine if1 e2 fun _=>?_
  refine if1 i2 fun _=>?_
  exact if1 i1 fun _=>i2
end
theorem knS_st (s:Sch) (t:Ty):(knS (stripS s) (stripT t)).1=(knS s t).1:=by
 unfold knS
 have:(stripS s).levels=plainW s.levels:=rfl
 rw [this,plainW_nm,tL_st]
 exact knT_st _ _ t
theorem eaL_st {F G:Ty→Ft} {z y:Ft} (hz:z.1=y.1) (h:∀ t,(F (stripT t)).1=(G t).1):∀ l:List (Wd × Ty),(eaL F z (l.map stripNm)).1=(eaL G y l).1
 | []=>hz
 | x :: r=>by
  have e1:(stripNm x).2=stripT x.2:=rfl
  rw [List.map_cons,eaL,eaL,e1,h x.2]
  exact if1 (h x.2) fun _=>eaL_st hz h r
theorem types_st (s:Sch):(stripS s).types.length=s.types.length:=by simp [stripS]
theorem stripT_h (t:Ty):(stripT t).h=stripHd t.h:=by cases t;rfl
theorem endI_st (s:Sch):∀ (k i:Nat),endI (stripS s) k i=endI s k i
 | 0,i=>rfl
 | k + 1,i=>by
  rw [endI,endI,tL_st]
  have:(stripS s).types[i]? = (s.types[i]?).map stripNm:=by simp [stripS]
  rw [this]
  cases s.types[i]? with
  | none=>rfl
  | some x=>
   simp only [Option.map_some]
   have e1:(stripNm x).2=stripT x.2:=rfl
   rw [e1,stripT_h,endI_st s k]
   rfl
theorem loopF_st (s:Sch):(loopF (stripS s)).1=(loopF s).1:=by
 unfold loopF
 rw [types_st]
 have:(fun i=>(endI (stripS s) (s.types.length + 1) i).isNone)=fun i=>(endI s (s.types.length + 1) i).isNone:=by
  funext i
  rw [endI_st]
 rw [this]
 split<;>rfl
theorem tNm_st (s:Sch):tNm (stripS s)=plainW (tNm s):=by
 unfold tNm stripS plainW
 simp [List.map_map,Function.comp_def,stripNm]
 intros
 rfl
theorem namedF_st (s:Sch):(namedF (stripS s)).1=(namedF s).1:=by
 unfold namedF
 rw [types_st,tNm_st]
 exact if1 rfl fun _=>enumL_st _ _ _
theorem numL_st (L:List ByteArray) (o:List (Wd × Wd)):numL L (o.map stripPr)=numL L o:=by
 unfold numL
 rw [List.map_map]
 rfl
theorem numF_st (L:List ByteArray):∀ o:List (Wd × Wd),(numF L (o.map stripPr)).1=(numF L o).1
 | []=>rfl
 | p :: r=>by
  have e1:(stripPr p).1.s=p.1.s:=rfl
  have e2:(stripPr p).2.s=p.2.s:=rfl
  rw [List.map_cons,numF,numF,e1,e2]
  refine if1 rfl fun _=>?_
  exact if1 rfl fun _=>numF_st L r
theorem latF_st (s:Sch):(latF (stripS s).levels (stripS s).order).1=(latF s.levels s.order).1:=by
 have e1:(stripS s).levels=plainW s.levels:=rfl
 have e2:(stripS s).order=s.order.map stripPr:=rfl
 rw [e1,e2]
 have hm:(manyF (plainW s.levels) (s.order.map stripPr)).1=(manyF s.levels s.order).1:=by
  unfold manyF
  refine ifx (plainW_nil_iff _) rfl fun _=>?_
  rw [plainW_ln,List.length_map]
  refine if1 rfl fun _=>?_
  exact if1 rfl fun _=>rfl
 have he:=enumL_st s.levels s.levels 0
 have hn:=numF_st (nmTx s.levels) s.order
 unfold latF
 rw [hm,he,plainW_nm,hn,numL_st,plainW_ln]
 refine if1 hm fun _=>?_
 refine if1 he fun _=>?_
 refine if1 hn fun _=>?_
 split
 ·rfl
 ·split<;>rfl
theorem resF_st (s:Sch):(resF (stripS s)).1=(resF s).1:=by
 have h1:=latF_st s
 have h2:=namedF_st s
 have h3:=(eaR_st s.root s.types 0).1
 have h4:=eaL_st (knS_st s s.root) (knS_st s) s.types
 have h5:=loopF_st s
 have e1:(stripS s).root=stripT s.root:=rfl
 have e2:(stripS s).types=s.types.map stripNm:=rfl
 unfold resF
 rw [h1,h2,e1,e2,h3,h4]
 refine if1 h1 fun _=>?_
 refine if1 h2 fun _=>?_
 refine if1 h3 fun _=>?_
 exact if1 h4 fun _=>h5
def stripEd (e:Ed):Ed:=⟨e.name,e.bare,0,e.to,e.label,e.wide,e.ck,e.cn,e.seen,0⟩
def stripNd (n:Nd):Nd:=⟨n.kind,0,n.lo,n.hi,n.most,n.names,n.edges.map stripEd⟩
theorem levS_st (s:Sch) (l:List Wd):levS (stripS s) (plainW l)=levS s l:=by
 have e1:(stripS s).levels=plainW s.levels:=rfl
 have e2:(stripS s).order=s.order.map stripPr:=rfl
 have e3:∀ L,labI L (plainW l)=labI L l:=fun L=>by
  unfold labI plainW
  rw [List.map_map]
  rfl
 unfold levS labN
 rw [e1,e2,plainW_nm,plainW_ln,numL_st,labW_st,e3]
theorem firstA_st (s:Sch) (k:Nat):firstA (stripS s) k=firstA s k:=by
 have e2:(stripS s).types=s.types.map stripNm:=rfl
 unfold firstA
 rw [e2,← List.map_take,List.map_map]
 have:(fun x:Wd × Ty=>x.2.nn) ∘ stripNm=fun x=>x.2.nn:=by
  funext x
  exact nn_st x.2
 rw [this]
theorem namedN_st (s:Sch) (i:Nat):namedN (stripS s) i=namedN s i:=by
 unfold namedN
 rw [types_st,endI_st,firstA_st]
theorem nmF_st (s:Sch) (n:ByteArray):nmF (stripS s) n=nmF s n:=by
 unfold nmF
 rw [tL_st,namedN_st]
theorem idxF_st (s:Sch) (t:Ty) (k:Nat):idxF (stripS s) (stripT t) k=idxF s t k:=by
 unfold idxF
 rw [stripT_h,nmF_st]
 rfl
mutual
theorem ndsT_st (s:Sch):∀ (t:Ty) (k:Nat),ndsT (levS (stripS s)) (stripS s) (stripT t) k=(ndsT (levS s) s t k).map stripNd
 | .mk h ps,k=>by
  have i1:=edsP_st s ps (k + 1)
  have i2:=ndsP_st s ps (k + 1)
  have e1:(stripHd h).names=plainW h.names:=rfl
  rw [stripT,ndsT,ndsT,i1,i2,e1,plainW_nm]
  have e2:(stripHd h).kind=h.kind:=rfl
  rw [e2]
  by_cases h9:h.kind=9
  ·rw [if_pos h9,if_pos h9];all_goals rfl
  ·rw [if_neg h9,if_neg h9];all_goals rfl
theorem edsP_st (s:Sch):∀ (ps:Pts) (k:Nat),edsP (levS (stripS s)) (stripS s) (stripP ps) k=(edsP (levS s) s ps k).map stripEd
 | .nil,k=>rfl
 | .cons p u r,k=>by
  have ih:=fun k'=>edsP_st s r k'
  have e1:mkEd (levS (stripS s)) (stripPh p) (toF (stripS s) (stripPh p) (stripT u) k)=stripEd (mkEd (levS s) p (toF s p u k)):=by
   have h1:toF (stripS s) (stripPh p) (stripT u) k=toF s p u k:=by
    unfold toF
    rw [idxF_st]
    rfl
   have h2:levS (stripS s) (stripPh p).label=levS s p.label:=levS_st s _
   have h3:levS (stripS s) (stripPh p).cl=levS s p.cl:=levS_st s _
   unfold mkEd stripEd
   rw [h1,h2,h3]
   rfl
  have e2:(stripPh p).bare=p.bare:=rfl
  rw [stripP,edsP,edsP,e1,e2,nn_st,ih,List.map_cons]
theorem ndsP_st (s:Sch):∀ (ps:Pts) (k:Nat),ndsP (levS (stripS s)) (stripS s) (stripP ps) k=(ndsP (levS s) s ps k).map stripNd
 | .nil,k=>rfl
 | .cons p u r,k=>by
  have i1:=ndsT_st s u k
  have i2:=fun k'=>ndsP_st s r k'
  have e2:(stripPh p).bare=p.bare:=rfl
  rw [stripP,ndsP,ndsP,e2,nn_st,i1,i2,List.map_append]
  split<;>rfl
end
theorem ndsAll_st (s:Sch):∀ (l:List (Wd × Ty)) (k:Nat),ndsAll (levS (stripS s)) (stripS s) (l.map stripNm) k=(ndsAll (levS s) s l k).map stripNd
 | [],k=>rfl
 | x :: r,k=>by
  have e1:(stripNm x).2=stripT x.2:=rfl
  rw [List.map_cons,ndsAll,ndsAll,e1,ndsT_st,nn_st,ndsAll_st s r,List.map_append]
theorem resN_st (s:Sch):resN (stripS s)=(resN s).map stripNd:=ndsAll_st s s.types 0
theorem resNds_st (s:Sch):resNds (stripS s)=(resNds s).map stripNd:=by
 have e1:(stripS s).root=stripT s.root:=rfl
 unfold resNds
 rw [resN_st,e1,List.length_map,ndsT_st,List.map_append]
theorem resRoot_st (s:Sch):resRoot (stripS s)=resRoot s:=by
 have e1:(stripS s).root=stripT s.root:=rfl
 unfold resRoot
 rw [e1,idxF_st,resN_st,List.length_map]
end Go.Proofs.YtbfdbhechmhpoaaGreat
set_option maxRecDepth 100000
namespace Go.Proofs.YtbfdbhechmhpoaaGreat
open Go Go.RowKit Dv Tryz
theorem ndsA_mem {lev:List Wd→Int} {s:Sch} {n:Nd}:∀ {l:List Ty} {k:Nat},n∈ndsA lev s l k→∃ t∈l,∃ u∈flatT t,∃ k',n=ndR lev s u k'
 | [],_,h=>by cases h
 | t :: r,k,h=>by
  rw [ndsA] at h
  rcases List.mem_append.1 h with h | h
  ·rw [ndsT_eq] at h
   obtain ⟨x,hx,rfl⟩:=List.mem_map.1 h
   have:=(List.mem_zipIdx hx).2.2
   refine ⟨t,List.mem_cons_self,x.1,?_,_,rfl⟩
   rw [this]
   exact List.getElem_mem _
  ·obtain ⟨t',ht,h⟩:=ndsA_mem h
   exact ⟨t',List.mem_cons_of_mem _ ht,h⟩
theorem resNds_sz {S:Sch} {n:Nd} (h:n∈resNds S) (hS:S.wt≤1099511627776):n.names.length≤1099511627776∧n.edges.length≤1099511627776:=by
 rw [resNds_eq] at h
 obtain ⟨t,ht,u,hu,k,rfl⟩:=ndsA_mem h
 have h1:=allT_wt hS t ht
 have h2:=flatT_wt t u hu
 obtain ⟨uh,us⟩:=u
 have h3:=wdsWt_len uh.names
 have h4:=us.wt_len
 simp only [Ty.wt,Hd.wt] at h2
 simp only [ndR,Ty.h,Ty.ps,nmTx_len,edsP_len]
 omega
abbrev zNd:List DV:=[.v (.int .i64 0),.v (.int .i64 0),.v (.int .i64 0),.v (.int .i64 0),.v (.int .i64 0),.v (.slice none 0 0),.v (.slice none 0 0)]
structure PlanR (S:Sch) (ND:List Nd) (PC:List DV):Prop where
 fine:FineS S
 wt:S.wt≤1099511627776
 nds:ND=resNds S
 ok:∀ n∈ND,NdOK S.levels.length ND.length n
 nl:ND.length≤1099511627776
 len:EvP Tryz.prog 20 [.pt PC 0] (.v (.int .i64 ND.length))
 root:EvP Tryz.prog 19 [.pt PC 0] (.v (.int .i64 (resRoot S)))
 node:∀ (i:Nat) n,ND[i]? = some n→EvP Tryz.prog 18 [.pt PC 0,.v (.int .i64 i)] (.tup [.agg (dNd n),.v (.bool true)])
 nodeN:∀ i:Int,(i < 0∨ND.length≤i)→EvP Tryz.prog 18 [.pt PC 0,.v (.int .i64 i)] (.tup [.agg zNd,.v (.bool false)])
 lat:∃ ord js,(lxOf S ord js).OK∧EvP Tryz.prog 21 [.pt PC 0] (lxOf S ord js).pd
theorem planR_of {S:Sch} {d:DV} (hS:S.wt≤1099511627776) (h0:(resF S).1=0) (hd:PlanD S d):∃ PC,d = .pt PC 0∧PlanR S (resNds S) PC:=by
 obtain ⟨ord,ord2,js,hX,hT,hol,rfl⟩:=hd
 have hF:=fineS_of h0
 have hsz:=fun n (h:n∈resNds S)=>resNds_sz h hS
 refine ⟨_,rfl,{
  fine:=hF
  wt:=hS
  nds:=rfl
  ok:=fun n hn=>?_
  nl:=by rw [resNds_len];exact Nat.le_trans (nnS_wt S) hS
  len:=plen_spec _ _ _ _ _ _
  root:=proot_spec _ _ _ _ _ _
  node:=fun i n h=>pnode_spec _ _ _ _ _ _ i n h (hsz n (List.mem_of_getElem? h)).1 (hsz n (List.mem_of_getElem? h)).2
  nodeN:=fun i h=>pnode_none _ _ _ _ _ _ i h
  lat:=⟨ord,js,hX,plat_spec _ _ _ _ _ _⟩ }⟩
 obtain ⟨i,hi⟩:=List.mem_iff_getElem?.1 hn
 exact resNds_ok hF hi
def BuiltΦ (S:Sch) (r:DV):Prop:=((resF S).1≠0∧r = .tup [.v (.pointer none),(resF S).d])∨((resF S).1=0∧∃ PC,PlanR S (resNds S) PC∧r = .tup [.pt PC 0,Ft.d (0,0)])
theorem builtΦ_of {S:Sch} (hS:S.wt≤1099511627776) {r:DV} {os:List (List DV)} {tk:List TkE} (h:ResΦ S r os tk):BuiltΦ S r:=by
 unfold ResΦ at h
 by_cases h0:(resF S).1=0
 ·rw [if_neg (by rw [h0];simp)] at h
  obtain ⟨d,hd,rfl⟩:=h
  obtain ⟨PC,rfl,hP⟩:=planR_of hS h0 hd
  exact .inr ⟨h0,PC,hP,rfl⟩
 ·rw [if_pos h0] at h
  exact .inl ⟨h0,h⟩
end Go.Proofs.YtbfdbhechmhpoaaGreat
namespace Go.Proofs.YtbfdbhechmhpoaaGreat
namespace Dv
open Go Go.RowKit
mutual
def shD (m:Nat):DV→DV
 | .agg l=>.agg (shL m l)
 | .tup l=>.tup (shL m l)
 | .sl e es tk=>.sl e es (match tk with | some k=>some (m + k) | none=>none)
 | .fn f a b=>.fn f (shL m a) (shL m b)
 | .ifc t x=>.ifc t (shD m x)
 | .v x=>.v x
 | .ud=>.ud
 | .pt cs o=>.pt cs o
 | .loc i o=>.loc i o
 | .el i o=>.el i o
 | .ms i e o l c=>.ms i e o l c
def shL (m:Nat):List DV→List DV
 | []=>[]
 | d :: r=>shD m d :: shL m r
end
mutual
theorem shD_sound {m:Nat} {E2 E:En} (hβ:E2.β=[]) (hc:E.c=E2.c) (ht:∀ (k:Nat) q,E2.tk[k]? = some q→E.tk[m + k]? = some q∧E.τ[m + k]? = E2.τ[k]?):∀ {d:DV} {v:Value},Rv E2 d v→Rv E (shD m d) v
 | .v x,v,h=>by simpa only [Rv,shD] using h
 | .ud,v,h=>by simpa only [Rv,shD] using h
 | .agg l,v,h=>by
  simp only [Rv,shD] at h ⊢
  obtain ⟨vs,h1,h2,h3⟩:=h
  exact ⟨vs,h1,shL_sound hβ hc ht h2,h3⟩
 | .tup l,v,h=>by
  simp only [Rv,shD] at h ⊢
  obtain ⟨vs,h1,h2⟩:=h
  exact ⟨vs,h1,shL_sound hβ hc ht h2⟩
 | .sl e es tk,v,h=>by
  have he:E.cl=E2.cl:=by simp [En.cl,hc]
  simp only [Rv,shD] at h ⊢
  obtain ⟨b,n,cap,h1,h2,h3,h4⟩:=h
  refine ⟨b,n,cap,h1,h2,fun hn=>⟨(h3 hn).1,by rw [he];exact (h3 hn).2⟩,?_⟩
  intro k' hk'
  cases tk with
  | none=>cases hk'
  | some k=>
   simp only [Option.some.injEq] at hk'
   subst hk'
   obtain ⟨q,g1,g2,g3⟩:=h4 k rfl
   obtain ⟨g4,g5⟩:=ht k q g1
   exact ⟨q,g4,g2,fun hn=>by rw [g5];exact g3 hn⟩
 | .pt cs off,v,h=>by
  have he:E.cl=E2.cl:=by simp [En.cl,hc]
  simp only [Rv,shD] at h ⊢
  rw [he]
  exact h
 | .loc i off,v,h=>by
  simp only [Rv] at h
  obtain ⟨b,h1,_⟩:=h
  rw [hβ] at h1;simp at h1
 | .el i off,v,h=>by
  simp only [Rv] at h
  obtain ⟨b,h1,_⟩:=h
  rw [hβ] at h1;simp at h1
 | .ms i e off len cap,v,h=>by
  simp only [Rv] at h
  obtain ⟨b,_,h1,_⟩:=h
  rw [hβ] at h1;simp at h1
 | .fn f a b,v,h=>by
  simp only [Rv,shD] at h ⊢
  obtain ⟨l,r,h1,h2,h3⟩:=h
  exact ⟨l,r,h1,shL_sound hβ hc ht h2,shL_sound hβ hc ht h3⟩
 | .ifc t x,v,h=>by
  simp only [Rv,shD] at h ⊢
  obtain ⟨z,h1,h2⟩:=h
  exact ⟨z,h1,shD_sound hβ hc ht h2⟩
theorem shL_sound {m:Nat} {E2 E:En} (hβ:E2.β=[]) (hc:E.c=E2.c) (ht:∀ (k:Nat) q,E2.tk[k]? = some q→E.tk[m + k]? = some q∧E.τ[m + k]? = E2.τ[k]?):∀ {l:List DV} {vs:List Value},RvL E2 l vs→RvL E (shL m l) vs
 | [],vs,h=>by simpa only [RvL,shL] using h
 | d :: r,vs,h=>by
  simp only [RvL,shL] at h ⊢
  obtain ⟨v,s,h1,h2,h3⟩:=h
  exact ⟨v,s,h1,shD_sound hβ hc ht h2,shL_sound hβ hc ht h3⟩
end
section
variable {X:Ctx} {st:St} {k:List It} {E:En} {a:Act} {w:World}
theorem quiet_relF (h:Rel X E st a w) (hst:X.still=false) {E2:En} {w':World} (hm:Modd (E.cl).S w w') (he:Env E2 [] w') (hn:Nw E.cl E2 w):Rel X ⟨E2.c,E.β,E.tk ++ E2.tk,E.τ ++ E2.τ⟩ ⟨st.sl,st.bx,st.tk ++ E2.tk⟩ a w':=by
 have hq:=quiet_rel h hst hm he hn
 have hfr:∀ (j:Nat) y g,E2.τ[j]? = some y→y.ownBlock=some g→w.heap.size≤g:=fun j y g hy hg=>hn.tn j y g (Nat.zero_le _) hy hg
 have hold:∀ (k:Nat) y g,E.τ[k]? = some y→y.ownBlock=some g→g < w.heap.size:=fun k y g hy hg=>(h.env.own (List.mem_of_getElem? hy) hg).1
 have htl:E.τ.length=E.tk.length:=h.env.tl
 have hτ:∀ (k:Nat) y,(E.τ ++ E2.τ)[k]? = some y→(k < E.τ.length∧E.τ[k]? = some y)∨(E.τ.length≤k∧E2.τ[k - E.τ.length]? = some y):=fun k y hy=>by
  rw [List.getElem?_append] at hy
  split at hy
  ·rename_i hk;exact .inl ⟨hk,hy⟩
  ·rename_i hk;exact .inr ⟨by omega,hy⟩
 have hx:Ext ⟨E2.c,E.β,E.tk,E.τ⟩ ⟨E2.c,E.β,E.tk ++ E2.tk,E.τ ++ E2.τ⟩:=⟨fun _ _ h=>h,fun _ _ h=>h,fun j q hj=>by
  have hj:E.tk[j]? = some q:=hj
  have hlt:=(List.getElem?_eq_some_iff.1 hj).1
  refine ⟨q,by show (E.tk ++ _)[j]? = _;rw [List.getElem?_append_left hlt];exact hj,.inl ⟨rfl,?_⟩⟩
  show (E.τ ++ _)[j]? = _
  rw [List.getElem?_append_left (by rw [htl];exact hlt)]⟩
 refine rel_env hq hx ?_ (by show E.tk ++ _=_;rw [h.tk]) ?_ hq.fr (noSt hst) hq.bt
 ·exact {
   len:=h.env.len
   tl:=by show (E.τ ++ _).length=(E.tk ++ _).length;simp [htl,he.tl]
   bxs:=fun i cs hi=>by
    obtain ⟨b,t,arr,hb,hw,hc⟩:=hq.env.bxs i cs hi
    exact ⟨b,t,arr,hb,hw,hc.mono hx⟩
   inj:=h.env.inj
   sub:=he.sub
   pc:=hq.env.pc
   tks:=fun j q y hqj hy=>by
    have hqj:(E.tk ++ E2.tk)[j]? = some q:=hqj
    rcases hτ j y hy with ⟨hlt,hy'⟩ | ⟨hle,hy'⟩
    ·rw [List.getElem?_append_left (by rw [← htl];exact hlt)] at hqj
     exact hq.env.tks j q y hqj hy'
    ·rw [List.getElem?_append_right (by rw [← htl];exact hle),← htl] at hqj
     rcases he.tks _ q y hqj hy' with h1 | ⟨g,cap,cur,rfl,h1,h2,h3,h4,_,h6⟩
     ·exact .inl h1
     ·refine .inr ⟨g,cap,cur,rfl,h1,h2,h3,h4,fun hm'=>?_,h6⟩
      have:=hfr _ _ g hy' rfl
      have:=h.env.block_lt hm'
      omega
   tkd:=fun i j y y' g hij hy hy' hg hg'=>by
    rcases hτ i y hy with ⟨_,h1⟩ | ⟨h0,h1⟩
    ·rcases hτ j y' hy' with ⟨_,h2⟩ | ⟨_,h2⟩
     ·exact h.env.tkd i j y y' g hij h1 h2 hg hg'
     ·have:=hold i y g h1 hg
      have:=hfr _ y' g h2 hg'
      omega
    ·rcases hτ j y' hy' with ⟨_,h2⟩ | ⟨h00,h2⟩
     ·have:=hold j y' g h2 hg'
      have:=hfr _ y g h1 hg
      omega
     ·exact he.tkd _ _ y y' g (by omega) h1 h2 hg hg' }
 ·exact {
   c:=hq.nw.c
   cn:=hq.nw.cn
   β:=h.nw.β
   tk:=fun j q0 y0 hq0 hy0=>by
    obtain ⟨q',y',h1,h2,h3⟩:=h.nw.tk j q0 y0 hq0 hy0
    exact ⟨q',y',by show (E.tk ++ _)[j]? = _;rw [List.getElem?_append_left (List.getElem?_eq_some_iff.1 h1).1];exact h1,by show (E.τ ++ _)[j]? = _;rw [List.getElem?_append_left (List.getElem?_eq_some_iff.1 h2).1];exact h2,h3⟩
   tn:=fun j y g hj hy hg=>by
    rcases hτ j y hy with ⟨_,h1⟩ | ⟨_,h1⟩
    ·exact h.nw.tn j y g hj h1 hg
    ·exact Nat.le_trans h.fr.size (hfr _ y g h1 hg)
   l0:=h.nw.l0 }
theorem calls_f {P:Program} (h:Rel X E st a w) (hst:X.still=false) {f:FuncId} {args args':List DV} {vs:List Value} {Φ:DV→List (List DV)→List TkE→Prop} (hc:EvF P f args' [] [] Φ) (ha:CcL [] 0 0 0 args' args) (hv:RvL E args vs) :
  Calls P f vs.toArray w fun e w'=>∃ v E' d tks,e = .returned v∧Rel X E' ⟨st.sl,st.bx,st.tk ++ tks⟩ a w' ∧ Rv E' (shD st.tk.length d) v∧Φ d [] tks∧Modd E.cl.S w w' ∧ Ext E E' ∧ E'.β=E.β:=by
 have hv':RvL E.cl args' vs:=CcL.sound (E:=E) (E':=E.cl) ⟨fun _ _ h=>h,fun i cs _ hi=>by simp at hi⟩ (Low.zero _ _) ha hv
 refine (hc E.cl w vs (env_cl h.env) rfl hv').mono ?_
 rintro e w' ⟨v,rfl,hm,_,d,os,E2,he,hβ,_,hn,hvd,hΦ⟩
 have hβ:E2.β=[]:=hβ
 have hos:os=[]:=by
  have:=he.len
  rw [hβ] at this
  exact List.eq_nil_of_length_eq_zero this.symm
 subst hos
 have htl:E.τ.length=E.tk.length:=h.env.tl
 have hx:Ext E ⟨E2.c,E.β,E.tk ++ E2.tk,E.τ ++ E2.τ⟩:=⟨hn.c,fun _ _ h=>h,fun j q hj=>by
  have hlt:=(List.getElem?_eq_some_iff.1 hj).1
  refine ⟨q,by show (E.tk ++ _)[j]? = _;rw [List.getElem?_append_left hlt];exact hj,.inl ⟨rfl,?_⟩⟩
  show (E.τ ++ _)[j]? = _
  rw [List.getElem?_append_left (by rw [htl];exact hlt)]⟩
 refine ⟨v,_,d,E2.tk,rfl,quiet_relF h hst hm he hn,shD_sound (E2:=E2) (E:=⟨E2.c,E.β,E.tk ++ E2.tk,E.τ ++ E2.τ⟩) (m:=st.tk.length) hβ rfl (fun k q hq=>?_) hvd,hΦ,hm,hx,rfl⟩
 rw [← h.tk]
 constructor
 ·show (E.tk ++ E2.tk)[_]? = _
  rw [List.getElem?_append_right (by omega)]
  simpa using hq
 ·show (E.τ ++ E2.τ)[_]? = _
  rw [List.getElem?_append_right (by omega),htl]
  simp
theorem call_f {f:FuncId} {args args':List DV} {d:Nat} (hen:Enters X.P f) (hd:okD X.nt st.sl (some d)=true) {Φ:DV→List (List DV)→List TkE→Prop} (hc:EvF X.P f args' [] [] Φ) (ha:CcL [] 0 0 0 args' args)
  (hk:∀ r tks,Φ r [] tks→go X 4000 k ⟨(d,⟨[],shD st.tk.length r⟩) :: st.sl,st.bx,st.tk ++ tks⟩) (hst:X.still=false:=by exact rfl):CallG X f args (some d) k st:=by
 refine ⟨hen,hst,fun E a w vs h hv=>(calls_f h hst hc ha hv).mono ?_⟩
 rintro e w' ⟨v,E',r,tks,rfl,hrel,hr,hΦ,_⟩
 exact go_sound 4000 _ _ (hk r tks hΦ) E' _ w' (put_rel hrel hd _ v hr)
theorem callD_f {D:Dr} {c:Bool} {i:Nat} {s0:List (Nat × Sl)} {f:FuncId} {args args':List DV} {d:Nat} {r:List (Nat × Oper)} (hen:Enters X.P f) (hd:(okD X.nt st.sl (some d) && okD X.nt s0 (some d))=true) {Φ:DV→List (List DV)→List TkE→Prop} (hc:EvF X.P f args' [] [] Φ) (ha:CcL [] 0 0 0 args' args)
  (hk:∀ res tks,Φ res [] tks→put2 s0 ⟨st.sl,st.bx,st.tk ++ tks⟩ (some d) false [] (shD st.tk.length res) (goD X D 3000 c r)) (hst:X.still=false:=by exact rfl):CallD X D c i r f args (some d) s0 st:=by
 refine ⟨hen,fun hl E0 wr hD E a w vs h hv=>(calls_f h.rel hst hc ha hv).mono ?_⟩
 rintro e w' ⟨v,E',res,tks,rfl,hrel,hr,hΦ,hm,hx,hβ⟩
 have hh:∀ b,b < w.heap.size→w'.heap[b]? = w.heap[b]?:=fun b hb=>hm.block b hb (by
  rintro (h1 | ⟨y,h1,_⟩)
  ·simp [En.cl] at h1
  ·simp [En.cl] at h1)
 have hs:Stp none E w E' w':=⟨hx,⟨[],by rw [hβ];simp⟩,fun j b hb _=>hh b (h.rel.env.block_lt (List.mem_of_getElem? hb))⟩
 have hC:=stp_C h hs hrel (fun j hj=>by cases hj)
 refine ⟨v,rfl,fun _=>hC,?_⟩
 have hrelD:RelD X ⟨D,E0,wr⟩ c E' s0 ⟨st.sl,st.bx,st.tk ++ tks⟩ (a.put none v) w':=stp_relD h hs hrel (fun h1=>hC (h.cc h1)) (fun i x hx=>.inr ⟨hx,fun d hd=>by cases hd⟩) rfl
 obtain ⟨s1,st1,hk1,hrel1⟩:=put2_rel hrelD hd false [] _ v (fun _ _ p hp=>by cases hp) (fun _=>hr) (fun hb=>by cases hb) (fun hn=>(hn (holds_nil _)).elim) (hk res tks hΦ)
 exact goD_sound (D:=⟨D,E0,wr⟩) hD 3000 c r _ _ hk1 hl E' _ w' hrel1
theorem weak_bd {n0 m0:Nat} {st st':St} (n:Nat) (hn:Nat.ble n st.bx.length=true) (h2:WeLL n st'.tk.length st'.tk (st.bx.take n) st'.bx) (h3:∃ dr,st.tk=st'.tk ++ dr) (h4:Nat.ble n0 n=true) (h5:Nat.ble m0 st'.tk.length=true)
  (h:sameW n st'.tk.length st'.tk st.sl st'.sl):Weak n0 m0 st st':=by
 have hl:(st.bx.take n).length=n:=by
  have:=Nat.le_of_ble_eq_true hn
  rw [List.length_take];omega
 obtain ⟨dr,h3⟩:=h3
 exact ⟨st'.tk,dr,[],st.bx.take n,st.bx.drop n,by simpa using h5,by rw [hl];simpa using h4,h3,by simp,by simp,(List.take_append_drop n st.bx).symm,by rw [hl];exact h2,by rw [hl];exact h⟩
end
end Dv
end Go.Proofs.YtbfdbhechmhpoaaGreat
namespace Go.Proofs.YtbfdbhechmhpoaaGreat
namespace Dv
open Go Go.RowKit
section
variable {X:Ctx} {st:St} {k:List It} {E:En} {a:Act} {w:World}
theorem own_row (h:Rel X E st a w) {es:List (List DV)} {cs:List DV} {kt m ety e:Nat} {v:Value} (hv:Rv E (.sl 0 es (some kt)) v) (hq:st.tk[kt]? = some ⟨m,ety,e,some cs⟩) (hes:es.length=m) (hm:0 < m) :
  ∃ g cap,∃ cur:Array Value,v = .slice (some ⟨g,0,none⟩) m cap∧E.tk[kt]? = some ⟨m,ety,e,some cs⟩∧E.τ[kt]? = some v∧w.heap[g]? = some (.cells cur ety (0,0))∧cur.size=cap * e∧cs.length=m * e∧RvC E.cl cs (cur.toList.take (m * e))∧m≤cap∧cap≤maxLen∧g ∉ E.β∧∀ x u,E.c x=some u→x.block=g→x.off < 0:=by
 unfold Rv at hv
 obtain ⟨bs,ns,caps,e1,⟨hns,hsc⟩,hsr,hstk⟩:=hv
 subst hns
 obtain ⟨q',hq',_,hτk⟩:=hstk kt rfl
 have hq2:E.tk[kt]? = some ⟨m,ety,e,some cs⟩:=by rw [h.tk];exact hq
 rw [hq2] at hq'
 simp only [Option.some.injEq] at hq'
 subst hq'
 have hy:=hτk hes
 rcases h.env.tks kt _ _ hq2 hy with ⟨_,hn0,_⟩ | ⟨g,cap,cur,hv0,hw0,⟨hs0,hown0⟩,hnc0,hcm0,hb0,hc0⟩
 ·simp only at hn0;omega
 obtain ⟨h5,h6⟩:=hown0 cs rfl
 exact ⟨g,cap,cur,hv0,hq2,hy,hw0,hs0,h5,h6,hnc0,hcm0,hb0,hc0⟩
theorem own_ld {all:Array Oper} {o1 o2:Oper} {r:List Oper} {d1 d2 kt t ty et e by' m ety nn:Nat} {bb:Bool} {zz:List Value} {z:Int} {kd:IntKind} {es:List (List DV)} {cs:List DV} {s ix:Operand} {d':DV}
  (h1:o1.op = .indexAddr t s ix∧o1.dst=some d1) (h2:o2.op = .load ty (.tmp d1)∧o2.dst=some d2∧o2.guard=none) (hd1:okD X.nt st.sl (some d1)=true) (hd2:okD X.nt ((d1,⟨[],.pt [] 0⟩) :: st.sl) (some d2)=true)
  (hs:rv st [] s=some (.sl 0 es (some kt))) (hi:rv st [] ix=some (.v (.int kd z))) (hT:X.T.find t=some ⟨nn,bb,.sl et e by',zz⟩) (hq:st.tk[kt]? = some ⟨m,ety,e,some cs⟩) (hes:es.length=m) (hz:0≤z∧z < m)
  (hl:cellsT X.T ty cs (z.toNat * e)=some d')
  (hk:go X 4000 (.ops all r :: k) ⟨(d2,⟨[],d'⟩) :: (d1,⟨[],.pt [] 0⟩) :: st.sl,st.bx,st.tk⟩):OpG X o1 (.ops all (o2 :: r) :: k) st:=by
 intro E a w h
 have hrl:=h.rl
 have e2:=rv_int_eq (sl_val hrl hi)
 obtain ⟨g,cap,cur,e1,hq2,hy,hw0,hs0,hcl,hrc,hnc,hcm,hgb,hgc⟩:=own_row h (sl_val hrl hs) hq hes (by omega)
 obtain ⟨hu,ii,zv,hi2,_,hsz2,_,_⟩:=und_sl X.hT hT
 have hsz':szOf X.P et=some e:=by rw [size_of_info hi2,hsz2]
 have hrun1:(execOp a.eval o1).run X.P w = .ok (.value (.pointer (some ⟨g,z.toNat * e,none⟩))) w:=by
  have hrun:(Instr.indexAt t (.slice (some ⟨g,0,none⟩) m cap) (.int kd z)).run X.P w = .ok (.pointer (some ⟨g,z.toNat * e,none⟩)) w:=by
   simp [Instr.indexAt,asIntOf,run_underlying hu,hz.1,hz.2,run_sizeOf' hsz',Addr.add_lit]
  simp only [execOp,h1.1,e1,e2,Sem.run_bind,hrun,Result.andThen_ok,Sem.run_pure]
 refine wp_value hrun1 ?_
 rw [h1.2]
 have hr1:Rel X E ⟨(d1,⟨[],.pt [] 0⟩) :: st.sl,st.bx,st.tk⟩ (a.put (some d1) (.pointer (some ⟨g,z.toNat * e,none⟩))) w:=put_rel h hd1 (.pt [] 0) _ (by unfold Rv;exact ⟨g,z.toNat * e,rfl,by simp only [RvAt]⟩)
 generalize ha1:a.put (some d1) (.pointer (some ⟨g,z.toNat * e,none⟩))=a1 at hr1
 have ht1:a1.eval (.tmp d1) = .pointer (some ⟨g,z.toNat * e,none⟩):=by
  subst ha1
  simp only [okD,Bool.and_eq_true,Nat.blt_eq] at hd1
  simp [Act.eval,Act.put,h.sz,hd1.1]
 show kq X (.ops all (o2 :: r) :: k) .normal a1 w
 simp only [kq,wpList,Region.wanted,h2.2.2,if_true]
 obtain ⟨v,hv,hld⟩:=load_cells X.hT hrc (b:=g) (p:=0) hl
 have hld:=hld w fun j u hj=>by
  rw [cell_blk hw0,Nat.zero_add]
  rw [List.getElem?_take] at hj
  split at hj
  ·simpa using hj
  ·cases hj
 rw [Nat.zero_add] at hld
 refine .inl (wp_value (v:=v) (w':=w) ?_ ?_)
 ·simp only [execOp,h2.1,ht1,Sem.run_bind,Instr.loadAt,Instr.sureAddr,Sem.run_pure,Result.andThen_ok,hld]
 rw [h2.2.1]
 exact go_sound 4000 _ _ hk _ _ _ (put_rel hr1 hd2 d' v (Rv.mono (Ext.cl_self E) hv))
end
end Dv
end Go.Proofs.YtbfdbhechmhpoaaGreat
namespace Go.Proofs.YtbfdbhechmhpoaaGreat
namespace Dv
open Go Go.RowKit
section
variable {X:Ctx} {st:St} {k:List It} {E:En} {a:Act} {w:World} {o:Oper}
theorem emp_sO {t d et e by' n:Nat} {bb:Bool} {z:List Value} (hop:o.op = .buildSlice t 0 #[]) (hdst:o.dst=some d) (hT:X.T.find t=some ⟨n,bb,.sl et e by',z⟩) (hd:okD X.nt st.sl (some d)=true) (hst:X.still=false:=by exact rfl) (hX:X.bt=[]:=by exact rfl) :
  OpS X o st ⟨(d,⟨[],.sl 0 [] (some st.tk.length)⟩) :: st.sl,st.bx,st.tk ++ [⟨0,et,e,some []⟩]⟩:=by
 intro E a w h
 obtain ⟨hu,ii,zv,hi2,hz,hsz,hby,hzs⟩:=und_sl X.hT hT
 have hsz':szOf X.P et=some e:=by rw [size_of_info hi2,hsz]
 have hrun:(execOp a.eval o).run X.P w = .ok (.value (.slice (some ⟨w.heap.size,0,none⟩) 0 0)) (w.alloc (.cells #[] et)):=by
  have h1:(Instr.buildSlice t 0 #[]).run X.P w = .ok (.slice (some ⟨w.heap.size,0,none⟩) 0 0) (w.alloc (.cells #[] et)):=by
   have h0:Array.range 0 = #[]:=rfl
   simp [Instr.buildSlice,run_underlying hu,run_sizeOf' hsz',Instr.fill,newRow,h0]
  simp only [execOp,hop,List.map_toArray,List.map_nil,Sem.run_bind,h1,Result.andThen_ok,Sem.run_pure]
 refine wq_value hrun ?_
 rw [hdst]
 have hk1:=h.env.keep (w':=w.alloc (.cells #[] et)) fun i hi=>alloc_old w _ hi
 let E2:En:=⟨E.c,E.β,E.tk ++ [⟨0,et,e,some []⟩],E.τ ++ [.slice (some ⟨w.heap.size,0,none⟩) 0 0]⟩
 have hext:Ext E E2:=⟨fun _ _ h=>h,fun _ _ h=>h,fun k q' hk=>by
  have hlt:=(List.getElem?_eq_some_iff.1 hk).1
  refine ⟨q',by show (E.tk ++ _)[k]? = _;rw [List.getElem?_append_left hlt];exact hk,.inl ⟨rfl,?_⟩⟩
  show (E.τ ++ _)[k]? = _
  rw [List.getElem?_append_left (by rw [h.env.tl];exact hlt)]⟩
 have hτ:∀ (k:Nat) y,E2.τ[k]? = some y→(k < E.τ.length∧E.τ[k]? = some y)∨(k=E.τ.length∧y = .slice (some ⟨w.heap.size,0,none⟩) 0 0):=fun k y hy=>by
  have hy:(E.τ ++ [Value.slice (some ⟨w.heap.size,0,none⟩) 0 0])[k]? = some y:=hy
  rw [List.getElem?_append] at hy
  split at hy
  ·rename_i hk;exact .inl ⟨hk,hy⟩
  ·rename_i hk
   have h0:k - E.τ.length=0:=by
    rcases Nat.eq_zero_or_pos (k - E.τ.length) with h0 | h0
    ·exact h0
    ·rw [List.getElem?_eq_none (by simp;omega)] at hy;cases hy
   rw [h0] at hy
   simp only [List.getElem?_cons_zero,Option.some.injEq] at hy
   exact .inr ⟨by omega,hy.symm⟩
 have hown:∀ (k:Nat) y g,E.τ[k]? = some y→y.ownBlock=some g→g < w.heap.size:=fun k y g hy hg=>(h.env.own (List.mem_of_getElem? hy) hg).1
 have hrel:Rel X E2 ⟨st.sl,st.bx,st.tk ++ [⟨0,et,e,some []⟩]⟩ a (w.alloc (.cells #[] et)):=by
  refine rel_env h hext ?_ (by show E.tk ++ _=_;rw [h.tk]) ?_ (h.fr.alloc _) (noSt hst) (.nil hX)
  ·exact {
    len:=h.env.len
    tl:=by show (E.τ ++ _).length=(E.tk ++ _).length;simp [h.env.tl]
    bxs:=fun i cs hi=>by
     obtain ⟨b,t,arr,hb,hw,hc⟩:=hk1.bxs i cs hi
     exact ⟨b,t,arr,hb,hw,hc.mono hext⟩
    inj:=h.env.inj
    sub:=hk1.sub
    pc:=h.env.pc
    tks:=fun k q' y hkq hy=>by
     rcases hτ k y hy with ⟨hlt,hy'⟩ | ⟨rfl,rfl⟩
     ·have hk':(E.tk ++ [⟨0,et,e,some []⟩])[k]? = some q':=hkq
      rw [List.getElem?_append_left (by rw [← h.env.tl];exact hlt)] at hk'
      exact hk1.tks k q' y hk' hy'
     ·have hk':(E.tk ++ [⟨0,et,e,some []⟩])[E.τ.length]? = some q':=hkq
      rw [List.getElem?_append_right (by rw [h.env.tl];exact Nat.le_refl _),h.env.tl] at hk'
      simp only [Nat.sub_self,List.getElem?_cons_zero,Option.some.injEq] at hk'
      subst hk'
      refine .inr ⟨w.heap.size,0,#[],rfl,alloc_new w _,⟨by simp,fun cs hc=>by cases hc;exact ⟨by simp,by simp [RvC,RvL]⟩⟩,Nat.le_refl _,Nat.zero_le _,fun hm=>?_,fun x v hx hxg=>?_⟩
      ·have:=h.env.block_lt hm;omega
      ·have:=World.block_lt_of_cell? w x (h.env.sub x v hx)
       omega
    tkd:=fun k k' y y' g hkk hy hy' hg hg'=>by
     rcases hτ k y hy with ⟨_,hy1⟩ | ⟨rfl,rfl⟩
     ·rcases hτ k' y' hy' with ⟨_,hy2⟩ | ⟨rfl,rfl⟩
      ·exact h.env.tkd k k' y y' g hkk hy1 hy2 hg hg'
      ·have:=hown k y g hy1 hg
       simp only [Value.ownBlock,Option.some.injEq] at hg'
       omega
     ·rcases hτ k' y' hy' with ⟨_,hy2⟩ | ⟨rfl,rfl⟩
      ·have:=hown k' y' g hy2 hg'
       simp only [Value.ownBlock,Option.some.injEq] at hg
       omega
      ·exact hkk rfl }
  ·exact {
    c:=h.nw.c
    cn:=h.nw.cn
    β:=h.nw.β
    tk:=fun j q0 y0 hq0 hy0=>by
     obtain ⟨q',y',h1,h2,h3⟩:=h.nw.tk j q0 y0 hq0 hy0
     exact ⟨q',y',by show (E.tk ++ _)[j]? = _;rw [List.getElem?_append_left (List.getElem?_eq_some_iff.1 h1).1];exact h1,by show (E.τ ++ _)[j]? = _;rw [List.getElem?_append_left (List.getElem?_eq_some_iff.1 h2).1];exact h2,h3⟩
    tn:=fun j y g hj hy hg=>by
     rcases hτ j y hy with ⟨_,hy1⟩ | ⟨_,rfl⟩
     ·exact h.nw.tn j y g hj hy1 hg
     ·simp only [Value.ownBlock,Option.some.injEq] at hg
      have:=h.fr.size
      omega
    l0:=h.nw.l0 }
 refine ⟨E2,put_rel hrel hd (.sl 0 [] (some st.tk.length)) _ ?_,hext,⟨[],by simp [E2]⟩,fun i b hb _=>alloc_old w _ (h.env.block_lt (List.mem_of_getElem? hb))⟩
 unfold Rv
 refine ⟨_,0,0,rfl,⟨rfl,Nat.le_refl _⟩,fun hn=>(hn rfl).elim,fun k' hk'=>?_⟩
 cases hk'
 refine ⟨⟨0,et,e,some []⟩,?_,Nat.le_refl _,fun _=>?_⟩
 ·show (E.tk ++ _)[st.tk.length]? = _
  rw [h.tk];simp
 ·show (E.τ ++ _)[st.tk.length]? = _
  rw [← h.tk,← h.env.tl];simp
theorem op_emptyO {t d et e by' n:Nat} {bb:Bool} {z:List Value} (hop:o.op = .buildSlice t 0 #[]) (hdst:o.dst=some d) (hT:X.T.find t=some ⟨n,bb,.sl et e by',z⟩) (hd:okD X.nt st.sl (some d)=true) (hst:X.still=false:=by exact rfl) (hX:X.bt=[]:=by exact rfl)
  (hk:go X 4000 k ⟨(d,⟨[],.sl 0 [] (some st.tk.length)⟩) :: st.sl,st.bx,st.tk ++ [⟨0,et,e,some []⟩]⟩):OpG X o k st:=(emp_sO hop hdst hT hd hst hX).g hk
end
end Dv
end Go.Proofs.YtbfdbhechmhpoaaGreat
set_option maxRecDepth 100000
namespace Go.Proofs.YtbfdbhechmhpoaaGreat
open Go Go.RowKit Dv Tryz
theorem cloneE_own (es:List Ed) (hne:es ≠ []) (hl:es.length≤1099511627776):EvF Tryz.prog 82 [.sl 10 (dEds es) none] [] []
  (fun r _ tks=>r = .sl 0 (List.replicate es.length []) (some 0)∧tks=[⟨es.length,49,10,some (dEds es).flatten⟩]):=by
 have hdl:=dEds_len es
 have hne':dEds es ≠ []:=by cases es with | nil=>exact (hne rfl).elim | cons a b=>simp [dEds]
 refine evB_gom (s:=false) (bt:=[]) (mu:=[]) (hbt:=fun p hp=>by cases hp) (fr:=true) (P:=Tryz.prog) tt tt_ok 5000 8 [.tmp 2] Tryz.func82 rfl Tryz.ntmps82 rfl (Nat.le_of_ble_eq_true rfl) (fun E9 w9 hn9 hm9=>?_)
 refine op_nil ⟨_,rfl⟩ rfl rfl rfl rfl (fun b hb=>?_)
 rw [hb hne']
 refine op_emptyO rfl rfl rfl rfl (hk:=?_)
 refine ⟨⟨⟨rfl,hne'⟩,by rw [hdl];simp [maxLen];omega,by rw [hdl];omega⟩,?_⟩
 have hrep:List.replicate (0 + (dEds es).length) ([]:List DV)=List.replicate es.length []:=by rw [Nat.zero_add,hdl]
 refine ⟨.sl 0 (List.replicate es.length []) (some 0),[],(by repeat' (first | exact rfl | exact trivial | exact Or.inr (Or.inl ⟨_,rfl⟩) | exact Or.inr ⟨_,rfl⟩ | exact Or.inl ⟨rfl,rfl⟩ | exact Or.inl rfl | refine Or.inr ⟨_,_,rfl,Nat.zero_le _,rfl,?_⟩ | refine ⟨_,_,rfl,?_,?_⟩ | refine ⟨_,rfl,?_⟩ | exact ⟨Nat.le_of_ble_eq_true rfl,congrArg (fun l=>DV.sl 0 l _) hrep⟩ | refine Or.inr (Or.inr (Or.inr ⟨_,_,rfl,?_⟩)) | exact Or.inl rfl | refine Or.inr ?_)),rfl,rfl,?_⟩
 show [(⟨0 + (dEds es).length,_,10,some ([] ++ (dEds es).flatten)⟩:TkE)]=_
 rw [hdl,Nat.zero_add,List.nil_append]
def ndO (n:Nd):List DV:=[.v (.int .i64 n.kind),.v (.int .i64 n.at'),.v (.int .i64 n.lo),.v (.int .i64 n.hi),.v (.int .i64 n.most),.sl 1 (dBs n.names) none,.sl 0 (List.replicate n.edges.length []) (some 0)]
theorem pnode_own (lc:List DV) (nds:List Nd) (root:Int) (L:List ByteArray) (ord:List Nat) (named:List Nat) (i:Nat) (n:Nd) (h:nds[i]? = some n) (hn:n.names.length≤1099511627776) (he:n.edges.length≤1099511627776) (hne:n.edges ≠ []) :
  EvF Tryz.prog 18 [plD lc nds root L ord named,.v (.int .i64 i)] [] [] (fun r _ tks=>r = .tup [.agg (ndO n),.v (.bool true)]∧tks=[⟨n.edges.length,49,10,some (dEds n.edges).flatten⟩]):=by
 have hlt:=(List.getElem?_eq_some_iff.1 h).1
 have hlen:=plen_spec lc nds root L ord named
 have hc1:=clone_s (dBs n.names) (by rw [dBs_len];exact hn)
 have hc2:=cloneE_own n.edges hne he
 refine evB_gom (s:=false) (bt:=[]) (mu:=[]) (hbt:=fun p hp=>by cases hp) (fr:=true) (P:=Tryz.prog) tt tt_ok 5000 32 [.cell 4 44,.tmp 5] Tryz.func18 rfl Tryz.ntmps18 rfl (Nat.le_of_ble_eq_true rfl) (fun E9 w9 hn9 hm9=>?_)
 refine call_p en20 (hlen) ax rfl ?_
 refine br (fun g=>?_) (fun g=>?_)
 ·exfalso
  simp [pickB] at g
  omega
 refine ⟨_,⟨by omega,dNds_get h⟩,?_⟩
 refine drawG_s mo (by decide +kernel) ?_
 refine callD_e en81 rfl hc1 ax (fun r1 hr1=>?_)
 rcases hr1 with rfl | ⟨h1,rfl⟩
 ·refine callD_f en82 rfl hc2 ax (fun r2 tks hr2=>?_)
  obtain ⟨rfl,rfl⟩:=hr2
  exact ⟨.tup [.agg (ndO n),.v (.bool true)],[],(by repeat' (first | exact rfl | exact trivial | exact Or.inr (Or.inl ⟨_,rfl⟩) | exact Or.inr ⟨_,rfl⟩ | exact Or.inl ⟨rfl,rfl⟩ | exact Or.inl rfl | refine Or.inr ⟨_,_,rfl,Nat.zero_le _,rfl,?_⟩ | refine ⟨_,_,rfl,?_,?_⟩ | refine ⟨_,rfl,?_⟩ | exact ⟨Nat.le_of_ble_eq_true rfl,rfl⟩ | refine Or.inr (Or.inr (Or.inr ⟨_,_,rfl,?_⟩)) | exact Or.inl rfl | refine Or.inr ?_)),rfl,rfl,rfl⟩
 ·refine callD_f en82 rfl hc2 ax (fun r2 tks hr2=>?_)
  obtain ⟨rfl,rfl⟩:=hr2
  exact ⟨.tup [.agg (ndO n),.v (.bool true)],[],(by repeat' (first | exact rfl | exact trivial | exact Or.inr (Or.inl ⟨_,rfl⟩) | exact Or.inr ⟨_,rfl⟩ | exact Or.inl ⟨rfl,rfl⟩ | exact Or.inl rfl | refine Or.inr ⟨_,_,rfl,Nat.zero_le _,rfl,?_⟩ | refine ⟨_,_,rfl,?_,?_⟩ | refine ⟨_,rfl,?_⟩ | exact Or.inl ⟨h1,rfl⟩ | exact ⟨Nat.le_of_ble_eq_true rfl,rfl⟩ | refine Or.inr (Or.inr (Or.inr ⟨_,_,rfl,?_⟩)) | exact Or.inl rfl | refine Or.inr ?_)),rfl,rfl,rfl⟩
def PlanO (S:Sch) (PC:List DV):Prop:=∀ (i:Nat) n,(resNds S)[i]? = some n→n.edges ≠ []→EvF Tryz.prog 18 [.pt PC 0,.v (.int .i64 i)] [] [] (fun r _ tks=>r = .tup [.agg (ndO n),.v (.bool true)]∧tks=[⟨n.edges.length,49,10,some (dEds n.edges).flatten⟩])
theorem planO_of {S:Sch} {d:DV} (hS:S.wt≤1099511627776) (h0:(resF S).1=0) (hd:PlanD S d):∃ PC,d = .pt PC 0∧PlanR S (resNds S) PC∧PlanO S PC:=by
 obtain ⟨PC,rfl,hP⟩:=planR_of hS h0 hd
 refine ⟨PC,rfl,hP,fun i n h hne=>?_⟩
 obtain ⟨ord,ord2,js,hX,hT,hol,he⟩:=hd
 have he':PC=planC S ord ord2 js:=by injection he
 subst he'
 have hsz:=resNds_sz (List.mem_of_getElem? h) hS
 exact pnode_own _ _ _ _ _ _ i n h hsz.1 hsz.2 hne
def BuiltO (S:Sch) (r:DV):Prop:=((resF S).1≠0∧r = .tup [.v (.pointer none),(resF S).d])∨((resF S).1=0∧∃ PC,PlanR S (resNds S) PC∧PlanO S PC∧r = .tup [.pt PC 0,Ft.d (0,0)])
theorem builtO_of {S:Sch} (hS:S.wt≤1099511627776) {r:DV} {os:List (List DV)} {tk:List TkE} (h:ResΦ S r os tk):BuiltO S r:=by
 unfold ResΦ at h
 by_cases h0:(resF S).1=0
 ·rw [if_neg (by rw [h0];simp)] at h
  obtain ⟨d,hd,rfl⟩:=h
  obtain ⟨PC,rfl,hP,hO⟩:=planO_of hS h0 hd
  exact .inr ⟨h0,PC,hP,hO,rfl⟩
 ·rw [if_pos h0] at h
  exact .inl ⟨h0,h⟩
end Go.Proofs.YtbfdbhechmhpoaaGreat
set_option maxRecDepth 100000
namespace Go.Proofs.YtbfdbhechmhpoaaGreat
open Go Go.RowKit Dv Tryz
def leqI (f:Nat→Nat→Bool) (n:Nat) (a b:Int):Bool:=decide (0≤a) && decide (a < n) && decide (0≤b) && decide (b < n) && f a.toNat b.toNat
def jnF (f:Nat→Nat→Bool) (n a b:Nat):Nat:=(joinN f n a b).getD 0
def botF (f:Nat→Nat→Bool) (n:Nat):Nat:=(leastN f n []).getD 0
theorem jnF_some {f:Nat→Nat→Bool} {n a b:Nat} (h:LatOK f n) (ha:a < n) (hb:b < n):joinN f n a b=some (jnF f n a b):=by
 obtain ⟨k,hk⟩:=h.jn a b ha hb
 simp [jnF,hk]
theorem botF_some {f:Nat→Nat→Bool} {n:Nat} (h:LatOK f n):leastN f n []=some (botF f n):=by
 obtain ⟨c,hc⟩:=leastN_some h [] (fun _ h=>by cases h)
 simp [botF,hc]
section
variable (names:List ByteArray) (tc:List DV) (rows:List Nat) (js:List Int)
theorem lleq_spec (hr:RelOK rows) (hl:rows.length=names.length) (a b:Int) :
  EvP Tryz.prog 57 [.pt (dLs names tc rows js) 0,.v (.int .i64 a),.v (.int .i64 b)] (.v (.bool (hasB rows a b))):=by
 have h1:=lhas_spec names tc rows js
 have h2:=rhas_spec rows hr a b
 have hB:hasB rows a b=(decide (0≤a) && decide (a < names.length) && decide (0≤b) && decide (b < names.length) && bitB rows a.toNat b.toNat):=by rw [← hl];all_goals rfl
 generalize hasB rows a b=h at h2 hB ⊢
 refine ev_go (P:=Tryz.prog) tt tt_ok 5000 24 [.tmp 6] Tryz.func57 rfl Tryz.ntmps57 rfl (Nat.le_of_ble_eq_true rfl) (fun E9 w9 hn9 hm9=>?_)
 refine call_p en83 (h1 a) ax rfl ?_
 refine br (fun g=>?_) (fun g=>?_)
 ·refine call_p en83 (h1 b) ax rfl ?_
  refine br (fun g2=>?_) (fun g2=>?_)
  ·refine call_p en121 (h2) ax rfl ?_
   exact (rfl:_=_)
  ·refine (congrArg (fun b=>DV.v (.bool b)) ?_:_=_)
   rw [hB]
   simp only [Bool.and_assoc] at g g2 ⊢
   cases hx:decide (0≤b)<;>cases hy:decide (b < names.length)<;>simp_all [pickB]
 ·refine (congrArg (fun b=>DV.v (.bool b)) ?_:_=_)
  rw [hB]
  cases hx:decide (0≤a)<;>cases hy:decide (a < names.length)<;>simp_all [pickB]
end
structure LatR (n:Nat) (f:Nat→Nat→Bool) (names:List ByteArray) (LC:List DV):Prop where
 ok:LatOK f n
 n32:n≤32
 nl:names.length=n
 len:EvP Tryz.prog 55 [.pt LC 0] (.v (.int .i64 n))
 leq:∀ a b:Int,EvP Tryz.prog 57 [.pt LC 0,.v (.int .i64 a),.v (.int .i64 b)] (.v (.bool (leqI f n a b)))
 join:∀ a b:Nat,a < n→b < n→EvP Tryz.prog 132 [.pt LC 0,.v (.int .i64 a),.v (.int .i64 b)] (.v (.int .i64 (jnF f n a b:Nat)))
 bot:EvP Tryz.prog 115 [.pt LC 0] (.v (.int .i64 (botF f n:Nat)))
 name:∀ (i:Nat) s,names[i]? = some s→EvP Tryz.prog 22 [.pt LC 0,.v (.int .i64 i)] (.v (.string s))
abbrev leqS (S:Sch):Nat→Nat→Bool:=leqN S.levels.length (numL (nmTx S.levels) S.order)
theorem PlanR.latR {S:Sch} {ND:List Nd} {PC:List DV} (hP:PlanR S ND PC):∃ LC,EvP Tryz.prog 21 [.pt PC 0] (.pt LC 0)∧LatR S.levels.length (leqS S) (nmTx S.levels) LC:=by
 obtain ⟨ord,js,hX,hl⟩:=hP.lat
 have hnl:=nmTx_len S.levels
 have hlf:=(hP.fine).lat
 obtain ⟨hL,h32⟩:=latOK_of hlf
 have hpr:∀ p∈numL (nmTx S.levels) S.order,p.1 < S.levels.length∧p.2 < S.levels.length:=by have:=numF_ok (latF_parts hlf).2.2.1;rwa [nmTx_len] at this
 have hrl:(lxOf S ord js).rows.length=S.levels.length:=by
  show (closeR (relN S.levels.length (numL (nmTx S.levels) S.order)) S.levels.length).length=_
  rw [closeR_len,relN_len]
 have hr:RelOK (lxOf S ord js).rows:=closeR_ok (relN_ok (by omega) _ hpr) _ (by omega)
 refine ⟨_,hl,{
  ok:=hL,n32:=h32,nl:=hnl
  len:=?_,leq:=fun a b=>?_,join:=fun a b ha hb=>?_,bot:=?_,name:=fun i s hs=>?_ }⟩
 ·have:=llen_spec (lxOf S ord js).names (dTbl (lxOf S ord js).names (lxOf S ord js).ord) (lxOf S ord js).rows (lxOf S ord js).js
  rwa [show (lxOf S ord js).names.length=S.levels.length from hnl] at this
 ·have:=lleq_spec (lxOf S ord js).names (dTbl (lxOf S ord js).names (lxOf S ord js).ord) (lxOf S ord js).rows (lxOf S ord js).js hr (by rw [hrl];exact hnl.symm) a b
  have he:hasB (lxOf S ord js).rows a b=leqI (leqS S) S.levels.length a b:=by
   unfold hasB leqI
   rw [hrl];all_goals rfl
  rwa [he] at this
 ·have hz:=(hX.hj a b (by rw [show (lxOf S ord js).names.length=S.levels.length from hnl];exact ha) (by rw [show (lxOf S ord js).names.length=S.levels.length from hnl];exact hb)).1
  rw [show (lxOf S ord js).names.length=S.levels.length from hnl,show (lxOf S ord js).f=leqS S from rfl,jnF_some hL ha hb] at hz
  exact ljoin_spec (lxOf S ord js).names (dTbl (lxOf S ord js).names (lxOf S ord js).ord) (lxOf S ord js).rows (lxOf S ord js).js a b _ (by rw [show (lxOf S ord js).names.length=S.levels.length from hnl];exact ha) (by rw [show (lxOf S ord js).names.length=S.levels.length from hnl];exact hb) hX.hn hz
 ·have:=lbottom_spec (lxOf S ord js).names (dTbl (lxOf S ord js).names (lxOf S ord js).ord) (lxOf S ord js).rows (lxOf S ord js).js hX.hL hX.hn hX.hj
  rwa [show (lxOf S ord js).names.length=S.levels.length from hnl,show (lxOf S ord js).f=leqS S from rfl,botF_some hL] at this
 ·have:=lname_spec (lxOf S ord js).names (dTbl (lxOf S ord js).names (lxOf S ord js).ord) (lxOf S ord js).rows (lxOf S ord js).js i
  have hlt:=(List.getElem?_eq_some_iff.1 hs).1
  rw [if_pos ⟨by omega,by rw [show (lxOf S ord js).names=nmTx S.levels from rfl];omega⟩,Int.toNat_natCast,show (lxOf S ord js).names=nmTx S.levels from rfl,hs] at this
  exact this
end Go.Proofs.YtbfdbhechmhpoaaGreat
set_option maxRecDepth 100000
namespace Go.Proofs.YtbfdbhechmhpoaaGreat
open Go Go.RowKit Dv Tryz
namespace Dv
theorem drawG_Wk {X:Ctx} {id:Nat} {ops:Array Oper} {k:List It} {st:St} (st':St) (hw:Wk X st st') (h:DrawG X id ops k st'):DrawG X id ops k st:=fun E a w hr=>by
 obtain ⟨E',h'⟩:=hw E a w hr
 exact h E' a w h'
end Dv
def edS (es:List Ed) (k:Nat):List Ed:=(es.take k).map stripEd ++ es.drop k
theorem edS_all (es:List Ed):edS es es.length=es.map stripEd:=by simp [edS]
theorem edS_get {es:List Ed} {k:Nat} {x:Ed} (h:es[k]? = some x):(edS es k)[k]? = some x:=by
 have hk:=(List.getElem?_eq_some_iff.1 h).1
 unfold edS
 have hl:((es.take k).map stripEd).length=k:=by rw [List.length_map,List.length_take];omega
 rw [List.getElem?_append_right (by rw [hl];exact Nat.le_refl _),hl,Nat.sub_self,List.getElem?_drop,Nat.add_zero,h]
theorem edS_succ {es:List Ed} {k:Nat} {x:Ed} (h:es[k]? = some x):edS es (k + 1)=(edS es k).set k (stripEd x):=by
 have hk:=(List.getElem?_eq_some_iff.1 h).1
 have hl:((es.take k).map stripEd).length=k:=by rw [List.length_map,List.length_take];omega
 unfold edS
 rw [List.set_append_right _ _ (by rw [hl];exact Nat.le_refl _),hl,Nat.sub_self,List.drop_eq_getElem_cons hk,List.take_add_one,h]
 obtain ⟨_,hx⟩:=List.getElem?_eq_some_iff.1 h
 simp [hx]
theorem flat_get:∀ {es:List Ed} {k:Nat} {x:Ed},es[k]? = some x→(((dEds es).flatten).drop (k * 10)).take 10=dEd x
 | [],_,_,h=>by simp at h
 | e :: es,0,x,h=>by
  simp only [List.getElem?_cons_zero,Option.some.injEq] at h
  subst h
  rfl
 | e :: es,k + 1,x,h=>by
  simp only [List.getElem?_cons_succ] at h
  have ih:=flat_get h
  have hd:(dEds (e :: es)).flatten=dEd e ++ (dEds es).flatten:=rfl
  have hl:(dEd e).length=10:=rfl
  rw [hd,show (k + 1) * 10=10 + k * 10 by omega,← List.drop_drop]
  exact ih
theorem cell_get {es:List Ed} {k:Nat} {x:Ed} (h:es[k]? = some x):cellsT tt 49 (dEds es).flatten ((k:Int).toNat * 10)=some (.agg (dEd x)):=by
 have hf:∃ a b,tt.find 49=some ⟨10,true,a,b⟩:=⟨_,_,rfl⟩
 obtain ⟨a,b,hf⟩:=hf
 unfold cellsT
 rw [hf]
 simp only
 rw [takeF_eq,Int.toNat_natCast,flat_get h]
 rfl
theorem flat_set:∀ {es:List Ed} {k:Nat} {x:Ed},es[k]? = some x→(((dEds es).flatten).set (k * 10 + 2) (.v (.int .i64 0))).set (k * 10 + 9) (.v (.int .i64 0))=(dEds (es.set k (stripEd x))).flatten
 | [],_,_,h=>by simp at h
 | e :: es,0,x,h=>by
  simp only [List.getElem?_cons_zero,Option.some.injEq] at h
  subst h
  rfl
 | e :: es,k + 1,x,h=>by
  simp only [List.getElem?_cons_succ] at h
  have ih:=flat_set h
  have hd:(dEds (e :: es)).flatten=dEd e ++ (dEds es).flatten:=rfl
  have hl:(dEd e).length=10:=rfl
  have hd2:(dEds ((e :: es).set (k + 1) (stripEd x))).flatten=dEd e ++ (dEds (es.set k (stripEd x))).flatten:=rfl
  rw [hd,hd2,← ih,show (k + 1) * 10 + 2=(dEd e).length + (k * 10 + 2) by rw [hl];omega,show (k + 1) * 10 + 9=(dEd e).length + (k * 10 + 9) by rw [hl];omega]
  simp [List.set_append_right]
abbrev lk1St (PC QC:List DV) (i:Nat):St:=⟨[(3,⟨[],.pt PC 0⟩),(5,⟨[],.pt QC 0⟩),(11,⟨[],.v (.int .i64 i)⟩)],[],[]⟩
abbrev lk0St (PC QC:List DV) (i:Nat) (n:Nd):St:=⟨[(3,⟨[],.pt PC 0⟩),(5,⟨[],.pt QC 0⟩),(11,⟨[],.v (.int .i64 i)⟩),(12,⟨[],.loc 0 0⟩),(14,⟨[],.loc 1 0⟩),(16,⟨[],.v (.int .i64 (0:Nat))⟩)],[dNd (stripNd n),dNd (stripNd n)],[]⟩
abbrev lk2St (PC QC:List DV) (i:Nat) (n:Nd) (cs:List DV) (k:Nat):St:=
 ⟨[(3,⟨[],.pt PC 0⟩),(5,⟨[],.pt QC 0⟩),(11,⟨[],.v (.int .i64 i)⟩),(12,⟨[],.loc 0 0⟩),(14,⟨[],.loc 1 0⟩),(16,⟨[],.v (.int .i64 k)⟩)],
  [[.v (.int .i64 n.kind),.v (.int .i64 0),.v (.int .i64 n.lo),.v (.int .i64 n.hi),.v (.int .i64 n.most),.sl 1 (dBs n.names) none,.sl 0 (List.replicate n.edges.length []) (some 0)],dNd (stripNd n)],[⟨n.edges.length,49,10,some cs⟩]⟩
theorem lev_ne {S:Sch} (hF:FineS S) {k:Nat} (hk:k < S.levels.length):∃ s,(nmTx S.levels)[k]? = some s∧0 < s.size:=by
 have h:=(latF_parts hF.lat).2.1
 have h2:=(listed_all fun j x hx=>by
  have h3:(enumL S.levels 0 S.levels).1=0:=h
  have:=enumL_all (all:=S.levels) (i:=0) h3 j x hx
  rwa [Nat.zero_add] at this).2
 refine ⟨(S.levels[k]).s,by simp [nmTx,hk],?_⟩
 have:=h2 _ (List.getElem_mem hk)
 unfold nameOK at this
 simp only [Bool.and_eq_true,decide_eq_true_eq] at this
 omega
set_option maxHeartbeats 4000000 in
theorem links18_law (S:Sch) (hS:S.wt≤1099511627776) (_:rngS S):EvP Tryz.prog 3 [.agg (dSch S)] (.v (.bool true)):=by
 have hg:=great17_spec S hS
 have hsw:(stripS S).wt≤1099511627776:=by rw [stripS_wt];exact hS
 have hb:=(build_spec S hS).mono (Ψ:=fun r _ _=>BuiltO S r) fun _ _ _ h=>builtO_of hS h
 have hb2:=(build_spec (stripS S) hsw).mono (Ψ:=fun r _ _=>BuiltΦ (stripS S) r) fun _ _ _ h=>builtΦ_of hsw h
 have hst:=ustrip_spec S hS
 have hrf:=resF_st S
 have hrn:=resNds_st S
 have hrr:=resRoot_st S
 have hro:=@resRoot_ok S
 have hlv:=@lev_ne S
 generalize hSS:S=SS at *
 subst hSS
 obtain ⟨levels,order,types,⟨rh,rp⟩⟩:=S
 refine ev_go (P:=Tryz.prog) tt tt_ok 5000 169 [.tmp 2] Tryz.func3 rfl Tryz.ntmps3 rfl (Nat.le_of_ble_eq_true rfl) (fun E9 w9 hn9 hm9=>?_)
 refine call_e en14 rfl hg ax (fun r hr=>?_)
 obtain ⟨g,rfl⟩:=hr
 cases g with
 | true=>
  refine call_p en15 (lives18_spec) ax rfl ?_
  exact (rfl:_=_)
 | false=>
  refine call_e en16 rfl hb ax (fun r hr=>?_)
  rcases hr with ⟨h0,rfl⟩ | ⟨h0,PC,hP,hO,rfl⟩
  ·refine call_p en17 (hst) ax rfl ?_
   refine call_e en16 rfl hb2 ax (fun r hr=>?_)
   rcases hr with ⟨h1,rfl⟩ | ⟨h1,QC,hQ,rfl⟩
   ·refine br (fun c=>absurd c (by simp [hrf])) (fun _=>?_)
    refine br (fun _=>?_) (fun c=>absurd c (by simpa using h0))
    refine call_p en15 (lives18_spec) ax rfl ?_
    exact (rfl:_=_)
   ·exact (h0 (by rw [← hrf];exact h1)).elim
  ·refine call_p en17 (hst) ax rfl ?_
   refine call_e en16 rfl hb2 ax (fun r hr=>?_)
   rcases hr with ⟨h1,rfl⟩ | ⟨h1,QC,hQ,rfl⟩
   ·exact (h1 (by rw [hrf];exact h0)).elim
   ·obtain ⟨root,hrt,hrl⟩:=hro (fineS_of h0)
    have hroot:=hP.root
    have hqroot:=hQ.root
    rw [hrr,hrt] at hqroot
    rw [hrt] at hroot
    have hlen:=hP.len
    have hqlen:=hQ.len
    have hql:(resNds (stripS ⟨levels,order,types,.mk rh rp⟩)).length=(resNds ⟨levels,order,types,.mk rh rp⟩).length:=by rw [hrn,List.length_map]
    rw [hql] at hqlen
    obtain ⟨d0,hd0⟩:∃ d,(resNds ⟨levels,order,types,.mk rh rp⟩)[root]? = some d:=⟨_,List.getElem?_eq_getElem hrl⟩
    have hn0:=hP.node root d0 hd0
    have hnN:=hP.nodeN ((resNds ⟨levels,order,types,.mk rh rp⟩).length:Nat) (.inr (by omega))
    refine call_p en19 (hroot) ax rfl ?_
    refine call_p en18 (hn0) ax rfl ?_
    refine call_p en20 (hlen) ax rfl ?_
    refine call_p en18 (hnN) ax rfl ?_
    refine call_p en19 (hroot) ax rfl ?_
    refine call_p en19 (hqroot) ax rfl ?_
    refine br (fun _=>?_) (fun c=>absurd c (by simp [pickB]))
    refine call_p en20 (hlen) ax rfl ?_
    refine call_p en20 (hqlen) ax rfl ?_
    refine br (fun c=>absurd c (by simp [pickB])) (fun _=>?_)
    obtain ⟨LC,hlat,hLR⟩:=hP.latR
    have hnds:∀ (i:Nat) n,(resNds ⟨levels,order,types,.mk rh rp⟩)[i]? = some n→(resNds (stripS ⟨levels,order,types,.mk rh rp⟩))[i]? = some (stripNd n):=fun i n h=>by rw [hrn,List.getElem?_map,h];all_goals rfl
    have hlv':=fun k=>hlv (fineS_of h0) (k:=k)
    have hesz:∀ n∈resNds ⟨levels,order,types,.mk rh rp⟩,n.names.length≤1099511627776∧n.edges.length≤1099511627776:=fun n hn=>resNds_sz hn hS
    have hname:=hLR.name
    have hok:=hP.ok
    have hnode:=hP.node
    have hnodeN:=hP.nodeN
    have hqnode:=hQ.node
    have hnl:=hP.nl
    have hO:∀ (i:Nat) n,(resNds ⟨levels,order,types,.mk rh rp⟩)[i]? = some n→n.edges ≠ []→EvF Tryz.prog 18 [.pt PC 0,.v (.int .i64 i)] [] [] (fun r _ tks=>r = .tup [.agg (ndO n),.v (.bool true)]∧tks=[⟨n.edges.length,49,10,some (dEds n.edges).flatten⟩]):=hO
    simp only at hlv' hname hok
    clear hP hQ hLR hro hlv hrf hrn hrr hb hb2 hst hg hn0 hnN hroot hqroot
    generalize resNds (stripS ⟨levels,order,types,.mk rh rp⟩)=QD at hnds hqnode hql
    generalize resNds ⟨levels,order,types,.mk rh rp⟩=ND at hnds hesz hok hnode hnodeN hO hlen hnl hrl
    refine loop_i (fun j st=>∃ i:Nat,st=lk1St PC QC i∧i≤ND.length∧j=ND.length - i) ND.length (lk1St PC QC 0) (weak_mk ⟨_,rfl⟩ wA rfl rfl rfl wB) ⟨0,rfl,by omega,by omega⟩ ?_
    rintro j st ⟨i,rfl,hi,rfl⟩
    refine call_p en20 (hlen) ax rfl ?_
    refine br (fun hL=>?_) (fun hL=>?_)
    rotate_left
    ·refine call_p en15 (lives18_spec) ax rfl ?_
     exact (rfl:_=_)
    have hlt:i < ND.length:=by simpa using hL
    obtain ⟨n,hn⟩:∃ n,ND[i]? = some n:=⟨_,List.getElem?_eq_getElem hlt⟩
    have hmn:=List.mem_of_getElem? hn
    have hN:=hok n hmn
    have hq:=hqnode i (stripNd n) (hnds i n hn)
    have hnn:=hnode i n hn
    have hs1:=lnode_spec (stripNd n) (by simp only [stripNd,List.length_map];exact (hesz n hmn).2)
    have hs2:=same18_spec (stripNd n) (hesz n hmn).1 (by simp only [stripNd,List.length_map];exact (hesz n hmn).2)
    by_cases hne:n.edges=[]
    ·obtain ⟨kind,at',lo,hi',most,names,es⟩:=n
     simp only at hne
     subst hne
     refine call_p en18 (hnn) ax rfl ?_
     refine call_p en18 (hq) ax rfl ?_
     refine loop_i (fun j st=>st=lk0St PC QC i ⟨kind,at',lo,hi',most,names,[]⟩∧j=0) 0 (lk0St PC QC i ⟨kind,at',lo,hi',most,names,[]⟩) (weak_b 2 rfl (by repeat' (first | exact rfl | exact we_rfl rfl | exact we_rfl rfl | refine ⟨_,_,rfl,?_,?_⟩)) rfl rfl rfl (by repeat' (first | exact trivial | exact we_rfl rfl | exact we_rfl rfl | refine ⟨⟨_,rfl,?_⟩,?_⟩))) ⟨rfl,rfl⟩ ?_
     rintro j st ⟨rfl,rfl⟩
     refine drawG_i (fun _=>false) mo (by decide +kernel) ?_
     refine callD_p en24 (hs1) ax rfl ?_
     refine callD_p en24 (hs1) ax rfl ?_
     refine callD_p en23 (hs2) ax rfl ?_
     exact ⟨lk1St PC QC (i + 1),(weak_mk ⟨_,rfl⟩ wA rfl rfl rfl (by repeat' (first | exact trivial | exact we_rfl rfl | exact we_int (nxt hlt (by omega)) | refine ⟨⟨_,rfl,?_⟩,?_⟩))),ND.length - (i + 1),by omega,i + 1,rfl,by omega,rfl⟩
    ·have hO':=hO i n hn hne
     have hel:=(hesz n hmn).2
     have hrep:(List.replicate n.edges.length ([]:List DV)).length=n.edges.length:=List.length_replicate
     have hbare:=hN.bare
     have hedge:=hN.edge
     have hrun:=fun e (h:e∈n.edges)=>hedge e h
     refine call_f en18 rfl hO' ax (fun res tks hr=>?_)
     obtain ⟨rfl,rfl⟩:=hr
     refine call_p en18 (hq) ax rfl ?_
     refine loop_i (fun j st=>∃ (k:Nat) (cs:List DV),st=lk2St PC QC i n cs k∧cs=(dEds (edS n.edges k)).flatten∧k≤n.edges.length∧j=n.edges.length - k) n.edges.length (lk2St PC QC i n (dEds n.edges).flatten 0) (weak_b 2 rfl (by repeat' (first | exact rfl | exact we_rfl rfl | exact we_rfl rfl | refine ⟨_,_,rfl,?_,?_⟩)) rfl rfl rfl (by repeat' (first | exact trivial | exact we_rfl rfl | exact we_rfl rfl | refine ⟨⟨_,rfl,?_⟩,?_⟩))) ⟨0,_,rfl,rfl,by omega,by omega⟩ ?_
     rintro j st ⟨k,cs,rfl,hcs,hk,rfl⟩
     refine br (fun hL=>?_) (fun hL=>?_)
     ·have hlt2:k < n.edges.length:=by simpa [hrep] using hL
      obtain ⟨x,hx⟩:∃ x,n.edges[k]? = some x:=⟨_,List.getElem?_eq_getElem hlt2⟩
      have hcell:=cell_get (edS_get hx)
      rw [← hcs] at hcell
      refine own_ld (kt:=0) ⟨rfl,rfl⟩ ⟨rfl,rfl,rfl⟩ rfl rfl rfl rfl rfl rfl hrep ⟨by omega,by omega⟩ hcell ?_
      have hE:=hedge x (List.mem_of_getElem? hx)
      obtain ⟨⟨l1,hl1,hl1'⟩,⟨l2,hl2,hl2'⟩,hwd⟩:(∃ k:Nat,x.label=k∧k < levels.length)∧(∃ k:Nat,x.seen=k∧k < levels.length)∧1≤x.wide∧x.wide≤64:=⟨hE.lab,hE.seen,hE.wide⟩
      obtain ⟨s1,hs1a,hs1b⟩:=hlv' l1 hl1'
      obtain ⟨s2,hs2a,hs2b⟩:=hlv' l2 hl2'
      have hn1:=hname l1 s1 hs1a
      have hn2:=hname l2 s2 hs2a
      have hz1:¬ s1=⟨#[]⟩:=fun h=>by rw [h] at hs1b;exact absurd hs1b (by decide)
      have hz2:¬ s2=⟨#[]⟩:=fun h=>by rw [h] at hs2b;exact absurd hs2b (by decide)
      have hset:=flat_set (edS_get hx)
      rw [← edS_succ hx,← hcs] at hset
      have hto0:=hE.to0
      have hto1:=hE.to1
      clear hE
      obtain ⟨en,eb,ea,et,elb,ew,eck,ecn,ese,eca⟩:=x
      simp only at hl1 hl2 hwd hto0 hto1
      subst hl1 hl2
      cases eb with
      | true=>
       have h1:=hto0 rfl
       subst h1
       have hnd:=hnodeN (-1) (.inl (by omega))
       refine call_p en18 (hnd) ax rfl ?_
       refine drawG_i (fun _=>false) mo (by decide +kernel) ?_
       refine callD_p en21 (hlat) ax rfl ?_
       refine callD_p en22 (hn1) ax rfl ?_
       refine br (fun _=>?_) (fun c=>absurd c (by simp [pickB,hz1]))
       refine callD_p en21 (hlat) ax rfl ?_
       refine callD_p en22 (hn2) ax rfl ?_
       refine br (fun c=>absurd c (by
        simp [pickB_or,hz2]
        omega)) (fun _=>?_)
       refine own_store (kt:=0) ⟨rfl,rfl⟩ ⟨rfl,rfl,rfl⟩ ⟨rfl,rfl,rfl⟩ rfl rfl rfl rfl rfl rfl rfl rfl rfl rfl rfl hrep ⟨by omega,by omega⟩ (by decide) ?_
       refine own_store (kt:=0) ⟨rfl,rfl⟩ ⟨rfl,rfl,rfl⟩ ⟨rfl,rfl,rfl⟩ rfl rfl rfl rfl rfl rfl rfl rfl rfl rfl rfl hrep ⟨by omega,by omega⟩ (by decide) ?_
       exact ⟨lk2St PC QC i n ((cs.set (k * 10 + 2) (.v (.int .i64 0))).set (k * 10 + 9) (.v (.int .i64 0))) (k + 1),(weak_b 2 rfl (by repeat' (first | exact rfl | exact we_rfl rfl | exact we_int (nxt hlt2 (by omega)) | refine ⟨_,_,rfl,?_,?_⟩)) rfl rfl rfl (by repeat' (first | exact trivial | exact we_rfl rfl | exact we_int (nxt hlt2 (by omega)) | refine ⟨⟨_,rfl,?_⟩,?_⟩))),n.edges.length - (k + 1),by omega,k + 1,_,rfl,hset,by omega,rfl⟩
      | false=>
       obtain ⟨tn,h1,h1'⟩:=hto1 rfl
       subst h1
       obtain ⟨d',hd'⟩:∃ d,ND[tn]? = some d:=⟨_,List.getElem?_eq_getElem h1'⟩
       have hnd:=hnode tn d' hd'
       refine call_p en18 (hnd) ax rfl ?_
       refine drawG_i (fun _=>false) mo (by decide +kernel) ?_
       refine callD_p en21 (hlat) ax rfl ?_
       refine callD_p en22 (hn1) ax rfl ?_
       refine br (fun _=>?_) (fun c=>absurd c (by simp [pickB,hz1]))
       refine callD_p en21 (hlat) ax rfl ?_
       refine callD_p en22 (hn2) ax rfl ?_
       refine br (fun c=>absurd c (by
        simp [pickB_or,hz2]
        omega)) (fun _=>?_)
       refine own_store (kt:=0) ⟨rfl,rfl⟩ ⟨rfl,rfl,rfl⟩ ⟨rfl,rfl,rfl⟩ rfl rfl rfl rfl rfl rfl rfl rfl rfl rfl rfl hrep ⟨by omega,by omega⟩ (by decide) ?_
       refine own_store (kt:=0) ⟨rfl,rfl⟩ ⟨rfl,rfl,rfl⟩ ⟨rfl,rfl,rfl⟩ rfl rfl rfl rfl rfl rfl rfl rfl rfl rfl rfl hrep ⟨by omega,by omega⟩ (by decide) ?_
       exact ⟨lk2St PC QC i n ((cs.set (k * 10 + 2) (.v (.int .i64 0))).set (k * 10 + 9) (.v (.int .i64 0))) (k + 1),(weak_b 2 rfl (by repeat' (first | exact rfl | exact we_rfl rfl | exact we_int (nxt hlt2 (by omega)) | refine ⟨_,_,rfl,?_,?_⟩)) rfl rfl rfl (by repeat' (first | exact trivial | exact we_rfl rfl | exact we_int (nxt hlt2 (by omega)) | refine ⟨⟨_,rfl,?_⟩,?_⟩))),n.edges.length - (k + 1),by omega,k + 1,_,rfl,hset,by omega,rfl⟩
     ·have hge:k=n.edges.length:=by
       have:=hL
       simp [hrep] at this
       omega
      subst hge
      rw [edS_all] at hcs
      subst hcs
      have hns:∀ y∈dEds (n.edges.map stripEd),y.length=10:=fun y hy=>by
       obtain ⟨e,_,rfl⟩:=List.mem_map.1 hy
       rfl
      have hnl2:(dEds (n.edges.map stripEd)).length=n.edges.length:=by rw [dEds_len,List.length_map]
      refine Dv.drawG_Wk _ (wk_own (j:=0) (o:=6) (k:=0) (ns:=dEds (n.edges.map stripEd)) rfl hns hnl2 rfl rfl hrep) ?_
      refine drawG_i (fun _=>false) mo (by decide +kernel) ?_
      refine callD_p en24 (hs1) ax rfl ?_
      refine callD_p en24 (hs1) ax rfl ?_
      refine callD_p en23 (hs2) ax rfl ?_
      exact ⟨lk1St PC QC (i + 1),(weak_bd 0 rfl (by repeat' (first | exact rfl | exact we_rfl rfl | exact we_int (nxt hlt (by omega)) | refine ⟨_,_,rfl,?_,?_⟩)) ⟨_,rfl⟩ rfl rfl (by repeat' (first | exact trivial | exact we_rfl rfl | exact we_int (nxt hlt (by omega)) | refine ⟨⟨_,rfl,?_⟩,?_⟩))),ND.length - (i + 1),by omega,i + 1,rfl,by omega,rfl⟩
end Go.Proofs.YtbfdbhechmhpoaaGreat
