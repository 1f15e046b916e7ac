/- Part 7 of the proof: Which values may be what is seen of one: shell, May, outer, plain, the document's May; Which values may be what is seen of one: the program's fits, Fits, the document's Fits, Seeable; What is seen of a view: the program's narrow, the document's Narrow; The law of what may be seen; The program's Narrow, the document's Narrow; the law; The law of what is narrowed. No condition. -/
import Derived.Test.YtbfdbhechmhpoaaGreatMg6
set_option linter.all false
set_option maxRecDepth 100000
namespace Go.Proofs.YtbfdbhechmhpoaaGreat
open Go Go.RowKit Dv Tryz
theorem shellF_567 {d:Nd} {v:Val} (c:d.kind=5∨d.kind=6∨d.kind=7):shellF d v=(decide (v.s=emptyB) && decide (v.k=d.kind) && decide (v.n=0) && (if d.kind=5 then decide ((v.ks.length:Int)≤d.most) else if d.kind=6 then decide (v.ks.length < 2) else decide (v.ks.length=d.edges.length))):=by
 unfold shellF
 by_cases h1:v.s=emptyB<;>by_cases h2:v.k=d.kind<;>by_cases h3:v.n=0
 all_goals (first
  | (rw [if_neg (by rintro (h | h | h);exact h h2;exact h h1;exact h.2 h3)];rw [decide_eq_true h1,decide_eq_true h2,decide_eq_true h3];rcases c with c | c | c<;>simp [c])
  | (rw [if_pos (by first | exact .inr (.inl h1) | exact .inl h2 | exact .inr (.inr ⟨by omega,h3⟩))];simp [h1,h2,h3]))
theorem shellF_8 {d:Nd} {v:Val} (c:d.kind=8):shellF d v=if v.s≠emptyB∨v.k≠8∨v.n < 0∨(d.edges.length:Int)≤v.n then false else match d.edges[v.n.toNat]? with
  | none=>false
  | some e=>(decide (v.ks.length=0) == e.bare) && decide (v.ks.length < 2):=by
 unfold shellF
 rw [c]
 by_cases h1:v.s=emptyB
 ·by_cases h2:v.k=8
  ·rw [if_neg (by rintro (h | h | h);exact h h2;exact h h1;exact h.1 rfl),if_neg (by decide),if_neg (by decide),if_neg (by decide)]
   by_cases h3:v.n < 0∨(d.edges.length:Int)≤v.n
   ·rw [if_pos h3,if_pos (.inr (.inr h3))]
   ·rw [if_neg h3,if_neg (by rintro (h | h | h);exact h h1;exact h h2;exact h3 h)]
    cases d.edges[v.n.toNat]? with
    | none=>rfl
    | some e=>
     simp only
     have key:∀ m:Nat,(if e.bare=true then decide (m=0) else decide (m=1))=((decide (m=0) == e.bare) && decide (m < 2)):=fun m=>by
      cases e.bare<;>(match m with
       | 0=>rfl
       | 1=>rfl
       | m + 2=>simp)
     exact key _
  ·rw [if_pos (.inl h2),if_pos (.inr (.inl h2))]
 ·rw [if_pos (.inr (.inl h1)),if_pos (.inl h1)]
theorem eshell_spec (d:Nd) (v:Val) (h5:5≤d.kind) (h8:d.kind≤8) (hes:d.edges.length≤1099511627776) (hv:v.wt≤1099511627776):EvP Tryz.prog 200 [.agg (dNd d),.agg (dVal v)] (.v (.bool (shellF d v))):=by
 have hA:=fun c=>shellF_567 (d:=d) (v:=v) c
 have hB:=fun c=>shellF_8 (d:=d) (v:=v) c
 have hA5:d.kind=5→shellF d v=(decide (v.s=emptyB) && decide (v.k=5) && decide (v.n=0) && decide ((v.ks.length:Int)≤d.most)):=fun c=>by rw [hA (.inl c),if_pos c,c]
 have hA6:d.kind=6→shellF d v=(decide (v.s=emptyB) && decide (v.k=6) && decide (v.n=0) && decide (v.ks.length < 2)):=fun c=>by rw [hA (.inr (.inl c)),if_neg (by omega),if_pos c,c]
 have hA7:d.kind=7→shellF d v=(decide (v.s=emptyB) && decide (v.k=7) && decide (v.n=0) && decide (v.ks.length=d.edges.length)):=fun c=>by rw [hA (.inr (.inr c)),if_neg (by omega),if_neg (by omega),c]
 have hB1:d.kind=8→(v.s≠emptyB∨v.k≠8∨v.n < 0∨(d.edges.length:Int)≤v.n)→shellF d v=false:=fun c h=>by rw [hB c,if_pos h]
 have hB2:d.kind=8→¬ (v.s≠emptyB∨v.k≠8∨v.n < 0∨(d.edges.length:Int)≤v.n)→∀ e,d.edges[v.n.toNat]? = some e→shellF d v=((decide (v.ks.length=0) == e.bare) && decide (v.ks.length < 2)):=fun c h e he=>by rw [hB c,if_neg h,he]
 clear hA hB
 generalize shellF d v=B at hA5 hA6 hA7 hB1 hB2 ⊢
 obtain ⟨kind,at',lo,hi,most,nms,es⟩:=d
 obtain ⟨k,z,s,ks⟩:=v
 simp only [Val.k,Val.n,Val.s,Val.ks] at hA5 hA6 hA7 hB1 hB2 h5 h8 hes
 have hel:=dEds_len es
 have hdl:=dVals_len ks
 refine ev_go (P:=Tryz.prog) tt tt_ok 5000 111 [.tmp 4] Tryz.func200 rfl Tryz.ntmps200 rfl (Nat.le_of_ble_eq_true rfl) (fun E9 w9 hn9 hm9=>?_)
 refine br (fun c=>?_) (fun c=>?_)
 ·have c:kind=5:=by simpa using c
  subst c
  rw [hA5 rfl]
  refine (congrArg (fun b=>DV.v (.bool b)) ?_:_=_)
  simp only [pickB_and,hdl]
  rfl
 have c5:¬ kind=5:=by simpa using c
 refine br (fun c=>?_) (fun c=>?_)
 ·have c:kind=6:=by simpa using c
  subst c
  rw [hA6 rfl]
  refine (congrArg (fun b=>DV.v (.bool b)) ?_:_=_)
  simp only [pickB_and,hdl]
  rw [show decide ((ks.length:Int)≤1)=decide (ks.length < 2) from decide_eq_decide.2 ⟨fun h=>by omega,fun h=>by omega⟩]
  rfl
 have c6:¬ kind=6:=by simpa using c
 refine br (fun c=>?_) (fun c=>?_)
 ·have c:kind=7:=by simpa using c
  subst c
  rw [hA7 rfl]
  refine (congrArg (fun b=>DV.v (.bool b)) ?_:_=_)
  simp only [pickB_and,hdl,hel]
  rw [show decide ((ks.length:Int)=es.length)=decide (ks.length=es.length) from decide_eq_decide.2 ⟨fun h=>by omega,fun h=>by omega⟩]
  rfl
 have c7:¬ kind=7:=by simpa using c
 refine br (fun c=>?_) (fun c=>?_)
 ·have c:s≠emptyB∨k≠8∨z < 0∨(es.length:Int)≤z:=by
   simp [pickB_or,hel] at c
   rcases c with ((c | c) | c) | c
   ·exact .inl c
   ·exact .inr (.inl c)
   ·exact .inr (.inr (.inl c))
   ·exact .inr (.inr (.inr c))
  rw [hB1 (by omega) c]
  exact (rfl:_=_)
 ·have c:¬ (s≠emptyB∨k≠8∨z < 0∨(es.length:Int)≤z):=by
   simp [pickB_or,hel] at c
   rintro (h | h | h | h)
   ·exact h c.1.1.1
   ·exact h c.1.1.2
   ·omega
   ·omega
  obtain ⟨e,he⟩:∃ e,es[z.toNat]? = some e:=⟨_,List.getElem?_eq_getElem (by omega)⟩
  rw [hB2 (by omega) c e he]
  obtain ⟨en,eb,ea,et,elb,ew,eck,ecn,ese,eca⟩:=e
  refine drawG_i (fun _=>false) mo (by decide +kernel) ?_
  refine ⟨_,⟨by omega,dEds_get he⟩,?_⟩
  refine (congrArg (fun b=>DV.v (.bool b)) ?_:_=_)
  simp only [pickB_and,hdl]
  rw [show decide ((ks.length:Int)=0)=decide (ks.length=0) from decide_eq_decide.2 ⟨fun h=>by omega,fun h=>by omega⟩,show decide ((ks.length:Int) < 2)=decide (ks.length < 2) from decide_eq_decide.2 ⟨fun h=>by omega,fun h=>by omega⟩]
  rfl
theorem plain27_spec (v:Val) (k n:Int) (s:ByteArray):EvP Tryz.prog 206 [.agg (dVal v),.v (.int .i64 k),.v (.int .i64 n),.v (.string s)] (.v (.bool (plainK v k n s))):=by
 obtain ⟨q,z,t,ks⟩:=v
 have hdl:=dVals_len ks
 refine ev_go (P:=Tryz.prog) tt tt_ok 5000 31 [.tmp 8] Tryz.func206 rfl Tryz.ntmps206 rfl (Nat.le_of_ble_eq_true rfl) (fun E9 w9 hn9 hm9=>?_)
 refine (congrArg (fun b=>DV.v (.bool b)) ?_:_=_)
 unfold plainK
 simp only [pickB_and,hdl]
 rw [show decide ((ks.length:Int)=0)=decide (ks.length=0) from decide_eq_decide.2 ⟨fun h=>by omega,fun h=>by omega⟩]
 rfl
theorem outer27_spec (d:Nd) (v:Val) (h5:5≤d.kind) (h8:d.kind≤8) (hes:d.edges.length≤1099511627776) (hv:v.wt≤1099511627776):EvP Tryz.prog 205 [.agg (dNd d),.agg (dVal v)] (.v (.bool (shellF d v))):=by
 have hS:shellF d v=if v.k≠d.kind∨v.s≠emptyB∨(d.kind≠8∧v.n≠0) then false
  else if d.kind=5 then decide ((v.ks.length:Int)≤d.most)
  else if d.kind=6 then decide (v.ks.length < 2)
  else if d.kind=7 then decide (v.ks.length=d.edges.length)
  else if v.n < 0∨(d.edges.length:Int)≤v.n then false
  else match d.edges[v.n.toNat]? with
   | none=>false
   | some e=>if e.bare=true then decide (v.ks.length=0) else decide (v.ks.length=1):=rfl
 generalize shellF d v=B at hS ⊢
 have hA0:(v.k≠d.kind∨v.s≠emptyB∨(d.kind≠8∧v.n≠0))→B=false:=fun h=>by rw [hS,if_pos h]
 have hA5:¬ (v.k≠d.kind∨v.s≠emptyB∨(d.kind≠8∧v.n≠0))→d.kind=5→B=decide ((v.ks.length:Int)≤d.most):=fun h c=>by rw [hS,if_neg h,if_pos c]
 have hA6:¬ (v.k≠d.kind∨v.s≠emptyB∨(d.kind≠8∧v.n≠0))→d.kind=6→B=decide (v.ks.length < 2):=fun h c=>by rw [hS,if_neg h,if_neg (by omega),if_pos c]
 have hA7:¬ (v.k≠d.kind∨v.s≠emptyB∨(d.kind≠8∧v.n≠0))→d.kind=7→B=decide (v.ks.length=d.edges.length):=fun h c=>by rw [hS,if_neg h,if_neg (by omega),if_neg (by omega),if_pos c]
 have hA8:¬ (v.k≠d.kind∨v.s≠emptyB∨(d.kind≠8∧v.n≠0))→d.kind=8→(v.n < 0∨(d.edges.length:Int)≤v.n)→B=false:=fun h c g=>by rw [hS,if_neg h,if_neg (by omega),if_neg (by omega),if_neg (by omega),if_pos g]
 have hA9:¬ (v.k≠d.kind∨v.s≠emptyB∨(d.kind≠8∧v.n≠0))→d.kind=8→¬ (v.n < 0∨(d.edges.length:Int)≤v.n)→∀ e,d.edges[v.n.toNat]? = some e→B=if e.bare=true then decide (v.ks.length=0) else decide (v.ks.length=1):=fun h c g e he=>by rw [hS,if_neg h,if_neg (by omega),if_neg (by omega),if_neg (by omega),if_neg g,he]
 clear hS
 obtain ⟨kind,at',lo,hi,most,nms,es⟩:=d
 obtain ⟨k,z,s,ks⟩:=v
 simp only [Val.k,Val.n,Val.s,Val.ks] at hA0 hA5 hA6 hA7 hA8 hA9 h5 h8 hes
 have hel:=dEds_len es
 have hdl:=dVals_len ks
 refine ev_go (P:=Tryz.prog) tt tt_ok 5000 77 [.tmp 4] Tryz.func205 rfl Tryz.ntmps205 rfl (Nat.le_of_ble_eq_true rfl) (fun E9 w9 hn9 hm9=>?_)
 refine br (fun c=>?_) (fun c=>?_)
 ·have c:k≠kind∨s≠emptyB∨(kind≠8∧z≠0):=by
   simp [pickB_or,pickB_and] at c
   rcases c with (c | c) | c
   ·exact .inl c
   ·exact .inr (.inl c)
   ·exact .inr (.inr c)
  rw [hA0 c]
  exact (rfl:_=_)
 have hno:¬ (k≠kind∨s≠emptyB∨(kind≠8∧z≠0)):=by
  simp [pickB_or,pickB_and] at c
  rintro (h | h | h)
  ·exact h c.1.1
  ·exact h c.1.2
  ·exact h.2 (c.2 h.1)
 refine br (fun c=>?_) (fun c=>?_)
 ·have c:kind=5:=by simpa using c
  rw [hA5 hno c]
  refine (congrArg (fun b=>DV.v (.bool b)) ?_:_=_)
  simp only [hdl]
  exact decide_eq_decide.2 Iff.rfl
 have c5:¬ kind=5:=by simpa using c
 refine br (fun c=>?_) (fun c=>?_)
 ·have c:kind=6:=by simpa using c
  rw [hA6 hno c]
  refine (congrArg (fun b=>DV.v (.bool b)) ?_:_=_)
  simp only [hdl]
  exact decide_eq_decide.2 ⟨fun h=>by omega,fun h=>by omega⟩
 have c6:¬ kind=6:=by simpa using c
 refine br (fun c=>?_) (fun c=>?_)
 ·have c:kind=7:=by simpa using c
  rw [hA7 hno c]
  refine (congrArg (fun b=>DV.v (.bool b)) ?_:_=_)
  simp only [hdl,hel]
  exact decide_eq_decide.2 ⟨fun h=>by omega,fun h=>by omega⟩
 have c7:¬ kind=7:=by simpa using c
 refine br (fun c=>?_) (fun c=>?_)
 ·have c:z < 0∨(es.length:Int)≤z:=by simpa [pickB_or,hel] using c
  rw [hA8 hno (by omega) c]
  exact (rfl:_=_)
 have c:¬ (z < 0∨(es.length:Int)≤z):=by simpa [pickB_or,hel] using c
 obtain ⟨e,he⟩:∃ e,es[z.toNat]? = some e:=⟨_,List.getElem?_eq_getElem (by omega)⟩
 rw [hA9 hno (by omega) c e he]
 refine ⟨_,⟨by omega,dEds_get he⟩,?_⟩
 obtain ⟨en,eb,ea,et,elb,ew,eck,ecn,ese,eca⟩:=e
 cases eb with
 | true=>
  refine (congrArg (fun b=>DV.v (.bool b)) ?_:_=_)
  simp only [hdl,reduceIte]
  exact decide_eq_decide.2 ⟨fun h=>by omega,fun h=>by omega⟩
 | false=>
  refine (congrArg (fun b=>DV.v (.bool b)) ?_:_=_)
  simp only [hdl]
  rw [if_neg (by simp)]
  exact decide_eq_decide.2 ⟨fun h=>by omega,fun h=>by omega⟩
theorem plainK_len {v:Val} {k n:Int} {s:ByteArray} (h:0 < v.ks.length):plainK v k n s=false:=by
 unfold plainK
 rw [decide_eq_false (show ¬ v.ks.length=0 by omega),Bool.and_false]
theorem tmod_zero {z u:Int} (hu:1≤u):z.tmod u=0↔z % u=0:=by
 rw [← Int.dvd_iff_tmod_eq_zero,← Int.dvd_iff_emod_eq_zero]
theorem floor_self {z u:Int} (hz : -9223372036854775808≤z) (hu:1≤u):((floorV z u).2 && decide ((floorV z u).1=z))=decide (z % u=0):=by
 rw [floorV_u hu]
 have h1:=Int.emod_nonneg z (b:=u) (by omega)
 by_cases c:z - z % u < -9223372036854775808
 ·rw [if_pos c,decide_eq_false (show ¬ z % u=0 by omega)]
  rfl
 ·rw [if_neg c]
  show (true && decide (z - z % u=z))=_
  rw [Bool.true_and]
  exact decide_eq_decide.2 ⟨fun h=>by omega,fun h=>by omega⟩
theorem mayF_1 {e:Ed} {d:Nd} {v:Val} (c:e.ck=1∧d.kind=2):mayF e d v=if plainK v 9 e.wide emptyB=true then !(floorV d.lo e.cn).2
  else plainK v 10 v.n emptyB && decide (v.n % e.cn=0) && (floorV d.hi e.cn).2 && decide (v.n≤(floorV d.hi e.cn).1) && (!(floorV d.lo e.cn).2 || decide ((floorV d.lo e.cn).1≤v.n)):=by
 unfold mayF
 rw [if_pos c]
theorem mayF_2 {e:Ed} {d:Nd} {v:Val} (c:e.ck=2∧d.kind=3):mayF e d v=(plainK v 11 0 v.s && decide ((v.s.size:Int)≤d.most) && decide (headL e.cn.toNat (tx v.s)=tx v.s)):=by
 unfold mayF
 rw [if_neg (by omega),if_pos c]
theorem mayF_3 {e:Ed} {d:Nd} {v:Val} (c:e.ck=3∧d.kind=5):mayF e d v=(plainK v 12 v.n emptyB && decide (0≤v.n) && decide (v.n≤d.most)):=by
 unfold mayF
 rw [if_neg (by omega),if_neg (by omega),if_pos c]
theorem mayF_0 {e:Ed} {d:Nd} {v:Val} (c1:¬ (e.ck=1∧d.kind=2)) (c2:¬ (e.ck=2∧d.kind=3)) (c3:¬ (e.ck=3∧d.kind=5)):mayF e d v=plainK v 9 e.wide emptyB:=by
 unfold mayF
 rw [if_neg c1,if_neg c2,if_neg c3]
theorem mayF_len {e:Ed} {d:Nd} {v:Val} (h:0 < v.ks.length):mayF e d v=false:=by
 by_cases c1:e.ck=1∧d.kind=2
 ·rw [mayF_1 c1,plainK_len h,plainK_len h,if_neg (by simp)]
  rfl
 by_cases c2:e.ck=2∧d.kind=3
 ·rw [mayF_2 c2,plainK_len h]
  rfl
 by_cases c3:e.ck=3∧d.kind=5
 ·rw [mayF_3 c3,plainK_len h]
  rfl
 rw [mayF_0 c1 c2 c3,plainK_len h]
theorem plainK_v {v:Val} {k n:Int} {s:ByteArray} (h:v.ks=[]):plainK v k n s=(decide (v.k=k) && decide (v.n=n) && decide (v.s=s)):=by
 unfold plainK
 rw [h]
 exact Bool.and_true _
theorem mayF_9 {e:Ed} {d:Nd} {v:Val} (c:e.ck=1∧d.kind=2) (hks:v.ks=[]) (h:v.k=9):mayF e d v=(!(floorV d.lo e.cn).2 && decide (v.n=e.wide) && decide (v.s=emptyB)):=by
 rw [mayF_1 c,plainK_v hks,plainK_v hks,h]
 by_cases h1:v.n=e.wide<;>by_cases h2:v.s=emptyB<;>simp [h1,h2]
theorem mayF_10 {e:Ed} {d:Nd} {v:Val} (c:e.ck=1∧d.kind=2) (hks:v.ks=[]) (h:¬ v.k=9) (hn : -9223372036854775808≤v.n) (hcn:1≤e.cn) :
  mayF e d v=(decide (v.k=10) && decide (v.s=emptyB) && (floorV v.n e.cn).2 && decide ((floorV v.n e.cn).1=v.n) && (floorV d.hi e.cn).2 && (!(floorV d.lo e.cn).2 || decide ((floorV d.lo e.cn).1≤v.n)) && decide (v.n≤(floorV d.hi e.cn).1)):=by
 rw [mayF_1 c,plainK_v hks,plainK_v hks,decide_eq_false h,← floor_self hn hcn]
 generalize (floorV v.n e.cn).2=b1
 generalize decide ((floorV v.n e.cn).1=v.n)=b2
 generalize (floorV d.hi e.cn).2=b3
 generalize decide (v.n≤(floorV d.hi e.cn).1)=b4
 generalize (!(floorV d.lo e.cn).2 || decide ((floorV d.lo e.cn).1≤v.n))=b5
 generalize decide (v.k=10)=b6
 generalize decide (v.s=emptyB)=b7
 rw [show decide (v.n=v.n)=true from decide_eq_true rfl]
 cases b1<;>cases b2<;>cases b3<;>cases b4<;>cases b5<;>cases b6<;>cases b7<;>rfl
theorem efloors_spec (e:Ed) (d:Nd) (v:Val) (hks:v.ks=[]) (hck:e.ck=1∧d.kind=2) (hcn:1≤e.cn) (hn : -9223372036854775808≤v.n∧v.n≤9223372036854775807) (hlo : -9223372036854775808≤d.lo∧d.lo≤9223372036854775807) (hhi : -9223372036854775808≤d.hi∧d.hi≤9223372036854775807) (hc : -9223372036854775808≤e.cn∧e.cn≤9223372036854775807) :
  EvP Tryz.prog 259 [.agg (dEd e),.agg (dNd d),.agg (dVal v)] (.v (.bool (mayF e d v))):=by
 have h1:=floor_spec d.lo e.cn hlo hc
 have h2:=floor_spec v.n e.cn hn hc
 have h3:=floor_spec d.hi e.cn hhi hc
 have hm1:=mayF_9 hck hks
 have hm2:=fun h=>mayF_10 hck hks h hn.1 hcn
 generalize mayF e d v=B at hm1 hm2 ⊢
 unfold floorD at h1 h2 h3
 generalize floorV d.lo e.cn=L at h1 hm1 hm2
 generalize floorV v.n e.cn=M at h2 hm2
 generalize floorV d.hi e.cn=H at h3 hm2
 obtain ⟨L1,L2⟩:=L
 obtain ⟨M1,M2⟩:=M
 obtain ⟨H1,H2⟩:=H
 obtain ⟨q,z,s,ks⟩:=v
 obtain ⟨en,eb,ea,et,elb,ew,eck,ecn,ese,eca⟩:=e
 obtain ⟨kind,at',lo,hi,most,nms,es⟩:=d
 refine ev_go (P:=Tryz.prog) tt tt_ok 5000 90 [.tmp 6] Tryz.func259 rfl Tryz.ntmps259 rfl (Nat.le_of_ble_eq_true rfl) (fun E9 w9 hn9 hm9=>?_)
 refine call_p en261 (h1) ax rfl ?_
 refine br (fun c=>?_) (fun c=>?_)
 ·have c:q=9:=by simpa using c
  rw [hm1 c]
  refine (congrArg (fun b=>DV.v (.bool b)) ?_:_=_)
  simp only [pickB_and]
  rfl
 ·have c:¬ q=9:=by simpa using c
  rw [hm2 c]
  refine call_p en261 (h2) ax rfl ?_
  refine call_p en261 (h3) ax rfl ?_
  refine (congrArg (fun b=>DV.v (.bool b)) ?_:_=_)
  simp only [pickB_and,pickB_or]
  rfl
theorem emay_spec (e:Ed) (d:Nd) (v:Val) (hcn:e.ck=1→1≤e.cn) (hn : -9223372036854775808≤v.n∧v.n≤9223372036854775807) (hlo : -9223372036854775808≤d.lo∧d.lo≤9223372036854775807) (hhi : -9223372036854775808≤d.hi∧d.hi≤9223372036854775807) (hc : -9223372036854775808≤e.cn∧e.cn≤9223372036854775807) (hv:v.wt≤1099511627776) :
  EvP Tryz.prog 204 [.agg (dEd e),.agg (dNd d),.agg (dVal v)] (.v (.bool (mayF e d v))):=by
 have hfl:=fun hks hck=>efloors_spec e d v hks hck (hcn hck.1) hn hlo hhi hc
 have hsz:v.s.size≤1099511627776∧v.ks.length≤1099511627776:=by
  obtain ⟨k,n,s,ks⟩:=v
  have:=wtVs_len ks
  rw [Val.wt] at hv
  exact ⟨by show s.size≤_;omega,by show ks.length≤_;omega⟩
 have hh:=ehead_spec v.s hsz.1 e.cn hc.2
 have hlen:=fun h=>mayF_len (e:=e) (d:=d) (v:=v) h
 have hm2:=fun c=>mayF_2 (e:=e) (d:=d) (v:=v) c
 have hm3:=fun c=>mayF_3 (e:=e) (d:=d) (v:=v) c
 have hm0:=fun a b c=>mayF_0 (e:=e) (d:=d) (v:=v) a b c
 have hpl:=fun k n s h=>plainK_v (v:=v) (k:=k) (n:=n) (s:=s) h
 generalize mayF e d v=B at hfl hlen hm2 hm3 hm0 ⊢
 have hm2':(e.ck=2∧d.kind=3)→v.ks=[]→B=(decide (v.k=11) && decide (v.n=0) && decide ((v.s.size:Int)≤d.most) && decide (headL e.cn.toNat (tx v.s)=tx v.s)):=fun c h=>by
  rw [hm2 c,hpl _ _ _ h,show decide (v.s=v.s)=true from decide_eq_true rfl,Bool.and_true]
 have hm3':(e.ck=3∧d.kind=5)→v.ks=[]→B=(decide (v.k=12) && decide (v.s=emptyB) && decide (0≤v.n) && decide (v.n≤d.most)):=fun c h=>by
  rw [hm3 c,hpl _ _ _ h,show decide (v.n=v.n)=true from decide_eq_true rfl,Bool.and_true]
 have hm0':¬ (e.ck=1∧d.kind=2)→¬ (e.ck=2∧d.kind=3)→¬ (e.ck=3∧d.kind=5)→v.ks=[]→B=(decide (v.k=9) && decide (v.n=e.wide) && decide (v.s=emptyB)):=fun a b c h=>by
  rw [hm0 a b c,hpl _ _ _ h]
 clear hm2 hm3 hm0 hpl
 generalize headL e.cn.toNat (tx v.s)=HD at hh hm2'
 obtain ⟨q,z,s,ks⟩:=v
 simp only [Val.ks,Val.s] at hfl hlen hm2' hm3' hm0' hh hsz
 have hdl:=dVals_len ks
 obtain ⟨en,eb,ea,et,elb,ew,eck,ecn,ese,eca⟩:=e
 obtain ⟨kind,at',lo,hi,most,nms,es⟩:=d
 refine ev_go (P:=Tryz.prog) tt tt_ok 5000 104 [.tmp 6] Tryz.func204 rfl Tryz.ntmps204 rfl (Nat.le_of_ble_eq_true rfl) (fun E9 w9 hn9 hm9=>?_)
 refine br (fun c=>?_) (fun c=>?_)
 ·have c:0 < ks.length:=by simpa [hdl] using c
  rw [hlen c]
  exact (rfl:_=_)
 have c0:ks=[]:=by
  have:¬ 0 < ks.length:=by simpa [hdl] using c
  exact List.eq_nil_of_length_eq_zero (by omega)
 refine br (fun c=>?_) (fun c=>?_)
 ·have c:eck=1∧kind=2:=by simpa [pickB_and] using c
  have hfl:=hfl c0 c
  refine call_p en259 (hfl) ax rfl ?_
  exact (rfl:_=_)
 have c1:¬ (eck=1∧kind=2):=by simpa [pickB_and] using c
 refine br (fun c=>?_) (fun c=>?_)
 ·have c:eck=2∧kind=3:=by simpa [pickB_and] using c
  have hB:B=((decide (q=11) && decide (z=0) && decide ((s.size:Int)≤most)) && decide (HD=tx s)):=hm2' c c0
  have hbt:decide (ba HD=s)=decide (HD=tx s):=decide_eq_decide.2 ⟨fun h=>by rw [← h,tx_ba],fun h=>by rw [h,ba_tx]⟩
  refine drawG_i (fun _=>false) mo (by decide +kernel) ?_
  refine br (fun g=>?_) (fun g=>?_)
  ·have g:(decide (q=11) && decide (z=0) && decide ((s.size:Int)≤most))=true:=by simpa [pickB_and] using g
   rw [g,Bool.true_and] at hB
   refine callD_p en260 (hh) ax rfl ?_
   refine (congrArg (fun b=>DV.v (.bool b)) ?_:_=_)
   rw [hB,← hbt]
   rfl
  ·have g:(decide (q=11) && decide (z=0) && decide ((s.size:Int)≤most))=false:=by simpa [pickB_and] using g
   rw [g,Bool.false_and] at hB
   rw [hB]
   exact (rfl:_=_)
 have c2:¬ (eck=2∧kind=3):=by simpa [pickB_and] using c
 refine br (fun c=>?_) (fun c=>?_)
 ·have c:eck=3∧kind=5:=by simpa [pickB_and] using c
  rw [hm3' c c0]
  refine (congrArg (fun b=>DV.v (.bool b)) ?_:_=_)
  simp only [pickB_and]
  rfl
 have c3:¬ (eck=3∧kind=5):=by simpa [pickB_and] using c
 rw [hm0' c1 c2 c3 c0]
 refine (congrArg (fun b=>DV.v (.bool b)) ?_:_=_)
 simp only [pickB_and]
 rfl
theorem may27_spec (e:Ed) (d:Nd) (v:Val) (hcn:e.ck=1→1≤e.cn) (hn : -9223372036854775808≤v.n∧v.n≤9223372036854775807) (hlo : -9223372036854775808≤d.lo∧d.lo≤9223372036854775807) (hhi : -9223372036854775808≤d.hi∧d.hi≤9223372036854775807) (hc : -9223372036854775808≤e.cn∧e.cn≤9223372036854775807) (hv:v.wt≤1099511627776) :
  EvP Tryz.prog 207 [.agg (dEd e),.agg (dNd d),.agg (dVal v)] (.v (.bool (mayF e d v))):=by
 have h1:=floor07_spec d.lo e.cn hlo hc
 have h3:=floor07_spec d.hi e.cn hhi hc
 have hsz:v.s.size≤1099511627776:=by
  obtain ⟨k,n,s,ks⟩:=v
  rw [Val.wt] at hv
  show s.size≤_
  omega
 have hh:=head27_spec e.cn.toNat v.s hsz e.cn hc.2 rfl
 have hp9:=plain27_spec v 9 e.wide emptyB
 have hp10:=plain27_spec v 10 v.n emptyB
 have hp11:=plain27_spec v 11 0 v.s
 have hp12:=plain27_spec v 12 v.n emptyB
 have hm1:=fun c=>mayF_1 (e:=e) (d:=d) (v:=v) c
 have hm2:=fun c=>mayF_2 (e:=e) (d:=d) (v:=v) c
 have hm3:=fun c=>mayF_3 (e:=e) (d:=d) (v:=v) c
 have hm0:=fun a b c=>mayF_0 (e:=e) (d:=d) (v:=v) a b c
 have hmz:e.ck=1→decide (v.n.tmod (max e.cn 1)=0)=decide (v.n % e.cn=0):=fun h=>by
  rw [show max e.cn 1=e.cn by have:=hcn h;omega]
  exact decide_eq_decide.2 (tmod_zero (hcn h))
 generalize mayF e d v=B at hm1 hm2 hm3 hm0 ⊢
 generalize plainK v 9 e.wide emptyB=P9 at hp9 hm1 hm0
 generalize plainK v 10 v.n emptyB=P10 at hp10 hm1
 generalize plainK v 11 0 v.s=P11 at hp11 hm2
 generalize plainK v 12 v.n emptyB=P12 at hp12 hm3
 unfold floorD at h1 h3
 generalize floorV d.lo e.cn=L at h1 hm1
 generalize floorV d.hi e.cn=H at h3 hm1
 generalize headL e.cn.toNat (tx v.s)=HD at hh hm2
 generalize decide (v.n % e.cn=0)=MZ at hm1 hmz
 obtain ⟨L1,L2⟩:=L
 obtain ⟨H1,H2⟩:=H
 obtain ⟨q,z,s,ks⟩:=v
 obtain ⟨en,eb,ea,et,elb,ew,eck,ecn,ese,eca⟩:=e
 obtain ⟨kind,at',lo,hi,most,nms,es⟩:=d
 refine ev_go (P:=Tryz.prog) tt tt_ok 5000 131 [.tmp 6] Tryz.func207 rfl Tryz.ntmps207 rfl (Nat.le_of_ble_eq_true rfl) (fun E9 w9 hn9 hm9=>?_)
 refine br (fun c=>?_) (fun c=>?_)
 ·have c:eck=1∧kind=2:=by simpa [pickB_and] using c
  have hB:=hm1 c
  have hmz:=hmz c.1
  have hmx:max ecn 1≠0:=by omega
  refine call_p en210 (h1) ax rfl ?_
  refine call_p en210 (h3) ax rfl ?_
  refine call_p en206 (hp9) ax rfl ?_
  cases P9 with
  | true=>
   rw [if_pos rfl] at hB
   rw [hB]
   exact (rfl:_=_)
  | false=>
   rw [if_neg (by simp)] at hB
   refine call_p en206 (hp10) ax rfl ?_
   cases P10 with
   | true=>
    refine ⟨⟨rfl,hmx⟩,?_⟩
    refine (congrArg (fun b=>DV.v (.bool b)) ?_:_=_)
    rw [hB]
    simp only [pickB_and,pickB_or]
    have hmz':decide (z.tmod (max ecn 1)=0)=MZ:=hmz
    rw [hmz']
    rfl
   | false=>
    rw [hB]
    exact (rfl:_=_)
 have c1:¬ (eck=1∧kind=2):=by simpa [pickB_and] using c
 refine br (fun c=>?_) (fun c=>?_)
 ·have c:eck=2∧kind=3:=by simpa [pickB_and] using c
  have hB:B=(P11 && decide ((s.size:Int)≤most) && decide (HD=tx s)):=hm2 c
  have hbt:decide (ba HD=s)=decide (HD=tx s):=decide_eq_decide.2 ⟨fun h=>by rw [← h,tx_ba],fun h=>by rw [h,ba_tx]⟩
  refine drawG_i (fun _=>false) mo (by decide +kernel) ?_
  refine callD_p en206 (hp11) ax rfl ?_
  refine br (fun g=>?_) (fun g=>?_)
  ·have g:(P11 && decide ((s.size:Int)≤most))=true:=by simpa [pickB_and] using g
   rw [g,Bool.true_and] at hB
   refine callD_p en211 (hh) ax rfl ?_
   refine (congrArg (fun b=>DV.v (.bool b)) ?_:_=_)
   rw [hB,← hbt]
   rfl
  ·have g:(P11 && decide ((s.size:Int)≤most))=false:=by simpa [pickB_and] using g
   rw [g,Bool.false_and] at hB
   rw [hB]
   exact (rfl:_=_)
 have c2:¬ (eck=2∧kind=3):=by simpa [pickB_and] using c
 refine br (fun c=>?_) (fun c=>?_)
 ·have c:eck=3∧kind=5:=by simpa [pickB_and] using c
  rw [hm3 c]
  refine call_p en206 (hp12) ax rfl ?_
  refine (congrArg (fun b=>DV.v (.bool b)) ?_:_=_)
  simp only [pickB_and]
  rfl
 have c3:¬ (eck=3∧kind=5):=by simpa [pickB_and] using c
 rw [hm0 c1 c2 c3]
 refine call_p en206 (hp9) ax rfl ?_
 exact (rfl:_=_)
end Go.Proofs.YtbfdbhechmhpoaaGreat
set_option maxRecDepth 100000
namespace Go.Proofs.YtbfdbhechmhpoaaGreat
open Go Go.RowKit Dv Tryz
def edW (w:Int):Ed:=⟨emptyB,false,0,0,0,w,0,0,0,0⟩
theorem mayF_w (w:Int) (d:Nd) (v:Val):mayF (edW w) d v=plainK v 9 w emptyB:=by
 rw [mayF_0 (by rintro ⟨h,_⟩;cases h) (by rintro ⟨h,_⟩;cases h) (by rintro ⟨h,_⟩;cases h)]
 rfl
theorem shell_zero {N:Nat} {ND:List Nd} {d:Nd} (hN:NdOK N ND.length d) {v:Val} (h:shellF d v=true) (c:d.kind=8) {m:Nat} (hm:m < v.ks.length):(0≤v.n∧v.n < d.edges.length)∧m=0:=by
 rw [shellF_8 c] at h
 split at h
 ·cases h
 rename_i hc
 have h1:¬ v.n < 0:=fun g=>hc (.inr (.inr (.inl g)))
 have h2:¬ (d.edges.length:Int)≤v.n:=fun g=>hc (.inr (.inr (.inr g)))
 split at h
 ·cases h
 ·rw [Bool.and_eq_true,decide_eq_true_iff] at h
  have:=h.2
  omega
def kidS (ND:List Nd) (f:Nat→Nat→Bool) (L obs:Nat) (d:Nd) (e:Ed) (a:Nat) (x:Val):Bool:=if howF f L obs d e a=2 then seeV ND f L obs x e.to (undF f L d e a) else if howF f L obs d e a=1 then (match nodeA ND e.to with | none=>false | some t=>mayF e t x) else plainK x 9 e.wide emptyB
theorem seeVs_kid {ND:List Nd} {f:Nat→Nat→Bool} {L obs:Nat} {ks:List Val} {d:Nd} {z:Int} {a j m:Nat} {x:Val} {e:Ed} (h:ks[m]? = some x) (he:edgeN d z j=some e):seeVs ND f L obs (ks.drop m) d z a j=(kidS ND f L obs d e a x && seeVs ND f L obs (ks.drop (m + 1)) d z a (j + 1)):=by
 rw [seeVs_drop h,he]
 rfl
abbrev efSt (PC LC:List DV) (obs a:Nat) (v:Val) (d:Nd) (e:Nat):St:=
 ⟨[(2,⟨[],.v (.int .i64 a)⟩),(4,⟨[],.loc 0 0⟩),(7,⟨[],.loc 1 0⟩),(9,⟨[],.loc 2 0⟩),(38,⟨[],.sl 4 (dVals v.ks) none⟩),(39,⟨[],.v (.int .i64 (dVals v.ks).length)⟩),(40,⟨[],.v (.int .i64 e)⟩)],[eeD PC LC obs,dVal v,dNd d],[]⟩
theorem erfits_spec {S:Sch} {ND:List Nd} {PC LC:List DV} (hP:PlanR S ND PC) (hR:LatR S.levels.length (leqS S) (nmTx S.levels) LC) (hrn:∀ n∈ND,rngN n) (hsz:∀ n∈ND,n.edges.length≤1099511627776) (obs:Nat) (ho:obs < S.levels.length) :
  ∀ (k:Nat) (v:Val),v.wt≤k→v.wt≤1099511627776→rngW v→∀ (i a:Nat),a < S.levels.length→i < ND.length →
   EvP Tryz.prog 124 [.agg (eeD PC LC obs),.v (.int .i64 i),.v (.int .i64 a),.agg (dVal v)] (.v (.bool (seeV ND (leqS S) S.levels.length obs v i a)))
 | 0,v,h,_=>by have:=v.wt_pos;omega
 | k + 1,v,h,hb=>fun hr i a ha hi=>by
  have ih:=erfits_spec hP hR hrn hsz obs ho k
  have hL:=hR.ok
  obtain ⟨d,hg⟩:∃ d,ND[i]? = some d:=⟨_,List.getElem?_eq_getElem hi⟩
  have hnd:nodeA ND (i:Int)=some d:=by
   unfold nodeA
   rw [if_neg (by omega),Int.toNat_natCast,hg]
  have hmem:=List.mem_of_getElem? hg
  have hN:=hP.ok d hmem
  have hnode:=hP.node i d hg
  have hdsz:=hsz d hmem
  have hdrn:=hrn d hmem
  have hft:=tfits_spec hP _ v (Nat.le_refl _) hb i
  have hsh:=fun h5=>eshell_spec d v h5 hN.k8 hdsz hb
  have hske:=fun h5 hs m hm=>shell_kid hN h5 (v:=v) hs (m:=m) hm
  have hskz:=fun hs c m hm=>shell_zero hN (v:=v) hs c (m:=m) hm
  have hV:seeV ND (leqS S) S.levels.length obs v i a=if d.kind < 5 then fitV ND v i else shellF d v && seeVs ND (leqS S) S.levels.length obs v.ks d v.n a 0:=by
   obtain ⟨q,z,s,ks⟩:=v
   rw [seeV,hnd]
   rfl
  have hV1:d.kind < 5→seeV ND (leqS S) S.levels.length obs v i a=fitV ND v i:=fun c=>by rw [hV,if_pos c]
  have hV2:¬ d.kind < 5→seeV ND (leqS S) S.levels.length obs v i a=(shellF d v && seeVs ND (leqS S) S.levels.length obs v.ks d v.n a 0):=fun c=>by rw [hV,if_neg c]
  clear hV
  generalize seeV ND (leqS S) S.levels.length obs v i a=B at hV1 hV2 ⊢
  generalize fitV ND v i=F at hft hV1
  generalize shellF d v=SH at hsh hske hskz hV2
  obtain ⟨vk,vn,vs,ks⟩:=v
  have hkl:=wtVs_len ks
  have hdl:=dVals_len ks
  rw [Val.wt] at h hb
  have hrk:=rngW_ks hr
  simp only [Val.ks,Val.n] at hV2 hrk hske hskz
  obtain ⟨kind,at',lo,hi',most,names,es⟩:=d
  refine ev_go (P:=Tryz.prog) tt tt_ok 5000 90 [.tmp 8] Tryz.func124 rfl Tryz.ntmps124 rfl (Nat.le_of_ble_eq_true rfl) (fun E9 w9 hn9 hm9=>?_)
  refine call_p en18 (hnode) ax rfl ?_
  refine br (fun c=>?_) (fun c=>?_)
  ·have c:kind < 5:=by simpa using c
   rw [hV1 c]
   refine call_p en56 (hft) ax rfl ?_
   exact (rfl:_=_)
  have c5:¬ kind < 5:=by simpa using c
  have hV2:=hV2 c5
  have h5:5≤kind:=by omega
  have hsh:=hsh h5
  refine call_p en200 (hsh) ax rfl ?_
  cases SH with
  | false=>
   rw [Bool.false_and] at hV2
   rw [hV2]
   exact (rfl:_=_)
  | true=>
   rw [Bool.true_and] at hV2
   refine loop_i (fun t st=>∃ e:Nat,st=efSt PC LC obs a (.mk vk vn vs ks) ⟨kind,at',lo,hi',most,names,es⟩ e∧e≤ks.length∧B=seeVs ND (leqS S) S.levels.length obs (ks.drop e) ⟨kind,at',lo,hi',most,names,es⟩ vn a e∧t=ks.length - e) ks.length (efSt PC LC obs a (.mk vk vn vs ks) ⟨kind,at',lo,hi',most,names,es⟩ 0) (weak_b 3 rfl (by repeat' (first | exact rfl | exact we_rfl rfl | exact we_int rfl | refine ⟨_,_,rfl,?_,?_⟩)) rfl rfl rfl (by repeat' (first | exact trivial | exact we_rfl rfl | exact we_int rfl | refine ⟨⟨_,rfl,?_⟩,?_⟩))) ⟨0,rfl,by omega,hV2,by omega⟩ ?_
   rintro t st ⟨e,rfl,he,hE,rfl⟩
   refine br (fun hLt=>?_) (fun hLt=>?_)
   ·have hlt:e < ks.length:=by simpa [hdl,Val.ks] using hLt
    obtain ⟨x,hx⟩:∃ x,ks[e]? = some x:=⟨_,List.getElem?_eq_getElem hlt⟩
    obtain ⟨ed,hK⟩:=hske h5 rfl e hlt
    have hm:=List.mem_of_getElem? hx
    have hwx:=wtVs_mem hm
    have hrx:=rngWs_mem hrk hm
    obtain ⟨h1,t2,h2⟩:=to_in hN hK.mem hK.bare
    obtain ⟨_,hg2⟩:=nodeA_some h2
    have htl:=(List.getElem?_eq_some_iff.1 hg2).1
    have hto:ed.to=(ed.to.toNat:Nat):=by omega
    have hrn2:=hrn t2 (List.mem_of_getElem? hg2)
    have hnode2:=hP.node ed.to.toNat t2 hg2
    rw [← hto] at hnode2
    rw [seeVs_kid hx hK.edge] at hE
    have hedge:=eedge_spec hR PC obs a ha ⟨kind,at',lo,hi',most,names,es⟩ (.mk vk vn vs ks) e ed hK.edge hK.mem hN h5 (fun c=>hskz rfl c e hlt) hdsz
    have hU:=undF_lt hL hN hK.mem ha
    have hsees:=esees_spec hR PC obs (undF (leqS S) S.levels.length ⟨kind,at',lo,hi',most,names,es⟩ ed a) ho hU
    have hco:=ecoarsely_spec hR PC obs a ho ha ⟨kind,at',lo,hi',most,names,es⟩ ed hN hK.mem
    have hcnr:=hdrn.2.2 ed hK.mem
    have hcn1:=(hN.edge ed hK.mem).cn.2.1
    have hmay:=emay_spec ed t2 x hcn1 (rngW_n hrx) hrn2.1 hrn2.2.1 hcnr (by omega)
    have hmay2:=emay_spec (edW ed.wide) t2 x (fun h=>by cases h) (rngW_n hrx) hrn2.1 hrn2.2.1 ⟨by show (-9223372036854775808:Int)≤0;decide,by show (0:Int)≤9223372036854775807;decide⟩ (by omega)
    rw [mayF_w] at hmay2
    have hrec:=ih x (by omega) (by omega) hrx ed.to.toNat (undF (leqS S) S.levels.length ⟨kind,at',lo,hi',most,names,es⟩ ed a) hU htl
    rw [← hto] at hrec
    have hKS:kidS ND (leqS S) S.levels.length obs ⟨kind,at',lo,hi',most,names,es⟩ ed a x=if leqS S (undF (leqS S) S.levels.length ⟨kind,at',lo,hi',most,names,es⟩ ed a) obs=true then seeV ND (leqS S) S.levels.length obs x ed.to (undF (leqS S) S.levels.length ⟨kind,at',lo,hi',most,names,es⟩ ed a) else if (decide (ed.ck≠0) && leqS S (jnF (leqS S) S.levels.length a ed.seen.toNat) obs)=true then mayF ed t2 x else plainK x 9 ed.wide emptyB:=by
     unfold kidS
     rw [howF_eq,h2]
     by_cases g1:leqS S (undF (leqS S) S.levels.length ⟨kind,at',lo,hi',most,names,es⟩ ed a) obs=true
     ·simp only [if_pos g1,reduceIte]
     ·by_cases g2:ed.ck≠0∧leqS S (jnF (leqS S) S.levels.length a ed.seen.toNat) obs=true
      ·simp only [if_neg g1,if_pos g2,reduceIte]
       rw [if_neg (by decide),if_pos (by rw [decide_eq_true g2.1,g2.2];rfl)]
      ·simp only [if_neg g1,if_neg g2]
       rw [if_neg (by decide),if_neg (by decide),if_neg (by
        intro h
        rw [Bool.and_eq_true,decide_eq_true_iff] at h
        exact g2 h)]
    generalize kidS ND (leqS S) S.levels.length obs ⟨kind,at',lo,hi',most,names,es⟩ ed a x=KS at hE hKS
    generalize undF (leqS S) S.levels.length ⟨kind,at',lo,hi',most,names,es⟩ ed a=U at hedge hsees hrec hKS
    generalize leqS S U obs=b1 at hsees hKS
    generalize (decide (ed.ck≠0) && leqS S (jnF (leqS S) S.levels.length a ed.seen.toNat) obs)=b2 at hco hKS
    generalize seeV ND (leqS S) S.levels.length obs x ed.to U=R1 at hrec hKS
    generalize mayF ed t2 x=R2 at hmay hKS
    generalize plainK x 9 ed.wide emptyB=R3 at hmay2 hKS
    have hfin:KS=false→B=false:=fun h=>by rw [hE,h,Bool.false_and]
    have hgo:KS=true→∃ j',j' < ks.length - e∧∃ e',efSt PC LC obs a (.mk vk vn vs ks) ⟨kind,at',lo,hi',most,names,es⟩ (e + 1)=efSt PC LC obs a (.mk vk vn vs ks) ⟨kind,at',lo,hi',most,names,es⟩ e' ∧ e' ≤ ks.length∧B=seeVs ND (leqS S) S.levels.length obs (ks.drop e') ⟨kind,at',lo,hi',most,names,es⟩ vn a e' ∧ j'=ks.length - e':=fun h=>⟨ks.length - (e + 1),by omega,e + 1,rfl,by omega,by rw [hE,h,Bool.true_and],rfl⟩
    obtain ⟨xk,xn,xs,xks⟩:=x
    obtain ⟨en,eb,ea,et,elb,ew,eck,ecn,ese,eca⟩:=ed
    obtain ⟨kind2,at2,lo2,hi2,most2,names2,es2⟩:=t2
    clear hE
    refine ⟨_,⟨by omega,dVals_get hx⟩,?_⟩
    refine call_p en201 (hedge) ax rfl ?_
    refine call_p en18 (hnode2) ax rfl ?_
    refine call_p en202 (hsees) ax rfl ?_
    cases b1 with
    | true=>
     refine call_p en124 (hrec) ax rfl ?_
     cases R1 with
     | false=>
      have hB:=hfin (by rw [hKS];rfl)
      rw [hB]
      exact (rfl:_=_)
     | true=>
      obtain ⟨j',g1,g2⟩:=hgo (by rw [hKS];rfl)
      exact ⟨efSt PC LC obs a (.mk vk vn vs ks) ⟨kind,at',lo,hi',most,names,es⟩ (e + 1),(weak_b 3 rfl (by repeat' (first | exact rfl | exact we_rfl rfl | exact we_int (nxt hlt (by omega)) | refine ⟨_,_,rfl,?_,?_⟩)) rfl rfl rfl (by repeat' (first | exact trivial | exact we_rfl rfl | exact we_int (nxt hlt (by omega)) | refine ⟨⟨_,rfl,?_⟩,?_⟩))),j',g1,g2⟩
    | false=>
     refine call_p en203 (hco) ax rfl ?_
     cases b2 with
     | true=>
      refine call_p en204 (hmay) ax rfl ?_
      cases R2 with
      | false=>
       have hB:=hfin (by rw [hKS];rfl)
       rw [hB]
       exact (rfl:_=_)
      | true=>
       obtain ⟨j',g1,g2⟩:=hgo (by rw [hKS];rfl)
       exact ⟨efSt PC LC obs a (.mk vk vn vs ks) ⟨kind,at',lo,hi',most,names,es⟩ (e + 1),(weak_b 3 rfl (by repeat' (first | exact rfl | exact we_rfl rfl | exact we_int (nxt hlt (by omega)) | refine ⟨_,_,rfl,?_,?_⟩)) rfl rfl rfl (by repeat' (first | exact trivial | exact we_rfl rfl | exact we_int (nxt hlt (by omega)) | refine ⟨⟨_,rfl,?_⟩,?_⟩))),j',g1,g2⟩
     | false=>
      refine call_p en204 (hmay2) ax rfl ?_
      cases R3 with
      | false=>
       have hB:=hfin (by rw [hKS];rfl)
       rw [hB]
       exact (rfl:_=_)
      | true=>
       obtain ⟨j',g1,g2⟩:=hgo (by rw [hKS];rfl)
       exact ⟨efSt PC LC obs a (.mk vk vn vs ks) ⟨kind,at',lo,hi',most,names,es⟩ (e + 1),(weak_b 3 rfl (by repeat' (first | exact rfl | exact we_rfl rfl | exact we_int (nxt hlt (by omega)) | refine ⟨_,_,rfl,?_,?_⟩)) rfl rfl rfl (by repeat' (first | exact trivial | exact we_rfl rfl | exact we_int (nxt hlt (by omega)) | refine ⟨⟨_,rfl,?_⟩,?_⟩))),j',g1,g2⟩
   ·have hge:e=ks.length:=by have:=hLt;simp [hdl,Val.ks] at this;omega
    subst hge
    rw [List.drop_length,seeVs] at hE
    rw [hE]
    exact (rfl:_=_)
def seeF (ND:List Nd) (f:Nat→Nat→Bool) (n rt:Nat) (o:Int) (v:Val):Bool:=decide (0≤o∧o < n) && seeV ND f n o.toNat v rt (botF f n)
theorem erFits_root {S:Sch} {ND:List Nd} {PC LC:List DV} (hP:PlanR S ND PC) (hlat:EvP Tryz.prog 21 [.pt PC 0] (.pt LC 0)) (hR:LatR S.levels.length (leqS S) (nmTx S.levels) LC) (hrS:∀ n∈ND,rngN n) (hsz:∀ n∈ND,n.edges.length≤1099511627776) (rt:Nat) (hrt:resRoot S=rt) (hrl:rt < ND.length) (o:Int) (v:Val) (hv:v.wt≤1099511627776) (hrv:rngW v) :
  EvP Tryz.prog 61 [.pt PC 0,.v (.int .i64 o),.agg (dVal v)] (.v (.bool (seeF ND (leqS S) S.levels.length rt o v))):=by
 have hlk:=elook_spec hlat hR o
 have hroot:=hP.root
 rw [hrt] at hroot
 have hbot:=hR.bot
 have hs:=fun (obs:Nat) (ho:obs < S.levels.length)=>erfits_spec hP hR hrS hsz obs ho _ v (Nat.le_refl _) hv hrv rt (botF (leqS S) S.levels.length) (botF_lt hR.ok) hrl
 have hS:seeF ND (leqS S) S.levels.length rt o v=(decide (0≤o∧o < S.levels.length) && seeV ND (leqS S) S.levels.length o.toNat v rt (botF (leqS S) S.levels.length)):=rfl
 generalize seeF ND (leqS S) S.levels.length rt o v=SF at hS ⊢
 by_cases ho:0≤o∧o < S.levels.length
 ·obtain ⟨ob,rfl⟩:∃ n:Nat,o=n:=⟨_,(Int.toNat_of_nonneg ho.1).symm⟩
  have hs:=hs ob (by omega)
  rw [show decide (0≤(ob:Int)∧(ob:Int) < (S.levels.length:Int))=true from decide_eq_true ho] at hlk hS
  rw [Int.toNat_natCast,Bool.true_and] at hS
  rw [← hS] at hs
  generalize botF (leqS S) S.levels.length=bt at hbot hs
  obtain ⟨k,n,s,ks⟩:=v
  refine ev_go (P:=Tryz.prog) tt tt_ok 5000 26 [.tmp 6] Tryz.func61 rfl Tryz.ntmps61 rfl (Nat.le_of_ble_eq_true rfl) (fun E9 w9 hn9 hm9=>?_)
  refine call_p en123 (hlk) ax rfl ?_
  refine drawG_i (fun _=>false) mo (by decide +kernel) ?_
  refine callD_p en19 (hroot) ax rfl ?_
  refine callD_p en115 (hbot) ax rfl ?_
  refine callD_p en124 (hs) ax rfl ?_
  exact (rfl:_=_)
 ·rw [show decide (0≤o∧o < (S.levels.length:Int))=false from decide_eq_false ho] at hlk hS
  rw [Bool.false_and] at hS
  rw [hS]
  obtain ⟨k,n,s,ks⟩:=v
  refine ev_go (P:=Tryz.prog) tt tt_ok 5000 26 [.tmp 6] Tryz.func61 rfl Tryz.ntmps61 rfl (Nat.le_of_ble_eq_true rfl) (fun E9 w9 hn9 hm9=>?_)
  refine call_p en123 (hlk) ax rfl ?_
  refine drawG_i (fun _=>false) mo (by decide +kernel) ?_
  exact (rfl:_=_)
abbrev ft27St (W:List DV) (v:Val) (obs a:Nat) (d:Nd) (e:Nat):St:=
 ⟨[(1,⟨[],.v (.int .i64 obs)⟩),(3,⟨[],.v (.int .i64 a)⟩),(5,⟨[],.loc 0 0⟩),(9,⟨[],.loc 1 0⟩),(11,⟨[],.loc 2 0⟩),(12,⟨[],.v (.int .i64 e)⟩)],[W,dVal v,dNd d],[]⟩
theorem fits27_spec (lv:List Wd) (f:Nat→Nat→Bool) (ND:List Nd) (z:Int) (hL:LatOK f lv.length) (hn:lv.length≤32) (hok:∀ n∈ND,NdOK lv.length ND.length n) (hsz:∀ n∈ND,n.edges.length≤1099511627776) (hrn:∀ n∈ND,rngN n) (obs:Nat) (ho:obs < lv.length) :
  ∀ (k:Nat) (v:Val),v.wt≤k→v.wt≤1099511627776→rngW v→∀ (i a:Nat),a < lv.length→i < ND.length →
   EvP Tryz.prog 125 [.agg (wL lv f ND z),.v (.int .i64 obs),.v (.int .i64 i),.v (.int .i64 a),.agg (dVal v)] (.v (.bool (seeV ND f lv.length obs v i a)))
 | 0,v,h,_=>by have:=v.wt_pos;omega
 | k + 1,v,h,hb=>fun hr i a ha hi=>by
  have ih:=fits27_spec lv f ND z hL hn hok hsz hrn obs ho k
  obtain ⟨d,hg⟩:∃ d,ND[i]? = some d:=⟨_,List.getElem?_eq_getElem hi⟩
  have hnd:nodeA ND (i:Int)=some d:=by
   unfold nodeA
   rw [if_neg (by omega),Int.toNat_natCast,hg]
  have hmem:=List.mem_of_getElem? hg
  have hN:=hok d hmem
  have hdsz:=hsz d hmem
  have hdrn:=hrn d hmem
  have hft:=fits25_spec 2 1 (dWds lv) (dMat (matB lv.length f)) z hok v.wt v (Nat.le_refl _) hb i
  rw [← fit_eq hok] at hft
  have hsh:=fun h5=>outer27_spec d v h5 hN.k8 hdsz hb
  have hske:=fun h5 hs m hm=>shell_kid hN h5 (v:=v) hs (m:=m) hm
  have hskz:=fun hs c m hm=>shell_zero hN (v:=v) hs c (m:=m) hm
  have hV:seeV ND f lv.length obs v i a=if d.kind < 5 then fitV ND v i else shellF d v && seeVs ND f lv.length obs v.ks d v.n a 0:=by
   obtain ⟨q,z,s,ks⟩:=v
   rw [seeV,hnd]
   rfl
  have hV1:d.kind < 5→seeV ND f lv.length obs v i a=fitV ND v i:=fun c=>by rw [hV,if_pos c]
  have hV2:¬ d.kind < 5→seeV ND f lv.length obs v i a=(shellF d v && seeVs ND f lv.length obs v.ks d v.n a 0):=fun c=>by rw [hV,if_neg c]
  clear hV
  generalize seeV ND f lv.length obs v i a=B at hV1 hV2 ⊢
  generalize fitV ND v i=F at hft hV1
  generalize shellF d v=SH at hsh hske hskz hV2
  obtain ⟨vk,vn,vs,ks⟩:=v
  have hkl:=wtVs_len ks
  have hdl:=dVals_len ks
  rw [Val.wt] at h hb
  have hrk:=rngW_ks hr
  simp only [Val.ks,Val.n] at hV2 hrk hske hskz
  have hunder:=fun e (he:e∈d.edges)=>under27_spec lv f ND z hL hn d e a ha hN he
  have hhow:=fun e (he:e∈d.edges)=>how27_spec lv f ND z hL hn d e obs a ho ha hN he
  obtain ⟨kind,at',lo,hi',most,names,es⟩:=d
  refine ev_go (P:=Tryz.prog) tt tt_ok 5000 90 [.tmp 10] Tryz.func125 rfl Tryz.ntmps125 rfl (Nat.le_of_ble_eq_true rfl) (fun E9 w9 hn9 hm9=>?_)
  refine ⟨_,⟨by omega,dNds_get hg⟩,?_⟩
  refine br (fun c=>?_) (fun c=>?_)
  ·have c:kind < 5:=by simpa using c
   rw [hV1 c]
   refine call_p en191 (hft) ax rfl ?_
   exact (rfl:_=_)
  have c5:¬ kind < 5:=by simpa using c
  have hV2:=hV2 c5
  have h5:5≤kind:=by omega
  have hsh:=hsh h5
  refine call_p en205 (hsh) ax rfl ?_
  cases SH with
  | false=>
   rw [Bool.false_and] at hV2
   rw [hV2]
   exact (rfl:_=_)
  | true=>
   rw [Bool.true_and] at hV2
   refine loop_i (fun t st=>∃ e:Nat,st=ft27St (wL lv f ND z) (.mk vk vn vs ks) obs a ⟨kind,at',lo,hi',most,names,es⟩ e∧e≤ks.length∧B=seeVs ND f lv.length obs (ks.drop e) ⟨kind,at',lo,hi',most,names,es⟩ vn a e∧t=ks.length - e) ks.length (ft27St (wL lv f ND z) (.mk vk vn vs ks) obs a ⟨kind,at',lo,hi',most,names,es⟩ 0) (weak_b 3 rfl (by repeat' (first | exact rfl | exact we_rfl rfl | exact we_int rfl | refine ⟨_,_,rfl,?_,?_⟩)) rfl rfl rfl (by repeat' (first | exact trivial | exact we_rfl rfl | exact we_int rfl | refine ⟨⟨_,rfl,?_⟩,?_⟩))) ⟨0,rfl,by omega,hV2,by omega⟩ ?_
   rintro t st ⟨e,rfl,he,hE,rfl⟩
   refine br (fun hLt=>?_) (fun hLt=>?_)
   ·have hlt:e < ks.length:=by simpa [hdl,Val.ks] using hLt
    obtain ⟨x,hx⟩:∃ x,ks[e]? = some x:=⟨_,List.getElem?_eq_getElem hlt⟩
    obtain ⟨ed,hK⟩:=hske h5 rfl e hlt
    have hm:=List.mem_of_getElem? hx
    have hwx:=wtVs_mem hm
    have hrx:=rngWs_mem hrk hm
    obtain ⟨h1,t2,h2⟩:=to_in hN hK.mem hK.bare
    obtain ⟨_,hg2⟩:=nodeA_some h2
    have htl:=(List.getElem?_eq_some_iff.1 hg2).1
    have hto:ed.to=(ed.to.toNat:Nat):=by omega
    have hrn2:=hrn t2 (List.mem_of_getElem? hg2)
    rw [seeVs_kid hx hK.edge] at hE
    have hedge:=edge27_spec ⟨kind,at',lo,hi',most,names,es⟩ (.mk vk vn vs ks) e ed hK.edge (fun c=>(hskz rfl c e hlt).1) hdsz
    have hun:=hunder ed hK.mem
    have hho:=hhow ed hK.mem
    have hcnr:=hdrn.2.2 ed hK.mem
    have hcn1:=(hN.edge ed hK.mem).cn.2.1
    have hmay:=may27_spec ed t2 x hcn1 (rngW_n hrx) hrn2.1 hrn2.2.1 hcnr (by omega)
    have hpl:=plain27_spec x 9 ed.wide emptyB
    have hrec:=ih x (by omega) (by omega) hrx ed.to.toNat (undF f lv.length ⟨kind,at',lo,hi',most,names,es⟩ ed a) (undF_lt hL hN hK.mem ha) htl
    rw [← hto] at hrec
    have hKS:kidS ND f lv.length obs ⟨kind,at',lo,hi',most,names,es⟩ ed a x=if howF f lv.length obs ⟨kind,at',lo,hi',most,names,es⟩ ed a=2 then seeV ND f lv.length obs x ed.to (undF f lv.length ⟨kind,at',lo,hi',most,names,es⟩ ed a) else if howF f lv.length obs ⟨kind,at',lo,hi',most,names,es⟩ ed a=1 then mayF ed t2 x else plainK x 9 ed.wide emptyB:=by
     unfold kidS
     rw [h2]
    generalize kidS ND f lv.length obs ⟨kind,at',lo,hi',most,names,es⟩ ed a x=KS at hE hKS
    generalize howF f lv.length obs ⟨kind,at',lo,hi',most,names,es⟩ ed a=H at hho hKS
    generalize seeV ND f lv.length obs x ed.to (undF f lv.length ⟨kind,at',lo,hi',most,names,es⟩ ed a)=R1 at hrec hKS
    generalize mayF ed t2 x=R2 at hmay hKS
    generalize plainK x 9 ed.wide emptyB=R3 at hpl hKS
    have hfin:KS=false→B=false:=fun h=>by rw [hE,h,Bool.false_and]
    have hgo:KS=true→∃ j',j' < ks.length - e∧∃ e',ft27St (wL lv f ND z) (.mk vk vn vs ks) obs a ⟨kind,at',lo,hi',most,names,es⟩ (e + 1)=ft27St (wL lv f ND z) (.mk vk vn vs ks) obs a ⟨kind,at',lo,hi',most,names,es⟩ e' ∧ e' ≤ ks.length∧B=seeVs ND f lv.length obs (ks.drop e') ⟨kind,at',lo,hi',most,names,es⟩ vn a e' ∧ j'=ks.length - e':=fun h=>⟨ks.length - (e + 1),by omega,e + 1,rfl,by omega,by rw [hE,h,Bool.true_and],rfl⟩
    obtain ⟨xk,xn,xs,xks⟩:=x
    clear hE
    refine call_p en127 (hedge) ax rfl ?_
    refine drawG_i (fun _=>false) mo (by decide +kernel) ?_
    refine ⟨_,⟨by omega,dVals_get hx⟩,?_⟩
    refine callD_p en206 (hpl) ax rfl ?_
    refine call_p en128 (hho) ax rfl ?_
    refine br (fun c=>?_) (fun c=>?_)
    ·have c:H=2:=by
      have:=of_decide_eq_true c
      omega
     rw [if_pos c] at hKS
     refine drawG_i (fun _=>false) mo (by decide +kernel) ?_
     refine callD_p en129 (hun) ax rfl ?_
     refine ⟨_,⟨by omega,dVals_get hx⟩,?_⟩
     refine callD_p en125 (hrec) ax rfl ?_
     cases R1 with
     | false=>
      have hB:=hfin (by rw [hKS])
      rw [hB]
      exact (rfl:_=_)
     | true=>
      obtain ⟨j',g1,g2⟩:=hgo (by rw [hKS])
      exact ⟨ft27St (wL lv f ND z) (.mk vk vn vs ks) obs a ⟨kind,at',lo,hi',most,names,es⟩ (e + 1),(weak_b 3 rfl (by repeat' (first | exact rfl | exact we_rfl rfl | exact we_int (nxt hlt (by omega)) | refine ⟨_,_,rfl,?_,?_⟩)) rfl rfl rfl (by repeat' (first | exact trivial | exact we_rfl rfl | exact we_int (nxt hlt (by omega)) | refine ⟨⟨_,rfl,?_⟩,?_⟩))),j',g1,g2⟩
    ·have c2:¬ H=2:=by
      have:=of_decide_eq_false c
      omega
     rw [if_neg c2] at hKS
     refine br (fun c=>?_) (fun c=>?_)
     ·have c:H=1:=by
       have:=of_decide_eq_true c
       omega
      rw [if_pos c] at hKS
      refine drawG_i (fun _=>false) mo (by decide +kernel) ?_
      refine ⟨_,⟨by omega,dNds_get hg2⟩,?_⟩
      refine ⟨_,⟨by omega,dVals_get hx⟩,?_⟩
      refine callD_p en207 (hmay) ax rfl ?_
      cases R2 with
      | false=>
       have hB:=hfin (by rw [hKS])
       rw [hB]
       exact (rfl:_=_)
      | true=>
       obtain ⟨j',g1,g2⟩:=hgo (by rw [hKS])
       exact ⟨ft27St (wL lv f ND z) (.mk vk vn vs ks) obs a ⟨kind,at',lo,hi',most,names,es⟩ (e + 1),(weak_b 3 rfl (by repeat' (first | exact rfl | exact we_rfl rfl | exact we_int (nxt hlt (by omega)) | refine ⟨_,_,rfl,?_,?_⟩)) rfl rfl rfl (by repeat' (first | exact trivial | exact we_rfl rfl | exact we_int (nxt hlt (by omega)) | refine ⟨⟨_,rfl,?_⟩,?_⟩))),j',g1,g2⟩
     ·have c1:¬ H=1:=by
       have:=of_decide_eq_false c
       omega
      rw [if_neg c1] at hKS
      cases R3 with
      | false=>
       have hB:=hfin (by rw [hKS])
       rw [hB]
       exact (rfl:_=_)
      | true=>
       obtain ⟨j',g1,g2⟩:=hgo (by rw [hKS])
       exact ⟨ft27St (wL lv f ND z) (.mk vk vn vs ks) obs a ⟨kind,at',lo,hi',most,names,es⟩ (e + 1),(weak_b 3 rfl (by repeat' (first | exact rfl | exact we_rfl rfl | exact we_int (nxt hlt (by omega)) | refine ⟨_,_,rfl,?_,?_⟩)) rfl rfl rfl (by repeat' (first | exact trivial | exact we_rfl rfl | exact we_int (nxt hlt (by omega)) | refine ⟨⟨_,rfl,?_⟩,?_⟩))),j',g1,g2⟩
   ·have hge:e=ks.length:=by have:=hLt;simp [hdl,Val.ks] at this;omega
    subst hge
    rw [List.drop_length,seeVs] at hE
    rw [hE]
    exact (rfl:_=_)
theorem seeable27_spec (lv:List Wd) (f:Nat→Nat→Bool) (ND:List Nd) (rt:Nat) (hrl:rt < ND.length) (hL:LatOK f lv.length) (hn:lv.length≤32) (hok:∀ n∈ND,NdOK lv.length ND.length n) (hsz:∀ n∈ND,n.edges.length≤1099511627776) (hrn:∀ n∈ND,rngN n) (o:Int) (v:Val) (hv:v.wt≤1099511627776) (hrv:rngW v) :
  EvP Tryz.prog 62 [.agg (wL lv f ND (rt:Nat)),.v (.int .i64 o),.agg (dVal v)] (.v (.bool (seeF ND f lv.length rt o v))):=by
 have hb:=bottom20_spec lv.length f (by omega)
 rw [botF_some hL] at hb
 have hml:=dMatB_len lv.length f
 have hs:=fun (obs:Nat) (ho:obs < lv.length)=>fits27_spec lv f ND (rt:Nat) hL hn hok hsz hrn obs ho _ v (Nat.le_refl _) hv hrv rt (botF f lv.length) (botF_lt hL) hrl
 have hS:seeF ND f lv.length rt o v=(decide (0≤o∧o < lv.length) && seeV ND f lv.length o.toNat v rt (botF f lv.length)):=rfl
 generalize seeF ND f lv.length rt o v=SF at hS ⊢
 by_cases ho:0≤o∧o < lv.length
 ·obtain ⟨ob,rfl⟩:∃ n:Nat,o=n:=⟨_,(Int.toNat_of_nonneg ho.1).symm⟩
  have hs:=hs ob (by omega)
  rw [show decide (0≤(ob:Int)∧(ob:Int) < (lv.length:Int))=true from decide_eq_true ho,Int.toNat_natCast,Bool.true_and] at hS
  rw [← hS] at hs
  obtain ⟨k,n,s,ks⟩:=v
  refine ev_go (P:=Tryz.prog) tt tt_ok 5000 27 [.tmp 6] Tryz.func62 rfl Tryz.ntmps62 rfl (Nat.le_of_ble_eq_true rfl) (fun E9 w9 hn9 hm9=>?_)
  refine drawG_i (fun _=>false) mo (by decide +kernel) ?_
  refine br (fun _=>?_) (fun c=>absurd c (by simp [pickB_and,hml];omega))
  refine callD_p en34 (hb) ax rfl ?_
  refine callD_p en125 (hs) ax rfl ?_
  exact (rfl:_=_)
 ·rw [show decide (0≤o∧o < (lv.length:Int))=false from decide_eq_false ho,Bool.false_and] at hS
  rw [hS]
  obtain ⟨k,n,s,ks⟩:=v
  refine ev_go (P:=Tryz.prog) tt tt_ok 5000 27 [.tmp 6] Tryz.func62 rfl Tryz.ntmps62 rfl (Nat.le_of_ble_eq_true rfl) (fun E9 w9 hn9 hm9=>?_)
  refine drawG_i (fun _=>false) mo (by decide +kernel) ?_
  refine br (fun c=>absurd c (by simp [pickB_and,hml];omega)) (fun _=>?_)
  exact (rfl:_=_)
end Go.Proofs.YtbfdbhechmhpoaaGreat
set_option maxRecDepth 100000
namespace Go.Proofs.YtbfdbhechmhpoaaGreat
open Go Go.RowKit Dv Tryz
section
variable {ND:List Nd} {f:Nat→Nat→Bool} {L obs o:Nat}
theorem seeVs_at:∀ {ks:List Val} {d:Nd} {z:Int} {a j m:Nat} {x:Val},seeVs ND f L obs ks d z a j=true→ks[m]? = some x→∃ e,edgeN d z (j + m)=some e∧kidS ND f L obs d e a x=true
 | [],_,_,_,_,_,_,_,h=>by cases h
 | y :: r,d,z,a,j,m,x,h,hx=>by
  rw [seeVs,Bool.and_eq_true] at h
  cases m with
  | zero=>
   cases hx
   cases he:edgeN d z j with
   | none=>rw [he] at h;exact absurd h.1 (by simp)
   | some e=>rw [he] at h;exact ⟨e,rfl,h.1⟩
  | succ m=>
   have:=seeVs_at (m:=m) h.2 (by simpa using hx)
   rwa [show j + 1 + m=j + (m + 1) by omega] at this
structure SeenK (ND:List Nd) (f:Nat→Nat→Bool) (L obs:Nat) (d:Nd) (z:Int) (a m:Nat) (x:Val) (e:Ed):Prop where
 kid:KidE ND d z m e
 k5:5≤d.kind
 k8:d.kind=8→(0≤z∧z < d.edges.length)∧m=0
 see:kidS ND f L obs d e a x=true
theorem see_facts (hok:∀ n∈ND,NdOK L ND.length n) {v:Val} {i:Int} {a:Nat} {d:Nd} (h:seeV ND f L obs v i a=true) (hd:nodeA ND i=some d) {m:Nat} {x:Val} (hx:v.ks[m]? = some x):∃ e,SeenK ND f L obs d v.n a m x e:=by
 have hN:=hok d (List.mem_of_getElem? (nodeA_some hd).2)
 obtain ⟨k,n,s,ks⟩:=v
 rw [seeV,hd] at h
 simp only [Val.ks] at h hx
 by_cases h5:d.kind < 5
 ·rw [if_pos h5] at h
  obtain ⟨d',hF⟩:=fit_facts hok h
  have hdd:d'=d:=by have:=hF.node;rw [hd] at this;cases this;rfl
  subst hdd
  have:=hF.leaf h5
  simp only [Val.ks] at this
  rw [this] at hx
  cases hx
 ·rw [if_neg h5,Bool.and_eq_true] at h
  have hm:m < ks.length:=(List.getElem?_eq_some_iff.1 hx).1
  obtain ⟨e,hK⟩:=shell_kid hN (by omega) h.1 (m:=m) hm
  obtain ⟨e2,he2,hs⟩:=seeVs_at h.2 hx
  rw [Nat.zero_add] at he2
  have:=hK.edge
  simp only [Val.n] at this
  rw [he2] at this
  have hee:e2=e:=Option.some.inj this
  exact ⟨e,hK,by omega,fun c=>shell_zero hN h.1 c hm,hee ▸ hs⟩
theorem see_k (hok:∀ n∈ND,NdOK L ND.length n) {v:Val} {i:Int} {a:Nat} (h:seeV ND f L obs v i a=true):v.k < 9:=by
 obtain ⟨k,n,s,ks⟩:=v
 rw [seeV] at h
 cases hd:nodeA ND i with
 | none=>rw [hd] at h;cases h
 | some d=>
  have hN:=hok d (List.mem_of_getElem? (nodeA_some hd).2)
  have h8:=hN.k8
  rw [hd] at h
  simp only at h
  by_cases h5:d.kind < 5
  ·rw [if_pos h5] at h
   obtain ⟨d',hF⟩:=fit_facts hok h
   have hdd:d'=d:=by have:=hF.node;rw [hd] at this;cases this;rfl
   subst hdd
   have:=hF.k
   simp only [Val.k] at this ⊢
   omega
  ·rw [if_neg h5,Bool.and_eq_true] at h
   have h1:=h.1
   unfold shellF at h1
   split at h1
   ·cases h1
   ·rename_i hc
    have:(Val.mk k n s ks).k=d.kind:=by
     by_cases c:(Val.mk k n s ks).k=d.kind
     ·exact c
     ·exact absurd (.inl c) hc
    omega
theorem may_kinds {e:Ed} {d:Nd} {v:Val} (h:mayF e d v=true):v=hidV e∨v.k=10∨v.k=11∨v.k=12:=by
 by_cases c1:e.ck=1∧d.kind=2
 ·rw [mayF_1 c1] at h
  split at h
  ·rename_i g
   exact .inl (plainK_iff.1 g)
  ·simp only [Bool.and_eq_true] at h
   have:=plainK_iff.1 h.1.1.1.1
   exact .inr (.inl (by rw [this];rfl))
 by_cases c2:e.ck=2∧d.kind=3
 ·rw [mayF_2 c2] at h
  simp only [Bool.and_eq_true] at h
  have:=plainK_iff.1 h.1.1
  exact .inr (.inr (.inl (by rw [this];rfl)))
 by_cases c3:e.ck=3∧d.kind=5
 ·rw [mayF_3 c3] at h
  simp only [Bool.and_eq_true] at h
  have:=plainK_iff.1 h.1.1
  exact .inr (.inr (.inr (by rw [this];rfl)))
 rw [mayF_0 c1 c2 c3] at h
 exact .inl (plainK_iff.1 h)
theorem coarse_hid (e:Ed):coarseV e (hidV e)=hidV e:=by
 unfold coarseV
 rw [if_neg (by rintro ⟨_,h,_⟩;exact absurd h (by show ¬ (9:Int)=2;decide)),if_neg (by rintro ⟨_,h⟩;exact absurd h (by show ¬ (9:Int)=3;decide)),if_neg (by rintro ⟨_,h⟩;exact absurd h (by show ¬ (9:Int)=5;decide))]
theorem kid_coarse (hok:∀ n∈ND,NdOK L ND.length n) (hL:LatOK f L) (ho:o < L) (hb:obs < L) (hle:f o obs=true) {d:Nd} {e:Ed} {a:Nat} {x:Val} (hN:NdOK L ND.length d) (hm:e∈d.edges) (ha:a < L) (hs:kidS ND f L obs d e a x=true) (h1:1≤howF f L o d e a) :
  (howF f L o d e a=2→seeV ND f L obs x e.to (undF f L d e a)=true)∧(x.k < 9∨x=hidV e∨x.k=10∨x.k=11∨x.k=12):=by
 have hmo:=how_mono hL hN hm ha ho hb hle
 have h2:howF f L obs d e a≤2:=by
  rw [howF_eq]
  repeat' split
  all_goals omega
 unfold kidS at hs
 by_cases c2:howF f L obs d e a=2
 ·rw [if_pos c2] at hs
  exact ⟨fun _=>hs,.inl (see_k hok hs)⟩
 ·rw [if_neg c2,if_pos (by omega)] at hs
  refine ⟨fun h=>by omega,.inr ?_⟩
  cases ht:nodeA ND e.to with
  | none=>rw [ht] at hs;cases hs
  | some t=>rw [ht] at hs;exact may_kinds hs
theorem how_val (d:Nd) (e:Ed) (a:Nat):(f (undF f L d e a) o=true→howF f L o d e a=2)∧(f (undF f L d e a) o=false→(decide (e.ck≠0) && f (jnF f L a e.seen.toNat) o)=true→howF f L o d e a=1)∧(f (undF f L d e a) o=false→(decide (e.ck≠0) && f (jnF f L a e.seen.toNat) o)=false→howF f L o d e a=0):=by
 rw [howF_eq]
 refine ⟨fun h=>by rw [if_pos h],fun h h2=>?_,fun h h2=>?_⟩
 ·rw [Bool.and_eq_true,decide_eq_true_iff] at h2
  rw [if_neg (by rw [h];simp),if_pos h2]
 ·rw [if_neg (by rw [h];simp),if_neg (by
   rintro ⟨g1,g2⟩
   rw [decide_eq_true g1,g2] at h2
   cases h2)]
theorem narrowVs_len:∀ (ks:List Val) (d:Nd) (z:Int) (a j:Nat),(narrowVs ND f L obs ks d z a j).length=ks.length
 | [],_,_,_,_=>by rw [narrowVs]
 | x :: r,d,z,a,j=>by rw [narrowVs,List.length_cons,List.length_cons,narrowVs_len r]
theorem narrowVs_at:∀ {ks:List Val} {d:Nd} {z:Int} {a j m:Nat} {x:Val},ks[m]? = some x→(narrowVs ND f L obs ks d z a j)[m]? = some (match edgeN d z (j + m) with
  | none=>x
  | some e=>if howF f L obs d e a=2 then narrowV ND f L obs x e.to (undF f L d e a) else if howF f L obs d e a=1 then (if x.k < 9 then coarseV e x else x) else hidV e)
 | [],_,_,_,_,_,_,h=>by cases h
 | y :: r,d,z,a,j,0,x,h=>by
  rw [narrowVs]
  cases h
  rfl
 | y :: r,d,z,a,j,m + 1,x,h=>by
  rw [narrowVs,List.getElem?_cons_succ,narrowVs_at (ks:=r) (m:=m) (x:=x) h,show j + 1 + m=j + (m + 1) by omega]
mutual
theorem narrowV_wt:∀ (v:Val) (i:Int) (a:Nat),(narrowV ND f L obs v i a).wt≤v.wt
 | .mk k n s ks,i,a=>by
  rw [narrowV]
  cases nodeA ND i with
  | none=>rw [Val.wt,Val.wt,wtVs];omega
  | some d=>
   have:=narrowVs_wt ks d n a 0
   simp only
   rw [Val.wt,Val.wt];omega
theorem narrowVs_wt:∀ (ks:List Val) (d:Nd) (z:Int) (a j:Nat),wtVs (narrowVs ND f L obs ks d z a j)≤wtVs ks
 | [],_,_,_,_=>by rw [narrowVs];exact Nat.le_refl _
 | x :: r,d,z,a,j=>by
  have h1:=narrowVs_wt r d z a (j + 1)
  rw [narrowVs,wtVs,wtVs]
  refine Nat.add_le_add ?_ h1
  cases edgeN d z j with
  | none=>exact Nat.le_refl _
  | some e=>
   simp only
   split
   ·exact narrowV_wt x _ _
   ·split
    ·split
     ·exact coarseV_wt e x
     ·exact Nat.le_refl _
    ·have:=x.wt_pos
     rw [hidV,Val.wt,wtVs];show 64 + 0 + 0≤_;omega
end
end
def narK (ND:List Nd) (f:Nat→Nat→Bool) (L obs:Nat) (d:Nd) (e:Ed) (a:Nat) (x:Val):Val:=if howF f L obs d e a=2 then narrowV ND f L obs x e.to (undF f L d e a) else if howF f L obs d e a=1 then (if x.k < 9 then coarseV e x else x) else hidV e
theorem narK_at {ND:List Nd} {f:Nat→Nat→Bool} {L obs:Nat} {ks:List Val} {d:Nd} {z:Int} {a m:Nat} {x:Val} {e:Ed} (h:ks[m]? = some x) (he:edgeN d z m=some e):(narrowVs ND f L obs ks d z a 0)[m]? = some (narK ND f L obs d e a x):=by
 rw [narrowVs_at h,Nat.zero_add,he]
 rfl
abbrev naPSt (PC LC:List DV) (obs a:Nat) (v:Val) (d:Nd) (o:List Val) (q e:Nat):St:=
 ⟨[(2,⟨[],.v (.int .i64 a)⟩),(4,⟨[],.loc 0 0⟩),(7,⟨[],.loc 1 0⟩),(8,⟨[],.loc 2 0⟩),(9,⟨[],.loc 3 0⟩),(11,⟨[],.loc 4 0⟩),(32,⟨[],.sl 4 (dVals v.ks) none⟩),(33,⟨[],.v (.int .i64 (dVals v.ks).length)⟩),(34,⟨[],.v (.int .i64 e)⟩)],
  [eeD PC LC obs,dVal v,[.v (.int .i64 0),.v (.int .i64 0),.v (.string emptyB),.v (.slice none 0 0)],dNd d,[.v (.int .i64 v.k),.v (.int .i64 v.n),.v (.string v.s),.sl 4 (dVals o) (some 0)]],[⟨q,82,4,none⟩]⟩
theorem enarrow_spec {S:Sch} {ND:List Nd} {PC LC:List DV} (hP:PlanR S ND PC) (hR:LatR S.levels.length (leqS S) (nmTx S.levels) LC) (hrn:∀ n∈ND,rngN n) (hsz:∀ n∈ND,n.edges.length≤1099511627776) (obs fr:Nat) (ho:obs < S.levels.length) (hfr:fr < S.levels.length) (hle:leqS S obs fr=true) :
  ∀ (k:Nat) (v:Val),v.wt≤k→v.wt≤1099511627776→rngW v→∀ (i:Int) (a:Nat),a < S.levels.length→seeV ND (leqS S) S.levels.length fr v i a=true →
   EvP Tryz.prog 126 [.agg (eeD PC LC obs),.v (.int .i64 i),.v (.int .i64 a),.agg (dVal v)] (.agg (dVal (narrowV ND (leqS S) S.levels.length obs v i a)))
 | 0,v,h,_=>by have:=v.wt_pos;omega
 | k + 1,v,h,hb=>fun hr i a ha hsee=>by
  have ih:=enarrow_spec hP hR hrn hsz obs fr ho hfr hle k
  have hL:=hR.ok
  obtain ⟨d,hnd⟩:∃ d,nodeA ND i=some d:=by
   cases hd:nodeA ND i with
   | none=>
    obtain ⟨q,z,s,ks⟩:=v
    rw [seeV,hd] at hsee
    cases hsee
   | some d=>exact ⟨d,rfl⟩
  obtain ⟨h0,hg⟩:=nodeA_some hnd
  obtain ⟨j,rfl⟩:∃ j:Nat,i=j:=⟨i.toNat,by omega⟩
  have hg:ND[j]? = some d:=by simpa using hg
  have hmem:=List.mem_of_getElem? hg
  have hN:=hP.ok d hmem
  have hnode:=hP.node j d hg
  have hkid:=fun {m:Nat} {x:Val}=>see_facts (m:=m) (x:=x) hP.ok hsee hnd
  have hdsz:=hsz d hmem
  have hdrn:=hrn d hmem
  have hE:narrowV ND (leqS S) S.levels.length obs v j a = .mk v.k v.n v.s (narrowVs ND (leqS S) S.levels.length obs v.ks d v.n a 0):=by
   obtain ⟨q,z,s,ks⟩:=v
   rw [narrowV,hnd]
   rfl
  rw [hE]
  have hOl:=narrowVs_len (ND:=ND) (f:=leqS S) (L:=S.levels.length) (obs:=obs) v.ks d v.n a 0
  have hOa:=fun {m:Nat} {x:Val} {e:Ed}=>narK_at (ND:=ND) (f:=leqS S) (L:=S.levels.length) (obs:=obs) (ks:=v.ks) (d:=d) (z:=v.n) (a:=a) (m:=m) (x:=x) (e:=e)
  generalize narrowVs ND (leqS S) S.levels.length obs v.ks d v.n a 0=O at hOl hOa ⊢
  obtain ⟨vk,vn,vs,ks⟩:=v
  have hkl:=wtVs_len ks
  have hdl:=dVals_len ks
  rw [Val.wt] at h hb
  have hrk:=rngW_ks hr
  simp only [Val.ks,Val.n,Val.k,Val.s] at hkid hOl hOa hrk ⊢
  obtain ⟨kind,at',lo,hi,most,names,es⟩:=d
  refine ev_go (P:=Tryz.prog) tt tt_ok 5000 99 [.cell 8 82] Tryz.func126 rfl Tryz.ntmps126 rfl (Nat.le_of_ble_eq_true rfl) (fun E9 w9 hn9 hm9=>?_)
  refine call_p en18 (hnode) ax rfl ?_
  refine loop_i (fun t st=>∃ e q:Nat,st=naPSt PC LC obs a (.mk vk vn vs ks) ⟨kind,at',lo,hi,most,names,es⟩ (O.take e) q e∧q=e∧e≤ks.length∧t=ks.length - e) ks.length (naPSt PC LC obs a (.mk vk vn vs ks) ⟨kind,at',lo,hi,most,names,es⟩ [] 0 0) (weak_bt 5 ⟨0,82,4,none⟩ rfl rfl rfl (by repeat' (first | exact rfl | exact we_rfl rfl | exact we_int rfl | exact we_tok (Nat.le_refl _) rfl | exact we_tok (Nat.le_refl _) rfl | refine ⟨_,_,rfl,?_,?_⟩)) rfl rfl (by repeat' (first | exact trivial | exact we_rfl rfl | exact we_int rfl | exact we_tok (Nat.le_refl _) rfl | refine ⟨⟨_,rfl,?_⟩,?_⟩))) ⟨0,0,by rw [List.take_zero],rfl,by omega,by omega⟩ ?_
  rintro t st ⟨e,q,rfl,hq,he,rfl⟩
  refine br (fun hLt=>?_) (fun hLt=>?_)
  ·have hlt:e < ks.length:=by simpa [hdl,Val.ks] using hLt
   obtain ⟨x,hx⟩:∃ x,ks[e]? = some x:=⟨_,List.getElem?_eq_getElem hlt⟩
   obtain ⟨ed,hSK⟩:=hkid hx
   obtain ⟨hK,h5,hk8,hse⟩:=hSK
   have hm:=List.mem_of_getElem? hx
   have hwx:=wtVs_mem hm
   have hrx:=rngWs_mem hrk hm
   have hxe:=hOa hx hK.edge
   unfold narK at hxe
   have hedge:=eedge_spec hR PC obs a ha ⟨kind,at',lo,hi,most,names,es⟩ (.mk vk vn vs ks) e ed hK.edge hK.mem hN h5 hk8 hdsz
   have hU:=undF_lt hL hN hK.mem ha
   have hsees:=esees_spec hR PC obs (undF (leqS S) S.levels.length ⟨kind,at',lo,hi,most,names,es⟩ ed a) ho hU
   have hco:=ecoarsely_spec hR PC obs a ho ha ⟨kind,at',lo,hi,most,names,es⟩ ed hN hK.mem
   have hcv:=ecoarse_spec ed x (rngW_n hrx) (by omega) (hdrn.2.2 ed hK.mem)
   have hhv:=ehidden_spec ed
   have hrec:=fun hs=>ih x (by omega) (by omega) hrx ed.to (undF (leqS S) S.levels.length ⟨kind,at',lo,hi,most,names,es⟩ ed a) hU hs
   have hkc:=kid_coarse hP.ok hL ho hfr hle hN hK.mem ha hse
   have hOl':(O.take e).length=e:=by rw [List.length_take];omega
   have hdOl:(dVals (O.take e)).length=e:=by rw [dVals_len,hOl']
   have hend:∀ y:Val,O[e]? = some y→dVals (O.take e) ++ [dVal y]=dVals (O.take (e + 1)):=fun y hy=>dVals_snoc hy
   have hch:=coarse_hid ed
   have hv:=how_val (f:=leqS S) (L:=S.levels.length) (o:=obs) ⟨kind,at',lo,hi,most,names,es⟩ ed a
   generalize howF (leqS S) S.levels.length obs ⟨kind,at',lo,hi,most,names,es⟩ ed a=H at hxe hkc hv
   generalize undF (leqS S) S.levels.length ⟨kind,at',lo,hi,most,names,es⟩ ed a=U at hedge hsees hrec hxe hkc hv
   generalize leqS S U obs=b1 at hsees hv
   generalize (decide (ed.ck≠0) && leqS S (jnF (leqS S) S.levels.length a ed.seen.toNat) obs)=b2 at hco hv
   obtain ⟨hv1,hv2,hv3⟩:=hv
   have hY1:b1=true→O[e]? = some (narrowV ND (leqS S) S.levels.length obs x ed.to U)∧seeV ND (leqS S) S.levels.length fr x ed.to U=true:=fun hb1=>by
    have hH:=hv1 hb1
    rw [if_pos hH] at hxe
    exact ⟨hxe,(hkc (by omega)).1 hH⟩
   have hY2:b1=false→b2=true→¬ (x.k=10∨x.k=11∨x.k=12)→O[e]? = some (coarseV ed x):=fun g1 g2 g3=>by
    have hH:=hv2 g1 g2
    rw [if_neg (by omega),if_pos hH] at hxe
    rw [hxe]
    rcases (hkc (by omega)).2 with g | g | g
    ·rw [if_pos g]
    ·rw [if_neg (by rw [g];show ¬ (9:Int) < 9;decide),g,hch]
    ·exact absurd g g3
   have hY3:b1=false→b2=true→(x.k=10∨x.k=11∨x.k=12)→O[e]? = some x:=fun g1 g2 g3=>by
    have hH:=hv2 g1 g2
    rw [if_neg (by omega),if_pos hH,if_neg (by omega)] at hxe
    exact hxe
   have hY4:b1=false→b2=false→O[e]? = some (hidV ed):=fun g1 g2=>by
    have hH:=hv3 g1 g2
    rw [if_neg (by omega),if_neg (by omega)] at hxe
    exact hxe
   clear hxe hkc
   clear hch hv1 hv2 hv3
   generalize narrowV ND (leqS S) S.levels.length obs x ed.to U=Y1 at hrec hY1
   generalize coarseV ed x=Y2 at hcv hY2
   generalize hidV ed=Y3 at hhv hY4
   obtain ⟨xk,xn,xs,xks⟩:=x
   obtain ⟨y1k,y1n,y1s,y1ks⟩:=Y1
   obtain ⟨y2k,y2n,y2s,y2ks⟩:=Y2
   obtain ⟨y3k,y3n,y3s,y3ks⟩:=Y3
   obtain ⟨en,eb,ea,et,elb,ew,eck,ecn,ese,eca⟩:=ed
   refine ⟨_,⟨by omega,dVals_get hx⟩,?_⟩
   refine call_p en201 (hedge) ax rfl ?_
   refine call_p en202 (hsees) ax rfl ?_
   cases b1 with
   | true=>
    obtain ⟨hxe,hs⟩:=hY1 rfl
    have hrec:=hrec hs
    have hsn:=hend _ hxe
    refine call_p en126 (hrec) ax rfl ?_
    refine ⟨by rw [hdOl,hq],⟨by simp [maxLen,hdOl];omega,by simp [hdOl];omega⟩,?_⟩
    exact ⟨naPSt PC LC obs a (.mk vk vn vs ks) ⟨kind,at',lo,hi,most,names,es⟩ (O.take (e + 1)) (q + 1) (e + 1),(weak_b 5 rfl (by repeat' (first | exact rfl | exact we_rfl rfl | exact we_int (nxt hlt (by omega)) | exact we_sl hsn rfl | refine ⟨_,_,rfl,?_,?_⟩)) rfl rfl rfl (by repeat' (first | exact trivial | exact we_rfl rfl | exact we_int (nxt hlt (by omega)) | exact we_sl hsn rfl | refine ⟨⟨_,rfl,?_⟩,?_⟩))),ks.length - (e + 1),by omega,e + 1,q + 1,rfl,by omega,by omega,rfl⟩
   | false=>
    refine call_p en203 (hco) ax rfl ?_
    cases b2 with
    | true=>
     refine br (fun c=>?_) (fun c=>?_)
     ·have c:¬ (xk=10∨xk=11∨xk=12):=by
       intro g
       rcases g with g | g | g<;>simp [pickB_or,pickB_and,g] at c
      have hsn:=hend _ (hY2 rfl rfl c)
      refine call_p en208 (hcv) ax rfl ?_
      refine ⟨by rw [hdOl,hq],⟨by simp [maxLen,hdOl];omega,by simp [hdOl];omega⟩,?_⟩
      exact ⟨naPSt PC LC obs a (.mk vk vn vs ks) ⟨kind,at',lo,hi,most,names,es⟩ (O.take (e + 1)) (q + 1) (e + 1),(weak_b 5 rfl (by repeat' (first | exact rfl | exact we_rfl rfl | exact we_int (nxt hlt (by omega)) | exact we_sl hsn rfl | refine ⟨_,_,rfl,?_,?_⟩)) rfl rfl rfl (by repeat' (first | exact trivial | exact we_rfl rfl | exact we_int (nxt hlt (by omega)) | exact we_sl hsn rfl | refine ⟨⟨_,rfl,?_⟩,?_⟩))),ks.length - (e + 1),by omega,e + 1,q + 1,rfl,by omega,by omega,rfl⟩
     ·have c:xk=10∨xk=11∨xk=12:=by
       by_cases g1:xk=10
       ·exact .inl g1
       by_cases g2:xk=11
       ·exact .inr (.inl g2)
       by_cases g3:xk=12
       ·exact .inr (.inr g3)
       simp [pickB_or,pickB_and,g1,g2,g3] at c
      have hsn:=hend _ (hY3 rfl rfl c)
      refine call_p en203 (hco) ax rfl ?_
      refine ⟨by rw [hdOl,hq],⟨by simp [maxLen,hdOl];omega,by simp [hdOl];omega⟩,?_⟩
      exact ⟨naPSt PC LC obs a (.mk vk vn vs ks) ⟨kind,at',lo,hi,most,names,es⟩ (O.take (e + 1)) (q + 1) (e + 1),(weak_b 5 rfl (by repeat' (first | exact rfl | exact we_rfl rfl | exact we_int (nxt hlt (by omega)) | exact we_sl hsn rfl | refine ⟨_,_,rfl,?_,?_⟩)) rfl rfl rfl (by repeat' (first | exact trivial | exact we_rfl rfl | exact we_int (nxt hlt (by omega)) | exact we_sl hsn rfl | refine ⟨⟨_,rfl,?_⟩,?_⟩))),ks.length - (e + 1),by omega,e + 1,q + 1,rfl,by omega,by omega,rfl⟩
    | false=>
     have hsn:=hend _ (hY4 rfl rfl)
     refine call_p en203 (hco) ax rfl ?_
     refine call_p en209 (hhv) ax rfl ?_
     refine ⟨by rw [hdOl,hq],⟨by simp [maxLen,hdOl];omega,by simp [hdOl];omega⟩,?_⟩
     exact ⟨naPSt PC LC obs a (.mk vk vn vs ks) ⟨kind,at',lo,hi,most,names,es⟩ (O.take (e + 1)) (q + 1) (e + 1),(weak_b 5 rfl (by repeat' (first | exact rfl | exact we_rfl rfl | exact we_int (nxt hlt (by omega)) | exact we_sl hsn rfl | refine ⟨_,_,rfl,?_,?_⟩)) rfl rfl rfl (by repeat' (first | exact trivial | exact we_rfl rfl | exact we_int (nxt hlt (by omega)) | exact we_sl hsn rfl | refine ⟨⟨_,rfl,?_⟩,?_⟩))),ks.length - (e + 1),by omega,e + 1,q + 1,rfl,by omega,by omega,rfl⟩
  ·have hge:e=ks.length:=by have:=hLt;simp [hdl,Val.ks] at this;omega
   subst hge
   rw [List.take_of_length_le (by omega)]
   exact ⟨_,ax,rfl⟩
end Go.Proofs.YtbfdbhechmhpoaaGreat
set_option maxRecDepth 100000
namespace Go.Proofs.YtbfdbhechmhpoaaGreat
open Go Go.RowKit Dv Tryz
theorem fine27_spec (S:Sch) (hS:S.wt≤1099511627776) (x:Val) (hx:x.wt≤1099511627776) :
  Ev Tryz.prog 59 [.agg (dSch S),.agg (dVal x)] [] [] (fun r _ _=>∃ b:Bool,r = .v (.bool b)∧(b=true→Fine21 S)):=by
 have ga:=great17_spec S hS
 have hf:=fine21_spec S hS
 have h1:=size25_spec x.wt x (Nat.le_refl _) hx
 generalize cntV x=c1 at h1
 generalize depV x=d1 at h1
 obtain ⟨levels,order,types,⟨rh,rp⟩⟩:=S
 obtain ⟨xk,xn,xs,xks⟩:=x
 refine ev_go (P:=Tryz.prog) tt tt_ok 5000 23 [.tmp 4] Tryz.func59 rfl Tryz.ntmps59 rfl (Nat.le_of_ble_eq_true rfl) (fun E9 w9 hn9 hm9=>?_)
 refine call_p en111 (h1) ax rfl ?_
 refine br (fun c=>?_) (fun c=>?_)
 ·refine call_e en14 rfl ga ax (fun r hr=>?_)
  obtain ⟨g,rfl⟩:=hr
  cases g with
  | true=>
   refine ⟨false,?_,fun h=>by cases h⟩
   refine (congrArg (fun b=>DV.v (.bool b)) ?_:_=_)
   simp only [pickB_and,Bool.not_true,Bool.and_false,Bool.false_and]
  | false=>
   refine call_e en88 rfl hf ax (fun r hr=>?_)
   obtain ⟨b,rfl,hb⟩:=hr
   exact ⟨b,rfl,hb⟩
 ·exact ⟨false,rfl,fun h=>by cases h⟩
def exP27:Sch:=⟨[⟨⟨#[108,111,119]⟩,0⟩,⟨⟨#[104,105,103,104]⟩,0⟩],[(⟨⟨#[108,111,119]⟩,0⟩,⟨⟨#[104,105,103,104]⟩,0⟩)],[],.mk (exH 7) (.cons ⟨⟨⟨#[120]⟩,0⟩,false,[⟨⟨#[104,105,103,104]⟩,0⟩],0,0,0,0,[]⟩ (.mk (exH 1) .nil) .nil)⟩
def exA27:Val:=.mk 7 0 emptyB [.mk 1 1 emptyB []]
theorem ex27_fine:(resF exP27).1=0:=by decide +kernel
theorem ex27_root:resRoot exP27=((resRoot exP27).toNat:Nat)∧(resRoot exP27).toNat < (resNds exP27).length:=by decide +kernel
def isV (o:Option Val) (v:Val):Bool:=match o with | some y=>sameV y v | none=>false
theorem isV_eq {o:Option Val} {v:Val} (h:isV o v=true):o=some v:=by
 cases o with
 | none=>cases h
 | some y=>rw [sameV_iff.1 (show sameV y v=true from h)]
theorem ex27_low:seenF (resNds exP27) (leqS exP27) exP27.levels.length (resRoot exP27).toNat 0 exA27=some (.mk 7 0 emptyB [.mk 9 3 emptyB []]):=isV_eq (by decide +kernel)
theorem ex27_high:seenF (resNds exP27) (leqS exP27) exP27.levels.length (resRoot exP27).toNat 1 exA27=some (.mk 7 0 emptyB [.mk 1 1 emptyB []]):=isV_eq (by decide +kernel)
theorem lives27_spec:EvP Tryz.prog 60 [] (.v (.bool true)):=by
 have hwt:exP27.wt≤1099511627776:=by decide +kernel
 have hb:=(build_spec exP27 hwt).mono (Ψ:=fun r _ _=>BuiltΦ exP27 r) fun _ _ _ h=>builtΦ_of hwt h
 refine ev_go (P:=Tryz.prog) tt tt_ok 5000 81 [.tmp 0] Tryz.func60 rfl Tryz.ntmps60 rfl (Nat.le_of_ble_eq_true rfl) (fun E9 w9 hn9 hm9=>?_)
 refine call_e en16 rfl hb ax (fun r hr=>?_)
 rcases hr with ⟨hr,_⟩ | ⟨_,PC,hP,rfl⟩
 ·exact (hr ex27_fine).elim
 obtain ⟨LC,hlat,hR⟩:=hP.latR
 have hrng:∀ n∈resNds exP27,rngN n:=fun n hn=>resNds_rng (S:=exP27) (by simp [exP27,rngS,rngT,rngP,exH,I64]) hn
 have hsz:∀ n∈resNds exP27,n.edges.length≤1099511627776:=fun n hn=>(resNds_sz hn hwt).2
 have hl:=fun o=>eErase_root hP hlat hR hrng hsz (resRoot exP27).toNat ex27_root.1 o exA27 (by decide +kernel) (by simp [exA27,rngW,rngWs,I64])
 have h0:=hl 0
 have h1:=hl 1
 rw [ex27_low] at h0
 rw [ex27_high] at h1
 have hh:=eHidden_spec _ (.mk 7 0 emptyB [.mk 9 3 emptyB []]) (Nat.le_refl _) (by decide +kernel)
 rw [show hidN (.mk 7 0 emptyB [.mk 9 3 emptyB []])=1 by decide +kernel] at hh
 refine call_p en65 (h0) ax rfl ?_
 refine call_p en65 (h1) ax rfl ?_
 refine ⟨_,⟨by decide,rfl⟩,?_⟩
 refine ⟨_,⟨by decide,rfl⟩,?_⟩
 refine ⟨_,⟨by decide,rfl⟩,?_⟩
 refine call_p en67 (hh) ax rfl ?_
 exact (rfl:_=_)
end Go.Proofs.YtbfdbhechmhpoaaGreat
set_option maxRecDepth 100000
namespace Go.Proofs.YtbfdbhechmhpoaaGreat
open Go Go.RowKit Dv Tryz
def narF (ND:List Nd) (f:Nat→Nat→Bool) (n rt:Nat) (fr to:Int) (v:Val):Option Val:=if (0≤to∧to < n)∧leqI f n to fr=true∧seeF ND f n rt fr v=true then some (narrowV ND f n to.toNat v rt (botF f n)) else none
theorem leqI_in {f:Nat→Nat→Bool} {n:Nat} {a b:Int} (h:leqI f n a b=true):0≤a∧a < n∧0≤b∧b < n∧f a.toNat b.toNat=true:=by
 unfold leqI at h
 simp only [Bool.and_eq_true,decide_eq_true_eq] at h
 exact ⟨h.1.1.1.1,h.1.1.1.2,h.1.1.2,h.1.2,h.2⟩
theorem seeF_in {ND:List Nd} {f:Nat→Nat→Bool} {n rt:Nat} {o:Int} {v:Val} (h:seeF ND f n rt o v=true):(0≤o∧o < n)∧seeV ND f n o.toNat v rt (botF f n)=true:=by
 unfold seeF at h
 rw [Bool.and_eq_true,decide_eq_true_iff] at h
 exact h
theorem erNarrow_root {S:Sch} {ND:List Nd} {PC LC:List DV} (hP:PlanR S ND PC) (hlat:EvP Tryz.prog 21 [.pt PC 0] (.pt LC 0)) (hR:LatR S.levels.length (leqS S) (nmTx S.levels) LC) (hrS:∀ n∈ND,rngN n) (hsz:∀ n∈ND,n.edges.length≤1099511627776) (rt:Nat) (hrt:resRoot S=rt) (hrl:rt < ND.length) (fr to:Int) (v:Val) (hv:v.wt≤1099511627776) (hrv:rngW v) :
  EvP Tryz.prog 63 [.pt PC 0,.v (.int .i64 fr),.v (.int .i64 to),.agg (dVal v)] (seenD (narF ND (leqS S) S.levels.length rt fr to v)):=by
 have hlk:=elook_spec hlat hR to
 have hroot:=hP.root
 rw [hrt] at hroot
 have hbot:=hR.bot
 have hleq:=hR.leq to fr
 have hft:=erFits_root hP hlat hR hrS hsz rt hrt hrl fr v hv hrv
 have hs:=fun (a b:Nat) (h1:a < S.levels.length) (h2:b < S.levels.length) (h3:leqS S a b=true) h4=>enarrow_spec hP hR hrS hsz a b h1 h2 h3 _ v (Nat.le_refl _) hv hrv rt (botF (leqS S) S.levels.length) (botF_lt hR.ok) h4
 have hS:narF ND (leqS S) S.levels.length rt fr to v=if (0≤to∧to < S.levels.length)∧leqI (leqS S) S.levels.length to fr=true∧seeF ND (leqS S) S.levels.length rt fr v=true then some (narrowV ND (leqS S) S.levels.length to.toNat v rt (botF (leqS S) S.levels.length)) else none:=rfl
 have hin:=fun h=>leqI_in (f:=leqS S) (n:=S.levels.length) (a:=to) (b:=fr) h
 have hsin:=fun h=>seeF_in (ND:=ND) (f:=leqS S) (n:=S.levels.length) (rt:=rt) (o:=fr) (v:=v) h
 generalize narF ND (leqS S) S.levels.length rt fr to v=NF at hS ⊢
 generalize leqI (leqS S) S.levels.length to fr=LQ at hleq hS hin
 generalize seeF ND (leqS S) S.levels.length rt fr v=SF at hft hS hsin
 by_cases ho:0≤to∧to < S.levels.length
 ·rw [show decide (0≤to∧to < (S.levels.length:Int))=true from decide_eq_true ho] at hlk
  cases LQ with
  | false=>
   rw [if_neg (by simp)] at hS
   rw [hS]
   obtain ⟨k,n,s,ks⟩:=v
   refine ev_go (P:=Tryz.prog) tt tt_ok 5000 44 [.cell 8 82,.tmp 9] Tryz.func63 rfl Tryz.ntmps63 rfl (Nat.le_of_ble_eq_true rfl) (fun E9 w9 hn9 hm9=>?_)
   refine call_p en123 (hlk) ax rfl ?_
   refine call_p en57 (hleq) ax rfl ?_
   exact ⟨_,ax,rfl⟩
  | true=>
   cases SF with
   | false=>
    rw [if_neg (by simp)] at hS
    rw [hS]
    obtain ⟨k,n,s,ks⟩:=v
    refine ev_go (P:=Tryz.prog) tt tt_ok 5000 44 [.cell 8 82,.tmp 9] Tryz.func63 rfl Tryz.ntmps63 rfl (Nat.le_of_ble_eq_true rfl) (fun E9 w9 hn9 hm9=>?_)
    refine call_p en123 (hlk) ax rfl ?_
    refine call_p en57 (hleq) ax rfl ?_
    refine call_p en61 (hft) ax rfl ?_
    exact ⟨_,ax,rfl⟩
   | true=>
    rw [if_pos ⟨ho,rfl,rfl⟩] at hS
    have hin:=hin rfl
    have hs:=hs to.toNat fr.toNat (by omega) (by omega) hin.2.2.2.2 (hsin rfl).2
    rw [hS]
    rw [show ((to.toNat:Nat):Int)=to by omega] at hs
    generalize narrowV ND (leqS S) S.levels.length to.toNat v rt (botF (leqS S) S.levels.length)=Y at hs
    generalize botF (leqS S) S.levels.length=bt at hbot hs
    obtain ⟨yk,yn,ys,yks⟩:=Y
    obtain ⟨k,n,s,ks⟩:=v
    refine ev_go (P:=Tryz.prog) tt tt_ok 5000 44 [.cell 8 82,.tmp 9] Tryz.func63 rfl Tryz.ntmps63 rfl (Nat.le_of_ble_eq_true rfl) (fun E9 w9 hn9 hm9=>?_)
    refine call_p en123 (hlk) ax rfl ?_
    refine call_p en57 (hleq) ax rfl ?_
    refine call_p en61 (hft) ax rfl ?_
    refine drawG_s mo (by decide +kernel) ?_
    refine callD_p en19 (hroot) ax rfl ?_
    refine callD_p en115 (hbot) ax rfl ?_
    refine callD_p en126 (hs) ax rfl ?_
    exact ⟨_,ax,rfl⟩
 ·rw [show decide (0≤to∧to < (S.levels.length:Int))=false from decide_eq_false ho] at hlk
  rw [if_neg (fun h=>ho h.1)] at hS
  rw [hS]
  obtain ⟨k,n,s,ks⟩:=v
  refine ev_go (P:=Tryz.prog) tt tt_ok 5000 44 [.cell 8 82,.tmp 9] Tryz.func63 rfl Tryz.ntmps63 rfl (Nat.le_of_ble_eq_true rfl) (fun E9 w9 hn9 hm9=>?_)
  refine call_p en123 (hlk) ax rfl ?_
  exact ⟨_,ax,rfl⟩
theorem narrow27_spec (lv:List Wd) (f:Nat→Nat→Bool) (ND:List Nd) (z:Int) (hL:LatOK f lv.length) (hn:lv.length≤32) (hok:∀ n∈ND,NdOK lv.length ND.length n) (hsz:∀ n∈ND,n.edges.length≤1099511627776) (hrn:∀ n∈ND,rngN n) (obs fr:Nat) (ho:obs < lv.length) (hfr:fr < lv.length) (hle:f obs fr=true) :
  ∀ (k:Nat) (v:Val),v.wt≤k→v.wt≤1099511627776→rngW v→∀ (i:Int) (a:Nat),a < lv.length→seeV ND f lv.length fr v i a=true →
   EvP Tryz.prog 64 [.agg (wL lv f ND z),.v (.int .i64 obs),.v (.int .i64 i),.v (.int .i64 a),.agg (dVal v)] (.agg (dVal (narrowV ND f lv.length obs v i a)))
 | 0,v,h,_=>by have:=v.wt_pos;omega
 | k + 1,v,h,hb=>fun hr i a ha hsee=>by
  have ih:=narrow27_spec lv f ND z hL hn hok hsz hrn obs fr ho hfr hle k
  obtain ⟨d,hnd⟩:∃ d,nodeA ND i=some d:=by
   cases hd:nodeA ND i with
   | none=>
    obtain ⟨q,z,s,ks⟩:=v
    rw [seeV,hd] at hsee
    cases hsee
   | some d=>exact ⟨d,rfl⟩
  obtain ⟨h0,hg⟩:=nodeA_some hnd
  obtain ⟨j,rfl⟩:∃ j:Nat,i=j:=⟨i.toNat,by omega⟩
  have hg:ND[j]? = some d:=by simpa using hg
  have hmem:=List.mem_of_getElem? hg
  have hN:=hok d hmem
  have hkid:=fun {m:Nat} {x:Val}=>see_facts (m:=m) (x:=x) hok hsee hnd
  have hdsz:=hsz d hmem
  have hdrn:=hrn d hmem
  have hE:narrowV ND f lv.length obs v j a = .mk v.k v.n v.s (narrowVs ND f lv.length obs v.ks d v.n a 0):=by
   obtain ⟨q,z,s,ks⟩:=v
   rw [narrowV,hnd]
   rfl
  rw [hE]
  have hOl:=narrowVs_len (ND:=ND) (f:=f) (L:=lv.length) (obs:=obs) v.ks d v.n a 0
  have hOa:=fun {m:Nat} {x:Val} {e:Ed}=>narK_at (ND:=ND) (f:=f) (L:=lv.length) (obs:=obs) (ks:=v.ks) (d:=d) (z:=v.n) (a:=a) (m:=m) (x:=x) (e:=e)
  generalize narrowVs ND f lv.length obs v.ks d v.n a 0=O at hOl hOa ⊢
  obtain ⟨vk,vn,vs,ks⟩:=v
  have hkl:=wtVs_len ks
  have hdl:=dVals_len ks
  rw [Val.wt] at h hb
  have hrk:=rngW_ks hr
  simp only [Val.ks,Val.n,Val.k,Val.s] at hkid hOl hOa hrk ⊢
  have hunder:=fun e (he:e∈d.edges)=>under27_spec lv f ND z hL hn d e a ha hN he
  have hhow:=fun e (he:e∈d.edges)=>how27_spec lv f ND z hL hn d e obs a ho ha hN he
  obtain ⟨kind,at',lo,hi,most,names,es⟩:=d
  refine ev_go (P:=Tryz.prog) tt tt_ok 5000 81 [.cell 10 82] Tryz.func64 rfl Tryz.ntmps64 rfl (Nat.le_of_ble_eq_true rfl) (fun E9 w9 hn9 hm9=>?_)
  refine ⟨_,⟨by omega,dNds_get hg⟩,?_⟩
  refine loop_i (fun t st=>∃ e q:Nat,st=er27St (wL lv f ND z) (.mk vk vn vs ks) obs a ⟨kind,at',lo,hi,most,names,es⟩ (O.take e) q e∧q=e∧e≤ks.length∧t=ks.length - e) ks.length (er27St (wL lv f ND z) (.mk vk vn vs ks) obs a ⟨kind,at',lo,hi,most,names,es⟩ [] 0 0) (weak_bt 5 ⟨0,82,4,none⟩ rfl rfl rfl (by repeat' (first | exact rfl | exact we_rfl rfl | exact we_int rfl | exact we_tok (Nat.le_refl _) rfl | exact we_tok (Nat.le_refl _) rfl | refine ⟨_,_,rfl,?_,?_⟩)) rfl rfl (by repeat' (first | exact trivial | exact we_rfl rfl | exact we_int rfl | exact we_tok (Nat.le_refl _) rfl | refine ⟨⟨_,rfl,?_⟩,?_⟩))) ⟨0,0,by rw [List.take_zero],rfl,by omega,by omega⟩ ?_
  rintro t st ⟨e,q,rfl,hq,he,rfl⟩
  refine br (fun hLt=>?_) (fun hLt=>?_)
  ·have hlt:e < ks.length:=by simpa [hdl] using hLt
   obtain ⟨x,hx⟩:∃ x,ks[e]? = some x:=⟨_,List.getElem?_eq_getElem hlt⟩
   obtain ⟨ed,hSK⟩:=hkid hx
   obtain ⟨hK,h5,hk8,hse⟩:=hSK
   have hm:=List.mem_of_getElem? hx
   have hwx:=wtVs_mem hm
   have hrx:=rngWs_mem hrk hm
   have hxe:=hOa hx hK.edge
   unfold narK at hxe
   have hedge:=edge27_spec ⟨kind,at',lo,hi,most,names,es⟩ (.mk vk vn vs ks) e ed hK.edge (fun c=>(hk8 c).1) hdsz
   have hun:=hunder ed hK.mem
   have hho:=hhow ed hK.mem
   have hcv:=coarse27_spec ed x (rngW_n hrx) (by omega) (hdrn.2.2 ed hK.mem)
   have hrec:=fun hs=>ih x (by omega) (by omega) hrx ed.to (undF f lv.length ⟨kind,at',lo,hi,most,names,es⟩ ed a) (undF_lt hL hN hK.mem ha) hs
   have hkc:=kid_coarse hok hL ho hfr hle hN hK.mem ha hse
   have hOl':(O.take e).length=e:=by rw [List.length_take];omega
   have hdOl:(dVals (O.take e)).length=e:=by rw [dVals_len,hOl']
   have hend:∀ y:Val,O[e]? = some y→dVals (O.take e) ++ [dVal y]=dVals (O.take (e + 1)):=fun y hy=>dVals_snoc hy
   generalize howF f lv.length obs ⟨kind,at',lo,hi,most,names,es⟩ ed a=H at hho hxe hkc
   have hY1:H=2→O[e]? = some (narrowV ND f lv.length obs x ed.to (undF f lv.length ⟨kind,at',lo,hi,most,names,es⟩ ed a))∧seeV ND f lv.length fr x ed.to (undF f lv.length ⟨kind,at',lo,hi,most,names,es⟩ ed a)=true:=fun hH=>by
    rw [if_pos hH] at hxe
    exact ⟨hxe,(hkc (by omega)).1 hH⟩
   have hY2:H=1→x.k < 9→O[e]? = some (coarseV ed x):=fun hH g=>by
    rw [if_neg (by omega),if_pos hH,if_pos g] at hxe
    exact hxe
   have hY3:H=1→¬ x.k < 9→O[e]? = some x:=fun hH g=>by
    rw [if_neg (by omega),if_pos hH,if_neg g] at hxe
    exact hxe
   have hY4:H≠2→H≠1→O[e]? = some (.mk 9 ed.wide emptyB []):=fun h2 h1=>by
    rw [if_neg h2,if_neg h1] at hxe
    exact hxe
   clear hxe hkc
   generalize narrowV ND f lv.length obs x ed.to (undF f lv.length ⟨kind,at',lo,hi,most,names,es⟩ ed a)=Y1 at hrec hY1
   generalize coarseV ed x=Y2 at hcv hY2
   obtain ⟨xk,xn,xs,xks⟩:=x
   obtain ⟨y1k,y1n,y1s,y1ks⟩:=Y1
   obtain ⟨y2k,y2n,y2s,y2ks⟩:=Y2
   refine call_p en127 (hedge) ax rfl ?_
   refine ⟨_,⟨by omega,dVals_get hx⟩,?_⟩
   refine call_p en128 (hho) ax rfl ?_
   refine br (fun c=>?_) (fun c=>?_)
   ·have c:H=2:=by
     have:=of_decide_eq_true c
     omega
    obtain ⟨hxe,hs⟩:=hY1 c
    have hrec:=hrec hs
    have hsn:=hend _ hxe
    refine drawG_s mo (by decide +kernel) ?_
    refine callD_p en129 (hun) ax rfl ?_
    refine callD_p en64 (hrec) ax rfl ?_
    refine ⟨by rw [hdOl,hq],⟨by simp [maxLen,hdOl];omega,by simp [hdOl];omega⟩,?_⟩
    exact ⟨er27St (wL lv f ND z) (.mk vk vn vs ks) obs a ⟨kind,at',lo,hi,most,names,es⟩ (O.take (e + 1)) (q + 1) (e + 1),(weak_b 5 rfl (by repeat' (first | exact rfl | exact we_rfl rfl | exact we_int (nxt hlt (by omega)) | exact we_sl hsn rfl | refine ⟨_,_,rfl,?_,?_⟩)) rfl rfl rfl (by repeat' (first | exact trivial | exact we_rfl rfl | exact we_int (nxt hlt (by omega)) | exact we_sl hsn rfl | refine ⟨⟨_,rfl,?_⟩,?_⟩))),ks.length - (e + 1),by omega,e + 1,q + 1,rfl,by omega,by omega,rfl⟩
   ·have c2:¬ H=2:=by
     have:=of_decide_eq_false c
     omega
    refine br (fun c=>?_) (fun c=>?_)
    ·have c:H=1:=by
      have:=of_decide_eq_true c
      omega
     refine br (fun g=>?_) (fun g=>?_)
     ·have g:xk < 9:=of_decide_eq_true g
      have hsn:=hend _ (hY2 c g)
      refine call_p en130 (hcv) ax rfl ?_
      refine ⟨by rw [hdOl,hq],⟨by simp [maxLen,hdOl];omega,by simp [hdOl];omega⟩,?_⟩
      exact ⟨er27St (wL lv f ND z) (.mk vk vn vs ks) obs a ⟨kind,at',lo,hi,most,names,es⟩ (O.take (e + 1)) (q + 1) (e + 1),(weak_b 5 rfl (by repeat' (first | exact rfl | exact we_rfl rfl | exact we_int (nxt hlt (by omega)) | exact we_sl hsn rfl | refine ⟨_,_,rfl,?_,?_⟩)) rfl rfl rfl (by repeat' (first | exact trivial | exact we_rfl rfl | exact we_int (nxt hlt (by omega)) | exact we_sl hsn rfl | refine ⟨⟨_,rfl,?_⟩,?_⟩))),ks.length - (e + 1),by omega,e + 1,q + 1,rfl,by omega,by omega,rfl⟩
     ·have g:¬ xk < 9:=of_decide_eq_false g
      have hsn:=hend _ (hY3 c g)
      refine ⟨by rw [hdOl,hq],⟨by simp [maxLen,hdOl];omega,by simp [hdOl];omega⟩,?_⟩
      exact ⟨er27St (wL lv f ND z) (.mk vk vn vs ks) obs a ⟨kind,at',lo,hi,most,names,es⟩ (O.take (e + 1)) (q + 1) (e + 1),(weak_b 5 rfl (by repeat' (first | exact rfl | exact we_rfl rfl | exact we_int (nxt hlt (by omega)) | exact we_sl hsn rfl | refine ⟨_,_,rfl,?_,?_⟩)) rfl rfl rfl (by repeat' (first | exact trivial | exact we_rfl rfl | exact we_int (nxt hlt (by omega)) | exact we_sl hsn rfl | refine ⟨⟨_,rfl,?_⟩,?_⟩))),ks.length - (e + 1),by omega,e + 1,q + 1,rfl,by omega,by omega,rfl⟩
    ·have c1:¬ H=1:=by
      have:=of_decide_eq_false c
      omega
     have hsn:=hend _ (hY4 c2 c1)
     have hcc:=ccE_hid ed.wide (O.take e)
     rw [show dVals (O.take e) ++ [dVal (.mk 9 ed.wide emptyB [])]=dVals (O.take (e + 1)) from hsn] at hcc
     refine ⟨by rw [hdOl,hq],⟨by simp [maxLen,hdOl];omega,by simp [hdOl];omega⟩,?_⟩
     exact ⟨er27St (wL lv f ND z) (.mk vk vn vs ks) obs a ⟨kind,at',lo,hi,most,names,es⟩ (O.take (e + 1)) (q + 1) (e + 1),(weak_b 5 rfl (by repeat' (first | exact rfl | exact we_rfl rfl | exact we_int (nxt hlt (by omega)) | exact we_es hcc rfl | refine ⟨_,_,rfl,?_,?_⟩)) rfl rfl rfl (by repeat' (first | exact trivial | exact we_rfl rfl | exact we_int (nxt hlt (by omega)) | exact we_es hcc rfl | refine ⟨⟨_,rfl,?_⟩,?_⟩))),ks.length - (e + 1),by omega,e + 1,q + 1,rfl,by omega,by omega,rfl⟩
  ·have hge:e=ks.length:=by have:=hLt;simp [hdl] at this;omega
   subst hge
   rw [List.take_of_length_le (by omega)]
   exact ⟨_,ax,rfl⟩
end Go.Proofs.YtbfdbhechmhpoaaGreat
set_option maxRecDepth 100000
namespace Go.Proofs.YtbfdbhechmhpoaaGreat
open Go Go.RowKit Dv Tryz
structure NarL (ND:List Nd) (f:Nat→Nat→Bool) (n rt:Nat) (fr to:Int) (x:Val) (SF:Bool) (NF:Option Val):Prop where
 no:SF=false→NF=none
 out:¬ (0≤to∧to < n)→NF=none
 inn:SF=true→0≤fr∧fr < n
 nle:SF=true→0≤to→to < n→f to.toNat fr.toNat=false→NF=none
 some:SF=true→0≤to→to < n→f to.toNat fr.toNat=true→NF=some (narrowV ND f n to.toNat x rt (botF f n))
theorem narL (ND:List Nd) (f:Nat→Nat→Bool) (n rt:Nat) (fr to:Int) (x:Val):NarL ND f n rt fr to x (seeF ND f n rt fr x) (narF ND f n rt fr to x) where
 no:=fun h=>by rw [narF,if_neg (by rw [h];simp)]
 out:=fun h=>by rw [narF,if_neg (fun g=>h g.1)]
 inn:=fun h=>(seeF_in h).1
 nle:=fun h h1 h2 h3=>by
  refine if_neg (fun g=>?_)
  have:=leqI_in g.2.1
  rw [h3] at this
  exact absurd this.2.2.2.2 (by simp)
 some:=fun h h1 h2 h3=>by
  have hi:=(seeF_in h).1
  refine if_pos ⟨⟨h1,h2⟩,?_,h⟩
  unfold leqI
  simp only [Bool.and_eq_true,decide_eq_true_eq]
  exact ⟨⟨⟨⟨h1,h2⟩,hi.1⟩,hi.2⟩,h3⟩
set_option maxHeartbeats 4000000 in
theorem narrows27_law (S:Sch) (hS:S.wt≤1099511627776) (hrS:rngS S) (x:Val) (hx:x.wt≤1099511627776) (hrx:rngW x) (o p:Int) :
  EvP Tryz.prog 11 [.agg (dSch S),.agg (dVal x),.agg ([.v (.int .i64 o)] ++ [.v (.int .i64 p)])] (.v (.bool true)):=by
 have hf:=fine27_spec S hS x hx
 have hb:=(build_spec S hS).mono (Ψ:=fun r _ _=>BuiltΦ S r) fun _ _ _ h=>builtΦ_of hS h
 have hw:=fun h=>build18_spec S hS h
 have hrf:=@resRoot_ok S
 have hRr:=fun n (hn:n∈resNds S)=>resNds_rng hrS hn
 have hesz:∀ n∈resNds S,n.edges.length≤1099511627776:=fun n hn=>(resNds_sz hn hS).2
 have hz:=same25_spec (.mk 0 0 emptyB []) (by decide) (.mk 0 0 emptyB [])
 rw [show sameV (.mk 0 0 emptyB []) (.mk 0 0 emptyB [])=true from rfl] at hz
 generalize hSS:S=SS at *
 subst hSS
 have key:Fine21 S→∀ PC,PlanR S (resNds S) PC→∃ (SF:Bool) (NF:Option Val) (root:Nat) (Y:Val),resRoot S=root∧Y=narrowV (resNds S) (leqS S) S.levels.length p.toNat x root (botF (leqS S) S.levels.length)∧NarL (resNds S) (leqS S) S.levels.length root o p x SF NF ∧
   EvP Tryz.prog 63 [.pt PC 0,.v (.int .i64 o),.v (.int .i64 p),.agg (dVal x)] (seenD NF) ∧
   EvP Tryz.prog 62 [.agg (wL S.levels (leqS S) (resNds S) (root:Nat)),.v (.int .i64 o),.agg (dVal x)] (.v (.bool SF)) ∧
   EvP Tryz.prog 34 [.sl 1 (dMat (matB S.levels.length (leqS S))) none] (.v (.int .i64 (botF (leqS S) S.levels.length:Nat))) ∧
   (SF=true→0≤p→p < S.levels.length→leqS S p.toNat o.toNat=true→EvP Tryz.prog 64 [.agg (wL S.levels (leqS S) (resNds S) (root:Nat)),.v (.int .i64 p),.v (.int .i64 (root:Nat)),.v (.int .i64 (botF (leqS S) S.levels.length:Nat)),.agg (dVal x)] (.agg (dVal Y))) ∧
   EvP Tryz.prog 47 [.agg (dVal Y),.agg (dVal Y)] (.v (.bool true)):=fun h0 PC hP=>by
  obtain ⟨root,hrt,hrl⟩:=hrf (fineS_of h0.res)
  obtain ⟨LC,hlat,hR⟩:=hP.latR
  have hbt:=bottom20_spec S.levels.length (leqS S) (by have:=hR.n32;omega)
  rw [botF_some hR.ok] at hbt
  have hYw:(narrowV (resNds S) (leqS S) S.levels.length p.toNat x root (botF (leqS S) S.levels.length)).wt≤1099511627776:=Nat.le_trans (narrowV_wt _ _ _) hx
  have hsm:=same25_spec _ hYw (narrowV (resNds S) (leqS S) S.levels.length p.toNat x root (botF (leqS S) S.levels.length))
  rw [sameV_iff.2 rfl] at hsm
  refine ⟨_,_,root,_,hrt,rfl,narL _ _ _ _ _ _ _,erNarrow_root hP hlat hR hRr hesz root hrt hrl o p x hx hrx,seeable27_spec S.levels (leqS S) (resNds S) root hrl hR.ok hR.n32 hP.ok hesz hRr o x hx hrx,hbt,fun h h1 h2 h3=>?_,hsm⟩
  have hi:=seeF_in h
  have:=narrow27_spec S.levels (leqS S) (resNds S) (root:Nat) hR.ok hR.n32 hP.ok hesz hRr p.toNat o.toNat (by omega) (by omega) h3 _ x (Nat.le_refl _) hx hrx root (botF (leqS S) S.levels.length) (botF_lt hR.ok) hi.2
  rw [Int.toNat_of_nonneg h1] at this
  exact this
 obtain ⟨levels,order,types,⟨rh,rp⟩⟩:=S
 obtain ⟨xk,xn,xs,xks⟩:=x
 refine ev_go (P:=Tryz.prog) tt tt_ok 5000 94 [.tmp 6] Tryz.func11 rfl Tryz.ntmps11 rfl (Nat.le_of_ble_eq_true rfl) (fun E9 w9 hn9 hm9=>?_)
 refine call_e en59 rfl hf ax (fun r hr=>?_)
 obtain ⟨b,rfl,h0⟩:=hr
 cases b with
 | false=>
  refine call_p en60 (lives27_spec) ax rfl ?_
  exact (rfl:_=_)
 | true=>
  have hF:=h0 rfl
  have h0:=hF.res
  have hw:=hw h0
  refine call_e en16 rfl hb ax (fun r hr=>?_)
  rcases hr with ⟨hr,_⟩ | ⟨_,PC,hP,rfl⟩
  ·exact (hr h0).elim
  obtain ⟨SF,NF,root,Y,hrt,hY,hNL,hA1,hA2,hbt,hA3,hsm⟩:=key hF PC hP
  rw [hrt] at hw
  refine call_p en32 (hw) ax rfl ?_
  have hlen:=dMatB_len levels.length (leqS ⟨levels,order,types,⟨rh,rp⟩⟩)
  cases SF with
  | false=>
   obtain rfl:=hNL.no rfl
   refine ⟨⟨by decide,by decide⟩,?_⟩
   refine ⟨⟨by decide,by decide⟩,?_⟩
   refine call_p en63 (hA1) ax rfl ?_
   refine drawG_i (fun _=>false) mo (by decide +kernel) ?_
   refine ⟨⟨by decide,by decide⟩,?_⟩
   refine callD_p en62 (hA2) ax rfl ?_
   refine call_p en47 (hz) ax rfl ?_
   refine call_p en60 (lives27_spec) ax rfl ?_
   exact (rfl:_=_)
  | true=>
   have hfr:=hNL.inn rfl
   simp only at hfr hNL
   have hfl:o.toNat < levels.length:=by omega
   by_cases hp0:0≤p
   ·by_cases hp1:p < levels.length
    ·have hpl:p.toNat < levels.length:=by omega
     have hcell:=mcell_get (f:=leqS ⟨levels,order,types,⟨rh,rp⟩⟩) (a:=p.toNat) hfl
     cases hq:leqS ⟨levels,order,types,⟨rh,rp⟩⟩ p.toNat o.toNat with
     | false=>
      rw [hq] at hcell
      obtain rfl:=hNL.nle rfl hp0 hp1 hq
      refine ⟨⟨by decide,by decide⟩,?_⟩
      refine ⟨⟨by decide,by decide⟩,?_⟩
      refine call_p en63 (hA1) ax rfl ?_
      refine drawG_i (fun _=>false) mo (by decide +kernel) ?_
      refine ⟨⟨by decide,by decide⟩,?_⟩
      refine callD_p en62 (hA2) ax rfl ?_
      refine ⟨⟨by decide,by decide⟩,?_⟩
      refine br (fun c=>?_) (fun c=>absurd c (by simp [pickB];omega))
      refine ⟨⟨by decide,by decide⟩,?_⟩
      refine br (fun c=>?_) (fun c=>absurd c (by simp [pickB,hlen];omega))
      refine ⟨⟨by decide,by decide⟩,?_⟩
      refine ⟨_,⟨hp0,mrow_get hpl⟩,?_⟩
      refine ⟨⟨by decide,by decide⟩,?_⟩
      refine ⟨_,⟨hfr.1,hcell⟩,?_⟩
      refine call_p en47 (hz) ax rfl ?_
      refine call_p en60 (lives27_spec) ax rfl ?_
      exact (rfl:_=_)
     | true=>
      rw [hq] at hcell
      obtain rfl:=hNL.some rfl hp0 hp1 hq
      have hA3:=hA3 rfl hp0 hp1 hq
      rw [← hY] at hA1
      clear hY hNL
      obtain ⟨yk,yn,ys,yks⟩:=Y
      refine ⟨⟨by decide,by decide⟩,?_⟩
      refine ⟨⟨by decide,by decide⟩,?_⟩
      refine call_p en63 (hA1) ax rfl ?_
      refine drawG_i (fun _=>false) mo (by decide +kernel) ?_
      refine ⟨⟨by decide,by decide⟩,?_⟩
      refine callD_p en62 (hA2) ax rfl ?_
      refine ⟨⟨by decide,by decide⟩,?_⟩
      refine br (fun c=>?_) (fun c=>absurd c (by simp [pickB];omega))
      refine ⟨⟨by decide,by decide⟩,?_⟩
      refine br (fun c=>?_) (fun c=>absurd c (by simp [pickB,hlen];omega))
      refine ⟨⟨by decide,by decide⟩,?_⟩
      refine ⟨_,⟨hp0,mrow_get hpl⟩,?_⟩
      refine ⟨⟨by decide,by decide⟩,?_⟩
      refine ⟨_,⟨hfr.1,hcell⟩,?_⟩
      refine drawG_i (fun _=>false) mo (by decide +kernel) ?_
      refine ⟨⟨by decide,by decide⟩,?_⟩
      refine callD_p en34 (hbt) ax rfl ?_
      refine callD_p en64 (hA3) ax rfl ?_
      refine callD_p en47 (hsm) ax rfl ?_
      refine callD_p en60 (lives27_spec) ax rfl ?_
      exact (rfl:_=_)
    ·obtain rfl:=hNL.out (by omega)
     refine ⟨⟨by decide,by decide⟩,?_⟩
     refine ⟨⟨by decide,by decide⟩,?_⟩
     refine call_p en63 (hA1) ax rfl ?_
     refine drawG_i (fun _=>false) mo (by decide +kernel) ?_
     refine ⟨⟨by decide,by decide⟩,?_⟩
     refine callD_p en62 (hA2) ax rfl ?_
     refine ⟨⟨by decide,by decide⟩,?_⟩
     refine br (fun c=>?_) (fun c=>absurd c (by simp [pickB];omega))
     refine ⟨⟨by decide,by decide⟩,?_⟩
     refine br (fun c=>absurd c (by simp [pickB,hlen];omega)) (fun _=>?_)
     refine call_p en47 (hz) ax rfl ?_
     refine call_p en60 (lives27_spec) ax rfl ?_
     exact (rfl:_=_)
   ·obtain rfl:=hNL.out (by omega)
    refine ⟨⟨by decide,by decide⟩,?_⟩
    refine ⟨⟨by decide,by decide⟩,?_⟩
    refine call_p en63 (hA1) ax rfl ?_
    refine drawG_i (fun _=>false) mo (by decide +kernel) ?_
    refine ⟨⟨by decide,by decide⟩,?_⟩
    refine callD_p en62 (hA2) ax rfl ?_
    refine ⟨⟨by decide,by decide⟩,?_⟩
    refine br (fun c=>absurd c (by simp [pickB];omega)) (fun _=>?_)
    refine call_p en47 (hz) ax rfl ?_
    refine call_p en60 (lives27_spec) ax rfl ?_
    exact (rfl:_=_)
end Go.Proofs.YtbfdbhechmhpoaaGreat
