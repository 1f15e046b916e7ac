/- Part 8 of the proof: Which values may be what is seen of one: shell, May, outer, plain, the document's May; Which values may be what is seen of one: the program's fits, Fits, the document's Fits, Seeable; The law of what may be seen; What is seen may be written; the example of chapter 33; the laws of Leaf and Compact; The example of chapter 33; the laws of Leaf and Compact: the calls return true; The document of what is seen of a value: plain, and the program's; What is different between two values: the program's near, step, to, own; Regions that draw their order, in which two new objects may come in either order; What is different between two values: the program's walk; The program's rows of an audit: step, sees, row; The program's rows of an audit: walk, Rows; How kinds of types, and ways of seeing, are called; The program's rows of an audit: Rows; What is different between two values: the program's Diff; the document's Changes; What is different between two values: the example's texts; What is different between two values: the document's Changes; What is different between two values: the chapter's example; the law of Diff; What is different between two values: the law of Diff; A change is applied: the closure that puts a value in another's place; Rules for the evaluator: a slice literal without elements, its cells known; A clone of values; the closure that lengthens or shortens a list; A change is applied: plain; tree: put, Set; Rules for the evaluator: an element of a row whose cells nobody else knows is written, the state weakened behind it; A change is applied: the program's at; A change is applied: the closure that lengthens or shortens a list; A change is applied: the program's apply, Apply; A change is applied: the document's Do; What is read of steps, and of steps with a value; How a list that came in is read; A change is applied: what the law asks of its arguments; The law of Compact: the call returns true; A change is applied: the law. No condition. -/
import Derived.Test.YtgjagnmeonoehaaGreatMs2
import Derived.Test.YtgjagnmeonoehaaGreatMs5
import Derived.Test.YtgjagnmeonoehaaGreatMs6
import Derived.Test.YtgjagnmeonoehaaGreatMs7
set_option linter.all false
set_option maxRecDepth 100000
namespace Go.Proofs.YtgjagnmeonoehaaGreat
open Go Go.RowKit Dv Go.Proofs.Tryz
theorem shellF_567 {d:Nd} {v:Val} (c:d.ag=5∨d.ag=6∨d.ag=7):shellF d v=(decide (v.s=au) && decide (v.k=d.ag) && decide (v.n=0) && (if d.ag=5 then decide ((v.ks.length:Int)<=d.most) else if d.ag=6 then decide (v.ks.length < 2) else decide (v.ks.length=d.av.length))):=by grind [shellF,au]
theorem shellF_8 {d:Nd} {v:Val} (c:d.ag=8):shellF d v=if v.s≠au∨v.k≠8∨v.n < 0∨(d.av.length:Int)<=v.n then false else match d.av[v.n.toNat]? with
  | none=>false
  | some e=>(decide (v.ks.length=0) == e.bare) && decide (v.ks.length < 2):=by
 unfold shellF;rw [c];by_cases h1:v.s=au
 ·grind
 ·grind
theorem Gh (d:Nd) (v:Val) (h5:5<=d.ag) (h8:d.ag<=8) (iq:d.av.length<=1099511627776) (hv:v.wt<=1099511627776):EvP prog 207 [.agg (jt d),.agg (aH v)] (.v (.bool (shellF d v))):=by
 have hA:=fun c=>shellF_567 (d:=d) (v:=v) c;have hB:=fun c=>shellF_8 (d:=d) (v:=v) c;have ZJ:d.ag=5->shellF d v=(decide (v.s=au) && decide (v.k=5) && decide (v.n=0) && decide ((v.ks.length:Int)<=d.most)):=fun c=>by rw [hA (.inl c),ai c,c]
 have ZK:d.ag=6->shellF d v=(decide (v.s=au) && decide (v.k=6) && decide (v.n=0) && decide (v.ks.length < 2)):=fun c=>by rw [hA (.inr (.inl c)),ah (by omega),ai c,c]
 have ZL:d.ag=7->shellF d v=(decide (v.s=au) && decide (v.k=7) && decide (v.n=0) && decide (v.ks.length=d.av.length)):=fun c=>by rw [hA (.inr (.inr c)),ah (by omega),ah (by omega),c]
 have hB1:d.ag=8->(v.s≠au∨v.k≠8∨v.n < 0∨(d.av.length:Int)<=v.n)->shellF d v=false:=fun c h=>by rw [hB c,ai h]
 have hB2:d.ag=8->¬ (v.s≠au∨v.k≠8∨v.n < 0∨(d.av.length:Int)<=v.n)->∀ e,d.av[v.n.toNat]? = some e->shellF d v=((decide (v.ks.length=0) == e.bare) && decide (v.ks.length < 2)):=fun c h e he=>by rw [hB c,ah h,he]
 clear hA hB;generalize shellF d v=B at ZJ ZK ZL hB1 hB2 ⊢;obtain ⟨ag,aG,lo,hi,most,ZG,es⟩:=d;obtain ⟨k,z,s,ks⟩:=v;simp only [Val.k,Val.n,Val.s,Val.ks] at ZJ ZK ZL hB1 hB2 h5 h8 iq;have kL:=cm es;have bz:=aP ks;refine eG 111 [.tmp 4] func207 rfl ntmps207 rfl fun _ _ _ _=>?_;refine br ?_ ?_<;>intro c
 ·have c:ag=5:=sU c;subst c;rw [ZJ rfl];refine (aae ?_:);simp only [pickB_and,bz];rfl
 have c5:¬ ag=5:=sU c;refine br ?_ ?_<;>intro c
 ·have c:ag=6:=sU c;subst c;rw [ZK rfl];refine (aae ?_:);simp only [pickB_and,bz];rw [show decide ((ks.length:Int)<=1)=decide (ks.length < 2) from decide_eq_decide.2 ⟨fun h=>by omega,fun h=>by omega⟩];rfl
 have c6:¬ ag=6:=sU c;refine br ?_ ?_<;>intro c
 ·have c:ag=7:=sU c;subst c;rw [ZL rfl];refine (aae ?_:);simp only [pickB_and,bz,kL];rw [show decide ((ks.length:Int)=es.length)=decide (ks.length=es.length) from decide_eq_decide.2 ⟨fun h=>by omega,fun h=>by omega⟩];rfl
 have c7:¬ ag=7:=sU c;refine br ?_ ?_<;>intro c
 ·have c:s≠au∨k≠8∨z < 0∨(es.length:Int)<=z:=by
   simp [ap,kL] at c;rcases c with ((c | c) | c) | c
   ·exact .inl c
   ·exact .inr (.inl c)
   ·exact .inr (.inr (.inl c))
   ·exact .inr (.inr (.inr c))
  rw [hB1 (by omega) c];exact (rfl:_=_)
 ·have c:¬ (s≠au∨k≠8∨z < 0∨(es.length:Int)<=z):=by
   simp [ap,kL] at c;rintro (h | h | h | h)
   ·exact h c.1.1.1
   ·exact h c.1.1.2
   ·omega
   ·omega
  obtain ⟨e,he⟩:∃ e,es[z.toNat]? = some e:=⟨_,gE (by omega)⟩;rw [hB2 (by omega) c e he];obtain ⟨en,eb,ea,et,vB,ew,lL,yP,yQ,tN⟩:=e;refine dI ?_;refine iX (bi he) ?_;refine (aae ?_:);simp only [pickB_and,bz];rw [show decide ((ks.length:Int)=0)=decide (ks.length=0) from decide_eq_decide.2 ⟨fun h=>by omega,fun h=>by omega⟩,show decide ((ks.length:Int) < 2)=decide (ks.length < 2) from decide_eq_decide.2 ⟨fun h=>by omega,fun h=>by omega⟩];rfl
theorem iH (v:Val) (k n:Int) (s:ByteArray):EvP prog 133 [.agg (aH v),.v (.int .i64 k),.v (.int .i64 n),.v (.string s)] (.v (.bool (cA v k n s))):=by
 obtain ⟨q,z,t,ks⟩:=v;have bz:=aP ks;refine eG 31 [.tmp 8] func133 rfl ntmps133 rfl fun _ _ _ _=>?_;refine (aae ?_:);unfold cA;simp only [pickB_and,bz];rw [show decide ((ks.length:Int)=0)=decide (ks.length=0) from decide_eq_decide.2 ⟨fun h=>by omega,fun h=>by omega⟩];rfl
theorem C1 (d:Nd) (v:Val) (h5:5<=d.ag) (h8:d.ag<=8) (iq:d.av.length<=1099511627776) (hv:v.wt<=1099511627776):EvP prog 132 [.agg (jt d),.agg (aH v)] (.v (.bool (shellF d v))):=by
 have hS:shellF d v=if v.k≠d.ag∨v.s≠au∨(d.ag≠8/\v.n≠0) then false
  else if d.ag=5 then decide ((v.ks.length:Int)<=d.most)
  else if d.ag=6 then decide (v.ks.length < 2)
  else if d.ag=7 then decide (v.ks.length=d.av.length)
  else if v.n < 0∨(d.av.length:Int)<=v.n then false
  else match d.av[v.n.toNat]? with
   | none=>false
   | some e=>if e.bare=true then decide (v.ks.length=0) else decide (v.ks.length=1):=rfl
 generalize shellF d v=B at hS ⊢;have hA0:(v.k≠d.ag∨v.s≠au∨(d.ag≠8/\v.n≠0))->B=false:=fun h=>by rw [hS,ai h]
 have ZJ:¬ (v.k≠d.ag∨v.s≠au∨(d.ag≠8/\v.n≠0))->d.ag=5->B=decide ((v.ks.length:Int)<=d.most):=fun h c=>by rw [hS,ah h,ai c]
 have ZK:¬ (v.k≠d.ag∨v.s≠au∨(d.ag≠8/\v.n≠0))->d.ag=6->B=decide (v.ks.length < 2):=fun h c=>by rw [hS,ah h,ah (by omega),ai c]
 have ZL:¬ (v.k≠d.ag∨v.s≠au∨(d.ag≠8/\v.n≠0))->d.ag=7->B=decide (v.ks.length=d.av.length):=fun h c=>by rw [hS,ah h,ah (by omega),ah (by omega),ai c]
 have hA8:¬ (v.k≠d.ag∨v.s≠au∨(d.ag≠8/\v.n≠0))->d.ag=8->(v.n < 0∨(d.av.length:Int)<=v.n)->B=false:=fun h c g=>by rw [hS,ah h,ah (by omega),ah (by omega),ah (by omega),ai g]
 have hA9:¬ (v.k≠d.ag∨v.s≠au∨(d.ag≠8/\v.n≠0))->d.ag=8->¬ (v.n < 0∨(d.av.length:Int)<=v.n)->∀ e,d.av[v.n.toNat]? = some e->B=if e.bare=true then decide (v.ks.length=0) else decide (v.ks.length=1):=fun h c g e he=>by rw [hS,ah h,ah (by omega),ah (by omega),ah (by omega),ah g,he]
 clear hS;obtain ⟨ag,aG,lo,hi,most,ZG,es⟩:=d;obtain ⟨k,z,s,ks⟩:=v;simp only [Val.k,Val.n,Val.s,Val.ks] at hA0 ZJ ZK ZL hA8 hA9 h5 h8 iq;have kL:=cm es;have bz:=aP ks;refine eG 77 [.tmp 4] func132 rfl ntmps132 rfl fun _ _ _ _=>?_;refine br ?_ ?_<;>intro c
 ·have c:k≠ag∨s≠au∨(ag≠8/\z≠0):=by
   simp [ap,pickB_and] at c;rcases c with (c | c) | c
   ·exact .inl c
   ·exact .inr (.inl c)
   ·exact .inr (.inr c)
  rw [hA0 c];exact (rfl:_=_)
 have eW:¬ (k≠ag∨s≠au∨(ag≠8/\z≠0)):=by
  simp [ap,pickB_and] at c;rintro (h | h | h)
  ·exact h c.1.1
  ·exact h c.1.2
  ·exact h.2 (c.2 h.1)
 refine br ?_ ?_<;>intro c
 ·have c:ag=5:=sU c;rw [ZJ eW c];refine (aae ?_:);simp only [bz];exact decide_eq_decide.2 Iff.rfl
 have c5:¬ ag=5:=sU c;refine br ?_ ?_<;>intro c
 ·have c:ag=6:=sU c;rw [ZK eW c];refine (aae ?_:);simp only [bz];exact decide_eq_decide.2 ⟨fun h=>by omega,fun h=>by omega⟩
 have c6:¬ ag=6:=sU c;refine br ?_ ?_<;>intro c
 ·have c:ag=7:=sU c;rw [ZL eW c];refine (aae ?_:);simp only [bz,kL];exact decide_eq_decide.2 ⟨fun h=>by omega,fun h=>by omega⟩
 have c7:¬ ag=7:=sU c;refine br ?_ ?_<;>intro c
 ·have c:z < 0∨(es.length:Int)<=z:=by simpa [ap,kL] using c
  rw [hA8 eW (by omega) c];exact (rfl:_=_)
 have c:¬ (z < 0∨(es.length:Int)<=z):=by simpa [ap,kL] using c
 obtain ⟨e,he⟩:∃ e,es[z.toNat]? = some e:=⟨_,gE (by omega)⟩;rw [hA9 eW (by omega) c e he];refine iX (bi he) ?_;obtain ⟨en,eb,ea,et,vB,ew,lL,yP,yQ,tN⟩:=e
 cases eb with
 | true=>
  refine (aae ?_:);simp only [bz,reduceIte];exact decide_eq_decide.2 ⟨fun h=>by omega,fun h=>by omega⟩
 | false=>
  refine (aae ?_:);simp only [bz];rw [ah (by simp)];exact decide_eq_decide.2 ⟨fun h=>by omega,fun h=>by omega⟩
theorem kK {v:Val} {k n:Int} {s:ByteArray} (h:0 < v.ks.length):cA v k n s=false:=by grind [cA]
theorem tmod_zero {z u:Int} (hu:1<=u):z.tmod u=0↔z % u=0:=by
 rw [<- Int.dvd_iff_tmod_eq_zero,<- Int.dvd_iff_emod_eq_zero]
theorem I5 {z u:Int} (hz : -9223372036854775808<=z) (hu:1<=u):((bK z u).2 && decide ((bK z u).1=z))=decide (z % u=0):=by
 rw [QY hu];have h1:=Int.emod_nonneg z (b:=u) (by omega);by_cases c:z - z % u < -9223372036854775808
 ·rw [ai c,decide_eq_false (show ¬ z % u=0 by omega)];rfl
 ·rw [ah c];show (true && decide (z - z % u=z))=_;rw [Bool.true_and];exact decide_eq_decide.2 ⟨fun h=>by omega,fun h=>by omega⟩
theorem mayF_1 {e:Ed} {d:Nd} {v:Val} (c:e.ck=1/\d.ag=2):jw e d v=if cA v 9 e.wide au=true then !(bK d.lo e.cn).2
  else cA v 10 v.n au && decide (v.n % e.cn=0) && (bK d.hi e.cn).2 && decide (v.n<=(bK d.hi e.cn).1) && (!(bK d.lo e.cn).2 || decide ((bK d.lo e.cn).1<=v.n)):=by
 unfold jw;rw [ai c]
theorem mayF_2 {e:Ed} {d:Nd} {v:Val} (c:e.ck=2/\d.ag=3):jw e d v=(cA v 11 0 v.s && decide ((v.s.size:Int)<=d.most) && decide (headL e.cn.toNat (tx v.s)=tx v.s)):=by grind [jw]
theorem mayF_3 {e:Ed} {d:Nd} {v:Val} (c:e.ck=3/\d.ag=5):jw e d v=(cA v 12 v.n au && decide (0<=v.n) && decide (v.n<=d.most)):=by grind [jw]
theorem mayF_0 {e:Ed} {d:Nd} {v:Val} (c1:¬ (e.ck=1/\d.ag=2)) (c2:¬ (e.ck=2/\d.ag=3)) (c3:¬ (e.ck=3/\d.ag=5)):jw e d v=cA v 9 e.wide au:=by grind [jw]
theorem Rt {e:Ed} {d:Nd} {v:Val} (h:0 < v.ks.length):jw e d v=false:=by grind [mayF_1,kK,mayF_2,mayF_3,mayF_0]
theorem oE {v:Val} {k n:Int} {s:ByteArray} (h:v.ks=[]):cA v k n s=(decide (v.k=k) && decide (v.n=n) && decide (v.s=s)):=by
 unfold cA;rw [h];exact Bool.and_true _
theorem mayF_9 {e:Ed} {d:Nd} {v:Val} (c:e.ck=1/\d.ag=2) (KJ:v.ks=[]) (h:v.k=9):jw e d v=(!(bK d.lo e.cn).2 && decide (v.n=e.wide) && decide (v.s=au)):=by grind [mayF_1,oE,au]
theorem mayF_10 {e:Ed} {d:Nd} {v:Val} (c:e.ck=1/\d.ag=2) (KJ:v.ks=[]) (h:¬ v.k=9) (hn : -9223372036854775808<=v.n) (Uj:1<=e.cn) :
  jw e d v=(decide (v.k=10) && decide (v.s=au) && (bK v.n e.cn).2 && decide ((bK v.n e.cn).1=v.n) && (bK d.hi e.cn).2 && (!(bK d.lo e.cn).2 || decide ((bK d.lo e.cn).1<=v.n)) && decide (v.n<=(bK d.hi e.cn).1)):=by
 rw [mayF_1 c,oE KJ,oE KJ,decide_eq_false h,<- I5 hn Uj];generalize (bK v.n e.cn).2=b1;generalize decide ((bK v.n e.cn).1=v.n)=b2;generalize (bK d.hi e.cn).2=b3;generalize decide (v.n<=(bK d.hi e.cn).1)=b4;generalize (!(bK d.lo e.cn).2 || decide ((bK d.lo e.cn).1<=v.n))=b5;generalize decide (v.k=10)=b6;generalize decide (v.s=au)=b7;rw [show decide (v.n=v.n)=true from decide_eq_true rfl];cases b1<;>cases b2<;>cases b3<;>cases b4<;>cases b5<;>cases b6<;>cases b7<;>rfl
theorem C2 (e:Ed) (d:Nd) (v:Val) (KJ:v.ks=[]) (YE:e.ck=1/\d.ag=2) (Uj:1<=e.cn) (hn : -9223372036854775808<=v.n/\v.n<=9223372036854775807) (hlo : -9223372036854775808<=d.lo/\d.lo<=9223372036854775807) (pg : -9223372036854775808<=d.hi/\d.hi<=9223372036854775807) (hc : -9223372036854775808<=e.cn/\e.cn<=9223372036854775807) :
  EvP prog 258 [.agg (uV e),.agg (jt d),.agg (aH v)] (.v (.bool (jw e d v))):=by
 have h1:=qj d.lo e.cn hlo hc;have h2:=qj v.n e.cn hn hc;have h3:=qj d.hi e.cn pg hc;have gy:=mayF_9 YE KJ;have rZ:=fun h=>mayF_10 YE KJ h hn.1 Uj;generalize jw e d v=B at gy rZ ⊢;unfold CA at h1 h2 h3;generalize bK d.lo e.cn=L at h1 gy rZ;generalize bK v.n e.cn=M at h2 rZ;generalize bK d.hi e.cn=H at h3 rZ;obtain ⟨L1,L2⟩:=L;obtain ⟨M1,M2⟩:=M;obtain ⟨H1,H2⟩:=H;obtain ⟨q,z,s,ks⟩:=v;obtain ⟨en,eb,ea,et,vB,ew,lL,yP,yQ,tN⟩:=e;obtain ⟨ag,aG,lo,hi,most,ZG,es⟩:=d;refine eG 90 [.tmp 6] func258 rfl ntmps258 rfl fun _ _ _ _=>?_;refine cP Ov h1 ?_;refine br ?_ ?_<;>intro c
 ·have c:q=9:=sU c;rw [gy c];refine (aae ?_:);simp only [pickB_and];rfl
 ·have c:¬ q=9:=sU c;rw [rZ c];refine cP Ov h2 ?_;refine cP Ov h3 ?_;refine (aae ?_:);simp only [pickB_and,ap];rfl
theorem Bm (e:Ed) (d:Nd) (v:Val) (Uj:e.ck=1->1<=e.cn) (hn : -9223372036854775808<=v.n/\v.n<=9223372036854775807) (hlo : -9223372036854775808<=d.lo/\d.lo<=9223372036854775807) (pg : -9223372036854775808<=d.hi/\d.hi<=9223372036854775807) (hc : -9223372036854775808<=e.cn/\e.cn<=9223372036854775807) (hv:v.wt<=1099511627776) :
  EvP prog 208 [.agg (uV e),.agg (jt d),.agg (aH v)] (.v (.bool (jw e d v))):=by
 have NT:=fun KJ YE=>C2 e d v KJ YE (Uj YE.1) hn hlo pg hc
 have bH:v.s.size<=1099511627776/\v.ks.length<=1099511627776:=by
  obtain ⟨k,n,s,ks⟩:=v;have:=b9 ks;rw [Val.wt] at hv;exact ⟨by show s.size<=_;omega,by show ks.length<=_;omega⟩
 have hh:=I3 v.s bH.1 e.cn hc.2;have hlen:=fun h=>Rt (e:=e) (d:=d) (v:=v) h;have rZ:=fun c=>mayF_2 (e:=e) (d:=d) (v:=v) c;have V9:=fun c=>mayF_3 (e:=e) (d:=d) (v:=v) c;have kg:=fun a b c=>mayF_0 (e:=e) (d:=d) (v:=v) a b c;have iJ:=fun k n s h=>oE (v:=v) (k:=k) (n:=n) (s:=s) h;generalize jw e d v=B at NT hlen rZ V9 kg ⊢;have YI:(e.ck=2/\d.ag=3)->v.ks=[]->B=(decide (v.k=11) && decide (v.n=0) && decide ((v.s.size:Int)<=d.most) && decide (headL e.cn.toNat (tx v.s)=tx v.s)):=fun c h=>by grind
 have aec:(e.ck=3/\d.ag=5)->v.ks=[]->B=(decide (v.k=12) && decide (v.s=au) && decide (0<=v.n) && decide (v.n<=d.most)):=fun c h=>by grind
 have uR:¬ (e.ck=1/\d.ag=2)->¬ (e.ck=2/\d.ag=3)->¬ (e.ck=3/\d.ag=5)->v.ks=[]->B=(decide (v.k=9) && decide (v.n=e.wide) && decide (v.s=au)):=fun a b c h=>by
  rw [kg a b c,iJ _ _ _ h]
 clear rZ V9 kg iJ;generalize headL e.cn.toNat (tx v.s)=HD at hh YI;obtain ⟨q,z,s,ks⟩:=v;simp only [Val.ks,Val.s] at NT hlen YI aec uR hh bH;have bz:=aP ks;obtain ⟨en,eb,ea,et,vB,ew,lL,yP,yQ,tN⟩:=e;obtain ⟨ag,aG,lo,hi,most,ZG,es⟩:=d;refine eG 104 [.tmp 6] func208 rfl ntmps208 rfl fun _ _ _ _=>?_;refine br ?_ ?_<;>intro c
 ·have c:0 < ks.length:=sV bz c;rw [hlen c];exact (rfl:_=_)
 have c0:ks=[]:=by simp_all
 refine br ?_ ?_<;>intro c
 ·have c:lL=1/\ag=2:=by simpa [pickB_and] using c
  have NT:=NT c0 c;refine cP abp NT ?_;exact (rfl:_=_)
 have c1:¬ (lL=1/\ag=2):=by simpa [pickB_and] using c
 refine br ?_ ?_<;>intro c
 ·have c:lL=2/\ag=3:=by simpa [pickB_and] using c
  have hB:B=((decide (q=11) && decide (z=0) && decide ((s.size:Int)<=most)) && decide (HD=tx s)):=YI c c0;have hbt:decide (ba HD=s)=decide (HD=tx s):=decide_eq_decide.2 ⟨fun h=>by rw [<- h,nY],fun h=>by rw [h,Aj]⟩;refine dI ?_;refine br ?_ ?_<;>intro g
  ·have g:(decide (q=11) && decide (z=0) && decide ((s.size:Int)<=most))=true:=by simpa [pickB_and] using g
   rw [g,Bool.true_and] at hB;refine cD abf hh ?_;refine (aae ?_:);rw [hB,<- hbt];rfl
  ·have g:(decide (q=11) && decide (z=0) && decide ((s.size:Int)<=most))=false:=by simpa [pickB_and] using g
   rw [g,Bool.false_and] at hB;rw [hB];exact (rfl:_=_)
 have c2:¬ (lL=2/\ag=3):=by simpa [pickB_and] using c
 refine br ?_ ?_<;>intro c
 ·have c:lL=3/\ag=5:=by simpa [pickB_and] using c
  rw [aec c c0];refine (aae ?_:);simp only [pickB_and];rfl
 have c3:¬ (lL=3/\ag=5):=by simpa [pickB_and] using c
 rw [uR c1 c2 c3 c0];refine (aae ?_:);simp only [pickB_and];rfl
theorem I6 (e:Ed) (d:Nd) (v:Val) (Uj:e.ck=1->1<=e.cn) (hn : -9223372036854775808<=v.n/\v.n<=9223372036854775807) (hlo : -9223372036854775808<=d.lo/\d.lo<=9223372036854775807) (pg : -9223372036854775808<=d.hi/\d.hi<=9223372036854775807) (hc : -9223372036854775808<=e.cn/\e.cn<=9223372036854775807) (hv:v.wt<=1099511627776) :
  EvP prog 136 [.agg (uV e),.agg (jt d),.agg (aH v)] (.v (.bool (jw e d v))):=by
 have h1:=rJ d.lo e.cn hlo hc;have h3:=rJ d.hi e.cn pg hc
 have bH:v.s.size<=1099511627776:=by
  obtain ⟨k,n,s,ks⟩:=v;rw [Val.wt] at hv;show s.size<=_;omega
 have hh:=uC e.cn.toNat v.s bH e.cn hc.2 rfl;have hp9:=iH v 9 e.wide au;have aed:=iH v 10 v.n au;have aee:=iH v 11 0 v.s;have aef:=iH v 12 v.n au;have gy:=fun c=>mayF_1 (e:=e) (d:=d) (v:=v) c;have rZ:=fun c=>mayF_2 (e:=e) (d:=d) (v:=v) c;have V9:=fun c=>mayF_3 (e:=e) (d:=d) (v:=v) c;have kg:=fun a b c=>mayF_0 (e:=e) (d:=d) (v:=v) a b c;have hmz:e.ck=1->decide (v.n.tmod (max e.cn 1)=0)=decide (v.n % e.cn=0):=fun h=>by grind [tmod_zero]
 generalize jw e d v=B at gy rZ V9 kg ⊢;generalize cA v 9 e.wide au=P9 at hp9 gy kg;generalize cA v 10 v.n au=P10 at aed gy;generalize cA v 11 0 v.s=P11 at aee rZ;generalize cA v 12 v.n au=P12 at aef V9;unfold CA at h1 h3;generalize bK d.lo e.cn=L at h1 gy;generalize bK d.hi e.cn=H at h3 gy;generalize headL e.cn.toNat (tx v.s)=HD at hh rZ;generalize decide (v.n % e.cn=0)=MZ at gy hmz;obtain ⟨L1,L2⟩:=L;obtain ⟨H1,H2⟩:=H;obtain ⟨q,z,s,ks⟩:=v;obtain ⟨en,eb,ea,et,vB,ew,lL,yP,yQ,tN⟩:=e;obtain ⟨ag,aG,lo,hi,most,ZG,es⟩:=d;refine eG 131 [.tmp 6] func136 rfl ntmps136 rfl fun _ _ _ _=>?_;refine br ?_ ?_<;>intro c
 ·have c:lL=1/\ag=2:=by simpa [pickB_and] using c
  have hB:=gy c;have hmz:=hmz c.1;have Bj:max yP 1≠0:=by omega
  refine cP UX h1 ?_;refine cP UX h3 ?_;refine cP zZ hp9 ?_
  cases P9 with
  | true=>
   rw [ai rfl] at hB;rw [hB];exact (rfl:_=_)
  | false=>
   rw [ah (by simp)] at hB;refine cP zZ aed ?_
   cases P10 with
   | true=>
    refine ⟨⟨rfl,Bj⟩,?_⟩;refine (aae ?_:);rw [hB];simp only [pickB_and,ap];have hmz':decide (z.tmod (max yP 1)=0)=MZ:=hmz;rw [hmz'];rfl
   | false=>
    rw [hB];exact (rfl:_=_)
 have c1:¬ (lL=1/\ag=2):=by simpa [pickB_and] using c
 refine br ?_ ?_<;>intro c
 ·have c:lL=2/\ag=3:=by simpa [pickB_and] using c
  have hB:B=(P11 && decide ((s.size:Int)<=most) && decide (HD=tx s)):=rZ c;have hbt:decide (ba HD=s)=decide (HD=tx s):=decide_eq_decide.2 ⟨fun h=>by rw [<- h,nY],fun h=>by rw [h,Aj]⟩;refine dI ?_;refine cD zZ aee ?_;refine br ?_ ?_<;>intro g
  ·have g:(P11 && decide ((s.size:Int)<=most))=true:=by simpa [pickB_and] using g
   rw [g,Bool.true_and] at hB;refine cD UY hh ?_;refine (aae ?_:);rw [hB,<- hbt];rfl
  ·have g:(P11 && decide ((s.size:Int)<=most))=false:=by simpa [pickB_and] using g
   rw [g,Bool.false_and] at hB;rw [hB];exact (rfl:_=_)
 have c2:¬ (lL=2/\ag=3):=by simpa [pickB_and] using c
 refine br ?_ ?_<;>intro c
 ·have c:lL=3/\ag=5:=by simpa [pickB_and] using c
  rw [V9 c];refine cP zZ aef ?_;refine (aae ?_:);simp only [pickB_and];rfl
 have c3:¬ (lL=3/\ag=5):=by simpa [pickB_and] using c
 rw [kg c1 c2 c3];refine cP zZ hp9 ?_;exact (rfl:_=_)
def edW (w:Int):Ed:=⟨au,false,0,0,0,w,0,0,0,0⟩
theorem YJ (w:Int) (d:Nd) (v:Val):jw (edW w) d v=cA v 9 w au:=by
 rw [mayF_0 (by rintro ⟨h,_⟩;cases h) (by rintro ⟨h,_⟩;cases h) (by rintro ⟨h,_⟩;cases h)];rfl
theorem yW {N:Nat} {ND:List Nd} {d:Nd} (hN:eD N ND.length d) {v:Val} (h:shellF d v=true) (c:d.ag=8) {m:Nat} (hm:m < v.ks.length):(0<=v.n/\v.n < d.av.length)/\m=0:=by grind [shellF_8]
def I7 (ND:List Nd) (f:Nat->Nat->Bool) (L cE:Nat) (d:Nd) (e:Ed) (a:Nat) (x:Val):Bool:=if tH f L cE d e a=2 then seeV ND f L cE x e.to (nD f L d e a) else if tH f L cE d e a=1 then (match cT ND e.to with | none=>false | some t=>jw e t x) else cA x 9 e.wide au
theorem Bn {ND:List Nd} {f:Nat->Nat->Bool} {L cE:Nat} {ks:List Val} {d:Nd} {z:Int} {a j m:Nat} {x:Val} {e:Ed} (h:ks[m]? = some x) (he:bY d z j=some e):seeVs ND f L cE (ks.drop m) d z a j=(I7 ND f L cE d e a x && seeVs ND f L cE (ks.drop (m + 1)) d z a (j + 1)):=by
 rw [ID h,he];rfl
abbrev M3 (PC LC:List DV) (cE a:Nat) (v:Val) (d:Nd) (e:Nat):St:=
 ⟨[aaa 2 a,aab 4 0,aab 7 1,aab 9 2,aad 38 4 (dVals v.ks),aaa 39 ((dVals v.ks).length),aaa 40 e],[ZF PC LC cE,aH v,jt d],[]⟩
theorem uF {S:Sch} {ND:List Nd} {PC LC:List DV} (hP:fw S ND PC) (hR:MH S.ae.length (bL S) (aA S.ae) LC) (Qk:∀ n∈ND,IV n) (bH:∀ n∈ND,n.av.length<=1099511627776) (cE:Nat) (ho:cE < S.ae.length) :
  ∀ (k:Nat) (v:Val),v.wt<=k->v.wt<=1099511627776->rngW v->∀ (i a:Nat),a < S.ae.length->i < ND.length ->
   EvP prog 125 [.agg (ZF PC LC cE),.v (.int .i64 i),.v (.int .i64 a),.agg (aH v)] (.v (.bool (seeV ND (bL S) S.ae.length cE v i a)))
 | 0,v,h,_=>by have:=v.dz;omega
 | k + 1,v,h,hb=>fun hr i a ha hi=>by
  have ih:=uF hP hR Qk bH cE ho k;have hL:=hR.ok;obtain ⟨d,hg⟩:∃ d,ND[i]? = some d:=⟨_,gE hi⟩;have hnd:cT ND (i:Int)=some d:=by grind [cT]
  have pO:=mG hg;have hN:=hP.ok d pO;have ep:=hP.aj i d hg;have Ru:=bH d pO;have YK:=Qk d pO;have NA:=yx hP _ v (aO _) hb i;have NB:=fun h5=>Gh d v h5 hN.k8 Ru hb;have I8:=fun h5 hs m hm=>tI hN h5 (v:=v) hs (m:=m) hm;have I9:=fun hs c m hm=>yW hN (v:=v) hs c (m:=m) hm
  have hV:seeV ND (bL S) S.ae.length cE v i a=if d.ag < 5 then fitV ND v i else shellF d v && seeVs ND (bL S) S.ae.length cE v.ks d v.n a 0:=by
   obtain ⟨q,z,s,ks⟩:=v;rw [seeV,hnd];rfl
  have YL:d.ag < 5->seeV ND (bL S) S.ae.length cE v i a=fitV ND v i:=fun c=>by rw [hV,ai c]
  have C3:¬ d.ag < 5->seeV ND (bL S) S.ae.length cE v i a=(shellF d v && seeVs ND (bL S) S.ae.length cE v.ks d v.n a 0):=fun c=>by rw [hV,ah c]
  clear hV;generalize seeV ND (bL S) S.ae.length cE v i a=B at YL C3 ⊢;generalize fitV ND v i=F at NA YL;generalize shellF d v=SH at NB I8 I9 C3;obtain ⟨vk,vn,vs,ks⟩:=v;have ir:=b9 ks;have bz:=aP ks;rw [Val.wt] at h hb;have hrk:=KR hr;simp only [Val.ks,Val.n] at C3 hrk I8 I9;obtain ⟨ag,aG,lo,dY,most,af,es⟩:=d;refine eG 90 [.tmp 8] func125 rfl ntmps125 rfl fun _ _ _ _=>?_;refine cP sI ep ?_;refine br ?_ ?_<;>intro c
  ·have c:ag < 5:=sU c;rw [YL c];refine cP aaD NA ?_;exact (rfl:_=_)
  have c5:¬ ag < 5:=sU c;have C3:=C3 c5;have h5:5<=ag:=by omega
  have NB:=NB h5;refine cP abd NB ?_
  cases SH with
  | false=>
   rw [Bool.false_and] at C3;rw [C3];exact (rfl:_=_)
  | true=>
   rw [Bool.true_and] at C3;refine lI (fun t st=>∃ e:Nat,st=M3 PC LC cE a (.mk vk vn vs ks) ⟨ag,aG,lo,dY,most,af,es⟩ e/\e<=ks.length/\B=seeVs ND (bL S) S.ae.length cE (ks.drop e) ⟨ag,aG,lo,dY,most,af,es⟩ vn a e/\t=ks.length - e) ⟨0,rfl,by omega,C3,rfl⟩ (QT 3 qT kr) ?_;rintro t st ⟨e,rfl,he,hE,rfl⟩;refine br ?_ ?_<;>intro jr
   ·have aq:e < ks.length:=by simpa [bz,Val.ks] using jr
    obtain ⟨x,hx⟩:=gX aq;obtain ⟨ed,hK⟩:=I8 h5 rfl e aq;have hm:=mG hx;have Yw:=cS hm;have um:=mf hrk hm;obtain ⟨h1,t2,h2⟩:=QX hN hK.mem hK.bare;obtain ⟨_,Dd⟩:=de h2;have fi:=(gS Dd).1;have kP:ed.to=(ed.to.toNat:Nat):=by omega
    have Ja:=Qk t2 (mG Dd);have Rw:=hP.aj ed.to.toNat t2 Dd;rw [<- kP] at Rw;rw [Bn hx hK.n5] at hE;have pG:=I2 hR PC cE a ha ⟨ag,aG,lo,dY,most,af,es⟩ (.mk vk vn vs ks) e ed hK.n5 hK.mem hN h5 (fun c=>I9 rfl c e aq) Ru;have hU:=KN hL hN hK.mem ha;have Rx:=yU hR PC cE (nD (bL S) S.ae.length ⟨ag,aG,lo,dY,most,af,es⟩ ed a) ho hU;have ZM:=yV hR PC cE a ho ha ⟨ag,aG,lo,dY,most,af,es⟩ ed hN hK.mem;have YM:=YK.2.2 ed hK.mem;have YN:=(hN.n5 ed hK.mem).cn.2.1;have Ry:=Bm ed t2 x YN (II um) Ja.1 Ja.2.1 YM (by omega);have Rz:=Bm (edW ed.wide) t2 x (fun h=>by cases h) (II um) Ja.1 Ja.2.1 ⟨by show (-9223372036854775808:Int)<=0;decide,by show (0:Int)<=9223372036854775807;decide⟩ (by omega);rw [YJ] at Rz;have jX:=ih x (by omega) (by omega) um ed.to.toNat (nD (bL S) S.ae.length ⟨ag,aG,lo,dY,most,af,es⟩ ed a) hU fi;rw [<- kP] at jX
    have rW:I7 ND (bL S) S.ae.length cE ⟨ag,aG,lo,dY,most,af,es⟩ ed a x=if bL S (nD (bL S) S.ae.length ⟨ag,aG,lo,dY,most,af,es⟩ ed a) cE=true then seeV ND (bL S) S.ae.length cE x ed.to (nD (bL S) S.ae.length ⟨ag,aG,lo,dY,most,af,es⟩ ed a) else if (decide (ed.ck≠0) && bL S (uv (bL S) S.ae.length a ed.seen.toNat) cE)=true then jw ed t2 x else cA x 9 ed.wide au:=by
     unfold I7;rw [TU,h2];by_cases g1:bL S (nD (bL S) S.ae.length ⟨ag,aG,lo,dY,most,af,es⟩ ed a) cE=true
     ·simp only [ai g1,reduceIte]
     ·grind
    generalize I7 ND (bL S) S.ae.length cE ⟨ag,aG,lo,dY,most,af,es⟩ ed a x=KS at hE rW;generalize nD (bL S) S.ae.length ⟨ag,aG,lo,dY,most,af,es⟩ ed a=U at pG Rx jX rW;generalize bL S U cE=b1 at Rx rW;generalize (decide (ed.ck≠0) && bL S (uv (bL S) S.ae.length a ed.seen.toNat) cE)=b2 at ZM rW;generalize seeV ND (bL S) S.ae.length cE x ed.to U=R1 at jX rW;generalize jw ed t2 x=R2 at Ry rW;generalize cA x 9 ed.wide au=R3 at Rz rW;have tj:KS=false->B=false:=fun h=>by rw [hE,h,Bool.false_and]
    have nF:KS=true->∃ j',j' < ks.length - e/\∃ e',M3 PC LC cE a (.mk vk vn vs ks) ⟨ag,aG,lo,dY,most,af,es⟩ (e + 1)=M3 PC LC cE a (.mk vk vn vs ks) ⟨ag,aG,lo,dY,most,af,es⟩ e' /\ e' <= ks.length/\B=seeVs ND (bL S) S.ae.length cE (ks.drop e') ⟨ag,aG,lo,dY,most,af,es⟩ vn a e' /\ j'=ks.length - e':=fun h=>⟨ks.length - (e + 1),by omega,e + 1,rfl,by omega,by rw [hE,h,Bool.true_and],rfl⟩;obtain ⟨xk,xn,xs,Bo⟩:=x;obtain ⟨en,eb,ea,et,vB,ew,lL,yP,yQ,tN⟩:=ed;obtain ⟨kind2,at2,lo2,qz,most2,ah1,es2⟩:=t2;clear hE;refine iX (bf hx) ?_;refine cP aaZ pG ?_;refine cP sI Rw ?_;refine cP UO Rx ?_
    cases b1 with
    | true=>
     refine cP UM jX ?_
     cases R1 with
     | false=>
      have hB:=tj (by rw [rW];rfl);rw [hB];exact (rfl:_=_)
     | true=>
      obtain ⟨j',g1,g2⟩:=nF (by rw [rW];rfl);exact ⟨M3 PC LC cE a (.mk vk vn vs ks) ⟨ag,aG,lo,dY,most,af,es⟩ (e + 1),(QT 3 (nG (nxt aq (by omega))) (wB1 (nxt aq (by omega)))),j',g1,g2⟩
    | false=>
     refine cP aa0 ZM ?_
     cases b2 with
     | true=>
      refine cP UW Ry ?_
      cases R2 with
      | false=>
       have hB:=tj (by rw [rW];rfl);rw [hB];exact (rfl:_=_)
      | true=>
       obtain ⟨j',g1,g2⟩:=nF (by rw [rW];rfl);exact ⟨M3 PC LC cE a (.mk vk vn vs ks) ⟨ag,aG,lo,dY,most,af,es⟩ (e + 1),(QT 3 (nG (nxt aq (by omega))) (wB1 (nxt aq (by omega)))),j',g1,g2⟩
     | false=>
      refine cP UW Rz ?_
      cases R3 with
      | false=>
       have hB:=tj (by rw [rW];rfl);rw [hB];exact (rfl:_=_)
      | true=>
       obtain ⟨j',g1,g2⟩:=nF (by rw [rW];rfl);exact ⟨M3 PC LC cE a (.mk vk vn vs ks) ⟨ag,aG,lo,dY,most,af,es⟩ (e + 1),(QT 3 (nG (nxt aq (by omega))) (wB1 (nxt aq (by omega)))),j',g1,g2⟩
   ·have aS:e=ks.length:=by have:=jr;simp [bz,Val.ks] at this;omega
    subst aS;rw [List.drop_length,seeVs] at hE;rw [hE];exact (rfl:_=_)
def yX (ND:List Nd) (f:Nat->Nat->Bool) (n rt:Nat) (o:Int) (v:Val):Bool:=decide (0<=o/\o < n) && seeV ND f n o.toNat v rt (po f n)
theorem oF {S:Sch} {ND:List Nd} {PC LC:List DV} (hP:fw S ND PC) (nh:EvP prog 72 [.pt PC 0] (.pt LC 0)) (hR:MH S.ae.length (bL S) (aA S.ae) LC) (hrS:∀ n∈ND,IV n) (bH:∀ n∈ND,n.av.length<=1099511627776) (rt:Nat) (zc:dV S=rt) (gV:rt < ND.length) (o:Int) (v:Val) (hv:v.wt<=1099511627776) (JY:rngW v) :
  EvP prog 58 [.pt PC 0,.v (.int .i64 o),.agg (aH v)] (.v (.bool (yX ND (bL S) S.ae.length rt o v))):=by
 have Ny:=I4 nh hR o;have gC:=hP.root;rw [zc] at gC;have EF:=hR.bot;have hs:=fun (cE:Nat) (ho:cE < S.ae.length)=>uF hP hR hrS bH cE ho _ v (aO _) hv JY rt (po (bL S) S.ae.length) (CM hR.ok) gV;have hS:yX ND (bL S) S.ae.length rt o v=(decide (0<=o/\o < S.ae.length) && seeV ND (bL S) S.ae.length o.toNat v rt (po (bL S) S.ae.length)):=rfl;generalize yX ND (bL S) S.ae.length rt o v=SF at hS ⊢;by_cases ho:0<=o/\o < S.ae.length
 ·obtain ⟨ob,rfl⟩:∃ n:Nat,o=n:=⟨_,(Int.toNat_of_nonneg ho.1).symm⟩;have hs:=hs ob (by omega);rw [show decide (0<=(ob:Int)/\(ob:Int) < (S.ae.length:Int))=true from decide_eq_true ho] at Ny hS;rw [iW,Bool.true_and] at hS;rw [<- hS] at hs;generalize po (bL S) S.ae.length=bt at EF hs;obtain ⟨k,n,s,ks⟩:=v;refine eG 26 [.tmp 6] func58 rfl ntmps58 rfl fun _ _ _ _=>?_;refine cP aaC Ny ?_;refine dI ?_;refine cD Oc gC ?_;refine cD Xa EF ?_;refine cD UM hs ?_;exact (rfl:_=_)
 ·rw [show decide (0<=o/\o < (S.ae.length:Int))=false from decide_eq_false ho] at Ny hS;rw [Bool.false_and] at hS;rw [hS];obtain ⟨k,n,s,ks⟩:=v;refine eG 26 [.tmp 6] func58 rfl ntmps58 rfl fun _ _ _ _=>?_;refine cP aaC Ny ?_;refine dI ?_;exact (rfl:_=_)
abbrev tO (W:List DV) (v:Val) (cE a:Nat) (d:Nd) (e:Nat):St:=
 ⟨[aaa 1 cE,aaa 3 a,aab 5 0,aab 9 1,aab 11 2,aaa 12 e],[W,aH v,jt d],[]⟩
theorem uG (lv:List Wd) (f:Nat->Nat->Bool) (ND:List Nd) (z:Int) (hL:fk f lv.length) (hn:lv.length<=32) (bZ:∀ n∈ND,eD lv.length ND.length n) (bH:∀ n∈ND,n.av.length<=1099511627776) (Qk:∀ n∈ND,IV n) (cE:Nat) (ho:cE < lv.length) :
  ∀ (k:Nat) (v:Val),v.wt<=k->v.wt<=1099511627776->rngW v->∀ (i a:Nat),a < lv.length->i < ND.length ->
   EvP prog 61 [.agg (wL lv f ND z),.v (.int .i64 cE),.v (.int .i64 i),.v (.int .i64 a),.agg (aH v)] (.v (.bool (seeV ND f lv.length cE v i a)))
 | 0,v,h,_=>by have:=v.dz;omega
 | k + 1,v,h,hb=>fun hr i a ha hi=>by
  have ih:=uG lv f ND z hL hn bZ bH Qk cE ho k;obtain ⟨d,hg⟩:∃ d,ND[i]? = some d:=⟨_,gE hi⟩;have hnd:cT ND (i:Int)=some d:=by grind [cT]
  have pO:=mG hg;have hN:=bZ d pO;have Ru:=bH d pO;have YK:=Qk d pO;have NA:=uB 2 1 (bJ lv) (dj (dW lv.length f)) z bZ v.wt v (aO _) hb i;rw [<- QR bZ] at NA;have NB:=fun h5=>C1 d v h5 hN.k8 Ru hb;have I8:=fun h5 hs m hm=>tI hN h5 (v:=v) hs (m:=m) hm;have I9:=fun hs c m hm=>yW hN (v:=v) hs c (m:=m) hm
  have hV:seeV ND f lv.length cE v i a=if d.ag < 5 then fitV ND v i else shellF d v && seeVs ND f lv.length cE v.ks d v.n a 0:=by
   obtain ⟨q,z,s,ks⟩:=v;rw [seeV,hnd];rfl
  have YL:d.ag < 5->seeV ND f lv.length cE v i a=fitV ND v i:=fun c=>by rw [hV,ai c]
  have C3:¬ d.ag < 5->seeV ND f lv.length cE v i a=(shellF d v && seeVs ND f lv.length cE v.ks d v.n a 0):=fun c=>by rw [hV,ah c]
  clear hV;generalize seeV ND f lv.length cE v i a=B at YL C3 ⊢;generalize fitV ND v i=F at NA YL;generalize shellF d v=SH at NB I8 I9 C3;obtain ⟨vk,vn,vs,ks⟩:=v;have ir:=b9 ks;have bz:=aP ks;rw [Val.wt] at h hb;have hrk:=KR hr;simp only [Val.ks,Val.n] at C3 hrk I8 I9;have YO:=fun e (he:e∈d.av)=>rV lv f ND z hL hn d e a ha hN he;have hhow:=fun e (he:e∈d.av)=>I1 lv f ND z hL hn d e cE a ho ha hN he;obtain ⟨ag,aG,lo,dY,most,af,es⟩:=d;refine eG 90 [.tmp 10] func61 rfl ntmps61 rfl fun _ _ _ _=>?_;refine iX (gD hg) ?_;refine br ?_ ?_<;>intro c
  ·have c:ag < 5:=sU c;rw [YL c];refine cP aaG NA ?_;exact (rfl:_=_)
  have c5:¬ ag < 5:=sU c;have C3:=C3 c5;have h5:5<=ag:=by omega
  have NB:=NB h5;refine cP aaU NB ?_
  cases SH with
  | false=>
   rw [Bool.false_and] at C3;rw [C3];exact (rfl:_=_)
  | true=>
   rw [Bool.true_and] at C3;refine lI (fun t st=>∃ e:Nat,st=tO (wL lv f ND z) (.mk vk vn vs ks) cE a ⟨ag,aG,lo,dY,most,af,es⟩ e/\e<=ks.length/\B=seeVs ND f lv.length cE (ks.drop e) ⟨ag,aG,lo,dY,most,af,es⟩ vn a e/\t=ks.length - e) ⟨0,rfl,by omega,C3,rfl⟩ (QT 3 qT kr) ?_;rintro t st ⟨e,rfl,he,hE,rfl⟩;refine br ?_ ?_<;>intro jr
   ·have aq:e < ks.length:=by simpa [bz,Val.ks] using jr
    obtain ⟨x,hx⟩:=gX aq;obtain ⟨ed,hK⟩:=I8 h5 rfl e aq;have hm:=mG hx;have Yw:=cS hm;have um:=mf hrk hm;obtain ⟨h1,t2,h2⟩:=QX hN hK.mem hK.bare;obtain ⟨_,Dd⟩:=de h2;have fi:=(gS Dd).1;have kP:ed.to=(ed.to.toNat:Nat):=by omega
    have Ja:=Qk t2 (mG Dd);rw [Bn hx hK.n5] at hE;have pG:=uD ⟨ag,aG,lo,dY,most,af,es⟩ (.mk vk vn vs ks) e ed hK.n5 (fun c=>(I9 rfl c e aq).1) Ru;have DN:=YO ed hK.mem;have hho:=hhow ed hK.mem;have YM:=YK.2.2 ed hK.mem;have YN:=(hN.n5 ed hK.mem).cn.2.1;have Ry:=I6 ed t2 x YN (II um) Ja.1 Ja.2.1 YM (by omega);have iJ:=iH x 9 ed.wide au;have jX:=ih x (by omega) (by omega) um ed.to.toNat (nD f lv.length ⟨ag,aG,lo,dY,most,af,es⟩ ed a) (KN hL hN hK.mem ha) fi;rw [<- kP] at jX
    have rW:I7 ND f lv.length cE ⟨ag,aG,lo,dY,most,af,es⟩ ed a x=if tH f lv.length cE ⟨ag,aG,lo,dY,most,af,es⟩ ed a=2 then seeV ND f lv.length cE x ed.to (nD f lv.length ⟨ag,aG,lo,dY,most,af,es⟩ ed a) else if tH f lv.length cE ⟨ag,aG,lo,dY,most,af,es⟩ ed a=1 then jw ed t2 x else cA x 9 ed.wide au:=by
     unfold I7;rw [h2]
    generalize I7 ND f lv.length cE ⟨ag,aG,lo,dY,most,af,es⟩ ed a x=KS at hE rW;generalize tH f lv.length cE ⟨ag,aG,lo,dY,most,af,es⟩ ed a=H at hho rW;generalize seeV ND f lv.length cE x ed.to (nD f lv.length ⟨ag,aG,lo,dY,most,af,es⟩ ed a)=R1 at jX rW;generalize jw ed t2 x=R2 at Ry rW;generalize cA x 9 ed.wide au=R3 at iJ rW;have tj:KS=false->B=false:=fun h=>by rw [hE,h,Bool.false_and]
    have nF:KS=true->∃ j',j' < ks.length - e/\∃ e',tO (wL lv f ND z) (.mk vk vn vs ks) cE a ⟨ag,aG,lo,dY,most,af,es⟩ (e + 1)=tO (wL lv f ND z) (.mk vk vn vs ks) cE a ⟨ag,aG,lo,dY,most,af,es⟩ e' /\ e' <= ks.length/\B=seeVs ND f lv.length cE (ks.drop e') ⟨ag,aG,lo,dY,most,af,es⟩ vn a e' /\ j'=ks.length - e':=fun h=>⟨ks.length - (e + 1),by omega,e + 1,rfl,by omega,by rw [hE,h,Bool.true_and],rfl⟩;obtain ⟨xk,xn,xs,Bo⟩:=x;clear hE;refine cP aaA pG ?_;refine dI ?_;refine iX (bf hx) ?_;refine cD zZ iJ ?_;refine cP aaV hho ?_;refine br ?_ ?_<;>intro c
    ·have c:H=2:=by
      have:=of_decide_eq_true c;omega
     rw [ai c] at rW;refine dI ?_;refine cD UN DN ?_;refine iX (bf hx) ?_;refine cD aaz jX ?_
     cases R1 with
     | false=>
      have hB:=tj (by rw [rW]);rw [hB];exact (rfl:_=_)
     | true=>
      obtain ⟨j',g1,g2⟩:=nF (by rw [rW]);exact ⟨tO (wL lv f ND z) (.mk vk vn vs ks) cE a ⟨ag,aG,lo,dY,most,af,es⟩ (e + 1),(QT 3 (nG (nxt aq (by omega))) (wB1 (nxt aq (by omega)))),j',g1,g2⟩
    ·have c2:¬ H=2:=by
      have:=of_decide_eq_false c;omega
     rw [ah c2] at rW;refine br ?_ ?_<;>intro c
     ·have c:H=1:=by
       have:=of_decide_eq_true c;omega
      rw [ai c] at rW;refine dI ?_;refine iX (gD Dd) ?_;refine iX (bf hx) ?_;refine cD aaW Ry ?_
      cases R2 with
      | false=>
       have hB:=tj (by rw [rW]);rw [hB];exact (rfl:_=_)
      | true=>
       obtain ⟨j',g1,g2⟩:=nF (by rw [rW]);exact ⟨tO (wL lv f ND z) (.mk vk vn vs ks) cE a ⟨ag,aG,lo,dY,most,af,es⟩ (e + 1),(QT 3 (nG (nxt aq (by omega))) (wB1 (nxt aq (by omega)))),j',g1,g2⟩
     ·have c1:¬ H=1:=by
       have:=of_decide_eq_false c;omega
      rw [ah c1] at rW
      cases R3 with
      | false=>
       have hB:=tj (by rw [rW]);rw [hB];exact (rfl:_=_)
      | true=>
       obtain ⟨j',g1,g2⟩:=nF (by rw [rW]);exact ⟨tO (wL lv f ND z) (.mk vk vn vs ks) cE a ⟨ag,aG,lo,dY,most,af,es⟩ (e + 1),(QT 3 (nG (nxt aq (by omega))) (wB1 (nxt aq (by omega)))),j',g1,g2⟩
   ·have aS:e=ks.length:=by have:=jr;simp [bz,Val.ks] at this;omega
    subst aS;rw [List.drop_length,seeVs] at hE;rw [hE];exact (rfl:_=_)
theorem yY (lv:List Wd) (f:Nat->Nat->Bool) (ND:List Nd) (rt:Nat) (gV:rt < ND.length) (hL:fk f lv.length) (hn:lv.length<=32) (bZ:∀ n∈ND,eD lv.length ND.length n) (bH:∀ n∈ND,n.av.length<=1099511627776) (Qk:∀ n∈ND,IV n) (o:Int) (v:Val) (hv:v.wt<=1099511627776) (JY:rngW v) :
  EvP prog 14 [.agg (wL lv f ND (rt:Nat)),.v (.int .i64 o),.agg (aH v)] (.v (.bool (yX ND f lv.length rt o v))):=by
 have hb:=zE lv.length f (by omega);rw [tG hL] at hb;have eP:=ib lv.length f;have hs:=fun (cE:Nat) (ho:cE < lv.length)=>uG lv f ND (rt:Nat) hL hn bZ bH Qk cE ho _ v (aO _) hv JY rt (po f lv.length) (CM hL) gV;have hS:yX ND f lv.length rt o v=(decide (0<=o/\o < lv.length) && seeV ND f lv.length o.toNat v rt (po f lv.length)):=rfl;generalize yX ND f lv.length rt o v=SF at hS ⊢;by_cases ho:0<=o/\o < lv.length
 ·obtain ⟨ob,rfl⟩:∃ n:Nat,o=n:=⟨_,(Int.toNat_of_nonneg ho.1).symm⟩;have hs:=hs ob (by omega);rw [show decide (0<=(ob:Int)/\(ob:Int) < (lv.length:Int))=true from decide_eq_true ho,iW,Bool.true_and] at hS;rw [<- hS] at hs;obtain ⟨k,n,s,ks⟩:=v;refine eG 27 [.tmp 6] func14 rfl ntmps14 rfl fun _ _ _ _=>?_;refine dI ?_;refine br (fun _=>?_) (fun c=>absurd c (by simp [pickB_and,eP];omega));refine cD en62 hb ?_;refine cD aaz hs ?_;exact (rfl:_=_)
 ·rw [show decide (0<=o/\o < (lv.length:Int))=false from decide_eq_false ho,Bool.false_and] at hS;rw [hS];obtain ⟨k,n,s,ks⟩:=v;refine eG 27 [.tmp 6] func14 rfl ntmps14 rfl fun _ _ _ _=>?_;refine dI ?_;refine br (fun c=>absurd c (by simp [pickB_and,eP];omega)) (fun _=>?_);exact (rfl:_=_)
section
variable {ND:List Nd} {f:Nat->Nat->Bool} {L cE:Nat}
theorem Uk {v:Val} {i:Int} {d:Nd} (hd:cT ND i=some d) (h9:9<=v.k) (hb:cJ v=true) (hk:v.ks=[]):gm ND v i=true:=by
 obtain ⟨k,n,s,ks⟩:=v;have hk:ks=[]:=hk;subst hk;have h9:9<=k:=h9
 grind [gm]
theorem jz {v:Val} {i:Int} {d:Nd} {k n:Int} {s:ByteArray} (hd:cT ND i=some d) (h:cA v k n s=true) (hk:(k=9/\1<=n/\n<=64)∨k=10∨k=11∨k=12):gm ND v i=true:=by
 rw [IE.1 h];refine Uk hd (by show 9<=k;omega) ?_ rfl
 grind [cJ,Val.k,Val.n]
theorem Ul {v:Val} {i:Int} {d:Nd} {e:Ed} {t:Nd} (hd:cT ND i=some d) (hw:1<=e.wide/\e.wide<=64) (h:jw e t v=true):gm ND v i=true:=by grind [jw,jz]
mutual
theorem K5 (bZ:∀ n∈ND,eD L ND.length n):∀ (v:Val) (i:Int) (a:Nat),seeV ND f L cE v i a=true->gm ND v i=true
 | .mk k n s ks,i,a,h=>by
  rw [seeV] at h
  cases hd:cT ND i with
  | none=>rw [hd] at h;cases h
  | some d=>
   rw [hd] at h;simp only at h;have hN:=bZ d (mG (de hd).2);have A5:=hN.k8;rw [gm,hd];simp only;split at h
   ·rename_i c5;obtain ⟨d',hF⟩:=MF bZ h;have ZE:=hF.aj;rw [hd] at ZE;injection ZE with ZE
    subst ZE;have h1:k=d.ag:=hF.k;have h2:ks=[]:=hF.leaf c5;have h3:=hF.enum;rw [ah (by omega),ah (by omega),ai c5,h2];simp only [decide_true,Bool.true_and,Bool.or_eq_true,decide_eq_true_iff];by_cases c4:k=4
    ·exact .inr (h3 (by omega))
    ·exact .inl c4
   ·rename_i c5;rw [aD] at h
    have hk:k=d.ag:=by
     by_cases c:k=d.ag
     ·exact c
     ·have:=h.1;unfold shellF at this;rw [ai (.inl c)] at this;cases this
    rw [ah (by omega),ah (by omega),ah c5,aD];exact ⟨h.1,Gi bZ ks d n a 0 hN (fun m hm=>by rw [Nat.zero_add];exact tI hN (by omega) h.1 hm) h.2⟩
theorem Gi (bZ:∀ n∈ND,eD L ND.length n):∀ (l:List Val) (d:Nd) (z:Int) (a j:Nat),eD L ND.length d->(∀ m,m < l.length->∃ e,adJ ND d z (j + m) e)->seeVs ND f L cE l d z a j=true->iG ND l d z j=true
 | [],_,_,_,_,_,_,_=>by rw [iG]
 | x :: r,d,z,a,j,hN,hK,h=>by
  rw [seeVs,aD] at h;rw [iG,aD];refine ⟨?_,Gi bZ r d z a (j + 1) hN (fun m hm=>by have:=hK (m + 1) (by rw [List.length_cons];omega);rwa [show j + (m + 1)=j + 1 + m by omega] at this) h.2⟩;obtain ⟨e,hE⟩:=hK 0 (by simp);have he:=hE.n5;rw [Nat.add_zero] at he;have h1:=h.1;rw [he] at h1 ⊢;simp only at h1 ⊢;obtain ⟨g1,t,ht⟩:=QX hN hE.mem hE.bare;have hw:=(hN.n5 e hE.mem).wide;split at h1
  ·exact K5 bZ x e.to _ h1
  ·grind [Ul,jz]
end
theorem yZ (bZ:∀ n∈ND,eD L ND.length n) {rt:Nat} {o:Int} {v:Val} (h:yX ND f L rt o v=true):gm ND v (rt:Nat)=true:=by grind [yX,K5]
end
section
variable (ND:List Nd) (ind:Int)
end
section
variable {ND:List Nd} {ind:Int}
end
abbrev zD:List DV:=[.v (.int .i64 0),.v (.int .i64 0),.v (.string au),.v (.slice none 0 0)]
theorem Jb (x y:Val):EvP prog 145 [.agg (aH x),.agg (aH y)] (.v (.bool (yK x y))):=by
 have h1:=aP x.ks;have h2:=aP y.ks;obtain ⟨xk,xn,xs,xl⟩:=x;obtain ⟨yk,yn,ys,yl⟩:=y;simp only [Val.ks] at h1 h2;refine eG 38 [.tmp 4] func145 rfl ntmps145 rfl fun _ _ _ _=>?_;refine (aae ?_:);rw [show yK (.mk xk xn xs xl) (.mk yk yn ys yl)=(decide (xk=yk) && (decide (xn=yn) && (decide (xs=ys) && (decide (xl.length=yl.length) || decide (xk=5))))) from rfl];simp [pickB_and,ap,h1,h2,Bool.and_assoc,Int.ofNat_inj]
theorem nq (d:Nd) (v:Val) (j:Nat) (hk:v.k=d.ag) (h5:5<=d.ag) (h8':d.ag<=8) (h7:d.ag=7->j < d.av.length) (h8:d.ag=8->0<=v.n/\v.n < d.av.length) :
  EvP prog 148 [.agg (jt d),.agg (aH v),.v (.int .i64 j)] (.agg (lH (stpR d v j))):=by
 obtain ⟨ag,aG,lo,hi,most,af,es⟩:=d;obtain ⟨q,z,s,ks⟩:=v;have kL:=cm es;simp only [Val.n,Val.k] at hk h5 h7 h8 h8';subst hk
 have hS:stpR ⟨q,aG,lo,hi,most,af,es⟩ (.mk q z s ks) j=if q=5 then ⟨2,j,au⟩
  else if q=6 then ⟨4,0,au⟩
  else if q=7 then ⟨1,0,match es[j]? with | some e=>e.name | none=>au⟩
  else ⟨5,0,match es[z.toNat]? with | some e=>e.name | none=>au⟩:=rfl
 rw [hS];refine eG 33 [.cell 6 141] func148 rfl ntmps148 rfl fun _ _ _ _=>?_;refine br ?_ ?_<;>intro c
 ·have c:q=7:=sU c;subst c;obtain ⟨e,he⟩:∃ e,es[j]? = some e:=⟨_,gE (h7 rfl)⟩;rw [ah (by omega),ah (by omega),ai rfl,he];have h7:=h7 rfl;refine iX (bi he) ?_;exact ⟨_,ax,rfl⟩
 have c7:¬ q=7:=sU c;refine br ?_ ?_<;>intro c
 ·have c:q=8:=sU c;subst c;have h8:=h8 rfl;obtain ⟨m,rfl⟩:∃ m:Nat,z=m:=⟨z.toNat,by omega⟩;obtain ⟨e,he⟩:∃ e,es[m]? = some e:=⟨_,gE (by omega)⟩;rw [ah (by omega),ah (by omega),ah (by omega),iW,he];refine iX (bi he) ?_;exact ⟨_,ax,rfl⟩
 have c8:¬ q=8:=sU c;refine br ?_ ?_<;>intro c
 ·have c:q=5:=sU c;rw [ai c];exact ⟨_,ax,rfl⟩
 have c5:¬ q=5:=sU c;rw [ah c5,ai (by omega)];exact ⟨_,ax,rfl⟩
theorem Gj (d:Nd) (v:Val) (j:Nat) (e:Ed) (hk:v.k=d.ag) (h:bY d v.n j=some e) (h8:d.ag=8->0<=v.n/\v.n < d.av.length) :
  EvP prog 146 [.agg (jt d),.agg (aH v),.v (.int .i64 j)] (.v (.int .i64 e.to)):=by
 obtain ⟨ag,aG,lo,hi,most,af,es⟩:=d;obtain ⟨q,z,s,ks⟩:=v;have kL:=cm es;simp only [Val.n,Val.k] at hk h h8;subst hk;unfold bY at h;simp only at h;refine eG 31 [.tmp 6] func146 rfl ntmps146 rfl fun _ _ _ _=>?_;refine br ?_ ?_<;>intro c
 ·have c:q=7:=sU c;rw [ai c] at h;have aq:=(gS h).1;refine iX (bi h) ?_;exact (rfl:_=_)
 have c7:¬ q=7:=sU c;rw [ah c7] at h;refine br ?_ ?_<;>intro c
 ·have c:q=8:=sU c;have h8:=h8 c;rw [ai c] at h;refine iX (bi h) ?_;exact (rfl:_=_)
 have c8:¬ q=8:=sU c;rw [ah c8] at h;have aq:=(gS h).1;refine iX (bi h) ?_;exact (rfl:_=_)
theorem C4 (p:List ch) (s:ch) (hl:p.length<=1000000):EvP prog 147 [dP p,.agg (lH s)] (.sl 3 (bm (p ++ [s])) none):=by
 rcases p with _ | ⟨s0,p⟩
 ·obtain ⟨k,n,t⟩:=s;refine eG 10 [.tmp 4] func147 rfl ntmps147 rfl fun _ _ _ _=>?_;apply C0 (fun _=>false) (.op 0 (.op 2 (.ev 1 (.ev 3 (.ev 4 (.op 5 .fin) .stop) .stop) (.ev 3 (.ev 1 (.ev 4 (.op 5 .fin) .stop) .stop) .stop)))) mo (by decide +kernel);·repeat' (first | refine cD U0 Rj ?_ | exact nL rfl | exact trivial | exact Or.inl rfl | exact uY | refine ⟨?_,?_⟩)
  exact ⟨_,ax,rfl⟩
 ·have hcf:=Rk s0 p (by omega);have fA:=fl (s0 :: p);have eO:(bm (s0 :: p)).length + 1<=maxLen:=by rw [fA];simp only [maxLen];omega
  have Db:((bm (s0 :: p)).length + 1) * 32<=140737488355328:=by rw [fA];omega
  have VN:=IU (s0 :: p) s;obtain ⟨k,n,t⟩:=s;refine eG 10 [.tmp 4] func147 rfl ntmps147 rfl fun _ _ _ _=>?_;apply C0 (fun _=>false) (.op 0 (.op 2 (.ev 1 (.ev 3 (.ev 4 (.op 5 .fin) .stop) .stop) (.ev 3 (.ev 1 (.ev 4 (.op 5 .fin) .stop) .stop) .stop)))) mo (by decide +kernel);·repeat' (first | (refine CV U0 rfl hcf ax (fun uO bQ hr=>?_);obtain ⟨rfl,rfl⟩:=hr) | refine ⟨fA,⟨eO,Db⟩,?_⟩ | exact trivial | exact Or.inl rfl | exact uY | refine ⟨?_,?_⟩)
  exact ⟨_,(by repeat' (first | exact rfl | exact trivial | exact Or.inr (Or.inl ⟨_,rfl⟩) | exact Or.inr ⟨_,rfl⟩ | exact Or.inl ⟨rfl,rfl⟩ | exact Or.inl rfl | refine Or.inr ⟨_,_,rfl,Nat.zero_le _,rfl,?_⟩ | refine ⟨_,_,rfl,?_,?_⟩ | refine ⟨_,rfl,?_⟩ | exact Or.inr (Or.inl ⟨_,congrArg (fun l=>DV.sl 3 l _) VN⟩) | refine Or.inr (Or.inr (Or.inr ⟨_,_,rfl,?_⟩)) | exact Or.inl rfl | refine Or.inr ?_)),rfl⟩
abbrev Wo (v:Val) (D:List Val) (q e:Nat):St:=
 ⟨[aab 1 0,aab 2 1,(3,⟨[],.sl 4 (dVals D) (some 0)⟩),aad 7 4 (dVals v.ks),aaa 8 ((dVals v.ks).length),aaa 9 e],[aH v,zD],[⟨q,34,4,none⟩]⟩
theorem ka:∀ (k:Nat) (v:Val),v.wt<=k->v.wt<=1099511627776->EvP prog 59 [.agg (aH v)] (.agg (aH v))
 | 0,v,h,_=>by have:=v.dz;omega
 | k + 1,v,h,hb=>by
  have ih:=ka k;obtain ⟨q,z,s,ks⟩:=v;have ir:=b9 ks;have bz:=aP ks;rw [Val.wt] at h hb;refine eG 22 [.cell 2 34] func59 rfl ntmps59 rfl fun _ _ _ _=>?_;refine lI (fun t st=>∃ e n:Nat,st=Wo (.mk q z s ks) (ks.take e) n e/\n=(ks.take e).length/\e<=ks.length/\t=ks.length - e) ⟨0,0,rfl,rfl,by omega,rfl⟩ (fG ⟨0,34,4,none⟩ rfl ⟨_,rfl⟩ rfl wA rfl rfl kr) ?_;rintro t st ⟨e,n,rfl,hn,he,rfl⟩;refine br ?_ ?_<;>intro jr
  ·have aq:e < ks.length:=by
    have h2:=jr;simp at h2;have h2:e < (dVals ks).length:=h2;omega
   obtain ⟨x,hx⟩:=gX aq;have EP:=cS (mG hx);have hw:=ih x (by omega) (by omega);have fB:=ya hx;have RA:=aP (ks.take e);have ik:n=e:=by rw [hn,zLenT];omega
   have PU:e + 1=(ks.take (e + 1)).length:=by rw [zLenT];omega
   subst ik;obtain ⟨xk,xn,xs,xl⟩:=x;refine iX (bf hx) ?_;refine cP G5 hw ?_;refine ⟨by rw [RA,<- hn],⟨by rw [RA];simp [maxLen];omega,by rw [RA];simp;omega⟩,?_⟩;exact ⟨Wo (.mk q z s ks) (ks.take (n + 1)) (n + 1) (n + 1),(QT 2 (nQ (nxt aq (by omega)) fB) (gw (nxt aq (by omega)) fB)),ks.length - (n + 1),by omega,n + 1,_,rfl,PU,by omega,rfl⟩
  ·have aS:e=ks.length:=by
    have h2:=jr;simp at h2;have h2:(dVals ks).length<=e:=h2;omega
   subst aS;rw [List.take_length];exact ⟨_,ax,rfl⟩
end Go.Proofs.YtgjagnmeonoehaaGreat
set_option maxRecDepth 100000
namespace Go.Proofs.YtgjagnmeonoehaaGreat
open Go Go.RowKit
namespace Dv
section
variable {X:Ctx} {st:St}
theorem xP {i j:Nat} {s S:St} (h:fm s (fI i j S):=by refine (⟨rfl,rfl,?_⟩:_/\_/\_);repeat' (first | exact trivial | refine ⟨rfl,?_⟩)):(s=S∨fm s S)∨fm s (fI i j S):=.inr h
theorem jJ {id:Nat} {ops:Array Oper} {k:List It} (T:mj) (hm:X.P.follows .mixedOrders=true) (hc:(YG ops && IZ ops (UB ops) && chkA ops T (List.range ops.size) none)=true) (S:St)
  (h:goA X ⟨ops,UB ops,[.vJ fun s=>s=S∨fm s S],st,none⟩ T true st.sl st) (hk:go X 4000 k S):kQ X id ops k st:=C0 (UB ops) T hm hc S h hk
end
end Dv
end Go.Proofs.YtgjagnmeonoehaaGreat
set_option maxRecDepth 100000
namespace Go.Proofs.YtgjagnmeonoehaaGreat
open Go Go.RowKit Dv Go.Proofs.Tryz
abbrev Um (PC:List DV) (O:List iL):List DV:=[.pt PC 0,.sl 10 (dr O) (some 0)]
abbrev YP (n:Nat):TkE:=⟨n,58,10,none⟩
def GoΦ (u v:Val) (PC:List DV) (O:List iL) (uO:DV) (os:List (List DV)) (tk:List TkE):Prop:=uO = .tup []/\os=[aH u,aH v,Um PC O]/\tk=[YP O.length]
abbrev M4 (u v:Val) (PC:List DV) (O:List iL) (q:Nat) (P:DV) (x y:Val) (d:Nd) (m e:Nat):St:=
 ⟨[aab 0 2,(2,⟨[],P⟩),aab 8 3,aab 9 4,aab 10 5,aaa 12 m,aaa 49 m,aaa 50 e],[aH u,aH v,Um PC O,aH x,aH y,jt d],[YP q]⟩
abbrev M5 (u v:Val) (PC:List DV) (O:List iL) (q:Nat) (P:DV) (x y:Val) (d:Nd) (m e:Nat):St:=
 ⟨[aab 0 2,(2,⟨[],P⟩),aab 8 3,aab 9 4,aab 10 5,aaa 12 m,aaa 14 e],[aH u,aH v,Um PC O,aH x,aH y,jt d],[YP q]⟩
abbrev M6 (u v:Val) (PC:List DV) (O:List iL) (q:Nat) (P:DV) (x y:Val) (d:Nd) (m:Nat) (e:Int):St:=
 ⟨[aab 0 2,(2,⟨[],P⟩),aab 8 3,aab 9 4,aab 10 5,aaa 12 m,aaa 15 e],[aH u,aH v,Um PC O,aH x,aH y,jt d],[YP q]⟩
theorem YQ {x y:Val} (h:yK x y=true):x.k=y.k/\x.n=y.n/\x.s=y.s/\(x.ks.length=y.ks.length∨x.k=5):=by
 unfold yK at h;simpa using h
set_option maxHeartbeats 4000000 in
theorem Gk {S:Sch} {ND:List Nd} {PC:List DV} (hP:fw S ND PC) (bH:∀ n∈ND,n.av.length<=1099511627776) (u v:Val):∀ (k:Nat) (x y:Val),x.wt<=k->x.wt<=1099511627776->y.wt<=1099511627776->∀ i:Int,gm ND x i=true->gm ND y i=true ->
  ∀ (p:List ch) (O:List iL),O.length + fV x + fV y<=100000->p.length + fV x<=100000 ->
  Ev prog 71 [.loc 2 0,.v (.int .i64 i),dP p,.agg (aH x),.agg (aH y)] [aH u,aH v,Um PC O] [YP O.length] (GoΦ u v PC (O ++ dfK ND k x y i p))
 | 0,x,_,h,_,_=>by have:=x.dz;omega
 | k + 1,x,y,h,jU,uI=>fun i Yw hwy p O hO hp=>by
  have ih:=Gk hP bH u v k;obtain ⟨uk,un,us,ul⟩:=u;obtain ⟨vk,vn,vs,vl⟩:=v;have RP:=Jb x y;have hOl:=mh O;by_cases c:yK x y=true
  ·obtain ⟨nk,nn,ns,nl⟩:=YQ c;obtain ⟨d,hd,X8⟩:=jI Yw;obtain ⟨d',lR,hcy⟩:=jI hwy;rw [hd] at lR;cases lR;obtain ⟨h0,hg⟩:=de hd;obtain ⟨j,rfl⟩:∃ j:Nat,i=j:=⟨i.toNat,by omega⟩;have hg:ND[j]? = some d:=sU hg;have pO:=mG hg;have hN:=hP.ok d pO;have iq:=bH d pO;have A5:=hN.k8;have ep:=hP.aj j d hg;have hV:dfK ND (k + 1) x y j p=kidsD (dfK ND k) d x y p (min x.ks.length y.ks.length) ++ addC p (y.ks.drop x.ks.length) x.ks.length ++ CW p (x.ks.drop y.ks.length) y.ks.length:=by rw [dfK,ai c,hd]
   have hF:x.ks ≠ []∨y.ks ≠ []->x.k=d.ag/\5<=d.ag/\(d.ag=8->0<=x.n/\x.n < d.av.length)/\iG ND x.ks d x.n 0=true/\iG ND y.ks d x.n 0=true:=fun aQ=>by grind [shell_8]
   have aei:∀ m a b,x.ks[m]? = some a->y.ks[m]? = some b->∃ e,bY d x.n m=some e/\gm ND a e.to=true/\gm ND b e.to=true:=fun m a b h1 h2=>by grind [oA]
   have kP:∀ m a b e,x.ks[m]? = some a->y.ks[m]? = some b->bY d x.n m=some e->EvP prog 146 [.agg (jt d),.agg (aH x),.v (.int .i64 m)] (.v (.int .i64 e.to)):=fun m a b e h1 h2 he=>by grind [Gj]
   have aR:∀ m a b e,x.ks[m]? = some a->y.ks[m]? = some b->bY d x.n m=some e->EvP prog 148 [.agg (jt d),.agg (aH x),.v (.int .i64 m)] (.agg (lH (stpR d x m))):=fun m a b e h1 h2 he=>by grind [nq,bY]
   have xT:∀ m b,x.ks.length<=m->y.ks[m]? = some b->EvP prog 148 [.agg (jt d),.agg (aH y),.v (.int .i64 m)] (.agg (lH (dg m))):=fun m b h1 h2=>by
    have aq:=(gS h2).1;obtain ⟨w0,w5,w8,_,_⟩:=hF (.inr (by rintro h;rw [h] at h2;simp at h2));have h5:d.ag=5:=by omega
    have:=nq d y m (by omega) w5 A5 (by omega) (by omega)
    rwa [stpR,ai h5] at this
   have Gl:∀ m a,y.ks.length<=m->x.ks[m]? = some a->EvP prog 148 [.agg (jt d),.agg (aH x),.v (.int .i64 m)] (.agg (lH (dg m))):=fun m a h1 h2=>by
    have aq:=(gS h2).1;obtain ⟨w0,w5,w8,_,_⟩:=hF (.inl (by rintro h;rw [h] at h2;simp at h2));have h5:d.ag=5:=by omega
    have:=nq d x m (by omega) w5 A5 (by omega) (by omega)
    rwa [stpR,ai h5] at this
   have kU:=fun s=>C4 p s (by omega)
   have hD:∀ m a b e,x.ks[m]? = some a->y.ks[m]? = some b->bY d x.n m=some e->kidsD (dfK ND k) d x y p (m + 1)=kidsD (dfK ND k) d x y p m ++ dfK ND k a b e.to (p ++ [stpR d x m]):=fun m a b e h1 h2 h3=>by
    rw [kidsD,kidD,h1,h2,h3]
   have Hb:∀ m,(kidsD (dfK ND k) d x y p m).length<=bP (x.ks.take m) + bP (y.ks.take m):=fun m=>MV ND k d x y p m;have hA1:∀ e b,y.ks[x.ks.length + e]? = some b->(addC p (y.ks.drop x.ks.length) x.ks.length)[e]? = some ⟨2,p ++ [dg (x.ks.length + e)],none,some b⟩:=fun e b h=>F6 p (by rw [List.getElem?_drop];exact h);have hA2:=yL p (y.ks.drop x.ks.length) x.ks.length
   have hG1:∀ t a,t < x.ks.length - y.ks.length->x.ks[x.ks.length - 1 - t]? = some a->(CW p (x.ks.drop y.ks.length) y.ks.length)[t]? = some ⟨3,p ++ [dg (x.ks.length - 1 - t)],some a,none⟩:=fun t a ht h=>by
    have hl:(x.ks.drop y.ks.length).length=x.ks.length - y.ks.length:=List.length_drop;have:=F7 p (l:=x.ks.drop y.ks.length) (j:=y.ks.length) (t:=t) (x:=a) (by omega) (by rw [List.getElem?_drop,hl,show y.ks.length + (x.ks.length - y.ks.length - 1 - t)=x.ks.length - 1 - t by omega];exact h);rw [this,hl,show y.ks.length + (x.ks.length - y.ks.length - 1 - t)=x.ks.length - 1 - t by omega]
   have hG2:=rT p (x.ks.drop y.ks.length) y.ks.length;rw [List.length_drop] at hA2 hG2;have hxc:fV x=1 + bP x.ks:=by obtain ⟨_,_,_,_⟩:=x;rfl
   have hyc:fV y=1 + bP y.ks:=by obtain ⟨_,_,_,_⟩:=y;rfl
   have hcd:∀ m,bP (x.ks.take m) + bP (x.ks.drop m)=bP x.ks:=kJ x.ks;have YR:∀ m,bP (y.ks.take m) + bP (y.ks.drop m)=bP y.ks:=kJ y.ks;have hca:∀ m a,x.ks[m]? = some a->bP (x.ks.take (m + 1))=bP (x.ks.take m) + fV a:=fun m a h=>oD h;have JW:∀ m a,y.ks[m]? = some a->bP (y.ks.take (m + 1))=bP (y.ks.take m) + fV a:=fun m a h=>oD h;have YS:=mi (x.ks.drop y.ks.length);have YT:=mi (y.ks.drop x.ks.length);rw [List.length_drop] at YS YT;have EP:x.wt=64 + x.s.size + cO x.ks:=by obtain ⟨_,_,_,_⟩:=x;rfl
   have hyw:y.wt=64 + y.s.size + cO y.ks:=by obtain ⟨_,_,_,_⟩:=y;rfl
   have ir:=b9 x.ks;have rQ:=b9 y.ks;have bz:=aP x.ks;have RA:=aP y.ks;rw [hV];generalize hAA:addC p (y.ks.drop x.ks.length) x.ks.length=A at *;generalize hGG:CW p (x.ks.drop y.ks.length) y.ks.length=G at *;clear hV X8 hcy Yw hwy;rw [c] at RP;have acg:min x.ks.length y.ks.length<=x.ks.length/\min x.ks.length y.ks.length<=y.ks.length:=⟨Nat.min_le_left _ _,Nat.min_le_right _ _⟩;have hmc:min x.ks.length y.ks.length=x.ks.length∨(y.ks.length<=x.ks.length/\min x.ks.length y.ks.length=y.ks.length):=by omega
   have hmi:((min x.ks.length y.ks.length:Nat):Int)=min (x.ks.length:Int) (y.ks.length:Int):=by omega
   generalize min x.ks.length y.ks.length=m at *;have hcm1:=hcd m;have hcm2:=YR m;have hDm:=Hb m;have hD0:kidsD (dfK ND k) d x y p 0=[]:=rfl;generalize kidsD (dfK ND k) d x y p=KD at *;obtain ⟨xk,xn,xs,xl⟩:=x;obtain ⟨yk,yn,ys,yl⟩:=y;obtain ⟨ag,aG,lo,hi,most,af,es⟩:=d;simp only [Val.k,Val.n,Val.s,Val.ks] at *;have sv:dr O=dr (O ++ KD 0):=by rw [hD0,List.append_nil]
   have zN:dr (O ++ KD m)=dr (O ++ (KD m ++ A.take 0)):=by simp
   have hAm:m + A.length=yl.length:=by omega
   have hGm:m + G.length=xl.length:=by omega
   have hs3:dr (O ++ (KD m ++ A))=dr (O ++ (KD m ++ A ++ G.take 0)):=by simp
   have Ik:IntKind.i64.wrap (((dVals xl).length:Int) - 1)=(xl.length:Int) - 1:=by rw [bz];exact wrap64 (by omega) (by omega)
   have hmd:min ((dVals xl).length:Int) ((dVals yl).length:Int)=(m:Int):=by rw [bz,RA,hmi]
   rcases p with _ | ⟨s0,p⟩
   ·refine eG 135 [] func71 rfl ntmps71 rfl fun _ _ _ _=>?_;refine cP Om RP ?_;refine cP sI ep ?_
    refine aT (fun t st=>∃ e q:Nat,st=M4 (.mk uk un us ul) (.mk vk vn vs vl) PC (O ++ KD e) q (dP ([]:List ch)) (.mk xk xn xs xl) (.mk yk yn ys yl) ⟨ag,aG,lo,hi,most,af,es⟩ m e/\q=(O ++ KD e).length/\e<=m/\t=m - e) m
     (M4 (.mk uk un us ul) (.mk vk vn vs vl) PC (O ++ KD 0) O.length (dP ([]:List ch)) (.mk xk xn xs xl) (.mk yk yn ys yl) ⟨ag,aG,lo,hi,most,af,es⟩ m 0) (QT 6 (nQ sv hmd) (gw sv hmd)) ⟨0,O.length,rfl,by rw [hD0,List.append_nil],by omega,by omega⟩ ?_
    rintro t st ⟨e,q,rfl,rfl,he,rfl⟩;refine br ?_ ?_<;>intro jr
    ·have aq:e < m:=sU jr;obtain ⟨a,ha⟩:∃ a,xl[e]? = some a:=⟨_,gE (by omega)⟩;obtain ⟨b,hb⟩:∃ b,yl[e]? = some b:=⟨_,gE (by omega)⟩;obtain ⟨ed,Ku,hw1,hw2⟩:=aei e a b ha hb;have kP:=kP e a b ed ha hb Ku;have aR:=aR e a b ed ha hb Ku;have hD:=hD e a b ed ha hb Ku;have kU:=kU (stpR ⟨ag,aG,lo,hi,most,af,es⟩ (.mk xk xn xs xl) e);have haw:=cS (mG ha);have zi:=cS (mG hb);have hDle:=Hb e;have hcc1:=hca e a ha;have hcc2:=JW e b hb;have hcc3:=hcd (e + 1);have hcc4:=YR (e + 1);have jX:=ih a b (by omega) (by omega) (by omega) ed.to hw1 hw2 (([]:List ch) ++ [stpR ⟨ag,aG,lo,hi,most,af,es⟩ (.mk xk xn xs xl) e]) (O ++ KD e) (by rw [List.length_append];omega) (by simp only [List.length_append,List.length_cons,List.length_nil] at hp ⊢;omega);generalize stpR ⟨ag,aG,lo,hi,most,af,es⟩ (.mk xk xn xs xl) e=sr at *;generalize dfK ND k a b ed.to (([]:List ch) ++ [sr])=RR at jX hD;have l4:dr (O ++ KD e ++ RR)=dr (O ++ KD (e + 1)):=by rw [hD,List.append_assoc]
     have Wb:(O ++ KD e ++ RR).length=(O ++ KD (e + 1)).length:=by rw [hD,List.append_assoc]
     obtain ⟨ak,an,GF,al⟩:=a;obtain ⟨bk,bn,bs,bl⟩:=b;refine jA (fun i=>Nat.beq i 21) mo (by decide +kernel) ?_;refine cD On kP ?_;refine cD wu aR ?_;refine cD z6 kU ?_;refine iX (bf ha) ?_;refine iX (bf hb) ?_;refine gM rfl ?_;refine gK 3 1 Xb rfl rfl rfl ie ie jX (fun r il cd hΦ h1 h2=>?_);obtain ⟨rfl,rfl,rfl⟩:=hΦ;exact ⟨M4 (.mk uk un us ul) (.mk vk vn vs vl) PC (O ++ KD (e + 1)) (O ++ KD e ++ RR).length (dP ([]:List ch)) (.mk xk xn xs xl) (.mk yk yn ys yl) ⟨ag,aG,lo,hi,most,af,es⟩ m (e + 1),(QT 6 (nQ (nxt aq (by omega)) l4) (gw (nxt aq (by omega)) l4)),m - (e + 1),by omega,e + 1,_,rfl,Wb,by omega,rfl⟩
    ·have aS:m=e:=by have:=jr;simp at this;omega
     subst aS
     refine aT (fun t st=>∃ e q:Nat,st=M5 (.mk uk un us ul) (.mk vk vn vs vl) PC (O ++ (KD m ++ A.take e)) q (dP ([]:List ch)) (.mk xk xn xs xl) (.mk yk yn ys yl) ⟨ag,aG,lo,hi,most,af,es⟩ m (m + e)/\q=(O ++ (KD m ++ A.take e)).length/\e<=A.length/\t=A.length - e) A.length
      (M5 (.mk uk un us ul) (.mk vk vn vs vl) PC (O ++ (KD m ++ A.take 0)) (O ++ KD m).length (dP ([]:List ch)) (.mk xk xn xs xl) (.mk yk yn ys yl) ⟨ag,aG,lo,hi,most,af,es⟩ m (m + 0)) (QT 6 (nG zN) (wB1 zN)) ⟨0,_,rfl,by simp,by omega,by omega⟩ ?_
     rintro t st ⟨e,q,rfl,rfl,he,rfl⟩;refine br ?_ ?_<;>intro jr
     ·have aq:m + e < yl.length:=by
       have h2:=jr;simp at h2;omega
      have fQ:e < A.length:=by omega
      have Bj:m=xl.length:=by omega
      rw [<- Bj] at YT;obtain ⟨b,hb⟩:=gX aq;have xT:=xT (m + e) b (by omega) hb;have kU:=kU (dg (m + e));have hA:=hA1 e b (by rw [<- Bj];exact hb);rw [<- Bj] at hA
      have l4:dr (O ++ (KD m ++ A.take e)) ++ [F5 ⟨2,([]:List ch) ++ [dg (m + e)],none,some b⟩]=dr (O ++ (KD m ++ A.take (e + 1))):=by
       rw [kI,List.take_add_one,hA];simp
      have qw:=mh (O ++ (KD m ++ A.take e))
      have zy:(O ++ (KD m ++ A.take e)).length<=100000:=by
       simp only [List.length_append,zLenT];omega
      have Jc:(O ++ (KD m ++ A.take (e + 1))).length=(O ++ (KD m ++ A.take e)).length + 1:=by
       simp only [List.length_append,zLenT];omega
      generalize dg (m + e)=sr at *;generalize A.take e=T1 at *;have fA:(dr (O ++ (KD m ++ T1))).length + 1<=maxLen:=by rw [qw];simp only [maxLen];omega
      have eO:((dr (O ++ (KD m ++ T1))).length + 1) * 144<=140737488355328:=by rw [qw];omega
      obtain ⟨bk,bn,bs,bl⟩:=b;apply jJ (.op 0 (.op 1 (.op 2 (.op 3 (.op 4 (.op 5 (.op 6 (.op 7 (.op 8 (.op 11 (.op 12 (.op 13 (.op 14 (.op 15 (.ev 9 (.ev 10 (.op 16 (.ev 17 (.ev 18 (.op 19 (.op 20 (.ev 21 .fin .stop))) .stop) .stop)) .stop) .stop))))))))))))))) mo (by decide +kernel);·repeat' (first | refine cD wu xT ?_ | refine cD z6 kU ?_ | refine iX (bf hb) ?_ | refine ⟨qw,⟨fA,eO⟩,?_⟩ | exact trivial | exact Or.inl rfl | exact uY | refine ⟨?_,?_⟩)
      exact ⟨M5 (.mk uk un us ul) (.mk vk vn vs vl) PC (O ++ (KD m ++ A.take (e + 1))) ((O ++ (KD m ++ T1)).length + 1) (dP ([]:List ch)) (.mk xk xn xs xl) (.mk yk yn ys yl) ⟨ag,aG,lo,hi,most,af,es⟩ m (m + (e + 1)),(QT 6 (nQ (nxt aq (by omega)) l4) (gw (nxt aq (by omega)) l4)),A.length - (e + 1),by omega,e + 1,_,rfl,Jc.symm,by omega,rfl⟩
     ·have aS:e=A.length:=by
       have h2:=jr;simp at h2;omega
      subst aS;rw [List.take_length]
      refine aT (fun t st=>∃ (e q:Nat) (z:Int),st=M6 (.mk uk un us ul) (.mk vk vn vs vl) PC (O ++ (KD m ++ A ++ G.take e)) q (dP ([]:List ch)) (.mk xk xn xs xl) (.mk yk yn ys yl) ⟨ag,aG,lo,hi,most,af,es⟩ m z/\z=(xl.length:Int) - 1 - (e:Int)/\q=(O ++ (KD m ++ A ++ G.take e)).length/\e<=G.length/\t=G.length - e) G.length
       (M6 (.mk uk un us ul) (.mk vk vn vs vl) PC (O ++ (KD m ++ A ++ G.take 0)) (O ++ (KD m ++ A)).length (dP ([]:List ch)) (.mk xk xn xs xl) (.mk yk yn ys yl) ⟨ag,aG,lo,hi,most,af,es⟩ m ((xl.length:Int) - 1)) (QT 6 (nQ hs3 Ik) (gw hs3 Ik)) ⟨0,_,_,rfl,by omega,by simp,by omega,by omega⟩ ?_
      rintro t st ⟨e,q,z,rfl,hz,rfl,he,rfl⟩;refine br ?_ ?_<;>intro jr
      ·have jr:(m:Int)<=z:=sU jr;have fQ:e < G.length:=by omega
       have Bj:m=yl.length:=by omega
       rw [<- Bj] at YS;obtain ⟨a,ha⟩:∃ a,xl[xl.length - 1 - e]? = some a:=⟨_,gE (by omega)⟩;have Gl:=Gl (xl.length - 1 - e) a (by omega) ha;have kU:=kU (dg (xl.length - 1 - e));have hGg:=hG1 e a (by omega) ha;obtain ⟨n,hn⟩:∃ n,n=xl.length - 1 - e:=⟨_,rfl⟩;obtain rfl:z=(n:Int):=by omega
       rw [<- hn] at ha Gl kU hGg
       have l4:dr (O ++ (KD m ++ A ++ G.take e)) ++ [F5 ⟨3,([]:List ch) ++ [dg n],some a,none⟩]=dr (O ++ (KD m ++ A ++ G.take (e + 1))):=by
        rw [kI,List.take_add_one,hGg];simp
       have qw:=mh (O ++ (KD m ++ A ++ G.take e))
       have zy:(O ++ (KD m ++ A ++ G.take e)).length<=100000:=by
        simp only [List.length_append,zLenT];omega
       have Jc:(O ++ (KD m ++ A ++ G.take (e + 1))).length=(O ++ (KD m ++ A ++ G.take e)).length + 1:=by
        simp only [List.length_append,zLenT];omega
       have vV:IntKind.i64.wrap ((n:Int) - 1)=(n:Int) - 1:=wrap64 (by omega) (by omega);generalize dg n=sr at *;generalize G.take e=T1 at *;have fA:(dr (O ++ (KD m ++ A ++ T1))).length + 1<=maxLen:=by rw [qw];simp only [maxLen];omega
       have eO:((dr (O ++ (KD m ++ A ++ T1))).length + 1) * 144<=140737488355328:=by rw [qw];omega
       have ik:n < xl.length:=by omega
       obtain ⟨ak,an,GF,al⟩:=a;apply jJ (.op 0 (.op 1 (.op 2 (.op 3 (.op 4 (.op 5 (.op 6 (.op 7 (.op 8 (.op 11 (.op 12 (.op 13 (.op 14 (.op 15 (.ev 9 (.ev 10 (.op 16 (.ev 17 (.ev 18 (.op 19 (.op 20 (.ev 21 .fin .stop))) .stop) .stop)) .stop) .stop))))))))))))))) mo (by decide +kernel);·repeat' (first | refine cD wu Gl ?_ | refine cD z6 kU ?_ | refine iX (bf ha) ?_ | refine ⟨qw,⟨fA,eO⟩,?_⟩ | exact trivial | exact Or.inl rfl | exact uY | refine ⟨?_,?_⟩)
       exact ⟨M6 (.mk uk un us ul) (.mk vk vn vs vl) PC (O ++ (KD m ++ A ++ G.take (e + 1))) ((O ++ (KD m ++ A ++ T1)).length + 1) (dP ([]:List ch)) (.mk xk xn xs xl) (.mk yk yn ys yl) ⟨ag,aG,lo,hi,most,af,es⟩ m ((n:Int) - 1),(QT 6 (nQ vV l4) (gw vV l4)),G.length - (e + 1),by omega,e + 1,_,_,rfl,by omega,Jc.symm,by omega,rfl⟩
      ·have jr:z < (m:Int):=by
        have h2:=jr;simp at h2;omega
       have aS:e=G.length:=by omega
       subst aS;rw [List.take_length];exact ⟨_,[aH (.mk uk un us ul),aH (.mk vk vn vs vl),Um PC (O ++ (KD m ++ A ++ G))],ax,ie,rfl,rfl,rfl⟩
   ·refine eG 135 [] func71 rfl ntmps71 rfl fun _ _ _ _=>?_;refine cP Om RP ?_;refine cP sI ep ?_
    refine aT (fun t st=>∃ e q:Nat,st=M4 (.mk uk un us ul) (.mk vk vn vs vl) PC (O ++ KD e) q (dP (s0 :: p)) (.mk xk xn xs xl) (.mk yk yn ys yl) ⟨ag,aG,lo,hi,most,af,es⟩ m e/\q=(O ++ KD e).length/\e<=m/\t=m - e) m
     (M4 (.mk uk un us ul) (.mk vk vn vs vl) PC (O ++ KD 0) O.length (dP (s0 :: p)) (.mk xk xn xs xl) (.mk yk yn ys yl) ⟨ag,aG,lo,hi,most,af,es⟩ m 0) (QT 6 (nQ sv hmd) (gw sv hmd)) ⟨0,O.length,rfl,by rw [hD0,List.append_nil],by omega,by omega⟩ ?_
    rintro t st ⟨e,q,rfl,rfl,he,rfl⟩;refine br ?_ ?_<;>intro jr
    ·have aq:e < m:=sU jr;obtain ⟨a,ha⟩:∃ a,xl[e]? = some a:=⟨_,gE (by omega)⟩;obtain ⟨b,hb⟩:∃ b,yl[e]? = some b:=⟨_,gE (by omega)⟩;obtain ⟨ed,Ku,hw1,hw2⟩:=aei e a b ha hb;have kP:=kP e a b ed ha hb Ku;have aR:=aR e a b ed ha hb Ku;have hD:=hD e a b ed ha hb Ku;have kU:=kU (stpR ⟨ag,aG,lo,hi,most,af,es⟩ (.mk xk xn xs xl) e);have haw:=cS (mG ha);have zi:=cS (mG hb);have hDle:=Hb e;have hcc1:=hca e a ha;have hcc2:=JW e b hb;have hcc3:=hcd (e + 1);have hcc4:=YR (e + 1);have jX:=ih a b (by omega) (by omega) (by omega) ed.to hw1 hw2 ((s0 :: p) ++ [stpR ⟨ag,aG,lo,hi,most,af,es⟩ (.mk xk xn xs xl) e]) (O ++ KD e) (by rw [List.length_append];omega) (by simp only [List.length_append,List.length_cons,List.length_nil] at hp ⊢;omega);generalize stpR ⟨ag,aG,lo,hi,most,af,es⟩ (.mk xk xn xs xl) e=sr at *;generalize dfK ND k a b ed.to ((s0 :: p) ++ [sr])=RR at jX hD;have l4:dr (O ++ KD e ++ RR)=dr (O ++ KD (e + 1)):=by rw [hD,List.append_assoc]
     have Wb:(O ++ KD e ++ RR).length=(O ++ KD (e + 1)).length:=by rw [hD,List.append_assoc]
     obtain ⟨ak,an,GF,al⟩:=a;obtain ⟨bk,bn,bs,bl⟩:=b;refine jA (fun i=>Nat.beq i 21) mo (by decide +kernel) ?_;refine cD On kP ?_;refine cD wu aR ?_;refine cD z6 kU ?_;refine iX (bf ha) ?_;refine iX (bf hb) ?_;refine gM rfl ?_;refine gK 3 1 Xb rfl rfl rfl ie ie jX (fun r il cd hΦ h1 h2=>?_);obtain ⟨rfl,rfl,rfl⟩:=hΦ;exact ⟨M4 (.mk uk un us ul) (.mk vk vn vs vl) PC (O ++ KD (e + 1)) (O ++ KD e ++ RR).length (dP (s0 :: p)) (.mk xk xn xs xl) (.mk yk yn ys yl) ⟨ag,aG,lo,hi,most,af,es⟩ m (e + 1),(QT 6 (nQ (nxt aq (by omega)) l4) (gw (nxt aq (by omega)) l4)),m - (e + 1),by omega,e + 1,_,rfl,Wb,by omega,rfl⟩
    ·have aS:m=e:=by have:=jr;simp at this;omega
     subst aS
     refine aT (fun t st=>∃ e q:Nat,st=M5 (.mk uk un us ul) (.mk vk vn vs vl) PC (O ++ (KD m ++ A.take e)) q (dP (s0 :: p)) (.mk xk xn xs xl) (.mk yk yn ys yl) ⟨ag,aG,lo,hi,most,af,es⟩ m (m + e)/\q=(O ++ (KD m ++ A.take e)).length/\e<=A.length/\t=A.length - e) A.length
      (M5 (.mk uk un us ul) (.mk vk vn vs vl) PC (O ++ (KD m ++ A.take 0)) (O ++ KD m).length (dP (s0 :: p)) (.mk xk xn xs xl) (.mk yk yn ys yl) ⟨ag,aG,lo,hi,most,af,es⟩ m (m + 0)) (QT 6 (nG zN) (wB1 zN)) ⟨0,_,rfl,by simp,by omega,by omega⟩ ?_
     rintro t st ⟨e,q,rfl,rfl,he,rfl⟩;refine br ?_ ?_<;>intro jr
     ·have aq:m + e < yl.length:=by
       have h2:=jr;simp at h2;omega
      have fQ:e < A.length:=by omega
      have Bj:m=xl.length:=by omega
      rw [<- Bj] at YT;obtain ⟨b,hb⟩:=gX aq;have xT:=xT (m + e) b (by omega) hb;have kU:=kU (dg (m + e));have hA:=hA1 e b (by rw [<- Bj];exact hb);rw [<- Bj] at hA
      have l4:dr (O ++ (KD m ++ A.take e)) ++ [F5 ⟨2,(s0 :: p) ++ [dg (m + e)],none,some b⟩]=dr (O ++ (KD m ++ A.take (e + 1))):=by
       rw [kI,List.take_add_one,hA];simp
      have qw:=mh (O ++ (KD m ++ A.take e))
      have zy:(O ++ (KD m ++ A.take e)).length<=100000:=by
       simp only [List.length_append,zLenT];omega
      have Jc:(O ++ (KD m ++ A.take (e + 1))).length=(O ++ (KD m ++ A.take e)).length + 1:=by
       simp only [List.length_append,zLenT];omega
      generalize dg (m + e)=sr at *;generalize A.take e=T1 at *;have fA:(dr (O ++ (KD m ++ T1))).length + 1<=maxLen:=by rw [qw];simp only [maxLen];omega
      have eO:((dr (O ++ (KD m ++ T1))).length + 1) * 144<=140737488355328:=by rw [qw];omega
      obtain ⟨bk,bn,bs,bl⟩:=b;apply jJ (.op 0 (.op 1 (.op 2 (.op 3 (.op 4 (.op 5 (.op 6 (.op 7 (.op 8 (.op 11 (.op 12 (.op 13 (.op 14 (.op 15 (.ev 9 (.ev 10 (.op 16 (.ev 17 (.ev 18 (.op 19 (.op 20 (.ev 21 .fin .stop))) .stop) .stop)) .stop) .stop))))))))))))))) mo (by decide +kernel);·repeat' (first | refine cD wu xT ?_ | refine cD z6 kU ?_ | refine iX (bf hb) ?_ | refine ⟨qw,⟨fA,eO⟩,?_⟩ | exact trivial | exact Or.inl rfl | exact uY | refine ⟨?_,?_⟩)
      exact ⟨M5 (.mk uk un us ul) (.mk vk vn vs vl) PC (O ++ (KD m ++ A.take (e + 1))) ((O ++ (KD m ++ T1)).length + 1) (dP (s0 :: p)) (.mk xk xn xs xl) (.mk yk yn ys yl) ⟨ag,aG,lo,hi,most,af,es⟩ m (m + (e + 1)),(QT 6 (nQ (nxt aq (by omega)) l4) (gw (nxt aq (by omega)) l4)),A.length - (e + 1),by omega,e + 1,_,rfl,Jc.symm,by omega,rfl⟩
     ·have aS:e=A.length:=by
       have h2:=jr;simp at h2;omega
      subst aS;rw [List.take_length]
      refine aT (fun t st=>∃ (e q:Nat) (z:Int),st=M6 (.mk uk un us ul) (.mk vk vn vs vl) PC (O ++ (KD m ++ A ++ G.take e)) q (dP (s0 :: p)) (.mk xk xn xs xl) (.mk yk yn ys yl) ⟨ag,aG,lo,hi,most,af,es⟩ m z/\z=(xl.length:Int) - 1 - (e:Int)/\q=(O ++ (KD m ++ A ++ G.take e)).length/\e<=G.length/\t=G.length - e) G.length
       (M6 (.mk uk un us ul) (.mk vk vn vs vl) PC (O ++ (KD m ++ A ++ G.take 0)) (O ++ (KD m ++ A)).length (dP (s0 :: p)) (.mk xk xn xs xl) (.mk yk yn ys yl) ⟨ag,aG,lo,hi,most,af,es⟩ m ((xl.length:Int) - 1)) (QT 6 (nQ hs3 Ik) (gw hs3 Ik)) ⟨0,_,_,rfl,by omega,by simp,by omega,by omega⟩ ?_
      rintro t st ⟨e,q,z,rfl,hz,rfl,he,rfl⟩;refine br ?_ ?_<;>intro jr
      ·have jr:(m:Int)<=z:=sU jr;have fQ:e < G.length:=by omega
       have Bj:m=yl.length:=by omega
       rw [<- Bj] at YS;obtain ⟨a,ha⟩:∃ a,xl[xl.length - 1 - e]? = some a:=⟨_,gE (by omega)⟩;have Gl:=Gl (xl.length - 1 - e) a (by omega) ha;have kU:=kU (dg (xl.length - 1 - e));have hGg:=hG1 e a (by omega) ha;obtain ⟨n,hn⟩:∃ n,n=xl.length - 1 - e:=⟨_,rfl⟩;obtain rfl:z=(n:Int):=by omega
       rw [<- hn] at ha Gl kU hGg
       have l4:dr (O ++ (KD m ++ A ++ G.take e)) ++ [F5 ⟨3,(s0 :: p) ++ [dg n],some a,none⟩]=dr (O ++ (KD m ++ A ++ G.take (e + 1))):=by
        rw [kI,List.take_add_one,hGg];simp
       have qw:=mh (O ++ (KD m ++ A ++ G.take e))
       have zy:(O ++ (KD m ++ A ++ G.take e)).length<=100000:=by
        simp only [List.length_append,zLenT];omega
       have Jc:(O ++ (KD m ++ A ++ G.take (e + 1))).length=(O ++ (KD m ++ A ++ G.take e)).length + 1:=by
        simp only [List.length_append,zLenT];omega
       have vV:IntKind.i64.wrap ((n:Int) - 1)=(n:Int) - 1:=wrap64 (by omega) (by omega);generalize dg n=sr at *;generalize G.take e=T1 at *;have fA:(dr (O ++ (KD m ++ A ++ T1))).length + 1<=maxLen:=by rw [qw];simp only [maxLen];omega
       have eO:((dr (O ++ (KD m ++ A ++ T1))).length + 1) * 144<=140737488355328:=by rw [qw];omega
       have ik:n < xl.length:=by omega
       obtain ⟨ak,an,GF,al⟩:=a;apply jJ (.op 0 (.op 1 (.op 2 (.op 3 (.op 4 (.op 5 (.op 6 (.op 7 (.op 8 (.op 11 (.op 12 (.op 13 (.op 14 (.op 15 (.ev 9 (.ev 10 (.op 16 (.ev 17 (.ev 18 (.op 19 (.op 20 (.ev 21 .fin .stop))) .stop) .stop)) .stop) .stop))))))))))))))) mo (by decide +kernel);·repeat' (first | refine cD wu Gl ?_ | refine cD z6 kU ?_ | refine iX (bf ha) ?_ | refine ⟨qw,⟨fA,eO⟩,?_⟩ | exact trivial | exact Or.inl rfl | exact uY | refine ⟨?_,?_⟩)
       exact ⟨M6 (.mk uk un us ul) (.mk vk vn vs vl) PC (O ++ (KD m ++ A ++ G.take (e + 1))) ((O ++ (KD m ++ A ++ T1)).length + 1) (dP (s0 :: p)) (.mk xk xn xs xl) (.mk yk yn ys yl) ⟨ag,aG,lo,hi,most,af,es⟩ m ((n:Int) - 1),(QT 6 (nQ vV l4) (gw vV l4)),G.length - (e + 1),by omega,e + 1,_,_,rfl,by omega,Jc.symm,by omega,rfl⟩
      ·have jr:z < (m:Int):=by
        have h2:=jr;simp at h2;omega
       have aS:e=G.length:=by omega
       subst aS;rw [List.take_length];exact ⟨_,[aH (.mk uk un us ul),aH (.mk vk vn vs vl),Um PC (O ++ (KD m ++ A ++ G))],ax,ie,rfl,rfl,rfl⟩
  ·have hV:dfK ND (k + 1) x y i p=[⟨1,p,some x,some y⟩]:=by rw [dfK,ah c]
   have c:yK x y=false:=sU c;rw [c] at RP;rw [hV];have fB:=kI O ⟨1,p,some x,some y⟩;have hln:(O ++ [(⟨1,p,some x,some y⟩:iL)]).length=O.length + 1:=by simp
   obtain ⟨xk,xn,xs,xl⟩:=x;obtain ⟨yk,yn,ys,yl⟩:=y;have hx1:1<=fV (.mk xk xn xs xl):=by rw [fV];omega
   rcases p with _ | ⟨s0,p⟩
   all_goals
    refine eG 135 [] func71 rfl ntmps71 rfl fun _ _ _ _=>?_;refine cP Om RP ?_;refine dS ?_;refine ⟨hOl,⟨by rw [hOl];simp [maxLen];omega,by rw [hOl];simp;omega⟩,?_⟩;exact ⟨_,[aH (.mk uk un us ul),aH (.mk vk vn vs vl),Um PC (O ++ [_])],ax,(by repeat' (first | exact rfl | exact trivial | exact Or.inr (Or.inl ⟨_,rfl⟩) | exact Or.inr ⟨_,rfl⟩ | exact Or.inl ⟨rfl,rfl⟩ | exact Or.inl rfl | refine Or.inr ⟨_,_,rfl,Nat.zero_le _,rfl,?_⟩ | refine ⟨_,_,rfl,?_,?_⟩ | refine ⟨_,rfl,?_⟩ | exact ⟨nL rfl,rfl⟩ | exact ⟨nL rfl,(congrArg (fun l=>DV.sl 10 l _) fB).symm⟩ | exact ⟨nL rfl,congrArg (fun l=>DV.sl 10 l _) fB⟩ | refine Or.inr (Or.inr (Or.inr ⟨_,_,rfl,?_⟩)) | exact Or.inl rfl | refine Or.inr ?_)),rfl,rfl,by simp [YP,hOl]⟩
namespace Dv
theorem RB {X:Ctx} {id:Nat} {ops:Array Oper} {k:List It} {st:St} (st':St) (hw:sx X.n0 X.m0 st st') (h:kQ X id ops k st'):kQ X id ops k st:=fun E a w hr=>by
 obtain ⟨E',h'⟩:=Wk.LV hw E a w hr;exact h E' a w h'
end Dv
theorem M7 {S:Sch} {ND:List Nd} {PC:List DV} (hP:fw S ND PC) (bH:∀ n∈ND,n.av.length<=1099511627776) (rt:Nat) (zc:dV S=rt) (x y:Val) (hx:x.wt<=1099511627776) (hy:y.wt<=1099511627776) (Uj:fV x + fV y<=10000) (o:Int) (B1 B2:Bool)
  (zq:EvP prog 58 [.pt PC 0,.v (.int .i64 o),.agg (aH x)] (.v (.bool B1))) (u6:EvP prog 58 [.pt PC 0,.v (.int .i64 o),.agg (aH y)] (.v (.bool B2))) (hw1:B1=true->gm ND x (rt:Nat)=true) (hw2:B2=true->gm ND y (rt:Nat)=true) :
  EvP prog 19 [.pt PC 0,.v (.int .i64 o),.agg (aH x),.agg (aH y)] (.tup [.sl 10 (dr (if (B1 && B2)=true then dfK ND x.wt x y (rt:Nat) [] else [])) none,.v (.bool (B1 && B2))]):=by
 have gC:=hP.root;rw [zc] at gC;have ho1:=ka x.wt x (aO _) hx;have ho2:=ka y.wt y (aO _) hy;have nF:=fun h1 h2=>Gk hP bH x y x.wt x y (aO _) hx hy (rt:Nat) (hw1 h1) (hw2 h2) [] [] (by simp;omega) (by simp;omega);simp only [List.nil_append,List.length_nil] at nF;generalize dfK ND x.wt x y (rt:Nat) []=L at *;obtain ⟨xk,xn,xs,xl⟩:=x;obtain ⟨yk,yn,ys,yl⟩:=y
 cases B1 with
 | false=>
  refine eG 38 [.tmp 8,.tmp 9] func19 rfl ntmps19 rfl fun _ _ _ _=>?_;refine cP BM zq ?_;exact ⟨_,ax,rfl⟩
 | true=>
  cases B2 with
  | false=>
   refine eG 38 [.tmp 8,.tmp 9] func19 rfl ntmps19 rfl fun _ _ _ _=>?_;refine cP BM zq ?_;refine cP BM u6 ?_;exact ⟨_,ax,rfl⟩
  | true=>
   have nF:=nF rfl rfl;refine eG 38 [.tmp 8,.tmp 9] func19 rfl ntmps19 rfl fun _ _ _ _=>?_;refine cP BM zq ?_;refine cP BM u6 ?_;refine Dv.RB ⟨[aam 0 PC,aab 6 0,aab 7 1,aab 10 2],[aH (.mk xk xn xs xl),aH (.mk yk yn ys yl),Um PC []],[YP 0]⟩ (dT 3 ⟨0,58,10,none⟩ rfl rfl rfl qT rfl rfl kr) ?_;refine jA (fun i=>Nat.beq i 7) mo (by decide +kernel) ?_;refine cD Oc gC ?_;refine cD G5 ho1 ?_;refine cD G5 ho2 ?_;refine gM rfl ?_;refine gK 3 1 Xb rfl rfl rfl ie ie nF (fun r il cd hΦ h1 h2=>?_);obtain ⟨rfl,rfl,rfl⟩:=hΦ;exact ⟨_,ax,rfl⟩
def sa:Sch:=⟨[⟨⟨#[97]⟩,0⟩],[],[],.mk ⟨5,0,0,0,4,[],⟨au,0⟩⟩ (.cons ⟨⟨au,0⟩,false,[],0,0,0,0,[]⟩ (.mk ⟨2,0,0,9,0,[],⟨au,0⟩⟩ .nil) .nil)⟩
abbrev vI (n:Int):Val:=.mk 2 n au []
def exX:Val:=.mk 5 0 au [vI 1,vI 2]
def exY:Val:=.mk 5 0 au [vI 3]
def uZ:Nd:=⟨2,0,0,9,0,[],[]⟩
theorem M8 {S:Sch} {ND:List Nd} {PC:List DV} (hP:fw S ND PC) (j:Nat) (hd:ND[j]? = some uZ) (n:Int):EvP prog 218 [.pt PC 0,.v (.int .i64 j),.agg (aH (vI n))] (.v (.bool true)):=by
 have ep:=hP.aj j uZ hd;have iJ:EvP prog 262 [.agg (aH (vI n))] (.v (.bool true)):=rR (vI n);refine eG 159 [.tmp 6] func218 rfl ntmps218 rfl fun _ _ _ _=>?_;refine cP sI ep ?_;refine cP Oy iJ ?_;exact (rfl:_=_)
theorem Jd {S:Sch} {ND:List Nd} {PC:List DV} (hP:fw S ND PC) (j:Nat) (hd:ND[j]? = some uZ):EvP prog 218 [.pt PC 0,.v (.int .i64 j),.agg (vD none)] (.v (.bool false)):=by
 have ep:=hP.aj j uZ hd;refine eG 159 [.tmp 6] func218 rfl ntmps218 rfl fun _ _ _ _=>?_;refine cP sI ep ?_;exact (rfl:_=_)
theorem tP {S:Sch} {ND:List Nd} {PC:List DV} (hP:fw S ND PC) (j:Nat) (hd:ND[j]? = some uZ) (n:Int) (hn:sN n):EvP prog 150 [.pt PC 0,.v (.int .i64 j),.agg (aH (vI n))] (.v (.string (ba (iw n)))):=by
 have ha:=M8 hP j hd n
 have hnd:cT ND (j:Int)=some uZ:=by
  unfold cT;rw [ah (by omega),iW,hd]
 have hw:gm ND (vI n) (j:Nat)=true:=by
  rw [gm,hnd];rfl
 have um:rngW (vI n):=by
  rw [rngW];exact ⟨by unfold sN;omega,hn,by rw [rngWs];trivial⟩
 have hT:textV ND (vI n) (j:Nat)=iw n:=by
  rw [textV,hnd];simp [gG,uZ,oy,textVs,eT,cJ,ox,Val.k,Val.ks,Val.n]
 have aQ:=Rr hP.ok um hw;have L8:=fun p hp=>rU hP (vI n) (vI n).wt (vI n) (aO _) (by rw [Val.wt];decide) um (j:Nat) hw [] p hp (by rw [List.length_nil,Val.wt];decide);simp only [List.nil_append] at L8;rw [hT] at L8 aQ;generalize iw n=T at *;refine mI (s:=false) (bt:=[(1,160)]) (hbt:=fun p hp=>Nat.zero_le _) (P:=prog) tt jC 5000 18 [.tmp 6] func150 rfl ntmps150 rfl (nL rfl) (fun _ _ _ _=>?_);refine cP U1 ha ?_;refine Fy ⟨0,5,1,none⟩ ⟨[aab 7 1],[aH (vI n),[.v (.pointer none),.sl 1 [] (some 0)]],[⟨0,5,1,none⟩]⟩ rfl ?_ rfl ?_ ⟨⟨_,rfl,aw rfl⟩,trivial⟩ rfl rfl ?_
 ·repeat' (first | exact rfl | exact aw rfl | refine ⟨_,_,rfl,?_,?_⟩)
 ·repeat' (first | exact rfl | exact aw rfl | exact cw (aO _) rfl | refine ⟨_,_,rfl,?_,?_⟩)
 refine n7 2 1 DX rfl rfl rfl ie ie (L8 (.v (.pointer none)) (.inl rfl)) (fun r il cd hΦ h1 h2=>?_);obtain ⟨rfl,rfl,rfl⟩:=hΦ;refine vA rfl (kt:=0) (l:=T) (.head _) rfl aQ rfl rfl rfl rfl ?_;exact (rfl:_=_)
theorem Je {S:Sch} {ND:List Nd} {PC:List DV} (hP:fw S ND PC) (j:Nat) (hd:ND[j]? = some uZ):EvP prog 150 [.pt PC 0,.v (.int .i64 j),.agg (vD none)] (.v (.string au)):=by
 have ha:=Jd hP j hd;refine mI (s:=false) (bt:=[(1,160)]) (hbt:=fun p hp=>Nat.zero_le _) (P:=prog) tt jC 5000 18 [.tmp 6] func150 rfl ntmps150 rfl (nL rfl) (fun _ _ _ _=>?_);refine cP U1 ha ?_;exact (rfl:_=_)
def RX:List UInt8:=[126,32,91,48,93,58,32,49,32,45,62,32,51,10]
def ZN:List UInt8:=[45,32,91,49,93,58,32,50,10]
theorem line39_1 {S:Sch} {ND:List Nd} {PC:List DV} (hP:fw S ND PC) (hd:ND[1]? = some uZ) (Lj:EvP prog 87 [.pt PC 0,.sl 3 (bm [dg 0]) none] (Gc (some (1,0)))) :
  EvP prog 75 [.pt PC 0,.agg (F5 ⟨1,[dg 0],some (vI 1),some (vI 3)⟩)] (.v (.string (ba RX))):=by
 have h1:=tP hP 1 hd 1 (by unfold sN;omega);have h3:=tP hP 1 hd 3 (by unfold sN;omega);rw [show iw 1=[49] by decide +kernel] at h1;rw [show iw 3=[51] by decide +kernel] at h3
 have hp:=Bb [dg 0] (fun s h=>by
  simp only [List.mem_singleton] at h;subst h
  exact ⟨by simp [dg],Nat.zero_le _⟩)
 rw [show yE [dg 0]=[91,48,93] by decide +kernel] at hp;refine eG 92 [.tmp 4] func75 rfl ntmps75 rfl fun _ _ _ _=>?_;refine cP aaH Lj ?_;refine dI ?_;refine cD JO h1 ?_;refine cD JO h3 ?_;refine cP UP hp ?_
 repeat' (first | exact (rfl:_=_) | exact nL rfl | refine ⟨?_,?_⟩)
theorem line39_2 {S:Sch} {ND:List Nd} {PC:List DV} (hP:fw S ND PC) (hd:ND[1]? = some uZ) (Lj:EvP prog 87 [.pt PC 0,.sl 3 (bm [dg 1]) none] (Gc (some (1,0)))) :
  EvP prog 75 [.pt PC 0,.agg (F5 ⟨3,[dg 1],some (vI 2),none⟩)] (.v (.string (ba ZN))):=by
 have h1:=tP hP 1 hd 2 (by unfold sN;omega);have h3:=Je hP 1 hd;rw [show iw 2=[50] by decide +kernel] at h1
 have hp:=Bb [dg 1] (fun s h=>by
  simp only [List.mem_singleton] at h;subst h
  exact ⟨by simp [dg],Nat.zero_le _⟩)
 rw [show yE [dg 1]=[91,49,93] by decide +kernel] at hp;refine eG 92 [.tmp 4] func75 rfl ntmps75 rfl fun _ _ _ _=>?_;refine cP aaH Lj ?_;refine dI ?_;refine cD JO h1 ?_;refine cD JO h3 ?_;refine cP UP hp ?_
 repeat' (first | exact (rfl:_=_) | exact nL rfl | refine ⟨?_,?_⟩)
def exL:List iL:=[⟨1,[dg 0],some (vI 1),some (vI 3)⟩,⟨3,[dg 1],some (vI 2),none⟩]
abbrev Bp (PC:List DV) (T:List UInt8) (p:DV) (e:Nat):St:=
 ⟨[aam 0 PC,aab 7 0,aad 19 10 (dr exL),aaa 20 2,aaa 21 e],[bO p T],bT T⟩
theorem M9 {S:Sch} {ND:List Nd} {PC LC:List DV} {n:Nat} {af:List ByteArray} {f:Nat->Nat->Bool} (hP:fw S ND PC) (nh:EvP prog 72 [.pt PC 0] (.pt LC 0)) (hR:MH n f af LC) (hn:0 < n) (hd:ND[1]? = some uZ)
  (hw1:EvP prog 87 [.pt PC 0,.sl 3 (bm [dg 0]) none] (Gc (some (1,0)))) (hw2:EvP prog 87 [.pt PC 0,.sl 3 (bm [dg 1]) none] (Gc (some (1,0)))) :
  EvP prog 20 [.pt PC 0,.v (.int .i64 0),.sl 10 (dr exL) none] (.v (.string (ba (RX ++ ZN)))):=by
 have h1:=line39_1 hP hd hw1;have h2:=line39_2 hP hd hw2;have hlen:=hR.len;refine mI (s:=false) (bt:=[(0,160)]) (hbt:=fun p hp=>Nat.zero_le _) (P:=prog) tt jC 5000 31 [.tmp 6] func20 rfl ntmps20 rfl (nL rfl) (fun _ _ _ _=>?_);refine cP SG nh ?_;refine cP Od hlen ?_
 refine br (fun c=>absurd c (by
  simp [pickB]
  omega)) (fun _=>?_)
 refine aT (fun j st=>(st=Bp PC [] (.v (.pointer none)) 0/\j=2)∨(st=Bp PC RX (.loc 0 0) 1/\j=1)∨(st=Bp PC (RX ++ ZN) (.loc 0 0) 2/\j=0)) 2 (Bp PC [] (.v (.pointer none)) 0) (dT 1 ⟨0,5,1,none⟩ rfl rfl rfl qT rfl rfl kr) (.inl ⟨rfl,rfl⟩) ?_;rintro _ st (⟨rfl,rfl⟩ | ⟨rfl,rfl⟩ | ⟨rfl,rfl⟩)
 ·refine ⟨_,⟨by decide,rfl⟩,?_⟩;refine cP aaE h1 ?_;refine iF rfl (kt:=0) (l:=[]) RX rfl (.head _) rfl (.inl rfl) rfl (by decide) (by decide) rfl (fun n=>?_);exact ⟨Bp PC RX (.loc 0 0) 1,(QT 1 qT kr),1,by omega,.inr (.inl ⟨rfl,rfl⟩)⟩
 ·refine ⟨_,⟨by decide,rfl⟩,?_⟩;refine cP aaE h2 ?_;refine iF rfl (kt:=0) (l:=RX) (RX ++ ZN) rfl (.head _) rfl (.inr rfl) rfl (by decide) (by decide) rfl (fun n=>?_);exact ⟨Bp PC (RX ++ ZN) (.loc 0 0) 2,(QT 1 qT kr),0,by omega,.inr (.inr ⟨rfl,rfl⟩)⟩
 ·refine vA rfl (kt:=0) (l:=RX ++ ZN) (.head _) rfl (by decide) rfl rfl rfl rfl ?_;exact (rfl:_=_)
theorem RC:(lE sa).1=0:=by decide +kernel
theorem oG:dV sa=(0:Nat):=by decide +kernel
theorem vC:0 < (aM sa).length:=by decide +kernel
theorem YU:(aM sa)[1]? = some uZ:=by rfl
theorem Gm:yX (aM sa) (bL sa) sa.ae.length 0 0 exX=true:=by decide +kernel
theorem Gn:yX (aM sa) (bL sa) sa.ae.length 0 0 exY=true:=by decide +kernel
theorem YV:walkV (aM sa) (bL sa) sa.ae.length [dg 0] 0 (po (bL sa) sa.ae.length)=some (1,0):=by decide +kernel
theorem YW:walkV (aM sa) (bL sa) sa.ae.length [dg 1] 0 (po (bL sa) sa.ae.length)=some (1,0):=by decide +kernel
theorem YX:dfK (aM sa) exX.wt exX exY ((0:Nat):Int) []=exL:=by rfl
theorem jY:EvP prog 10 [] (.v (.bool true)):=by
 have D6:sa.wt<=1099511627776:=by decide +kernel
 have hb:=(xJ sa D6).mono (Ψ:=fun r _ _=>Ic sa r) fun _ _ _ h=>AW D6 h;refine eG 43 [.tmp 0] func10 rfl ntmps10 rfl fun _ _ _ _=>?_;refine bE aar rfl hb ax (fun r hr=>?_);rcases hr with ⟨hr,_⟩ | ⟨_,PC,hP,rfl⟩
 ·exact (hr RC).elim
 obtain ⟨LC,nh,hR⟩:=hP.TS;have aen:∀ n∈aM sa,IV n:=fun n hn=>yN (S:=sa) (by simp [sa,SR,rngT,rngP,sN]) hn;have bH:∀ n∈aM sa,n.av.length<=1099511627776:=fun n hn=>(ma hn D6).2;have f1:=oF hP nh hR aen bH 0 oG vC 0 exX (by decide +kernel) (by simp [exX,rngW,rngWs,sN]);have f2:=oF hP nh hR aen bH 0 oG vC 0 exY (by decide +kernel) (by simp [exY,rngW,rngWs,sN]);rw [Gm] at f1;rw [Gn] at f2;have hD:=M7 hP bH 0 oG exX exY (by decide +kernel) (by decide +kernel) (by decide +kernel) 0 true true f1 f2 (fun _=>yZ hP.ok Gm) (fun _=>yZ hP.ok Gn);rw [show (true && true)=true from rfl,ai rfl,YX] at hD;have w1:=yR hP [dg 0] (by decide) (by decide) 0 oG vC;have w2:=yR hP [dg 1] (by decide) (by decide) 0 oG vC;rw [YV] at w1;rw [YW] at w2;have hT:=M9 hP nh hR (by decide) YU w1 w2;refine cP en19 hD ?_;refine cP en20 hT ?_;exact (rfl:_=_)
def oV (o:Option Val):Val:=o.getD zeroV
def Jf (k:Int) (p:List ch) (X Y:Val):List DV:=[.v (.int .i64 k),.sl 3 (bm p) none] ++ (aH X ++ aH Y)
theorem RD (k:Int) (p:List ch) (v X Y:Val) (hv:v.wt<=1099511627776) (hY:Y.wt<=1099511627776) :
  EvP prog 127 [.agg (aH v),.pt (Jf k p X Y) 0] (.tup [.agg (aH Y),.v (.bool (sameV v X))]):=by
 have ho:=ka Y.wt Y (aO _) hY;have hs:=qq v.wt v (aO _) hv X;generalize sameV v X=b at hs ⊢;obtain ⟨vk,vn,vs,vl⟩:=v;obtain ⟨xk,xn,xs,xl⟩:=X;obtain ⟨yk,yn,ys,yl⟩:=Y;refine eG 12 [.cell 3 34,.tmp 4] func127 rfl ntmps127 rfl fun _ _ _ _=>?_;refine dS ?_;refine cD G5 ho ?_;refine cD Oj hs ?_;exact ⟨_,ax,rfl⟩
theorem Gp (s:ch) (n:Nat):EvP prog 131 [.agg (lH s),.v (.int .i64 n)] (.v (.bool (gl s (dg n)))):=by
 refine eG 9 [.tmp 4] func131 rfl ntmps131 rfl fun _ _ _ _=>?_;refine ⟨_,KL _ _ s (dg n),?_⟩;exact (rfl:_=_)
def pL (x:Val) (a:Nat) (k:Val):Val:=.mk x.k x.n x.s (x.ks.set a k)
abbrev YY (x k:Val) (a:Nat) (l:List Val) (q e:Nat):St:=
 ⟨[aaa 1 a,aab 3 0,aab 5 1,aab 6 2,aab 7 3,aaa 8 e],[aH x,aH k,zD,[.v (.int .i64 x.k),.v (.int .i64 x.n),.v (.string x.s),.sl 4 (dVals l) (some 0)]],[⟨q,34,4,none⟩]⟩
theorem Gq (x k:Val) (a:Nat) (hx:x.wt<=1099511627776):EvP prog 65 [.agg (aH x),.v (.int .i64 a),.agg (aH k)] (.agg (aH (pL x a k))):=by
 have bz:=aP x.ks;have ir:=b9 x.ks;have EP:x.wt=64 + x.s.size + cO x.ks:=by obtain ⟨_,_,_,_⟩:=x;rfl
 obtain ⟨xk,xn,xs,xl⟩:=x;obtain ⟨kk,kn,FG,kl⟩:=k;simp only [Val.ks,Val.s] at bz ir EP;have zy:(xl.set a (.mk kk kn FG kl)).length=xl.length:=List.length_set;refine eG 43 [.cell 6 34] func65 rfl ntmps65 rfl fun _ _ _ _=>?_;refine lI (fun j st=>∃ e q:Nat,st=YY (.mk xk xn xs xl) (.mk kk kn FG kl) a ((xl.set a (.mk kk kn FG kl)).take e) q e/\q=((xl.set a (.mk kk kn FG kl)).take e).length/\e<=xl.length/\j=xl.length - e) ⟨0,0,rfl,rfl,by omega,rfl⟩ (dT 4 ⟨0,34,4,none⟩ rfl rfl rfl qT rfl rfl kr) ?_;rintro j st ⟨e,q,rfl,hq,he,rfl⟩;refine br ?_ ?_<;>intro jr
 ·have aq:e < xl.length:=by grind
  have Lc:q=e:=by rw [hq,zLenT];omega
  obtain ⟨x',u5⟩:∃ x',(xl.set a (.mk kk kn FG kl))[e]? = some x':=⟨_,gE (by omega)⟩;have fB:=ya u5;have Wb:e + 1=((xl.set a (.mk kk kn FG kl)).take (e + 1)).length:=by rw [zLenT];omega
  have Vo:=aP ((xl.set a (.mk kk kn FG kl)).take e);rw [zLenT,Nat.min_eq_left (by omega)] at Vo;subst Lc;refine br ?_ ?_<;>intro c
  ·have c:q=a:=by have h2:=c;simp at h2;omega
   subst c;rw [du aq] at u5;cases u5;refine ⟨Vo,⟨by rw [Vo];simp [maxLen];omega,by rw [Vo];simp;omega⟩,?_⟩;exact ⟨YY (.mk xk xn xs xl) (.mk kk kn FG kl) q ((xl.set q (.mk kk kn FG kl)).take (q + 1)) (q + 1) (q + 1),(QT 4 (nQ (nxt aq (by omega)) fB) (gw (nxt aq (by omega)) fB)),xl.length - (q + 1),by omega,q + 1,_,rfl,Wb,by omega,rfl⟩
  ·have c:¬ q=a:=by have h2:=c;simp at h2;omega
   rw [List.getElem?_set_ne (by omega)] at u5;obtain ⟨x1,x2,x3,x4⟩:=x';refine dS ?_;refine iX (bf u5) ?_;refine ⟨Vo,⟨by rw [Vo];simp [maxLen];omega,by rw [Vo];simp;omega⟩,?_⟩;exact ⟨YY (.mk xk xn xs xl) (.mk kk kn FG kl) a ((xl.set a (.mk kk kn FG kl)).take (q + 1)) (q + 1) (q + 1),(QT 4 (nQ (nxt aq (by omega)) fB) (gw (nxt aq (by omega)) fB)),xl.length - (q + 1),by omega,q + 1,_,rfl,Wb,by omega,rfl⟩
 ·have aS:e=xl.length:=by grind
  subst aS;rw [show (xl.set a (.mk kk kn FG kl)).take xl.length=xl.set a (.mk kk kn FG kl) by rw [<- zy];exact List.take_length];exact ⟨_,ax,rfl⟩
end Go.Proofs.YtgjagnmeonoehaaGreat
namespace Go.Proofs.YtgjagnmeonoehaaGreat
namespace Dv
open Go Go.RowKit
section
variable {X:Ctx} {st:St} {k:List It} {E:En} {a:Act} {w:World} {o:Oper}
theorem YZ {t d et e iI n:Nat} {bb:Bool} {z:List Value} (kW:o.op = .buildSlice t 0 #[]) (eX:o.dst=some d) (hT:X.T.find t=some ⟨n,bb,.sl et e iI,z⟩) (hd:eB X.nt st.sl (some d)=true) (aR:X.still=false:=by exact rfl) (hX:X.bt=[]:=by exact rfl) :
  Zf X o st ⟨(d,⟨[],.sl 0 [] (some st.tk.length)⟩) :: st.sl,st.bx,st.tk ++ [⟨0,et,e,some []⟩]⟩:=by
 intro E a w h;obtain ⟨hu,ii,zv,qz,hz,bH,uI,GH⟩:=ey X.hT hT;have lP:iN X.P et=some e:=by rw [eU qz,bH]
 have bU:(execOp a.eval o).run X.P w = .ok (.value (.slice (some ⟨w.heap.size,0,none⟩) 0 0)) (w.alloc (.cells #[] et)):=by
  have h1:(Instr.buildSlice t 0 #[]).run X.P w = .ok (.slice (some ⟨w.heap.size,0,none⟩) 0 0) (w.alloc (.cells #[] et)):=by
   have h0:Array.range 0 = #[]:=rfl;simp [Instr.buildSlice,run_underlying hu,aN lP,Instr.fill,newRow,h0]
  simp only [execOp,kW,List.map_toArray,List.map_nil,Sem.run_bind,h1,Result.andThen_ok,Sem.run_pure]
 refine eF bU ?_;rw [eX];have mM:=h.env.kM (w':=w.alloc (.cells #[] et)) fun i hi=>alloc_old w _ hi
 let E2:En:=⟨E.c,E.β,E.tk ++ [⟨0,et,e,some []⟩],E.τ ++ [.slice (some ⟨w.heap.size,0,none⟩) 0 0]⟩
 have hext:Ext E E2:=⟨fun _ _ h=>h,fun _ _ h=>h,fun k q' hk=>by
  have aq:=(gS hk).1;refine ⟨q',by show (E.tk ++ _)[k]? = _;rw [bF aq];exact hk,.inl ⟨rfl,?_⟩⟩;show (E.τ ++ _)[k]? = _
  rw [bF (by rw [h.env.tl];exact aq)]⟩
 have hτ:∀ (k:Nat) y,E2.τ[k]? = some y->(k < E.τ.length/\E.τ[k]? = some y)∨(k=E.τ.length/\y = .slice (some ⟨w.heap.size,0,none⟩) 0 0):=fun k y hy=>by
  have hy:(E.τ ++ [Value.slice (some ⟨w.heap.size,0,none⟩) 0 0])[k]? = some y:=hy;rw [List.getElem?_append] at hy;split at hy
  ·rename_i hk;exact .inl ⟨hk,hy⟩
  ·rename_i hk
   have h0:k - E.τ.length=0:=by
    rcases Nat.eq_zero_or_pos (k - E.τ.length) with h0 | h0
    ·exact h0
    ·rw [dA (by simp;omega)] at hy;cases hy
   rw [h0] at hy;simp only [List.getElem?_cons_zero,oI] at hy;exact .inr ⟨by omega,hy.symm⟩
 have cW:∀ (k:Nat) y g,E.τ[k]? = some y->y.ownBlock=some g->g < w.heap.size:=fun k y g hy hg=>(h.env.own (mG hy) hg).1
 have bM:Rel X E2 ⟨st.sl,st.bx,st.tk ++ [⟨0,et,e,some []⟩]⟩ a (w.alloc (.cells #[] et)):=by
  refine dw h hext ?_ (by show E.tk ++ _=_;rw [h.tk]) ?_ (h.fr.alloc _) (mB aR) (.nil hX)
  ·exact {
    len:=h.env.len
    tl:=by show (E.τ ++ _).length=(E.tk ++ _).length;simp [h.env.tl]
    eA:=fun i cs hi=>by
     obtain ⟨b,t,arr,hb,hw,hc⟩:=mM.eA i cs hi;exact ⟨b,t,arr,hb,hw,hc.mono hext⟩
    inj:=h.env.inj
    sub:=mM.sub
    pc:=h.env.pc
    bQ:=fun k q' y VG hy=>by
     rcases hτ k y hy with ⟨aq,fy⟩ | ⟨rfl,rfl⟩
     ·have fq:(E.tk ++ [⟨0,et,e,some []⟩])[k]? = some q':=VG;rw [bF (by rw [<- h.env.tl];exact aq)] at fq;exact mM.bQ k q' y fq fy
     ·have fq:(E.tk ++ [⟨0,et,e,some []⟩])[E.τ.length]? = some q':=VG;rw [List.getElem?_append_right (by rw [h.env.tl];exact aO _),h.env.tl] at fq;simp only [Nat.sub_self,List.getElem?_cons_zero,oI] at fq;subst fq;refine .inr ⟨w.heap.size,0,#[],rfl,iY w _,⟨by simp,fun cs hc=>by cases hc;exact ⟨by simp,by simp [RvC,RvL]⟩⟩,aO _,Nat.zero_le _,fun hm=>?_,fun x v hx Gy=>?_⟩
      ·have:=h.env.aZ hm;omega
      ·have:=World.block_lt_of_cell? w x (h.env.sub x v hx);omega
    iZ:=fun k k' y y' g zM hy fy hg qy=>by
     rcases hτ k y hy with ⟨_,vQ⟩ | ⟨rfl,rfl⟩
     ·rcases hτ k' y' fy with ⟨_,lO⟩ | ⟨rfl,rfl⟩
      ·exact h.env.iZ k k' y y' g zM vQ lO hg qy
      ·have:=cW k y g vQ hg;simp only [Value.ownBlock,oI] at qy;omega
     ·rcases hτ k' y' fy with ⟨_,lO⟩ | ⟨rfl,rfl⟩
      ·have:=cW k' y' g lO qy;simp only [Value.ownBlock,oI] at hg;omega
      ·exact zM rfl }
  ·exact {
    c:=h.nw.c
    cn:=h.nw.cn
    β:=h.nw.β
    tk:=fun j q0 y0 qO BG=>by
     obtain ⟨q',y',h1,h2,h3⟩:=h.nw.tk j q0 y0 qO BG;exact ⟨q',y',by show (E.tk ++ _)[j]? = _;rw [bF (gS h1).1];exact h1,by show (E.τ ++ _)[j]? = _;rw [bF (gS h2).1];exact h2,h3⟩
    tn:=fun j y g hj hy hg=>by
     rcases hτ j y hy with ⟨_,vQ⟩ | ⟨_,rfl⟩
     ·exact h.nw.tn j y g hj vQ hg
     ·simp only [Value.ownBlock,oI] at hg;have:=h.fr.size;omega
    l0:=h.nw.l0 }
 refine ⟨E2,aY bM hd (.sl 0 [] (some st.tk.length)) _ ?_,hext,⟨[],by simp [E2]⟩,fun i b hb _=>alloc_old w _ (h.env.aZ (mG hb))⟩;unfold Rv;refine ⟨_,0,0,rfl,⟨rfl,aO _⟩,fun hn=>(hn rfl).elim,fun k' fq=>?_⟩;cases fq;refine ⟨⟨0,et,e,some []⟩,?_,aO _,fun _=>?_⟩
 ·show (E.tk ++ _)[st.tk.length]? = _;rw [h.tk];simp
 ·show (E.τ ++ _)[st.tk.length]? = _;rw [<- h.tk,<- h.env.tl];simp
theorem Na {t d et e iI n:Nat} {bb:Bool} {z:List Value} (kW:o.op = .buildSlice t 0 #[]) (eX:o.dst=some d) (hT:X.T.find t=some ⟨n,bb,.sl et e iI,z⟩) (hd:eB X.nt st.sl (some d)=true) (aR:X.still=false:=by exact rfl) (hX:X.bt=[]:=by exact rfl)
  (hk:go X 4000 k ⟨(d,⟨[],.sl 0 [] (some st.tk.length)⟩) :: st.sl,st.bx,st.tk ++ [⟨0,et,e,some []⟩]⟩):Gx X o k st:=(YZ kW eX hT hd aR hX).g hk
end
end Dv
end Go.Proofs.YtgjagnmeonoehaaGreat
set_option maxRecDepth 100000
namespace Go.Proofs.YtgjagnmeonoehaaGreat
open Go Go.RowKit Dv Go.Proofs.Tryz
theorem RE (ks:List Val) (hl:ks.length<=17179869184):EvP prog 130 [.sl 4 (dVals ks) none] (.sl 4 (dVals ks) none):=by
 have bz:=aP ks;refine Kp ?_;refine eG 8 [.tmp 2] func130 rfl ntmps130 rfl fun _ _ _ _=>?_;refine qf ⟨_,rfl⟩ rfl rfl rfl rfl (fun b hb=>?_)
 cases b with
 | true=>
  have h0:dVals ks=[]:=by grind
  exact Or.inr ⟨h0,rfl⟩
 | false=>
  refine l6 rfl rfl rfl rfl (hk:=?_);refine ⟨rfl,⟨by simp [maxLen,bz];omega,by simp [bz];omega⟩,?_⟩;exact ⟨_,ax,Or.inl rfl⟩
theorem Jg (ks:List Val) (aQ:ks ≠ []) (hl:ks.length<=17179869184):Sm prog 130 [.sl 4 (dVals ks) none] [] []
  (fun r _ bQ=>r = .sl 0 (List.replicate ks.length []) (some 0)/\bQ=[⟨ks.length,34,4,some (dVals ks).flatten⟩]):=by
 have bz:=aP ks;have Sb:dVals ks ≠ []:=fun h=>aQ (List.eq_nil_of_length_eq_zero (by rw [<- bz,h];rfl));refine mH (s:=false) (bt:=[]) (mu:=[]) (hbt:=fun p hp=>by cases hp) (fr:=true) (P:=prog) tt jC 5000 8 [.tmp 2] func130 rfl ntmps130 rfl (nL rfl) (fun _ _ _ _=>?_);refine qf ⟨_,rfl⟩ rfl rfl rfl rfl (fun b hb=>?_);rw [hb Sb];refine Na rfl rfl rfl rfl (hk:=?_);refine ⟨⟨⟨rfl,Sb⟩,by rw [bz];simp [maxLen];omega,by rw [bz];omega⟩,?_⟩;have XI:List.replicate (0 + (dVals ks).length) ([]:List DV)=List.replicate ks.length []:=by rw [Nat.zero_add,bz]
 refine ⟨.sl 0 (List.replicate ks.length []) (some 0),[],(by repeat' (first | exact rfl | exact trivial | exact Or.inr (Or.inl ⟨_,rfl⟩) | exact Or.inr ⟨_,rfl⟩ | exact Or.inl ⟨rfl,rfl⟩ | exact Or.inl rfl | refine Or.inr ⟨_,_,rfl,Nat.zero_le _,rfl,?_⟩ | refine ⟨_,_,rfl,?_,?_⟩ | refine ⟨_,rfl,?_⟩ | exact ⟨nL rfl,congrArg (fun l=>DV.sl 0 l _) XI⟩ | refine Or.inr (Or.inr (Or.inr ⟨_,_,rfl,?_⟩)) | exact Or.inl rfl | refine Or.inr ?_)),rfl,rfl,?_⟩;show [(⟨0 + (dVals ks).length,_,4,some ([] ++ (dVals ks).flatten)⟩:TkE)]=_;rw [bz,Nat.zero_add,List.nil_append]
def endC (c:iL) (s:ch) (v:Val):Option Val:=
 if v.k=5 then (if c.k=2 then (if gl s (dg v.ks.length)=true then some (.mk v.k v.n v.s (v.ks ++ [oV c.y])) else none)
  else match v.ks[v.ks.length - 1]? with
   | none=>none
   | some x=>if sameV x (oV c.x)=true/\gl s (dg (v.ks.length - 1))=true then some (.mk v.k v.n v.s (v.ks.take (v.ks.length - 1))) else none)
 else none
def Jh (c:iL) (v:Val):Option Val:=if sameV v (oV c.x)=true then some (oV c.y) else none
section
variable (ND:List Nd)
def atK (D:Val->Option Val):List ch->Val->Int->Option Val
 | [],v,_=>D v
 | s :: p,v,i=>match cT ND i with
  | none=>none
  | some d=>if v.k=d.ag/\5<=d.ag then (match CU d v s with
   | none=>none
   | some j=>match v.ks[j]?,bY d v.n j with
    | some a,some e=>(atK D p a e.to).map (pL v j)
    | _,_=>none) else none
def doK (c:iL) (p:List ch) (v:Val) (i:Int):Option Val:=
 if c.k=1 then atK ND (Jh c) p v i
 else if c.k=2∨c.k=3 then (match p.getLast? with | none=>none | some s=>atK ND (endC c s) p.dropLast v i) else none
def runK (B:Val->Bool) (rt:Int):List iL->Val->Option Val
 | [],v=>some v
 | c :: r,v=>match doK ND c c.p v rt with
  | none=>none
  | some w=>if B w=true then runK B rt r w else none
end
def Grow (W:Nat) (D:Val->Option Val):Prop:=∀ v V,D v=some V->rngW v->rngW V/\V.wt<=v.wt + W
theorem Bq:∀ {l:List Val} {j:Nat} {u:Val},rngWs l->rngW u->rngWs (l.set j u)
 | [],_,_,_,_=>by simp [rngWs]
 | v :: r,0,u,h,hu=>by grind [rngWs]
 | v :: r,j + 1,u,h,hu=>by
  rw [rngWs] at h;rw [List.set_cons_succ,rngWs];exact ⟨h.1,Bq h.2 hu⟩
theorem y4:∀ {l:List Val} {u:Val},rngWs l->rngW u->rngWs (l ++ [u])
 | [],_,_,hu=>by rw [List.nil_append,rngWs,rngWs];exact ⟨hu,trivial⟩
 | v :: r,u,h,hu=>by
  rw [rngWs] at h;rw [List.cons_append,rngWs];exact ⟨h.1,y4 h.2 hu⟩
theorem uH:∀ (l:List Val) (u:Val),cO (l ++ [u])=cO l + u.wt
 | [],u=>by simp [cO]
 | v :: r,u=>by rw [List.cons_append,cO,cO,uH r];omega
theorem Nb (c:iL) (hr:rngW (oV c.y)):Grow (oV c.y).wt (Jh c):=by
 intro v V h _
 grind [Jh]
theorem Nc (c:iL) (s:ch) (hr:rngW (oV c.y)):Grow (oV c.y).wt (endC c s):=by
 intro v V h hv;obtain ⟨k,n,t,ks⟩:=v;rw [rngW] at hv;unfold endC at h;split at h
 ·split at h
  ·split at h
   ·cases h;refine ⟨by rw [rngW];exact ⟨hv.1,hv.2.1,y4 hv.2.2 hr⟩,?_⟩
    grind [Val.wt,uH,Val.s,Val.ks]
   ·cases h
  ·split at h
   ·cases h
   split at h
   ·cases h;refine ⟨by rw [rngW];exact ⟨hv.1,hv.2.1,yH _ hv.2.2⟩,?_⟩
    grind [CT,Val.wt,Val.s,Val.ks]
   ·cases h
 ·cases h
theorem y5 {ND:List Nd} {W:Nat} {D:Val->Option Val} (hD:Grow W D):∀ p i,Grow W fun v=>atK ND D p v i
 | [],_=>hD
 | s :: p,i=>fun v V h hv=>by
  have ih:=y5 (ND:=ND) hD p;simp only [atK] at h;split at h
  ·cases h
  split at h
  ·split at h
   ·cases h
   split at h
   ·rename_i j hj a e ha he;obtain ⟨u,hu,rfl⟩:=Option.map_eq_some_iff.1 h;obtain ⟨k,n,t,ks⟩:=v;rw [rngW] at hv;obtain ⟨h1,h2⟩:=ih e.to a u hu (mf hv.2.2 (mG ha));have h3:=F0 (y:=u) ha;refine ⟨by rw [pL,rngW];exact ⟨hv.1,hv.2.1,Bq hv.2.2 h1⟩,?_⟩
    grind [pL,Val.wt,Val.ks,Val.s]
   ·cases h
  ·cases h
theorem Gr {ND:List Nd} (c:iL) (hr:rngW (oV c.y)) (p:List ch) (i:Int):Grow (oV c.y).wt fun v=>doK ND c p v i:=by
 intro v V h hv;simp only [doK] at h;split at h
 ·exact y5 (Nb c hr) p i v V h hv
 split at h
 ·split at h
  ·cases h
  ·exact y5 (Nc c _ hr) _ i v V h hv
 ·cases h
theorem Bs {α:Type} {c:Nat} {x:List α}:∀ {l:List (List α)} {e:Nat},(∀ y∈l,y.length=c)->e < l.length->(l.set e x).flatten=l.flatten.take (e * c) ++ x ++ l.flatten.drop (e * c + c)
 | [],e,_,h=>by simp at h
 | y :: r,0,hl,h=>by
  have hy:=hl y (by simp);subst hy;simp
 | y :: r,e + 1,hl,h=>by
  have hy:=hl y (by simp);have ih:=Bs (x:=x) (l:=r) (e:=e) (fun z hz=>hl z (by simp [hz])) (sU h);have h1:(e + 1) * c=y.length + e * c:=by rw [hy,Nat.add_mul,Nat.one_mul,Nat.add_comm]
  have h2:(e + 1) * c + c=y.length + (e * c + c):=by rw [h1];omega
  rw [List.set_cons_succ,List.flatten_cons,List.flatten_cons,ih,h2,h1,List.take_length_add_append,List.drop_length_add_append];simp
theorem oH:∀ (l:List Val),∀ x∈dVals l,x.length=4
 | [],x,h=>by simp [dVals] at h
 | .mk _ _ _ _ :: r,x,h=>by
  rw [dVals] at h;rcases bp h with h | h
  ·rw [h];all_goals rfl
  ·exact oH r x h
theorem Nf (l:List Val) (e:Nat) (y:Val):dVals (l.set e y)=(dVals l).set e (aH y):=by rw [ei,ei,List.map_set]
def Y0 (o:Option Val):DV:=match o with
 | some y=>.tup [.agg (aH y),.v (.bool true)]
 | none=>.tup [.agg (aH zeroV),.v (.bool false)]
end Go.Proofs.YtgjagnmeonoehaaGreat
namespace Go.Proofs.YtgjagnmeonoehaaGreat
namespace Dv
open Go Go.RowKit
section
variable {X:Ctx} {st:St} {k:List It} {E:En} {a:Act} {w:World}
theorem Un {all:Array Oper} {o1 o2:Oper} {r:List Oper} {d1 kt t ty et e iI m xq nn:Nat} {bb:Bool} {zz:List Value} {z:Int} {kd:IntKind} {es:List (List DV)} {cs cs':List DV} {s ix x:Operand} {dv:DV}
  (h1:o1.op = .indexAddr t s ix/\o1.dst=some d1) (h2:o2.op = .store ty (.tmp d1) x/\o2.dst=none/\o2.guard=none) (Af:eB X.nt st.sl (some d1)=true)
  (hs:rv st [] s=some (.sl 0 es (some kt))) (hi:rv st [] ix=some (.v (.int kd z))) (hx:rv ⟨(d1,⟨[],.pt [] 0⟩) :: st.sl,st.bx,st.tk⟩ [] x=some dv) (hdv:eraL dv.cells (fun l=>some l)=some cs') (Xz:dv.cells.length=e) (he0:0 < e)
  (hT:X.T.find t=some ⟨nn,bb,.sl et e iI,zz⟩) (bH:X.T.sz ty=some e) (hq:st.tk[kt]? = some ⟨m,xq,e,some cs⟩) (iq:es.length=m) (hz:0<=z/\z < m)
  (hk:∃ s2,Wk X ⟨(d1,⟨[],.pt [] 0⟩) :: st.sl,st.bx,st.tk.set kt ⟨m,xq,e,some (cs.take (z.toNat * e) ++ cs' ++ cs.drop (z.toNat * e + e))⟩⟩ s2/\go X 4000 (.ops all r :: k) s2)
  (aR:X.still=false:=by exact rfl):Gx X o1 (.ops all (o2 :: r) :: k) st:=by
 intro E a w h;have gV:=h.rl;have e2:=cj (aU gV hi);have hv:=aU gV hs;obtain ⟨g,cap,cur,e1,_⟩:=KW h hv hq iq (by omega);refine gq (T6 h1.1 e1 e2 hT hz w) ?_;rw [h1.2];have hr1:Rel X E ⟨(d1,⟨[],.pt [] 0⟩) :: st.sl,st.bx,st.tk⟩ (a.put (some d1) (.pointer (some ⟨g,z.toNat * e,none⟩))) w:=aY h Af (.pt [] 0) _ (by unfold Rv;exact ⟨g,z.toNat * e,rfl,by simp only [RvAt]⟩);generalize ha1:a.put (some d1) (.pointer (some ⟨g,z.toNat * e,none⟩))=a1 at hr1
 have ht1:a1.eval (.tmp d1) = .pointer (some ⟨g,z.toNat * e,none⟩):=by
  subst ha1;simp only [eB,aD,Nat.blt_eq] at Af;simp [Act.eval,Act.put,h.sz,Af.1]
 show kq X (.ops all (o2 :: r) :: k) .normal a1 w;simp only [kq,wpList,Region.wanted,h2.2.2,if_true];obtain ⟨w',E',bU,bM⟩:=T7 hr1 h2.1 ht1 hv e1 hx hdv Xz he0 bH hq iq hz aR;refine .inl (Jx bU ?_);rw [h2.2.1];obtain ⟨s2,Lj,hk⟩:=hk;obtain ⟨E3,hr3⟩:=Lj _ _ _ bM;exact go_sound 4000 _ _ hk E3 _ _ hr3
theorem Gs {id:Nat} {ops:Array Oper} (st':St) (hw:Wk X st st') (h:kQ X id ops k st'):kQ X id ops k st:=fun E a w hr=>by
 obtain ⟨E',h'⟩:=hw E a w hr;exact h E' a w h'
end
end Dv
end Go.Proofs.YtgjagnmeonoehaaGreat
set_option maxRecDepth 100000
namespace Go.Proofs.YtgjagnmeonoehaaGreat
open Go Go.RowKit Dv Go.Proofs.Tryz
def Ng (o:Option Val) (r:DV) (_:List (List DV)) (_:List TkE):Prop:=∃ (V:Val) (b:Bool),r = .tup [.agg (aH V),.v (.bool b)]/\(if b=true then some V else none)=o
theorem Wp {ND:List Nd} {L:Nat} (bZ:∀ n∈ND,eD L ND.length n) {v:Val} {i:Int} (hw:gm ND v i=true) {j:Nat} {a:Val} (hj:v.ks[j]? = some a) :
  ∃ d,cT ND i=some d/\v.k=d.ag/\5<=d.ag/\d.ag<=8/\(d.ag=8->0<=v.n/\v.n < d.av.length)/\(d.ag=7->j < d.av.length)/\∃ e,bY d v.n j=some e/\gm ND a e.to=true:=by
 obtain ⟨d,hd,h⟩:=jI hw;have aQ:v.ks ≠ []:=fun h=>by rw [h] at hj;simp at hj
 have hN:=bZ d (mG (de hd).2);rcases h with h | h | h
 ·exact (aQ h.2.2).elim
 ·exact (aQ h.2.2.1).elim
 ·obtain ⟨e,e1,e2⟩:=oA h.2.2.2 hj;rw [Nat.zero_add] at e1;refine ⟨d,hd,h.1,h.2.1,hN.k8,fun c=>shell_8 h.2.2.1 c,fun c=>?_,e,e1,e2⟩
  grind [bY]
theorem K6 {d:Nd} {v:Val} {s:ch} {e:Nat} (he:e < v.ks.length) (h1:∀ j,j < e->gl (stpR d v j) s=false) (h2:gl (stpR d v e) s=true):CU d v s=some e:=by simp_all [CU]
theorem K7 {d:Nd} {v:Val} {s:ch} (h1:∀ j,j < v.ks.length->gl (stpR d v j) s=false):CU d v s=none:=by grind [CU]
abbrev atSt (PC:List DV) (p:List ch) (g:Nat) (cl:List DV) (v:Val) (d:Nd) (e:Nat):St:=
 ⟨[aam 0 PC,aad 3 3 (bm p),(4,⟨[],.fn g [] cl⟩),aab 7 0,aab 10 1,aab 12 2,aad 46 4 (dVals v.ks),aaa 47 ((dVals v.ks).length),aaa 48 e],[aH v,zD,jt d],[]⟩
set_option maxHeartbeats 1000000 in
theorem at39_spec {S:Sch} {ND:List Nd} {PC:List DV} (hP:fw S ND PC) (g:Nat) (cl:List DV) (hg:Enters prog g) (fY:CcL [] 0 0 0 cl cl) (JW:clB 3 0 (.fn g [] cl)=true) (D:Val->Option Val) (hD:∀ v:Val,v.wt<=1099511627776->Ev prog g (.agg (aH v) :: cl) [] [] (Ng (D v))) :
  ∀ (p:List ch) (v:Val) (i:Int),v.wt<=1099511627776->gm ND v i=true ->
  Ev prog 126 [.pt PC 0,.v (.int .i64 i),.agg (aH v),.sl 3 (bm p) none,.fn g [] cl] [] [] (Ng (atK ND D p v i))
 | [],v,i,hv,hw=>by
  have hD:=hD v hv;show Ev _ _ _ _ _ (Ng (D v));generalize D v=O at hD ⊢;obtain ⟨vk,vn,vs,vl⟩:=v;refine eG 89 [.cell 10 34,.tmp 11] func126 rfl ntmps126 rfl fun _ _ _ _=>?_;refine bE hg rfl hD (by repeat' (first | exact rfl | exact trivial | exact Or.inr (Or.inl ⟨_,rfl⟩) | exact Or.inr ⟨_,rfl⟩ | exact Or.inl ⟨rfl,rfl⟩ | exact Or.inl rfl | refine Or.inr ⟨_,_,rfl,Nat.zero_le _,rfl,?_⟩ | refine ⟨_,_,rfl,?_,?_⟩ | refine ⟨_,rfl,?_⟩ | exact fY | refine Or.inr (Or.inr (Or.inr ⟨_,_,rfl,?_⟩)) | exact Or.inl rfl | refine Or.inr ?_)) (fun r hr=>?_);obtain ⟨⟨wk,wn,ws,wl⟩,b,rfl,hb⟩:=hr;exact ⟨_,ax,_,b,rfl,hb⟩
 | s :: p,v,i,hv,hw=>by
  have ih:=at39_spec hP g cl hg fY JW D hD p;have bz:=aP v.ks;have ir:=b9 v.ks;have hvw:v.wt=64 + v.s.size + cO v.ks:=by obtain ⟨_,_,_,_⟩:=v;rfl
  have Gb:=KX s p;have tT:=fW (l:=s :: p) (e:=0) rfl;have rX:=fl (s :: p);rw [List.length_cons] at rX;obtain ⟨d,hd,X8⟩:=jI hw;obtain ⟨h0,RY⟩:=de hd;obtain ⟨n,rfl⟩:∃ n:Nat,i=n:=⟨i.toNat,by omega⟩;have RY:ND[n]? = some d:=sU RY;have ep:=hP.aj n d RY;have Dh:=fun (j:Nat) a (hj:v.ks[j]? = some a)=>Wp hP.ok hw hj;have hO:atK ND D (s :: p) v n=if v.k=d.ag/\5<=d.ag then (match CU d v s with | none=>none | some j=>match v.ks[j]?,bY d v.n j with | some a,some e=>(atK ND D p a e.to).map (pL v j) | _,_=>none) else none:=by rw [atK,hd];all_goals rfl
  have aR:∀ (j:Nat) a,v.ks[j]? = some a->EvP prog 148 [.agg (jt d),.agg (aH v),.v (.int .i64 j)] (.agg (lH (stpR d v j))):=fun j a hj=>by
   obtain ⟨d',lR,k1,k2,k3,k4,k5,_⟩:=Dh j a hj;rw [hd] at lR;cases lR;exact nq d v j k1 k2 k3 k5 k4
  have kP:∀ (j:Nat) a,v.ks[j]? = some a->∃ e,bY d v.n j=some e/\gm ND a e.to=true/\EvP prog 146 [.agg (jt d),.agg (aH v),.v (.int .i64 j)] (.v (.int .i64 e.to)):=fun j a hj=>by
   obtain ⟨d',lR,k1,k2,k3,k4,k5,e,e1,e2⟩:=Dh j a hj;rw [hd] at lR;cases lR;exact ⟨e,e1,e2,Gj d v j e k1 e1 k4⟩
  have eW:=@K7 d v s;have LJ:=@K6 d v s;have ZM:=Jg v.ks;generalize atK ND D (s :: p) v n=O at hO ⊢;clear Dh X8 hw;by_cases hc:v.k=d.ag/\5<=d.ag
  ·rw [ai hc] at hO;obtain ⟨vk,vn,vs,vl⟩:=v;obtain ⟨ag,aG,lo,hi,most,af,es⟩:=d;simp only [Val.k,Val.n,Val.s,Val.ks] at *;refine eG 89 [.cell 10 34,.tmp 11] func126 rfl ntmps126 rfl fun _ _ _ _=>?_;refine cP sI ep ?_;refine br (fun c=>?_) (fun _=>?_)
   ·exfalso;simp [ap] at c;omega
   refine lI (fun t st=>∃ e:Nat,st=atSt PC (s :: p) g cl (.mk vk vn vs vl) ⟨ag,aG,lo,hi,most,af,es⟩ e/\e<=vl.length/\(∀ j,j < e->gl (stpR ⟨ag,aG,lo,hi,most,af,es⟩ (.mk vk vn vs vl) j) s=false)/\t=vl.length - e) ⟨0,rfl,by omega,fun _ h=>by omega,rfl⟩ (QT 3 (nG JW) (wB1 JW)) ?_;rintro t st ⟨e,rfl,he,tM,rfl⟩;refine br ?_ ?_<;>intro jr
   ·have aq:e < vl.length:=by
     have h2:=jr;simp at h2;have h2:e < (dVals vl).length:=h2;omega
    obtain ⟨a,ha⟩:=gX aq;obtain ⟨ed,Ku,hw1,Y1⟩:=kP e a ha;have RF:=aR e a ha;have haw:=cS (mG ha);have rQ:=b9 a.ks;have haw2:a.wt=64 + a.s.size + cO a.ks:=by obtain ⟨_,_,_,_⟩:=a;rfl
    have jX:=ih a ed.to (by omega) hw1;have LJ:=LJ aq tM;generalize JA:stpR ⟨ag,aG,lo,hi,most,af,es⟩ (.mk vk vn vs vl) e=sr at RF LJ;obtain ⟨ak,an,GF,al⟩:=a;refine iX (bf ha) ?_;refine dI ?_;refine cD wu RF ?_;refine ⟨_,⟨by omega,tT⟩,_,TR _ _ _ _,?_⟩;refine br ?_ ?_<;>intro c
    ·have c:gl sr s=false:=sU c
     exact rE ⟨_,by omega,e + 1,rfl,by omega,fun j hj=>(by
      rcases Nat.lt_or_ge j e with h | h
      ·exact tM j h
      ·rw [show j=e by omega,JA,c]),rfl⟩ (QT 3 (nQ (nxt aq (by omega)) JW) (gw (nxt aq (by omega)) JW))
    ·have c:gl sr s=true:=sU c;rw [LJ c] at hO;simp only at hO;rw [ha,Ku] at hO;simp only at hO;refine dS ?_;refine cD On Y1 ?_;refine ⟨⟨by omega,by omega,by omega⟩,?_⟩;refine kX Oi rfl jX (by repeat' (first | exact rfl | exact trivial | exact Or.inr (Or.inl ⟨_,rfl⟩) | exact Or.inr ⟨_,rfl⟩ | exact Or.inl ⟨rfl,rfl⟩ | exact Or.inl rfl | refine Or.inr ⟨_,_,rfl,Nat.zero_le _,rfl,?_⟩ | refine ⟨_,_,rfl,?_,?_⟩ | refine ⟨_,rfl,?_⟩ | exact fY | exact Or.inr (Or.inl ⟨_,Gb⟩) | refine Or.inr (Or.inr (Or.inr ⟨_,_,rfl,?_⟩)) | exact Or.inl rfl | refine Or.inr ?_)) (fun r hr=>?_);obtain ⟨⟨wk,wn,ws,wl⟩,b,rfl,hb⟩:=hr
     cases b with
     | false=>
      have hb:none=atK ND D p (.mk ak an GF al) ed.to:=hb;rw [<- hb] at hO;exact ⟨_,ax,zeroV,false,rfl,hO.symm⟩
     | true=>
      have hb:some (Val.mk wk wn ws wl)=atK ND D p (.mk ak an GF al) ed.to:=hb;rw [<- hb] at hO;have hO:O=some (.mk vk vn vs (vl.set e (.mk wk wn ws wl))):=hO;have ZM:=ZM (by rintro rfl;simp at aq) (by omega);refine Yr JN rfl ZM ax (fun r1 bQ hr1=>?_);obtain ⟨rfl,rfl⟩:=hr1;have Wq:=Bs (x:=aH (.mk wk wn ws wl)) (oH vl) (e:=e) (by rw [aP];exact aq);rw [<- Nf] at Wq;have DB:=oH (vl.set e (.mk wk wn ws wl));have nz:(dVals (vl.set e (.mk wk wn ws wl))).length=vl.length:=by rw [aP,List.length_set]
      refine Un (kt:=0) (cs':=aH (.mk wk wn ws wl)) (m:=vl.length) ⟨rfl,rfl⟩ ⟨rfl,rfl,rfl⟩ rfl rfl rfl rfl rfl rfl (Nat.succ_pos _) rfl rfl rfl List.length_replicate ⟨by omega,by omega⟩ ?_;refine ⟨_,PB (j:=0) (o:=3) (k:=0) (ty:=34) (e:=4) (ocs:=[.v (.int .i64 vk),.v (.int .i64 vn),.v (.string vs),.sl 0 (List.replicate vl.length []) (some 0)]) (n:=vl.length) (es:=List.replicate vl.length []) (ns:=dVals (vl.set e (.mk wk wn ws wl))) ?_ DB nz rfl rfl List.length_replicate,?_⟩
      ·rw [Wq];rfl
      ·exact ⟨_,ax,_,true,rfl,hO.symm⟩
   ·have aS:e=vl.length:=by
     have h2:=jr;simp at h2;have h2:(dVals vl).length<=e:=h2;omega
    subst aS;rw [eW tM] at hO;exact ⟨_,ax,zeroV,false,rfl,hO.symm⟩
  ·rw [ah hc] at hO;obtain ⟨vk,vn,vs,vl⟩:=v;obtain ⟨ag,aG,lo,hi,most,af,es⟩:=d;simp only [Val.k,Val.n,Val.s,Val.ks] at *;refine eG 89 [.cell 10 34,.tmp 11] func126 rfl ntmps126 rfl fun _ _ _ _=>?_;refine cP sI ep ?_;refine br (fun _=>?_) (fun c=>?_)
   rotate_left
   ·exfalso;simp [ap] at c;omega
   exact ⟨_,ax,zeroV,false,rfl,hO.symm⟩
theorem RG (a:Val) (l:List Val) (hl:(a :: l).length<=17179869184):Sm prog 130 [.sl 4 (dVals (a :: l)) none] [] [] (fun r _ bQ=>r = .sl 4 (dVals (a :: l)) (some 0)/\bQ=[⟨(a :: l).length,34,4,none⟩]):=by
 have bz:=aP (a :: l);have aQ:dVals (a :: l) ≠ []:=by obtain ⟨_,_,_,_⟩:=a;simp [dVals]
 generalize a :: l=ks at *;refine mH (s:=false) (bt:=[]) (mu:=[]) (hbt:=fun p hp=>by cases hp) (fr:=true) (P:=prog) tt jC 5000 8 [.tmp 2] func130 rfl ntmps130 rfl (nL rfl) (fun _ _ _ _=>?_);refine qf ⟨_,rfl⟩ rfl rfl rfl rfl (fun b hb=>?_);rw [hb aQ];refine l6 rfl rfl rfl rfl (hk:=?_);refine ⟨rfl,⟨by simp [maxLen,bz];omega,by simp [bz];omega⟩,?_⟩;refine ⟨_,[],ie,rfl,rfl,?_⟩;show [(⟨0 + (dVals ks).length,_,4,none⟩:TkE)]=_;rw [bz,Nat.zero_add]
theorem y6 (l:List Val) (v:Val):dVals l ++ [aH v]=dVals (l ++ [v]):=by simp [ei]
theorem Uo {P:Program} {f:FuncId} {args:List DV} {e:Nat} {ty:TypeId} (h:Sm P f args [] [] (fun r _ bQ=>(r = .v (.slice none 0 0)/\bQ=[])∨(r = .sl e [] (some 0)/\bQ=[⟨0,ty,e,none⟩]))) :
  Sm P f args [] [] (fun r _ bQ=>r = .sl e [] (some 0)/\bQ=[⟨0,ty,e,none⟩]):=by
 intro E w vs hE ht hv;refine (h E w vs hE ht hv).mono ?_;rintro e' w' ⟨v,rfl,hM,hs,d,os,E',h1,h2,h3,h4,h5,h6⟩;rcases h6 with ⟨rfl,h6⟩ | h6
 ·have hE0:E.tk.length=0:=by rw [ht];all_goals rfl
  have hτ0:E'.τ=[]:=List.eq_nil_of_length_eq_zero (by rw [h1.tl,h6];rfl);unfold Rv at h5;refine ⟨v,rfl,hM,hs,.sl e [] (some 0),os,⟨E'.c,E'.β,[⟨0,ty,e,none⟩],[.slice none 0 0]⟩,?_,h2,by show E.tk.length<=_;omega,?_,?_,rfl,rfl⟩
  ·exact { h1 with
    tl:=rfl
    eA:=fun i cs hi=>by
     obtain ⟨b,t,arr,g1,g2,g3⟩:=h1.eA i cs hi;exact ⟨b,t,arr,g1,g2,RvC.mono (E:=E') (E':=⟨E'.c,E'.β,[⟨0,ty,e,none⟩],[.slice none 0 0]⟩) ⟨fun _ _ h=>h,fun _ _ h=>h,fun j q hj=>by rw [h6] at hj;simp at hj⟩ g3⟩
    bQ:=fun k q y hq hy=>by
     cases k with
     | zero=>
      cases hq;cases hy;exact .inl ⟨rfl,rfl,fun cs cQ=>by cases cQ⟩
     | succ k=>simp at hq
    iZ:=fun k k' y y' g _ hy _ hg=>by
     cases k with
     | zero=>cases hy;simp [Value.ownBlock] at hg
     | succ k=>simp at hy }
  ·exact { h4 with
    tk:=fun k q y hq hy=>by
     have:=(gS hq).1;omega
    tn:=fun k y g _ hy hg=>by
     cases k with
     | zero=>cases hy;simp [Value.ownBlock] at hg
     | succ k=>simp at hy }
  ·unfold Rv
   exact ⟨none,0,0,h5.1,⟨rfl,aO _⟩,fun hn=>(hn rfl).elim,fun k hk=>by
    cases hk
    exact ⟨⟨0,ty,e,none⟩,rfl,aO _,fun _=>by rw [h5.1];rfl⟩⟩
 ·exact ⟨v,rfl,hM,hs,d,os,E',h1,h2,h3,h4,h5,h6⟩
theorem Nh:Sm prog 130 [.sl 4 [] none] [] [] (fun r _ bQ=>r = .sl 4 [] (some 0)/\bQ=[⟨0,34,4,none⟩]):=by
 refine Uo ?_;refine mH (s:=false) (bt:=[]) (mu:=[]) (hbt:=fun p hp=>by cases hp) (fr:=true) (P:=prog) tt jC 5000 8 [.tmp 2] func130 rfl ntmps130 rfl (nL rfl) (fun _ _ _ _=>?_);refine qf ⟨_,rfl⟩ rfl rfl rfl rfl (fun b hb=>?_)
 cases b with
 | true=>exact ⟨_,[],ax,rfl,Or.inl ⟨rfl,rfl⟩⟩
 | false=>
  refine l6 rfl rfl rfl rfl (hk:=?_);refine ⟨rfl,⟨by simp [maxLen],by simp⟩,?_⟩;exact ⟨_,[],ie,rfl,Or.inr ⟨rfl,rfl⟩⟩
set_option maxHeartbeats 1000000 in
theorem ap2_spec (c:iL) (X Y v:Val) (hX:oV c.x=X) (hYe:oV c.y=Y) (hv:v.wt<=1099511627776) (hY:Y.wt<=1099511627776) (n:Nat) (s:ch) (hs:c.p[n]? = some s) (hk:c.k=2∨c.k=3) :
  Ev prog 129 [.agg (aH v),.pt (Jf c.k c.p X Y) 0,.pt [.v (.int .i64 n)] 0] [] [] (Ng (endC c s v)):=by
 have ho:=ka Y.wt Y (aO _) hY;have bz:=aP v.ks;have ir:=b9 v.ks;have hvw:v.wt=64 + v.s.size + cO v.ks:=by obtain ⟨_,_,_,_⟩:=v;rfl
 have tT:=fW hs;have iJ:=(gS hs).1;have hdpl:=fl c.p;have Qb:=Gp s
 have hE:endC c s v=if v.k=5 then (if c.k=2 then (if gl s (dg v.ks.length)=true then some (.mk v.k v.n v.s (v.ks ++ [Y])) else none)
  else match v.ks[v.ks.length - 1]? with
   | none=>none
   | some x=>if sameV x X=true/\gl s (dg (v.ks.length - 1))=true then some (.mk v.k v.n v.s (v.ks.take (v.ks.length - 1))) else none)
  else none:=by rw [endC,hX,hYe];all_goals rfl
 generalize endC c s v=O at hE ⊢;obtain ⟨k,p,x,y⟩:=c;simp only at hk tT hdpl hE iJ ⊢;clear hX hYe;obtain ⟨xk,xn,xs,xl⟩:=X;obtain ⟨yk,yn,ys,yl⟩:=Y;by_cases g5:v.k=5
 ·rw [ai g5] at hE;by_cases g2:k=2
  ·rw [ai g2] at hE;have hi:=Qb v.ks.length;generalize gl s (dg v.ks.length)=B at hE hi;rw [<- bz] at hi;obtain ⟨vk,vn,vs,vl⟩:=v;simp only [Val.k,Val.n,Val.s,Val.ks] at *;obtain ⟨sk,sn,ss⟩:=s
   cases vl with
   | nil=>
    have hcf:=Nh;have fA:([]:List (List DV)).length=0:=rfl;have eO:([]:List (List DV)).length + 1<=maxLen:=by simp [maxLen]
    have Db:(([]:List (List DV)).length + 1) * 56<=140737488355328:=by simp
    refine eG 68 [.cell 4 34,.tmp 5] func129 rfl ntmps129 rfl fun _ _ _ _=>?_;refine br ?_ ?_<;>intro g
    ·exfalso;simp at g;exact g g5
    refine br ?_ ?_<;>intro g
    rotate_left
    ·exfalso;simp at g;exact g g2
    apply jJ (.op 0 (.op 1 (.op 3 (.op 4 (.ev 2 (.ev 5 (.ev 6 (.ev 7 (.op 8 (.ev 9 .fin .stop)) .stop) .stop) .stop) .stop))))) mo (by decide +kernel);·repeat' (first | (refine CV JN rfl hcf ax (fun uO bQ hr=>?_);obtain ⟨rfl,rfl⟩:=hr) | refine cD G5 ho ?_ | refine ⟨fA,⟨eO,Db⟩,?_⟩ | exact trivial | exact Or.inl rfl | exact uY | refine ⟨?_,?_⟩)
    refine dS ?_;refine iX (by simpa using tT) ?_;refine cD Ol hi ?_;exact ⟨_,ax,.mk vk vn vs [.mk yk yn ys yl],B,rfl,hE.symm⟩
   | cons a l=>
    have hcf:=RG a l (by omega);have eO:(dVals (a :: l)).length + 1<=maxLen:=by rw [bz];simp only [maxLen];omega
    have Db:((dVals (a :: l)).length + 1) * 56<=140737488355328:=by rw [bz];omega
    refine eG 68 [.cell 4 34,.tmp 5] func129 rfl ntmps129 rfl fun _ _ _ _=>?_;refine br ?_ ?_<;>intro g
    ·exfalso;simp at g;exact g g5
    refine br ?_ ?_<;>intro g
    rotate_left
    ·exfalso;simp at g;exact g g2
    apply jJ (.op 0 (.op 1 (.op 3 (.op 4 (.ev 2 (.ev 5 (.ev 6 (.ev 7 (.op 8 (.ev 9 .fin .stop)) .stop) .stop) .stop) .stop))))) mo (by decide +kernel);·repeat' (first | (refine CV JN rfl hcf ax (fun uO bQ hr=>?_);obtain ⟨rfl,rfl⟩:=hr) | refine cD G5 ho ?_ | refine ⟨bz,⟨eO,Db⟩,?_⟩ | exact trivial | exact Or.inl rfl | exact uY | refine ⟨?_,?_⟩)
    refine dS ?_;refine iX (by simpa using tT) ?_;refine cD Ol hi ?_;exact ⟨_,(by repeat' (first | exact rfl | exact trivial | exact Or.inr (Or.inl ⟨_,rfl⟩) | exact Or.inr ⟨_,rfl⟩ | exact Or.inl ⟨rfl,rfl⟩ | exact Or.inl rfl | refine Or.inr ⟨_,_,rfl,Nat.zero_le _,rfl,?_⟩ | refine ⟨_,_,rfl,?_,?_⟩ | refine ⟨_,rfl,?_⟩ | exact Or.inr (Or.inl ⟨_,congrArg (fun l=>DV.sl 4 l _) (y6 (a :: l) (.mk yk yn ys yl))⟩) | refine Or.inr (Or.inr (Or.inr ⟨_,_,rfl,?_⟩)) | exact Or.inl rfl | refine Or.inr ?_)),.mk vk vn vs (a :: l ++ [.mk yk yn ys yl]),B,rfl,hE.symm⟩
  ·rw [ah g2] at hE;obtain ⟨vk,vn,vs,vl⟩:=v;simp only [Val.k,Val.n,Val.s,Val.ks] at *;obtain ⟨sk,sn,ss⟩:=s
   cases vl with
   | nil=>
    refine eG 68 [.cell 4 34,.tmp 5] func129 rfl ntmps129 rfl fun _ _ _ _=>?_;refine br ?_ ?_<;>intro g
    ·exfalso;simp at g;exact g g5
    refine br ?_ ?_<;>intro g
    ·exfalso;simp at g;exact g2 g
    refine dI ?_;exact ⟨_,ax,zeroV,false,rfl,hE.symm⟩
   | cons a l=>
    obtain ⟨x,hx⟩:∃ x,(a :: l)[l.length]? = some x:=⟨_,gE (by simp)⟩;have EP:=cS (mG hx);have Lg:=qq x.wt x (aO _) (by omega) (.mk xk xn xs xl);have hz:IntKind.i64.wrap (((dVals (a :: l)).length:Int) - 1)=((l.length:Nat):Int):=by rw [bz,List.length_cons,show ((l.length + 1:Nat):Int) - 1=(l.length:Nat) by omega];rw [List.length_cons] at ir;exact wrap64 (by omega) (by omega)
    rw [List.length_cons] at bz ir;have hi:=Qb l.length
    have hE:O=(match (a :: l)[l.length]? with
     | none=>none
     | some x=>if sameV x (.mk xk xn xs xl)=true/\gl ⟨sk,sn,ss⟩ (dg l.length)=true then some (.mk vk vn vs ((a :: l).take l.length)) else none):=hE
    rw [hx] at hE;simp only at hE;generalize gl ⟨sk,sn,ss⟩ (dg l.length)=B at hE hi;obtain ⟨zk,zn,zs,zl⟩:=x;have fY:=RE ((a :: l).take l.length) (by rw [zLenT];omega);rw [<- hz] at hi
    have je:DV.sl 4 (((dVals (a :: l)).take (IntKind.i64.wrap (((dVals (a :: l)).length:Int) - 1)).toNat).drop (0:Int).toNat) none = .sl 4 (dVals ((a :: l).take l.length)) none:=by
     rw [hz,iW,ei,ei,List.map_take];rfl
    generalize sameV (.mk zk zn zs zl) (.mk xk xn xs xl)=M at hE Lg;refine eG 68 [.cell 4 34,.tmp 5] func129 rfl ntmps129 rfl fun _ _ _ _=>?_;refine br ?_ ?_<;>intro g
    ·exfalso;simp at g;exact g g5
    refine br ?_ ?_<;>intro g
    ·exfalso;simp at g;exact g2 g
    refine dI ?_;refine ⟨_,⟨by rw [hz];omega,by rw [hz];exact bf hx⟩,?_⟩;refine cD Oj Lg ?_
    cases M with
    | false=>exact ⟨_,ax,zeroV,false,rfl,by rw [hE];simp⟩
    | true=>
     refine ⟨⟨by omega,by rw [hz];omega,by rw [hz];omega⟩,?_⟩;refine cP JN fY ?_ (qA je);refine dS ?_;refine iX (by simpa using tT) ?_;refine cD Ol hi ?_;exact ⟨_,ax,.mk vk vn vs ((a :: l).take l.length),B,rfl,by rw [hE];simp⟩
 ·rw [ah g5] at hE;obtain ⟨vk,vn,vs,vl⟩:=v;refine eG 68 [.cell 4 34,.tmp 5] func129 rfl ntmps129 rfl fun _ _ _ _=>?_;refine br (fun _=>?_) (fun g=>?_)
  ·exact ⟨_,ax,zeroV,false,rfl,hE.symm⟩
  ·exfalso;simp at g;exact g5 g
abbrev C5 (c:iL):List DV:=Jf c.k c.p (oV c.x) (oV c.y)
set_option maxHeartbeats 1000000 in
theorem apply39_spec {S:Sch} {ND:List Nd} {PC:List DV} (hP:fw S ND PC) (rt:Nat) (zc:dV S=rt) (c:iL) (v:Val) (hv:v.wt<=1099511627776) (hw:gm ND v rt=true) (hY:(oV c.y).wt<=1099511627776) (hp:c.p.length<=1099511627776) :
  Ev prog 60 [.pt PC 0,.agg (aH v),.agg (C5 c)] [] [] (Ng (doK ND c c.p v rt)):=by
 have gC:=hP.root;rw [zc] at gC;have bz:=fl c.p
 have h1:=fun hk:c.k=1=>at39_spec hP 127 [.pt (C5 c) 0] aaS ⟨_,_,rfl,Or.inl rfl,rfl⟩ rfl (Jh c) (fun u hu=>(RD c.k c.p u (oV c.x) (oV c.y) hu hY).mono (Ψ:=Ng (Jh c u)) fun r os tk h=>by
  subst h
  exact ⟨_,_,rfl,rfl⟩) c.p v rt hv hw
 have h2:=fun (hk:c.k=2∨c.k=3) (n:Nat) (s:ch) (hs:c.p[n]? = some s)=>at39_spec hP 129 [.pt (C5 c) 0,.pt [.v (.int .i64 n)] 0] aaT ⟨_,_,rfl,Or.inl rfl,_,_,rfl,Or.inl rfl,rfl⟩ rfl (endC c s) (fun u hu=>ap2_spec c _ _ u rfl rfl hu hY n s hs hk) (c.p.take n) v rt hv hw
 have hD:doK ND c c.p v rt=if c.k=1 then atK ND (Jh c) c.p v rt
  else if c.k=2∨c.k=3 then (match c.p.getLast? with | none=>none | some s=>atK ND (endC c s) c.p.dropLast v rt) else none:=rfl
 generalize doK ND c c.p v rt=O at hD ⊢;obtain ⟨k,p,x,y⟩:=c;simp only [C5] at *;generalize oV x=X at *;generalize oV y=Y at *;obtain ⟨vk,vn,vs,vl⟩:=v;obtain ⟨xk,xn,xs,xl⟩:=X;obtain ⟨yk,yn,ys,yl⟩:=Y;by_cases g1:k=1
 ·rw [ai g1] at hD;have h1:=h1 g1;rw [<- hD] at h1;refine eG 51 [.cell 6 34,.tmp 7] func60 rfl ntmps60 rfl fun _ _ _ _=>?_;refine br (fun _=>?_) (fun g=>?_)
  rotate_left
  ·exfalso;simp at g;exact g g1
  refine Dv.Gs ⟨[aam 0 PC,aab 4 0,aam 5 (Jf k p (.mk xk xn xs xl) (.mk yk yn ys yl)),aab 6 1],[aH (.mk vk vn vs vl),zD],[]⟩ ?_ ?_
  ·refine .trans (s2:=⟨[aam 0 PC,aab 4 0,aab 5 1,aab 6 2],[aH (.mk vk vn vs vl),Jf k p (.mk xk xn xs xl) (.mk yk yn ys yl),zD],[]⟩) (.LV (QT 3 qT kr)) (.trans (.DS 1 2 ⟨[aam 0 PC,aab 4 0,aab 5 2,aab 6 1],[aH (.mk vk vn vs vl),zD,Jf k p (.mk xk xn xs xl) (.mk yk yn ys yl)],[]⟩ _ rfl rfl rfl rfl rfl) (.GC 2 rfl rfl ⟨_,_,rfl,ax,_,_,rfl,ax,rfl⟩ rfl ⟨⟨_,rfl,ax⟩,⟨_,rfl,⟨nL rfl,rfl⟩⟩,⟨_,rfl,Or.inr ⟨2,_,rfl,aO _,rfl,ax⟩⟩,⟨_,rfl,⟨nL rfl,rfl⟩⟩,trivial⟩))
  ·refine dS ?_;refine cD Oc gC ?_;refine kX Oi rfl h1 ax (fun r hr=>?_);obtain ⟨⟨wk,wn,ws,wl⟩,b,rfl,hb⟩:=hr;exact ⟨_,ax,_,b,rfl,hb⟩
 ·rw [ah g1] at hD;by_cases g23:p ≠ []/\(k=2∨k=3)
  ·obtain ⟨aQ,g23⟩:=g23;rw [ai g23,List.getLast?_eq_some_getLast aQ] at hD;simp only at hD;have aq:p.length - 1 < p.length:=by have:=List.length_pos_iff.2 aQ;omega
   have h2:=h2 g23 (p.length - 1) (p.getLast aQ) (by rw [gE aq,List.getLast_eq_getElem]);rw [<- List.dropLast_eq_take,<- hD] at h2;have hz:IntKind.i64.wrap (((bm p).length:Int) - 1)=((p.length - 1:Nat):Int):=by rw [bz,show (p.length:Int) - 1=((p.length - 1:Nat):Int) by omega];exact wrap64 (by omega) (by omega)
   have je:DV.sl 3 (((bm p).take ((p.length - 1:Nat):Int).toNat).drop (0:Int).toNat) none = .sl 3 (bm p.dropLast) none:=by
    rw [iW,List.dropLast_eq_take,bm,bm,List.map_take];rfl
   refine eG 51 [.cell 6 34,.tmp 7] func60 rfl ntmps60 rfl fun _ _ _ _=>?_;refine br (fun g=>?_) (fun _=>?_)
   ·exfalso;simp at g;exact g1 g
   refine br (fun g=>?_) (fun _=>?_)
   ·exfalso;simp [ap,pickB_and,hz] at g;omega
   refine Dv.Gs ⟨[aam 0 PC,aab 4 0,aam 5 (Jf k p (.mk xk xn xs xl) (.mk yk yn ys yl)),aab 6 1,aam 8 [.v (.int .i64 (p.length - 1:Nat))]],[aH (.mk vk vn vs vl),zD],[]⟩ ?_ ?_
   ·refine .trans (s2:=⟨[aam 0 PC,aab 4 0,aab 5 1,aab 6 2,aab 8 3],[aH (.mk vk vn vs vl),Jf k p (.mk xk xn xs xl) (.mk yk yn ys yl),zD,[.v (.int .i64 (p.length - 1:Nat))]],[]⟩) (.LV (QT 4 (nG hz) (wB1 hz))) (.trans (.DS 1 2 ⟨[aam 0 PC,aab 4 0,aab 5 2,aab 6 1,aab 8 3],[aH (.mk vk vn vs vl),zD,Jf k p (.mk xk xn xs xl) (.mk yk yn ys yl),[.v (.int .i64 (p.length - 1:Nat))]],[]⟩ _ rfl rfl rfl rfl rfl) (.GC 2 rfl rfl ⟨_,_,rfl,ax,_,_,rfl,ax,rfl⟩ rfl ⟨⟨_,rfl,ax⟩,⟨_,rfl,⟨nL rfl,rfl⟩⟩,⟨_,rfl,Or.inr ⟨2,_,rfl,aO _,rfl,ax⟩⟩,⟨_,rfl,⟨nL rfl,rfl⟩⟩,⟨_,rfl,Or.inr ⟨3,_,rfl,nL rfl,rfl,ax⟩⟩,trivial⟩))
   ·refine dS ?_;refine cD Oc gC ?_;refine ⟨⟨by omega,by omega,by omega⟩,?_⟩;refine kX Oi rfl h2 (qA je) (fun r hr=>?_);obtain ⟨⟨wk,wn,ws,wl⟩,b,rfl,hb⟩:=hr;exact ⟨_,ax,_,b,rfl,hb⟩
  ·have hD:O=none:=by grind
   have hz:IntKind.i64.wrap (((bm p).length:Int) - 1)=(p.length:Int) - 1:=by rw [bz];exact wrap64 (by omega) (by omega)
   refine eG 51 [.cell 6 34,.tmp 7] func60 rfl ntmps60 rfl fun _ _ _ _=>?_;refine br (fun g=>?_) (fun _=>?_)
   ·exfalso;simp at g;exact g1 g
   refine br (fun _=>?_) (fun g=>?_)
   ·exact ⟨_,ax,zeroV,false,rfl,hD.symm⟩
   ·exfalso;apply g23;simp [ap,pickB_and,hz] at g;refine ⟨?_,by omega⟩;rintro rfl;simp at g
def rY (l:List iL):List (List DV):=l.map C5
theorem y7 (l:List iL):(rY l).length=l.length:=by simp [rY]
theorem y8 {l:List iL} {i:Nat} {c:iL} (h:l[i]? = some c):(rY l)[i]? = some (C5 c):=by simp [rY,h]
def chW:List iL->Nat
 | []=>0
 | c :: r=>(oV c.y).wt + chW r
theorem Gt {l:List iL} {e:Nat} {c:iL} (h:l[e]? = some c):chW (l.drop e)=(oV c.y).wt + chW (l.drop (e + 1)):=by
 obtain ⟨h1,h2⟩:=List.getElem?_eq_some_iff.1 h;rw [List.drop_eq_getElem_cons h1,h2,chW]
theorem Bt {ND:List Nd} {B:Val->Bool} {rt:Int} {l:List iL} {e:Nat} {c:iL} (h:l[e]? = some c) (v:Val):runK ND B rt (l.drop e) v=match doK ND c c.p v rt with | none=>none | some w=>if B w=true then runK ND B rt (l.drop (e + 1)) w else none:=by
 obtain ⟨h1,h2⟩:=List.getElem?_eq_some_iff.1 h;rw [List.drop_eq_getElem_cons h1,h2,runK]
 try rfl
structure aeo (c:iL):Prop where
 p:c.p.length<=1099511627776
 r:rngW (oV c.y)
abbrev Y2 (PC:List DV) (o:Int) (L:List iL) (z:Val) (e:Nat):St:=
 ⟨[aam 0 PC,aaa 1 o,aab 6 0,aab 8 1,aad 21 10 (rY L),aaa 22 ((rY L).length),aaa 23 e],[aH z,zD],[]⟩
set_option maxHeartbeats 1000000 in
theorem Ji {S:Sch} {ND:List Nd} {PC:List DV} (hP:fw S ND PC) (rt:Nat) (zc:dV S=rt) (o:Int) (B:Val->Bool) (hB:∀ v,B v=true->gm ND v rt=true)
  (hf:∀ v:Val,v.wt<=1099511627776->rngW v->EvP prog 58 [.pt PC 0,.v (.int .i64 o),.agg (aH v)] (.v (.bool (B v))))
  (L:List iL) (hL:∀ c∈L,aeo c) (x:Val) (hx:x.wt + chW L<=1099511627776) (um:rngW x) (Zr:L.length<=100000) :
  EvP prog 13 [.pt PC 0,.v (.int .i64 o),.agg (aH x),.sl 10 (rY L) none] (Y0 (if B x=true then runK ND B rt L x else none)):=by
 have Zs:=hf x (by omega) um;have ho:=ka x.wt x (aO _) (by omega);have Ns:=fun (c:iL) (v:Val) (hv:v.wt<=1099511627776) (hb:B v=true) h1 h2=>apply39_spec hP rt zc c v hv (hB v hb) h1 h2;have bz:=y7 L
 cases hb:B x with
 | false=>
  rw [hb] at Zs;obtain ⟨xk,xn,xs,xl⟩:=x;refine eG 46 [.cell 8 34,.tmp 9] func13 rfl ntmps13 rfl fun _ _ _ _=>?_;refine cP BM Zs ?_;exact ⟨_,ax,rfl⟩
 | true=>
  rw [hb] at Zs;rw [ai rfl];have VK:runK ND B rt (L.drop 0) x=runK ND B rt L x:=rfl;have hW0:chW (L.drop 0)=chW L:=rfl;generalize runK ND B rt L x=R at VK ⊢;obtain ⟨xk,xn,xs,xl⟩:=x;refine eG 46 [.cell 8 34,.tmp 9] func13 rfl ntmps13 rfl fun _ _ _ _=>?_;refine cP BM Zs ?_;refine cP G5 ho ?_;refine aT (fun j st=>∃ (e:Nat) (z:Val),st=Y2 PC o L z e/\e<=L.length/\runK ND B rt (L.drop e) z=R/\B z=true/\rngW z/\z.wt + chW (L.drop e)<=1099511627776/\j=L.length - e) L.length (Y2 PC o L (.mk xk xn xs xl) 0) (QT 2 qT kr) ⟨0,_,rfl,by omega,VK,hb,um,by rw [hW0];exact hx,by omega⟩ ?_;rintro j st ⟨e,z,rfl,he,hR,hz,Zz,hwz,rfl⟩;refine br ?_ ?_<;>intro jr
  ·have aq:e < L.length:=sV bz jr;obtain ⟨c,hc⟩:=gX aq;have bZ:=hL c (mG hc);rw [Bt hc] at hR;rw [Gt hc] at hwz;have Ns:=Ns c z (by omega) hz (by omega) bZ.p;have hgr:=fun V (h:doK ND c c.p z rt=some V)=>Gr (ND:=ND) c bZ.r c.p rt z V h Zz;generalize doK ND c c.p z rt=Q at hR Ns hgr;have RZ:=y8 hc;have hcd:C5 c=Jf c.k c.p (oV c.x) (oV c.y):=rfl;rw [hcd] at Ns RZ;generalize oV c.x=X at *;generalize hYY:oV c.y=Y at *;obtain ⟨xk,xn,xs,xl⟩:=X;obtain ⟨yk,yn,ys,yl⟩:=Y;obtain ⟨zk,zn,zs,zl⟩:=z;refine ⟨_,⟨by omega,RZ⟩,?_⟩;refine bE en60 rfl Ns ax (fun r hr=>?_);obtain ⟨V,b,rfl,hb⟩:=hr
   cases b with
   | false=>
    have hb:none=Q:=hb;subst hb;have hR:none=R:=hR;subst hR;obtain ⟨wk,wn,ws,wl⟩:=V;exact ⟨_,ax,rfl⟩
   | true=>
    have hb:some V=Q:=hb;subst hb;obtain ⟨h1,h2⟩:=hgr V rfl;have zq:=hf V (by omega) h1;have hR:(if B V=true then runK ND B rt (L.drop (e + 1)) V else none)=R:=hR
    cases Y3:B V with
    | false=>
     rw [Y3,ah (by simp)] at hR;subst hR;rw [Y3] at zq;obtain ⟨wk,wn,ws,wl⟩:=V;refine cP BM zq ?_;exact ⟨_,ax,rfl⟩
    | true=>
     rw [Y3,ai rfl] at hR;rw [Y3] at zq;obtain ⟨wk,wn,ws,wl⟩:=V;refine cP BM zq ?_;exact ⟨Y2 PC o L (.mk wk wn ws wl) (e + 1),(QT 2 (nG (nxt aq (by omega))) (wB1 (nxt aq (by omega)))),L.length - (e + 1),by omega,e + 1,_,rfl,by omega,hR,Y3,h1,by omega,rfl⟩
  ·have aS:e=L.length:=by
    have h2:=jr;simp [bz] at h2;omega
   subst aS;rw [List.drop_length] at hR;have hR:some z=R:=hR;subst hR;obtain ⟨zk,zn,zs,zl⟩:=z;exact ⟨_,ax,rfl⟩
def oP:Option Val->Val × Bool
 | some v=>(v,true)
 | none=>(zeroV,false)
def toO (r:Val × Bool):Option Val:=if r.2=true then some r.1 else none
theorem Y4 (o:Option Val):toO (oP o)=o:=by cases o<;>rfl
def Y5 (r:Val × Bool):DV:=.tup [.agg (aH r.1),.v (.bool r.2)]
def doE (ND:List Nd) (c:iL):List ch->Val->Int->Val × Bool
 | [],x,_=>if c.k=1 then (oV c.y,sameV x (oV c.x)) else (zeroV,false)
 | s :: p,x,i=>if c.k≠1/\p=[] then oP (if c.k=2∨c.k=3 then endC c s x else none)
  else if c.k < 1∨3 < c.k then (zeroV,false)
  else match cT ND i with
   | none=>(zeroV,false)
   | some d=>if x.k=d.ag/\5<=d.ag then (match CU d x s with
    | none=>(zeroV,false)
    | some j=>match x.ks[j]?,bY d x.n j with
     | some a,some e=>(pL x j (doE ND c p a e.to).1,(doE ND c p a e.to).2)
     | _,_=>(zeroV,false)) else (zeroV,false)
theorem Up (x:Val) (j:Nat) (r:Val × Bool):toO (pL x j r.1,r.2)=(toO r).map (pL x j):=by
 obtain ⟨v,b⟩:=r;cases b<;>rfl
theorem Wr (ND:List Nd) (c:iL):∀ (p:List ch) (x:Val) (i:Int),toO (doE ND c p x i)=doK ND c p x i
 | [],x,i=>by grind [doE,doK,atK,Jh,toO]
 | s :: p,x,i=>by
  have ih:=Wr ND c p;rw [doE];by_cases h:c.k≠1/\p=[]
  ·obtain ⟨h1,rfl⟩:=h;rw [ai ⟨h1,rfl⟩,Y4,doK,ah h1];rfl
  rw [ah h];by_cases h3:c.k < 1∨3 < c.k
  ·rw [ai h3,doK,ah (by omega),ah (by omega)];rfl
  rw [ah h3]
  have hc:doK ND c (s :: p) x i=match cT ND i with
   | none=>none
   | some d=>if x.k=d.ag/\5<=d.ag then (match CU d x s with
    | none=>none
    | some j=>match x.ks[j]?,bY d x.n j with
     | some a,some e=>(doK ND c p a e.to).map (pL x j)
     | _,_=>none) else none:=by
   by_cases h1:c.k=1
   ·simp only [doK,h1,if_true,atK]
    try rfl
   ·obtain ⟨t,q,rfl⟩:∃ t q,p=t :: q:=by
     cases p with
     | nil=>exact (h ⟨h1,rfl⟩).elim
     | cons t q=>exact ⟨t,q,rfl⟩
    have h2:c.k=2\/c.k=3:=by omega
    simp only [doK,h1,h2,if_true,if_false,List.getLast?_cons_cons,List.dropLast_cons_cons]
    cases hl:(t :: q).getLast? with
    | none=>simp at hl
    | some u=>
     simp only [atK];try rfl
  rw [hc];split
  ·rfl
  split
  ·split
   ·rfl
   split
   ·rw [Up,ih]
   ·rfl
  ·rfl
theorem Uq {c:iL} {s:ch} {x:Val} (h:¬ (x.k=5/\s.k=2/\s.s=au)):endC c s x=none:=by grind [gl,dg,endC]
abbrev doSt (W:List DV) (P:DV) (x:Val) (C:List DV) (d:Nd) (e:Nat):St:=
 ⟨[(3,⟨[],P⟩),aab 5 0,aab 7 1,aab 9 2,aab 10 3,aaa 12 ((dVals x.ks).length),aab 13 4,aaa 14 e],[W,aH x,C,zD,jt d],[]⟩
set_option maxHeartbeats 1000000 in
theorem do39_last (lv:List Wd) (f:Nat->Nat->Bool) (ND:List Nd) (z:Int) (c:iL) (g1:c.k≠1) (s:ch) (x:Val) (hx:x.wt<=1099511627776) (i:Int) :
  EvP prog 15 [.agg (wL lv f ND z),.v (.int .i64 i),.agg (aH x),.sl 3 (bm [s]) none,.agg (C5 c)] (Y5 (doE ND c [s] x i)):=by
 have bz:=aP x.ks;have ir:=b9 x.ks;have EP:x.wt=64 + x.s.size + cO x.ks:=by obtain ⟨_,_,_,_⟩:=x;rfl
 have tT:=fW (l:=[s]) (e:=0) rfl;have rX:=fl [s];rw [List.length_cons] at rX;have Wl:doE ND c [s] x i=oP (if c.k=2∨c.k=3 then endC c s x else none):=by rw [doE,ai ⟨g1,rfl⟩]
 have Zh:=@Uq c s x
 have hE2:x.k=5->endC c s x=if c.k=2 then (if gl s (dg x.ks.length)=true then some (.mk x.k x.n x.s (x.ks ++ [oV c.y])) else none)
  else match x.ks[x.ks.length - 1]? with
   | none=>none
   | some u=>if sameV u (oV c.x)=true/\gl s (dg (x.ks.length - 1))=true then some (.mk x.k x.n x.s (x.ks.take (x.ks.length - 1))) else none:=fun h=>by rw [endC,ai h];all_goals rfl
 generalize doE ND c [s] x i=O at Wl ⊢;generalize endC c s x=EN at Wl Zh hE2;obtain ⟨k,q,cx,cy⟩:=c;simp only [C5] at *;generalize oV cx=X at *;generalize oV cy=Y at *;obtain ⟨xk,xn,xs,xl⟩:=x;obtain ⟨ak,an,GF,al⟩:=X;obtain ⟨bk,bn,bs,bl⟩:=Y;have ir:64 * xl.length<=cO xl:=ir;have EP:(Val.mk xk xn xs xl).wt=64 + xs.size + cO xl:=EP;obtain ⟨sk,sn,ss⟩:=s;by_cases hC:xk=5/\sk=2/\ss=au
 ·obtain ⟨rfl,rfl,rfl⟩:=hC;have hE2:=hE2 rfl
  have Qb:∀ m:Nat,gl ⟨2,sn,au⟩ (dg m)=decide (sn=m):=fun m=>by
   simp [gl,dg];rfl
  by_cases g2:k=2
  ·subst g2
   have hO:O=oP (if decide (sn=(xl.length:Nat))=true then some (.mk 5 xn xs (xl ++ [.mk bk bn bs bl])) else none):=by
    rw [Wl,hE2,ai (.inl rfl),ai rfl,Qb];rfl
   have bz:(dVals xl).length=xl.length:=bz;have ha1:([]:List (List DV)).length=0:=rfl;have Lf:([]:List (List DV)).length + (dVals xl).length<=maxLen:=by simp [maxLen,bz];omega
   have NO:(([]:List (List DV)).length + (dVals xl).length) * 56<=140737488355328:=by simp [bz];omega
   have N7:([] ++ dVals xl).length=0 + (dVals xl).length:=by simp
   have pf:([] ++ dVals xl).length + 1<=maxLen:=by simp [maxLen,bz];omega
   have Js:(([] ++ dVals xl).length + 1) * 56<=140737488355328:=by simp [bz];omega
   refine eG 212 [.cell 10 34,.tmp 11] func15 rfl ntmps15 rfl fun _ _ _ _=>?_;refine ⟨_,⟨by omega,tT⟩,?_⟩;refine ⟨_,⟨by omega,tT⟩,?_⟩;refine ⟨_,⟨by omega,tT⟩,?_⟩;refine br ?_ ?_<;>intro g
   ·have g:sn=(xl.length:Nat):=by
     have h2:=of_decide_eq_true g;rw [bz] at h2;exact h2
    rw [ai (decide_eq_true g)] at hO;subst hO;apply jJ (.op 0 (.op 1 (.op 2 (.op 3 (.op 5 (.op 6 (.op 8 (.op 9 (.ev 4 (.ev 7 (.ev 10 (.ev 11 (.op 12 (.ev 13 (.op 14 .fin) .stop)) .stop) .stop) (.ev 10 (.ev 7 (.ev 11 (.op 12 (.ev 13 (.op 14 .fin) .stop)) .stop) .stop) .stop)) (.ev 10 (.ev 4 (.ev 7 (.ev 11 (.op 12 (.ev 13 (.op 14 .fin) .stop)) .stop) .stop) .stop) .stop)))))))))) mo (by decide +kernel);·repeat' (first | refine AH rfl rfl rfl rfl ?_ | refine ⟨ha1,⟨Lf,NO⟩,?_⟩ | refine ⟨N7,⟨pf,Js⟩,?_⟩ | exact trivial | exact Or.inl rfl | exact uY | refine ⟨?_,?_⟩)
    exact ⟨_,(by repeat' (first | exact rfl | exact trivial | exact Or.inr (Or.inl ⟨_,rfl⟩) | exact Or.inr ⟨_,rfl⟩ | exact Or.inl ⟨rfl,rfl⟩ | exact Or.inl rfl | refine Or.inr ⟨_,_,rfl,Nat.zero_le _,rfl,?_⟩ | refine ⟨_,_,rfl,?_,?_⟩ | refine ⟨_,rfl,?_⟩ | exact Or.inr (Or.inl ⟨_,congrArg (fun l=>DV.sl 4 l _) (y6 xl (.mk bk bn bs bl))⟩) | refine Or.inr (Or.inr (Or.inr ⟨_,_,rfl,?_⟩)) | exact Or.inl rfl | refine Or.inr ?_)),rfl⟩
   ·have g:¬ sn=(xl.length:Nat):=by
     have h2:=of_decide_eq_false g;rw [bz] at h2;exact h2
    rw [ah (sU g)] at hO;subst hO;refine dI ?_;exact ⟨_,ax,rfl⟩
  ·by_cases g3:k=3
   ·subst g3
    have hO:O=oP (match xl[xl.length - 1]? with
     | none=>none
     | some u=>if sameV u (.mk ak an GF al)=true/\gl ⟨2,sn,au⟩ (dg (xl.length - 1))=true then some (.mk 5 xn xs (xl.take (xl.length - 1))) else none):=by
     rw [Wl,hE2,ai (.inr rfl),ah g2];rfl
    cases xl with
    | nil=>
     subst hO;refine eG 212 [.cell 10 34,.tmp 11] func15 rfl ntmps15 rfl fun _ _ _ _=>?_;refine ⟨_,⟨by omega,tT⟩,?_⟩;refine ⟨_,⟨by omega,tT⟩,?_⟩;refine dI ?_;exact ⟨_,ax,rfl⟩
    | cons a l=>
     obtain ⟨x,hx⟩:∃ x,(a :: l)[l.length]? = some x:=⟨_,gE (by simp)⟩
     have hO:O=oP (match (a :: l)[l.length]? with
      | none=>none
      | some u=>if sameV u (.mk ak an GF al)=true/\gl ⟨2,sn,au⟩ (dg l.length)=true then some (.mk 5 xn xs ((a :: l).take l.length)) else none):=hO
     rw [hx,Qb] at hO;simp only at hO;have hxw2:=cS (mG hx);have Lg:=lu x (by omega) (.mk ak an GF al);have bz:(dVals (a :: l)).length=l.length + 1:=bz;have rQ:=b9 (a :: l);rw [List.length_cons] at rQ;have hz:IntKind.i64.wrap (((dVals (a :: l)).length:Int) - 1)=((l.length:Nat):Int):=by rw [bz,show ((l.length + 1:Nat):Int) - 1=(l.length:Nat) by omega];exact wrap64 (by omega) (by omega)
     generalize sameV x (.mk ak an GF al)=M at hO Lg;obtain ⟨zk,zn,zs,zl⟩:=x;refine eG 212 [.cell 10 34,.tmp 11] func15 rfl ntmps15 rfl fun _ _ _ _=>?_;refine ⟨_,⟨by omega,tT⟩,?_⟩;refine ⟨_,⟨by omega,tT⟩,?_⟩;refine dI ?_;refine br (fun _=>?_) (fun g=>?_)
     rotate_left
     ·grind [pickB]
     refine ⟨_,⟨by omega,tT⟩,?_⟩;refine br ?_ ?_<;>intro g
     ·have g:sn=(l.length:Nat):=by grind [pickB]
      refine ⟨_,⟨by rw [hz];omega,by rw [hz];exact bf hx⟩,?_⟩;refine cD SB Lg ?_
      cases M with
      | false=>
       rw [ah (by simp)] at hO;subst hO;exact ⟨_,ax,rfl⟩
      | true=>
       rw [ai ⟨rfl,decide_eq_true g⟩] at hO;subst hO;have Wv:(0:Int)<=0/\(0:Int)<=IntKind.i64.wrap (((dVals (a :: l)).length:Int) - 1)/\IntKind.i64.wrap (((dVals (a :: l)).length:Int) - 1)<=(dVals (a :: l)).length:=by rw [hz,bz];omega
       have hT:((dVals (a :: l)).take (IntKind.i64.wrap (((dVals (a :: l)).length:Int) - 1)).toNat).drop (0:Int).toNat=dVals ((a :: l).take l.length):=by
        rw [hz,iW,ei,ei,List.map_take];rfl
       have hTl:(((dVals (a :: l)).take (IntKind.i64.wrap (((dVals (a :: l)).length:Int) - 1)).toNat).drop (0:Int).toNat).length<=17179869184:=by rw [hT,aP,zLenT];omega
       have hT2 : [] ++ ((dVals (a :: l)).take (IntKind.i64.wrap (((dVals (a :: l)).length:Int) - 1)).toNat).drop (0:Int).toNat=dVals ((a :: l).take l.length):=hT;have ha1:([]:List (List DV)).length=0:=rfl;have Lf:([]:List (List DV)).length + (((dVals (a :: l)).take (IntKind.i64.wrap (((dVals (a :: l)).length:Int) - 1)).toNat).drop (0:Int).toNat).length<=maxLen:=by simp only [maxLen,List.length_nil];omega
       have NO:(([]:List (List DV)).length + (((dVals (a :: l)).take (IntKind.i64.wrap (((dVals (a :: l)).length:Int) - 1)).toNat).drop (0:Int).toNat).length) * 56<=140737488355328:=by simp only [List.length_nil];omega
       apply jJ (.op 0 (.op 1 (.op 2 (.op 3 (.op 5 (.op 6 (.op 7 (.op 8 (.op 9 (.ev 4 (.ev 10 (.op 11 (.ev 12 (.op 13 .fin) .stop)) .stop) .stop)))))))))) mo (by decide +kernel);·repeat' (first | refine AH rfl rfl rfl rfl ?_ | refine ⟨Wv,?_⟩ | refine ⟨ha1,⟨Lf,NO⟩,?_⟩ | exact trivial | exact Or.inl rfl | exact uY | refine ⟨?_,?_⟩)
       exact ⟨_,(by repeat' (first | exact rfl | exact trivial | exact Or.inr (Or.inl ⟨_,rfl⟩) | exact Or.inr ⟨_,rfl⟩ | exact Or.inl ⟨rfl,rfl⟩ | exact Or.inl rfl | refine Or.inr ⟨_,_,rfl,Nat.zero_le _,rfl,?_⟩ | refine ⟨_,_,rfl,?_,?_⟩ | refine ⟨_,rfl,?_⟩ | exact Or.inr (Or.inl ⟨_,congrArg (fun l=>DV.sl 4 l _) hT2⟩) | refine Or.inr (Or.inr (Or.inr ⟨_,_,rfl,?_⟩)) | exact Or.inl rfl | refine Or.inr ?_)),rfl⟩
     ·have g:¬ sn=(l.length:Nat):=by grind
      rw [ah (fun h=>g (of_decide_eq_true h.2))] at hO;subst hO;exact ⟨_,ax,rfl⟩
   ·have hO:O=(zeroV,false):=by
     rw [Wl,ah (by intro h;rcases h with h | h;exact g2 h;exact g3 h)];rfl
    subst hO;refine eG 212 [.cell 10 34,.tmp 11] func15 rfl ntmps15 rfl fun _ _ _ _=>?_;refine br (fun g=>?_) (fun _=>?_)
    ·exfalso;simp [pickB_and] at g;exact g1 g.1
    refine br (fun _=>?_) (fun g=>?_)
    rotate_left
    ·grind [pickB_and]
    refine ⟨_,⟨by omega,tT⟩,?_⟩;refine ⟨_,⟨by omega,tT⟩,?_⟩;refine br (fun g=>?_) (fun _=>?_)
    ·exfalso;simp at g;exact g2 g
    refine dI ?_;refine br (fun g=>?_) (fun _=>?_)
    ·exfalso;simp [pickB_and] at g;exact g3 g.1
    exact ⟨_,ax,rfl⟩
 ·have hO:O=(zeroV,false):=by
   rw [Wl,Zh hC];split<;>rfl
  subst hO;refine eG 212 [.cell 10 34,.tmp 11] func15 rfl ntmps15 rfl fun _ _ _ _=>?_;refine br (fun g=>?_) (fun _=>?_)
  ·exfalso;simp [pickB_and] at g;exact g1 g.1
  refine br (fun g5=>?_) (fun _=>?_)
  rotate_left
  refine dI ?_;refine br (fun g=>?_) (fun _=>?_)
  ·grind [pickB_and,ap]
  ·exact ⟨_,ax,rfl⟩
  refine ⟨_,⟨by omega,tT⟩,?_⟩;refine br (fun g2=>?_) (fun _=>?_)
  rotate_left
  refine dI ?_;refine br (fun g=>?_) (fun _=>?_)
  ·grind [pickB_and,ap]
  ·exact ⟨_,ax,rfl⟩
  refine ⟨_,⟨by omega,tT⟩,?_⟩;refine br (fun gs=>?_) (fun _=>?_)
  ·exfalso;simp [pickB_and,rX] at g5 g2 gs;exact hC ⟨g5.2,g2,gs⟩
  refine dI ?_;refine br (fun g=>?_) (fun _=>?_)
  ·grind [pickB_and,ap]
  ·exact ⟨_,ax,rfl⟩
set_option maxHeartbeats 1000000 in
theorem Bu (lv:List Wd) (f:Nat->Nat->Bool) (ND:List Nd) (z:Int) {L:Nat} (bZ:∀ n∈ND,eD L ND.length n) (bH:∀ n∈ND,n.av.length<=1099511627776) (c:iL) (hX:(oV c.x).wt<=1099511627776) (hY:(oV c.y).wt<=1099511627776) :
  ∀ (p:List ch) (x:Val) (i:Int),x.wt<=1099511627776->gm ND x i=true ->
  EvP prog 15 [.agg (wL lv f ND z),.v (.int .i64 i),.agg (aH x),.sl 3 (bm p) none,.agg (C5 c)] (Y5 (doE ND c p x i))
 | [],x,i,hx,hw=>by
  have hs:=lu x hx (oV c.x);have hO:doE ND c [] x i=if c.k=1 then (oV c.y,sameV x (oV c.x)) else (zeroV,false):=rfl
  generalize doE ND c [] x i=O at hO ⊢;obtain ⟨k,q,cx,cy⟩:=c;simp only [C5] at *;generalize oV cx=X at *;generalize oV cy=Y at *;generalize sameV x X=B at hO hs;obtain ⟨xk,xn,xs,xl⟩:=x;obtain ⟨ak,an,GF,al⟩:=X;obtain ⟨bk,bn,bs,bl⟩:=Y;by_cases h1:k=1
  ·rw [ai h1] at hO;subst hO;refine eG 212 [.cell 10 34,.tmp 11] func15 rfl ntmps15 rfl fun _ _ _ _=>?_;refine br (fun _=>?_) (fun g=>?_)
   rotate_left
   ·exfalso;simp [pickB_and,bm] at g;exact g h1
   refine dS ?_;refine cD SB hs ?_;exact ⟨_,ax,rfl⟩
  ·rw [ah h1] at hO;subst hO;refine eG 212 [.cell 10 34,.tmp 11] func15 rfl ntmps15 rfl fun _ _ _ _=>?_;refine br ?_ ?_<;>intro g
   ·exfalso;simp [pickB_and,bm] at g;exact h1 g
   refine br (fun g=>?_) (fun _=>?_)
   ·exfalso;simp [pickB_and,bm] at g
   refine dI ?_;refine br ?_ ?_<;>intro g
   ·exfalso;simp [pickB_and,ap,bm] at g
   ·exact ⟨_,ax,rfl⟩
 | s :: p,x,i,hx,hw=>by
  by_cases hA:c.k≠1/\p=[]
  ·obtain ⟨g1,rfl⟩:=hA;exact do39_last lv f ND z c g1 s x hx i
  have ih:=Bu lv f ND z bZ bH c hX hY p;have bz:=aP x.ks;have ir:=b9 x.ks;have EP:x.wt=64 + x.s.size + cO x.ks:=by obtain ⟨_,_,_,_⟩:=x;rfl
  have Gb:=KX s p;have tT:=fW (l:=s :: p) (e:=0) rfl;have rX:=fl (s :: p);rw [List.length_cons] at rX;obtain ⟨d,hd,X8⟩:=jI hw;obtain ⟨h0,RY⟩:=de hd;obtain ⟨n,rfl⟩:∃ n:Nat,i=n:=⟨i.toNat,by omega⟩;have RY:ND[n]? = some d:=sU RY;have A5:=(bZ d (mG RY)).k8;have iq:=bH d (mG RY);have Dh:=fun (j:Nat) a (hj:x.ks[j]? = some a)=>Wp bZ hw hj
  have aR:∀ (j:Nat) a,x.ks[j]? = some a->EvP prog 63 [.agg (jt d),.agg (aH x),.v (.int .i64 j)] (.agg (lH (stpR d x j))):=fun j a hj=>by
   obtain ⟨d',lR,k1,k2,k3,k4,k5,_⟩:=Dh j a hj;rw [hd] at lR;cases lR;exact FJ d x j k5 (fun c5 c6 c7=>k4 (by omega))
  have kP:∀ (j:Nat) a,x.ks[j]? = some a->∃ e,bY d x.n j=some e/\gm ND a e.to=true/\EvP prog 64 [.agg (jt d),.agg (aH x),.v (.int .i64 j)] (.agg (uV e)):=fun j a hj=>by
   obtain ⟨d',lR,k1,k2,k3,k4,k5,e,e1,e2⟩:=Dh j a hj;rw [hd] at lR;cases lR;exact ⟨e,e1,e2,uD d x j e e1 k4 iq⟩
  have eW:=@K7 d x s;have LJ:=@K6 d x s;have qB:=fun j k=>Gq x k j hx;have ZO:¬ (c.k≠1/\p=[])->¬ (c.k < 1∨3 < c.k)->doE ND c (s :: p) x n=if x.k=d.ag/\5<=d.ag then (match CU d x s with | none=>(zeroV,false) | some j=>match x.ks[j]?,bY d x.n j with | some a,some e=>(pL x j (doE ND c p a e.to).1,(doE ND c p a e.to).2) | _,_=>(zeroV,false)) else (zeroV,false):=fun h1 h2=>by rw [doE,ah h1,ah h2,hd]
  have hO3:¬ (c.k≠1/\p=[])->c.k < 1∨3 < c.k->doE ND c (s :: p) x n=(zeroV,false):=fun h1 h2=>by rw [doE,ah h1,ai h2]
  generalize doE ND c (s :: p) x n=O at ZO hO3 ⊢;clear Dh X8 hw hd;obtain ⟨k,q,cx,cy⟩:=c;simp only [C5] at *;generalize oV cx=X at *;generalize oV cy=Y at *;obtain ⟨xk,xn,xs,xl⟩:=x;obtain ⟨ag,aG,lo,hi,most,af,es⟩:=d;obtain ⟨ak,an,GF,al⟩:=X;obtain ⟨bk,bn,bs,bl⟩:=Y;have ir:64 * xl.length<=cO xl:=ir;have EP:(Val.mk xk xn xs xl).wt=64 + xs.size + cO xl:=EP;have hA2:¬ (k≠1/\p=[]):=hA;have ZO:=ZO hA;have hO3:=hO3 hA;have iJ:¬ k=1->¬ p.length=0:=fun h1 h=>hA ⟨h1,List.eq_nil_of_length_eq_zero h⟩;refine eG 212 [.cell 10 34,.tmp 11] func15 rfl ntmps15 rfl fun _ _ _ _=>?_;refine br (fun g=>?_) (fun _=>?_)
  ·exfalso;simp [pickB_and,rX] at g;omega
  refine br (fun g=>?_) (fun _=>?_)
  ·exfalso;simp [pickB_and,rX] at g;exact iJ g.1.1 (by omega)
  refine dI ?_;refine br ?_ ?_<;>intro g
  ·have g:(1<=k/\k<=3)/\5<=xk/\xk<=8:=by
    simp [pickB_and,ap,rX] at g;omega
   have hO:=ZO (by show ¬ (k < 1∨3 < k);omega);clear ZO hO3;refine iX (gD RY) ?_;refine br ?_ ?_<;>intro gk
   ·have gk:xk≠ag:=by simpa [pickB] using gk
    have hO:O=(zeroV,false):=by
     rw [hO];exact ah fun h=>gk h.1
    subst hO;exact ⟨_,ax,rfl⟩
   have gk:xk=ag:=by
    have h2:=gk;simp [pickB] at h2;exact h2
   have hO:O=_:=hO.trans (ai ⟨gk,by show 5<=ag;omega⟩);refine iX (gD RY) ?_;refine lI (fun t st=>∃ e:Nat,st=doSt (wL lv f ND z) (.sl 3 (bm (s :: p)) none) (.mk xk xn xs xl) (Jf k q (.mk ak an GF al) (.mk bk bn bs bl)) ⟨ag,aG,lo,hi,most,af,es⟩ e/\e<=xl.length/\(∀ j,j < e->gl (stpR ⟨ag,aG,lo,hi,most,af,es⟩ (.mk xk xn xs xl) j) s=false)/\t=xl.length - e) ⟨0,rfl,by omega,fun _ h=>by omega,rfl⟩ (QT 5 qT kr) ?_;rintro t st ⟨e,rfl,he,tM,rfl⟩;have bz:(dVals xl).length=xl.length:=bz;refine br ?_ ?_<;>intro jr
   ·have aq:e < xl.length:=by
     have h2:=jr;simp at h2;have h2:e < (dVals xl).length:=h2;omega
    obtain ⟨a,ha⟩:=gX aq;obtain ⟨ed,Ku,hw1,Y1⟩:=kP e a ha;have RF:=aR e a ha;have haw:=cS (mG ha);have jX:=ih a ed.to (by omega) hw1;have LJ:=LJ aq tM;generalize JA:stpR ⟨ag,aG,lo,hi,most,af,es⟩ (.mk xk xn xs xl) e=sr at RF LJ;obtain ⟨uk,un,us,ul⟩:=a;obtain ⟨en,eb,ea,et,vB,ew,lL,yP,yQ,tN⟩:=ed;refine dI ?_;refine cD en63 RF ?_;refine ⟨_,⟨by omega,tT⟩,_,KL _ _ _ _,?_⟩;refine br ?_ ?_<;>intro c
    ·rw [LJ c] at hO;simp only at hO;rw [show (Val.mk xk xn xs xl).ks[e]? = some (.mk uk un us ul) from ha,Ku] at hO;simp only at hO;generalize doE ND ⟨k,q,cx,cy⟩ p (.mk uk un us ul) et=R at hO jX;obtain ⟨V,b⟩:=R;have qB:=qB e V;subst hO;obtain ⟨vk,vn,vs,vl⟩:=V;have fA:(0:Int)<=e/\(dVals xl)[((e:Nat):Int).toNat]? = some (aH (.mk uk un us ul)):=⟨by omega,bf ha⟩;have eO:(0:Int)<=1/\(1:Int)<=((bm (s :: p)).length:Nat)/\(((bm (s :: p)).length:Nat):Int)<=((bm (s :: p)).length:Nat):=⟨by omega,by omega,by omega⟩;have Y6:DV.sl 3 ((List.take (((bm (s :: p)).length:Nat):Int).toNat (bm (s :: p))).drop (1:Int).toNat) none = .sl 3 (bm p) none:=Gb;apply K2 (fun _=>false) 18 [0,1,2,3,4,5,6,7,8,9,10,11,12,13,14,15,16,17] [19,20] mo (by decide +kernel);·repeat' (first | refine cD aaA Y1 ?_ | refine ⟨_,fA,?_⟩ | refine ⟨eO,?_⟩ | refine cD aau jX ?_ (qA Y6) | exact Or.inl rfl | exact uY | refine ⟨?_,?_⟩)
     refine cP en65 qB ?_;exact ⟨_,ax,rfl⟩
    ·exact rE ⟨_,by omega,e + 1,rfl,by omega,fun j hj=>(by
      rcases Nat.lt_or_ge j e with h | h
      ·exact tM j h
      ·rw [show j=e by omega,JA,c]),rfl⟩ (QT 5 (nG (nxt aq (by omega))) (wB1 (nxt aq (by omega))))
   ·have aS:e=xl.length:=by
     have h2:=jr;simp at h2;have h2:(dVals xl).length<=e:=h2;omega
    subst aS;rw [eW tM] at hO;subst hO;exact ⟨_,ax,rfl⟩
  ·have hO:O=(zeroV,false):=by
    by_cases hk:k < 1∨3 < k
    ·exact hO3 hk
    ·rw [ZO hk];refine ah fun h=>?_;obtain ⟨h1,h2⟩:=h;have h1:xk=ag:=h1;have h2:5<=ag:=h2;have A5:ag<=8:=A5
     have iJ:k=1∨¬ p.length=0:=by
      by_cases h:k=1
      ·exact .inl h
      ·exact .inr (iJ h)
     simp [pickB_and,ap,rX] at g;omega
   subst hO;exact ⟨_,ax,rfl⟩
theorem Jj:prog.cellsOf 141=3:=by kernel_rfl
def RH (p:List ch):Prop:=∀ s∈p,(-9223372036854775808<=s.k/\s.k<=9223372036854775807)/\(-9223372036854775808<=s.n/\s.n<=9223372036854775807)
def wtStp:List ch->Nat
 | []=>0
 | s :: p=>64 + s.s.size + wtStp p
theorem Bv:∀ p:List ch,64 * p.length<=wtStp p
 | []=>aO _
 | s :: p=>by
  have:=Bv p;rw [wtStp,List.length_cons];omega
theorem Gu {m:Nat}:∀ {es:List (List DV)},(∀ cs∈es,Typ prog m 141 cs)->∃ p:List ch,es=bm p/\RH p/\wtStp p<=wgEs es
 | [],h=>⟨[],rfl,(fun _ h=>by cases h),by simp [wtStp]⟩
 | cs :: r,h=>by
  obtain ⟨p,rfl,hr,hl⟩:=Gu (es:=r) (fun c hc=>h c (dB _ hc));obtain ⟨m',rfl,hf⟩:=ky Tryz.underlying141 (h cs (by simp));obtain ⟨a1,b1,rfl,h1,a2,b2,rfl,h2,a3,b3,rfl,h3,rfl⟩:=hf;obtain ⟨k,rfl,hk⟩:=kz h1;obtain ⟨z,rfl,hz⟩:=kz h2;obtain ⟨s,rfl⟩:=B6 Tryz.underlying9 h3;refine ⟨⟨k,z,s⟩ :: p,rfl,fun x hx=>?_,?_⟩
  ·rcases bp hx with rfl | hx
   ·exact ⟨hk,hz⟩
   ·exact hr x hx
  ·grind [wtStp,wgEs,cY,wgL,wgD]
theorem RI {n:Nat} {ds:List DV} (h:Typ prog n 56 ds):∃ p:List ch,ds=[.sl 3 (bm p) none]/\RH p/\wtStp p<=wgL ds:=by
 obtain ⟨j,es,rfl,rfl,iq⟩:=pY Tryz.underlying56 h;obtain ⟨p,rfl,hr,hl⟩:=Gu iq;rw [Jj];exact ⟨p,rfl,hr,by simp only [wgL,wgD];omega⟩
abbrev fLSt (S:List DV) (l:List Val) (e:Nat):St:=⟨[aad 1 4 (dVals l),aab 2 0,aaa 5 e],[S],[]⟩
theorem Jk (S:Sch) (hS:S.wt<=1099511627776) (l:List Val) (hl:∀ v∈l,v.wt<=1099511627776) (zy:l.length<=100000) :
  Ev prog 8 [.agg (eJ S),.sl 4 (dVals l) none] [] [] (fun r _ _=>∃ b:Bool,r = .v (.bool b)/\(b=true->yS S/\∀ v∈l,fV v<=500)):=by
 have ga:=Cn S hS;have hf:=Ge S hS;have bz:=aP l;obtain ⟨ae,order,types,⟨rh,rp⟩⟩:=S;refine eG 31 [.tmp 4] func8 rfl ntmps8 rfl fun _ _ _ _=>?_;refine lI (fun j st=>∃ e:Nat,st=fLSt (eJ ⟨ae,order,types,.mk rh rp⟩) l e/\e<=l.length/\(∀ v∈l.take e,fV v<=500)/\j=l.length - e) ⟨0,rfl,by omega,by simp,rfl⟩ (QT 1 qT kr) ?_;rintro _ st ⟨e,rfl,he,hc,rfl⟩;refine br ?_ ?_<;>intro jr
 ·have aq:e < l.length:=sV bz jr;obtain ⟨v,hv⟩:=gX aq;have h1:=ll v.wt v (aO _) (hl v (mG hv))
  have cQ:fV v<=500->∀ u∈l.take (e + 1),fV u<=500:=fun h u hu=>by
   rw [List.take_add_one,hv] at hu;rcases List.mem_append.1 hu with hu | hu
   ·exact hc u hu
   ·simp at hu;rw [hu];exact h
  generalize fV v=ct at h1 cQ;generalize uW v=dp at h1;obtain ⟨vk,vn,vs,vl⟩:=v;refine iX (bf hv) ?_;refine cP SC h1 ?_;refine br ?_ ?_<;>intro c
  ·exact ⟨false,rfl,fun h=>by cases h⟩
  ·exact rE ⟨_,by omega,e + 1,rfl,by omega,cQ (by simp at c;omega),rfl⟩ (QT 1 (nG (nxt aq (by omega))) (wB1 (nxt aq (by omega))))
 ·have aS:e=l.length:=by
   have h2:=jr;simp [bz] at h2;omega
  subst aS;rw [List.take_length] at hc;refine bE en43 rfl ga ax (fun r hr=>?_);obtain ⟨g,rfl⟩:=hr
  cases g with
  | true=>exact ⟨false,rfl,fun h=>by cases h⟩
  | false=>
   refine bE en44 rfl hf ax (fun r hr=>?_);obtain ⟨b,rfl,hb⟩:=hr;exact ⟨b,rfl,fun h=>⟨hb h,hc⟩⟩
theorem Gv (c:iL):EvP prog 16 [.agg (C5 c)] (.agg (C5 c)):=by
 obtain ⟨k,p,x,y⟩:=c;simp only [C5];obtain ⟨xk,xn,xs,xl⟩:=oV x;obtain ⟨yk,yn,ys,yl⟩:=oV y;refine eG 12 [.cell 2 59] func16 rfl ntmps16 rfl fun _ _ _ _=>?_;exact ⟨_,ax,rfl⟩
abbrev ltSt (L:List iL) (e:Nat):St:=⟨[aad 0 10 (rY L),aaa 3 e],[],[]⟩
theorem C6 (L:List iL) (hL:∀ c∈L,(oV c.x).wt<=1099511627776/\(oV c.y).wt<=1099511627776) :
  Ev prog 9 [.sl 10 (rY L) none] [] [] (fun r _ _=>∃ b:Bool,r = .v (.bool b)/\(b=true->L.length<=50)):=by
 have bz:=y7 L;refine eG 50 [.tmp 2] func9 rfl ntmps9 rfl fun _ _ _ _=>?_;refine br ?_ ?_<;>intro g
 ·exact ⟨false,rfl,fun h=>by cases h⟩
 have h50:L.length<=50:=by
  have h2:=g;simp [bz] at h2;omega
 refine lJ (fun e=>ltSt L e) L.length (QT 0 qT kr) ?_;intro e he;refine br ?_ ?_<;>intro jr
 ·have aq:e < L.length:=sV bz jr;obtain ⟨c,hc⟩:=gX aq;obtain ⟨w1,w2⟩:=hL c (mG hc);have h1:=ll _ _ (aO _) w1;have h2:=ll _ _ (aO _) w2;have RZ:=y8 hc;rw [show C5 c=Jf c.k c.p (oV c.x) (oV c.y) from rfl] at RZ;generalize oV c.x=X at *;generalize oV c.y=Y at *;generalize fV X=c1 at h1;generalize uW X=d1 at h1;generalize fV Y=c2 at h2;generalize uW Y=d2 at h2;obtain ⟨xk,xn,xs,xl⟩:=X;obtain ⟨yk,yn,ys,yl⟩:=Y;refine ⟨_,⟨by omega,RZ⟩,?_⟩;refine cP SC h1 ?_;refine ⟨_,⟨by omega,RZ⟩,?_⟩;refine cP SC h2 ?_;refine br ?_ ?_<;>intro c
  ·refine ⟨_,⟨by omega,RZ⟩,?_⟩;refine br ?_ ?_<;>intro c
   ·exact ⟨false,rfl,fun h=>by cases h⟩
   ·exact rE ⟨_,by omega,e + 1,rfl,by omega,rfl⟩ (QT 0 (nG (nxt aq (by omega))) (wB1 (nxt aq (by omega))))
  ·exact ⟨false,rfl,fun h=>by cases h⟩
 ·exact ⟨true,rfl,fun _=>h50⟩
def Y7 (o:Int) (L:List iL):List DV:=[.v (.int .i64 o),.sl 10 (rY L) none]
def Ur (L:List iL):Prop:=∀ c∈L,aeo c/\(oV c.x).wt<=1099511627776/\(oV c.y).wt<=1099511627776
theorem RJ {m:Nat}:∀ {es:List (List DV)},(∀ cs∈es,Typ prog m 58 cs)->wgEs es<=1099511627776->∃ L:List iL,es=rY L/\Ur L/\chW L<=wgEs es/\L.length<=wgEs es
 | [],_,_=>⟨[],rfl,by simp [Ur],by simp [chW],by simp⟩
 | cs :: r,h,hb=>by
  rw [wgEs] at hb;obtain ⟨L,rfl,hr,hl,hn⟩:=RJ (es:=r) (fun c hc=>h c (dB _ hc)) (by omega);obtain ⟨m',rfl,hf⟩:=ky Tryz.underlying58 (h cs (by simp));obtain ⟨a1,b1,rfl,h1,a2,b2,rfl,h2,a3,b3,rfl,h3,a4,b4,rfl,h4,rfl⟩:=hf;obtain ⟨k,rfl,r1⟩:=kz h1;obtain ⟨p,rfl,r2,w2⟩:=RI h2;obtain ⟨x,rfl,r3,w3⟩:=typ_valr _ _ h3;obtain ⟨y,rfl,r4,w4⟩:=typ_valr _ _ h4;have iJ:=Bv p;simp only [cY] at *;refine ⟨⟨k,p,some x,some y⟩ :: L,?_,?_,?_,?_⟩
  ·simp [rY,C5,Jf,oV]
  ·intro c hc;rcases bp hc with rfl | hc
   ·exact ⟨⟨by show p.length<=_;omega,r4⟩,by show x.wt<=_;omega,by show y.wt<=_;omega⟩
   ·exact hr c hc
  ·show y.wt + chW L<=_;simp only [wgEs,cY];omega
  ·have:=x.dz;simp only [wgEs,cY,List.length_cons];omega
theorem Ni:prog.cellsOf 58=10:=by kernel_rfl
theorem typ_q39 {n:Nat} {ds:List DV} (h:Typ prog n 37 ds) (hb:wgL ds<=1099511627776):∃ o L,ds=Y7 o L/\Ur L/\chW L<=wgL ds/\L.length<=wgL ds:=by
 obtain ⟨m,rfl,hf⟩:=ky Tryz.underlying37 h;obtain ⟨a1,b1,rfl,h1,a2,b2,rfl,h2,rfl⟩:=hf;obtain ⟨o,rfl,_⟩:=kz h1;obtain ⟨j,es,rfl,rfl,iq⟩:=pY Tryz.underlying35 h2;simp only [cY,wgL,wgD] at hb ⊢;obtain ⟨L,rfl,h1,h2,h3⟩:=RJ iq (by omega);rw [Ni];exact ⟨o,L,rfl,h1,by omega,by omega⟩
def tyQ39:List TypeId:=[37,35,58,56,141,34,32,9,3]
theorem tyQ39_ok:∀ t∈tyQ39,mU prog tyQ39 t=true:=by
 have h:(tyQ39.all fun t=>mU prog tyQ39 t)=true:=by kernel_rfl
 exact fun t ht=>List.all_eq_true.1 h t ht
abbrev C7 (SS FF:List DV) (x:Val) (o:Int) (L:List iL) (W:List DV) (y:Val) (ok:Bool) (z:Val) (b:Bool) (e:Nat):St:=
 ⟨[aab 4 1,aab 5 2,aab 9 4,aab 10 5,aap 11 ok,aab 12 6,aap 13 b,aaa 14 e],[SS,aH x,Y7 o L,FF,W,aH y,aH z],[]⟩
set_option maxHeartbeats 2000000 in
theorem applies39_law (S:Sch) (hS:S.wt<=1099511627776) (hrS:SR S) (x:Val) (hx:x.wt<=134217728) (um:rngW x) (o:Int) (L:List iL) (hL:Ur L) (hLw:chW L<=134217728) (hLn:L.length<=134217728) :
  EvP prog 3 [.agg (eJ S),.agg (aH x),.agg (Y7 o L)] (.v (.bool true)):=by
 have hf:=Jk S hS [x] (by simpa using (by omega:x.wt<=1099511627776)) (by simp);have aq:=C6 L (fun c hc=>(hL c hc).2);have hb:=(xJ S hS).mono (Ψ:=fun r _ _=>Ic S r) fun _ _ _ h=>AW hS h;have hw:=fun h=>rG S hS h;have Tw:=@Ib S;have hRr:=fun n (hn:n∈aM S)=>yN hrS hn;have MR:∀ n∈aM S,n.av.length<=1099511627776:=fun n hn=>(ma hn hS).2;have bz:=y7 L
 have key:yS S->∀ PC,fw S (aM S) PC->L.length<=50->∃ (root:Nat) (B:Val->Bool),dV S=root /\
   (∀ v:Val,v.wt<=1099511627776->rngW v->EvP prog 14 [.agg (wL S.ae (bL S) (aM S) (root:Nat)),.v (.int .i64 o),.agg (aH v)] (.v (.bool (B v)))) /\
   (∀ v,B v=true->gm (aM S) v root=true) /\
   EvP prog 13 [.pt PC 0,.v (.int .i64 o),.agg (aH x),.sl 10 (rY L) none] (Y0 (if B x=true then runK (aM S) B root L x else none)) /\
   (∀ (c:iL) (v:Val),c∈L->v.wt<=1099511627776->B v=true->EvP prog 15 [.agg (wL S.ae (bL S) (aM S) (root:Nat)),.v (.int .i64 (root:Nat)),.agg (aH v),.sl 3 (bm c.p) none,.agg (C5 c)] (Y5 (doE (aM S) c c.p v root))):=fun h0 PC hP h50=>by
  obtain ⟨root,zc,gV⟩:=Tw (rF h0.uO);obtain ⟨LC,nh,hR⟩:=hP.TS;have hB:∀ v,yX (aM S) (bL S) S.ae.length root o v=true->gm (aM S) v root=true:=fun v h=>yZ hP.ok h
  exact ⟨root,_,zc,fun v hv hr=>yY S.ae (bL S) (aM S) root gV hR.ok hR.n32 hP.ok MR hRr o v hv hr,hB,
   Ji hP root zc o _ hB (fun v hv hr=>oF hP nh hR hRr MR root zc gV o v hv hr) L (fun c hc=>(hL c hc).1) x (by omega) um (by omega),
   fun c v hc hv hb=>Bu S.ae (bL S) (aM S) root hP.ok MR c (hL c hc).2.1 (hL c hc).2.2 c.p v root hv (hB v hb)⟩
 obtain ⟨ae,order,types,⟨rh,rp⟩⟩:=S;obtain ⟨xk,xn,xs,Bo⟩:=x;refine eG 109 [.tmp 6] func3 rfl ntmps3 rfl fun _ _ _ _=>?_;refine bE en8 rfl hf ax (fun r hr=>?_);obtain ⟨b,rfl,h0⟩:=hr
 cases b with
 | false=>
  refine cP SA jY ?_;exact (rfl:_=_)
 | true=>
  refine bE en9 rfl aq ax (fun r hr=>?_);obtain ⟨b2,rfl,h50⟩:=hr
  cases b2 with
  | false=>
   refine cP SA jY ?_;exact (rfl:_=_)
  | true=>
   have hF:=(h0 rfl).1;have h0:=hF.uO;have hw:=hw h0;refine bE aar rfl hb ax (fun r hr=>?_);rcases hr with ⟨hr,_⟩ | ⟨_,PC,hP,rfl⟩
   ·exact (hr h0).elim
   obtain ⟨root,B,zc,hA1,hA2,hA3,hA4⟩:=key hF PC hP (h50 rfl);rw [zc] at hw;refine cP aas hw ?_;have VK:runK (aM ⟨ae,order,types,.mk rh rp⟩) B root (L.drop 0) (.mk xk xn xs Bo)=runK (aM ⟨ae,order,types,.mk rh rp⟩) B root L (.mk xk xn xs Bo):=rfl;have S8:=hA1 (.mk xk xn xs Bo) (by omega) um;have jU:∀ b,B (.mk xk xn xs Bo)=b->(b=true->runK (aM ⟨ae,order,types,.mk rh rp⟩) B root (L.drop 0) (.mk xk xn xs Bo)=(if B (.mk xk xn xs Bo)=true then runK (aM ⟨ae,order,types,.mk rh rp⟩) B root L (.mk xk xn xs Bo) else none)/\B (.mk xk xn xs Bo)=true)/\(b=false->(if B (.mk xk xn xs Bo)=true then runK (aM ⟨ae,order,types,.mk rh rp⟩) B root L (.mk xk xn xs Bo) else none)=none):=fun b hb=>by grind
   generalize (if B (.mk xk xn xs Bo)=true then runK (aM ⟨ae,order,types,.mk rh rp⟩) B root L (.mk xk xn xs Bo) else none)=R at hA3 jU;obtain ⟨aet,aeu⟩:=jU _ rfl;generalize hB0:B (.mk xk xn xs Bo)=b0 at S8 aet aeu;generalize aM ⟨ae,order,types,.mk rh rp⟩=ND at *
   obtain ⟨y,ok,hy,hyR⟩:∃ (y:Val) (ok:Bool),Y0 R = .tup [.agg (aH y),.v (.bool ok)]/\((R=none/\y=zeroV/\ok=false)∨(R=some y/\ok=true)):=by
    cases R with
    | none=>exact ⟨_,_,rfl,.inl ⟨rfl,rfl,rfl⟩⟩
    | some v=>exact ⟨_,_,rfl,.inr ⟨rfl,rfl⟩⟩
   rw [hy] at hA3;obtain ⟨yk,yn,ys,Y8⟩:=y;refine cP en13 hA3 ?_;apply K2 (fun _=>false) 6 [0,1,2,3,4,5] [7,8] mo (by decide +kernel);·repeat' (first | refine cD aat S8 ?_ | exact Or.inl rfl | exact uY | refine ⟨?_,?_⟩)
   refine aT (fun j st=>∃ (e:Nat) (z:Val) (b:Bool),st=C7 (eJ ⟨ae,order,types,.mk rh rp⟩) [.v (.int .i64 0),.v (.int .i64 0)] (.mk xk xn xs Bo) o L (wL ae (bL ⟨ae,order,types,.mk rh rp⟩) ND (root:Nat)) (.mk yk yn ys Y8) ok z b e/\e<=L.length/\(b=true->runK ND B root (L.drop e) z=R/\B z=true/\rngW z/\z.wt + chW (L.drop e)<=1099511627776)/\(b=false->R=none)/\j=L.length - e) L.length (C7 (eJ ⟨ae,order,types,.mk rh rp⟩) [.v (.int .i64 0),.v (.int .i64 0)] (.mk xk xn xs Bo) o L (wL ae (bL ⟨ae,order,types,.mk rh rp⟩) ND (root:Nat)) (.mk yk yn ys Y8) ok (.mk xk xn xs Bo) b0 0) (QT 7 qT kr) ⟨0,_,_,rfl,by omega,fun h=>⟨(aet h).1,hB0.trans h,um,by rw [List.drop_zero];omega⟩,aeu,by omega⟩ ?_;rintro _ st ⟨e,z,b,rfl,he,fA,eO,rfl⟩;refine br ?_ ?_<;>intro jr
   ·have jr:e < L.length/\b=true:=by grind [pickB_and]
    obtain ⟨aq,rfl⟩:=jr;obtain ⟨hR,hBz,Zz,hwz⟩:=fA rfl;obtain ⟨c,hc⟩:=gX aq;have hcm:=mG hc;rw [Bt hc] at hR;rw [Gt hc] at hwz;have hDo:=hA4 c z hcm (by omega) hBz;have hgr:=fun V (h:doK ND c c.p z root=some V)=>Gr (ND:=ND) c (hL c hcm).1.r c.p root z V h Zz;have hK:=Wr ND c c.p z root;have hch:=Gv c;have RZ:=y8 hc;generalize doK ND c c.p z root=Q at hR hgr hK;generalize doE ND c c.p z root=r at hDo hK;rw [show C5 c=Jf c.k c.p (oV c.x) (oV c.y) from rfl] at hDo hch RZ;generalize oV c.x=X at *;generalize oV c.y=Y at *;obtain ⟨ak,an,GF,al⟩:=X;obtain ⟨bk,bn,bs,bl⟩:=Y;obtain ⟨zk,zn,zs,zl⟩:=z;obtain ⟨⟨vk,vn,vs,vl⟩,b⟩:=r;have hbl:(0:Int)<=e/\(rY L)[((e:Nat):Int).toNat]? = some (Jf c.k c.p (.mk ak an GF al) (.mk bk bn bs bl)):=⟨by omega,RZ⟩;refine dS ?_;refine ⟨_,hbl,?_⟩;refine ⟨_,hbl,?_⟩;refine cD en16 hch ?_;refine cD aau hDo ?_
    cases b with
    | false=>
     have hK:none=Q:=hK;subst hK;have hR:none=R:=hR;exact ⟨C7 (eJ ⟨ae,order,types,.mk rh rp⟩) [.v (.int .i64 0),.v (.int .i64 0)] (.mk xk xn xs Bo) o L (wL ae (bL ⟨ae,order,types,.mk rh rp⟩) ND (root:Nat)) (.mk yk yn ys Y8) ok (.mk vk vn vs vl) false (e + 1),(QT 7 (nG (nxt aq (by omega))) (wB1 (nxt aq (by omega)))),L.length - (e + 1),by omega,e + 1,_,_,rfl,by omega,fun h=>(by cases h),fun _=>hR.symm,rfl⟩
    | true=>
     have hK:some (Val.mk vk vn vs vl)=Q:=hK;subst hK;obtain ⟨g1,g2⟩:=hgr _ rfl;have hS1:=hA1 (.mk vk vn vs vl) (by omega) g1;have hR:(if B (.mk vk vn vs vl)=true then runK ND B root (L.drop (e + 1)) (.mk vk vn vs vl) else none)=R:=hR;generalize Y3:B (.mk vk vn vs vl)=b1 at hS1 hR;refine cP aat hS1 ?_;exact ⟨C7 (eJ ⟨ae,order,types,.mk rh rp⟩) [.v (.int .i64 0),.v (.int .i64 0)] (.mk xk xn xs Bo) o L (wL ae (bL ⟨ae,order,types,.mk rh rp⟩) ND (root:Nat)) (.mk yk yn ys Y8) ok (.mk vk vn vs vl) b1 (e + 1),(QT 7 (nG (nxt aq (by omega))) (wB1 (nxt aq (by omega)))),L.length - (e + 1),by omega,e + 1,_,_,rfl,by omega,fun h=>⟨(by rw [ai h] at hR;exact hR),(by rw [Y3];exact h),g1,by omega⟩,fun h=>(by rw [ah (by simp [h])] at hR;exact hR.symm),rfl⟩
   ·cases b with
    | false=>
     have hRn:=eO rfl;rcases hyR with ⟨_,Ik,rfl⟩ | ⟨h,_⟩
     ·have Ik:Val.mk yk yn ys Y8 = .mk 0 0 au []:=Ik;cases Ik;have Lg:=lu zeroV (by decide) zeroV;rw [yt] at Lg;refine cP SB Lg ?_;refine cP SA jY ?_;exact (rfl:_=_)
     ·rw [hRn] at h;cases h
    | true=>
     obtain ⟨hR,hBz,Zz,hwz⟩:=fA rfl;have aS:e=L.length:=by grind [pickB_and]
     subst aS;rw [List.drop_length] at hR;have hR:some z=R:=hR;rcases hyR with ⟨h,_⟩ | ⟨h,rfl⟩
     ·rw [h] at hR;cases hR
     ·rw [h] at hR;cases hR;have Lg:=lu (.mk yk yn ys Y8) (by omega) (.mk yk yn ys Y8);rw [yt] at Lg;refine cP SB Lg ?_;refine cP SA jY ?_;exact (rfl:_=_)
end Go.Proofs.YtgjagnmeonoehaaGreat
